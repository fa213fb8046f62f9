/- The walks of slices.Repeat and of math/bits.Mul, of what is small. The walks of the package dist: To and From. Plain mathematics: rows by steps. No condition but those that each lemma names. The walks of dist.Rows, and of acequialaw05's rows. The chapter's example of steps, by computing: a checker of greatest numbers. The walk of acequialaw05.awake. Plain mathematics: more, and fewer, open arcs. No condition but those that each lemma names. What the laws of steps lean on: calls that answer new lists, among operations whose order is drawn. No condition but those that each lemma names. Plain mathematics: ways, turned round and put together. No condition but those that each lemma names. Plain mathematics: what rows by steps hold. No condition but those that each lemma names. Plain mathematics: steps to, or from, a vertex, and who has a next one that is nearer. No condition but those that each lemma names. Plain mathematics: a shortest row. No condition but those that each lemma names. Plain mathematics: heights and steps. No condition but those that each lemma names. Plain mathematics: shorter and shorter, as long as something changes. No condition but those that each lemma names. No condition but those that each lemma names. -/
import Derived.Test.YtnpgeohkmdcbkaaB2
import Derived.Test.YtnpgeohkmdcbkaaB4
import Derived.Test.YtnpgeohkmdcbkaaB0
import Derived.KernelRfl
import Derived.Test.YtnpgeohkmdcbkaaB3
namespace Go.Proofs.Ytnpgeohkmdcbkaa.Aq
open Go Go.RowKit

set_option maxRecDepth 10000 in
/-- math/bits.Mul64 of 1 and a small number. -/
theorem f113 (m : Nat) (hm : m ≤ 4294967295) (w : World) : RetV 113 [.int .u64 1, .int .u64 m] w (.tuple #[.int .u64 0, .int .u64 m]) := by
  refine calls_cw Try.func113 rfl Try.ntmps113 rfl ?_
  refine cw_seq ?_
  -- region 0
  refine cw_region ?_
  refine lw_v rfl rfl (ok_assign rfl (.n rfl) rfl) ?_
  refine lw_v rfl rfl (ok_assign rfl (.n rfl) rfl) ?_
  refine lw_nil ?_
  refine Ends.keep [(0, .eq _), (1, .eq _)] (.cons rfl (.cons rfl .nil)) ?_
  refine ends_then ?_
  refine cw_seq ?_
  -- region 1
  refine cw_region ?_
  refine lw_v rfl rfl (ok_move rfl (.n rfl) rfl) ?_
  refine lw_v rfl rfl (ok_lowu rfl (.n rfl) rfl rfl (by omega)) ?_
  refine lw_v rfl rfl (ok_assign rfl (.n rfl) rfl) ?_
  refine lw_nil ?_
  refine Ends.keep [(0, .eq _), (1, .eq _), (6, .eq _)] (.cons rfl (.cons rfl (.cons rfl .nil))) ?_
  refine ends_then ?_
  refine cw_seq ?_
  -- region 2
  refine cw_region ?_
  refine lw_v rfl rfl (ok_move rfl (.n rfl) rfl) ?_
  refine lw_v rfl rfl (ok_highu rfl (.n rfl) rfl rfl (by omega)) ?_
  refine lw_v rfl rfl (ok_assign rfl (.n rfl) rfl) ?_
  refine lw_nil ?_
  refine Ends.keep [(0, .eq _), (1, .eq _), (6, .eq _), (7, .eq _)] (.cons rfl (.cons rfl (.cons rfl (.cons rfl .nil)))) ?_
  refine ends_then ?_
  refine cw_seq ?_
  -- region 3
  refine cw_region ?_
  refine lw_v rfl rfl (ok_move rfl (.n rfl) rfl) ?_
  refine lw_v rfl rfl (ok_lowu rfl (.n rfl) rfl rfl (by omega)) ?_
  refine lw_v rfl rfl (ok_assign rfl (.n rfl) rfl) ?_
  refine lw_nil ?_
  refine Ends.keep [(0, .eq _), (1, .eq _), (6, .eq _), (7, .eq _), (8, .eq _)] (.cons rfl (.cons rfl (.cons rfl (.cons rfl (.cons rfl .nil))))) ?_
  refine ends_then ?_
  refine cw_seq ?_
  -- region 4
  refine cw_region ?_
  refine lw_v rfl rfl (ok_move rfl (.n rfl) rfl) ?_
  refine lw_v rfl rfl (ok_highu rfl (.n rfl) rfl rfl (by omega)) ?_
  refine lw_v rfl rfl (ok_assign rfl (.n rfl) rfl) ?_
  refine lw_nil ?_
  refine Ends.keep [(0, .eq _), (1, .eq _), (6, .eq _), (7, .eq _), (8, .eq _), (9, .eq _)] (.cons rfl (.cons rfl (.cons rfl (.cons rfl (.cons rfl (.cons rfl .nil)))))) ?_
  refine ends_then ?_
  refine cw_seq ?_
  -- region 5
  refine cw_region ?_
  refine lw_v rfl rfl (ok_move rfl (.n rfl) rfl) ?_
  refine lw_v rfl rfl (ok_move rfl (.n rfl) rfl) ?_
  refine lw_v rfl rfl (ok_eq (ok_mul rfl (.n rfl) rfl rfl) (c' := .int .u64 m) (fun _ => congrArg (Value.int .u64) (by rw [wrap_u (by omega)]; omega))) ?_
  refine lw_v rfl rfl (ok_assign rfl (.n rfl) rfl) ?_
  refine lw_nil ?_
  refine Ends.keep [(0, .eq _), (1, .eq _), (6, .eq _), (7, .eq _), (8, .eq _), (9, .eq _), (10, .eq _)] (.cons rfl (.cons rfl (.cons rfl (.cons rfl (.cons rfl (.cons rfl (.cons rfl .nil))))))) ?_
  refine ends_then ?_
  refine cw_seq ?_
  -- region 6
  refine cw_region ?_
  refine lw_v rfl rfl (ok_move rfl (.n rfl) rfl) ?_
  refine lw_v rfl rfl (ok_move rfl (.n rfl) rfl) ?_
  refine lw_v rfl rfl (ok_eq (ok_mul rfl (.n rfl) rfl rfl) (c' := .int .u64 0) (fun _ => congrArg (Value.int .u64) (by rw [wrap_u (by omega)]; omega))) ?_
  refine lw_v rfl rfl (ok_move rfl (.n rfl) rfl) ?_
  refine lw_v rfl rfl (ok_highu rfl (.n rfl) rfl rfl (by omega)) ?_
  refine lw_v rfl rfl (ok_eq (ok_add rfl (.n rfl) rfl rfl) (c' := .int .u64 0) (fun _ => congrArg (Value.int .u64) (by rw [wrap_u (by omega)]; omega))) ?_
  refine lw_v rfl rfl (ok_assign rfl (.n rfl) rfl) ?_
  refine lw_nil ?_
  refine Ends.keep [(0, .eq _), (1, .eq _), (6, .eq _), (7, .eq _), (9, .eq _), (11, .eq _)] (.cons rfl (.cons rfl (.cons rfl (.cons rfl (.cons rfl (.cons rfl .nil)))))) ?_
  refine ends_then ?_
  refine cw_seq ?_
  -- region 7
  refine cw_region ?_
  refine lw_v rfl rfl (ok_move rfl (.n rfl) rfl) ?_
  refine lw_v rfl rfl (ok_lowu rfl (.n rfl) rfl rfl (by omega)) ?_
  refine lw_v rfl rfl (ok_assign rfl (.n rfl) rfl) ?_
  refine lw_nil ?_
  refine Ends.keep [(0, .eq _), (1, .eq _), (6, .eq _), (7, .eq _), (9, .eq _), (11, .eq _), (12, .eq _)] (.cons rfl (.cons rfl (.cons rfl (.cons rfl (.cons rfl (.cons rfl (.cons rfl .nil))))))) ?_
  refine ends_then ?_
  refine cw_seq ?_
  -- region 8
  refine cw_region ?_
  refine lw_v rfl rfl (ok_move rfl (.n rfl) rfl) ?_
  refine lw_v rfl rfl (ok_highu rfl (.n rfl) rfl rfl (by omega)) ?_
  refine lw_v rfl rfl (ok_assign rfl (.n rfl) rfl) ?_
  refine lw_nil ?_
  refine Ends.keep [(0, .eq _), (1, .eq _), (6, .eq _), (7, .eq _), (9, .eq _), (12, .eq _), (13, .eq _)] (.cons rfl (.cons rfl (.cons rfl (.cons rfl (.cons rfl (.cons rfl (.cons rfl .nil))))))) ?_
  refine ends_then ?_
  refine cw_seq ?_
  -- region 9
  refine cw_region ?_
  refine lw_v rfl rfl (ok_move rfl (.n rfl) rfl) ?_
  refine lw_v rfl rfl (ok_move rfl (.n rfl) rfl) ?_
  refine lw_v rfl rfl (ok_move rfl (.n rfl) rfl) ?_
  refine lw_v rfl rfl (ok_eq (ok_mul rfl (.n rfl) rfl rfl) (c' := .int .u64 0) (fun _ => congrArg (Value.int .u64) (by rw [wrap_u (by omega)]; omega))) ?_
  refine lw_v rfl rfl (ok_eq (ok_add rfl (.n rfl) rfl rfl) (c' := .int .u64 0) (fun _ => congrArg (Value.int .u64) (by rw [wrap_u (by omega)]; omega))) ?_
  refine lw_v rfl rfl (ok_assign rfl (.n rfl) rfl) ?_
  refine lw_nil ?_
  refine Ends.keep [(0, .eq _), (1, .eq _), (7, .eq _), (9, .eq _), (12, .eq _), (13, .eq _)] (.cons rfl (.cons rfl (.cons rfl (.cons rfl (.cons rfl (.cons rfl .nil)))))) ?_
  refine ends_then ?_
  refine cw_seq ?_
  -- region 10
  refine cw_region ?_
  refine lw_v rfl rfl (ok_move rfl (.n rfl) rfl) ?_
  refine lw_v rfl rfl (ok_move rfl (.n rfl) rfl) ?_
  refine lw_v rfl rfl (ok_eq (ok_mul rfl (.n rfl) rfl rfl) (c' := .int .u64 0) (fun _ => congrArg (Value.int .u64) (by rw [wrap_u (by omega)]; omega))) ?_
  refine lw_v rfl rfl (ok_move rfl (.n rfl) rfl) ?_
  refine lw_v rfl rfl (ok_eq (ok_add rfl (.n rfl) rfl rfl) (c' := .int .u64 0) (fun _ => congrArg (Value.int .u64) (by rw [wrap_u (by omega)]; omega))) ?_
  refine lw_v rfl rfl (ok_move rfl (.n rfl) rfl) ?_
  refine lw_v rfl rfl (ok_highu rfl (.n rfl) rfl rfl (by omega)) ?_
  refine lw_v rfl rfl (ok_eq (ok_add rfl (.n rfl) rfl rfl) (c' := .int .u64 0) (fun _ => congrArg (Value.int .u64) (by rw [wrap_u (by omega)]; omega))) ?_
  refine lw_v rfl rfl (ok_assign rfl (.n rfl) rfl) ?_
  refine lw_nil ?_
  refine Ends.keep [(0, .eq _), (1, .eq _), (4, .eq _)] (.cons rfl (.cons rfl (.cons rfl .nil))) ?_
  refine ends_then ?_
  refine cw_seq ?_
  -- region 11
  refine cw_region ?_
  refine lw_v rfl rfl (ok_move rfl (.n rfl) rfl) ?_
  refine lw_v rfl rfl (ok_move rfl (.n rfl) rfl) ?_
  refine lw_v rfl rfl (ok_eq (ok_mul rfl (.n rfl) rfl rfl) (c' := .int .u64 m) (fun _ => congrArg (Value.int .u64) (by rw [wrap_u (by omega)]; omega))) ?_
  refine lw_v rfl rfl (ok_assign rfl (.n rfl) rfl) ?_
  refine lw_nil ?_
  refine Ends.keep [(4, .eq _), (5, .eq _)] (.cons rfl (.cons rfl .nil)) ?_
  refine ends_then ?_
  refine cw_ret ?_
  exact end_ret (res2 Try.results113 rfl rfl) ⟨rfl, Gr.refl _⟩

set_option maxRecDepth 10000 in
/-- math/bits.Mul of 1 and a small number. -/
theorem f100 (m : Nat) (hm : m ≤ 4294967295) (w : World) : RetV 100 [.int .u64 1, .int .u64 m] w (.tuple #[.int .u64 0, .int .u64 m]) := by
  refine calls_cw Try.func100 rfl Try.ntmps100 rfl ?_
  have hS := St.start w
  refine cw_seq ?_
  -- region 0
  refine cw_region ?_
  refine lw_v rfl rfl (ok_assign rfl (.n rfl) rfl) ?_
  refine lw_v rfl rfl (ok_assign rfl (.n rfl) rfl) ?_
  refine lw_nil ?_
  refine Ends.keep [(0, .eq _), (1, .eq _)] (.cons rfl (.cons rfl .nil)) ?_
  refine ends_then ?_
  refine cw_seq ?_
  refine cw_cond rfl (fun hcb_ => ?_) (fun hcb_ => ?_)
  ·
    cases hcb_
  ·
    refine cw_skip ?_
    refine ends_then ?_
    refine cw_seq ?_
    -- region 3
    refine cw_region ?_
    refine lw_v rfl rfl (ok_move rfl (.n rfl) rfl) ?_
    refine lw_v rfl rfl (ok_move rfl (.n rfl) rfl) ?_
    refine lw_call (f := 113) (xs := [_, _]) rfl rfl rfl Try.call113 rfl (Calls.mono (f113 m hm _) ?_)
    rintro e w' ⟨rfl, hg⟩
    replace hS := hS.grow hg; clear hg
    refine ⟨_, rfl, ?_⟩
    refine lw_v rfl rfl (ok_move rfl (.n rfl) rfl) ?_
    refine lw_v rfl rfl (ok_extract rfl (.n rfl) rfl rfl) ?_
    refine lw_v rfl rfl (ok_extract rfl (.n rfl) rfl rfl) ?_
    refine lw_v rfl rfl (ok_assign rfl (.n rfl) rfl) ?_
    refine lw_v rfl rfl (ok_assign rfl (.n rfl) rfl) ?_
    refine lw_nil ?_
    refine Ends.keep [(8, .eq _), (9, .eq _)] (.cons rfl (.cons rfl .nil)) ?_
    refine ends_then ?_
    refine cw_seq ?_
    -- region 4
    refine cw_region ?_
    refine lw_v rfl rfl (ok_move rfl (.n rfl) rfl) ?_
    refine lw_v rfl rfl (ok_move rfl (.n rfl) rfl) ?_
    refine lw_v rfl rfl (ok_assign rfl (.n rfl) rfl) ?_
    refine lw_v rfl rfl (ok_assign rfl (.n rfl) rfl) ?_
    refine lw_nil ?_
    refine Ends.keep [(4, .eq _), (5, .eq _)] (.cons rfl (.cons rfl .nil)) ?_
    refine ends_then ?_
    refine cw_ret ?_
    exact end_ret (res2 Try.results100 rfl rfl) ⟨rfl, hS.below⟩

theorem size3 : (Try.prog.info? 3).map (·.size) = some 1 := by kernel_rfl
/-- The first k of m are v, the others 0. -/
def repTo (v : Int) (m k : Nat) : List Int := List.replicate k v ++ List.replicate (m - k) 0
theorem repTo_end (v : Int) (m : Nat) : repTo v m m = List.replicate m v := by simp [repTo]
theorem repTo_step (v : Int) {m k : Nat} (h : k ≤ m) : (repTo v m k).take k ++ (repTo v m k).take (min k (m - k)) ++ (repTo v m k).drop (k + min k (m - k)) = repTo v m (k + min k (m - k)) := by
  have h1 : min k (m - k) ≤ k := Nat.min_le_left _ _
  unfold repTo
  rw [List.take_left' (List.length_replicate), List.take_append_of_le_length (by simpa using h1), List.take_replicate, List.drop_append, List.drop_of_length_le (by simp), List.nil_append, List.length_replicate, List.drop_replicate, List.replicate_append_replicate]
  congr 2
  · omega
  · omega
set_option maxRecDepth 10000 in
/-- slices.Repeat of a slice of one number. -/
theorem f83 (v : Int) (A : Option Addr) (c m : Nat) (h1 : 1 ≤ m) (hm : m ≤ 4096) (w : World) (hx : (sl (eInt .i64) 1 A 1 c [v]).p w) : RetL 83 [.slice A 1 c, .int .i64 m] w (List.replicate m v) := by
  refine calls_cw Try.func83 rfl Try.ntmps83 rfl ?_
  have hS := (St.start w).args (Nat.le_refl _) _ hx rfl
  refine cw_seq ?_
  -- region 0
  refine cw_region ?_
  refine lw_v rfl rfl (ok_assign rfl (.n rfl) rfl) ?_
  refine lw_nil ?_
  refine Ends.keep [(0, .eq _), (1, .eq _)] (.cons rfl (.cons rfl .nil)) ?_
  refine ends_then ?_
  refine cw_seq ?_
  refine cw_seq ?_
  -- region 1
  refine cw_region ?_
  refine lw_v rfl rfl (ok_move rfl (.n rfl) rfl) ?_
  refine lw_v rfl rfl (ok_lss rfl (.n rfl) rfl rfl) ?_
  refine lw_nil ?_
  refine Ends.keep [(0, .eq _), (1, .eq _), (10, .eq _)] (.cons rfl (.cons rfl (.cons rfl .nil))) ?_
  refine ends_then ?_
  refine cw_cond rfl (fun h10 => ?_) (fun h10 => ?_)
  ·
    exact absurd (of_decide_eq_true h10) (by omega)
  ·
    refine cw_skip ?_
    refine ends_then ?_
    refine cw_seq ?_
    -- region 3
    refine cw_region ?_
    refine lw_v rfl rfl (ok_move rfl (.n rfl) rfl) ?_
    refine lw_v rfl rfl (ok_len rfl (.n rfl) Try.underlying26 rfl) ?_
    refine lw_v rfl rfl (ok_eq (ok_conv rfl (.n rfl) Try.underlying3 Try.underlying118 rfl) (c' := .int .u64 1) (fun _ => congrArg (Value.int .u64) (by first | exact wrap_u (by omega) | exact wrap_in (by omega)))) ?_
    refine lw_v rfl rfl (ok_move rfl (.n rfl) rfl) ?_
    refine lw_v rfl rfl (ok_eq (ok_conv rfl (.n rfl) Try.underlying3 Try.underlying118 rfl) (c' := .int .u64 m) (fun _ => congrArg (Value.int .u64) (by first | exact wrap_u (by omega) | exact wrap_in (by omega)))) ?_
    refine lw_call (f := 100) (xs := [_, _]) rfl rfl rfl Try.call100 rfl (Calls.mono (f100 m (by omega) _) ?_)
    rintro e w' ⟨rfl, hg⟩
    replace hS := hS.grow hg; clear hg
    refine ⟨_, rfl, ?_⟩
    refine lw_v rfl rfl (ok_move rfl (.n rfl) rfl) ?_
    refine lw_v rfl rfl (ok_extract rfl (.n rfl) rfl rfl) ?_
    refine lw_v rfl rfl (ok_extract rfl (.n rfl) rfl rfl) ?_
    refine lw_v rfl rfl (ok_assign rfl (.n rfl) rfl) ?_
    refine lw_v rfl rfl (ok_assign rfl (.n rfl) rfl) ?_
    refine lw_nil ?_
    refine Ends.keep [(0, .eq _), (5, .eq _), (6, .eq _)] (.cons rfl (.cons rfl (.cons rfl .nil))) ?_
    refine ends_then ?_
    refine cw_seq ?_
    refine cw_seq ?_
    -- region 4
    refine cw_region ?_
    refine lw_v rfl rfl (ok_move rfl (.n rfl) rfl) ?_
    refine lw_v rfl rfl (ok_gtr rfl (.n rfl) rfl rfl) ?_
    refine lw_v rfl rfl (ok_move rfl (.n rfl) rfl) ?_
    refine lw_v rfl rfl (ok_move rfl (.s rfl rfl) rfl) ?_
    refine lw_v rfl rfl (ok_gtr rfl (.s rfl rfl) rfl rfl) ?_
    refine lw_v rfl rfl (ok_or rfl rfl rfl rfl) ?_
    refine lw_nil ?_
    refine Ends.keep [(0, .eq _), (6, .eq _), (26, .eq _)] (.cons rfl (.cons rfl (.cons rfl .nil))) ?_
    refine ends_then ?_
    refine cw_cond rfl (fun h26 => ?_) (fun h26 => ?_)
    ·
      rw [Bool.or_eq_true, decide_eq_true_eq, decide_eq_true_eq] at h26
      omega
    ·
      refine cw_skip ?_
      refine ends_then ?_
      refine cw_seq ?_
      -- region 6
      refine cw_region ?_
      refine lw_v rfl rfl (ok_move rfl (.n rfl) rfl) ?_
      refine lw_v rfl rfl (ok_eq (ok_conv rfl (.n rfl) Try.underlying118 Try.underlying3 rfl) (c' := .int .i64 m) (fun _ => congrArg (Value.int .i64) (by first | exact wrap_u (by omega) | exact wrap_in (by omega)))) ?_
      refine lw_make (enc := (eInt .i64)) rfl rfl rfl Try.underlying26 info3 rfl rfl rfl rfl (by omega) (by omega) hS ?_
      clear hS; intro A30 c30 w1 _ hS
      refine lw_v rfl rfl (ok_assign rfl (.n rfl) rfl) ?_
      refine lw_nil ?_
      refine Ends.keep [(0, .eq _), (7, .eq _)] (.cons rfl (.cons rfl .nil)) ?_
      refine ends_then ?_
      refine cw_seq ?_
      -- region 7
      refine cw_region ?_
      refine lw_v rfl rfl (ok_move rfl (.n rfl) rfl) ?_
      refine lw_v rfl rfl (ok_move rfl (.n rfl) rfl) ?_
      refine lw_copy (enc := eInt .i64) 0 rfl rfl rfl Try.underlying26 size3 rfl (add0 _) rfl hS (by omega) (by omega) (by omega) ?_
      intro wq hS1
      replace hS := hS1 _ Rep.r; clear hS1
      have emin : min 1 m = 1 := by omega
      rw [emin] at hS ⊢
      rw [show (List.replicate m (0 : Int)).take 0 ++ ([v] : List Int).take 1 ++ (List.replicate m (0 : Int)).drop (0 + 1) = repTo v m 1 from by simp [repTo, List.drop_replicate]] at hS
      have hcap := hS.cap (HasSl.mem (L := _) (A := A30) (enc := eInt .i64) (sz := 1) (m := m) (c := c30) (xs := repTo v m 1))
      refine lw_v rfl rfl (ok_assign rfl (.n rfl) rfl) ?_
      refine lw_nil ?_
      refine Ends.keep [(7, .eq _), (8, .eq _)] (.cons rfl (.cons rfl .nil)) ?_
      refine ends_then ?_
      refine cw_seq ?_
      refine cw_block ?_
      -- LOOP at region 8: changed live slots [8], kept [7]
      refine cw_loop [(7, .eq _)] (fun k : Nat => [(8, .eq (.int .i64 k))]) (fun k w' => (1 ≤ k ∧ k ≤ m) ∧ St w.heap.size w w' [own (eInt .i64) 1 3 A30 m c30 (repTo v m k), sl (eInt .i64) 1 A 1 c [v]]) (fun k => m - k) 1 (.cons rfl .nil) (.cons rfl (.cons rfl .nil)) ⟨⟨by omega, by omega⟩, hS⟩ ?_
      clear hS
      rintro k wr ⟨⟨hk1, hk⟩, hS⟩
      refine cw_seq ?_
      refine cw_seq ?_
      -- region 8
      refine cw_region ?_
      refine lw_v rfl rfl (ok_move rfl (.n rfl) rfl) ?_
      refine lw_v rfl rfl (ok_move rfl (.n rfl) rfl) ?_
      refine lw_v rfl rfl (ok_len rfl (.n rfl) Try.underlying26 rfl) ?_
      refine lw_v rfl rfl (ok_lss rfl (.n rfl) rfl rfl) ?_
      refine lw_nil ?_
      refine Ends.keep [(7, .eq _), (8, .eq _), (37, .eq _)] (.cons rfl (.cons rfl (.cons rfl .nil))) ?_
      refine ends_then ?_
      refine cw_cond rfl (fun h37 => ?_) (fun h37 => ?_)
      ·
        have hkm : k < m := by have := of_decide_eq_true h37; omega
        refine cw_skip ?_
        refine ends_then ?_
        refine cw_block ?_
        -- region 9
        refine cw_draw2 (by kernel_rfl) (List.take 8 _) (List.drop 8 _) [false, false, false, false, false, false, false, true] (List.take_append_drop 8 _).symm (by kernel_rfl) (fun _ => True) (fun vs w' => match vs with
              | [] => St w.heap.size w w' [own (eInt .i64) 1 3 A30 m c30 (repTo v m k), sl (eInt .i64) 1 A 1 c [v]]
              | [v1] => v1 = .int .i64 ((min k (m - k) : Nat) : Int) ∧ St w.heap.size w w' [own (eInt .i64) 1 3 A30 m c30 (repTo v m (k + min k (m - k))), sl (eInt .i64) 1 A 1 c [v]]
              | _ => False) (fun _ _ _ => trivial) hS.drew ?_
        refine free2_v (ok_each (w0 := w) trivial (fun w_ _ => ok_move rfl (.n rfl) rfl)) rfl ?_
        refine free2_v (ok_each (w0 := w) trivial (fun w_ _ => ok_move rfl (.n rfl) rfl)) rfl ?_
        refine free2_v (ok_each (w0 := w) trivial (fun w_ _ => ok_move rfl (.n rfl) rfl)) rfl ?_
        refine free2_v (ok_each (w0 := w) trivial (fun w_ _ => ok_slfrom' k rfl (.n rfl) Try.underlying26 Try.sizeOf3 rfl rfl hcap ⟨rfl, hkm⟩)) rfl ?_
        refine free2_v (ok_each (w0 := w) trivial (fun w_ _ => ok_move rfl (.n rfl) rfl)) rfl ?_
        refine free2_v (ok_each (w0 := w) trivial (fun w_ _ => ok_move rfl (.n rfl) rfl)) rfl ?_
        refine free2_v (ok_each (w0 := w) trivial (fun w_ _ => ok_slto' k rfl (.n rfl) Try.underlying26 Try.sizeOf3 rfl rfl hcap ⟨rfl, by omega⟩)) rfl ?_
        refine free2_w ?_ ?_
        ·
          intro vs wq hv hP
          obtain rfl : vs = [] := List.eq_nil_of_length_eq_zero hv
          have hS : St w.heap.size w wq [own (eInt .i64) 1 3 A30 m c30 (repTo v m k), sl (eInt .i64) 1 A 1 c [v]] := hP
          refine lw_copy (enc := eInt .i64) (m := m) (m2 := m) k rfl rfl rfl Try.underlying26 size3 rfl (by rw [Nat.mul_one]) rfl hS (by omega) (by omega) (by omega) ?_
          intro w' hS1
          replace hS := hS1 _ Rep.r
          rw [repTo_step v (by omega)] at hS
          refine lw_nil fun a ha _ hs => ⟨rfl, ha, ?_⟩
          have e1 : tm a 45 = _ := hs 45 _ rfl
          exact ⟨e1, hS⟩
        refine free2_nil ?_
        clear hS
        intro vs wq hv hP
        obtain ⟨v1, rfl⟩ := List.length_eq_one_iff.1 hv
        obtain ⟨rfl, hS⟩ := hP
        refine lw_v rfl rfl (ok_addi rfl (.n rfl) rfl rfl (fun _ => ⟨by omega, by omega⟩)) ?_
        refine lw_v rfl rfl (ok_assign rfl (.n rfl) rfl) ?_
        refine lw_nil ?_
        refine in_normal (?_)
        -- BACK
        refine ends_back (k + min k (m - k)) (.cons rfl (.cons rfl .nil)) ⟨⟨by omega, by omega⟩, hS⟩ (by omega)
      ·
        have hkm : k = m := by have := of_decide_eq_false h37; omega
        subst hkm
        refine cw_exit ?_
        refine then_exit (then_exit (in_exit (?_)))
        refine Ends.keep [(7, .eq _)] (.cons rfl .nil) ?_
        refine ends_then ?_
        refine cw_seq ?_
        -- region 10
        refine cw_region ?_
        refine lw_v rfl rfl (ok_move rfl (.n rfl) rfl) ?_
        refine lw_v rfl rfl (ok_assign rfl (.n rfl) rfl) ?_
        refine lw_nil ?_
        refine Ends.keep [(4, .eq _)] (.cons rfl .nil) ?_
        refine ends_then ?_
        refine cw_ret ?_
        refine end_ret (res1 Try.results83 rfl) ⟨A30, c30, ?_, hS.below, ?_, ?_⟩
        · rw [List.length_replicate]
        · rw [List.length_replicate]; exact fun b hb => hS.ge _ (.head _) rfl b hb
        · have := hS.ok _ (.head _)
          rw [repTo_end] at this
          rw [List.length_replicate]; exact this

end Go.Proofs.Ytnpgeohkmdcbkaa.Aq

namespace Go.Proofs.Ytnpgeohkmdcbkaa.Aq
open Go Go.RowKit

theorem pl91 : ∀ w, (#[({ name := "c", type := 29, offset := 0, embedded := false, tag := "", pkgPath := "acequia/dist", byteOffset := 0 } : Field), { name := "goes", type := 83, offset := 9, embedded := false, tag := "", pkgPath := "acequia/dist", byteOffset := 168 }].mapM fun (f : Field) => do pure (f.offset, ← sizeOf f.type)).run Try.prog w = .ok #[(0, 9), (9, 1)] w := by
  intro w
  simp [Try.sizeOf29, Try.sizeOf83]
set_option maxRecDepth 10000 in
/-- dist.right. -/
theorem f79 (c : Cs) (q : Q6) (res : List Int) (v : Int) {m : Nat} (A1 : Option Addr) (c1 : Nat) (w : World) (hwf : WF c) (hc : CsAt c q w) (hr : (sl (eInt .i64) 1 A1 m c1 res).p w) : RetV 79 [csV c q, .slice A1 m c1, .int .i64 v] w (.bool (inB c res v)) := by
  refine calls_cw Try.func79 rfl Try.ntmps79 rfl ?_
  have hS := (St.ofc hc).args (Nat.le_refl _) _ hr rfl
  have hM := hwf.m
  have hN := hwf.hi
  have hlo := hwf.lo
  have hfl := hwf.fl
  have hrr := hr.2.1
  have hrl := hr.1.1
  have hrvl := hwf.rl
  refine cw_seq ?_
  -- region 0
  refine cw_region ?_
  refine lw_box rfl rfl rfl rfl hS ?_
  clear hS; intro b3 w1 _ _ hS
  refine lw_v rfl rfl (ok_assign rfl (.n rfl) rfl) ?_
  refine lw_nil ?_
  refine Ends.keep [(1, .eq _), (2, .eq _), (3, .eq _)] (.cons rfl (.cons rfl (.cons rfl .nil))) ?_
  refine ends_then ?_
  refine cw_seq ?_
  -- region 1
  refine cw_region ?_
  refine lw_v rfl rfl (ok_move rfl (.n rfl) rfl) ?_
  refine lw_v rfl rfl (ok_len rfl (.n rfl) Try.underlying25 rfl) ?_
  refine lw_v rfl rfl (ok_ldS rfl (.n rfl) rfl Try.isAgg29 Try.sizeOf29 hS rfl) ?_
  refine lw_call (f := 77) (xs := [_]) rfl rfl rfl Try.call77 rfl (Calls.mono (f77 c q _) ?_)
  rintro e w' ⟨rfl, hg⟩
  replace hS := hS.grow hg; clear hg
  refine ⟨_, rfl, ?_⟩
  refine lw_v rfl rfl (ok_eql rfl (.n rfl) rfl rfl) ?_
  refine lw_v rfl rfl (ok_move rfl (.n rfl) rfl) ?_
  refine lw_v rfl rfl (ok_move rfl (.s rfl rfl) rfl) ?_
  refine lw_v rfl rfl (ok_geq rfl (.s rfl rfl) rfl rfl) ?_
  refine lw_v rfl rfl (ok_and rfl rfl rfl rfl) ?_
  refine lw_v rfl rfl (ok_move rfl (.n rfl) rfl) ?_
  refine lw_v rfl rfl (ok_move rfl (.s rfl rfl) rfl) ?_
  refine lw_v rfl rfl (ok_fb rfl (.s rfl rfl) Try.underlying29 rfl Try.sizeOf3 (by decide) rfl) ?_
  refine lw_v rfl rfl (ok_ldb rfl (.s rfl rfl) rfl Try.isAgg3 hS (by rfl)) ?_
  refine lw_v rfl rfl (ok_lss rfl (.s rfl rfl) rfl rfl) ?_
  refine lw_v rfl rfl (ok_and rfl rfl rfl rfl) ?_
  refine lw_v rfl rfl (ok_assign rfl (.n rfl) rfl) ?_
  refine lw_nil ?_
  refine Ends.keep [(6, .eq _)] (.cons rfl .nil) ?_
  refine ends_then ?_
  refine cw_ret ?_
  exact end_ret (res1 Try.results79 rfl) ⟨by unfold inB; rw [hrl], hS.below⟩

set_option maxRecDepth 10000 in
/-- dist.To's closure. -/
theorem f80 (c : Cs) (q : Q6) (res : List Int) (a m b1 b2 : Nat) (A1 : Option Addr) (c1 : Nat) (w : World) (hwf : WF c) (hc : CsAt c q w) (hr : (sl (eInt .i64) 1 A1 m c1 res).p w) (hb1 : (rbx b1 [.slice A1 m c1] 25).p w) (hb2 : (rbx b2 (csV c q).cells.toList 29).p w) (hm : res.length = c.Head.length) (ha : a < c.Head.length) :
    RetV 80 [.int .i64 a, .pointer (some ⟨b1, 0, none⟩), .pointer (some ⟨b2, 0, none⟩)] w (.bool (decide (0 < res.getD (c.Rev.getD a 0).toNat 0))) := by
  refine calls_cw Try.func80 rfl Try.ntmps80 rfl ?_
  have hS := (((St.ofc hc).args (Nat.le_refl _) _ hr rfl).args (Nat.le_refl _) (rbx b1 [.slice A1 m c1] 25) hb1 rfl).args (Nat.le_refl _) (rbx b2 (csV c q).cells.toList 29) hb2 rfl
  have hrv : 0 ≤ c.Rev.getD (a : Int).toNat 0 ∧ c.Rev.getD (a : Int).toNat 0 < c.Head.length := hwf.rv a ha
  have hrvl := hwf.rl
  have hrl := hr.1.1
  refine cw_seq ?_
  -- region 0
  refine cw_region ?_
  refine lw_v rfl rfl (ok_assign rfl (.n rfl) rfl) ?_
  refine lw_nil ?_
  refine Ends.keep [(0, .eq _), (1, .eq _), (2, .eq _)] (.cons rfl (.cons rfl (.cons rfl .nil))) ?_
  refine ends_then ?_
  refine cw_seq ?_
  -- region 1
  refine cw_draw (by kernel_rfl) (List.take 6 _) (List.drop 6 _) (List.take_append_drop 6 _).symm (by kernel_rfl) ?_
  refine free_v (ok_ldb rfl (.n rfl) rfl Try.isAgg25 hS (by rfl)) ?_
  refine free_v (ok_fb rfl (.n rfl) Try.underlying29 rfl Try.sizeOf26 (by decide) rfl) ?_
  refine free_v (ok_ldb rfl (.n rfl) rfl Try.isAgg26 hS (by rfl)) ?_
  refine free_v (ok_move rfl (.n rfl) rfl) ?_
  refine free_v (ok_ix rfl (.n rfl) Try.underlying26 Try.sizeOf3 rfl rfl hS (fun _ => ⟨by omega, by omega⟩)) ?_
  refine free_v (ok_ldx rfl (.n rfl) rfl Try.isAgg3 hS (fun _ => ⟨by omega, by omega⟩) (by rfl)) ?_
  refine free_nil ?_
  intro w1 hg_; replace hS := hS.grow hg_; clear hg_
  refine lw_v rfl rfl (ok_ix rfl (.n rfl) Try.underlying25 Try.sizeOf2 rfl rfl hS (fun _ => ⟨by omega, by omega⟩)) ?_
  refine lw_v rfl rfl (ok_ldx rfl (.n rfl) rfl Try.isAgg2 hS (fun _ => ⟨by omega, by omega⟩) (by rfl)) ?_
  refine lw_v rfl rfl (ok_gtr rfl (.n rfl) rfl rfl) ?_
  refine lw_v rfl rfl (ok_assign rfl (.n rfl) rfl) ?_
  refine lw_nil ?_
  refine Ends.keep [(4, .eq _)] (.cons rfl .nil) ?_
  refine ends_then ?_
  refine cw_ret ?_
  exact end_ret (res1 Try.results80 rfl) ⟨rfl, hS.below⟩

set_option maxRecDepth 10000 in
/-- dist.From's closure. -/
theorem f82 (c : Cs) (res : List Int) (a m b1 : Nat) (A1 : Option Addr) (c1 : Nat) (w : World) (hr : (sl (eInt .i64) 1 A1 m c1 res).p w) (hb1 : (rbx b1 [.slice A1 m c1] 25).p w) (hm : res.length = c.Head.length) (ha : a < c.Head.length) :
    RetV 82 [.int .i64 a, .pointer (some ⟨b1, 0, none⟩)] w (.bool (decide (0 < res.getD a 0))) := by
  refine calls_cw Try.func82 rfl Try.ntmps82 rfl ?_
  have hS := ((St.start w).args (Nat.le_refl _) _ hr rfl).args (Nat.le_refl _) (rbx b1 [.slice A1 m c1] 25) hb1 rfl
  have hrl := hr.1.1
  refine cw_seq ?_
  -- region 0
  refine cw_region ?_
  refine lw_v rfl rfl (ok_assign rfl (.n rfl) rfl) ?_
  refine lw_nil ?_
  refine Ends.keep [(0, .eq _), (1, .eq _)] (.cons rfl (.cons rfl .nil)) ?_
  refine ends_then ?_
  refine cw_seq ?_
  -- region 1
  refine cw_region ?_
  refine lw_v rfl rfl (ok_ldb rfl (.n rfl) rfl Try.isAgg25 hS (by rfl)) ?_
  refine lw_v rfl rfl (ok_move rfl (.n rfl) rfl) ?_
  refine lw_v rfl rfl (ok_ix rfl (.n rfl) Try.underlying25 Try.sizeOf2 rfl rfl hS (fun _ => ⟨by omega, by omega⟩)) ?_
  refine lw_v rfl rfl (ok_ldx rfl (.n rfl) rfl Try.isAgg2 hS (fun _ => ⟨by omega, by omega⟩) (by rfl)) ?_
  refine lw_v rfl rfl (ok_gtr rfl (.n rfl) rfl rfl) ?_
  refine lw_v rfl rfl (ok_assign rfl (.n rfl) rfl) ?_
  refine lw_nil ?_
  refine Ends.keep [(3, .eq _)] (.cons rfl .nil) ?_
  refine ends_then ?_
  refine cw_ret ?_
  exact end_ret (res1 Try.results82 rfl) ⟨rfl, hS.below⟩

def searchV (c : Cs) (q : Q6) (fv : Value) : Value := .agg #[.int .i64 c.N, .int .i64 c.S, .int .i64 c.T, .slice q.a0 c.First.length q.c0, .slice q.a1 c.Head.length q.c1, .slice q.a2 c.Rev.length q.c2, .slice q.a3 c.Cap.length q.c3, .slice q.a4 c.Arc.length q.c4, .slice q.a5 c.Back.length q.c5, fv]
/-- An arc of u that is gone along leads to w. -/
def GoE (c : Cs) (goes : Nat → Bool) (u w : Nat) : Prop := ∃ a : Nat, c.First.getD u 0 ≤ a ∧ (a : Int) < c.First.getD (u + 1) 0 ∧ (c.Head.getD a 0).toNat = w ∧ goes a = true
/-- The same, of the arcs ahead of a. -/
def PA (c : Cs) (goes : Nat → Bool) (u a w : Nat) : Prop := ∃ b : Nat, c.First.getD u 0 ≤ b ∧ b < a ∧ (c.Head.getD b 0).toNat = w ∧ goes b = true
theorem row_at {N : Nat} {G : Nat → Nat → Prop} {s : Nat} {D row : List Int} {i : Nat} {P : Nat → Prop} (b : Bfs N G s D row i P) (hi : i < row.length) : ∃ u : Nat, row.getD i 0 = (u : Int) ∧ u < N := by
  have := b.mem (row.getD i 0) (getD_memI hi)
  exact ⟨(row.getD i 0).toNat, by omega, by omega⟩
theorem head_at {c : Cs} (hw : WF c) {a : Nat} (ha : a < c.Head.length) : ∃ x : Nat, c.Head.getD a 0 = (x : Int) ∧ x < c.N := by
  have := hw.hd a ha
  exact ⟨(c.Head.getD a 0).toNat, by omega, by omega⟩
theorem pa_step {c : Cs} {goes : Nat → Bool} {u a x y : Nat} (hp : PA c goes u (a + 1) y) (hx : c.Head.getD a 0 = (x : Int)) : PA c goes u a y ∨ y = x := by
  obtain ⟨b, h1, h2, h3, h4⟩ := hp
  rcases Nat.lt_or_ge b a with h | h
  · exact .inl ⟨b, h1, h, h3, h4⟩
  · have : b = a := by omega
    subst this
    right; rw [← h3, hx]; rfl
theorem pa_old {c : Cs} {goes : Nat → Bool} {N s u a x y i : Nat} {G : Nat → Nat → Prop} {D row : List Int} {P : Nat → Prop} (b : Bfs N G s D row i P) (hi : i < row.length) (hy : y < N) (hp : PA c goes u (a + 1) y) (hx : c.Head.getD a 0 = (x : Int)) (hxN : x < N)
    (h : (decide (D.getD (x : Int).toNat 0 < (N : Int)) || !goes a) = true) (hP : P = PA c goes u a := by rfl) : P y ∨ D.getD y 0 ≤ D.getD (row.getD i 0).toNat 0 + 1 := by
  obtain ⟨e, h1, h2, h3, h4⟩ := hp
  rcases Nat.lt_or_ge e a with h5 | h5
  · left; rw [hP]; exact ⟨e, h1, h5, h3, h4⟩
  · have : e = a := by omega
    subst this
    rw [h4, Bool.not_true, Bool.or_false, decide_eq_true_eq] at h
    have hyx : y = x := by rw [← h3, hx]; rfl
    subst hyx
    exact .inr (b.old hi hy h)
theorem pa_new {g : Bool} {x y : Int} (h : (decide (x < y) || !g) = false) : ¬ x < y ∧ g = true := by
  rw [Bool.or_eq_false_iff, decide_eq_false_iff_not] at h
  exact ⟨h.1, by simpa using h.2⟩
set_option maxRecDepth 10000 in
/-- dist.search.from. -/
theorem f81 (c : Cs) (q : Q6) (f : FuncId) (caps : Array Value) (goes : Nat → Bool) (v : Nat) (w : World) (hwf : WF c) (hc : CsAt c q w) (hv : v < c.N) (hcall : ∀ args w, (callFunc f args).run Try.prog w = .ok (.enter f args) w)
    (hgo : ∀ (a : Nat) w', Gr w w' → a < c.Head.length → Calls Try.prog f (([.int .i64 (a : Int)] : List Value) ++ caps.toList).toArray w' fun e w2 => e = .returned (.bool (goes a)) ∧ Gr w' w2) :
    RetL 81 [searchV c q (.func (.func f) #[] caps), .int .i64 v] w (lowL c.N (fun u w => GoE c goes w u) (hTo c.N v)) := by
  refine calls_cw Try.func81 rfl Try.ntmps81 rfl ?_
  have hS := St.ofc hc
  have hN := hwf.hi
  have hlo := hwf.lo
  have hfl := hwf.fl
  have hM := hwf.m
  obtain ⟨fv, hfv⟩ : ∃ fv : Value, fv = .func (.func f) #[] caps := ⟨_, rfl⟩
  rw [← hfv]
  refine cw_seq ?_
  -- region 0
  refine cw_region ?_
  refine lw_box rfl rfl rfl rfl hS ?_
  clear hS; intro b2 w1 _ _ hS
  refine lw_v rfl rfl (ok_assign rfl (.n rfl) rfl) ?_
  refine lw_nil ?_
  refine Ends.keep [(1, .eq _), (2, .eq _)] (.cons rfl (.cons rfl .nil)) ?_
  refine ends_then ?_
  refine cw_scope ?_
  refine cw_seq ?_
  -- region 1
  refine cw_region ?_
  refine lw_v rfl rfl (ok_fb rfl (.n rfl) Try.underlying91 rfl Try.sizeOf29 (by decide) rfl) ?_
  refine lw_v rfl rfl (ok_fb rfl (.n rfl) Try.underlying29 rfl Try.sizeOf3 (by decide) rfl) ?_
  refine lw_v rfl rfl (ok_eq (ok_ldb rfl (.n rfl) rfl Try.isAgg3 hS (by rfl)) (c' := .int .i64 (c.N : Int)) (fun _ => rfl)) ?_
  refine lw_ls (enc := (eInt .i64)) [(c.N : Int)] rfl rfl rfl Try.underlying26 Try.sizeOf3 Try.zeroValue3 rfl (by kernel_rfl) rfl (by decide) (by decide) hS ?_
  clear hS; intro A14 c14 w2 _ hS
  refine lw_v rfl rfl (ok_fb rfl (.n rfl) Try.underlying91 rfl Try.sizeOf29 (by decide) rfl) ?_
  refine lw_v rfl rfl (ok_fb rfl (.n rfl) Try.underlying29 rfl Try.sizeOf3 (by decide) rfl) ?_
  refine lw_v rfl rfl (ok_ldb rfl (.n rfl) rfl Try.isAgg3 hS (by rfl)) ?_
  refine lw_call (f := 83) (xs := [_, _]) rfl rfl rfl Try.call83 rfl (Calls.mono (f83 (c.N : Int) A14 c14 c.N (by omega) (by omega) _ (hS.rd A14 (by omega))) ?_)
  rintro e w' ⟨A5, c5, rfl, hg, hfr, ho⟩
  replace hS := hS.new hg _ ho hfr; clear hg ho hfr
  rw [List.length_replicate] at hS ⊢
  refine ⟨_, rfl, ?_⟩
  refine lw_v rfl rfl (ok_assign rfl (.n rfl) rfl) ?_
  refine lw_nil ?_
  refine Ends.keep [(1, .eq _), (2, .eq _), (5, .eq _)] (.cons rfl (.cons rfl (.cons rfl .nil))) ?_
  refine ends_then ?_
  refine cw_seq ?_
  -- region 2
  refine cw_region ?_
  refine lw_v rfl rfl (ok_move rfl (.n rfl) rfl) ?_
  refine lw_v rfl rfl (ok_move rfl (.n rfl) rfl) ?_
  refine lw_v rfl rfl (ok_ix rfl (.n rfl) Try.underlying26 Try.sizeOf3 rfl rfl hS (fun _ => ⟨by omega, by omega⟩)) ?_
  refine lw_stx (enc := (eInt .i64)) (_) rfl rfl rfl rfl rfl rfl Try.sizeOf3 hS (⟨by omega, by omega⟩) ?_
  clear hS; intro w3 hS
  refine lw_nil ?_
  refine Ends.keep [(1, .eq _), (2, .eq _), (5, .eq _)] (.cons rfl (.cons rfl (.cons rfl .nil))) ?_
  refine ends_then ?_
  refine cw_seq ?_
  -- region 3
  refine cw_region ?_
  refine lw_v rfl rfl (ok_move rfl (.n rfl) rfl) ?_
  refine lw_ls (enc := (eInt .i64)) [(v : Int)] rfl rfl rfl Try.underlying26 Try.sizeOf3 Try.zeroValue3 rfl (by kernel_rfl) rfl (by decide) (by decide) hS ?_
  clear hS; intro A23 c23 w4 _ hS
  refine lw_v rfl rfl (ok_assign rfl (.n rfl) rfl) ?_
  refine lw_nil ?_
  refine Ends.keep [(2, .eq _), (5, .eq _), (6, .eq _)] (.cons rfl (.cons rfl (.cons rfl .nil))) ?_
  refine ends_then ?_
  refine cw_seq ?_
  refine cw_label ?_
  refine ends_then ?_
  refine cw_seq ?_
  refine cw_seq ?_
  -- region 4
  refine cw_region ?_
  refine lw_v rfl rfl (ok_assign rfl (.n rfl) rfl) ?_
  refine lw_nil ?_
  refine Ends.keep [(2, .eq _), (5, .eq _), (6, .eq _), (7, .eq _)] (.cons rfl (.cons rfl (.cons rfl (.cons rfl .nil)))) ?_
  refine ends_then ?_
  refine cw_block ?_
  -- LOOP at region 6: changed live slots [6, 7], kept [2, 5]
  refine cw_loop4 [(2, .eq _), (5, .eq _)] (fun (i : Nat) (A' : Option Addr) (c' : Nat) (row : List Int) => [(6, .eq (.slice A' row.length c')), (7, .eq (.int .i64 i))]) (fun i A' c' row w' => ∃ D, Bfs c.N (GoE c goes) v D row i (fun _ => False) ∧ St w.heap.size w w' [own (eInt .i64) 1 3 A' row.length c' row, own (eInt .i64) 1 3 A5 c.N c5 D, own (eInt .i64) 1 3 A14 1 c14 [(c.N : Int)], bx b2 (searchV c q fv).cells.toList 91, sl (eInt .i64) 1 q.a0 c.First.length q.c0 c.First, sl (eInt .i64) 1 q.a1 c.Head.length q.c1 c.Head, sl (eInt .i64) 1 q.a2 c.Rev.length q.c2 c.Rev, sl (eInt .i64) 1 q.a3 c.Cap.length q.c3 c.Cap, sl (eInt .i64) 1 q.a4 c.Arc.length q.c4 c.Arc, sl eBool 1 q.a5 c.Back.length q.c5 c.Back]) (fun i _ _ _ => c.N - i) 0 A23 c23 [(v : Int)] (.cons rfl (.cons rfl .nil)) (.cons rfl (.cons rfl (.cons rfl (.cons rfl .nil)))) ⟨_, Bfs.start (by omega) hv (by simp) (fun u hu => by rw [set_get (by simpa using hv)]; unfold hTo; simp [hu]), hS⟩ ?_
  clear hS
  rintro i A' c' row wr ⟨D, hb, hS⟩
  have hbl := hb.le
  have hbs := hb.size
  refine cw_seq ?_
  refine cw_block ?_
  refine cw_seq ?_
  refine cw_seq ?_
  -- region 6
  refine cw_region ?_
  refine lw_v rfl rfl (ok_move rfl (.n rfl) rfl) ?_
  refine lw_v rfl rfl (ok_move rfl (.n rfl) rfl) ?_
  refine lw_v rfl rfl (ok_len rfl (.n rfl) Try.underlying26 rfl) ?_
  refine lw_v rfl rfl (ok_eql rfl (.n rfl) rfl rfl) ?_
  refine lw_nil ?_
  refine Ends.keep [(2, .eq _), (5, .eq _), (6, .eq _), (7, .eq _), (29, .eq _)] (.cons rfl (.cons rfl (.cons rfl (.cons rfl (.cons rfl .nil))))) ?_
  refine ends_then ?_
  refine cw_cond rfl (fun h29 => ?_) (fun h29 => ?_)
  ·
    refine cw_exit ?_
    refine then_exit (in_other rfl (then_exit (then_exit (in_exit (?_)))))
    refine Ends.keep [(5, .eq _)] (.cons rfl .nil) ?_
    refine ends_then ?_
    refine cw_seq ?_
    -- region 15
    refine cw_region ?_
    refine lw_v rfl rfl (ok_move rfl (.n rfl) rfl) ?_
    refine lw_v rfl rfl (ok_assign rfl (.n rfl) rfl) ?_
    refine lw_nil ?_
    refine Ends.keep [(4, .eq _)] (.cons rfl .nil) ?_
    refine ends_then ?_
    refine cw_ret ?_
    refine sc_ret (?_)
    have hie : i = row.length := by have := of_decide_eq_true h29; omega
    rw [lowL_eq (hb.low hie)]
    have hDl := hb.len
    refine end_ret (res1 Try.results81 rfl) ⟨A5, c5, by rw [hDl], hS.below, ?_, ?_⟩
    · rw [hDl]; exact fun b hb => hS.ge _ (.tail _ (.head _)) rfl b hb
    · rw [hDl]; exact hS.ok _ (.tail _ (.head _))
  ·
    have hi : i < row.length := by have := of_decide_eq_false h29; omega
    obtain ⟨u, hru, huN⟩ := row_at hb hi
    have hru' : row.getD (i : Int).toNat 0 = (u : Int) := hru
    obtain ⟨hf0, hf1, hf2⟩ := seg_rng hwf huN
    refine cw_skip ?_
    refine ends_then ?_
    refine cw_seq ?_
    -- region 7
    refine cw_region ?_
    refine lw_v rfl rfl (ok_move rfl (.n rfl) rfl) ?_
    refine lw_v rfl rfl (ok_move rfl (.n rfl) rfl) ?_
    refine lw_v rfl rfl (ok_ix rfl (.n rfl) Try.underlying26 Try.sizeOf3 rfl rfl hS (fun _ => ⟨by omega, by omega⟩)) ?_
    refine lw_v rfl rfl (ok_eq (ok_ldx rfl (.n rfl) rfl Try.isAgg3 hS (fun _ => ⟨by omega, by omega⟩) (by rfl)) (c' := .int .i64 (u : Int)) (fun _ => congrArg (Value.int .i64) hru)) ?_
    refine lw_v rfl rfl (ok_assign rfl (.n rfl) rfl) ?_
    refine lw_nil ?_
    refine Ends.keep [(2, .eq _), (5, .eq _), (6, .eq _), (7, .eq _), (8, .eq _)] (.cons rfl (.cons rfl (.cons rfl (.cons rfl (.cons rfl .nil))))) ?_
    refine ends_then ?_
    refine cw_seq ?_
    -- region 8
    refine cw_region ?_
    refine lw_v rfl rfl (ok_fb rfl (.n rfl) Try.underlying91 rfl Try.sizeOf29 (by decide) rfl) ?_
    refine lw_v rfl rfl (ok_fb rfl (.n rfl) Try.underlying29 rfl Try.sizeOf26 (by decide) rfl) ?_
    refine lw_v rfl rfl (ok_ldb rfl (.n rfl) rfl Try.isAgg26 hS (by rfl)) ?_
    refine lw_v rfl rfl (ok_move rfl (.n rfl) rfl) ?_
    refine lw_v rfl rfl (ok_ix rfl (.n rfl) Try.underlying26 Try.sizeOf3 rfl rfl hS (fun _ => ⟨by omega, by omega⟩)) ?_
    refine lw_v rfl rfl (ok_eq (ok_ldx rfl (.n rfl) rfl Try.isAgg3 hS (fun _ => ⟨by omega, by omega⟩) (by rfl)) (c' := .int .i64 (((c.First.getD u 0).toNat : Nat) : Int)) (fun _ => congrArg (Value.int .i64) (Int.toNat_of_nonneg hf0).symm)) ?_
    refine lw_v rfl rfl (ok_assign rfl (.n rfl) rfl) ?_
    refine lw_nil ?_
    refine Ends.keep [(2, .eq _), (5, .eq _), (6, .eq _), (7, .eq _), (8, .eq _), (9, .eq _)] (.cons rfl (.cons rfl (.cons rfl (.cons rfl (.cons rfl (.cons rfl .nil)))))) ?_
    refine ends_then ?_
    refine cw_block ?_
    -- LOOP at region 9: changed live slots [6, 9], kept [2, 5, 7, 8]
    refine cw_loop4 [(2, .eq _), (5, .eq _), (7, .eq _), (8, .eq _)] (fun (a : Nat) (A' : Option Addr) (c' : Nat) (row : List Int) => [(6, .eq (.slice A' row.length c')), (9, .eq (.int .i64 a))]) (fun a A' c' row w' => (c.First.getD u 0 ≤ a ∧ a ≤ c.First.getD (u + 1) 0) ∧ (i < row.length ∧ row.getD i 0 = (u : Int)) ∧ ∃ D, Bfs c.N (GoE c goes) v D row i (PA c goes u a) ∧ St w.heap.size w w' [own (eInt .i64) 1 3 A' row.length c' row, own (eInt .i64) 1 3 A5 c.N c5 D, own (eInt .i64) 1 3 A14 1 c14 [(c.N : Int)], bx b2 (searchV c q fv).cells.toList 91, sl (eInt .i64) 1 q.a0 c.First.length q.c0 c.First, sl (eInt .i64) 1 q.a1 c.Head.length q.c1 c.Head, sl (eInt .i64) 1 q.a2 c.Rev.length q.c2 c.Rev, sl (eInt .i64) 1 q.a3 c.Cap.length q.c3 c.Cap, sl (eInt .i64) 1 q.a4 c.Arc.length q.c4 c.Arc, sl eBool 1 q.a5 c.Back.length q.c5 c.Back]) (fun a _ _ _ => (c.First.getD (u + 1) 0 - a).toNat) (c.First.getD u 0).toNat A' c' row (.cons rfl (.cons rfl (.cons rfl (.cons rfl .nil)))) (.cons rfl (.cons rfl (.cons rfl (.cons rfl (.cons rfl (.cons rfl .nil)))))) ⟨⟨by omega, by omega⟩, ⟨hi, hru⟩, D, hb.pass (fun _ x _ ⟨b, h1, h2, _⟩ => absurd h1 (by omega)), hS⟩ ?_
    clear hS
    clear hb hbl hbs hi hru D
    rintro a A' c' row wr ⟨⟨ha0, ha1⟩, ⟨hi, hru⟩, D, hb, hS⟩
    have hbs := hb.size
    have hDu : 0 ≤ D.getD (u : Int).toNat 0 ∧ D.getD (u : Int).toNat 0 ≤ c.N := hb.rng u huN
    refine cw_seq ?_
    refine cw_seq ?_
    -- region 9
    refine cw_region ?_
    refine lw_v rfl rfl (ok_move rfl (.n rfl) rfl) ?_
    refine lw_v rfl rfl (ok_fb rfl (.n rfl) Try.underlying91 rfl Try.sizeOf29 (by decide) rfl) ?_
    refine lw_v rfl rfl (ok_fb rfl (.n rfl) Try.underlying29 rfl Try.sizeOf26 (by decide) rfl) ?_
    refine lw_v rfl rfl (ok_ldb rfl (.n rfl) rfl Try.isAgg26 hS (by rfl)) ?_
    refine lw_v rfl rfl (ok_move rfl (.n rfl) rfl) ?_
    refine lw_v rfl rfl (ok_addi rfl (.n rfl) rfl rfl (fun _ => ⟨by omega, by omega⟩)) ?_
    refine lw_v rfl rfl (ok_ix rfl (.n rfl) Try.underlying26 Try.sizeOf3 rfl rfl hS (fun _ => ⟨by omega, by omega⟩)) ?_
    refine lw_v rfl rfl (ok_ldx rfl (.n rfl) rfl Try.isAgg3 hS (fun _ => ⟨by omega, by omega⟩) (by rfl)) ?_
    refine lw_v rfl rfl (ok_lss rfl (.n rfl) rfl rfl) ?_
    refine lw_nil ?_
    refine Ends.keep [(2, .eq _), (5, .eq _), (6, .eq _), (7, .eq _), (8, .eq _), (9, .eq _), (48, .eq _)] (.cons rfl (.cons rfl (.cons rfl (.cons rfl (.cons rfl (.cons rfl (.cons rfl .nil))))))) ?_
    refine ends_then ?_
    refine cw_cond rfl (fun h48 => ?_) (fun h48 => ?_)
    ·
      have hlt : (a : Int) < c.First.getD (u + 1) 0 := of_decide_eq_true h48
      have haM : a < c.Head.length := by omega
      obtain ⟨x, hx, hxN⟩ := head_at hwf haM
      have hx' : c.Head.getD (a : Int).toNat 0 = (x : Int) := hx
      refine cw_skip ?_
      refine ends_then ?_
      refine cw_seq ?_
      refine cw_block ?_
      refine cw_seq ?_
      -- region 11
      refine cw_region ?_
      refine lw_v rfl rfl (ok_fb rfl (.n rfl) Try.underlying91 rfl Try.sizeOf29 (by decide) rfl) ?_
      refine lw_v rfl rfl (ok_fb rfl (.n rfl) Try.underlying29 rfl Try.sizeOf26 (by decide) rfl) ?_
      refine lw_v rfl rfl (ok_ldb rfl (.n rfl) rfl Try.isAgg26 hS (by rfl)) ?_
      refine lw_v rfl rfl (ok_move rfl (.n rfl) rfl) ?_
      refine lw_v rfl rfl (ok_ix rfl (.n rfl) Try.underlying26 Try.sizeOf3 rfl rfl hS (fun _ => ⟨by omega, by omega⟩)) ?_
      refine lw_v rfl rfl (ok_eq (ok_ldx rfl (.n rfl) rfl Try.isAgg3 hS (fun _ => ⟨by omega, by omega⟩) (by rfl)) (c' := .int .i64 (x : Int)) (fun _ => congrArg (Value.int .i64) hx)) ?_
      refine lw_v rfl rfl (ok_assign rfl (.n rfl) rfl) ?_
      refine lw_nil ?_
      refine Ends.keep [(2, .eq _), (5, .eq _), (6, .eq _), (7, .eq _), (8, .eq _), (9, .eq _), (10, .eq _)] (.cons rfl (.cons rfl (.cons rfl (.cons rfl (.cons rfl (.cons rfl (.cons rfl .nil))))))) ?_
      refine ends_then ?_
      refine cw_seq ?_
      refine cw_seq ?_
      -- region 12
      refine cw_draw (by kernel_rfl) (List.take 12 _) (List.drop 12 _) (List.take_append_drop 12 _).symm (by kernel_rfl) ?_
      refine free_v (ok_move rfl (.n rfl) rfl) ?_
      refine free_v (ok_move rfl (.n rfl) rfl) ?_
      refine free_v (ok_ix rfl (.n rfl) Try.underlying26 Try.sizeOf3 rfl rfl hS (fun _ => ⟨by omega, by omega⟩)) ?_
      refine free_v (ok_ldx rfl (.n rfl) rfl Try.isAgg3 hS (fun _ => ⟨by omega, by omega⟩) (by rfl)) ?_
      refine free_v (ok_fb rfl (.n rfl) Try.underlying91 rfl Try.sizeOf29 (by decide) rfl) ?_
      refine free_v (ok_fb rfl (.n rfl) Try.underlying29 rfl Try.sizeOf3 (by decide) rfl) ?_
      refine free_v (ok_ldb rfl (.n rfl) rfl Try.isAgg3 hS (by rfl)) ?_
      refine free_v (ok_lss rfl (.n rfl) rfl rfl) ?_
      refine free_v (ok_move rfl (.n rfl) rfl) ?_
      refine free_v (ok_fb rfl (.s rfl rfl) Try.underlying91 rfl Try.sizeOf83 (by decide) rfl) ?_
      refine free_v (ok_ldb rfl (.s rfl rfl) rfl Try.isAgg83 hS (by rfl)) ?_
      refine free_v (ok_move rfl (.s rfl rfl) rfl) ?_
      refine free_nil ?_
      intro w5 hg_; replace hS := hS.grow hg_; clear hg_
      refine lw_o rfl rfl (ok_callg (.bool (goes a)) rfl (.s rfl rfl) hcall (congrArg some hfv) rfl (fun _ w' hg => hgo a w' (Gr.trans hS.below hg) haM)) ?_
      intro w6 hg_; replace hS := hS.grow hg_; clear hg_
      refine lw_v rfl rfl (ok_not rfl (.s rfl rfl) rfl) ?_
      refine lw_v rfl rfl (ok_or rfl rfl rfl rfl) ?_
      refine lw_nil ?_
      refine Ends.keep [(2, .eq _), (5, .eq _), (6, .eq _), (7, .eq _), (8, .eq _), (9, .eq _), (10, .eq _), (71, .eq _)] (.cons rfl (.cons rfl (.cons rfl (.cons rfl (.cons rfl (.cons rfl (.cons rfl (.cons rfl .nil)))))))) ?_
      refine ends_then ?_
      refine cw_cond rfl (fun h71 => ?_) (fun h71 => ?_)
      ·
        refine cw_exit ?_
        refine then_exit (in_exit (?_))
        refine Ends.keep [(2, .eq _), (5, .eq _), (6, .eq _), (7, .eq _), (8, .eq _), (9, .eq _)] (.cons rfl (.cons rfl (.cons rfl (.cons rfl (.cons rfl (.cons rfl .nil)))))) ?_
        refine ends_then ?_
        -- region 10
        refine cw_region ?_
        refine lw_v rfl rfl (ok_move rfl (.n rfl) rfl) ?_
        refine lw_v rfl rfl (ok_addi rfl (.n rfl) rfl rfl (fun _ => ⟨by omega, by omega⟩)) ?_
        refine lw_v rfl rfl (ok_assign rfl (.n rfl) rfl) ?_
        refine lw_nil ?_
        -- BACK
        refine ends_back4 (a + 1) A' c' row (.cons rfl (.cons rfl (.cons rfl (.cons rfl (.cons rfl (.cons rfl .nil)))))) ⟨⟨by omega, by omega⟩, ⟨hi, hru⟩, D, hb.pass (fun _ y hy hp => ?_), hS⟩ (by omega)
        exact pa_old hb hi hy hp hx hxN h71
      ·
        refine cw_skip ?_
        refine ends_then ?_
        refine cw_seq ?_
        -- region 13
        refine cw_region ?_
        refine lw_v rfl rfl (ok_move rfl (.n rfl) rfl) ?_
        refine lw_v rfl rfl (ok_move rfl (.n rfl) rfl) ?_
        refine lw_v rfl rfl (ok_move rfl (.n rfl) rfl) ?_
        refine lw_v rfl rfl (ok_move rfl (.n rfl) rfl) ?_
        refine lw_v rfl rfl (ok_ix rfl (.n rfl) Try.underlying26 Try.sizeOf3 rfl rfl hS (fun _ => ⟨by omega, by omega⟩)) ?_
        refine lw_v rfl rfl (ok_ldx rfl (.n rfl) rfl Try.isAgg3 hS (fun _ => ⟨by omega, by omega⟩) (by rfl)) ?_
        refine lw_v rfl rfl (ok_addi rfl (.n rfl) rfl rfl (fun _ => ⟨by omega, by omega⟩)) ?_
        refine lw_v rfl rfl (ok_ix rfl (.n rfl) Try.underlying26 Try.sizeOf3 rfl rfl hS (fun _ => ⟨by omega, by omega⟩)) ?_
        refine lw_stx (enc := (eInt .i64)) (_) rfl rfl rfl rfl rfl rfl Try.sizeOf3 hS (⟨by omega, by omega⟩) ?_
        clear hS; intro w7 hS
        refine lw_nil ?_
        refine Ends.keep [(2, .eq _), (5, .eq _), (6, .eq _), (7, .eq _), (8, .eq _), (9, .eq _), (10, .eq _)] (.cons rfl (.cons rfl (.cons rfl (.cons rfl (.cons rfl (.cons rfl (.cons rfl .nil))))))) ?_
        refine ends_then ?_
        -- region 14
        refine cw_region ?_
        refine lw_v rfl rfl (ok_move rfl (.n rfl) rfl) ?_
        refine lw_v rfl rfl (ok_move rfl (.n rfl) rfl) ?_
        refine lw_ls (enc := (eInt .i64)) [(x : Int)] rfl rfl rfl Try.underlying26 Try.sizeOf3 Try.zeroValue3 rfl (by kernel_rfl) rfl (by decide) (by decide) hS ?_
        clear hS; intro A82 c82 w8 _ hS
        refine lw_append (enc := (eInt .i64)) rfl rfl rfl Try.underlying26 info3 rfl rfl rfl hS (by decide) (by omega) (by omega) ?_
        intro A83 c83 w9 hS1; replace hS := hS1 _ (Rep.r); clear hS1
        refine lw_v rfl rfl (ok_assign rfl (.n rfl) rfl) ?_
        refine lw_nil ?_
        refine in_normal (?_)
        refine Ends.keep [(2, .eq _), (5, .eq _), (6, .eq _), (7, .eq _), (8, .eq _), (9, .eq _)] (.cons rfl (.cons rfl (.cons rfl (.cons rfl (.cons rfl (.cons rfl .nil)))))) ?_
        refine ends_then ?_
        -- region 10
        refine cw_region ?_
        refine lw_v rfl rfl (ok_move rfl (.n rfl) rfl) ?_
        refine lw_v rfl rfl (ok_addi rfl (.n rfl) rfl rfl (fun _ => ⟨by omega, by omega⟩)) ?_
        refine lw_v rfl rfl (ok_assign rfl (.n rfl) rfl) ?_
        refine lw_nil ?_
        -- BACK
        obtain ⟨hno, hgo1⟩ := pa_new h71
        obtain ⟨hb2, hz⟩ := hb.add hi hxN (w := x) ⟨a, by rw [hru]; exact ha0, by rw [hru]; exact hlt, by rw [show c.Head.getD a 0 = (x : Int) from hx]; rfl, hgo1⟩ hno (P' := PA c goes u (a + 1)) (fun y _ hp => pa_step hp hx)
        refine ends_back4 (a + 1) A83 c83 (row ++ [(x : Int)]) (.cons rfl (.cons rfl (.cons rfl (.cons rfl (.cons rfl (.cons rfl .nil)))))) ⟨⟨by omega, by omega⟩, ⟨by simp; omega, by rw [List.getD_eq_getElem?_getD, List.getElem?_append_left hi, ← List.getD_eq_getElem?_getD]; exact hru⟩, _, hb2, ?_⟩ (by omega)
        rw [hru]; exact hS.tail
    ·
      have hge : ¬ (a : Int) < c.First.getD (u + 1) 0 := of_decide_eq_false h48
      refine cw_exit ?_
      refine then_exit (then_exit (in_exit (?_)))
      refine in_normal (?_)
      refine Ends.keep [(2, .eq _), (5, .eq _), (6, .eq _), (7, .eq _)] (.cons rfl (.cons rfl (.cons rfl (.cons rfl .nil)))) ?_
      refine ends_then ?_
      -- region 5
      refine cw_region ?_
      refine lw_v rfl rfl (ok_move rfl (.n rfl) rfl) ?_
      refine lw_v rfl rfl (ok_addi rfl (.n rfl) rfl rfl (fun _ => ⟨by omega, by omega⟩)) ?_
      refine lw_v rfl rfl (ok_assign rfl (.n rfl) rfl) ?_
      refine lw_nil ?_
      -- BACK
      refine ends_back4 (i + 1) A' c' row (.cons rfl (.cons rfl (.cons rfl (.cons rfl .nil)))) ⟨D, hb.next hi (fun x hx ⟨b, h1, h2, h3, h4⟩ => ⟨b, by rw [hru] at h1; exact h1, by rw [hru, Int.toNat_natCast] at h2; omega, h3, h4⟩), hS⟩ (by omega)

theorem lowL_congr {N : Nat} {E E' : Nat → Nat → Prop} {h : Nat → Int} (hn : ∀ v, v < N → 0 ≤ h v) (hE : ∀ u w, u < N → w < N → (E u w ↔ E' u w)) : lowL N E h = lowL N E' h :=
  (lowL_low E hn).unique (lowL_low E' hn) (fun _ _ => rfl) hE
theorem go_to {c : Cs} (hw : WF c) {res : List Int} {u x : Nat} (hu : u < c.N) (hx : x < c.N) : GoE c (fun a => decide (0 < res.getD (c.Rev.getD a 0).toNat 0)) x u ↔ Edge c res u x := by
  rw [edge_rev hw hx hu]
  unfold GoE
  simp only [decide_eq_true_eq]
theorem go_from {c : Cs} (hw : WF c) {res : List Int} {u x : Nat} (hx : x < c.N) : GoE c (fun a => decide (0 < res.getD a 0)) x u ↔ Edge c res x u := by
  rw [edge_seg hw hx]
  unfold GoE
  simp only [decide_eq_true_eq]

set_option maxRecDepth 10000 in
/-- dist.To. -/
theorem f41 (c : Cs) (q : Q6) (res : List Int) (t : Int) {m : Nat} (A1 : Option Addr) (c1 : Nat) (w : World) (hwf : WF c) (hc : CsAt c q w) (hr : (sl (eInt .i64) 1 A1 m c1 res).p w) : RetL 41 [csV c q, .slice A1 m c1, .int .i64 t] w (toL c res t) := by
  refine calls_cw Try.func41 rfl Try.ntmps41 rfl ?_
  have hS := (St.ofc hc).args (Nat.le_refl _) _ hr rfl
  have hM := hwf.m
  have hN := hwf.hi
  have hlo := hwf.lo
  have hfl := hwf.fl
  have hrr := hr.2.1
  have hrl := hr.1.1
  have hrvl := hwf.rl
  refine cw_seq ?_
  -- region 0
  refine cw_region ?_
  refine lw_box rfl rfl rfl rfl hS ?_
  clear hS; intro b3 w1 _ _ hS
  refine lw_box rfl rfl rfl rfl hS ?_
  clear hS; intro b4 w2 _ _ hS
  refine lw_v rfl rfl (ok_assign rfl (.n rfl) rfl) ?_
  refine lw_nil ?_
  refine Ends.keep [(2, .eq _), (3, .eq _), (4, .eq _)] (.cons rfl (.cons rfl (.cons rfl .nil))) ?_
  refine ends_then ?_
  refine cw_seq ?_
  refine cw_seq ?_
  -- region 1
  refine cw_region ?_
  refine lw_v rfl rfl (ok_ldS rfl (.n rfl) rfl Try.isAgg29 Try.sizeOf29 hS rfl) ?_
  refine lw_v rfl rfl (ok_ldb rfl (.n rfl) rfl Try.isAgg25 hS (by rfl)) ?_
  refine lw_v rfl rfl (ok_move rfl (.n rfl) rfl) ?_
  refine lw_call (f := 79) (xs := [_, _, _]) rfl rfl rfl Try.call79 rfl (Calls.mono (f79 c q res t A1 c1 _ hwf (hS.cs q) (hS.rd A1 hrr)) ?_)
  rintro e w' ⟨rfl, hg⟩
  replace hS := hS.grow hg; clear hg
  refine ⟨_, rfl, ?_⟩
  refine lw_v rfl rfl (ok_not rfl (.n rfl) rfl) ?_
  refine lw_nil ?_
  refine Ends.keep [(2, .eq _), (3, .eq _), (4, .eq _), (11, .eq _)] (.cons rfl (.cons rfl (.cons rfl (.cons rfl .nil)))) ?_
  refine ends_then ?_
  refine cw_cond rfl (fun h11 => ?_) (fun h11 => ?_)
  ·
    have hno : inB c res t = false := by simpa using h11
    replace hS := hS.nil (eInt .i64) 1 3
    refine cw_seq ?_
    -- region 2
    refine cw_region ?_
    refine lw_v rfl rfl (ok_assign rfl (.n rfl) rfl) ?_
    refine lw_nil ?_
    refine Ends.keep [(6, .eq _)] (.cons rfl .nil) ?_
    refine ends_then ?_
    refine cw_ret ?_
    refine then_ret (?_)
    rw [toL_no hno]
    exact end_ret (res1 Try.results41 rfl) ⟨none, 0, rfl, hS.below, fun b hb => hS.ge _ (.head _) rfl b hb, hS.ok _ (.head _)⟩
  ·
    have hin : inB c res t = true := by simpa using h11
    obtain ⟨hrm, ht0, htN⟩ := inB_iff.1 hin
    obtain ⟨v, rfl⟩ : ∃ v : Nat, t = (v : Int) := ⟨t.toNat, by omega⟩
    refine cw_skip ?_
    refine ends_then ?_
    refine cw_seq ?_
    -- region 3
    refine cw_region ?_
    refine lw_v rfl rfl (ok_ldS rfl (.n rfl) rfl Try.isAgg29 Try.sizeOf29 hS rfl) ?_
    refine lw_v rfl rfl (ok_mkfn rfl (.n rfl) rfl) ?_
    refine lw_v rfl rfl (ok_build (cells := #[.int .i64 c.N, .int .i64 c.S, .int .i64 c.T, .slice q.a0 c.First.length q.c0, .slice q.a1 c.Head.length q.c1, .slice q.a2 c.Rev.length q.c2, .slice q.a3 c.Cap.length q.c3, .slice q.a4 c.Arc.length q.c4, .slice q.a5 c.Back.length q.c5, (.func (.func 80) #[] #[.pointer (some ⟨b4, 0, none⟩), .pointer (some ⟨b3, 0, none⟩)])]) rfl (.n rfl) Try.underlying91 Try.zeroValue91 pl91 rfl (by kernel_rfl)) ?_
    refine lw_v rfl rfl (ok_move rfl (.n rfl) rfl) ?_
    refine lw_call (f := 81) (xs := [_, _]) rfl rfl rfl Try.call81 rfl (Calls.mono (f81 c q 80 #[.pointer (some ⟨b4, 0, none⟩), .pointer (some ⟨b3, 0, none⟩)] (fun a => decide (0 < res.getD (c.Rev.getD a 0).toNat 0)) v _ hwf (hS.cs q) (by omega) Try.call80 (fun a w' hg ha => f80 c q res a m b4 b3 A1 c1 w' hwf ((hS.grow hg).cs q) ((hS.grow hg).rd A1 hrr) (show (bx b4 (Value.slice A1 m c1).cells.toList 25).p w' from (hS.grow hg).bx) (show (bx b3 (csV c q).cells.toList 29).p w' from (hS.grow hg).bx) (by omega) ha)) ?_)
    rintro e w' ⟨A16, c16, rfl, hg, hfr, ho⟩
    replace hS := hS.new hg _ ho hfr; clear hg ho hfr
    refine ⟨_, rfl, ?_⟩
    refine lw_v rfl rfl (ok_assign rfl (.n rfl) rfl) ?_
    refine lw_nil ?_
    refine Ends.keep [(6, .eq _)] (.cons rfl .nil) ?_
    refine ends_then ?_
    refine cw_ret ?_
    have e : lowL c.N (fun u w => GoE c (fun a => decide (0 < res.getD (c.Rev.getD a 0).toNat 0)) w u) (hTo c.N v) = toL c res v := by
      unfold toL
      rw [if_pos hin]
      exact lowL_congr (hTo_nn _ _) fun u x hu hx => go_to hwf hu hx
    rw [e] at hS ⊢
    exact end_ret (res1 Try.results41 rfl) ⟨A16, c16, rfl, hS.below, fun b hb => hS.ge _ (.head _) rfl b hb, hS.ok _ (.head _)⟩

set_option maxRecDepth 10000 in
/-- dist.From. -/
theorem f42 (c : Cs) (q : Q6) (res : List Int) (t : Int) {m : Nat} (A1 : Option Addr) (c1 : Nat) (w : World) (hwf : WF c) (hc : CsAt c q w) (hr : (sl (eInt .i64) 1 A1 m c1 res).p w) : RetL 42 [csV c q, .slice A1 m c1, .int .i64 t] w (fromL c res t) := by
  refine calls_cw Try.func42 rfl Try.ntmps42 rfl ?_
  have hS := (St.ofc hc).args (Nat.le_refl _) _ hr rfl
  have hM := hwf.m
  have hN := hwf.hi
  have hlo := hwf.lo
  have hfl := hwf.fl
  have hrr := hr.2.1
  have hrl := hr.1.1
  have hrvl := hwf.rl
  refine cw_seq ?_
  -- region 0
  refine cw_region ?_
  refine lw_box rfl rfl rfl rfl hS ?_
  clear hS; intro b3 w1 _ _ hS
  refine lw_box rfl rfl rfl rfl hS ?_
  clear hS; intro b4 w2 _ _ hS
  refine lw_v rfl rfl (ok_assign rfl (.n rfl) rfl) ?_
  refine lw_nil ?_
  refine Ends.keep [(2, .eq _), (3, .eq _), (4, .eq _)] (.cons rfl (.cons rfl (.cons rfl .nil))) ?_
  refine ends_then ?_
  refine cw_seq ?_
  refine cw_seq ?_
  -- region 1
  refine cw_region ?_
  refine lw_v rfl rfl (ok_ldS rfl (.n rfl) rfl Try.isAgg29 Try.sizeOf29 hS rfl) ?_
  refine lw_v rfl rfl (ok_ldb rfl (.n rfl) rfl Try.isAgg25 hS (by rfl)) ?_
  refine lw_v rfl rfl (ok_move rfl (.n rfl) rfl) ?_
  refine lw_call (f := 79) (xs := [_, _, _]) rfl rfl rfl Try.call79 rfl (Calls.mono (f79 c q res t A1 c1 _ hwf (hS.cs q) (hS.rd A1 hrr)) ?_)
  rintro e w' ⟨rfl, hg⟩
  replace hS := hS.grow hg; clear hg
  refine ⟨_, rfl, ?_⟩
  refine lw_v rfl rfl (ok_not rfl (.n rfl) rfl) ?_
  refine lw_nil ?_
  refine Ends.keep [(2, .eq _), (3, .eq _), (4, .eq _), (11, .eq _)] (.cons rfl (.cons rfl (.cons rfl (.cons rfl .nil)))) ?_
  refine ends_then ?_
  refine cw_cond rfl (fun h11 => ?_) (fun h11 => ?_)
  ·
    have hno : inB c res t = false := by simpa using h11
    replace hS := hS.nil (eInt .i64) 1 3
    refine cw_seq ?_
    -- region 2
    refine cw_region ?_
    refine lw_v rfl rfl (ok_assign rfl (.n rfl) rfl) ?_
    refine lw_nil ?_
    refine Ends.keep [(6, .eq _)] (.cons rfl .nil) ?_
    refine ends_then ?_
    refine cw_ret ?_
    refine then_ret (?_)
    rw [fromL_no hno]
    exact end_ret (res1 Try.results42 rfl) ⟨none, 0, rfl, hS.below, fun b hb => hS.ge _ (.head _) rfl b hb, hS.ok _ (.head _)⟩
  ·
    have hin : inB c res t = true := by simpa using h11
    obtain ⟨hrm, ht0, htN⟩ := inB_iff.1 hin
    obtain ⟨v, rfl⟩ : ∃ v : Nat, t = (v : Int) := ⟨t.toNat, by omega⟩
    refine cw_skip ?_
    refine ends_then ?_
    refine cw_seq ?_
    -- region 3
    refine cw_region ?_
    refine lw_v rfl rfl (ok_ldS rfl (.n rfl) rfl Try.isAgg29 Try.sizeOf29 hS rfl) ?_
    refine lw_v rfl rfl (ok_mkfn rfl (.n rfl) rfl) ?_
    refine lw_v rfl rfl (ok_build (cells := #[.int .i64 c.N, .int .i64 c.S, .int .i64 c.T, .slice q.a0 c.First.length q.c0, .slice q.a1 c.Head.length q.c1, .slice q.a2 c.Rev.length q.c2, .slice q.a3 c.Cap.length q.c3, .slice q.a4 c.Arc.length q.c4, .slice q.a5 c.Back.length q.c5, (.func (.func 82) #[] #[.pointer (some ⟨b4, 0, none⟩)])]) rfl (.n rfl) Try.underlying91 Try.zeroValue91 pl91 rfl (by kernel_rfl)) ?_
    refine lw_v rfl rfl (ok_move rfl (.n rfl) rfl) ?_
    refine lw_call (f := 81) (xs := [_, _]) rfl rfl rfl Try.call81 rfl (Calls.mono (f81 c q 82 #[.pointer (some ⟨b4, 0, none⟩)] (fun a => decide (0 < res.getD a 0)) v _ hwf (hS.cs q) (by omega) Try.call82 (fun a w' hg ha => f82 c res a m b4 A1 c1 w' ((hS.grow hg).rd A1 hrr) (show (bx b4 (Value.slice A1 m c1).cells.toList 25).p w' from (hS.grow hg).bx) (by omega) ha)) ?_)
    rintro e w' ⟨A16, c16, rfl, hg, hfr, ho⟩
    replace hS := hS.new hg _ ho hfr; clear hg ho hfr
    refine ⟨_, rfl, ?_⟩
    refine lw_v rfl rfl (ok_assign rfl (.n rfl) rfl) ?_
    refine lw_nil ?_
    refine Ends.keep [(6, .eq _)] (.cons rfl .nil) ?_
    refine ends_then ?_
    refine cw_ret ?_
    have e : lowL c.N (fun u w => GoE c (fun a => decide (0 < res.getD a 0)) w u) (hTo c.N v) = fromL c res v := by
      unfold fromL
      rw [if_pos hin]
      exact lowL_congr (hTo_nn _ _) fun u x hu hx => go_from hwf hx
    rw [e] at hS ⊢
    exact end_ret (res1 Try.results42 rfl) ⟨A16, c16, rfl, hS.below, fun b hb => hS.ge _ (.head _) rfl b hb, hS.ok _ (.head _)⟩

end Go.Proofs.Ytnpgeohkmdcbkaa.Aq

namespace Go.Proofs.Ytnpgeohkmdcbkaa.Aq

/-- Those below v that are k steps away. -/
def rowAt (D : List Int) (v k : Nat) : List Int := filt (fun u => decide (D.getD u 0 = (k : Int))) v
/-- So many rows there are. -/
def hiTo (N : Nat) (D : List Int) : Nat → Nat
  | 0 => 0
  | v + 1 => if D.getD v 0 = (N : Int) then hiTo N D v else max (hiTo N D v) ((D.getD v 0).toNat + 1)
def rowsTo (D : List Int) (v m : Nat) : List (List Int) := (List.range m).map (rowAt D v)
def rowsF (N : Nat) (D : List Int) : List (List Int) := rowsTo D D.length (hiTo N D D.length)
noncomputable def rowsL (c : Cs) (res : List Int) (t : Int) : List (List Int) := rowsF c.N (toL c res t)

theorem rowsTo_len (D : List Int) (v m : Nat) : (rowsTo D v m).length = m := by simp [rowsTo]
theorem rowsTo_get {D : List Int} {v m k : Nat} (h : k < m) : (rowsTo D v m).getD k [] = rowAt D v k := by simp [rowsTo, List.getD_eq_getElem?_getD, h]
theorem rowAt_len (D : List Int) (v k : Nat) : (rowAt D v k).length ≤ v := filt_len _ v
theorem mem_rowAt {D : List Int} {v k : Nat} {x : Int} : x ∈ rowAt D v k ↔ ∃ u : Nat, u < v ∧ D.getD u 0 = (k : Int) ∧ x = u := by
  unfold rowAt
  rw [filt_mem]
  simp only [decide_eq_true_eq]
theorem hiTo_gt {N : Nat} {D : List Int} : ∀ {v u : Nat}, u < v → D.getD u 0 ≠ (N : Int) → (D.getD u 0).toNat < hiTo N D v
  | 0, u, h, _ => absurd h (Nat.not_lt_zero u)
  | v + 1, u, h, hne => by
    unfold hiTo
    by_cases he : u = v
    · subst he; rw [if_neg hne]; omega
    · have := hiTo_gt (v := v) (u := u) (by omega) hne
      split <;> omega
theorem hiTo_le {N : Nat} {D : List Int} (h : ∀ u, u < D.length → 0 ≤ D.getD u 0 ∧ D.getD u 0 ≤ N) : ∀ v, v ≤ D.length → hiTo N D v ≤ N
  | 0, _ => Nat.zero_le _
  | v + 1, hv => by
    have := hiTo_le h v (by omega)
    have := h v (by omega)
    unfold hiTo
    split <;> omega
theorem rowAt_nil {N : Nat} {D : List Int} {v m : Nat} (h : hiTo N D v ≤ m) (hm : m < N) : rowAt D v m = [] := by
  refine List.eq_nil_iff_forall_not_mem.2 fun x hx => ?_
  obtain ⟨u, h1, h2, _⟩ := mem_rowAt.1 hx
  have := hiTo_gt (N := N) (D := D) h1 (by omega)
  omega
theorem rows_add {N : Nat} {D : List Int} {v m : Nat} (h : hiTo N D v ≤ m) (hm : m < N) : rowsTo D v m ++ [[]] = rowsTo D v (m + 1) := by
  unfold rowsTo
  rw [List.range_succ, List.map_append, List.map_singleton, rowAt_nil h hm]
theorem rowAt_succ (D : List Int) (v k : Nat) : rowAt D (v + 1) k = rowAt D v k ++ if D.getD v 0 = (k : Int) then [(v : Int)] else [] := by
  unfold rowAt
  rw [filt_succ']
  simp only [decide_eq_true_eq]
theorem rows_skip {D : List Int} {v m : Nat} (h : ∀ k, k < m → D.getD v 0 ≠ (k : Int)) : rowsTo D v m = rowsTo D (v + 1) m := by
  unfold rowsTo
  refine List.map_congr_left fun k hk => ?_
  rw [rowAt_succ, if_neg (h k (List.mem_range.1 hk)), List.append_nil]
theorem rows_set {D : List Int} {v m k : Nat} (hk : D.getD v 0 = (k : Int)) (hm : k < m) : (rowsTo D v m).set k (rowAt D v k ++ [(v : Int)]) = rowsTo D (v + 1) m := by
  refine List.ext_getElem (by simp [rowsTo]) fun i h1 h2 => ?_
  rw [List.getElem_set]
  have hi : i < m := by simpa [rowsTo] using h2
  simp only [rowsTo, List.getElem_map, List.getElem_range]
  by_cases he : k = i
  · subst he; rw [if_pos rfl, rowAt_succ, if_pos hk]
  · rw [if_neg he, rowAt_succ, if_neg (by omega), List.append_nil]
theorem toL_rng {c : Cs} {res : List Int} {t : Int} : (toL c res t).length ≤ c.N ∧ ∀ u, u < (toL c res t).length → 0 ≤ (toL c res t).getD u 0 ∧ (toL c res t).getD u 0 ≤ c.N := by
  cases h : inB c res t with
  | true =>
    have L := toL_low h
    have hl := L.len
    refine ⟨by omega, fun u hu => ⟨L.nn u (by omega), Int.le_trans (L.le u (by omega)) ?_⟩⟩
    unfold hTo; split <;> omega
  | false => rw [toL_no h]; exact ⟨Nat.zero_le _, fun u hu => absurd hu (Nat.not_lt_zero u)⟩
end Go.Proofs.Ytnpgeohkmdcbkaa.Aq

namespace Go.Proofs.Ytnpgeohkmdcbkaa.Aq
open Go Go.RowKit

/-- A call that answers a new list of lists of numbers. -/
def RetR (f : FuncId) (args : List Value) (w : World) (xss : List (List Int)) : Prop :=
  Calls Try.prog f args.toArray w fun e w' => ∃ A c hs, e = .returned (.slice A hs.length c) ∧ Gr w w' ∧ (∀ b, (sl eSl 1 A hs.length c hs).fp b → w.heap.size ≤ b) ∧ (∀ b, (sls hs xss).fp b → w.heap.size ≤ b) ∧ (sl eSl 1 A hs.length c hs).p w' ∧ (sls hs xss).p w'
set_option maxRecDepth 10000 in
/-- dist.Rows. -/
theorem f49 (c : Cs) (q : Q6) (res : List Int) (t : Int) {m : Nat} (A1 : Option Addr) (c1 : Nat) (w : World) (hwf : WF c) (hc : CsAt c q w) (hr : (sl (eInt .i64) 1 A1 m c1 res).p w) : RetR 49 [csV c q, .slice A1 m c1, .int .i64 t] w (rowsL c res t) := by
  refine calls_cw Try.func49 rfl Try.ntmps49 rfl ?_
  have hS := (St.ofc hc).args (Nat.le_refl _) _ hr rfl
  have hN := hwf.hi
  have hrr := hr.2.1
  obtain ⟨hDl, hDr⟩ := toL_rng (c := c) (res := res) (t := t)
  unfold rowsL
  refine cw_seq ?_
  -- region 0
  refine cw_region ?_
  refine lw_box rfl rfl rfl rfl hS ?_
  clear hS; intro b3 w1 _ _ hS
  refine lw_v rfl rfl (ok_assign rfl (.n rfl) rfl) ?_
  refine lw_nil ?_
  refine Ends.keep [(1, .eq _), (2, .eq _), (3, .eq _)] (.cons rfl (.cons rfl (.cons rfl .nil))) ?_
  refine ends_then ?_
  refine cw_seq ?_
  -- region 1
  refine cw_region ?_
  refine lw_v rfl rfl (ok_ldS rfl (.n rfl) rfl Try.isAgg29 Try.sizeOf29 hS rfl) ?_
  refine lw_v rfl rfl (ok_move rfl (.n rfl) rfl) ?_
  refine lw_v rfl rfl (ok_move rfl (.n rfl) rfl) ?_
  refine lw_call (f := 41) (xs := [_, _, _]) rfl rfl rfl Try.call41 rfl (Calls.mono (f41 c q res t A1 c1 _ hwf (hS.cs q) (hS.rd A1 hrr)) ?_)
  rintro e w' ⟨A7, c7, rfl, hg, hfr, ho⟩
  replace hS := hS.new hg _ ho hfr; clear hg ho hfr
  generalize toL c res t = D at hS hDl hDr ⊢
  refine ⟨_, rfl, ?_⟩
  refine lw_v rfl rfl (ok_assign rfl (.n rfl) rfl) ?_
  refine lw_nil ?_
  refine Ends.keep [(3, .eq _), (7, .eq _)] (.cons rfl (.cons rfl .nil)) ?_
  refine ends_then ?_
  refine cw_seq ?_
  -- region 2
  refine cw_region ?_
  refine lw_v rfl rfl (ok_assign rfl (.n rfl) rfl) ?_
  refine lw_nil ?_
  refine Ends.keep [(3, .eq _), (7, .eq _), (8, .eq _)] (.cons rfl (.cons rfl (.cons rfl .nil))) ?_
  refine ends_then ?_
  refine cw_seq ?_
  refine cw_seq ?_
  -- region 3
  refine cw_region ?_
  refine lw_v rfl rfl (ok_move rfl (.n rfl) rfl) ?_
  refine lw_v rfl rfl (ok_len rfl (.n rfl) Try.underlying26 rfl) ?_
  refine lw_v rfl rfl (ok_move rfl (.n rfl) rfl) ?_
  refine lw_nil ?_
  refine Ends.keep [(3, .eq _), (8, .eq _), (15, .eq _), (16, .eq _), (17, .eq _)] (.cons rfl (.cons rfl (.cons rfl (.cons rfl (.cons rfl .nil))))) ?_
  refine ends_then ?_
  refine cw_block ?_
  -- LOOP at region 4: changed live slots [8, 17], kept [3, 15, 16]
  refine cw_loop4 [(3, .eq _), (15, .eq _), (16, .eq _)] (fun (v : Nat) (A' : Option Addr) (c' : Nat) (mm : Nat) => [(8, .eq (.slice A' mm c')), (17, .eq (.int .i64 v))]) (fun v A' c' mm w' => (v ≤ D.length ∧ mm = hiTo c.N D v) ∧ ∃ hs : List Hd, hs.length = mm ∧ St w.heap.size w w' [ownsE none hs (rowsTo D v mm), own eSl 1 26 A' mm c' hs, own (eInt .i64) 1 3 A7 D.length c7 D, bx b3 (csV c q).cells.toList 29, sl (eInt .i64) 1 A1 m c1 res, sl (eInt .i64) 1 q.a0 c.First.length q.c0 c.First, sl (eInt .i64) 1 q.a1 c.Head.length q.c1 c.Head, sl (eInt .i64) 1 q.a2 c.Rev.length q.c2 c.Rev, sl (eInt .i64) 1 q.a3 c.Cap.length q.c3 c.Cap, sl (eInt .i64) 1 q.a4 c.Arc.length q.c4 c.Arc, sl eBool 1 q.a5 c.Back.length q.c5 c.Back]) (fun v _ _ _ => D.length - v) 0 none 0 0 (.cons rfl (.cons rfl (.cons rfl .nil))) (.cons rfl (.cons rfl (.cons rfl (.cons rfl (.cons rfl .nil))))) ⟨⟨Nat.zero_le _, rfl⟩, [], rfl, (hS.nil eSl 1 26).ownsNil⟩ ?_
  clear hS
  rintro v A' c' mm wr ⟨⟨hv, hmm⟩, hs, hsl, hS⟩
  refine cw_seq ?_
  -- region 4
  refine cw_region ?_
  refine lw_v rfl rfl (ok_lss rfl (.n rfl) rfl rfl) ?_
  refine lw_nil ?_
  refine Ends.keep [(3, .eq _), (8, .eq _), (15, .eq _), (16, .eq _), (17, .eq _), (18, .eq _)] (.cons rfl (.cons rfl (.cons rfl (.cons rfl (.cons rfl (.cons rfl .nil)))))) ?_
  refine ends_then ?_
  refine cw_seq ?_
  refine cw_cond rfl (fun h18 => ?_) (fun h18 => ?_)
  ·
    have hlt : v < D.length := by have := of_decide_eq_true h18; omega
    have hDv := hDr v hlt
    obtain ⟨k, hk⟩ : ∃ k : Nat, D.getD (v : Int).toNat 0 = (k : Int) := ⟨(D.getD v 0).toNat, (Int.toNat_of_nonneg hDv.1).symm⟩
    have hk' : D.getD v 0 = (k : Int) := hk
    have hhi := hiTo_le hDr v hv
    refine cw_skip ?_
    refine ends_then ?_
    refine cw_seq ?_
    refine cw_block ?_
    refine cw_seq ?_
    -- region 5
    refine cw_region ?_
    refine lw_v rfl rfl (ok_move rfl (.n rfl) rfl) ?_
    refine lw_v rfl rfl (ok_ix rfl (.n rfl) Try.underlying26 Try.sizeOf3 rfl rfl hS (fun _ => ⟨by omega, by omega⟩)) ?_
    refine lw_v rfl rfl (ok_eq (ok_ldx rfl (.n rfl) rfl Try.isAgg3 hS (fun _ => ⟨by omega, by omega⟩) (by rfl)) (c' := .int .i64 (k : Int)) (fun _ => congrArg (Value.int .i64) hk)) ?_
    refine lw_v rfl rfl (ok_assign rfl (.n rfl) rfl) ?_
    refine lw_v rfl rfl (ok_assign rfl (.n rfl) rfl) ?_
    refine lw_nil ?_
    refine Ends.keep [(3, .eq _), (8, .eq _), (9, .eq _), (10, .eq _), (15, .eq _), (16, .eq _), (17, .eq _)] (.cons rfl (.cons rfl (.cons rfl (.cons rfl (.cons rfl (.cons rfl (.cons rfl .nil))))))) ?_
    refine ends_then ?_
    refine cw_seq ?_
    refine cw_seq ?_
    -- region 6
    refine cw_region ?_
    refine lw_v rfl rfl (ok_move rfl (.n rfl) rfl) ?_
    refine lw_v rfl rfl (ok_fb rfl (.n rfl) Try.underlying29 rfl Try.sizeOf3 (by decide) rfl) ?_
    refine lw_v rfl rfl (ok_ldb rfl (.n rfl) rfl Try.isAgg3 hS (by rfl)) ?_
    refine lw_v rfl rfl (ok_eql rfl (.n rfl) rfl rfl) ?_
    refine lw_nil ?_
    refine Ends.keep [(3, .eq _), (8, .eq _), (9, .eq _), (10, .eq _), (15, .eq _), (16, .eq _), (17, .eq _), (25, .eq _)] (.cons rfl (.cons rfl (.cons rfl (.cons rfl (.cons rfl (.cons rfl (.cons rfl (.cons rfl .nil)))))))) ?_
    refine ends_then ?_
    refine cw_cond rfl (fun h25 => ?_) (fun h25 => ?_)
    ·
      refine cw_exit ?_
      refine then_exit (in_exit (?_))
      refine Ends.keep [(3, .eq _), (8, .eq _), (15, .eq _), (16, .eq _), (17, .eq _)] (.cons rfl (.cons rfl (.cons rfl (.cons rfl (.cons rfl .nil))))) ?_
      refine ends_then ?_
      -- region 10
      refine cw_region ?_
      refine lw_v rfl rfl (ok_addi rfl (.n rfl) rfl rfl (fun _ => ⟨by omega, by omega⟩)) ?_
      refine lw_v rfl rfl (ok_move rfl (.n rfl) rfl) ?_
      refine lw_nil ?_
      -- BACK
      have hkN : D.getD v 0 = (c.N : Int) := by have := of_decide_eq_true h25; omega
      refine ends_back4 (v + 1) A' c' mm (.cons rfl (.cons rfl (.cons rfl (.cons rfl (.cons rfl .nil))))) ⟨⟨by omega, by unfold hiTo; rw [if_pos hkN]; exact hmm⟩, hs, hsl, ?_⟩ (by omega)
      rw [← rows_skip (fun i hi => by have := hiTo_le hDr v hv; omega)]; exact hS
    ·
      have hkN : k < c.N := by have := of_decide_eq_false h25; omega
      refine cw_skip ?_
      refine ends_then ?_
      refine cw_seq ?_
      refine cw_block ?_
      -- LOOP at region 7: changed live slots [8], kept [3, 9, 10, 15, 16, 17]
      refine cw_loop3 [(3, .eq _), (9, .eq _), (10, .eq _), (15, .eq _), (16, .eq _), (17, .eq _)] (fun (A' : Option Addr) (c' : Nat) (mm : Nat) => [(8, .eq (.slice A' mm c'))]) (fun A' c' mm w' => (hiTo c.N D v ≤ mm ∧ mm ≤ max (hiTo c.N D v) (k + 1)) ∧ ∃ hs : List Hd, hs.length = mm ∧ St w.heap.size w w' [ownsE none hs (rowsTo D v mm), own eSl 1 26 A' mm c' hs, own (eInt .i64) 1 3 A7 D.length c7 D, bx b3 (csV c q).cells.toList 29, sl (eInt .i64) 1 A1 m c1 res, sl (eInt .i64) 1 q.a0 c.First.length q.c0 c.First, sl (eInt .i64) 1 q.a1 c.Head.length q.c1 c.Head, sl (eInt .i64) 1 q.a2 c.Rev.length q.c2 c.Rev, sl (eInt .i64) 1 q.a3 c.Cap.length q.c3 c.Cap, sl (eInt .i64) 1 q.a4 c.Arc.length q.c4 c.Arc, sl eBool 1 q.a5 c.Back.length q.c5 c.Back]) (fun _ _ mm => k + 1 - mm) A' c' mm (.cons rfl (.cons rfl (.cons rfl (.cons rfl (.cons rfl (.cons rfl .nil)))))) (.cons rfl (.cons rfl (.cons rfl (.cons rfl (.cons rfl (.cons rfl (.cons rfl .nil))))))) ⟨⟨by omega, by omega⟩, hs, hsl, hS⟩ ?_
      clear hS
      clear hsl hmm hs
      rintro A' c' mm2 wr ⟨⟨hm0, hm1⟩, hs, hsl, hS⟩
      refine cw_seq ?_
      refine cw_seq ?_
      -- region 7
      refine cw_region ?_
      refine lw_v rfl rfl (ok_move rfl (.n rfl) rfl) ?_
      refine lw_v rfl rfl (ok_len rfl (.n rfl) Try.underlying47 rfl) ?_
      refine lw_v rfl rfl (ok_move rfl (.n rfl) rfl) ?_
      refine lw_v rfl rfl (ok_leq rfl (.n rfl) rfl rfl) ?_
      refine lw_nil ?_
      refine Ends.keep [(3, .eq _), (8, .eq _), (9, .eq _), (10, .eq _), (15, .eq _), (16, .eq _), (17, .eq _), (29, .eq _)] (.cons rfl (.cons rfl (.cons rfl (.cons rfl (.cons rfl (.cons rfl (.cons rfl (.cons rfl .nil)))))))) ?_
      refine ends_then ?_
      refine cw_cond rfl (fun h29 => ?_) (fun h29 => ?_)
      ·
        have hmk : mm2 ≤ k := by have := of_decide_eq_true h29; omega
        refine cw_skip ?_
        refine ends_then ?_
        refine cw_block ?_
        -- region 8
        refine cw_region ?_
        refine lw_v rfl rfl (ok_move rfl (.n rfl) rfl) ?_
        refine lw_ls (enc := eSl) [(none, 0, 0)] rfl rfl rfl Try.underlying47 Try.sizeOf26 Try.zeroValue26 rfl (by kernel_rfl) rfl (by decide) (by decide) hS ?_
        clear hS; intro A31 c31 w2 _ hS
        refine lw_append (enc := eSl) rfl rfl rfl Try.underlying47 info26 rfl rfl rfl hS (by decide) (by omega) (by omega) ?_
        intro A32 c32 w3 hS1; replace hS := hS1 _ (Rep.r); clear hS1
        refine lw_v rfl rfl (ok_assign rfl (.n rfl) rfl) ?_
        refine lw_nil ?_
        refine in_normal (?_)
        -- BACK
        refine ends_back3 A32 c32 (hs ++ [(none, 0, 0)]).length (.cons rfl (.cons rfl (.cons rfl (.cons rfl (.cons rfl (.cons rfl (.cons rfl .nil))))))) ⟨⟨by simp; omega, by simp; omega⟩, hs ++ [(none, 0, 0)], rfl, ?_⟩ (by simp; omega)
        have hS2 := hS.tail.ownsAdd
        rw [rows_add hm0 (by omega)] at hS2
        rw [show (hs ++ [((none, 0, 0) : Hd)]).length = mm2 + 1 by simp [hsl]] at hS2 ⊢
        exact hS2
      ·
        have hkl : k < mm2 := by have := of_decide_eq_false h29; omega
        replace hS := hS.ownsSplit (k := k) (by omega)
        obtain ⟨Ak, mk, ck, hek⟩ : ∃ a b d, hs.getD k (none, 0, 0) = (a, b, d) := ⟨_, _, _, rfl⟩
        unfold ownK at hS
        rw [hek, rowsTo_get hkl] at hS
        have hmk : (rowAt D v k).length = mk := (hS.ok _ (.head _)).1
        have hml := rowAt_len D v k
        refine cw_exit ?_
        refine then_exit (then_exit (in_exit (?_)))
        refine Ends.keep [(3, .eq _), (8, .eq _), (9, .eq _), (10, .eq _), (15, .eq _), (16, .eq _), (17, .eq _)] (.cons rfl (.cons rfl (.cons rfl (.cons rfl (.cons rfl (.cons rfl (.cons rfl .nil))))))) ?_
        refine ends_then ?_
        -- region 9
        refine cw_region ?_
        refine lw_v rfl rfl (ok_move rfl (.n rfl) rfl) ?_
        refine lw_v rfl rfl (ok_move rfl (.n rfl) rfl) ?_
        refine lw_v rfl rfl (ok_move rfl (.n rfl) rfl) ?_
        refine lw_v rfl rfl (ok_move rfl (.n rfl) rfl) ?_
        refine lw_v rfl rfl (ok_ix rfl (.n rfl) Try.underlying47 Try.sizeOf26 rfl rfl hS (fun _ => ⟨by omega, by omega⟩)) ?_
        refine lw_v rfl rfl (ok_eq (ok_ldx rfl (.n rfl) rfl Try.isAgg26 hS (fun _ => ⟨by omega, by omega⟩) (by rfl)) (c' := .slice Ak mk ck) (fun _ => by show Value.slice (hs.getD k (none, 0, 0)).1 (hs.getD k (none, 0, 0)).2.1 (hs.getD k (none, 0, 0)).2.2 = _; rw [hek])) ?_
        refine lw_v rfl rfl (ok_move rfl (.n rfl) rfl) ?_
        refine lw_ls (enc := (eInt .i64)) [(v : Int)] rfl rfl rfl Try.underlying26 Try.sizeOf3 Try.zeroValue3 rfl (by kernel_rfl) rfl (by decide) (by decide) hS ?_
        clear hS; intro A40 c40 w4 _ hS
        refine lw_append (enc := (eInt .i64)) rfl rfl rfl Try.underlying26 info3 rfl rfl rfl hS (by decide) (by omega) (by omega) ?_
        intro A41 c41 w5 hS1; replace hS := hS1 _ (Rep.r); clear hS1
        refine lw_v rfl rfl (ok_ix rfl (.n rfl) Try.underlying47 Try.sizeOf26 rfl rfl hS (fun _ => ⟨by omega, by omega⟩)) ?_
        refine lw_stx (enc := eSl) ((A41, (rowAt D v k ++ [(v : Int)]).length, c41)) rfl rfl rfl rfl rfl rfl Try.sizeOf26 hS (⟨by omega, by omega⟩) ?_
        clear hS; intro w6 hS
        refine lw_nil ?_
        refine in_normal (?_)
        refine Ends.keep [(3, .eq _), (8, .eq _), (15, .eq _), (16, .eq _), (17, .eq _)] (.cons rfl (.cons rfl (.cons rfl (.cons rfl (.cons rfl .nil))))) ?_
        refine ends_then ?_
        -- region 10
        refine cw_region ?_
        refine lw_v rfl rfl (ok_addi rfl (.n rfl) rfl rfl (fun _ => ⟨by omega, by omega⟩)) ?_
        refine lw_v rfl rfl (ok_move rfl (.n rfl) rfl) ?_
        refine lw_nil ?_
        -- BACK
        refine ends_back4 (v + 1) A' c' mm2 (.cons rfl (.cons rfl (.cons rfl (.cons rfl (.cons rfl .nil))))) ⟨⟨by omega, by unfold hiTo; rw [if_neg (by omega)]; omega⟩, hs.set k (A41, (rowAt D v k ++ [(v : Int)]).length, c41), by rw [List.length_set]; exact hsl, ?_⟩ (by omega)
        rw [← rows_set hk' hkl]; exact hS.tail.ownsJoin (by omega)
  ·
    have hve : v = D.length := by have := of_decide_eq_false h18; omega
    refine cw_exit ?_
    refine then_exit (then_exit (in_exit (?_)))
    refine Ends.keep [(8, .eq _)] (.cons rfl .nil) ?_
    refine ends_then ?_
    refine cw_seq ?_
    -- region 11
    refine cw_region ?_
    refine lw_v rfl rfl (ok_move rfl (.n rfl) rfl) ?_
    refine lw_v rfl rfl (ok_assign rfl (.n rfl) rfl) ?_
    refine lw_nil ?_
    refine Ends.keep [(6, .eq _)] (.cons rfl .nil) ?_
    refine ends_then ?_
    refine cw_ret ?_
    subst hve
    have hle := hiTo_le hDr _ (Nat.le_refl _)
    have hS2 := hS.ownsFreeze (fun k hk => by rw [rowsTo_get (by omega)]; have := rowAt_len D D.length k; omega)
    subst hsl
    have hS3 := hS2.swap.freeze .here (by omega)
    have e : rowsF c.N D = rowsTo D D.length hs.length := by unfold rowsF; rw [hmm]
    refine end_ret (res1 Try.results49 rfl) ⟨A', c', hs, rfl, hS3.below, own_fp fun b hb => hS.ge _ (.tail _ (.head _)) rfl b hb, fun b ⟨k, hk, ad, e1, e2, _⟩ => hS.ge _ (.head _) rfl b ⟨k, hk, by simp, ad, e1, e2⟩, hS3.ok _ (.head _), ?_⟩
    rw [e]; exact hS3.ok _ (.tail _ (.head _))

set_option maxRecDepth 10000 in
/-- acequialaw05.rows. -/
theorem f58 (xss yss : List (List Int)) (hs1 hs2 : List Hd) {m1 m2 : Nat} (A1 : Option Addr) (c1 : Nat) (A2 : Option Addr) (c2 : Nat) (w : World) (h1 : (sl eSl 1 A1 m1 c1 hs1).p w) (h2 : (sl eSl 1 A2 m2 c2 hs2).p w) (g1 : (sls hs1 xss).p w) (g2 : (sls hs2 yss).p w) : RetV 58 [.slice A1 m1 c1, .slice A2 m2 c2] w (.bool (decide (xss = yss))) := by
  refine calls_cw Try.func58 rfl Try.ntmps58 rfl ?_
  have hS := ((((St.start w).args (Nat.le_refl _) _ h1 rfl).args (Nat.le_refl _) _ h2 rfl).args (Nat.le_refl _) _ g1 rfl).args (Nat.le_refl _) _ g2 rfl
  have hb1 := h1.2.1
  have l1 := h1.1.1
  have l2 := h2.1.1
  have l3 := g1.1
  have l4 := g2.1
  refine cw_seq ?_
  -- region 0
  refine cw_region ?_
  refine lw_v rfl rfl (ok_assign rfl (.n rfl) rfl) ?_
  refine lw_nil ?_
  refine Ends.keep [(0, .eq _), (1, .eq _)] (.cons rfl (.cons rfl .nil)) ?_
  refine ends_then ?_
  refine cw_seq ?_
  refine cw_seq ?_
  -- region 1
  refine cw_region ?_
  refine lw_v rfl rfl (ok_move rfl (.n rfl) rfl) ?_
  refine lw_v rfl rfl (ok_len rfl (.n rfl) Try.underlying47 rfl) ?_
  refine lw_v rfl rfl (ok_move rfl (.n rfl) rfl) ?_
  refine lw_v rfl rfl (ok_len rfl (.n rfl) Try.underlying47 rfl) ?_
  refine lw_v rfl rfl (ok_neq rfl (.n rfl) rfl rfl) ?_
  refine lw_nil ?_
  refine Ends.keep [(0, .eq _), (1, .eq _), (10, .eq _)] (.cons rfl (.cons rfl (.cons rfl .nil))) ?_
  refine ends_then ?_
  refine cw_cond rfl (fun h10 => ?_) (fun h10 => ?_)
  ·
    refine cw_seq ?_
    -- region 2
    refine cw_region ?_
    refine lw_v rfl rfl (ok_assign rfl (.n rfl) rfl) ?_
    refine lw_nil ?_
    refine Ends.keep [(4, .eq _)] (.cons rfl .nil) ?_
    refine ends_then ?_
    refine cw_ret ?_
    refine then_ret (?_)
    refine end_ret (res1 Try.results58 rfl) ⟨?_, hS.below⟩
    rw [decide_eq_false fun e => ?_]
    have hne : decide ((m1 : Int) = m2) = false := by simpa using h10
    have := of_decide_eq_false hne
    have := congrArg List.length e
    omega
  ·
    have hmm : m1 = m2 := by
      have hd : decide ((m1 : Int) = m2) = true := by simpa using h10
      have := of_decide_eq_true hd
      omega
    refine cw_skip ?_
    refine ends_then ?_
    refine cw_seq ?_
    refine cw_seq ?_
    -- region 3
    refine cw_region ?_
    refine lw_v rfl rfl (ok_move rfl (.n rfl) rfl) ?_
    refine lw_v rfl rfl (ok_len rfl (.n rfl) Try.underlying47 rfl) ?_
    refine lw_v rfl rfl (ok_move rfl (.n rfl) rfl) ?_
    refine lw_nil ?_
    refine Ends.keep [(0, .eq _), (1, .eq _), (12, .eq _), (13, .eq _)] (.cons rfl (.cons rfl (.cons rfl (.cons rfl .nil)))) ?_
    refine ends_then ?_
    refine cw_block ?_
    -- LOOP at region 4: changed live slots [13], kept [0, 1, 12]
    refine cw_loop [(0, .eq _), (1, .eq _), (12, .eq _)] (fun k : Nat => [(13, .eq (.int .i64 k))]) (fun k w' => (k ≤ m1 ∧ ∀ i, i < k → xss.getD i [] = yss.getD i []) ∧ St w.heap.size w w' [sls hs2 yss, sls hs1 xss, sl eSl 1 A2 m2 c2 hs2, sl eSl 1 A1 m1 c1 hs1]) (fun k => m1 - k) 0 (.cons rfl (.cons rfl (.cons rfl .nil))) (.cons rfl (.cons rfl (.cons rfl (.cons rfl .nil)))) ⟨⟨Nat.zero_le _, fun i h => absurd h (Nat.not_lt_zero i)⟩, hS⟩ ?_
    clear hS
    rintro k wr ⟨⟨hk, hp⟩, hS⟩
    refine cw_seq ?_
    -- region 4
    refine cw_region ?_
    refine lw_v rfl rfl (ok_lss rfl (.n rfl) rfl rfl) ?_
    refine lw_nil ?_
    refine Ends.keep [(0, .eq _), (1, .eq _), (12, .eq _), (13, .eq _), (14, .eq _)] (.cons rfl (.cons rfl (.cons rfl (.cons rfl (.cons rfl .nil))))) ?_
    refine ends_then ?_
    refine cw_seq ?_
    refine cw_cond rfl (fun h14 => ?_) (fun h14 => ?_)
    ·
      have hlt : k < m1 := by have := of_decide_eq_true h14; omega
      refine cw_skip ?_
      refine ends_then ?_
      refine cw_seq ?_
      refine cw_block ?_
      refine cw_seq ?_
      -- region 5
      refine cw_region ?_
      refine lw_v rfl rfl (ok_move rfl (.n rfl) rfl) ?_
      refine lw_v rfl rfl (ok_assign rfl (.n rfl) rfl) ?_
      refine lw_nil ?_
      refine Ends.keep [(0, .eq _), (1, .eq _), (5, .eq _), (12, .eq _), (13, .eq _)] (.cons rfl (.cons rfl (.cons rfl (.cons rfl (.cons rfl .nil))))) ?_
      refine ends_then ?_
      refine cw_seq ?_
      -- region 6
      refine cw_draw (by kernel_rfl) (List.take 8 _) (List.drop 8 _) (List.take_append_drop 8 _).symm (by kernel_rfl) ?_
      refine free_v (ok_move rfl (.n rfl) rfl) ?_
      refine free_v (ok_move rfl (.n rfl) rfl) ?_
      refine free_v (ok_ix rfl (.n rfl) Try.underlying47 Try.sizeOf26 rfl rfl hS (fun _ => ⟨by omega, by omega⟩)) ?_
      refine free_v (ok_ldx rfl (.n rfl) rfl Try.isAgg26 hS (fun _ => ⟨by omega, by omega⟩) (by rfl)) ?_
      refine free_v (ok_move rfl (.n rfl) rfl) ?_
      refine free_v (ok_move rfl (.n rfl) rfl) ?_
      refine free_v (ok_ix rfl (.n rfl) Try.underlying47 Try.sizeOf26 rfl rfl hS (fun _ => ⟨by omega, by omega⟩)) ?_
      refine free_v (ok_ldx rfl (.n rfl) rfl Try.isAgg26 hS (fun _ => ⟨by omega, by omega⟩) (by rfl)) ?_
      refine free_nil ?_
      intro w1 hg_; replace hS := hS.grow hg_; clear hg_
      refine lw_o rfl rfl (ok_callv (.bool (decide (xss.getD k [] = yss.getD k []))) rfl rfl Try.call30 rfl (fun w' hg => f30g (hs1.getD k (none, 0, 0)).1 (hs1.getD k (none, 0, 0)).2.2 (hs2.getD k (none, 0, 0)).1 (hs2.getD k (none, 0, 0)).2.2 w' (yss.getD k []) (xss.getD k []) (((hS.grow hg).ok _ (.tail _ (.head _))).2 k (by omega)) (((hS.grow hg).ok _ (.head _)).2 k (by omega)))) ?_
      intro w2 hg_; replace hS := hS.grow hg_; clear hg_
      refine lw_v rfl rfl (ok_not rfl (.n rfl) rfl) ?_
      refine lw_nil ?_
      refine Ends.keep [(0, .eq _), (1, .eq _), (12, .eq _), (13, .eq _), (25, .eq _)] (.cons rfl (.cons rfl (.cons rfl (.cons rfl (.cons rfl .nil))))) ?_
      refine ends_then ?_
      refine cw_cond rfl (fun h25 => ?_) (fun h25 => ?_)
      ·
        refine cw_seq ?_
        -- region 7
        refine cw_region ?_
        refine lw_v rfl rfl (ok_assign rfl (.n rfl) rfl) ?_
        refine lw_nil ?_
        refine Ends.keep [(4, .eq _)] (.cons rfl .nil) ?_
        refine ends_then ?_
        refine cw_ret ?_
        refine in_ret (then_ret (then_ret (in_ret (then_ret (?_)))))
        refine end_ret (res1 Try.results58 rfl) ⟨?_, hS.below⟩
        rw [decide_eq_false fun e => ?_]
        rw [e] at h25; simp at h25
      ·
        refine cw_skip ?_
        refine in_normal (?_)
        refine ends_then ?_
        -- region 8
        refine cw_region ?_
        refine lw_v rfl rfl (ok_addi rfl (.n rfl) rfl rfl (fun _ => ⟨by omega, by omega⟩)) ?_
        refine lw_v rfl rfl (ok_move rfl (.n rfl) rfl) ?_
        refine lw_nil ?_
        -- BACK
        refine ends_back (k + 1) (.cons rfl (.cons rfl (.cons rfl (.cons rfl .nil)))) ⟨⟨by omega, fun i hi => ?_⟩, hS⟩ (by omega)
        rcases Nat.lt_or_ge i k with h | h
        · exact hp i h
        · have : i = k := by omega
          subst this; simpa using h25
    ·
      have hke : k = m1 := by have := of_decide_eq_false h14; omega
      refine cw_exit ?_
      refine then_exit (then_exit (in_exit (?_)))
      refine Ends.keep [] .nil ?_
      refine ends_then ?_
      refine cw_seq ?_
      -- region 9
      refine cw_region ?_
      refine lw_v rfl rfl (ok_assign rfl (.n rfl) rfl) ?_
      refine lw_nil ?_
      refine Ends.keep [(4, .eq _)] (.cons rfl .nil) ?_
      refine ends_then ?_
      refine cw_ret ?_
      refine end_ret (res1 Try.results58 rfl) ⟨?_, hS.below⟩
      rw [decide_eq_true]
      refine List.ext_getElem (by omega) fun i h1 h2 => ?_
      have := hp i (by omega)
      simpa [List.getD_eq_getElem?_getD, h1, h2] using this

end Go.Proofs.Ytnpgeohkmdcbkaa.Aq

namespace Go.Proofs.Ytnpgeohkmdcbkaa.Aq

def edgeL (c : Cs) (res : List Int) : List (Nat × Nat) := (List.range c.Head.length).filterMap fun a => if 0 < res.getD a 0 then some (tailOf c a, (c.Head.getD a 0).toNat) else none
theorem edgeL_mem {c : Cs} {res : List Int} {u w : Nat} : Edge c res u w ↔ (u, w) ∈ edgeL c res := by
  unfold Edge edgeL
  rw [List.mem_filterMap]
  constructor
  · rintro ⟨a, h1, h2, h3, h4⟩
    exact ⟨a, List.mem_range.2 h1, by rw [if_pos h4, h2, h3]⟩
  · rintro ⟨a, h1, h2⟩
    split at h2
    · rename_i h4
      injection h2 with h2
      injection h2 with h5 h6
      exact ⟨a, List.mem_range.1 h1, h5, h6, h4⟩
    · cases h2
def lowB (N : Nat) (es : List (Nat × Nat)) (h : Nat → Int) (D : List Int) : Bool :=
  Nat.beq D.length N && (List.range N).all (fun v => decide (0 ≤ D.getD v 0) && decide (D.getD v 0 ≤ h v) && (decide (D.getD v 0 = h v) || es.any fun e => Nat.beq e.1 v && Nat.blt e.2 N && decide (D.getD v 0 = D.getD e.2 0 + 1))) &&
    es.all fun e => decide (D.getD e.1 0 ≤ D.getD e.2 0 + 1)
theorem lowB_low {N : Nat} {es : List (Nat × Nat)} {h : Nat → Int} {D : List Int} (hb : lowB N es h D = true) {E : Nat → Nat → Prop} (hE : ∀ u w, E u w ↔ (u, w) ∈ es) : Low N E h D := by
  unfold lowB at hb
  simp only [Bool.and_eq_true, List.all_eq_true, List.mem_range, decide_eq_true_eq, Bool.or_eq_true, List.any_eq_true] at hb
  obtain ⟨⟨h1, h2⟩, h3⟩ := hb
  refine ⟨Nat.eq_of_beq_eq_true h1, fun v hv => (h2 v hv).1.1, fun v hv => (h2 v hv).1.2, fun u w _ _ he => h3 (u, w) ((hE u w).1 he), fun v hv => (h2 v hv).2.imp id fun ⟨e, h4, h5⟩ => ?_⟩
  have e1 := Nat.eq_of_beq_eq_true h5.1.1
  have e2 : e.2 < N := by have := h5.1.2; rwa [Nat.blt_eq] at this
  exact ⟨e.2, e2, (hE v e.2).2 (by rw [← e1]; exact h4), h5.2⟩
def swapL (es : List (Nat × Nat)) : List (Nat × Nat) := es.map fun e => (e.2, e.1)
theorem swapL_mem {es : List (Nat × Nat)} {u w : Nat} : (u, w) ∈ swapL es ↔ (w, u) ∈ es := by
  unfold swapL
  rw [List.mem_map]
  constructor
  · rintro ⟨e, h1, h2⟩
    injection h2 with h3 h4
    obtain ⟨a, b⟩ := e
    simp only at h3 h4
    subst h3; subst h4; exact h1
  · intro h; exact ⟨(w, u), h, rfl⟩
theorem to_ex {c : Cs} {res : List Int} {t : Nat} {D : List Int} (h : inB c res t = true) (hb : lowB c.N (edgeL c res) (hTo c.N t) D = true) : toL c res t = D := toL_eq h (lowB_low hb fun _ _ => edgeL_mem)
theorem from_ex {c : Cs} {res : List Int} {t : Nat} {D : List Int} (h : inB c res t = true) (hb : lowB c.N (swapL (edgeL c res)) (hTo c.N t) D = true) : fromL c res t = D := fromL_eq h (lowB_low hb fun _ _ => edgeL_mem.trans swapL_mem.symm)

def n05 : Nt := ⟨4, 0, 2, [(0, 1, 1), (1, 2, 1), (0, 2, 1)]⟩
theorem ok05 : NetOk n05 := ⟨by decide, by decide, by decide, by decide, by decide, by decide, by decide, by decide, fun a ha => by
  simp only [n05, List.mem_cons, List.not_mem_nil, or_false] at ha
  rcases ha with rfl | rfl | rfl <;> decide⟩
theorem m05a : (resL n05 []).length = 6 := by kernel_rfl
theorem m05b : (resL n05 [0, 0, 1]).length = 6 := by kernel_rfl
theorem to05a : toL (makeF n05) (resL n05 []) 2 = [1, 1, 0, 4] := to_ex (t := 2) (by kernel_rfl) (by kernel_rfl)
theorem from05a : fromL (makeF n05) (resL n05 []) 1 = [4, 0, 1, 4] := from_ex (t := 1) (by kernel_rfl) (by kernel_rfl)
theorem to05b : toL (makeF n05) (resL n05 [0, 0, 1]) 2 = [2, 1, 0, 4] := to_ex (t := 2) (by kernel_rfl) (by kernel_rfl)
theorem from05b : fromL (makeF n05) (resL n05 [0, 0, 1]) 2 = [1, 2, 0, 4] := from_ex (t := 2) (by kernel_rfl) (by kernel_rfl)
theorem rows05 : rowsL (makeF n05) (resL n05 []) 2 = [[2], [0, 1]] := by
  unfold rowsL
  rw [to05a]
  kernel_rfl
end Go.Proofs.Ytnpgeohkmdcbkaa.Aq

namespace Go.Proofs.Ytnpgeohkmdcbkaa.Aq
open Go Go.RowKit

theorem f23e (n : Nt) (A : Option Addr) (c : Nat) (l : List Int) (A1 : Option Addr) (c1 : Nat) (w : World) {C : Cs} {R : List Int} (hok : NetOk n) (hC : makeF n = C) (hR : resL n l = R) (ha : (sl eArc 3 A n.arcs.length c n.arcs).p w) (hl : (sl (eInt .i64) 1 A1 l.length c1 l).p w) (hll : l.length ≤ 140737488351232) (hrng : ∀ x ∈ l, -9223372036854775808 ≤ x ∧ x ≤ 9223372036854775807) :
    Calls Try.prog 23 #[netV n A c, .slice A1 l.length c1] w fun e w' => ∃ q A6 c6, e = .returned (.tuple #[csV C q, .slice A6 R.length c6]) ∧ Gr w w' ∧ CsNew C q w.heap.size ∧ CsAt C q w' ∧ (∀ b, (own (eInt .i64) 1 2 A6 R.length c6 R).fp b → w.heap.size ≤ b) ∧ CsApart C q (own (eInt .i64) 1 2 A6 R.length c6 R).fp ∧ (own (eInt .i64) 1 2 A6 R.length c6 R).p w' := by
  subst hC; subst hR; exact f23 n A c l A1 c1 w hok ha hl hll hrng
theorem f30s (A1 : Option Addr) (c1 : Nat) (A2 : Option Addr) (c2 : Nat) {m1 m2 : Nat} (xs : List Int) (w : World) (h1 : (sl (eInt .i64) 1 A1 m1 c1 xs).p w) (h2 : (sl (eInt .i64) 1 A2 m2 c2 xs).p w) : RetV 30 [.slice A1 m1 c1, .slice A2 m2 c2] w (.bool true) := by
  have := f30g A1 c1 A2 c2 w xs xs h1 h2
  rwa [decide_eq_true rfl] at this
theorem St.rows {B : Nat} {we w w' : World} {L : List Asn} (h : St B we w L) {hs : List Hd} {xss : List (List Int)} {A : Option Addr} {m c : Nat} (g : Gr w w') (h1 : (sl eSl 1 A m c hs).p w') (h2 : (sls hs xss).p w') (f1 : ∀ b, (sl eSl 1 A m c hs).fp b → w.heap.size ≤ b) (f2 : ∀ b, (sls hs xss).fp b → w.heap.size ≤ b) :
    St B we w' (sl eSl 1 A m c hs :: sls hs xss :: L) :=
  h.newl [sl eSl 1 A m c hs, sls hs xss] g fun a ha => by
    simp only [List.mem_cons, List.not_mem_nil, or_false] at ha
    rcases ha with rfl | rfl
    · exact ⟨rfl, h1, f1⟩
    · exact ⟨rfl, h2, f2⟩
set_option maxRecDepth 10000 in
/-- acequialaw05.awake. -/
theorem f43 (w : World) : Calls Try.prog 43 #[] w fun e w' => e = .returned (.bool true) ∧ Gr w w' := by
  refine calls_cw Try.func43 rfl Try.ntmps43 rfl ?_
  obtain ⟨C, hC⟩ : ∃ C, makeF n05 = C := ⟨_, rfl⟩
  obtain ⟨R, hR⟩ : ∃ R, resL n05 [] = R := ⟨_, rfl⟩
  obtain ⟨R2, hR2⟩ : ∃ R, resL n05 [0, 0, 1] = R := ⟨_, rfl⟩
  have hwf : WF C := hC ▸ makeF_wf ok05
  have m1 := m05a
  have m2 := m05b
  have e1 := to05a
  have e2 := from05a
  have e3 := to05b
  have e4 := from05b
  have e5 := rows05
  rw [hR] at m1 e1 e2 e5
  rw [hR2] at m2 e3 e4
  rw [hC] at e1 e2 e3 e4 e5
  have hS := St.start w
  refine cw_seq ?_
  -- region 0
  refine cw_region ?_
  refine lw_v rfl rfl (ok_assign rfl (.n rfl) rfl) ?_
  refine lw_nil ?_
  refine Ends.keep [] .nil ?_
  refine ends_then ?_
  refine cw_seq ?_
  -- region 1
  refine cw_region ?_
  refine lw_v rfl rfl (ok_build rfl (.n rfl) Try.underlying82 Try.zeroValue82 pl82 rfl rfl) ?_
  refine lw_v rfl rfl (ok_build rfl (.n rfl) Try.underlying82 Try.zeroValue82 pl82 rfl rfl) ?_
  refine lw_v rfl rfl (ok_build rfl (.n rfl) Try.underlying82 Try.zeroValue82 pl82 rfl rfl) ?_
  refine lw_ls (enc := eArc) [(0, 1, 1), (1, 2, 1), (0, 2, 1)] rfl rfl rfl Try.underlying22 Try.sizeOf82 Try.zeroValue82 rfl (by kernel_rfl) rfl (by decide) (by decide) hS ?_
  clear hS; intro A9 c9 w1 _ hS
  refine lw_v rfl rfl (ok_build rfl (.n rfl) Try.underlying24 Try.zeroValue24 pl24 rfl rfl) ?_
  refine lw_alloc rfl rfl rfl Try.zeroValue24 hS ?_
  clear hS; intro b1 w2 _ _ hS
  refine lw_stS rfl rfl rfl rfl rfl (by kernel_rfl) hS rfl (by rfl) (by rfl) ?_
  clear hS; intro w3 hS
  refine lw_nil ?_
  refine Ends.keep [(1, .eq _)] (.cons rfl .nil) ?_
  refine ends_then ?_
  refine cw_seq ?_
  -- region 2
  refine cw_region ?_
  refine lw_v rfl rfl (ok_ldS rfl (.n rfl) rfl Try.isAgg24 Try.sizeOf24 hS rfl) ?_
  refine lw_call (f := 23) (xs := [_, _]) rfl rfl rfl Try.call23 rfl (Calls.mono (f23e n05 A9 c9 [] none 0 _ ok05 hC hR (hS.rd A9 (by decide)) ((hS.nils (eInt .i64) 1).ok _ (.head _)) (by decide) (fun x hx => by cases hx)) ?_)
  rintro e w' ⟨q, A6, c6, rfl, hg, hnew, hat, hfr, hap, ho⟩
  replace hS := hS.left hg hat hnew ho hfr hap; clear hg hnew hat hfr hap ho
  refine ⟨_, rfl, ?_⟩
  refine lw_v rfl rfl (ok_move rfl (.n rfl) rfl) ?_
  refine lw_v rfl rfl (ok_extract rfl (.n rfl) rfl rfl) ?_
  refine lw_v rfl rfl (ok_extract rfl (.n rfl) rfl rfl) ?_
  refine lw_alloc rfl rfl rfl Try.zeroValue29 hS ?_
  clear hS; intro b2 w4 _ _ hS
  refine lw_stS rfl rfl rfl rfl rfl (by kernel_rfl) hS rfl (by rfl) (by rfl) ?_
  clear hS; intro w5 hS
  refine lw_v rfl rfl (ok_assign rfl (.n rfl) rfl) ?_
  refine lw_nil ?_
  refine Ends.keep [(1, .eq _), (2, .eq _), (3, .eq _)] (.cons rfl (.cons rfl (.cons rfl .nil))) ?_
  refine ends_then ?_
  refine cw_seq ?_
  -- region 3
  refine cw_region ?_
  refine lw_v rfl rfl (ok_ldS rfl (.n rfl) rfl Try.isAgg24 Try.sizeOf24 hS rfl) ?_
  refine lw_ls (enc := (eInt .i64)) [0, 0, 1] rfl rfl rfl Try.underlying25 Try.sizeOf2 Try.zeroValue2 rfl (by kernel_rfl) rfl (by decide) (by decide) hS ?_
  clear hS; intro A18 c18 w6 _ hS
  refine lw_call (f := 23) (xs := [_, _]) rfl rfl rfl Try.call23 rfl (Calls.mono (f23e n05 A9 c9 [0, 0, 1] A18 c18 _ ok05 hC hR2 (hS.rd A9 (by decide)) (hS.rd A18 (by decide)) (by decide) (fun x hx => by simp only [List.mem_cons, List.not_mem_nil, or_false] at hx; omega)) ?_)
  rintro e w' ⟨q2, B6, d6, rfl, hg, hnew, hat, hfr, hap, ho⟩
  replace hS := hS.left hg hat hnew ho hfr hap; clear hg hnew hat hfr hap ho
  refine ⟨_, rfl, ?_⟩
  refine lw_v rfl rfl (ok_move rfl (.n rfl) rfl) ?_
  refine lw_v rfl rfl (ok_extract rfl (.n rfl) rfl rfl) ?_
  refine lw_v rfl rfl (ok_extract rfl (.n rfl) rfl rfl) ?_
  refine lw_alloc rfl rfl rfl Try.zeroValue29 hS ?_
  clear hS; intro b4 w7 _ _ hS
  refine lw_stS rfl rfl rfl rfl rfl (by kernel_rfl) hS rfl (by rfl) (by rfl) ?_
  clear hS; intro w8 hS
  refine lw_v rfl rfl (ok_assign rfl (.n rfl) rfl) ?_
  refine lw_nil ?_
  refine Ends.keep [(2, .eq _), (3, .eq _), (5, .eq _)] (.cons rfl (.cons rfl (.cons rfl .nil))) ?_
  refine ends_then ?_
  refine cw_seq ?_
  -- region 4
  refine cw_region ?_
  refine lw_v rfl rfl (ok_ldS rfl (.n rfl) rfl Try.isAgg29 Try.sizeOf29 hS rfl) ?_
  refine lw_v rfl rfl (ok_move rfl (.n rfl) rfl) ?_
  refine lw_call (f := 41) (xs := [_, _, _]) rfl rfl rfl Try.call41 rfl (Calls.mono (f41 C q R 2 A6 c6 _ hwf (hS.cs q) (hS.rd A6 (by omega))) ?_)
  rw [e1]
  rintro e w' ⟨A24, c24, rfl, hg, hfr, ho⟩
  replace hS := hS.new hg _ ho hfr; clear hg ho hfr
  refine ⟨_, rfl, ?_⟩
  refine lw_ls (enc := (eInt .i64)) [1, 1, 0, 4] rfl rfl rfl Try.underlying26 Try.sizeOf3 Try.zeroValue3 rfl (by kernel_rfl) rfl (by decide) (by decide) hS ?_
  clear hS; intro A25 c25 w9 _ hS
  refine lw_call (f := 30) (xs := [_, _]) rfl rfl rfl Try.call30 rfl (Calls.mono (f30s A24 c24 A25 c25 [1, 1, 0, 4] _ (hS.rd A24 (by decide)) (hS.rd A25 (by decide))) ?_)
  rintro e w' ⟨rfl, hg⟩
  replace hS := hS.grow hg; clear hg
  refine ⟨_, rfl, ?_⟩
  refine lw_v rfl rfl (ok_move rfl (.n rfl) rfl) ?_
  refine lw_on (.s rfl rfl) rfl ?_
  refine lw_v rfl rfl (ok_ldS rfl (.n rfl) rfl Try.isAgg29 Try.sizeOf29 hS rfl) ?_
  refine lw_on (.s rfl rfl) rfl ?_
  refine lw_v rfl rfl (ok_move rfl (.n rfl) rfl) ?_
  refine lw_on (.s rfl rfl) rfl ?_
  refine lw_call (f := 42) (xs := [_, _, _]) rfl rfl rfl Try.call42 rfl (Calls.mono (f42 C q R 1 A6 c6 _ hwf (hS.cs q) (hS.rd A6 (by omega))) ?_)
  rw [e2]
  rintro e w' ⟨A30, c30, rfl, hg, hfr, ho⟩
  replace hS := hS.new hg _ ho hfr; clear hg ho hfr
  refine ⟨_, rfl, ?_⟩
  refine lw_on (.s rfl rfl) rfl ?_
  refine lw_ls (enc := (eInt .i64)) [4, 0, 1, 4] rfl rfl rfl Try.underlying26 Try.sizeOf3 Try.zeroValue3 rfl (by kernel_rfl) rfl (by decide) (by decide) hS ?_
  clear hS; intro A31 c31 w10 _ hS
  refine lw_on (.s rfl rfl) rfl ?_
  refine lw_call (f := 30) (xs := [_, _]) rfl rfl rfl Try.call30 rfl (Calls.mono (f30s A30 c30 A31 c31 [4, 0, 1, 4] _ (hS.rd A30 (by decide)) (hS.rd A31 (by decide))) ?_)
  rintro e w' ⟨rfl, hg⟩
  replace hS := hS.grow hg; clear hg
  refine ⟨_, rfl, ?_⟩
  refine lw_v rfl rfl (ok_pick rfl rfl rfl rfl rfl) ?_
  refine lw_v rfl rfl (ok_move rfl (.n rfl) rfl) ?_
  refine lw_on (.s rfl rfl) rfl ?_
  refine lw_v rfl rfl (ok_ldS rfl (.n rfl) rfl Try.isAgg29 Try.sizeOf29 hS rfl) ?_
  refine lw_on (.s rfl rfl) rfl ?_
  refine lw_v rfl rfl (ok_move rfl (.n rfl) rfl) ?_
  refine lw_on (.s rfl rfl) rfl ?_
  refine lw_call (f := 41) (xs := [_, _, _]) rfl rfl rfl Try.call41 rfl (Calls.mono (f41 C q R2 2 B6 d6 _ hwf (hS.cs q) (hS.rd B6 (by omega))) ?_)
  rw [e3]
  rintro e w' ⟨A37, c37, rfl, hg, hfr, ho⟩
  replace hS := hS.new hg _ ho hfr; clear hg ho hfr
  refine ⟨_, rfl, ?_⟩
  refine lw_on (.s rfl rfl) rfl ?_
  refine lw_ls (enc := (eInt .i64)) [2, 1, 0, 4] rfl rfl rfl Try.underlying26 Try.sizeOf3 Try.zeroValue3 rfl (by kernel_rfl) rfl (by decide) (by decide) hS ?_
  clear hS; intro A38 c38 w11 _ hS
  refine lw_on (.s rfl rfl) rfl ?_
  refine lw_call (f := 30) (xs := [_, _]) rfl rfl rfl Try.call30 rfl (Calls.mono (f30s A37 c37 A38 c38 [2, 1, 0, 4] _ (hS.rd A37 (by decide)) (hS.rd A38 (by decide))) ?_)
  rintro e w' ⟨rfl, hg⟩
  replace hS := hS.grow hg; clear hg
  refine ⟨_, rfl, ?_⟩
  refine lw_v rfl rfl (ok_pick rfl rfl rfl rfl rfl) ?_
  refine lw_v rfl rfl (ok_move rfl (.n rfl) rfl) ?_
  refine lw_on (.s rfl rfl) rfl ?_
  refine lw_v rfl rfl (ok_ldS rfl (.n rfl) rfl Try.isAgg29 Try.sizeOf29 hS rfl) ?_
  refine lw_on (.s rfl rfl) rfl ?_
  refine lw_v rfl rfl (ok_move rfl (.n rfl) rfl) ?_
  refine lw_on (.s rfl rfl) rfl ?_
  refine lw_call (f := 42) (xs := [_, _, _]) rfl rfl rfl Try.call42 rfl (Calls.mono (f42 C q R2 2 B6 d6 _ hwf (hS.cs q) (hS.rd B6 (by omega))) ?_)
  rw [e4]
  rintro e w' ⟨A44, c44, rfl, hg, hfr, ho⟩
  replace hS := hS.new hg _ ho hfr; clear hg ho hfr
  refine ⟨_, rfl, ?_⟩
  refine lw_on (.s rfl rfl) rfl ?_
  refine lw_ls (enc := (eInt .i64)) [1, 2, 0, 4] rfl rfl rfl Try.underlying26 Try.sizeOf3 Try.zeroValue3 rfl (by kernel_rfl) rfl (by decide) (by decide) hS ?_
  clear hS; intro A45 c45 w12 _ hS
  refine lw_on (.s rfl rfl) rfl ?_
  refine lw_call (f := 30) (xs := [_, _]) rfl rfl rfl Try.call30 rfl (Calls.mono (f30s A44 c44 A45 c45 [1, 2, 0, 4] _ (hS.rd A44 (by decide)) (hS.rd A45 (by decide))) ?_)
  rintro e w' ⟨rfl, hg⟩
  replace hS := hS.grow hg; clear hg
  refine ⟨_, rfl, ?_⟩
  refine lw_v rfl rfl (ok_pick rfl rfl rfl rfl rfl) ?_
  refine lw_v rfl rfl (ok_move rfl (.n rfl) rfl) ?_
  refine lw_on (.s rfl rfl) rfl ?_
  refine lw_v rfl rfl (ok_ldS rfl (.n rfl) rfl Try.isAgg29 Try.sizeOf29 hS rfl) ?_
  refine lw_on (.s rfl rfl) rfl ?_
  refine lw_v rfl rfl (ok_move rfl (.n rfl) rfl) ?_
  refine lw_on (.s rfl rfl) rfl ?_
  refine lw_call (f := 49) (xs := [_, _, _]) rfl rfl rfl Try.call49 rfl (Calls.mono (f49 C q R 2 A6 c6 _ hwf (hS.cs q) (hS.rd A6 (by omega))) ?_)
  rw [e5]
  rintro e w' ⟨A51, c51, hs51, rfl, hg, hf1, hf2, ho1, ho2⟩
  replace hS := hS.rows hg ho1 ho2 hf1 hf2; clear hg ho1 ho2 hf1 hf2
  refine ⟨_, rfl, ?_⟩
  refine lw_on (.s rfl rfl) rfl ?_
  refine lw_ls (enc := (eInt .i64)) [2] rfl rfl rfl Try.underlying26 Try.sizeOf3 Try.zeroValue3 rfl (by kernel_rfl) rfl (by decide) (by decide) hS ?_
  clear hS; intro A52 c52 w13 _ hS
  refine lw_on (.s rfl rfl) rfl ?_
  refine lw_ls (enc := (eInt .i64)) [0, 1] rfl rfl rfl Try.underlying26 Try.sizeOf3 Try.zeroValue3 rfl (by kernel_rfl) rfl (by decide) (by decide) hS ?_
  clear hS; intro A53 c53 w14 _ hS
  refine lw_on (.s rfl rfl) rfl ?_
  refine lw_ls (enc := eSl) [(A52, 1, c52), (A53, 2, c53)] rfl rfl rfl Try.underlying47 Try.sizeOf26 Try.zeroValue26 rfl (by kernel_rfl) rfl (by decide) (by decide) hS ?_
  clear hS; intro A54 c54 w15 _ hS
  refine lw_on (.s rfl rfl) rfl ?_
  refine lw_call (f := 58) (xs := [_, _]) rfl rfl rfl Try.call58 rfl (Calls.mono (f58 [[2], [0, 1]] [[2], [0, 1]] hs51 [(A52, 1, c52), (A53, 2, c53)] A51 c51 A54 c54 _ (hS.ok _ (.tail _ (.tail _ (.tail _ (.head _))))) (hS.rd A54 (by decide)) (hS.ok _ (.tail _ (.tail _ (.tail _ (.tail _ (.head _)))))) ⟨rfl, fun k hk => match k, hk with
    | 0, _ => hS.rd A52 (by decide)
    | 1, _ => hS.rd A53 (by decide)⟩) ?_)
  rintro e w' ⟨rfl, hg⟩
  replace hS := hS.grow hg; clear hg
  refine ⟨_, rfl, ?_⟩
  refine lw_v rfl rfl (ok_pick rfl rfl rfl rfl rfl) ?_
  refine lw_v rfl rfl (ok_assign rfl (.n rfl) rfl) ?_
  refine lw_nil ?_
  refine Ends.keep [(0, .eq _)] (.cons rfl .nil) ?_
  refine ends_then ?_
  refine cw_ret ?_
  exact end_ret (res1 Try.results43 rfl) ⟨rfl, hS.below⟩

end Go.Proofs.Ytnpgeohkmdcbkaa.Aq

namespace Go.Proofs.Ytnpgeohkmdcbkaa.Aq

theorem inB_of {c : Cs} {res : List Int} (h : res.length = c.Head.length) {u : Nat} (hu : u < c.N) : inB c res (u : Int) = true := inB_iff.2 ⟨h, by omega, by omega⟩
theorem toL_len {c : Cs} {res : List Int} (h : res.length = c.Head.length) {u : Nat} (hu : u < c.N) : (toL c res (u : Int)).length = c.N := (toL_low (inB_of h hu)).len
theorem fromL_len {c : Cs} {res : List Int} (h : res.length = c.Head.length) {u : Nat} (hu : u < c.N) : (fromL c res (u : Int)).length = c.N := (fromL_low (inB_of h hu)).len
theorem edge_more {c : Cs} {res res' : List Int} (h : ∀ a, a < c.Head.length → 0 < res.getD a 0 → 0 < res'.getD a 0) {u w : Nat} (he : Edge c res u w) : Edge c res' u w := by
  obtain ⟨a, h1, h2, h3, h4⟩ := he
  exact ⟨a, h1, h2, h3, h a h1 h4⟩
theorem to_more {c : Cs} {res res' : List Int} (hl : res.length = c.Head.length) (hl' : res'.length = c.Head.length) (h : ∀ a, a < c.Head.length → 0 < res.getD a 0 → 0 < res'.getD a 0) {u : Nat} (hu : u < c.N) :
    ∀ v, v < c.N → (toL c res' (u : Int)).getD v 0 ≤ (toL c res (u : Int)).getD v 0 :=
  (toL_low (inB_of hl' hu)).mono (toL_low (inB_of hl hu)) (fun _ _ => Int.le_refl _) fun _ _ _ _ he => edge_more h he
theorem from_more {c : Cs} {res res' : List Int} (hl : res.length = c.Head.length) (hl' : res'.length = c.Head.length) (h : ∀ a, a < c.Head.length → 0 < res.getD a 0 → 0 < res'.getD a 0) {u : Nat} (hu : u < c.N) :
    ∀ v, v < c.N → (fromL c res' (u : Int)).getD v 0 ≤ (fromL c res (u : Int)).getD v 0 :=
  (fromL_low (inB_of hl' hu)).mono (fromL_low (inB_of hl hu)) (fun _ _ => Int.le_refl _) fun _ _ _ _ he => edge_more h he
theorem to_same {c : Cs} {res res' : List Int} (hl : res.length = c.Head.length) (hl' : res'.length = c.Head.length) (h : ∀ a, a < c.Head.length → (0 < res.getD a 0 ↔ 0 < res'.getD a 0)) {u : Nat} (hu : u < c.N) : toL c res (u : Int) = toL c res' (u : Int) :=
  (toL_low (inB_of hl hu)).unique (toL_low (inB_of hl' hu)) (fun _ _ => rfl) fun _ _ _ _ => ⟨edge_more fun a ha => (h a ha).1, edge_more fun a ha => (h a ha).2⟩

/-- Some of the first k are one more. -/
structure XI (R X : List Int) (k : Nat) : Prop where
  len : X.length = R.length
  rng : ∀ a, R.getD a 0 ≤ X.getD a 0 ∧ X.getD a 0 ≤ R.getD a 0 + 1
  rest : ∀ a, k ≤ a → X.getD a 0 = R.getD a 0
theorem XI.start (R : List Int) : XI R R 0 := ⟨rfl, fun a => ⟨by omega, by omega⟩, fun _ _ => rfl⟩
theorem XI.skip {R X : List Int} {k : Nat} (h : XI R X k) : XI R X (k + 1) := ⟨h.len, h.rng, fun a ha => h.rest a (by omega)⟩
theorem XI.inc {R X : List Int} {k : Nat} (h : XI R X k) (hk : k < R.length) : XI R (X.set k (X.getD k 0 + 1)) (k + 1) := by
  have hl := h.len
  have get := fun v => set_get (D := X) (u := k) (z := X.getD k 0 + 1) (by omega) v
  refine ⟨by rw [List.length_set]; exact hl, fun a => ?_, fun a ha => ?_⟩
  · rw [get a]; split
    · rename_i e; subst e; have := h.rest a (Nat.le_refl _); omega
    · exact h.rng a
  · rw [get a, if_neg (by omega)]; exact h.rest a (by omega)
/-- Of the first k those that are positive have become greater. -/
structure YI (R Y : List Int) (k : Nat) : Prop where
  len : Y.length = R.length
  rng : ∀ a, (0 < R.getD a 0 ↔ 0 < Y.getD a 0) ∧ Y.getD a 0 ≤ R.getD a 0 + 300
  rest : ∀ a, k ≤ a → Y.getD a 0 = R.getD a 0
theorem YI.start (R : List Int) : YI R R 0 := ⟨rfl, fun a => ⟨Iff.rfl, by omega⟩, fun _ _ => rfl⟩
theorem YI.skip {R X : List Int} {k : Nat} (h : YI R X k) : YI R X (k + 1) := ⟨h.len, h.rng, fun a ha => h.rest a (by omega)⟩
theorem YI.inc {R Y : List Int} {k : Nat} {d : Int} (h : YI R Y k) (hk : k < R.length) (h0 : 0 < Y.getD k 0) (h1 : 0 ≤ d) (h2 : d ≤ 300) : YI R (Y.set k (Y.getD k 0 + d)) (k + 1) := by
  have hl := h.len
  have get := fun v => set_get (D := Y) (u := k) (z := Y.getD k 0 + d) (by omega) v
  refine ⟨by rw [List.length_set]; exact hl, fun a => ?_, fun a ha => ?_⟩
  · rw [get a]; split
    · rename_i e; subst e; have := h.rest a (Nat.le_refl _); constructor
      · constructor <;> intro _ <;> omega
      · omega
    · exact h.rng a
  · rw [get a, if_neg (by omega)]; exact h.rest a (by omega)
theorem mod7 (k : Nat) : 0 ≤ (k : Int).tmod 7 ∧ (k : Int).tmod 7 ≤ 6 := by
  rw [Int.tmod_eq_emod_of_nonneg (by omega)]
  omega
end Go.Proofs.Ytnpgeohkmdcbkaa.Aq

namespace Go.Proofs.Ytnpgeohkmdcbkaa.Aq
open Go Go.RowKit

/-- A new list of numbers. -/
def NewL (w0 : World) (xs : List Int) (v : Value) (w : World) : Prop := ∃ A c, v = .slice A xs.length c ∧ (own (eInt .i64) 1 3 A xs.length c xs).p w ∧ ∀ b, (own (eInt .i64) 1 3 A xs.length c xs).fp b → w0.heap.size ≤ b
theorem ok_callL {n : Nat} {ops : Array Oper} {E : Env} {o : Oper} {w0 : World} {f : FuncId} {xs : List Operand} {ts : Array TypeId} {vs : List Value} {res : List Int} (hg : o.guard = none) (ho : o.op = .call { callee := .value (.func f), args := xs.toArray, argTypes := ts }) (hf : ∀ args w, (callFunc f args).run Try.prog w = .ok (.enter f args) w)
    (hx : E.all none xs = some vs) (hc : ∀ w, Gr w0 w → RetL f vs w res) : OpOk Try.prog n ops (Gr w0) E o (.sat (NewL w0 res)) :=
  ok_call (NewL w0 res) hg ho hf hx fun w hg => (hc w hg).mono fun _ _ ⟨A, c, he, hg2, hfr, hown⟩ => ⟨_, he, hg2, fun _ hg3 => ⟨A, c, rfl, Asn.grow _ hown hg3, fun b hb => Nat.le_trans hg.size (hfr b hb)⟩⟩
theorem St.one' {B : Nat} {we w w' : World} {L : List Asn} (h : St B we w L) (hg : Gr w w') {A : Option Addr} {m c : Nat} {xs : List Int} (h1 : (own (eInt .i64) 1 3 A m c xs).p w') (f1 : ∀ b, (own (eInt .i64) 1 3 A m c xs).fp b → w.heap.size ≤ b) (b1 : m ≤ 140737488351232) :
    St B we w' (sl (eInt .i64) 1 A m c xs :: L) := h.newl [sl (eInt .i64) 1 A m c xs] hg fun a ha => by
  simp only [List.mem_cons, List.not_mem_nil, or_false] at ha
  subst ha; exact ⟨rfl, own_sl h1 b1, own_fp f1⟩
theorem St.two' {B : Nat} {we w w' : World} {L : List Asn} (h : St B we w L) (hg : Gr w w') {A A2 : Option Addr} {m c m2 c2 : Nat} {xs ys : List Int} (h1 : (own (eInt .i64) 1 3 A m c xs).p w') (f1 : ∀ b, (own (eInt .i64) 1 3 A m c xs).fp b → w.heap.size ≤ b) (b1 : m ≤ 140737488351232)
    (h2 : (own (eInt .i64) 1 3 A2 m2 c2 ys).p w') (f2 : ∀ b, (own (eInt .i64) 1 3 A2 m2 c2 ys).fp b → w.heap.size ≤ b) (b2 : m2 ≤ 140737488351232) : St B we w' (sl (eInt .i64) 1 A m c xs :: sl (eInt .i64) 1 A2 m2 c2 ys :: L) := h.newl [sl (eInt .i64) 1 A m c xs, sl (eInt .i64) 1 A2 m2 c2 ys] hg fun a ha => by
  simp only [List.mem_cons, List.not_mem_nil, or_false] at ha
  rcases ha with rfl | rfl
  · exact ⟨rfl, own_sl h1 b1, own_fp f1⟩
  · exact ⟨rfl, own_sl h2 b2, own_fp f2⟩
theorem St.three' {B : Nat} {we w w' : World} {L : List Asn} (h : St B we w L) (hg : Gr w w') {A A2 A3 : Option Addr} {m c m2 c2 m3 c3 : Nat} {xs ys zs : List Int} (h1 : (own (eInt .i64) 1 3 A m c xs).p w') (f1 : ∀ b, (own (eInt .i64) 1 3 A m c xs).fp b → w.heap.size ≤ b) (b1 : m ≤ 140737488351232)
    (h2 : (own (eInt .i64) 1 3 A2 m2 c2 ys).p w') (f2 : ∀ b, (own (eInt .i64) 1 3 A2 m2 c2 ys).fp b → w.heap.size ≤ b) (b2 : m2 ≤ 140737488351232)
    (h3 : (own (eInt .i64) 1 3 A3 m3 c3 zs).p w') (f3 : ∀ b, (own (eInt .i64) 1 3 A3 m3 c3 zs).fp b → w.heap.size ≤ b) (b3 : m3 ≤ 140737488351232) : St B we w' (sl (eInt .i64) 1 A m c xs :: sl (eInt .i64) 1 A2 m2 c2 ys :: sl (eInt .i64) 1 A3 m3 c3 zs :: L) := h.newl [sl (eInt .i64) 1 A m c xs, sl (eInt .i64) 1 A2 m2 c2 ys, sl (eInt .i64) 1 A3 m3 c3 zs] hg fun a ha => by
  simp only [List.mem_cons, List.not_mem_nil, or_false] at ha
  rcases ha with rfl | rfl | rfl
  · exact ⟨rfl, own_sl h1 b1, own_fp f1⟩
  · exact ⟨rfl, own_sl h2 b2, own_fp f2⟩
  · exact ⟨rfl, own_sl h3 b3, own_fp f3⟩
end Go.Proofs.Ytnpgeohkmdcbkaa.Aq

namespace Go.Proofs.Ytnpgeohkmdcbkaa.Aq

theorem to_path {N t : Nat} {E : Nat → Nat → Prop} {D : List Int} (L : Low N E (hTo N t) D) {F : Nat → Int} (hF : ∀ u w, u < N → w < N → E u w → F w ≤ F u + 1) : ∀ v, v < N → D.getD v 0 < N → F t ≤ F v + D.getD v 0 := by
  have key : ∀ n : Nat, ∀ v, v < N → D.getD v 0 ≤ n → D.getD v 0 < N → F t ≤ F v + D.getD v 0 := by
    intro n
    induction n with
    | zero =>
      intro v h1 hn hlt
      rcases L.why v h1 with e | ⟨w, w1, _, e⟩
      · unfold hTo at e; split at e
        · rename_i e2; subst e2; omega
        · omega
      · have := L.nn w w1; omega
    | succ n ih =>
      intro v h1 hn hlt
      rcases L.why v h1 with e | ⟨w, w1, hE, e⟩
      · unfold hTo at e; split at e
        · rename_i e2; subst e2; omega
        · omega
      · have a := ih w w1 (by omega) (by omega)
        have b := hF v w h1 w1 hE
        omega
  intro v h1 hlt
  have := L.nn v h1
  exact key (D.getD v 0).toNat v h1 (by omega) hlt
theorem Low.at_t {N t : Nat} {E : Nat → Nat → Prop} {D : List Int} (L : Low N E (hTo N t) D) (ht : t < N) : D.getD t 0 = 0 := by
  have h1 := L.nn t ht
  have h2 := L.le t ht
  unfold hTo at h2
  rw [if_pos rfl] at h2
  omega
theorem Low.le_N {N t : Nat} {E : Nat → Nat → Prop} {D : List Int} (L : Low N E (hTo N t) D) {v : Nat} (hv : v < N) : 0 ≤ D.getD v 0 ∧ D.getD v 0 ≤ N := by
  refine ⟨L.nn v hv, Int.le_trans (L.le v hv) ?_⟩
  unfold hTo; split <;> omega
/-- From one to another it is as far as the other way told. -/
theorem to_from {N s t : Nat} {E : Nat → Nat → Prop} {D G : List Int} (L : Low N E (hTo N t) D) (M : Low N (fun u w => E w u) (hTo N s) G) (hs : s < N) (ht : t < N) : D.getD s 0 = G.getD t 0 := by
  have h1 := L.le_N hs
  have h2 := M.le_N ht
  have h3 : D.getD s 0 < N → G.getD t 0 ≤ D.getD s 0 := fun h => by
    have := to_path L (F := fun v => G.getD v 0) (fun u w hu hw he => M.ok w u hw hu he) s hs h
    have := M.at_t hs
    omega
  have h4 : G.getD t 0 < N → D.getD s 0 ≤ G.getD t 0 := fun h => by
    have := to_path M (F := fun v => D.getD v 0) (fun u w hu hw he => L.ok w u hw hu he) t ht h
    have := L.at_t ht
    omega
  omega
/-- Over a third one it is no nearer. -/
theorem over_third {N s t x : Nat} {E : Nat → Nat → Prop} {D G : List Int} (L : Low N E (hTo N t) D) (M : Low N (fun u w => E w u) (hTo N s) G) (hx : x < N) (h : D.getD x 0 < N) : G.getD t 0 ≤ G.getD x 0 + D.getD x 0 :=
  to_path L (F := fun v => G.getD v 0) (fun u w hu hw he => M.ok w u hw hu he) x hx h
/-- The arcs turned round. -/
theorem edge_turn {c : Cs} (hw : WF c) {res back : List Int} (hb : ∀ a, a < c.Head.length → back.getD a 0 = res.getD (c.Rev.getD a 0).toNat 0) {u w : Nat} (hu : u < c.N) (hww : w < c.N) : Edge c back u w ↔ Edge c res w u := by
  rw [edge_seg hw hu, edge_rev hw hu hww]
  have hle := first_mono hw (show u + 1 ≤ c.N by omega) (Nat.le_refl _)
  rw [hw.fN] at hle
  constructor
  · rintro ⟨a, h1, h2, h3, h4⟩; exact ⟨a, h1, h2, h3, by rw [← hb a (by omega)]; exact h4⟩
  · rintro ⟨a, h1, h2, h3, h4⟩; exact ⟨a, h1, h2, h3, by rw [hb a (by omega)]; exact h4⟩
theorem turn1 {c : Cs} (hw : WF c) {res back : List Int} (hl : res.length = c.Head.length) (hl2 : back.length = c.Head.length) (hb : ∀ a, a < c.Head.length → back.getD a 0 = res.getD (c.Rev.getD a 0).toNat 0) {v : Nat} (hv : v < c.N) : toL c res (v : Int) = fromL c back (v : Int) :=
  (toL_low (inB_of hl hv)).unique (fromL_low (inB_of hl2 hv)) (fun _ _ => rfl) fun u w hu hww => (edge_turn hw hb hww hu).symm
theorem turn2 {c : Cs} (hw : WF c) {res back : List Int} (hl : res.length = c.Head.length) (hl2 : back.length = c.Head.length) (hb : ∀ a, a < c.Head.length → back.getD a 0 = res.getD (c.Rev.getD a 0).toNat 0) {v : Nat} (hv : v < c.N) : fromL c res (v : Int) = toL c back (v : Int) :=
  (fromL_low (inB_of hl hv)).unique (toL_low (inB_of hl2 hv)) (fun _ _ => rfl) fun u w hu hww => (edge_turn hw hb hu hww).symm
theorem toL_at {c : Cs} {res : List Int} (hl : res.length = c.Head.length) {u v : Nat} (hu : u < c.N) (hv : v < c.N) : 0 ≤ (toL c res (u : Int)).getD v 0 ∧ (toL c res (u : Int)).getD v 0 ≤ c.N := (toL_low (inB_of hl hu)).le_N hv
theorem fromL_at {c : Cs} {res : List Int} (hl : res.length = c.Head.length) {u v : Nat} (hu : u < c.N) (hv : v < c.N) : 0 ≤ (fromL c res (u : Int)).getD v 0 ∧ (fromL c res (u : Int)).getD v 0 ≤ c.N := (fromL_low (inB_of hl hu)).le_N hv
end Go.Proofs.Ytnpgeohkmdcbkaa.Aq

namespace Go.Proofs.Ytnpgeohkmdcbkaa.Aq

theorem filt_sorted {p : Nat → Bool} {M i j : Nat} (hij : i < j) (hj : j < (filt p M).length) : (filt p M).getD i 0 < (filt p M).getD j 0 := by
  have hp : (filt p M).Pairwise (· < ·) := by
    unfold filt
    rw [List.pairwise_map]
    refine List.Pairwise.imp (fun {a b} h => ?_) (List.pairwise_lt_range.filter p)
    exact Int.ofNat_lt.2 h
  have := List.pairwise_iff_getElem.1 hp i j (by omega) hj hij
  simpa [List.getD_eq_getElem?_getD, hj, (by omega : i < (filt p M).length)] using this
theorem filt_one {p : Nat → Bool} {M j : Nat} (hj : j < M) (h : ∀ x, x < M → (p x = true ↔ x = j)) : filt p M = [(j : Int)] := by
  unfold filt
  rw [filter_one p j M hj ((h j hj).2 rfl) fun x hx hp => (h x hx).1 hp]
  rfl
theorem hiTo_ex {N : Nat} {D : List Int} {k : Nat} : ∀ {v : Nat}, k < hiTo N D v → ∃ u, u < v ∧ D.getD u 0 ≠ (N : Int) ∧ k ≤ (D.getD u 0).toNat
  | 0, h => absurd h (Nat.not_lt_zero k)
  | v + 1, h => by
    unfold hiTo at h
    split at h
    · obtain ⟨u, h1, h2⟩ := hiTo_ex h; exact ⟨u, by omega, h2⟩
    · rename_i hne
      rcases Nat.lt_or_ge k (hiTo N D v) with h3 | h3
      · obtain ⟨u, h1, h2⟩ := hiTo_ex h3; exact ⟨u, by omega, h2⟩
      · exact ⟨v, by omega, hne, by omega⟩
theorem low_down {N t : Nat} {E : Nat → Nat → Prop} {D : List Int} (L : Low N E (hTo N t) D) : ∀ (n u : Nat), u < N → D.getD u 0 ≤ n → D.getD u 0 < N → ∀ k : Nat, (k : Int) ≤ D.getD u 0 → ∃ w, w < N ∧ D.getD w 0 = k
  | 0, u, hu, hn, hlt, k, hk => ⟨u, hu, by omega⟩
  | n + 1, u, hu, hn, hlt, k, hk => by
    by_cases he : D.getD u 0 = k
    · exact ⟨u, hu, he⟩
    · rcases L.why u hu with e | ⟨w, w1, _, e⟩
      · unfold hTo at e; split at e <;> omega
      · exact low_down L n w w1 (by omega) (by omega) k (by omega)

section
variable {c : Cs} {res : List Int} {t : Nat} (hl : res.length = c.Head.length) (ht : t < c.N)
include hl ht
theorem row_len : (toL c res (t : Int)).length = c.N := toL_len hl ht
theorem row_full {k : Nat} (hk : k < hiTo c.N (toL c res (t : Int)) c.N) : ∃ w, w < c.N ∧ (toL c res (t : Int)).getD w 0 = (k : Int) := by
  have L := toL_low (inB_of hl ht)
  obtain ⟨u, h1, h2, h3⟩ := hiTo_ex hk
  have := L.le_N h1
  exact low_down L _ u h1 (Int.le_of_eq (Int.toNat_of_nonneg this.1).symm) (by omega) k (by omega)
theorem row_ne {k : Nat} (hk : k < hiTo c.N (toL c res (t : Int)) c.N) : 0 < (rowAt (toL c res (t : Int)) c.N k).length := by
  obtain ⟨w, h1, h2⟩ := row_full hl ht hk
  exact List.length_pos_of_mem (mem_rowAt.2 ⟨w, h1, h2, rfl⟩)
theorem row_zero : rowAt (toL c res (t : Int)) c.N 0 = [(t : Int)] := by
  have L := toL_low (inB_of hl ht)
  refine filt_one ht fun x hx => ?_
  rw [decide_eq_true_eq]
  constructor
  · intro h0
    rcases L.why x hx with e | ⟨w, w1, _, e⟩
    · unfold hTo at e; split at e
      · rename_i e2; exact e2
      · have := ht; omega
    · have := L.nn w w1; omega
  · intro h0; subst h0; exact L.at_t ht
end

/-- Who has been met, ahead of row k and in the first i of it. -/
def metF (D : List Int) (N k i : Nat) (x : Int) : Int := if (∃ v : Nat, v < N ∧ x = v ∧ D.getD v 0 < (k : Int)) ∨ x ∈ (rowAt D N k).take i then 1 else 0
theorem metF_start {D : List Int} {N : Nat} (h : ∀ v, v < N → 0 ≤ D.getD v 0) (x : Int) : metF D N 0 0 x = 0 := by
  unfold metF
  rw [if_neg]
  rintro (⟨v, h1, h2, h3⟩ | h1)
  · have := h v h1; omega
  · simp at h1
theorem take_mem {xs : List Int} {i : Nat} (hi : i < xs.length) (x : Int) : x ∈ xs.take (i + 1) ↔ x ∈ xs.take i ∨ x = xs.getD i 0 := by
  rw [List.take_succ_eq_append_getElem hi, List.mem_append, List.mem_singleton]
  simp [List.getD_eq_getElem?_getD, hi]
theorem metF_step {D : List Int} {N k i : Nat} (hi : i < (rowAt D N k).length) {f : Int → Int} (hf : ∀ x, f x = metF D N k i x) : ∀ x, (fun x => if x = (rowAt D N k).getD i 0 then f ((rowAt D N k).getD i 0) + 1 else f x) x = metF D N k (i + 1) x := fun x => by
  have hm : (rowAt D N k).getD i 0 ∈ rowAt D N k := by simp [List.getD_eq_getElem?_getD, hi]
  obtain ⟨u, h1, h2, h3⟩ := mem_rowAt.1 hm
  show (if x = _ then _ else _) = _
  by_cases hx : x = (rowAt D N k).getD i 0
  · rw [if_pos hx, hf]
    unfold metF
    rw [if_neg, if_pos]
    · rfl
    · right; rw [take_mem hi]; exact .inr hx
    · rintro (⟨v, h4, h5, h6⟩ | h4)
      · have : v = u := by omega
        subst this; omega
      · obtain ⟨j, hj, he⟩ := List.mem_iff_getElem.1 h4
        rw [List.length_take] at hj
        rw [List.getElem_take] at he
        have := filt_sorted (p := fun u => decide (D.getD u 0 = (k : Int))) (M := N) (i := j) (j := i) (by omega) hi
        have e1 : (rowAt D N k).getD j 0 = (rowAt D N k)[j] := by simp [List.getD_eq_getElem?_getD, (by omega : j < (rowAt D N k).length)]
        have e2 : (rowAt D N k).getD j 0 < (rowAt D N k).getD i 0 := this
        omega
  · rw [if_neg hx, hf]
    unfold metF
    congr 1
    rw [take_mem hi]
    exact propext (or_congr Iff.rfl ⟨.inl, fun h => h.elim id fun h => absurd h hx⟩)
theorem metF_next {D : List Int} {N k : Nat} (x : Int) : metF D N k (rowAt D N k).length x = metF D N (k + 1) 0 x := by
  unfold metF
  congr 1
  rw [List.take_length, List.take_zero]
  refine propext ⟨?_, ?_⟩
  · rintro (⟨v, h1, h2, h3⟩ | h1)
    · exact .inl ⟨v, h1, h2, by omega⟩
    · obtain ⟨u, h2, h3, h4⟩ := mem_rowAt.1 h1
      exact .inl ⟨u, h2, h4, by omega⟩
  · rintro (⟨v, h1, h2, h3⟩ | h1)
    · by_cases he : D.getD v 0 = (k : Int)
      · exact .inr (mem_rowAt.2 ⟨v, h1, he, h2⟩)
      · exact .inl ⟨v, h1, h2, by omega⟩
    · cases h1
theorem metF_end {D : List Int} {N v : Nat} (hv : v < N) (h : ∀ u, u < N → 0 ≤ D.getD u 0 ∧ D.getD u 0 ≤ N) (hD : D.length = N) : (decide (metF D N (hiTo N D N) 0 v = 1) == decide (D.getD v 0 < (N : Int))) = true := by
  by_cases hlt : D.getD v 0 < (N : Int)
  · have h1 := hiTo_gt (N := N) (D := D) hv (by omega)
    have h2 := h v hv
    have : metF D N (hiTo N D N) 0 v = 1 := by unfold metF; rw [if_pos (.inl ⟨v, hv, rfl, by omega⟩)]
    rw [this, decide_eq_true hlt]; rfl
  · have : metF D N (hiTo N D N) 0 v = 0 := by
      unfold metF
      rw [if_neg]
      rintro (⟨u, h1, h2, h3⟩ | h1)
      · have : u = v := by omega
        subst this
        have := hiTo_le (N := N) (D := D) (v := N) (fun x hx => h x (by omega)) (by omega)
        omega
      · cases h1
    rw [this, decide_eq_false hlt]; rfl
end Go.Proofs.Ytnpgeohkmdcbkaa.Aq

namespace Go.Proofs.Ytnpgeohkmdcbkaa.Aq

def EE (c : Cs) (res : List Int) : Bool → Nat → Nat → Prop
  | true, u, w => Edge c res u w
  | false, u, w => Edge c res w u
def srcOf (c : Cs) : Bool → Nat → Nat
  | true, a => tailOf c a
  | false, a => (c.Head.getD a 0).toNat
def dstOf (c : Cs) : Bool → Nat → Nat
  | true, a => (c.Head.getD a 0).toNat
  | false, a => tailOf c a
theorem ee_arc {c : Cs} {res : List Int} {a : Nat} (ha : a < c.Head.length) (h : 0 < res.getD a 0) : ∀ b, EE c res b (srcOf c b a) (dstOf c b a)
  | true => ⟨a, ha, rfl, rfl, h⟩
  | false => ⟨a, ha, rfl, rfl, h⟩
theorem arc_ee {c : Cs} {res : List Int} {u w : Nat} : ∀ {b : Bool}, EE c res b u w → ∃ a, a < c.Head.length ∧ 0 < res.getD a 0 ∧ srcOf c b a = u ∧ dstOf c b a = w
  | true, ⟨a, h1, h2, h3, h4⟩ => ⟨a, h1, h4, h2, h3⟩
  | false, ⟨a, h1, h2, h3, h4⟩ => ⟨a, h1, h4, h3, h2⟩
/-- Those that have one that is a step nearer, over the first k arcs. -/
structure NearI (c : Cs) (res D : List Int) (b : Bool) (near : List Bool) (k : Nat) : Prop where
  len : near.length = c.N
  iff : ∀ v, v < c.N → (near.getD v false = true ↔ ∃ a, a < k ∧ 0 < res.getD a 0 ∧ srcOf c b a = v ∧ D.getD v 0 = D.getD (dstOf c b a) 0 + 1)
theorem NearI.start (c : Cs) (res D : List Int) (b : Bool) : NearI c res D b (List.replicate c.N false) 0 :=
  ⟨List.length_replicate, fun v hv => ⟨fun h => by simp [List.getD_eq_getElem?_getD, hv] at h, fun ⟨a, h, _⟩ => absurd h (Nat.not_lt_zero a)⟩⟩
theorem NearI.skip {c : Cs} {res D : List Int} {b : Bool} {near : List Bool} {k : Nat} (h : NearI c res D b near k) (h0 : ¬ 0 < res.getD k 0) : NearI c res D b near (k + 1) :=
  ⟨h.len, fun v hv => (h.iff v hv).trans ⟨fun ⟨a, h1, h2⟩ => ⟨a, by omega, h2⟩, fun ⟨a, h1, h2, h3⟩ => ⟨a, by
    rcases Nat.lt_or_ge a k with h4 | h4
    · exact h4
    · have : a = k := by omega
      subst this; exact absurd h2 h0, h2, h3⟩⟩⟩
theorem NearI.add {c : Cs} {res D : List Int} {b : Bool} {near : List Bool} {k x y : Nat} (h : NearI c res D b near k) (hx : x < c.N) (hxs : x = srcOf c b k) (hys : y = dstOf c b k) (h0 : 0 < res.getD k 0) :
    NearI c res D b (near.set x (near.getD x false || decide (D.getD x 0 = D.getD y 0 + 1))) (k + 1) := by
  have hl := h.len
  refine ⟨by rw [List.length_set]; exact hl, fun v hv => ?_⟩
  have get : (near.set x (near.getD x false || decide (D.getD x 0 = D.getD y 0 + 1))).getD v false = if v = x then (near.getD x false || decide (D.getD x 0 = D.getD y 0 + 1)) else near.getD v false := by
    simp only [List.getD_eq_getElem?_getD, List.getElem?_set]
    by_cases h1 : x = v
    · subst h1; simp [hl, hx]
    · simp [h1, Ne.symm h1]
  rw [get]
  split
  · rename_i e
    subst e
    rw [Bool.or_eq_true, decide_eq_true_eq, h.iff v hv]
    constructor
    · rintro (⟨a, h1, h2⟩ | h1)
      · exact ⟨a, by omega, h2⟩
      · exact ⟨k, by omega, h0, hxs.symm, by rw [← hys]; exact h1⟩
    · rintro ⟨a, h1, h2, h3, h4⟩
      rcases Nat.lt_or_ge a k with h5 | h5
      · exact .inl ⟨a, h5, h2, h3, h4⟩
      · have : a = k := by omega
        subst this; right; rw [hys]; exact h4
  · rename_i e
    rw [h.iff v hv]
    constructor
    · rintro ⟨a, h1, h2⟩; exact ⟨a, by omega, h2⟩
    · rintro ⟨a, h1, h2, h3, h4⟩
      refine ⟨a, ?_, h2, h3, h4⟩
      rcases Nat.lt_or_ge a k with h5 | h5
      · exact h5
      · have : a = k := by omega
        subst this; exact absurd (hxs.trans h3).symm e
theorem near_end {c : Cs} {res D : List Int} {b : Bool} {near : List Bool} {t v : Nat} (L : Low c.N (EE c res b) (hTo c.N t) D) (h : NearI c res D b near c.Head.length) (hv : v < c.N) (h0 : 0 < D.getD v 0) (h1 : D.getD v 0 < c.N) : near.getD v false = true := by
  rcases L.why v hv with e | ⟨w, w1, hE, e⟩
  · unfold hTo at e; split at e <;> omega
  · obtain ⟨a, h2, h3, h4, h5⟩ := arc_ee hE
    exact (h.iff v hv).2 ⟨a, h2, h3, h4, by rw [h5]; exact e⟩
theorem Low.zero {N t : Nat} {E : Nat → Nat → Prop} {D : List Int} (L : Low N E (hTo N t) D) (ht : t < N) {v : Nat} (hv : v < N) : (decide (D.getD v 0 = 0) == decide (v = t)) = true := by
  by_cases h : v = t
  · subst h; rw [L.at_t ht]; simp
  · have : ¬ D.getD v 0 = 0 := by
      rcases L.why v hv with e | ⟨w, w1, _, e⟩
      · unfold hTo at e; rw [if_neg h] at e; omega
      · have := L.nn w w1; omega
    rw [decide_eq_false h, decide_eq_false this]; rfl
end Go.Proofs.Ytnpgeohkmdcbkaa.Aq

namespace Go.Proofs.Ytnpgeohkmdcbkaa.Aq

/-- An open arc of u that leads nearer. -/
def PN (c : Cs) (res D : List Int) (u b : Nat) : Prop := c.First.getD u 0 ≤ (b : Int) ∧ (b : Int) < c.First.getD (u + 1) 0 ∧ 0 < res.getD b 0 ∧ D.getD (c.Head.getD b 0).toNat 0 < D.getD u 0
/-- The first one. -/
def NearR (c : Cs) (res D : List Int) (u a : Nat) : Prop := PN c res D u a ∧ ∀ b, b < a → ¬ PN c res D u b
theorem near_unique {c : Cs} {res D : List Int} {u a b : Nat} (h : NearR c res D u a) (k : NearR c res D u b) : a = b := by
  rcases Nat.lt_trichotomy a b with h1 | h1 | h1
  · exact absurd h.1 (k.2 a h1)
  · exact h1
  · exact absurd k.1 (h.2 b h1)
noncomputable def nearA (c : Cs) (res D : List Int) (u : Nat) : Nat := Classical.epsilon fun a => NearR c res D u a
theorem nearA_eq {c : Cs} {res D : List Int} {u a : Nat} (h : NearR c res D u a) : nearA c res D u = a := near_unique (Classical.epsilon_spec (p := fun a => NearR c res D u a) ⟨a, h⟩) h
noncomputable def wayL (c : Cs) (res D : List Int) : Nat → Nat → List Int
  | 0, _ => []
  | n + 1, u => (nearA c res D u : Int) :: wayL c res D n (c.Head.getD (nearA c res D u) 0).toNat
theorem wayL_len (c : Cs) (res D : List Int) : ∀ n u, (wayL c res D n u).length = n
  | 0, _ => rfl
  | n + 1, u => by unfold wayL; rw [List.length_cons, wayL_len]

section
variable {c : Cs} {res D : List Int} {t : Nat} (hw : WF c) (L : Low c.N (Edge c res) (hTo c.N t) D)
include hw L
theorem near_ex {u : Nat} (hu : u < c.N) (h0 : 0 < D.getD u 0) (h1 : D.getD u 0 < c.N) : ∃ a, NearR c res D u a := by
  have hex : ∃ a, PN c res D u a := by
    rcases L.why u hu with e | ⟨w, w1, hE, e⟩
    · unfold hTo at e; split at e <;> omega
    · obtain ⟨a, h2, h3, h4, h5⟩ := (edge_seg hw hu).1 hE
      exact ⟨a, h2, h3, h5, by rw [h4]; omega⟩
  have key : ∀ n a : Nat, a ≤ n → PN c res D u a → ∃ a, NearR c res D u a := by
    intro n
    induction n with
    | zero => intro a ha hp; exact ⟨a, hp, fun b hb => absurd hb (by omega)⟩
    | succ n ih =>
      intro a ha hp
      by_cases hb : ∃ b, b < a ∧ PN c res D u b
      · obtain ⟨b, h2, h3⟩ := hb; exact ih b (by omega) h3
      · exact ⟨a, hp, fun b h2 h3 => hb ⟨b, h2, h3⟩⟩
  obtain ⟨a, ha⟩ := hex
  exact key a a (Nat.le_refl _) ha
/-- What a nearer one is. -/
theorem near_is {u a : Nat} (hu : u < c.N) (h : PN c res D u a) : a < c.Head.length ∧ tailOf c a = u ∧ (c.Head.getD a 0).toNat < c.N ∧ D.getD (c.Head.getD a 0).toNat 0 = D.getD u 0 - 1 := by
  obtain ⟨h1, h2, h3, h4⟩ := h
  have hf := seg_rng hw hu
  have ha : a < c.Head.length := by omega
  have hh := hw.hd a ha
  have htl := tail_eq hw hu h1 h2
  have := L.ok u (c.Head.getD a 0).toNat hu (by omega) ⟨a, ha, htl, rfl, h3⟩
  exact ⟨ha, htl, by omega, by omega⟩
end
/-- Is there a way? -/
noncomputable def wayB (c : Cs) (res : List Int) (s t : Int) : Bool := inB c res t && decide (0 ≤ s) && decide (s < c.N) && decide ((toL c res t).getD s.toNat 0 < c.N)
noncomputable def wayF (c : Cs) (res : List Int) (s t : Int) : List Int := if wayB c res s t = true then wayL c res (toL c res t) ((toL c res t).getD s.toNat 0).toNat s.toNat else []
theorem wayB_iff {c : Cs} {res : List Int} {s t : Int} : wayB c res s t = true ↔ inB c res t = true ∧ 0 ≤ s ∧ s < c.N ∧ (toL c res t).getD s.toNat 0 < c.N := by
  unfold wayB
  rw [Bool.and_eq_true, Bool.and_eq_true, Bool.and_eq_true, decide_eq_true_eq, decide_eq_true_eq, decide_eq_true_eq]
  exact ⟨fun ⟨⟨⟨a, b⟩, c⟩, d⟩ => ⟨a, b, c, d⟩, fun ⟨a, b, c, d⟩ => ⟨⟨⟨a, b⟩, c⟩, d⟩⟩
end Go.Proofs.Ytnpgeohkmdcbkaa.Aq

namespace Go.Proofs.Ytnpgeohkmdcbkaa.Aq

/-- Along no arc but those of S do they fall by more than one. -/
def Flatly (c : Cs) (res h : List Int) : Prop := ∀ u w, u < c.N → w < c.N → EdgeS c res u w → h.getD u 0 ≤ h.getD w 0 + 1
theorem steep_none {c : Cs} (hw : WF c) {res h : List Int} (hm : mayB c res h = true) : steepL c res h = [] ↔ Flatly c res h := by
  rw [List.eq_nil_iff_forall_not_mem]
  constructor
  · rintro hn u w hu hww ⟨hus, a, h1, h2, h3, h4⟩
    have h5 := hn (a : Int)
    rw [steepL, mem_down hm h1] at h5
    rcases Int.lt_or_le (h.getD w 0 + 1) (h.getD u 0) with h6 | h6
    · refine absurd ?_ h5
      unfold downP
      rw [h2, h3, decide_eq_false (by omega : ¬ (u : Int) = c.S), decide_eq_true h4, show ((fun k : Int => decide (1 < k)) (h.getD u 0 - h.getD w 0)) = true from decide_eq_true (by omega)]
      rfl
    · exact h6
  · intro hf x hx
    obtain ⟨h0, h1⟩ := downL_rng hx
    obtain ⟨a, rfl⟩ : ∃ a : Nat, x = a := ⟨x.toNat, by omega⟩
    have ha : a < c.Head.length := by omega
    rw [steepL, mem_down hm ha] at hx
    unfold downP at hx
    rw [Bool.and_eq_true, Bool.and_eq_true, Bool.not_eq_true', decide_eq_false_iff_not, decide_eq_true_eq, decide_eq_true_eq] at hx
    have hh := hw.hd a ha
    have ht := tail_at hw ha
    have := hf (tailOf c a) (c.Head.getD a 0).toNat ht.1 (by omega) ⟨by omega, a, ha, rfl, rfl, hx.1.2⟩
    omega
theorem valid_iff {c : Cs} (hw : WF c) {res h : List Int} : validB c res h = true ↔ mayB c res h = true ∧ Flatly c res h := by
  unfold validB
  rw [Bool.and_eq_true, decide_eq_true_eq]
  constructor
  · rintro ⟨h1, h2⟩
    exact ⟨h1, (steep_none hw h1).1 (List.eq_nil_of_length_eq_zero (by omega))⟩
  · rintro ⟨h1, h2⟩
    exact ⟨h1, by rw [(steep_none hw h1).2 h2]; rfl⟩
/-- Exact heights are heights. -/
theorem low_right {c : Cs} (hw : WF c) {res h D : List Int} (hr : RightH c h) (L : Low c.N (EdgeS c res) (fun v => h.getD v 0) D) : RightH c D := by
  refine ⟨L.len, fun v hv => ⟨L.nn v hv, Int.le_trans (L.le v hv) (hr.rng v hv).2⟩, ?_, ?_⟩
  · have h1 := L.le c.T hw.t
    have h2 := L.nn c.T hw.t
    have h3 := hr.t
    omega
  · rcases L.why c.S hw.s with e | ⟨w, _, ⟨hne, _⟩, _⟩
    · exact e.trans hr.s
    · exact absurd rfl hne
theorem top_right {c : Cs} (hw : WF c) {h : List Int} (hl : h.length = c.N) (hh : ∀ v, v < c.N → h.getD v 0 = hTo c.N c.T v) : RightH c h := by
  refine ⟨hl, fun v hv => ?_, ?_, ?_⟩
  · rw [hh v hv]; unfold hTo; split <;> omega
  · rw [hh c.T hw.t]; unfold hTo; rw [if_pos rfl]
  · rw [hh c.S hw.s]; unfold hTo; rw [if_neg hw.ne]
theorem low_congr {N : Nat} {E E' : Nat → Nat → Prop} {h h' : Nat → Int} {D : List Int} (L : Low N E h D) (hh : ∀ v, v < N → h v = h' v) (hE : ∀ u w, u < N → w < N → (E u w ↔ E' u w)) : Low N E' h' D :=
  ⟨L.len, L.nn, fun v hv => by rw [← hh v hv]; exact L.le v hv, fun u w hu hw he => L.ok u w hu hw ((hE u w hu hw).2 he), fun v hv => (L.why v hv).elim (fun e => .inl (e.trans (hh v hv))) fun ⟨w, h1, h2, h3⟩ => .inr ⟨w, h1, (hE v w hv h1).1 h2, h3⟩⟩
theorem exact_right {c : Cs} (hw : WF c) {res D : List Int} (L : Low c.N (EdgeS c res) (hTo c.N c.T) D) : RightH c D := by
  have e : ∀ v, v < c.N → hTo c.N c.T v = ((List.range c.N).map (hTo c.N c.T)).getD v 0 := fun v hv => by simp [List.getD_eq_getElem?_getD, hv]
  exact low_right hw (top_right hw (by simp) fun v hv => (e v hv).symm) (low_congr L e fun _ _ _ _ => Iff.rfl)
theorem low_flatly {c : Cs} {res D : List Int} {h : Nat → Int} (L : Low c.N (EdgeS c res) h D) : Flatly c res D := fun u w hu hw he => L.ok u w hu hw he
/-- The arcs of S shut. -/
theorem edge_shut {c : Cs} (hw : WF c) {res out : List Int} (h : ∀ a : Nat, out.getD a 0 = if c.First.getD c.S 0 ≤ (a : Int) ∧ (a : Int) < c.First.getD (c.S + 1) 0 then 0 else res.getD a 0) {u w : Nat} : Edge c out u w ↔ EdgeS c res u w := by
  constructor
  · rintro ⟨a, h1, h2, h3, h4⟩
    rw [h a] at h4
    split at h4
    · omega
    · rename_i h5
      refine ⟨fun e => h5 ?_, a, h1, h2, h3, h4⟩
      have ht := tail_at hw h1
      rw [h2, e] at ht
      exact ht.2
  · rintro ⟨hne, a, h1, h2, h3, h4⟩
    refine ⟨a, h1, h2, h3, ?_⟩
    rw [h a, if_neg]
    · exact h4
    · rintro ⟨h5, h6⟩
      exact hne (h2.symm.trans (tail_eq hw hw.s h5 h6))
theorem set_same {D : List Int} {u : Nat} {z : Int} (h : D.getD u 0 = z) (hu : u < D.length) : D.set u z = D := by
  refine List.ext_getElem (by simp) fun i h1 h2 => ?_
  rw [List.getElem_set]
  split
  · rename_i e; subst e
    rw [List.getD_eq_getElem?_getD, List.getElem?_eq_getElem hu, Option.getD_some] at h
    exact h.symm
  · rfl
end Go.Proofs.Ytnpgeohkmdcbkaa.Aq

namespace Go.Proofs.Ytnpgeohkmdcbkaa.Aq

/-- One pass over the arcs, those ahead of a done. -/
structure PassI (N : Nat) (E : Nat → Nat → Prop) (h : Nat → Int) (src dst : Nat → Nat) (opn : Nat → Prop) (D0 : List Int) (more : Bool) (D : List Int) (a : Nat) : Prop where
  pre : LowPre N E h D
  chg : more = true → tot D < tot D0
  same : more = false → D = D0 ∧ ∀ b, b < a → opn b → D.getD (src b) 0 ≤ D.getD (dst b) 0 + 1
section
variable {N : Nat} {E : Nat → Nat → Prop} {h : Nat → Int} {src dst : Nat → Nat} {opn : Nat → Prop} {D0 D : List Int} {more : Bool} {a : Nat}
theorem PassI.start (p : LowPre N E h D) : PassI N E h src dst opn D false D 0 := ⟨p, fun h => (by cases h), fun _ => ⟨rfl, fun b hb => absurd hb (Nat.not_lt_zero b)⟩⟩
theorem PassI.skip (p : PassI N E h src dst opn D0 more D a) (hk : opn a → D.getD (src a) 0 ≤ D.getD (dst a) 0 + 1) : PassI N E h src dst opn D0 more D (a + 1) :=
  ⟨p.pre, p.chg, fun hm => ⟨(p.same hm).1, fun b hb ho => by
    rcases Nat.lt_or_ge b a with h1 | h1
    · exact (p.same hm).2 b h1 ho
    · have : b = a := by omega
      subst this; exact hk ho⟩⟩
theorem PassI.step (p : PassI N E h src dst opn D0 more D a) {u x : Nat} (hu : u < N) (hx : x < N) (he : E u x) (hlt : D.getD x 0 + 1 < D.getD u 0) : PassI N E h src dst opn D0 true (D.set u (D.getD x 0 + 1)) (a + 1) := by
  refine ⟨p.pre.step hu hx he hlt, fun _ => ?_, fun hm => by cases hm⟩
  have h1 := tot_set (D := D) (u := u) (z := D.getD x 0 + 1) (by rw [p.pre.len]; exact hu) (by have := p.pre.nn x hx; omega) hlt
  cases more with
  | true => have := p.chg rfl; omega
  | false => rw [← (p.same rfl).1]; exact h1
theorem PassI.low {M : Nat} (p : PassI N E h src dst opn D0 false D M) (hE : ∀ u x, u < N → x < N → E u x → ∃ b, b < M ∧ opn b ∧ src b = u ∧ dst b = x) : Low N E h D :=
  p.pre.low fun u x hu hx he => by
    obtain ⟨b, h1, h2, h3, h4⟩ := hE u x hu hx he
    have := (p.same rfl).2 b h1 h2
    rwa [h3, h4] at this
end
def muM (more : Bool) (D : List Int) : Nat := 2 * tot D + (if more = true then 1 else 0)
theorem mu_pass {N : Nat} {E : Nat → Nat → Prop} {h : Nat → Int} {src dst : Nat → Nat} {opn : Nat → Prop} {D0 D : List Int} {more : Bool} {a : Nat} (p : PassI N E h src dst opn D0 more D a) : muM more D < muM true D0 := by
  unfold muM
  cases more with
  | true => have := p.chg rfl; simp; omega
  | false => rw [(p.same rfl).1]; simp
theorem ref_in {c : Cs} {res : List Int} {t : Int} : ((!decide ((res.length : Int) = c.Head.length) || decide (t < 0)) || decide ((c.N : Int) ≤ t)) = !inB c res t := by
  unfold inB
  rw [Bool.not_and, Bool.not_and]
  congr 1
  · congr 1
    rw [← decide_not]; exact decide_eq_decide.2 (by omega)
  · rw [← decide_not]; exact decide_eq_decide.2 (by omega)
end Go.Proofs.Ytnpgeohkmdcbkaa.Aq
