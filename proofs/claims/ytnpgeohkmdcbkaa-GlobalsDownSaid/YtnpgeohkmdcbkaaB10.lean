/- The walk of acequialow.Bools. The walks of cmp.isNaN, Compare and Or. The walk of globals.Risen. The engine, part 22: code within a round, out of what is known of it outside. No condition but those each lemma names. The engine, part 23: what a range over a function asks: facts that hang on cells alone, code behind a mark, a call of yield; append of zeros, full slices. No condition but those each lemma names. Plain mathematics: exact heights, found row by row, each row out of the one ahead. No condition but those that each lemma names. The library's sort of whole numbers, and its removal of neighbours that are alike: the kit's contracts, laid at this program, over facts of memory. No condition but those that each lemma names. The walk of globals.search.part. The walk of slices.Chunk and of its iterator. The walk of slices.Grow and of slices.Concat. The walk of globals.search.next. The walk of globals.Exact. The walk of acequialaw20.awake. No condition but those that each lemma names. -/
import Derived.Test.YtnpgeohkmdcbkaaB5
import Derived.Test.YtnpgeohkmdcbkaaB9
import Derived.OrdersIn
import Derived.RangeFuncNested
import Derived.Test.YtnpgeohkmdcbkaaB2
import Derived.RangeFuncCalls
import Derived.RangeFuncLeaves
import Derived.Lib.AppendZeros
import Derived.Shelf.SortM.Plain
import Derived.Shelf.SortM.SortNone
import Derived.Shelf.SlicesG.CompactI
import Derived.Sort.OwnSortedInts
import Derived.Test.YtnpgeohkmdcbkaaB4
namespace Go.Proofs.Ytnpgeohkmdcbkaa.Aq
open Go Go.RowKit

set_option maxRecDepth 10000 in
/-- acequialow.Bools. -/
theorem f61 (xs ys : List Bool) {m1 m2 : Nat} (A1 : Option Addr) (c1 : Nat) (A2 : Option Addr) (c2 : Nat) (w : World) (h1 : (sl eBool 1 A1 m1 c1 xs).p w) (h2 : (sl eBool 1 A2 m2 c2 ys).p w) : RetV 61 [.slice A1 m1 c1, .slice A2 m2 c2] w (.bool (decide (xs = ys))) := by
  refine calls_cw Try.func61 rfl Try.ntmps61 rfl ?_
  have hS := ((St.start w).args (Nat.le_refl _) _ h1 rfl).args (Nat.le_refl _) _ h2 rfl
  have hl1 := h1.1.1
  have hl2 := h2.1.1
  have hb1 := h1.2.1
  refine cw_seq ?_
  -- region 0
  refine cw_region ?_
  refine lw_v rfl rfl (ok_assign rfl (.n rfl) rfl) ?_
  refine lw_nil ?_
  refine Ends.keep [(0, .eq _), (1, .eq _)] (.cons rfl (.cons rfl .nil)) ?_
  refine ends_then ?_
  refine cw_seq ?_
  refine cw_seq ?_
  -- region 1
  refine cw_region ?_
  refine lw_v rfl rfl (ok_move rfl (.n rfl) rfl) ?_
  refine lw_v rfl rfl (ok_len rfl (.n rfl) Try.underlying27 rfl) ?_
  refine lw_v rfl rfl (ok_move rfl (.n rfl) rfl) ?_
  refine lw_v rfl rfl (ok_len rfl (.n rfl) Try.underlying27 rfl) ?_
  refine lw_v rfl rfl (ok_neq rfl (.n rfl) rfl rfl) ?_
  refine lw_nil ?_
  refine Ends.keep [(0, .eq _), (1, .eq _), (10, .eq _)] (.cons rfl (.cons rfl (.cons rfl .nil))) ?_
  refine ends_then ?_
  refine cw_cond rfl (fun h10 => ?_) (fun h10 => ?_)
  ·
    refine cw_seq ?_
    -- region 2
    refine cw_region ?_
    refine lw_v rfl rfl (ok_assign rfl (.n rfl) rfl) ?_
    refine lw_nil ?_
    refine Ends.keep [(4, .eq _)] (.cons rfl .nil) ?_
    refine ends_then ?_
    refine cw_ret ?_
    refine then_ret (?_)
    refine end_ret (res1 Try.results61 rfl) ⟨?_, hS.below⟩
    rw [decide_eq_false fun e => ?_]
    have hne : decide ((m1 : Int) = m2) = false := by simpa using h10
    have := of_decide_eq_false hne
    have := congrArg List.length e
    omega
  ·
    have hmm : m1 = m2 := by
      have hd : decide ((m1 : Int) = m2) = true := by simpa using h10
      have := of_decide_eq_true hd
      omega
    refine cw_skip ?_
    refine ends_then ?_
    refine cw_seq ?_
    refine cw_seq ?_
    -- region 3
    refine cw_region ?_
    refine lw_v rfl rfl (ok_move rfl (.n rfl) rfl) ?_
    refine lw_v rfl rfl (ok_len rfl (.n rfl) Try.underlying27 rfl) ?_
    refine lw_v rfl rfl (ok_move rfl (.n rfl) rfl) ?_
    refine lw_nil ?_
    refine Ends.keep [(0, .eq _), (1, .eq _), (12, .eq _), (13, .eq _)] (.cons rfl (.cons rfl (.cons rfl (.cons rfl .nil)))) ?_
    refine ends_then ?_
    refine cw_block ?_
    -- LOOP at region 4: changed live slots [13], kept [0, 1, 12]
    refine cw_loop [(0, .eq _), (1, .eq _), (12, .eq _)] (fun k : Nat => [(13, .eq (.int .i64 k))]) (fun k w' => (k ≤ m1 ∧ ∀ i, i < k → xs.getD i false = ys.getD i false) ∧ St w.heap.size w w' [sl eBool 1 A2 m2 c2 ys, sl eBool 1 A1 m1 c1 xs]) (fun k => m1 - k) 0 (.cons rfl (.cons rfl (.cons rfl .nil))) (.cons rfl (.cons rfl (.cons rfl (.cons rfl .nil)))) ⟨⟨Nat.zero_le _, fun i h => absurd h (Nat.not_lt_zero i)⟩, hS⟩ ?_
    clear hS
    rintro k wr ⟨⟨hk, hp⟩, hS⟩
    refine cw_seq ?_
    -- region 4
    refine cw_region ?_
    refine lw_v rfl rfl (ok_lss rfl (.n rfl) rfl rfl) ?_
    refine lw_nil ?_
    refine Ends.keep [(0, .eq _), (1, .eq _), (12, .eq _), (13, .eq _), (14, .eq _)] (.cons rfl (.cons rfl (.cons rfl (.cons rfl (.cons rfl .nil))))) ?_
    refine ends_then ?_
    refine cw_seq ?_
    refine cw_cond rfl (fun h14 => ?_) (fun h14 => ?_)
    ·
      have hlt : k < m1 := by have := of_decide_eq_true h14; omega
      refine cw_skip ?_
      refine ends_then ?_
      refine cw_seq ?_
      refine cw_block ?_
      refine cw_seq ?_
      -- region 5
      refine cw_region ?_
      refine lw_v rfl rfl (ok_move rfl (.n rfl) rfl) ?_
      refine lw_v rfl rfl (ok_assign rfl (.n rfl) rfl) ?_
      refine lw_nil ?_
      refine Ends.keep [(0, .eq _), (1, .eq _), (5, .eq _), (12, .eq _), (13, .eq _)] (.cons rfl (.cons rfl (.cons rfl (.cons rfl (.cons rfl .nil))))) ?_
      refine ends_then ?_
      refine cw_seq ?_
      -- region 6
      refine cw_draw (by kernel_rfl) (List.take 8 _) (List.drop 8 _) (List.take_append_drop 8 _).symm (by kernel_rfl) ?_
      refine free_v (ok_move rfl (.n rfl) rfl) ?_
      refine free_v (ok_move rfl (.n rfl) rfl) ?_
      refine free_v (ok_ix rfl (.n rfl) Try.underlying27 Try.sizeOf4 rfl rfl hS (fun _ => ⟨by omega, by omega⟩)) ?_
      refine free_v (ok_ldx rfl (.n rfl) rfl Try.isAgg4 hS (fun _ => ⟨by omega, by omega⟩) (by rfl)) ?_
      refine free_v (ok_move rfl (.n rfl) rfl) ?_
      refine free_v (ok_move rfl (.n rfl) rfl) ?_
      refine free_v (ok_ix rfl (.n rfl) Try.underlying27 Try.sizeOf4 rfl rfl hS (fun _ => ⟨by omega, by omega⟩)) ?_
      refine free_v (ok_ldx rfl (.n rfl) rfl Try.isAgg4 hS (fun _ => ⟨by omega, by omega⟩) (by rfl)) ?_
      refine free_nil ?_
      intro w1 hg_; replace hS := hS.grow hg_; clear hg_
      refine lw_v rfl rfl (ok_neb rfl (.n rfl) Try.underlying4 rfl rfl) ?_
      refine lw_nil ?_
      refine Ends.keep [(0, .eq _), (1, .eq _), (12, .eq _), (13, .eq _), (24, .eq _)] (.cons rfl (.cons rfl (.cons rfl (.cons rfl (.cons rfl .nil))))) ?_
      refine ends_then ?_
      refine cw_cond rfl (fun h24 => ?_) (fun h24 => ?_)
      ·
        refine cw_seq ?_
        -- region 7
        refine cw_region ?_
        refine lw_v rfl rfl (ok_assign rfl (.n rfl) rfl) ?_
        refine lw_nil ?_
        refine Ends.keep [(4, .eq _)] (.cons rfl .nil) ?_
        refine ends_then ?_
        refine cw_ret ?_
        refine in_ret (then_ret (then_ret (in_ret (then_ret (?_)))))
        refine end_ret (res1 Try.results61 rfl) ⟨?_, hS.below⟩
        rw [decide_eq_false fun e => ?_]
        rw [e] at h24; simp at h24
      ·
        refine cw_skip ?_
        refine in_normal (?_)
        refine ends_then ?_
        -- region 8
        refine cw_region ?_
        refine lw_v rfl rfl (ok_addi rfl (.n rfl) rfl rfl (fun _ => ⟨by omega, by omega⟩)) ?_
        refine lw_v rfl rfl (ok_move rfl (.n rfl) rfl) ?_
        refine lw_nil ?_
        -- BACK
        refine ends_back (k + 1) (.cons rfl (.cons rfl (.cons rfl (.cons rfl .nil)))) ⟨⟨by omega, fun i hi => ?_⟩, hS⟩ (by omega)
        rcases Nat.lt_or_ge i k with h | h
        · exact hp i h
        · have : i = k := by omega
          subst this; simpa using h24
    ·
      have hke : k = m1 := by have := of_decide_eq_false h14; omega
      refine cw_exit ?_
      refine then_exit (then_exit (in_exit (?_)))
      refine Ends.keep [] .nil ?_
      refine ends_then ?_
      refine cw_seq ?_
      -- region 9
      refine cw_region ?_
      refine lw_v rfl rfl (ok_assign rfl (.n rfl) rfl) ?_
      refine lw_nil ?_
      refine Ends.keep [(4, .eq _)] (.cons rfl .nil) ?_
      refine ends_then ?_
      refine cw_ret ?_
      refine end_ret (res1 Try.results61 rfl) ⟨?_, hS.below⟩
      rw [decide_eq_true]
      refine List.ext_getElem (by omega) fun i h1 h2 => ?_
      have := hp i (by omega)
      simpa [List.getD_eq_getElem?_getD, h1, h2] using this

end Go.Proofs.Ytnpgeohkmdcbkaa.Aq

namespace Go.Proofs.Ytnpgeohkmdcbkaa.Aq
open Go Go.RowKit

/-- cmp.isNaN of a whole number. -/
theorem f106 (x : Int) (w : World) : RetV 106 [.int .i64 x] w (.bool false) := by
  refine calls_cw Try.func106 rfl Try.ntmps106 rfl ?_
  have hS := St.start w
  refine cw_seq ?_
  -- region 0
  refine cw_region ?_
  refine lw_v rfl rfl (ok_assign rfl (.n rfl) rfl) ?_
  refine lw_nil ?_
  refine Ends.keep [(0, .eq _)] (.cons rfl .nil) ?_
  refine ends_then ?_
  refine cw_seq ?_
  -- region 1
  refine cw_region ?_
  refine lw_v rfl rfl (ok_move rfl (.n rfl) rfl) ?_
  refine lw_v rfl rfl (ok_move rfl (.n rfl) rfl) ?_
  refine lw_v rfl rfl (ok_eq (ok_neq rfl (.n rfl) rfl rfl) (c' := .bool false) (fun _ => congrArg Value.bool (by simp))) ?_
  refine lw_v rfl rfl (ok_assign rfl (.n rfl) rfl) ?_
  refine lw_nil ?_
  refine Ends.keep [(2, .eq _)] (.cons rfl .nil) ?_
  refine ends_then ?_
  refine cw_ret ?_
  exact end_ret (res1 Try.results106 rfl) ⟨rfl, hS.below⟩

/-- cmp.isNaN of a whole number. -/
theorem f107 (x : Int) (w : World) : RetV 107 [.int .i64 x] w (.bool false) := by
  refine calls_cw Try.func107 rfl Try.ntmps107 rfl ?_
  have hS := St.start w
  refine cw_seq ?_
  -- region 0
  refine cw_region ?_
  refine lw_v rfl rfl (ok_assign rfl (.n rfl) rfl) ?_
  refine lw_nil ?_
  refine Ends.keep [(0, .eq _)] (.cons rfl .nil) ?_
  refine ends_then ?_
  refine cw_seq ?_
  -- region 1
  refine cw_region ?_
  refine lw_v rfl rfl (ok_move rfl (.n rfl) rfl) ?_
  refine lw_v rfl rfl (ok_move rfl (.n rfl) rfl) ?_
  refine lw_v rfl rfl (ok_eq (ok_neq rfl (.n rfl) rfl rfl) (c' := .bool false) (fun _ => congrArg Value.bool (by simp))) ?_
  refine lw_v rfl rfl (ok_assign rfl (.n rfl) rfl) ?_
  refine lw_nil ?_
  refine Ends.keep [(2, .eq _)] (.cons rfl .nil) ?_
  refine ends_then ?_
  refine cw_ret ?_
  exact end_ret (res1 Try.results107 rfl) ⟨rfl, hS.below⟩

/-- Which of two comes first. -/
def cmpI (a b : Int) : Int := if a < b then -1 else if b < a then 1 else 0

/-- cmp.Compare of whole numbers. -/
theorem f86 (a b : Int) (w : World) : RetV 86 [.int .i64 a, .int .i64 b] w (.int .i64 (cmpI a b)) := by
  refine calls_cw Try.func86 rfl Try.ntmps86 rfl ?_
  have hS := St.start w
  refine cw_seq ?_
  -- region 0
  refine cw_region ?_
  refine lw_v rfl rfl (ok_assign rfl (.n rfl) rfl) ?_
  refine lw_nil ?_
  refine Ends.keep [(0, .eq _), (1, .eq _)] (.cons rfl (.cons rfl .nil)) ?_
  refine ends_then ?_
  refine cw_seq ?_
  -- region 1
  refine cw_region ?_
  refine lw_v rfl rfl (ok_move rfl (.n rfl) rfl) ?_
  refine lw_call (f := 106) (xs := [_]) rfl rfl rfl Try.call106 rfl (Calls.mono (f106 a _) ?_)
  rintro e w' ⟨rfl, hg⟩
  replace hS := hS.grow hg; clear hg
  refine ⟨_, rfl, ?_⟩
  refine lw_v rfl rfl (ok_assign rfl (.n rfl) rfl) ?_
  refine lw_nil ?_
  refine Ends.keep [(0, .eq _), (1, .eq _), (5, .eq _)] (.cons rfl (.cons rfl (.cons rfl .nil))) ?_
  refine ends_then ?_
  refine cw_seq ?_
  -- region 2
  refine cw_region ?_
  refine lw_v rfl rfl (ok_move rfl (.n rfl) rfl) ?_
  refine lw_call (f := 106) (xs := [_]) rfl rfl rfl Try.call106 rfl (Calls.mono (f106 b _) ?_)
  rintro e w' ⟨rfl, hg⟩
  replace hS := hS.grow hg; clear hg
  refine ⟨_, rfl, ?_⟩
  refine lw_v rfl rfl (ok_assign rfl (.n rfl) rfl) ?_
  refine lw_nil ?_
  refine Ends.keep [(0, .eq _), (1, .eq _), (5, .eq _), (6, .eq _)] (.cons rfl (.cons rfl (.cons rfl (.cons rfl .nil)))) ?_
  refine ends_then ?_
  refine cw_seq ?_
  refine cw_seq ?_
  -- region 3
  refine cw_region ?_
  refine lw_v rfl rfl (ok_move rfl (.n rfl) rfl) ?_
  refine lw_nil ?_
  refine Ends.keep [(0, .eq _), (1, .eq _), (6, .eq _), (11, .eq _)] (.cons rfl (.cons rfl (.cons rfl (.cons rfl .nil)))) ?_
  refine ends_then ?_
  refine cw_cond rfl (fun h11 => ?_) (fun h11 => ?_)
  ·
    cases h11
  ·
    refine cw_skip ?_
    refine ends_then ?_
    refine cw_seq ?_
    refine cw_seq ?_
    -- region 7
    refine cw_region ?_
    refine lw_v rfl rfl (ok_move rfl (.n rfl) rfl) ?_
    refine lw_nil ?_
    refine Ends.keep [(0, .eq _), (1, .eq _), (13, .eq _)] (.cons rfl (.cons rfl (.cons rfl .nil))) ?_
    refine ends_then ?_
    refine cw_cond rfl (fun h13 => ?_) (fun h13 => ?_)
    ·
      cases h13
    ·
      refine cw_skip ?_
      refine ends_then ?_
      refine cw_seq ?_
      refine cw_seq ?_
      -- region 9
      refine cw_region ?_
      refine lw_v rfl rfl (ok_move rfl (.n rfl) rfl) ?_
      refine lw_v rfl rfl (ok_move rfl (.n rfl) rfl) ?_
      refine lw_v rfl rfl (ok_lss rfl (.n rfl) rfl rfl) ?_
      refine lw_nil ?_
      refine Ends.keep [(0, .eq _), (1, .eq _), (16, .eq _)] (.cons rfl (.cons rfl (.cons rfl .nil))) ?_
      refine ends_then ?_
      refine cw_cond rfl (fun h16 => ?_) (fun h16 => ?_)
      ·
        refine cw_seq ?_
        -- region 10
        refine cw_region ?_
        refine lw_v rfl rfl (ok_assign rfl (.n rfl) rfl) ?_
        refine lw_nil ?_
        refine Ends.keep [(4, .eq _)] (.cons rfl .nil) ?_
        refine ends_then ?_
        refine cw_ret ?_
        refine then_ret (?_)
        refine end_ret (res1 Try.results86 rfl) ⟨by rw [show cmpI a b = -1 from if_pos (of_decide_eq_true h16)], hS.below⟩
      ·
        refine cw_skip ?_
        refine ends_then ?_
        refine cw_seq ?_
        refine cw_seq ?_
        -- region 11
        refine cw_region ?_
        refine lw_v rfl rfl (ok_move rfl (.n rfl) rfl) ?_
        refine lw_v rfl rfl (ok_move rfl (.n rfl) rfl) ?_
        refine lw_v rfl rfl (ok_gtr rfl (.n rfl) rfl rfl) ?_
        refine lw_nil ?_
        refine Ends.keep [(19, .eq _)] (.cons rfl .nil) ?_
        refine ends_then ?_
        refine cw_cond rfl (fun h19 => ?_) (fun h19 => ?_)
        ·
          refine cw_seq ?_
          -- region 12
          refine cw_region ?_
          refine lw_v rfl rfl (ok_assign rfl (.n rfl) rfl) ?_
          refine lw_nil ?_
          refine Ends.keep [(4, .eq _)] (.cons rfl .nil) ?_
          refine ends_then ?_
          refine cw_ret ?_
          refine then_ret (?_)
          refine end_ret (res1 Try.results86 rfl) ⟨by rw [show cmpI a b = 1 from (if_neg (of_decide_eq_false h16)).trans (if_pos (of_decide_eq_true h19))], hS.below⟩
        ·
          refine cw_skip ?_
          refine ends_then ?_
          refine cw_seq ?_
          -- region 13
          refine cw_region ?_
          refine lw_v rfl rfl (ok_assign rfl (.n rfl) rfl) ?_
          refine lw_nil ?_
          refine Ends.keep [(4, .eq _)] (.cons rfl .nil) ?_
          refine ends_then ?_
          refine cw_ret ?_
          refine end_ret (res1 Try.results86 rfl) ⟨by rw [show cmpI a b = 0 from (if_neg (of_decide_eq_false h16)).trans (if_neg (of_decide_eq_false h19))], hS.below⟩

/-- cmp.Compare of whole numbers. -/
theorem f87 (a b : Int) (w : World) : RetV 87 [.int .i64 a, .int .i64 b] w (.int .i64 (cmpI a b)) := by
  refine calls_cw Try.func87 rfl Try.ntmps87 rfl ?_
  have hS := St.start w
  refine cw_seq ?_
  -- region 0
  refine cw_region ?_
  refine lw_v rfl rfl (ok_assign rfl (.n rfl) rfl) ?_
  refine lw_nil ?_
  refine Ends.keep [(0, .eq _), (1, .eq _)] (.cons rfl (.cons rfl .nil)) ?_
  refine ends_then ?_
  refine cw_seq ?_
  -- region 1
  refine cw_region ?_
  refine lw_v rfl rfl (ok_move rfl (.n rfl) rfl) ?_
  refine lw_call (f := 107) (xs := [_]) rfl rfl rfl Try.call107 rfl (Calls.mono (f107 a _) ?_)
  rintro e w' ⟨rfl, hg⟩
  replace hS := hS.grow hg; clear hg
  refine ⟨_, rfl, ?_⟩
  refine lw_v rfl rfl (ok_assign rfl (.n rfl) rfl) ?_
  refine lw_nil ?_
  refine Ends.keep [(0, .eq _), (1, .eq _), (5, .eq _)] (.cons rfl (.cons rfl (.cons rfl .nil))) ?_
  refine ends_then ?_
  refine cw_seq ?_
  -- region 2
  refine cw_region ?_
  refine lw_v rfl rfl (ok_move rfl (.n rfl) rfl) ?_
  refine lw_call (f := 107) (xs := [_]) rfl rfl rfl Try.call107 rfl (Calls.mono (f107 b _) ?_)
  rintro e w' ⟨rfl, hg⟩
  replace hS := hS.grow hg; clear hg
  refine ⟨_, rfl, ?_⟩
  refine lw_v rfl rfl (ok_assign rfl (.n rfl) rfl) ?_
  refine lw_nil ?_
  refine Ends.keep [(0, .eq _), (1, .eq _), (5, .eq _), (6, .eq _)] (.cons rfl (.cons rfl (.cons rfl (.cons rfl .nil)))) ?_
  refine ends_then ?_
  refine cw_seq ?_
  refine cw_seq ?_
  -- region 3
  refine cw_region ?_
  refine lw_v rfl rfl (ok_move rfl (.n rfl) rfl) ?_
  refine lw_nil ?_
  refine Ends.keep [(0, .eq _), (1, .eq _), (6, .eq _), (11, .eq _)] (.cons rfl (.cons rfl (.cons rfl (.cons rfl .nil)))) ?_
  refine ends_then ?_
  refine cw_cond rfl (fun h11 => ?_) (fun h11 => ?_)
  ·
    cases h11
  ·
    refine cw_skip ?_
    refine ends_then ?_
    refine cw_seq ?_
    refine cw_seq ?_
    -- region 7
    refine cw_region ?_
    refine lw_v rfl rfl (ok_move rfl (.n rfl) rfl) ?_
    refine lw_nil ?_
    refine Ends.keep [(0, .eq _), (1, .eq _), (13, .eq _)] (.cons rfl (.cons rfl (.cons rfl .nil))) ?_
    refine ends_then ?_
    refine cw_cond rfl (fun h13 => ?_) (fun h13 => ?_)
    ·
      cases h13
    ·
      refine cw_skip ?_
      refine ends_then ?_
      refine cw_seq ?_
      refine cw_seq ?_
      -- region 9
      refine cw_region ?_
      refine lw_v rfl rfl (ok_move rfl (.n rfl) rfl) ?_
      refine lw_v rfl rfl (ok_move rfl (.n rfl) rfl) ?_
      refine lw_v rfl rfl (ok_lss rfl (.n rfl) rfl rfl) ?_
      refine lw_nil ?_
      refine Ends.keep [(0, .eq _), (1, .eq _), (16, .eq _)] (.cons rfl (.cons rfl (.cons rfl .nil))) ?_
      refine ends_then ?_
      refine cw_cond rfl (fun h16 => ?_) (fun h16 => ?_)
      ·
        refine cw_seq ?_
        -- region 10
        refine cw_region ?_
        refine lw_v rfl rfl (ok_assign rfl (.n rfl) rfl) ?_
        refine lw_nil ?_
        refine Ends.keep [(4, .eq _)] (.cons rfl .nil) ?_
        refine ends_then ?_
        refine cw_ret ?_
        refine then_ret (?_)
        refine end_ret (res1 Try.results87 rfl) ⟨by rw [show cmpI a b = -1 from if_pos (of_decide_eq_true h16)], hS.below⟩
      ·
        refine cw_skip ?_
        refine ends_then ?_
        refine cw_seq ?_
        refine cw_seq ?_
        -- region 11
        refine cw_region ?_
        refine lw_v rfl rfl (ok_move rfl (.n rfl) rfl) ?_
        refine lw_v rfl rfl (ok_move rfl (.n rfl) rfl) ?_
        refine lw_v rfl rfl (ok_gtr rfl (.n rfl) rfl rfl) ?_
        refine lw_nil ?_
        refine Ends.keep [(19, .eq _)] (.cons rfl .nil) ?_
        refine ends_then ?_
        refine cw_cond rfl (fun h19 => ?_) (fun h19 => ?_)
        ·
          refine cw_seq ?_
          -- region 12
          refine cw_region ?_
          refine lw_v rfl rfl (ok_assign rfl (.n rfl) rfl) ?_
          refine lw_nil ?_
          refine Ends.keep [(4, .eq _)] (.cons rfl .nil) ?_
          refine ends_then ?_
          refine cw_ret ?_
          refine then_ret (?_)
          refine end_ret (res1 Try.results87 rfl) ⟨by rw [show cmpI a b = 1 from (if_neg (of_decide_eq_false h16)).trans (if_pos (of_decide_eq_true h19))], hS.below⟩
        ·
          refine cw_skip ?_
          refine ends_then ?_
          refine cw_seq ?_
          -- region 13
          refine cw_region ?_
          refine lw_v rfl rfl (ok_assign rfl (.n rfl) rfl) ?_
          refine lw_nil ?_
          refine Ends.keep [(4, .eq _)] (.cons rfl .nil) ?_
          refine ends_then ?_
          refine cw_ret ?_
          refine end_ret (res1 Try.results87 rfl) ⟨by rw [show cmpI a b = 0 from (if_neg (of_decide_eq_false h16)).trans (if_neg (of_decide_eq_false h19))], hS.below⟩

/-- The first that is not zero. -/
def orL : List Int → Int
  | [] => 0
  | x :: xs => if x ≠ 0 then x else orL xs
/-- cmp.Or. -/
theorem f85 (xs : List Int) {m : Nat} (A : Option Addr) (c : Nat) (w : World) (hx : (sl (eInt .i64) 1 A m c xs).p w) : RetV 85 [.slice A m c] w (.int .i64 (orL xs)) := by
  refine calls_cw Try.func85 rfl Try.ntmps85 rfl ?_
  have hS := (St.start w).args (Nat.le_refl _) _ hx rfl
  have hl := hx.1.1
  have hb := hx.2.1
  refine cw_seq ?_
  -- region 0
  refine cw_region ?_
  refine lw_v rfl rfl (ok_assign rfl (.n rfl) rfl) ?_
  refine lw_nil ?_
  refine Ends.keep [(0, .eq _)] (.cons rfl .nil) ?_
  refine ends_then ?_
  refine cw_seq ?_
  -- region 1
  refine cw_region ?_
  refine lw_v rfl rfl (ok_assign rfl (.n rfl) rfl) ?_
  refine lw_nil ?_
  refine Ends.keep [(0, .eq _), (3, .eq _)] (.cons rfl (.cons rfl .nil)) ?_
  refine ends_then ?_
  refine cw_seq ?_
  refine cw_seq ?_
  -- region 2
  refine cw_region ?_
  refine lw_v rfl rfl (ok_move rfl (.n rfl) rfl) ?_
  refine lw_v rfl rfl (ok_len rfl (.n rfl) Try.underlying26 rfl) ?_
  refine lw_v rfl rfl (ok_move rfl (.n rfl) rfl) ?_
  refine lw_nil ?_
  refine Ends.keep [(3, .eq _), (6, .eq _), (7, .eq _), (8, .eq _)] (.cons rfl (.cons rfl (.cons rfl (.cons rfl .nil)))) ?_
  refine ends_then ?_
  refine cw_block ?_
  -- LOOP at region 3: changed live slots [8], kept [3, 6, 7]
  refine cw_loop [(3, .eq _), (6, .eq _), (7, .eq _)] (fun k : Nat => [(8, .eq (.int .i64 k))]) (fun k w' => (k ≤ m ∧ orL xs = orL (xs.drop k)) ∧ St w.heap.size w w' [sl (eInt .i64) 1 A m c xs]) (fun k => m - k) 0 (.cons rfl (.cons rfl (.cons rfl .nil))) (.cons rfl (.cons rfl (.cons rfl (.cons rfl .nil)))) ⟨⟨Nat.zero_le _, rfl⟩, hS⟩ ?_
  clear hS
  rintro k wr ⟨⟨hk, hp⟩, hS⟩
  refine cw_seq ?_
  -- region 3
  refine cw_region ?_
  refine lw_v rfl rfl (ok_lss rfl (.n rfl) rfl rfl) ?_
  refine lw_nil ?_
  refine Ends.keep [(3, .eq _), (6, .eq _), (7, .eq _), (8, .eq _), (9, .eq _)] (.cons rfl (.cons rfl (.cons rfl (.cons rfl (.cons rfl .nil))))) ?_
  refine ends_then ?_
  refine cw_seq ?_
  refine cw_cond rfl (fun h9 => ?_) (fun h9 => ?_)
  ·
    have hlt : k < m := by have := of_decide_eq_true h9; omega
    have hdr : xs.drop k = xs.getD k 0 :: xs.drop (k + 1) := by rw [List.drop_eq_getElem_cons (by omega), List.getD_eq_getElem?_getD, List.getElem?_eq_getElem (by omega)]; rfl
    refine cw_skip ?_
    refine ends_then ?_
    refine cw_seq ?_
    refine cw_block ?_
    refine cw_seq ?_
    -- region 4
    refine cw_region ?_
    refine lw_v rfl rfl (ok_ix rfl (.n rfl) Try.underlying26 Try.sizeOf3 rfl rfl hS (fun _ => ⟨by omega, by omega⟩)) ?_
    refine lw_v rfl rfl (ok_ldx rfl (.n rfl) rfl Try.isAgg3 hS (fun _ => ⟨by omega, by omega⟩) (by rfl)) ?_
    refine lw_v rfl rfl (ok_assign rfl (.n rfl) rfl) ?_
    refine lw_nil ?_
    refine Ends.keep [(3, .eq _), (5, .eq _), (6, .eq _), (7, .eq _), (8, .eq _)] (.cons rfl (.cons rfl (.cons rfl (.cons rfl (.cons rfl .nil))))) ?_
    refine ends_then ?_
    refine cw_seq ?_
    -- region 5
    refine cw_region ?_
    refine lw_v rfl rfl (ok_move rfl (.n rfl) rfl) ?_
    refine lw_v rfl rfl (ok_move rfl (.n rfl) rfl) ?_
    refine lw_v rfl rfl (ok_neq rfl (.n rfl) rfl rfl) ?_
    refine lw_nil ?_
    refine Ends.keep [(3, .eq _), (5, .eq _), (6, .eq _), (7, .eq _), (8, .eq _), (14, .eq _)] (.cons rfl (.cons rfl (.cons rfl (.cons rfl (.cons rfl (.cons rfl .nil)))))) ?_
    refine ends_then ?_
    refine cw_cond rfl (fun h14 => ?_) (fun h14 => ?_)
    ·
      refine cw_seq ?_
      -- region 6
      refine cw_region ?_
      refine lw_v rfl rfl (ok_move rfl (.n rfl) rfl) ?_
      refine lw_v rfl rfl (ok_assign rfl (.n rfl) rfl) ?_
      refine lw_nil ?_
      refine Ends.keep [(2, .eq _)] (.cons rfl .nil) ?_
      refine ends_then ?_
      refine cw_ret ?_
      refine in_ret (then_ret (then_ret (in_ret (then_ret (?_)))))
      refine end_ret (res1 Try.results85 rfl) ⟨?_, hS.below⟩
      rw [hp, hdr, orL, if_pos (by simpa using h14)]
      rfl
    ·
      refine cw_skip ?_
      refine in_normal (?_)
      refine ends_then ?_
      -- region 7
      refine cw_region ?_
      refine lw_v rfl rfl (ok_addi rfl (.n rfl) rfl rfl (fun _ => ⟨by omega, by omega⟩)) ?_
      refine lw_v rfl rfl (ok_move rfl (.n rfl) rfl) ?_
      refine lw_nil ?_
      -- BACK
      have hz : ¬ xs.getD k 0 ≠ 0 := by simpa using h14
      refine ends_back (k + 1) (.cons rfl (.cons rfl (.cons rfl (.cons rfl .nil)))) ⟨⟨by omega, by rw [hp, hdr, orL, if_neg hz]⟩, hS⟩ (by omega)
  ·
    have hke : k = m := by have := of_decide_eq_false h9; omega
    refine cw_exit ?_
    refine then_exit (then_exit (in_exit (?_)))
    refine Ends.keep [(3, .eq _)] (.cons rfl .nil) ?_
    refine ends_then ?_
    refine cw_seq ?_
    -- region 8
    refine cw_region ?_
    refine lw_v rfl rfl (ok_move rfl (.n rfl) rfl) ?_
    refine lw_v rfl rfl (ok_assign rfl (.n rfl) rfl) ?_
    refine lw_nil ?_
    refine Ends.keep [(2, .eq _)] (.cons rfl .nil) ?_
    refine ends_then ?_
    refine cw_ret ?_
    refine end_ret (res1 Try.results85 rfl) ⟨?_, hS.below⟩
    rw [hp, hke, List.drop_of_length_le (by omega)]
    rfl

end Go.Proofs.Ytnpgeohkmdcbkaa.Aq

namespace Go.Proofs.Ytnpgeohkmdcbkaa.Aq
open Go Go.RowKit

/-- Is the first mark below the other? -/
def risenB (x1 x2 y1 y2 : Int) : Bool := decide (orL [cmpI x1 y1, cmpI x2 y2] < 0)
set_option maxRecDepth 10000 in
/-- globals.Risen. -/
theorem f46 (x1 x2 y1 y2 : Int) (w : World) : RetV 46 [.agg #[.int .i64 x1, .int .i64 x2], .agg #[.int .i64 y1, .int .i64 y2]] w (.bool (risenB x1 x2 y1 y2)) := by
  refine calls_cw Try.func46 rfl Try.ntmps46 rfl ?_
  have hS := St.start w
  refine cw_seq ?_
  -- region 0
  refine cw_region ?_
  refine lw_box rfl rfl rfl rfl hS ?_
  clear hS; intro b2 w1 _ _ hS
  refine lw_box rfl rfl rfl rfl hS ?_
  clear hS; intro b3 w2 _ _ hS
  refine lw_v rfl rfl (ok_assign rfl (.n rfl) rfl) ?_
  refine lw_nil ?_
  refine Ends.keep [(2, .eq _), (3, .eq _)] (.cons rfl (.cons rfl .nil)) ?_
  refine ends_then ?_
  refine cw_seq ?_
  -- region 1
  refine cw_draw (by kernel_rfl) (List.take 9 _) (List.drop 9 _) (List.take_append_drop 9 _).symm (by kernel_rfl) ?_
  refine free_v (ok_fb rfl (.n rfl) Try.underlying53 rfl Try.sizeOf2 (by decide) rfl) ?_
  refine free_v (ok_eq (ok_ldb rfl (.n rfl) rfl Try.isAgg2 hS (by rfl)) (c' := .int .i64 x1) (fun _ => rfl)) ?_
  refine free_v (ok_fb rfl (.n rfl) Try.underlying53 rfl Try.sizeOf2 (by decide) rfl) ?_
  refine free_v (ok_eq (ok_ldb rfl (.n rfl) rfl Try.isAgg2 hS (by rfl)) (c' := .int .i64 y1) (fun _ => rfl)) ?_
  refine free_cons (ok_callv (.int .i64 (cmpI x1 y1)) rfl rfl Try.call86 rfl (fun w' hg => f86 x1 y1 w')) ?_
  refine free_v (ok_fb rfl (.n rfl) Try.underlying53 rfl Try.sizeOf3 (by decide) rfl) ?_
  refine free_v (ok_eq (ok_ldb rfl (.n rfl) rfl Try.isAgg3 hS (by rfl)) (c' := .int .i64 x2) (fun _ => rfl)) ?_
  refine free_v (ok_fb rfl (.n rfl) Try.underlying53 rfl Try.sizeOf3 (by decide) rfl) ?_
  refine free_v (ok_eq (ok_ldb rfl (.n rfl) rfl Try.isAgg3 hS (by rfl)) (c' := .int .i64 y2) (fun _ => rfl)) ?_
  refine free_nil ?_
  intro w3 hg_; replace hS := hS.grow hg_; clear hg_
  refine lw_call (f := 87) (xs := [_, _]) rfl rfl rfl Try.call87 rfl (Calls.mono (f87 x2 y2 _) ?_)
  rintro e w' ⟨rfl, hg⟩
  replace hS := hS.grow hg; clear hg
  refine ⟨_, rfl, ?_⟩
  refine lw_ls (enc := (eInt .i64)) [cmpI x1 y1, cmpI x2 y2] rfl rfl rfl Try.underlying26 Try.sizeOf3 Try.zeroValue3 rfl (by kernel_rfl) rfl (by decide) (by decide) hS ?_
  clear hS; intro A15 c15 w4 _ hS
  refine lw_call (f := 85) (xs := [_]) rfl rfl rfl Try.call85 rfl (Calls.mono (f85 [cmpI x1 y1, cmpI x2 y2] A15 c15 _ (hS.rd A15 (by decide))) ?_)
  rintro e w' ⟨rfl, hg⟩
  replace hS := hS.grow hg; clear hg
  refine ⟨_, rfl, ?_⟩
  refine lw_v rfl rfl (ok_lss rfl (.n rfl) rfl rfl) ?_
  refine lw_v rfl rfl (ok_assign rfl (.n rfl) rfl) ?_
  refine lw_nil ?_
  refine Ends.keep [(4, .eq _)] (.cons rfl .nil) ?_
  refine ends_then ?_
  refine cw_ret ?_
  exact end_ret (res1 Try.results46 rfl) ⟨rfl, hS.below⟩

end Go.Proofs.Ytnpgeohkmdcbkaa.Aq

namespace Go.Proofs.Ytnpgeohkmdcbkaa.Aq
open Go Go.RowKit
variable {dfr : List Deferred}

/-- The wide fence, be it in a round. -/
abbrev FR (ro : Option Nat) : Fence := { Fence.wide with round := ro }
def plainOp (o : Oper) : Bool := match o.op with
  | .defer _ => false
  | _ => true
theorem plain_ne {o : Oper} (h : plainOp o = true) : ∀ c, o.op ≠ .defer c := fun c e => by rw [plainOp, e] at h; cases h

section
variable {P : Program} {ops : Array Oper} {Q : Exit → Act → World → Prop} {ro : Option Nat} {m : Nat}

theorem oper_in {o : Oper} {a : Act} {w : World} {K K' : Act → World → Prop} (hd : plainOp o = true) (hk : ∀ a w, K a w → K' a w) (hQ : ¬ LetsOut Q) (h : o.wp P a w K Q) : o.wpIn (FR ro) m P a w K' Q := by
  refine ⟨fun _ _ => trivial, ?_⟩
  rw [Oper.semAt_eq _ _ _ (plain_ne hd)]
  unfold Oper.wp at h
  generalize (execOp a.eval o).run P w = r at *
  cases r with
  | ok x w' =>
    cases x with
    | value v => exact hk _ _ h
    | skip => exact hk _ _ h
    | defer d => exact hk _ _ h
    | enter f args =>
      refine ⟨fun e => (by cases e), CallsIn.mono (show CallsIn (FR ro) (m - 1) P f args w' _ from (callsIn_wide (n := m - 1)).2 h) fun e w'' he => ?_⟩
      cases e with
      | returned v => exact hk _ _ he
      | panicked c => exact he
      | outgrown => exact he
    | row r args =>
      refine ⟨fun e => (by cases e), fun c cs _ => ?_⟩
      obtain ⟨v, w'', hr, hs⟩ := h c cs
      exact ⟨v, w'', hk _ _ hr, (stepsIn_wide).2 hs⟩
    | round l f t a b => exact h.elim
    | _ => exact h.elim
  | halt x w' => cases x <;> exact h

theorem opIn_any {i : Nat} {a : Act} {w : World} {K K' : Act → World → Prop} (hd : ops.toList.all plainOp = true) (hk : ∀ a w, K a w → K' a w) (hQ : ¬ LetsOut Q) (h : wpOp P ops Q i K a w) : wpOpIn (FR ro) m P ops Q i K' a w := by
  unfold wpOp at h
  unfold wpOpIn
  cases ho : ops[i]? with
  | none => rw [ho] at h; exact hk _ _ h
  | some o =>
    rw [ho] at h
    have hp : plainOp o = true := List.all_eq_true.1 hd o (by rw [Array.mem_toList_iff]; exact Array.mem_of_getElem? ho)
    dsimp only at h ⊢
    split
    · rename_i hw
      rw [if_pos hw] at h
      rcases h with h | h
      · exact oper_in hp hk hQ h
      · exact absurd h.2 hQ
    · rename_i hw
      rw [if_neg hw] at h
      exact ⟨fun _ _ => trivial, hk _ _ h⟩

theorem any_in (hd : ops.toList.all plainOp = true) (hQ : ¬ LetsOut Q) : ∀ (fuel : Nat) (L : Array Bool) (a : Act) (w : World), wpAny P .any ops Q fuel L a w → wpAnyIn (FR ro) m P .any ops Q fuel L a w
  | 0, _, _, _, h => h
  | fuel + 1, L, a, w, h => ⟨h.1, fun i hi => opIn_any hd (fun a' w' h' => any_in hd hQ fuel _ a' w' h') hQ (h.2 i hi)⟩

theorem list_in (hQ : ¬ LetsOut Q) : ∀ (l : List Oper) (a : Act) (w : World), l.all plainOp = true → wpList P ops Q l a w → wpListIn (FR ro) m P ops Q l a w
  | [], _, _, _, h => h
  | o :: l, a, w, hd, h => by
    simp only [List.all_cons, Bool.and_eq_true] at hd
    unfold wpList at h
    unfold wpListIn
    split
    · rename_i hw
      rw [if_pos hw] at h
      rcases h with h | h
      · exact oper_in hd.1 (fun a' w' h' => list_in hQ l a' w' hd.2 h') hQ h
      · exact absurd h.2 hQ
    · rename_i hw
      rw [if_neg hw] at h
      exact ⟨fun _ _ => trivial, list_in hQ l _ _ hd.2 h⟩

/-- Code within a fence. -/
def CI (dfr : List Deferred) (ro : Option Nat) (m : Nat) (P : Program) (n : Nat) (c : Code) (Q : Exit → Act → World → Prop) (E : Env) (w : World) : Prop :=
  ∀ a : Act, a.defers = dfr → a.tmps.size = n → Sat E a w → c.wpIn (FR ro) m P Q a w
def LI (dfr : List Deferred) (ro : Option Nat) (m : Nat) (P : Program) (n : Nat) (ops : Array Oper) (Q : Exit → Act → World → Prop) (l : List Oper) (E : Env) (w : World) : Prop :=
  ∀ a : Act, a.defers = dfr → a.tmps.size = n → Sat E a w → wpListIn (FR ro) m P ops Q l a w
end

theorem li_lw {P : Program} {n m : Nat} {ro : Option Nat} {ops : Array Oper} {Q : Exit → Act → World → Prop} {l : List Oper} {E : Env} {w : World} (hd : l.all plainOp = true) (hQ : ¬ LetsOut Q) (h : LW dfr P n ops Q l E w) : LI dfr ro m P n ops Q l E w :=
  fun a ha hn hs => list_in hQ l a w hd (h a ha hn hs)

/-- A region in the text's order. -/
theorem ci_region {P : Program} {n m id : Nat} {ro : Option Nat} {l : List Oper} {Q : Exit → Act → World → Prop} {E : Env} {w : World}
    (h : LI dfr ro m P n l.toArray Q l E w) : CI dfr ro m P n (.region id l.toArray false) Q E w := fun a ha hn hs => wpIn_region_lit (h a ha hn hs)
theorem ci_skip {P : Program} {n m : Nat} {ro : Option Nat} {Q : Exit → Act → World → Prop} {E : Env} {w : World} (h : Ends dfr n Q .normal E w) : CI dfr ro m P n .skip Q E w := fun a ha hn hs => wpIn_skip (h a ha hn hs)

/-- A region whose order is drawn: its first operations l1 in whatever order, then l2 in the text's. -/
theorem ci_draw {P : Program} {n id m : Nat} {ro : Option Nat} {ops : Array Oper} {Q : Exit → Act → World → Prop} {E : Env} {w : World} (hm : P.follows .mixedOrders = true) (l1 l2 : List Oper) (hl : ops.toList = l1 ++ l2)
    (hchk : chk n l1.length ops = true) (hd : ops.toList.all plainOp = true) (hQ : ¬ LetsOut Q) (h : FreeOk P n ops (Gr w) E.nogd l1 fun E' => ∀ w', Gr w w' → LW dfr P n ops Q l2 E' w') : CI dfr ro m P n (.region id ops true) Q E w := by
  intro a ha hn hs
  refine wpIn_region_any hm (any_in hd hQ _ _ _ _ ?_)
  obtain ⟨ps, hlen, hok, hend⟩ := free_list l1 _ h
  have hsh := chk_shaped hchk
  have ht1 : ops.toList.take l1.length = l1 := by rw [hl]; simp
  have hsz : ops.size = l1.length + l2.length := by have := congrArg List.length hl; simpa using this
  refine draw_any (E := E.nogd) (w0 := w) (a0 := a) (ps := ps) hsh (nogd_ne E) hs.nogd hlen ?_ ?_ ops.size _ a _ (by simp) ha hn (gr_drew w) ?_ ?_ ?_ ?_ ?_
  · intro i o p hi ho hp
    have e : ops.toList.take i = l1.take i := by rw [hl, List.take_append_of_le_length (by omega)]
    rw [e]
    refine hok i o p ?_ hp
    have : ops.toList[i]? = some o := by rw [Array.getElem?_toList]; exact ho
    rw [hl, List.getElem?_append_left hi] at this
    exact this
  · intro a' w' ha' hn' hs' g
    rw [ht1] at hs'
    have := hend w' g a' ha' hn' hs'
    have hr : ops.size - l1.length = l2.length := by omega
    rw [hr, wpOps_eq_wpList l2 l1.length]
    · exact this
    · intro j
      rw [← Array.getElem?_toList, hl, List.getElem?_append_right (by omega)]
      congr 1
      omega
  · intro i o _ hLi
    rw [getD_rep] at hLi
    cases hLi
  · intro i _
    exact getD_rep _ _
  · intro i o p d _ hLi
    rw [getD_rep] at hLi
    cases hLi
  · intro t _
    rfl
  · unfold cnt
    refine Nat.le_trans (List.length_filter_le _ _) (by simp)

end Go.Proofs.Ytnpgeohkmdcbkaa.Aq

namespace Go.Proofs.Ytnpgeohkmdcbkaa.Aq
open Go Go.RowKit

/-! ### Facts that hang on cells alone -/
def CellsAt (w : World) (b : Nat) : Prop := ∃ o : Obj, w.heap[b]? = some o ∧ o.isCells = true
def CO (a : Asn) : Prop := ∀ w b, a.p w → a.fp b → CellsAt w b
theorem co_bx (b : Nat) (cs : List Value) (t : TypeId) : CO (bx b cs t) := fun w k hp hb => by
  obtain rfl : k = b := hb
  exact ⟨_, hp, rfl⟩
theorem co_rbx (b : Nat) (cs : List Value) (t : TypeId) : CO (rbx b cs t) := fun w k hp hb => by
  obtain rfl : k = b := hb
  exact ⟨_, hp, rfl⟩
theorem cells_of_cell {w : World} {a : Addr} {v : Value} (h : w.cell? a = some v) : CellsAt w a.block := by
  unfold World.cell? at h
  split at h
  · rename_i c e fr hb; exact ⟨_, hb, rfl⟩
  · cases h
theorem co_sl {α : Type} (enc : α → List Value) (sz : Nat) (A : Option Addr) (m c : Nat) (xs : List α) : CO (sl enc sz A m c xs) := fun w b hp ⟨ad, e, hb, i, x, j, u, hi, hj⟩ => by
  obtain ⟨ad', e', hc⟩ := hp.2.2 i x hi j u hj
  rw [e] at e'
  injection e' with e'
  subst e'
  have := cells_of_cell hc
  rw [add_block, hb] at this
  exact this
theorem co_own {α : Type} (enc : α → List Value) (sz : Nat) (e : TypeId) (A : Option Addr) (m c : Nat) (xs : List α) : CO (own enc sz e A m c xs) := fun w b hp ⟨ad, ea, hb⟩ => by
  have h' : w.ownsRow 0 e sz (.slice A m c) m (xs.flatMap enc) := hp.2
  rcases h'.2 with ⟨h1, _⟩ | ⟨g, cap, cur, hv, _, hh, _⟩
  · injection h1 with h1; rw [ea] at h1; cases h1
  · injection hv with hv
    rw [ea] at hv
    injection hv with hv
    subst hv
    subst hb
    exact ⟨_, hh, rfl⟩
theorem co_sls (hs : List Hd) (xss : List (List Int)) : CO (sls hs xss) := fun w b hp ⟨k, hk, hb⟩ => co_sl _ _ _ _ _ _ w b (hp.2 k hk) hb

section
variable {B : Nat} {we w w' : World} {L : List Asn}

/-- The facts abide growth, and the turn of what is no cells. -/
theorem St.owned (h : St B we w L) (hc : ∀ a ∈ L, CO a) {row : Option Nat} (hg : w.grownBy w' row) (hr : ∀ r, row = some r → B ≤ r ∧ ∃ o : Obj, w.heap[r]? = some o ∧ o.isCells = false) : St B we w' L := by
  have key : ∀ a ∈ L, a.p w' := fun a ha => a.st (fun b hb => hg.block b (a.lt (h.ok a ha) hb) fun e => by
    obtain ⟨o, h1, h2⟩ := hc a ha w b (h.ok a ha) hb
    obtain ⟨_, o', h3, h4⟩ := hr b e.symm
    rw [h1] at h3
    injection h3 with h3
    subst h3
    rw [h2] at h4
    cases h4) (h.ok a ha)
  refine ⟨h.below.trans ⟨hg.os, hg.tape, hg.output, hg.size, fun k hk => hg.block k (Nat.lt_of_lt_of_le hk h.base) fun e => ?_⟩, Nat.le_trans h.base hg.size, key, h.ge, h.apart⟩
  have := (hr k e.symm).1
  omega
theorem St.rebase (h : St B we w L) : St B w w L := ⟨Below.refl _ _, h.base, h.ok, h.ge, h.apart⟩
theorem St.onto {w0 : World} (h : St B w w' L) (h0 : Below B w0 w) : St B w0 w' L := ⟨h0.trans h.below, h.base, h.ok, h.ge, h.apart⟩

/-- What is no cells, at or beyond B0, lies as it lay in W. -/
def keepN (B0 : Nat) (W : World) : Asn where
  p := fun w => ∀ k o, B0 ≤ k → W.heap[k]? = some o → o.isCells = false → w.heap[k]? = some o
  fp := fun b => B0 ≤ b ∧ ∃ o : Obj, W.heap[b]? = some o ∧ o.isCells = false
  mt := false
  st := fun h hp k o h1 h2 h3 => (h k ⟨h1, o, h2, h3⟩).trans (hp k o h1 h2 h3)
  lt := fun hp ⟨h1, o, h2, h3⟩ => (Array.getElem?_eq_some_iff.1 (hp _ o h1 h2 h3)).1
theorem St.addKeep (h : St B we w L) (hc : ∀ a ∈ L, CO a) (B0 : Nat) : St B we w (keepN B0 w :: L) := by
  refine ⟨h.below, h.base, fun x hx => ?_, fun x hx hm b hb => ?_, List.pairwise_cons.2 ⟨fun x hx _ b hb hxb => ?_, h.apart⟩⟩
  · rcases List.mem_cons.1 hx with rfl | hx
    · exact fun k o _ h2 _ => h2
    · exact h.ok x hx
  · rcases List.mem_cons.1 hx with rfl | hx
    · cases hm
    · exact h.ge x hx hm b hb
  · obtain ⟨_, o, h2, h3⟩ := hb
    obtain ⟨o', h4, h5⟩ := hc x hx w b (h.ok x hx) hxb
    rw [h2] at h4
    injection h4 with h4
    subst h4
    rw [h3] at h5
    cases h5
theorem St.keeps {B0 : Nat} {w0 : World} (h : St B w0 w L) (hm : keepN B0 w0 ∈ L) : KeepsFrom B0 w0 w := ⟨h.below.size, fun k o h1 h2 h3 => h.ok _ hm k o h1 h2 h3⟩
/-- A block that is no cells, of the call's own. -/
theorem St.addBlk (h : St B we w L) (hc : ∀ a ∈ L, CO a) {D : Nat} {o : Obj} (hD : B ≤ D) (hk : w.heap[D]? = some o) (ho : o.isCells = false) : St B we w (blk D o :: L) := by
  refine ⟨h.below, h.base, fun x hx => ?_, fun x hx hm b hb => ?_, List.pairwise_cons.2 ⟨fun x hx _ b hb hxb => ?_, h.apart⟩⟩
  · rcases List.mem_cons.1 hx with rfl | hx
    · exact hk
    · exact h.ok x hx
  · rcases List.mem_cons.1 hx with rfl | hx
    · obtain rfl : b = D := hb
      exact hD
    · exact h.ge x hx hm b hb
  · obtain rfl : b = D := hb
    obtain ⟨o', h4, h5⟩ := hc x hx w b (h.ok x hx) hxb
    rw [hk] at h4
    injection h4 with h4
    subst h4
    rw [ho] at h5
    cases h5
theorem St.endBlk {D : Nat} {o : Obj} (h : St B we w (blk D o :: L)) : St B we (w.putObj D (.deferred none)) L := by
  have hD : w.heap[D]? = some o := h.ok _ (.head _)
  have hlt := (Array.getElem?_eq_some_iff.1 hD).1
  have hg := grownBy_putObj' w D (.deferred none)
  exact (h.write (a := blk D o) (a' := blk D (.deferred none)) .here rfl (fun b hb hne => hg.block b hb fun e => hne (by injection e)) hg.os hg.tape hg.output hg.size (World.putObj_heap_same hlt) fun b hb => .inl hb).tail
/-- One more that can be read. -/
theorem St.slsPush {hs : List Hd} {xss : List (List Int)} {A : Option Addr} {m c : Nat} {ys : List Int} (h : St B we w (sls hs xss :: L)) (g : Gr w w') (hp : (sl (eInt .i64) 1 A m c ys).p w') (hf : ∀ b, (sl (eInt .i64) 1 A m c ys).fp b → w.heap.size ≤ b) : St B we w' (sls (hs ++ [(A, m, c)]) (xss ++ [ys]) :: L) := by
  have h1 := h.grow g
  have h2 : (sls hs xss).p w' := h1.ok _ (.head _)
  have hl := h2.1
  have old : ∀ k, k < hs.length → slK (hs ++ [(A, m, c)]) (xss ++ [ys]) k = slK hs xss k := fun k hk => by
    unfold slK
    rw [List.getD_eq_getElem?_getD, List.getElem?_append_left hk, ← List.getD_eq_getElem?_getD, List.getD_eq_getElem?_getD (l := xss ++ [ys]), List.getElem?_append_left (by omega), ← List.getD_eq_getElem?_getD]
  have new : slK (hs ++ [(A, m, c)]) (xss ++ [ys]) hs.length = sl (eInt .i64) 1 A m c ys := by
    unfold slK
    have e1 : (hs ++ [(A, m, c)]).getD hs.length (none, 0, 0) = (A, m, c) := by simp [List.getD_eq_getElem?_getD]
    have e2 : (xss ++ [ys]).getD hs.length [] = ys := by rw [hl]; simp [List.getD_eq_getElem?_getD]
    rw [e1, e2]
  have cs : ∀ k, k < (hs ++ [(A, m, c)]).length → k < hs.length ∨ k = hs.length := fun k hk => by simp at hk; omega
  have hap := List.pairwise_cons.1 h.apart
  refine ⟨h1.below, h1.base, fun x hx => ?_, fun x hx hm b hb => ?_, List.pairwise_cons.2 ⟨fun x hx hor b hb hxb => ?_, hap.2⟩⟩
  · rcases List.mem_cons.1 hx with rfl | hx
    · refine ⟨by simp [hl], fun k hk => ?_⟩
      rcases cs k hk with h3 | rfl
      · rw [old k h3]; exact h2.2 k h3
      · rw [new]; exact hp
    · exact h1.ok x (List.mem_cons_of_mem _ hx)
  · rcases List.mem_cons.1 hx with rfl | hx
    · cases hm
    · exact h.ge x (List.mem_cons_of_mem _ hx) hm b hb
  · obtain ⟨k, hk, hb⟩ := hb
    rcases cs k hk with h3 | rfl
    · rw [old k h3] at hb
      refine hap.1 x hx ?_ b ⟨k, h3, hb⟩ hxb
      rcases hor with ho | ho
      · cases ho
      · exact .inr ho
    · rw [new] at hb
      have h4 := hf b hb
      have h5 := x.lt (h.ok x (List.mem_cons_of_mem _ hx)) hxb
      omega
theorem St.slsNil (h : St B we w L) : St B we w (sls [] [] :: L) := by
  refine ⟨h.below, h.base, fun x hx => ?_, fun x hx hmx b hb => ?_, List.pairwise_cons.2 ⟨fun x hx _ b hb _ => ?_, h.apart⟩⟩
  · rcases List.mem_cons.1 hx with rfl | hx
    · exact ⟨rfl, fun k hk => absurd hk (Nat.not_lt_zero k)⟩
    · exact h.ok x hx
  · rcases List.mem_cons.1 hx with rfl | hx
    · cases hmx
    · exact h.ge x hx hmx b hb
  · obtain ⟨k, hk, _⟩ := hb; exact absurd hk (Nat.not_lt_zero k)
end

/-- A part of a slice that is read. -/
theorem sl_part {α : Type} {enc : α → List Value} {sz : Nat} {d : α} [hE : Enc enc sz d] {A : Option Addr} {m c : Nat} {xs : List α} {w : World} (h : (sl enc sz A m c xs).p w) {i k c' : Nat} (hi : i + k ≤ m) (hc : k ≤ c') : (sl enc sz (A.map fun a => a.add (i * sz)) k c' ((xs.drop i).take k)).p w := by
  have hl := h.1.1
  refine ⟨⟨by rw [List.length_take, List.length_drop]; omega, hc⟩, by have := h.2.1; omega, fun j x hj r u hu => ?_⟩
  have hjk : j < k := by have := (List.getElem?_eq_some_iff.1 hj).1; rw [List.length_take] at this; omega
  rw [List.getElem?_take_of_lt hjk, List.getElem?_drop] at hj
  obtain ⟨ad, e, hcell⟩ := h.2.2 (i + j) x hj r u hu
  refine ⟨ad.add (i * sz), by rw [e]; rfl, ?_⟩
  rw [add_add, ← hcell]
  congr 2
  rw [Nat.add_mul]; omega

/-! ### A function that holds a range over a function -/
theorem calls_cwm {P : Program} {fn : Func} {n n0 : Nat} {R : Ending → World → Prop} {w : World} {f : FuncId} {c : Code} {args : List Value} (hf : P.funcs[f]? = some fn) (hb : fn.body = some c) (hn : fn.ntmps = n) (hle : Nat.ble args.length n = true)
    (h : CW [] P n c (bodyPostM Fence.wide n0 P fn R) (Env.of (args.zipIdx.map fun (v, i) => (i, .eq v))) w) : Calls P f args.toArray w R := by
  refine (callsIn_wide (n := n0)).1 (callsIn_of_wp_marks hf hb trivial (wpIn_wide.2 (h _ rfl ?_ ?_)))
  · have := Nat.le_of_ble_eq_true hle
    simp [hn]; omega
  · have key : ∀ (l : List Value) (k : Nat) (a : Act), (∀ i v, l[i]? = some v → tm a (k + i) = v) → Sat (Env.of ((l.zipIdx k).map fun (v, i) => (i, .eq v))) a w := by
      intro l
      induction l with
      | nil => intro k a _ t p h; simp [Env.of] at h
      | cons v l ih =>
        intro k a hl
        rw [List.zipIdx_cons, List.map_cons]
        intro t p hp
        simp only [Env.of] at hp
        cases hb : Nat.beq t k with
        | true =>
          rw [hb] at hp
          simp only [cond_true, Option.some.injEq] at hp
          subst hp
          have := Nat.eq_of_beq_eq_true hb
          subst this
          exact hl 0 v rfl
        | false =>
          rw [hb] at hp
          simp only [cond_false] at hp
          exact ih (k + 1) a (fun i u hi => by have := hl (i + 1) u (by simpa using hi); rw [← this]; congr 1; omega) t p hp
    refine key args 0 _ fun i v hi => ?_
    have hlt := (List.getElem?_eq_some_iff.1 hi).1
    simp only [tm, Nat.zero_add, Array.getD_eq_getD_getElem?]
    rw [Array.getElem?_append_left (by simpa using hlt)]
    simp [hi]
/-- Its end: the mark is taken up. -/
theorem end_mark {P : Program} {fn : Func} {n n0 D t : Nat} {R : Ending → World → Prop} {w : World} {E : Env} {v : Value} (hf : fn.results = #[.tmp t]) (he : E t = some (.eq v)) (hK : w.heap[D]? = some (.deferred (some []))) (h : R (.returned v) (w.putObj D (.deferred none))) :
    Ends [{ target := .collected D, args := #[] }] n (bodyPostM Fence.wide n0 P fn R) .ret E w := fun a ha hn hs => by
  show LeavesInM Fence.wide n0 P fn a.tmps R a.defers .returning w
  rw [ha]
  refine ⟨by simp, .inl ⟨D, _, rfl, run_takeDeferred hK, ?_⟩⟩
  refine ⟨_, results_tmp hf _ _ _, ?_⟩
  have : tm a t = v := hs t _ he
  rw [show a.tmps.getD t undef = v from this]
  exact h

/-! ### Operations -/
section
variable {P : Program} {n : Nat} {ops : Array Oper} {S : World → Prop} {Q : Exit → Act → World → Prop} {l : List Oper} {E : Env} {o : Oper} {w w0 : World} {x y y2 y3 : Operand} {g : Option (Nat × Bool)} {B : Nat} {we : World} {L L' : List Asn} {dfr : List Deferred}

theorem ok_cap {t : TypeId} {m c : Nat} {e : TypeId} {ad : Option Addr} (ho : o.op = .call { callee := .builtin .cap, args := #[x], argTypes := #[t] }) (hg : GuardIs ops o g) (hu : P.underlying t = some (.slice e)) (hx : E.at g x = some (.slice ad m c)) :
    OpV P n ops S E o (PV.of g (.int .i64 c)) :=
  ok_val1 hg hx (by rw [ho]; simp [Op.operands, Call.operands]) fun ρ w h3 _ _ => by
    simp [execOp, ho, h3, resolve, invoke, builtin, Builtin.cap_, run_underlying hu, goInt, go_sem]
theorem ok_slice3 {A : Option Addr} {m c sz : Nat} {t e : TypeId} {k1 k2 k3 : IntKind} {i1 i2 i3 : Int} (a b d : Nat) (ho : o.op = .slice t x (some y) (some y2) (some y3)) (hg : GuardIs ops o g) (hu : P.underlying t = some (.slice e)) (hs : ∀ w, (sizeOf e).run P w = .ok sz w)
    (hx : E.at g x = some (.slice A m c)) (h1 : E.at g y = some (.int k1 i1)) (h2 : E.at g y2 = some (.int k2 i2)) (h3 : E.at g y3 = some (.int k3 i3)) (hi : i1 = a ∧ i2 = b ∧ i3 = d ∧ a ≤ b ∧ b ≤ d ∧ d ≤ c ∧ a < d) : OpV P n ops S E o (PV.of g (.slice (A.map fun z => z.add (a * sz)) (b - a) (d - a))) :=
  ok_val hg fun ρ w ha _ _ => by
    have e0 := ha x (by rw [ho]; simp [Op.operands]) _ hx
    have e1 := ha y (by rw [ho]; simp [Op.operands]) _ h1
    have e2 := ha y2 (by rw [ho]; simp [Op.operands]) _ h2
    have e3 := ha y3 (by rw [ho]; simp [Op.operands]) _ h3
    obtain ⟨rfl, rfl, rfl, h4, h5, h6, h7⟩ := hi
    simp only [execOp, ho, e0, Option.map_some, e1, e2, e3, Instr.sliceAt, Sem.run_bind, run_underlying hu, Result.andThen_ok, Instr.slice]
    simp only [Instr.sliceBounds, Instr.sliceBound, asIntOf, Sem.run_bind, Sem.run_pure, Result.andThen_ok, hs]
    have g1 : (0 : Int) ≤ (d : Int) ∧ (d : Int) ≤ (c : Int) := ⟨by omega, by omega⟩
    have g2 : (0 : Int) ≤ (b : Int) ∧ (b : Int) ≤ (d : Int) := ⟨by omega, by omega⟩
    have g3 : (0 : Int) ≤ (a : Int) ∧ (a : Int) ≤ (b : Int) := ⟨by omega, by omega⟩
    have g4 : ¬ d - a = 0 := by omega
    have g5 : ¬ d = a := by omega
    simp [if_true, g1, g2, g3, h4, h5, h6, and_self, Sem.run_pure, Result.andThen_ok, Int.toNat_natCast, g4, g5, if_false]

theorem zero_cells (m : Nat) : (Builtin.zeroCells #[.int .i64 0] m).toList = List.replicate m (.int .i64 0) := by
  simp [Builtin.zeroCells, Nat.mod_one, List.map_const']
theorem flat_rep (m : Nat) : (List.replicate m (0 : Int)).flatMap (eInt .i64) = List.replicate m (.int .i64 0) := by
  induction m with
  | zero => rfl
  | succ m ih => rw [List.replicate_succ, List.flatMap_cons, ih]; rfl

/-- append of zeros to nothing. -/
theorem lw_apz {t tn : TypeId} {m : Nat} (hd : dstOk n o = true) (hg : o.guard = none)
    (ho : o.op = .call { callee := .builtin .append, args := #[x, y], argTypes := #[t, tn] }) (hu : P.underlying t = some (.slice 3)) (hut : P.underlying tn = some (.int .i64)) (hinfo : (P.info? 3).map (fun i => (i.zero, i.size, i.bytes)) = some (some (.int .i64 0), 1, 8))
    (hx : E.at none x = some (.slice none 0 0)) (hy : E.at none y = some (.int .i64 m)) (h0 : 0 < m) (hm : m ≤ 1000000) (hS : St B we w L)
    (hn : ∀ A c w', Gr w w' → St B we w' (own (eInt .i64) 1 3 A m c (List.replicate m 0) :: L) → LW dfr P n ops Q l (E.updo o.dst (.eq (.slice A m c))) w') : LW dfr P n ops Q (o :: l) E w :=
  lw_g hd hg fun a _ hs => by
    have e1 := hs.ev hx
    have e2 := hs.ev hy
    obtain ⟨i0, hi, hzz⟩ := Option.map_eq_some_iff.1 hinfo
    simp only [Prod.mk.injEq] at hzz
    obtain ⟨hz0, hz1, hz2⟩ := hzz
    have hr := Lib.run_append_nil_zeros (P := P) w t tn o.type 3 i0 (.int .i64 0) .i64 .i64 hu hut hi hz0 m h0 (by omega) (by omega) (by rw [hz2]; omega)
    have hrun : (execOp a.eval o).run P w = .ok (.value (.slice (some ⟨w.heap.size, 0, none⟩) m (grownCap w m 0 3))) (w.drew.alloc (.cells (Builtin.zeroCells #[.int .i64 0] m ++ Builtin.zeroCells #[.int .i64 0] (grownCap w m 0 3 - m)) 3)) := by
      unfold execOp
      simp only [ho, resolve, invoke, builtin, Sem.run_bind, Sem.run_pure, Result.andThen_ok, List.map_toArray, List.map_cons, List.map_nil, e1, e2, hr]
      rfl
    unfold OpR
    rw [hrun]
    have hge := grownCap_ge w m 0 3
    have hle := grownCap_le_maxLen w m 0 3 (by simp only [maxLen]; omega)
    have hgr : Gr w (w.drew.alloc (.cells (Builtin.zeroCells #[.int .i64 0] m ++ Builtin.zeroCells #[.int .i64 0] (grownCap w m 0 3 - m)) 3)) := (gr_drew w).trans (gr_alloc w.drew _)
    have hp : (own (eInt .i64) 1 3 (some ⟨w.heap.size, 0, none⟩) m (grownCap w m 0 3) (List.replicate m 0)).p (w.drew.alloc (.cells (Builtin.zeroCells #[.int .i64 0] m ++ Builtin.zeroCells #[.int .i64 0] (grownCap w m 0 3 - m)) 3)) := by
      have z := zero_cells m
      have z' := zero_cells (grownCap w m 0 3 - m)
      have e3 := flat_rep m
      have s1 : (Builtin.zeroCells #[.int .i64 0] m).size = m := by rw [← Array.length_toList, z]; simp
      have s2 : (Builtin.zeroCells #[.int .i64 0] (grownCap w m 0 3 - m)).size = grownCap w m 0 3 - m := by rw [← Array.length_toList, z']; simp
      refine ⟨by simp, by rw [e3]; simp, .inr ⟨w.heap.size, grownCap w m 0 3, _, rfl, Nat.zero_le _, World.alloc_heap_new w.drew _, hge, hle, by rw [Array.size_append, s1, s2]; omega, ?_⟩⟩
      rw [e3, Array.toList_append, z, Nat.mul_one, List.take_append_of_le_length (by simp)]
      simp
    exact ⟨hgr, hn _ _ _ hgr (hS.new hgr _ hp fun b ⟨ad, e1, e2⟩ => by injection e1 with e1; subst e1; subst e2; exact Nat.le_refl _)⟩

/-- A slice of one slice, of which a fact is known. -/
theorem ok_ls1S {t s : Nat} {F : Hd → World → Prop} (F' : Value → World → Prop) (hg : o.guard = none) (ho : o.op = .buildSlice t 1 #[(0, .tmp s)]) (hu : P.underlying t = some (.slice 26)) (hsz : ∀ w, (sizeOf 26).run P w = .ok 1 w) (hz : ∀ w, (zeroValue 26).run P w = .ok (.slice none 0 0) w)
    (hs : E s = some (.sat fun v w => ∃ h : Hd, v = .slice h.1 h.2.1 h.2.2 ∧ F h w)) (hF : ∀ (h : Hd) (w w' : World), Gr w0 w → F h w' → Gr w w' → (sl eSl 1 (some ⟨w.heap.size, 0, none⟩) 1 1 [h]).p w' → F' (.slice (some ⟨w.heap.size, 0, none⟩) 1 1) w') :
    OpOk P n ops (Gr w0) E o (.sat F') where
  shape := fun _ _ _ he => by cases he
  run := fun a w hn hso hS hw => by
    have h1 := hso s (look_tmp (by rw [ho]; simp [Op.operands])) _ hs
    obtain ⟨h, hv, _⟩ := h1 w (Gr.refl w)
    have hev : a.eval (.tmp s) = .slice h.1 h.2.1 h.2.2 := hv
    have hrun : (execOp a.eval o).run P w = .ok (.value (.slice (some ⟨w.heap.size, 0, none⟩) 1 1)) (w.alloc (.cells #[.slice h.1 h.2.1 h.2.2] 26)) := by
      simp only [execOp, ho, Instr.buildSlice, Sem.run_bind, run_underlying hu, Result.andThen_ok, hsz, List.map_toArray, List.map_cons, List.map_nil, hev]
      rw [if_neg (by decide)]
      simp only [show ¬ (1 * 1 = 0) by decide, if_false, Sem.run_bind, hz, Result.andThen_ok, Sem.run_pure]
      have hfill : Instr.fill (fun i => some (i * 1, 1)) (Array.map (fun x => (Value.slice none 0 0).cells[x % (Value.slice none 0 0).cells.size]!) (Array.range (1 * 1))) [(0, Value.slice h.1 h.2.1 h.2.2)] = some #[Value.slice h.1 h.2.1 h.2.2] := by kernel_rfl
      rw [hfill]
      rfl
    unfold OpR
    rw [hrun]
    refine ⟨gr_alloc _ _, fun w' g' => ?_⟩
    have g2 := (gr_alloc w (.cells #[.slice h.1 h.2.1 h.2.2] 26)).trans g'
    obtain ⟨h', hv', hf⟩ := h1 w' g2
    have hhe : h' = h := by
      rw [hv] at hv'
      obtain ⟨p1, p2, p3⟩ := h'
      obtain ⟨q1, q2, q3⟩ := h
      simp only [Value.slice.injEq] at hv'
      obtain ⟨rfl, rfl, rfl⟩ := hv'
      rfl
    subst hhe
    refine hF h' w w' hS hf g2 ?_
    have hblk : w'.heap[w.heap.size]? = some (.cells #[.slice h'.1 h'.2.1 h'.2.2] 26 (0, 0)) := Gr.block g' (World.alloc_heap_new w _)
    refine ⟨⟨rfl, Nat.le_refl _⟩, by omega, fun i z hi j u hj => ?_⟩
    have i0 : i = 0 := by have := (List.getElem?_eq_some_iff.1 hi).1; simp at this; exact this
    subst i0
    simp only [List.getElem?_cons_zero, Option.some.injEq] at hi
    subst hi
    have j0 : j = 0 := by have := (List.getElem?_eq_some_iff.1 hj).1; simp [eSl] at this; exact this
    subst j0
    simp only [eSl, List.getElem?_cons_zero, Option.some.injEq] at hj
    subst hj
    exact ⟨_, rfl, by rw [add_lit]; simp [World.cell?, hblk]⟩
  skip := fun a w hn hso hS hw => by simp [Region.wanted, hg] at hw

/-! ### Rows of operations within a fence -/
variable {ro : Option Nat} {m : Nat}
theorem li_v {p : PV} (hd : dstOk n o = true) (hg : guardOk ops o = true) (hpl : plainOp o = true) (h : OpV P n ops (Gr w) E o p) (hl : LI dfr ro m P n ops Q l (E.updo o.dst p) w) : LI dfr ro m P n ops Q (o :: l) E w := by
  intro a ha hn hs
  have hd' : ∀ x, o.dst = some x → x < n := fun x hx => by
    unfold dstOk at hd
    rw [hx] at hd
    exact of_blt hd
  have hsh : ∀ v, p.ok a w v → Sat (E.updo o.dst p) (a.put o.dst v) w := fun v hp => hs.updo hn hd' (shape_put h.shape hg hp)
  unfold wpListIn
  split
  · rename_i hw
    obtain ⟨v, hr, hp⟩ := h.run a w hn (hs.on _) (Gr.refl w) hw
    refine ⟨fun _ _ => trivial, ?_⟩
    rw [Oper.semAt_eq _ _ _ (plain_ne hpl), hr]
    exact hl _ (by rw [put_defers]; exact ha) (by rw [put_size]; exact hn) (hsh v hp)
  · rename_i hw
    exact ⟨fun _ _ => trivial, hl _ (by rw [put_defers]; exact ha) (by rw [put_size]; exact hn) (hsh _ (h.skip a w hn (hs.on _) (Gr.refl w) (by simpa using hw)))⟩
/-- A call of yield. -/
theorem li_yield {lp : Nat} {v : Value} {ts : Array TypeId} {R : Ending → World → Prop} (hd : dstOk n o = true) (hg : o.guard = none) (ho : o.op = .call { callee := .value x, args := #[y], argTypes := ts }) (hx : E.at none x = some (.func (.yield lp) #[] #[])) (hy : E.at none y = some v)
    (hY : YieldAt Fence.wide (m - 1) P lp #[v] w R) (hk : ∀ e w', R e w' → ∃ b, e = .returned b ∧ LI dfr none m P n ops Q l (E.exact.updo o.dst (.eq b)) w') : LI dfr none m P n ops Q (o :: l) E w := by
  intro a ha hn hs
  have hd' : ∀ x, o.dst = some x → x < n := fun x hx => by
    unfold dstOk at hd
    rw [hx] at hd
    exact of_blt hd
  obtain ⟨fn, tmps, assign, body, hyr, hR⟩ := hY
  have e0 := hs.ev hx
  have e1 := hs.ev hy
  unfold wpListIn
  rw [if_pos (by simp [Region.wanted, hg])]
  refine ⟨fun _ _ => trivial, ?_⟩
  rw [Oper.semAt_eq _ _ _ (by rw [ho]; intro c hc; cases hc)]
  have hrun : (execOp a.eval o).run P w = .ok (.round lp fn tmps assign body) w := by
    simp only [execOp, ho, resolve, e0, Deferred.ofValue, Sem.run_bind, Sem.run_pure, Result.andThen_ok, invoke, List.map_toArray, List.map_cons, List.map_nil, e1]
    exact hyr
  rw [hrun]
  refine ⟨fun e => (by cases e), RoundIn.mono hR fun e w' hr => ?_⟩
  obtain ⟨b, rfl, hl⟩ := hk e w' hr
  exact hl _ (by rw [put_defers]; exact ha) (by rw [put_size]; exact hn) (hs.exact.updo hn hd' rfl)
theorem cw_ci {c : Code} (h : CI dfr none m P n c Q E w) : CW dfr P n c Q E w := fun a ha hn hs => (wpIn_wide (n := m)).1 (h a ha hn hs)
theorem ci_block {id : Nat} {c : Code} (h : CI dfr ro m P n c (Exit.inBlock id Q) E w) : CI dfr ro m P n (.block id c) Q E w := fun a ha hn hs => wpIn_block (h a ha hn hs)
end
end Go.Proofs.Ytnpgeohkmdcbkaa.Aq

namespace Go.Proofs.Ytnpgeohkmdcbkaa.Aq

/-- Does the tail of the arc back of a see its end, and has it no height yet? -/
def seeB (c : Cs) (res D : List Int) (a : Nat) : Bool :=
  (!decide (c.Head.getD a 0 = (c.S : Int)) && decide (0 < res.getD (c.Rev.getD a 0).toNat 0)) && decide (D.getD (c.Head.getD a 0).toNat 0 = (c.N : Int))
def seeTo (c : Cs) (res D : List Int) (v a : Nat) : List Int := ((List.range a).filter fun b : Nat => decide (c.First.getD v 0 ≤ (b : Int)) && seeB c res D b).map fun b : Nat => c.Head.getD b 0
def seeV (c : Cs) (res D : List Int) (v : Nat) : List Int := seeTo c res D v (c.First.getD (v + 1) 0).toNat
def partL (c : Cs) (res D row : List Int) : List Int := row.flatMap fun v => seeV c res D v.toNat

theorem seeTo_start {c : Cs} {res D : List Int} {v a : Nat} (h : (a : Int) ≤ c.First.getD v 0) : seeTo c res D v a = [] := by
  unfold seeTo
  rw [List.map_eq_nil_iff, List.filter_eq_nil_iff]
  intro b hb
  have := List.mem_range.1 hb
  rw [decide_eq_false (by omega : ¬ c.First.getD v 0 ≤ (b : Int))]
  simp
theorem seeTo_succ {c : Cs} {res D : List Int} {v a : Nat} (h : c.First.getD v 0 ≤ (a : Int)) : seeTo c res D v (a + 1) = seeTo c res D v a ++ (if seeB c res D a = true then [c.Head.getD a 0] else []) := by
  unfold seeTo
  rw [List.range_succ, List.filter_append, List.map_append]
  congr 1
  simp only [List.filter_cons, List.filter_nil, decide_eq_true h, Bool.true_and]
  split <;> simp_all
theorem seeTo_yes {c : Cs} {res D : List Int} {v a : Nat} (h : c.First.getD v 0 ≤ (a : Int)) (hb : seeB c res D a = true) : seeTo c res D v (a + 1) = seeTo c res D v a ++ [c.Head.getD a 0] := by
  rw [seeTo_succ h, if_pos hb]
theorem seeTo_no {c : Cs} {res D : List Int} {v a : Nat} (h : c.First.getD v 0 ≤ (a : Int)) (hb : seeB c res D a = false) : seeTo c res D v (a + 1) = seeTo c res D v a := by
  rw [seeTo_succ h, if_neg (by rw [hb]; decide), List.append_nil]
theorem seeTo_len (c : Cs) (res D : List Int) (v a : Nat) : (seeTo c res D v a).length ≤ a := by
  unfold seeTo
  rw [List.length_map]
  exact Nat.le_trans (List.length_filter_le _ _) (by simp)
theorem seeV_len {c : Cs} (hw : WF c) (res D : List Int) (v : Nat) : (seeV c res D v).length ≤ 1280 := by
  refine Nat.le_trans (seeTo_len c res D v _) ?_
  have hm := hw.m
  rcases Nat.lt_or_ge v c.N with h | h
  · have hle := first_mono hw (show v + 1 ≤ c.N by omega) (Nat.le_refl _)
    rw [hw.fN] at hle
    omega
  · rw [List.getD_eq_getElem?_getD, List.getElem?_eq_none (by rw [hw.fl]; omega)]
    simp
theorem partL_len {c : Cs} (hw : WF c) (res D : List Int) : ∀ row : List Int, (partL c res D row).length ≤ row.length * 1280
  | [] => by simp [partL]
  | v :: row => by
    have h1 := seeV_len hw res D v.toNat
    have h2 := partL_len hw res D row
    simp only [partL, List.flatMap_cons, List.length_append, List.length_cons, Nat.add_mul] at h2 ⊢
    omega
theorem partL_step (c : Cs) (res D : List Int) {row : List Int} {k : Nat} (hk : k < row.length) : partL c res D (row.take (k + 1)) = partL c res D (row.take k) ++ seeV c res D (row.getD k 0).toNat := by
  rw [List.take_succ_eq_append_getElem hk, partL, List.flatMap_append]
  simp [partL, List.getD_eq_getElem?_getD, hk]
theorem seeTo_mem {c : Cs} {res D : List Int} {v a : Nat} {x : Int} : x ∈ seeTo c res D v a ↔ ∃ b : Nat, b < a ∧ c.First.getD v 0 ≤ (b : Int) ∧ seeB c res D b = true ∧ c.Head.getD b 0 = x := by
  unfold seeTo
  simp only [List.mem_map, List.mem_filter, List.mem_range, Bool.and_eq_true, decide_eq_true_eq]
  constructor
  · rintro ⟨b, ⟨h1, h2, h3⟩, h4⟩; exact ⟨b, h1, h2, h3, h4⟩
  · rintro ⟨b, h1, h2, h3, h4⟩; exact ⟨b, ⟨h1, h2, h3⟩, h4⟩
theorem seeV_mem {c : Cs} (hw : WF c) {res D : List Int} {v : Nat} (hv : v < c.N) {x : Int} : x ∈ seeV c res D v ↔ ∃ u : Nat, u < c.N ∧ x = u ∧ EdgeS c res u v ∧ D.getD u 0 = c.N := by
  unfold seeV
  rw [seeTo_mem]
  have hle := first_mono hw (show v + 1 ≤ c.N by omega) (Nat.le_refl _)
  rw [hw.fN] at hle
  have h0 := first_mono hw (show 0 ≤ v + 1 by omega) (show v + 1 ≤ c.N by omega)
  rw [hw.f0] at h0
  constructor
  · rintro ⟨b, h1, h2, h3, h4⟩
    have hb : b < c.Head.length := by omega
    have hd := hw.hd b hb
    unfold seeB at h3
    simp only [Bool.and_eq_true, Bool.not_eq_true', decide_eq_false_iff_not, decide_eq_true_eq] at h3
    obtain ⟨⟨h5, h6⟩, h7⟩ := h3
    have hu : (c.Head.getD b 0).toNat < c.N := by omega
    exact ⟨(c.Head.getD b 0).toNat, hu, by omega, ⟨by omega, (edge_rev hw hv hu).2 ⟨b, h2, by omega, rfl, h6⟩⟩, h7⟩
  · rintro ⟨u, h1, rfl, ⟨h2, h3⟩, h4⟩
    obtain ⟨b, h5, h6, h7, h8⟩ := (edge_rev hw hv h1).1 h3
    have hb : b < c.Head.length := by omega
    have hd := hw.hd b hb
    have e : c.Head.getD b 0 = (u : Int) := by omega
    refine ⟨b, by omega, h5, ?_, e⟩
    unfold seeB
    rw [decide_eq_true h8, e, Int.toNat_natCast, decide_eq_true h4, decide_eq_false (by omega : ¬ (u : Int) = (c.S : Int))]
    rfl
theorem partL_mem {c : Cs} (hw : WF c) {res D row : List Int} (hr : ∀ v ∈ row, 0 ≤ v ∧ v < c.N) {x : Int} : x ∈ partL c res D row ↔ ∃ u : Nat, u < c.N ∧ x = u ∧ D.getD u 0 = c.N ∧ ∃ v : Nat, (v : Int) ∈ row ∧ EdgeS c res u v := by
  unfold partL
  rw [List.mem_flatMap]
  constructor
  · rintro ⟨v, h1, h2⟩
    have := hr v h1
    obtain ⟨u, h3, h4, h5, h6⟩ := (seeV_mem hw (by omega)).1 h2
    exact ⟨u, h3, h4, h6, v.toNat, by rw [Int.toNat_of_nonneg this.1]; exact h1, h5⟩
  · rintro ⟨u, h1, h2, h3, v, h4, h5⟩
    have := hr _ h4
    exact ⟨(v : Int), h4, (seeV_mem hw (by omega)).2 ⟨u, h1, h2, by simpa using h5, h3⟩⟩

/-! ### Row by row -/
/-- How many have no height yet. -/
def big (N : Nat) (D : List Int) : Nat := ((List.range N).filter fun v => decide (D.getD v 0 = (N : Int))).length
/-- Heights so far, and the last row. -/
structure Lay (N : Nat) (E : Nat → Nat → Prop) (t : Nat) (D row : List Int) (k : Nat) : Prop where
  len : D.length = N
  tN : t < N
  rng : ∀ v, v < N → (0 ≤ D.getD v 0 ∧ D.getD v 0 ≤ k) ∨ D.getD v 0 = N
  dt : D.getD t 0 = 0
  mem : ∀ x : Int, x ∈ row ↔ ∃ v : Nat, v < N ∧ x = v ∧ D.getD v 0 = k ∧ D.getD v 0 < N
  why : ∀ v, v < N → v ≠ t → D.getD v 0 < N → ∃ w, w < N ∧ E v w ∧ D.getD v 0 = D.getD w 0 + 1
  done : ∀ u w, u < N → w < N → E u w → D.getD w 0 < k → D.getD w 0 < N → D.getD u 0 ≤ D.getD w 0 + 1
  cnt : k + big N D + (if row = [] then 0 else 1) ≤ N

theorem big_lt {N : Nat} {D D' : List Int} (h : ∀ v, v < N → D'.getD v 0 = N → D.getD v 0 = N) {u : Nat} (hu : u < N) (h1 : D.getD u 0 = N) (h2 : D'.getD u 0 ≠ N) : big N D' < big N D := by
  unfold big
  have e : (List.range N).filter (fun v => decide (D'.getD v 0 = (N : Int))) = ((List.range N).filter fun v => decide (D.getD v 0 = (N : Int))).filter fun v => decide (D'.getD v 0 = (N : Int)) := by
    rw [List.filter_filter]
    refine List.filter_congr fun v hv => ?_
    by_cases h3 : D'.getD v 0 = N
    · rw [decide_eq_true h3, decide_eq_true (h v (List.mem_range.1 hv) h3)]; rfl
    · rw [decide_eq_false h3]; rfl
  rw [e]
  exact List.length_filter_lt_length_iff_exists.2 ⟨u, List.mem_filter.2 ⟨List.mem_range.2 hu, by simpa using h1⟩, by simpa using h2⟩
theorem big_le (N : Nat) (D : List Int) : big N D ≤ N := by
  unfold big
  exact Nat.le_trans (List.length_filter_le _ _) (by simp)

theorem Lay.start {N t : Nat} (E : Nat → Nat → Prop) (hN : 1 ≤ N) (ht : t < N) : Lay N E t ((List.replicate N (N : Int)).set t 0) [(t : Int)] 0 := by
  have get := fun v => set_get (D := List.replicate N (N : Int)) (u := t) (z := 0) (by simpa using ht) v
  have rep : ∀ v, v < N → (List.replicate N (N : Int)).getD v 0 = N := fun v hv => by simp [List.getD_eq_getElem?_getD, hv]
  refine ⟨by simp, ht, fun v hv => ?_, ?_, fun x => ?_, fun v hv hne h => ?_, fun u w _ hw _ h _ => ?_, ?_⟩
  · rw [get v]; split
    · left; omega
    · right; exact rep v hv
  · rw [get t, if_pos rfl]
  · rw [List.mem_singleton]
    constructor
    · rintro rfl; exact ⟨t, ht, rfl, by rw [get t, if_pos rfl]; rfl, by rw [get t, if_pos rfl]; omega⟩
    · rintro ⟨v, hv, rfl, h, _⟩
      rw [get v] at h
      split at h
      · rename_i e; rw [e]
      · rw [rep v hv] at h; omega
  · rw [get v, if_neg hne, rep v hv] at h; omega
  · rw [get w] at h
    split at h
    · omega
    · rw [rep w hw] at h; omega
  · have := big_lt (N := N) (D := List.replicate N (N : Int)) (D' := (List.replicate N (N : Int)).set t 0) (fun v hv _ => rep v hv) ht (rep t ht) (by rw [get t, if_pos rfl]; omega)
    have := big_le N (List.replicate N (N : Int))
    rw [if_neg (by simp)]
    omega

/-- The next row. -/
theorem Lay.next {N : Nat} {E : Nat → Nat → Prop} {t : Nat} {D row D' row' : List Int} {k : Nat} (b : Lay N E t D row k) (hne : row ≠ []) (hl : D'.length = N)
    (hr : ∀ x : Int, x ∈ row' ↔ ∃ u : Nat, u < N ∧ x = u ∧ D.getD u 0 = N ∧ ∃ v : Nat, (v : Int) ∈ row ∧ E u v)
    (hD : ∀ v : Nat, v < N → D'.getD v 0 = if (v : Int) ∈ row' then (k : Int) + 1 else D.getD v 0) : Lay N E t D' row' (k + 1) := by
  have hc := b.cnt
  rw [if_neg hne] at hc
  have inr : ∀ v : Nat, (v : Int) ∈ row' → v < N ∧ D.getD v 0 = N ∧ ∃ w : Nat, (w : Int) ∈ row ∧ E v w := fun v hv => by
    obtain ⟨u, h1, h2, h3, h4⟩ := (hr _).1 hv
    have : v = u := by omega
    subst this
    exact ⟨h1, h3, h4⟩
  have old : ∀ v : Nat, v < N → D.getD v 0 ≠ N → D'.getD v 0 = D.getD v 0 := fun v hv h => by rw [hD v hv, if_neg fun hm => h (inr v hm).2.1]
  have big' : big N D' ≤ big N D ∧ (row' ≠ [] → big N D' < big N D) := by
    have sub : ∀ v, v < N → D'.getD v 0 = N → D.getD v 0 = N := fun v hv h => by
      rw [hD v hv] at h
      split at h
      · rename_i hm; exact (inr v hm).2.1
      · exact h
    constructor
    · unfold big
      have e : (List.range N).filter (fun v => decide (D'.getD v 0 = (N : Int))) = ((List.range N).filter fun v => decide (D.getD v 0 = (N : Int))).filter fun v => decide (D'.getD v 0 = (N : Int)) := by
        rw [List.filter_filter]
        refine List.filter_congr fun v hv => ?_
        by_cases h3 : D'.getD v 0 = N
        · rw [decide_eq_true h3, decide_eq_true (sub v (List.mem_range.1 hv) h3)]; rfl
        · rw [decide_eq_false h3]; rfl
      rw [e]
      exact List.length_filter_le _ _
    · intro hn
      obtain ⟨x, hx⟩ := List.exists_mem_of_ne_nil _ hn
      obtain ⟨u, h1, rfl, h3, _⟩ := (hr x).1 hx
      have hbN : big N D ≥ 1 := by
        unfold big
        exact List.length_pos_of_mem (List.mem_filter.2 ⟨List.mem_range.2 h1, by simpa using h3⟩)
      exact big_lt sub h1 h3 (by rw [hD u h1, if_pos hx]; omega)
  have kN : row' ≠ [] → (k : Int) + 1 < N := fun hn => by have := big'.2 hn; omega
  refine ⟨hl, b.tN, fun v hv => ?_, ?_, fun x => ?_, fun v hv hnt h => ?_, fun u w hu hw he h h' => ?_, ?_⟩
  · rw [hD v hv]
    split
    · left; omega
    · rcases b.rng v hv with h | h
      · left; omega
      · right; exact h
  · rw [old t b.tN (by rw [b.dt]; have := b.tN; omega)]; exact b.dt
  · constructor
    · intro hx
      have hn : row' ≠ [] := fun e => by rw [e] at hx; cases hx
      obtain ⟨u, h1, rfl, _⟩ := (hr x).1 hx
      have := kN hn
      exact ⟨u, h1, rfl, by rw [hD u h1, if_pos hx]; omega, by rw [hD u h1, if_pos hx]; exact this⟩
    · rintro ⟨v, hv, rfl, h1, h2⟩
      rw [hD v hv] at h1 h2
      split at h1
      · rename_i hm; exact hm
      · rename_i hm
        rw [if_neg hm] at h2
        rcases b.rng v hv with h | h <;> omega
  · by_cases hm : (v : Int) ∈ row'
    · obtain ⟨_, _, w, h3, h4⟩ := inr v hm
      obtain ⟨w', h5, h6, h7, h8⟩ := (b.mem _).1 h3
      have : w = w' := by omega
      subst this
      refine ⟨w, h5, h4, ?_⟩
      rw [hD v hv, if_pos hm, old w h5 (by omega)]
      omega
    · rw [hD v hv, if_neg hm] at h ⊢
      obtain ⟨w, h1, h2, h3⟩ := b.why v hv hnt h
      refine ⟨w, h1, h2, ?_⟩
      have hwN : D.getD w 0 ≠ N := by rcases b.rng w h1 with h4 | h4 <;> omega
      rw [old w h1 hwN]; exact h3
  · by_cases hm : (w : Int) ∈ row'
    · rw [hD w hw, if_pos hm] at h; omega
    · rw [hD w hw, if_neg hm] at h h' ⊢
      by_cases hk : D.getD w 0 < k
      · have h1 := b.done u w hu hw he hk h'
        by_cases hu' : D.getD u 0 = N
        · omega
        · rw [old u hu hu']; exact h1
      · have hw2 : (w : Int) ∈ row := (b.mem _).2 ⟨w, hw, rfl, by omega, h'⟩
        by_cases hu' : D.getD u 0 = N
        · have : (u : Int) ∈ row' := (hr _).2 ⟨u, hu, rfl, hu', w, hw2, he⟩
          rw [hD u hu, if_pos this]; omega
        · rw [old u hu hu']
          rcases b.rng u hu with h1 | h1
          · omega
          · exact absurd h1 hu'
  · split
    · have := big'.1; omega
    · rename_i hn; have := big'.2 hn; omega

/-- At its end. -/
theorem Lay.low {N : Nat} {E : Nat → Nat → Prop} {t : Nat} {D : List Int} {k : Nat} (b : Lay N E t D [] k) : Low N E (hTo N t) D := by
  have no : ∀ w, w < N → D.getD w 0 < N → D.getD w 0 < k := fun w hw h => by
    rcases Int.lt_or_le (D.getD w 0) k with h1 | h1
    · exact h1
    · have := (b.mem (w : Int)).2 ⟨w, hw, rfl, by rcases b.rng w hw with h2 | h2 <;> omega, h⟩
      cases this
  have leN : ∀ v, v < N → D.getD v 0 ≤ N := fun v hv => by
    rcases b.rng v hv with h | h
    · have := b.cnt; omega
    · omega
  refine ⟨b.len, fun v hv => ?_, fun v hv => ?_, fun u w hu hw he => ?_, fun v hv => ?_⟩
  · rcases b.rng v hv with h | h <;> omega
  · unfold hTo; split
    · rename_i e; subst e; rw [b.dt]; omega
    · exact leN v hv
  · rcases Int.lt_or_le (D.getD w 0) N with h | h
    · exact b.done u w hu hw he (no w hw h) h
    · have := leN u hu; omega
  · unfold hTo
    by_cases h1 : v = t
    · subst h1; left; rw [if_pos rfl]; exact b.dt
    · rw [if_neg h1]
      rcases Int.lt_or_le (D.getD v 0) N with h | h
      · exact .inr (b.why v hv h1 h)
      · left; have := leN v hv; omega

/-- A height for each of a row. -/
def putAll (D : List Int) (z : Int) (xs : List Int) : List Int := xs.foldl (fun D x => D.set x.toNat z) D
theorem putAll_len (z : Int) : ∀ (xs D : List Int), (putAll D z xs).length = D.length
  | [], _ => rfl
  | x :: xs, D => by rw [putAll, List.foldl_cons, ← putAll, putAll_len z xs]; simp
theorem putAll_step (D : List Int) (z : Int) {xs : List Int} {k : Nat} (hk : k < xs.length) : putAll D z (xs.take (k + 1)) = (putAll D z (xs.take k)).set (xs.getD k 0).toNat z := by
  rw [List.take_succ_eq_append_getElem hk, putAll, List.foldl_append]
  simp [putAll, List.getD_eq_getElem?_getD, hk]
theorem putAll_get (z : Int) : ∀ (xs D : List Int), (∀ x ∈ xs, 0 ≤ x ∧ x < D.length) → ∀ v : Nat, v < D.length → (putAll D z xs).getD v 0 = if (v : Int) ∈ xs then z else D.getD v 0
  | [], D, _, v, _ => by simp [putAll]
  | x :: xs, D, h, v, hv => by
    have hx := h x List.mem_cons_self
    rw [putAll, List.foldl_cons, ← putAll, putAll_get z xs _ (fun y hy => by have := h y (List.mem_cons_of_mem _ hy); simpa using this) v (by simpa using hv)]
    by_cases h1 : (v : Int) ∈ xs
    · rw [if_pos h1, if_pos (List.mem_cons_of_mem _ h1)]
    · rw [if_neg h1, set_get (by omega)]
      by_cases h2 : v = x.toNat
      · rw [if_pos h2, if_pos (by rw [h2, Int.toNat_of_nonneg hx.1]; exact List.mem_cons_self)]
      · rw [if_neg h2, if_neg fun hm => ?_]
        rcases List.mem_cons.1 hm with h3 | h3
        · omega
        · exact h1 h3
end Go.Proofs.Ytnpgeohkmdcbkaa.Aq

namespace Go.Proofs.Ytnpgeohkmdcbkaa.Aq
open Go Go.RowKit

/-- The numbers at which it lies here. -/
def lSort_ren : Go.Shelf.Ren := ⟨fun | 5 => 104 | 8 => 117 | 7 => 116 | 19 => 127 | 20 => 128 | 10 => 118 | 11 => 119 | 12 => 120 | 13 => 121 | 14 => 122 | 15 => 123 | 16 => 124 | 17 => 125 | 18 => 126 | 30 => 129 | 31 => 130 | 32 => 131 | 33 => 132 | 34 => 133 | 35 => 107 | 40 => 134 | n => n, fun | 23 => 26 | 25 => 3 | 3 => 3 | 32 => 118 | 22 => 26 | 0 => 0 | 44 => 137 | 46 => 140 | 4 => 4 | 36 => 149 | 35 => 148 | 41 => 45 | 5 => 5 | 9 => 9 | 53 => 156 | 57 => 160 | 63 => 162 | 64 => 163 | n => n, fun n => n⟩
theorem lSort : SlLaysM.n5 Try.prog lSort_ren where
  mixed := by kernel_rfl
  f5 := ⟨ "slices.Sort[[]int,int]", by decide, Try.func104.trans (congrArg some (by kernel_rfl))⟩
  f7 := ⟨ "slices.pdqsortOrdered[int]", by decide, Try.func116.trans (congrArg some (by kernel_rfl))⟩
  f8 := Try.func117.trans (congrArg some (by kernel_rfl))
  f10 := ⟨ "slices.insertionSortOrdered[int]", by decide, Try.func118.trans (congrArg some (by kernel_rfl))⟩
  f11 := ⟨ "slices.heapSortOrdered[int]", by decide, Try.func119.trans (congrArg some (by kernel_rfl))⟩
  f12 := ⟨ "slices.breakPatternsOrdered[int]", by decide, Try.func120.trans (congrArg some (by kernel_rfl))⟩
  f13 := ⟨ "slices.choosePivotOrdered[int]", by decide, Try.func121.trans (congrArg some (by kernel_rfl))⟩
  f14 := ⟨ "slices.reverseRangeOrdered[int]", by decide, Try.func122.trans (congrArg some (by kernel_rfl))⟩
  f15 := ⟨ "slices.partialInsertionSortOrdered[int]", by decide, Try.func123.trans (congrArg some (by kernel_rfl))⟩
  f16 := ⟨ "cmp.Less[int]", by decide, Try.func124.trans (congrArg some (by kernel_rfl))⟩
  f17 := ⟨ "slices.partitionEqualOrdered[int]", by decide, Try.func125.trans (congrArg some (by kernel_rfl))⟩
  f18 := ⟨ "slices.partitionOrdered[int]", by decide, Try.func126.trans (congrArg some (by kernel_rfl))⟩
  f19 := Try.func127.trans (congrArg some (by kernel_rfl))
  f20 := Try.func128.trans (congrArg some (by kernel_rfl))
  f30 := ⟨ "slices.siftDownOrdered[int]", by decide, Try.func129.trans (congrArg some (by kernel_rfl))⟩
  f31 := Try.func130.trans (congrArg some (by kernel_rfl))
  f32 := Try.func131.trans (congrArg some (by kernel_rfl))
  f33 := ⟨ "slices.medianAdjacentOrdered[int]", by decide, Try.func132.trans (congrArg some (by kernel_rfl))⟩
  f34 := ⟨ "slices.medianOrdered[int]", by decide, Try.func133.trans (congrArg some (by kernel_rfl))⟩
  f35 := ⟨ "cmp.isNaN[int]", by decide, Try.func107.trans (congrArg some (by kernel_rfl))⟩
  f40 := ⟨ "slices.order2Ordered[int]", by decide, Try.func134.trans (congrArg some (by kernel_rfl))⟩
  t0 := Try.underlying0
  a0 := Try.isAgg0
  z0 := Try.sizeOf0
  v0 := Try.zeroValue0
  t3 := Try.underlying3
  a3 := Try.isAgg3
  z3 := Try.sizeOf3
  v3 := Try.zeroValue3
  t4 := Try.underlying4
  a4 := Try.isAgg4
  z4 := Try.sizeOf4
  v4 := Try.zeroValue4
  t5 := Try.underlying5
  a5 := Try.isAgg5
  z5 := Try.sizeOf5
  v5 := Try.zeroValue5
  t9 := Try.underlying9
  a9 := Try.isAgg9
  z9 := Try.sizeOf9
  v9 := Try.zeroValue9
  t22 := Try.underlying26
  a22 := Try.isAgg26
  z22 := Try.sizeOf26
  v22 := Try.zeroValue26
  t23 := Try.underlying26
  a23 := Try.isAgg26
  z23 := Try.sizeOf26
  v23 := Try.zeroValue26
  t25 := Try.underlying3
  a25 := Try.isAgg3
  z25 := Try.sizeOf3
  v25 := Try.zeroValue3
  t32 := Try.underlying118
  a32 := Try.isAgg118
  z32 := Try.sizeOf118
  v32 := Try.zeroValue118
  t35 := Try.underlying148
  a35 := Try.isAgg148
  z35 := Try.sizeOf148
  v35 := Try.zeroValue148
  t36 := Try.underlying149
  a36 := Try.isAgg149
  z36 := Try.sizeOf149
  v36 := Try.zeroValue149
  t41 := Try.underlying45
  a41 := Try.isAgg45
  z41 := Try.sizeOf45
  v41 := Try.zeroValue45
  t44 := Try.underlying137
  a44 := Try.isAgg137
  z44 := Try.sizeOf137
  v44 := Try.zeroValue137
  t46 := Try.underlying140
  a46 := Try.isAgg140
  z46 := Try.sizeOf140
  v46 := Try.zeroValue140
  t53 := Try.underlying156
  a53 := Try.isAgg156
  z53 := Try.sizeOf156
  v53 := Try.zeroValue156
  t57 := Try.underlying160
  a57 := Try.isAgg160
  z57 := Try.sizeOf160
  v57 := Try.zeroValue160
  t63 := Try.underlying162
  a63 := Try.isAgg162
  z63 := Try.sizeOf162
  v63 := Try.zeroValue162
  t64 := Try.underlying163
  a64 := Try.isAgg163
  z64 := Try.sizeOf163
  v64 := Try.zeroValue163
/-- The numbers at which it lies here. -/
def lComp_ren : Go.Shelf.Ren := ⟨fun | 43 => 105 | n => n, fun | 22 => 26 | 23 => 3 | 3 => 3 | 4 => 4 | 0 => 0 | n => n, fun n => n⟩
theorem lComp : SlLaysN.n43 Try.prog lComp_ren where
  mixed := by kernel_rfl
  f43 := ⟨ "slices.Compact[[]int,int]", by decide, Try.func105.trans (congrArg some (by kernel_rfl))⟩
  t0 := Try.underlying0
  a0 := Try.isAgg0
  z0 := Try.sizeOf0
  v0 := Try.zeroValue0
  t3 := Try.underlying3
  a3 := Try.isAgg3
  z3 := Try.sizeOf3
  v3 := Try.zeroValue3
  t4 := Try.underlying4
  a4 := Try.isAgg4
  z4 := Try.sizeOf4
  v4 := Try.zeroValue4
  t22 := Try.underlying26
  a22 := Try.isAgg26
  z22 := Try.sizeOf26
  v22 := Try.zeroValue26
  t23 := Try.underlying3
  a23 := Try.isAgg3
  z23 := Try.sizeOf3
  v23 := Try.zeroValue3
  i23 := by kernel_rfl

theorem flat_int (xs : List Int) : xs.flatMap (eInt .i64) = xs.map (Value.int .i64) := by
  induction xs with
  | nil => rfl
  | cons x xs ih => rw [List.flatMap_cons, ih]; rfl
theorem own_back {A : Option Addr} {m c : Nat} {xs : List Int} {w : World} (hl : xs.length = m) (h : w.ownsRow 0 3 1 (.slice A m c) m (xs.map (Value.int .i64))) : (own (eInt .i64) 1 3 A m c xs).p w := ⟨hl, by rw [flat_int]; exact h⟩
theorem own_form {A : Option Addr} {m c : Nat} {xs : List Int} {w : World} (h : (own (eInt .i64) 1 3 A m c xs).p w) : (A = none ∧ m = 0 ∧ c = 0 ∧ xs = []) ∨ ∃ g cur, A = some ⟨g, 0, none⟩ ∧ w.heap[g]? = some (.cells cur 3 (0, 0)) ∧ m ≤ c ∧ c ≤ maxLen ∧ cur.size = c * 1 ∧ cur.toList.take xs.length = xs.map (Value.int .i64) := by
  have hl := h.1
  have h' : w.ownsRow 0 3 1 (.slice A m c) m (xs.flatMap (eInt .i64)) := h.2
  rcases h'.2 with ⟨h1, h2⟩ | ⟨g, cap, cur, hv, _, hh, h3, h4, h5, h6⟩
  · injection h1 with h1 h2' h3
    exact .inl ⟨h1, h2', h3, List.eq_nil_of_length_eq_zero (by omega)⟩
  · injection hv with hv1 _ hv3
    subst hv3
    rw [flat_int, Nat.mul_one, ← hl] at h6
    exact .inr ⟨g, cur, hv1, hh, h3, h4, h5, h6⟩
theorem St.sorted {B : Nat} {we w : World} {L : List Asn} {g m c n : Nat} {xs ys : List Int} {os : Array Obj} (hS : St B we w (own (eInt .i64) 1 3 (some ⟨g, 0, none⟩) m c xs :: L)) (hy : ys.length = m) :
    St B we (Sort.grow (Sort.putRow (Value.int .i64) (Sort.ahead w n) g 0 ys.toArray) os) (own (eInt .i64) 1 3 (some ⟨g, 0, none⟩) m c ys :: L) := by
  have h := hS.ok _ (.head _)
  have hl := h.1
  rcases own_form h with ⟨h1, _⟩ | ⟨g', cur, h1, hh, h3, h4, h5, h6⟩
  · cases h1
  · injection h1 with h1
    injection h1 with h1
    subst h1
    have gb := grownBy_sortedI (w := w) (g := g) (n := n) (os := os) ys.toArray
    refine hS.write .here rfl (fun b hb hne => gb.block b hb fun e => hne ?_) gb.os gb.tape gb.output gb.size (own_back hy ?_) fun b hb => .inl hb
    · injection e with e
      exact ⟨_, rfl, e.symm⟩
    · have := ownsRow_sortedI (n := n) (os := os) (base := 0) (ss := xs) (ts := ys) (by omega) (Nat.zero_le g) hh (by omega) h4 h5
      rw [hl] at this
      exact this

theorem sort_le (xs : List Int) : (xs.mergeSort fun x y => decide (x ≤ y)).Pairwise (· ≤ ·) := by
  have h := List.pairwise_mergeSort (le := fun x y : Int => decide (x ≤ y)) (fun a b c h1 h2 => by simp only [decide_eq_true_eq] at h1 h2 ⊢; omega) (fun a b => by simp only [Bool.or_eq_true, decide_eq_true_eq]; omega) xs
  exact h.imp fun h => of_decide_eq_true h
/-- slices.Sort. -/
theorem f104 {B : Nat} {we w : World} {L : List Asn} (A : Option Addr) (m c : Nat) (xs : List Int) (hS : St B we w (own (eInt .i64) 1 3 A m c xs :: L)) (hm : m ≤ 140737488351232) :
    Calls Try.prog 104 #[.slice A m c] w fun e w' => e = .returned (.tuple #[]) ∧ ∃ ys, ys.Perm xs ∧ ys.Pairwise (· ≤ ·) ∧ St B we w' (own (eInt .i64) 1 3 A m c ys :: L) := by
  have h := hS.ok _ (.head _)
  have hl := h.1
  rcases own_form h with ⟨rfl, rfl, rfl, rfl⟩ | ⟨g, cur, rfl, hh, h3, h4, h5, h6⟩
  · have hc := AnyM.slices_Sort_int_none lSort none 0 w
    exact hc.mono fun e w' ⟨h1, h2⟩ => ⟨h1, [], .nil, .nil, by rw [h2]; exact hS⟩
  · have hlt : g < w.heap.size := (Array.getElem?_eq_some_iff.1 hh).1
    have hc := AnyM.slices_Sort_int lSort g 0 c xs w (holds_of_blockI hh h6) hlt (by omega)
    rw [hl] at hc
    refine hc.mono fun e w' ⟨h1, n, os, h2⟩ => ⟨h1, xs.mergeSort fun x y => decide (x ≤ y), List.mergeSort_perm _ _, sort_le xs, ?_⟩
    rw [h2]
    exact hS.sorted (by rw [List.length_mergeSort]; exact hl)

theorem compact_mem (xs : List Int) (x : Int) : x ∈ Lib.compact xs ↔ x ∈ xs := by
  unfold Lib.compact Lib.compactUpTo
  simp only [List.mem_map, List.mem_filter, List.mem_range]
  constructor
  · rintro ⟨j, ⟨h1, _⟩, rfl⟩
    rw [getElem!_pos _ j (by simpa using h1)]
    simp
  · intro hx
    obtain ⟨i, hi, e⟩ := List.mem_iff_getElem.1 hx
    have key : ∀ k, k < xs.length → ∃ j, (j < xs.length ∧ Lib.keeps xs.toArray j = true) ∧ xs.toArray[j]! = xs.toArray[k]! := by
      intro k
      induction k with
      | zero => intro hk; exact ⟨0, ⟨hk, Lib.keeps_lt_one _ 0 (by omega)⟩, rfl⟩
      | succ k ih =>
        intro hk
        by_cases h2 : xs.toArray[k + 1]! = xs.toArray[k + 1 - 1]!
        · obtain ⟨j, h3, h4⟩ := ih (by omega)
          exact ⟨j, h3, h4.trans h2.symm⟩
        · exact ⟨k + 1, ⟨hk, Lib.keeps_pos h2⟩, rfl⟩
    obtain ⟨j, h1, h2⟩ := key i hi
    refine ⟨j, h1, h2.trans ?_⟩
    rw [getElem!_pos _ i (by simpa using hi), ← e]
    simp
theorem compact_len (xs : List Int) : (Lib.compact xs).length ≤ xs.length := by
  unfold Lib.compact Lib.compactUpTo
  rw [List.length_map]
  exact Nat.le_trans (List.length_filter_le _ _) (by simp)
theorem compact_nodup {xs : List Int} (h : xs.Pairwise (· ≤ ·)) : (Lib.compact xs).Nodup := by
  have mono : ∀ i j, i ≤ j → j < xs.length → xs.toArray[i]! ≤ xs.toArray[j]! := fun i j hij hj => by
    rw [getElem!_pos _ i (by simp; omega), getElem!_pos _ j (by simpa using hj)]
    rcases Nat.lt_or_eq_of_le hij with h1 | rfl
    · have := List.pairwise_iff_getElem.1 h i j (by omega) hj h1
      simpa using this
    · exact Int.le_refl _
  unfold Lib.compact Lib.compactUpTo
  rw [List.Nodup, List.pairwise_map]
  have hr : ((List.range xs.length).filter (Lib.keeps xs.toArray)).Pairwise (· < ·) := List.Pairwise.filter _ List.pairwise_lt_range
  refine List.Pairwise.imp_of_mem (fun {a b} ha hb hab e => ?_) hr
  have hb1 := List.mem_filter.1 hb
  have hbl := List.mem_range.1 hb1.1
  have hk : b = 0 ∨ xs.toArray[b]! ≠ xs.toArray[b - 1]! := of_decide_eq_true hb1.2
  rcases hk with h0 | h0
  · omega
  · have h1 := mono a (b - 1) (by omega) (by omega)
    have h2 := mono (b - 1) b (by omega) hbl
    exact h0 (by omega)

set_option maxRecDepth 10000 in
theorem f105n (w : World) : Calls Try.prog 105 #[.slice none 0 0] w fun e w' => e = .returned (.slice none 0 0) ∧ Gr w w' := by
  refine calls_cw Try.func105 rfl Try.ntmps105 rfl ?_
  refine cw_seq ?_
  -- region 0
  refine cw_region ?_
  refine lw_v rfl rfl (ok_assign rfl (.n rfl) rfl) ?_
  refine lw_nil ?_
  refine Ends.keep [(0, .eq _)] (.cons rfl .nil) ?_
  refine ends_then ?_
  refine cw_seq ?_
  refine cw_seq ?_
  -- region 1
  refine cw_region ?_
  refine lw_v rfl rfl (ok_move rfl (.n rfl) rfl) ?_
  refine lw_v rfl rfl (ok_len rfl (.n rfl) Try.underlying26 rfl) ?_
  refine lw_v rfl rfl (ok_lss rfl (.n rfl) rfl rfl) ?_
  refine lw_nil ?_
  refine Ends.keep [(0, .eq _), (8, .eq _)] (.cons rfl (.cons rfl .nil)) ?_
  refine ends_then ?_
  refine cw_cond rfl (fun h8 => ?_) (fun h8 => ?_)
  ·
    refine cw_seq ?_
    -- region 2
    refine cw_region ?_
    refine lw_v rfl rfl (ok_move rfl (.n rfl) rfl) ?_
    refine lw_v rfl rfl (ok_assign rfl (.n rfl) rfl) ?_
    refine lw_nil ?_
    refine Ends.keep [(2, .eq _)] (.cons rfl .nil) ?_
    refine ends_then ?_
    refine cw_ret ?_
    refine then_ret (?_)
    exact end_ret (res1 Try.results105 rfl) ⟨rfl, Gr.trans (Gr.refl w) (Gr.refl w)⟩
  ·
    exact absurd h8 (by decide)
/-- slices.Compact. -/
theorem f105 {B : Nat} {we w : World} {L : List Asn} (A : Option Addr) (m c : Nat) (xs : List Int) (hS : St B we w (own (eInt .i64) 1 3 A m c xs :: L)) (hm : m ≤ 140737488351232) :
    Calls Try.prog 105 #[.slice A m c] w fun e w' => ∃ ys, e = .returned (.slice A ys.length c) ∧ (∀ x, x ∈ ys ↔ x ∈ xs) ∧ ys.length ≤ m ∧ (xs.Pairwise (· ≤ ·) → ys.Nodup) ∧ St B we w' (own (eInt .i64) 1 3 A ys.length c ys :: L) := by
  have h := hS.ok _ (.head _)
  have hl := h.1
  rcases own_form h with ⟨rfl, rfl, rfl, rfl⟩ | ⟨g, cur, rfl, hh, h3, h4, h5, h6⟩
  · exact (f105n w).mono fun e w' ⟨h1, h2⟩ => ⟨[], h1, fun _ => Iff.rfl, Nat.le_refl _, fun _ => List.nodup_nil, hS.grow h2⟩
  · have hc := AnyG.slices_Compact_int lComp g 0 c xs w (holds_of_blockI hh h6) (by omega) (by omega)
    rw [hl] at hc
    refine hc.mono fun e w' ⟨h1, n, h2⟩ => ⟨Lib.compact xs, h1, compact_mem xs, by have := compact_len xs; omega, compact_nodup, ?_⟩
    have hcl := compact_len xs
    have h7 := hS.sorted (n := n) (os := #[]) (ys := Lib.compact xs ++ List.replicate (m - (Lib.compact xs).length) 0) (by simp; omega)
    rw [Sort.grow_empty, ← h2] at h7
    by_cases h0 : 0 < m
    · have h8 := h7.ownTake (n := (Lib.compact xs).length) h0 (by omega)
      rw [List.take_left] at h8
      exact h8
    · have hx : xs = [] := List.eq_nil_of_length_eq_zero (by omega)
      subst hx
      have hm0 : m = 0 := by omega
      subst hm0
      exact h7
end Go.Proofs.Ytnpgeohkmdcbkaa.Aq

namespace Go.Proofs.Ytnpgeohkmdcbkaa.Aq
open Go Go.RowKit

/-- A row, what is left, and heights so far. -/
def exV (c : Cs) (q : Q6) (A1 : Option Addr) (m1 c1 : Nat) (Ah : Option Addr) (mh ch : Nat) : Value := .agg #[.int .i64 c.N, .int .i64 c.S, .int .i64 c.T, .slice q.a0 c.First.length q.c0, .slice q.a1 c.Head.length q.c1, .slice q.a2 c.Rev.length q.c2, .slice q.a3 c.Cap.length q.c3, .slice q.a4 c.Arc.length q.c4, .slice q.a5 c.Back.length q.c5, .slice A1 m1 c1, .slice Ah mh ch]
theorem row_vertex {N : Nat} {row : List Int} (h : ∀ v ∈ row, 0 ≤ v ∧ v < N) {j : Nat} (hj : j < row.length) : ∃ v : Nat, row.getD j 0 = (v : Int) ∧ v < N := by
  have := h _ (getD_memI hj)
  exact ⟨(row.getD j 0).toNat, by omega, by omega⟩
set_option maxHeartbeats 1000000 in
set_option maxRecDepth 10000 in
/-- globals.search.part. -/
theorem f102 (c : Cs) (q : Q6) (res D row : List Int) {m1 mh mw : Nat} (A1 : Option Addr) (c1 : Nat) (Ah : Option Addr) (ch : Nat) (Aw : Option Addr) (cw bs : Nat) (w : World) (hwf : WF c) (hc : CsAt c q w) (hr : (sl (eInt .i64) 1 A1 m1 c1 res).p w) (hh : (sl (eInt .i64) 1 Ah mh ch D).p w) (hx : (sl (eInt .i64) 1 Aw mw cw row).p w) (hb : (rbx bs (exV c q A1 m1 c1 Ah mh ch).cells.toList 96).p w)
    (hres : res.length = c.Head.length) (hD : D.length = c.N) (hrow : ∀ v ∈ row, 0 ≤ v ∧ v < c.N) (hmw : mw ≤ 16) : RetL 102 [.pointer (some ⟨bs, 0, none⟩), .slice Aw mw cw] w (partL c res D row) := by
  refine calls_cw Try.func102 rfl Try.ntmps102 rfl ?_
  have hS := ((((St.ofc hc).args (Nat.le_refl _) _ hr rfl).args (Nat.le_refl _) _ hh rfl).args (Nat.le_refl _) _ hx rfl).args (Nat.le_refl _) _ hb rfl
  have hM := hwf.m
  have hN := hwf.hi
  have hlo := hwf.lo
  have hfl := hwf.fl
  have hrl := hr.1.1
  have hhl := hh.1.1
  have hxl := hx.1.1
  have hrvl := hwf.rl
  refine cw_seq ?_
  -- region 0
  refine cw_region ?_
  refine lw_v rfl rfl (ok_assign rfl (.n rfl) rfl) ?_
  refine lw_nil ?_
  refine Ends.keep [(0, .eq _), (1, .eq _)] (.cons rfl (.cons rfl .nil)) ?_
  refine ends_then ?_
  refine cw_seq ?_
  -- region 1
  refine cw_region ?_
  refine lw_v rfl rfl (ok_assign rfl (.n rfl) rfl) ?_
  refine lw_nil ?_
  refine Ends.keep [(0, .eq _), (1, .eq _), (5, .eq _)] (.cons rfl (.cons rfl (.cons rfl .nil))) ?_
  refine ends_then ?_
  refine cw_seq ?_
  refine cw_seq ?_
  -- region 2
  refine cw_region ?_
  refine lw_v rfl rfl (ok_move rfl (.n rfl) rfl) ?_
  refine lw_v rfl rfl (ok_len rfl (.n rfl) Try.underlying26 rfl) ?_
  refine lw_v rfl rfl (ok_move rfl (.n rfl) rfl) ?_
  refine lw_nil ?_
  refine Ends.keep [(0, .eq _), (5, .eq _), (10, .eq _), (11, .eq _), (12, .eq _)] (.cons rfl (.cons rfl (.cons rfl (.cons rfl (.cons rfl .nil))))) ?_
  refine ends_then ?_
  refine cw_block ?_
  -- LOOP at region 3: changed live slots [5, 12], kept [0, 10, 11]
  refine cw_loop3 [(0, .eq _), (10, .eq _), (11, .eq _)] (fun (j : Nat) (A' : Option Addr) (c' : Nat) => [(5, .eq (.slice A' (partL c res D (row.take j)).length c')), (12, .eq (.int .i64 j))]) (fun j A' c' w' => j ≤ mw ∧ St w.heap.size w w' [own (eInt .i64) 1 3 A' (partL c res D (row.take j)).length c' (partL c res D (row.take j)), rbx bs (exV c q A1 m1 c1 Ah mh ch).cells.toList 96, sl (eInt .i64) 1 Aw mw cw row, sl (eInt .i64) 1 Ah mh ch D, sl (eInt .i64) 1 A1 m1 c1 res, sl (eInt .i64) 1 q.a0 c.First.length q.c0 c.First, sl (eInt .i64) 1 q.a1 c.Head.length q.c1 c.Head, sl (eInt .i64) 1 q.a2 c.Rev.length q.c2 c.Rev, sl (eInt .i64) 1 q.a3 c.Cap.length q.c3 c.Cap, sl (eInt .i64) 1 q.a4 c.Arc.length q.c4 c.Arc, sl eBool 1 q.a5 c.Back.length q.c5 c.Back]) (fun j _ _ => mw - j) 0 none 0 (.cons rfl (.cons rfl (.cons rfl .nil))) (.cons rfl (.cons rfl (.cons rfl (.cons rfl (.cons rfl .nil))))) ⟨Nat.zero_le _, hS.nil (eInt .i64) 1 3⟩ ?_
  clear hS
  rintro j A' c' wr ⟨hj, hS⟩
  refine cw_seq ?_
  -- region 3
  refine cw_region ?_
  refine lw_v rfl rfl (ok_lss rfl (.n rfl) rfl rfl) ?_
  refine lw_nil ?_
  refine Ends.keep [(0, .eq _), (5, .eq _), (10, .eq _), (11, .eq _), (12, .eq _), (13, .eq _)] (.cons rfl (.cons rfl (.cons rfl (.cons rfl (.cons rfl (.cons rfl .nil)))))) ?_
  refine ends_then ?_
  refine cw_seq ?_
  refine cw_cond rfl (fun h13 => ?_) (fun h13 => ?_)
  ·
    have hjm : j < mw := by have := of_decide_eq_true h13; omega
    obtain ⟨v, hv', hvN⟩ := row_vertex hrow (by omega : j < row.length)
    have hv : row.getD (j : Int).toNat 0 = (v : Int) := hv'
    obtain ⟨hf0, hf1, hf2⟩ := seg_rng hwf hvN
    obtain ⟨X, hX⟩ : ∃ X, X = partL c res D (row.take j) := ⟨_, rfl⟩
    have hXl : X.length ≤ 16 * 1280 := by rw [hX]; have := partL_len hwf res D (row.take j); rw [List.length_take] at this; have h9 : min j row.length * 1280 ≤ 16 * 1280 := Nat.mul_le_mul_right _ (by omega); omega
    rw [← hX] at hS ⊢
    have e0 : X = X ++ seeTo c res D v (c.First.getD v 0).toNat := by rw [seeTo_start (by omega), List.append_nil]
    rw [e0] at hS ⊢
    refine cw_skip ?_
    refine ends_then ?_
    refine cw_seq ?_
    refine cw_block ?_
    refine cw_seq ?_
    -- region 4
    refine cw_region ?_
    refine lw_v rfl rfl (ok_ix rfl (.n rfl) Try.underlying26 Try.sizeOf3 rfl rfl hS (fun _ => ⟨by omega, by omega⟩)) ?_
    refine lw_v rfl rfl (ok_eq (ok_ldx rfl (.n rfl) rfl Try.isAgg3 hS (fun _ => ⟨by omega, by omega⟩) (by rfl)) (c' := .int .i64 (v : Int)) (fun _ => congrArg (Value.int .i64) hv)) ?_
    refine lw_v rfl rfl (ok_assign rfl (.n rfl) rfl) ?_
    refine lw_nil ?_
    refine Ends.keep [(0, .eq _), (5, .eq _), (7, .eq _), (10, .eq _), (11, .eq _), (12, .eq _)] (.cons rfl (.cons rfl (.cons rfl (.cons rfl (.cons rfl (.cons rfl .nil)))))) ?_
    refine ends_then ?_
    refine cw_seq ?_
    -- region 5
    refine cw_region ?_
    refine lw_v rfl rfl (ok_move rfl (.n rfl) rfl) ?_
    refine lw_v rfl rfl (ok_nil rfl (.n rfl) rfl) ?_
    refine lw_v rfl rfl (ok_fb rfl (.n rfl) Try.underlying96 rfl Try.sizeOf29 (by decide) rfl) ?_
    refine lw_v rfl rfl (ok_fb rfl (.n rfl) Try.underlying29 rfl Try.sizeOf26 (by decide) rfl) ?_
    refine lw_v rfl rfl (ok_ldb rfl (.n rfl) rfl Try.isAgg26 hS (by rfl)) ?_
    refine lw_v rfl rfl (ok_move rfl (.n rfl) rfl) ?_
    refine lw_v rfl rfl (ok_ix rfl (.n rfl) Try.underlying26 Try.sizeOf3 rfl rfl hS (fun _ => ⟨by omega, by omega⟩)) ?_
    refine lw_v rfl rfl (ok_eq (ok_ldx rfl (.n rfl) rfl Try.isAgg3 hS (fun _ => ⟨by omega, by omega⟩) (by rfl)) (c' := .int .i64 (((c.First.getD v 0).toNat : Nat) : Int)) (fun _ => congrArg (Value.int .i64) (Int.toNat_of_nonneg hf0).symm)) ?_
    refine lw_v rfl rfl (ok_assign rfl (.n rfl) rfl) ?_
    refine lw_nil ?_
    refine Ends.keep [(0, .eq _), (5, .eq _), (7, .eq _), (8, .eq _), (10, .eq _), (11, .eq _), (12, .eq _)] (.cons rfl (.cons rfl (.cons rfl (.cons rfl (.cons rfl (.cons rfl (.cons rfl .nil))))))) ?_
    refine ends_then ?_
    refine cw_block ?_
    -- LOOP at region 6: changed live slots [5, 8], kept [0, 7, 10, 11, 12]
    refine cw_loop3 [(0, .eq _), (7, .eq _), (10, .eq _), (11, .eq _), (12, .eq _)] (fun (a : Nat) (A' : Option Addr) (c' : Nat) => [(5, .eq (.slice A' (X ++ seeTo c res D v a).length c')), (8, .eq (.int .i64 a))]) (fun a A' c' w' => (c.First.getD v 0 ≤ a ∧ a ≤ c.First.getD (v + 1) 0) ∧ St w.heap.size w w' [own (eInt .i64) 1 3 A' (X ++ seeTo c res D v a).length c' (X ++ seeTo c res D v a), rbx bs (exV c q A1 m1 c1 Ah mh ch).cells.toList 96, sl (eInt .i64) 1 Aw mw cw row, sl (eInt .i64) 1 Ah mh ch D, sl (eInt .i64) 1 A1 m1 c1 res, sl (eInt .i64) 1 q.a0 c.First.length q.c0 c.First, sl (eInt .i64) 1 q.a1 c.Head.length q.c1 c.Head, sl (eInt .i64) 1 q.a2 c.Rev.length q.c2 c.Rev, sl (eInt .i64) 1 q.a3 c.Cap.length q.c3 c.Cap, sl (eInt .i64) 1 q.a4 c.Arc.length q.c4 c.Arc, sl eBool 1 q.a5 c.Back.length q.c5 c.Back]) (fun a _ _ => (c.First.getD (v + 1) 0 - a).toNat) (c.First.getD v 0).toNat A' c' (.cons rfl (.cons rfl (.cons rfl (.cons rfl (.cons rfl .nil))))) (.cons rfl (.cons rfl (.cons rfl (.cons rfl (.cons rfl (.cons rfl (.cons rfl .nil))))))) ⟨⟨by omega, by omega⟩, hS⟩ ?_
    clear hS
    clear A' c'
    rintro a A' c' wr ⟨⟨ha0, ha1⟩, hS⟩
    have hse := seeTo_len c res D v a
    have hXs : (X ++ seeTo c res D v a).length = X.length + (seeTo c res D v a).length := List.length_append
    refine cw_seq ?_
    refine cw_seq ?_
    -- region 6
    refine cw_region ?_
    refine lw_v rfl rfl (ok_move rfl (.n rfl) rfl) ?_
    refine lw_v rfl rfl (ok_move rfl (.n rfl) rfl) ?_
    refine lw_v rfl rfl (ok_nil rfl (.n rfl) rfl) ?_
    refine lw_v rfl rfl (ok_fb rfl (.n rfl) Try.underlying96 rfl Try.sizeOf29 (by decide) rfl) ?_
    refine lw_v rfl rfl (ok_fb rfl (.n rfl) Try.underlying29 rfl Try.sizeOf26 (by decide) rfl) ?_
    refine lw_v rfl rfl (ok_ldb rfl (.n rfl) rfl Try.isAgg26 hS (by rfl)) ?_
    refine lw_v rfl rfl (ok_move rfl (.n rfl) rfl) ?_
    refine lw_v rfl rfl (ok_addi rfl (.n rfl) rfl rfl (fun _ => ⟨by omega, by omega⟩)) ?_
    refine lw_v rfl rfl (ok_ix rfl (.n rfl) Try.underlying26 Try.sizeOf3 rfl rfl hS (fun _ => ⟨by omega, by omega⟩)) ?_
    refine lw_v rfl rfl (ok_ldx rfl (.n rfl) rfl Try.isAgg3 hS (fun _ => ⟨by omega, by omega⟩) (by rfl)) ?_
    refine lw_v rfl rfl (ok_lss rfl (.n rfl) rfl rfl) ?_
    refine lw_nil ?_
    refine Ends.keep [(0, .eq _), (5, .eq _), (7, .eq _), (8, .eq _), (10, .eq _), (11, .eq _), (12, .eq _), (34, .eq _)] (.cons rfl (.cons rfl (.cons rfl (.cons rfl (.cons rfl (.cons rfl (.cons rfl (.cons rfl .nil)))))))) ?_
    refine ends_then ?_
    refine cw_cond rfl (fun h34 => ?_) (fun h34 => ?_)
    ·
      have hlt : (a : Int) < c.First.getD (v + 1) 0 := of_decide_eq_true h34
      have haM : a < c.Head.length := by omega
      obtain ⟨u, hu', huN⟩ := head_at hwf haM
      have hu : c.Head.getD (a : Int).toNat 0 = (u : Int) := hu'
      have hrv : 0 ≤ c.Rev.getD (a : Int).toNat 0 ∧ c.Rev.getD (a : Int).toNat 0 < c.Head.length := hwf.rv a haM
      refine cw_skip ?_
      refine ends_then ?_
      refine cw_seq ?_
      refine cw_block ?_
      refine cw_seq ?_
      -- region 8
      refine cw_region ?_
      refine lw_v rfl rfl (ok_move rfl (.n rfl) rfl) ?_
      refine lw_v rfl rfl (ok_nil rfl (.n rfl) rfl) ?_
      refine lw_v rfl rfl (ok_fb rfl (.n rfl) Try.underlying96 rfl Try.sizeOf29 (by decide) rfl) ?_
      refine lw_v rfl rfl (ok_fb rfl (.n rfl) Try.underlying29 rfl Try.sizeOf26 (by decide) rfl) ?_
      refine lw_v rfl rfl (ok_ldb rfl (.n rfl) rfl Try.isAgg26 hS (by rfl)) ?_
      refine lw_v rfl rfl (ok_move rfl (.n rfl) rfl) ?_
      refine lw_v rfl rfl (ok_ix rfl (.n rfl) Try.underlying26 Try.sizeOf3 rfl rfl hS (fun _ => ⟨by omega, by omega⟩)) ?_
      refine lw_v rfl rfl (ok_eq (ok_ldx rfl (.n rfl) rfl Try.isAgg3 hS (fun _ => ⟨by omega, by omega⟩) (by rfl)) (c' := .int .i64 (u : Int)) (fun _ => congrArg (Value.int .i64) hu)) ?_
      refine lw_v rfl rfl (ok_assign rfl (.n rfl) rfl) ?_
      refine lw_nil ?_
      refine Ends.keep [(0, .eq _), (5, .eq _), (7, .eq _), (8, .eq _), (9, .eq _), (10, .eq _), (11, .eq _), (12, .eq _)] (.cons rfl (.cons rfl (.cons rfl (.cons rfl (.cons rfl (.cons rfl (.cons rfl (.cons rfl .nil)))))))) ?_
      refine ends_then ?_
      refine cw_seq ?_
      -- region 9
      refine cw_draw (by kernel_rfl) (List.take 37 _) (List.drop 37 _) (List.take_append_drop 37 _).symm (by kernel_rfl) ?_
      refine free_v (ok_move rfl (.n rfl) rfl) ?_
      refine free_v (ok_move rfl (.n rfl) rfl) ?_
      refine free_v (ok_nil rfl (.n rfl) rfl) ?_
      refine free_v (ok_fb rfl (.n rfl) Try.underlying96 rfl Try.sizeOf29 (by decide) rfl) ?_
      refine free_v (ok_fb rfl (.n rfl) Try.underlying29 rfl Try.sizeOf3 (by decide) rfl) ?_
      refine free_v (ok_ldb rfl (.n rfl) rfl Try.isAgg3 hS (by rfl)) ?_
      refine free_v (ok_neq rfl (.n rfl) rfl rfl) ?_
      refine free_v (ok_move rfl (.n rfl) rfl) ?_
      refine free_v (ok_move rfl (.s rfl rfl) rfl) ?_
      refine free_v (ok_nil rfl (.s rfl rfl) rfl) ?_
      refine free_v (ok_fb rfl (.s rfl rfl) Try.underlying96 rfl Try.sizeOf25 (by decide) rfl) ?_
      refine free_v (ok_ldb rfl (.s rfl rfl) rfl Try.isAgg25 hS (by rfl)) ?_
      refine free_v (ok_move rfl (.s rfl rfl) rfl) ?_
      refine free_v (ok_nil rfl (.s rfl rfl) rfl) ?_
      refine free_v (ok_fb rfl (.s rfl rfl) Try.underlying96 rfl Try.sizeOf29 (by decide) rfl) ?_
      refine free_v (ok_fb rfl (.s rfl rfl) Try.underlying29 rfl Try.sizeOf26 (by decide) rfl) ?_
      refine free_v (ok_ldb rfl (.s rfl rfl) rfl Try.isAgg26 hS (by rfl)) ?_
      refine free_v (ok_move rfl (.s rfl rfl) rfl) ?_
      refine free_v (ok_ix rfl (.s rfl rfl) Try.underlying26 Try.sizeOf3 rfl rfl hS (fun _ => ⟨by omega, by omega⟩)) ?_
      refine free_v (ok_ldx rfl (.s rfl rfl) rfl Try.isAgg3 hS (fun _ => ⟨by omega, by omega⟩) (by rfl)) ?_
      refine free_v (ok_ix rfl (.s rfl rfl) Try.underlying25 Try.sizeOf2 rfl rfl hS (fun _ => ⟨by omega, by omega⟩)) ?_
      refine free_v (ok_ldx rfl (.s rfl rfl) rfl Try.isAgg2 hS (fun _ => ⟨by omega, by omega⟩) (by rfl)) ?_
      refine free_v (ok_gtr rfl (.s rfl rfl) rfl rfl) ?_
      refine free_v (ok_and rfl rfl rfl rfl) ?_
      refine free_v (ok_move rfl (.n rfl) rfl) ?_
      refine free_v (ok_move rfl (.s rfl rfl) rfl) ?_
      refine free_v (ok_nil rfl (.s rfl rfl) rfl) ?_
      refine free_v (ok_fb rfl (.s rfl rfl) Try.underlying96 rfl Try.sizeOf26 (by decide) rfl) ?_
      refine free_v (ok_ldb rfl (.s rfl rfl) rfl Try.isAgg26 hS (by rfl)) ?_
      refine free_v (ok_move rfl (.s rfl rfl) rfl) ?_
      refine free_v (ok_ix rfl (.s rfl rfl) Try.underlying26 Try.sizeOf3 rfl rfl hS (fun _ => ⟨by omega, by omega⟩)) ?_
      refine free_v (ok_ldx rfl (.s rfl rfl) rfl Try.isAgg3 hS (fun _ => ⟨by omega, by omega⟩) (by rfl)) ?_
      refine free_v (ok_move rfl (.s rfl rfl) rfl) ?_
      refine free_v (ok_nil rfl (.s rfl rfl) rfl) ?_
      refine free_v (ok_fb rfl (.s rfl rfl) Try.underlying96 rfl Try.sizeOf29 (by decide) rfl) ?_
      refine free_v (ok_fb rfl (.s rfl rfl) Try.underlying29 rfl Try.sizeOf3 (by decide) rfl) ?_
      refine free_v (ok_ldb rfl (.s rfl rfl) rfl Try.isAgg3 hS (by rfl)) ?_
      refine free_nil ?_
      intro w1 hg_; replace hS := hS.grow hg_; clear hg_
      refine lw_v rfl rfl (ok_eql rfl (.s rfl rfl) rfl rfl) ?_
      refine lw_v rfl rfl (ok_and rfl rfl rfl rfl) ?_
      refine lw_nil ?_
      refine Ends.keep [(0, .eq _), (5, .eq _), (7, .eq _), (8, .eq _), (9, .eq _), (10, .eq _), (11, .eq _), (12, .eq _), (83, .eq _)] (.cons rfl (.cons rfl (.cons rfl (.cons rfl (.cons rfl (.cons rfl (.cons rfl (.cons rfl (.cons rfl .nil))))))))) ?_
      refine ends_then ?_
      refine cw_cond rfl (fun h83 => ?_) (fun h83 => ?_)
      ·
        -- region 10
        refine cw_region ?_
        refine lw_v rfl rfl (ok_move rfl (.n rfl) rfl) ?_
        refine lw_v rfl rfl (ok_move rfl (.n rfl) rfl) ?_
        refine lw_ls (enc := (eInt .i64)) [(u : Int)] rfl rfl rfl Try.underlying26 Try.sizeOf3 Try.zeroValue3 rfl (by kernel_rfl) rfl (by decide) (by decide) hS ?_
        clear hS; intro A86 c86 w2 _ hS
        refine lw_append (enc := (eInt .i64)) rfl rfl rfl Try.underlying26 info3 rfl rfl rfl hS (by decide) (by omega) (by omega) ?_
        intro A87 c87 w3 hS1; replace hS := hS1 _ (Rep.r); clear hS1
        refine lw_v rfl rfl (ok_assign rfl (.n rfl) rfl) ?_
        refine lw_nil ?_
        refine in_normal (?_)
        refine Ends.keep [(0, .eq _), (5, .eq _), (7, .eq _), (8, .eq _), (10, .eq _), (11, .eq _), (12, .eq _)] (.cons rfl (.cons rfl (.cons rfl (.cons rfl (.cons rfl (.cons rfl (.cons rfl .nil))))))) ?_
        refine ends_then ?_
        -- region 7
        refine cw_region ?_
        refine lw_v rfl rfl (ok_move rfl (.n rfl) rfl) ?_
        refine lw_v rfl rfl (ok_addi rfl (.n rfl) rfl rfl (fun _ => ⟨by omega, by omega⟩)) ?_
        refine lw_v rfl rfl (ok_assign rfl (.n rfl) rfl) ?_
        refine lw_nil ?_
        -- BACK
        have hb : seeB c res D a = true := by unfold seeB; rw [hu']; exact h83
        have e : X ++ seeTo c res D v a ++ [(u : Int)] = X ++ seeTo c res D v (a + 1) := by rw [seeTo_yes ha0 hb, hu', List.append_assoc]
        replace hS := hS.tail
        rw [e] at hS ⊢
        exact ends_back3 (a + 1) A87 c87 (.cons rfl (.cons rfl (.cons rfl (.cons rfl (.cons rfl (.cons rfl (.cons rfl .nil))))))) ⟨⟨by omega, by omega⟩, hS⟩ (by omega)
      ·
        refine cw_skip ?_
        refine in_normal (?_)
        refine ends_then ?_
        -- region 7
        refine cw_region ?_
        refine lw_v rfl rfl (ok_move rfl (.n rfl) rfl) ?_
        refine lw_v rfl rfl (ok_addi rfl (.n rfl) rfl rfl (fun _ => ⟨by omega, by omega⟩)) ?_
        refine lw_v rfl rfl (ok_assign rfl (.n rfl) rfl) ?_
        refine lw_nil ?_
        -- BACK
        have hb : seeB c res D a = false := by unfold seeB; rw [hu']; exact h83
        have e : X ++ seeTo c res D v a = X ++ seeTo c res D v (a + 1) := by rw [seeTo_no ha0 hb]
        rw [e] at hS ⊢
        exact ends_back3 (a + 1) A' c' (.cons rfl (.cons rfl (.cons rfl (.cons rfl (.cons rfl (.cons rfl (.cons rfl .nil))))))) ⟨⟨by omega, by omega⟩, hS⟩ (by omega)
    ·
      have hge : ¬ (a : Int) < c.First.getD (v + 1) 0 := of_decide_eq_false h34
      refine cw_exit ?_
      refine then_exit (then_exit (in_exit (?_)))
      refine in_normal (?_)
      refine Ends.keep [(0, .eq _), (5, .eq _), (10, .eq _), (11, .eq _), (12, .eq _)] (.cons rfl (.cons rfl (.cons rfl (.cons rfl (.cons rfl .nil))))) ?_
      refine ends_then ?_
      -- region 11
      refine cw_region ?_
      refine lw_v rfl rfl (ok_addi rfl (.n rfl) rfl rfl (fun _ => ⟨by omega, by omega⟩)) ?_
      refine lw_v rfl rfl (ok_move rfl (.n rfl) rfl) ?_
      refine lw_nil ?_
      -- BACK
      have e : X ++ seeTo c res D v a = partL c res D (row.take (j + 1)) := by rw [partL_step c res D (by omega : j < row.length), hv', Int.toNat_natCast, ← hX, seeV, show (c.First.getD (v + 1) 0).toNat = a by omega]
      rw [e] at hS ⊢
      exact ends_back3 (j + 1) A' c' (.cons rfl (.cons rfl (.cons rfl (.cons rfl (.cons rfl .nil))))) ⟨by omega, hS⟩ (by omega)
  ·
    have hje : j = mw := by have := of_decide_eq_false h13; omega
    refine cw_exit ?_
    refine then_exit (then_exit (in_exit (?_)))
    refine Ends.keep [(5, .eq _)] (.cons rfl .nil) ?_
    refine ends_then ?_
    refine cw_seq ?_
    -- region 12
    refine cw_region ?_
    refine lw_v rfl rfl (ok_move rfl (.n rfl) rfl) ?_
    refine lw_v rfl rfl (ok_assign rfl (.n rfl) rfl) ?_
    refine lw_nil ?_
    refine Ends.keep [(4, .eq _)] (.cons rfl .nil) ?_
    refine ends_then ?_
    refine cw_ret ?_
    rw [List.take_of_length_le (by omega)] at hS ⊢
    exact end_ret (res1 Try.results102 rfl) ⟨A', c', rfl, hS.below, fun b hb => hS.ge _ (.head _) rfl b hb, hS.ok _ (.head _)⟩

end Go.Proofs.Ytnpgeohkmdcbkaa.Aq

namespace Go.Proofs.Ytnpgeohkmdcbkaa.Aq
open Go Go.RowKit

/-- What an iterator over chunks is. -/
def chunkV (b2 b3 : Nat) : Value := .func (.func 114) #[] #[.pointer (some ⟨b2, 0, none⟩), .pointer (some ⟨b3, 0, none⟩)]
set_option maxRecDepth 10000 in
/-- slices.Chunk. -/
theorem f101 (A : Option Addr) (m c : Nat) (k : Int) (w : World) (hk : 1 ≤ k) : Calls Try.prog 101 #[.slice A m c, .int .i64 k] w fun e w' => ∃ b2 b3, e = .returned (chunkV b2 b3) ∧ Gr w w' ∧ w.heap.size ≤ b2 ∧ w.heap.size ≤ b3 ∧ (rbx b2 [.slice A m c] 26).p w' ∧ (rbx b3 [.int .i64 k] 3).p w' := by
  refine calls_cw Try.func101 rfl Try.ntmps101 rfl ?_
  have hS := St.start w
  refine cw_seq ?_
  -- region 0
  refine cw_region ?_
  refine lw_box rfl rfl rfl rfl hS ?_
  clear hS; intro b2 w1 _ _ hS
  refine lw_box rfl rfl rfl rfl hS ?_
  clear hS; intro b3 w2 _ _ hS
  refine lw_v rfl rfl (ok_assign rfl (.n rfl) rfl) ?_
  refine lw_nil ?_
  refine Ends.keep [(2, .eq _), (3, .eq _)] (.cons rfl (.cons rfl .nil)) ?_
  refine ends_then ?_
  refine cw_seq ?_
  refine cw_seq ?_
  -- region 1
  refine cw_region ?_
  refine lw_v rfl rfl (ok_ldb rfl (.n rfl) rfl Try.isAgg3 hS (by rfl)) ?_
  refine lw_v rfl rfl (ok_lss rfl (.n rfl) rfl rfl) ?_
  refine lw_nil ?_
  refine Ends.keep [(2, .eq _), (3, .eq _), (6, .eq _)] (.cons rfl (.cons rfl (.cons rfl .nil))) ?_
  refine ends_then ?_
  refine cw_cond rfl (fun h6 => ?_) (fun h6 => ?_)
  ·
    exact absurd (of_decide_eq_true h6) (by omega)
  ·
    refine cw_skip ?_
    refine ends_then ?_
    refine cw_seq ?_
    -- region 3
    refine cw_region ?_
    refine lw_v rfl rfl (ok_mkfn rfl (.n rfl) rfl) ?_
    refine lw_v rfl rfl (ok_assign rfl (.n rfl) rfl) ?_
    refine lw_nil ?_
    refine Ends.keep [(4, .eq _)] (.cons rfl .nil) ?_
    refine ends_then ?_
    refine cw_ret ?_
    exact end_ret (res1 Try.results101 rfl) ⟨_, _, rfl, hS.below, hS.ge _ (.tail _ (.head _)) rfl _ rfl, hS.ge _ (.head _) rfl _ rfl, by have h := hS.ok _ (.tail _ (.head _)); exact h, by have h := hS.ok _ (.head _); exact h⟩

theorem li_nil {P : Program} {n m : Nat} {ro : Option Nat} {ops : Array Oper} {Q : Exit → Act → World → Prop} {E : Env} {w : World} {dfr : List Deferred} (h : Ends dfr n Q .normal E w) : LI dfr ro m P n ops Q [] E w := h
/-- A chunk of a slice: where it begins, how many it has. -/
abbrev Ch (m : Nat) := { p : Nat × Nat // p.1 + p.2 ≤ m ∧ 0 < p.2 }
/-- What a round must keep: the iterator's own two boxes. -/
def KpC (A : Option Addr) (m c k b2 b3 : Nat) (W W' : World) : Prop := ((rbx b2 [.slice A m c] 26).p W → (rbx b2 [.slice A m c] 26).p W') ∧ ((rbx b3 [.int .i64 (k : Int)] 3).p W → (rbx b3 [.int .i64 (k : Int)] 3).p W')
def encC (A : Option Addr) (m : Nat) (p : Ch m) : Array Value := #[.slice (A.map fun z => z.add (p.1.1 * 1)) p.1.2 p.1.2]
/-- They cover the slice. -/
def CovC (m : Nat) (xs : List (Ch m)) : Prop := ∀ j, j < m → ∃ p ∈ xs, p.1.1 ≤ j ∧ j < p.1.1 + p.1.2
theorem KpC.trans {A : Option Addr} {m c k b2 b3 : Nat} {X Y Z : World} (h : KpC A m c k b2 b3 X Y) (h' : KpC A m c k b2 b3 Y Z) : KpC A m c k b2 b3 X Z := ⟨fun x => h'.1 (h.1 x), fun x => h'.2 (h.2 x)⟩
theorem kpC_put {A : Option Addr} {m c k b2 b3 : Nat} (W : World) (l : Nat) (o o' : Obj) (h : W.heap[l]? = some o) (hc : o.isCells = false) : KpC A m c k b2 b3 W (W.putObj l o') := by
  have key : ∀ (b : Nat) (cs : List Value) (t : TypeId), (rbx b cs t).p W → (rbx b cs t).p (W.putObj l o') := fun b cs t hp => by
    have hne : b ≠ l := fun e => by
      subst e
      have h2 : W.heap[b]? = some (.cells cs.toArray t (0, 0)) := hp
      rw [h] at h2
      injection h2 with h2
      subst h2
      cases hc
    exact (World.putObj_heap_other hne).trans hp
  exact ⟨key _ _ _, key _ _ _⟩
set_option maxRecDepth 10000 in
set_option maxHeartbeats 1000000 in
/-- The iterator of slices.Chunk. -/
theorem chunk_stops (A : Option Addr) (m c k b2 b3 n : Nat) (w0 : World) (hk : 1 ≤ k) (hk2 : k ≤ 1000) (hm : m ≤ 1000) (hmc : m ≤ c) (h2 : (rbx b2 [.slice A m c] 26).p w0) (h3 : (rbx b3 [.int .i64 (k : Int)] 3).p w0) :
    SeqStopsK Fence.wide n Try.prog 114 #[.pointer (some ⟨b2, 0, none⟩), .pointer (some ⟨b3, 0, none⟩)] (encC A m) (KpC A m c k b2 b3) (CovC m) (fun _ => True) m w0 := by
  intro l J Jx W hW hJg _ hY h0
  refine (callsIn_wide (n := n)).2 ?_
  show Calls Try.prog 114 ([.func (.yield l) #[] #[], .pointer (some ⟨b2, 0, none⟩), .pointer (some ⟨b3, 0, none⟩)] : List Value).toArray W _
  have hb2 : (rbx b2 [.slice A m c] 26).p W := (hW.block b2 ((rbx b2 _ 26).lt h2 rfl)).trans h2
  have hb3 : (rbx b3 [.int .i64 (k : Int)] 3).p W := (hW.block b3 ((rbx b3 _ 3).lt h3 rfl)).trans h3
  have hgrow : ∀ {s : List (Ch m)} {X Y : World}, Gr X Y → J s X → J s Y := fun hg hs => hJg _ _ _ none hs ⟨hg.os, hg.tape, hg.output, hg.size, fun k hk _ => Below.block hg k hk⟩ fun r e => by cases e
  refine calls_cw Try.func114 rfl Try.ntmps114 rfl ?_
  have hS := ((St.start W).args (Nat.le_refl _) _ hb3 rfl).args (Nat.le_refl _) _ hb2 rfl
  refine cw_seq ?_
  -- region 0
  refine cw_region ?_
  refine lw_v rfl rfl (ok_assign rfl (.n rfl) rfl) ?_
  refine lw_nil ?_
  refine Ends.keep [(0, .eq _), (1, .eq _), (2, .eq _), (4, .eq _)] (.cons rfl (.cons rfl (.cons rfl (.cons rfl .nil)))) ?_
  refine ends_then ?_
  refine cw_block ?_
  -- LOOP at region 1: changed live slots [4], kept [0, 1, 2]
  refine cw_loop [(0, .eq _), (1, .eq _), (2, .eq _)] (fun i : Nat => [(4, .eq (.int .i64 i))]) (fun i w' => ∃ pre : List (Ch m), (pre.length ≤ i ∧ i ≤ m + k ∧ ∀ j, j < i → j < m → ∃ p ∈ pre, p.1.1 ≤ j ∧ j < p.1.1 + p.1.2) ∧ J pre w' ∧ (rbx b2 [.slice A m c] 26).p w' ∧ (rbx b3 [.int .i64 (k : Int)] 3).p w') (fun i => m - i) 0 (.cons rfl (.cons rfl (.cons rfl .nil))) (.cons rfl (.cons rfl (.cons rfl (.cons rfl .nil)))) ⟨[], ⟨Nat.le_refl _, Nat.zero_le _, fun j hj => absurd hj (Nat.not_lt_zero j)⟩, h0, hb2, hb3⟩ ?_
  clear hS
  clear hb2 hb3
  rintro i wr ⟨pre, ⟨hpl, hik, hcov⟩, hJ, hb2, hb3⟩
  have hS := ((St.start wr).args (Nat.le_refl _) _ hb3 rfl).args (Nat.le_refl _) _ hb2 rfl
  refine cw_seq ?_
  refine cw_seq ?_
  -- region 1
  refine cw_region ?_
  refine lw_v rfl rfl (ok_move rfl (.n rfl) rfl) ?_
  refine lw_v rfl rfl (ok_ldb rfl (.n rfl) rfl Try.isAgg26 hS (by rfl)) ?_
  refine lw_v rfl rfl (ok_len rfl (.n rfl) Try.underlying26 rfl) ?_
  refine lw_v rfl rfl (ok_lss rfl (.n rfl) rfl rfl) ?_
  refine lw_nil ?_
  refine Ends.keep [(0, .eq _), (1, .eq _), (2, .eq _), (4, .eq _), (9, .eq _)] (.cons rfl (.cons rfl (.cons rfl (.cons rfl (.cons rfl .nil))))) ?_
  refine ends_then ?_
  refine cw_cond rfl (fun h9 => ?_) (fun h9 => ?_)
  ·
    have him : i < m := by have := of_decide_eq_true h9; omega
    obtain ⟨r, hr, hr1, hr2⟩ : ∃ r : Nat, (if ((m - i : Nat) : Int) < (k : Int) then ((m - i : Nat) : Int) else (k : Int)) = (r : Int) ∧ 0 < r ∧ i + r ≤ m ∧ (r = k ∨ i + r = m) := by
      by_cases h : ((m - i : Nat) : Int) < (k : Int)
      · exact ⟨m - i, by rw [if_pos h], by omega, by omega, by omega⟩
      · exact ⟨k, by rw [if_neg h], by omega, by omega, by omega⟩
    have hch : i + r ≤ m ∧ 0 < r := ⟨hr2.1, hr1⟩
    refine cw_skip ?_
    refine ends_then ?_
    refine cw_seq ?_
    refine cw_block ?_
    refine cw_seq ?_
    -- region 3
    refine cw_draw (by kernel_rfl) (List.take 5 _) (List.drop 5 _) (List.take_append_drop 5 _).symm (by kernel_rfl) ?_
    refine free_v (ok_ldb rfl (.n rfl) rfl Try.isAgg3 hS (by rfl)) ?_
    refine free_v (ok_ldb rfl (.n rfl) rfl Try.isAgg26 hS (by rfl)) ?_
    refine free_v (ok_move rfl (.n rfl) rfl) ?_
    refine free_v (ok_slfrom' (sz := 1) i rfl (.n rfl) Try.underlying26 Try.sizeOf3 rfl rfl (by omega) ⟨rfl, by omega⟩) ?_
    refine free_v (ok_len rfl (.n rfl) Try.underlying26 rfl) ?_
    refine free_nil ?_
    intro w1 hg; replace hS := hS.grow hg
    refine lw_v rfl rfl (ok_eq (ok_min2 rfl (.n rfl) rfl rfl) (c' := .int .i64 (r : Int)) (fun _ => congrArg (Value.int .i64) hr)) ?_
    refine lw_v rfl rfl (ok_assign rfl (.n rfl) rfl) ?_
    refine lw_nil ?_
    refine Ends.keep [(0, .eq _), (1, .eq _), (2, .eq _), (4, .eq _), (5, .eq _)] (.cons rfl (.cons rfl (.cons rfl (.cons rfl (.cons rfl .nil))))) ?_
    refine ends_then ?_
    refine cw_seq ?_
    -- region 4
    refine cw_ci (m := n) (ci_region ?_)
    refine li_v rfl rfl rfl (ok_move rfl (.n rfl) rfl) ?_
    refine li_v rfl rfl rfl (ok_ldb rfl (.n rfl) rfl Try.isAgg26 hS (by rfl)) ?_
    refine li_v rfl rfl rfl (ok_move rfl (.n rfl) rfl) ?_
    refine li_v rfl rfl rfl (ok_move rfl (.n rfl) rfl) ?_
    refine li_v rfl rfl rfl (ok_move rfl (.n rfl) rfl) ?_
    refine li_v rfl rfl rfl (ok_addi rfl (.n rfl) rfl rfl (fun _ => ⟨by omega, by omega⟩)) ?_
    refine li_v rfl rfl rfl (ok_move rfl (.n rfl) rfl) ?_
    refine li_v rfl rfl rfl (ok_move rfl (.n rfl) rfl) ?_
    refine li_v rfl rfl rfl (ok_addi rfl (.n rfl) rfl rfl (fun _ => ⟨by omega, by omega⟩)) ?_
    refine li_v rfl rfl rfl (ok_eq (ok_slice3 (sz := 1) i (i + r) (i + r) rfl (.n rfl) Try.underlying26 Try.sizeOf3 rfl rfl rfl rfl ⟨rfl, by omega, by omega, by omega, by omega, by omega, by omega⟩) (c' := .slice (A.map fun z => z.add (i * 1)) r r) (fun _ => by rw [Nat.add_sub_cancel_left])) ?_
    have hround := hY pre ⟨(i, r), hch⟩ _ (hgrow hg hJ) (by omega)
    refine li_yield rfl rfl rfl rfl rfl hround ?_
    intro e w' hr
    obtain ⟨b, rfl, hf⟩ : ∃ b, e = .returned (.bool b) ∧ ((b = true ∧ J (pre ++ [⟨(i, r), hch⟩]) w' ∧ KpC A m c k b2 b3 w1 w') ∨ (b = false ∧ Jx (pre ++ [⟨(i, r), hch⟩]) w')) := by
      rcases hr with ⟨rfl, h1, h2⟩ | ⟨rfl, h1⟩
      · exact ⟨true, rfl, .inl ⟨rfl, h1, h2⟩⟩
      · exact ⟨false, rfl, .inr ⟨rfl, h1⟩⟩
    refine ⟨_, rfl, ?_⟩
    refine li_v rfl rfl rfl (ok_not rfl (.n rfl) rfl) ?_
    refine li_nil ?_
    refine Ends.keep [(0, .eq _), (1, .eq _), (2, .eq _), (4, .eq _), (30, .eq _)] (.cons rfl (.cons rfl (.cons rfl (.cons rfl (.cons rfl .nil))))) ?_
    refine ends_then ?_
    refine cw_cond rfl (fun h30 => ?_) (fun h30 => ?_)
    ·
      have hbt : b = false := by have h9 : (!b) = true := h30; simpa using h9
      subst hbt
      obtain hJx' : Jx (pre ++ [⟨(i, r), hch⟩]) w' := by
        rcases hf with ⟨h1, _⟩ | ⟨_, h1⟩
        · cases h1
        · exact h1
      refine cw_ret ?_
      refine in_ret (then_ret (then_ret (in_ret (?_))))
      exact end_ret (res0 Try.results114) ⟨⟨_, rfl⟩, .inr ⟨_, trivial, hJx'⟩⟩
    ·
      have hbt : b = true := by have h9 : (!b) = false := h30; simpa using h9
      subst hbt
      obtain ⟨hJ', hkp⟩ : J (pre ++ [⟨(i, r), hch⟩]) w' ∧ KpC A m c k b2 b3 w1 w' := by
        rcases hf with ⟨_, h1, h2⟩ | ⟨h1, _⟩
        · exact ⟨h1, h2⟩
        · cases h1
      replace hb2 := hkp.1 (Asn.grow _ hb2 hg)
      replace hb3 := hkp.2 (Asn.grow _ hb3 hg)
      clear hS
      have hS := ((St.start w').args (Nat.le_refl _) _ hb3 rfl).args (Nat.le_refl _) _ hb2 rfl
      refine cw_skip ?_
      refine in_normal (?_)
      refine ends_then ?_
      -- region 2
      refine cw_region ?_
      refine lw_v rfl rfl (ok_move rfl (.n rfl) rfl) ?_
      refine lw_v rfl rfl (ok_ldb rfl (.n rfl) rfl Try.isAgg3 hS (by rfl)) ?_
      refine lw_v rfl rfl (ok_addi rfl (.n rfl) rfl rfl (fun _ => ⟨by omega, by omega⟩)) ?_
      refine lw_v rfl rfl (ok_assign rfl (.n rfl) rfl) ?_
      refine lw_nil ?_
      -- BACK
      refine ends_back (i + k) (.cons rfl (.cons rfl (.cons rfl (.cons rfl .nil)))) ⟨_, ⟨?_, ?_, ?_⟩, hJ', hb2, hb3⟩ (by omega)
      · simp; omega
      · omega
      · intro j hj hjm
        by_cases hji : j < i
        · obtain ⟨p, hp, h1, h2⟩ := hcov j hji hjm
          exact ⟨p, List.mem_append_left _ hp, h1, h2⟩
        · exact ⟨_, List.mem_append_right _ List.mem_cons_self, by show i ≤ j; omega, by show j < i + r; omega⟩
  ·
    have hge : m ≤ i := by have := of_decide_eq_false h9; omega
    refine cw_exit ?_
    refine then_exit (then_exit (in_exit (?_)))
    exact end_norm (res0 Try.results114) ⟨⟨_, rfl⟩, .inl ⟨pre, fun j hj => hcov j (by omega) hj, hJ⟩⟩

end Go.Proofs.Ytnpgeohkmdcbkaa.Aq

namespace Go.Proofs.Ytnpgeohkmdcbkaa.Aq
open Go Go.RowKit

set_option maxRecDepth 10000 in
/-- slices.Grow of nothing. -/
theorem f115 (m : Nat) (w : World) (hm : m ≤ 1000000) : RetL 115 [.slice none 0 0, .int .i64 (m : Int)] w [] := by
  refine calls_cw Try.func115 rfl Try.ntmps115 rfl ?_
  have hS := St.start w
  refine cw_seq ?_
  -- region 0
  refine cw_region ?_
  refine lw_v rfl rfl (ok_assign rfl (.n rfl) rfl) ?_
  refine lw_nil ?_
  refine Ends.keep [(0, .eq _), (1, .eq _)] (.cons rfl (.cons rfl .nil)) ?_
  refine ends_then ?_
  refine cw_seq ?_
  refine cw_seq ?_
  -- region 1
  refine cw_region ?_
  refine lw_v rfl rfl (ok_move rfl (.n rfl) rfl) ?_
  refine lw_v rfl rfl (ok_lss rfl (.n rfl) rfl rfl) ?_
  refine lw_nil ?_
  refine Ends.keep [(0, .eq _), (1, .eq _), (6, .eq _)] (.cons rfl (.cons rfl (.cons rfl .nil))) ?_
  refine ends_then ?_
  refine cw_cond rfl (fun h6 => ?_) (fun h6 => ?_)
  ·
    exact absurd (of_decide_eq_true h6) (by omega)
  ·
    refine cw_skip ?_
    refine ends_then ?_
    refine cw_seq ?_
    refine cw_seq ?_
    -- region 3
    refine cw_region ?_
    refine lw_v rfl rfl (ok_move rfl (.n rfl) rfl) ?_
    refine lw_v rfl rfl (ok_move rfl (.n rfl) rfl) ?_
    refine lw_v rfl rfl (ok_cap rfl (.n rfl) Try.underlying26 rfl) ?_
    refine lw_v rfl rfl (ok_move rfl (.n rfl) rfl) ?_
    refine lw_v rfl rfl (ok_len rfl (.n rfl) Try.underlying26 rfl) ?_
    refine lw_v rfl rfl (ok_subi rfl (.n rfl) rfl rfl (fun _ => ⟨by omega, by omega⟩)) ?_
    refine lw_v rfl rfl (ok_eq (ok_subi rfl (.n rfl) rfl rfl (fun _ => ⟨by omega, by omega⟩)) (c' := .int .i64 (m : Int)) (fun _ => congrArg (Value.int .i64) (by omega))) ?_
    refine lw_v rfl rfl (ok_assign rfl (.n rfl) rfl) ?_
    refine lw_nil ?_
    refine Ends.keep [(0, .eq _), (1, .eq _)] (.cons rfl (.cons rfl .nil)) ?_
    refine ends_then ?_
    refine cw_seq ?_
    -- region 4
    refine cw_region ?_
    refine lw_v rfl rfl (ok_move rfl (.n rfl) rfl) ?_
    refine lw_v rfl rfl (ok_gtr rfl (.n rfl) rfl rfl) ?_
    refine lw_nil ?_
    refine Ends.keep [(0, .eq _), (1, .eq _), (16, .eq _)] (.cons rfl (.cons rfl (.cons rfl .nil))) ?_
    refine ends_then ?_
    refine cw_cond rfl (fun h16 => ?_) (fun h16 => ?_)
    ·
      have h0 : 0 < m := by have := of_decide_eq_true h16; omega
      -- region 5
      refine cw_region ?_
      refine lw_v rfl rfl (ok_move rfl (.n rfl) rfl) ?_
      refine lw_v rfl rfl (ok_move rfl (.n rfl) rfl) ?_
      refine lw_v rfl rfl (ok_cap rfl (.n rfl) Try.underlying26 rfl) ?_
      refine lw_v rfl rfl (ok_slto' (sz := 1) 0 rfl (.n rfl) Try.underlying26 Try.sizeOf3 rfl rfl (Nat.le_refl _) ⟨rfl, by omega⟩) ?_
      refine lw_v rfl rfl (ok_move rfl (.n rfl) rfl) ?_
      refine lw_apz rfl rfl rfl Try.underlying26 Try.underlying3 info3 rfl rfl h0 (by omega) hS ?_
      clear hS; intro A22 c22 w9 _ hS
      have hcap : m ≤ c22 := hS.cap (A := A22) (enc := eInt .i64) (sz := 1) (m := m) (c := c22) (xs := List.replicate m 0) (.inr ⟨3, .head _⟩)
      refine lw_v rfl rfl (ok_move rfl (.n rfl) rfl) ?_
      refine lw_v rfl rfl (ok_len rfl (.n rfl) Try.underlying26 rfl) ?_
      refine lw_v rfl rfl (ok_slto' (sz := 1) 0 rfl (.n rfl) Try.underlying26 Try.sizeOf3 rfl rfl hcap ⟨rfl, by omega⟩) ?_
      refine lw_v rfl rfl (ok_assign rfl (.n rfl) rfl) ?_
      refine lw_nil ?_
      refine Ends.keep [(0, .eq _)] (.cons rfl .nil) ?_
      refine ends_then ?_
      refine cw_seq ?_
      -- region 6
      refine cw_region ?_
      refine lw_v rfl rfl (ok_move rfl (.n rfl) rfl) ?_
      refine lw_v rfl rfl (ok_assign rfl (.n rfl) rfl) ?_
      refine lw_nil ?_
      refine Ends.keep [(4, .eq _)] (.cons rfl .nil) ?_
      refine ends_then ?_
      refine cw_ret ?_
      replace hS := hS.ownTake (n := 0) h0 (by omega)
      exact end_ret (res1 Try.results115 rfl) ⟨A22, c22, rfl, hS.below, fun b hb => hS.ge _ (.head _) rfl b hb, hS.ok _ (.head _)⟩
    ·
      refine cw_skip ?_
      refine ends_then ?_
      refine cw_seq ?_
      -- region 6
      refine cw_region ?_
      refine lw_v rfl rfl (ok_move rfl (.n rfl) rfl) ?_
      refine lw_v rfl rfl (ok_assign rfl (.n rfl) rfl) ?_
      refine lw_nil ?_
      refine Ends.keep [(4, .eq _)] (.cons rfl .nil) ?_
      refine ends_then ?_
      refine cw_ret ?_
      replace hS := hS.nil (eInt .i64) 1 3
      exact end_ret (res1 Try.results115 rfl) ⟨none, 0, rfl, hS.below, fun b hb => hS.ge _ (.head _) rfl b hb, hS.ok _ (.head _)⟩

theorem flat_step {xss : List (List Int)} {i : Nat} (hi : i < xss.length) : (xss.take (i + 1)).flatten = (xss.take i).flatten ++ xss.getD i [] := by
  rw [List.take_succ_eq_append_getElem hi, List.flatten_append]
  simp [List.getD_eq_getElem?_getD, hi]
theorem flat_bound {xss : List (List Int)} (hb : ∀ i, i < xss.length → (xss.getD i []).length ≤ 20480) : ∀ i, i ≤ xss.length → (xss.take i).flatten.length ≤ i * 20480
  | 0, _ => by simp
  | i + 1, hi => by
    have h1 := flat_bound hb i (by omega)
    have h2 := hb i (by omega)
    rw [flat_step (by omega), List.length_append, Nat.add_mul]
    omega
set_option maxRecDepth 10000 in
set_option maxHeartbeats 1000000 in
/-- slices.Concat. -/
theorem f103 (Aa : Option Addr) (k ca : Nat) (hs : List Hd) (xss : List (List Int)) (w : World) (ha : (sl eSl 1 Aa k ca hs).p w) (hx : (sls hs xss).p w) (hk : k ≤ 16) (hb : ∀ i, i < xss.length → (xss.getD i []).length ≤ 20480) : RetL 103 [.slice Aa k ca] w xss.flatten := by
  refine calls_cw Try.func103 rfl Try.ntmps103 rfl ?_
  have hS := ((St.start w).args (Nat.le_refl _) _ ha rfl).args (Nat.le_refl _) _ hx rfl
  have hkl := ha.1.1
  have hxl := hx.1
  have hbnd := flat_bound hb
  refine cw_seq ?_
  -- region 0
  refine cw_region ?_
  refine lw_v rfl rfl (ok_assign rfl (.n rfl) rfl) ?_
  refine lw_nil ?_
  refine Ends.keep [(0, .eq _)] (.cons rfl .nil) ?_
  refine ends_then ?_
  refine cw_seq ?_
  -- region 1
  refine cw_region ?_
  refine lw_v rfl rfl (ok_assign rfl (.n rfl) rfl) ?_
  refine lw_nil ?_
  refine Ends.keep [(0, .eq _), (3, .eq _)] (.cons rfl (.cons rfl .nil)) ?_
  refine ends_then ?_
  refine cw_seq ?_
  refine cw_seq ?_
  -- region 2
  refine cw_region ?_
  refine lw_v rfl rfl (ok_move rfl (.n rfl) rfl) ?_
  refine lw_v rfl rfl (ok_len rfl (.n rfl) Try.underlying47 rfl) ?_
  refine lw_v rfl rfl (ok_move rfl (.n rfl) rfl) ?_
  refine lw_nil ?_
  refine Ends.keep [(0, .eq _), (3, .eq _), (9, .eq _), (10, .eq _), (11, .eq _)] (.cons rfl (.cons rfl (.cons rfl (.cons rfl (.cons rfl .nil))))) ?_
  refine ends_then ?_
  refine cw_block ?_
  -- LOOP at region 3: changed live slots [3, 11], kept [0, 9, 10]
  refine cw_loop [(0, .eq _), (9, .eq _), (10, .eq _)] (fun i : Nat => [(3, .eq (.int .i64 (((xss.take i).flatten.length : Nat) : Int))), (11, .eq (.int .i64 i))]) (fun i w' => i ≤ k ∧ St w.heap.size w w' [sls hs xss, sl eSl 1 Aa k ca hs]) (fun i => k - i) 0 (.cons rfl (.cons rfl (.cons rfl .nil))) (.cons rfl (.cons rfl (.cons rfl (.cons rfl (.cons rfl .nil))))) ⟨Nat.zero_le _, hS⟩ ?_
  clear hS
  rintro i wr ⟨hi, hS⟩
  have hlen := hbnd i (by omega)
  have hlen2 : i * 20480 ≤ 16 * 20480 := Nat.mul_le_mul_right _ (by omega)
  refine cw_seq ?_
  -- region 3
  refine cw_region ?_
  refine lw_v rfl rfl (ok_lss rfl (.n rfl) rfl rfl) ?_
  refine lw_nil ?_
  refine Ends.keep [(0, .eq _), (3, .eq _), (9, .eq _), (10, .eq _), (11, .eq _), (12, .eq _)] (.cons rfl (.cons rfl (.cons rfl (.cons rfl (.cons rfl (.cons rfl .nil)))))) ?_
  refine ends_then ?_
  refine cw_seq ?_
  refine cw_cond rfl (fun h12 => ?_) (fun h12 => ?_)
  ·
    have hik : i < k := by have := of_decide_eq_true h12; omega
    obtain ⟨Ai, mi, ci, hei⟩ : ∃ a b d, hs.getD i (none, 0, 0) = (a, b, d) := ⟨_, _, _, rfl⟩
    replace hS := hS.slsAt (.head _) (by omega : i < hs.length)
    unfold slK at hS
    rw [hei] at hS
    have hmi : (xss.getD i []).length = mi := (hS.ok _ (.head _)).1.1
    have hmb := hb i (by omega)
    have hst := flat_step (xss := xss) (i := i) (by omega)
    have hsl : (xss.take (i + 1)).flatten.length = (xss.take i).flatten.length + mi := by rw [hst, List.length_append, hmi]
    refine cw_skip ?_
    refine ends_then ?_
    refine cw_seq ?_
    refine cw_block ?_
    refine cw_seq ?_
    -- region 4
    refine cw_region ?_
    refine lw_v rfl rfl (ok_ix rfl (.n rfl) Try.underlying47 Try.sizeOf26 rfl rfl hS (fun _ => ⟨by omega, by omega⟩)) ?_
    refine lw_v rfl rfl (ok_eq (ok_ldx rfl (.n rfl) rfl Try.isAgg26 hS (fun _ => ⟨by omega, by omega⟩) (by rfl)) (c' := .slice Ai mi ci) (fun _ => by show Value.slice (hs.getD i (none, 0, 0)).1 (hs.getD i (none, 0, 0)).2.1 (hs.getD i (none, 0, 0)).2.2 = _; rw [hei])) ?_
    refine lw_v rfl rfl (ok_assign rfl (.n rfl) rfl) ?_
    refine lw_nil ?_
    refine Ends.keep [(0, .eq _), (3, .eq _), (5, .eq _), (9, .eq _), (10, .eq _), (11, .eq _)] (.cons rfl (.cons rfl (.cons rfl (.cons rfl (.cons rfl (.cons rfl .nil)))))) ?_
    refine ends_then ?_
    refine cw_seq ?_
    -- region 5
    refine cw_region ?_
    refine lw_v rfl rfl (ok_move rfl (.n rfl) rfl) ?_
    refine lw_v rfl rfl (ok_move rfl (.n rfl) rfl) ?_
    refine lw_v rfl rfl (ok_len rfl (.n rfl) Try.underlying26 rfl) ?_
    refine lw_v rfl rfl (ok_eq (ok_addi rfl (.n rfl) rfl rfl (fun _ => ⟨by omega, by omega⟩)) (c' := .int .i64 (((xss.take (i + 1)).flatten.length : Nat) : Int)) (fun _ => congrArg (Value.int .i64) (by rw [hsl]; omega))) ?_
    refine lw_v rfl rfl (ok_assign rfl (.n rfl) rfl) ?_
    refine lw_nil ?_
    refine Ends.keep [(0, .eq _), (3, .eq _), (9, .eq _), (10, .eq _), (11, .eq _)] (.cons rfl (.cons rfl (.cons rfl (.cons rfl (.cons rfl .nil))))) ?_
    refine ends_then ?_
    refine cw_seq ?_
    -- region 6
    refine cw_region ?_
    refine lw_v rfl rfl (ok_move rfl (.n rfl) rfl) ?_
    refine lw_v rfl rfl (ok_lss rfl (.n rfl) rfl rfl) ?_
    refine lw_nil ?_
    refine Ends.keep [(0, .eq _), (3, .eq _), (9, .eq _), (10, .eq _), (11, .eq _), (20, .eq _)] (.cons rfl (.cons rfl (.cons rfl (.cons rfl (.cons rfl (.cons rfl .nil)))))) ?_
    refine ends_then ?_
    refine cw_cond rfl (fun h20 => ?_) (fun h20 => ?_)
    ·
      exact absurd (of_decide_eq_true h20) (by omega)
    ·
      refine cw_skip ?_
      refine in_normal (?_)
      refine ends_then ?_
      -- region 8
      refine cw_region ?_
      refine lw_v rfl rfl (ok_addi rfl (.n rfl) rfl rfl (fun _ => ⟨by omega, by omega⟩)) ?_
      refine lw_v rfl rfl (ok_move rfl (.n rfl) rfl) ?_
      refine lw_nil ?_
      -- BACK
      exact ends_back (i + 1) (.cons rfl (.cons rfl (.cons rfl (.cons rfl (.cons rfl .nil))))) ⟨by omega, hS.tail⟩ (by omega)
  ·
    refine cw_exit ?_
    refine then_exit (then_exit (in_exit (?_)))
    refine Ends.keep [(0, .eq _), (3, .eq _)] (.cons rfl (.cons rfl .nil)) ?_
    refine ends_then ?_
    refine cw_seq ?_
    -- region 9
    refine cw_region ?_
    refine lw_v rfl rfl (ok_move rfl (.n rfl) rfl) ?_
    refine lw_call (f := 115) (xs := [_, _]) rfl rfl rfl Try.call115 rfl (Calls.mono (f115 (xss.take i).flatten.length _ (by omega)) ?_)
    rintro e w' ⟨A24, c24, rfl, hg, hfr, ho⟩
    replace hS := hS.new hg _ ho hfr; clear hg ho hfr
    refine ⟨_, rfl, ?_⟩
    refine lw_v rfl rfl (ok_assign rfl (.n rfl) rfl) ?_
    refine lw_nil ?_
    refine Ends.keep [(0, .eq _), (6, .eq _)] (.cons rfl (.cons rfl .nil)) ?_
    refine ends_then ?_
    refine cw_seq ?_
    refine cw_seq ?_
    -- region 10
    refine cw_region ?_
    refine lw_v rfl rfl (ok_move rfl (.n rfl) rfl) ?_
    refine lw_v rfl rfl (ok_len rfl (.n rfl) Try.underlying47 rfl) ?_
    refine lw_v rfl rfl (ok_move rfl (.n rfl) rfl) ?_
    refine lw_nil ?_
    refine Ends.keep [(6, .eq _), (25, .eq _), (26, .eq _), (27, .eq _)] (.cons rfl (.cons rfl (.cons rfl (.cons rfl .nil)))) ?_
    refine ends_then ?_
    refine cw_block ?_
    -- LOOP at region 11: changed live slots [6, 27], kept [25, 26]
    refine cw_loop3 [(25, .eq _), (26, .eq _)] (fun (i : Nat) (A' : Option Addr) (c' : Nat) => [(6, .eq (.slice A' (xss.take i).flatten.length c')), (27, .eq (.int .i64 i))]) (fun i A' c' w' => i ≤ k ∧ St w.heap.size w w' [own (eInt .i64) 1 3 A' (xss.take i).flatten.length c' (xss.take i).flatten, sls hs xss, sl eSl 1 Aa k ca hs]) (fun i _ _ => k - i) 0 A24 c24 (.cons rfl (.cons rfl .nil)) (.cons rfl (.cons rfl (.cons rfl (.cons rfl .nil)))) ⟨Nat.zero_le _, hS⟩ ?_
    clear hS
    clear hi hlen hlen2
    rintro i A' c' wr ⟨hi, hS⟩
    have hlen := hbnd i (by omega)
    have hlen2 : i * 20480 ≤ 16 * 20480 := Nat.mul_le_mul_right _ (by omega)
    refine cw_seq ?_
    -- region 11
    refine cw_region ?_
    refine lw_v rfl rfl (ok_lss rfl (.n rfl) rfl rfl) ?_
    refine lw_nil ?_
    refine Ends.keep [(6, .eq _), (25, .eq _), (26, .eq _), (27, .eq _), (28, .eq _)] (.cons rfl (.cons rfl (.cons rfl (.cons rfl (.cons rfl .nil))))) ?_
    refine ends_then ?_
    refine cw_seq ?_
    refine cw_cond rfl (fun h28 => ?_) (fun h28 => ?_)
    ·
      have hik : i < k := by have := of_decide_eq_true h28; omega
      obtain ⟨Ai, mi, ci, hei⟩ : ∃ a b d, hs.getD i (none, 0, 0) = (a, b, d) := ⟨_, _, _, rfl⟩
      replace hS := hS.slsAt (.tail _ (.head _)) (by omega : i < hs.length)
      unfold slK at hS
      rw [hei] at hS
      have hmi : (xss.getD i []).length = mi := (hS.ok _ (.head _)).1.1
      have hmb := hb i (by omega)
      have hst := flat_step (xss := xss) (i := i) (by omega)
      have hsl : (xss.take (i + 1)).flatten.length = (xss.take i).flatten.length + mi := by rw [hst, List.length_append, hmi]
      refine cw_skip ?_
      refine ends_then ?_
      refine cw_seq ?_
      refine cw_block ?_
      refine cw_seq ?_
      -- region 12
      refine cw_region ?_
      refine lw_v rfl rfl (ok_ix rfl (.n rfl) Try.underlying47 Try.sizeOf26 rfl rfl hS (fun _ => ⟨by omega, by omega⟩)) ?_
      refine lw_v rfl rfl (ok_eq (ok_ldx rfl (.n rfl) rfl Try.isAgg26 hS (fun _ => ⟨by omega, by omega⟩) (by rfl)) (c' := .slice Ai mi ci) (fun _ => by show Value.slice (hs.getD i (none, 0, 0)).1 (hs.getD i (none, 0, 0)).2.1 (hs.getD i (none, 0, 0)).2.2 = _; rw [hei])) ?_
      refine lw_v rfl rfl (ok_assign rfl (.n rfl) rfl) ?_
      refine lw_nil ?_
      refine Ends.keep [(6, .eq _), (8, .eq _), (25, .eq _), (26, .eq _), (27, .eq _)] (.cons rfl (.cons rfl (.cons rfl (.cons rfl (.cons rfl .nil))))) ?_
      refine ends_then ?_
      -- region 13
      refine cw_region ?_
      refine lw_v rfl rfl (ok_move rfl (.n rfl) rfl) ?_
      refine lw_v rfl rfl (ok_move rfl (.n rfl) rfl) ?_
      refine lw_append0 (enc := (eInt .i64)) rfl rfl rfl Try.underlying26 info3 rfl rfl rfl hS (by omega) (by omega) ?_
      intro A33 c33 w1 hS1; replace hS := hS1 _ (Rep.r); clear hS1
      refine lw_v rfl rfl (ok_assign rfl (.n rfl) rfl) ?_
      refine lw_nil ?_
      refine in_normal (?_)
      refine Ends.keep [(6, .eq _), (25, .eq _), (26, .eq _), (27, .eq _)] (.cons rfl (.cons rfl (.cons rfl (.cons rfl .nil)))) ?_
      refine ends_then ?_
      -- region 14
      refine cw_region ?_
      refine lw_v rfl rfl (ok_addi rfl (.n rfl) rfl rfl (fun _ => ⟨by omega, by omega⟩)) ?_
      refine lw_v rfl rfl (ok_move rfl (.n rfl) rfl) ?_
      refine lw_nil ?_
      -- BACK
      replace hS := hS.tail
      rw [← hst] at hS ⊢
      exact ends_back3 (i + 1) A33 c33 (.cons rfl (.cons rfl (.cons rfl (.cons rfl .nil)))) ⟨by omega, hS⟩ (by omega)
    ·
      refine cw_exit ?_
      refine then_exit (then_exit (in_exit (?_)))
      refine Ends.keep [(6, .eq _)] (.cons rfl .nil) ?_
      refine ends_then ?_
      refine cw_seq ?_
      -- region 15
      refine cw_region ?_
      refine lw_v rfl rfl (ok_move rfl (.n rfl) rfl) ?_
      refine lw_v rfl rfl (ok_assign rfl (.n rfl) rfl) ?_
      refine lw_nil ?_
      refine Ends.keep [(2, .eq _)] (.cons rfl .nil) ?_
      refine ends_then ?_
      refine cw_ret ?_
      have hke : i = k := by have := of_decide_eq_false h28; omega
      rw [List.take_of_length_le (by omega)] at hS ⊢
      exact end_ret (res1 Try.results103 rfl) ⟨A', c', rfl, hS.below, fun b hb => hS.ge _ (.head _) rfl b hb, hS.ok _ (.head _)⟩

end Go.Proofs.Ytnpgeohkmdcbkaa.Aq

namespace Go.Proofs.Ytnpgeohkmdcbkaa.Aq
open Go Go.RowKit

theorem co_cons {a : Asn} {L : List Asn} (h : CO a) (hl : ∀ x ∈ L, CO x) : ∀ x ∈ a :: L, CO x := fun x hx => by
  rcases List.mem_cons.1 hx with rfl | hx
  · exact h
  · exact hl x hx
theorem sat_of {ls : List (Nat × PV)} {a : Act} {w : World} (h : ∀ p ∈ ls, ∃ v, p.2 = .eq v ∧ tm a p.1 = v) : Sat (Env.of ls) a w := by
  induction ls with
  | nil => intro t p hp; simp [Env.of] at hp
  | cons x ls ih =>
    intro t p hp
    simp only [Env.of] at hp
    cases hb : Nat.beq t x.1 with
    | true =>
      rw [hb] at hp
      simp only [cond_true, Option.some.injEq] at hp
      obtain ⟨v, h1, h2⟩ := h x List.mem_cons_self
      have := Nat.eq_of_beq_eq_true hb
      subst this
      rw [← hp, h1]
      exact h2
    | false =>
      rw [hb] at hp
      simp only [cond_false] at hp
      exact ih (fun p hp => h p (List.mem_cons_of_mem _ hp)) t p hp
theorem ci_use {P : Program} {n m l : Nat} {c : Code} {Q : Exit → Act → World → Prop} {E : Env} {w : World} {a : Act} (h : CI [] (some l) m P n c Q E w) (h1 : a.defers = []) (h2 : a.tmps.size = n) (h3 : Sat E a w) : c.wpIn (Fence.wide.inRound l) m P Q a w := h a h1 h2 h3
theorem ends_use {n : Nat} {dfr : List Deferred} {Q : Exit → Act → World → Prop} {e : Exit} {E : Env} {w : World} {a : Act} (h : Ends dfr n Q e E w) (h1 : a.defers = dfr) (h2 : a.tmps.size = n) (h3 : Sat E a w) : Q e a w := h a h1 h2 h3
/-- What a part's slice is known to be. -/
def FPart (W : World) (ys : List Int) (h : Hd) (w : World) : Prop := h.2.1 = ys.length ∧ (sl (eInt .i64) 1 h.1 ys.length h.2.2 ys).p w ∧ ∀ b, (sl (eInt .i64) 1 h.1 ys.length h.2.2 ys).fp b → W.heap.size ≤ b
theorem St.slsJoin {B : Nat} {we w : World} {L : List Asn} {hs : List Hd} {xss : List (List Int)} {A : Option Addr} {m c : Nat} {ys : List Int} (h : St B we w (sl (eInt .i64) 1 A m c ys :: sls hs xss :: L)) : St B we w (sls (hs ++ [(A, m, c)]) (xss ++ [ys]) :: L) := by
  have hp := h.ok _ (.head _)
  have h2 : (sls hs xss).p w := h.ok _ (.tail _ (.head _))
  have hl := h2.1
  have old : ∀ k, k < hs.length → slK (hs ++ [(A, m, c)]) (xss ++ [ys]) k = slK hs xss k := fun k hk => by
    unfold slK
    rw [List.getD_eq_getElem?_getD, List.getElem?_append_left hk, ← List.getD_eq_getElem?_getD, List.getD_eq_getElem?_getD (l := xss ++ [ys]), List.getElem?_append_left (by omega), ← List.getD_eq_getElem?_getD]
  have new : slK (hs ++ [(A, m, c)]) (xss ++ [ys]) hs.length = sl (eInt .i64) 1 A m c ys := by
    unfold slK
    have e1 : (hs ++ [(A, m, c)]).getD hs.length (none, 0, 0) = (A, m, c) := by simp [List.getD_eq_getElem?_getD]
    have e2 : (xss ++ [ys]).getD hs.length [] = ys := by rw [hl]; simp [List.getD_eq_getElem?_getD]
    rw [e1, e2]
  have cs : ∀ k, k < (hs ++ [(A, m, c)]).length → k < hs.length ∨ k = hs.length := fun k hk => by simp at hk; omega
  have hap := List.pairwise_cons.1 h.apart
  have hap2 := List.pairwise_cons.1 hap.2
  refine ⟨h.below, h.base, fun x hx => ?_, fun x hx hm b hb => ?_, List.pairwise_cons.2 ⟨fun x hx hor b hb hxb => ?_, hap2.2⟩⟩
  · rcases List.mem_cons.1 hx with rfl | hx
    · refine ⟨by simp [hl], fun k hk => ?_⟩
      rcases cs k hk with h3 | rfl
      · rw [old k h3]; exact h2.2 k h3
      · rw [new]; exact hp
    · exact h.ok x (List.mem_cons_of_mem _ (List.mem_cons_of_mem _ hx))
  · rcases List.mem_cons.1 hx with rfl | hx
    · cases hm
    · exact h.ge x (List.mem_cons_of_mem _ (List.mem_cons_of_mem _ hx)) hm b hb
  · obtain ⟨k, hk, hb⟩ := hb
    have hor' : x.mt = true := by
      rcases hor with ho | ho
      · cases ho
      · exact ho
    rcases cs k hk with h3 | rfl
    · rw [old k h3] at hb
      exact hap2.1 x hx (.inr hor') b ⟨k, h3, hb⟩ hxb
    · rw [new] at hb
      exact hap.1 x (List.mem_cons_of_mem _ hx) (.inr hor') b hb hxb
theorem chunk_mem {c : Cs} {res D row : List Int} {m : Nat} (hm : row.length = m) {xs : List (Ch m)} (hcov : CovC m xs) {x : Int} : x ∈ (xs.map fun p : Ch m => partL c res D ((row.drop p.1.1).take p.1.2)).flatten ↔ x ∈ partL c res D row := by
  rw [List.mem_flatten]
  constructor
  · rintro ⟨l, hl, hx⟩
    obtain ⟨p, _, rfl⟩ := List.mem_map.1 hl
    unfold partL at hx ⊢
    obtain ⟨v, hv, hxv⟩ := List.mem_flatMap.1 hx
    exact List.mem_flatMap.2 ⟨v, List.mem_of_mem_drop (List.mem_of_mem_take hv), hxv⟩
  · intro hx
    unfold partL at hx
    obtain ⟨v, hv, hxv⟩ := List.mem_flatMap.1 hx
    obtain ⟨j, hj, e⟩ := List.mem_iff_getElem.1 hv
    obtain ⟨p, hp, h1, h2⟩ := hcov j (by omega)
    refine ⟨_, List.mem_map.2 ⟨p, hp, rfl⟩, ?_⟩
    unfold partL
    refine List.mem_flatMap.2 ⟨v, ?_, hxv⟩
    rw [List.mem_iff_getElem?]
    refine ⟨j - p.1.1, ?_⟩
    rw [List.getElem?_take_of_lt (by omega), List.getElem?_drop, show p.1.1 + (j - p.1.1) = j by omega, List.getElem?_eq_getElem hj, e]
theorem chunk_bound {c : Cs} (hw : WF c) {res D row : List Int} {m : Nat} (hm16 : m ≤ 16) (hm : row.length = m) {xs : List (Ch m)} : ∀ i, i < (xs.map fun p : Ch m => partL c res D ((row.drop p.1.1).take p.1.2)).length → ((xs.map fun p : Ch m => partL c res D ((row.drop p.1.1).take p.1.2)).getD i []).length ≤ 20480 := by
  intro i hi
  rw [List.getD_eq_getElem?_getD, List.getElem?_eq_getElem hi, Option.getD_some, List.getElem_map]
  generalize xs[i]'(by simpa using hi) = p
  have h1 := partL_len hw res D ((row.drop p.1.1).take p.1.2)
  have h2 : ((row.drop p.1.1).take p.1.2).length ≤ 16 := by have := p.2; rw [List.length_take]; omega
  have h3 : ((row.drop p.1.1).take p.1.2).length * 1280 ≤ 16 * 1280 := Nat.mul_le_mul_right _ h2
  omega
theorem quo_rng (m : Nat) (k : Int) (h0 : 1 ≤ k) (h1 : k ≤ 64) (hm : m ≤ 16) : ∃ z : Int, IntKind.i64.wrap (((m : Int) + k - 1).tdiv k) = z ∧ 0 ≤ z ∧ z ≤ 100 := by
  have e := Int.tdiv_eq_ediv_of_nonneg (a := (m : Int) + k - 1) (b := k) (by omega)
  have h2 : 0 ≤ ((m : Int) + k - 1) / k := Int.ediv_nonneg (by omega) (by omega)
  have h3 : ((m : Int) + k - 1) / k ≤ (m : Int) + k - 1 := Int.ediv_le_self _ (by omega)
  exact ⟨_, wrap_in (by rw [e]; omega), by rw [e]; exact h2, by rw [e]; omega⟩
set_option maxRecDepth 10000 in
set_option maxHeartbeats 2000000 in
/-- globals.search.next. -/
theorem f84 {B : Nat} {we w : World} {L : List Asn} (c : Cs) (q : Q6) (res D row : List Int) {m1 mw : Nat} (A1 : Option Addr) (c1 : Nat) (Ah : Option Addr) (ch : Nat) (Aw : Option Addr) (cw bs : Nat) (wk high : Int) (hwf : WF c) (hres : res.length = c.Head.length) (hD : D.length = c.N) (hrow : ∀ v ∈ row, 0 ≤ v ∧ v < c.N) (hmw : mw ≤ 16) (hwk0 : 1 ≤ wk) (hwk1 : wk ≤ 64) (hco : ∀ a ∈ L, CO a)
    (hS : St B we w (own (eInt .i64) 1 3 Ah c.N ch (D) :: bx bs (exV c q A1 m1 c1 Ah c.N ch).cells.toList 96 :: sl (eInt .i64) 1 Aw mw cw row :: sl (eInt .i64) 1 A1 m1 c1 res :: sl (eInt .i64) 1 q.a0 c.First.length q.c0 c.First :: sl (eInt .i64) 1 q.a1 c.Head.length q.c1 c.Head :: sl (eInt .i64) 1 q.a2 c.Rev.length q.c2 c.Rev :: sl (eInt .i64) 1 q.a3 c.Cap.length q.c3 c.Cap :: sl (eInt .i64) 1 q.a4 c.Arc.length q.c4 c.Arc :: sl eBool 1 q.a5 c.Back.length q.c5 c.Back :: L)) : Calls Try.prog 84 #[.pointer (some ⟨bs, 0, none⟩), .slice Aw mw cw, .int .i64 wk, .int .i64 high] w fun e w' =>
      ∃ Ax cx zs, e = .returned (.slice Ax zs.length cx) ∧ (∀ x, x ∈ zs ↔ x ∈ partL c res D row) ∧ zs.Nodup ∧ St B we w' (own (eInt .i64) 1 3 Ah c.N ch (putAll D high zs) :: bx bs (exV c q A1 m1 c1 Ah c.N ch).cells.toList 96 :: sl (eInt .i64) 1 Ax zs.length cx zs :: sl (eInt .i64) 1 A1 m1 c1 res :: sl (eInt .i64) 1 q.a0 c.First.length q.c0 c.First :: sl (eInt .i64) 1 q.a1 c.Head.length q.c1 c.Head :: sl (eInt .i64) 1 q.a2 c.Rev.length q.c2 c.Rev :: sl (eInt .i64) 1 q.a3 c.Cap.length q.c3 c.Cap :: sl (eInt .i64) 1 q.a4 c.Arc.length q.c4 c.Arc :: sl eBool 1 q.a5 c.Back.length q.c5 c.Back :: L) := by
  refine calls_cwm (n0 := 4) Try.func84 rfl Try.ntmps84 rfl ?_
  have hN := hwf.hi
  have hlo := hwf.lo
  have hml : row.length = mw := (hS.ok _ (.tail _ (.tail _ (.head _)))).1.1
  have hmc : mw ≤ cw := (hS.ok _ (.tail _ (.tail _ (.head _)))).1.2
  have hrb := (hS.ok _ (.tail _ (.tail _ (.tail _ (.head _))))).2.1
  obtain ⟨z, hz, hz0, hz1⟩ := quo_rng mw wk hwk0 hwk1 hmw
  obtain ⟨k, hk, hk1, hk2⟩ : ∃ k : Nat, (if z < 1 then (1 : Int) else z) = (k : Int) ∧ 1 ≤ k ∧ k ≤ 1000 := by
    by_cases h : z < 1
    · exact ⟨1, by rw [if_pos h]; rfl, by omega, by omega⟩
    · exact ⟨z.toNat, by rw [if_neg h]; omega, by omega, by omega⟩
  refine cw_seq ?_
  -- region 0
  refine cw_region ?_
  refine lw_box rfl rfl rfl rfl hS ?_
  clear hS; intro b4 w1 _ _ hS
  refine lw_v rfl rfl (ok_assign rfl (.n rfl) rfl) ?_
  refine lw_nil ?_
  refine Ends.keep [(1, .eq _), (2, .eq _), (3, .eq _), (4, .eq _)] (.cons rfl (.cons rfl (.cons rfl (.cons rfl .nil)))) ?_
  refine ends_then ?_
  refine cw_seq ?_
  -- region 1
  refine cw_region ?_
  refine lw_v rfl rfl (ok_move rfl (.n rfl) rfl) ?_
  refine lw_v rfl rfl (ok_len rfl (.n rfl) Try.underlying26 rfl) ?_
  refine lw_v rfl rfl (ok_move rfl (.n rfl) rfl) ?_
  refine lw_v rfl rfl (ok_addi rfl (.n rfl) rfl rfl (fun _ => ⟨by omega, by omega⟩)) ?_
  refine lw_v rfl rfl (ok_subi rfl (.n rfl) rfl rfl (fun _ => ⟨by omega, by omega⟩)) ?_
  refine lw_v rfl rfl (ok_move rfl (.n rfl) rfl) ?_
  refine lw_v rfl rfl (ok_eq (ok_quo rfl (.n rfl) rfl rfl (fun _ => by omega)) (c' := .int .i64 z) (fun _ => congrArg (Value.int .i64) hz)) ?_
  refine lw_v rfl rfl (ok_assign rfl (.n rfl) rfl) ?_
  refine lw_nil ?_
  refine Ends.keep [(1, .eq _), (3, .eq _), (4, .eq _), (9, .eq _)] (.cons rfl (.cons rfl (.cons rfl (.cons rfl .nil)))) ?_
  refine ends_then ?_
  refine cw_seq ?_
  -- region 2
  refine cw_region ?_
  refine lw_alloc rfl rfl rfl Try.zeroValue47 hS ?_
  clear hS; intro b10 w2 _ _ hS
  refine lw_nil ?_
  refine Ends.keep [(1, .eq _), (3, .eq _), (4, .eq _), (9, .eq _), (10, .eq _)] (.cons rfl (.cons rfl (.cons rfl (.cons rfl (.cons rfl .nil))))) ?_
  refine ends_then ?_
  refine cw_seq ?_
  refine cw_seq ?_
  -- region 3
  refine cw_region ?_
  refine lw_v rfl rfl (ok_move rfl (.n rfl) rfl) ?_
  refine lw_v rfl rfl (ok_move rfl (.n rfl) rfl) ?_
  refine lw_v rfl rfl (ok_eq (ok_max2 rfl (.n rfl) rfl rfl) (c' := .int .i64 (k : Int)) (fun _ => congrArg (Value.int .i64) hk)) ?_
  refine lw_call (f := 101) (xs := [_, _]) rfl rfl rfl Try.call101 rfl (Calls.mono (f101 Aw mw cw (k : Int) _ (by omega)) ?_)
  rintro e wl ⟨b2, b3, rfl, hg, hf2, hf3, hb2, hb3⟩
  replace hS := hS.newl [rbx b2 [.slice Aw mw cw] 26, rbx b3 [.int .i64 (k : Int)] 3] hg fun x hx => by
    simp only [List.mem_cons, List.not_mem_nil, or_false] at hx
    rcases hx with rfl | rfl
    · exact ⟨rfl, hb2, fun b hb => by obtain rfl : b = b2 := hb; exact hf2⟩
    · exact ⟨rfl, hb3, fun b hb => by obtain rfl : b = b3 := hb; exact hf3⟩
  clear hg hf2 hf3
  replace hS := ((hS.rot3.rot3.nil eSl 1 26).swap).slsNil
  have hcoA : ∀ (A : Option Addr) (m' cc : Nat) (hs' : List Hd) (xss : List (List Int)), ∀ a ∈ (sls hs' xss :: bx b10 [.slice A m' cc] 47 :: own eSl 1 26 A m' cc hs' :: rbx b2 [.slice Aw mw cw] 26 :: rbx b3 [.int .i64 (k : Int)] 3 :: bx b4 (Value.pointer (some ⟨bs, 0, none⟩)).cells.toList 93 :: own (eInt .i64) 1 3 Ah c.N ch (D) :: bx bs (exV c q A1 m1 c1 Ah c.N ch).cells.toList 96 :: sl (eInt .i64) 1 Aw mw cw row :: sl (eInt .i64) 1 A1 m1 c1 res :: sl (eInt .i64) 1 q.a0 c.First.length q.c0 c.First :: sl (eInt .i64) 1 q.a1 c.Head.length q.c1 c.Head :: sl (eInt .i64) 1 q.a2 c.Rev.length q.c2 c.Rev :: sl (eInt .i64) 1 q.a3 c.Cap.length q.c3 c.Cap :: sl (eInt .i64) 1 q.a4 c.Arc.length q.c4 c.Arc :: sl eBool 1 q.a5 c.Back.length q.c5 c.Back :: L : List Asn), CO a := fun A m' cc hs' xss => co_cons (co_sls _ _) (co_cons (co_bx _ _ _) (co_cons (co_own _ _ _ _ _ _ _) (co_cons (co_rbx _ _ _) (co_cons (co_rbx _ _ _) (co_cons (co_bx _ _ _) (co_cons (co_own _ _ _ _ _ _ _) (co_cons (co_bx _ _ _) (co_cons (co_sl _ _ _ _ _ _) (co_cons (co_sl _ _ _ _ _ _) (co_cons (co_sl _ _ _ _ _ _) (co_cons (co_sl _ _ _ _ _ _) (co_cons (co_sl _ _ _ _ _ _) (co_cons (co_sl _ _ _ _ _ _) (co_cons (co_sl _ _ _ _ _ _) (co_cons (co_sl _ _ _ _ _ _) hco)))))))))))))))
  refine ⟨_, rfl, ?_⟩
  refine lw_nil ?_
  refine Ends.keep [(3, .eq _), (4, .eq _), (10, .eq _), (25, .eq _)] (.cons rfl (.cons rfl (.cons rfl (.cons rfl .nil)))) ?_
  refine ends_then ?_
  refine cw_block ?_
  intro a ha hn hs
  have t3 : tm a 3 = .int .i64 high := hs 3 _ rfl
  have t4 : tm a 4 = .pointer (some ⟨b4, 0, none⟩) := hs 4 _ rfl
  have t10 : tm a 10 = .pointer (some ⟨b10, 0, none⟩) := hs 10 _ rfl
  have t25 : a.eval (.tmp 25) = .func (.func 114) #[] #[.pointer (some ⟨b2, 0, none⟩), .pointer (some ⟨b3, 0, none⟩)] := hs 25 _ rfl
  clear hs
  refine (wpIn_wide (n := 4)).1 (wpIn_rangeFunc_ownH (F := Fence.wide) (n := 4) rfl (by decide) (gf := 114) (lb := #[.pointer (some ⟨b2, 0, none⟩), .pointer (some ⟨b3, 0, none⟩)]) t25 trivial Try.call114 (chunk_stops Aw mw cw k b2 b3 (4 - 1) _ hk1 hk2 (by omega) hmc hb2 hb3) (fun h h' => h.trans h') (fun W l o o' _ h hc _ => kpC_put W l o o' h hc) (Below.refl _ _) (fun _ => rfl)
    (fun pre W => pre.length ≤ mw ∧ ∃ A cc hs', St B we W (sls hs' (pre.map (fun p : Ch mw => partL c res D ((row.drop p.1.1).take p.1.2))) :: bx b10 [.slice A pre.length cc] 47 :: own eSl 1 26 A pre.length cc hs' :: rbx b2 [.slice Aw mw cw] 26 :: rbx b3 [.int .i64 (k : Int)] 3 :: bx b4 (Value.pointer (some ⟨bs, 0, none⟩)).cells.toList 93 :: own (eInt .i64) 1 3 Ah c.N ch (D) :: bx bs (exV c q A1 m1 c1 Ah c.N ch).cells.toList 96 :: sl (eInt .i64) 1 Aw mw cw row :: sl (eInt .i64) 1 A1 m1 c1 res :: sl (eInt .i64) 1 q.a0 c.First.length q.c0 c.First :: sl (eInt .i64) 1 q.a1 c.Head.length q.c1 c.Head :: sl (eInt .i64) 1 q.a2 c.Rev.length q.c2 c.Rev :: sl (eInt .i64) 1 q.a3 c.Cap.length q.c3 c.Cap :: sl (eInt .i64) 1 q.a4 c.Arc.length q.c4 c.Arc :: sl eBool 1 q.a5 c.Back.length q.c5 c.Back :: L)) (fun _ _ _ => False) ?_ (fun _ _ _ _ _ h _ _ => h) ⟨Nat.zero_le _, none, 0, [], hS⟩
    (fun x a' _ => a'.defers = [] ∧ a'.tmps.size = 54 ∧ tm a' 11 = .slice (Aw.map fun z => z.add (x.1.1 * 1)) x.1.2 x.1.2 ∧ tm a' 4 = .pointer (some ⟨b4, 0, none⟩) ∧ tm a' 10 = .pointer (some ⟨b10, 0, none⟩)) (fun _ _ _ _ _ _ h _ _ => h) ?_ ?_ ?_ (fun _ _ _ _ _ _ h _ => h.elim))
  · rintro pre X Y rw_ ⟨hpl, A, cc, hs', hS'⟩ hg hr
    exact ⟨hpl, A, cc, hs', hS'.owned (hcoA _ _ _ _ _) hg fun r e => ⟨by have := (hr r e).1; have := hS.base; omega, (hr r e).2⟩⟩
  · -- the assignment to the loop's variable
    intro l pre x W K hi hK
    have hfold : ((#[26] : Array Tmp).zip (encC Aw mw x)).foldl (fun t (p, v) => t.setIfInBounds p v) a.tmps = (a.put (some 26) (.slice (Aw.map fun z => z.add (x.1.1 * 1)) x.1.2 x.1.2)).tmps := by simp [encC, Act.put]
    rw [hfold]
    refine ci_use (n := 54) (E := Env.of [(26, .eq (.slice (Aw.map fun z => z.add (x.1.1 * 1)) x.1.2 x.1.2)), (4, .eq (.pointer (some ⟨b4, 0, none⟩))), (10, .eq (.pointer (some ⟨b10, 0, none⟩)))]) ?_ rfl (by rw [put_size]; exact hn) ?_
    · refine ci_region (li_v rfl rfl rfl (ok_assign rfl (.n rfl) rfl) ?_)
      refine li_nil ?_
      exact fun a' ha' hn' hs' => hK a' W (KeepsFrom.refl _ _) ⟨id, id⟩ hi ⟨ha', hn', hs' 11 _ rfl, hs' 4 _ rfl, hs' 10 _ rfl⟩
    · refine sat_of fun p hp => ?_
      simp only [List.mem_cons, List.not_mem_nil, or_false] at hp
      rcases hp with rfl | rfl | rfl
      · exact ⟨_, rfl, tm_put_same hn (by decide)⟩
      · exact ⟨_, rfl, (tm_put_ne (show (4 : Nat) ≠ 26 by decide)).trans t4⟩
      · exact ⟨_, rfl, (tm_put_ne (show (10 : Nat) ≠ 26 by decide)).trans t10⟩
  · -- a round
    rintro l pre x a' W _ _ ⟨hpl, A, cc, hs', hS'⟩ ⟨ha', hn', h11, h4, h10⟩ hlt
    have hbel := hS'.below
    clear hS
    have hS := (hS'.rebase.addKeep (hcoA _ _ _ _ _) wl.heap.size).swap
    have hhl : hs'.length = pre.length := (hS.ok _ (.tail _ (.tail _ (.tail _ (.head _))))).1
    obtain ⟨ys, hys⟩ : ∃ ys, ys = partL c res D ((row.drop x.1.1).take x.1.2) := ⟨_, rfl⟩
    have hxx := x.2
    have hyl : ys.length ≤ 20480 := by
      rw [hys]
      have h1 := partL_len hwf res D ((row.drop x.1.1).take x.1.2)
      have h2 : ((row.drop x.1.1).take x.1.2).length ≤ 16 := by rw [List.length_take]; omega
      have h3 : ((row.drop x.1.1).take x.1.2).length * 1280 ≤ 16 * 1280 := Nat.mul_le_mul_right _ h2
      omega
    have hrow' : ∀ v ∈ (row.drop x.1.1).take x.1.2, 0 ≤ v ∧ v < c.N := fun v hv => hrow v (List.mem_of_mem_drop (List.mem_of_mem_take hv))
    refine ci_use (n := 54) (E := Env.of [(11, .eq (.slice (Aw.map fun z => z.add (x.1.1 * 1)) x.1.2 x.1.2)), (4, .eq (.pointer (some ⟨b4, 0, none⟩))), (10, .eq (.pointer (some ⟨b10, 0, none⟩)))]) ?_ ha' hn' ?_
    · refine ci_block ?_
      refine ci_draw (by kernel_rfl) (List.take 5 _) (List.drop 5 _) (List.take_append_drop 5 _).symm (by kernel_rfl) (by kernel_rfl) (fun ⟨_, _, h⟩ => h) ?_
      refine free_v (ok_ldb rfl (.n rfl) rfl Try.isAgg47 hS (by rfl)) ?_
      refine free_v (ok_ldb rfl (.n rfl) rfl Try.isAgg93 hS (by rfl)) ?_
      refine free_v (ok_move rfl (.n rfl) rfl) ?_
      refine free_cons (ok_call (fun v w' => ∃ h : Hd, v = .slice h.1 h.2.1 h.2.2 ∧ FPart W ys h w') (xs := [_, _]) rfl rfl Try.call102 rfl (fun w' hg => ?_)) ?_
      · have hS2 := hS.grow hg
        refine (f102 c q res D _ A1 c1 Ah ch _ x.1.2 bs w' hwf (hS2.cs q) (hS2.rd A1 (by omega)) (hS2.rd Ah (by omega)) (sl_part (hS2.rd Aw (by omega)) hxx.1 (Nat.le_refl _)) (hS2.bx (b := bs)) hres hD hrow' (by omega)).mono ?_
        rintro e w2 ⟨A', c', rfl, hg2, hfr, ho⟩
        rw [← hys] at hfr ho ⊢
        exact ⟨_, rfl, hg2, fun w3 hg3 => ⟨(A', ys.length, c'), rfl, rfl, own_sl (Asn.grow _ ho hg3) (by omega), fun b hb => Nat.le_trans hg.size (own_fp hfr b hb)⟩⟩
      refine free_cons (ok_ls1S (F := FPart W ys) (fun v w' => ∃ A h, v = .slice A 1 1 ∧ (sl eSl 1 A 1 1 [h]).p w' ∧ (∀ b, (sl eSl 1 A 1 1 [h]).fp b → W.heap.size ≤ b) ∧ FPart W ys h w') rfl rfl Try.underlying47 Try.sizeOf26 Try.zeroValue26 rfl (fun h w1 w2 hg0 hf hg hsl => ⟨_, h, rfl, hsl, fun b ⟨ad, e1, e2, _⟩ => by injection e1 with e1; subst e1; subst e2; exact hg0.size, hf⟩)) ?_
      refine free_nil ?_
      intro w1 hg_
      refine LW.opened (s := 31) rfl ?_
      rintro _ ⟨A31, ⟨Ay, my, cy⟩, rfl, hsl, hsf, hmy, hyp, hyf⟩
      obtain rfl : my = ys.length := hmy
      replace hS := hS.newl [sl eSl 1 A31 1 1 [(Ay, ys.length, cy)], sl (eInt .i64) 1 Ay ys.length cy ys] hg_ fun z hz => by
        simp only [List.mem_cons, List.not_mem_nil, or_false] at hz
        rcases hz with rfl | rfl
        · exact ⟨rfl, hsl, hsf⟩
        · exact ⟨rfl, hyp, hyf⟩
      replace hS := hS.rot3.slsJoin
      refine lw_append (enc := eSl) rfl rfl rfl Try.underlying47 info26 rfl rfl rfl hS (by decide) (by omega) (by omega) ?_
      intro A32 c32 w2 hS1; replace hS := hS1 _ (Rep.r); clear hS1
      refine lw_st rfl rfl rfl rfl rfl rfl Try.sizeOf47 hS (by rfl) ?_
      clear hS; intro w3 hS
      refine lw_nil ?_
      refine in_normal ?_
      have e1 : (pre ++ [x]).map (fun p : Ch mw => partL c res D ((row.drop p.1.1).take p.1.2)) = pre.map (fun p : Ch mw => partL c res D ((row.drop p.1.1).take p.1.2)) ++ [ys] := by rw [List.map_append, hys]; rfl
      have e2 : (pre ++ [x]).length = (hs' ++ [(Ay, ys.length, cy)]).length := by rw [List.length_append, List.length_append, hhl]; rfl
      have hkf := hS.keeps (B0 := wl.heap.size) (.tail _ (.tail _ (.head _)))
      have hkb : KpC Aw mw cw k b2 b3 W w3 := ⟨fun _ => hS.ok (rbx b2 [.slice Aw mw cw] 26) (.tail _ (.tail _ (.tail _ (.tail _ (.tail _ (.head _)))))), fun _ => hS.ok (rbx b3 [.int .i64 (k : Int)] 3) (.tail _ (.tail _ (.tail _ (.tail _ (.tail _ (.tail _ (.head _)))))))⟩
      exact fun a2 _ _ _ => ⟨hkf, hkb, by rw [List.length_append]; exact hlt, A32, c32, hs' ++ [(Ay, ys.length, cy)], by rw [e1, e2]; exact (hS.onto hbel).sub (.cons_cons _ (.cons _ (.cons _ (List.Sublist.refl _))))⟩
    · refine sat_of fun p hp => ?_
      simp only [List.mem_cons, List.not_mem_nil, or_false] at hp
      rcases hp with rfl | rfl | rfl
      · exact ⟨_, rfl, h11⟩
      · exact ⟨_, rfl, h4⟩
      · exact ⟨_, rfl, h10⟩
  rintro DB xs W hDB hcov ⟨hxl, A, cc, hs', hS'⟩ hK
  have hDB2 : B ≤ DB := Nat.le_trans hS.base hDB
  clear hS
  have hS := hS'.addBlk (hcoA _ _ _ _ _) hDB2 hK rfl
  clear hS' hK
  refine ends_use (dfr := [{ target := .collected DB, args := #[] }]) (n := 54) (E := Env.of [(3, .eq (.int .i64 high)), (4, .eq (.pointer (some ⟨b4, 0, none⟩))), (10, .eq (.pointer (some ⟨b10, 0, none⟩)))]) ?_ (by rw [ha]) hn (sat_of fun p hp => ?_)
  rotate_left
  · simp only [List.mem_cons, List.not_mem_nil, or_false] at hp
    rcases hp with rfl | rfl | rfl
    · exact ⟨_, rfl, t3⟩
    · exact ⟨_, rfl, t4⟩
    · exact ⟨_, rfl, t10⟩
  clear t3 t4 t10 t25 ha hn a
  have hhl : hs'.length = xs.length := (hS.ok _ (.tail _ (.tail _ (.tail _ (.head _))))).1
  have hbnd : ∀ i, i < (xs.map (fun p : Ch mw => partL c res D ((row.drop p.1.1).take p.1.2))).length → ((xs.map (fun p : Ch mw => partL c res D ((row.drop p.1.1).take p.1.2))).getD i []).length ≤ 20480 := chunk_bound hwf hmw hml
  have hfl := flat_bound hbnd (xs.map (fun p : Ch mw => partL c res D ((row.drop p.1.1).take p.1.2))).length (Nat.le_refl _)
  rw [List.take_length] at hfl
  have hxm : (xs.map (fun p : Ch mw => partL c res D ((row.drop p.1.1).take p.1.2))).length = xs.length := List.length_map ..
  have hfl2 : xs.length * 20480 ≤ 16 * 20480 := Nat.mul_le_mul_right _ (by omega)
  have hfm := fun x => chunk_mem (c := c) (res := res) (D := D) hml hcov (x := x)
  refine in_normal (?_)
  refine ends_then ?_
  refine cw_seq ?_
  -- region 6
  refine cw_region ?_
  refine lw_v rfl rfl (ok_ldb rfl (.n rfl) rfl Try.isAgg47 hS (by rfl)) ?_
  refine lw_call (f := 103) (xs := [_]) rfl rfl rfl Try.call103 rfl (Calls.mono (f103 A xs.length cc hs' (xs.map (fun p : Ch mw => partL c res D ((row.drop p.1.1).take p.1.2))) _ (hS.rd A (by omega)) (hS.ok _ (.tail _ (.head _))) (by omega) hbnd) ?_)
  rintro e w' ⟨A34, c34, rfl, hg, hfr, ho⟩
  replace hS := hS.new hg _ ho hfr; clear hg ho hfr
  generalize (xs.map (fun p : Ch mw => partL c res D ((row.drop p.1.1).take p.1.2))).flatten = F0 at hS hfl hfm ⊢
  refine ⟨_, rfl, ?_⟩
  refine lw_v rfl rfl (ok_assign rfl (.n rfl) rfl) ?_
  refine lw_nil ?_
  refine Ends.keep [(3, .eq _), (4, .eq _), (12, .eq _)] (.cons rfl (.cons rfl (.cons rfl .nil))) ?_
  refine ends_then ?_
  refine cw_seq ?_
  -- region 7
  refine cw_region ?_
  refine lw_v rfl rfl (ok_move rfl (.n rfl) rfl) ?_
  refine lw_call (f := 104) (xs := [_]) rfl rfl rfl Try.call104 rfl (Calls.mono (f104 A34 F0.length c34 F0 hS (by omega)) ?_)
  rintro e w' ⟨rfl, ys, hperm, hsrt, hS9⟩
  replace hS := hS9; clear hS9
  refine ⟨_, rfl, ?_⟩
  refine lw_nil ?_
  refine Ends.keep [(3, .eq _), (4, .eq _), (12, .eq _)] (.cons rfl (.cons rfl (.cons rfl .nil))) ?_
  refine ends_then ?_
  refine cw_seq ?_
  -- region 8
  refine cw_region ?_
  refine lw_v rfl rfl (ok_move rfl (.n rfl) rfl) ?_
  refine lw_call (f := 105) (xs := [_]) rfl rfl rfl Try.call105 rfl (Calls.mono (f105 A34 F0.length c34 ys hS (by omega)) ?_)
  rintro e w' ⟨zs, rfl, hzm, hzl, hznd, hS9⟩
  replace hS := hS9; clear hS9
  have hmem : ∀ x, x ∈ zs ↔ x ∈ partL c res D row := fun x => (hzm x).trans ((hperm.mem_iff).trans (hfm x))
  have hzr : ∀ v ∈ zs, 0 ≤ v ∧ v < c.N := fun v hv => by
    obtain ⟨u, h1, rfl, _⟩ := (partL_mem hwf hrow).1 ((hmem v).1 hv)
    omega
  have hznd2 := hznd hsrt
  have hzl2 : zs.length ≤ c.N := nodup_le hznd2 hzr
  refine ⟨_, rfl, ?_⟩
  refine lw_v rfl rfl (ok_assign rfl (.n rfl) rfl) ?_
  refine lw_nil ?_
  refine Ends.keep [(3, .eq _), (4, .eq _), (12, .eq _)] (.cons rfl (.cons rfl (.cons rfl .nil))) ?_
  refine ends_then ?_
  refine cw_seq ?_
  refine cw_seq ?_
  -- region 9
  refine cw_region ?_
  refine lw_v rfl rfl (ok_move rfl (.n rfl) rfl) ?_
  refine lw_v rfl rfl (ok_len rfl (.n rfl) Try.underlying26 rfl) ?_
  refine lw_v rfl rfl (ok_move rfl (.n rfl) rfl) ?_
  refine lw_nil ?_
  refine Ends.keep [(3, .eq _), (4, .eq _), (12, .eq _), (39, .eq _), (40, .eq _), (41, .eq _)] (.cons rfl (.cons rfl (.cons rfl (.cons rfl (.cons rfl (.cons rfl .nil)))))) ?_
  refine ends_then ?_
  refine cw_block ?_
  -- LOOP at region 10: changed live slots [41], kept [3, 4, 12, 39, 40]
  refine cw_loop [(3, .eq _), (4, .eq _), (12, .eq _), (39, .eq _), (40, .eq _)] (fun i : Nat => [(41, .eq (.int .i64 i))]) (fun i w' => i ≤ zs.length ∧ St B we w' (own (eInt .i64) 1 3 A34 zs.length c34 zs :: blk DB (.deferred (some [])) :: sls hs' (xs.map (fun p : Ch mw => partL c res D ((row.drop p.1.1).take p.1.2))) :: bx b10 [.slice A xs.length cc] 47 :: own eSl 1 26 A xs.length cc hs' :: rbx b2 [.slice Aw mw cw] 26 :: rbx b3 [.int .i64 (k : Int)] 3 :: bx b4 (Value.pointer (some ⟨bs, 0, none⟩)).cells.toList 93 :: own (eInt .i64) 1 3 Ah c.N ch (putAll D high (zs.take i)) :: bx bs (exV c q A1 m1 c1 Ah c.N ch).cells.toList 96 :: sl (eInt .i64) 1 Aw mw cw row :: sl (eInt .i64) 1 A1 m1 c1 res :: sl (eInt .i64) 1 q.a0 c.First.length q.c0 c.First :: sl (eInt .i64) 1 q.a1 c.Head.length q.c1 c.Head :: sl (eInt .i64) 1 q.a2 c.Rev.length q.c2 c.Rev :: sl (eInt .i64) 1 q.a3 c.Cap.length q.c3 c.Cap :: sl (eInt .i64) 1 q.a4 c.Arc.length q.c4 c.Arc :: sl eBool 1 q.a5 c.Back.length q.c5 c.Back :: L)) (fun i => zs.length - i) 0 (.cons rfl (.cons rfl (.cons rfl (.cons rfl (.cons rfl .nil))))) (.cons rfl (.cons rfl (.cons rfl (.cons rfl (.cons rfl (.cons rfl .nil)))))) ⟨Nat.zero_le _, hS⟩ ?_
  clear hS
  rintro i wr ⟨hi, hS⟩
  have hpl := putAll_len high (zs.take i) D
  refine cw_seq ?_
  -- region 10
  refine cw_region ?_
  refine lw_v rfl rfl (ok_lss rfl (.n rfl) rfl rfl) ?_
  refine lw_nil ?_
  refine Ends.keep [(3, .eq _), (4, .eq _), (12, .eq _), (39, .eq _), (40, .eq _), (41, .eq _), (42, .eq _)] (.cons rfl (.cons rfl (.cons rfl (.cons rfl (.cons rfl (.cons rfl (.cons rfl .nil))))))) ?_
  refine ends_then ?_
  refine cw_seq ?_
  refine cw_cond rfl (fun h42 => ?_) (fun h42 => ?_)
  ·
    have hlt : i < zs.length := by have := of_decide_eq_true h42; omega
    obtain ⟨u, hu', huN⟩ := row_vertex hzr hlt
    have hu : zs.getD (i : Int).toNat 0 = (u : Int) := hu'
    refine cw_skip ?_
    refine ends_then ?_
    refine cw_seq ?_
    refine cw_block ?_
    refine cw_seq ?_
    -- region 11
    refine cw_region ?_
    refine lw_v rfl rfl (ok_ix rfl (.n rfl) Try.underlying26 Try.sizeOf3 rfl rfl hS (fun _ => ⟨by omega, by omega⟩)) ?_
    refine lw_v rfl rfl (ok_eq (ok_ldx rfl (.n rfl) rfl Try.isAgg3 hS (fun _ => ⟨by omega, by omega⟩) (by rfl)) (c' := .int .i64 (u : Int)) (fun _ => congrArg (Value.int .i64) hu)) ?_
    refine lw_v rfl rfl (ok_assign rfl (.n rfl) rfl) ?_
    refine lw_nil ?_
    refine Ends.keep [(3, .eq _), (4, .eq _), (12, .eq _), (14, .eq _), (39, .eq _), (40, .eq _), (41, .eq _)] (.cons rfl (.cons rfl (.cons rfl (.cons rfl (.cons rfl (.cons rfl (.cons rfl .nil))))))) ?_
    refine ends_then ?_
    -- region 12
    refine cw_region ?_
    refine lw_v rfl rfl (ok_ldb rfl (.n rfl) rfl Try.isAgg93 hS (by rfl)) ?_
    refine lw_v rfl rfl (ok_nil rfl (.n rfl) rfl) ?_
    refine lw_v rfl rfl (ok_fb rfl (.n rfl) Try.underlying96 rfl Try.sizeOf26 (by decide) rfl) ?_
    refine lw_v rfl rfl (ok_ldb rfl (.n rfl) rfl Try.isAgg26 hS (by rfl)) ?_
    refine lw_v rfl rfl (ok_move rfl (.n rfl) rfl) ?_
    refine lw_v rfl rfl (ok_move rfl (.n rfl) rfl) ?_
    refine lw_v rfl rfl (ok_ix rfl (.n rfl) Try.underlying26 Try.sizeOf3 rfl rfl hS (fun _ => ⟨by omega, by omega⟩)) ?_
    refine lw_stx (enc := (eInt .i64)) (high) rfl rfl rfl rfl rfl rfl Try.sizeOf3 hS (⟨by omega, by omega⟩) ?_
    clear hS; intro w3 hS
    refine lw_nil ?_
    refine in_normal (?_)
    refine Ends.keep [(3, .eq _), (4, .eq _), (12, .eq _), (39, .eq _), (40, .eq _), (41, .eq _)] (.cons rfl (.cons rfl (.cons rfl (.cons rfl (.cons rfl (.cons rfl .nil)))))) ?_
    refine ends_then ?_
    -- region 13
    refine cw_region ?_
    refine lw_v rfl rfl (ok_addi rfl (.n rfl) rfl rfl (fun _ => ⟨by omega, by omega⟩)) ?_
    refine lw_v rfl rfl (ok_move rfl (.n rfl) rfl) ?_
    refine lw_nil ?_
    -- BACK
    have e : (putAll D high (zs.take i)).set (u : Int).toNat high = putAll D high (zs.take (i + 1)) := by rw [putAll_step D high (by omega), hu']
    rw [e] at hS
    exact ends_back (i + 1) (.cons rfl (.cons rfl (.cons rfl (.cons rfl (.cons rfl (.cons rfl .nil)))))) ⟨by omega, hS⟩ (by omega)
  ·
    have hie : i = zs.length := by have := of_decide_eq_false h42; omega
    refine cw_exit ?_
    refine then_exit (then_exit (in_exit (?_)))
    refine Ends.keep [(12, .eq _)] (.cons rfl .nil) ?_
    refine ends_then ?_
    refine cw_seq ?_
    -- region 14
    refine cw_region ?_
    refine lw_v rfl rfl (ok_move rfl (.n rfl) rfl) ?_
    refine lw_v rfl rfl (ok_assign rfl (.n rfl) rfl) ?_
    refine lw_nil ?_
    refine Ends.keep [(8, .eq _)] (.cons rfl .nil) ?_
    refine ends_then ?_
    refine cw_ret ?_
    rw [List.take_of_length_le (by omega)] at hS
    have hK := hS.ok (blk DB (.deferred (some []))) (.tail _ (.head _))
    exact end_mark (D := DB) Try.results84 rfl hK ⟨A34, c34, zs, rfl, hmem, hznd2, ((hS.swap.endBlk.freeze .here (by omega)).sub (.cons_cons _ (.cons _ (.cons _ (.cons _ (.cons _ (.cons _ (.cons _ (.cons_cons _ (.cons_cons _ (.cons _ (List.Sublist.refl _)))))))))))).rot3⟩

end Go.Proofs.Ytnpgeohkmdcbkaa.Aq

namespace Go.Proofs.Ytnpgeohkmdcbkaa.Aq
open Go Go.RowKit

theorem pl96 : ∀ w, (#[({ name := "c", type := 29, offset := 0, embedded := false, tag := "", pkgPath := "acequia/globals", byteOffset := 0 } : Field), { name := "res", type := 25, offset := 9, embedded := false, tag := "", pkgPath := "acequia/globals", byteOffset := 168 }, { name := "h", type := 26, offset := 10, embedded := false, tag := "", pkgPath := "acequia/globals", byteOffset := 192 }].mapM fun (f : Field) => do pure (f.offset, ← sizeOf f.type)).run Try.prog w = .ok #[(0, 9), (9, 1), (10, 1)] w := by
  intro w
  simp [Try.sizeOf29, Try.sizeOf25, Try.sizeOf26]
/-- Are there exact heights? -/
def exOk (c : Cs) (res : List Int) (wk : Int) : Bool := decide ((res.length : Int) = c.Head.length) && (decide (1 ≤ wk) && decide (wk ≤ 64))
theorem exOk_iff {c : Cs} {res : List Int} {wk : Int} : exOk c res wk = true ↔ res.length = c.Head.length ∧ 1 ≤ wk ∧ wk ≤ 64 := by
  unfold exOk
  simp only [Bool.and_eq_true, decide_eq_true_eq]
  omega
/-- Exact heights. -/
noncomputable def exactF (c : Cs) (res : List Int) (wk : Int) : List Int := if exOk c res wk = true then exactL c res else []
theorem exactF_no {c : Cs} {res : List Int} {wk : Int} (h : exOk c res wk = false) : exactF c res wk = [] := by unfold exactF; rw [if_neg (by rw [h]; decide)]
theorem exactF_yes {c : Cs} {res : List Int} {wk : Int} (h : exOk c res wk = true) : exactF c res wk = exactL c res := if_pos h
theorem ex_no {c : Cs} {res : List Int} {wk : Int} {m : Nat} (hl : res.length = m) (hN : 2 ≤ c.N) (h : (((!decide ((m : Int) = (c.Head.length : Int)) || decide ((c.N : Int) = 0)) || decide (wk < 1)) || decide (64 < wk)) = true) : exOk c res wk = false := by
  subst hl
  cases he : exOk c res wk with
  | false => rfl
  | true =>
    obtain ⟨h1, h2, h3⟩ := exOk_iff.1 he
    rw [decide_eq_true (by omega : (res.length : Int) = (c.Head.length : Int)), decide_eq_false (by omega : ¬ (c.N : Int) = 0), decide_eq_false (by omega : ¬ wk < 1), decide_eq_false (by omega : ¬ 64 < wk)] at h
    cases h
theorem ex_yes {c : Cs} {res : List Int} {wk : Int} {m : Nat} (hl : res.length = m) (h : (((!decide ((m : Int) = (c.Head.length : Int)) || decide ((c.N : Int) = 0)) || decide (wk < 1)) || decide (64 < wk)) = false) : exOk c res wk = true := by
  subst hl
  rw [exOk_iff]
  simp only [Bool.or_eq_false_iff, Bool.not_eq_false', decide_eq_true_eq, decide_eq_false_iff_not] at h
  obtain ⟨⟨⟨h1, _⟩, h2⟩, h3⟩ := h
  exact ⟨by omega, by omega, by omega⟩
set_option maxRecDepth 10000 in
set_option maxHeartbeats 2000000 in
/-- globals.Exact. -/
theorem f44 (c : Cs) (q : Q6) (res : List Int) {m1 : Nat} (A1 : Option Addr) (c1 : Nat) (wk : Int) (w : World) (hwf : WF c) (hc : CsAt c q w) (hr : (sl (eInt .i64) 1 A1 m1 c1 res).p w) :
    Calls Try.prog 44 #[csV c q, .slice A1 m1 c1, .int .i64 wk] w fun e w' => ∃ A cc, e = .returned (.slice A (exactF c res wk).length cc) ∧ Gr w w' ∧ (∀ b, (own (eInt .i64) 1 3 A (exactF c res wk).length cc (exactF c res wk)).fp b → w.heap.size ≤ b) ∧ (own (eInt .i64) 1 3 A (exactF c res wk).length cc (exactF c res wk)).p w' ∧ (exOk c res wk = false → A = none ∧ cc = 0) := by
  refine calls_cw Try.func44 rfl Try.ntmps44 rfl ?_
  have hS := (St.ofc hc).args (Nat.le_refl _) _ hr rfl
  have hM := hwf.m
  have hN := hwf.hi
  have hlo := hwf.lo
  have hrl := hr.1.1
  have hrr := hr.2.1
  have htN := hwf.t
  refine cw_seq ?_
  -- region 0
  refine cw_region ?_
  refine lw_box rfl rfl rfl rfl hS ?_
  clear hS; intro b3 w1 _ _ hS
  refine lw_v rfl rfl (ok_assign rfl (.n rfl) rfl) ?_
  refine lw_nil ?_
  refine Ends.keep [(1, .eq _), (2, .eq _), (3, .eq _)] (.cons rfl (.cons rfl (.cons rfl .nil))) ?_
  refine ends_then ?_
  refine cw_seq ?_
  refine cw_seq ?_
  -- region 1
  refine cw_region ?_
  refine lw_v rfl rfl (ok_move rfl (.n rfl) rfl) ?_
  refine lw_v rfl rfl (ok_len rfl (.n rfl) Try.underlying25 rfl) ?_
  refine lw_v rfl rfl (ok_ldS rfl (.n rfl) rfl Try.isAgg29 Try.sizeOf29 hS rfl) ?_
  refine lw_call (f := 77) (xs := [_]) rfl rfl rfl Try.call77 rfl (Calls.mono (f77 c q _) ?_)
  rintro e w' ⟨rfl, hg⟩
  replace hS := hS.grow hg; clear hg
  refine ⟨_, rfl, ?_⟩
  refine lw_v rfl rfl (ok_neq rfl (.n rfl) rfl rfl) ?_
  refine lw_v rfl rfl (ok_move rfl (.n rfl) rfl) ?_
  refine lw_v rfl rfl (ok_fb rfl (.s rfl rfl) Try.underlying29 rfl Try.sizeOf3 (by decide) rfl) ?_
  refine lw_v rfl rfl (ok_ldb rfl (.s rfl rfl) rfl Try.isAgg3 hS (by rfl)) ?_
  refine lw_v rfl rfl (ok_eql rfl (.s rfl rfl) rfl rfl) ?_
  refine lw_v rfl rfl (ok_or rfl rfl rfl rfl) ?_
  refine lw_v rfl rfl (ok_move rfl (.n rfl) rfl) ?_
  refine lw_v rfl rfl (ok_move rfl (.s rfl rfl) rfl) ?_
  refine lw_v rfl rfl (ok_lss rfl (.s rfl rfl) rfl rfl) ?_
  refine lw_v rfl rfl (ok_or rfl rfl rfl rfl) ?_
  refine lw_v rfl rfl (ok_move rfl (.n rfl) rfl) ?_
  refine lw_v rfl rfl (ok_move rfl (.s rfl rfl) rfl) ?_
  refine lw_v rfl rfl (ok_gtr rfl (.s rfl rfl) rfl rfl) ?_
  refine lw_v rfl rfl (ok_or rfl rfl rfl rfl) ?_
  refine lw_nil ?_
  refine Ends.keep [(1, .eq _), (2, .eq _), (3, .eq _), (27, .eq _)] (.cons rfl (.cons rfl (.cons rfl (.cons rfl .nil)))) ?_
  refine ends_then ?_
  refine cw_cond rfl (fun h27 => ?_) (fun h27 => ?_)
  ·
    have hno : exOk c res wk = false := ex_no hrl hlo h27
    replace hS := hS.nil (eInt .i64) 1 3
    refine cw_seq ?_
    -- region 2
    refine cw_region ?_
    refine lw_v rfl rfl (ok_assign rfl (.n rfl) rfl) ?_
    refine lw_nil ?_
    refine Ends.keep [(6, .eq _)] (.cons rfl .nil) ?_
    refine ends_then ?_
    refine cw_ret ?_
    refine then_ret (?_)
    rw [exactF_no hno]
    exact end_ret (res1 Try.results44 rfl) ⟨none, 0, rfl, hS.below, fun b hb => hS.ge _ (.head _) rfl b hb, hS.ok _ (.head _), fun _ => ⟨rfl, rfl⟩⟩
  ·
    have hyes := ex_yes hrl h27
    obtain ⟨hres, hwk0, hwk1⟩ := exOk_iff.1 hyes
    refine cw_skip ?_
    refine ends_then ?_
    refine cw_seq ?_
    -- region 3
    refine cw_draw (by kernel_rfl) (List.take 8 _) (List.drop 8 _) (List.take_append_drop 8 _).symm (by kernel_rfl) ?_
    refine free_v (ok_ldS rfl (.n rfl) rfl Try.isAgg29 Try.sizeOf29 hS rfl) ?_
    refine free_v (ok_move rfl (.n rfl) rfl) ?_
    refine free_v (ok_fb rfl (.n rfl) Try.underlying29 rfl Try.sizeOf3 (by decide) rfl) ?_
    refine free_v (ok_eq (ok_ldb rfl (.n rfl) rfl Try.isAgg3 hS (by rfl)) (c' := .int .i64 (c.N : Int)) (fun _ => rfl)) ?_
    refine free_cons (ok_ls (enc := (eInt .i64)) [(c.N : Int)] rfl rfl Try.underlying26 Try.sizeOf3 Try.zeroValue3 rfl (by kernel_rfl) rfl (by decide) (by decide)) ?_
    refine free_v (ok_fb rfl (.n rfl) Try.underlying29 rfl Try.sizeOf3 (by decide) rfl) ?_
    refine free_v (ok_eq (ok_ldb rfl (.n rfl) rfl Try.isAgg3 hS (by rfl)) (c' := .int .i64 (c.N : Int)) (fun _ => rfl)) ?_
    refine free_cons (ok_callS (NewL w' (List.replicate c.N (c.N : Int))) (xs := [_, _]) rfl rfl Try.call83 (fun vs wq hg hv => by
        match vs, hv with
        | [v0_, v1_], hv =>
          obtain ⟨⟨A_, c_, rfl, ho_, _⟩, k1_, _⟩ := hv
          obtain rfl : v1_ = .int .i64 (c.N : Int) := k1_
          exact (f83 (c.N : Int) A_ c_ c.N (by omega) (by omega) wq (own_sl ho_ (by omega))).mono fun e w2 ⟨A', c', he, hg2, hfr, ho⟩ => ⟨_, he, hg2, fun w3 hg3 => ⟨A', c', rfl, Asn.grow _ ho hg3, fun b hb => Nat.le_trans hg.size (hfr b hb)⟩⟩)) ?_
    refine free_nil ?_
    intro wz hg_
    refine LW.opened (s := 35) rfl ?_
    rintro _ ⟨A35, c35, rfl, ho35, hf35⟩
    replace hS := hS.new hg_ _ ho35 hf35; clear hg_ ho35 hf35
    rw [List.length_replicate] at hS ⊢
    refine lw_v rfl rfl (ok_build (cells := #[.int .i64 c.N, .int .i64 c.S, .int .i64 c.T, .slice q.a0 c.First.length q.c0, .slice q.a1 c.Head.length q.c1, .slice q.a2 c.Rev.length q.c2, .slice q.a3 c.Cap.length q.c3, .slice q.a4 c.Arc.length q.c4, .slice q.a5 c.Back.length q.c5, .slice A1 m1 c1, .slice A35 c.N c35]) rfl (.n rfl) Try.underlying96 Try.zeroValue96 pl96 rfl (by kernel_rfl)) ?_
    refine lw_box rfl rfl rfl rfl hS ?_
    clear hS; intro b37 w2 _ _ hS
    refine lw_v rfl rfl (ok_assign rfl (.n rfl) rfl) ?_
    refine lw_nil ?_
    refine Ends.keep [(2, .eq _), (3, .eq _), (7, .eq _)] (.cons rfl (.cons rfl (.cons rfl .nil))) ?_
    refine ends_then ?_
    refine cw_seq ?_
    -- region 4
    refine cw_draw (by kernel_rfl) (List.take 6 _) (List.drop 6 _) (List.take_append_drop 6 _).symm (by kernel_rfl) ?_
    refine free_v (ok_move rfl (.n rfl) rfl) ?_
    refine free_v (ok_nil rfl (.n rfl) rfl) ?_
    refine free_v (ok_fb rfl (.n rfl) Try.underlying96 rfl Try.sizeOf26 (by decide) rfl) ?_
    refine free_v (ok_ldb rfl (.n rfl) rfl Try.isAgg26 hS (by rfl)) ?_
    refine free_v (ok_fb rfl (.n rfl) Try.underlying29 rfl Try.sizeOf3 (by decide) rfl) ?_
    refine free_v (ok_eq (ok_ldb rfl (.n rfl) rfl Try.isAgg3 hS (by rfl)) (c' := .int .i64 (c.T : Int)) (fun _ => rfl)) ?_
    refine free_nil ?_
    intro w3 hg_; replace hS := hS.grow hg_; clear hg_
    refine lw_v rfl rfl (ok_ix rfl (.n rfl) Try.underlying26 Try.sizeOf3 rfl rfl hS (fun _ => ⟨by omega, by omega⟩)) ?_
    refine lw_stx (enc := (eInt .i64)) (0) rfl rfl rfl rfl rfl rfl Try.sizeOf3 hS (⟨by omega, by omega⟩) ?_
    clear hS; intro w4 hS
    refine lw_nil ?_
    refine Ends.keep [(2, .eq _), (3, .eq _), (7, .eq _)] (.cons rfl (.cons rfl (.cons rfl .nil))) ?_
    refine ends_then ?_
    refine cw_seq ?_
    -- region 5
    refine cw_region ?_
    refine lw_v rfl rfl (ok_fb rfl (.n rfl) Try.underlying29 rfl Try.sizeOf3 (by decide) rfl) ?_
    refine lw_v rfl rfl (ok_eq (ok_ldb rfl (.n rfl) rfl Try.isAgg3 hS (by rfl)) (c' := .int .i64 (c.T : Int)) (fun _ => rfl)) ?_
    refine lw_ls (enc := (eInt .i64)) [(c.T : Int)] rfl rfl rfl Try.underlying26 Try.sizeOf3 Try.zeroValue3 rfl (by kernel_rfl) rfl (by decide) (by decide) hS ?_
    clear hS; intro A47 c47 w5 _ hS
    refine lw_v rfl rfl (ok_assign rfl (.n rfl) rfl) ?_
    refine lw_nil ?_
    refine Ends.keep [(2, .eq _), (7, .eq _), (8, .eq _)] (.cons rfl (.cons rfl (.cons rfl .nil))) ?_
    refine ends_then ?_
    refine cw_seq ?_
    refine cw_seq ?_
    replace hS := hS.freeze .here (by omega)
    replace hS := hS.rot3.swap
    replace hS := hS.sub (.cons_cons _ (.cons_cons _ (.cons_cons _ (.cons _ (List.Sublist.refl _)))))
    -- region 6
    refine cw_region ?_
    refine lw_v rfl rfl (ok_eq (ok_assign rfl (.n rfl) rfl) (c' := .int .i64 (((0 : Nat) : Int) + 1)) (fun _ => rfl)) ?_
    refine lw_nil ?_
    refine Ends.keep [(2, .eq _), (7, .eq _), (8, .eq _), (9, .eq _)] (.cons rfl (.cons rfl (.cons rfl (.cons rfl .nil)))) ?_
    refine ends_then ?_
    refine cw_block ?_
    -- LOOP at region 7: changed live slots [8, 9], kept [2, 7]
    refine cw_loop4 [(2, .eq _), (7, .eq _)] (fun (kk : Nat) (Aw : Option Addr) (cw : Nat) (row : List Int) => [(8, .eq (.slice Aw row.length cw)), (9, .eq (.int .i64 ((kk : Int) + 1)))]) (fun kk Aw cw row w' => ∃ D, (Lay c.N (EdgeS c res) c.T D row kk ∧ row.Nodup) ∧ St w.heap.size w w' (own (eInt .i64) 1 3 A35 c.N c35 D :: bx b37 (exV c q A1 m1 c1 A35 c.N c35).cells.toList 96 :: sl (eInt .i64) 1 Aw row.length cw row :: sl (eInt .i64) 1 A1 m1 c1 res :: sl (eInt .i64) 1 q.a0 c.First.length q.c0 c.First :: sl (eInt .i64) 1 q.a1 c.Head.length q.c1 c.Head :: sl (eInt .i64) 1 q.a2 c.Rev.length q.c2 c.Rev :: sl (eInt .i64) 1 q.a3 c.Cap.length q.c3 c.Cap :: sl (eInt .i64) 1 q.a4 c.Arc.length q.c4 c.Arc :: sl eBool 1 q.a5 c.Back.length q.c5 c.Back :: [])) (fun kk _ _ _ => c.N - kk) 0 A47 c47 [(c.T : Int)] (.cons rfl (.cons rfl .nil)) (.cons rfl (.cons rfl (.cons rfl (.cons rfl .nil)))) ⟨_, ⟨Lay.start _ (by omega) htN, by simp⟩, hS⟩ ?_
    clear hS
    rintro kk Aw cw row wr ⟨D, ⟨hlay, hnd⟩, hS⟩
    have hrowr : ∀ v ∈ row, 0 ≤ v ∧ v < c.N := fun v hv => by
      obtain ⟨u, h1, rfl, _⟩ := (hlay.mem v).1 hv
      omega
    have hrlen := nodup_le hnd hrowr
    refine cw_seq ?_
    refine cw_seq ?_
    -- region 7
    refine cw_region ?_
    refine lw_v rfl rfl (ok_move rfl (.n rfl) rfl) ?_
    refine lw_v rfl rfl (ok_len rfl (.n rfl) Try.underlying26 rfl) ?_
    refine lw_v rfl rfl (ok_gtr rfl (.n rfl) rfl rfl) ?_
    refine lw_nil ?_
    refine Ends.keep [(2, .eq _), (7, .eq _), (8, .eq _), (9, .eq _), (50, .eq _)] (.cons rfl (.cons rfl (.cons rfl (.cons rfl (.cons rfl .nil))))) ?_
    refine ends_then ?_
    refine cw_cond rfl (fun h50 => ?_) (fun h50 => ?_)
    ·
      have hne : row ≠ [] := fun e => by subst e; have := of_decide_eq_true h50; simp at this
      have hcnt := hlay.cnt
      rw [if_neg hne] at hcnt
      refine cw_skip ?_
      refine ends_then ?_
      refine cw_seq ?_
      refine cw_block ?_
      -- region 9
      refine cw_region ?_
      refine lw_v rfl rfl (ok_move rfl (.n rfl) rfl) ?_
      refine lw_v rfl rfl (ok_move rfl (.n rfl) rfl) ?_
      refine lw_v rfl rfl (ok_move rfl (.n rfl) rfl) ?_
      refine lw_v rfl rfl (ok_move rfl (.n rfl) rfl) ?_
      refine lw_call (f := 84) (xs := [_, _, _, _]) rfl rfl rfl Try.call84 rfl (Calls.mono (f84 c q res D row A1 c1 A35 c35 Aw cw b37 wk ((kk : Int) + 1) hwf hres hlay.len hrowr (by omega) hwk0 hwk1 (fun _ h => by cases h) hS) ?_)
      rintro e w' ⟨Ax, cx, zs, rfl, hzm, hzn, hS9⟩
      replace hS := hS9; clear hS9
      refine ⟨_, rfl, ?_⟩
      refine lw_v rfl rfl (ok_assign rfl (.n rfl) rfl) ?_
      refine lw_nil ?_
      refine in_normal (?_)
      refine Ends.keep [(2, .eq _), (7, .eq _), (8, .eq _), (9, .eq _)] (.cons rfl (.cons rfl (.cons rfl (.cons rfl .nil)))) ?_
      refine ends_then ?_
      -- region 8
      refine cw_region ?_
      refine lw_v rfl rfl (ok_move rfl (.n rfl) rfl) ?_
      refine lw_v rfl rfl (ok_eq (ok_addi rfl (.n rfl) rfl rfl (fun _ => ⟨by omega, by omega⟩)) (c' := .int .i64 (((kk + 1 : Nat) : Int) + 1)) (fun _ => congrArg (Value.int .i64) (by omega))) ?_
      refine lw_v rfl rfl (ok_assign rfl (.n rfl) rfl) ?_
      refine lw_nil ?_
      -- BACK
      refine ends_back4 (kk + 1) Ax cx zs (.cons rfl (.cons rfl (.cons rfl (.cons rfl .nil)))) ⟨putAll D ((kk : Int) + 1) zs, ⟨hlay.next hne (by rw [putAll_len]; exact hlay.len) (fun x => (hzm x).trans (partL_mem hwf hrowr)) (fun v hv => putAll_get _ _ _ (fun x hx => by obtain ⟨u, h1, rfl, _⟩ := (partL_mem hwf hrowr).1 ((hzm x).1 hx); rw [hlay.len]; omega) v (by rw [hlay.len]; exact hv)), hzn⟩, hS⟩ (by omega)
    ·
      have hre : row = [] := List.eq_nil_of_length_eq_zero (by have := of_decide_eq_false h50; omega)
      refine cw_exit ?_
      refine then_exit (then_exit (in_exit (?_)))
      refine Ends.keep [(7, .eq _)] (.cons rfl .nil) ?_
      refine ends_then ?_
      refine cw_seq ?_
      -- region 10
      refine cw_region ?_
      refine lw_v rfl rfl (ok_move rfl (.n rfl) rfl) ?_
      refine lw_v rfl rfl (ok_nil rfl (.n rfl) rfl) ?_
      refine lw_v rfl rfl (ok_fb rfl (.n rfl) Try.underlying96 rfl Try.sizeOf26 (by decide) rfl) ?_
      refine lw_v rfl rfl (ok_ldb rfl (.n rfl) rfl Try.isAgg26 hS (by rfl)) ?_
      refine lw_v rfl rfl (ok_assign rfl (.n rfl) rfl) ?_
      refine lw_nil ?_
      refine Ends.keep [(6, .eq _)] (.cons rfl .nil) ?_
      refine ends_then ?_
      refine cw_ret ?_
      subst hre
      have e := lowL_eq hlay.low
      have e2 : exactF c res wk = D := (exactF_yes hyes).trans e
      have hDl := hlay.len
      rw [e2]
      refine end_ret (res1 Try.results44 rfl) ⟨A35, c35, by rw [hDl]; rfl, hS.below, ?_, ?_, fun h => by rw [hyes] at h; cases h⟩
      · rw [hDl]; exact fun b hb => hS.ge _ (.head _) rfl b hb
      · rw [hDl]; exact hS.ok _ (.head _)

end Go.Proofs.Ytnpgeohkmdcbkaa.Aq

namespace Go.Proofs.Ytnpgeohkmdcbkaa.Aq
open Go Go.RowKit

/-- The chapter's example. -/
def n20 : Nt := ⟨4, 0, 3, [(0, 1, 1), (1, 2, 1), (2, 3, 1), (1, 3, 0)]⟩
theorem ok20 : NetOk n20 := ⟨by decide, by decide, by decide, by decide, by decide, by decide, by decide, by decide, fun a ha => by
  simp only [n20, List.mem_cons, List.not_mem_nil, or_false] at ha
  rcases ha with rfl | rfl | rfl | rfl <;> decide⟩
theorem m20 : (resL n20 []).length = 8 := by kernel_rfl
theorem exact_exm {c : Cs} {res D : List Int} {wk : Int} (ho : exOk c res wk = true) (hb : lowB c.N (edgeSL c res) (hTo c.N c.T) D = true) : exactF c res wk = D := (exactF_yes ho).trans (lowL_eq (lowB_low hb fun _ _ => edgeSL_mem))
theorem exact20 : exactF (makeF n20) (resL n20 []) 2 = [4, 2, 1, 0] := exact_exm (by kernel_rfl) (by kernel_rfl)
theorem f46e (x1 x2 y1 y2 : Int) (w : World) {b : Bool} (h : risenB x1 x2 y1 y2 = b) : RetV 46 [.agg #[.int .i64 x1, .int .i64 x2], .agg #[.int .i64 y1, .int .i64 y2]] w (.bool b) := h ▸ f46 x1 x2 y1 y2 w
set_option maxRecDepth 10000 in
/-- acequialaw20.awake. -/
theorem f47 (w : World) : Calls Try.prog 47 #[] w fun e w' => e = .returned (.bool true) ∧ Gr w w' := by
  refine calls_cw Try.func47 rfl Try.ntmps47 rfl ?_
  obtain ⟨C, hC⟩ : ∃ C, makeF n20 = C := ⟨_, rfl⟩
  obtain ⟨R, hR⟩ : ∃ R, resL n20 [] = R := ⟨_, rfl⟩
  have hwf : WF C := hC ▸ makeF_wf ok20
  have m1 := m20
  have e1 := exact20
  rw [hR] at m1 e1
  rw [hC] at e1
  have hS := St.start w
  refine cw_seq ?_
  -- region 0
  refine cw_region ?_
  refine lw_v rfl rfl (ok_assign rfl (.n rfl) rfl) ?_
  refine lw_nil ?_
  refine Ends.keep [] .nil ?_
  refine ends_then ?_
  refine cw_seq ?_
  -- region 1
  refine cw_region ?_
  refine lw_v rfl rfl (ok_build rfl (.n rfl) Try.underlying82 Try.zeroValue82 pl82 rfl rfl) ?_
  refine lw_v rfl rfl (ok_build rfl (.n rfl) Try.underlying82 Try.zeroValue82 pl82 rfl rfl) ?_
  refine lw_v rfl rfl (ok_build rfl (.n rfl) Try.underlying82 Try.zeroValue82 pl82 rfl rfl) ?_
  refine lw_v rfl rfl (ok_build rfl (.n rfl) Try.underlying82 Try.zeroValue82 pl82 rfl rfl) ?_
  refine lw_ls (enc := eArc) [(0, 1, 1), (1, 2, 1), (2, 3, 1), (1, 3, 0)] rfl rfl rfl Try.underlying22 Try.sizeOf82 Try.zeroValue82 rfl (by kernel_rfl) rfl (by decide) (by decide) hS ?_
  clear hS; intro A9 c9 w1 _ hS
  refine lw_v rfl rfl (ok_build rfl (.n rfl) Try.underlying24 Try.zeroValue24 pl24 rfl rfl) ?_
  refine lw_alloc rfl rfl rfl Try.zeroValue24 hS ?_
  clear hS; intro b1 w2 _ _ hS
  refine lw_stS rfl rfl rfl rfl rfl (by kernel_rfl) hS rfl (by rfl) (by rfl) ?_
  clear hS; intro w3 hS
  refine lw_nil ?_
  refine Ends.keep [(1, .eq _)] (.cons rfl .nil) ?_
  refine ends_then ?_
  refine cw_seq ?_
  -- region 2
  refine cw_region ?_
  refine lw_v rfl rfl (ok_ldS rfl (.n rfl) rfl Try.isAgg24 Try.sizeOf24 hS rfl) ?_
  refine lw_call (f := 23) (xs := [_, _]) rfl rfl rfl Try.call23 rfl (Calls.mono (f23e n20 A9 c9 [] none 0 _ ok20 hC hR (hS.rd A9 (by decide)) ((hS.nils (eInt .i64) 1).ok _ (.head _)) (by decide) (fun x hx => by cases hx)) ?_)
  rintro e w' ⟨q, A6, c6, rfl, hg, hnew, hat, hfr, hap, ho⟩
  replace hS := hS.left hg hat hnew ho hfr hap; clear hg hnew hat hfr hap ho
  refine ⟨_, rfl, ?_⟩
  refine lw_v rfl rfl (ok_move rfl (.n rfl) rfl) ?_
  refine lw_v rfl rfl (ok_extract rfl (.n rfl) rfl rfl) ?_
  refine lw_v rfl rfl (ok_extract rfl (.n rfl) rfl rfl) ?_
  refine lw_alloc rfl rfl rfl Try.zeroValue29 hS ?_
  clear hS; intro b2 w4 _ _ hS
  refine lw_stS rfl rfl rfl rfl rfl (by kernel_rfl) hS rfl (by rfl) (by rfl) ?_
  clear hS; intro w5 hS
  refine lw_v rfl rfl (ok_assign rfl (.n rfl) rfl) ?_
  refine lw_nil ?_
  refine Ends.keep [(2, .eq _), (3, .eq _)] (.cons rfl (.cons rfl .nil)) ?_
  refine ends_then ?_
  refine cw_seq ?_
  -- region 3
  refine cw_region ?_
  refine lw_v rfl rfl (ok_build (cells := #[.int .i64 3, .int .i64 7]) rfl (.n rfl) Try.underlying53 Try.zeroValue53 pl53 rfl (by kernel_rfl)) ?_
  refine lw_alloc rfl rfl rfl Try.zeroValue53 hS ?_
  clear hS; intro b4 w6 _ _ hS
  refine lw_stS rfl rfl rfl rfl rfl (by kernel_rfl) hS rfl (by rfl) (by rfl) ?_
  clear hS; intro w7 hS
  refine lw_nil ?_
  refine Ends.keep [(2, .eq _), (3, .eq _), (4, .eq _)] (.cons rfl (.cons rfl (.cons rfl .nil))) ?_
  refine ends_then ?_
  refine cw_seq ?_
  -- region 4
  refine cw_region ?_
  refine lw_v rfl rfl (ok_ldS rfl (.n rfl) rfl Try.isAgg29 Try.sizeOf29 hS rfl) ?_
  refine lw_v rfl rfl (ok_move rfl (.n rfl) rfl) ?_
  refine lw_call (f := 44) (xs := [_, _, _]) rfl rfl rfl Try.call44 rfl (Calls.mono (f44 C q R A6 c6 2 _ hwf (hS.cs q) (hS.rd A6 (by omega))) ?_)
  rw [e1]
  rintro e w' ⟨A19, c19, rfl, hg, hfr, ho, _⟩
  replace hS := hS.new hg _ ho hfr; clear hg ho hfr
  refine ⟨_, rfl, ?_⟩
  refine lw_ls (enc := (eInt .i64)) [4, 2, 1, 0] rfl rfl rfl Try.underlying26 Try.sizeOf3 Try.zeroValue3 rfl (by kernel_rfl) rfl (by decide) (by decide) hS ?_
  clear hS; intro A20 c20 w8 _ hS
  refine lw_call (f := 30) (xs := [_, _]) rfl rfl rfl Try.call30 rfl (Calls.mono (f30s A19 c19 A20 c20 [4, 2, 1, 0] _ (hS.rd A19 (by decide)) (hS.rd A20 (by decide))) ?_)
  rintro e w' ⟨rfl, hg⟩
  replace hS := hS.grow hg; clear hg
  refine ⟨_, rfl, ?_⟩
  refine lw_v rfl rfl (ok_move rfl (.n rfl) rfl) ?_
  refine lw_on (.s rfl rfl) rfl ?_
  refine lw_v rfl rfl (ok_build (cells := #[.int .i64 3, .int .i64 6]) rfl (.n rfl) Try.underlying53 Try.zeroValue53 pl53 rfl (by kernel_rfl)) ?_
  refine lw_on (.s rfl rfl) rfl ?_
  refine lw_v rfl rfl (ok_eq (ok_ldS rfl (.n rfl) rfl Try.isAgg53 Try.sizeOf53 hS rfl) (c' := .agg #[.int .i64 3, .int .i64 7]) (fun _ => rfl)) ?_
  refine lw_on (.s rfl rfl) rfl ?_
  refine lw_call (f := 46) (xs := [_, _]) rfl rfl rfl Try.call46 rfl (Calls.mono (f46e 3 6 3 7 _ (b := true) (by kernel_rfl)) ?_)
  rintro e w' ⟨rfl, hg⟩
  replace hS := hS.grow hg; clear hg
  refine ⟨_, rfl, ?_⟩
  refine lw_v rfl rfl (ok_pick rfl rfl rfl rfl rfl) ?_
  refine lw_v rfl rfl (ok_move rfl (.n rfl) rfl) ?_
  refine lw_on (.s rfl rfl) rfl ?_
  refine lw_v rfl rfl (ok_build (cells := #[.int .i64 2, .int .i64 9]) rfl (.n rfl) Try.underlying53 Try.zeroValue53 pl53 rfl (by kernel_rfl)) ?_
  refine lw_on (.s rfl rfl) rfl ?_
  refine lw_v rfl rfl (ok_eq (ok_ldS rfl (.n rfl) rfl Try.isAgg53 Try.sizeOf53 hS rfl) (c' := .agg #[.int .i64 3, .int .i64 7]) (fun _ => rfl)) ?_
  refine lw_on (.s rfl rfl) rfl ?_
  refine lw_call (f := 46) (xs := [_, _]) rfl rfl rfl Try.call46 rfl (Calls.mono (f46e 2 9 3 7 _ (b := true) (by kernel_rfl)) ?_)
  rintro e w' ⟨rfl, hg⟩
  replace hS := hS.grow hg; clear hg
  refine ⟨_, rfl, ?_⟩
  refine lw_v rfl rfl (ok_pick rfl rfl rfl rfl rfl) ?_
  refine lw_v rfl rfl (ok_move rfl (.n rfl) rfl) ?_
  refine lw_on (.s rfl rfl) rfl ?_
  refine lw_v rfl rfl (ok_eq (ok_ldS rfl (.n rfl) rfl Try.isAgg53 Try.sizeOf53 hS rfl) (c' := .agg #[.int .i64 3, .int .i64 7]) (fun _ => rfl)) ?_
  refine lw_on (.s rfl rfl) rfl ?_
  refine lw_v rfl rfl (ok_eq (ok_ldS rfl (.n rfl) rfl Try.isAgg53 Try.sizeOf53 hS rfl) (c' := .agg #[.int .i64 3, .int .i64 7]) (fun _ => rfl)) ?_
  refine lw_on (.s rfl rfl) rfl ?_
  refine lw_call (f := 46) (xs := [_, _]) rfl rfl rfl Try.call46 rfl (Calls.mono (f46e 3 7 3 7 _ (b := false) (by kernel_rfl)) ?_)
  rintro e w' ⟨rfl, hg⟩
  replace hS := hS.grow hg; clear hg
  refine ⟨_, rfl, ?_⟩
  refine lw_on (.s rfl rfl) rfl ?_
  refine lw_v rfl rfl (ok_not rfl (.n rfl) rfl) ?_
  refine lw_v rfl rfl (ok_pick rfl rfl rfl rfl rfl) ?_
  refine lw_v rfl rfl (ok_assign rfl (.n rfl) rfl) ?_
  refine lw_nil ?_
  refine Ends.keep [(0, .eq _)] (.cons rfl .nil) ?_
  refine ends_then ?_
  refine cw_ret ?_
  exact end_ret (res1 Try.results47 rfl) ⟨rfl, hS.below⟩

end Go.Proofs.Ytnpgeohkmdcbkaa.Aq
