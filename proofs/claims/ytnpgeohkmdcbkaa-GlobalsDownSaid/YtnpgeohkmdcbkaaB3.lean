/- acequialow.Ints: two lists that are read: are they the same? The walks of acequialow.Among and of acequiaref01's functions, of right nets. The walk of acequialow.Within. The walk of acequialow.Some. The walk of acequialaw06.Heights. The walk of acequiaref02.Make. The walk of acequiaref02.Res. The walk of acequialaw05.Left. The walks of csr.Len and csr.Tail, and of what they call. No condition but those that each lemma names. -/
import Derived.Test.YtnpgeohkmdcbkaaB1
import Derived.Test.YtnpgeohkmdcbkaaB0
import Derived.Test.YtnpgeohkmdcbkaaB2
namespace Go.Proofs.Ytnpgeohkmdcbkaa.Aq
open Go Go.RowKit

theorem ints_step {xs ys : List Int} {k : Nat} (h : xs.take k = ys.take k) (h1 : k < xs.length) (h2 : k < ys.length) (e : (!decide (xs.getD k 0 = ys.getD k 0)) = false) : xs.take (k + 1) = ys.take (k + 1) := by
  rw [List.take_succ_eq_append_getElem h1, List.take_succ_eq_append_getElem h2, h]
  simp [List.getD_eq_getElem?_getD, h1, h2] at e
  rw [e]
theorem ints_len {xs ys : List Int} (h : (!decide ((xs.length : Int) = ys.length)) = true) : decide (xs = ys) = false := by
  simp at h
  simp
  intro e
  subst e
  exact h rfl
theorem ints_diff {xs ys : List Int} {k : Nat} (h1 : k < xs.length) (h2 : k < ys.length) (e : (!decide (xs.getD k 0 = ys.getD k 0)) = true) : decide (xs = ys) = false := by
  simp
  intro h
  subst h
  simp at e
theorem ints_same {xs ys : List Int} {k : Nat} (hl : xs.length = ys.length) (h : xs.take k = ys.take k) (h1 : xs.length ≤ k) (h2 : k ≤ xs.length) : decide (xs = ys) = true := by
  simp
  rw [List.take_of_length_le h1, List.take_of_length_le (by omega)] at h
  exact h
set_option maxRecDepth 10000 in
/-- acequialow.Ints: are two lists the same? -/
theorem f30 (A1 : Option Addr) (c1 : Nat) (xs : List Int) (A2 : Option Addr) (c2 : Nat) (ys : List Int) (w : World) (h1 : (sl (eInt .i64) 1 A1 xs.length c1 xs).p w) (h2 : (sl (eInt .i64) 1 A2 ys.length c2 ys).p w) :
    Calls Try.prog 30 #[.slice A1 xs.length c1, .slice A2 ys.length c2] w fun e w' => e = .returned (.bool (decide (xs = ys))) ∧ Gr w w' := by
  refine calls_cw Try.func30 rfl Try.ntmps30 rfl ?_
  have hS := ((St.start w).arg _ h1 rfl (fun b hb => (sl (eInt .i64) 1 A1 xs.length c1 xs).lt h1 hb)).arg _ h2 rfl (fun b hb => (sl (eInt .i64) 1 A2 ys.length c2 ys).lt h2 hb)
  refine cw_seq ?_
  -- region 0
  refine cw_region ?_
  refine lw_v rfl rfl (ok_assign rfl (.n rfl) rfl) ?_
  refine lw_nil ?_
  refine Ends.keep [(0, .eq _), (1, .eq _)] (.cons rfl (.cons rfl .nil)) ?_
  refine ends_then ?_
  refine cw_seq ?_
  refine cw_seq ?_
  -- region 1
  refine cw_region ?_
  refine lw_v rfl rfl (ok_move rfl (.n rfl) rfl) ?_
  refine lw_v rfl rfl (ok_len rfl (.n rfl) Try.underlying26 rfl) ?_
  refine lw_v rfl rfl (ok_move rfl (.n rfl) rfl) ?_
  refine lw_v rfl rfl (ok_len rfl (.n rfl) Try.underlying26 rfl) ?_
  refine lw_v rfl rfl (ok_neq rfl (.n rfl) rfl rfl) ?_
  refine lw_nil ?_
  refine Ends.keep [(0, .eq _), (1, .eq _), (10, .eq _)] (.cons rfl (.cons rfl (.cons rfl .nil))) ?_
  refine ends_then ?_
  refine cw_cond rfl (fun h10 => ?_) (fun h10 => ?_)
  ·
    refine cw_seq ?_
    -- region 2
    refine cw_region ?_
    refine lw_v rfl rfl (ok_assign rfl (.n rfl) rfl) ?_
    refine lw_nil ?_
    refine Ends.keep [(4, .eq _)] (.cons rfl .nil) ?_
    refine ends_then ?_
    refine cw_ret ?_
    refine then_ret (?_)
    exact end_ret (res1 Try.results30 rfl) ⟨by exact congrArg (fun b => Ending.returned (.bool b)) (ints_len h10).symm, hS.below⟩
  ·
    have hlen : xs.length = ys.length := by simp at h10; omega
    have hb1 := h1.2.1
    refine cw_skip ?_
    refine ends_then ?_
    refine cw_seq ?_
    refine cw_seq ?_
    -- region 3
    refine cw_region ?_
    refine lw_v rfl rfl (ok_move rfl (.n rfl) rfl) ?_
    refine lw_v rfl rfl (ok_len rfl (.n rfl) Try.underlying26 rfl) ?_
    refine lw_v rfl rfl (ok_move rfl (.n rfl) rfl) ?_
    refine lw_nil ?_
    refine Ends.keep [(0, .eq _), (1, .eq _), (12, .eq _), (13, .eq _)] (.cons rfl (.cons rfl (.cons rfl (.cons rfl .nil)))) ?_
    refine ends_then ?_
    refine cw_block ?_
    -- LOOP at region 4: changed live slots [13], kept [0, 1, 12]
    refine cw_loop [(0, .eq _), (1, .eq _), (12, .eq _)] (fun k : Nat => [(13, .eq (.int .i64 k))]) (fun k w' => (k ≤ xs.length ∧ xs.take k = ys.take k) ∧ St w.heap.size w w' [sl (eInt .i64) 1 A2 ys.length c2 ys, sl (eInt .i64) 1 A1 xs.length c1 xs]) (fun k => xs.length - k) 0 (.cons rfl (.cons rfl (.cons rfl .nil))) (.cons rfl (.cons rfl (.cons rfl (.cons rfl .nil)))) ⟨⟨Nat.zero_le _, rfl⟩, hS⟩ ?_
    clear hS
    rintro k wr ⟨⟨hk, hpre⟩, hS⟩
    refine cw_seq ?_
    -- region 4
    refine cw_region ?_
    refine lw_v rfl rfl (ok_lss rfl (.n rfl) rfl rfl) ?_
    refine lw_nil ?_
    refine Ends.keep [(0, .eq _), (1, .eq _), (12, .eq _), (13, .eq _), (14, .eq _)] (.cons rfl (.cons rfl (.cons rfl (.cons rfl (.cons rfl .nil))))) ?_
    refine ends_then ?_
    refine cw_seq ?_
    refine cw_cond rfl (fun h14 => ?_) (fun h14 => ?_)
    ·
      have hlt : k < xs.length := by simpa using h14
      refine cw_skip ?_
      refine ends_then ?_
      refine cw_seq ?_
      refine cw_block ?_
      refine cw_seq ?_
      -- region 5
      refine cw_region ?_
      refine lw_v rfl rfl (ok_move rfl (.n rfl) rfl) ?_
      refine lw_v rfl rfl (ok_assign rfl (.n rfl) rfl) ?_
      refine lw_nil ?_
      refine Ends.keep [(0, .eq _), (1, .eq _), (5, .eq _), (12, .eq _), (13, .eq _)] (.cons rfl (.cons rfl (.cons rfl (.cons rfl (.cons rfl .nil))))) ?_
      refine ends_then ?_
      refine cw_seq ?_
      -- region 6
      refine cw_draw (by kernel_rfl) (List.take 8 _) (List.drop 8 _) (List.take_append_drop 8 _).symm (by kernel_rfl) ?_
      refine free_v (ok_move rfl (.n rfl) rfl) ?_
      refine free_v (ok_move rfl (.n rfl) rfl) ?_
      refine free_v (ok_ix rfl (.n rfl) Try.underlying26 Try.sizeOf3 rfl rfl hS (fun _ => ⟨by omega, by omega⟩)) ?_
      refine free_v (ok_ldx rfl (.n rfl) rfl Try.isAgg3 hS (fun _ => ⟨by omega, by omega⟩) (by rfl)) ?_
      refine free_v (ok_move rfl (.n rfl) rfl) ?_
      refine free_v (ok_move rfl (.n rfl) rfl) ?_
      refine free_v (ok_ix rfl (.n rfl) Try.underlying26 Try.sizeOf3 rfl rfl hS (fun _ => ⟨by omega, by omega⟩)) ?_
      refine free_v (ok_ldx rfl (.n rfl) rfl Try.isAgg3 hS (fun _ => ⟨by omega, by omega⟩) (by rfl)) ?_
      refine free_nil ?_
      intro w1 hg_; replace hS := hS.grow hg_; clear hg_
      refine lw_v rfl rfl (ok_neq rfl (.n rfl) rfl rfl) ?_
      refine lw_nil ?_
      refine Ends.keep [(0, .eq _), (1, .eq _), (12, .eq _), (13, .eq _), (24, .eq _)] (.cons rfl (.cons rfl (.cons rfl (.cons rfl (.cons rfl .nil))))) ?_
      refine ends_then ?_
      refine cw_cond rfl (fun h24 => ?_) (fun h24 => ?_)
      ·
        refine cw_seq ?_
        -- region 7
        refine cw_region ?_
        refine lw_v rfl rfl (ok_assign rfl (.n rfl) rfl) ?_
        refine lw_nil ?_
        refine Ends.keep [(4, .eq _)] (.cons rfl .nil) ?_
        refine ends_then ?_
        refine cw_ret ?_
        refine in_ret (then_ret (then_ret (in_ret (then_ret (?_)))))
        exact end_ret (res1 Try.results30 rfl) ⟨by exact congrArg (fun b => Ending.returned (.bool b)) (ints_diff (by omega) (by omega) h24).symm, hS.below⟩
      ·
        refine cw_skip ?_
        refine in_normal (?_)
        refine ends_then ?_
        -- region 8
        refine cw_region ?_
        refine lw_v rfl rfl (ok_addi rfl (.n rfl) rfl rfl (fun _ => ⟨by omega, by omega⟩)) ?_
        refine lw_v rfl rfl (ok_move rfl (.n rfl) rfl) ?_
        refine lw_nil ?_
        -- BACK
        refine ends_back (k + 1) (.cons rfl (.cons rfl (.cons rfl (.cons rfl .nil)))) ⟨⟨by omega, ints_step hpre (by omega) (by omega) h24⟩, hS⟩ (by omega)
    ·
      refine cw_exit ?_
      refine then_exit (then_exit (in_exit (?_)))
      refine Ends.keep [] .nil ?_
      refine ends_then ?_
      refine cw_seq ?_
      -- region 9
      refine cw_region ?_
      refine lw_v rfl rfl (ok_assign rfl (.n rfl) rfl) ?_
      refine lw_nil ?_
      refine Ends.keep [(4, .eq _)] (.cons rfl .nil) ?_
      refine ends_then ?_
      refine cw_ret ?_
      exact end_ret (res1 Try.results30 rfl) ⟨by exact congrArg (fun b => Ending.returned (.bool b)) (ints_same hlen hpre (by simpa using h14) hk).symm, hS.below⟩

end Go.Proofs.Ytnpgeohkmdcbkaa.Aq

namespace Go.Proofs.Ytnpgeohkmdcbkaa.Aq
open Go Go.RowKit

theorem tmod_bd (x n : Int) (h : 1 ≤ n) : -n < x.tmod n ∧ x.tmod n < n := by
  have h1 := Int.tmod_lt_of_pos x (by omega : 0 < n)
  have h2 : -n < x.tmod n := by
    have := Int.neg_tmod x n
    have h3 := Int.tmod_lt_of_pos (-x) (by omega : 0 < n)
    omega
  exact ⟨h2, h1⟩
theorem among_eq (x n : Int) (h : 1 ≤ n) : (x.tmod n + n).tmod n = x % n := by
  have hb := tmod_bd x n h
  rw [Int.tmod_eq_emod_of_nonneg (by omega)]
  have e := Int.tmod_add_mul_tdiv x n
  have : x.tmod n + n = x + n * (1 - x.tdiv n) := by rw [Int.mul_sub]; omega
  rw [this, Int.add_mul_emod_self_left]
set_option maxRecDepth 10000 in
/-- acequialow.Among. -/
theorem f69 (x n : Int) (w : World) (h1 : -9223372036854775808 ≤ x) (h2 : x ≤ 9223372036854775807) (h3 : 1 ≤ n) (h4 : n ≤ 1125899906842624) :
    Calls Try.prog 69 #[.int .i64 x, .int .i64 n] w fun e w' => e = .returned (.int .i64 (among x n)) ∧ Gr w w' := by
  refine calls_cw Try.func69 rfl Try.ntmps69 rfl ?_
  have hS := St.start w
  refine cw_seq ?_
  -- region 0
  refine cw_region ?_
  refine lw_v rfl rfl (ok_assign rfl (.n rfl) rfl) ?_
  refine lw_nil ?_
  refine Ends.keep [(0, .eq _), (1, .eq _)] (.cons rfl (.cons rfl .nil)) ?_
  refine ends_then ?_
  refine cw_seq ?_
  refine cw_seq ?_
  -- region 1
  refine cw_region ?_
  refine lw_v rfl rfl (ok_move rfl (.n rfl) rfl) ?_
  refine lw_v rfl rfl (ok_lss rfl (.n rfl) rfl rfl) ?_
  refine lw_nil ?_
  refine Ends.keep [(0, .eq _), (1, .eq _), (6, .eq _)] (.cons rfl (.cons rfl (.cons rfl .nil))) ?_
  refine ends_then ?_
  refine cw_cond rfl (fun h6 => ?_) (fun h6 => ?_)
  ·
    exact absurd h6 (by simp; omega)
  ·
    have hb := tmod_bd x n h3
    refine cw_skip ?_
    refine ends_then ?_
    refine cw_seq ?_
    -- region 3
    refine cw_region ?_
    refine lw_v rfl rfl (ok_move rfl (.n rfl) rfl) ?_
    refine lw_v rfl rfl (ok_move rfl (.n rfl) rfl) ?_
    refine lw_v rfl rfl (ok_rem rfl (.n rfl) rfl rfl (fun _ => by omega)) ?_
    refine lw_v rfl rfl (ok_move rfl (.n rfl) rfl) ?_
    refine lw_v rfl rfl (ok_addi rfl (.n rfl) rfl rfl (fun _ => ⟨by omega, by omega⟩)) ?_
    refine lw_v rfl rfl (ok_move rfl (.n rfl) rfl) ?_
    refine lw_v rfl rfl (ok_rem rfl (.n rfl) rfl rfl (fun _ => by omega)) ?_
    refine lw_v rfl rfl (ok_assign rfl (.n rfl) rfl) ?_
    refine lw_nil ?_
    refine Ends.keep [(4, .eq _)] (.cons rfl .nil) ?_
    refine ends_then ?_
    refine cw_ret ?_
    exact end_ret (res1 Try.results69 rfl) ⟨by rw [among_eq x n h3]; rfl, Gr.refl _⟩

def netV (n : Nt) (A : Option Addr) (c : Nat) : Value := .agg #[.int .i64 n.N, .int .i64 n.S, .int .i64 n.T, .slice A n.arcs.length c]


set_option maxRecDepth 10000 in
/-- acequiaref01.vertex: of a vertex. -/
theorem f110 (n : Nt) (A : Option Addr) (c : Nat) (v : Int) (w : World) (h1 : 0 ≤ v) (h2 : v < n.N) :
    Calls Try.prog 110 #[netV n A c, .int .i64 v] w fun e w' => e = .returned (.bool true) ∧ Gr w w' := by
  refine calls_cw Try.func110 rfl Try.ntmps110 rfl ?_
  have hS := St.start w
  refine cw_seq ?_
  -- region 0
  refine cw_region ?_
  refine lw_box rfl rfl rfl rfl hS ?_
  clear hS; intro b2 w1 _ _ hS
  refine lw_v rfl rfl (ok_assign rfl (.n rfl) rfl) ?_
  refine lw_nil ?_
  refine Ends.keep [(1, .eq _), (2, .eq _)] (.cons rfl (.cons rfl .nil)) ?_
  refine ends_then ?_
  refine cw_seq ?_
  -- region 1
  refine cw_region ?_
  refine lw_v rfl rfl (ok_move rfl (.n rfl) rfl) ?_
  refine lw_v rfl rfl (ok_geq rfl (.n rfl) rfl rfl) ?_
  refine lw_v rfl rfl (ok_move rfl (.n rfl) rfl) ?_
  refine lw_v rfl rfl (ok_move rfl (.s rfl rfl) rfl) ?_
  refine lw_v rfl rfl (ok_fb rfl (.s rfl rfl) Try.underlying24 rfl Try.sizeOf3 (by decide) rfl) ?_
  refine lw_v rfl rfl (ok_ldb rfl (.s rfl rfl) rfl Try.isAgg3 hS (by rfl)) ?_
  refine lw_v rfl rfl (ok_lss rfl (.s rfl rfl) rfl rfl) ?_
  refine lw_v rfl rfl (ok_and rfl rfl rfl rfl) ?_
  refine lw_v rfl rfl (ok_assign rfl (.n rfl) rfl) ?_
  refine lw_nil ?_
  refine Ends.keep [(4, .eq _)] (.cons rfl .nil) ?_
  refine ends_then ?_
  refine cw_ret ?_
  exact end_ret (res1 Try.results110 rfl) ⟨by rw [show (decide (0 ≤ v) && decide (v < n.N)) = true from by simp; omega], hS.below⟩

theorem arc_cap {n : Nt} (h : NetOk n) {k : Nat} (hk : k < n.arcs.length) : 0 ≤ (n.arcs.getD k (0, 0, 0)).2.2 ∧ (n.arcs.getD k (0, 0, 0)).2.2 ≤ 1125899906842623 := by
  have := (h.arc (n.arcs[k]) (List.getElem_mem hk)).2.2
  simpa [List.getD_eq_getElem?_getD, hk] using this
theorem arc_ends {n : Nt} (h : NetOk n) {k : Nat} (hk : k < n.arcs.length) : (0 ≤ (n.arcs.getD k (0, 0, 0)).1 ∧ (n.arcs.getD k (0, 0, 0)).1 < n.N) ∧ (0 ≤ (n.arcs.getD k (0, 0, 0)).2.1 ∧ (n.arcs.getD k (0, 0, 0)).2.1 < n.N) := by
  have := h.arc (n.arcs[k]) (List.getElem_mem hk)
  have e : n.arcs.getD k (0, 0, 0) = n.arcs[k] := by simp [List.getD_eq_getElem?_getD, hk]
  rw [e]
  exact ⟨this.1, this.2.1⟩
set_option maxRecDepth 10000 in
/-- acequiaref01.Sum: of a right net. -/
theorem f111 (n : Nt) (A : Option Addr) (c : Nat) (w : World) (hok : NetOk n) (ha : (sl eArc 3 A n.arcs.length c n.arcs).p w) :
    Calls Try.prog 111 #[netV n A c] w fun e w' => ∃ s : Int, e = .returned (.tuple #[.int .i64 s, .bool true]) ∧ Gr w w' := by
  refine calls_cw Try.func111 rfl Try.ntmps111 rfl ?_
  have hS := (St.start w).arg _ ha rfl (fun b hb => (sl eArc 3 A n.arcs.length c n.arcs).lt ha hb)
  have hln := hok.len
  refine cw_seq ?_
  -- region 0
  refine cw_region ?_
  refine lw_box rfl rfl rfl rfl hS ?_
  clear hS; intro b1 w1 _ _ hS
  refine lw_v rfl rfl (ok_assign rfl (.n rfl) rfl) ?_
  refine lw_v rfl rfl (ok_assign rfl (.n rfl) rfl) ?_
  refine lw_nil ?_
  refine Ends.keep [(1, .eq _)] (.cons rfl .nil) ?_
  refine ends_then ?_
  refine cw_seq ?_
  -- region 1
  refine cw_region ?_
  refine lw_v rfl rfl (ok_assign rfl (.n rfl) rfl) ?_
  refine lw_nil ?_
  refine Ends.keep [(1, .eq _), (4, .eq _)] (.cons rfl (.cons rfl .nil)) ?_
  refine ends_then ?_
  refine cw_seq ?_
  refine cw_seq ?_
  -- region 2
  refine cw_region ?_
  refine lw_v rfl rfl (ok_assign rfl (.n rfl) rfl) ?_
  refine lw_nil ?_
  refine Ends.keep [(1, .eq _), (4, .eq _), (5, .eq _)] (.cons rfl (.cons rfl (.cons rfl .nil))) ?_
  refine ends_then ?_
  refine cw_block ?_
  -- LOOP at region 3: changed live slots [4, 5], kept [1]
  refine cw_loop2 [(1, .eq _)] (fun (k : Nat) (s : Int) => [(4, .eq (.int .i64 s)), (5, .eq (.int .i64 k))]) (fun k s w' => (k ≤ n.arcs.length ∧ 0 ≤ s ∧ s ≤ k * 1125899906842623) ∧ St w.heap.size w w' [bx b1 (netV n A c).cells.toList 24, sl eArc 3 A n.arcs.length c n.arcs]) (fun k _ => n.arcs.length - k) 0 0 (.cons rfl .nil) (.cons rfl (.cons rfl (.cons rfl .nil))) ⟨⟨Nat.zero_le _, by omega, by omega⟩, hS⟩ ?_
  clear hS
  rintro k s wr ⟨⟨hk, hs0, hs1⟩, hS⟩
  refine cw_seq ?_
  refine cw_seq ?_
  -- region 3
  refine cw_region ?_
  refine lw_v rfl rfl (ok_move rfl (.n rfl) rfl) ?_
  refine lw_v rfl rfl (ok_fb rfl (.n rfl) Try.underlying24 rfl Try.sizeOf22 (by decide) rfl) ?_
  refine lw_v rfl rfl (ok_ldb rfl (.n rfl) rfl Try.isAgg22 hS (by rfl)) ?_
  refine lw_v rfl rfl (ok_len rfl (.n rfl) Try.underlying22 rfl) ?_
  refine lw_v rfl rfl (ok_lss rfl (.n rfl) rfl rfl) ?_
  refine lw_nil ?_
  refine Ends.keep [(1, .eq _), (4, .eq _), (5, .eq _), (11, .eq _)] (.cons rfl (.cons rfl (.cons rfl (.cons rfl .nil)))) ?_
  refine ends_then ?_
  refine cw_cond rfl (fun h11 => ?_) (fun h11 => ?_)
  ·
    have hlt : k < n.arcs.length := by simpa using h11
    have hcap := arc_cap hok (k := (k : Int).toNat) (by omega)
    refine cw_skip ?_
    refine ends_then ?_
    refine cw_seq ?_
    refine cw_block ?_
    refine cw_seq ?_
    -- region 5
    refine cw_region ?_
    refine lw_v rfl rfl (ok_fb rfl (.n rfl) Try.underlying24 rfl Try.sizeOf22 (by decide) rfl) ?_
    refine lw_v rfl rfl (ok_ldb rfl (.n rfl) rfl Try.isAgg22 hS (by rfl)) ?_
    refine lw_v rfl rfl (ok_move rfl (.n rfl) rfl) ?_
    refine lw_v rfl rfl (ok_ix rfl (.n rfl) Try.underlying22 Try.sizeOf82 rfl rfl hS (fun _ => ⟨by omega, by omega⟩)) ?_
    refine lw_v rfl rfl (ok_fx rfl (.n rfl) Try.underlying82 rfl Try.sizeOf2 (by decide) rfl hS (fun _ => ⟨by omega, by omega⟩)) ?_
    refine lw_v rfl rfl (ok_ldx rfl (.n rfl) rfl Try.isAgg2 hS (fun _ => ⟨by omega, by omega⟩) (by rfl)) ?_
    refine lw_v rfl rfl (ok_assign rfl (.n rfl) rfl) ?_
    refine lw_nil ?_
    refine Ends.keep [(1, .eq _), (4, .eq _), (5, .eq _), (6, .eq _)] (.cons rfl (.cons rfl (.cons rfl (.cons rfl .nil)))) ?_
    refine ends_then ?_
    refine cw_seq ?_
    refine cw_seq ?_
    -- region 6
    refine cw_region ?_
    refine lw_v rfl rfl (ok_move rfl (.n rfl) rfl) ?_
    refine lw_v rfl rfl (ok_lss rfl (.n rfl) rfl rfl) ?_
    refine lw_v rfl rfl (ok_move rfl (.n rfl) rfl) ?_
    refine lw_v rfl rfl (ok_move rfl (.s rfl rfl) rfl) ?_
    refine lw_v rfl rfl (ok_move rfl (.s rfl rfl) rfl) ?_
    refine lw_v rfl rfl (ok_subi rfl (.s rfl rfl) rfl rfl (fun _ => ⟨by omega, by omega⟩)) ?_
    refine lw_v rfl rfl (ok_gtr rfl (.s rfl rfl) rfl rfl) ?_
    refine lw_v rfl rfl (ok_or rfl rfl rfl rfl) ?_
    refine lw_nil ?_
    refine Ends.keep [(1, .eq _), (4, .eq _), (5, .eq _), (6, .eq _), (27, .eq _)] (.cons rfl (.cons rfl (.cons rfl (.cons rfl (.cons rfl .nil))))) ?_
    refine ends_then ?_
    refine cw_cond rfl (fun h27 => ?_) (fun h27 => ?_)
    ·
      exact absurd h27 (by rw [Bool.or_eq_true, decide_eq_true_eq, decide_eq_true_eq]; omega)
    ·
      refine cw_skip ?_
      refine ends_then ?_
      -- region 8
      refine cw_region ?_
      refine lw_v rfl rfl (ok_move rfl (.n rfl) rfl) ?_
      refine lw_v rfl rfl (ok_move rfl (.n rfl) rfl) ?_
      refine lw_v rfl rfl (ok_addi rfl (.n rfl) rfl rfl (fun _ => ⟨by omega, by omega⟩)) ?_
      refine lw_v rfl rfl (ok_assign rfl (.n rfl) rfl) ?_
      refine lw_nil ?_
      refine in_normal (?_)
      refine Ends.keep [(1, .eq _), (4, .eq _), (5, .eq _)] (.cons rfl (.cons rfl (.cons rfl .nil))) ?_
      refine ends_then ?_
      -- region 4
      refine cw_region ?_
      refine lw_v rfl rfl (ok_move rfl (.n rfl) rfl) ?_
      refine lw_v rfl rfl (ok_addi rfl (.n rfl) rfl rfl (fun _ => ⟨by omega, by omega⟩)) ?_
      refine lw_v rfl rfl (ok_assign rfl (.n rfl) rfl) ?_
      refine lw_nil ?_
      -- BACK
      refine ends_back2 (k + 1) (s + (n.arcs.getD (k : Int).toNat (0, 0, 0)).2.2) (.cons rfl (.cons rfl (.cons rfl .nil))) ⟨⟨by omega, by omega, by omega⟩, hS⟩ (by omega)
  ·
    refine cw_exit ?_
    refine then_exit (then_exit (in_exit (?_)))
    refine Ends.keep [(4, .eq _)] (.cons rfl .nil) ?_
    refine ends_then ?_
    refine cw_seq ?_
    -- region 9
    refine cw_region ?_
    refine lw_v rfl rfl (ok_move rfl (.n rfl) rfl) ?_
    refine lw_v rfl rfl (ok_assign rfl (.n rfl) rfl) ?_
    refine lw_v rfl rfl (ok_assign rfl (.n rfl) rfl) ?_
    refine lw_nil ?_
    refine Ends.keep [(2, .eq _), (3, .eq _)] (.cons rfl (.cons rfl .nil)) ?_
    refine ends_then ?_
    refine cw_ret ?_
    exact end_ret (res2 Try.results111 rfl rfl) ⟨_, rfl, hS.below⟩

set_option maxRecDepth 10000 in
/-- acequiaref01.Check: of a right net. -/
theorem f94 (n : Nt) (A : Option Addr) (c : Nat) (w : World) (hok : NetOk n) (ha : (sl eArc 3 A n.arcs.length c n.arcs).p w) :
    Calls Try.prog 94 #[netV n A c] w fun e w' => e = .returned (.int .i64 0) ∧ Gr w w' := by
  refine calls_cw Try.func94 rfl Try.ntmps94 rfl ?_
  have hS := (St.start w).arg _ ha rfl (fun b hb => (sl eArc 3 A n.arcs.length c n.arcs).lt ha hb)
  obtain ⟨hlo, hhi, hs0, hs1, ht0, ht1, hne, hln, _⟩ := id hok
  refine cw_seq ?_
  -- region 0
  refine cw_region ?_
  refine lw_box rfl rfl rfl rfl hS ?_
  clear hS; intro b1 w1 _ _ hS
  refine lw_v rfl rfl (ok_assign rfl (.n rfl) rfl) ?_
  refine lw_nil ?_
  refine Ends.keep [(1, .eq _)] (.cons rfl .nil) ?_
  refine ends_then ?_
  refine cw_seq ?_
  refine cw_seq ?_
  -- region 1
  refine cw_region ?_
  refine lw_v rfl rfl (ok_fb rfl (.n rfl) Try.underlying24 rfl Try.sizeOf3 (by decide) rfl) ?_
  refine lw_v rfl rfl (ok_ldb rfl (.n rfl) rfl Try.isAgg3 hS (by rfl)) ?_
  refine lw_v rfl rfl (ok_lss rfl (.n rfl) rfl rfl) ?_
  refine lw_v rfl rfl (ok_move rfl (.n rfl) rfl) ?_
  refine lw_v rfl rfl (ok_fb rfl (.s rfl rfl) Try.underlying24 rfl Try.sizeOf3 (by decide) rfl) ?_
  refine lw_v rfl rfl (ok_ldb rfl (.s rfl rfl) rfl Try.isAgg3 hS (by rfl)) ?_
  refine lw_v rfl rfl (ok_gtr rfl (.s rfl rfl) rfl rfl) ?_
  refine lw_v rfl rfl (ok_or rfl rfl rfl rfl) ?_
  refine lw_nil ?_
  refine Ends.keep [(1, .eq _), (15, .eq _)] (.cons rfl (.cons rfl .nil)) ?_
  refine ends_then ?_
  refine cw_cond rfl (fun h15 => ?_) (fun h15 => ?_)
  ·
    exact absurd h15 (by simp; omega)
  ·
    refine cw_skip ?_
    refine ends_then ?_
    refine cw_seq ?_
    refine cw_seq ?_
    -- region 3
    refine cw_region ?_
    refine lw_v rfl rfl (ok_fb rfl (.n rfl) Try.underlying24 rfl Try.sizeOf22 (by decide) rfl) ?_
    refine lw_v rfl rfl (ok_ldb rfl (.n rfl) rfl Try.isAgg22 hS (by rfl)) ?_
    refine lw_v rfl rfl (ok_len rfl (.n rfl) Try.underlying22 rfl) ?_
    refine lw_v rfl rfl (ok_gtr rfl (.n rfl) rfl rfl) ?_
    refine lw_nil ?_
    refine Ends.keep [(1, .eq _), (19, .eq _)] (.cons rfl (.cons rfl .nil)) ?_
    refine ends_then ?_
    refine cw_cond rfl (fun h19 => ?_) (fun h19 => ?_)
    ·
      exact absurd h19 (by simp; omega)
    ·
      refine cw_skip ?_
      refine ends_then ?_
      refine cw_seq ?_
      refine cw_seq ?_
      -- region 5
      refine cw_region ?_
      refine lw_v rfl rfl (ok_ldS rfl (.n rfl) rfl Try.isAgg24 Try.sizeOf24 hS rfl) ?_
      refine lw_v rfl rfl (ok_fb rfl (.n rfl) Try.underlying24 rfl Try.sizeOf3 (by decide) rfl) ?_
      refine lw_v rfl rfl (ok_ldb rfl (.n rfl) rfl Try.isAgg3 hS (by rfl)) ?_
      refine lw_call (f := 110) (xs := [_, _]) rfl rfl rfl Try.call110 rfl (Calls.mono (f110 n A c _ _ (by omega) (by omega)) ?_)
      rintro e w' ⟨rfl, hg⟩
      replace hS := hS.grow hg; clear hg
      refine ⟨_, rfl, ?_⟩
      refine lw_v rfl rfl (ok_not rfl (.n rfl) rfl) ?_
      refine lw_v rfl rfl (ok_move rfl (.n rfl) rfl) ?_
      refine lw_on (.s rfl rfl) rfl ?_
      refine lw_v rfl rfl (ok_ldS rfl (.n rfl) rfl Try.isAgg24 Try.sizeOf24 hS rfl) ?_
      refine lw_on (.s rfl rfl) rfl ?_
      refine lw_v rfl rfl (ok_fb rfl (.n rfl) Try.underlying24 rfl Try.sizeOf3 (by decide) rfl) ?_
      refine lw_on (.s rfl rfl) rfl ?_
      refine lw_v rfl rfl (ok_ldb rfl (.n rfl) rfl Try.isAgg3 hS (by rfl)) ?_
      refine lw_on (.s rfl rfl) rfl ?_
      refine lw_call (f := 110) (xs := [_, _]) rfl rfl rfl Try.call110 rfl (Calls.mono (f110 n A c _ _ (by omega) (by omega)) ?_)
      rintro e w' ⟨rfl, hg⟩
      replace hS := hS.grow hg; clear hg
      refine ⟨_, rfl, ?_⟩
      refine lw_on (.s rfl rfl) rfl ?_
      refine lw_v rfl rfl (ok_not rfl (.n rfl) rfl) ?_
      refine lw_v rfl rfl (ok_pick rfl rfl rfl rfl rfl) ?_
      refine lw_v rfl rfl (ok_move rfl (.n rfl) rfl) ?_
      refine lw_on (.s rfl rfl) rfl ?_
      refine lw_v rfl rfl (ok_fb rfl (.n rfl) Try.underlying24 rfl Try.sizeOf3 (by decide) rfl) ?_
      refine lw_on (.s rfl rfl) rfl ?_
      refine lw_v rfl rfl (ok_ldb rfl (.n rfl) rfl Try.isAgg3 hS (by rfl)) ?_
      refine lw_on (.s rfl rfl) rfl ?_
      refine lw_v rfl rfl (ok_fb rfl (.n rfl) Try.underlying24 rfl Try.sizeOf3 (by decide) rfl) ?_
      refine lw_on (.s rfl rfl) rfl ?_
      refine lw_v rfl rfl (ok_ldb rfl (.n rfl) rfl Try.isAgg3 hS (by rfl)) ?_
      refine lw_on (.s rfl rfl) rfl ?_
      refine lw_v rfl rfl (ok_eql rfl (.n rfl) rfl rfl) ?_
      refine lw_v rfl rfl (ok_pick rfl rfl rfl rfl rfl) ?_
      refine lw_nil ?_
      refine Ends.keep [(1, .eq _), (38, .eq _)] (.cons rfl (.cons rfl .nil)) ?_
      refine ends_then ?_
      refine cw_cond rfl (fun h38 => ?_) (fun h38 => ?_)
      ·
        exact absurd h38 (by simp; omega)
      ·
        refine cw_skip ?_
        refine ends_then ?_
        refine cw_seq ?_
        -- region 7
        refine cw_region ?_
        refine lw_v rfl rfl (ok_assign rfl (.n rfl) rfl) ?_
        refine lw_nil ?_
        refine Ends.keep [(1, .eq _), (3, .eq _)] (.cons rfl (.cons rfl .nil)) ?_
        refine ends_then ?_
        refine cw_seq ?_
        refine cw_seq ?_
        -- region 8
        refine cw_region ?_
        refine lw_v rfl rfl (ok_assign rfl (.n rfl) rfl) ?_
        refine lw_nil ?_
        refine Ends.keep [(1, .eq _), (3, .eq _), (4, .eq _)] (.cons rfl (.cons rfl (.cons rfl .nil))) ?_
        refine ends_then ?_
        refine cw_block ?_
        -- LOOP at region 9: changed live slots [3, 4], kept [1]
        refine cw_loop [(1, .eq _)] (fun k : Nat => [(3, .eq (.bool false)), (4, .eq (.int .i64 k))]) (fun k w' => k ≤ n.arcs.length ∧ St w.heap.size w w' [bx b1 (netV n A c).cells.toList 24, sl eArc 3 A n.arcs.length c n.arcs]) (fun k => n.arcs.length - k) 0 (.cons rfl .nil) (.cons rfl (.cons rfl (.cons rfl .nil))) ⟨Nat.zero_le _, hS⟩ ?_
        clear hS
        rintro k wr ⟨hk, hS⟩
        refine cw_seq ?_
        refine cw_seq ?_
        -- region 9
        refine cw_region ?_
        refine lw_v rfl rfl (ok_move rfl (.n rfl) rfl) ?_
        refine lw_v rfl rfl (ok_fb rfl (.n rfl) Try.underlying24 rfl Try.sizeOf22 (by decide) rfl) ?_
        refine lw_v rfl rfl (ok_ldb rfl (.n rfl) rfl Try.isAgg22 hS (by rfl)) ?_
        refine lw_v rfl rfl (ok_len rfl (.n rfl) Try.underlying22 rfl) ?_
        refine lw_v rfl rfl (ok_lss rfl (.n rfl) rfl rfl) ?_
        refine lw_nil ?_
        refine Ends.keep [(1, .eq _), (3, .eq _), (4, .eq _), (43, .eq _)] (.cons rfl (.cons rfl (.cons rfl (.cons rfl .nil)))) ?_
        refine ends_then ?_
        refine cw_cond rfl (fun h43 => ?_) (fun h43 => ?_)
        ·
          have hlt : k < n.arcs.length := by simpa using h43
          have hcap := arc_cap hok (k := (k : Int).toNat) (by omega)
          have hends := arc_ends hok (k := (k : Int).toNat) (by omega)
          refine cw_skip ?_
          refine ends_then ?_
          refine cw_seq ?_
          refine cw_block ?_
          refine cw_seq ?_
          -- region 11
          refine cw_region ?_
          refine lw_v rfl rfl (ok_fb rfl (.n rfl) Try.underlying24 rfl Try.sizeOf22 (by decide) rfl) ?_
          refine lw_v rfl rfl (ok_ldb rfl (.n rfl) rfl Try.isAgg22 hS (by rfl)) ?_
          refine lw_v rfl rfl (ok_move rfl (.n rfl) rfl) ?_
          refine lw_v rfl rfl (ok_ix rfl (.n rfl) Try.underlying22 Try.sizeOf82 rfl rfl hS (fun _ => ⟨by omega, by omega⟩)) ?_
          refine lw_v rfl rfl (ok_ldxS rfl (.n rfl) rfl Try.isAgg82 Try.sizeOf82 hS (fun _ => ⟨by omega, by omega⟩)) ?_
          refine lw_alloc rfl rfl rfl Try.zeroValue82 hS ?_
          clear hS; intro b5 w2 _ _ hS
          refine lw_stS rfl rfl rfl rfl rfl (by kernel_rfl) hS rfl (by rfl) (by rfl) ?_
          clear hS; intro w3 hS
          refine lw_nil ?_
          refine Ends.keep [(1, .eq _), (3, .eq _), (4, .eq _), (5, .eq _)] (.cons rfl (.cons rfl (.cons rfl (.cons rfl .nil)))) ?_
          refine ends_then ?_
          refine cw_seq ?_
          refine cw_seq ?_
          -- region 12
          refine cw_region ?_
          refine lw_v rfl rfl (ok_ldS rfl (.n rfl) rfl Try.isAgg24 Try.sizeOf24 hS rfl) ?_
          refine lw_v rfl rfl (ok_fb rfl (.n rfl) Try.underlying82 rfl Try.sizeOf3 (by decide) rfl) ?_
          refine lw_v rfl rfl (ok_ldb rfl (.n rfl) rfl Try.isAgg3 hS (by rfl)) ?_
          refine lw_call (f := 110) (xs := [_, _]) rfl rfl rfl Try.call110 rfl (Calls.mono (f110 n A c _ _ (by omega) (by omega)) ?_)
          rintro e w' ⟨rfl, hg⟩
          replace hS := hS.grow hg; clear hg
          refine ⟨_, rfl, ?_⟩
          refine lw_v rfl rfl (ok_not rfl (.n rfl) rfl) ?_
          refine lw_v rfl rfl (ok_move rfl (.n rfl) rfl) ?_
          refine lw_on (.s rfl rfl) rfl ?_
          refine lw_v rfl rfl (ok_ldS rfl (.n rfl) rfl Try.isAgg24 Try.sizeOf24 hS rfl) ?_
          refine lw_on (.s rfl rfl) rfl ?_
          refine lw_v rfl rfl (ok_fb rfl (.n rfl) Try.underlying82 rfl Try.sizeOf3 (by decide) rfl) ?_
          refine lw_on (.s rfl rfl) rfl ?_
          refine lw_v rfl rfl (ok_ldb rfl (.n rfl) rfl Try.isAgg3 hS (by rfl)) ?_
          refine lw_on (.s rfl rfl) rfl ?_
          refine lw_call (f := 110) (xs := [_, _]) rfl rfl rfl Try.call110 rfl (Calls.mono (f110 n A c _ _ (by omega) (by omega)) ?_)
          rintro e w' ⟨rfl, hg⟩
          replace hS := hS.grow hg; clear hg
          refine ⟨_, rfl, ?_⟩
          refine lw_on (.s rfl rfl) rfl ?_
          refine lw_v rfl rfl (ok_not rfl (.n rfl) rfl) ?_
          refine lw_v rfl rfl (ok_pick rfl rfl rfl rfl rfl) ?_
          refine lw_nil ?_
          refine Ends.keep [(1, .eq _), (3, .eq _), (4, .eq _), (5, .eq _), (62, .eq _)] (.cons rfl (.cons rfl (.cons rfl (.cons rfl (.cons rfl .nil))))) ?_
          refine ends_then ?_
          refine cw_cond rfl (fun h62 => ?_) (fun h62 => ?_)
          ·
            exact absurd h62 (by simp)
          ·
            refine cw_skip ?_
            refine ends_then ?_
            -- region 14
            refine cw_region ?_
            refine lw_v rfl rfl (ok_move rfl (.n rfl) rfl) ?_
            refine lw_v rfl rfl (ok_move rfl (.n rfl) rfl) ?_
            refine lw_v rfl rfl (ok_fb rfl (.s rfl rfl) Try.underlying82 rfl Try.sizeOf2 (by decide) rfl) ?_
            refine lw_v rfl rfl (ok_ldb rfl (.s rfl rfl) rfl Try.isAgg2 hS (by rfl)) ?_
            refine lw_v rfl rfl (ok_lss rfl (.s rfl rfl) rfl rfl) ?_
            refine lw_v rfl rfl (ok_eq (g := none) (ok_or rfl rfl rfl rfl) (c' := .bool false) (fun _ => congrArg Value.bool (by rw [Bool.false_or]; exact decide_eq_false (by omega)))) ?_
            refine lw_v rfl rfl (ok_assign rfl (.n rfl) rfl) ?_
            refine lw_nil ?_
            refine in_normal (?_)
            refine Ends.keep [(1, .eq _), (3, .eq _), (4, .eq _)] (.cons rfl (.cons rfl (.cons rfl .nil))) ?_
            refine ends_then ?_
            -- region 10
            refine cw_region ?_
            refine lw_v rfl rfl (ok_move rfl (.n rfl) rfl) ?_
            refine lw_v rfl rfl (ok_addi rfl (.n rfl) rfl rfl (fun _ => ⟨by omega, by omega⟩)) ?_
            refine lw_v rfl rfl (ok_assign rfl (.n rfl) rfl) ?_
            refine lw_nil ?_
            -- BACK
            refine ends_back (k + 1) (.cons rfl (.cons rfl (.cons rfl .nil))) ⟨by omega, hS.tail⟩ (by omega)
        ·
          refine cw_exit ?_
          refine then_exit (then_exit (in_exit (?_)))
          refine Ends.keep [(1, .eq _), (3, .eq _)] (.cons rfl (.cons rfl .nil)) ?_
          refine ends_then ?_
          refine cw_seq ?_
          refine cw_seq ?_
          -- region 15
          refine cw_region ?_
          refine lw_v rfl rfl (ok_move rfl (.n rfl) rfl) ?_
          refine lw_nil ?_
          refine Ends.keep [(1, .eq _), (69, .eq _)] (.cons rfl (.cons rfl .nil)) ?_
          refine ends_then ?_
          refine cw_cond rfl (fun h69 => ?_) (fun h69 => ?_)
          ·
            exact absurd h69 (by simp)
          ·
            refine cw_skip ?_
            refine ends_then ?_
            refine cw_seq ?_
            -- region 17
            refine cw_region ?_
            refine lw_v rfl rfl (ok_ldS rfl (.n rfl) rfl Try.isAgg24 Try.sizeOf24 hS rfl) ?_
            refine lw_call (f := 111) (xs := [_]) rfl rfl rfl Try.call111 rfl (Calls.mono (f111 n A c _ hok (hS.ok _ (.tail _ (.head _)))) ?_)
            rintro e w' ⟨s, rfl, hg⟩
            replace hS := hS.grow hg; clear hg
            refine ⟨_, rfl, ?_⟩
            refine lw_v rfl rfl (ok_move rfl (.n rfl) rfl) ?_
            refine lw_v rfl rfl (ok_extract rfl (.n rfl) rfl rfl) ?_
            refine lw_v rfl rfl (ok_extract rfl (.n rfl) rfl rfl) ?_
            refine lw_v rfl rfl (ok_assign rfl (.n rfl) rfl) ?_
            refine lw_v rfl rfl (ok_assign rfl (.n rfl) rfl) ?_
            refine lw_nil ?_
            refine Ends.keep [(7, .eq _)] (.cons rfl .nil) ?_
            refine ends_then ?_
            refine cw_seq ?_
            refine cw_seq ?_
            -- region 18
            refine cw_region ?_
            refine lw_v rfl rfl (ok_move rfl (.n rfl) rfl) ?_
            refine lw_v rfl rfl (ok_not rfl (.n rfl) rfl) ?_
            refine lw_nil ?_
            refine Ends.keep [(76, .eq _)] (.cons rfl .nil) ?_
            refine ends_then ?_
            refine cw_cond rfl (fun h76 => ?_) (fun h76 => ?_)
            ·
              exact absurd h76 (by simp)
            ·
              refine cw_skip ?_
              refine ends_then ?_
              refine cw_seq ?_
              -- region 20
              refine cw_region ?_
              refine lw_v rfl rfl (ok_assign rfl (.n rfl) rfl) ?_
              refine lw_nil ?_
              refine Ends.keep [(2, .eq _)] (.cons rfl .nil) ?_
              refine ends_then ?_
              refine cw_ret ?_
              exact end_ret (res1 Try.results94 rfl) ⟨rfl, hS.below⟩

end Go.Proofs.Ytnpgeohkmdcbkaa.Aq

namespace Go.Proofs.Ytnpgeohkmdcbkaa.Aq
open Go Go.RowKit

def withinTo (n : Nt) (l : List Int) (k : Nat) : List Int := (List.range n.arcs.length).map fun i => if i < k then withinAt l i (n.arcs.getD i (0, 0, 0)) else 0
theorem within0 (n : Nt) (l : List Int) : withinTo n l 0 = List.replicate n.arcs.length 0 := by
  unfold withinTo
  simp [List.map_const']
theorem within_end (n : Nt) (l : List Int) : withinTo n l n.arcs.length = withinL n l := by
  unfold withinTo withinL
  refine List.ext_getElem (by simp) fun i h1 h2 => ?_
  have hi : i < n.arcs.length := by simpa using h1
  simp [hi, List.getD_eq_getElem?_getD]
theorem within_test {l : List Int} {k : Nat} {a b : Int} (h : (decide ((l.length : Int) ≤ k) || decide (a = b)) = false) : k < l.length ∧ a ≠ b := by
  simp at h
  exact ⟨by omega, h.2⟩
theorem getD_mem {l : List Int} {k : Nat} (h : k < l.length) : l.getD k 0 ∈ l := by
  simp [List.getD_eq_getElem?_getD, h]
theorem within_skip {n : Nt} {l : List Int} {k : Nat} (h : (decide ((l.length : Int) ≤ k) || decide ((n.arcs.getD (k : Int).toNat (0, 0, 0)).1 = (n.arcs.getD (k : Int).toNat (0, 0, 0)).2.1)) = true) : withinTo n l k = withinTo n l (k + 1) := by
  unfold withinTo
  refine List.map_congr_left fun i hi => ?_
  by_cases h1 : i < k
  · rw [if_pos h1, if_pos (by omega)]
  · by_cases h2 : i = k
    · subst h2
      rw [if_neg (by omega), if_pos (by omega)]
      unfold withinAt
      rw [if_pos]
      simp only [Bool.or_eq_true, decide_eq_true_eq, Int.toNat_natCast] at h
      exact h.imp (fun h => by omega) id
    · rw [if_neg h1, if_neg (by omega)]
theorem within_step {n : Nt} {l : List Int} {k : Nat} {x : Int} (hk : k < n.arcs.length) (hl : k < l.length) (hne : (n.arcs.getD (k : Int).toNat (0, 0, 0)).1 ≠ (n.arcs.getD (k : Int).toNat (0, 0, 0)).2.1)
    (hx : x = (if l.getD (k : Int).toNat 0 < 0 then -(l.getD (k : Int).toNat 0 + 1) else l.getD (k : Int).toNat 0)) (h0 : 0 ≤ x) (hc : 0 ≤ (n.arcs.getD (k : Int).toNat (0, 0, 0)).2.2) :
    (withinTo n l k).set (k : Int).toNat (if (n.arcs.getD (k : Int).toNat (0, 0, 0)).2.2 < x.tmod ((n.arcs.getD (k : Int).toNat (0, 0, 0)).2.2 + 1) then (n.arcs.getD (k : Int).toNat (0, 0, 0)).2.2 else x.tmod ((n.arcs.getD (k : Int).toNat (0, 0, 0)).2.2 + 1)) = withinTo n l (k + 1) := by
  rw [Int.tmod_eq_emod_of_nonneg h0]
  have hm := Int.emod_lt_of_pos x (show 0 < (n.arcs.getD (k : Int).toNat (0, 0, 0)).2.2 + 1 by omega)
  rw [if_neg (by omega)]
  rw [Int.toNat_natCast] at *
  unfold withinTo
  refine List.ext_getElem (by simp) fun i h1 h2 => ?_
  have hi : i < n.arcs.length := by simpa using h2
  rw [List.getElem_set]
  by_cases hik : k = i
  · subst hik
    simp only [List.getElem_map, List.getElem_range, if_true]
    rw [if_pos (by omega)]
    unfold withinAt
    rw [if_neg (by intro h; rcases h with h | h; omega; exact hne h), ← hx]
  · rw [if_neg hik]
    simp only [List.getElem_map, List.getElem_range]
    by_cases h3 : i < k
    · rw [if_pos h3, if_pos (by omega)]
    · rw [if_neg h3, if_neg (by omega)]
set_option maxRecDepth 10000 in
/-- acequialow.Within: of a right net, and any numbers. -/
theorem f68 (n : Nt) (A : Option Addr) (c : Nat) (l : List Int) (A1 : Option Addr) (c1 : Nat) (w : World) (hok : NetOk n) (ha : (sl eArc 3 A n.arcs.length c n.arcs).p w) (hl : (sl (eInt .i64) 1 A1 l.length c1 l).p w) (hrng : ∀ x ∈ l, -9223372036854775808 ≤ x ∧ x ≤ 9223372036854775807) :
    Calls Try.prog 68 #[netV n A c, .slice A1 l.length c1] w fun e w' => ∃ A5 c5, e = .returned (.slice A5 n.arcs.length c5) ∧ Gr w w' ∧ (∀ b, (own (eInt .i64) 1 2 A5 n.arcs.length c5 (withinL n l)).fp b → w.heap.size ≤ b) ∧ (own (eInt .i64) 1 2 A5 n.arcs.length c5 (withinL n l)).p w' := by
  refine calls_cw Try.func68 rfl Try.ntmps68 rfl ?_
  have hS := ((St.start w).arg _ ha rfl (fun b hb => (sl eArc 3 A n.arcs.length c n.arcs).lt ha hb)).arg _ hl rfl (fun b hb => (sl (eInt .i64) 1 A1 l.length c1 l).lt hl hb)
  have hln := hok.len
  have hll := hl.2.1
  refine cw_seq ?_
  -- region 0
  refine cw_region ?_
  refine lw_box rfl rfl rfl rfl hS ?_
  clear hS; intro b2 w1 _ _ hS
  refine lw_v rfl rfl (ok_assign rfl (.n rfl) rfl) ?_
  refine lw_nil ?_
  refine Ends.keep [(1, .eq _), (2, .eq _)] (.cons rfl (.cons rfl .nil)) ?_
  refine ends_then ?_
  refine cw_seq ?_
  -- region 1
  refine cw_region ?_
  refine lw_v rfl rfl (ok_fb rfl (.n rfl) Try.underlying24 rfl Try.sizeOf22 (by decide) rfl) ?_
  refine lw_v rfl rfl (ok_ldb rfl (.n rfl) rfl Try.isAgg22 hS (by rfl)) ?_
  refine lw_v rfl rfl (ok_len rfl (.n rfl) Try.underlying22 rfl) ?_
  refine lw_make (enc := (eInt .i64)) rfl rfl rfl Try.underlying25 info2 rfl rfl rfl rfl (by omega) (by omega) hS ?_
  clear hS; intro A5 c5 w2 _ hS
  refine lw_v rfl rfl (ok_assign rfl (.n rfl) rfl) ?_
  refine lw_nil ?_
  refine Ends.keep [(1, .eq _), (2, .eq _), (5, .eq _)] (.cons rfl (.cons rfl (.cons rfl .nil))) ?_
  refine ends_then ?_
  refine cw_seq ?_
  refine cw_seq ?_
  -- region 2
  refine cw_region ?_
  refine lw_v rfl rfl (ok_fb rfl (.n rfl) Try.underlying24 rfl Try.sizeOf22 (by decide) rfl) ?_
  refine lw_v rfl rfl (ok_ldb rfl (.n rfl) rfl Try.isAgg22 hS (by rfl)) ?_
  refine lw_v rfl rfl (ok_len rfl (.n rfl) Try.underlying22 rfl) ?_
  refine lw_v rfl rfl (ok_move rfl (.n rfl) rfl) ?_
  refine lw_nil ?_
  refine Ends.keep [(1, .eq _), (5, .eq _), (14, .eq _), (15, .eq _), (16, .eq _)] (.cons rfl (.cons rfl (.cons rfl (.cons rfl (.cons rfl .nil))))) ?_
  refine ends_then ?_
  refine cw_block ?_
  -- LOOP at region 3: changed live slots [16], kept [1, 5, 14, 15]
  refine cw_loop [(1, .eq _), (5, .eq _), (14, .eq _), (15, .eq _)] (fun k : Nat => [(16, .eq (.int .i64 k))]) (fun k w' => k ≤ n.arcs.length ∧ St w.heap.size w w' [own (eInt .i64) 1 2 A5 n.arcs.length c5 (withinTo n l k), bx b2 (netV n A c).cells.toList 24, sl (eInt .i64) 1 A1 l.length c1 l, sl eArc 3 A n.arcs.length c n.arcs]) (fun k => n.arcs.length - k) 0 (.cons rfl (.cons rfl (.cons rfl (.cons rfl .nil)))) (.cons rfl (.cons rfl (.cons rfl (.cons rfl (.cons rfl .nil))))) ⟨Nat.zero_le _, by rw [within0 n l]; exact hS⟩ ?_
  clear hS
  rintro k wr ⟨hk, hS⟩
  refine cw_seq ?_
  -- region 3
  refine cw_region ?_
  refine lw_v rfl rfl (ok_lss rfl (.n rfl) rfl rfl) ?_
  refine lw_nil ?_
  refine Ends.keep [(1, .eq _), (5, .eq _), (14, .eq _), (15, .eq _), (16, .eq _), (17, .eq _)] (.cons rfl (.cons rfl (.cons rfl (.cons rfl (.cons rfl (.cons rfl .nil)))))) ?_
  refine ends_then ?_
  refine cw_seq ?_
  refine cw_cond rfl (fun h17 => ?_) (fun h17 => ?_)
  ·
    have hlt : k < n.arcs.length := by simpa using h17
    have hcap := arc_cap hok (k := (k : Int).toNat) (by omega)
    refine cw_skip ?_
    refine ends_then ?_
    refine cw_seq ?_
    refine cw_block ?_
    refine cw_seq ?_
    -- region 4
    refine cw_region ?_
    refine lw_v rfl rfl (ok_move rfl (.n rfl) rfl) ?_
    refine lw_v rfl rfl (ok_ix rfl (.n rfl) Try.underlying22 Try.sizeOf82 rfl rfl hS (fun _ => ⟨by omega, by omega⟩)) ?_
    refine lw_v rfl rfl (ok_ldxS rfl (.n rfl) rfl Try.isAgg82 Try.sizeOf82 hS (fun _ => ⟨by omega, by omega⟩)) ?_
    refine lw_alloc rfl rfl rfl Try.zeroValue82 hS ?_
    clear hS; intro b7 w3 _ _ hS
    refine lw_v rfl rfl (ok_assign rfl (.n rfl) rfl) ?_
    refine lw_stS rfl rfl rfl rfl rfl (by kernel_rfl) hS rfl (by rfl) (by rfl) ?_
    clear hS; intro w4 hS
    refine lw_nil ?_
    refine Ends.keep [(1, .eq _), (5, .eq _), (6, .eq _), (7, .eq _), (14, .eq _), (15, .eq _), (16, .eq _)] (.cons rfl (.cons rfl (.cons rfl (.cons rfl (.cons rfl (.cons rfl (.cons rfl .nil))))))) ?_
    refine ends_then ?_
    refine cw_seq ?_
    refine cw_seq ?_
    -- region 5
    refine cw_region ?_
    refine lw_v rfl rfl (ok_move rfl (.n rfl) rfl) ?_
    refine lw_v rfl rfl (ok_move rfl (.n rfl) rfl) ?_
    refine lw_v rfl rfl (ok_len rfl (.n rfl) Try.underlying25 rfl) ?_
    refine lw_v rfl rfl (ok_geq rfl (.n rfl) rfl rfl) ?_
    refine lw_v rfl rfl (ok_move rfl (.n rfl) rfl) ?_
    refine lw_v rfl rfl (ok_fb rfl (.s rfl rfl) Try.underlying82 rfl Try.sizeOf3 (by decide) rfl) ?_
    refine lw_v rfl rfl (ok_ldb rfl (.s rfl rfl) rfl Try.isAgg3 hS (by rfl)) ?_
    refine lw_v rfl rfl (ok_fb rfl (.s rfl rfl) Try.underlying82 rfl Try.sizeOf3 (by decide) rfl) ?_
    refine lw_v rfl rfl (ok_ldb rfl (.s rfl rfl) rfl Try.isAgg3 hS (by rfl)) ?_
    refine lw_v rfl rfl (ok_eql rfl (.s rfl rfl) rfl rfl) ?_
    refine lw_v rfl rfl (ok_or rfl rfl rfl rfl) ?_
    refine lw_nil ?_
    refine Ends.keep [(1, .eq _), (5, .eq _), (6, .eq _), (7, .eq _), (14, .eq _), (15, .eq _), (16, .eq _), (31, .eq _)] (.cons rfl (.cons rfl (.cons rfl (.cons rfl (.cons rfl (.cons rfl (.cons rfl (.cons rfl .nil)))))))) ?_
    refine ends_then ?_
    refine cw_cond rfl (fun h31 => ?_) (fun h31 => ?_)
    ·
      refine cw_exit ?_
      refine then_exit (in_exit (?_))
      refine Ends.keep [(1, .eq _), (5, .eq _), (14, .eq _), (15, .eq _), (16, .eq _)] (.cons rfl (.cons rfl (.cons rfl (.cons rfl (.cons rfl .nil))))) ?_
      refine ends_then ?_
      -- region 12
      refine cw_region ?_
      refine lw_v rfl rfl (ok_addi rfl (.n rfl) rfl rfl (fun _ => ⟨by omega, by omega⟩)) ?_
      refine lw_v rfl rfl (ok_move rfl (.n rfl) rfl) ?_
      refine lw_nil ?_
      -- BACK
      refine ends_back (k + 1) (.cons rfl (.cons rfl (.cons rfl (.cons rfl (.cons rfl .nil))))) ⟨by omega, by rw [← within_skip h31]; exact hS.tail⟩ (by omega)
    ·
      obtain ⟨hkl, hft⟩ := within_test h31
      obtain ⟨hx0, hx1⟩ := hrng _ (getD_mem (k := (k : Int).toNat) (by omega))
      refine cw_skip ?_
      refine ends_then ?_
      refine cw_seq ?_
      -- region 6
      refine cw_region ?_
      refine lw_v rfl rfl (ok_move rfl (.n rfl) rfl) ?_
      refine lw_v rfl rfl (ok_move rfl (.n rfl) rfl) ?_
      refine lw_v rfl rfl (ok_ix rfl (.n rfl) Try.underlying25 Try.sizeOf2 rfl rfl hS (fun _ => ⟨by omega, by omega⟩)) ?_
      refine lw_v rfl rfl (ok_ldx rfl (.n rfl) rfl Try.isAgg2 hS (fun _ => ⟨by omega, by omega⟩) (by rfl)) ?_
      refine lw_v rfl rfl (ok_assign rfl (.n rfl) rfl) ?_
      refine lw_nil ?_
      refine Ends.keep [(1, .eq _), (5, .eq _), (6, .eq _), (7, .eq _), (8, .eq _), (14, .eq _), (15, .eq _), (16, .eq _)] (.cons rfl (.cons rfl (.cons rfl (.cons rfl (.cons rfl (.cons rfl (.cons rfl (.cons rfl .nil)))))))) ?_
      refine ends_then ?_
      refine cw_cut [(1, .eq _), (5, .eq _), (6, .eq _), (7, .eq _), (14, .eq _), (15, .eq _), (16, .eq _)] (fun x : Int => [(8, .eq (.int .i64 x))]) (fun x w' => (x = (if l.getD (k : Int).toNat 0 < 0 then -(l.getD (k : Int).toNat 0 + 1) else l.getD (k : Int).toNat 0) ∧ 0 ≤ x ∧ x ≤ 9223372036854775807) ∧ St w.heap.size w w' (bx b7 (eArc (n.arcs.getD (k : Int).toNat (0, 0, 0))).toArray.toList 82 :: [own (eInt .i64) 1 2 A5 n.arcs.length c5 (withinTo n l k), bx b2 (netV n A c).cells.toList 24, sl (eInt .i64) 1 A1 l.length c1 l, sl eArc 3 A n.arcs.length c n.arcs])) (.cons rfl (.cons rfl (.cons rfl (.cons rfl (.cons rfl (.cons rfl (.cons rfl .nil))))))) ?_ ?_
      ·
        refine cw_seq ?_
        -- region 7
        refine cw_region ?_
        refine lw_v rfl rfl (ok_move rfl (.n rfl) rfl) ?_
        refine lw_v rfl rfl (ok_lss rfl (.n rfl) rfl rfl) ?_
        refine lw_nil ?_
        refine Ends.keep [(1, .eq _), (5, .eq _), (6, .eq _), (7, .eq _), (8, .eq _), (14, .eq _), (15, .eq _), (16, .eq _), (37, .eq _)] (.cons rfl (.cons rfl (.cons rfl (.cons rfl (.cons rfl (.cons rfl (.cons rfl (.cons rfl (.cons rfl .nil))))))))) ?_
        refine ends_then ?_
        refine cw_cond rfl (fun h37 => ?_) (fun h37 => ?_)
        ·
          have h37' := of_decide_eq_true h37
          -- region 8
          refine cw_region ?_
          refine lw_v rfl rfl (ok_move rfl (.n rfl) rfl) ?_
          refine lw_v rfl rfl (ok_addi rfl (.n rfl) rfl rfl (fun _ => ⟨by omega, by omega⟩)) ?_
          refine lw_v rfl rfl (ok_neg rfl (.n rfl) rfl (fun _ => ⟨by omega, by omega⟩)) ?_
          refine lw_v rfl rfl (ok_assign rfl (.n rfl) rfl) ?_
          refine lw_nil ?_
          -- CUT
          refine ends_cut _ (.cons rfl (.cons rfl (.cons rfl (.cons rfl (.cons rfl (.cons rfl (.cons rfl (.cons rfl .nil)))))))) ⟨⟨by rw [if_pos h37'], by omega, by omega⟩, hS⟩
        ·
          have h37' := of_decide_eq_false h37
          refine cw_skip ?_
          -- CUT
          refine ends_cut _ (.cons rfl (.cons rfl (.cons rfl (.cons rfl (.cons rfl (.cons rfl (.cons rfl (.cons rfl .nil)))))))) ⟨⟨by rw [if_neg h37'], by omega, by omega⟩, hS⟩
      ·
        clear hS; rintro x wc ⟨⟨hxe, hxx0, hxx1⟩, hS⟩
        refine cw_seq ?_
        refine cw_seq ?_
        -- region 9
        refine cw_region ?_
        refine lw_v rfl rfl (ok_fb rfl (.n rfl) Try.underlying82 rfl Try.sizeOf2 (by decide) rfl) ?_
        refine lw_v rfl rfl (ok_ldb rfl (.n rfl) rfl Try.isAgg2 hS (by rfl)) ?_
        refine lw_v rfl rfl (ok_lss rfl (.n rfl) rfl rfl) ?_
        refine lw_nil ?_
        refine Ends.keep [(1, .eq _), (5, .eq _), (6, .eq _), (7, .eq _), (8, .eq _), (14, .eq _), (15, .eq _), (16, .eq _), (43, .eq _)] (.cons rfl (.cons rfl (.cons rfl (.cons rfl (.cons rfl (.cons rfl (.cons rfl (.cons rfl (.cons rfl .nil))))))))) ?_
        refine ends_then ?_
        refine cw_cond rfl (fun h43 => ?_) (fun h43 => ?_)
        ·
          -- region 10
          refine cw_region ?_
          refine lw_v rfl rfl (ok_move rfl (.n rfl) rfl) ?_
          refine lw_v rfl rfl (ok_fb rfl (.n rfl) Try.underlying82 rfl Try.sizeOf2 (by decide) rfl) ?_
          refine lw_v rfl rfl (ok_ldb rfl (.n rfl) rfl Try.isAgg2 hS (by rfl)) ?_
          refine lw_v rfl rfl (ok_addi rfl (.n rfl) rfl rfl (fun _ => ⟨by omega, by omega⟩)) ?_
          refine lw_v rfl rfl (ok_rem rfl (.n rfl) rfl rfl (fun _ => by omega)) ?_
          refine lw_v rfl rfl (ok_assign rfl (.n rfl) rfl) ?_
          refine lw_nil ?_
          refine Ends.keep [(1, .eq _), (5, .eq _), (6, .eq _), (7, .eq _), (8, .eq _), (14, .eq _), (15, .eq _), (16, .eq _)] (.cons rfl (.cons rfl (.cons rfl (.cons rfl (.cons rfl (.cons rfl (.cons rfl (.cons rfl .nil)))))))) ?_
          refine ends_then ?_
          -- region 11
          refine cw_region ?_
          refine lw_v rfl rfl (ok_move rfl (.n rfl) rfl) ?_
          refine lw_v rfl rfl (ok_move rfl (.n rfl) rfl) ?_
          refine lw_v rfl rfl (ok_move rfl (.n rfl) rfl) ?_
          refine lw_v rfl rfl (ok_fb rfl (.n rfl) Try.underlying82 rfl Try.sizeOf2 (by decide) rfl) ?_
          refine lw_v rfl rfl (ok_ldb rfl (.n rfl) rfl Try.isAgg2 hS (by rfl)) ?_
          refine lw_v rfl rfl (ok_min2 rfl (.n rfl) rfl rfl) ?_
          refine lw_v rfl rfl (ok_ix rfl (.n rfl) Try.underlying25 Try.sizeOf2 rfl rfl hS (fun _ => ⟨by omega, by omega⟩)) ?_
          refine lw_stx (enc := (eInt .i64)) (_) rfl rfl rfl rfl rfl rfl Try.sizeOf2 hS (⟨by omega, by omega⟩) ?_
          clear hS; intro w5 hS
          refine lw_nil ?_
          refine in_normal (?_)
          refine Ends.keep [(1, .eq _), (5, .eq _), (14, .eq _), (15, .eq _), (16, .eq _)] (.cons rfl (.cons rfl (.cons rfl (.cons rfl (.cons rfl .nil))))) ?_
          refine ends_then ?_
          -- region 12
          refine cw_region ?_
          refine lw_v rfl rfl (ok_addi rfl (.n rfl) rfl rfl (fun _ => ⟨by omega, by omega⟩)) ?_
          refine lw_v rfl rfl (ok_move rfl (.n rfl) rfl) ?_
          refine lw_nil ?_
          -- BACK
          refine ends_back (k + 1) (.cons rfl (.cons rfl (.cons rfl (.cons rfl (.cons rfl .nil))))) ⟨by omega, by rw [← within_step hlt hkl hft hxe hxx0 hcap.1]; exact hS.tail⟩ (by omega)
        ·
          exact absurd (of_decide_eq_false h43) (by omega)
  ·
    refine cw_exit ?_
    refine then_exit (then_exit (in_exit (?_)))
    refine Ends.keep [(5, .eq _)] (.cons rfl .nil) ?_
    refine ends_then ?_
    refine cw_seq ?_
    -- region 13
    refine cw_region ?_
    refine lw_v rfl rfl (ok_move rfl (.n rfl) rfl) ?_
    refine lw_v rfl rfl (ok_assign rfl (.n rfl) rfl) ?_
    refine lw_nil ?_
    refine Ends.keep [(4, .eq _)] (.cons rfl .nil) ?_
    refine ends_then ?_
    refine cw_ret ?_
    exact end_ret (res1 Try.results68 rfl) ⟨A5, c5, rfl, hS.below, fun b hb => (hS.ge _ (.head _) rfl b hb), by rw [show withinL n l = withinTo n l k by rw [show k = n.arcs.length by have := of_decide_eq_false h17; omega, within_end]]; exact hS.ok _ (.head _)⟩

end Go.Proofs.Ytnpgeohkmdcbkaa.Aq

namespace Go.Proofs.Ytnpgeohkmdcbkaa.Aq
open Go Go.RowKit

theorem getD_memA {l : List (Int × Int × Int)} {k : Nat} (h : k < l.length) : l.getD k (0, 0, 0) ∈ l := by
  simp [List.getD_eq_getElem?_getD, h]
theorem among15 (x : Int) : 0 ≤ among x 15 ∧ among x 15 < 15 := ⟨Int.emod_nonneg _ (by decide), Int.emod_lt_of_pos _ (by decide)⟩
theorem takelen {α : Type} (l : List α) : (if (40 : Int) < (l.length : Int) then (40 : Int) else (l.length : Int)) = ((l.take 40).length : Int) ∧ (l.take 40).length ≤ l.length := by
  rw [List.length_take]
  constructor
  · split <;> omega
  · omega
theorem takeS {B : Nat} {we w : World} {L : List Asn} {A : Option Addr} {c : Nat} {l : List (Int × Int × Int)} (h : St B we w L) (hm : sl eArc 3 A l.length c l ∈ L) : St B we w (sl eArc 3 A (l.take 40).length c (l.take 40) :: L) := by
  have := h.take hm (l.take 40).length (takelen l).2
  rwa [show l.take (l.take 40).length = l.take 40 by rw [List.length_take]; rcases Nat.le_total 40 l.length with h | h; rw [Nat.min_eq_left h]; rw [Nat.min_eq_right h, List.take_length, List.take_of_length_le h]] at this
theorem capeq {x c : Int} (hx : x = if c < 0 then -(c + 1) else c) (h0 : 0 ≤ x) : x.tmod 1125899906842624 = capOf c := by
  rw [Int.tmod_eq_emod_of_nonneg h0, hx]
  rfl
theorem someT_eq {n : Nt} (h : (someN n).S = among n.T (someN n).N) (h0 : 0 ≤ (someN n).S) : (someN n).T = ((someN n).S + 1).tmod (someN n).N := by
  rw [Int.tmod_eq_emod_of_nonneg (by omega)]
  exact if_pos h
theorem someAll (n : Nt) {k : Nat} (h : (n.arcs.take 40).length ≤ k) : (someN n).arcs.take k = (someN n).arcs := by
  refine List.take_of_length_le ?_
  simp only [someN, List.length_map]
  exact h
theorem some_step {n : Nt} {k : Nat} (h : k < (n.arcs.take 40).length) :
    (someN n).arcs.take k ++ [(among ((n.arcs.take 40).getD (k : Int).toNat (0, 0, 0)).1 (someN n).N, among ((n.arcs.take 40).getD (k : Int).toNat (0, 0, 0)).2.1 (someN n).N, capOf ((n.arcs.take 40).getD (k : Int).toNat (0, 0, 0)).2.2)] = (someN n).arcs.take (k + 1) := by
  have hl : k < (someN n).arcs.length := by simp only [someN, List.length_map]; exact h
  rw [List.take_succ_eq_append_getElem hl]
  congr 2
  have e : (n.arcs.take 40).getD (k : Int).toNat (0, 0, 0) = (n.arcs.take 40)[k] := by simp [List.getD_eq_getElem?_getD]; rw [List.getElem?_eq_getElem (by simpa using h)]; simp
  rw [e]
  simp [someN]
theorem aklen (n : Nt) (k : Nat) : ((someN n).arcs.take k).length ≤ 40 := by
  have := (someN_ok n).len
  rw [List.length_take]
  omega


set_option maxRecDepth 10000 in
/-- acequialow.Some: a right net. -/
theorem f24 (n : Nt) (A : Option Addr) (c : Nat) (w : World) (ha : (sl eArc 3 A n.arcs.length c n.arcs).p w) (hrg : (-9223372036854775808 ≤ n.N ∧ n.N ≤ 9223372036854775807) ∧ (-9223372036854775808 ≤ n.S ∧ n.S ≤ 9223372036854775807) ∧ (-9223372036854775808 ≤ n.T ∧ n.T ≤ 9223372036854775807) ∧
      ∀ a ∈ n.arcs, -9223372036854775808 ≤ a.1 ∧ a.1 ≤ 9223372036854775807 ∧ -9223372036854775808 ≤ a.2.1 ∧ a.2.1 ≤ 9223372036854775807 ∧ -9223372036854775808 ≤ a.2.2 ∧ a.2.2 ≤ 9223372036854775807) :
    Calls Try.prog 24 #[netV n A c, .int .i64 16, .int .i64 40] w fun e w' => ∃ A' c', e = .returned (netV (someN n) A' c') ∧ Gr w w' ∧ (∀ b, (own eArc 3 82 A' (someN n).arcs.length c' (someN n).arcs).fp b → w.heap.size ≤ b) ∧ (own eArc 3 82 A' (someN n).arcs.length c' (someN n).arcs).p w' := by
  refine calls_cw Try.func24 rfl Try.ntmps24 rfl ?_
  have hS := (St.start w).arg _ ha rfl (fun b hb => (sl eArc 3 A n.arcs.length c n.arcs).lt ha hb)
  have hNlo := (someN_ok n).lo
  have hNhi := (someN_ok n).hi
  have hSs := (someN_ok n).s0
  have hSs1 := (someN_ok n).s1
  obtain ⟨⟨hN1, hN2⟩, ⟨hS1, hS2⟩, ⟨hT1, hT2⟩, hAr⟩ := hrg
  have ham := among15 n.N
  refine cw_seq ?_
  -- region 0
  refine cw_region ?_
  refine lw_box rfl rfl rfl rfl hS ?_
  clear hS; intro b3 w1 _ _ hS
  refine lw_alloc rfl rfl rfl Try.zeroValue24 hS ?_
  clear hS; intro b6 w2 _ _ hS
  refine lw_nil ?_
  refine Ends.keep [(1, .eq _), (2, .eq _), (3, .eq _), (6, .eq _)] (.cons rfl (.cons rfl (.cons rfl (.cons rfl .nil)))) ?_
  refine ends_then ?_
  refine cw_seq ?_
  -- region 1
  refine cw_region ?_
  refine lw_v rfl rfl (ok_fb rfl (.n rfl) Try.underlying24 rfl Try.sizeOf3 (by decide) rfl) ?_
  refine lw_v rfl rfl (ok_ldb rfl (.n rfl) rfl Try.isAgg3 hS (by rfl)) ?_
  refine lw_v rfl rfl (ok_move rfl (.n rfl) rfl) ?_
  refine lw_v rfl rfl (ok_subi rfl (.n rfl) rfl rfl (fun _ => ⟨by omega, by omega⟩)) ?_
  refine lw_call (f := 69) (xs := [_, _]) rfl rfl rfl Try.call69 rfl (Calls.mono (f69 n.N 15 _ hN1 hN2 (by omega) (by omega)) ?_)
  rintro e w' ⟨rfl, hg⟩
  replace hS := hS.grow hg; clear hg
  refine ⟨_, rfl, ?_⟩
  refine lw_v rfl rfl (ok_eq (ok_addi rfl (.n rfl) rfl rfl (fun _ => ⟨by omega, by omega⟩)) (c' := .int .i64 (someN n).N) (fun _ => rfl)) ?_
  refine lw_v rfl rfl (ok_build rfl (.n rfl) Try.underlying24 Try.zeroValue24 pl24 rfl rfl) ?_
  refine lw_alloc rfl rfl rfl Try.zeroValue24 hS ?_
  clear hS; intro b7 w3 _ _ hS
  refine lw_stS rfl rfl rfl rfl rfl (by kernel_rfl) hS rfl (by rfl) (by rfl) ?_
  clear hS; intro w4 hS
  refine lw_nil ?_
  refine Ends.keep [(2, .eq _), (3, .eq _), (6, .eq _), (7, .eq _)] (.cons rfl (.cons rfl (.cons rfl (.cons rfl .nil)))) ?_
  refine ends_then ?_
  refine cw_seq ?_
  -- region 2
  refine cw_region ?_
  refine lw_v rfl rfl (ok_fb rfl (.n rfl) Try.underlying24 rfl Try.sizeOf3 (by decide) rfl) ?_
  refine lw_v rfl rfl (ok_ldb rfl (.n rfl) rfl Try.isAgg3 hS (by rfl)) ?_
  refine lw_v rfl rfl (ok_fb rfl (.n rfl) Try.underlying24 rfl Try.sizeOf3 (by decide) rfl) ?_
  refine lw_v rfl rfl (ok_ldb rfl (.n rfl) rfl Try.isAgg3 hS (by rfl)) ?_
  refine lw_call (f := 69) (xs := [_, _]) rfl rfl rfl Try.call69 rfl (Calls.mono (f69 n.S (someN n).N _ hS1 hS2 (by omega) (by omega)) ?_)
  rintro e w' ⟨rfl, hg⟩
  replace hS := hS.grow hg; clear hg
  refine ⟨.int .i64 (someN n).S, rfl, ?_⟩
  refine lw_v rfl rfl (ok_fb rfl (.n rfl) Try.underlying24 rfl Try.sizeOf3 (by decide) rfl) ?_
  refine lw_st rfl rfl rfl rfl rfl rfl Try.sizeOf3 hS (by rfl) ?_
  clear hS; intro w5 hS
  refine lw_nil ?_
  refine Ends.keep [(2, .eq _), (3, .eq _), (6, .eq _), (7, .eq _)] (.cons rfl (.cons rfl (.cons rfl (.cons rfl .nil)))) ?_
  refine ends_then ?_
  refine cw_seq ?_
  -- region 3
  refine cw_region ?_
  refine lw_v rfl rfl (ok_fb rfl (.n rfl) Try.underlying24 rfl Try.sizeOf3 (by decide) rfl) ?_
  refine lw_v rfl rfl (ok_ldb rfl (.n rfl) rfl Try.isAgg3 hS (by rfl)) ?_
  refine lw_v rfl rfl (ok_fb rfl (.n rfl) Try.underlying24 rfl Try.sizeOf3 (by decide) rfl) ?_
  refine lw_v rfl rfl (ok_ldb rfl (.n rfl) rfl Try.isAgg3 hS (by rfl)) ?_
  refine lw_call (f := 69) (xs := [_, _]) rfl rfl rfl Try.call69 rfl (Calls.mono (f69 n.T (someN n).N _ hT1 hT2 (by omega) (by omega)) ?_)
  rintro e w' ⟨rfl, hg⟩
  replace hS := hS.grow hg; clear hg
  refine ⟨_, rfl, ?_⟩
  refine lw_v rfl rfl (ok_fb rfl (.n rfl) Try.underlying24 rfl Try.sizeOf3 (by decide) rfl) ?_
  refine lw_st rfl rfl rfl rfl rfl rfl Try.sizeOf3 hS (by rfl) ?_
  clear hS; intro w6 hS
  refine lw_nil ?_
  refine Ends.keep [(2, .eq _), (3, .eq _), (6, .eq _), (7, .eq _)] (.cons rfl (.cons rfl (.cons rfl (.cons rfl .nil)))) ?_
  refine ends_then ?_
  refine cw_cut [(2, .eq _), (3, .eq _), (6, .eq _), (7, .eq _)] (fun _ : Unit => []) (fun _ w' => St w.heap.size w w' [bx b7 [.int .i64 (someN n).N, .int .i64 (someN n).S, .int .i64 (someN n).T, .slice none 0 0] 24, bx b6 (Value.agg #[.int .i64 0, .int .i64 0, .int .i64 0, .slice none 0 0]).cells.toList 24, bx b3 (netV n A c).cells.toList 24, sl eArc 3 A n.arcs.length c n.arcs]) (.cons rfl (.cons rfl (.cons rfl (.cons rfl .nil)))) ?_ ?_
  ·
    refine cw_seq ?_
    -- region 4
    refine cw_region ?_
    refine lw_v rfl rfl (ok_fb rfl (.n rfl) Try.underlying24 rfl Try.sizeOf3 (by decide) rfl) ?_
    refine lw_v rfl rfl (ok_ldb rfl (.n rfl) rfl Try.isAgg3 hS (by rfl)) ?_
    refine lw_v rfl rfl (ok_fb rfl (.n rfl) Try.underlying24 rfl Try.sizeOf3 (by decide) rfl) ?_
    refine lw_v rfl rfl (ok_ldb rfl (.n rfl) rfl Try.isAgg3 hS (by rfl)) ?_
    refine lw_v rfl rfl (ok_eql rfl (.n rfl) rfl rfl) ?_
    refine lw_nil ?_
    refine Ends.keep [(2, .eq _), (3, .eq _), (6, .eq _), (7, .eq _), (34, .eq _)] (.cons rfl (.cons rfl (.cons rfl (.cons rfl (.cons rfl .nil))))) ?_
    refine ends_then ?_
    refine cw_cond rfl (fun h34 => ?_) (fun h34 => ?_)
    ·
      have h34' := of_decide_eq_true h34
      -- region 5
      refine cw_region ?_
      refine lw_v rfl rfl (ok_fb rfl (.n rfl) Try.underlying24 rfl Try.sizeOf3 (by decide) rfl) ?_
      refine lw_v rfl rfl (ok_ldb rfl (.n rfl) rfl Try.isAgg3 hS (by rfl)) ?_
      refine lw_v rfl rfl (ok_addi rfl (.n rfl) rfl rfl (fun _ => ⟨by omega, by omega⟩)) ?_
      refine lw_v rfl rfl (ok_fb rfl (.n rfl) Try.underlying24 rfl Try.sizeOf3 (by decide) rfl) ?_
      refine lw_v rfl rfl (ok_ldb rfl (.n rfl) rfl Try.isAgg3 hS (by rfl)) ?_
      refine lw_v rfl rfl (ok_rem rfl (.n rfl) rfl rfl (fun _ => by omega)) ?_
      refine lw_v rfl rfl (ok_fb rfl (.n rfl) Try.underlying24 rfl Try.sizeOf3 (by decide) rfl) ?_
      refine lw_st rfl rfl rfl rfl rfl rfl Try.sizeOf3 hS (by rfl) ?_
      clear hS; intro w7 hS
      refine lw_nil ?_
      -- CUT
      refine ends_cut () (.cons rfl (.cons rfl (.cons rfl (.cons rfl .nil)))) ?_
      rw [show (someN n).T = ((someN n).S + 1).tmod (someN n).N from someT_eq h34' hSs]; exact hS
    ·
      have h34' := of_decide_eq_false h34
      refine cw_skip ?_
      -- CUT
      refine ends_cut () (.cons rfl (.cons rfl (.cons rfl (.cons rfl .nil)))) ?_
      rw [show (someN n).T = among n.T (someN n).N from if_neg h34']; exact hS
  ·
    clear hS; rintro _ wc hS
    refine cw_seq ?_
    refine cw_seq ?_
    -- region 6
    refine cw_region ?_
    refine lw_v rfl rfl (ok_fb rfl (.n rfl) Try.underlying24 rfl Try.sizeOf22 (by decide) rfl) ?_
    refine lw_v rfl rfl (ok_ldb rfl (.n rfl) rfl Try.isAgg22 hS (by rfl)) ?_
    refine lw_v rfl rfl (ok_fb rfl (.n rfl) Try.underlying24 rfl Try.sizeOf22 (by decide) rfl) ?_
    refine lw_v rfl rfl (ok_ldb rfl (.n rfl) rfl Try.isAgg22 hS (by rfl)) ?_
    refine lw_v rfl rfl (ok_len rfl (.n rfl) Try.underlying22 rfl) ?_
    refine lw_v rfl rfl (ok_move rfl (.n rfl) rfl) ?_
    refine lw_v rfl rfl (ok_min2 rfl (.n rfl) rfl rfl) ?_
    refine lw_v rfl rfl (ok_slto (k := (n.arcs.take 40).length) (enc := eArc) rfl (.n rfl) Try.underlying22 Try.sizeOf82 rfl rfl hS (takelen n.arcs)) ?_
    refine lw_v rfl rfl (ok_len rfl (.n rfl) Try.underlying22 rfl) ?_
    refine lw_v rfl rfl (ok_move rfl (.n rfl) rfl) ?_
    refine lw_nil ?_
    refine Ends.keep [(6, .eq _), (7, .eq _), (49, .eq _), (50, .eq _), (51, .eq _)] (.cons rfl (.cons rfl (.cons rfl (.cons rfl (.cons rfl .nil))))) ?_
    refine ends_then ?_
    refine cw_block ?_
    -- LOOP at region 7: changed live slots [51], kept [6, 7, 49, 50]
    refine cw_loop [(6, .eq _), (7, .eq _), (49, .eq _), (50, .eq _)] (fun k : Nat => [(51, .eq (.int .i64 k))]) (fun k w' => k ≤ (n.arcs.take 40).length ∧ ∃ A' c', St w.heap.size w w' [own eArc 3 82 A' ((someN n).arcs.take k).length c' ((someN n).arcs.take k), sl eArc 3 A (n.arcs.take 40).length c (n.arcs.take 40), bx b7 [.int .i64 (someN n).N, .int .i64 (someN n).S, .int .i64 (someN n).T, .slice A' ((someN n).arcs.take k).length c'] 24, bx b6 (Value.agg #[.int .i64 0, .int .i64 0, .int .i64 0, .slice none 0 0]).cells.toList 24, bx b3 (netV n A c).cells.toList 24, sl eArc 3 A n.arcs.length c n.arcs]) (fun k => (n.arcs.take 40).length - k) 0 (.cons rfl (.cons rfl (.cons rfl (.cons rfl .nil)))) (.cons rfl (.cons rfl (.cons rfl (.cons rfl (.cons rfl .nil))))) ⟨Nat.zero_le _, none, 0, ((takeS hS (.tail _ (.tail _ (.tail _ (.head _))))).nil eArc 3 82)⟩ ?_
    clear hS
    rintro k wr ⟨hk, A', c', hS⟩
    refine cw_seq ?_
    -- region 7
    refine cw_region ?_
    refine lw_v rfl rfl (ok_lss rfl (.n rfl) rfl rfl) ?_
    refine lw_nil ?_
    refine Ends.keep [(6, .eq _), (7, .eq _), (49, .eq _), (50, .eq _), (51, .eq _), (52, .eq _)] (.cons rfl (.cons rfl (.cons rfl (.cons rfl (.cons rfl (.cons rfl .nil)))))) ?_
    refine ends_then ?_
    refine cw_seq ?_
    refine cw_cond rfl (fun h52 => ?_) (fun h52 => ?_)
    ·
      have h40 : (n.arcs.take 40).length ≤ 40 := by rw [List.length_take]; omega
      have hlt := of_decide_eq_true h52
      have hlt' : k < (n.arcs.take 40).length := by omega
      obtain ⟨ha1, ha2, ha3, ha4, ha5, ha6⟩ := hAr _ (List.mem_of_mem_take (getD_memA (l := n.arcs.take 40) (k := (k : Int).toNat) (by omega)))
      refine cw_skip ?_
      refine ends_then ?_
      refine cw_seq ?_
      refine cw_block ?_
      refine cw_seq ?_
      -- region 8
      refine cw_region ?_
      refine lw_v rfl rfl (ok_ix rfl (.n rfl) Try.underlying22 Try.sizeOf82 rfl rfl hS (fun _ => ⟨by omega, by omega⟩)) ?_
      refine lw_v rfl rfl (ok_ldxS rfl (.n rfl) rfl Try.isAgg82 Try.sizeOf82 hS (fun _ => ⟨by omega, by omega⟩)) ?_
      refine lw_alloc rfl rfl rfl Try.zeroValue82 hS ?_
      clear hS; intro b9 w8 _ _ hS
      refine lw_stS rfl rfl rfl rfl rfl (by kernel_rfl) hS rfl (by rfl) (by rfl) ?_
      clear hS; intro w9 hS
      refine lw_nil ?_
      refine Ends.keep [(6, .eq _), (7, .eq _), (9, .eq _), (49, .eq _), (50, .eq _), (51, .eq _)] (.cons rfl (.cons rfl (.cons rfl (.cons rfl (.cons rfl (.cons rfl .nil)))))) ?_
      refine ends_then ?_
      refine cw_seq ?_
      -- region 9
      refine cw_region ?_
      refine lw_v rfl rfl (ok_fb rfl (.n rfl) Try.underlying82 rfl Try.sizeOf2 (by decide) rfl) ?_
      refine lw_v rfl rfl (ok_ldb rfl (.n rfl) rfl Try.isAgg2 hS (by rfl)) ?_
      refine lw_v rfl rfl (ok_assign rfl (.n rfl) rfl) ?_
      refine lw_nil ?_
      refine Ends.keep [(6, .eq _), (7, .eq _), (9, .eq _), (10, .eq _), (49, .eq _), (50, .eq _), (51, .eq _)] (.cons rfl (.cons rfl (.cons rfl (.cons rfl (.cons rfl (.cons rfl (.cons rfl .nil))))))) ?_
      refine ends_then ?_
      refine cw_cut [(6, .eq _), (7, .eq _), (9, .eq _), (49, .eq _), (50, .eq _), (51, .eq _)] (fun x : Int => [(10, .eq (.int .i64 x))]) (fun x w' => (x = (if ((n.arcs.take 40).getD (k : Int).toNat (0, 0, 0)).2.2 < 0 then -(((n.arcs.take 40).getD (k : Int).toNat (0, 0, 0)).2.2 + 1) else ((n.arcs.take 40).getD (k : Int).toNat (0, 0, 0)).2.2) ∧ 0 ≤ x ∧ x ≤ 9223372036854775807) ∧ St w.heap.size w w' (bx b9 (eArc ((n.arcs.take 40).getD (k : Int).toNat (0, 0, 0))).toArray.toList 82 :: [own eArc 3 82 A' ((someN n).arcs.take k).length c' ((someN n).arcs.take k), sl eArc 3 A (n.arcs.take 40).length c (n.arcs.take 40), bx b7 [.int .i64 (someN n).N, .int .i64 (someN n).S, .int .i64 (someN n).T, .slice A' ((someN n).arcs.take k).length c'] 24, bx b6 (Value.agg #[.int .i64 0, .int .i64 0, .int .i64 0, .slice none 0 0]).cells.toList 24, bx b3 (netV n A c).cells.toList 24, sl eArc 3 A n.arcs.length c n.arcs])) (.cons rfl (.cons rfl (.cons rfl (.cons rfl (.cons rfl (.cons rfl .nil)))))) ?_ ?_
      ·
        refine cw_seq ?_
        -- region 10
        refine cw_region ?_
        refine lw_v rfl rfl (ok_move rfl (.n rfl) rfl) ?_
        refine lw_v rfl rfl (ok_lss rfl (.n rfl) rfl rfl) ?_
        refine lw_nil ?_
        refine Ends.keep [(6, .eq _), (7, .eq _), (9, .eq _), (10, .eq _), (49, .eq _), (50, .eq _), (51, .eq _), (58, .eq _)] (.cons rfl (.cons rfl (.cons rfl (.cons rfl (.cons rfl (.cons rfl (.cons rfl (.cons rfl .nil)))))))) ?_
        refine ends_then ?_
        refine cw_cond rfl (fun h58 => ?_) (fun h58 => ?_)
        ·
          have h58' := of_decide_eq_true h58
          -- region 11
          refine cw_region ?_
          refine lw_v rfl rfl (ok_move rfl (.n rfl) rfl) ?_
          refine lw_v rfl rfl (ok_addi rfl (.n rfl) rfl rfl (fun _ => ⟨by omega, by omega⟩)) ?_
          refine lw_v rfl rfl (ok_neg rfl (.n rfl) rfl (fun _ => ⟨by omega, by omega⟩)) ?_
          refine lw_v rfl rfl (ok_assign rfl (.n rfl) rfl) ?_
          refine lw_nil ?_
          -- CUT
          refine ends_cut _ (.cons rfl (.cons rfl (.cons rfl (.cons rfl (.cons rfl (.cons rfl (.cons rfl .nil))))))) ⟨⟨by rw [if_pos h58'], by omega, by omega⟩, hS⟩
        ·
          have h58' := of_decide_eq_false h58
          refine cw_skip ?_
          -- CUT
          refine ends_cut _ (.cons rfl (.cons rfl (.cons rfl (.cons rfl (.cons rfl (.cons rfl (.cons rfl .nil))))))) ⟨⟨by rw [if_neg h58'], by omega, by omega⟩, hS⟩
      ·
        clear hS; rintro x wc ⟨⟨hxe, hxx0, hxx1⟩, hS⟩
        -- region 12
        refine cw_draw (by kernel_rfl) (List.take 16 _) (List.drop 16 _) (List.take_append_drop 16 _).symm (by kernel_rfl) ?_
        refine free_v (ok_fb rfl (.n rfl) Try.underlying24 rfl Try.sizeOf22 (by decide) rfl) ?_
        refine free_v (ok_ldb rfl (.n rfl) rfl Try.isAgg22 hS (by rfl)) ?_
        refine free_v (ok_fb rfl (.n rfl) Try.underlying82 rfl Try.sizeOf3 (by decide) rfl) ?_
        refine free_v (ok_ldb rfl (.n rfl) rfl Try.isAgg3 hS (by rfl)) ?_
        refine free_v (ok_fb rfl (.n rfl) Try.underlying24 rfl Try.sizeOf3 (by decide) rfl) ?_
        refine free_v (ok_ldb rfl (.n rfl) rfl Try.isAgg3 hS (by rfl)) ?_
        refine free_cons (ok_callv (.int .i64 (among ((n.arcs.take 40).getD (k : Int).toNat (0, 0, 0)).1 (someN n).N)) rfl rfl Try.call69 rfl (fun w _ => f69 _ _ w (by omega) (by omega) (by omega) (by omega))) ?_
        refine free_v (ok_fb rfl (.n rfl) Try.underlying82 rfl Try.sizeOf3 (by decide) rfl) ?_
        refine free_v (ok_ldb rfl (.n rfl) rfl Try.isAgg3 hS (by rfl)) ?_
        refine free_v (ok_fb rfl (.n rfl) Try.underlying24 rfl Try.sizeOf3 (by decide) rfl) ?_
        refine free_v (ok_ldb rfl (.n rfl) rfl Try.isAgg3 hS (by rfl)) ?_
        refine free_cons (ok_callv (.int .i64 (among ((n.arcs.take 40).getD (k : Int).toNat (0, 0, 0)).2.1 (someN n).N)) rfl rfl Try.call69 rfl (fun w _ => f69 _ _ w (by omega) (by omega) (by omega) (by omega))) ?_
        refine free_v (ok_move rfl (.n rfl) rfl) ?_
        refine free_v (ok_eq (ok_rem rfl (.n rfl) rfl rfl (fun _ => by omega)) (c' := .int .i64 (capOf ((n.arcs.take 40).getD (k : Int).toNat (0, 0, 0)).2.2)) (fun _ => congrArg (Value.int .i64) (capeq hxe hxx0))) ?_
        refine free_v (ok_build rfl (.n rfl) Try.underlying82 Try.zeroValue82 pl82 rfl rfl) ?_
        refine free_cons (ok_ls (enc := eArc) [(among ((n.arcs.take 40).getD (k : Int).toNat (0, 0, 0)).1 (someN n).N, among ((n.arcs.take 40).getD (k : Int).toNat (0, 0, 0)).2.1 (someN n).N, capOf ((n.arcs.take 40).getD (k : Int).toNat (0, 0, 0)).2.2)] rfl rfl Try.underlying22 Try.sizeOf82 Try.zeroValue82 rfl (by kernel_rfl) rfl (by decide) (by decide)) ?_
        refine free_nil ?_
        intro w10 hg_
        refine LW.opened (s := 77) rfl ?_
        rintro _ ⟨A77, c77, rfl, ho_, hf_⟩; replace hS := hS.new hg_ _ ho_ hf_; clear ho_ hf_ hg_
        refine lw_append (enc := eArc) rfl rfl rfl Try.underlying22 info82 rfl rfl rfl hS (by decide) (by have := aklen n k; omega) (by have := aklen n k; omega) ?_
        intro A78 c78 w11 hS1; replace hS := hS1 _ (Rep.r); clear hS1
        refine lw_v rfl rfl (ok_fb rfl (.n rfl) Try.underlying24 rfl Try.sizeOf22 (by decide) rfl) ?_
        refine lw_st rfl rfl rfl rfl rfl rfl Try.sizeOf22 hS (by rfl) ?_
        clear hS; intro w12 hS
        refine lw_nil ?_
        refine in_normal (?_)
        refine Ends.keep [(6, .eq _), (7, .eq _), (49, .eq _), (50, .eq _), (51, .eq _)] (.cons rfl (.cons rfl (.cons rfl (.cons rfl (.cons rfl .nil))))) ?_
        refine ends_then ?_
        -- region 13
        refine cw_region ?_
        refine lw_v rfl rfl (ok_addi rfl (.n rfl) rfl rfl (fun _ => ⟨by omega, by omega⟩)) ?_
        refine lw_v rfl rfl (ok_move rfl (.n rfl) rfl) ?_
        refine lw_nil ?_
        -- BACK
        rw [some_step hlt'] at hS
        refine ends_back (k + 1) (.cons rfl (.cons rfl (.cons rfl (.cons rfl (.cons rfl .nil))))) ⟨by omega, A78, c78, (hS.swap.tail).tail⟩ (by omega)
    ·
      refine cw_exit ?_
      refine then_exit (then_exit (in_exit (?_)))
      refine Ends.keep [(6, .eq _), (7, .eq _)] (.cons rfl (.cons rfl .nil)) ?_
      refine ends_then ?_
      refine cw_seq ?_
      -- region 14
      refine cw_region ?_
      refine lw_v rfl rfl (ok_ldS rfl (.n rfl) rfl Try.isAgg24 Try.sizeOf24 hS rfl) ?_
      refine lw_stS rfl rfl rfl rfl rfl (by kernel_rfl) hS rfl (by rfl) (by rfl) ?_
      clear hS; intro w13 hS
      refine lw_nil ?_
      refine Ends.keep [(6, .eq _)] (.cons rfl .nil) ?_
      refine ends_then ?_
      refine cw_ret ?_
      rw [someAll n (by have := of_decide_eq_false h52; omega)] at hS
      exact end_ret (resS Try.results24 rfl Try.isAgg24 Try.sizeOf24 hS rfl) ⟨A', c', rfl, hS.below, fun b hb => hS.ge _ (.head _) rfl b hb, hS.ok _ (.head _)⟩

end Go.Proofs.Ytnpgeohkmdcbkaa.Aq

namespace Go.Proofs.Ytnpgeohkmdcbkaa.Aq
open Go Go.RowKit

def heightsTo (N : Nat) (l : List Int) (k : Nat) : List Int := (List.range N).map fun i => if i < k ∧ i < l.length then among (l.getD i 0) (N + 1) else 0
/-- Heights of a row, out of any numbers. -/
def heightsF (c : Cs) (l : List Int) : List Int := ((heightsTo c.N l c.N).set (c.T : Int).toNat 0).set (c.S : Int).toNat c.N
theorem heightsTo0 (N : Nat) (l : List Int) : heightsTo N l 0 = List.replicate N 0 := by
  unfold heightsTo
  simp [List.map_const']
theorem heights_skip {N : Nat} {l : List Int} {k : Nat} (h : l.length ≤ k) : heightsTo N l k = heightsTo N l (k + 1) := by
  unfold heightsTo
  refine List.map_congr_left fun i _ => ?_
  by_cases hi : i < l.length
  · rw [if_pos ⟨by omega, hi⟩, if_pos ⟨by omega, hi⟩]
  · rw [if_neg (fun h => hi h.2), if_neg (fun h => hi h.2)]
theorem heights_step {N : Nat} {l : List Int} {k : Nat} (hk : k < N) (h : (k : Int) < l.length) : (heightsTo N l k).set (k : Int).toNat (among (l.getD (k : Int).toNat 0) (N + 1)) = heightsTo N l (k + 1) := by
  rw [Int.toNat_natCast]
  unfold heightsTo
  refine List.ext_getElem (by simp) fun i h1 h2 => ?_
  rw [List.getElem_set]
  by_cases hik : k = i
  · subst hik
    simp only [List.getElem_map, List.getElem_range, if_true]
    rw [if_pos ⟨by omega, by omega⟩]
  · rw [if_neg hik]
    simp only [List.getElem_map, List.getElem_range]
    by_cases h3 : i < k ∧ i < l.length
    · rw [if_pos h3, if_pos ⟨by omega, h3.2⟩]
    · rw [if_neg h3, if_neg (fun h => h3 ⟨by omega, h.2⟩)]
theorem getD_memI {l : List Int} {k : Nat} (h : k < l.length) : l.getD k 0 ∈ l := by
  simp [List.getD_eq_getElem?_getD, h]

set_option maxRecDepth 10000 in
/-- acequialaw06.Heights. -/
theorem f25 (c : Cs) (q : Q6) (l : List Int) (A1 : Option Addr) (c1 : Nat) (w : World) (hwf : WF c) (hl : (sl (eInt .i64) 1 A1 l.length c1 l).p w) (hrng : ∀ x ∈ l, -9223372036854775808 ≤ x ∧ x ≤ 9223372036854775807) :
    Calls Try.prog 25 #[csV c q, .slice A1 l.length c1] w fun e w' => ∃ A9 c9, e = .returned (.slice A9 c.N c9) ∧ Gr w w' ∧ (∀ b, (own (eInt .i64) 1 3 A9 c.N c9 (heightsF c l)).fp b → w.heap.size ≤ b) ∧ (own (eInt .i64) 1 3 A9 c.N c9 (heightsF c l)).p w' := by
  refine calls_cw Try.func25 rfl Try.ntmps25 rfl ?_
  have hS := (St.start w).arg _ hl rfl (fun b hb => (sl (eInt .i64) 1 A1 l.length c1 l).lt hl hb)
  obtain ⟨hlo, hhi, hs, ht, hne, _⟩ := id hwf
  have hll := hl.2.1
  refine cw_seq ?_
  -- region 0
  refine cw_region ?_
  refine lw_box rfl rfl rfl rfl hS ?_
  clear hS; intro b2 w1 _ _ hS
  refine lw_v rfl rfl (ok_assign rfl (.n rfl) rfl) ?_
  refine lw_nil ?_
  refine Ends.keep [(1, .eq _), (2, .eq _)] (.cons rfl (.cons rfl .nil)) ?_
  refine ends_then ?_
  refine cw_seq ?_
  -- region 1
  refine cw_region ?_
  refine lw_v rfl rfl (ok_fb rfl (.n rfl) Try.underlying29 rfl Try.sizeOf3 (by decide) rfl) ?_
  refine lw_v rfl rfl (ok_ldb rfl (.n rfl) rfl Try.isAgg3 hS (by rfl)) ?_
  refine lw_make (enc := (eInt .i64)) rfl rfl rfl Try.underlying26 info3 rfl rfl rfl rfl (by omega) (by omega) hS ?_
  clear hS; intro A9 c9 w2 _ hS
  refine lw_v rfl rfl (ok_assign rfl (.n rfl) rfl) ?_
  refine lw_nil ?_
  refine Ends.keep [(1, .eq _), (2, .eq _), (5, .eq _)] (.cons rfl (.cons rfl (.cons rfl .nil))) ?_
  refine ends_then ?_
  refine cw_seq ?_
  refine cw_seq ?_
  -- region 2
  refine cw_region ?_
  refine lw_v rfl rfl (ok_move rfl (.n rfl) rfl) ?_
  refine lw_v rfl rfl (ok_len rfl (.n rfl) Try.underlying26 rfl) ?_
  refine lw_v rfl rfl (ok_move rfl (.n rfl) rfl) ?_
  refine lw_nil ?_
  refine Ends.keep [(1, .eq _), (2, .eq _), (5, .eq _), (11, .eq _), (12, .eq _)] (.cons rfl (.cons rfl (.cons rfl (.cons rfl (.cons rfl .nil))))) ?_
  refine ends_then ?_
  refine cw_block ?_
  -- LOOP at region 3: changed live slots [12], kept [1, 2, 5, 11]
  refine cw_loop [(1, .eq _), (2, .eq _), (5, .eq _), (11, .eq _)] (fun k : Nat => [(12, .eq (.int .i64 k))]) (fun k w' => k ≤ c.N ∧ St w.heap.size w w' [own (eInt .i64) 1 3 A9 c.N c9 (heightsTo c.N l k), bx b2 (csV c q).cells.toList 29, sl (eInt .i64) 1 A1 l.length c1 l]) (fun k => c.N - k) 0 (.cons rfl (.cons rfl (.cons rfl (.cons rfl .nil)))) (.cons rfl (.cons rfl (.cons rfl (.cons rfl (.cons rfl .nil))))) ⟨Nat.zero_le _, by rw [heightsTo0]; exact hS⟩ ?_
  clear hS
  rintro k wr ⟨hk, hS⟩
  refine cw_seq ?_
  -- region 3
  refine cw_region ?_
  refine lw_v rfl rfl (ok_lss rfl (.n rfl) rfl rfl) ?_
  refine lw_nil ?_
  refine Ends.keep [(1, .eq _), (2, .eq _), (5, .eq _), (11, .eq _), (12, .eq _), (13, .eq _)] (.cons rfl (.cons rfl (.cons rfl (.cons rfl (.cons rfl (.cons rfl .nil)))))) ?_
  refine ends_then ?_
  refine cw_seq ?_
  refine cw_cond rfl (fun h13 => ?_) (fun h13 => ?_)
  ·
    have hlt := of_decide_eq_true h13
    refine cw_skip ?_
    refine ends_then ?_
    refine cw_seq ?_
    refine cw_block ?_
    refine cw_seq ?_
    -- region 4
    refine cw_region ?_
    refine lw_v rfl rfl (ok_move rfl (.n rfl) rfl) ?_
    refine lw_v rfl rfl (ok_assign rfl (.n rfl) rfl) ?_
    refine lw_nil ?_
    refine Ends.keep [(1, .eq _), (2, .eq _), (5, .eq _), (6, .eq _), (11, .eq _), (12, .eq _)] (.cons rfl (.cons rfl (.cons rfl (.cons rfl (.cons rfl (.cons rfl .nil)))))) ?_
    refine ends_then ?_
    refine cw_seq ?_
    -- region 5
    refine cw_region ?_
    refine lw_v rfl rfl (ok_move rfl (.n rfl) rfl) ?_
    refine lw_v rfl rfl (ok_move rfl (.n rfl) rfl) ?_
    refine lw_v rfl rfl (ok_len rfl (.n rfl) Try.underlying26 rfl) ?_
    refine lw_v rfl rfl (ok_lss rfl (.n rfl) rfl rfl) ?_
    refine lw_nil ?_
    refine Ends.keep [(1, .eq _), (2, .eq _), (5, .eq _), (6, .eq _), (11, .eq _), (12, .eq _), (18, .eq _)] (.cons rfl (.cons rfl (.cons rfl (.cons rfl (.cons rfl (.cons rfl (.cons rfl .nil))))))) ?_
    refine ends_then ?_
    refine cw_cond rfl (fun h18 => ?_) (fun h18 => ?_)
    ·
      have h18' := of_decide_eq_true h18
      obtain ⟨hx0, hx1⟩ := hrng _ (getD_memI (l := l) (k := (k : Int).toNat) (by omega))
      -- region 6
      refine cw_draw (by kernel_rfl) (List.take 10 _) (List.drop 10 _) (List.take_append_drop 10 _).symm (by kernel_rfl) ?_
      refine free_v (ok_move rfl (.n rfl) rfl) ?_
      refine free_v (ok_move rfl (.n rfl) rfl) ?_
      refine free_v (ok_move rfl (.n rfl) rfl) ?_
      refine free_v (ok_move rfl (.n rfl) rfl) ?_
      refine free_v (ok_ix rfl (.n rfl) Try.underlying26 Try.sizeOf3 rfl rfl hS (fun _ => ⟨by omega, by omega⟩)) ?_
      refine free_v (ok_ldx rfl (.n rfl) rfl Try.isAgg3 hS (fun _ => ⟨by omega, by omega⟩) (by rfl)) ?_
      refine free_v (ok_fb rfl (.n rfl) Try.underlying29 rfl Try.sizeOf3 (by decide) rfl) ?_
      refine free_v (ok_ldb rfl (.n rfl) rfl Try.isAgg3 hS (by rfl)) ?_
      refine free_v (ok_addi rfl (.n rfl) rfl rfl (fun _ => ⟨by omega, by omega⟩)) ?_
      refine free_cons (ok_callv (.int .i64 (among (l.getD (k : Int).toNat 0) (c.N + 1))) rfl rfl Try.call69 rfl (fun w _ => f69 _ _ w (by omega) (by omega) (by omega) (by omega))) ?_
      refine free_nil ?_
      intro w3 hg_; replace hS := hS.grow hg_; clear hg_
      refine lw_v rfl rfl (ok_ix rfl (.n rfl) Try.underlying26 Try.sizeOf3 rfl rfl hS (fun _ => ⟨by omega, by omega⟩)) ?_
      refine lw_stx (enc := (eInt .i64)) (_) rfl rfl rfl rfl rfl rfl Try.sizeOf3 hS (⟨by omega, by omega⟩) ?_
      clear hS; intro w4 hS
      refine lw_nil ?_
      refine in_normal (?_)
      refine Ends.keep [(1, .eq _), (2, .eq _), (5, .eq _), (11, .eq _), (12, .eq _)] (.cons rfl (.cons rfl (.cons rfl (.cons rfl (.cons rfl .nil))))) ?_
      refine ends_then ?_
      -- region 7
      refine cw_region ?_
      refine lw_v rfl rfl (ok_addi rfl (.n rfl) rfl rfl (fun _ => ⟨by omega, by omega⟩)) ?_
      refine lw_v rfl rfl (ok_move rfl (.n rfl) rfl) ?_
      refine lw_nil ?_
      -- BACK
      refine ends_back (k + 1) (.cons rfl (.cons rfl (.cons rfl (.cons rfl (.cons rfl .nil))))) ⟨by omega, by rw [← heights_step (by omega) h18']; exact hS⟩ (by omega)
    ·
      have h18' := of_decide_eq_false h18
      refine cw_skip ?_
      refine in_normal (?_)
      refine ends_then ?_
      -- region 7
      refine cw_region ?_
      refine lw_v rfl rfl (ok_addi rfl (.n rfl) rfl rfl (fun _ => ⟨by omega, by omega⟩)) ?_
      refine lw_v rfl rfl (ok_move rfl (.n rfl) rfl) ?_
      refine lw_nil ?_
      -- BACK
      refine ends_back (k + 1) (.cons rfl (.cons rfl (.cons rfl (.cons rfl (.cons rfl .nil))))) ⟨by omega, by rw [← heights_skip (by omega)]; exact hS⟩ (by omega)
  ·
    have hkN : k = c.N := by have := of_decide_eq_false h13; omega
    refine cw_exit ?_
    refine then_exit (then_exit (in_exit (?_)))
    refine Ends.keep [(2, .eq _), (5, .eq _)] (.cons rfl (.cons rfl .nil)) ?_
    refine ends_then ?_
    refine cw_seq ?_
    -- region 8
    refine cw_draw2 (by kernel_rfl) (List.take 10 _) (List.drop 10 _) [false, false, false, false, false, false, false, false, false, true] (List.take_append_drop 10 _).symm (by kernel_rfl) (fun w' => ∃ xs, St w.heap.size w w' [own (eInt .i64) 1 3 A9 c.N c9 (xs), bx b2 (csV c q).cells.toList 29, sl (eInt .i64) 1 A1 l.length c1 l]) (fun vs w' => match vs with | [] => St w.heap.size w w' [own (eInt .i64) 1 3 A9 c.N c9 (heightsTo c.N l k), bx b2 (csV c q).cells.toList 29, sl (eInt .i64) 1 A1 l.length c1 l] | [_] => St w.heap.size w w' [own (eInt .i64) 1 3 A9 c.N c9 ((heightsTo c.N l k).set (c.T : Int).toNat 0), bx b2 (csV c q).cells.toList 29, sl (eInt .i64) 1 A1 l.length c1 l] | _ => False) (fun vs w' h => match vs, h with | [], h => ⟨_, h⟩ | [_], h => ⟨_, h⟩) hS.drew ?_
    refine free2_v (ok_each ⟨_, hS⟩ (fun w_ ⟨xs, hS⟩ => ok_move rfl (.n rfl) rfl)) rfl ?_
    refine free2_v (ok_each ⟨_, hS⟩ (fun w_ ⟨xs, hS⟩ => ok_fb rfl (.n rfl) Try.underlying29 rfl Try.sizeOf3 (by decide) rfl)) rfl ?_
    refine free2_v (ok_each ⟨_, hS⟩ (fun w_ ⟨xs, hS⟩ => ok_ldb rfl (.n rfl) rfl Try.isAgg3 hS (by rfl))) rfl ?_
    refine free2_v (ok_each ⟨_, hS⟩ (fun w_ ⟨xs, hS⟩ => ok_move rfl (.n rfl) rfl)) rfl ?_
    refine free2_v (ok_each ⟨_, hS⟩ (fun w_ ⟨xs, hS⟩ => ok_fb rfl (.n rfl) Try.underlying29 rfl Try.sizeOf3 (by decide) rfl)) rfl ?_
    refine free2_v (ok_each ⟨_, hS⟩ (fun w_ ⟨xs, hS⟩ => ok_ldb rfl (.n rfl) rfl Try.isAgg3 hS (by rfl))) rfl ?_
    refine free2_v (ok_each ⟨_, hS⟩ (fun w_ ⟨xs, hS⟩ => ok_fb rfl (.n rfl) Try.underlying29 rfl Try.sizeOf3 (by decide) rfl)) rfl ?_
    refine free2_v (ok_each ⟨_, hS⟩ (fun w_ ⟨xs, hS⟩ => ok_ldb rfl (.n rfl) rfl Try.isAgg3 hS (by rfl))) rfl ?_
    refine free2_v (ok_each ⟨_, hS⟩ (fun w_ ⟨xs, hS⟩ => ok_ix rfl (.n rfl) Try.underlying26 Try.sizeOf3 rfl rfl hS (fun _ => ⟨by omega, by omega⟩))) rfl ?_
    refine free2_w ?_ ?_
    ·
      intro vs wq hv hP
      obtain rfl : vs = [] := List.eq_nil_of_length_eq_zero hv
      have hS9 : St w.heap.size w wq [own (eInt .i64) 1 3 A9 c.N c9 (heightsTo c.N l k), bx b2 (csV c q).cells.toList 29, sl (eInt .i64) 1 A1 l.length c1 l] := hP
      refine lw_stx (enc := (eInt .i64)) (0) rfl rfl rfl rfl rfl rfl Try.sizeOf3 hS9 ⟨by omega, by omega⟩ ?_
      intro w9 hS10
      exact lw_nil fun a ha _ _ => ⟨rfl, ha, hS10⟩
    refine free2_nil ?_
    clear hS
    intro vs wq hv hP
    obtain ⟨v0, rfl⟩ : ∃ v, vs = [v] := List.length_eq_one_iff.1 hv
    have hS : St w.heap.size w wq [own (eInt .i64) 1 3 A9 c.N c9 ((heightsTo c.N l k).set (c.T : Int).toNat 0), bx b2 (csV c q).cells.toList 29, sl (eInt .i64) 1 A1 l.length c1 l] := hP
    clear hP hv
    refine lw_v rfl rfl (ok_ix rfl (.n rfl) Try.underlying26 Try.sizeOf3 rfl rfl hS (fun _ => ⟨by omega, by omega⟩)) ?_
    refine lw_stx (enc := (eInt .i64)) (_) rfl rfl rfl rfl rfl rfl Try.sizeOf3 hS (⟨by omega, by omega⟩) ?_
    clear hS; intro w5 hS
    refine lw_nil ?_
    refine Ends.keep [(5, .eq _)] (.cons rfl .nil) ?_
    refine ends_then ?_
    refine cw_seq ?_
    -- region 9
    refine cw_region ?_
    refine lw_v rfl rfl (ok_move rfl (.n rfl) rfl) ?_
    refine lw_v rfl rfl (ok_assign rfl (.n rfl) rfl) ?_
    refine lw_nil ?_
    refine Ends.keep [(4, .eq _)] (.cons rfl .nil) ?_
    refine ends_then ?_
    refine cw_ret ?_
    rw [hkN] at hS
    exact end_ret (res1 Try.results25 rfl) ⟨A9, c9, rfl, hS.below, fun b hb => hS.ge _ (.head _) rfl b hb, hS.ok _ (.head _)⟩

theorem heightsF_len (c : Cs) (l : List Int) : (heightsF c l).length = c.N := by simp [heightsF, heightsTo]
/-- The same, told by the length. -/
theorem f25' (c : Cs) (q : Q6) (l : List Int) (A1 : Option Addr) (c1 : Nat) (w : World) (hwf : WF c) (hl : (sl (eInt .i64) 1 A1 l.length c1 l).p w) (hrng : ∀ x ∈ l, -9223372036854775808 ≤ x ∧ x ≤ 9223372036854775807) :
    Calls Try.prog 25 #[csV c q, .slice A1 l.length c1] w fun e w' => ∃ A9 c9, e = .returned (.slice A9 (heightsF c l).length c9) ∧ Gr w w' ∧ (∀ b, (own (eInt .i64) 1 3 A9 (heightsF c l).length c9 (heightsF c l)).fp b → w.heap.size ≤ b) ∧ (own (eInt .i64) 1 3 A9 (heightsF c l).length c9 (heightsF c l)).p w' :=
  (f25 c q l A1 c1 w hwf hl hrng).mono fun e w' ⟨A9, c9, he, hg, hf, ho⟩ => ⟨A9, c9, by rw [heightsF_len]; exact he, hg, by rw [heightsF_len]; exact hf, by rw [heightsF_len]; exact ho⟩

end Go.Proofs.Ytnpgeohkmdcbkaa.Aq

namespace Go.Proofs.Ytnpgeohkmdcbkaa.Aq
open Go Go.RowKit

/-- The zero of a row. -/
def zeroC : List Value := [.int .i64 0, .int .i64 0, .int .i64 0, .slice none 0 0, .slice none 0 0, .slice none 0 0, .slice none 0 0, .slice none 0 0, .slice none 0 0]
theorem firstTo_succ1 (arcs : List (Int × Int × Int)) (v : Nat) : firstTo arcs (v + 1) = firstTo arcs v ++ [(((ents arcs v).map (·.1)).length : Int)] := by
  rw [firstTo_succ, List.length_map]
theorem row_test {Arc : List Int} {i j : Nat} (h : (decide (Arc.getD (i : Int).toNat 0 = Arc.getD (j : Int).toNat 0) && !decide ((i : Int) = (j : Int))) = true) : (decide (Arc.getD i 0 = Arc.getD j 0) && !decide (i = j)) = true := by
  have e : decide ((i : Int) = (j : Int)) = decide (i = j) := decide_eq_decide.2 (by omega)
  rwa [Int.toNat_natCast, Int.toNat_natCast, e] at h
theorem row_test' {Arc : List Int} {i j : Nat} (h : (decide (Arc.getD (i : Int).toNat 0 = Arc.getD (j : Int).toNat 0) && !decide ((i : Int) = (j : Int))) = false) : ¬ (decide (Arc.getD i 0 = Arc.getD j 0) && !decide (i = j)) = true := by
  have e : decide ((i : Int) = (j : Int)) = decide (i = j) := decide_eq_decide.2 (by omega)
  rw [Int.toNat_natCast, Int.toNat_natCast, e] at h
  rw [h]; decide
set_option maxRecDepth 10000 in
/-- acequiaref02.Make: of a right net. -/
theorem f66 (n : Nt) (A : Option Addr) (c : Nat) (w : World) (hok : NetOk n) (ha : (sl eArc 3 A n.arcs.length c n.arcs).p w) :
    Calls Try.prog 66 #[netV n A c] w fun e w' => ∃ q : Q6, e = .returned (.tuple #[csV (makeF n) q, .int .i64 0]) ∧ Gr w w' ∧ CsNew (makeF n) q w.heap.size ∧ CsAt (makeF n) q w' := by
  refine calls_cw Try.func66 rfl Try.ntmps66 rfl ?_
  have hS := (St.start w).arg _ ha rfl (fun b hb => (sl eArc 3 A n.arcs.length c n.arcs).lt ha hb)
  obtain ⟨hlo, hhi, hs0, hs1, ht0, ht1, hne, hln, _⟩ := id hok
  refine cw_seq ?_
  -- region 0
  refine cw_region ?_
  refine lw_box rfl rfl rfl rfl hS ?_
  clear hS; intro b1 w1 _ _ hS
  refine lw_alloc rfl rfl rfl Try.zeroValue29 hS ?_
  clear hS; intro b2 w2 _ _ hS
  refine lw_v rfl rfl (ok_assign rfl (.n rfl) rfl) ?_
  refine lw_nil ?_
  refine Ends.keep [(1, .eq _), (2, .eq _)] (.cons rfl (.cons rfl .nil)) ?_
  refine ends_then ?_
  refine cw_seq ?_
  -- region 1
  refine cw_region ?_
  refine lw_v rfl rfl (ok_ldS rfl (.n rfl) rfl Try.isAgg24 Try.sizeOf24 hS rfl) ?_
  refine lw_call (f := 94) (xs := [_]) rfl rfl rfl Try.call94 rfl (Calls.mono (f94 n A c _ hok (hS.ok _ (.tail _ (.tail _ (.head _))))) ?_)
  rintro e w' ⟨rfl, hg⟩
  replace hS := hS.grow hg; clear hg
  refine ⟨_, rfl, ?_⟩
  refine lw_v rfl rfl (ok_assign rfl (.n rfl) rfl) ?_
  refine lw_nil ?_
  refine Ends.keep [(1, .eq _), (2, .eq _), (4, .eq _)] (.cons rfl (.cons rfl (.cons rfl .nil))) ?_
  refine ends_then ?_
  refine cw_seq ?_
  refine cw_seq ?_
  -- region 2
  refine cw_region ?_
  refine lw_v rfl rfl (ok_move rfl (.n rfl) rfl) ?_
  refine lw_v rfl rfl (ok_neq rfl (.n rfl) rfl rfl) ?_
  refine lw_nil ?_
  refine Ends.keep [(1, .eq _), (2, .eq _), (4, .eq _), (14, .eq _)] (.cons rfl (.cons rfl (.cons rfl (.cons rfl .nil)))) ?_
  refine ends_then ?_
  refine cw_cond rfl (fun h14 => ?_) (fun h14 => ?_)
  ·
    cases h14
  ·
    replace hS := (((((hS.nil eBool 1 4).nil (eInt .i64) 1 3).nil (eInt .i64) 1 2).nil (eInt .i64) 1 3).nil (eInt .i64) 1 3).nil (eInt .i64) 1 3
    refine cw_skip ?_
    refine ends_then ?_
    refine cw_seq ?_
    -- region 4
    refine cw_region ?_
    refine lw_v rfl rfl (ok_fb rfl (.n rfl) Try.underlying24 rfl Try.sizeOf3 (by decide) rfl) ?_
    refine lw_v rfl rfl (ok_ldb rfl (.n rfl) rfl Try.isAgg3 hS (by rfl)) ?_
    refine lw_v rfl rfl (ok_fb rfl (.n rfl) Try.underlying24 rfl Try.sizeOf3 (by decide) rfl) ?_
    refine lw_v rfl rfl (ok_ldb rfl (.n rfl) rfl Try.isAgg3 hS (by rfl)) ?_
    refine lw_v rfl rfl (ok_fb rfl (.n rfl) Try.underlying24 rfl Try.sizeOf3 (by decide) rfl) ?_
    refine lw_v rfl rfl (ok_ldb rfl (.n rfl) rfl Try.isAgg3 hS (by rfl)) ?_
    refine lw_v rfl rfl (ok_build rfl (.n rfl) Try.underlying29 Try.zeroValue29 pl29 rfl rfl) ?_
    refine lw_alloc rfl rfl rfl Try.zeroValue29 hS ?_
    clear hS; intro b5 w3 _ _ hS
    refine lw_stS rfl rfl rfl rfl rfl (by kernel_rfl) hS rfl (by rfl) (by rfl) ?_
    clear hS; intro w4 hS
    refine lw_nil ?_
    refine Ends.keep [(1, .eq _), (2, .eq _), (5, .eq _)] (.cons rfl (.cons rfl (.cons rfl .nil))) ?_
    refine ends_then ?_
    refine cw_seq ?_
    refine cw_seq ?_
    -- region 5
    refine cw_region ?_
    refine lw_v rfl rfl (ok_assign rfl (.n rfl) rfl) ?_
    refine lw_nil ?_
    refine Ends.keep [(1, .eq _), (2, .eq _), (5, .eq _), (6, .eq _)] (.cons rfl (.cons rfl (.cons rfl (.cons rfl .nil)))) ?_
    refine ends_then ?_
    refine cw_block ?_
    -- LOOP at region 6: changed live slots [6], kept [1, 2, 5]
    refine cw_loop [(1, .eq _), (2, .eq _), (5, .eq _)] (fun v : Nat => [(6, .eq (.int .i64 v))]) (fun v w' => v ≤ n.N.toNat ∧ ∃ q : Q6, St w.heap.size w w' [bx b5 [.int .i64 n.N, .int .i64 n.S, .int .i64 n.T, .slice q.a0 (firstTo n.arcs v).length q.c0, .slice q.a1 ((ents n.arcs v).map (·.1)).length q.c1, .slice q.a2 ([] : List Int).length q.c2, .slice q.a3 ((ents n.arcs v).map (·.2.1)).length q.c3, .slice q.a4 ((ents n.arcs v).map (·.2.2.1)).length q.c4, .slice q.a5 ((ents n.arcs v).map (·.2.2.2)).length q.c5] 29, own (eInt .i64) 1 3 q.a0 (firstTo n.arcs v).length q.c0 (firstTo n.arcs v), own (eInt .i64) 1 3 q.a1 ((ents n.arcs v).map (·.1)).length q.c1 ((ents n.arcs v).map (·.1)), own (eInt .i64) 1 3 q.a2 ([] : List Int).length q.c2 ([] : List Int), own (eInt .i64) 1 2 q.a3 ((ents n.arcs v).map (·.2.1)).length q.c3 ((ents n.arcs v).map (·.2.1)), own (eInt .i64) 1 3 q.a4 ((ents n.arcs v).map (·.2.2.1)).length q.c4 ((ents n.arcs v).map (·.2.2.1)), own eBool 1 4 q.a5 ((ents n.arcs v).map (·.2.2.2)).length q.c5 ((ents n.arcs v).map (·.2.2.2)), bx b2 zeroC 29, bx b1 (netV n A c).cells.toList 24, sl eArc 3 A n.arcs.length c n.arcs]) (fun v => n.N.toNat - v) 0 (.cons rfl (.cons rfl (.cons rfl .nil))) (.cons rfl (.cons rfl (.cons rfl (.cons rfl .nil)))) ⟨Nat.zero_le _, ⟨none, 0, none, 0, none, 0, none, 0, none, 0, none, 0⟩, hS⟩ ?_
    clear hS
    rintro v wr ⟨hv, q, hS⟩
    refine cw_seq ?_
    refine cw_seq ?_
    -- region 6
    refine cw_region ?_
    refine lw_v rfl rfl (ok_move rfl (.n rfl) rfl) ?_
    refine lw_v rfl rfl (ok_fb rfl (.n rfl) Try.underlying24 rfl Try.sizeOf3 (by decide) rfl) ?_
    refine lw_v rfl rfl (ok_ldb rfl (.n rfl) rfl Try.isAgg3 hS (by rfl)) ?_
    refine lw_v rfl rfl (ok_lss rfl (.n rfl) rfl rfl) ?_
    refine lw_nil ?_
    refine Ends.keep [(1, .eq _), (2, .eq _), (5, .eq _), (6, .eq _), (27, .eq _)] (.cons rfl (.cons rfl (.cons rfl (.cons rfl (.cons rfl .nil))))) ?_
    refine ends_then ?_
    refine cw_cond rfl (fun h27 => ?_) (fun h27 => ?_)
    ·
      have hv' := of_decide_eq_true h27
      have hE0 : (firstTo n.arcs v).length = v := by simp [firstTo]
      have hvN : v < 16 := by omega
      refine cw_skip ?_
      refine ends_then ?_
      refine cw_seq ?_
      refine cw_block ?_
      refine cw_seq ?_
      -- region 8
      refine cw_region ?_
      refine lw_v rfl rfl (ok_fb rfl (.n rfl) Try.underlying29 rfl Try.sizeOf26 (by decide) rfl) ?_
      refine lw_v rfl rfl (ok_ldb rfl (.n rfl) rfl Try.isAgg26 hS (by rfl)) ?_
      refine lw_v rfl rfl (ok_fb rfl (.n rfl) Try.underlying29 rfl Try.sizeOf26 (by decide) rfl) ?_
      refine lw_v rfl rfl (ok_ldb rfl (.n rfl) rfl Try.isAgg26 hS (by rfl)) ?_
      refine lw_v rfl rfl (ok_len rfl (.n rfl) Try.underlying26 rfl) ?_
      refine lw_ls (enc := (eInt .i64)) [(((ents n.arcs v).map (·.1)).length : Int)] rfl rfl rfl Try.underlying26 Try.sizeOf3 Try.zeroValue3 rfl (by kernel_rfl) rfl (by decide) (by decide) hS ?_
      clear hS; intro A35 c35 w5 _ hS
      refine lw_append (enc := (eInt .i64)) rfl rfl rfl Try.underlying26 info3 rfl rfl rfl hS (by decide) (by (try simp only [List.length_map]); omega) (by (try simp only [List.length_map]); omega) ?_
      intro A36 c36 w6 hS1; replace hS := hS1 _ (Rep.r); clear hS1
      refine lw_v rfl rfl (ok_fb rfl (.n rfl) Try.underlying29 rfl Try.sizeOf26 (by decide) rfl) ?_
      refine lw_st rfl rfl rfl rfl rfl rfl Try.sizeOf26 hS (by rfl) ?_
      clear hS; intro w7 hS
      refine lw_nil ?_
      refine Ends.keep [(1, .eq _), (2, .eq _), (5, .eq _), (6, .eq _)] (.cons rfl (.cons rfl (.cons rfl (.cons rfl .nil)))) ?_
      refine ends_then ?_
      refine cw_seq ?_
      -- region 9
      refine cw_region ?_
      refine lw_v rfl rfl (ok_assign rfl (.n rfl) rfl) ?_
      refine lw_nil ?_
      refine Ends.keep [(1, .eq _), (2, .eq _), (5, .eq _), (6, .eq _), (7, .eq _)] (.cons rfl (.cons rfl (.cons rfl (.cons rfl (.cons rfl .nil))))) ?_
      refine ends_then ?_
      refine cw_block ?_
      -- LOOP at region 10: changed live slots [7], kept [1, 2, 5, 6]
      refine cw_loop [(1, .eq _), (2, .eq _), (5, .eq _), (6, .eq _)] (fun k : Nat => [(7, .eq (.int .i64 k))]) (fun k w' => k ≤ n.arcs.length ∧ ∃ q : Q6, St w.heap.size w w' [bx b5 [.int .i64 n.N, .int .i64 n.S, .int .i64 n.T, .slice q.a0 (firstTo n.arcs (v + 1)).length q.c0, .slice q.a1 ((entsTo n.arcs v k).map (·.1)).length q.c1, .slice q.a2 ([] : List Int).length q.c2, .slice q.a3 ((entsTo n.arcs v k).map (·.2.1)).length q.c3, .slice q.a4 ((entsTo n.arcs v k).map (·.2.2.1)).length q.c4, .slice q.a5 ((entsTo n.arcs v k).map (·.2.2.2)).length q.c5] 29, own (eInt .i64) 1 3 q.a0 (firstTo n.arcs (v + 1)).length q.c0 (firstTo n.arcs (v + 1)), own (eInt .i64) 1 3 q.a1 ((entsTo n.arcs v k).map (·.1)).length q.c1 ((entsTo n.arcs v k).map (·.1)), own (eInt .i64) 1 3 q.a2 ([] : List Int).length q.c2 ([] : List Int), own (eInt .i64) 1 2 q.a3 ((entsTo n.arcs v k).map (·.2.1)).length q.c3 ((entsTo n.arcs v k).map (·.2.1)), own (eInt .i64) 1 3 q.a4 ((entsTo n.arcs v k).map (·.2.2.1)).length q.c4 ((entsTo n.arcs v k).map (·.2.2.1)), own eBool 1 4 q.a5 ((entsTo n.arcs v k).map (·.2.2.2)).length q.c5 ((entsTo n.arcs v k).map (·.2.2.2)), bx b2 zeroC 29, bx b1 (netV n A c).cells.toList 24, sl eArc 3 A n.arcs.length c n.arcs]) (fun k => n.arcs.length - k) 0 (.cons rfl (.cons rfl (.cons rfl (.cons rfl .nil)))) (.cons rfl (.cons rfl (.cons rfl (.cons rfl (.cons rfl .nil))))) ⟨Nat.zero_le _, ⟨A36, c36, q.a1, q.c1, q.a2, q.c2, q.a3, q.c3, q.a4, q.c4, q.a5, q.c5⟩, by rw [entsTo_zero, firstTo_succ1]; exact hS.tail⟩ ?_
      clear hS
      rintro k wr ⟨hk, q, hS⟩
      refine cw_seq ?_
      refine cw_seq ?_
      -- region 10
      refine cw_region ?_
      refine lw_v rfl rfl (ok_move rfl (.n rfl) rfl) ?_
      refine lw_v rfl rfl (ok_fb rfl (.n rfl) Try.underlying24 rfl Try.sizeOf22 (by decide) rfl) ?_
      refine lw_v rfl rfl (ok_ldb rfl (.n rfl) rfl Try.isAgg22 hS (by rfl)) ?_
      refine lw_v rfl rfl (ok_len rfl (.n rfl) Try.underlying22 rfl) ?_
      refine lw_v rfl rfl (ok_lss rfl (.n rfl) rfl rfl) ?_
      refine lw_nil ?_
      refine Ends.keep [(1, .eq _), (2, .eq _), (5, .eq _), (6, .eq _), (7, .eq _), (42, .eq _)] (.cons rfl (.cons rfl (.cons rfl (.cons rfl (.cons rfl (.cons rfl .nil)))))) ?_
      refine ends_then ?_
      refine cw_cond rfl (fun h42 => ?_) (fun h42 => ?_)
      ·
        have hk' := of_decide_eq_true h42
        have hE := entsTo_len n.arcs hln (v := v) (k := k) hvN hk
        refine cw_skip ?_
        refine ends_then ?_
        refine cw_seq ?_
        refine cw_block ?_
        refine cw_seq ?_
        -- region 12
        refine cw_region ?_
        refine lw_v rfl rfl (ok_fb rfl (.n rfl) Try.underlying24 rfl Try.sizeOf22 (by decide) rfl) ?_
        refine lw_v rfl rfl (ok_ldb rfl (.n rfl) rfl Try.isAgg22 hS (by rfl)) ?_
        refine lw_v rfl rfl (ok_move rfl (.n rfl) rfl) ?_
        refine lw_v rfl rfl (ok_ix rfl (.n rfl) Try.underlying22 Try.sizeOf82 rfl rfl hS (fun _ => ⟨by omega, by omega⟩)) ?_
        refine lw_v rfl rfl (ok_ldxS rfl (.n rfl) rfl Try.isAgg82 Try.sizeOf82 hS (fun _ => ⟨by omega, by omega⟩)) ?_
        refine lw_alloc rfl rfl rfl Try.zeroValue82 hS ?_
        clear hS; intro b8 w8 _ _ hS
        refine lw_stS rfl rfl rfl rfl rfl (by kernel_rfl) hS rfl (by rfl) (by rfl) ?_
        clear hS; intro w9 hS
        refine lw_nil ?_
        refine Ends.keep [(1, .eq _), (2, .eq _), (5, .eq _), (6, .eq _), (7, .eq _), (8, .eq _)] (.cons rfl (.cons rfl (.cons rfl (.cons rfl (.cons rfl (.cons rfl .nil)))))) ?_
        refine ends_then ?_
        refine cw_seq ?_
        refine cw_seq ?_
        -- region 13
        refine cw_region ?_
        refine lw_v rfl rfl (ok_fb rfl (.n rfl) Try.underlying82 rfl Try.sizeOf3 (by decide) rfl) ?_
        refine lw_v rfl rfl (ok_ldb rfl (.n rfl) rfl Try.isAgg3 hS (by rfl)) ?_
        refine lw_v rfl rfl (ok_fb rfl (.n rfl) Try.underlying82 rfl Try.sizeOf3 (by decide) rfl) ?_
        refine lw_v rfl rfl (ok_ldb rfl (.n rfl) rfl Try.isAgg3 hS (by rfl)) ?_
        refine lw_v rfl rfl (ok_eql rfl (.n rfl) rfl rfl) ?_
        refine lw_nil ?_
        refine Ends.keep [(1, .eq _), (2, .eq _), (5, .eq _), (6, .eq _), (7, .eq _), (8, .eq _), (54, .eq _)] (.cons rfl (.cons rfl (.cons rfl (.cons rfl (.cons rfl (.cons rfl (.cons rfl .nil))))))) ?_
        refine ends_then ?_
        refine cw_cond rfl (fun h54 => ?_) (fun h54 => ?_)
        ·
          have h54' := of_decide_eq_true h54
          refine cw_exit ?_
          refine then_exit (in_exit (?_))
          refine Ends.keep [(1, .eq _), (2, .eq _), (5, .eq _), (6, .eq _), (7, .eq _)] (.cons rfl (.cons rfl (.cons rfl (.cons rfl (.cons rfl .nil))))) ?_
          refine ends_then ?_
          -- region 11
          refine cw_region ?_
          refine lw_v rfl rfl (ok_move rfl (.n rfl) rfl) ?_
          refine lw_v rfl rfl (ok_addi rfl (.n rfl) rfl rfl (fun _ => ⟨by omega, by omega⟩)) ?_
          refine lw_v rfl rfl (ok_assign rfl (.n rfl) rfl) ?_
          refine lw_nil ?_
          -- BACK
          refine ends_back (k + 1) (.cons rfl (.cons rfl (.cons rfl (.cons rfl (.cons rfl .nil))))) ⟨by omega, ⟨q.a0, q.c0, q.a1, q.c1, q.a2, q.c2, q.a3, q.c3, q.a4, q.c4, q.a5, q.c5⟩, ?_⟩ (by omega)
          have e := entsTo_succ n.arcs v k
          rw [enOf_loop (a := n.arcs.getD k (0, 0, 0)) h54'] at e
          rw [e]
          simp only [List.map_append, List.map_cons, List.map_nil, List.append_nil]
          exact hS.tail
        ·
          have h54' := of_decide_eq_false h54
          refine cw_skip ?_
          refine ends_then ?_
          refine cw_seq ?_
          refine cw_seq ?_
          -- region 14
          refine cw_region ?_
          refine lw_v rfl rfl (ok_fb rfl (.n rfl) Try.underlying82 rfl Try.sizeOf3 (by decide) rfl) ?_
          refine lw_v rfl rfl (ok_ldb rfl (.n rfl) rfl Try.isAgg3 hS (by rfl)) ?_
          refine lw_v rfl rfl (ok_move rfl (.n rfl) rfl) ?_
          refine lw_v rfl rfl (ok_eql rfl (.n rfl) rfl rfl) ?_
          refine lw_nil ?_
          refine Ends.keep [(1, .eq _), (2, .eq _), (5, .eq _), (6, .eq _), (7, .eq _), (8, .eq _), (58, .eq _)] (.cons rfl (.cons rfl (.cons rfl (.cons rfl (.cons rfl (.cons rfl (.cons rfl .nil))))))) ?_
          refine ends_then ?_
          refine cw_cond rfl (fun h58 => ?_) (fun h58 => ?_)
          ·
            have h58' := of_decide_eq_true h58
            refine cw_seq ?_
            -- region 15
            refine cw_region ?_
            refine lw_v rfl rfl (ok_fb rfl (.n rfl) Try.underlying29 rfl Try.sizeOf26 (by decide) rfl) ?_
            refine lw_v rfl rfl (ok_ldb rfl (.n rfl) rfl Try.isAgg26 hS (by rfl)) ?_
            refine lw_v rfl rfl (ok_fb rfl (.n rfl) Try.underlying82 rfl Try.sizeOf3 (by decide) rfl) ?_
            refine lw_v rfl rfl (ok_ldb rfl (.n rfl) rfl Try.isAgg3 hS (by rfl)) ?_
            refine lw_ls (enc := (eInt .i64)) [(n.arcs.getD (k : Int).toNat (0, 0, 0)).2.1] rfl rfl rfl Try.underlying26 Try.sizeOf3 Try.zeroValue3 rfl (by kernel_rfl) rfl (by decide) (by decide) hS ?_
            clear hS; intro A63 c63 w10 _ hS
            refine lw_append (enc := (eInt .i64)) rfl rfl rfl Try.underlying26 info3 rfl rfl rfl hS (by decide) (by (try simp only [List.length_map]); omega) (by (try simp only [List.length_map]); omega) ?_
            intro A64 c64 w11 hS1; replace hS := hS1 _ (Rep.r); clear hS1
            refine lw_v rfl rfl (ok_fb rfl (.n rfl) Try.underlying29 rfl Try.sizeOf26 (by decide) rfl) ?_
            refine lw_st rfl rfl rfl rfl rfl rfl Try.sizeOf26 hS (by rfl) ?_
            clear hS; intro w12 hS
            refine lw_nil ?_
            refine Ends.keep [(1, .eq _), (2, .eq _), (5, .eq _), (6, .eq _), (7, .eq _), (8, .eq _)] (.cons rfl (.cons rfl (.cons rfl (.cons rfl (.cons rfl (.cons rfl .nil)))))) ?_
            refine ends_then ?_
            refine cw_seq ?_
            -- region 16
            refine cw_region ?_
            refine lw_v rfl rfl (ok_fb rfl (.n rfl) Try.underlying29 rfl Try.sizeOf25 (by decide) rfl) ?_
            refine lw_v rfl rfl (ok_ldb rfl (.n rfl) rfl Try.isAgg25 hS (by rfl)) ?_
            refine lw_v rfl rfl (ok_fb rfl (.n rfl) Try.underlying82 rfl Try.sizeOf2 (by decide) rfl) ?_
            refine lw_v rfl rfl (ok_ldb rfl (.n rfl) rfl Try.isAgg2 hS (by rfl)) ?_
            refine lw_ls (enc := (eInt .i64)) [(n.arcs.getD (k : Int).toNat (0, 0, 0)).2.2] rfl rfl rfl Try.underlying25 Try.sizeOf2 Try.zeroValue2 rfl (by kernel_rfl) rfl (by decide) (by decide) hS ?_
            clear hS; intro A70 c70 w13 _ hS
            refine lw_append (enc := (eInt .i64)) rfl rfl rfl Try.underlying25 info2 rfl rfl rfl hS (by decide) (by (try simp only [List.length_map]); omega) (by (try simp only [List.length_map]); omega) ?_
            intro A71 c71 w14 hS1; replace hS := hS1 _ (Rep.r); clear hS1
            refine lw_v rfl rfl (ok_fb rfl (.n rfl) Try.underlying29 rfl Try.sizeOf25 (by decide) rfl) ?_
            refine lw_st rfl rfl rfl rfl rfl rfl Try.sizeOf25 hS (by rfl) ?_
            clear hS; intro w15 hS
            refine lw_nil ?_
            refine Ends.keep [(1, .eq _), (2, .eq _), (5, .eq _), (6, .eq _), (7, .eq _), (8, .eq _)] (.cons rfl (.cons rfl (.cons rfl (.cons rfl (.cons rfl (.cons rfl .nil)))))) ?_
            refine ends_then ?_
            refine cw_seq ?_
            -- region 17
            refine cw_region ?_
            refine lw_v rfl rfl (ok_fb rfl (.n rfl) Try.underlying29 rfl Try.sizeOf26 (by decide) rfl) ?_
            refine lw_v rfl rfl (ok_ldb rfl (.n rfl) rfl Try.isAgg26 hS (by rfl)) ?_
            refine lw_v rfl rfl (ok_move rfl (.n rfl) rfl) ?_
            refine lw_ls (enc := (eInt .i64)) [(k : Int)] rfl rfl rfl Try.underlying26 Try.sizeOf3 Try.zeroValue3 rfl (by kernel_rfl) rfl (by decide) (by decide) hS ?_
            clear hS; intro A76 c76 w16 _ hS
            refine lw_append (enc := (eInt .i64)) rfl rfl rfl Try.underlying26 info3 rfl rfl rfl hS (by decide) (by (try simp only [List.length_map]); omega) (by (try simp only [List.length_map]); omega) ?_
            intro A77 c77 w17 hS1; replace hS := hS1 _ (Rep.r); clear hS1
            refine lw_v rfl rfl (ok_fb rfl (.n rfl) Try.underlying29 rfl Try.sizeOf26 (by decide) rfl) ?_
            refine lw_st rfl rfl rfl rfl rfl rfl Try.sizeOf26 hS (by rfl) ?_
            clear hS; intro w18 hS
            refine lw_nil ?_
            refine Ends.keep [(1, .eq _), (2, .eq _), (5, .eq _), (6, .eq _), (7, .eq _), (8, .eq _)] (.cons rfl (.cons rfl (.cons rfl (.cons rfl (.cons rfl (.cons rfl .nil)))))) ?_
            refine ends_then ?_
            -- region 18
            refine cw_region ?_
            refine lw_v rfl rfl (ok_fb rfl (.n rfl) Try.underlying29 rfl Try.sizeOf27 (by decide) rfl) ?_
            refine lw_v rfl rfl (ok_ldb rfl (.n rfl) rfl Try.isAgg27 hS (by rfl)) ?_
            refine lw_ls (enc := eBool) [false] rfl rfl rfl Try.underlying27 Try.sizeOf4 Try.zeroValue4 rfl (by kernel_rfl) rfl (by decide) (by decide) hS ?_
            clear hS; intro A81 c81 w19 _ hS
            refine lw_append (enc := eBool) rfl rfl rfl Try.underlying27 info4 rfl rfl rfl hS (by decide) (by (try simp only [List.length_map]); omega) (by (try simp only [List.length_map]); omega) ?_
            intro A82 c82 w20 hS1; replace hS := hS1 _ (Rep.r); clear hS1
            refine lw_v rfl rfl (ok_fb rfl (.n rfl) Try.underlying29 rfl Try.sizeOf27 (by decide) rfl) ?_
            refine lw_st rfl rfl rfl rfl rfl rfl Try.sizeOf27 hS (by rfl) ?_
            clear hS; intro w21 hS
            refine lw_nil ?_
            refine Ends.keep [(1, .eq _), (2, .eq _), (5, .eq _), (6, .eq _), (7, .eq _), (8, .eq _)] (.cons rfl (.cons rfl (.cons rfl (.cons rfl (.cons rfl (.cons rfl .nil)))))) ?_
            refine ends_then ?_
            refine cw_seq ?_
            -- region 19
            refine cw_region ?_
            refine lw_v rfl rfl (ok_fb rfl (.n rfl) Try.underlying82 rfl Try.sizeOf3 (by decide) rfl) ?_
            refine lw_v rfl rfl (ok_ldb rfl (.n rfl) rfl Try.isAgg3 hS (by rfl)) ?_
            refine lw_v rfl rfl (ok_move rfl (.n rfl) rfl) ?_
            refine lw_v rfl rfl (ok_eql rfl (.n rfl) rfl rfl) ?_
            refine lw_nil ?_
            refine Ends.keep [(1, .eq _), (2, .eq _), (5, .eq _), (6, .eq _), (7, .eq _), (8, .eq _), (87, .eq _)] (.cons rfl (.cons rfl (.cons rfl (.cons rfl (.cons rfl (.cons rfl (.cons rfl .nil))))))) ?_
            refine ends_then ?_
            refine cw_cond rfl (fun h87 => ?_) (fun h87 => ?_)
            ·
              exact absurd h87 (by rw [decide_eq_true_eq]; omega)
            ·
              have h87' := of_decide_eq_false h87
              refine cw_skip ?_
              refine in_normal (?_)
              refine ends_then ?_
              -- region 11
              refine cw_region ?_
              refine lw_v rfl rfl (ok_move rfl (.n rfl) rfl) ?_
              refine lw_v rfl rfl (ok_addi rfl (.n rfl) rfl rfl (fun _ => ⟨by omega, by omega⟩)) ?_
              refine lw_v rfl rfl (ok_assign rfl (.n rfl) rfl) ?_
              refine lw_nil ?_
              -- BACK
              refine ends_back (k + 1) (.cons rfl (.cons rfl (.cons rfl (.cons rfl (.cons rfl .nil))))) ⟨by omega, ⟨q.a0, q.c0, A64, c64, q.a2, q.c2, A71, c71, A77, c77, A82, c82⟩, ?_⟩ (by omega)
              have e := entsTo_succ n.arcs v k
              rw [enOf_from (a := n.arcs.getD k (0, 0, 0)) h54' h58'] at e
              rw [e]
              simp only [List.map_append, List.map_cons, List.map_nil, List.append_nil]
              exact hS.tail.tail.tail.tail.tail
          ·
            have h58' := of_decide_eq_false h58
            refine cw_skip ?_
            refine ends_then ?_
            refine cw_seq ?_
            -- region 19
            refine cw_region ?_
            refine lw_v rfl rfl (ok_fb rfl (.n rfl) Try.underlying82 rfl Try.sizeOf3 (by decide) rfl) ?_
            refine lw_v rfl rfl (ok_ldb rfl (.n rfl) rfl Try.isAgg3 hS (by rfl)) ?_
            refine lw_v rfl rfl (ok_move rfl (.n rfl) rfl) ?_
            refine lw_v rfl rfl (ok_eql rfl (.n rfl) rfl rfl) ?_
            refine lw_nil ?_
            refine Ends.keep [(1, .eq _), (2, .eq _), (5, .eq _), (6, .eq _), (7, .eq _), (8, .eq _), (87, .eq _)] (.cons rfl (.cons rfl (.cons rfl (.cons rfl (.cons rfl (.cons rfl (.cons rfl .nil))))))) ?_
            refine ends_then ?_
            refine cw_cond rfl (fun h87 => ?_) (fun h87 => ?_)
            ·
              have h87' := of_decide_eq_true h87
              refine cw_seq ?_
              -- region 20
              refine cw_region ?_
              refine lw_v rfl rfl (ok_fb rfl (.n rfl) Try.underlying29 rfl Try.sizeOf26 (by decide) rfl) ?_
              refine lw_v rfl rfl (ok_ldb rfl (.n rfl) rfl Try.isAgg26 hS (by rfl)) ?_
              refine lw_v rfl rfl (ok_fb rfl (.n rfl) Try.underlying82 rfl Try.sizeOf3 (by decide) rfl) ?_
              refine lw_v rfl rfl (ok_ldb rfl (.n rfl) rfl Try.isAgg3 hS (by rfl)) ?_
              refine lw_ls (enc := (eInt .i64)) [(n.arcs.getD (k : Int).toNat (0, 0, 0)).1] rfl rfl rfl Try.underlying26 Try.sizeOf3 Try.zeroValue3 rfl (by kernel_rfl) rfl (by decide) (by decide) hS ?_
              clear hS; intro A92 c92 w22 _ hS
              refine lw_append (enc := (eInt .i64)) rfl rfl rfl Try.underlying26 info3 rfl rfl rfl hS (by decide) (by (try simp only [List.length_map]); omega) (by (try simp only [List.length_map]); omega) ?_
              intro A93 c93 w23 hS1; replace hS := hS1 _ (Rep.r); clear hS1
              refine lw_v rfl rfl (ok_fb rfl (.n rfl) Try.underlying29 rfl Try.sizeOf26 (by decide) rfl) ?_
              refine lw_st rfl rfl rfl rfl rfl rfl Try.sizeOf26 hS (by rfl) ?_
              clear hS; intro w24 hS
              refine lw_nil ?_
              refine Ends.keep [(1, .eq _), (2, .eq _), (5, .eq _), (6, .eq _), (7, .eq _)] (.cons rfl (.cons rfl (.cons rfl (.cons rfl (.cons rfl .nil))))) ?_
              refine ends_then ?_
              refine cw_seq ?_
              -- region 21
              refine cw_region ?_
              refine lw_v rfl rfl (ok_fb rfl (.n rfl) Try.underlying29 rfl Try.sizeOf25 (by decide) rfl) ?_
              refine lw_v rfl rfl (ok_ldb rfl (.n rfl) rfl Try.isAgg25 hS (by rfl)) ?_
              refine lw_ls (enc := (eInt .i64)) [0] rfl rfl rfl Try.underlying25 Try.sizeOf2 Try.zeroValue2 rfl (by kernel_rfl) rfl (by decide) (by decide) hS ?_
              clear hS; intro A97 c97 w25 _ hS
              refine lw_append (enc := (eInt .i64)) rfl rfl rfl Try.underlying25 info2 rfl rfl rfl hS (by decide) (by (try simp only [List.length_map]); omega) (by (try simp only [List.length_map]); omega) ?_
              intro A98 c98 w26 hS1; replace hS := hS1 _ (Rep.r); clear hS1
              refine lw_v rfl rfl (ok_fb rfl (.n rfl) Try.underlying29 rfl Try.sizeOf25 (by decide) rfl) ?_
              refine lw_st rfl rfl rfl rfl rfl rfl Try.sizeOf25 hS (by rfl) ?_
              clear hS; intro w27 hS
              refine lw_nil ?_
              refine Ends.keep [(1, .eq _), (2, .eq _), (5, .eq _), (6, .eq _), (7, .eq _)] (.cons rfl (.cons rfl (.cons rfl (.cons rfl (.cons rfl .nil))))) ?_
              refine ends_then ?_
              refine cw_seq ?_
              -- region 22
              refine cw_region ?_
              refine lw_v rfl rfl (ok_fb rfl (.n rfl) Try.underlying29 rfl Try.sizeOf26 (by decide) rfl) ?_
              refine lw_v rfl rfl (ok_ldb rfl (.n rfl) rfl Try.isAgg26 hS (by rfl)) ?_
              refine lw_v rfl rfl (ok_move rfl (.n rfl) rfl) ?_
              refine lw_ls (enc := (eInt .i64)) [(k : Int)] rfl rfl rfl Try.underlying26 Try.sizeOf3 Try.zeroValue3 rfl (by kernel_rfl) rfl (by decide) (by decide) hS ?_
              clear hS; intro A103 c103 w28 _ hS
              refine lw_append (enc := (eInt .i64)) rfl rfl rfl Try.underlying26 info3 rfl rfl rfl hS (by decide) (by (try simp only [List.length_map]); omega) (by (try simp only [List.length_map]); omega) ?_
              intro A104 c104 w29 hS1; replace hS := hS1 _ (Rep.r); clear hS1
              refine lw_v rfl rfl (ok_fb rfl (.n rfl) Try.underlying29 rfl Try.sizeOf26 (by decide) rfl) ?_
              refine lw_st rfl rfl rfl rfl rfl rfl Try.sizeOf26 hS (by rfl) ?_
              clear hS; intro w30 hS
              refine lw_nil ?_
              refine Ends.keep [(1, .eq _), (2, .eq _), (5, .eq _), (6, .eq _), (7, .eq _)] (.cons rfl (.cons rfl (.cons rfl (.cons rfl (.cons rfl .nil))))) ?_
              refine ends_then ?_
              -- region 23
              refine cw_region ?_
              refine lw_v rfl rfl (ok_fb rfl (.n rfl) Try.underlying29 rfl Try.sizeOf27 (by decide) rfl) ?_
              refine lw_v rfl rfl (ok_ldb rfl (.n rfl) rfl Try.isAgg27 hS (by rfl)) ?_
              refine lw_ls (enc := eBool) [true] rfl rfl rfl Try.underlying27 Try.sizeOf4 Try.zeroValue4 rfl (by kernel_rfl) rfl (by decide) (by decide) hS ?_
              clear hS; intro A108 c108 w31 _ hS
              refine lw_append (enc := eBool) rfl rfl rfl Try.underlying27 info4 rfl rfl rfl hS (by decide) (by (try simp only [List.length_map]); omega) (by (try simp only [List.length_map]); omega) ?_
              intro A109 c109 w32 hS1; replace hS := hS1 _ (Rep.r); clear hS1
              refine lw_v rfl rfl (ok_fb rfl (.n rfl) Try.underlying29 rfl Try.sizeOf27 (by decide) rfl) ?_
              refine lw_st rfl rfl rfl rfl rfl rfl Try.sizeOf27 hS (by rfl) ?_
              clear hS; intro w33 hS
              refine lw_nil ?_
              refine in_normal (?_)
              refine Ends.keep [(1, .eq _), (2, .eq _), (5, .eq _), (6, .eq _), (7, .eq _)] (.cons rfl (.cons rfl (.cons rfl (.cons rfl (.cons rfl .nil))))) ?_
              refine ends_then ?_
              -- region 11
              refine cw_region ?_
              refine lw_v rfl rfl (ok_move rfl (.n rfl) rfl) ?_
              refine lw_v rfl rfl (ok_addi rfl (.n rfl) rfl rfl (fun _ => ⟨by omega, by omega⟩)) ?_
              refine lw_v rfl rfl (ok_assign rfl (.n rfl) rfl) ?_
              refine lw_nil ?_
              -- BACK
              refine ends_back (k + 1) (.cons rfl (.cons rfl (.cons rfl (.cons rfl (.cons rfl .nil))))) ⟨by omega, ⟨q.a0, q.c0, A93, c93, q.a2, q.c2, A98, c98, A104, c104, A109, c109⟩, ?_⟩ (by omega)
              have e := entsTo_succ n.arcs v k
              rw [enOf_to (a := n.arcs.getD k (0, 0, 0)) h54' h58' h87'] at e
              rw [e]
              simp only [List.map_append, List.map_cons, List.map_nil, List.append_nil]
              exact hS.tail.tail.tail.tail.tail
            ·
              have h87' := of_decide_eq_false h87
              refine cw_skip ?_
              refine in_normal (?_)
              refine ends_then ?_
              -- region 11
              refine cw_region ?_
              refine lw_v rfl rfl (ok_move rfl (.n rfl) rfl) ?_
              refine lw_v rfl rfl (ok_addi rfl (.n rfl) rfl rfl (fun _ => ⟨by omega, by omega⟩)) ?_
              refine lw_v rfl rfl (ok_assign rfl (.n rfl) rfl) ?_
              refine lw_nil ?_
              -- BACK
              refine ends_back (k + 1) (.cons rfl (.cons rfl (.cons rfl (.cons rfl (.cons rfl .nil))))) ⟨by omega, ⟨q.a0, q.c0, q.a1, q.c1, q.a2, q.c2, q.a3, q.c3, q.a4, q.c4, q.a5, q.c5⟩, ?_⟩ (by omega)
              have e := entsTo_succ n.arcs v k
              rw [enOf_no (a := n.arcs.getD k (0, 0, 0)) h54' h58' h87'] at e
              rw [e]
              simp only [List.map_append, List.map_cons, List.map_nil, List.append_nil]
              exact hS.tail
      ·
        have hkn : k = n.arcs.length := by have := of_decide_eq_false h42; omega
        subst hkn
        refine cw_exit ?_
        refine then_exit (then_exit (in_exit (?_)))
        refine in_normal (?_)
        refine Ends.keep [(1, .eq _), (2, .eq _), (5, .eq _), (6, .eq _)] (.cons rfl (.cons rfl (.cons rfl (.cons rfl .nil)))) ?_
        refine ends_then ?_
        -- region 7
        refine cw_region ?_
        refine lw_v rfl rfl (ok_move rfl (.n rfl) rfl) ?_
        refine lw_v rfl rfl (ok_addi rfl (.n rfl) rfl rfl (fun _ => ⟨by omega, by omega⟩)) ?_
        refine lw_v rfl rfl (ok_assign rfl (.n rfl) rfl) ?_
        refine lw_nil ?_
        -- BACK
        refine ends_back (v + 1) (.cons rfl (.cons rfl (.cons rfl (.cons rfl .nil)))) ⟨by omega, q, ?_⟩ (by omega)
        rw [← entsTo_all]
        exact hS
    ·
      have hvN : v = n.N.toNat := by have := of_decide_eq_false h27; omega
      subst hvN
      have hE0 : (firstTo n.arcs n.N.toNat).length = n.N.toNat := by simp [firstTo]
      refine cw_exit ?_
      refine then_exit (then_exit (in_exit (?_)))
      refine Ends.keep [(2, .eq _), (5, .eq _)] (.cons rfl (.cons rfl .nil)) ?_
      refine ends_then ?_
      refine cw_seq ?_
      -- region 24
      refine cw_region ?_
      refine lw_v rfl rfl (ok_fb rfl (.n rfl) Try.underlying29 rfl Try.sizeOf26 (by decide) rfl) ?_
      refine lw_v rfl rfl (ok_ldb rfl (.n rfl) rfl Try.isAgg26 hS (by rfl)) ?_
      refine lw_v rfl rfl (ok_fb rfl (.n rfl) Try.underlying29 rfl Try.sizeOf26 (by decide) rfl) ?_
      refine lw_v rfl rfl (ok_ldb rfl (.n rfl) rfl Try.isAgg26 hS (by rfl)) ?_
      refine lw_v rfl rfl (ok_len rfl (.n rfl) Try.underlying26 rfl) ?_
      refine lw_ls (enc := (eInt .i64)) [(((ents n.arcs n.N.toNat).map (·.1)).length : Int)] rfl rfl rfl Try.underlying26 Try.sizeOf3 Try.zeroValue3 rfl (by kernel_rfl) rfl (by decide) (by decide) hS ?_
      clear hS; intro A116 c116 w34 _ hS
      refine lw_append (enc := (eInt .i64)) rfl rfl rfl Try.underlying26 info3 rfl rfl rfl hS (by decide) (by (try simp only [List.length_map]); omega) (by (try simp only [List.length_map]); omega) ?_
      intro A117 c117 w35 hS1; replace hS := hS1 _ (Rep.r); clear hS1
      refine lw_v rfl rfl (ok_fb rfl (.n rfl) Try.underlying29 rfl Try.sizeOf26 (by decide) rfl) ?_
      refine lw_st rfl rfl rfl rfl rfl rfl Try.sizeOf26 hS (by rfl) ?_
      clear hS; intro w36 hS
      refine lw_nil ?_
      refine Ends.keep [(2, .eq _), (5, .eq _)] (.cons rfl (.cons rfl .nil)) ?_
      refine ends_then ?_
      refine cw_seq ?_
      refine cw_seq ?_
      -- region 25
      refine cw_region ?_
      refine lw_v rfl rfl (ok_assign rfl (.n rfl) rfl) ?_
      refine lw_nil ?_
      refine Ends.keep [(2, .eq _), (5, .eq _), (9, .eq _)] (.cons rfl (.cons rfl (.cons rfl .nil))) ?_
      refine ends_then ?_
      refine cw_block ?_
      -- LOOP at region 26: changed live slots [9], kept [2, 5]
      refine cw_loop [(2, .eq _), (5, .eq _)] (fun i : Nat => [(9, .eq (.int .i64 i))]) (fun i w' => i ≤ (ents n.arcs n.N.toNat).length ∧ ∃ q : Q6, St w.heap.size w w' [bx b5 [.int .i64 n.N, .int .i64 n.S, .int .i64 n.T, .slice q.a0 (firstTo n.arcs (n.N.toNat + 1)).length q.c0, .slice q.a1 ((ents n.arcs n.N.toNat).map (·.1)).length q.c1, .slice q.a2 (revTo ((ents n.arcs n.N.toNat).map (·.2.2.1)) i).length q.c2, .slice q.a3 ((ents n.arcs n.N.toNat).map (·.2.1)).length q.c3, .slice q.a4 ((ents n.arcs n.N.toNat).map (·.2.2.1)).length q.c4, .slice q.a5 ((ents n.arcs n.N.toNat).map (·.2.2.2)).length q.c5] 29, own (eInt .i64) 1 3 q.a0 (firstTo n.arcs (n.N.toNat + 1)).length q.c0 (firstTo n.arcs (n.N.toNat + 1)), own (eInt .i64) 1 3 q.a1 ((ents n.arcs n.N.toNat).map (·.1)).length q.c1 ((ents n.arcs n.N.toNat).map (·.1)), own (eInt .i64) 1 3 q.a2 (revTo ((ents n.arcs n.N.toNat).map (·.2.2.1)) i).length q.c2 (revTo ((ents n.arcs n.N.toNat).map (·.2.2.1)) i), own (eInt .i64) 1 2 q.a3 ((ents n.arcs n.N.toNat).map (·.2.1)).length q.c3 ((ents n.arcs n.N.toNat).map (·.2.1)), own (eInt .i64) 1 3 q.a4 ((ents n.arcs n.N.toNat).map (·.2.2.1)).length q.c4 ((ents n.arcs n.N.toNat).map (·.2.2.1)), own eBool 1 4 q.a5 ((ents n.arcs n.N.toNat).map (·.2.2.2)).length q.c5 ((ents n.arcs n.N.toNat).map (·.2.2.2)), bx b2 zeroC 29, bx b1 (netV n A c).cells.toList 24, sl eArc 3 A n.arcs.length c n.arcs]) (fun i => (ents n.arcs n.N.toNat).length - i) 0 (.cons rfl (.cons rfl .nil)) (.cons rfl (.cons rfl (.cons rfl .nil))) ⟨Nat.zero_le _, ⟨A117, c117, q.a1, q.c1, q.a2, q.c2, q.a3, q.c3, q.a4, q.c4, q.a5, q.c5⟩, by rw [firstTo_succ1]; exact hS.tail⟩ ?_
      clear hS
      rintro i wr ⟨hi, q, hS⟩
      have hR := revTo_len ((ents n.arcs n.N.toNat).map (·.2.2.1)) i
      have hE := ents_len n.arcs hln n.N.toNat
      rw [List.length_map] at hR
      have hE2 : (ents n.arcs n.N.toNat).length ≤ 1280 := by omega
      have hR2 : i * (ents n.arcs n.N.toNat).length ≤ 1280 * 1280 := Nat.mul_le_mul (by omega) hE2
      refine cw_seq ?_
      refine cw_seq ?_
      -- region 26
      refine cw_region ?_
      refine lw_v rfl rfl (ok_move rfl (.n rfl) rfl) ?_
      refine lw_v rfl rfl (ok_fb rfl (.n rfl) Try.underlying29 rfl Try.sizeOf26 (by decide) rfl) ?_
      refine lw_v rfl rfl (ok_ldb rfl (.n rfl) rfl Try.isAgg26 hS (by rfl)) ?_
      refine lw_v rfl rfl (ok_len rfl (.n rfl) Try.underlying26 rfl) ?_
      refine lw_v rfl rfl (ok_lss rfl (.n rfl) rfl rfl) ?_
      refine lw_nil ?_
      refine Ends.keep [(2, .eq _), (5, .eq _), (9, .eq _), (123, .eq _)] (.cons rfl (.cons rfl (.cons rfl (.cons rfl .nil)))) ?_
      refine ends_then ?_
      refine cw_cond rfl (fun h123 => ?_) (fun h123 => ?_)
      ·
        have hi' := of_decide_eq_true h123
        rw [List.length_map] at hi'
        refine cw_skip ?_
        refine ends_then ?_
        refine cw_seq ?_
        refine cw_block ?_
        refine cw_seq ?_
        -- region 28
        refine cw_region ?_
        refine lw_v rfl rfl (ok_assign rfl (.n rfl) rfl) ?_
        refine lw_nil ?_
        refine Ends.keep [(2, .eq _), (5, .eq _), (9, .eq _), (10, .eq _)] (.cons rfl (.cons rfl (.cons rfl (.cons rfl .nil)))) ?_
        refine ends_then ?_
        refine cw_block ?_
        -- LOOP at region 29: changed live slots [10], kept [2, 5, 9]
        refine cw_loop [(2, .eq _), (5, .eq _), (9, .eq _)] (fun j : Nat => [(10, .eq (.int .i64 j))]) (fun j w' => j ≤ (ents n.arcs n.N.toNat).length ∧ ∃ q : Q6, St w.heap.size w w' [bx b5 [.int .i64 n.N, .int .i64 n.S, .int .i64 n.T, .slice q.a0 (firstTo n.arcs (n.N.toNat + 1)).length q.c0, .slice q.a1 ((ents n.arcs n.N.toNat).map (·.1)).length q.c1, .slice q.a2 (revTo ((ents n.arcs n.N.toNat).map (·.2.2.1)) i ++ rowF ((ents n.arcs n.N.toNat).map (·.2.2.1)) i j).length q.c2, .slice q.a3 ((ents n.arcs n.N.toNat).map (·.2.1)).length q.c3, .slice q.a4 ((ents n.arcs n.N.toNat).map (·.2.2.1)).length q.c4, .slice q.a5 ((ents n.arcs n.N.toNat).map (·.2.2.2)).length q.c5] 29, own (eInt .i64) 1 3 q.a0 (firstTo n.arcs (n.N.toNat + 1)).length q.c0 (firstTo n.arcs (n.N.toNat + 1)), own (eInt .i64) 1 3 q.a1 ((ents n.arcs n.N.toNat).map (·.1)).length q.c1 ((ents n.arcs n.N.toNat).map (·.1)), own (eInt .i64) 1 3 q.a2 (revTo ((ents n.arcs n.N.toNat).map (·.2.2.1)) i ++ rowF ((ents n.arcs n.N.toNat).map (·.2.2.1)) i j).length q.c2 (revTo ((ents n.arcs n.N.toNat).map (·.2.2.1)) i ++ rowF ((ents n.arcs n.N.toNat).map (·.2.2.1)) i j), own (eInt .i64) 1 2 q.a3 ((ents n.arcs n.N.toNat).map (·.2.1)).length q.c3 ((ents n.arcs n.N.toNat).map (·.2.1)), own (eInt .i64) 1 3 q.a4 ((ents n.arcs n.N.toNat).map (·.2.2.1)).length q.c4 ((ents n.arcs n.N.toNat).map (·.2.2.1)), own eBool 1 4 q.a5 ((ents n.arcs n.N.toNat).map (·.2.2.2)).length q.c5 ((ents n.arcs n.N.toNat).map (·.2.2.2)), bx b2 zeroC 29, bx b1 (netV n A c).cells.toList 24, sl eArc 3 A n.arcs.length c n.arcs]) (fun j => (ents n.arcs n.N.toNat).length - j) 0 (.cons rfl (.cons rfl (.cons rfl .nil))) (.cons rfl (.cons rfl (.cons rfl (.cons rfl .nil)))) ⟨Nat.zero_le _, q, by rw [show rowF ((ents n.arcs n.N.toNat).map (·.2.2.1)) i 0 = [] from rfl, List.append_nil]; exact hS⟩ ?_
        clear hS
        rintro j wr ⟨hj, q, hS⟩
        have hRR := rowF_len ((ents n.arcs n.N.toNat).map (·.2.2.1)) i j
        refine cw_seq ?_
        refine cw_seq ?_
        -- region 29
        refine cw_region ?_
        refine lw_v rfl rfl (ok_move rfl (.n rfl) rfl) ?_
        refine lw_v rfl rfl (ok_fb rfl (.n rfl) Try.underlying29 rfl Try.sizeOf26 (by decide) rfl) ?_
        refine lw_v rfl rfl (ok_ldb rfl (.n rfl) rfl Try.isAgg26 hS (by rfl)) ?_
        refine lw_v rfl rfl (ok_len rfl (.n rfl) Try.underlying26 rfl) ?_
        refine lw_v rfl rfl (ok_lss rfl (.n rfl) rfl rfl) ?_
        refine lw_nil ?_
        refine Ends.keep [(2, .eq _), (5, .eq _), (9, .eq _), (10, .eq _), (130, .eq _)] (.cons rfl (.cons rfl (.cons rfl (.cons rfl (.cons rfl .nil))))) ?_
        refine ends_then ?_
        refine cw_cond rfl (fun h130 => ?_) (fun h130 => ?_)
        ·
          have hj' := of_decide_eq_true h130
          rw [List.length_map] at hj'
          refine cw_skip ?_
          refine ends_then ?_
          refine cw_seq ?_
          refine cw_block ?_
          refine cw_seq ?_
          -- region 31
          refine cw_draw (by kernel_rfl) (List.take 14 _) (List.drop 14 _) (List.take_append_drop 14 _).symm (by kernel_rfl) ?_
          refine free_v (ok_fb rfl (.n rfl) Try.underlying29 rfl Try.sizeOf26 (by decide) rfl) ?_
          refine free_v (ok_ldb rfl (.n rfl) rfl Try.isAgg26 hS (by rfl)) ?_
          refine free_v (ok_move rfl (.n rfl) rfl) ?_
          refine free_v (ok_ix rfl (.n rfl) Try.underlying26 Try.sizeOf3 rfl rfl hS (fun _ => ⟨by omega, by rw [List.length_map]; omega⟩)) ?_
          refine free_v (ok_ldx rfl (.n rfl) rfl Try.isAgg3 hS (fun _ => ⟨by omega, by rw [List.length_map]; omega⟩) (by rfl)) ?_
          refine free_v (ok_fb rfl (.n rfl) Try.underlying29 rfl Try.sizeOf26 (by decide) rfl) ?_
          refine free_v (ok_ldb rfl (.n rfl) rfl Try.isAgg26 hS (by rfl)) ?_
          refine free_v (ok_move rfl (.n rfl) rfl) ?_
          refine free_v (ok_ix rfl (.n rfl) Try.underlying26 Try.sizeOf3 rfl rfl hS (fun _ => ⟨by omega, by rw [List.length_map]; omega⟩)) ?_
          refine free_v (ok_ldx rfl (.n rfl) rfl Try.isAgg3 hS (fun _ => ⟨by omega, by rw [List.length_map]; omega⟩) (by rfl)) ?_
          refine free_v (ok_eql rfl (.n rfl) rfl rfl) ?_
          refine free_v (ok_move rfl (.n rfl) rfl) ?_
          refine free_v (ok_move rfl (.s rfl rfl) rfl) ?_
          refine free_v (ok_move rfl (.s rfl rfl) rfl) ?_
          refine free_nil ?_
          intro w37 hg_; replace hS := hS.grow hg_; clear hg_
          refine lw_v rfl rfl (ok_neq rfl (.s rfl rfl) rfl rfl) ?_
          refine lw_v rfl rfl (ok_and rfl rfl rfl rfl) ?_
          refine lw_nil ?_
          refine Ends.keep [(2, .eq _), (5, .eq _), (9, .eq _), (10, .eq _), (148, .eq _)] (.cons rfl (.cons rfl (.cons rfl (.cons rfl (.cons rfl .nil))))) ?_
          refine ends_then ?_
          refine cw_cond rfl (fun h148 => ?_) (fun h148 => ?_)
          ·
            -- region 32
            refine cw_region ?_
            refine lw_v rfl rfl (ok_fb rfl (.n rfl) Try.underlying29 rfl Try.sizeOf26 (by decide) rfl) ?_
            refine lw_v rfl rfl (ok_ldb rfl (.n rfl) rfl Try.isAgg26 hS (by rfl)) ?_
            refine lw_v rfl rfl (ok_move rfl (.n rfl) rfl) ?_
            refine lw_ls (enc := (eInt .i64)) [(j : Int)] rfl rfl rfl Try.underlying26 Try.sizeOf3 Try.zeroValue3 rfl (by kernel_rfl) rfl (by decide) (by decide) hS ?_
            clear hS; intro A152 c152 w38 _ hS
            refine lw_append (enc := (eInt .i64)) rfl rfl rfl Try.underlying26 info3 rfl rfl rfl hS (by decide) (by (try simp only [List.length_append]); omega) (by (try simp only [List.length_append]); omega) ?_
            intro A153 c153 w39 hS1; replace hS := hS1 _ (Rep.r); clear hS1
            refine lw_v rfl rfl (ok_fb rfl (.n rfl) Try.underlying29 rfl Try.sizeOf26 (by decide) rfl) ?_
            refine lw_st rfl rfl rfl rfl rfl rfl Try.sizeOf26 hS (by rfl) ?_
            clear hS; intro w40 hS
            refine lw_nil ?_
            refine in_normal (?_)
            refine Ends.keep [(2, .eq _), (5, .eq _), (9, .eq _), (10, .eq _)] (.cons rfl (.cons rfl (.cons rfl (.cons rfl .nil)))) ?_
            refine ends_then ?_
            -- region 30
            refine cw_region ?_
            refine lw_v rfl rfl (ok_move rfl (.n rfl) rfl) ?_
            refine lw_v rfl rfl (ok_addi rfl (.n rfl) rfl rfl (fun _ => ⟨by omega, by omega⟩)) ?_
            refine lw_v rfl rfl (ok_assign rfl (.n rfl) rfl) ?_
            refine lw_nil ?_
            -- BACK
            refine ends_back (j + 1) (.cons rfl (.cons rfl (.cons rfl (.cons rfl .nil)))) ⟨by omega, ⟨q.a0, q.c0, q.a1, q.c1, A153, c153, q.a3, q.c3, q.a4, q.c4, q.a5, q.c5⟩, ?_⟩ (by omega)
            rw [rowF_succ, if_pos (row_test h148), ← List.append_assoc]
            exact hS.tail
          ·
            refine cw_skip ?_
            refine in_normal (?_)
            refine ends_then ?_
            -- region 30
            refine cw_region ?_
            refine lw_v rfl rfl (ok_move rfl (.n rfl) rfl) ?_
            refine lw_v rfl rfl (ok_addi rfl (.n rfl) rfl rfl (fun _ => ⟨by omega, by omega⟩)) ?_
            refine lw_v rfl rfl (ok_assign rfl (.n rfl) rfl) ?_
            refine lw_nil ?_
            -- BACK
            refine ends_back (j + 1) (.cons rfl (.cons rfl (.cons rfl (.cons rfl .nil)))) ⟨by omega, q, ?_⟩ (by omega)
            rw [rowF_succ, if_neg (row_test' h148), List.append_nil]
            exact hS
        ·
          have hjn : j = (ents n.arcs n.N.toNat).length := by have := of_decide_eq_false h130; rw [List.length_map] at this; omega
          refine cw_exit ?_
          refine then_exit (then_exit (in_exit (?_)))
          refine in_normal (?_)
          refine Ends.keep [(2, .eq _), (5, .eq _), (9, .eq _)] (.cons rfl (.cons rfl (.cons rfl .nil))) ?_
          refine ends_then ?_
          -- region 27
          refine cw_region ?_
          refine lw_v rfl rfl (ok_move rfl (.n rfl) rfl) ?_
          refine lw_v rfl rfl (ok_addi rfl (.n rfl) rfl rfl (fun _ => ⟨by omega, by omega⟩)) ?_
          refine lw_v rfl rfl (ok_assign rfl (.n rfl) rfl) ?_
          refine lw_nil ?_
          -- BACK
          refine ends_back (i + 1) (.cons rfl (.cons rfl (.cons rfl .nil))) ⟨by omega, q, ?_⟩ (by omega)
          have e := revTo_succ ((ents n.arcs n.N.toNat).map (·.2.2.1)) i
          rw [List.length_map, ← hjn] at e
          rw [e]
          exact hS
      ·
        have hin : i = (ents n.arcs n.N.toNat).length := by have := of_decide_eq_false h123; rw [List.length_map] at this; omega
        subst hin
        have eN : (((makeF n).N : Nat) : Int) = n.N := Int.toNat_of_nonneg (by omega)
        have eS : (((makeF n).S : Nat) : Int) = n.S := Int.toNat_of_nonneg (by omega)
        have eT : (((makeF n).T : Nat) : Int) = n.T := Int.toNat_of_nonneg (by omega)
        refine cw_exit ?_
        refine then_exit (then_exit (in_exit (?_)))
        refine Ends.keep [(2, .eq _), (5, .eq _)] (.cons rfl (.cons rfl .nil)) ?_
        refine ends_then ?_
        refine cw_seq ?_
        -- region 33
        refine cw_region ?_
        refine lw_v rfl rfl (ok_ldS rfl (.n rfl) rfl Try.isAgg29 Try.sizeOf29 hS rfl) ?_
        refine lw_stS rfl rfl rfl rfl rfl (by kernel_rfl) hS rfl (by rfl) (by rfl) ?_
        clear hS; intro w41 hS
        refine lw_v rfl rfl (ok_assign rfl (.n rfl) rfl) ?_
        refine lw_nil ?_
        refine Ends.keep [(2, .eq _), (3, .eq _)] (.cons rfl (.cons rfl .nil)) ?_
        refine ends_then ?_
        refine cw_ret ?_
        refine end_ret (resST Try.results66 rfl rfl Try.isAgg29 Try.sizeOf29 hS rfl) ⟨q, by unfold csV; rw [eN, eS, eT]; rfl, hS.below, ⟨own_fp fun b hb => hS.ge _ (.tail _ (.head _)) rfl b hb, own_fp fun b hb => hS.ge _ (.tail _ (.tail _ (.head _))) rfl b hb, own_fp fun b hb => hS.ge _ (.tail _ (.tail _ (.tail _ (.head _)))) rfl b hb, own_fp fun b hb => hS.ge _ (.tail _ (.tail _ (.tail _ (.tail _ (.head _))))) rfl b hb, own_fp fun b hb => hS.ge _ (.tail _ (.tail _ (.tail _ (.tail _ (.tail _ (.head _)))))) rfl b hb, own_fp fun b hb => hS.ge _ (.tail _ (.tail _ (.tail _ (.tail _ (.tail _ (.tail _ (.head _))))))) rfl b hb⟩, ⟨own_sl (hS.ok _ (.tail _ (.head _))) ?_, own_sl (hS.ok _ (.tail _ (.tail _ (.head _)))) ?_, own_sl (hS.ok _ (.tail _ (.tail _ (.tail _ (.head _))))) ?_, own_sl (hS.ok _ (.tail _ (.tail _ (.tail _ (.tail _ (.head _)))))) ?_, own_sl (hS.ok _ (.tail _ (.tail _ (.tail _ (.tail _ (.tail _ (.head _))))))) ?_, own_sl (hS.ok _ (.tail _ (.tail _ (.tail _ (.tail _ (.tail _ (.tail _ (.head _)))))))) ?_⟩⟩
        · show (firstTo _ _).length ≤ _; simp only [firstTo, List.length_map, List.length_range]; omega
        · show (List.map _ _).length ≤ _; rw [List.length_map]; omega
        · show (revTo _ _).length ≤ _; omega
        · show (List.map _ _).length ≤ _; rw [List.length_map]; omega
        · show (List.map _ _).length ≤ _; rw [List.length_map]; omega
        · show (List.map _ _).length ≤ _; rw [List.length_map]; omega

end Go.Proofs.Ytnpgeohkmdcbkaa.Aq

namespace Go.Proofs.Ytnpgeohkmdcbkaa.Aq
open Go Go.RowKit

set_option maxRecDepth 10000 in
/-- acequiaref02.Res. -/
theorem f67 (c : Cs) (q : Q6) (f : List Int) (A1 : Option Addr) (c1 : Nat) (w : World) (hwf : WF c) (hc : CsAt c q w) (hf : (sl (eInt .i64) 1 A1 f.length c1 f).p w) (hb : FlowOk c f) :
    Calls Try.prog 67 #[csV c q, .slice A1 f.length c1] w fun e w' => ∃ A6 c6, e = .returned (.tuple #[.slice A6 (resTo c f c.Head.length).length c6, .int .i64 0]) ∧ Gr w w' ∧ (∀ b, (own (eInt .i64) 1 2 A6 (resTo c f c.Head.length).length c6 (resTo c f c.Head.length)).fp b → w.heap.size ≤ b) ∧ (own (eInt .i64) 1 2 A6 (resTo c f c.Head.length).length c6 (resTo c f c.Head.length)).p w' := by
  refine calls_cw Try.func67 rfl Try.ntmps67 rfl ?_
  have hS := (((((((St.start w).args (Nat.le_refl _) _ hc.back rfl).args (Nat.le_refl _) _ hc.arc rfl).args (Nat.le_refl _) _ hc.cap rfl).args (Nat.le_refl _) _ hc.rev rfl).args (Nat.le_refl _) _ hc.head rfl).args (Nat.le_refl _) _ hf rfl)
  obtain ⟨_, _, _, _, _, _, hM, hrl, hcl, hal, hbl, _⟩ := id hwf
  refine cw_seq ?_
  -- region 0
  refine cw_region ?_
  refine lw_box rfl rfl rfl rfl hS ?_
  clear hS; intro b2 w1 _ _ hS
  refine lw_v rfl rfl (ok_assign rfl (.n rfl) rfl) ?_
  refine lw_v rfl rfl (ok_assign rfl (.n rfl) rfl) ?_
  refine lw_nil ?_
  refine Ends.keep [(1, .eq _), (2, .eq _)] (.cons rfl (.cons rfl .nil)) ?_
  refine ends_then ?_
  refine cw_seq ?_
  -- region 1
  refine cw_region ?_
  refine lw_v rfl rfl (ok_assign rfl (.n rfl) rfl) ?_
  refine lw_nil ?_
  refine Ends.keep [(1, .eq _), (2, .eq _), (6, .eq _)] (.cons rfl (.cons rfl (.cons rfl .nil))) ?_
  refine ends_then ?_
  refine cw_seq ?_
  refine cw_seq ?_
  -- region 2
  refine cw_region ?_
  refine lw_v rfl rfl (ok_assign rfl (.n rfl) rfl) ?_
  refine lw_nil ?_
  refine Ends.keep [(1, .eq _), (2, .eq _), (6, .eq _), (7, .eq _)] (.cons rfl (.cons rfl (.cons rfl (.cons rfl .nil)))) ?_
  refine ends_then ?_
  refine cw_block ?_
  -- LOOP at region 3: changed live slots [6, 7], kept [1, 2]
  refine cw_loop3 [(1, .eq _), (2, .eq _)] (fun (k : Nat) (A : Option Addr) (cc : Nat) => [(6, .eq (.slice A (resTo c f k).length cc)), (7, .eq (.int .i64 k))]) (fun k A cc w' => k ≤ c.Head.length ∧ St w.heap.size w w' [own (eInt .i64) 1 2 A (resTo c f k).length cc (resTo c f k), bx b2 (csV c q).cells.toList 29, sl (eInt .i64) 1 A1 f.length c1 f, sl (eInt .i64) 1 q.a1 c.Head.length q.c1 c.Head, sl (eInt .i64) 1 q.a2 c.Rev.length q.c2 c.Rev, sl (eInt .i64) 1 q.a3 c.Cap.length q.c3 c.Cap, sl (eInt .i64) 1 q.a4 c.Arc.length q.c4 c.Arc, sl eBool 1 q.a5 c.Back.length q.c5 c.Back]) (fun k _ _ => c.Head.length - k) 0 none 0 (.cons rfl (.cons rfl .nil)) (.cons rfl (.cons rfl (.cons rfl (.cons rfl .nil)))) ⟨Nat.zero_le _, ((hS.nil (eInt .i64) 1 2))⟩ ?_
  clear hS
  rintro k A cc wr ⟨hk, hS⟩
  have hlen : (resTo c f k).length = k := by simp [resTo]
  refine cw_seq ?_
  refine cw_seq ?_
  -- region 3
  refine cw_region ?_
  refine lw_v rfl rfl (ok_move rfl (.n rfl) rfl) ?_
  refine lw_v rfl rfl (ok_fb rfl (.n rfl) Try.underlying29 rfl Try.sizeOf26 (by decide) rfl) ?_
  refine lw_v rfl rfl (ok_ldb rfl (.n rfl) rfl Try.isAgg26 hS (by rfl)) ?_
  refine lw_v rfl rfl (ok_len rfl (.n rfl) Try.underlying26 rfl) ?_
  refine lw_v rfl rfl (ok_lss rfl (.n rfl) rfl rfl) ?_
  refine lw_nil ?_
  refine Ends.keep [(1, .eq _), (2, .eq _), (6, .eq _), (7, .eq _), (14, .eq _)] (.cons rfl (.cons rfl (.cons rfl (.cons rfl (.cons rfl .nil))))) ?_
  refine ends_then ?_
  refine cw_cond rfl (fun h14 => ?_) (fun h14 => ?_)
  ·
    have hlt := of_decide_eq_true h14
    have hlt' : k < c.Head.length := by omega
    obtain ⟨hr0, hr1⟩ := hwf.rv k hlt'
    obtain ⟨hx1, hx2, hx3, hx4, hx5, hx6, hx7, hx8⟩ := hb k hlt'
    have eA : c.Arc.getD (k : Int).toNat 0 = c.Arc.getD k 0 := rfl
    have eR : c.Rev.getD (k : Int).toNat 0 = c.Rev.getD k 0 := rfl
    rw [← eA] at hx1 hx2 hx3 hx4
    rw [← eR] at hr0 hr1 hx4 hx7 hx8
    have eC : c.Cap.getD (k : Int).toNat 0 = c.Cap.getD k 0 := rfl
    rw [← eC] at hx4 hx5 hx6
    refine cw_skip ?_
    refine ends_then ?_
    refine cw_seq ?_
    refine cw_block ?_
    refine cw_seq ?_
    -- region 5
    refine cw_region ?_
    refine lw_v rfl rfl (ok_fb rfl (.n rfl) Try.underlying29 rfl Try.sizeOf26 (by decide) rfl) ?_
    refine lw_v rfl rfl (ok_ldb rfl (.n rfl) rfl Try.isAgg26 hS (by rfl)) ?_
    refine lw_v rfl rfl (ok_move rfl (.n rfl) rfl) ?_
    refine lw_v rfl rfl (ok_ix rfl (.n rfl) Try.underlying26 Try.sizeOf3 rfl rfl hS (fun _ => ⟨by omega, by omega⟩)) ?_
    refine lw_v rfl rfl (ok_ldx rfl (.n rfl) rfl Try.isAgg3 hS (fun _ => ⟨by omega, by omega⟩) (by rfl)) ?_
    refine lw_v rfl rfl (ok_assign rfl (.n rfl) rfl) ?_
    refine lw_nil ?_
    refine Ends.keep [(1, .eq _), (2, .eq _), (6, .eq _), (7, .eq _), (8, .eq _)] (.cons rfl (.cons rfl (.cons rfl (.cons rfl (.cons rfl .nil))))) ?_
    refine ends_then ?_
    refine cw_seq ?_
    refine cw_seq ?_
    -- region 6
    refine cw_region ?_
    refine lw_v rfl rfl (ok_move rfl (.n rfl) rfl) ?_
    refine lw_v rfl rfl (ok_move rfl (.n rfl) rfl) ?_
    refine lw_v rfl rfl (ok_len rfl (.n rfl) Try.underlying25 rfl) ?_
    refine lw_v rfl rfl (ok_geq rfl (.n rfl) rfl rfl) ?_
    refine lw_nil ?_
    refine Ends.keep [(1, .eq _), (2, .eq _), (6, .eq _), (7, .eq _), (8, .eq _), (25, .eq _)] (.cons rfl (.cons rfl (.cons rfl (.cons rfl (.cons rfl (.cons rfl .nil)))))) ?_
    refine ends_then ?_
    refine cw_cond rfl (fun h25 => ?_) (fun h25 => ?_)
    ·
      exact absurd (of_decide_eq_true h25) (by omega)
    ·
      refine cw_skip ?_
      refine ends_then ?_
      refine cw_seq ?_
      -- region 8
      refine cw_draw (by kernel_rfl) (List.take 14 _) (List.drop 14 _) (List.take_append_drop 14 _).symm (by kernel_rfl) ?_
      refine free_v (ok_fb rfl (.n rfl) Try.underlying29 rfl Try.sizeOf25 (by decide) rfl) ?_
      refine free_v (ok_ldb rfl (.n rfl) rfl Try.isAgg25 hS (by rfl)) ?_
      refine free_v (ok_move rfl (.n rfl) rfl) ?_
      refine free_v (ok_ix rfl (.n rfl) Try.underlying25 Try.sizeOf2 rfl rfl hS (fun _ => ⟨by omega, by omega⟩)) ?_
      refine free_v (ok_ldx rfl (.n rfl) rfl Try.isAgg2 hS (fun _ => ⟨by omega, by omega⟩) (by rfl)) ?_
      refine free_v (ok_fb rfl (.n rfl) Try.underlying29 rfl Try.sizeOf25 (by decide) rfl) ?_
      refine free_v (ok_ldb rfl (.n rfl) rfl Try.isAgg25 hS (by rfl)) ?_
      refine free_v (ok_fb rfl (.n rfl) Try.underlying29 rfl Try.sizeOf26 (by decide) rfl) ?_
      refine free_v (ok_ldb rfl (.n rfl) rfl Try.isAgg26 hS (by rfl)) ?_
      refine free_v (ok_move rfl (.n rfl) rfl) ?_
      refine free_v (ok_ix rfl (.n rfl) Try.underlying26 Try.sizeOf3 rfl rfl hS (fun _ => ⟨by omega, by omega⟩)) ?_
      refine free_v (ok_ldx rfl (.n rfl) rfl Try.isAgg3 hS (fun _ => ⟨by omega, by omega⟩) (by rfl)) ?_
      refine free_v (ok_ix rfl (.n rfl) Try.underlying25 Try.sizeOf2 rfl rfl hS (fun _ => ⟨by omega, by omega⟩)) ?_
      refine free_v (ok_ldx rfl (.n rfl) rfl Try.isAgg2 hS (fun _ => ⟨by omega, by omega⟩) (by rfl)) ?_
      refine free_nil ?_
      intro w2 hg_; replace hS := hS.grow hg_; clear hg_
      refine lw_v rfl rfl (ok_addi rfl (.n rfl) rfl rfl (fun _ => ⟨by omega, by omega⟩)) ?_
      refine lw_v rfl rfl (ok_assign rfl (.n rfl) rfl) ?_
      refine lw_nil ?_
      refine Ends.keep [(1, .eq _), (2, .eq _), (6, .eq _), (7, .eq _), (8, .eq _), (9, .eq _)] (.cons rfl (.cons rfl (.cons rfl (.cons rfl (.cons rfl (.cons rfl .nil)))))) ?_
      refine ends_then ?_
      refine cw_seq ?_
      refine cw_seq ?_
      -- region 9
      refine cw_region ?_
      refine lw_v rfl rfl (ok_move rfl (.n rfl) rfl) ?_
      refine lw_v rfl rfl (ok_move rfl (.n rfl) rfl) ?_
      refine lw_v rfl rfl (ok_ix rfl (.n rfl) Try.underlying25 Try.sizeOf2 rfl rfl hS (fun _ => ⟨by omega, by omega⟩)) ?_
      refine lw_v rfl rfl (ok_ldx rfl (.n rfl) rfl Try.isAgg2 hS (fun _ => ⟨by omega, by omega⟩) (by rfl)) ?_
      refine lw_v rfl rfl (ok_lss rfl (.n rfl) rfl rfl) ?_
      refine lw_v rfl rfl (ok_move rfl (.n rfl) rfl) ?_
      refine lw_v rfl rfl (ok_move rfl (.s rfl rfl) rfl) ?_
      refine lw_v rfl rfl (ok_move rfl (.s rfl rfl) rfl) ?_
      refine lw_v rfl rfl (ok_ix rfl (.s rfl rfl) Try.underlying25 Try.sizeOf2 rfl rfl hS (fun _ => ⟨by omega, by omega⟩)) ?_
      refine lw_v rfl rfl (ok_ldx rfl (.s rfl rfl) rfl Try.isAgg2 hS (fun _ => ⟨by omega, by omega⟩) (by rfl)) ?_
      refine lw_v rfl rfl (ok_move rfl (.s rfl rfl) rfl) ?_
      refine lw_v rfl rfl (ok_gtr rfl (.s rfl rfl) rfl rfl) ?_
      refine lw_v rfl rfl (ok_or rfl rfl rfl rfl) ?_
      refine lw_nil ?_
      refine Ends.keep [(1, .eq _), (2, .eq _), (6, .eq _), (7, .eq _), (8, .eq _), (9, .eq _), (53, .eq _)] (.cons rfl (.cons rfl (.cons rfl (.cons rfl (.cons rfl (.cons rfl (.cons rfl .nil))))))) ?_
      refine ends_then ?_
      refine cw_cond rfl (fun h53 => ?_) (fun h53 => ?_)
      ·
        exact absurd h53 (by rw [Bool.or_eq_true, decide_eq_true_eq, decide_eq_true_eq]; omega)
      ·
        refine cw_skip ?_
        refine ends_then ?_
        refine cw_seq ?_
        -- region 11
        refine cw_region ?_
        refine lw_v rfl rfl (ok_fb rfl (.n rfl) Try.underlying29 rfl Try.sizeOf27 (by decide) rfl) ?_
        refine lw_v rfl rfl (ok_ldb rfl (.n rfl) rfl Try.isAgg27 hS (by rfl)) ?_
        refine lw_v rfl rfl (ok_move rfl (.n rfl) rfl) ?_
        refine lw_v rfl rfl (ok_ix rfl (.n rfl) Try.underlying27 Try.sizeOf4 rfl rfl hS (fun _ => ⟨by omega, by omega⟩)) ?_
        refine lw_v rfl rfl (ok_ldx rfl (.n rfl) rfl Try.isAgg4 hS (fun _ => ⟨by omega, by omega⟩) (by rfl)) ?_
        refine lw_nil ?_
        refine Ends.keep [(1, .eq _), (2, .eq _), (6, .eq _), (7, .eq _), (8, .eq _), (9, .eq _), (58, .eq _)] (.cons rfl (.cons rfl (.cons rfl (.cons rfl (.cons rfl (.cons rfl (.cons rfl .nil))))))) ?_
        refine ends_then ?_
        refine cw_cond rfl (fun h58 => ?_) (fun h58 => ?_)
        ·
          -- region 12
          refine cw_region ?_
          refine lw_v rfl rfl (ok_move rfl (.n rfl) rfl) ?_
          refine lw_v rfl rfl (ok_move rfl (.n rfl) rfl) ?_
          refine lw_v rfl rfl (ok_move rfl (.n rfl) rfl) ?_
          refine lw_v rfl rfl (ok_ix rfl (.n rfl) Try.underlying25 Try.sizeOf2 rfl rfl hS (fun _ => ⟨by omega, by omega⟩)) ?_
          refine lw_v rfl rfl (ok_ldx rfl (.n rfl) rfl Try.isAgg2 hS (fun _ => ⟨by omega, by omega⟩) (by rfl)) ?_
          refine lw_ls (enc := (eInt .i64)) [(f.getD (c.Arc.getD (k : Int).toNat 0).toNat 0)] rfl rfl rfl Try.underlying25 Try.sizeOf2 Try.zeroValue2 rfl (by kernel_rfl) rfl (by decide) (by decide) hS ?_
          clear hS; intro A64 c64 w3 _ hS
          refine lw_append (enc := (eInt .i64)) rfl rfl rfl Try.underlying25 info2 rfl rfl rfl hS (by decide) (by omega) (by omega) ?_
          intro A65 c65 w4 hS1; replace hS := hS1 _ (Rep.r); clear hS1
          refine lw_v rfl rfl (ok_assign rfl (.n rfl) rfl) ?_
          refine lw_nil ?_
          refine in_normal (?_)
          refine Ends.keep [(1, .eq _), (2, .eq _), (6, .eq _), (7, .eq _)] (.cons rfl (.cons rfl (.cons rfl (.cons rfl .nil)))) ?_
          refine ends_then ?_
          -- region 4
          refine cw_region ?_
          refine lw_v rfl rfl (ok_move rfl (.n rfl) rfl) ?_
          refine lw_v rfl rfl (ok_addi rfl (.n rfl) rfl rfl (fun _ => ⟨by omega, by omega⟩)) ?_
          refine lw_v rfl rfl (ok_assign rfl (.n rfl) rfl) ?_
          refine lw_nil ?_
          -- BACK
          rw [← resTo_back h58] at hS ⊢
          exact ends_back3 (k + 1) A65 c65 (.cons rfl (.cons rfl (.cons rfl (.cons rfl .nil)))) ⟨by omega, hS.tail⟩ (by omega)
        ·
          -- region 13
          refine cw_region ?_
          refine lw_v rfl rfl (ok_move rfl (.n rfl) rfl) ?_
          refine lw_v rfl rfl (ok_move rfl (.n rfl) rfl) ?_
          refine lw_v rfl rfl (ok_move rfl (.n rfl) rfl) ?_
          refine lw_v rfl rfl (ok_move rfl (.n rfl) rfl) ?_
          refine lw_v rfl rfl (ok_ix rfl (.n rfl) Try.underlying25 Try.sizeOf2 rfl rfl hS (fun _ => ⟨by omega, by omega⟩)) ?_
          refine lw_v rfl rfl (ok_ldx rfl (.n rfl) rfl Try.isAgg2 hS (fun _ => ⟨by omega, by omega⟩) (by rfl)) ?_
          refine lw_v rfl rfl (ok_subi rfl (.n rfl) rfl rfl (fun _ => ⟨by omega, by omega⟩)) ?_
          refine lw_ls (enc := (eInt .i64)) [c.Cap.getD (k : Int).toNat 0 + c.Cap.getD (c.Rev.getD (k : Int).toNat 0).toNat 0 - (f.getD (c.Arc.getD (k : Int).toNat 0).toNat 0)] rfl rfl rfl Try.underlying25 Try.sizeOf2 Try.zeroValue2 rfl (by kernel_rfl) rfl (by decide) (by decide) hS ?_
          clear hS; intro A73 c73 w5 _ hS
          refine lw_append (enc := (eInt .i64)) rfl rfl rfl Try.underlying25 info2 rfl rfl rfl hS (by decide) (by omega) (by omega) ?_
          intro A74 c74 w6 hS1; replace hS := hS1 _ (Rep.r); clear hS1
          refine lw_v rfl rfl (ok_assign rfl (.n rfl) rfl) ?_
          refine lw_nil ?_
          refine in_normal (?_)
          refine Ends.keep [(1, .eq _), (2, .eq _), (6, .eq _), (7, .eq _)] (.cons rfl (.cons rfl (.cons rfl (.cons rfl .nil)))) ?_
          refine ends_then ?_
          -- region 4
          refine cw_region ?_
          refine lw_v rfl rfl (ok_move rfl (.n rfl) rfl) ?_
          refine lw_v rfl rfl (ok_addi rfl (.n rfl) rfl rfl (fun _ => ⟨by omega, by omega⟩)) ?_
          refine lw_v rfl rfl (ok_assign rfl (.n rfl) rfl) ?_
          refine lw_nil ?_
          -- BACK
          rw [← resTo_fwd h58] at hS ⊢
          exact ends_back3 (k + 1) A74 c74 (.cons rfl (.cons rfl (.cons rfl (.cons rfl .nil)))) ⟨by omega, hS.tail⟩ (by omega)
  ·
    have hkM : k = c.Head.length := by have := of_decide_eq_false h14; omega
    subst hkM
    refine cw_exit ?_
    refine then_exit (then_exit (in_exit (?_)))
    refine Ends.keep [(6, .eq _)] (.cons rfl .nil) ?_
    refine ends_then ?_
    refine cw_seq ?_
    -- region 14
    refine cw_region ?_
    refine lw_v rfl rfl (ok_move rfl (.n rfl) rfl) ?_
    refine lw_v rfl rfl (ok_assign rfl (.n rfl) rfl) ?_
    refine lw_v rfl rfl (ok_assign rfl (.n rfl) rfl) ?_
    refine lw_nil ?_
    refine Ends.keep [(4, .eq _), (5, .eq _)] (.cons rfl (.cons rfl .nil)) ?_
    refine ends_then ?_
    refine cw_ret ?_
    exact end_ret (res2 Try.results67 rfl rfl) ⟨A, cc, rfl, hS.below, fun b hb => hS.ge _ (.head _) rfl b hb, hS.ok _ (.head _)⟩

end Go.Proofs.Ytnpgeohkmdcbkaa.Aq

namespace Go.Proofs.Ytnpgeohkmdcbkaa.Aq
open Go Go.RowKit

set_option maxRecDepth 10000 in
/-- acequialaw05.Left: of a right net, and any numbers. -/
theorem f23 (n : Nt) (A : Option Addr) (c : Nat) (l : List Int) (A1 : Option Addr) (c1 : Nat) (w : World) (hok : NetOk n) (ha : (sl eArc 3 A n.arcs.length c n.arcs).p w) (hl : (sl (eInt .i64) 1 A1 l.length c1 l).p w) (hll : l.length ≤ 140737488351232) (hrng : ∀ x ∈ l, -9223372036854775808 ≤ x ∧ x ≤ 9223372036854775807) :
    Calls Try.prog 23 #[netV n A c, .slice A1 l.length c1] w fun e w' => ∃ q A6 c6, e = .returned (.tuple #[csV (makeF n) q, .slice A6 (resL n l).length c6]) ∧ Gr w w' ∧ CsNew (makeF n) q w.heap.size ∧ CsAt (makeF n) q w' ∧ (∀ b, (own (eInt .i64) 1 2 A6 (resL n l).length c6 (resL n l)).fp b → w.heap.size ≤ b) ∧ CsApart (makeF n) q (own (eInt .i64) 1 2 A6 (resL n l).length c6 (resL n l)).fp ∧ (own (eInt .i64) 1 2 A6 (resL n l).length c6 (resL n l)).p w' := by
  refine calls_cw Try.func23 rfl Try.ntmps23 rfl ?_
  have hS := ((St.start w).args (Nat.le_refl _) _ ha rfl).args (Nat.le_refl _) _ hl rfl
  have hwf := makeF_wf hok
  have hfo := flowOk hok l
  have hln := hok.len
  refine cw_seq ?_
  -- region 0
  refine cw_region ?_
  refine lw_box rfl rfl rfl rfl hS ?_
  clear hS; intro b2 w1 _ _ hS
  refine lw_alloc rfl rfl rfl Try.zeroValue29 hS ?_
  clear hS; intro b4 w2 _ _ hS
  refine lw_v rfl rfl (ok_assign rfl (.n rfl) rfl) ?_
  refine lw_nil ?_
  refine Ends.keep [(1, .eq _), (2, .eq _), (4, .eq _)] (.cons rfl (.cons rfl (.cons rfl .nil))) ?_
  refine ends_then ?_
  refine cw_seq ?_
  -- region 1
  refine cw_region ?_
  refine lw_v rfl rfl (ok_ldS rfl (.n rfl) rfl Try.isAgg24 Try.sizeOf24 hS rfl) ?_
  refine lw_call (f := 66) (xs := [_]) rfl rfl rfl Try.call66 rfl (Calls.mono (f66 n A c _ hok (hS.ok _ (.tail _ (.tail _ (.tail _ (.head _)))))) ?_)
  rintro e w3 ⟨q, rfl, hg, hnew, hat⟩
  have hnew' : CsNew (makeF n) q w.heap.size := hnew.mono fun a h b hb => Nat.le_trans hS.base (h b hb)
  replace hS := hS.csr hg hat hnew; clear hg
  refine ⟨_, rfl, ?_⟩
  refine lw_v rfl rfl (ok_move rfl (.n rfl) rfl) ?_
  refine lw_v rfl rfl (ok_extract rfl (.n rfl) rfl rfl) ?_
  refine lw_v rfl rfl (ok_extract rfl (.n rfl) rfl rfl) ?_
  refine lw_alloc rfl rfl rfl Try.zeroValue29 hS ?_
  clear hS; intro b6 w3 _ _ hS
  refine lw_stS rfl rfl rfl rfl rfl (by kernel_rfl) hS rfl (by rfl) (by rfl) ?_
  clear hS; intro w4 hS
  refine lw_v rfl rfl (ok_assign rfl (.n rfl) rfl) ?_
  refine lw_nil ?_
  refine Ends.keep [(1, .eq _), (2, .eq _), (4, .eq _), (6, .eq _)] (.cons rfl (.cons rfl (.cons rfl (.cons rfl .nil)))) ?_
  refine ends_then ?_
  refine cw_seq ?_
  -- region 2
  refine cw_draw (by kernel_rfl) (List.take 9 _) (List.drop 9 _) (List.take_append_drop 9 _).symm (by kernel_rfl) ?_
  refine free_v (ok_ldS rfl (.n rfl) rfl Try.isAgg29 Try.sizeOf29 hS rfl) ?_
  refine free_v (ok_ldS rfl (.n rfl) rfl Try.isAgg24 Try.sizeOf24 hS rfl) ?_
  refine free_v (ok_move rfl (.n rfl) rfl) ?_
  refine free_cons (ok_call (fun v w' => ∃ A5 c5, v = .slice A5 n.arcs.length c5 ∧ (own (eInt .i64) 1 2 A5 n.arcs.length c5 (withinL n l)).p w') rfl rfl Try.call68 rfl (fun w' hg => (f68 n A c l A1 c1 w' hok ((hS.grow hg).rd A (by omega)) ((hS.grow hg).rd A1 hll) hrng).mono fun e w2 ⟨A5, c5, he, hg2, _, ho⟩ => ⟨_, he, hg2, fun w3 hg3 => ⟨A5, c5, rfl, Asn.grow _ ho hg3⟩⟩)) ?_
  refine free_cons (ok_callS (fun v w' => ∃ A6 c6, v = .tuple #[.slice A6 (resL n l).length c6, .int .i64 0] ∧ (∀ b, (own (eInt .i64) 1 2 A6 (resL n l).length c6 (resL n l)).fp b → w4.heap.size ≤ b) ∧ (own (eInt .i64) 1 2 A6 (resL n l).length c6 (resL n l)).p w') (xs := [_, _]) rfl rfl Try.call67 (fun vs w' hg hv => by
        match vs, hv with
        | [v1, v2], hv =>
          obtain ⟨h1, ⟨A5, c5, rfl, ho⟩, _⟩ := hv
          have h1' : v1 = csV (makeF n) q := h1
          subst h1'
          have hk := f67 (makeF n) q (withinL n l) A5 c5 w' hwf ((hS.grow hg).cs q) (by rw [withinL_len]; exact own_sl ho (by omega)) hfo
          rw [withinL_len] at hk
          exact hk.mono fun e w2 ⟨A6, c6, he, hg2, hfr, ho6⟩ => ⟨_, he, hg2, fun w3 hg3 => ⟨A6, c6, rfl, fun b hb => Nat.le_trans (Gr.size hg) (hfr b hb), Asn.grow _ ho6 hg3⟩⟩)) ?_
  refine free_v (ok_mvS rfl (.inl rfl) rfl) ?_
  refine free_v (ok_exS (G := (fun v w' => ∃ A6 c6, v = .slice A6 (resL n l).length c6 ∧ (∀ b, (own (eInt .i64) 1 2 A6 (resL n l).length c6 (resL n l)).fp b → w4.heap.size ≤ b) ∧ (own (eInt .i64) 1 2 A6 (resL n l).length c6 (resL n l)).p w')) rfl rfl rfl (fun v w' ⟨A6, c6, e, h1, h2⟩ => ⟨_, _, e, rfl, A6, c6, rfl, h1, h2⟩)) ?_
  refine free_v (ok_exS (G := fun v _ => v = .int .i64 0) rfl rfl rfl (fun v w' ⟨A6, c6, e, h1, h2⟩ => ⟨_, _, e, rfl, rfl⟩)) ?_
  refine free_v (ok_mvS rfl (.inr rfl) rfl) ?_
  refine free_nil ?_
  intro w9 hg9
  refine LW.opened (s := 22) rfl ?_; rintro _ rfl
  refine LW.opened (s := 8) rfl ?_; rintro _ ⟨A6, c6, rfl, hf6, ho6⟩
  replace hS := hS.new hg9 _ ho6 hf6; clear ho6
  refine lw_v rfl rfl (ok_assign rfl (.n rfl) rfl) ?_
  refine lw_nil ?_
  refine Ends.keep [(4, .eq _), (6, .eq _), (8, .eq _)] (.cons rfl (.cons rfl (.cons rfl .nil))) ?_
  refine ends_then ?_
  refine cw_seq ?_
  -- region 3
  refine cw_region ?_
  refine lw_v rfl rfl (ok_ldS rfl (.n rfl) rfl Try.isAgg29 Try.sizeOf29 hS rfl) ?_
  refine lw_v rfl rfl (ok_move rfl (.n rfl) rfl) ?_
  refine lw_stS rfl rfl rfl rfl rfl (by kernel_rfl) hS rfl (by rfl) (by rfl) ?_
  clear hS; intro w5 hS
  refine lw_v rfl rfl (ok_assign rfl (.n rfl) rfl) ?_
  refine lw_nil ?_
  refine Ends.keep [(4, .eq _), (5, .eq _)] (.cons rfl (.cons rfl .nil)) ?_
  refine ends_then ?_
  refine cw_ret ?_
  exact end_ret (resST Try.results23 rfl rfl Try.isAgg29 Try.sizeOf29 hS rfl) ⟨q, A6, c6, rfl, hS.below, hnew', hS.cs q, hS.ge _ (.head _) rfl, hS.csApart q rfl, hS.ok _ (.head _)⟩

end Go.Proofs.Ytnpgeohkmdcbkaa.Aq

namespace Go.Proofs.Ytnpgeohkmdcbkaa.Aq
open Go Go.RowKit

set_option maxRecDepth 10000 in
/-- csr.Len. -/
theorem f77 (c : Cs) (q : Q6) (w : World) : Calls Try.prog 77 #[csV c q] w fun e w' => e = .returned (.int .i64 c.Head.length) ∧ Gr w w' := by
  refine calls_cw Try.func77 rfl Try.ntmps77 rfl ?_
  have hS := St.start w
  refine cw_seq ?_
  -- region 0
  refine cw_region ?_
  refine lw_box rfl rfl rfl rfl hS ?_
  clear hS; intro b1 w1 _ _ hS
  refine lw_v rfl rfl (ok_assign rfl (.n rfl) rfl) ?_
  refine lw_nil ?_
  refine Ends.keep [(1, .eq _)] (.cons rfl .nil) ?_
  refine ends_then ?_
  refine cw_seq ?_
  -- region 1
  refine cw_region ?_
  refine lw_v rfl rfl (ok_fb rfl (.n rfl) Try.underlying29 rfl Try.sizeOf26 (by decide) rfl) ?_
  refine lw_v rfl rfl (ok_ldb rfl (.n rfl) rfl Try.isAgg26 hS (by rfl)) ?_
  refine lw_v rfl rfl (ok_len rfl (.n rfl) Try.underlying26 rfl) ?_
  refine lw_v rfl rfl (ok_assign rfl (.n rfl) rfl) ?_
  refine lw_nil ?_
  refine Ends.keep [(2, .eq _)] (.cons rfl .nil) ?_
  refine ends_then ?_
  refine cw_ret ?_
  exact end_ret (res1 Try.results77 rfl) ⟨rfl, hS.below⟩

set_option maxRecDepth 10000 in
/-- sort.SearchInts's function. -/
theorem f99 (i : Int) (l : List Int) (A : Option Addr) (c : Nat) (x : Int) (b1 b2 : Nat) (w : World) (hl : (sl (eInt .i64) 1 A l.length c l).p w) (h1 : (rbx b1 [.slice A l.length c] 26).p w) (h2 : (rbx b2 [.int .i64 x] 3).p w) (hi : 0 ≤ i ∧ i < l.length) :
    Calls Try.prog 99 #[.int .i64 i, .pointer (some ⟨b1, 0, none⟩), .pointer (some ⟨b2, 0, none⟩)] w fun e w' => e = .returned (.bool (decide (x ≤ l.getD i.toNat 0))) ∧ Gr w w' := by
  refine calls_cw Try.func99 rfl Try.ntmps99 rfl ?_
  have hS := (((St.start w).args (Nat.le_refl _) _ hl rfl).args (Nat.le_refl _) (rbx b2 [.int .i64 x] 3) h2 rfl).args (Nat.le_refl _) (rbx b1 [.slice A l.length c] 26) h1 rfl
  refine cw_seq ?_
  -- region 0
  refine cw_region ?_
  refine lw_v rfl rfl (ok_assign rfl (.n rfl) rfl) ?_
  refine lw_nil ?_
  refine Ends.keep [(0, .eq _), (1, .eq _), (2, .eq _)] (.cons rfl (.cons rfl (.cons rfl .nil))) ?_
  refine ends_then ?_
  refine cw_seq ?_
  -- region 1
  refine cw_draw (by kernel_rfl) (List.take 5 _) (List.drop 5 _) (List.take_append_drop 5 _).symm (by kernel_rfl) ?_
  refine free_v (ok_ldb rfl (.n rfl) rfl Try.isAgg26 hS (by rfl)) ?_
  refine free_v (ok_move rfl (.n rfl) rfl) ?_
  refine free_v (ok_ix rfl (.n rfl) Try.underlying26 Try.sizeOf3 rfl rfl hS (fun _ => ⟨by omega, by omega⟩)) ?_
  refine free_v (ok_ldx rfl (.n rfl) rfl Try.isAgg3 hS (fun _ => ⟨by omega, by omega⟩) (by rfl)) ?_
  refine free_v (ok_ldb rfl (.n rfl) rfl Try.isAgg3 hS (by rfl)) ?_
  refine free_nil ?_
  intro w1 hg_; replace hS := hS.grow hg_; clear hg_
  refine lw_v rfl rfl (ok_geq rfl (.n rfl) rfl rfl) ?_
  refine lw_v rfl rfl (ok_assign rfl (.n rfl) rfl) ?_
  refine lw_nil ?_
  refine Ends.keep [(4, .eq _)] (.cons rfl .nil) ?_
  refine ends_then ?_
  refine cw_ret ?_
  exact end_ret (res1 Try.results99 rfl) ⟨rfl, hS.below⟩

theorem mid_eq (i j : Nat) (h : i + j ≤ 9223372036854775807) : IntKind.i64.wrap (IntKind.u64.wrap ((i : Int) + j) / 2) = (((i + j) / 2 : Nat) : Int) := by
  have e : IntKind.u64.wrap ((i : Int) + j) = (i : Int) + j := by
    unfold IntKind.wrap
    simp only [IntKind.bits, IntKind.signed]
    simp
    omega
  rw [e, wrap_in ⟨by omega, by omega⟩]
  omega
set_option maxRecDepth 10000 in
/-- sort.Search, with a function of which it is known what it says. -/
theorem f98 (n : Nat) (F : FuncId) (caps : List Value) (p : Nat → Bool) (w : World) (hn : n ≤ 4611686018427387903) (hF : ∀ args w, (callFunc F args).run Try.prog w = .ok (.enter F args) w) (hdo : ∀ i : Nat, i < n → Does Try.prog F caps w [.int .i64 i] (.bool (p i))) :
    Calls Try.prog 98 #[.int .i64 n, .func (.func F) #[] caps.toArray] w fun e w' => ∃ i : Nat, e = .returned (.int .i64 i) ∧ Gr w w' ∧ i ≤ n ∧ (0 < i → p (i - 1) = false) ∧ (i < n → p i = true) := by
  refine calls_cw Try.func98 rfl Try.ntmps98 rfl ?_
  have hS := St.start w
  refine cw_seq ?_
  -- region 0
  refine cw_region ?_
  refine lw_v rfl rfl (ok_assign rfl (.n rfl) rfl) ?_
  refine lw_nil ?_
  refine Ends.keep [(0, .eq _), (1, .eq _)] (.cons rfl (.cons rfl .nil)) ?_
  refine ends_then ?_
  refine cw_seq ?_
  -- region 1
  refine cw_region ?_
  refine lw_v rfl rfl (ok_move rfl (.n rfl) rfl) ?_
  refine lw_v rfl rfl (ok_assign rfl (.n rfl) rfl) ?_
  refine lw_v rfl rfl (ok_assign rfl (.n rfl) rfl) ?_
  refine lw_nil ?_
  refine Ends.keep [(1, .eq _), (5, .eq _), (6, .eq _)] (.cons rfl (.cons rfl (.cons rfl .nil))) ?_
  refine ends_then ?_
  refine cw_seq ?_
  refine cw_block ?_
  -- LOOP at region 2: changed live slots [5, 6], kept [1]
  refine cw_loop2 [(1, .eq _)] (fun (i j : Nat) => [(5, .eq (.int .i64 i)), (6, .eq (.int .i64 j))]) (fun i j w' => (i ≤ j ∧ j ≤ n ∧ (0 < i → p (i - 1) = false) ∧ (j < n → p j = true)) ∧ St w.heap.size w w' []) (fun i j => j - i) 0 n (.cons rfl .nil) (.cons rfl (.cons rfl (.cons rfl .nil))) ⟨⟨Nat.zero_le _, Nat.le_refl _, fun h => absurd h (Nat.lt_irrefl _), fun h => absurd h (Nat.lt_irrefl _)⟩, hS⟩ ?_
  clear hS
  rintro i j wr ⟨⟨hij, hjn, hpi, hpj⟩, hS⟩
  refine cw_seq ?_
  refine cw_seq ?_
  -- region 2
  refine cw_region ?_
  refine lw_v rfl rfl (ok_move rfl (.n rfl) rfl) ?_
  refine lw_v rfl rfl (ok_move rfl (.n rfl) rfl) ?_
  refine lw_v rfl rfl (ok_lss rfl (.n rfl) rfl rfl) ?_
  refine lw_nil ?_
  refine Ends.keep [(1, .eq _), (5, .eq _), (6, .eq _), (11, .eq _)] (.cons rfl (.cons rfl (.cons rfl (.cons rfl .nil)))) ?_
  refine ends_then ?_
  refine cw_cond rfl (fun h11 => ?_) (fun h11 => ?_)
  ·
    have hlt := of_decide_eq_true h11
    refine cw_skip ?_
    refine ends_then ?_
    refine cw_block ?_
    refine cw_seq ?_
    -- region 3
    refine cw_region ?_
    refine lw_v rfl rfl (ok_move rfl (.n rfl) rfl) ?_
    refine lw_v rfl rfl (ok_move rfl (.n rfl) rfl) ?_
    refine lw_v rfl rfl (ok_addi rfl (.n rfl) rfl rfl (fun _ => ⟨by omega, by omega⟩)) ?_
    refine lw_v rfl rfl (ok_conv rfl (.n rfl) Try.underlying3 Try.underlying118 rfl) ?_
    refine lw_v rfl rfl (ok_shr1 rfl (.n rfl) rfl rfl rfl) ?_
    refine lw_v rfl rfl (ok_eq (ok_conv rfl (.n rfl) Try.underlying118 Try.underlying3 rfl) (c' := .int .i64 (((i + j) / 2 : Nat) : Int)) (fun _ => congrArg (Value.int .i64) (mid_eq i j (by omega)))) ?_
    refine lw_v rfl rfl (ok_assign rfl (.n rfl) rfl) ?_
    refine lw_nil ?_
    refine Ends.keep [(1, .eq _), (5, .eq _), (6, .eq _), (7, .eq _)] (.cons rfl (.cons rfl (.cons rfl (.cons rfl .nil)))) ?_
    refine ends_then ?_
    refine cw_seq ?_
    -- region 4
    refine cw_region ?_
    refine lw_v rfl rfl (ok_move rfl (.n rfl) rfl) ?_
    refine lw_v rfl rfl (ok_move rfl (.n rfl) rfl) ?_
    refine lw_callf (f := F) (xs := [_]) rfl rfl rfl hF rfl rfl (Calls.mono (hdo ((i + j) / 2) (by omega) _ hS.below) ?_)
    rintro e w' ⟨rfl, hg⟩
    replace hS := hS.grow hg; clear hg
    refine ⟨_, rfl, ?_⟩
    refine lw_v rfl rfl (ok_not rfl (.n rfl) rfl) ?_
    refine lw_nil ?_
    refine Ends.keep [(1, .eq _), (5, .eq _), (6, .eq _), (7, .eq _), (21, .eq _)] (.cons rfl (.cons rfl (.cons rfl (.cons rfl (.cons rfl .nil))))) ?_
    refine ends_then ?_
    refine cw_cond rfl (fun h21 => ?_) (fun h21 => ?_)
    ·
      -- region 5
      refine cw_region ?_
      refine lw_v rfl rfl (ok_move rfl (.n rfl) rfl) ?_
      refine lw_v rfl rfl (ok_addi rfl (.n rfl) rfl rfl (fun _ => ⟨by omega, by omega⟩)) ?_
      refine lw_v rfl rfl (ok_assign rfl (.n rfl) rfl) ?_
      refine lw_nil ?_
      refine in_normal (?_)
      -- BACK
      refine ends_back2 ((i + j) / 2 + 1) j (.cons rfl (.cons rfl (.cons rfl .nil))) ⟨⟨by omega, by omega, fun _ => by simpa using h21, hpj⟩, hS⟩ (by omega)
    ·
      -- region 6
      refine cw_region ?_
      refine lw_v rfl rfl (ok_move rfl (.n rfl) rfl) ?_
      refine lw_v rfl rfl (ok_assign rfl (.n rfl) rfl) ?_
      refine lw_nil ?_
      refine in_normal (?_)
      -- BACK
      refine ends_back2 i ((i + j) / 2) (.cons rfl (.cons rfl (.cons rfl .nil))) ⟨⟨by omega, by omega, hpi, fun _ => by simpa using h21⟩, hS⟩ (by omega)
  ·
    have hlt := of_decide_eq_false h11
    have hieq : i = j := by omega
    subst hieq
    refine cw_exit ?_
    refine then_exit (then_exit (in_exit (?_)))
    refine Ends.keep [(5, .eq _)] (.cons rfl .nil) ?_
    refine ends_then ?_
    refine cw_seq ?_
    -- region 7
    refine cw_region ?_
    refine lw_v rfl rfl (ok_move rfl (.n rfl) rfl) ?_
    refine lw_v rfl rfl (ok_assign rfl (.n rfl) rfl) ?_
    refine lw_nil ?_
    refine Ends.keep [(4, .eq _)] (.cons rfl .nil) ?_
    refine ends_then ?_
    refine cw_ret ?_
    exact end_ret (res1 Try.results98 rfl) ⟨i, rfl, hS.below, hjn, hpi, hpj⟩

set_option maxRecDepth 10000 in
/-- sort.SearchInts. -/
theorem f78 (l : List Int) (A : Option Addr) (c : Nat) (x : Int) (w : World) (hl : (sl (eInt .i64) 1 A l.length c l).p w) :
    Calls Try.prog 78 #[.slice A l.length c, .int .i64 x] w fun e w' => ∃ i : Nat, e = .returned (.int .i64 i) ∧ Gr w w' ∧ i ≤ l.length ∧ (0 < i → decide (x ≤ l.getD (i - 1) 0) = false) ∧ (i < l.length → decide (x ≤ l.getD i 0) = true) := by
  refine calls_cw Try.func78 rfl Try.ntmps78 rfl ?_
  have hS := (St.start w).args (Nat.le_refl _) _ hl rfl
  have hll := hl.2.1
  refine cw_seq ?_
  -- region 0
  refine cw_region ?_
  refine lw_box rfl rfl rfl rfl hS ?_
  clear hS; intro b2 w1 _ _ hS
  refine lw_box rfl rfl rfl rfl hS ?_
  clear hS; intro b3 w2 _ _ hS
  refine lw_v rfl rfl (ok_assign rfl (.n rfl) rfl) ?_
  refine lw_nil ?_
  refine Ends.keep [(2, .eq _), (3, .eq _)] (.cons rfl (.cons rfl .nil)) ?_
  refine ends_then ?_
  refine cw_seq ?_
  -- region 1
  refine cw_region ?_
  refine lw_v rfl rfl (ok_ldb rfl (.n rfl) rfl Try.isAgg26 hS (by rfl)) ?_
  refine lw_v rfl rfl (ok_len rfl (.n rfl) Try.underlying26 rfl) ?_
  refine lw_v rfl rfl (ok_mkfn rfl (.n rfl) rfl) ?_
  refine lw_call (f := 98) (xs := [_, _]) rfl rfl rfl Try.call98 rfl (Calls.mono (f98 l.length 99 [_, _] (fun i => decide (x ≤ l.getD i 0)) _ (by omega) Try.call99 (fun i hi w' hg => (f99 i l A c x b2 b3 w' ((hS.grow hg).rd A hll) ((hS.grow hg).bx (b := b2)) ((hS.grow hg).bx (b := b3)) ⟨by omega, by omega⟩))) ?_)
  rintro e w' ⟨i, rfl, hg, hi1, hi2, hi3⟩
  replace hS := hS.grow hg; clear hg
  refine ⟨_, rfl, ?_⟩
  refine lw_v rfl rfl (ok_assign rfl (.n rfl) rfl) ?_
  refine lw_nil ?_
  refine Ends.keep [(4, .eq _)] (.cons rfl .nil) ?_
  refine ends_then ?_
  refine cw_ret ?_
  exact end_ret (res1 Try.results78 rfl) ⟨i, rfl, hS.below, hi1, hi2, hi3⟩

set_option maxRecDepth 10000 in
/-- csr.Tail: of a residual arc. -/
theorem f40 (c : Cs) (q : Q6) (a : Nat) (w : World) (hwf : WF c) (hc : CsAt c q w) (ha : a < c.Head.length) :
    Calls Try.prog 40 #[csV c q, .int .i64 a] w fun e w' => e = .returned (.tuple #[.int .i64 (tailOf c a), .bool true]) ∧ Gr w w' := by
  refine calls_cw Try.func40 rfl Try.ntmps40 rfl ?_
  have hS := St.ofc hc
  obtain ⟨hlo, hhi, hs, ht, hne, hfl, hM, hrl, hcl, hal, hbl, hf0, hfm, hfN, hhd, hrv, hrr, htl⟩ := id hwf
  have hcf := hc.first
  refine cw_seq ?_
  -- region 0
  refine cw_region ?_
  refine lw_box rfl rfl rfl rfl hS ?_
  clear hS; intro b2 w1 _ _ hS
  refine lw_v rfl rfl (ok_assign rfl (.n rfl) rfl) ?_
  refine lw_v rfl rfl (ok_assign rfl (.n rfl) rfl) ?_
  refine lw_nil ?_
  refine Ends.keep [(1, .eq _), (2, .eq _)] (.cons rfl (.cons rfl .nil)) ?_
  refine ends_then ?_
  refine cw_seq ?_
  refine cw_seq ?_
  -- region 1
  refine cw_region ?_
  refine lw_v rfl rfl (ok_move rfl (.n rfl) rfl) ?_
  refine lw_v rfl rfl (ok_eq (ok_lss rfl (.n rfl) rfl rfl) (c' := .bool false) (fun _ => congrArg Value.bool (decide_eq_false (by omega)))) ?_
  refine lw_v rfl rfl (ok_move rfl (.n rfl) rfl) ?_
  refine lw_on (.s rfl rfl) rfl ?_
  refine lw_v rfl rfl (ok_move rfl (.n rfl) rfl) ?_
  refine lw_on (.s rfl rfl) rfl ?_
  refine lw_v rfl rfl (ok_ldS rfl (.n rfl) rfl Try.isAgg29 Try.sizeOf29 hS rfl) ?_
  refine lw_on (.s rfl rfl) rfl ?_
  refine lw_call (f := 77) (xs := [_]) rfl rfl rfl Try.call77 rfl (Calls.mono (f77 c q _) ?_)
  rintro e w' ⟨rfl, hg⟩
  replace hS := hS.grow hg; clear hg
  refine ⟨_, rfl, ?_⟩
  refine lw_on (.s rfl rfl) rfl ?_
  refine lw_v rfl rfl (ok_geq rfl (.n rfl) rfl rfl) ?_
  refine lw_v rfl rfl (ok_pick rfl rfl rfl rfl rfl) ?_
  refine lw_nil ?_
  refine Ends.keep [(1, .eq _), (2, .eq _), (13, .eq _)] (.cons rfl (.cons rfl (.cons rfl .nil))) ?_
  refine ends_then ?_
  refine cw_cond rfl (fun h13 => ?_) (fun h13 => ?_)
  ·
    exact absurd h13 (by rw [decide_eq_true_eq]; omega)
  ·
    refine cw_skip ?_
    refine ends_then ?_
    refine cw_seq ?_
    -- region 3
    refine cw_region ?_
    refine lw_v rfl rfl (ok_fb rfl (.n rfl) Try.underlying29 rfl Try.sizeOf26 (by decide) rfl) ?_
    refine lw_v rfl rfl (ok_ldb rfl (.n rfl) rfl Try.isAgg26 hS (by rfl)) ?_
    refine lw_v rfl rfl (ok_move rfl (.n rfl) rfl) ?_
    refine lw_v rfl rfl (ok_addi rfl (.n rfl) rfl rfl (fun _ => ⟨by omega, by omega⟩)) ?_
    refine lw_call (f := 78) (xs := [_, _]) rfl rfl rfl Try.call78 rfl (Calls.mono (f78 c.First q.a0 q.c0 (a + 1) _ (hS.rd q.a0 (by omega))) ?_)
    rintro e w' ⟨i, rfl, hg, hi1, hi2, hi3⟩
    replace hS := hS.grow hg; clear hg
    have hT := tail_found hwf ha hi1 hi2 hi3
    refine ⟨_, rfl, ?_⟩
    refine lw_v rfl rfl (ok_subi rfl (.n rfl) rfl rfl (fun _ => ⟨by omega, by omega⟩)) ?_
    refine lw_v rfl rfl (ok_assign rfl (.n rfl) rfl) ?_
    refine lw_v rfl rfl (ok_assign rfl (.n rfl) rfl) ?_
    refine lw_nil ?_
    refine Ends.keep [(4, .eq _), (5, .eq _)] (.cons rfl (.cons rfl .nil)) ?_
    refine ends_then ?_
    refine cw_ret ?_
    exact end_ret (res2 Try.results40 rfl rfl) ⟨by rw [hT], hS.below⟩

end Go.Proofs.Ytnpgeohkmdcbkaa.Aq
