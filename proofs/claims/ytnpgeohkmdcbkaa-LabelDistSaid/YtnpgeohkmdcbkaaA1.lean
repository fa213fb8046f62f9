/- The walks of acequialow.Among and of acequiaref01's functions, of right nets. -/
import Derived.Test.YtnpgeohkmdcbkaaEng7
import Derived.Test.YtnpgeohkmdcbkaaPlain0
namespace Go.Proofs.Ytnpgeohkmdcbkaa.Aq
open Go Go.RowKit

theorem tmod_bd (x n : Int) (h : 1 ≤ n) : -n < x.tmod n ∧ x.tmod n < n := by
  have h1 := Int.tmod_lt_of_pos x (by omega : 0 < n)
  have h2 : -n < x.tmod n := by
    have := Int.neg_tmod x n
    have h3 := Int.tmod_lt_of_pos (-x) (by omega : 0 < n)
    omega
  exact ⟨h2, h1⟩
theorem among_eq (x n : Int) (h : 1 ≤ n) : (x.tmod n + n).tmod n = x % n := by
  have hb := tmod_bd x n h
  rw [Int.tmod_eq_emod_of_nonneg (by omega)]
  have e := Int.tmod_add_mul_tdiv x n
  have : x.tmod n + n = x + n * (1 - x.tdiv n) := by rw [Int.mul_sub]; omega
  rw [this, Int.add_mul_emod_self_left]
set_option maxRecDepth 10000 in
/-- acequialow.Among. -/
theorem f69 (x n : Int) (w : World) (h1 : -9223372036854775808 ≤ x) (h2 : x ≤ 9223372036854775807) (h3 : 1 ≤ n) (h4 : n ≤ 1125899906842624) :
    Calls Try.prog 69 #[.int .i64 x, .int .i64 n] w fun e w' => e = .returned (.int .i64 (among x n)) ∧ Gr w w' := by
  refine calls_cw Try.func69 rfl Try.ntmps69 rfl ?_
  have hS := St.start w
  refine cw_seq ?_
  -- region 0
  refine cw_region ?_
  refine lw_v rfl rfl (ok_assign rfl (.n rfl) rfl) ?_
  refine lw_nil ?_
  refine Ends.keep [(0, .eq _), (1, .eq _)] (.cons rfl (.cons rfl .nil)) ?_
  refine ends_then ?_
  refine cw_seq ?_
  refine cw_seq ?_
  -- region 1
  refine cw_region ?_
  refine lw_v rfl rfl (ok_move rfl (.n rfl) rfl) ?_
  refine lw_v rfl rfl (ok_lss rfl (.n rfl) rfl rfl) ?_
  refine lw_nil ?_
  refine Ends.keep [(0, .eq _), (1, .eq _), (6, .eq _)] (.cons rfl (.cons rfl (.cons rfl .nil))) ?_
  refine ends_then ?_
  refine cw_cond rfl (fun h6 => ?_) (fun h6 => ?_)
  ·
    exact absurd h6 (by simp; omega)
  ·
    have hb := tmod_bd x n h3
    refine cw_skip ?_
    refine ends_then ?_
    refine cw_seq ?_
    -- region 3
    refine cw_region ?_
    refine lw_v rfl rfl (ok_move rfl (.n rfl) rfl) ?_
    refine lw_v rfl rfl (ok_move rfl (.n rfl) rfl) ?_
    refine lw_v rfl rfl (ok_rem rfl (.n rfl) rfl rfl (fun _ => by omega)) ?_
    refine lw_v rfl rfl (ok_move rfl (.n rfl) rfl) ?_
    refine lw_v rfl rfl (ok_addi rfl (.n rfl) rfl rfl (fun _ => ⟨by omega, by omega⟩)) ?_
    refine lw_v rfl rfl (ok_move rfl (.n rfl) rfl) ?_
    refine lw_v rfl rfl (ok_rem rfl (.n rfl) rfl rfl (fun _ => by omega)) ?_
    refine lw_v rfl rfl (ok_assign rfl (.n rfl) rfl) ?_
    refine lw_nil ?_
    refine Ends.keep [(4, .eq _)] (.cons rfl .nil) ?_
    refine ends_then ?_
    refine cw_ret ?_
    exact end_ret (res1 Try.results69 rfl) ⟨by rw [among_eq x n h3]; rfl, Gr.refl _⟩

def netV (n : Nt) (A : Option Addr) (c : Nat) : Value := .agg #[.int .i64 n.N, .int .i64 n.S, .int .i64 n.T, .slice A n.arcs.length c]


set_option maxRecDepth 10000 in
/-- acequiaref01.vertex: of a vertex. -/
theorem f110 (n : Nt) (A : Option Addr) (c : Nat) (v : Int) (w : World) (h1 : 0 ≤ v) (h2 : v < n.N) :
    Calls Try.prog 110 #[netV n A c, .int .i64 v] w fun e w' => e = .returned (.bool true) ∧ Gr w w' := by
  refine calls_cw Try.func110 rfl Try.ntmps110 rfl ?_
  have hS := St.start w
  refine cw_seq ?_
  -- region 0
  refine cw_region ?_
  refine lw_box rfl rfl rfl rfl hS ?_
  clear hS; intro b2 w1 _ _ hS
  refine lw_v rfl rfl (ok_assign rfl (.n rfl) rfl) ?_
  refine lw_nil ?_
  refine Ends.keep [(1, .eq _), (2, .eq _)] (.cons rfl (.cons rfl .nil)) ?_
  refine ends_then ?_
  refine cw_seq ?_
  -- region 1
  refine cw_region ?_
  refine lw_v rfl rfl (ok_move rfl (.n rfl) rfl) ?_
  refine lw_v rfl rfl (ok_geq rfl (.n rfl) rfl rfl) ?_
  refine lw_v rfl rfl (ok_move rfl (.n rfl) rfl) ?_
  refine lw_v rfl rfl (ok_move rfl (.s rfl rfl) rfl) ?_
  refine lw_v rfl rfl (ok_fb rfl (.s rfl rfl) Try.underlying24 rfl Try.sizeOf3 (by decide) rfl) ?_
  refine lw_v rfl rfl (ok_ldb rfl (.s rfl rfl) rfl Try.isAgg3 hS (by rfl)) ?_
  refine lw_v rfl rfl (ok_lss rfl (.s rfl rfl) rfl rfl) ?_
  refine lw_v rfl rfl (ok_and rfl rfl rfl rfl) ?_
  refine lw_v rfl rfl (ok_assign rfl (.n rfl) rfl) ?_
  refine lw_nil ?_
  refine Ends.keep [(4, .eq _)] (.cons rfl .nil) ?_
  refine ends_then ?_
  refine cw_ret ?_
  exact end_ret (res1 Try.results110 rfl) ⟨by rw [show (decide (0 ≤ v) && decide (v < n.N)) = true from by simp; omega], hS.below⟩

theorem arc_cap {n : Nt} (h : NetOk n) {k : Nat} (hk : k < n.arcs.length) : 0 ≤ (n.arcs.getD k (0, 0, 0)).2.2 ∧ (n.arcs.getD k (0, 0, 0)).2.2 ≤ 1125899906842623 := by
  have := (h.arc (n.arcs[k]) (List.getElem_mem hk)).2.2
  simpa [List.getD_eq_getElem?_getD, hk] using this
theorem arc_ends {n : Nt} (h : NetOk n) {k : Nat} (hk : k < n.arcs.length) : (0 ≤ (n.arcs.getD k (0, 0, 0)).1 ∧ (n.arcs.getD k (0, 0, 0)).1 < n.N) ∧ (0 ≤ (n.arcs.getD k (0, 0, 0)).2.1 ∧ (n.arcs.getD k (0, 0, 0)).2.1 < n.N) := by
  have := h.arc (n.arcs[k]) (List.getElem_mem hk)
  have e : n.arcs.getD k (0, 0, 0) = n.arcs[k] := by simp [List.getD_eq_getElem?_getD, hk]
  rw [e]
  exact ⟨this.1, this.2.1⟩
set_option maxRecDepth 10000 in
/-- acequiaref01.Sum: of a right net. -/
theorem f111 (n : Nt) (A : Option Addr) (c : Nat) (w : World) (hok : NetOk n) (ha : (sl eArc 3 A n.arcs.length c n.arcs).p w) :
    Calls Try.prog 111 #[netV n A c] w fun e w' => ∃ s : Int, e = .returned (.tuple #[.int .i64 s, .bool true]) ∧ Gr w w' := by
  refine calls_cw Try.func111 rfl Try.ntmps111 rfl ?_
  have hS := (St.start w).arg _ ha rfl (fun b hb => (sl eArc 3 A n.arcs.length c n.arcs).lt ha hb)
  have hln := hok.len
  refine cw_seq ?_
  -- region 0
  refine cw_region ?_
  refine lw_box rfl rfl rfl rfl hS ?_
  clear hS; intro b1 w1 _ _ hS
  refine lw_v rfl rfl (ok_assign rfl (.n rfl) rfl) ?_
  refine lw_v rfl rfl (ok_assign rfl (.n rfl) rfl) ?_
  refine lw_nil ?_
  refine Ends.keep [(1, .eq _)] (.cons rfl .nil) ?_
  refine ends_then ?_
  refine cw_seq ?_
  -- region 1
  refine cw_region ?_
  refine lw_v rfl rfl (ok_assign rfl (.n rfl) rfl) ?_
  refine lw_nil ?_
  refine Ends.keep [(1, .eq _), (4, .eq _)] (.cons rfl (.cons rfl .nil)) ?_
  refine ends_then ?_
  refine cw_seq ?_
  refine cw_seq ?_
  -- region 2
  refine cw_region ?_
  refine lw_v rfl rfl (ok_assign rfl (.n rfl) rfl) ?_
  refine lw_nil ?_
  refine Ends.keep [(1, .eq _), (4, .eq _), (5, .eq _)] (.cons rfl (.cons rfl (.cons rfl .nil))) ?_
  refine ends_then ?_
  refine cw_block ?_
  -- LOOP at region 3: changed live slots [4, 5], kept [1]
  refine cw_loop2 [(1, .eq _)] (fun (k : Nat) (s : Int) => [(4, .eq (.int .i64 s)), (5, .eq (.int .i64 k))]) (fun k s w' => (k ≤ n.arcs.length ∧ 0 ≤ s ∧ s ≤ k * 1125899906842623) ∧ St w.heap.size w w' [bx b1 (netV n A c).cells.toList 24, sl eArc 3 A n.arcs.length c n.arcs]) (fun k _ => n.arcs.length - k) 0 0 (.cons rfl .nil) (.cons rfl (.cons rfl (.cons rfl .nil))) ⟨⟨Nat.zero_le _, by omega, by omega⟩, hS⟩ ?_
  clear hS
  rintro k s wr ⟨⟨hk, hs0, hs1⟩, hS⟩
  refine cw_seq ?_
  refine cw_seq ?_
  -- region 3
  refine cw_region ?_
  refine lw_v rfl rfl (ok_move rfl (.n rfl) rfl) ?_
  refine lw_v rfl rfl (ok_fb rfl (.n rfl) Try.underlying24 rfl Try.sizeOf22 (by decide) rfl) ?_
  refine lw_v rfl rfl (ok_ldb rfl (.n rfl) rfl Try.isAgg22 hS (by rfl)) ?_
  refine lw_v rfl rfl (ok_len rfl (.n rfl) Try.underlying22 rfl) ?_
  refine lw_v rfl rfl (ok_lss rfl (.n rfl) rfl rfl) ?_
  refine lw_nil ?_
  refine Ends.keep [(1, .eq _), (4, .eq _), (5, .eq _), (11, .eq _)] (.cons rfl (.cons rfl (.cons rfl (.cons rfl .nil)))) ?_
  refine ends_then ?_
  refine cw_cond rfl (fun h11 => ?_) (fun h11 => ?_)
  ·
    have hlt : k < n.arcs.length := by simpa using h11
    have hcap := arc_cap hok (k := (k : Int).toNat) (by omega)
    refine cw_skip ?_
    refine ends_then ?_
    refine cw_seq ?_
    refine cw_block ?_
    refine cw_seq ?_
    -- region 5
    refine cw_region ?_
    refine lw_v rfl rfl (ok_fb rfl (.n rfl) Try.underlying24 rfl Try.sizeOf22 (by decide) rfl) ?_
    refine lw_v rfl rfl (ok_ldb rfl (.n rfl) rfl Try.isAgg22 hS (by rfl)) ?_
    refine lw_v rfl rfl (ok_move rfl (.n rfl) rfl) ?_
    refine lw_v rfl rfl (ok_ix rfl (.n rfl) Try.underlying22 Try.sizeOf82 rfl rfl hS (fun _ => ⟨by omega, by omega⟩)) ?_
    refine lw_v rfl rfl (ok_fx rfl (.n rfl) Try.underlying82 rfl Try.sizeOf2 (by decide) rfl hS (fun _ => ⟨by omega, by omega⟩)) ?_
    refine lw_v rfl rfl (ok_ldx rfl (.n rfl) rfl Try.isAgg2 hS (fun _ => ⟨by omega, by omega⟩) (by rfl)) ?_
    refine lw_v rfl rfl (ok_assign rfl (.n rfl) rfl) ?_
    refine lw_nil ?_
    refine Ends.keep [(1, .eq _), (4, .eq _), (5, .eq _), (6, .eq _)] (.cons rfl (.cons rfl (.cons rfl (.cons rfl .nil)))) ?_
    refine ends_then ?_
    refine cw_seq ?_
    refine cw_seq ?_
    -- region 6
    refine cw_region ?_
    refine lw_v rfl rfl (ok_move rfl (.n rfl) rfl) ?_
    refine lw_v rfl rfl (ok_lss rfl (.n rfl) rfl rfl) ?_
    refine lw_v rfl rfl (ok_move rfl (.n rfl) rfl) ?_
    refine lw_v rfl rfl (ok_move rfl (.s rfl rfl) rfl) ?_
    refine lw_v rfl rfl (ok_move rfl (.s rfl rfl) rfl) ?_
    refine lw_v rfl rfl (ok_subi rfl (.s rfl rfl) rfl rfl (fun _ => ⟨by omega, by omega⟩)) ?_
    refine lw_v rfl rfl (ok_gtr rfl (.s rfl rfl) rfl rfl) ?_
    refine lw_v rfl rfl (ok_or rfl rfl rfl rfl) ?_
    refine lw_nil ?_
    refine Ends.keep [(1, .eq _), (4, .eq _), (5, .eq _), (6, .eq _), (27, .eq _)] (.cons rfl (.cons rfl (.cons rfl (.cons rfl (.cons rfl .nil))))) ?_
    refine ends_then ?_
    refine cw_cond rfl (fun h27 => ?_) (fun h27 => ?_)
    ·
      exact absurd h27 (by rw [Bool.or_eq_true, decide_eq_true_eq, decide_eq_true_eq]; omega)
    ·
      refine cw_skip ?_
      refine ends_then ?_
      -- region 8
      refine cw_region ?_
      refine lw_v rfl rfl (ok_move rfl (.n rfl) rfl) ?_
      refine lw_v rfl rfl (ok_move rfl (.n rfl) rfl) ?_
      refine lw_v rfl rfl (ok_addi rfl (.n rfl) rfl rfl (fun _ => ⟨by omega, by omega⟩)) ?_
      refine lw_v rfl rfl (ok_assign rfl (.n rfl) rfl) ?_
      refine lw_nil ?_
      refine in_normal (?_)
      refine Ends.keep [(1, .eq _), (4, .eq _), (5, .eq _)] (.cons rfl (.cons rfl (.cons rfl .nil))) ?_
      refine ends_then ?_
      -- region 4
      refine cw_region ?_
      refine lw_v rfl rfl (ok_move rfl (.n rfl) rfl) ?_
      refine lw_v rfl rfl (ok_addi rfl (.n rfl) rfl rfl (fun _ => ⟨by omega, by omega⟩)) ?_
      refine lw_v rfl rfl (ok_assign rfl (.n rfl) rfl) ?_
      refine lw_nil ?_
      -- BACK
      refine ends_back2 (k + 1) (s + (n.arcs.getD (k : Int).toNat (0, 0, 0)).2.2) (.cons rfl (.cons rfl (.cons rfl .nil))) ⟨⟨by omega, by omega, by omega⟩, hS⟩ (by omega)
  ·
    refine cw_exit ?_
    refine then_exit (then_exit (in_exit (?_)))
    refine Ends.keep [(4, .eq _)] (.cons rfl .nil) ?_
    refine ends_then ?_
    refine cw_seq ?_
    -- region 9
    refine cw_region ?_
    refine lw_v rfl rfl (ok_move rfl (.n rfl) rfl) ?_
    refine lw_v rfl rfl (ok_assign rfl (.n rfl) rfl) ?_
    refine lw_v rfl rfl (ok_assign rfl (.n rfl) rfl) ?_
    refine lw_nil ?_
    refine Ends.keep [(2, .eq _), (3, .eq _)] (.cons rfl (.cons rfl .nil)) ?_
    refine ends_then ?_
    refine cw_ret ?_
    exact end_ret (res2 Try.results111 rfl rfl) ⟨_, rfl, hS.below⟩

set_option maxRecDepth 10000 in
/-- acequiaref01.Check: of a right net. -/
theorem f94 (n : Nt) (A : Option Addr) (c : Nat) (w : World) (hok : NetOk n) (ha : (sl eArc 3 A n.arcs.length c n.arcs).p w) :
    Calls Try.prog 94 #[netV n A c] w fun e w' => e = .returned (.int .i64 0) ∧ Gr w w' := by
  refine calls_cw Try.func94 rfl Try.ntmps94 rfl ?_
  have hS := (St.start w).arg _ ha rfl (fun b hb => (sl eArc 3 A n.arcs.length c n.arcs).lt ha hb)
  obtain ⟨hlo, hhi, hs0, hs1, ht0, ht1, hne, hln, _⟩ := id hok
  refine cw_seq ?_
  -- region 0
  refine cw_region ?_
  refine lw_box rfl rfl rfl rfl hS ?_
  clear hS; intro b1 w1 _ _ hS
  refine lw_v rfl rfl (ok_assign rfl (.n rfl) rfl) ?_
  refine lw_nil ?_
  refine Ends.keep [(1, .eq _)] (.cons rfl .nil) ?_
  refine ends_then ?_
  refine cw_seq ?_
  refine cw_seq ?_
  -- region 1
  refine cw_region ?_
  refine lw_v rfl rfl (ok_fb rfl (.n rfl) Try.underlying24 rfl Try.sizeOf3 (by decide) rfl) ?_
  refine lw_v rfl rfl (ok_ldb rfl (.n rfl) rfl Try.isAgg3 hS (by rfl)) ?_
  refine lw_v rfl rfl (ok_lss rfl (.n rfl) rfl rfl) ?_
  refine lw_v rfl rfl (ok_move rfl (.n rfl) rfl) ?_
  refine lw_v rfl rfl (ok_fb rfl (.s rfl rfl) Try.underlying24 rfl Try.sizeOf3 (by decide) rfl) ?_
  refine lw_v rfl rfl (ok_ldb rfl (.s rfl rfl) rfl Try.isAgg3 hS (by rfl)) ?_
  refine lw_v rfl rfl (ok_gtr rfl (.s rfl rfl) rfl rfl) ?_
  refine lw_v rfl rfl (ok_or rfl rfl rfl rfl) ?_
  refine lw_nil ?_
  refine Ends.keep [(1, .eq _), (15, .eq _)] (.cons rfl (.cons rfl .nil)) ?_
  refine ends_then ?_
  refine cw_cond rfl (fun h15 => ?_) (fun h15 => ?_)
  ·
    exact absurd h15 (by simp; omega)
  ·
    refine cw_skip ?_
    refine ends_then ?_
    refine cw_seq ?_
    refine cw_seq ?_
    -- region 3
    refine cw_region ?_
    refine lw_v rfl rfl (ok_fb rfl (.n rfl) Try.underlying24 rfl Try.sizeOf22 (by decide) rfl) ?_
    refine lw_v rfl rfl (ok_ldb rfl (.n rfl) rfl Try.isAgg22 hS (by rfl)) ?_
    refine lw_v rfl rfl (ok_len rfl (.n rfl) Try.underlying22 rfl) ?_
    refine lw_v rfl rfl (ok_gtr rfl (.n rfl) rfl rfl) ?_
    refine lw_nil ?_
    refine Ends.keep [(1, .eq _), (19, .eq _)] (.cons rfl (.cons rfl .nil)) ?_
    refine ends_then ?_
    refine cw_cond rfl (fun h19 => ?_) (fun h19 => ?_)
    ·
      exact absurd h19 (by simp; omega)
    ·
      refine cw_skip ?_
      refine ends_then ?_
      refine cw_seq ?_
      refine cw_seq ?_
      -- region 5
      refine cw_region ?_
      refine lw_v rfl rfl (ok_ldS rfl (.n rfl) rfl Try.isAgg24 Try.sizeOf24 hS rfl) ?_
      refine lw_v rfl rfl (ok_fb rfl (.n rfl) Try.underlying24 rfl Try.sizeOf3 (by decide) rfl) ?_
      refine lw_v rfl rfl (ok_ldb rfl (.n rfl) rfl Try.isAgg3 hS (by rfl)) ?_
      refine lw_call (f := 110) (xs := [_, _]) rfl rfl rfl Try.call110 rfl (Calls.mono (f110 n A c _ _ (by omega) (by omega)) ?_)
      rintro e w' ⟨rfl, hg⟩
      replace hS := hS.grow hg; clear hg
      refine ⟨_, rfl, ?_⟩
      refine lw_v rfl rfl (ok_not rfl (.n rfl) rfl) ?_
      refine lw_v rfl rfl (ok_move rfl (.n rfl) rfl) ?_
      refine lw_on (.s rfl rfl) rfl ?_
      refine lw_v rfl rfl (ok_ldS rfl (.n rfl) rfl Try.isAgg24 Try.sizeOf24 hS rfl) ?_
      refine lw_on (.s rfl rfl) rfl ?_
      refine lw_v rfl rfl (ok_fb rfl (.n rfl) Try.underlying24 rfl Try.sizeOf3 (by decide) rfl) ?_
      refine lw_on (.s rfl rfl) rfl ?_
      refine lw_v rfl rfl (ok_ldb rfl (.n rfl) rfl Try.isAgg3 hS (by rfl)) ?_
      refine lw_on (.s rfl rfl) rfl ?_
      refine lw_call (f := 110) (xs := [_, _]) rfl rfl rfl Try.call110 rfl (Calls.mono (f110 n A c _ _ (by omega) (by omega)) ?_)
      rintro e w' ⟨rfl, hg⟩
      replace hS := hS.grow hg; clear hg
      refine ⟨_, rfl, ?_⟩
      refine lw_on (.s rfl rfl) rfl ?_
      refine lw_v rfl rfl (ok_not rfl (.n rfl) rfl) ?_
      refine lw_v rfl rfl (ok_pick rfl rfl rfl rfl rfl) ?_
      refine lw_v rfl rfl (ok_move rfl (.n rfl) rfl) ?_
      refine lw_on (.s rfl rfl) rfl ?_
      refine lw_v rfl rfl (ok_fb rfl (.n rfl) Try.underlying24 rfl Try.sizeOf3 (by decide) rfl) ?_
      refine lw_on (.s rfl rfl) rfl ?_
      refine lw_v rfl rfl (ok_ldb rfl (.n rfl) rfl Try.isAgg3 hS (by rfl)) ?_
      refine lw_on (.s rfl rfl) rfl ?_
      refine lw_v rfl rfl (ok_fb rfl (.n rfl) Try.underlying24 rfl Try.sizeOf3 (by decide) rfl) ?_
      refine lw_on (.s rfl rfl) rfl ?_
      refine lw_v rfl rfl (ok_ldb rfl (.n rfl) rfl Try.isAgg3 hS (by rfl)) ?_
      refine lw_on (.s rfl rfl) rfl ?_
      refine lw_v rfl rfl (ok_eql rfl (.n rfl) rfl rfl) ?_
      refine lw_v rfl rfl (ok_pick rfl rfl rfl rfl rfl) ?_
      refine lw_nil ?_
      refine Ends.keep [(1, .eq _), (38, .eq _)] (.cons rfl (.cons rfl .nil)) ?_
      refine ends_then ?_
      refine cw_cond rfl (fun h38 => ?_) (fun h38 => ?_)
      ·
        exact absurd h38 (by simp; omega)
      ·
        refine cw_skip ?_
        refine ends_then ?_
        refine cw_seq ?_
        -- region 7
        refine cw_region ?_
        refine lw_v rfl rfl (ok_assign rfl (.n rfl) rfl) ?_
        refine lw_nil ?_
        refine Ends.keep [(1, .eq _), (3, .eq _)] (.cons rfl (.cons rfl .nil)) ?_
        refine ends_then ?_
        refine cw_seq ?_
        refine cw_seq ?_
        -- region 8
        refine cw_region ?_
        refine lw_v rfl rfl (ok_assign rfl (.n rfl) rfl) ?_
        refine lw_nil ?_
        refine Ends.keep [(1, .eq _), (3, .eq _), (4, .eq _)] (.cons rfl (.cons rfl (.cons rfl .nil))) ?_
        refine ends_then ?_
        refine cw_block ?_
        -- LOOP at region 9: changed live slots [3, 4], kept [1]
        refine cw_loop [(1, .eq _)] (fun k : Nat => [(3, .eq (.bool false)), (4, .eq (.int .i64 k))]) (fun k w' => k ≤ n.arcs.length ∧ St w.heap.size w w' [bx b1 (netV n A c).cells.toList 24, sl eArc 3 A n.arcs.length c n.arcs]) (fun k => n.arcs.length - k) 0 (.cons rfl .nil) (.cons rfl (.cons rfl (.cons rfl .nil))) ⟨Nat.zero_le _, hS⟩ ?_
        clear hS
        rintro k wr ⟨hk, hS⟩
        refine cw_seq ?_
        refine cw_seq ?_
        -- region 9
        refine cw_region ?_
        refine lw_v rfl rfl (ok_move rfl (.n rfl) rfl) ?_
        refine lw_v rfl rfl (ok_fb rfl (.n rfl) Try.underlying24 rfl Try.sizeOf22 (by decide) rfl) ?_
        refine lw_v rfl rfl (ok_ldb rfl (.n rfl) rfl Try.isAgg22 hS (by rfl)) ?_
        refine lw_v rfl rfl (ok_len rfl (.n rfl) Try.underlying22 rfl) ?_
        refine lw_v rfl rfl (ok_lss rfl (.n rfl) rfl rfl) ?_
        refine lw_nil ?_
        refine Ends.keep [(1, .eq _), (3, .eq _), (4, .eq _), (43, .eq _)] (.cons rfl (.cons rfl (.cons rfl (.cons rfl .nil)))) ?_
        refine ends_then ?_
        refine cw_cond rfl (fun h43 => ?_) (fun h43 => ?_)
        ·
          have hlt : k < n.arcs.length := by simpa using h43
          have hcap := arc_cap hok (k := (k : Int).toNat) (by omega)
          have hends := arc_ends hok (k := (k : Int).toNat) (by omega)
          refine cw_skip ?_
          refine ends_then ?_
          refine cw_seq ?_
          refine cw_block ?_
          refine cw_seq ?_
          -- region 11
          refine cw_region ?_
          refine lw_v rfl rfl (ok_fb rfl (.n rfl) Try.underlying24 rfl Try.sizeOf22 (by decide) rfl) ?_
          refine lw_v rfl rfl (ok_ldb rfl (.n rfl) rfl Try.isAgg22 hS (by rfl)) ?_
          refine lw_v rfl rfl (ok_move rfl (.n rfl) rfl) ?_
          refine lw_v rfl rfl (ok_ix rfl (.n rfl) Try.underlying22 Try.sizeOf82 rfl rfl hS (fun _ => ⟨by omega, by omega⟩)) ?_
          refine lw_v rfl rfl (ok_ldxS rfl (.n rfl) rfl Try.isAgg82 Try.sizeOf82 hS (fun _ => ⟨by omega, by omega⟩)) ?_
          refine lw_alloc rfl rfl rfl Try.zeroValue82 hS ?_
          clear hS; intro b5 w2 _ _ hS
          refine lw_stS rfl rfl rfl rfl rfl (by kernel_rfl) hS rfl (by rfl) (by rfl) ?_
          clear hS; intro w3 hS
          refine lw_nil ?_
          refine Ends.keep [(1, .eq _), (3, .eq _), (4, .eq _), (5, .eq _)] (.cons rfl (.cons rfl (.cons rfl (.cons rfl .nil)))) ?_
          refine ends_then ?_
          refine cw_seq ?_
          refine cw_seq ?_
          -- region 12
          refine cw_region ?_
          refine lw_v rfl rfl (ok_ldS rfl (.n rfl) rfl Try.isAgg24 Try.sizeOf24 hS rfl) ?_
          refine lw_v rfl rfl (ok_fb rfl (.n rfl) Try.underlying82 rfl Try.sizeOf3 (by decide) rfl) ?_
          refine lw_v rfl rfl (ok_ldb rfl (.n rfl) rfl Try.isAgg3 hS (by rfl)) ?_
          refine lw_call (f := 110) (xs := [_, _]) rfl rfl rfl Try.call110 rfl (Calls.mono (f110 n A c _ _ (by omega) (by omega)) ?_)
          rintro e w' ⟨rfl, hg⟩
          replace hS := hS.grow hg; clear hg
          refine ⟨_, rfl, ?_⟩
          refine lw_v rfl rfl (ok_not rfl (.n rfl) rfl) ?_
          refine lw_v rfl rfl (ok_move rfl (.n rfl) rfl) ?_
          refine lw_on (.s rfl rfl) rfl ?_
          refine lw_v rfl rfl (ok_ldS rfl (.n rfl) rfl Try.isAgg24 Try.sizeOf24 hS rfl) ?_
          refine lw_on (.s rfl rfl) rfl ?_
          refine lw_v rfl rfl (ok_fb rfl (.n rfl) Try.underlying82 rfl Try.sizeOf3 (by decide) rfl) ?_
          refine lw_on (.s rfl rfl) rfl ?_
          refine lw_v rfl rfl (ok_ldb rfl (.n rfl) rfl Try.isAgg3 hS (by rfl)) ?_
          refine lw_on (.s rfl rfl) rfl ?_
          refine lw_call (f := 110) (xs := [_, _]) rfl rfl rfl Try.call110 rfl (Calls.mono (f110 n A c _ _ (by omega) (by omega)) ?_)
          rintro e w' ⟨rfl, hg⟩
          replace hS := hS.grow hg; clear hg
          refine ⟨_, rfl, ?_⟩
          refine lw_on (.s rfl rfl) rfl ?_
          refine lw_v rfl rfl (ok_not rfl (.n rfl) rfl) ?_
          refine lw_v rfl rfl (ok_pick rfl rfl rfl rfl rfl) ?_
          refine lw_nil ?_
          refine Ends.keep [(1, .eq _), (3, .eq _), (4, .eq _), (5, .eq _), (62, .eq _)] (.cons rfl (.cons rfl (.cons rfl (.cons rfl (.cons rfl .nil))))) ?_
          refine ends_then ?_
          refine cw_cond rfl (fun h62 => ?_) (fun h62 => ?_)
          ·
            exact absurd h62 (by simp)
          ·
            refine cw_skip ?_
            refine ends_then ?_
            -- region 14
            refine cw_region ?_
            refine lw_v rfl rfl (ok_move rfl (.n rfl) rfl) ?_
            refine lw_v rfl rfl (ok_move rfl (.n rfl) rfl) ?_
            refine lw_v rfl rfl (ok_fb rfl (.s rfl rfl) Try.underlying82 rfl Try.sizeOf2 (by decide) rfl) ?_
            refine lw_v rfl rfl (ok_ldb rfl (.s rfl rfl) rfl Try.isAgg2 hS (by rfl)) ?_
            refine lw_v rfl rfl (ok_lss rfl (.s rfl rfl) rfl rfl) ?_
            refine lw_v rfl rfl (ok_eq (g := none) (ok_or rfl rfl rfl rfl) (c' := .bool false) (fun _ => congrArg Value.bool (by rw [Bool.false_or]; exact decide_eq_false (by omega)))) ?_
            refine lw_v rfl rfl (ok_assign rfl (.n rfl) rfl) ?_
            refine lw_nil ?_
            refine in_normal (?_)
            refine Ends.keep [(1, .eq _), (3, .eq _), (4, .eq _)] (.cons rfl (.cons rfl (.cons rfl .nil))) ?_
            refine ends_then ?_
            -- region 10
            refine cw_region ?_
            refine lw_v rfl rfl (ok_move rfl (.n rfl) rfl) ?_
            refine lw_v rfl rfl (ok_addi rfl (.n rfl) rfl rfl (fun _ => ⟨by omega, by omega⟩)) ?_
            refine lw_v rfl rfl (ok_assign rfl (.n rfl) rfl) ?_
            refine lw_nil ?_
            -- BACK
            refine ends_back (k + 1) (.cons rfl (.cons rfl (.cons rfl .nil))) ⟨by omega, hS.tail⟩ (by omega)
        ·
          refine cw_exit ?_
          refine then_exit (then_exit (in_exit (?_)))
          refine Ends.keep [(1, .eq _), (3, .eq _)] (.cons rfl (.cons rfl .nil)) ?_
          refine ends_then ?_
          refine cw_seq ?_
          refine cw_seq ?_
          -- region 15
          refine cw_region ?_
          refine lw_v rfl rfl (ok_move rfl (.n rfl) rfl) ?_
          refine lw_nil ?_
          refine Ends.keep [(1, .eq _), (69, .eq _)] (.cons rfl (.cons rfl .nil)) ?_
          refine ends_then ?_
          refine cw_cond rfl (fun h69 => ?_) (fun h69 => ?_)
          ·
            exact absurd h69 (by simp)
          ·
            refine cw_skip ?_
            refine ends_then ?_
            refine cw_seq ?_
            -- region 17
            refine cw_region ?_
            refine lw_v rfl rfl (ok_ldS rfl (.n rfl) rfl Try.isAgg24 Try.sizeOf24 hS rfl) ?_
            refine lw_call (f := 111) (xs := [_]) rfl rfl rfl Try.call111 rfl (Calls.mono (f111 n A c _ hok (hS.ok _ (.tail _ (.head _)))) ?_)
            rintro e w' ⟨s, rfl, hg⟩
            replace hS := hS.grow hg; clear hg
            refine ⟨_, rfl, ?_⟩
            refine lw_v rfl rfl (ok_move rfl (.n rfl) rfl) ?_
            refine lw_v rfl rfl (ok_extract rfl (.n rfl) rfl rfl) ?_
            refine lw_v rfl rfl (ok_extract rfl (.n rfl) rfl rfl) ?_
            refine lw_v rfl rfl (ok_assign rfl (.n rfl) rfl) ?_
            refine lw_v rfl rfl (ok_assign rfl (.n rfl) rfl) ?_
            refine lw_nil ?_
            refine Ends.keep [(7, .eq _)] (.cons rfl .nil) ?_
            refine ends_then ?_
            refine cw_seq ?_
            refine cw_seq ?_
            -- region 18
            refine cw_region ?_
            refine lw_v rfl rfl (ok_move rfl (.n rfl) rfl) ?_
            refine lw_v rfl rfl (ok_not rfl (.n rfl) rfl) ?_
            refine lw_nil ?_
            refine Ends.keep [(76, .eq _)] (.cons rfl .nil) ?_
            refine ends_then ?_
            refine cw_cond rfl (fun h76 => ?_) (fun h76 => ?_)
            ·
              exact absurd h76 (by simp)
            ·
              refine cw_skip ?_
              refine ends_then ?_
              refine cw_seq ?_
              -- region 20
              refine cw_region ?_
              refine lw_v rfl rfl (ok_assign rfl (.n rfl) rfl) ?_
              refine lw_nil ?_
              refine Ends.keep [(2, .eq _)] (.cons rfl .nil) ?_
              refine ends_then ?_
              refine cw_ret ?_
              exact end_ret (res1 Try.results94 rfl) ⟨rfl, hS.below⟩

end Go.Proofs.Ytnpgeohkmdcbkaa.Aq
