/- The walks of globals.Mark, and of the document's Mark and Risen. -/
import Derived.Test.YtnpgeohkmdcbkaaReach
import Derived.Test.YtnpgeohkmdcbkaaLaw20
namespace Go.Proofs.Ytnpgeohkmdcbkaa.Aq
open Go Go.RowKit

/-- A mark, and what it is of a state. -/
def mkV (x : Int × Int) : Value := .agg #[.int .i64 x.1, .int .i64 x.2]
def preV (A1 : Option Addr) (m1 c1 : Nat) (A2 : Option Addr) (m2 c2 : Nat) : Value := .agg #[.slice A1 m1 c1, .slice A2 m2 c2, .slice none 0 0]
noncomputable def markF (c : Cs) (res ex : List Int) : Int × Int := if exOk c res 1 = true ∧ ex.length = c.N then (ex.getD c.T 0, (exactF c res 1).sum) else (0, 0)
theorem markF_yes {c : Cs} {res ex : List Int} (h : exOk c res 1 = true) (he : ex.length = c.N) : markF c res ex = (ex.getD c.T 0, (exactF c res 1).sum) := if_pos ⟨h, he⟩
theorem markF_no {c : Cs} {res ex : List Int} (h : exOk c res 1 = true → ex.length = c.N → False) : markF c res ex = (0, 0) := if_neg fun ⟨a, b⟩ => h a b
theorem sum_step {D : List Int} {i : Nat} (h : i < D.length) : (D.take (i + 1)).sum = (D.take i).sum + D.getD i 0 := by
  rw [List.take_succ_eq_append_getElem h, List.sum_append]
  simp [List.getD_eq_getElem?_getD, h]
theorem sum_rng {D : List Int} (h : ∀ i, i < D.length → 0 ≤ D.getD i 0 ∧ D.getD i 0 ≤ 16) : ∀ i, i ≤ D.length → 0 ≤ (D.take i).sum ∧ (D.take i).sum ≤ 16 * i
  | 0, _ => by simp
  | i + 1, hi => by
    have h1 := sum_rng h i (by omega)
    have h2 := h i (by omega)
    rw [sum_step (by omega)]
    omega
theorem mark_nil {A : Option Addr} {cc : Nat} {c : Cs} {res : List Int} {w : World} (hw : WF c) (ho : (own (eInt .i64) 1 3 A (exactF c res 1).length cc (exactF c res 1)).p w) (hn : exOk c res 1 = false → A = none ∧ cc = 0) : A.isNone = !exOk c res 1 := by
  cases h : exOk c res 1 with
  | false => rw [(hn h).1]; rfl
  | true =>
    have hl := ((exactF_len hw res 1).2.1 h)
    obtain ⟨g, e, _⟩ := own_nn ho (by have := hw.lo; omega)
    rw [e]; rfl

set_option maxRecDepth 10000 in
set_option maxHeartbeats 1000000 in
/-- globals.Mark. -/
theorem f45 (c : Cs) (q : Q6) (res ex : List Int) {m1 m2 : Nat} (A1 : Option Addr) (c1 : Nat) (A2 : Option Addr) (c2 : Nat) (w : World) (hwf : WF c) (hc : CsAt c q w) (hr : (sl (eInt .i64) 1 A1 m1 c1 res).p w) (hx : (sl (eInt .i64) 1 A2 m2 c2 ex).p w) : RetV 45 [csV c q, preV A1 m1 c1 A2 m2 c2] w (mkV (markF c res ex)) := by
  refine calls_cw Try.func45 rfl Try.ntmps45 rfl ?_
  have hS := ((St.ofc hc).args (Nat.le_refl _) _ hr rfl).args (Nat.le_refl _) _ hx rfl
  have hxl := hx.1.1
  have hM := hwf.m
  have hN := hwf.hi
  have hlo := hwf.lo
  have hfl := hwf.fl
  have hrl := hr.1.1
  have hrr := hr.2.1
  have htN := hwf.t
  have hsN := hwf.s
  refine cw_seq ?_
  -- region 0
  refine cw_region ?_
  refine lw_box rfl rfl rfl rfl hS ?_
  clear hS; intro b2 w1 _ _ hS
  refine lw_box rfl rfl rfl rfl hS ?_
  clear hS; intro b3 w2 _ _ hS
  refine lw_alloc rfl rfl rfl Try.zeroValue53 hS ?_
  clear hS; intro b4 w3 _ _ hS
  refine lw_nil ?_
  refine Ends.keep [(2, .eq _), (3, .eq _), (4, .eq _)] (.cons rfl (.cons rfl (.cons rfl .nil))) ?_
  refine ends_then ?_
  refine cw_seq ?_
  -- region 1
  refine cw_region ?_
  refine lw_v rfl rfl (ok_ldS rfl (.n rfl) rfl Try.isAgg29 Try.sizeOf29 hS rfl) ?_
  refine lw_v rfl rfl (ok_fb rfl (.n rfl) Try.underlying56 rfl Try.sizeOf25 (by decide) rfl) ?_
  refine lw_v rfl rfl (ok_ldb rfl (.n rfl) rfl Try.isAgg25 hS (by rfl)) ?_
  refine lw_call (f := 44) (xs := [_, _, _]) rfl rfl rfl Try.call44 rfl (Calls.mono (f44 c q res A1 c1 1 _ hwf (hS.cs q) (hS.rd A1 hrr)) ?_)
  rintro e w' ⟨A12, c12, rfl, hg, hfr, ho, hnil⟩
  have hmn := mark_nil hwf ho hnil
  replace hS := hS.new hg _ ho hfr; clear hg ho hfr hnil
  have hel := (exactF_len hwf res 1).1
  replace hS := hS.freeze .here (by omega)
  refine ⟨_, rfl, ?_⟩
  refine lw_v rfl rfl (ok_assign rfl (.n rfl) rfl) ?_
  refine lw_nil ?_
  refine Ends.keep [(2, .eq _), (3, .eq _), (4, .eq _), (5, .eq _)] (.cons rfl (.cons rfl (.cons rfl (.cons rfl .nil)))) ?_
  refine ends_then ?_
  refine cw_seq ?_
  refine cw_seq ?_
  -- region 2
  refine cw_region ?_
  refine lw_v rfl rfl (ok_move rfl (.n rfl) rfl) ?_
  refine lw_v rfl rfl (ok_eqnil rfl (.n rfl) Try.underlying26 rfl rfl) ?_
  refine lw_v rfl rfl (ok_move rfl (.n rfl) rfl) ?_
  refine lw_v rfl rfl (ok_fb rfl (.s rfl rfl) Try.underlying56 rfl Try.sizeOf25 (by decide) rfl) ?_
  refine lw_v rfl rfl (ok_ldb rfl (.s rfl rfl) rfl Try.isAgg25 hS (by rfl)) ?_
  refine lw_v rfl rfl (ok_len rfl (.s rfl rfl) Try.underlying25 rfl) ?_
  refine lw_v rfl rfl (ok_fb rfl (.s rfl rfl) Try.underlying29 rfl Try.sizeOf3 (by decide) rfl) ?_
  refine lw_v rfl rfl (ok_eq (ok_ldb rfl (.s rfl rfl) rfl Try.isAgg3 hS (by rfl)) (c' := .int .i64 (c.N : Int)) (fun _ => rfl)) ?_
  refine lw_v rfl rfl (ok_neq rfl (.s rfl rfl) rfl rfl) ?_
  refine lw_v rfl rfl (ok_or rfl rfl rfl rfl) ?_
  refine lw_nil ?_
  refine Ends.keep [(2, .eq _), (3, .eq _), (4, .eq _), (5, .eq _), (22, .eq _)] (.cons rfl (.cons rfl (.cons rfl (.cons rfl (.cons rfl .nil))))) ?_
  refine ends_then ?_
  refine cw_cond rfl (fun h22 => ?_) (fun h22 => ?_)
  ·
    have hno : markF c res ex = (0, 0) := markF_no fun h1 h2 => by
      rw [hmn, h1, decide_eq_true (by omega : (m2 : Int) = (c.N : Int))] at h22
      cases h22
    rw [hno]
    refine cw_seq ?_
    -- region 3
    refine cw_region ?_
    refine lw_v rfl rfl (ok_build (cells := #[.int .i64 0, .int .i64 0]) rfl (.n rfl) Try.underlying53 Try.zeroValue53 pl53 rfl (by kernel_rfl)) ?_
    refine lw_stS rfl rfl rfl rfl rfl (by kernel_rfl) hS rfl (by rfl) (by rfl) ?_
    clear hS; intro w4 hS
    refine lw_nil ?_
    refine Ends.keep [(4, .eq _)] (.cons rfl .nil) ?_
    refine ends_then ?_
    refine cw_ret ?_
    refine then_ret (?_)
    exact end_ret (resS Try.results45 rfl Try.isAgg53 Try.sizeOf53 hS rfl) ⟨rfl, hS.below⟩
  ·
    have hyn : exOk c res 1 = true ∧ m2 = c.N := by
      rw [hmn, Bool.or_eq_false_iff, Bool.not_eq_false', Bool.not_eq_false', decide_eq_true_eq] at h22
      exact ⟨h22.1, by omega⟩
    obtain ⟨hyes, hm2⟩ := hyn
    have hrt := exactF_right hwf hyes
    have hDl := hrt.len
    have hrg := hrt.rng
    have hsr := sum_rng (D := exactF c res 1) (fun i hi => by have := hrg i (by omega); omega)
    rw [markF_yes hyes (by omega)]
    clear hrt
    generalize exactF c res 1 = D at hS hDl hsr hrg ⊢
    refine cw_skip ?_
    refine ends_then ?_
    refine cw_seq ?_
    -- region 4
    refine cw_region ?_
    refine lw_v rfl rfl (ok_fb rfl (.n rfl) Try.underlying56 rfl Try.sizeOf25 (by decide) rfl) ?_
    refine lw_v rfl rfl (ok_ldb rfl (.n rfl) rfl Try.isAgg25 hS (by rfl)) ?_
    refine lw_v rfl rfl (ok_fb rfl (.n rfl) Try.underlying29 rfl Try.sizeOf3 (by decide) rfl) ?_
    refine lw_v rfl rfl (ok_eq (ok_ldb rfl (.n rfl) rfl Try.isAgg3 hS (by rfl)) (c' := .int .i64 (c.T : Int)) (fun _ => rfl)) ?_
    refine lw_v rfl rfl (ok_ix rfl (.n rfl) Try.underlying25 Try.sizeOf2 rfl rfl hS (fun _ => ⟨by omega, by omega⟩)) ?_
    refine lw_v rfl rfl (ok_eq (ok_ldx rfl (.n rfl) rfl Try.isAgg2 hS (fun _ => ⟨by omega, by omega⟩) (by rfl)) (c' := .int .i64 (ex.getD c.T 0)) (fun _ => rfl)) ?_
    refine lw_v rfl rfl (ok_build (cells := #[.int .i64 (ex.getD c.T 0), .int .i64 0]) rfl (.n rfl) Try.underlying53 Try.zeroValue53 pl53 rfl (by kernel_rfl)) ?_
    refine lw_alloc rfl rfl rfl Try.zeroValue53 hS ?_
    clear hS; intro b6 w5 _ _ hS
    refine lw_stS rfl rfl rfl rfl rfl (by kernel_rfl) hS rfl (by rfl) (by rfl) ?_
    clear hS; intro w6 hS
    refine lw_nil ?_
    refine Ends.keep [(4, .eq _), (5, .eq _), (6, .eq _)] (.cons rfl (.cons rfl (.cons rfl .nil))) ?_
    refine ends_then ?_
    refine cw_seq ?_
    refine cw_seq ?_
    -- region 5
    refine cw_region ?_
    refine lw_v rfl rfl (ok_move rfl (.n rfl) rfl) ?_
    refine lw_v rfl rfl (ok_len rfl (.n rfl) Try.underlying26 rfl) ?_
    refine lw_v rfl rfl (ok_move rfl (.n rfl) rfl) ?_
    refine lw_nil ?_
    refine Ends.keep [(4, .eq _), (6, .eq _), (31, .eq _), (32, .eq _), (33, .eq _)] (.cons rfl (.cons rfl (.cons rfl (.cons rfl (.cons rfl .nil))))) ?_
    refine ends_then ?_
    refine cw_block ?_
    -- LOOP at region 6: changed live slots [33], kept [4, 6, 31, 32]
    refine cw_loop [(4, .eq _), (6, .eq _), (31, .eq _), (32, .eq _)] (fun i : Nat => [(33, .eq (.int .i64 i))]) (fun i w' => i ≤ D.length ∧ St w.heap.size w w' [bx b6 (mkV (ex.getD c.T 0, (D.take i).sum)).cells.toList 53, sl (eInt .i64) 1 A12 D.length c12 D, bx b4 (mkV (0, 0)).cells.toList 53, bx b3 (preV A1 m1 c1 A2 m2 c2).cells.toList 56, bx b2 (csV c q).cells.toList 29, sl (eInt .i64) 1 A2 m2 c2 ex, sl (eInt .i64) 1 A1 m1 c1 res, sl (eInt .i64) 1 q.a0 c.First.length q.c0 c.First, sl (eInt .i64) 1 q.a1 c.Head.length q.c1 c.Head, sl (eInt .i64) 1 q.a2 c.Rev.length q.c2 c.Rev, sl (eInt .i64) 1 q.a3 c.Cap.length q.c3 c.Cap, sl (eInt .i64) 1 q.a4 c.Arc.length q.c4 c.Arc, sl eBool 1 q.a5 c.Back.length q.c5 c.Back]) (fun i => D.length - i) 0 (.cons rfl (.cons rfl (.cons rfl (.cons rfl .nil)))) (.cons rfl (.cons rfl (.cons rfl (.cons rfl (.cons rfl .nil))))) ⟨Nat.zero_le _, hS⟩ ?_
    clear hS
    rintro i wr ⟨hi, hS⟩
    have hs1 := hsr i hi
    refine cw_seq ?_
    -- region 6
    refine cw_region ?_
    refine lw_v rfl rfl (ok_lss rfl (.n rfl) rfl rfl) ?_
    refine lw_nil ?_
    refine Ends.keep [(4, .eq _), (6, .eq _), (31, .eq _), (32, .eq _), (33, .eq _), (34, .eq _)] (.cons rfl (.cons rfl (.cons rfl (.cons rfl (.cons rfl (.cons rfl .nil)))))) ?_
    refine ends_then ?_
    refine cw_seq ?_
    refine cw_cond rfl (fun h34 => ?_) (fun h34 => ?_)
    ·
      have hlt : i < D.length := by have := of_decide_eq_true h34; omega
      have hdr := hrg i (by omega)
      refine cw_skip ?_
      refine ends_then ?_
      refine cw_seq ?_
      refine cw_block ?_
      refine cw_seq ?_
      -- region 7
      refine cw_region ?_
      refine lw_v rfl rfl (ok_ix rfl (.n rfl) Try.underlying26 Try.sizeOf3 rfl rfl hS (fun _ => ⟨by omega, by omega⟩)) ?_
      refine lw_v rfl rfl (ok_ldx rfl (.n rfl) rfl Try.isAgg3 hS (fun _ => ⟨by omega, by omega⟩) (by rfl)) ?_
      refine lw_v rfl rfl (ok_assign rfl (.n rfl) rfl) ?_
      refine lw_nil ?_
      refine Ends.keep [(4, .eq _), (6, .eq _), (8, .eq _), (31, .eq _), (32, .eq _), (33, .eq _)] (.cons rfl (.cons rfl (.cons rfl (.cons rfl (.cons rfl (.cons rfl .nil)))))) ?_
      refine ends_then ?_
      -- region 8
      refine cw_region ?_
      refine lw_v rfl rfl (ok_fb rfl (.n rfl) Try.underlying53 rfl Try.sizeOf3 (by decide) rfl) ?_
      refine lw_v rfl rfl (ok_eq (ok_ldb rfl (.n rfl) rfl Try.isAgg3 hS (by rfl)) (c' := .int .i64 (D.take i).sum) (fun _ => rfl)) ?_
      refine lw_v rfl rfl (ok_move rfl (.n rfl) rfl) ?_
      refine lw_v rfl rfl (ok_eq (ok_addi rfl (.n rfl) rfl rfl (fun _ => ⟨by show -9223372036854775808 ≤ (D.take i).sum + D.getD i 0; omega, by show (D.take i).sum + D.getD i 0 ≤ 9223372036854775807; omega⟩)) (c' := .int .i64 (D.take (i + 1)).sum) (fun _ => congrArg (Value.int .i64) (sum_step hlt).symm)) ?_
      refine lw_v rfl rfl (ok_fb rfl (.n rfl) Try.underlying53 rfl Try.sizeOf3 (by decide) rfl) ?_
      refine lw_st rfl rfl rfl rfl rfl rfl Try.sizeOf3 hS (by rfl) ?_
      clear hS; intro w7 hS
      refine lw_nil ?_
      refine in_normal (?_)
      refine Ends.keep [(4, .eq _), (6, .eq _), (31, .eq _), (32, .eq _), (33, .eq _)] (.cons rfl (.cons rfl (.cons rfl (.cons rfl (.cons rfl .nil))))) ?_
      refine ends_then ?_
      -- region 9
      refine cw_region ?_
      refine lw_v rfl rfl (ok_addi rfl (.n rfl) rfl rfl (fun _ => ⟨by omega, by omega⟩)) ?_
      refine lw_v rfl rfl (ok_move rfl (.n rfl) rfl) ?_
      refine lw_nil ?_
      -- BACK
      exact ends_back (i + 1) (.cons rfl (.cons rfl (.cons rfl (.cons rfl (.cons rfl .nil))))) ⟨by omega, hS⟩ (by omega)
    ·
      have hie : i = D.length := by have := of_decide_eq_false h34; omega
      refine cw_exit ?_
      refine then_exit (then_exit (in_exit (?_)))
      refine Ends.keep [(4, .eq _), (6, .eq _)] (.cons rfl (.cons rfl .nil)) ?_
      refine ends_then ?_
      refine cw_seq ?_
      -- region 10
      refine cw_region ?_
      refine lw_v rfl rfl (ok_ldS rfl (.n rfl) rfl Try.isAgg53 Try.sizeOf53 hS rfl) ?_
      refine lw_stS rfl rfl rfl rfl rfl (by kernel_rfl) hS rfl (by rfl) (by rfl) ?_
      clear hS; intro w8 hS
      refine lw_nil ?_
      refine Ends.keep [(4, .eq _)] (.cons rfl .nil) ?_
      refine ends_then ?_
      refine cw_ret ?_
      rw [List.take_of_length_le (by omega)] at hS
      exact end_ret (resS Try.results45 rfl Try.isAgg53 Try.sizeOf53 hS rfl) ⟨rfl, hS.below⟩

set_option maxRecDepth 10000 in
set_option maxHeartbeats 1000000 in
/-- acequiaref20.Mark. -/
theorem f64 (c : Cs) (q : Q6) (res ex : List Int) {m1 m2 : Nat} (A1 : Option Addr) (c1 : Nat) (A2 : Option Addr) (c2 : Nat) (w : World) (hwf : WF c) (hc : CsAt c q w) (hr : (sl (eInt .i64) 1 A1 m1 c1 res).p w) (hx : (sl (eInt .i64) 1 A2 m2 c2 ex).p w) : RetV 64 [csV c q, preV A1 m1 c1 A2 m2 c2] w (mkV (markF c res ex)) := by
  refine calls_cw Try.func64 rfl Try.ntmps64 rfl ?_
  have hS := ((St.ofc hc).args (Nat.le_refl _) _ hr rfl).args (Nat.le_refl _) _ hx rfl
  have hxl := hx.1.1
  have hM := hwf.m
  have hN := hwf.hi
  have hlo := hwf.lo
  have hfl := hwf.fl
  have hrl := hr.1.1
  have hrr := hr.2.1
  have htN := hwf.t
  have hsN := hwf.s
  refine cw_seq ?_
  -- region 0
  refine cw_region ?_
  refine lw_box rfl rfl rfl rfl hS ?_
  clear hS; intro b2 w1 _ _ hS
  refine lw_box rfl rfl rfl rfl hS ?_
  clear hS; intro b3 w2 _ _ hS
  refine lw_alloc rfl rfl rfl Try.zeroValue53 hS ?_
  clear hS; intro b4 w3 _ _ hS
  refine lw_nil ?_
  refine Ends.keep [(2, .eq _), (3, .eq _), (4, .eq _)] (.cons rfl (.cons rfl (.cons rfl .nil))) ?_
  refine ends_then ?_
  refine cw_seq ?_
  -- region 1
  refine cw_region ?_
  refine lw_v rfl rfl (ok_ldS rfl (.n rfl) rfl Try.isAgg29 Try.sizeOf29 hS rfl) ?_
  refine lw_v rfl rfl (ok_fb rfl (.n rfl) Try.underlying56 rfl Try.sizeOf25 (by decide) rfl) ?_
  refine lw_v rfl rfl (ok_ldb rfl (.n rfl) rfl Try.isAgg25 hS (by rfl)) ?_
  refine lw_call (f := 62) (xs := [_, _, _]) rfl rfl rfl Try.call62 rfl (Calls.mono (f62 c q res A1 c1 1 _ hwf (hS.cs q) (hS.rd A1 hrr)) ?_)
  rintro e w' ⟨A11, c11, rfl, hg, hfr, ho⟩
  replace hS := hS.new hg _ ho hfr; clear hg ho hfr
  obtain ⟨hel, heq⟩ := exactF_len hwf res 1
  replace hS := hS.freeze .here (by omega)
  refine ⟨_, rfl, ?_⟩
  refine lw_v rfl rfl (ok_assign rfl (.n rfl) rfl) ?_
  refine lw_nil ?_
  refine Ends.keep [(2, .eq _), (3, .eq _), (4, .eq _), (5, .eq _)] (.cons rfl (.cons rfl (.cons rfl (.cons rfl .nil)))) ?_
  refine ends_then ?_
  refine cw_seq ?_
  refine cw_seq ?_
  -- region 2
  refine cw_region ?_
  refine lw_v rfl rfl (ok_move rfl (.n rfl) rfl) ?_
  refine lw_v rfl rfl (ok_len rfl (.n rfl) Try.underlying26 rfl) ?_
  refine lw_v rfl rfl (ok_eql rfl (.n rfl) rfl rfl) ?_
  refine lw_v rfl rfl (ok_move rfl (.n rfl) rfl) ?_
  refine lw_v rfl rfl (ok_fb rfl (.s rfl rfl) Try.underlying56 rfl Try.sizeOf25 (by decide) rfl) ?_
  refine lw_v rfl rfl (ok_ldb rfl (.s rfl rfl) rfl Try.isAgg25 hS (by rfl)) ?_
  refine lw_v rfl rfl (ok_len rfl (.s rfl rfl) Try.underlying25 rfl) ?_
  refine lw_v rfl rfl (ok_fb rfl (.s rfl rfl) Try.underlying29 rfl Try.sizeOf3 (by decide) rfl) ?_
  refine lw_v rfl rfl (ok_eq (ok_ldb rfl (.s rfl rfl) rfl Try.isAgg3 hS (by rfl)) (c' := .int .i64 (c.N : Int)) (fun _ => rfl)) ?_
  refine lw_v rfl rfl (ok_neq rfl (.s rfl rfl) rfl rfl) ?_
  refine lw_v rfl rfl (ok_or rfl rfl rfl rfl) ?_
  refine lw_nil ?_
  refine Ends.keep [(2, .eq _), (3, .eq _), (4, .eq _), (5, .eq _), (22, .eq _)] (.cons rfl (.cons rfl (.cons rfl (.cons rfl (.cons rfl .nil))))) ?_
  refine ends_then ?_
  refine cw_cond rfl (fun h22 => ?_) (fun h22 => ?_)
  ·
    have hno : markF c res ex = (0, 0) := markF_no fun h1 h2 => by
      have h3 := heq.1 h1
      rw [decide_eq_false (by omega : ¬ ((exactF c res 1).length : Int) = 0), decide_eq_true (by omega : (m2 : Int) = (c.N : Int))] at h22
      cases h22
    rw [hno]
    refine cw_seq ?_
    -- region 3
    refine cw_region ?_
    refine lw_v rfl rfl (ok_build (cells := #[.int .i64 0, .int .i64 0]) rfl (.n rfl) Try.underlying53 Try.zeroValue53 pl53 rfl (by kernel_rfl)) ?_
    refine lw_stS rfl rfl rfl rfl rfl (by kernel_rfl) hS rfl (by rfl) (by rfl) ?_
    clear hS; intro w4 hS
    refine lw_nil ?_
    refine Ends.keep [(4, .eq _)] (.cons rfl .nil) ?_
    refine ends_then ?_
    refine cw_ret ?_
    refine then_ret (?_)
    exact end_ret (resS Try.results64 rfl Try.isAgg53 Try.sizeOf53 hS rfl) ⟨rfl, hS.below⟩
  ·
    have hyn : exOk c res 1 = true ∧ m2 = c.N := by
      rw [Bool.or_eq_false_iff, Bool.not_eq_false', decide_eq_true_eq, decide_eq_false_iff_not] at h22
      refine ⟨?_, by omega⟩
      cases h9 : exOk c res 1 with
      | true => rfl
      | false => rw [exactF_no h9] at h22; exact absurd rfl h22.1
    obtain ⟨hyes, hm2⟩ := hyn
    clear heq hel
    have hrt := exactF_right hwf hyes
    have hDl := hrt.len
    have hrg := hrt.rng
    have hsr := sum_rng (D := exactF c res 1) (fun i hi => by have := hrg i (by omega); omega)
    rw [markF_yes hyes (by omega)]
    clear hrt
    generalize exactF c res 1 = D at hS hDl hsr hrg ⊢
    refine cw_skip ?_
    refine ends_then ?_
    refine cw_seq ?_
    -- region 4
    refine cw_region ?_
    refine lw_v rfl rfl (ok_assign rfl (.n rfl) rfl) ?_
    refine lw_nil ?_
    refine Ends.keep [(2, .eq _), (3, .eq _), (4, .eq _), (5, .eq _), (6, .eq _)] (.cons rfl (.cons rfl (.cons rfl (.cons rfl (.cons rfl .nil))))) ?_
    refine ends_then ?_
    refine cw_seq ?_
    refine cw_seq ?_
    -- region 5
    refine cw_region ?_
    refine lw_v rfl rfl (ok_assign rfl (.n rfl) rfl) ?_
    refine lw_nil ?_
    refine Ends.keep [(2, .eq _), (3, .eq _), (4, .eq _), (5, .eq _), (6, .eq _), (7, .eq _)] (.cons rfl (.cons rfl (.cons rfl (.cons rfl (.cons rfl (.cons rfl .nil)))))) ?_
    refine ends_then ?_
    refine cw_block ?_
    -- LOOP at region 6: changed live slots [6, 7], kept [2, 3, 4, 5]
    refine cw_loop [(2, .eq _), (3, .eq _), (4, .eq _), (5, .eq _)] (fun i : Nat => [(6, .eq (.int .i64 (D.take i).sum)), (7, .eq (.int .i64 i))]) (fun i w' => i ≤ c.N ∧ St w.heap.size w w' [sl (eInt .i64) 1 A11 D.length c11 D, bx b4 (mkV (0, 0)).cells.toList 53, bx b3 (preV A1 m1 c1 A2 m2 c2).cells.toList 56, bx b2 (csV c q).cells.toList 29, sl (eInt .i64) 1 A2 m2 c2 ex, sl (eInt .i64) 1 A1 m1 c1 res, sl (eInt .i64) 1 q.a0 c.First.length q.c0 c.First, sl (eInt .i64) 1 q.a1 c.Head.length q.c1 c.Head, sl (eInt .i64) 1 q.a2 c.Rev.length q.c2 c.Rev, sl (eInt .i64) 1 q.a3 c.Cap.length q.c3 c.Cap, sl (eInt .i64) 1 q.a4 c.Arc.length q.c4 c.Arc, sl eBool 1 q.a5 c.Back.length q.c5 c.Back]) (fun i => c.N - i) 0 (.cons rfl (.cons rfl (.cons rfl (.cons rfl .nil)))) (.cons rfl (.cons rfl (.cons rfl (.cons rfl (.cons rfl (.cons rfl .nil)))))) ⟨Nat.zero_le _, hS⟩ ?_
    clear hS
    rintro i wr ⟨hi, hS⟩
    have hs1 := hsr i (by omega)
    refine cw_seq ?_
    refine cw_seq ?_
    -- region 6
    refine cw_region ?_
    refine lw_v rfl rfl (ok_move rfl (.n rfl) rfl) ?_
    refine lw_v rfl rfl (ok_fb rfl (.n rfl) Try.underlying29 rfl Try.sizeOf3 (by decide) rfl) ?_
    refine lw_v rfl rfl (ok_eq (ok_ldb rfl (.n rfl) rfl Try.isAgg3 hS (by rfl)) (c' := .int .i64 (c.N : Int)) (fun _ => rfl)) ?_
    refine lw_v rfl rfl (ok_lss rfl (.n rfl) rfl rfl) ?_
    refine lw_nil ?_
    refine Ends.keep [(2, .eq _), (3, .eq _), (4, .eq _), (5, .eq _), (6, .eq _), (7, .eq _), (27, .eq _)] (.cons rfl (.cons rfl (.cons rfl (.cons rfl (.cons rfl (.cons rfl (.cons rfl .nil))))))) ?_
    refine ends_then ?_
    refine cw_cond rfl (fun h27 => ?_) (fun h27 => ?_)
    ·
      have hlt : i < c.N := by have := of_decide_eq_true h27; omega
      have hdr := hrg i (by omega)
      refine cw_skip ?_
      refine ends_then ?_
      refine cw_seq ?_
      refine cw_block ?_
      -- region 8
      refine cw_region ?_
      refine lw_v rfl rfl (ok_move rfl (.n rfl) rfl) ?_
      refine lw_v rfl rfl (ok_move rfl (.n rfl) rfl) ?_
      refine lw_v rfl rfl (ok_move rfl (.n rfl) rfl) ?_
      refine lw_v rfl rfl (ok_ix rfl (.n rfl) Try.underlying26 Try.sizeOf3 rfl rfl hS (fun _ => ⟨by omega, by omega⟩)) ?_
      refine lw_v rfl rfl (ok_ldx rfl (.n rfl) rfl Try.isAgg3 hS (fun _ => ⟨by omega, by omega⟩) (by rfl)) ?_
      refine lw_v rfl rfl (ok_eq (ok_addi rfl (.n rfl) rfl rfl (fun _ => ⟨by show -9223372036854775808 ≤ (D.take i).sum + D.getD i 0; omega, by show (D.take i).sum + D.getD i 0 ≤ 9223372036854775807; omega⟩)) (c' := .int .i64 (D.take (i + 1)).sum) (fun _ => congrArg (Value.int .i64) (sum_step (by omega)).symm)) ?_
      refine lw_v rfl rfl (ok_assign rfl (.n rfl) rfl) ?_
      refine lw_nil ?_
      refine in_normal (?_)
      refine Ends.keep [(2, .eq _), (3, .eq _), (4, .eq _), (5, .eq _), (6, .eq _), (7, .eq _)] (.cons rfl (.cons rfl (.cons rfl (.cons rfl (.cons rfl (.cons rfl .nil)))))) ?_
      refine ends_then ?_
      -- region 7
      refine cw_region ?_
      refine lw_v rfl rfl (ok_move rfl (.n rfl) rfl) ?_
      refine lw_v rfl rfl (ok_addi rfl (.n rfl) rfl rfl (fun _ => ⟨by omega, by omega⟩)) ?_
      refine lw_v rfl rfl (ok_assign rfl (.n rfl) rfl) ?_
      refine lw_nil ?_
      -- BACK
      exact ends_back (i + 1) (.cons rfl (.cons rfl (.cons rfl (.cons rfl (.cons rfl (.cons rfl .nil)))))) ⟨by omega, hS⟩ (by omega)
    ·
      have hie : i = c.N := by have := of_decide_eq_false h27; omega
      refine cw_exit ?_
      refine then_exit (then_exit (in_exit (?_)))
      refine Ends.keep [(2, .eq _), (3, .eq _), (4, .eq _), (6, .eq _)] (.cons rfl (.cons rfl (.cons rfl (.cons rfl .nil)))) ?_
      refine ends_then ?_
      refine cw_seq ?_
      -- region 9
      refine cw_region ?_
      refine lw_v rfl rfl (ok_fb rfl (.n rfl) Try.underlying56 rfl Try.sizeOf25 (by decide) rfl) ?_
      refine lw_v rfl rfl (ok_ldb rfl (.n rfl) rfl Try.isAgg25 hS (by rfl)) ?_
      refine lw_v rfl rfl (ok_fb rfl (.n rfl) Try.underlying29 rfl Try.sizeOf3 (by decide) rfl) ?_
      refine lw_v rfl rfl (ok_eq (ok_ldb rfl (.n rfl) rfl Try.isAgg3 hS (by rfl)) (c' := .int .i64 (c.T : Int)) (fun _ => rfl)) ?_
      refine lw_v rfl rfl (ok_ix rfl (.n rfl) Try.underlying25 Try.sizeOf2 rfl rfl hS (fun _ => ⟨by omega, by omega⟩)) ?_
      refine lw_v rfl rfl (ok_eq (ok_ldx rfl (.n rfl) rfl Try.isAgg2 hS (fun _ => ⟨by omega, by omega⟩) (by rfl)) (c' := .int .i64 (ex.getD c.T 0)) (fun _ => rfl)) ?_
      refine lw_v rfl rfl (ok_move rfl (.n rfl) rfl) ?_
      refine lw_v rfl rfl (ok_build (cells := #[.int .i64 (ex.getD c.T 0), .int .i64 (D.take i).sum]) rfl (.n rfl) Try.underlying53 Try.zeroValue53 pl53 rfl (by kernel_rfl)) ?_
      refine lw_stS rfl rfl rfl rfl rfl (by kernel_rfl) hS rfl (by rfl) (by rfl) ?_
      clear hS; intro w5 hS
      refine lw_nil ?_
      refine Ends.keep [(4, .eq _)] (.cons rfl .nil) ?_
      refine ends_then ?_
      refine cw_ret ?_
      rw [List.take_of_length_le (by omega)] at hS
      exact end_ret (resS Try.results64 rfl Try.isAgg53 Try.sizeOf53 hS rfl) ⟨rfl, hS.below⟩

theorem ref_risen (x1 x2 y1 y2 : Int) : (decide (x1 < y1) || (decide (y1 = x1) && decide (x2 < y2))) = risenB x1 x2 y1 y2 := by
  rw [Bool.eq_iff_iff, risen_iff, Bool.or_eq_true, Bool.and_eq_true, decide_eq_true_eq, decide_eq_true_eq, decide_eq_true_eq]
  omega
set_option maxRecDepth 10000 in
/-- acequiaref20.Risen. -/
theorem f65 (x1 x2 y1 y2 : Int) (w : World) : RetV 65 [mkV (x1, x2), mkV (y1, y2)] w (.bool (risenB x1 x2 y1 y2)) := by
  refine calls_cw Try.func65 rfl Try.ntmps65 rfl ?_
  have hS := St.start w
  refine cw_seq ?_
  -- region 0
  refine cw_region ?_
  refine lw_box rfl rfl rfl rfl hS ?_
  clear hS; intro b2 w1 _ _ hS
  refine lw_box rfl rfl rfl rfl hS ?_
  clear hS; intro b3 w2 _ _ hS
  refine lw_v rfl rfl (ok_assign rfl (.n rfl) rfl) ?_
  refine lw_nil ?_
  refine Ends.keep [(2, .eq _), (3, .eq _)] (.cons rfl (.cons rfl .nil)) ?_
  refine ends_then ?_
  refine cw_seq ?_
  -- region 1
  refine cw_region ?_
  refine lw_v rfl rfl (ok_fb rfl (.n rfl) Try.underlying53 rfl Try.sizeOf2 (by decide) rfl) ?_
  refine lw_v rfl rfl (ok_eq (ok_ldb rfl (.n rfl) rfl Try.isAgg2 hS (by rfl)) (c' := .int .i64 y1) (fun _ => rfl)) ?_
  refine lw_v rfl rfl (ok_fb rfl (.n rfl) Try.underlying53 rfl Try.sizeOf2 (by decide) rfl) ?_
  refine lw_v rfl rfl (ok_eq (ok_ldb rfl (.n rfl) rfl Try.isAgg2 hS (by rfl)) (c' := .int .i64 x1) (fun _ => rfl)) ?_
  refine lw_v rfl rfl (ok_gtr rfl (.n rfl) rfl rfl) ?_
  refine lw_v rfl rfl (ok_move rfl (.n rfl) rfl) ?_
  refine lw_v rfl rfl (ok_fb rfl (.s rfl rfl) Try.underlying53 rfl Try.sizeOf2 (by decide) rfl) ?_
  refine lw_v rfl rfl (ok_eq (ok_ldb rfl (.s rfl rfl) rfl Try.isAgg2 hS (by rfl)) (c' := .int .i64 y1) (fun _ => rfl)) ?_
  refine lw_v rfl rfl (ok_fb rfl (.s rfl rfl) Try.underlying53 rfl Try.sizeOf2 (by decide) rfl) ?_
  refine lw_v rfl rfl (ok_eq (ok_ldb rfl (.s rfl rfl) rfl Try.isAgg2 hS (by rfl)) (c' := .int .i64 x1) (fun _ => rfl)) ?_
  refine lw_v rfl rfl (ok_eql rfl (.s rfl rfl) rfl rfl) ?_
  refine lw_v rfl rfl (ok_move rfl (.s rfl rfl) rfl) ?_
  refine lw_v rfl rfl (ok_fb rfl (.s rfl rfl) Try.underlying53 rfl Try.sizeOf3 (by decide) rfl) ?_
  refine lw_v rfl rfl (ok_eq (ok_ldb rfl (.s rfl rfl) rfl Try.isAgg3 hS (by rfl)) (c' := .int .i64 y2) (fun _ => rfl)) ?_
  refine lw_v rfl rfl (ok_fb rfl (.s rfl rfl) Try.underlying53 rfl Try.sizeOf3 (by decide) rfl) ?_
  refine lw_v rfl rfl (ok_eq (ok_ldb rfl (.s rfl rfl) rfl Try.isAgg3 hS (by rfl)) (c' := .int .i64 x2) (fun _ => rfl)) ?_
  refine lw_v rfl rfl (ok_gtr rfl (.s rfl rfl) rfl rfl) ?_
  refine lw_v rfl rfl (ok_andg rfl (.s rfl rfl) rfl rfl) ?_
  refine lw_v rfl rfl (ok_eq (g := none) (ok_or rfl rfl rfl rfl) (c' := .bool (risenB x1 x2 y1 y2)) (fun _ => congrArg Value.bool (ref_risen x1 x2 y1 y2))) ?_
  refine lw_v rfl rfl (ok_assign rfl (.n rfl) rfl) ?_
  refine lw_nil ?_
  refine Ends.keep [(4, .eq _)] (.cons rfl .nil) ?_
  refine ends_then ?_
  refine cw_ret ?_
  exact end_ret (res1 Try.results65 rfl) ⟨rfl, hS.below⟩

end Go.Proofs.Ytnpgeohkmdcbkaa.Aq
