/- The walk of the law LabelRaise. -/
import Derived.Test.YtnpgeohkmdcbkaaLawK
namespace Go.Proofs.Ytnpgeohkmdcbkaa.Aq
open Go Go.RowKit

theorem raise_bad {f0 f1 b x m r : Int} (h : (((decide (b < f0) || decide (f1 ≤ b)) || !decide (x = m)) || decide (r ≤ 0)) = true) (h0 : f0 ≤ b) (h1 : b < f1) (h2 : x = m) (h3 : 0 < r) : False := by
  rw [decide_eq_false (by omega : ¬ b < f0), decide_eq_false (by omega : ¬ f1 ≤ b), decide_eq_true h2, decide_eq_false (by omega : ¬ r ≤ 0)] at h
  cases h

set_option maxHeartbeats 2000000 in
set_option maxRecDepth 10000 in
/-- acequialaw06.LabelRaise. -/
theorem f4 (n : Nt) (A : Option Addr) (c : Nat) (l : List Int) (A1 : Option Addr) (c1 : Nat) (h : List Int) (A2 : Option Addr) (c2 : Nat) (at0 : Int) (w : World) (ha : (sl eArc 3 A n.arcs.length c n.arcs).p w) (hrgn : (-9223372036854775808 ≤ n.N ∧ n.N ≤ 9223372036854775807) ∧ (-9223372036854775808 ≤ n.S ∧ n.S ≤ 9223372036854775807) ∧ (-9223372036854775808 ≤ n.T ∧ n.T ≤ 9223372036854775807) ∧ ∀ a ∈ n.arcs, -9223372036854775808 ≤ a.1 ∧ a.1 ≤ 9223372036854775807 ∧ -9223372036854775808 ≤ a.2.1 ∧ a.2.1 ≤ 9223372036854775807 ∧ -9223372036854775808 ≤ a.2.2 ∧ a.2.2 ≤ 9223372036854775807) (hl : (sl (eInt .i64) 1 A1 l.length c1 l).p w) (hrgl : ∀ x ∈ l, -9223372036854775808 ≤ x ∧ x ≤ 9223372036854775807) (hh : (sl (eInt .i64) 1 A2 h.length c2 h).p w) (hrgh : ∀ x ∈ h, -9223372036854775808 ≤ x ∧ x ≤ 9223372036854775807) (hat0 : 0 ≤ at0 ∧ at0 ≤ 255) :
    Calls Try.prog 4 #[netV n A c, .slice A1 l.length c1, .slice A2 h.length c2, .int .u8 at0] w fun e w' => e = .returned (.bool true) ∧ Gr w w' := by
  refine calls_cw Try.func4 rfl Try.ntmps4 rfl ?_
  have hS := (((St.start w).args (Nat.le_refl _) _ ha rfl).args (Nat.le_refl _) _ hl rfl).args (Nat.le_refl _) _ hh rfl
  refine cw_seq ?_
  -- region 0
  refine cw_region ?_
  refine lw_box rfl rfl rfl rfl hS ?_
  clear hS; intro b4 w1 _ _ hS
  refine lw_v rfl rfl (ok_assign rfl (.n rfl) rfl) ?_
  refine lw_nil ?_
  refine Ends.keep [(1, .eq _), (2, .eq _), (3, .eq _), (4, .eq _)] (.cons rfl (.cons rfl (.cons rfl (.cons rfl .nil)))) ?_
  refine ends_then ?_
  refine cw_seq ?_
  -- region 1
  refine cw_region ?_
  refine lw_v rfl rfl (ok_ldS rfl (.n rfl) rfl Try.isAgg24 Try.sizeOf24 hS rfl) ?_
  refine lw_call (f := 24) (xs := [_, _, _]) rfl rfl rfl Try.call24 rfl (Calls.mono (f24a n A c _ (hS.rd A (by have := ha.2.1; omega)) hrgn) ?_)
  rintro e w' ⟨n1, AS, cS, hok, rfl, hg, hfr, ho⟩
  replace hS := hS.new hg _ ho hfr; clear hg ho hfr
  refine ⟨_, rfl, ?_⟩
  refine lw_v rfl rfl (ok_move rfl (.n rfl) rfl) ?_
  refine lw_call (f := 23) (xs := [_, _]) rfl rfl rfl Try.call23 rfl (Calls.mono (f23a n1 AS cS l A1 c1 _ hok (hS.rd AS (by have := hok.len; omega)) (hS.rd A1 hl.2.1) hl.2.1 hrgl) ?_)
  rintro e w' ⟨C, R, q, A6, c6, ⟨hwf, hro⟩, rfl, hg, hnew, hat, hfr, hap, ho⟩
  replace hS := hS.left hg hat hnew ho hfr hap; clear hg hnew hat hfr hap ho
  replace hS := hS.sub (.cons_cons _ (.cons_cons _ (.cons_cons _ (.cons_cons _ (.cons_cons _ (.cons_cons _ (.cons_cons _ (.cons _ (.cons _ (List.Sublist.refl _))))))))))
  have hM := hwf.m
  have hrlen := hro.len
  have hN := hwf.hi
  have hlo := hwf.lo
  obtain ⟨u, huv, huN⟩ := modN at0 hat0.1 C.N (by omega)
  refine ⟨_, rfl, ?_⟩
  refine lw_v rfl rfl (ok_move rfl (.n rfl) rfl) ?_
  refine lw_v rfl rfl (ok_extract rfl (.n rfl) rfl rfl) ?_
  refine lw_v rfl rfl (ok_extract rfl (.n rfl) rfl rfl) ?_
  refine lw_alloc rfl rfl rfl Try.zeroValue29 hS ?_
  clear hS; intro b9 w2 _ _ hS
  refine lw_stS rfl rfl rfl rfl rfl (by kernel_rfl) hS rfl (by rfl) (by rfl) ?_
  clear hS; intro w3 hS
  refine lw_v rfl rfl (ok_assign rfl (.n rfl) rfl) ?_
  refine lw_nil ?_
  refine Ends.keep [(2, .eq _), (3, .eq _), (9, .eq _), (10, .eq _)] (.cons rfl (.cons rfl (.cons rfl (.cons rfl .nil)))) ?_
  refine ends_then ?_
  refine cw_seq ?_
  -- region 2
  refine cw_region ?_
  refine lw_v rfl rfl (ok_ldS rfl (.n rfl) rfl Try.isAgg29 Try.sizeOf29 hS rfl) ?_
  refine lw_v rfl rfl (ok_move rfl (.n rfl) rfl) ?_
  refine lw_call (f := 25) (xs := [_, _]) rfl rfl rfl Try.call25 rfl (Calls.mono (f25a C q h A2 c2 _ hwf (hS.rd A2 hh.2.1) hrgh) ?_)
  rintro e w' ⟨H, AH, cH, hrh, rfl, hg, hfr, ho⟩
  replace hS := hS.new hg _ ho hfr; clear hg ho hfr
  have hHlH := hrh.len
  replace hS := hS.freeze .here (by omega)
  have hm : mayB C R H = true := (may_iff hwf).2 ⟨hrlen, hrh⟩
  have hst := steepL_len hwf R H
  refine ⟨_, rfl, ?_⟩
  refine lw_v rfl rfl (ok_assign rfl (.n rfl) rfl) ?_
  refine lw_nil ?_
  refine Ends.keep [(2, .eq _), (3, .eq _), (9, .eq _), (10, .eq _)] (.cons rfl (.cons rfl (.cons rfl (.cons rfl .nil)))) ?_
  refine ends_then ?_
  refine cw_seq ?_
  -- region 3
  refine cw_region ?_
  refine lw_v rfl rfl (ok_move rfl (.n rfl) rfl) ?_
  refine lw_v rfl rfl (ok_eq (ok_conv rfl (.n rfl) Try.underlying5 Try.underlying3 rfl) (c' := .int .i64 at0) (fun _ => congrArg (Value.int .i64) (wrap_in ⟨by omega, by omega⟩))) ?_
  refine lw_v rfl rfl (ok_fb rfl (.n rfl) Try.underlying29 rfl Try.sizeOf3 (by decide) rfl) ?_
  refine lw_v rfl rfl (ok_ldb rfl (.n rfl) rfl Try.isAgg3 hS (by rfl)) ?_
  refine lw_v rfl rfl (ok_eq (ok_rem rfl (.n rfl) rfl rfl (fun _ => by omega)) (c' := .int .i64 (u : Int)) (fun _ => congrArg (Value.int .i64) huv)) ?_
  refine lw_v rfl rfl (ok_assign rfl (.n rfl) rfl) ?_
  refine lw_nil ?_
  refine Ends.keep [(2, .eq _), (9, .eq _), (10, .eq _), (11, .eq _)] (.cons rfl (.cons rfl (.cons rfl (.cons rfl .nil)))) ?_
  refine ends_then ?_
  refine cw_seq ?_
  -- region 4
  refine cw_region ?_
  refine lw_v rfl rfl (ok_ldS rfl (.n rfl) rfl Try.isAgg29 Try.sizeOf29 hS rfl) ?_
  refine lw_v rfl rfl (ok_move rfl (.n rfl) rfl) ?_
  refine lw_v rfl rfl (ok_move rfl (.n rfl) rfl) ?_
  refine lw_v rfl rfl (ok_move rfl (.n rfl) rfl) ?_
  refine lw_call (f := 26) (xs := [_, _, _, _]) rfl rfl rfl Try.call26 rfl (Calls.mono (f26g C q R H A6 c6 AH cH _ u hwf (hS.cs q) (hS.rd A6 (by omega)) (hS.rd AH (by omega))) ?_)
  rintro e w' ⟨b0, m0, ok0, rfl, hg, hL⟩
  replace hS := hS.grow hg; clear hg
  refine ⟨_, rfl, ?_⟩
  refine lw_v rfl rfl (ok_move rfl (.n rfl) rfl) ?_
  refine lw_v rfl rfl (ok_extract rfl (.n rfl) rfl rfl) ?_
  refine lw_v rfl rfl (ok_extract rfl (.n rfl) rfl rfl) ?_
  refine lw_v rfl rfl (ok_extract rfl (.n rfl) rfl rfl) ?_
  refine lw_v rfl rfl (ok_assign rfl (.n rfl) rfl) ?_
  refine lw_v rfl rfl (ok_assign rfl (.n rfl) rfl) ?_
  refine lw_v rfl rfl (ok_assign rfl (.n rfl) rfl) ?_
  refine lw_nil ?_
  refine Ends.keep [(2, .eq _), (9, .eq _), (10, .eq _), (11, .eq _), (12, .eq _), (13, .eq _), (14, .eq _)] (.cons rfl (.cons rfl (.cons rfl (.cons rfl (.cons rfl (.cons rfl (.cons rfl .nil))))))) ?_
  refine ends_then ?_
  refine cw_seq ?_
  refine cw_seq ?_
  -- region 5
  refine cw_region ?_
  refine lw_v rfl rfl (ok_move rfl (.n rfl) rfl) ?_
  refine lw_v rfl rfl (ok_not rfl (.n rfl) rfl) ?_
  refine lw_v rfl rfl (ok_move rfl (.n rfl) rfl) ?_
  refine lw_v rfl rfl (ok_move rfl (.s rfl rfl) rfl) ?_
  refine lw_v rfl rfl (ok_fb rfl (.s rfl rfl) Try.underlying29 rfl Try.sizeOf3 (by decide) rfl) ?_
  refine lw_v rfl rfl (ok_ldb rfl (.s rfl rfl) rfl Try.isAgg3 hS (by rfl)) ?_
  refine lw_v rfl rfl (ok_eql rfl (.s rfl rfl) rfl rfl) ?_
  refine lw_v rfl rfl (ok_or rfl rfl rfl rfl) ?_
  refine lw_v rfl rfl (ok_move rfl (.n rfl) rfl) ?_
  refine lw_v rfl rfl (ok_move rfl (.s rfl rfl) rfl) ?_
  refine lw_v rfl rfl (ok_fb rfl (.s rfl rfl) Try.underlying29 rfl Try.sizeOf3 (by decide) rfl) ?_
  refine lw_v rfl rfl (ok_ldb rfl (.s rfl rfl) rfl Try.isAgg3 hS (by rfl)) ?_
  refine lw_v rfl rfl (ok_eql rfl (.s rfl rfl) rfl rfl) ?_
  refine lw_v rfl rfl (ok_or rfl rfl rfl rfl) ?_
  refine lw_nil ?_
  refine Ends.keep [(2, .eq _), (9, .eq _), (10, .eq _), (11, .eq _), (12, .eq _), (13, .eq _), (64, .eq _)] (.cons rfl (.cons rfl (.cons rfl (.cons rfl (.cons rfl (.cons rfl (.cons rfl .nil))))))) ?_
  refine ends_then ?_
  refine cw_cond rfl (fun h64 => ?_) (fun h64 => ?_)
  ·
    refine cw_seq ?_
    -- region 6
    refine cw_region ?_
    refine lw_call (f := 39) (xs := []) rfl rfl rfl Try.call39 rfl (Calls.mono (f39 _) ?_)
    rintro e w' ⟨rfl, hg⟩
    replace hS := hS.grow hg; clear hg
    refine ⟨_, rfl, ?_⟩
    refine lw_v rfl rfl (ok_assign rfl (.n rfl) rfl) ?_
    refine lw_nil ?_
    refine Ends.keep [(8, .eq _)] (.cons rfl .nil) ?_
    refine ends_then ?_
    refine cw_ret ?_
    refine then_ret (?_)
    exact end_ret (res1 Try.results4 rfl) ⟨rfl, hS.below⟩
  ·
    obtain ⟨hok0, hnS, hnT⟩ := least_in h64
    subst hok0
    obtain ⟨hop, hme, hall⟩ := least_open hL
    obtain ⟨hf0, hf1, hf2⟩ := seg_rng hwf huN
    have ho1 : C.First.getD (u : Int).toNat 0 ≤ b0 := hop.1
    have ho2 : b0 < C.First.getD ((u : Int) + 1).toNat 0 := hop.2.1
    have ho3 := hop.2.2
    have hb1 : b0 < C.First.getD (u + 1) 0 := ho2
    have hb0 : C.First.getD u 0 ≤ b0 := ho1
    obtain ⟨⟨hd0, hd1⟩, he0, he1⟩ := end_rng hwf hrh (a := b0) (by omega) (by omega)
    have hfl := hwf.fl
    have hms : C.First.getD (u : Int).toNat 0 = C.First.getD u 0 := rfl
    have hmt : C.First.getD ((u : Int) + 1).toNat 0 = C.First.getD (u + 1) 0 := rfl
    have hme' : H.getD (C.Head.getD b0.toNat 0).toNat 0 = m0 := hme.symm
    have huS : u ≠ C.S := fun e => hnS (by rw [e])
    have huT : u ≠ C.T := fun e => hnT (by rw [e])
    have hz0 : 0 ≤ (if (C.N : Int) < m0 + 1 then (C.N : Int) else m0 + 1) := by split <;> omega
    have hz1 : (if (C.N : Int) < m0 + 1 then (C.N : Int) else m0 + 1) ≤ C.N := by split <;> omega
    have hz2 : (if (C.N : Int) < m0 + 1 then (C.N : Int) else m0 + 1) ≤ m0 + 1 := by split <;> omega
    have hst2 := steepL_len hwf R (H.set (u : Int).toNat (if (C.N : Int) < m0 + 1 then (C.N : Int) else m0 + 1))
    have hfl2 := flatL_len hwf R (H.set (u : Int).toNat (if (C.N : Int) < m0 + 1 then (C.N : Int) else m0 + 1))
    refine cw_skip ?_
    refine ends_then ?_
    refine cw_seq ?_
    refine cw_seq ?_
    -- region 7
    refine cw_region ?_
    refine lw_v rfl rfl (ok_move rfl (.n rfl) rfl) ?_
    refine lw_v rfl rfl (ok_fb rfl (.n rfl) Try.underlying29 rfl Try.sizeOf26 (by decide) rfl) ?_
    refine lw_v rfl rfl (ok_ldb rfl (.n rfl) rfl Try.isAgg26 hS (by rfl)) ?_
    refine lw_v rfl rfl (ok_move rfl (.n rfl) rfl) ?_
    refine lw_v rfl rfl (ok_ix rfl (.n rfl) Try.underlying26 Try.sizeOf3 rfl rfl hS (fun _ => ⟨by omega, by omega⟩)) ?_
    refine lw_v rfl rfl (ok_ldx rfl (.n rfl) rfl Try.isAgg3 hS (fun _ => ⟨by omega, by omega⟩) (by rfl)) ?_
    refine lw_v rfl rfl (ok_lss rfl (.n rfl) rfl rfl) ?_
    refine lw_v rfl rfl (ok_move rfl (.n rfl) rfl) ?_
    refine lw_v rfl rfl (ok_move rfl (.s rfl rfl) rfl) ?_
    refine lw_v rfl rfl (ok_fb rfl (.s rfl rfl) Try.underlying29 rfl Try.sizeOf26 (by decide) rfl) ?_
    refine lw_v rfl rfl (ok_ldb rfl (.s rfl rfl) rfl Try.isAgg26 hS (by rfl)) ?_
    refine lw_v rfl rfl (ok_move rfl (.s rfl rfl) rfl) ?_
    refine lw_v rfl rfl (ok_addi rfl (.s rfl rfl) rfl rfl (fun _ => ⟨by omega, by omega⟩)) ?_
    refine lw_v rfl rfl (ok_ix rfl (.s rfl rfl) Try.underlying26 Try.sizeOf3 rfl rfl hS (fun _ => ⟨by omega, by omega⟩)) ?_
    refine lw_v rfl rfl (ok_ldx rfl (.s rfl rfl) rfl Try.isAgg3 hS (fun _ => ⟨by omega, by omega⟩) (by rfl)) ?_
    refine lw_v rfl rfl (ok_geq rfl (.s rfl rfl) rfl rfl) ?_
    refine lw_v rfl rfl (ok_or rfl rfl rfl rfl) ?_
    refine lw_v rfl rfl (ok_move rfl (.n rfl) rfl) ?_
    refine lw_v rfl rfl (ok_move rfl (.s rfl rfl) rfl) ?_
    refine lw_v rfl rfl (ok_fb rfl (.s rfl rfl) Try.underlying29 rfl Try.sizeOf26 (by decide) rfl) ?_
    refine lw_v rfl rfl (ok_ldb rfl (.s rfl rfl) rfl Try.isAgg26 hS (by rfl)) ?_
    refine lw_v rfl rfl (ok_move rfl (.s rfl rfl) rfl) ?_
    refine lw_v rfl rfl (ok_ix rfl (.s rfl rfl) Try.underlying26 Try.sizeOf3 rfl rfl hS (fun _ => ⟨by omega, by omega⟩)) ?_
    refine lw_v rfl rfl (ok_eq (ok_ldx rfl (.s rfl rfl) rfl Try.isAgg3 hS (fun _ => ⟨by omega, by omega⟩) (by rfl)) (c' := .int .i64 (C.Head.getD b0.toNat 0)) (fun _ => rfl)) ?_
    refine lw_v rfl rfl (ok_ix rfl (.s rfl rfl) Try.underlying26 Try.sizeOf3 rfl rfl hS (fun _ => ⟨by omega, by omega⟩)) ?_
    refine lw_v rfl rfl (ok_ldx rfl (.s rfl rfl) rfl Try.isAgg3 hS (fun _ => ⟨by omega, by omega⟩) (by rfl)) ?_
    refine lw_v rfl rfl (ok_move rfl (.s rfl rfl) rfl) ?_
    refine lw_v rfl rfl (ok_neq rfl (.s rfl rfl) rfl rfl) ?_
    refine lw_v rfl rfl (ok_or rfl rfl rfl rfl) ?_
    refine lw_v rfl rfl (ok_move rfl (.n rfl) rfl) ?_
    refine lw_v rfl rfl (ok_move rfl (.s rfl rfl) rfl) ?_
    refine lw_v rfl rfl (ok_move rfl (.s rfl rfl) rfl) ?_
    refine lw_v rfl rfl (ok_ix rfl (.s rfl rfl) Try.underlying25 Try.sizeOf2 rfl rfl hS (fun _ => ⟨by omega, by omega⟩)) ?_
    refine lw_v rfl rfl (ok_ldx rfl (.s rfl rfl) rfl Try.isAgg2 hS (fun _ => ⟨by omega, by omega⟩) (by rfl)) ?_
    refine lw_v rfl rfl (ok_leq rfl (.s rfl rfl) rfl rfl) ?_
    refine lw_v rfl rfl (ok_or rfl rfl rfl rfl) ?_
    refine lw_nil ?_
    refine Ends.keep [(2, .eq _), (9, .eq _), (10, .eq _), (11, .eq _), (13, .eq _), (101, .eq _)] (.cons rfl (.cons rfl (.cons rfl (.cons rfl (.cons rfl (.cons rfl .nil)))))) ?_
    refine ends_then ?_
    refine cw_cond rfl (fun h101 => ?_) (fun h101 => ?_)
    ·
      exact (raise_bad h101 hb0 hb1 hme' ho3).elim
    ·
      refine cw_skip ?_
      refine ends_then ?_
      refine cw_seq ?_
      -- region 9
      refine cw_region ?_
      refine lw_mkmap rfl rfl rfl hS ?_
      clear hS; intro m102 w4 _ _ hS
      refine lw_v rfl rfl (ok_assign rfl (.n rfl) rfl) ?_
      refine lw_nil ?_
      refine Ends.keep [(2, .eq _), (9, .eq _), (10, .eq _), (11, .eq _), (13, .eq _), (15, .eq _)] (.cons rfl (.cons rfl (.cons rfl (.cons rfl (.cons rfl (.cons rfl .nil)))))) ?_
      refine ends_then ?_
      refine cw_seq ?_
      refine cw_seq ?_
      -- region 10
      refine cw_region ?_
      refine lw_v rfl rfl (ok_ldS rfl (.n rfl) rfl Try.isAgg29 Try.sizeOf29 hS rfl) ?_
      refine lw_v rfl rfl (ok_move rfl (.n rfl) rfl) ?_
      refine lw_v rfl rfl (ok_move rfl (.n rfl) rfl) ?_
      refine lw_call (f := 31) (xs := [_, _, _]) rfl rfl rfl Try.call31 rfl (Calls.mono (f31g C q R H A6 c6 AH cH _ hwf (hS.cs q) (hS.rd A6 (by omega)) (hS.rd AH (by omega))) ?_)
      rintro e w' ⟨A106, c106, rfl, hg, hfr, ho⟩
      replace hS := hS.new hg _ ho hfr; clear hg ho hfr
      replace hS := hS.freeze .here (by omega)
      refine ⟨_, rfl, ?_⟩
      refine lw_v rfl rfl (ok_len rfl (.n rfl) Try.underlying26 rfl) ?_
      refine lw_v rfl rfl (ok_move rfl (.n rfl) rfl) ?_
      refine lw_nil ?_
      refine Ends.keep [(2, .eq _), (9, .eq _), (10, .eq _), (11, .eq _), (13, .eq _), (15, .eq _), (106, .eq _), (107, .eq _), (108, .eq _)] (.cons rfl (.cons rfl (.cons rfl (.cons rfl (.cons rfl (.cons rfl (.cons rfl (.cons rfl (.cons rfl .nil))))))))) ?_
      refine ends_then ?_
      refine cw_block ?_
      -- LOOP at region 11: changed live slots [108], kept [2, 9, 10, 11, 13, 15, 106, 107]
      refine cw_loop [(2, .eq _), (9, .eq _), (10, .eq _), (11, .eq _), (13, .eq _), (15, .eq _), (106, .eq _), (107, .eq _)] (fun j : Nat => [(108, .eq (.int .i64 j))]) (fun j w' => j ≤ (steepL C R H).length ∧ ∃ m f, m ≤ j ∧ (∀ x, f x = if x ∈ (steepL C R H).take j then (1 : Int) else 0) ∧ St w.heap.size w w' [sl (eInt .i64) 1 A106 (steepL C R H).length c106 (steepL C R H), mp m102 m f, sl (eInt .i64) 1 AH H.length cH H, bx b9 (csV C q).cells.toList 29, own (eInt .i64) 1 2 A6 R.length c6 R, sl (eInt .i64) 1 q.a0 C.First.length q.c0 C.First, sl (eInt .i64) 1 q.a1 C.Head.length q.c1 C.Head, sl (eInt .i64) 1 q.a2 C.Rev.length q.c2 C.Rev, sl (eInt .i64) 1 q.a3 C.Cap.length q.c3 C.Cap, sl (eInt .i64) 1 q.a4 C.Arc.length q.c4 C.Arc, sl eBool 1 q.a5 C.Back.length q.c5 C.Back, sl (eInt .i64) 1 A2 h.length c2 h, sl (eInt .i64) 1 A1 l.length c1 l, sl eArc 3 A n.arcs.length c n.arcs]) (fun j => (steepL C R H).length - j) 0 (.cons rfl (.cons rfl (.cons rfl (.cons rfl (.cons rfl (.cons rfl (.cons rfl (.cons rfl .nil)))))))) (.cons rfl (.cons rfl (.cons rfl (.cons rfl (.cons rfl (.cons rfl (.cons rfl (.cons rfl (.cons rfl .nil))))))))) ⟨Nat.zero_le _, 0, _, Nat.le_refl _, fun x => by simp, hS⟩ ?_
      clear hS
      rintro j wr ⟨hj, m, f, hmj, hf, hS⟩
      refine cw_seq ?_
      -- region 11
      refine cw_region ?_
      refine lw_v rfl rfl (ok_lss rfl (.n rfl) rfl rfl) ?_
      refine lw_nil ?_
      refine Ends.keep [(2, .eq _), (9, .eq _), (10, .eq _), (11, .eq _), (13, .eq _), (15, .eq _), (106, .eq _), (107, .eq _), (108, .eq _), (109, .eq _)] (.cons rfl (.cons rfl (.cons rfl (.cons rfl (.cons rfl (.cons rfl (.cons rfl (.cons rfl (.cons rfl (.cons rfl .nil)))))))))) ?_
      refine ends_then ?_
      refine cw_seq ?_
      refine cw_cond rfl (fun h109 => ?_) (fun h109 => ?_)
      ·
        have hlt' : j < (steepL C R H).length := by have := of_decide_eq_true h109; omega
        have hkr := downL_rng (getD_memI hlt')
        have hkr' : 0 ≤ (steepL C R H).getD (j : Int).toNat 0 ∧ (steepL C R H).getD (j : Int).toNat 0 < C.Head.length := hkr
        refine cw_skip ?_
        refine ends_then ?_
        refine cw_seq ?_
        refine cw_block ?_
        refine cw_seq ?_
        -- region 12
        refine cw_region ?_
        refine lw_v rfl rfl (ok_ix rfl (.n rfl) Try.underlying26 Try.sizeOf3 rfl rfl hS (fun _ => ⟨by omega, by omega⟩)) ?_
        refine lw_v rfl rfl (ok_ldx rfl (.n rfl) rfl Try.isAgg3 hS (fun _ => ⟨by omega, by omega⟩) (by rfl)) ?_
        refine lw_v rfl rfl (ok_assign rfl (.n rfl) rfl) ?_
        refine lw_nil ?_
        refine Ends.keep [(2, .eq _), (9, .eq _), (10, .eq _), (11, .eq _), (13, .eq _), (15, .eq _), (17, .eq _), (106, .eq _), (107, .eq _), (108, .eq _)] (.cons rfl (.cons rfl (.cons rfl (.cons rfl (.cons rfl (.cons rfl (.cons rfl (.cons rfl (.cons rfl (.cons rfl .nil)))))))))) ?_
        refine ends_then ?_
        -- region 13
        refine cw_region ?_
        refine lw_v rfl rfl (ok_move rfl (.n rfl) rfl) ?_
        refine lw_v rfl rfl (ok_move rfl (.n rfl) rfl) ?_
        refine lw_mapup rfl rfl rfl Try.underlying43 rfl rfl rfl hS ⟨by omega, by omega⟩ ⟨by omega, by omega⟩ (by omega) ?_
        clear hS; intro w5 hS
        refine lw_nil ?_
        refine in_normal (?_)
        refine Ends.keep [(2, .eq _), (9, .eq _), (10, .eq _), (11, .eq _), (13, .eq _), (15, .eq _), (106, .eq _), (107, .eq _), (108, .eq _)] (.cons rfl (.cons rfl (.cons rfl (.cons rfl (.cons rfl (.cons rfl (.cons rfl (.cons rfl (.cons rfl .nil))))))))) ?_
        refine ends_then ?_
        -- region 14
        refine cw_region ?_
        refine lw_v rfl rfl (ok_addi rfl (.n rfl) rfl rfl (fun _ => ⟨by omega, by omega⟩)) ?_
        refine lw_v rfl rfl (ok_move rfl (.n rfl) rfl) ?_
        refine lw_nil ?_
        -- BACK
        refine ends_back (j + 1) (.cons rfl (.cons rfl (.cons rfl (.cons rfl (.cons rfl (.cons rfl (.cons rfl (.cons rfl (.cons rfl .nil))))))))) ⟨by omega, m + 1, _, by omega, mem_step hf hlt', hS⟩ (by omega)
      ·
        have hjn : j = (steepL C R H).length := by have := of_decide_eq_false h109; omega
        rw [hjn, List.take_length] at hf
        refine cw_exit ?_
        refine then_exit (then_exit (in_exit (?_)))
        refine Ends.keep [(2, .eq _), (9, .eq _), (10, .eq _), (11, .eq _), (13, .eq _), (15, .eq _)] (.cons rfl (.cons rfl (.cons rfl (.cons rfl (.cons rfl (.cons rfl .nil)))))) ?_
        refine ends_then ?_
        refine cw_seq ?_
        -- region 15
        refine cw_region ?_
        refine lw_ls0 (enc := (eInt .i64)) rfl rfl rfl Try.underlying26 Try.sizeOf3 hS ?_
        clear hS; intro A115 c115 w6 _ hS
        refine lw_v rfl rfl (ok_move rfl (.n rfl) rfl) ?_
        refine lw_append0 (enc := (eInt .i64)) rfl rfl rfl Try.underlying26 info3 rfl rfl rfl hS (by omega) (by omega) ?_
        intro A117 c117 wq hS1; replace hS := hS1 _ (Rep.r); clear hS1
        rw [List.nil_append] at hS ⊢
        refine lw_v rfl rfl (ok_assign rfl (.n rfl) rfl) ?_
        refine lw_nil ?_
        refine Ends.keep [(2, .eq _), (9, .eq _), (10, .eq _), (11, .eq _), (13, .eq _), (15, .eq _), (18, .eq _)] (.cons rfl (.cons rfl (.cons rfl (.cons rfl (.cons rfl (.cons rfl (.cons rfl .nil))))))) ?_
        refine ends_then ?_
        refine cw_seq ?_
        -- region 16
        refine cw_region ?_
        refine lw_v rfl rfl (ok_move rfl (.n rfl) rfl) ?_
        refine lw_v rfl rfl (ok_move rfl (.n rfl) rfl) ?_
        refine lw_v rfl rfl (ok_move rfl (.n rfl) rfl) ?_
        refine lw_v rfl rfl (ok_addi rfl (.n rfl) rfl rfl (fun _ => ⟨by omega, by omega⟩)) ?_
        refine lw_v rfl rfl (ok_fb rfl (.n rfl) Try.underlying29 rfl Try.sizeOf3 (by decide) rfl) ?_
        refine lw_v rfl rfl (ok_ldb rfl (.n rfl) rfl Try.isAgg3 hS (by rfl)) ?_
        refine lw_v rfl rfl (ok_min2 rfl (.n rfl) rfl rfl) ?_
        refine lw_v rfl rfl (ok_ix rfl (.n rfl) Try.underlying26 Try.sizeOf3 rfl rfl hS (fun _ => ⟨by omega, by omega⟩)) ?_
        refine lw_stx (enc := (eInt .i64)) (_) rfl rfl rfl rfl rfl rfl Try.sizeOf3 hS (⟨by omega, by omega⟩) ?_
        clear hS; intro w7 hS
        refine lw_nil ?_
        refine Ends.keep [(2, .eq _), (9, .eq _), (10, .eq _), (11, .eq _), (13, .eq _), (15, .eq _), (18, .eq _)] (.cons rfl (.cons rfl (.cons rfl (.cons rfl (.cons rfl (.cons rfl (.cons rfl .nil))))))) ?_
        refine ends_then ?_
        refine cw_seq ?_
        -- region 17
        refine cw_region ?_
        refine lw_mkmap rfl rfl rfl hS ?_
        clear hS; intro m126 w8 _ _ hS
        refine lw_v rfl rfl (ok_assign rfl (.n rfl) rfl) ?_
        refine lw_nil ?_
        refine Ends.keep [(2, .eq _), (9, .eq _), (10, .eq _), (11, .eq _), (13, .eq _), (15, .eq _), (18, .eq _), (19, .eq _)] (.cons rfl (.cons rfl (.cons rfl (.cons rfl (.cons rfl (.cons rfl (.cons rfl (.cons rfl .nil)))))))) ?_
        refine ends_then ?_
        refine cw_seq ?_
        refine cw_seq ?_
        -- region 18
        refine cw_region ?_
        refine lw_v rfl rfl (ok_ldS rfl (.n rfl) rfl Try.isAgg29 Try.sizeOf29 hS rfl) ?_
        refine lw_v rfl rfl (ok_move rfl (.n rfl) rfl) ?_
        refine lw_v rfl rfl (ok_move rfl (.n rfl) rfl) ?_
        refine lw_call (f := 31) (xs := [_, _, _]) rfl rfl rfl Try.call31 rfl (Calls.mono (f31g C q R (H.set (u : Int).toNat (if (C.N : Int) < m0 + 1 then (C.N : Int) else m0 + 1)) A6 c6 A117 c117 _ hwf (hS.cs q) (hS.rd A6 (by omega)) (hS.rd A117 (by omega))) ?_)
        rintro e w' ⟨A130, c130, rfl, hg, hfr, ho⟩
        replace hS := hS.new hg _ ho hfr; clear hg ho hfr
        replace hS := hS.freeze .here (by omega)
        refine ⟨_, rfl, ?_⟩
        refine lw_v rfl rfl (ok_len rfl (.n rfl) Try.underlying26 rfl) ?_
        refine lw_v rfl rfl (ok_move rfl (.n rfl) rfl) ?_
        refine lw_nil ?_
        refine Ends.keep [(2, .eq _), (9, .eq _), (10, .eq _), (11, .eq _), (13, .eq _), (15, .eq _), (18, .eq _), (19, .eq _), (130, .eq _), (131, .eq _), (132, .eq _)] (.cons rfl (.cons rfl (.cons rfl (.cons rfl (.cons rfl (.cons rfl (.cons rfl (.cons rfl (.cons rfl (.cons rfl (.cons rfl .nil))))))))))) ?_
        refine ends_then ?_
        refine cw_block ?_
        -- LOOP at region 19: changed live slots [132], kept [2, 9, 10, 11, 13, 15, 18, 19, 130, 131]
        refine cw_loop [(2, .eq _), (9, .eq _), (10, .eq _), (11, .eq _), (13, .eq _), (15, .eq _), (18, .eq _), (19, .eq _), (130, .eq _), (131, .eq _)] (fun j : Nat => [(132, .eq (.int .i64 j))]) (fun j w' => j ≤ (steepL C R (H.set (u : Int).toNat (if (C.N : Int) < m0 + 1 then (C.N : Int) else m0 + 1))).length ∧ ∃ m2 f2, m2 ≤ j ∧ (∀ x, f2 x = if x ∈ (steepL C R (H.set (u : Int).toNat (if (C.N : Int) < m0 + 1 then (C.N : Int) else m0 + 1))).take j then (1 : Int) else 0) ∧ St w.heap.size w w' [sl (eInt .i64) 1 A130 (steepL C R (H.set (u : Int).toNat (if (C.N : Int) < m0 + 1 then (C.N : Int) else m0 + 1))).length c130 (steepL C R (H.set (u : Int).toNat (if (C.N : Int) < m0 + 1 then (C.N : Int) else m0 + 1))), mp m126 m2 f2, own (eInt .i64) 1 3 A117 H.length c117 (H.set (u : Int).toNat (if (C.N : Int) < m0 + 1 then (C.N : Int) else m0 + 1)), sl (eInt .i64) 1 A106 (steepL C R H).length c106 (steepL C R H), mp m102 m f, sl (eInt .i64) 1 AH H.length cH H, bx b9 (csV C q).cells.toList 29, own (eInt .i64) 1 2 A6 R.length c6 R, sl (eInt .i64) 1 q.a0 C.First.length q.c0 C.First, sl (eInt .i64) 1 q.a1 C.Head.length q.c1 C.Head, sl (eInt .i64) 1 q.a2 C.Rev.length q.c2 C.Rev, sl (eInt .i64) 1 q.a3 C.Cap.length q.c3 C.Cap, sl (eInt .i64) 1 q.a4 C.Arc.length q.c4 C.Arc, sl eBool 1 q.a5 C.Back.length q.c5 C.Back, sl (eInt .i64) 1 A2 h.length c2 h, sl (eInt .i64) 1 A1 l.length c1 l, sl eArc 3 A n.arcs.length c n.arcs]) (fun j => (steepL C R (H.set (u : Int).toNat (if (C.N : Int) < m0 + 1 then (C.N : Int) else m0 + 1))).length - j) 0 (.cons rfl (.cons rfl (.cons rfl (.cons rfl (.cons rfl (.cons rfl (.cons rfl (.cons rfl (.cons rfl (.cons rfl .nil)))))))))) (.cons rfl (.cons rfl (.cons rfl (.cons rfl (.cons rfl (.cons rfl (.cons rfl (.cons rfl (.cons rfl (.cons rfl (.cons rfl .nil))))))))))) ⟨Nat.zero_le _, 0, _, Nat.le_refl _, fun x => by simp, hS⟩ ?_
        clear hS
        rintro j wr ⟨hj, m2, f2, hmj2, hf2, hS⟩
        refine cw_seq ?_
        -- region 19
        refine cw_region ?_
        refine lw_v rfl rfl (ok_lss rfl (.n rfl) rfl rfl) ?_
        refine lw_nil ?_
        refine Ends.keep [(2, .eq _), (9, .eq _), (10, .eq _), (11, .eq _), (13, .eq _), (15, .eq _), (18, .eq _), (19, .eq _), (130, .eq _), (131, .eq _), (132, .eq _), (133, .eq _)] (.cons rfl (.cons rfl (.cons rfl (.cons rfl (.cons rfl (.cons rfl (.cons rfl (.cons rfl (.cons rfl (.cons rfl (.cons rfl (.cons rfl .nil)))))))))))) ?_
        refine ends_then ?_
        refine cw_seq ?_
        refine cw_cond rfl (fun h133 => ?_) (fun h133 => ?_)
        ·
          have hlt' : j < (steepL C R (H.set (u : Int).toNat (if (C.N : Int) < m0 + 1 then (C.N : Int) else m0 + 1))).length := by have := of_decide_eq_true h133; omega
          have hkr := downL_rng (getD_memI hlt')
          have hkr' : 0 ≤ (steepL C R (H.set (u : Int).toNat (if (C.N : Int) < m0 + 1 then (C.N : Int) else m0 + 1))).getD (j : Int).toNat 0 ∧ (steepL C R (H.set (u : Int).toNat (if (C.N : Int) < m0 + 1 then (C.N : Int) else m0 + 1))).getD (j : Int).toNat 0 < C.Head.length := hkr
          refine cw_skip ?_
          refine ends_then ?_
          refine cw_seq ?_
          refine cw_block ?_
          refine cw_seq ?_
          -- region 20
          refine cw_region ?_
          refine lw_v rfl rfl (ok_ix rfl (.n rfl) Try.underlying26 Try.sizeOf3 rfl rfl hS (fun _ => ⟨by omega, by omega⟩)) ?_
          refine lw_v rfl rfl (ok_ldx rfl (.n rfl) rfl Try.isAgg3 hS (fun _ => ⟨by omega, by omega⟩) (by rfl)) ?_
          refine lw_v rfl rfl (ok_assign rfl (.n rfl) rfl) ?_
          refine lw_nil ?_
          refine Ends.keep [(2, .eq _), (9, .eq _), (10, .eq _), (11, .eq _), (13, .eq _), (15, .eq _), (18, .eq _), (19, .eq _), (21, .eq _), (130, .eq _), (131, .eq _), (132, .eq _)] (.cons rfl (.cons rfl (.cons rfl (.cons rfl (.cons rfl (.cons rfl (.cons rfl (.cons rfl (.cons rfl (.cons rfl (.cons rfl (.cons rfl .nil)))))))))))) ?_
          refine ends_then ?_
          -- region 21
          refine cw_region ?_
          refine lw_v rfl rfl (ok_move rfl (.n rfl) rfl) ?_
          refine lw_v rfl rfl (ok_move rfl (.n rfl) rfl) ?_
          refine lw_mapup rfl rfl rfl Try.underlying43 rfl rfl rfl hS ⟨by omega, by omega⟩ ⟨by omega, by omega⟩ (by omega) ?_
          clear hS; intro w9 hS
          refine lw_nil ?_
          refine in_normal (?_)
          refine Ends.keep [(2, .eq _), (9, .eq _), (10, .eq _), (11, .eq _), (13, .eq _), (15, .eq _), (18, .eq _), (19, .eq _), (130, .eq _), (131, .eq _), (132, .eq _)] (.cons rfl (.cons rfl (.cons rfl (.cons rfl (.cons rfl (.cons rfl (.cons rfl (.cons rfl (.cons rfl (.cons rfl (.cons rfl .nil))))))))))) ?_
          refine ends_then ?_
          -- region 22
          refine cw_region ?_
          refine lw_v rfl rfl (ok_addi rfl (.n rfl) rfl rfl (fun _ => ⟨by omega, by omega⟩)) ?_
          refine lw_v rfl rfl (ok_move rfl (.n rfl) rfl) ?_
          refine lw_nil ?_
          -- BACK
          refine ends_back (j + 1) (.cons rfl (.cons rfl (.cons rfl (.cons rfl (.cons rfl (.cons rfl (.cons rfl (.cons rfl (.cons rfl (.cons rfl (.cons rfl .nil))))))))))) ⟨by omega, m2 + 1, _, by omega, mem_step hf2 hlt', hS⟩ (by omega)
        ·
          have hjn : j = (steepL C R (H.set (u : Int).toNat (if (C.N : Int) < m0 + 1 then (C.N : Int) else m0 + 1))).length := by have := of_decide_eq_false h133; omega
          rw [hjn, List.take_length] at hf2
          refine cw_exit ?_
          refine then_exit (then_exit (in_exit (?_)))
          refine Ends.keep [(2, .eq _), (9, .eq _), (10, .eq _), (11, .eq _), (13, .eq _), (15, .eq _), (18, .eq _), (19, .eq _)] (.cons rfl (.cons rfl (.cons rfl (.cons rfl (.cons rfl (.cons rfl (.cons rfl (.cons rfl .nil)))))))) ?_
          refine ends_then ?_
          refine cw_seq ?_
          -- region 23
          refine cw_region ?_
          refine lw_v rfl rfl (ok_assign rfl (.n rfl) rfl) ?_
          refine lw_nil ?_
          refine Ends.keep [(2, .eq _), (9, .eq _), (10, .eq _), (11, .eq _), (13, .eq _), (15, .eq _), (18, .eq _), (19, .eq _), (22, .eq _)] (.cons rfl (.cons rfl (.cons rfl (.cons rfl (.cons rfl (.cons rfl (.cons rfl (.cons rfl (.cons rfl .nil))))))))) ?_
          refine ends_then ?_
          refine cw_seq ?_
          refine cw_seq ?_
          -- region 24
          refine cw_region ?_
          refine lw_v rfl rfl (ok_ldS rfl (.n rfl) rfl Try.isAgg29 Try.sizeOf29 hS rfl) ?_
          refine lw_v rfl rfl (ok_move rfl (.n rfl) rfl) ?_
          refine lw_v rfl rfl (ok_move rfl (.n rfl) rfl) ?_
          refine lw_call (f := 33) (xs := [_, _, _]) rfl rfl rfl Try.call33 rfl (Calls.mono (f33g C q R (H.set (u : Int).toNat (if (C.N : Int) < m0 + 1 then (C.N : Int) else m0 + 1)) A6 c6 A117 c117 _ hwf (hS.cs q) (hS.rd A6 (by omega)) (hS.rd A117 (by omega))) ?_)
          rintro e w' ⟨A142, c142, rfl, hg, hfr, ho⟩
          replace hS := hS.new hg _ ho hfr; clear hg ho hfr
          replace hS := hS.freeze .here (by omega)
          refine ⟨_, rfl, ?_⟩
          refine lw_v rfl rfl (ok_len rfl (.n rfl) Try.underlying26 rfl) ?_
          refine lw_v rfl rfl (ok_move rfl (.n rfl) rfl) ?_
          refine lw_nil ?_
          refine Ends.keep [(2, .eq _), (9, .eq _), (10, .eq _), (11, .eq _), (13, .eq _), (15, .eq _), (18, .eq _), (19, .eq _), (22, .eq _), (142, .eq _), (143, .eq _), (144, .eq _)] (.cons rfl (.cons rfl (.cons rfl (.cons rfl (.cons rfl (.cons rfl (.cons rfl (.cons rfl (.cons rfl (.cons rfl (.cons rfl (.cons rfl .nil)))))))))))) ?_
          refine ends_then ?_
          refine cw_block ?_
          -- LOOP at region 25: changed live slots [22, 144], kept [2, 9, 10, 11, 13, 15, 18, 19, 142, 143]
          refine cw_loop2 [(2, .eq _), (9, .eq _), (10, .eq _), (11, .eq _), (13, .eq _), (15, .eq _), (18, .eq _), (19, .eq _), (142, .eq _), (143, .eq _)] (fun (j : Nat) (fl : Bool) => [(22, .eq (.bool fl)), (144, .eq (.int .i64 j))]) (fun j fl w' => (j ≤ (flatL C R (H.set (u : Int).toNat (if (C.N : Int) < m0 + 1 then (C.N : Int) else m0 + 1))).length ∧ fl = (((flatL C R (H.set (u : Int).toNat (if (C.N : Int) < m0 + 1 then (C.N : Int) else m0 + 1))).take j).any fun x => decide (C.First.getD u 0 ≤ x) && decide (x < C.First.getD (u + 1) 0))) ∧ St w.heap.size w w' [sl (eInt .i64) 1 A142 (flatL C R (H.set (u : Int).toNat (if (C.N : Int) < m0 + 1 then (C.N : Int) else m0 + 1))).length c142 (flatL C R (H.set (u : Int).toNat (if (C.N : Int) < m0 + 1 then (C.N : Int) else m0 + 1))), sl (eInt .i64) 1 A130 (steepL C R (H.set (u : Int).toNat (if (C.N : Int) < m0 + 1 then (C.N : Int) else m0 + 1))).length c130 (steepL C R (H.set (u : Int).toNat (if (C.N : Int) < m0 + 1 then (C.N : Int) else m0 + 1))), mp m126 m2 f2, own (eInt .i64) 1 3 A117 H.length c117 (H.set (u : Int).toNat (if (C.N : Int) < m0 + 1 then (C.N : Int) else m0 + 1)), sl (eInt .i64) 1 A106 (steepL C R H).length c106 (steepL C R H), mp m102 m f, sl (eInt .i64) 1 AH H.length cH H, bx b9 (csV C q).cells.toList 29, own (eInt .i64) 1 2 A6 R.length c6 R, sl (eInt .i64) 1 q.a0 C.First.length q.c0 C.First, sl (eInt .i64) 1 q.a1 C.Head.length q.c1 C.Head, sl (eInt .i64) 1 q.a2 C.Rev.length q.c2 C.Rev, sl (eInt .i64) 1 q.a3 C.Cap.length q.c3 C.Cap, sl (eInt .i64) 1 q.a4 C.Arc.length q.c4 C.Arc, sl eBool 1 q.a5 C.Back.length q.c5 C.Back, sl (eInt .i64) 1 A2 h.length c2 h, sl (eInt .i64) 1 A1 l.length c1 l, sl eArc 3 A n.arcs.length c n.arcs]) (fun j _ => (flatL C R (H.set (u : Int).toNat (if (C.N : Int) < m0 + 1 then (C.N : Int) else m0 + 1))).length - j) 0 false (.cons rfl (.cons rfl (.cons rfl (.cons rfl (.cons rfl (.cons rfl (.cons rfl (.cons rfl (.cons rfl (.cons rfl .nil)))))))))) (.cons rfl (.cons rfl (.cons rfl (.cons rfl (.cons rfl (.cons rfl (.cons rfl (.cons rfl (.cons rfl (.cons rfl (.cons rfl (.cons rfl .nil)))))))))))) ⟨⟨Nat.zero_le _, rfl⟩, hS⟩ ?_
          clear hS
          rintro j fl wr ⟨⟨hj, hfl3⟩, hS⟩
          refine cw_seq ?_
          -- region 25
          refine cw_region ?_
          refine lw_v rfl rfl (ok_lss rfl (.n rfl) rfl rfl) ?_
          refine lw_nil ?_
          refine Ends.keep [(2, .eq _), (9, .eq _), (10, .eq _), (11, .eq _), (13, .eq _), (15, .eq _), (18, .eq _), (19, .eq _), (22, .eq _), (142, .eq _), (143, .eq _), (144, .eq _), (145, .eq _)] (.cons rfl (.cons rfl (.cons rfl (.cons rfl (.cons rfl (.cons rfl (.cons rfl (.cons rfl (.cons rfl (.cons rfl (.cons rfl (.cons rfl (.cons rfl .nil))))))))))))) ?_
          refine ends_then ?_
          refine cw_seq ?_
          refine cw_cond rfl (fun h145 => ?_) (fun h145 => ?_)
          ·
            have hlt' : j < (flatL C R (H.set (u : Int).toNat (if (C.N : Int) < m0 + 1 then (C.N : Int) else m0 + 1))).length := by have := of_decide_eq_true h145; omega
            have hkr := downL_rng (getD_memI hlt')
            have hkr' : 0 ≤ (flatL C R (H.set (u : Int).toNat (if (C.N : Int) < m0 + 1 then (C.N : Int) else m0 + 1))).getD (j : Int).toNat 0 ∧ (flatL C R (H.set (u : Int).toNat (if (C.N : Int) < m0 + 1 then (C.N : Int) else m0 + 1))).getD (j : Int).toNat 0 < C.Head.length := hkr
            refine cw_skip ?_
            refine ends_then ?_
            refine cw_seq ?_
            refine cw_block ?_
            refine cw_seq ?_
            -- region 26
            refine cw_region ?_
            refine lw_v rfl rfl (ok_ix rfl (.n rfl) Try.underlying26 Try.sizeOf3 rfl rfl hS (fun _ => ⟨by omega, by omega⟩)) ?_
            refine lw_v rfl rfl (ok_ldx rfl (.n rfl) rfl Try.isAgg3 hS (fun _ => ⟨by omega, by omega⟩) (by rfl)) ?_
            refine lw_v rfl rfl (ok_assign rfl (.n rfl) rfl) ?_
            refine lw_nil ?_
            refine Ends.keep [(2, .eq _), (9, .eq _), (10, .eq _), (11, .eq _), (13, .eq _), (15, .eq _), (18, .eq _), (19, .eq _), (22, .eq _), (24, .eq _), (142, .eq _), (143, .eq _), (144, .eq _)] (.cons rfl (.cons rfl (.cons rfl (.cons rfl (.cons rfl (.cons rfl (.cons rfl (.cons rfl (.cons rfl (.cons rfl (.cons rfl (.cons rfl (.cons rfl .nil))))))))))))) ?_
            refine ends_then ?_
            -- region 27
            refine cw_region ?_
            refine lw_v rfl rfl (ok_move rfl (.n rfl) rfl) ?_
            refine lw_v rfl rfl (ok_move rfl (.n rfl) rfl) ?_
            refine lw_v rfl rfl (ok_move rfl (.s rfl rfl) rfl) ?_
            refine lw_v rfl rfl (ok_fb rfl (.s rfl rfl) Try.underlying29 rfl Try.sizeOf26 (by decide) rfl) ?_
            refine lw_v rfl rfl (ok_ldb rfl (.s rfl rfl) rfl Try.isAgg26 hS (by rfl)) ?_
            refine lw_v rfl rfl (ok_move rfl (.s rfl rfl) rfl) ?_
            refine lw_v rfl rfl (ok_ix rfl (.s rfl rfl) Try.underlying26 Try.sizeOf3 rfl rfl hS (fun _ => ⟨by omega, by omega⟩)) ?_
            refine lw_v rfl rfl (ok_ldx rfl (.s rfl rfl) rfl Try.isAgg3 hS (fun _ => ⟨by omega, by omega⟩) (by rfl)) ?_
            refine lw_v rfl rfl (ok_geq rfl (.s rfl rfl) rfl rfl) ?_
            refine lw_v rfl rfl (ok_move rfl (.s rfl rfl) rfl) ?_
            refine lw_v rfl rfl (ok_move rfl (.s rfl rfl) rfl) ?_
            refine lw_v rfl rfl (ok_fb rfl (.s rfl rfl) Try.underlying29 rfl Try.sizeOf26 (by decide) rfl) ?_
            refine lw_v rfl rfl (ok_ldb rfl (.s rfl rfl) rfl Try.isAgg26 hS (by rfl)) ?_
            refine lw_v rfl rfl (ok_move rfl (.s rfl rfl) rfl) ?_
            refine lw_v rfl rfl (ok_addi rfl (.s rfl rfl) rfl rfl (fun _ => ⟨by omega, by omega⟩)) ?_
            refine lw_v rfl rfl (ok_ix rfl (.s rfl rfl) Try.underlying26 Try.sizeOf3 rfl rfl hS (fun _ => ⟨by omega, by omega⟩)) ?_
            refine lw_v rfl rfl (ok_ldx rfl (.s rfl rfl) rfl Try.isAgg3 hS (fun _ => ⟨by omega, by omega⟩) (by rfl)) ?_
            refine lw_v rfl rfl (ok_lss rfl (.s rfl rfl) rfl rfl) ?_
            refine lw_v rfl rfl (ok_andg rfl (.s rfl rfl) rfl rfl) ?_
            refine lw_v rfl rfl (ok_or rfl rfl rfl rfl) ?_
            refine lw_v rfl rfl (ok_assign rfl (.n rfl) rfl) ?_
            refine lw_nil ?_
            refine in_normal (?_)
            refine Ends.keep [(2, .eq _), (9, .eq _), (10, .eq _), (11, .eq _), (13, .eq _), (15, .eq _), (18, .eq _), (19, .eq _), (22, .eq _), (142, .eq _), (143, .eq _), (144, .eq _)] (.cons rfl (.cons rfl (.cons rfl (.cons rfl (.cons rfl (.cons rfl (.cons rfl (.cons rfl (.cons rfl (.cons rfl (.cons rfl (.cons rfl .nil)))))))))))) ?_
            refine ends_then ?_
            -- region 28
            refine cw_region ?_
            refine lw_v rfl rfl (ok_addi rfl (.n rfl) rfl rfl (fun _ => ⟨by omega, by omega⟩)) ?_
            refine lw_v rfl rfl (ok_move rfl (.n rfl) rfl) ?_
            refine lw_nil ?_
            -- BACK
            refine ends_back2 (j + 1) _ (.cons rfl (.cons rfl (.cons rfl (.cons rfl (.cons rfl (.cons rfl (.cons rfl (.cons rfl (.cons rfl (.cons rfl (.cons rfl (.cons rfl .nil)))))))))))) ⟨⟨by omega, any_step hfl3 hlt'⟩, hS⟩ (by omega)
          ·
            have hjn3 : j = (flatL C R (H.set (u : Int).toNat (if (C.N : Int) < m0 + 1 then (C.N : Int) else m0 + 1))).length := by have := of_decide_eq_false h145; omega
            rw [hjn3, List.take_length] at hfl3
            refine cw_exit ?_
            refine then_exit (then_exit (in_exit (?_)))
            refine Ends.keep [(2, .eq _), (9, .eq _), (10, .eq _), (11, .eq _), (13, .eq _), (15, .eq _), (18, .eq _), (19, .eq _), (22, .eq _)] (.cons rfl (.cons rfl (.cons rfl (.cons rfl (.cons rfl (.cons rfl (.cons rfl (.cons rfl (.cons rfl .nil))))))))) ?_
            refine ends_then ?_
            refine cw_seq ?_
            refine cw_seq ?_
            -- region 29
            refine cw_region ?_
            refine lw_v rfl rfl (ok_move rfl (.n rfl) rfl) ?_
            refine lw_v rfl rfl (ok_len rfl (.n rfl) Try.underlying25 rfl) ?_
            refine lw_v rfl rfl (ok_move rfl (.n rfl) rfl) ?_
            refine lw_nil ?_
            refine Ends.keep [(2, .eq _), (9, .eq _), (11, .eq _), (13, .eq _), (15, .eq _), (18, .eq _), (19, .eq _), (22, .eq _), (170, .eq _), (171, .eq _)] (.cons rfl (.cons rfl (.cons rfl (.cons rfl (.cons rfl (.cons rfl (.cons rfl (.cons rfl (.cons rfl (.cons rfl .nil)))))))))) ?_
            refine ends_then ?_
            refine cw_block ?_
            -- LOOP at region 30: changed live slots [171], kept [2, 9, 11, 13, 15, 18, 19, 22, 170]
            refine cw_loop [(2, .eq _), (9, .eq _), (11, .eq _), (13, .eq _), (15, .eq _), (18, .eq _), (19, .eq _), (22, .eq _), (170, .eq _)] (fun k : Nat => [(171, .eq (.int .i64 k))]) (fun k w' => k ≤ R.length ∧ St w.heap.size w w' [sl (eInt .i64) 1 A142 (flatL C R (H.set (u : Int).toNat (if (C.N : Int) < m0 + 1 then (C.N : Int) else m0 + 1))).length c142 (flatL C R (H.set (u : Int).toNat (if (C.N : Int) < m0 + 1 then (C.N : Int) else m0 + 1))), sl (eInt .i64) 1 A130 (steepL C R (H.set (u : Int).toNat (if (C.N : Int) < m0 + 1 then (C.N : Int) else m0 + 1))).length c130 (steepL C R (H.set (u : Int).toNat (if (C.N : Int) < m0 + 1 then (C.N : Int) else m0 + 1))), mp m126 m2 f2, own (eInt .i64) 1 3 A117 H.length c117 (H.set (u : Int).toNat (if (C.N : Int) < m0 + 1 then (C.N : Int) else m0 + 1)), sl (eInt .i64) 1 A106 (steepL C R H).length c106 (steepL C R H), mp m102 m f, sl (eInt .i64) 1 AH H.length cH H, bx b9 (csV C q).cells.toList 29, own (eInt .i64) 1 2 A6 R.length c6 R, sl (eInt .i64) 1 q.a0 C.First.length q.c0 C.First, sl (eInt .i64) 1 q.a1 C.Head.length q.c1 C.Head, sl (eInt .i64) 1 q.a2 C.Rev.length q.c2 C.Rev, sl (eInt .i64) 1 q.a3 C.Cap.length q.c3 C.Cap, sl (eInt .i64) 1 q.a4 C.Arc.length q.c4 C.Arc, sl eBool 1 q.a5 C.Back.length q.c5 C.Back, sl (eInt .i64) 1 A2 h.length c2 h, sl (eInt .i64) 1 A1 l.length c1 l, sl eArc 3 A n.arcs.length c n.arcs]) (fun k => R.length - k) 0 (.cons rfl (.cons rfl (.cons rfl (.cons rfl (.cons rfl (.cons rfl (.cons rfl (.cons rfl (.cons rfl .nil))))))))) (.cons rfl (.cons rfl (.cons rfl (.cons rfl (.cons rfl (.cons rfl (.cons rfl (.cons rfl (.cons rfl (.cons rfl .nil)))))))))) ⟨Nat.zero_le _, hS⟩ ?_
            clear hS
            rintro k wr ⟨hk, hS⟩
            refine cw_seq ?_
            -- region 30
            refine cw_region ?_
            refine lw_v rfl rfl (ok_lss rfl (.n rfl) rfl rfl) ?_
            refine lw_nil ?_
            refine Ends.keep [(2, .eq _), (9, .eq _), (11, .eq _), (13, .eq _), (15, .eq _), (18, .eq _), (19, .eq _), (22, .eq _), (170, .eq _), (171, .eq _), (172, .eq _)] (.cons rfl (.cons rfl (.cons rfl (.cons rfl (.cons rfl (.cons rfl (.cons rfl (.cons rfl (.cons rfl (.cons rfl (.cons rfl .nil))))))))))) ?_
            refine ends_then ?_
            refine cw_seq ?_
            refine cw_cond rfl (fun h172 => ?_) (fun h172 => ?_)
            ·
              have hkl : k < C.Head.length := by have := of_decide_eq_true h172; omega
              obtain ⟨hkh0, hkh1⟩ := hwf.hd k hkl
              refine cw_skip ?_
              refine ends_then ?_
              refine cw_seq ?_
              refine cw_block ?_
              refine cw_seq ?_
              -- region 31
              refine cw_region ?_
              refine lw_v rfl rfl (ok_move rfl (.n rfl) rfl) ?_
              refine lw_v rfl rfl (ok_assign rfl (.n rfl) rfl) ?_
              refine lw_nil ?_
              refine Ends.keep [(2, .eq _), (9, .eq _), (11, .eq _), (13, .eq _), (15, .eq _), (18, .eq _), (19, .eq _), (22, .eq _), (25, .eq _), (170, .eq _), (171, .eq _)] (.cons rfl (.cons rfl (.cons rfl (.cons rfl (.cons rfl (.cons rfl (.cons rfl (.cons rfl (.cons rfl (.cons rfl (.cons rfl .nil))))))))))) ?_
              refine ends_then ?_
              refine cw_seq ?_
              -- region 32
              refine cw_region ?_
              refine lw_v rfl rfl (ok_move rfl (.n rfl) rfl) ?_
              refine lw_v rfl rfl (ok_fb rfl (.n rfl) Try.underlying29 rfl Try.sizeOf26 (by decide) rfl) ?_
              refine lw_v rfl rfl (ok_ldb rfl (.n rfl) rfl Try.isAgg26 hS (by rfl)) ?_
              refine lw_v rfl rfl (ok_move rfl (.n rfl) rfl) ?_
              refine lw_v rfl rfl (ok_ix rfl (.n rfl) Try.underlying26 Try.sizeOf3 rfl rfl hS (fun _ => ⟨by omega, by omega⟩)) ?_
              refine lw_v rfl rfl (ok_ldx rfl (.n rfl) rfl Try.isAgg3 hS (fun _ => ⟨by omega, by omega⟩) (by rfl)) ?_
              refine lw_v rfl rfl (ok_geq rfl (.n rfl) rfl rfl) ?_
              refine lw_v rfl rfl (ok_move rfl (.n rfl) rfl) ?_
              refine lw_v rfl rfl (ok_move rfl (.s rfl rfl) rfl) ?_
              refine lw_v rfl rfl (ok_fb rfl (.s rfl rfl) Try.underlying29 rfl Try.sizeOf26 (by decide) rfl) ?_
              refine lw_v rfl rfl (ok_ldb rfl (.s rfl rfl) rfl Try.isAgg26 hS (by rfl)) ?_
              refine lw_v rfl rfl (ok_move rfl (.s rfl rfl) rfl) ?_
              refine lw_v rfl rfl (ok_addi rfl (.s rfl rfl) rfl rfl (fun _ => ⟨by omega, by omega⟩)) ?_
              refine lw_v rfl rfl (ok_ix rfl (.s rfl rfl) Try.underlying26 Try.sizeOf3 rfl rfl hS (fun _ => ⟨by omega, by omega⟩)) ?_
              refine lw_v rfl rfl (ok_ldx rfl (.s rfl rfl) rfl Try.isAgg3 hS (fun _ => ⟨by omega, by omega⟩) (by rfl)) ?_
              refine lw_v rfl rfl (ok_lss rfl (.s rfl rfl) rfl rfl) ?_
              refine lw_v rfl rfl (ok_and rfl rfl rfl rfl) ?_
              refine lw_v rfl rfl (ok_assign rfl (.n rfl) rfl) ?_
              refine lw_nil ?_
              refine Ends.keep [(2, .eq _), (9, .eq _), (11, .eq _), (13, .eq _), (15, .eq _), (18, .eq _), (19, .eq _), (22, .eq _), (25, .eq _), (26, .eq _), (170, .eq _), (171, .eq _)] (.cons rfl (.cons rfl (.cons rfl (.cons rfl (.cons rfl (.cons rfl (.cons rfl (.cons rfl (.cons rfl (.cons rfl (.cons rfl (.cons rfl .nil)))))))))))) ?_
              refine ends_then ?_
              refine cw_block ?_
              refine cw_seq ?_
              refine cw_seq ?_
              -- region 33
              refine cw_region ?_
              refine lw_v rfl rfl (ok_move rfl (.n rfl) rfl) ?_
              refine lw_v rfl rfl (ok_move rfl (.n rfl) rfl) ?_
              refine lw_v rfl rfl (ok_move rfl (.s rfl rfl) rfl) ?_
              refine lw_v rfl rfl (ok_move rfl (.s rfl rfl) rfl) ?_
              refine lw_v rfl rfl (ok_lookup rfl (.s rfl rfl) Try.underlying43 rfl rfl hS (fun _ => ⟨by omega, by omega⟩)) ?_
              refine lw_v rfl rfl (ok_eql rfl (.s rfl rfl) rfl rfl) ?_
              refine lw_v rfl rfl (ok_and rfl rfl rfl rfl) ?_
              refine lw_v rfl rfl (ok_assign rfl (.n rfl) rfl) ?_
              refine lw_nil ?_
              refine Ends.keep [(2, .eq _), (9, .eq _), (11, .eq _), (13, .eq _), (15, .eq _), (18, .eq _), (19, .eq _), (22, .eq _), (25, .eq _), (26, .eq _), (170, .eq _), (171, .eq _), (191, .eq _)] (.cons rfl (.cons rfl (.cons rfl (.cons rfl (.cons rfl (.cons rfl (.cons rfl (.cons rfl (.cons rfl (.cons rfl (.cons rfl (.cons rfl (.cons rfl .nil))))))))))))) ?_
              refine ends_then ?_
              refine cw_cond rfl (fun h191a => ?_) (fun h191a => ?_)
              ·
                refine cw_skip ?_
                refine ends_then ?_
                refine cw_cond rfl (fun h191b => ?_) (fun h191b => ?_)
                ·
                  exact (raise_dead1 hwf hm huN huS huT hz0 hz1 hz2 hall hkl (hf2 k) h191b).elim
                ·
                  rw [h191b] at h191a; cases h191a
              ·
                refine cw_seq ?_
                -- region 34
                refine cw_region ?_
                refine lw_v rfl rfl (ok_move rfl (.n rfl) rfl) ?_
                refine lw_v rfl rfl (ok_not rfl (.n rfl) rfl) ?_
                refine lw_v rfl rfl (ok_move rfl (.n rfl) rfl) ?_
                refine lw_v rfl rfl (ok_fb rfl (.s rfl rfl) Try.underlying29 rfl Try.sizeOf26 (by decide) rfl) ?_
                refine lw_v rfl rfl (ok_ldb rfl (.s rfl rfl) rfl Try.isAgg26 hS (by rfl)) ?_
                refine lw_v rfl rfl (ok_move rfl (.s rfl rfl) rfl) ?_
                refine lw_v rfl rfl (ok_ix rfl (.s rfl rfl) Try.underlying26 Try.sizeOf3 rfl rfl hS (fun _ => ⟨by omega, by omega⟩)) ?_
                refine lw_v rfl rfl (ok_ldx rfl (.s rfl rfl) rfl Try.isAgg3 hS (fun _ => ⟨by omega, by omega⟩) (by rfl)) ?_
                refine lw_v rfl rfl (ok_move rfl (.s rfl rfl) rfl) ?_
                refine lw_v rfl rfl (ok_neq rfl (.s rfl rfl) rfl rfl) ?_
                refine lw_v rfl rfl (ok_and rfl rfl rfl rfl) ?_
                refine lw_v rfl rfl (ok_move rfl (.n rfl) rfl) ?_
                refine lw_v rfl rfl (ok_move rfl (.s rfl rfl) rfl) ?_
                refine lw_v rfl rfl (ok_move rfl (.s rfl rfl) rfl) ?_
                refine lw_v rfl rfl (ok_lookup rfl (.s rfl rfl) Try.underlying43 rfl rfl hS (fun _ => ⟨by omega, by omega⟩)) ?_
                refine lw_v rfl rfl (ok_move rfl (.s rfl rfl) rfl) ?_
                refine lw_v rfl rfl (ok_move rfl (.s rfl rfl) rfl) ?_
                refine lw_v rfl rfl (ok_lookup rfl (.s rfl rfl) Try.underlying43 rfl rfl hS (fun _ => ⟨by omega, by omega⟩)) ?_
                refine lw_v rfl rfl (ok_neq rfl (.s rfl rfl) rfl rfl) ?_
                refine lw_v rfl rfl (ok_and rfl rfl rfl rfl) ?_
                refine lw_v rfl rfl (ok_assign rfl (.n rfl) rfl) ?_
                refine lw_nil ?_
                refine Ends.keep [(2, .eq _), (9, .eq _), (11, .eq _), (13, .eq _), (15, .eq _), (18, .eq _), (19, .eq _), (22, .eq _), (25, .eq _), (26, .eq _), (170, .eq _), (171, .eq _), (191, .eq _)] (.cons rfl (.cons rfl (.cons rfl (.cons rfl (.cons rfl (.cons rfl (.cons rfl (.cons rfl (.cons rfl (.cons rfl (.cons rfl (.cons rfl (.cons rfl .nil))))))))))))) ?_
                refine ends_then ?_
                refine cw_cond rfl (fun h191c => ?_) (fun h191c => ?_)
                ·
                  refine cw_skip ?_
                  refine ends_then ?_
                  refine cw_cond rfl (fun h191d => ?_) (fun h191d => ?_)
                  ·
                    exact (raise_dead2 hwf hm huN huS huT hz0 hz1 hkl (hf k) (hf2 k) h191d).elim
                  ·
                    rw [h191d] at h191c; cases h191c
                ·
                  -- region 35
                  refine cw_draw (by kernel_rfl) (List.take 31 _) (List.drop 31 _) (List.take_append_drop 31 _).symm (by kernel_rfl) ?_
                  refine free_v (ok_move rfl (.n rfl) rfl) ?_
                  refine free_v (ok_not rfl (.n rfl) rfl) ?_
                  refine free_v (ok_move rfl (.n rfl) rfl) ?_
                  refine free_v (ok_fb rfl (.s rfl rfl) Try.underlying29 rfl Try.sizeOf26 (by decide) rfl) ?_
                  refine free_v (ok_ldb rfl (.s rfl rfl) rfl Try.isAgg26 hS (by rfl)) ?_
                  refine free_v (ok_move rfl (.s rfl rfl) rfl) ?_
                  refine free_v (ok_ix rfl (.s rfl rfl) Try.underlying26 Try.sizeOf3 rfl rfl hS (fun _ => ⟨by omega, by omega⟩)) ?_
                  refine free_v (ok_ldx rfl (.s rfl rfl) rfl Try.isAgg3 hS (fun _ => ⟨by omega, by omega⟩) (by rfl)) ?_
                  refine free_v (ok_move rfl (.s rfl rfl) rfl) ?_
                  refine free_v (ok_eql rfl (.s rfl rfl) rfl rfl) ?_
                  refine free_v (ok_and rfl rfl rfl rfl) ?_
                  refine free_v (ok_move rfl (.n rfl) rfl) ?_
                  refine free_v (ok_move rfl (.s rfl rfl) rfl) ?_
                  refine free_v (ok_move rfl (.s rfl rfl) rfl) ?_
                  refine free_v (ok_ix rfl (.s rfl rfl) Try.underlying26 Try.sizeOf3 rfl rfl hS (fun _ => ⟨by omega, by omega⟩)) ?_
                  refine free_v (ok_ldx rfl (.s rfl rfl) rfl Try.isAgg3 hS (fun _ => ⟨by omega, by omega⟩) (by rfl)) ?_
                  refine free_v (ok_move rfl (.s rfl rfl) rfl) ?_
                  refine free_v (ok_move rfl (.s rfl rfl) rfl) ?_
                  refine free_v (ok_ix rfl (.s rfl rfl) Try.underlying26 Try.sizeOf3 rfl rfl hS (fun _ => ⟨by omega, by omega⟩)) ?_
                  refine free_v (ok_ldx rfl (.s rfl rfl) rfl Try.isAgg3 hS (fun _ => ⟨by omega, by omega⟩) (by rfl)) ?_
                  refine free_v (ok_geq rfl (.s rfl rfl) rfl rfl) ?_
                  refine free_v (ok_and rfl rfl rfl rfl) ?_
                  refine free_v (ok_move rfl (.n rfl) rfl) ?_
                  refine free_v (ok_move rfl (.s rfl rfl) rfl) ?_
                  refine free_v (ok_move rfl (.s rfl rfl) rfl) ?_
                  refine free_v (ok_lookup rfl (.s rfl rfl) Try.underlying43 rfl rfl hS (fun _ => ⟨by omega, by omega⟩)) ?_
                  refine free_v (ok_eql rfl (.s rfl rfl) rfl rfl) ?_
                  refine free_v (ok_and rfl rfl rfl rfl) ?_
                  refine free_v (ok_move rfl (.n rfl) rfl) ?_
                  refine free_v (ok_move rfl (.s rfl rfl) rfl) ?_
                  refine free_v (ok_move rfl (.s rfl rfl) rfl) ?_
                  refine free_nil ?_
                  intro w10 hg_; replace hS := hS.grow hg_; clear hg_
                  refine lw_v rfl rfl (ok_lookup rfl (.s rfl rfl) Try.underlying43 rfl rfl hS (fun _ => ⟨by omega, by omega⟩)) ?_
                  refine lw_v rfl rfl (ok_eql rfl (.s rfl rfl) rfl rfl) ?_
                  refine lw_v rfl rfl (ok_and rfl rfl rfl rfl) ?_
                  refine lw_v rfl rfl (ok_assign rfl (.n rfl) rfl) ?_
                  refine lw_nil ?_
                  refine Ends.keep [(2, .eq _), (9, .eq _), (11, .eq _), (13, .eq _), (15, .eq _), (18, .eq _), (19, .eq _), (22, .eq _), (170, .eq _), (171, .eq _), (191, .eq _)] (.cons rfl (.cons rfl (.cons rfl (.cons rfl (.cons rfl (.cons rfl (.cons rfl (.cons rfl (.cons rfl (.cons rfl (.cons rfl .nil))))))))))) ?_
                  refine ends_then ?_
                  refine cw_cond rfl (fun h191e => ?_) (fun h191e => ?_)
                  ·
                    exact (raise_dead3 hwf hm huN huS huT hz0 hz1 hkl (hf k) (hf2 k) h191e).elim
                  ·
                    refine cw_skip ?_
                    refine in_normal (in_normal (?_))
                    refine ends_then ?_
                    -- region 37
                    refine cw_region ?_
                    refine lw_v rfl rfl (ok_addi rfl (.n rfl) rfl rfl (fun _ => ⟨by omega, by omega⟩)) ?_
                    refine lw_v rfl rfl (ok_move rfl (.n rfl) rfl) ?_
                    refine lw_nil ?_
                    -- BACK
                    refine ends_back (k + 1) (.cons rfl (.cons rfl (.cons rfl (.cons rfl (.cons rfl (.cons rfl (.cons rfl (.cons rfl (.cons rfl (.cons rfl .nil)))))))))) ⟨by omega, hS⟩ (by omega)
            ·
              have hfin : (fl || decide (m0 = (C.N : Int))) = true := by
                rw [Bool.or_eq_true, decide_eq_true_eq]
                by_cases hmN : (C.N : Int) < m0 + 1
                · right; rw [hme] at hmN ⊢; omega
                · left
                  rw [hfl3, if_neg hmN]
                  exact raise_flat hwf hm huN huS huT hop hme hmN (by rw [hme]; exact he0)
              refine cw_exit ?_
              refine then_exit (then_exit (in_exit (?_)))
              refine Ends.keep [(9, .eq _), (13, .eq _), (22, .eq _)] (.cons rfl (.cons rfl (.cons rfl .nil))) ?_
              refine ends_then ?_
              refine cw_seq ?_
              -- region 38
              refine cw_region ?_
              refine lw_v rfl rfl (ok_move rfl (.n rfl) rfl) ?_
              refine lw_v rfl rfl (ok_move rfl (.n rfl) rfl) ?_
              refine lw_v rfl rfl (ok_move rfl (.s rfl rfl) rfl) ?_
              refine lw_v rfl rfl (ok_fb rfl (.s rfl rfl) Try.underlying29 rfl Try.sizeOf3 (by decide) rfl) ?_
              refine lw_v rfl rfl (ok_ldb rfl (.s rfl rfl) rfl Try.isAgg3 hS (by rfl)) ?_
              refine lw_v rfl rfl (ok_eql rfl (.s rfl rfl) rfl rfl) ?_
              refine lw_v rfl rfl (ok_eq (g := none) (ok_or rfl rfl rfl rfl) (c' := .bool true) (fun _ => congrArg Value.bool (hfin))) ?_
              refine lw_v rfl rfl (ok_move rfl (.n rfl) rfl) ?_
              refine lw_on (.s rfl rfl) rfl ?_
              refine lw_call (f := 39) (xs := []) rfl rfl rfl Try.call39 rfl (Calls.mono (f39 _) ?_)
              rintro e w' ⟨rfl, hg⟩
              replace hS := hS.grow hg; clear hg
              refine ⟨_, rfl, ?_⟩
              refine lw_v rfl rfl (ok_pick rfl rfl rfl rfl rfl) ?_
              refine lw_v rfl rfl (ok_assign rfl (.n rfl) rfl) ?_
              refine lw_nil ?_
              refine Ends.keep [(8, .eq _)] (.cons rfl .nil) ?_
              refine ends_then ?_
              refine cw_ret ?_
              exact end_ret (res1 Try.results4 rfl) ⟨rfl, hS.below⟩

end Go.Proofs.Ytnpgeohkmdcbkaa.Aq
