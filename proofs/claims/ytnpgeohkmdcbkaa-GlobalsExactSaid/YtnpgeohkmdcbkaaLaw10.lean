/- The walk of the law GlobalsExact. -/
import Derived.Test.YtnpgeohkmdcbkaaLaw22
namespace Go.Proofs.Ytnpgeohkmdcbkaa.Aq
open Go Go.RowKit

/-! The exact heights -/
theorem all_low {c : Cs} (hw : WF c) {res xs : List Int} (hl : res.length = c.Head.length) (hx : xs.length = c.N) (h : ∀ v, v < c.N → xs.getD v 0 = (c.N : Int)) : lowerL c res (xs.set (c.T : Int).toNat 0) = exactL c res := by
  have hh : ∀ v, v < c.N → (xs.set (c.T : Int).toNat 0).getD v 0 = hTo c.N c.T v := fun v hv => by
    rw [show (c.T : Int).toNat = c.T from rfl, set_get (by rw [hx]; exact hw.t)]
    unfold hTo
    split
    · rfl
    · exact h v hv
  have hr : RightH c (xs.set (c.T : Int).toNat 0) := top_right hw (by rw [List.length_set]; exact hx) hh
  exact lowerL_eq ((may_iff hw).2 ⟨hl, hr⟩) (low_congr (exactL_low c res) (fun v hv => (hh v hv).symm) fun _ _ _ _ => Iff.rfl)
theorem low_exact {c : Cs} (hw : WF c) {res L : List Int} {h : Nat → Int} (hL : Low c.N (EdgeS c res) h L) (hr : RightH c L) {v : Nat} (hv : v < c.N) : L.getD (v : Int).toNat 0 ≤ (exactL c res).getD (v : Int).toNat 0 := by
  refine (exactL_low c res).greatest (x := fun v => L.getD v 0) (fun u hu => ?_) hL.ok v hv
  unfold hTo
  split
  · rename_i e; rw [e, hr.t]; exact Int.le_refl _
  · exact (hr.rng u hu).2
def NewH (w0 : World) (C : Cs) (v : Value) (w : World) : Prop := ∃ H A c, RightH C H ∧ v = .slice A H.length c ∧ (own (eInt .i64) 1 3 A H.length c H).p w ∧ ∀ b, (own (eInt .i64) 1 3 A H.length c H).fp b → w0.heap.size ≤ b

set_option maxHeartbeats 2000000 in
set_option maxRecDepth 10000 in
/-- acequialaw20.GlobalsExact. -/
theorem f10 (n : Nt) (A : Option Addr) (c : Nat) (l : List Int) (A1 : Option Addr) (c1 : Nat) (h : List Int) (A2 : Option Addr) (c2 : Nat) (x3 x4 : Int) (w : World) (ha : (sl eArc 3 A n.arcs.length c n.arcs).p w) (hrgn : (-9223372036854775808 ≤ n.N ∧ n.N ≤ 9223372036854775807) ∧ (-9223372036854775808 ≤ n.S ∧ n.S ≤ 9223372036854775807) ∧ (-9223372036854775808 ≤ n.T ∧ n.T ≤ 9223372036854775807) ∧ ∀ a ∈ n.arcs, -9223372036854775808 ≤ a.1 ∧ a.1 ≤ 9223372036854775807 ∧ -9223372036854775808 ≤ a.2.1 ∧ a.2.1 ≤ 9223372036854775807 ∧ -9223372036854775808 ≤ a.2.2 ∧ a.2.2 ≤ 9223372036854775807) (hl : (sl (eInt .i64) 1 A1 l.length c1 l).p w) (hrgl : ∀ x ∈ l, -9223372036854775808 ≤ x ∧ x ≤ 9223372036854775807) (hh : (sl (eInt .i64) 1 A2 h.length c2 h).p w) (hrgh : ∀ x ∈ h, -9223372036854775808 ≤ x ∧ x ≤ 9223372036854775807) (hx3 : 0 ≤ x3 ∧ x3 ≤ 255) (hx4 : 0 ≤ x4 ∧ x4 ≤ 255) :
    Calls Try.prog 10 #[netV n A c, .slice A1 l.length c1, .slice A2 h.length c2, .int .u8 x3, .int .u8 x4] w fun e w' => e = .returned (.bool true) ∧ Gr w w' := by
  refine calls_cw Try.func10 rfl Try.ntmps10 rfl ?_
  have hS := (((St.start w).args (Nat.le_refl _) _ ha rfl).args (Nat.le_refl _) _ hl rfl).args (Nat.le_refl _) _ hh rfl
  have hx0 : 0 ≤ x3.tmod 64 := Int.tmod_nonneg 64 hx3.1
  have hx1 : x3.tmod 64 < 64 := Int.tmod_lt_of_pos x3 (by decide)
  have hy0 : 0 ≤ x4.tmod 64 := Int.tmod_nonneg 64 hx4.1
  have hy1 : x4.tmod 64 < 64 := Int.tmod_lt_of_pos x4 (by decide)
  have hhl := hh.2.1
  refine cw_seq ?_
  -- region 0
  refine cw_region ?_
  refine lw_box rfl rfl rfl rfl hS ?_
  clear hS; intro b5 w1 _ _ hS
  refine lw_v rfl rfl (ok_assign rfl (.n rfl) rfl) ?_
  refine lw_nil ?_
  refine Ends.keep [(1, .eq _), (2, .eq _), (3, .eq _), (4, .eq _), (5, .eq _)] (.cons rfl (.cons rfl (.cons rfl (.cons rfl (.cons rfl .nil))))) ?_
  refine ends_then ?_
  refine cw_seq ?_
  -- region 1
  refine cw_region ?_
  refine lw_v rfl rfl (ok_ldS rfl (.n rfl) rfl Try.isAgg24 Try.sizeOf24 hS rfl) ?_
  refine lw_call (f := 24) (xs := [_, _, _]) rfl rfl rfl Try.call24 rfl (Calls.mono (f24a n A c _ (hS.rd A (by have := ha.2.1; omega)) hrgn) ?_)
  rintro e w' ⟨n1, AS, cS, hok, rfl, hg, hfr, ho⟩
  replace hS := hS.new hg _ ho hfr; clear hg ho hfr
  refine ⟨_, rfl, ?_⟩
  refine lw_v rfl rfl (ok_move rfl (.n rfl) rfl) ?_
  refine lw_call (f := 23) (xs := [_, _]) rfl rfl rfl Try.call23 rfl (Calls.mono (f23a n1 AS cS l A1 c1 _ hok (hS.rd AS (by have := hok.len; omega)) (hS.rd A1 hl.2.1) hl.2.1 hrgl) ?_)
  rintro e w' ⟨C, R, q, A6, c6, ⟨hwf, hro⟩, rfl, hg, hnew, hat, hfr, hap, ho⟩
  replace hS := hS.left hg hat hnew ho hfr hap; clear hg hnew hat hfr hap ho
  replace hS := hS.sub (.cons_cons _ (.cons_cons _ (.cons_cons _ (.cons_cons _ (.cons_cons _ (.cons_cons _ (.cons_cons _ (.cons _ (List.Sublist.refl _)))))))))
  have hM := hwf.m
  have hrlen := hro.len
  have hN := hwf.hi
  have hlo := hwf.lo
  have he1 : exactF C R (1 + x3.tmod 64) = (exactL C R) := exactF_yes (exOk_iff.2 ⟨hrlen, by omega, by omega⟩)
  have he2 : exactF C R (1 + x4.tmod 64) = (exactL C R) := exactF_yes (exOk_iff.2 ⟨hrlen, by omega, by omega⟩)
  have hDL := exactL_low C R
  have hDr := exact_right hwf hDL
  have hDl := hDL.len
  have htN := hwf.t
  refine ⟨_, rfl, ?_⟩
  refine lw_v rfl rfl (ok_move rfl (.n rfl) rfl) ?_
  refine lw_v rfl rfl (ok_extract rfl (.n rfl) rfl rfl) ?_
  refine lw_v rfl rfl (ok_extract rfl (.n rfl) rfl rfl) ?_
  refine lw_alloc rfl rfl rfl Try.zeroValue29 hS ?_
  clear hS; intro b11 w2 _ _ hS
  refine lw_stS rfl rfl rfl rfl rfl (by kernel_rfl) hS rfl (by rfl) (by rfl) ?_
  clear hS; intro w3 hS
  refine lw_v rfl rfl (ok_assign rfl (.n rfl) rfl) ?_
  refine lw_nil ?_
  refine Ends.keep [(2, .eq _), (3, .eq _), (4, .eq _), (11, .eq _), (12, .eq _)] (.cons rfl (.cons rfl (.cons rfl (.cons rfl (.cons rfl .nil))))) ?_
  refine ends_then ?_
  refine cw_seq ?_
  -- region 2
  refine cw_draw (by kernel_rfl) (List.take 13 _) (List.drop 13 _) (List.take_append_drop 13 _).symm (by kernel_rfl) ?_
  refine free_v (ok_ldS rfl (.n rfl) rfl Try.isAgg29 Try.sizeOf29 hS rfl) ?_
  refine free_v (ok_move rfl (.n rfl) rfl) ?_
  refine free_v (ok_move rfl (.n rfl) rfl) ?_
  refine free_v (ok_rem rfl (.n rfl) rfl rfl (fun _ => by omega)) ?_
  refine free_v (ok_eq (ok_conv rfl (.n rfl) Try.underlying5 Try.underlying3 rfl) (c' := .int .i64 (x3.tmod 64)) (fun _ => congrArg (Value.int .i64) (wrap_in ⟨by omega, by omega⟩))) ?_
  refine free_v (ok_addi rfl (.n rfl) rfl rfl (fun _ => ⟨by omega, by omega⟩)) ?_
  refine free_cons (ok_callL rfl rfl Try.call44 rfl (fun w' hg => f44L C q R A6 c6 (1 + x3.tmod 64) w' hwf ((hS.grow hg).cs q) ((hS.grow hg).rd A6 (by omega)))) ?_
  refine free_v (ok_ldS rfl (.n rfl) rfl Try.isAgg29 Try.sizeOf29 hS rfl) ?_
  refine free_v (ok_move rfl (.n rfl) rfl) ?_
  refine free_v (ok_move rfl (.n rfl) rfl) ?_
  refine free_v (ok_rem rfl (.n rfl) rfl rfl (fun _ => by omega)) ?_
  refine free_v (ok_eq (ok_conv rfl (.n rfl) Try.underlying5 Try.underlying3 rfl) (c' := .int .i64 (x4.tmod 64)) (fun _ => congrArg (Value.int .i64) (wrap_in ⟨by omega, by omega⟩))) ?_
  refine free_v (ok_addi rfl (.n rfl) rfl rfl (fun _ => ⟨by omega, by omega⟩)) ?_
  refine free_nil ?_
  intro wz hg_
  refine LW.opened (s := 32) rfl ?_
  rintro _ ⟨A32, c32, rfl, ho32, hf32⟩
  rw [he1, hDl] at ho32 hf32
  replace hS := (hS.new hg_ _ ho32 hf32).freeze .here (by omega); clear hg_ ho32 hf32
  rw [he1, hDl]
  refine lw_call (f := 44) (xs := [_, _, _]) rfl rfl rfl Try.call44 rfl (Calls.mono (f44 C q R A6 c6 (1 + x4.tmod 64) _ hwf (hS.cs q) (hS.rd A6 (by omega))) ?_)
  rintro e w' ⟨A39, c39, rfl, hg, hfr, ho, _⟩
  rw [he2, hDl] at hfr ho
  replace hS := hS.new hg _ ho hfr; clear hg ho hfr
  replace hS := hS.freeze .here (by omega)
  rw [he2, hDl]
  refine ⟨_, rfl, ?_⟩
  refine lw_v rfl rfl (ok_assign rfl (.n rfl) rfl) ?_
  refine lw_v rfl rfl (ok_assign rfl (.n rfl) rfl) ?_
  refine lw_nil ?_
  refine Ends.keep [(2, .eq _), (11, .eq _), (12, .eq _), (13, .eq _), (14, .eq _)] (.cons rfl (.cons rfl (.cons rfl (.cons rfl (.cons rfl .nil))))) ?_
  refine ends_then ?_
  refine cw_seq ?_
  refine cw_seq ?_
  -- region 3
  refine cw_region ?_
  refine lw_v rfl rfl (ok_move rfl (.n rfl) rfl) ?_
  refine lw_v rfl rfl (ok_move rfl (.n rfl) rfl) ?_
  refine lw_call (f := 30) (xs := [_, _]) rfl rfl rfl Try.call30 rfl (Calls.mono (f30s A32 c32 A39 c39 (exactL C R) _ (hS.rd A32 (by omega)) (hS.rd A39 (by omega))) ?_)
  rintro e w' ⟨rfl, hg⟩
  replace hS := hS.grow hg; clear hg
  refine ⟨_, rfl, ?_⟩
  refine lw_v rfl rfl (ok_eq (g := none) (ok_not rfl (.n rfl) rfl) (c' := .bool false) (fun _ => rfl)) ?_
  refine lw_v rfl rfl (ok_move rfl (.n rfl) rfl) ?_
  refine lw_on (.s rfl rfl) rfl ?_
  refine lw_v rfl rfl (ok_ldS rfl (.n rfl) rfl Try.isAgg29 Try.sizeOf29 hS rfl) ?_
  refine lw_on (.s rfl rfl) rfl ?_
  refine lw_v rfl rfl (ok_move rfl (.n rfl) rfl) ?_
  refine lw_on (.s rfl rfl) rfl ?_
  refine lw_v rfl rfl (ok_move rfl (.n rfl) rfl) ?_
  refine lw_on (.s rfl rfl) rfl ?_
  refine lw_call (f := 35) (xs := [_, _, _]) rfl rfl rfl Try.call35 rfl (Calls.mono (f35g C q R (exactL C R) A6 c6 A32 c32 _ hwf (hS.cs q) (hS.rd A6 (by omega)) (hS.rd A32 (by omega))) ?_)
  rintro e w' ⟨rfl, hg⟩
  replace hS := hS.grow hg; clear hg
  rw [(valid_iff hwf).2 ⟨(may_iff hwf).2 ⟨hrlen, hDr⟩, low_flatly hDL⟩]
  refine ⟨_, rfl, ?_⟩
  refine lw_on (.s rfl rfl) rfl ?_
  refine lw_v rfl rfl (ok_eq (g := none) (ok_not rfl (.n rfl) rfl) (c' := .bool false) (fun _ => rfl)) ?_
  refine lw_v rfl rfl (ok_pick rfl rfl rfl rfl rfl) ?_
  refine lw_nil ?_
  refine Ends.keep [(2, .eq _), (11, .eq _), (12, .eq _), (13, .eq _), (50, .eq _)] (.cons rfl (.cons rfl (.cons rfl (.cons rfl (.cons rfl .nil))))) ?_
  refine ends_then ?_
  refine cw_cond rfl (fun h50 => ?_) (fun h50 => ?_)
  ·
    cases h50
  ·
    refine cw_skip ?_
    refine ends_then ?_
    refine cw_seq ?_
    -- region 5
    refine cw_draw (by kernel_rfl) (List.take 5 _) (List.drop 5 _) (List.take_append_drop 5 _).symm (by kernel_rfl) ?_
    refine free_v (ok_ldS rfl (.n rfl) rfl Try.isAgg29 Try.sizeOf29 hS rfl) ?_
    refine free_v (ok_move rfl (.n rfl) rfl) ?_
    refine free_v (ok_ldS rfl (.n rfl) rfl Try.isAgg29 Try.sizeOf29 hS rfl) ?_
    refine free_v (ok_move rfl (.n rfl) rfl) ?_
    refine free_cons (ok_call (NewH w' C) rfl rfl Try.call25 rfl (fun w' hg => (f25a C q h A2 c2 w' hwf ((hS.grow hg).rd A2 (by omega)) hrgh).mono fun e w2 ⟨H, A', c', hr, he, hg2, hfr, ho⟩ => ⟨_, he, hg2, fun w3 hg3 => ⟨H, A', c', hr, rfl, Asn.grow _ ho hg3, fun b hb => Nat.le_trans hg.size (hfr b hb)⟩⟩)) ?_
    refine free_nil ?_
    intro wz hg_
    refine LW.opened (s := 55) rfl ?_
    rintro _ ⟨H, AH, cH, hrh, rfl, ho55, hf55⟩
    have hHl := hrh.len
    replace hS := (hS.new hg_ _ ho55 hf55).freeze .here (by omega); clear hg_ ho55 hf55
    have hmay : mayB C R H = true := (may_iff hwf).2 ⟨hrlen, hrh⟩
    have hLL := lowerL_low hwf hmay
    have hLl := hLL.len
    have hLr := low_right hwf hrh hLL
    refine lw_call (f := 48) (xs := [_, _, _]) rfl rfl rfl Try.call48 rfl (Calls.mono (f48 C q R H A6 c6 AH cH _ hwf (hS.cs q) (hS.rd A6 (by omega)) (hS.rd AH (by omega))) ?_)
    rintro e w' ⟨A56, c56, rfl, hg, hfr, ho⟩
    replace hS := hS.new hg _ ho hfr; clear hg ho hfr
    replace hS := hS.freeze .here (by omega)
    rw [hLl] at hS ⊢
    refine ⟨_, rfl, ?_⟩
    refine lw_v rfl rfl (ok_assign rfl (.n rfl) rfl) ?_
    refine lw_nil ?_
    refine Ends.keep [(11, .eq _), (12, .eq _), (13, .eq _), (15, .eq _)] (.cons rfl (.cons rfl (.cons rfl (.cons rfl .nil)))) ?_
    refine ends_then ?_
    refine cw_seq ?_
    -- region 6
    refine cw_region ?_
    refine lw_v rfl rfl (ok_fb rfl (.n rfl) Try.underlying29 rfl Try.sizeOf3 (by decide) rfl) ?_
    refine lw_v rfl rfl (ok_eq (ok_ldb rfl (.n rfl) rfl Try.isAgg3 hS (by rfl)) (c' := .int .i64 (C.N : Int)) (fun _ => rfl)) ?_
    refine lw_make (enc := (eInt .i64)) rfl rfl rfl Try.underlying26 info3 rfl rfl rfl rfl (by omega) (by omega) hS ?_
    clear hS; intro A59 c59 w4 _ hS
    refine lw_v rfl rfl (ok_assign rfl (.n rfl) rfl) ?_
    refine lw_nil ?_
    refine Ends.keep [(11, .eq _), (12, .eq _), (13, .eq _), (15, .eq _), (16, .eq _)] (.cons rfl (.cons rfl (.cons rfl (.cons rfl (.cons rfl .nil))))) ?_
    refine ends_then ?_
    refine cw_seq ?_
    refine cw_seq ?_
    -- region 7
    refine cw_region ?_
    refine lw_v rfl rfl (ok_move rfl (.n rfl) rfl) ?_
    refine lw_v rfl rfl (ok_len rfl (.n rfl) Try.underlying26 rfl) ?_
    refine lw_v rfl rfl (ok_move rfl (.n rfl) rfl) ?_
    refine lw_nil ?_
    refine Ends.keep [(11, .eq _), (12, .eq _), (13, .eq _), (15, .eq _), (16, .eq _), (61, .eq _), (62, .eq _)] (.cons rfl (.cons rfl (.cons rfl (.cons rfl (.cons rfl (.cons rfl (.cons rfl .nil))))))) ?_
    refine ends_then ?_
    refine cw_block ?_
    -- LOOP at region 8: changed live slots [62], kept [11, 12, 13, 15, 16, 61]
    refine cw_loop [(11, .eq _), (12, .eq _), (13, .eq _), (15, .eq _), (16, .eq _), (61, .eq _)] (fun i : Nat => [(62, .eq (.int .i64 i))]) (fun i w' => ∃ xs, (i ≤ C.N ∧ xs.length = C.N ∧ ∀ v, v < i → xs.getD v 0 = (C.N : Int)) ∧ St w.heap.size w w' [own (eInt .i64) 1 3 A59 C.N c59 xs, sl (eInt .i64) 1 A56 C.N c56 (lowerL C R H), sl (eInt .i64) 1 AH H.length cH H, sl (eInt .i64) 1 A39 C.N c39 (exactL C R), sl (eInt .i64) 1 A32 C.N c32 (exactL C R), bx b11 (csV C q).cells.toList 29, own (eInt .i64) 1 2 A6 R.length c6 R, sl (eInt .i64) 1 q.a0 C.First.length q.c0 C.First, sl (eInt .i64) 1 q.a1 C.Head.length q.c1 C.Head, sl (eInt .i64) 1 q.a2 C.Rev.length q.c2 C.Rev, sl (eInt .i64) 1 q.a3 C.Cap.length q.c3 C.Cap, sl (eInt .i64) 1 q.a4 C.Arc.length q.c4 C.Arc, sl eBool 1 q.a5 C.Back.length q.c5 C.Back, bx b5 (netV n A c).cells.toList 24, sl (eInt .i64) 1 A2 h.length c2 h, sl (eInt .i64) 1 A1 l.length c1 l, sl eArc 3 A n.arcs.length c n.arcs]) (fun i => C.N - i) 0 (.cons rfl (.cons rfl (.cons rfl (.cons rfl (.cons rfl (.cons rfl .nil)))))) (.cons rfl (.cons rfl (.cons rfl (.cons rfl (.cons rfl (.cons rfl (.cons rfl .nil))))))) ⟨_, ⟨Nat.zero_le _, List.length_replicate, fun v hv => absurd hv (Nat.not_lt_zero v)⟩, hS⟩ ?_
    clear hS
    rintro i wr ⟨xs, ⟨hi, hxl, hxv⟩, hS⟩
    refine cw_seq ?_
    -- region 8
    refine cw_region ?_
    refine lw_v rfl rfl (ok_lss rfl (.n rfl) rfl rfl) ?_
    refine lw_nil ?_
    refine Ends.keep [(11, .eq _), (12, .eq _), (13, .eq _), (15, .eq _), (16, .eq _), (61, .eq _), (62, .eq _), (63, .eq _)] (.cons rfl (.cons rfl (.cons rfl (.cons rfl (.cons rfl (.cons rfl (.cons rfl (.cons rfl .nil)))))))) ?_
    refine ends_then ?_
    refine cw_seq ?_
    refine cw_cond rfl (fun h63 => ?_) (fun h63 => ?_)
    ·
      have hiN : i < C.N := by have := of_decide_eq_true h63; omega
      refine cw_skip ?_
      refine ends_then ?_
      refine cw_seq ?_
      refine cw_block ?_
      refine cw_seq ?_
      -- region 9
      refine cw_region ?_
      refine lw_v rfl rfl (ok_move rfl (.n rfl) rfl) ?_
      refine lw_v rfl rfl (ok_assign rfl (.n rfl) rfl) ?_
      refine lw_nil ?_
      refine Ends.keep [(11, .eq _), (12, .eq _), (13, .eq _), (15, .eq _), (16, .eq _), (17, .eq _), (61, .eq _), (62, .eq _)] (.cons rfl (.cons rfl (.cons rfl (.cons rfl (.cons rfl (.cons rfl (.cons rfl (.cons rfl .nil)))))))) ?_
      refine ends_then ?_
      -- region 10
      refine cw_region ?_
      refine lw_v rfl rfl (ok_move rfl (.n rfl) rfl) ?_
      refine lw_v rfl rfl (ok_move rfl (.n rfl) rfl) ?_
      refine lw_v rfl rfl (ok_fb rfl (.n rfl) Try.underlying29 rfl Try.sizeOf3 (by decide) rfl) ?_
      refine lw_v rfl rfl (ok_eq (ok_ldb rfl (.n rfl) rfl Try.isAgg3 hS (by rfl)) (c' := .int .i64 (C.N : Int)) (fun _ => rfl)) ?_
      refine lw_v rfl rfl (ok_ix rfl (.n rfl) Try.underlying26 Try.sizeOf3 rfl rfl hS (fun _ => ⟨by omega, by omega⟩)) ?_
      refine lw_stx (enc := (eInt .i64)) (_) rfl rfl rfl rfl rfl rfl Try.sizeOf3 hS (⟨by omega, by omega⟩) ?_
      clear hS; intro w5 hS
      refine lw_nil ?_
      refine in_normal (?_)
      refine Ends.keep [(11, .eq _), (12, .eq _), (13, .eq _), (15, .eq _), (16, .eq _), (61, .eq _), (62, .eq _)] (.cons rfl (.cons rfl (.cons rfl (.cons rfl (.cons rfl (.cons rfl (.cons rfl .nil))))))) ?_
      refine ends_then ?_
      -- region 11
      refine cw_region ?_
      refine lw_v rfl rfl (ok_addi rfl (.n rfl) rfl rfl (fun _ => ⟨by omega, by omega⟩)) ?_
      refine lw_v rfl rfl (ok_move rfl (.n rfl) rfl) ?_
      refine lw_nil ?_
      -- BACK
      refine ends_back (i + 1) (.cons rfl (.cons rfl (.cons rfl (.cons rfl (.cons rfl (.cons rfl (.cons rfl .nil))))))) ⟨_, ⟨by omega, by rw [List.length_set]; exact hxl, fun v hv => ?_⟩, hS⟩ (by omega)
      rw [show (i : Int).toNat = i from rfl, set_get (by omega)]
      split
      · rfl
      · exact hxv v (by omega)
    ·
      have hie : i = C.N := by have := of_decide_eq_false h63; omega
      have hall : lowerL C R (xs.set (C.T : Int).toNat 0) = (exactL C R) := all_low hwf hrlen hxl (fun v hv => hxv v (by omega))
      refine cw_exit ?_
      refine then_exit (then_exit (in_exit (?_)))
      refine Ends.keep [(11, .eq _), (12, .eq _), (13, .eq _), (15, .eq _), (16, .eq _)] (.cons rfl (.cons rfl (.cons rfl (.cons rfl (.cons rfl .nil))))) ?_
      refine ends_then ?_
      refine cw_seq ?_
      -- region 12
      refine cw_region ?_
      refine lw_v rfl rfl (ok_move rfl (.n rfl) rfl) ?_
      refine lw_v rfl rfl (ok_fb rfl (.n rfl) Try.underlying29 rfl Try.sizeOf3 (by decide) rfl) ?_
      refine lw_v rfl rfl (ok_eq (ok_ldb rfl (.n rfl) rfl Try.isAgg3 hS (by rfl)) (c' := .int .i64 (C.T : Int)) (fun _ => rfl)) ?_
      refine lw_v rfl rfl (ok_ix rfl (.n rfl) Try.underlying26 Try.sizeOf3 rfl rfl hS (fun _ => ⟨by omega, by omega⟩)) ?_
      refine lw_stx (enc := (eInt .i64)) (_) rfl rfl rfl rfl rfl rfl Try.sizeOf3 hS (⟨by omega, by omega⟩) ?_
      clear hS; intro w6 hS
      refine lw_nil ?_
      refine Ends.keep [(11, .eq _), (12, .eq _), (13, .eq _), (15, .eq _), (16, .eq _)] (.cons rfl (.cons rfl (.cons rfl (.cons rfl (.cons rfl .nil))))) ?_
      refine ends_then ?_
      refine cw_seq ?_
      refine cw_seq ?_
      -- region 13
      refine cw_region ?_
      refine lw_v rfl rfl (ok_move rfl (.n rfl) rfl) ?_
      refine lw_v rfl rfl (ok_len rfl (.n rfl) Try.underlying26 rfl) ?_
      refine lw_v rfl rfl (ok_fb rfl (.n rfl) Try.underlying29 rfl Try.sizeOf3 (by decide) rfl) ?_
      refine lw_v rfl rfl (ok_eq (ok_ldb rfl (.n rfl) rfl Try.isAgg3 hS (by rfl)) (c' := .int .i64 (C.N : Int)) (fun _ => rfl)) ?_
      refine lw_v rfl rfl (ok_eq (g := none) (ok_neq rfl (.n rfl) rfl rfl) (c' := .bool false) (fun _ => congrArg Value.bool (by simp))) ?_
      refine lw_v rfl rfl (ok_move rfl (.n rfl) rfl) ?_
      refine lw_on (.s rfl rfl) rfl ?_
      refine lw_v rfl rfl (ok_ldS rfl (.n rfl) rfl Try.isAgg29 Try.sizeOf29 hS rfl) ?_
      refine lw_on (.s rfl rfl) rfl ?_
      refine lw_v rfl rfl (ok_move rfl (.n rfl) rfl) ?_
      refine lw_on (.s rfl rfl) rfl ?_
      refine lw_v rfl rfl (ok_move rfl (.n rfl) rfl) ?_
      refine lw_on (.s rfl rfl) rfl ?_
      refine lw_call (f := 48) (xs := [_, _, _]) rfl rfl rfl Try.call48 rfl (Calls.mono (f48 C q R (xs.set (C.T : Int).toNat 0) A6 c6 A59 c59 _ hwf (hS.cs q) (hS.rd A6 (by omega)) (hS.rd A59 (by omega))) ?_)
      rintro e w' ⟨A84, c84, rfl, hg, hfr, ho⟩
      rw [hall, hDl] at hfr ho
      replace hS := hS.new hg _ ho hfr; clear hg ho hfr
      replace hS := hS.freeze .here (by omega)
      rw [hall, hDl]
      refine ⟨_, rfl, ?_⟩
      refine lw_on (.s rfl rfl) rfl ?_
      refine lw_v rfl rfl (ok_move rfl (.n rfl) rfl) ?_
      refine lw_on (.s rfl rfl) rfl ?_
      refine lw_call (f := 30) (xs := [_, _]) rfl rfl rfl Try.call30 rfl (Calls.mono (f30s A84 c84 A32 c32 (exactL C R) _ (hS.rd A84 (by omega)) (hS.rd A32 (by omega))) ?_)
      rintro e w' ⟨rfl, hg⟩
      replace hS := hS.grow hg; clear hg
      refine ⟨_, rfl, ?_⟩
      refine lw_on (.s rfl rfl) rfl ?_
      refine lw_v rfl rfl (ok_eq (g := none) (ok_not rfl (.n rfl) rfl) (c' := .bool false) (fun _ => rfl)) ?_
      refine lw_v rfl rfl (ok_pick rfl rfl rfl rfl rfl) ?_
      refine lw_nil ?_
      refine Ends.keep [(13, .eq _), (15, .eq _), (88, .eq _)] (.cons rfl (.cons rfl (.cons rfl .nil))) ?_
      refine ends_then ?_
      refine cw_cond rfl (fun h88 => ?_) (fun h88 => ?_)
      ·
        cases h88
      ·
        refine cw_skip ?_
        refine ends_then ?_
        refine cw_seq ?_
        refine cw_seq ?_
        -- region 15
        refine cw_region ?_
        refine lw_v rfl rfl (ok_move rfl (.n rfl) rfl) ?_
        refine lw_v rfl rfl (ok_len rfl (.n rfl) Try.underlying26 rfl) ?_
        refine lw_v rfl rfl (ok_move rfl (.n rfl) rfl) ?_
        refine lw_nil ?_
        refine Ends.keep [(13, .eq _), (15, .eq _), (90, .eq _), (91, .eq _)] (.cons rfl (.cons rfl (.cons rfl (.cons rfl .nil)))) ?_
        refine ends_then ?_
        refine cw_block ?_
        -- LOOP at region 16: changed live slots [91], kept [13, 15, 90]
        refine cw_loop [(13, .eq _), (15, .eq _), (90, .eq _)] (fun i : Nat => [(91, .eq (.int .i64 i))]) (fun i w' => i ≤ C.N ∧ St w.heap.size w w' [sl (eInt .i64) 1 A84 C.N c84 (exactL C R), own (eInt .i64) 1 3 A59 C.N c59 (xs.set (C.T : Int).toNat 0), sl (eInt .i64) 1 A56 C.N c56 (lowerL C R H), sl (eInt .i64) 1 AH H.length cH H, sl (eInt .i64) 1 A39 C.N c39 (exactL C R), sl (eInt .i64) 1 A32 C.N c32 (exactL C R), bx b11 (csV C q).cells.toList 29, own (eInt .i64) 1 2 A6 R.length c6 R, sl (eInt .i64) 1 q.a0 C.First.length q.c0 C.First, sl (eInt .i64) 1 q.a1 C.Head.length q.c1 C.Head, sl (eInt .i64) 1 q.a2 C.Rev.length q.c2 C.Rev, sl (eInt .i64) 1 q.a3 C.Cap.length q.c3 C.Cap, sl (eInt .i64) 1 q.a4 C.Arc.length q.c4 C.Arc, sl eBool 1 q.a5 C.Back.length q.c5 C.Back, bx b5 (netV n A c).cells.toList 24, sl (eInt .i64) 1 A2 h.length c2 h, sl (eInt .i64) 1 A1 l.length c1 l, sl eArc 3 A n.arcs.length c n.arcs]) (fun i => C.N - i) 0 (.cons rfl (.cons rfl (.cons rfl .nil))) (.cons rfl (.cons rfl (.cons rfl (.cons rfl .nil)))) ⟨Nat.zero_le _, hS⟩ ?_
        clear hS
        rintro i wr ⟨hi, hS⟩
        refine cw_seq ?_
        -- region 16
        refine cw_region ?_
        refine lw_v rfl rfl (ok_lss rfl (.n rfl) rfl rfl) ?_
        refine lw_nil ?_
        refine Ends.keep [(13, .eq _), (15, .eq _), (90, .eq _), (91, .eq _), (92, .eq _)] (.cons rfl (.cons rfl (.cons rfl (.cons rfl (.cons rfl .nil))))) ?_
        refine ends_then ?_
        refine cw_seq ?_
        refine cw_cond rfl (fun h92 => ?_) (fun h92 => ?_)
        ·
          have hiN : i < C.N := by have := of_decide_eq_true h92; omega
          refine cw_skip ?_
          refine ends_then ?_
          refine cw_seq ?_
          refine cw_block ?_
          refine cw_seq ?_
          -- region 17
          refine cw_region ?_
          refine lw_v rfl rfl (ok_move rfl (.n rfl) rfl) ?_
          refine lw_v rfl rfl (ok_assign rfl (.n rfl) rfl) ?_
          refine lw_nil ?_
          refine Ends.keep [(13, .eq _), (15, .eq _), (18, .eq _), (90, .eq _), (91, .eq _)] (.cons rfl (.cons rfl (.cons rfl (.cons rfl (.cons rfl .nil))))) ?_
          refine ends_then ?_
          refine cw_seq ?_
          -- region 18
          refine cw_draw (by kernel_rfl) (List.take 8 _) (List.drop 8 _) (List.take_append_drop 8 _).symm (by kernel_rfl) ?_
          refine free_v (ok_move rfl (.n rfl) rfl) ?_
          refine free_v (ok_move rfl (.n rfl) rfl) ?_
          refine free_v (ok_ix rfl (.n rfl) Try.underlying26 Try.sizeOf3 rfl rfl hS (fun _ => ⟨by omega, by omega⟩)) ?_
          refine free_v (ok_ldx rfl (.n rfl) rfl Try.isAgg3 hS (fun _ => ⟨by omega, by omega⟩) (by rfl)) ?_
          refine free_v (ok_move rfl (.n rfl) rfl) ?_
          refine free_v (ok_move rfl (.n rfl) rfl) ?_
          refine free_v (ok_ix rfl (.n rfl) Try.underlying26 Try.sizeOf3 rfl rfl hS (fun _ => ⟨by omega, by omega⟩)) ?_
          refine free_v (ok_ldx rfl (.n rfl) rfl Try.isAgg3 hS (fun _ => ⟨by omega, by omega⟩) (by rfl)) ?_
          refine free_nil ?_
          intro w7 hg_; replace hS := hS.grow hg_; clear hg_
          refine lw_v rfl rfl (ok_gtr rfl (.n rfl) rfl rfl) ?_
          refine lw_nil ?_
          refine Ends.keep [(13, .eq _), (15, .eq _), (90, .eq _), (91, .eq _), (102, .eq _)] (.cons rfl (.cons rfl (.cons rfl (.cons rfl (.cons rfl .nil))))) ?_
          refine ends_then ?_
          refine cw_cond rfl (fun h102 => ?_) (fun h102 => ?_)
          ·
            exact absurd (of_decide_eq_true h102) (Int.not_lt.2 (low_exact hwf hLL hLr hiN))
          ·
            refine cw_skip ?_
            refine in_normal (?_)
            refine ends_then ?_
            -- region 20
            refine cw_region ?_
            refine lw_v rfl rfl (ok_addi rfl (.n rfl) rfl rfl (fun _ => ⟨by omega, by omega⟩)) ?_
            refine lw_v rfl rfl (ok_move rfl (.n rfl) rfl) ?_
            refine lw_nil ?_
            -- BACK
            refine ends_back (i + 1) (.cons rfl (.cons rfl (.cons rfl (.cons rfl .nil)))) ⟨by omega, hS⟩ (by omega)
        ·
          refine cw_exit ?_
          refine then_exit (then_exit (in_exit (?_)))
          refine Ends.keep [] .nil ?_
          refine ends_then ?_
          refine cw_seq ?_
          -- region 21
          refine cw_region ?_
          refine lw_call (f := 47) (xs := []) rfl rfl rfl Try.call47 rfl (Calls.mono (f47 _) ?_)
          rintro e w' ⟨rfl, hg⟩
          replace hS := hS.grow hg; clear hg
          refine ⟨_, rfl, ?_⟩
          refine lw_v rfl rfl (ok_assign rfl (.n rfl) rfl) ?_
          refine lw_nil ?_
          refine Ends.keep [(10, .eq _)] (.cons rfl .nil) ?_
          refine ends_then ?_
          refine cw_ret ?_
          exact end_ret (res1 Try.results10 rfl) ⟨rfl, hS.below⟩

end Go.Proofs.Ytnpgeohkmdcbkaa.Aq
