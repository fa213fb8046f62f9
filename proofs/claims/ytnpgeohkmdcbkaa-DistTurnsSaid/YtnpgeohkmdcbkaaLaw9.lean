/- The walk of the law DistTurns. -/
import Derived.Test.YtnpgeohkmdcbkaaLawD
import Derived.Test.YtnpgeohkmdcbkaaPlain10
namespace Go.Proofs.Ytnpgeohkmdcbkaa.Aq
open Go Go.RowKit

set_option maxHeartbeats 2000000 in
set_option maxRecDepth 10000 in
/-- acequialaw05.DistTurns. -/
theorem f9 (n : Nt) (A : Option Addr) (c : Nat) (l : List Int) (A1 : Option Addr) (c1 : Nat) (at0 at1 at2 : Int) (w : World) (ha : (sl eArc 3 A n.arcs.length c n.arcs).p w) (hrgn : (-9223372036854775808 ≤ n.N ∧ n.N ≤ 9223372036854775807) ∧ (-9223372036854775808 ≤ n.S ∧ n.S ≤ 9223372036854775807) ∧ (-9223372036854775808 ≤ n.T ∧ n.T ≤ 9223372036854775807) ∧ ∀ a ∈ n.arcs, -9223372036854775808 ≤ a.1 ∧ a.1 ≤ 9223372036854775807 ∧ -9223372036854775808 ≤ a.2.1 ∧ a.2.1 ≤ 9223372036854775807 ∧ -9223372036854775808 ≤ a.2.2 ∧ a.2.2 ≤ 9223372036854775807) (hl : (sl (eInt .i64) 1 A1 l.length c1 l).p w) (hrgl : ∀ x ∈ l, -9223372036854775808 ≤ x ∧ x ≤ 9223372036854775807) (hat0 : 0 ≤ at0 ∧ at0 ≤ 255) (hat1 : 0 ≤ at1 ∧ at1 ≤ 255) (hat2 : 0 ≤ at2 ∧ at2 ≤ 255) :
    Calls Try.prog 9 #[netV n A c, .slice A1 l.length c1, .int .u8 at0, .int .u8 at1, .int .u8 at2] w fun e w' => e = .returned (.bool true) ∧ Gr w w' := by
  refine calls_cw Try.func9 rfl Try.ntmps9 rfl ?_
  have hS := ((St.start w).args (Nat.le_refl _) _ ha rfl).args (Nat.le_refl _) _ hl rfl
  refine cw_seq ?_
  -- region 0
  refine cw_region ?_
  refine lw_box rfl rfl rfl rfl hS ?_
  clear hS; intro b5 w1 _ _ hS
  refine lw_v rfl rfl (ok_assign rfl (.n rfl) rfl) ?_
  refine lw_nil ?_
  refine Ends.keep [(1, .eq _), (2, .eq _), (3, .eq _), (4, .eq _), (5, .eq _)] (.cons rfl (.cons rfl (.cons rfl (.cons rfl (.cons rfl .nil))))) ?_
  refine ends_then ?_
  refine cw_seq ?_
  -- region 1
  refine cw_region ?_
  refine lw_v rfl rfl (ok_ldS rfl (.n rfl) rfl Try.isAgg24 Try.sizeOf24 hS rfl) ?_
  refine lw_call (f := 24) (xs := [_, _, _]) rfl rfl rfl Try.call24 rfl (Calls.mono (f24a n A c _ (hS.rd A (by have := ha.2.1; omega)) hrgn) ?_)
  rintro e w' ⟨n1, AS, cS, hok, rfl, hg, hfr, ho⟩
  replace hS := hS.new hg _ ho hfr; clear hg ho hfr
  refine ⟨_, rfl, ?_⟩
  refine lw_stS rfl rfl rfl rfl rfl (by kernel_rfl) hS rfl (by rfl) (by rfl) ?_
  clear hS; intro w2 hS
  refine lw_nil ?_
  refine Ends.keep [(1, .eq _), (2, .eq _), (3, .eq _), (4, .eq _), (5, .eq _)] (.cons rfl (.cons rfl (.cons rfl (.cons rfl (.cons rfl .nil))))) ?_
  refine ends_then ?_
  refine cw_seq ?_
  -- region 2
  refine cw_region ?_
  refine lw_v rfl rfl (ok_ldS rfl (.n rfl) rfl Try.isAgg24 Try.sizeOf24 hS rfl) ?_
  refine lw_v rfl rfl (ok_move rfl (.n rfl) rfl) ?_
  refine lw_call (f := 23) (xs := [_, _]) rfl rfl rfl Try.call23 rfl (Calls.mono (f23a n1 AS cS l A1 c1 _ hok (hS.rd AS (by have := hok.len; omega)) (hS.rd A1 hl.2.1) hl.2.1 hrgl) ?_)
  rintro e w' ⟨C, R, q, A6, c6, ⟨hwf, hro⟩, rfl, hg, hnew, hat, hfr, hap, ho⟩
  replace hS := hS.left hg hat hnew ho hfr hap; clear hg hnew hat hfr hap ho
  replace hS := hS.sub (.cons_cons _ (.cons_cons _ (.cons_cons _ (.cons_cons _ (.cons_cons _ (.cons_cons _ (.cons_cons _ (.cons _ (.cons _ (List.Sublist.refl _))))))))))
  have hM := hwf.m
  have hrlen := hro.len
  have hN := hwf.hi
  have hlo := hwf.lo
  obtain ⟨u, huv, huN⟩ := modN at0 hat0.1 C.N (by omega)
  obtain ⟨v, hvv, hvN⟩ := modN at1 hat1.1 C.N (by omega)
  obtain ⟨x, hxv, hxN⟩ := modN at2 hat2.1 C.N (by omega)
  refine ⟨_, rfl, ?_⟩
  refine lw_v rfl rfl (ok_move rfl (.n rfl) rfl) ?_
  refine lw_v rfl rfl (ok_extract rfl (.n rfl) rfl rfl) ?_
  refine lw_v rfl rfl (ok_extract rfl (.n rfl) rfl rfl) ?_
  refine lw_alloc rfl rfl rfl Try.zeroValue29 hS ?_
  clear hS; intro b11 w3 _ _ hS
  refine lw_stS rfl rfl rfl rfl rfl (by kernel_rfl) hS rfl (by rfl) (by rfl) ?_
  clear hS; intro w4 hS
  refine lw_v rfl rfl (ok_assign rfl (.n rfl) rfl) ?_
  refine lw_nil ?_
  refine Ends.keep [(2, .eq _), (3, .eq _), (4, .eq _), (11, .eq _), (12, .eq _)] (.cons rfl (.cons rfl (.cons rfl (.cons rfl (.cons rfl .nil))))) ?_
  refine ends_then ?_
  refine cw_seq ?_
  -- region 3
  refine cw_draw (by kernel_rfl) (List.take 17 _) (List.drop 17 _) (List.take_append_drop 17 _).symm (by kernel_rfl) ?_
  refine free_v (ok_move rfl (.n rfl) rfl) ?_
  refine free_v (ok_eq (ok_conv rfl (.n rfl) Try.underlying5 Try.underlying3 rfl) (c' := .int .i64 at0) (fun _ => congrArg (Value.int .i64) (wrap_in ⟨by omega, by omega⟩))) ?_
  refine free_v (ok_fb rfl (.n rfl) Try.underlying29 rfl Try.sizeOf3 (by decide) rfl) ?_
  refine free_v (ok_ldb rfl (.n rfl) rfl Try.isAgg3 hS (by rfl)) ?_
  refine free_v (ok_eq (ok_rem rfl (.n rfl) rfl rfl (fun _ => by omega)) (c' := .int .i64 (u : Int)) (fun _ => congrArg (Value.int .i64) huv)) ?_
  refine free_v (ok_move rfl (.n rfl) rfl) ?_
  refine free_v (ok_eq (ok_conv rfl (.n rfl) Try.underlying5 Try.underlying3 rfl) (c' := .int .i64 at1) (fun _ => congrArg (Value.int .i64) (wrap_in ⟨by omega, by omega⟩))) ?_
  refine free_v (ok_fb rfl (.n rfl) Try.underlying29 rfl Try.sizeOf3 (by decide) rfl) ?_
  refine free_v (ok_ldb rfl (.n rfl) rfl Try.isAgg3 hS (by rfl)) ?_
  refine free_v (ok_eq (ok_rem rfl (.n rfl) rfl rfl (fun _ => by omega)) (c' := .int .i64 (v : Int)) (fun _ => congrArg (Value.int .i64) hvv)) ?_
  refine free_v (ok_move rfl (.n rfl) rfl) ?_
  refine free_v (ok_eq (ok_conv rfl (.n rfl) Try.underlying5 Try.underlying3 rfl) (c' := .int .i64 at2) (fun _ => congrArg (Value.int .i64) (wrap_in ⟨by omega, by omega⟩))) ?_
  refine free_v (ok_fb rfl (.n rfl) Try.underlying29 rfl Try.sizeOf3 (by decide) rfl) ?_
  refine free_v (ok_ldb rfl (.n rfl) rfl Try.isAgg3 hS (by rfl)) ?_
  refine free_v (ok_eq (ok_rem rfl (.n rfl) rfl rfl (fun _ => by omega)) (c' := .int .i64 (x : Int)) (fun _ => congrArg (Value.int .i64) hxv)) ?_
  refine free_v (ok_assign rfl (.n rfl) rfl) ?_
  refine free_v (ok_assign rfl (.n rfl) rfl) ?_
  refine free_nil ?_
  intro w5 hg_; replace hS := hS.grow hg_; clear hg_
  refine lw_v rfl rfl (ok_assign rfl (.n rfl) rfl) ?_
  refine lw_nil ?_
  refine Ends.keep [(11, .eq _), (12, .eq _), (13, .eq _), (14, .eq _), (15, .eq _)] (.cons rfl (.cons rfl (.cons rfl (.cons rfl (.cons rfl .nil))))) ?_
  refine ends_then ?_
  refine cw_seq ?_
  -- region 4
  refine cw_region ?_
  refine lw_v rfl rfl (ok_move rfl (.n rfl) rfl) ?_
  refine lw_v rfl rfl (ok_len rfl (.n rfl) Try.underlying25 rfl) ?_
  refine lw_make (enc := (eInt .i64)) rfl rfl rfl Try.underlying25 info2 rfl rfl rfl rfl (by omega) (by omega) hS ?_
  clear hS; intro A45 c45 w6 _ hS
  refine lw_v rfl rfl (ok_assign rfl (.n rfl) rfl) ?_
  refine lw_nil ?_
  refine Ends.keep [(11, .eq _), (12, .eq _), (13, .eq _), (14, .eq _), (15, .eq _), (16, .eq _)] (.cons rfl (.cons rfl (.cons rfl (.cons rfl (.cons rfl (.cons rfl .nil)))))) ?_
  refine ends_then ?_
  refine cw_seq ?_
  refine cw_seq ?_
  -- region 5
  refine cw_region ?_
  refine lw_v rfl rfl (ok_move rfl (.n rfl) rfl) ?_
  refine lw_v rfl rfl (ok_len rfl (.n rfl) Try.underlying25 rfl) ?_
  refine lw_v rfl rfl (ok_move rfl (.n rfl) rfl) ?_
  refine lw_nil ?_
  refine Ends.keep [(11, .eq _), (12, .eq _), (13, .eq _), (14, .eq _), (15, .eq _), (16, .eq _), (47, .eq _), (48, .eq _)] (.cons rfl (.cons rfl (.cons rfl (.cons rfl (.cons rfl (.cons rfl (.cons rfl (.cons rfl .nil)))))))) ?_
  refine ends_then ?_
  refine cw_block ?_
  -- LOOP at region 6: changed live slots [48], kept [11, 12, 13, 14, 15, 16, 47]
  refine cw_loop [(11, .eq _), (12, .eq _), (13, .eq _), (14, .eq _), (15, .eq _), (16, .eq _), (47, .eq _)] (fun k : Nat => [(48, .eq (.int .i64 k))]) (fun k w' => ∃ Bk : List Int, (k ≤ R.length ∧ Bk.length = R.length ∧ ∀ a, a < k → Bk.getD a 0 = R.getD (C.Rev.getD a 0).toNat 0) ∧ St w.heap.size w w' [own (eInt .i64) 1 2 A45 R.length c45 Bk, bx b11 (csV C q).cells.toList 29, own (eInt .i64) 1 2 A6 R.length c6 R, sl (eInt .i64) 1 q.a0 C.First.length q.c0 C.First, sl (eInt .i64) 1 q.a1 C.Head.length q.c1 C.Head, sl (eInt .i64) 1 q.a2 C.Rev.length q.c2 C.Rev, sl (eInt .i64) 1 q.a3 C.Cap.length q.c3 C.Cap, sl (eInt .i64) 1 q.a4 C.Arc.length q.c4 C.Arc, sl eBool 1 q.a5 C.Back.length q.c5 C.Back, sl (eInt .i64) 1 A1 l.length c1 l, sl eArc 3 A n.arcs.length c n.arcs]) (fun k => R.length - k) 0 (.cons rfl (.cons rfl (.cons rfl (.cons rfl (.cons rfl (.cons rfl (.cons rfl .nil))))))) (.cons rfl (.cons rfl (.cons rfl (.cons rfl (.cons rfl (.cons rfl (.cons rfl (.cons rfl .nil)))))))) ⟨_, ⟨Nat.zero_le _, List.length_replicate, fun a h => absurd h (Nat.not_lt_zero a)⟩, hS⟩ ?_
  clear hS
  rintro k wr ⟨Bk, ⟨hk, hBl, hBk⟩, hS⟩
  refine cw_seq ?_
  -- region 6
  refine cw_region ?_
  refine lw_v rfl rfl (ok_lss rfl (.n rfl) rfl rfl) ?_
  refine lw_nil ?_
  refine Ends.keep [(11, .eq _), (12, .eq _), (13, .eq _), (14, .eq _), (15, .eq _), (16, .eq _), (47, .eq _), (48, .eq _), (49, .eq _)] (.cons rfl (.cons rfl (.cons rfl (.cons rfl (.cons rfl (.cons rfl (.cons rfl (.cons rfl (.cons rfl .nil))))))))) ?_
  refine ends_then ?_
  refine cw_seq ?_
  refine cw_cond rfl (fun h49 => ?_) (fun h49 => ?_)
  ·
    have hkR : k < R.length := by have := of_decide_eq_true h49; omega
    have hrv : 0 ≤ C.Rev.getD (k : Int).toNat 0 ∧ C.Rev.getD (k : Int).toNat 0 < C.Head.length := hwf.rv k (by omega)
    have hrvl := hwf.rl
    refine cw_skip ?_
    refine ends_then ?_
    refine cw_seq ?_
    refine cw_block ?_
    refine cw_seq ?_
    -- region 7
    refine cw_region ?_
    refine lw_v rfl rfl (ok_move rfl (.n rfl) rfl) ?_
    refine lw_v rfl rfl (ok_assign rfl (.n rfl) rfl) ?_
    refine lw_nil ?_
    refine Ends.keep [(11, .eq _), (12, .eq _), (13, .eq _), (14, .eq _), (15, .eq _), (16, .eq _), (17, .eq _), (47, .eq _), (48, .eq _)] (.cons rfl (.cons rfl (.cons rfl (.cons rfl (.cons rfl (.cons rfl (.cons rfl (.cons rfl (.cons rfl .nil))))))))) ?_
    refine ends_then ?_
    -- region 8
    refine cw_region ?_
    refine lw_v rfl rfl (ok_move rfl (.n rfl) rfl) ?_
    refine lw_v rfl rfl (ok_move rfl (.n rfl) rfl) ?_
    refine lw_v rfl rfl (ok_move rfl (.n rfl) rfl) ?_
    refine lw_v rfl rfl (ok_fb rfl (.n rfl) Try.underlying29 rfl Try.sizeOf26 (by decide) rfl) ?_
    refine lw_v rfl rfl (ok_ldb rfl (.n rfl) rfl Try.isAgg26 hS (by rfl)) ?_
    refine lw_v rfl rfl (ok_move rfl (.n rfl) rfl) ?_
    refine lw_v rfl rfl (ok_ix rfl (.n rfl) Try.underlying26 Try.sizeOf3 rfl rfl hS (fun _ => ⟨by omega, by omega⟩)) ?_
    refine lw_v rfl rfl (ok_ldx rfl (.n rfl) rfl Try.isAgg3 hS (fun _ => ⟨by omega, by omega⟩) (by rfl)) ?_
    refine lw_v rfl rfl (ok_ix rfl (.n rfl) Try.underlying25 Try.sizeOf2 rfl rfl hS (fun _ => ⟨by omega, by omega⟩)) ?_
    refine lw_v rfl rfl (ok_ldx rfl (.n rfl) rfl Try.isAgg2 hS (fun _ => ⟨by omega, by omega⟩) (by rfl)) ?_
    refine lw_v rfl rfl (ok_ix rfl (.n rfl) Try.underlying25 Try.sizeOf2 rfl rfl hS (fun _ => ⟨by omega, by omega⟩)) ?_
    refine lw_stx (enc := (eInt .i64)) (_) rfl rfl rfl rfl rfl rfl Try.sizeOf2 hS (⟨by omega, by omega⟩) ?_
    clear hS; intro w7 hS
    refine lw_nil ?_
    refine in_normal (?_)
    refine Ends.keep [(11, .eq _), (12, .eq _), (13, .eq _), (14, .eq _), (15, .eq _), (16, .eq _), (47, .eq _), (48, .eq _)] (.cons rfl (.cons rfl (.cons rfl (.cons rfl (.cons rfl (.cons rfl (.cons rfl (.cons rfl .nil)))))))) ?_
    refine ends_then ?_
    -- region 9
    refine cw_region ?_
    refine lw_v rfl rfl (ok_addi rfl (.n rfl) rfl rfl (fun _ => ⟨by omega, by omega⟩)) ?_
    refine lw_v rfl rfl (ok_move rfl (.n rfl) rfl) ?_
    refine lw_nil ?_
    -- BACK
    refine ends_back (k + 1) (.cons rfl (.cons rfl (.cons rfl (.cons rfl (.cons rfl (.cons rfl (.cons rfl (.cons rfl .nil)))))))) ⟨_, ⟨by omega, by rw [List.length_set]; exact hBl, fun a ha => ?_⟩, hS⟩ (by omega)
    rw [set_get (by show k < Bk.length; omega)]
    split
    · rename_i e; rw [e]
    · rename_i e; exact hBk a (by have : ¬ a = k := e; omega)
  ·
    have hkR : k = C.Head.length := by have := of_decide_eq_false h49; omega
    rw [hkR] at hBk
    have hl1 := toL_len hrlen hvN
    have hl2 := fromL_len hrlen huN
    have hl3 := fromL_len (res := Bk) (by omega) hvN
    have hl4 := toL_len (res := Bk) (by omega) huN
    have ht1 := turn1 hwf hrlen (by omega : Bk.length = C.Head.length) hBk hvN
    have ht2 := turn2 hwf hrlen (by omega : Bk.length = C.Head.length) hBk huN
    refine cw_exit ?_
    refine then_exit (then_exit (in_exit (?_)))
    refine Ends.keep [(11, .eq _), (12, .eq _), (13, .eq _), (14, .eq _), (15, .eq _), (16, .eq _)] (.cons rfl (.cons rfl (.cons rfl (.cons rfl (.cons rfl (.cons rfl .nil)))))) ?_
    refine ends_then ?_
    refine cw_seq ?_
    -- region 10
    refine cw_draw (by kernel_rfl) (List.take 7 _) (List.drop 7 _) (List.take_append_drop 7 _).symm (by kernel_rfl) ?_
    refine free_v (ok_ldS rfl (.n rfl) rfl Try.isAgg29 Try.sizeOf29 hS rfl) ?_
    refine free_v (ok_move rfl (.n rfl) rfl) ?_
    refine free_v (ok_move rfl (.n rfl) rfl) ?_
    refine free_cons (ok_callL rfl rfl Try.call41 rfl (fun w' hg => f41 C q R v A6 c6 w' hwf ((hS.grow hg).cs q) ((hS.grow hg).rd A6 (by omega)))) ?_
    refine free_v (ok_ldS rfl (.n rfl) rfl Try.isAgg29 Try.sizeOf29 hS rfl) ?_
    refine free_v (ok_move rfl (.n rfl) rfl) ?_
    refine free_v (ok_move rfl (.n rfl) rfl) ?_
    refine free_nil ?_
    intro wz hg_
    refine LW.opened (s := 66) rfl ?_
    rintro _ ⟨A66, c66, rfl, ho66, hf66⟩
    replace hS := hS.one' hg_ ho66 hf66 (by omega); clear hg_ ho66 hf66
    refine lw_call (f := 42) (xs := [_, _, _]) rfl rfl rfl Try.call42 rfl (Calls.mono (f42 C q R u A6 c6 _ hwf (hS.cs q) (hS.rd A6 (by omega))) ?_)
    rintro e w' ⟨A70, c70, rfl, hg, hfr, ho⟩
    replace hS := hS.new hg _ ho hfr; clear hg ho hfr
    replace hS := hS.freeze .here (by omega)
    refine ⟨_, rfl, ?_⟩
    refine lw_v rfl rfl (ok_assign rfl (.n rfl) rfl) ?_
    refine lw_v rfl rfl (ok_assign rfl (.n rfl) rfl) ?_
    refine lw_nil ?_
    refine Ends.keep [(11, .eq _), (13, .eq _), (14, .eq _), (15, .eq _), (16, .eq _), (18, .eq _), (19, .eq _)] (.cons rfl (.cons rfl (.cons rfl (.cons rfl (.cons rfl (.cons rfl (.cons rfl .nil))))))) ?_
    refine ends_then ?_
    refine cw_seq ?_
    refine cw_seq ?_
    -- region 11
    refine cw_region ?_
    refine lw_v rfl rfl (ok_move rfl (.n rfl) rfl) ?_
    refine lw_v rfl rfl (ok_ldS rfl (.n rfl) rfl Try.isAgg29 Try.sizeOf29 hS rfl) ?_
    refine lw_v rfl rfl (ok_move rfl (.n rfl) rfl) ?_
    refine lw_v rfl rfl (ok_move rfl (.n rfl) rfl) ?_
    refine lw_call (f := 42) (xs := [_, _, _]) rfl rfl rfl Try.call42 rfl (Calls.mono (f42 C q Bk v A45 c45 _ hwf (hS.cs q) (hS.rd A45 (by omega))) ?_)
    rintro e w' ⟨A75, c75, rfl, hg, hfr, ho⟩
    replace hS := hS.new hg _ ho hfr; clear hg ho hfr
    replace hS := hS.freeze .here (by omega)
    refine ⟨_, rfl, ?_⟩
    refine lw_call (f := 30) (xs := [_, _]) rfl rfl rfl Try.call30 rfl (Calls.mono (f30g A66 c66 A75 c75 _ (fromL C Bk (v : Int)) (toL C R (v : Int)) (hS.rd A66 (by omega)) (hS.rd A75 (by omega))) ?_)
    rintro e w' ⟨rfl, hg⟩
    replace hS := hS.grow hg; clear hg
    refine ⟨_, rfl, ?_⟩
    refine lw_v rfl rfl (ok_eq (g := none) (ok_not rfl (.n rfl) rfl) (c' := .bool false) (fun _ => by rw [decide_eq_true ht1]; rfl)) ?_
    refine lw_v rfl rfl (ok_move rfl (.n rfl) rfl) ?_
    refine lw_on (.s rfl rfl) rfl ?_
    refine lw_v rfl rfl (ok_move rfl (.n rfl) rfl) ?_
    refine lw_on (.s rfl rfl) rfl ?_
    refine lw_v rfl rfl (ok_ldS rfl (.n rfl) rfl Try.isAgg29 Try.sizeOf29 hS rfl) ?_
    refine lw_on (.s rfl rfl) rfl ?_
    refine lw_v rfl rfl (ok_move rfl (.n rfl) rfl) ?_
    refine lw_on (.s rfl rfl) rfl ?_
    refine lw_v rfl rfl (ok_move rfl (.n rfl) rfl) ?_
    refine lw_on (.s rfl rfl) rfl ?_
    refine lw_call (f := 41) (xs := [_, _, _]) rfl rfl rfl Try.call41 rfl (Calls.mono (f41 C q Bk u A45 c45 _ hwf (hS.cs q) (hS.rd A45 (by omega))) ?_)
    rintro e w' ⟨A83, c83, rfl, hg, hfr, ho⟩
    replace hS := hS.new hg _ ho hfr; clear hg ho hfr
    replace hS := hS.freeze .here (by omega)
    refine ⟨_, rfl, ?_⟩
    refine lw_on (.s rfl rfl) rfl ?_
    refine lw_call (f := 30) (xs := [_, _]) rfl rfl rfl Try.call30 rfl (Calls.mono (f30g A70 c70 A83 c83 _ (toL C Bk (u : Int)) (fromL C R (u : Int)) (hS.rd A70 (by omega)) (hS.rd A83 (by omega))) ?_)
    rintro e w' ⟨rfl, hg⟩
    replace hS := hS.grow hg; clear hg
    refine ⟨_, rfl, ?_⟩
    refine lw_on (.s rfl rfl) rfl ?_
    refine lw_v rfl rfl (ok_not rfl (.n rfl) rfl) ?_
    refine lw_v rfl rfl (ok_pick rfl rfl rfl rfl rfl) ?_
    refine lw_v rfl rfl (ok_move rfl (.n rfl) rfl) ?_
    refine lw_v rfl rfl (ok_move rfl (.s rfl rfl) rfl) ?_
    refine lw_v rfl rfl (ok_len rfl (.s rfl rfl) Try.underlying26 rfl) ?_
    refine lw_v rfl rfl (ok_fb rfl (.s rfl rfl) Try.underlying29 rfl Try.sizeOf3 (by decide) rfl) ?_
    refine lw_v rfl rfl (ok_ldb rfl (.s rfl rfl) rfl Try.isAgg3 hS (by rfl)) ?_
    refine lw_v rfl rfl (ok_neq rfl (.s rfl rfl) rfl rfl) ?_
    refine lw_v rfl rfl (ok_or rfl rfl rfl rfl) ?_
    refine lw_v rfl rfl (ok_move rfl (.n rfl) rfl) ?_
    refine lw_v rfl rfl (ok_move rfl (.s rfl rfl) rfl) ?_
    refine lw_v rfl rfl (ok_len rfl (.s rfl rfl) Try.underlying26 rfl) ?_
    refine lw_v rfl rfl (ok_fb rfl (.s rfl rfl) Try.underlying29 rfl Try.sizeOf3 (by decide) rfl) ?_
    refine lw_v rfl rfl (ok_ldb rfl (.s rfl rfl) rfl Try.isAgg3 hS (by rfl)) ?_
    refine lw_v rfl rfl (ok_neq rfl (.s rfl rfl) rfl rfl) ?_
    refine lw_v rfl rfl (ok_or rfl rfl rfl rfl) ?_
    refine lw_nil ?_
    refine Ends.keep [(11, .eq _), (13, .eq _), (14, .eq _), (15, .eq _), (18, .eq _), (19, .eq _), (100, .eq _)] (.cons rfl (.cons rfl (.cons rfl (.cons rfl (.cons rfl (.cons rfl (.cons rfl .nil))))))) ?_
    refine ends_then ?_
    refine cw_cond rfl (fun h100 => ?_) (fun h100 => ?_)
    ·
      rw [decide_eq_true ht2, hl1, hl2] at h100
      simp at h100
    ·
      have hr1 : 0 ≤ (toL C R (v : Int)).getD (x : Int).toNat 0 ∧ (toL C R (v : Int)).getD (x : Int).toNat 0 ≤ C.N := toL_at hrlen hvN hxN
      have hr2 : 0 ≤ (fromL C R (u : Int)).getD (x : Int).toNat 0 ∧ (fromL C R (u : Int)).getD (x : Int).toNat 0 ≤ C.N := fromL_at hrlen huN hxN
      refine cw_skip ?_
      refine ends_then ?_
      refine cw_seq ?_
      refine cw_seq ?_
      -- region 13
      refine cw_draw (by kernel_rfl) (List.take 40 _) (List.drop 40 _) (List.take_append_drop 40 _).symm (by kernel_rfl) ?_
      refine free_v (ok_move rfl (.n rfl) rfl) ?_
      refine free_v (ok_move rfl (.n rfl) rfl) ?_
      refine free_v (ok_ix rfl (.n rfl) Try.underlying26 Try.sizeOf3 rfl rfl hS (fun _ => ⟨by omega, by omega⟩)) ?_
      refine free_v (ok_ldx rfl (.n rfl) rfl Try.isAgg3 hS (fun _ => ⟨by omega, by omega⟩) (by rfl)) ?_
      refine free_v (ok_move rfl (.n rfl) rfl) ?_
      refine free_v (ok_move rfl (.n rfl) rfl) ?_
      refine free_v (ok_ix rfl (.n rfl) Try.underlying26 Try.sizeOf3 rfl rfl hS (fun _ => ⟨by omega, by omega⟩)) ?_
      refine free_v (ok_ldx rfl (.n rfl) rfl Try.isAgg3 hS (fun _ => ⟨by omega, by omega⟩) (by rfl)) ?_
      refine free_v (ok_neq rfl (.n rfl) rfl rfl) ?_
      refine free_v (ok_move rfl (.n rfl) rfl) ?_
      refine free_v (ok_move rfl (.s rfl rfl) rfl) ?_
      refine free_v (ok_move rfl (.s rfl rfl) rfl) ?_
      refine free_v (ok_ix rfl (.s rfl rfl) Try.underlying26 Try.sizeOf3 rfl rfl hS (fun _ => ⟨by omega, by omega⟩)) ?_
      refine free_v (ok_ldx rfl (.s rfl rfl) rfl Try.isAgg3 hS (fun _ => ⟨by omega, by omega⟩) (by rfl)) ?_
      refine free_v (ok_fb rfl (.s rfl rfl) Try.underlying29 rfl Try.sizeOf3 (by decide) rfl) ?_
      refine free_v (ok_ldb rfl (.s rfl rfl) rfl Try.isAgg3 hS (by rfl)) ?_
      refine free_v (ok_lss rfl (.s rfl rfl) rfl rfl) ?_
      refine free_v (ok_move rfl (.s rfl rfl) rfl) ?_
      refine free_v (ok_move rfl (.s rfl rfl) rfl) ?_
      refine free_v (ok_move rfl (.s rfl rfl) rfl) ?_
      refine free_v (ok_ix rfl (.s rfl rfl) Try.underlying26 Try.sizeOf3 rfl rfl hS (fun _ => ⟨by omega, by omega⟩)) ?_
      refine free_v (ok_ldx rfl (.s rfl rfl) rfl Try.isAgg3 hS (fun _ => ⟨by omega, by omega⟩) (by rfl)) ?_
      refine free_v (ok_fb rfl (.s rfl rfl) Try.underlying29 rfl Try.sizeOf3 (by decide) rfl) ?_
      refine free_v (ok_ldb rfl (.s rfl rfl) rfl Try.isAgg3 hS (by rfl)) ?_
      refine free_v (ok_lss rfl (.s rfl rfl) rfl rfl) ?_
      refine free_v (ok_andg rfl (.s rfl rfl) rfl rfl) ?_
      refine free_v (ok_move rfl (.s rfl rfl) rfl) ?_
      refine free_v (ok_move rfl (.s rfl rfl) rfl) ?_
      refine free_v (ok_move rfl (.s rfl rfl) rfl) ?_
      refine free_v (ok_ix rfl (.s rfl rfl) Try.underlying26 Try.sizeOf3 rfl rfl hS (fun _ => ⟨by omega, by omega⟩)) ?_
      refine free_v (ok_ldx rfl (.s rfl rfl) rfl Try.isAgg3 hS (fun _ => ⟨by omega, by omega⟩) (by rfl)) ?_
      refine free_v (ok_move rfl (.s rfl rfl) rfl) ?_
      refine free_v (ok_move rfl (.s rfl rfl) rfl) ?_
      refine free_v (ok_ix rfl (.s rfl rfl) Try.underlying26 Try.sizeOf3 rfl rfl hS (fun _ => ⟨by omega, by omega⟩)) ?_
      refine free_v (ok_ldx rfl (.s rfl rfl) rfl Try.isAgg3 hS (fun _ => ⟨by omega, by omega⟩) (by rfl)) ?_
      refine free_v (ok_move rfl (.s rfl rfl) rfl) ?_
      refine free_v (ok_move rfl (.s rfl rfl) rfl) ?_
      refine free_v (ok_ix rfl (.s rfl rfl) Try.underlying26 Try.sizeOf3 rfl rfl hS (fun _ => ⟨by omega, by omega⟩)) ?_
      refine free_v (ok_ldx rfl (.s rfl rfl) rfl Try.isAgg3 hS (fun _ => ⟨by omega, by omega⟩) (by rfl)) ?_
      refine free_v (ok_addi rfl (.s rfl rfl) rfl rfl (fun _ => ⟨by omega, by omega⟩)) ?_
      refine free_nil ?_
      intro w8 hg_; replace hS := hS.grow hg_; clear hg_
      refine lw_v rfl rfl (ok_gtr rfl (.s rfl rfl) rfl rfl) ?_
      refine lw_v rfl rfl (ok_andg rfl (.s rfl rfl) rfl rfl) ?_
      refine lw_v rfl rfl (ok_or rfl rfl rfl rfl) ?_
      refine lw_nil ?_
      refine Ends.keep [(143, .eq _)] (.cons rfl .nil) ?_
      refine ends_then ?_
      refine cw_cond rfl (fun h143 => ?_) (fun h143 => ?_)
      ·
        have h1 : (toL C R (v : Int)).getD (u : Int).toNat 0 = (fromL C R (u : Int)).getD (v : Int).toNat 0 := to_from (toL_low (inB_of hrlen hvN)) (fromL_low (inB_of hrlen huN)) huN hvN
        have h2 : (toL C R (v : Int)).getD (x : Int).toNat 0 < C.N → (fromL C R (u : Int)).getD (v : Int).toNat 0 ≤ (fromL C R (u : Int)).getD (x : Int).toNat 0 + (toL C R (v : Int)).getD (x : Int).toNat 0 := over_third (toL_low (inB_of hrlen hvN)) (fromL_low (inB_of hrlen huN)) hxN
        rw [h1, decide_eq_true rfl, Bool.not_true, Bool.false_or, Bool.and_eq_true, Bool.and_eq_true, decide_eq_true_eq, decide_eq_true_eq, decide_eq_true_eq] at h143
        have := h2 h143.1.2
        omega
      ·
        refine cw_skip ?_
        refine ends_then ?_
        refine cw_seq ?_
        -- region 15
        refine cw_region ?_
        refine lw_call (f := 43) (xs := []) rfl rfl rfl Try.call43 rfl (Calls.mono (f43 _) ?_)
        rintro e w' ⟨rfl, hg⟩
        replace hS := hS.grow hg; clear hg
        refine ⟨_, rfl, ?_⟩
        refine lw_v rfl rfl (ok_assign rfl (.n rfl) rfl) ?_
        refine lw_nil ?_
        refine Ends.keep [(10, .eq _)] (.cons rfl .nil) ?_
        refine ends_then ?_
        refine cw_ret ?_
        exact end_ret (res1 Try.results9 rfl) ⟨rfl, hS.below⟩

end Go.Proofs.Ytnpgeohkmdcbkaa.Aq
