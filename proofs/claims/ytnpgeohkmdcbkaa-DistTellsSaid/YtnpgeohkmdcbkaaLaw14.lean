/- The walk of the law DistTells. -/
import Derived.Test.YtnpgeohkmdcbkaaB5
import Derived.Test.YtnpgeohkmdcbkaaB6
namespace Go.Proofs.Ytnpgeohkmdcbkaa.Aq
open Go Go.RowKit

/-- New lists of numbers, in a list. -/
def NewR (xss : List (List Int)) (v : Value) (w : World) : Prop := ∃ A c hs, v = .slice A hs.length c ∧ (sl eSl 1 A hs.length c hs).p w ∧ (sls hs xss).p w
theorem ok_callR {n : Nat} {ops : Array Oper} {E : Env} {o : Oper} {w0 : World} {f : FuncId} {xs : List Operand} {ts : Array TypeId} {vs : List Value} {res : List (List Int)} (hg : o.guard = none) (ho : o.op = .call { callee := .value (.func f), args := xs.toArray, argTypes := ts }) (hf : ∀ args w, (callFunc f args).run Try.prog w = .ok (.enter f args) w)
    (hx : E.all none xs = some vs) (hc : ∀ w, Gr w0 w → RetR f vs w res) : OpOk Try.prog n ops (Gr w0) E o (.sat (NewR res)) :=
  ok_call (NewR res) hg ho hf hx fun w hg => (hc w hg).mono fun _ _ ⟨A, c, hs, he, hg2, _, _, h1, h2⟩ => ⟨_, he, hg2, fun _ hg3 => ⟨A, c, hs, rfl, Asn.grow _ h1 hg3, Asn.grow _ h2 hg3⟩⟩
theorem fromL_rng {c : Cs} {res : List Int} {t : Int} : (fromL c res t).length ≤ c.N := by
  cases h : inB c res t with
  | true => exact Nat.le_of_eq (fromL_low h).len
  | false => rw [fromL_no h]; exact Nat.zero_le _
theorem wayF_len2 (c : Cs) (res : List Int) (s t : Int) (hN : c.N ≤ 16) : (wayF c res s t).length ≤ 16 := by
  unfold wayF
  split
  · rename_i h
    obtain ⟨h1, h2, h3, h4⟩ := wayB_iff.1 h
    rw [wayL_len]
    omega
  · exact Nat.zero_le _

set_option maxRecDepth 10000 in
/-- acequialaw05.DistTells. -/
theorem f14 (n : Nt) (A : Option Addr) (c : Nat) (l : List Int) (A1 : Option Addr) (c1 : Nat) (s0 t0 odd : Int) (w : World) (ha : (sl eArc 3 A n.arcs.length c n.arcs).p w) (hrgn : (-9223372036854775808 ≤ n.N ∧ n.N ≤ 9223372036854775807) ∧ (-9223372036854775808 ≤ n.S ∧ n.S ≤ 9223372036854775807) ∧ (-9223372036854775808 ≤ n.T ∧ n.T ≤ 9223372036854775807) ∧ ∀ a ∈ n.arcs, -9223372036854775808 ≤ a.1 ∧ a.1 ≤ 9223372036854775807 ∧ -9223372036854775808 ≤ a.2.1 ∧ a.2.1 ≤ 9223372036854775807 ∧ -9223372036854775808 ≤ a.2.2 ∧ a.2.2 ≤ 9223372036854775807) (hl : (sl (eInt .i64) 1 A1 l.length c1 l).p w) (hrgl : ∀ x ∈ l, -9223372036854775808 ≤ x ∧ x ≤ 9223372036854775807) (hs0 : -9223372036854775808 ≤ s0 ∧ s0 ≤ 9223372036854775807) (ht0 : -9223372036854775808 ≤ t0 ∧ t0 ≤ 9223372036854775807) (hodd : 0 ≤ odd ∧ odd ≤ 255) :
    Calls Try.prog 14 #[netV n A c, .slice A1 l.length c1, .int .i64 s0, .int .i64 t0, .int .u8 odd] w fun e w' => e = .returned (.bool true) ∧ Gr w w' := by
  refine calls_cw Try.func14 rfl Try.ntmps14 rfl ?_
  have hS := ((St.start w).args (Nat.le_refl _) _ ha rfl).args (Nat.le_refl _) _ hl rfl
  refine cw_seq ?_
  -- region 0
  refine cw_region ?_
  refine lw_box rfl rfl rfl rfl hS ?_
  clear hS; intro b5 w1 _ _ hS
  refine lw_v rfl rfl (ok_assign rfl (.n rfl) rfl) ?_
  refine lw_nil ?_
  refine Ends.keep [(1, .eq _), (2, .eq _), (3, .eq _), (4, .eq _), (5, .eq _)] (.cons rfl (.cons rfl (.cons rfl (.cons rfl (.cons rfl .nil))))) ?_
  refine ends_then ?_
  refine cw_seq ?_
  -- region 1
  refine cw_region ?_
  refine lw_v rfl rfl (ok_ldS rfl (.n rfl) rfl Try.isAgg24 Try.sizeOf24 hS rfl) ?_
  refine lw_call (f := 24) (xs := [_, _, _]) rfl rfl rfl Try.call24 rfl (Calls.mono (f24a n A c _ (hS.rd A (by have := ha.2.1; omega)) hrgn) ?_)
  rintro e w' ⟨n1, AS, cS, hok, rfl, hg, hfr, ho⟩
  replace hS := hS.new hg _ ho hfr; clear hg ho hfr
  refine ⟨_, rfl, ?_⟩
  refine lw_v rfl rfl (ok_move rfl (.n rfl) rfl) ?_
  refine lw_call (f := 23) (xs := [_, _]) rfl rfl rfl Try.call23 rfl (Calls.mono (f23a n1 AS cS l A1 c1 _ hok (hS.rd AS (by have := hok.len; omega)) (hS.rd A1 hl.2.1) hl.2.1 hrgl) ?_)
  rintro e w' ⟨C, R, q, A6, c6, ⟨hwf, hro⟩, rfl, hg, hnew, hat, hfr, hap, ho⟩
  replace hS := hS.left hg hat hnew ho hfr hap; clear hg hnew hat hfr hap ho
  replace hS := hS.sub (.cons_cons _ (.cons_cons _ (.cons_cons _ (.cons_cons _ (.cons_cons _ (.cons_cons _ (.cons_cons _ (.cons _ (.cons _ (List.Sublist.refl _))))))))))
  have hM := hwf.m
  have hrlen := hro.len
  have hN := hwf.hi
  have hlo := hwf.lo
  refine ⟨_, rfl, ?_⟩
  refine lw_v rfl rfl (ok_move rfl (.n rfl) rfl) ?_
  refine lw_v rfl rfl (ok_extract rfl (.n rfl) rfl rfl) ?_
  refine lw_v rfl rfl (ok_extract rfl (.n rfl) rfl rfl) ?_
  refine lw_alloc rfl rfl rfl Try.zeroValue29 hS ?_
  clear hS; intro b11 w2 _ _ hS
  refine lw_stS rfl rfl rfl rfl rfl (by kernel_rfl) hS rfl (by rfl) (by rfl) ?_
  clear hS; intro w3 hS
  refine lw_v rfl rfl (ok_assign rfl (.n rfl) rfl) ?_
  refine lw_nil ?_
  refine Ends.keep [(2, .eq _), (3, .eq _), (4, .eq _), (11, .eq _), (12, .eq _)] (.cons rfl (.cons rfl (.cons rfl (.cons rfl (.cons rfl .nil))))) ?_
  refine ends_then ?_
  refine cw_cut3 [(2, .eq _), (3, .eq _), (11, .eq _)] (fun (AR : Option Addr) (cR : Nat) (rs : List Int) => [(12, .eq (.slice AR rs.length cR))]) (fun AR cR rs w' => rs.length ≤ 1300 ∧ St w.heap.size w w' [sl (eInt .i64) 1 AR rs.length cR rs, bx b11 (csV C q).cells.toList 29, sl (eInt .i64) 1 q.a0 C.First.length q.c0 C.First, sl (eInt .i64) 1 q.a1 C.Head.length q.c1 C.Head, sl (eInt .i64) 1 q.a2 C.Rev.length q.c2 C.Rev, sl (eInt .i64) 1 q.a3 C.Cap.length q.c3 C.Cap, sl (eInt .i64) 1 q.a4 C.Arc.length q.c4 C.Arc, sl eBool 1 q.a5 C.Back.length q.c5 C.Back, sl (eInt .i64) 1 A1 l.length c1 l, sl eArc 3 A n.arcs.length c n.arcs]) (.cons rfl (.cons rfl (.cons rfl .nil))) ?_ ?_
  ·
    refine cw_seq ?_
    -- region 2
    refine cw_region ?_
    refine lw_v rfl rfl (ok_move rfl (.n rfl) rfl) ?_
    refine lw_v rfl rfl (ok_rem rfl (.n rfl) rfl rfl (fun _ => by omega)) ?_
    refine lw_nil ?_
    refine Ends.keep [(2, .eq _), (3, .eq _), (11, .eq _), (12, .eq _), (25, .eq _)] (.cons rfl (.cons rfl (.cons rfl (.cons rfl (.cons rfl .nil))))) ?_
    refine ends_then ?_
    refine cw_block ?_
    refine cw_seq ?_
    -- region 3
    refine cw_region ?_
    refine lw_v rfl rfl (ok_eql rfl (.n rfl) rfl rfl) ?_
    refine lw_v rfl rfl (ok_assign rfl (.n rfl) rfl) ?_
    refine lw_nil ?_
    refine Ends.keep [(2, .eq _), (3, .eq _), (11, .eq _), (12, .eq _), (25, .eq _), (26, .eq _)] (.cons rfl (.cons rfl (.cons rfl (.cons rfl (.cons rfl (.cons rfl .nil)))))) ?_
    refine ends_then ?_
    refine cw_cond rfl (fun h26 => ?_) (fun h26 => ?_)
    ·
      -- region 4
      refine cw_region ?_
      refine lw_v rfl rfl (ok_move rfl (.n rfl) rfl) ?_
      refine lw_ls (enc := (eInt .i64)) [1] rfl rfl rfl Try.underlying25 Try.sizeOf2 Try.zeroValue2 rfl (by kernel_rfl) rfl (by decide) (by decide) hS ?_
      clear hS; intro A29 c29 w4 _ hS
      refine lw_append (enc := (eInt .i64)) rfl rfl rfl Try.underlying25 info2 rfl rfl rfl hS (by decide) (by omega) (by omega) ?_
      intro A30 c30 w5 hS1; replace hS := hS1 _ (Rep.r); clear hS1
      refine lw_v rfl rfl (ok_assign rfl (.n rfl) rfl) ?_
      refine lw_nil ?_
      refine in_normal (?_)
      -- CUT
      refine ends_cut3 A30 c30 (R ++ [1]) (.cons rfl (.cons rfl (.cons rfl (.cons rfl .nil)))) ⟨by simp; omega, hS.tail.swap.freeze .here (by simp; omega)⟩
    ·
      refine cw_seq ?_
      -- region 5
      refine cw_region ?_
      refine lw_v rfl rfl (ok_eql rfl (.n rfl) rfl rfl) ?_
      refine lw_v rfl rfl (ok_assign rfl (.n rfl) rfl) ?_
      refine lw_nil ?_
      refine Ends.keep [(2, .eq _), (3, .eq _), (11, .eq _), (12, .eq _), (31, .eq _)] (.cons rfl (.cons rfl (.cons rfl (.cons rfl (.cons rfl .nil))))) ?_
      refine ends_then ?_
      refine cw_cond rfl (fun h31 => ?_) (fun h31 => ?_)
      ·
        -- region 6
        refine cw_region ?_
        refine lw_v rfl rfl (ok_move rfl (.n rfl) rfl) ?_
        refine lw_v rfl rfl (ok_move rfl (.n rfl) rfl) ?_
        refine lw_v rfl rfl (ok_len rfl (.n rfl) Try.underlying25 rfl) ?_
        refine lw_v rfl rfl (ok_quo rfl (.n rfl) rfl rfl (fun _ => by omega)) ?_
        refine lw_v rfl rfl (ok_slto (k := (R.take (R.length / 2)).length) (enc := (eInt .i64)) rfl (.n rfl) Try.underlying25 Try.sizeOf2 rfl rfl hS ⟨by rw [half_eq _ (by omega), List.length_take, Nat.min_eq_left (by omega)], by rw [List.length_take]; omega⟩) ?_
        refine lw_v rfl rfl (ok_assign rfl (.n rfl) rfl) ?_
        refine lw_nil ?_
        refine in_normal (?_)
        -- CUT
        refine ends_cut3 A6 c6 (R.take (R.length / 2)) (.cons rfl (.cons rfl (.cons rfl (.cons rfl .nil)))) ⟨by rw [List.length_take]; omega, ((hS.swap.freeze .here (by omega)).take' (.head _) (R.length / 2) (by omega)).drop2⟩
      ·
        refine cw_skip ?_
        refine in_normal (?_)
        -- CUT
        refine ends_cut3 A6 c6 R (.cons rfl (.cons rfl (.cons rfl (.cons rfl .nil)))) ⟨by omega, hS.swap.freeze .here (by omega)⟩
  ·
    clear hS
    rintro AR cR rs wc ⟨hrs, hS⟩
    have hwy := wayF_len2 C rs s0 t0 hN
    have hb1 : (toL C rs t0).length ≤ 140737488351232 := by have := (toL_rng (c := C) (res := rs) (t := t0)).1; omega
    have hb2 : (fromL C rs s0).length ≤ 140737488351232 := by have := fromL_rng (c := C) (res := rs) (t := s0); omega
    refine cw_seq ?_
    -- region 7
    refine cw_region ?_
    refine lw_v rfl rfl (ok_ldS rfl (.n rfl) rfl Try.isAgg29 Try.sizeOf29 hS rfl) ?_
    refine lw_v rfl rfl (ok_move rfl (.n rfl) rfl) ?_
    refine lw_v rfl rfl (ok_move rfl (.n rfl) rfl) ?_
    refine lw_v rfl rfl (ok_move rfl (.n rfl) rfl) ?_
    refine lw_call (f := 54) (xs := [_, _, _, _]) rfl rfl rfl Try.call54 rfl (Calls.mono (f54 C q rs s0 t0 AR cR _ hwf (hS.cs q) (hS.rd AR (by omega))) ?_)
    rintro e w' ⟨A43, c43, rfl, hg, hfr, ho⟩
    replace hS := hS.new hg _ ho hfr; clear hg ho hfr
    replace hS := hS.freeze .here (by omega)
    refine ⟨_, rfl, ?_⟩
    refine lw_v rfl rfl (ok_move rfl (.n rfl) rfl) ?_
    refine lw_v rfl rfl (ok_extract rfl (.n rfl) rfl rfl) ?_
    refine lw_v rfl rfl (ok_extract rfl (.n rfl) rfl rfl) ?_
    refine lw_v rfl rfl (ok_assign rfl (.n rfl) rfl) ?_
    refine lw_v rfl rfl (ok_assign rfl (.n rfl) rfl) ?_
    refine lw_nil ?_
    refine Ends.keep [(2, .eq _), (3, .eq _), (11, .eq _), (12, .eq _), (13, .eq _), (14, .eq _)] (.cons rfl (.cons rfl (.cons rfl (.cons rfl (.cons rfl (.cons rfl .nil)))))) ?_
    refine ends_then ?_
    refine cw_seq ?_
    -- region 8
    refine cw_region ?_
    refine lw_v rfl rfl (ok_ldS rfl (.n rfl) rfl Try.isAgg29 Try.sizeOf29 hS rfl) ?_
    refine lw_v rfl rfl (ok_move rfl (.n rfl) rfl) ?_
    refine lw_v rfl rfl (ok_move rfl (.n rfl) rfl) ?_
    refine lw_v rfl rfl (ok_move rfl (.n rfl) rfl) ?_
    refine lw_call (f := 55) (xs := [_, _, _, _]) rfl rfl rfl Try.call55 rfl (Calls.mono (f55 C q rs s0 t0 AR cR _ hwf (hS.cs q) (hS.rd AR (by omega))) ?_)
    rintro e w' ⟨A51, c51, rfl, hg, hfr, ho⟩
    replace hS := hS.new hg _ ho hfr; clear hg ho hfr
    replace hS := hS.freeze .here (by omega)
    refine ⟨_, rfl, ?_⟩
    refine lw_v rfl rfl (ok_move rfl (.n rfl) rfl) ?_
    refine lw_v rfl rfl (ok_extract rfl (.n rfl) rfl rfl) ?_
    refine lw_v rfl rfl (ok_extract rfl (.n rfl) rfl rfl) ?_
    refine lw_v rfl rfl (ok_assign rfl (.n rfl) rfl) ?_
    refine lw_v rfl rfl (ok_assign rfl (.n rfl) rfl) ?_
    refine lw_nil ?_
    refine Ends.keep [(2, .eq _), (3, .eq _), (11, .eq _), (12, .eq _), (13, .eq _), (14, .eq _), (15, .eq _), (16, .eq _)] (.cons rfl (.cons rfl (.cons rfl (.cons rfl (.cons rfl (.cons rfl (.cons rfl (.cons rfl .nil)))))))) ?_
    refine ends_then ?_
    refine cw_seq ?_
    -- region 9
    refine cw_draw (by kernel_rfl) (List.take 38 _) (List.drop 38 _) (List.take_append_drop 38 _).symm (by kernel_rfl) ?_
    refine free_v (ok_ldS rfl (.n rfl) rfl Try.isAgg29 Try.sizeOf29 hS rfl) ?_
    refine free_v (ok_move rfl (.n rfl) rfl) ?_
    refine free_v (ok_move rfl (.n rfl) rfl) ?_
    refine free_cons (ok_callL rfl rfl Try.call41 rfl (fun w' hg => f41 C q rs t0 AR cR w' hwf ((hS.grow hg).cs q) ((hS.grow hg).rd AR (by omega)))) ?_
    refine free_v (ok_ldS rfl (.n rfl) rfl Try.isAgg29 Try.sizeOf29 hS rfl) ?_
    refine free_v (ok_move rfl (.n rfl) rfl) ?_
    refine free_v (ok_move rfl (.n rfl) rfl) ?_
    refine free_cons (ok_callL rfl rfl Try.call56 rfl (fun w' hg => f56 C q rs t0 AR cR w' hwf ((hS.grow hg).cs q) ((hS.grow hg).rd AR (by omega)))) ?_
    refine free_cons (ok_callSv (.bool true) (xs := [_, _]) rfl rfl Try.call30 (fun vs w' hg hv => by
        match vs, hv with
        | [v0_, v1_], hv =>
          obtain ⟨⟨A_, c_, rfl, ho_, _⟩, ⟨B_, d_, rfl, ho2_, _⟩, _⟩ := hv
          exact f30s A_ c_ B_ d_ _ w' (own_sl ho_ hb1) (own_sl ho2_ hb1))) ?_
    refine free_v (ok_move rfl (.n rfl) rfl) ?_
    refine free_cons (ok_on (.s rfl rfl) rfl (by rfl) (OpV.ok (ok_ldS rfl (.n rfl) rfl Try.isAgg29 Try.sizeOf29 hS rfl))) ?_
    refine free_cons (ok_on (.s rfl rfl) rfl (by rfl) (OpV.ok (ok_move rfl (.n rfl) rfl))) ?_
    refine free_cons (ok_on (.s rfl rfl) rfl (by rfl) (OpV.ok (ok_move rfl (.n rfl) rfl))) ?_
    refine free_cons (ok_on (.s rfl rfl) rfl (by rfl) (ok_callL rfl rfl Try.call42 rfl (fun w' hg => f42 C q rs s0 AR cR w' hwf ((hS.grow hg).cs q) ((hS.grow hg).rd AR (by omega))))) ?_
    refine free_cons (ok_on (.s rfl rfl) rfl (by rfl) (OpV.ok (ok_ldS rfl (.n rfl) rfl Try.isAgg29 Try.sizeOf29 hS rfl))) ?_
    refine free_cons (ok_on (.s rfl rfl) rfl (by rfl) (OpV.ok (ok_move rfl (.n rfl) rfl))) ?_
    refine free_cons (ok_on (.s rfl rfl) rfl (by rfl) (OpV.ok (ok_move rfl (.n rfl) rfl))) ?_
    refine free_cons (ok_on (.s rfl rfl) rfl (by rfl) (ok_callL rfl rfl Try.call57 rfl (fun w' hg => f57 C q rs s0 AR cR w' hwf ((hS.grow hg).cs q) ((hS.grow hg).rd AR (by omega))))) ?_
    refine free_cons (ok_on (.s rfl rfl) rfl (by rfl) (ok_callSv (.bool true) (xs := [_, _]) rfl rfl Try.call30 (fun vs w' hg hv => by
        match vs, hv with
        | [v0_, v1_], hv =>
          obtain ⟨⟨A_, c_, rfl, ho_, _⟩, ⟨B_, d_, rfl, ho2_, _⟩, _⟩ := hv
          exact f30s A_ c_ B_ d_ _ w' (own_sl ho_ hb2) (own_sl ho2_ hb2)))) ?_
    refine free_v (ok_pick rfl rfl rfl rfl rfl) ?_
    refine free_v (ok_move rfl (.n rfl) rfl) ?_
    refine free_cons (ok_on (.s rfl rfl) rfl (by rfl) (OpV.ok (ok_move rfl (.n rfl) rfl))) ?_
    refine free_cons (ok_on (.s rfl rfl) rfl (by rfl) (OpV.ok (ok_move rfl (.n rfl) rfl))) ?_
    refine free_cons (ok_on (.s rfl rfl) rfl (by rfl) (OpV.ok (ok_eq (g := none) (ok_eqb rfl (.n rfl) Try.underlying4 rfl rfl) (c' := .bool true) (fun _ => congrArg Value.bool (by simp))))) ?_
    refine free_v (ok_pick rfl rfl rfl rfl rfl) ?_
    refine free_v (ok_move rfl (.n rfl) rfl) ?_
    refine free_cons (ok_on (.s rfl rfl) rfl (by rfl) (OpV.ok (ok_move rfl (.n rfl) rfl))) ?_
    refine free_cons (ok_on (.s rfl rfl) rfl (by rfl) (OpV.ok (ok_move rfl (.n rfl) rfl))) ?_
    refine free_cons (ok_on (.s rfl rfl) rfl (by rfl) (ok_callv (.bool true) rfl rfl Try.call30 rfl (fun w' hg => f30s A43 c43 A51 c51 _ w' ((hS.grow hg).rd A43 (by omega)) ((hS.grow hg).rd A51 (by omega))))) ?_
    refine free_v (ok_pick rfl rfl rfl rfl rfl) ?_
    refine free_v (ok_move rfl (.n rfl) rfl) ?_
    refine free_cons (ok_on (.s rfl rfl) rfl (by rfl) (OpV.ok (ok_ldS rfl (.n rfl) rfl Try.isAgg29 Try.sizeOf29 hS rfl))) ?_
    refine free_cons (ok_on (.s rfl rfl) rfl (by rfl) (OpV.ok (ok_move rfl (.n rfl) rfl))) ?_
    refine free_cons (ok_on (.s rfl rfl) rfl (by rfl) (OpV.ok (ok_move rfl (.n rfl) rfl))) ?_
    refine free_cons (ok_on (.s rfl rfl) rfl (by rfl) (ok_callR rfl rfl Try.call49 rfl (fun w' hg => f49 C q rs t0 AR cR w' hwf ((hS.grow hg).cs q) ((hS.grow hg).rd AR (by omega))))) ?_
    refine free_cons (ok_on (.s rfl rfl) rfl (by rfl) (OpV.ok (ok_ldS rfl (.n rfl) rfl Try.isAgg29 Try.sizeOf29 hS rfl))) ?_
    refine free_cons (ok_on (.s rfl rfl) rfl (by rfl) (OpV.ok (ok_move rfl (.n rfl) rfl))) ?_
    refine free_cons (ok_on (.s rfl rfl) rfl (by rfl) (OpV.ok (ok_move rfl (.n rfl) rfl))) ?_
    refine free_nil ?_
    intro w6 hg_; replace hS := hS.grow hg_; clear hg_
    refine LW.opened (s := 88) rfl ?_
    rintro _ ⟨A88, c88, hs88, rfl, h881, h882⟩
    refine lw_on (.s rfl rfl) rfl ?_
    refine lw_call (f := 59) (xs := [_, _, _]) rfl rfl rfl Try.call59 rfl (Calls.mono (f59 C q rs t0 AR cR _ hwf (hS.cs q) (hS.rd AR (by omega))) ?_)
    rintro e w' ⟨A92, c92, hs92, rfl, hg, _, _, ho1, ho2⟩
    have h883 := Asn.grow _ h881 hg
    have h884 := Asn.grow _ h882 hg
    replace hS := hS.grow hg; clear hg
    refine ⟨_, rfl, ?_⟩
    refine lw_on (.s rfl rfl) rfl ?_
    refine lw_call (f := 58) (xs := [_, _]) rfl rfl rfl Try.call58 rfl (Calls.mono (f58 (rowsL C rs t0) (rowsL C rs t0) hs88 hs92 A88 c88 A92 c92 _ h883 ho1 h884 ho2) ?_)
    rw [decide_eq_true rfl]
    rintro e w' ⟨rfl, hg⟩
    replace hS := hS.grow hg; clear hg
    refine ⟨_, rfl, ?_⟩
    refine lw_v rfl rfl (ok_pick rfl rfl rfl rfl rfl) ?_
    refine lw_v rfl rfl (ok_move rfl (.n rfl) rfl) ?_
    refine lw_on (.s rfl rfl) rfl ?_
    refine lw_call (f := 43) (xs := []) rfl rfl rfl Try.call43 rfl (Calls.mono (f43 _) ?_)
    rintro e w' ⟨rfl, hg⟩
    replace hS := hS.grow hg; clear hg
    refine ⟨_, rfl, ?_⟩
    refine lw_v rfl rfl (ok_pick rfl rfl rfl rfl rfl) ?_
    refine lw_v rfl rfl (ok_assign rfl (.n rfl) rfl) ?_
    refine lw_nil ?_
    refine Ends.keep [(10, .eq _)] (.cons rfl .nil) ?_
    refine ends_then ?_
    refine cw_ret ?_
    exact end_ret (res1 Try.results14 rfl) ⟨rfl, hS.below⟩

end Go.Proofs.Ytnpgeohkmdcbkaa.Aq
