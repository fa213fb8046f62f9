/- The walk of the law GlobalsTell. -/
import Derived.Test.YtnpgeohkmdcbkaaMark
import Derived.Test.YtnpgeohkmdcbkaaEng24
import Derived.Test.YtnpgeohkmdcbkaaB10
namespace Go.Proofs.Ytnpgeohkmdcbkaa.Aq
open Go Go.RowKit

theorem f44L (c : Cs) (q : Q6) (res : List Int) {m1 : Nat} (A1 : Option Addr) (c1 : Nat) (wk : Int) (w : World) (hwf : WF c) (hc : CsAt c q w) (hr : (sl (eInt .i64) 1 A1 m1 c1 res).p w) : RetL 44 [csV c q, .slice A1 m1 c1, .int .i64 wk] w (exactF c res wk) :=
  (f44 c q res A1 c1 wk w hwf hc hr).mono fun _ _ ⟨A, cc, h1, h2, h3, h4, _⟩ => ⟨A, cc, h1, h2, h3, h4⟩
def NewB (w0 : World) (xs : List Bool) (v : Value) (w : World) : Prop := ∃ A c, v = .slice A xs.length c ∧ (own eBool 1 4 A xs.length c xs).p w ∧ ∀ b, (own eBool 1 4 A xs.length c xs).fp b → w0.heap.size ≤ b
theorem ok_callB {n : Nat} {ops : Array Oper} {E : Env} {o : Oper} {w0 : World} {f : FuncId} {xs : List Operand} {ts : Array TypeId} {vs : List Value} {res : List Bool} (hg : o.guard = none) (ho : o.op = .call { callee := .value (.func f), args := xs.toArray, argTypes := ts }) (hf : ∀ args w, (callFunc f args).run Try.prog w = .ok (.enter f args) w)
    (hx : E.all none xs = some vs) (hc : ∀ w, Gr w0 w → RetBs f vs w res) : OpOk Try.prog n ops (Gr w0) E o (.sat (NewB w0 res)) :=
  ok_call (NewB w0 res) hg ho hf hx fun w hg => (hc w hg).mono fun _ _ ⟨A, c, he, hg2, hfr, hown⟩ => ⟨_, he, hg2, fun _ hg3 => ⟨A, c, rfl, Asn.grow _ hown hg3, fun b hb => Nat.le_trans hg.size (hfr b hb)⟩⟩
theorem f61s (A1 : Option Addr) (c1 : Nat) (A2 : Option Addr) (c2 : Nat) {m1 m2 : Nat} (xs : List Bool) (w : World) (h1 : (sl eBool 1 A1 m1 c1 xs).p w) (h2 : (sl eBool 1 A2 m2 c2 xs).p w) : RetV 61 [.slice A1 m1 c1, .slice A2 m2 c2] w (.bool true) := by
  have := f61 xs xs A1 c1 A2 c2 w h1 h2
  rwa [decide_eq_true rfl] at this

set_option maxHeartbeats 2000000 in
set_option maxRecDepth 10000 in
/-- acequialaw20.GlobalsTell. -/
theorem f22 (n : Nt) (A : Option Addr) (c : Nat) (l : List Int) (A1 : Option Addr) (c1 : Nat) (ex : List Int) (A2 : Option Addr) (c2 : Nat) (workers a1 a2 b1 b2 odd : Int) (w : World) (ha : (sl eArc 3 A n.arcs.length c n.arcs).p w) (hrgn : (-9223372036854775808 ≤ n.N ∧ n.N ≤ 9223372036854775807) ∧ (-9223372036854775808 ≤ n.S ∧ n.S ≤ 9223372036854775807) ∧ (-9223372036854775808 ≤ n.T ∧ n.T ≤ 9223372036854775807) ∧ ∀ a ∈ n.arcs, -9223372036854775808 ≤ a.1 ∧ a.1 ≤ 9223372036854775807 ∧ -9223372036854775808 ≤ a.2.1 ∧ a.2.1 ≤ 9223372036854775807 ∧ -9223372036854775808 ≤ a.2.2 ∧ a.2.2 ≤ 9223372036854775807) (hl : (sl (eInt .i64) 1 A1 l.length c1 l).p w) (hrgl : ∀ x ∈ l, -9223372036854775808 ≤ x ∧ x ≤ 9223372036854775807) (hx : (sl (eInt .i64) 1 A2 ex.length c2 ex).p w) (hx8 : ex.length * 8 ≤ 140737488351232) (hodd : 0 ≤ odd ∧ odd ≤ 255) :
    Calls Try.prog 22 #[netV n A c, .slice A1 l.length c1, .slice A2 ex.length c2, .int .i64 workers, .agg #[.int .i64 a1, .int .i64 a2], .agg #[.int .i64 b1, .int .i64 b2], .int .u8 odd] w fun e w' => e = .returned (.bool true) ∧ Gr w w' := by
  refine calls_cw Try.func22 rfl Try.ntmps22 rfl ?_
  have hS := (((St.start w).args (Nat.le_refl _) _ ha rfl).args (Nat.le_refl _) _ hl rfl).args (Nat.le_refl _) _ hx rfl
  refine cw_seq ?_
  -- region 0
  refine cw_region ?_
  refine lw_box rfl rfl rfl rfl hS ?_
  clear hS; intro b7 w1 _ _ hS
  refine lw_box rfl rfl rfl rfl hS ?_
  clear hS; intro b11 w2 _ _ hS
  refine lw_box rfl rfl rfl rfl hS ?_
  clear hS; intro b12 w3 _ _ hS
  refine lw_v rfl rfl (ok_assign rfl (.n rfl) rfl) ?_
  refine lw_nil ?_
  refine Ends.keep [(1, .eq _), (2, .eq _), (3, .eq _), (6, .eq _), (7, .eq _), (11, .eq _), (12, .eq _)] (.cons rfl (.cons rfl (.cons rfl (.cons rfl (.cons rfl (.cons rfl (.cons rfl .nil))))))) ?_
  refine ends_then ?_
  refine cw_seq ?_
  -- region 1
  refine cw_region ?_
  refine lw_v rfl rfl (ok_ldS rfl (.n rfl) rfl Try.isAgg24 Try.sizeOf24 hS rfl) ?_
  refine lw_call (f := 24) (xs := [_, _, _]) rfl rfl rfl Try.call24 rfl (Calls.mono (f24a n A c _ (hS.rd A (by have := ha.2.1; omega)) hrgn) ?_)
  rintro e w' ⟨n1, AS, cS, hok, rfl, hg, hfr, ho⟩
  replace hS := hS.new hg _ ho hfr; clear hg ho hfr
  refine ⟨_, rfl, ?_⟩
  refine lw_v rfl rfl (ok_move rfl (.n rfl) rfl) ?_
  refine lw_call (f := 23) (xs := [_, _]) rfl rfl rfl Try.call23 rfl (Calls.mono (f23a n1 AS cS l A1 c1 _ hok (hS.rd AS (by have := hok.len; omega)) (hS.rd A1 hl.2.1) hl.2.1 hrgl) ?_)
  rintro e w' ⟨C, R, q, A6, c6, ⟨hwf, hro⟩, rfl, hg, hnew, hat, hfr, hap, ho⟩
  replace hS := hS.left hg hat hnew ho hfr hap; clear hg hnew hat hfr hap ho
  replace hS := hS.sub (.cons_cons _ (.cons_cons _ (.cons_cons _ (.cons_cons _ (.cons_cons _ (.cons_cons _ (.cons_cons _ (.cons _ (List.Sublist.refl _)))))))))
  have hM := hwf.m
  have hrlen := hro.len
  have hN := hwf.hi
  have hlo := hwf.lo
  replace hS := hS.freeze .here (by omega)
  refine ⟨_, rfl, ?_⟩
  refine lw_v rfl rfl (ok_move rfl (.n rfl) rfl) ?_
  refine lw_v rfl rfl (ok_extract rfl (.n rfl) rfl rfl) ?_
  refine lw_v rfl rfl (ok_extract rfl (.n rfl) rfl rfl) ?_
  refine lw_alloc rfl rfl rfl Try.zeroValue29 hS ?_
  clear hS; intro b15 w4 _ _ hS
  refine lw_stS rfl rfl rfl rfl rfl (by kernel_rfl) hS rfl (by rfl) (by rfl) ?_
  clear hS; intro w5 hS
  refine lw_v rfl rfl (ok_assign rfl (.n rfl) rfl) ?_
  refine lw_nil ?_
  refine Ends.keep [(2, .eq _), (3, .eq _), (6, .eq _), (11, .eq _), (12, .eq _), (15, .eq _), (16, .eq _)] (.cons rfl (.cons rfl (.cons rfl (.cons rfl (.cons rfl (.cons rfl (.cons rfl .nil))))))) ?_
  refine ends_then ?_
  refine cw_cut3 [(2, .eq _), (3, .eq _), (6, .eq _), (11, .eq _), (12, .eq _), (15, .eq _)] (fun (AR : Option Addr) (cR : Nat) (rs : List Int) => [(16, .eq (.slice AR rs.length cR))]) (fun AR cR rs w' => rs.length ≤ 1300 ∧ St w.heap.size w w' [sl (eInt .i64) 1 AR rs.length cR rs, bx b15 (csV C q).cells.toList 29, sl (eInt .i64) 1 q.a0 C.First.length q.c0 C.First, sl (eInt .i64) 1 q.a1 C.Head.length q.c1 C.Head, sl (eInt .i64) 1 q.a2 C.Rev.length q.c2 C.Rev, sl (eInt .i64) 1 q.a3 C.Cap.length q.c3 C.Cap, sl (eInt .i64) 1 q.a4 C.Arc.length q.c4 C.Arc, sl eBool 1 q.a5 C.Back.length q.c5 C.Back, bx b12 (Value.agg #[.int .i64 b1, .int .i64 b2]).cells.toList 53, bx b11 (Value.agg #[.int .i64 a1, .int .i64 a2]).cells.toList 53, bx b7 (netV n A c).cells.toList 24, sl (eInt .i64) 1 A2 ex.length c2 ex, sl (eInt .i64) 1 A1 l.length c1 l, sl eArc 3 A n.arcs.length c n.arcs]) (.cons rfl (.cons rfl (.cons rfl (.cons rfl (.cons rfl (.cons rfl .nil)))))) ?_ ?_
  ·
    refine cw_seq ?_
    -- region 2
    refine cw_region ?_
    refine lw_v rfl rfl (ok_move rfl (.n rfl) rfl) ?_
    refine lw_v rfl rfl (ok_rem rfl (.n rfl) rfl rfl (fun _ => by omega)) ?_
    refine lw_v rfl rfl (ok_eql rfl (.n rfl) rfl rfl) ?_
    refine lw_nil ?_
    refine Ends.keep [(2, .eq _), (3, .eq _), (6, .eq _), (11, .eq _), (12, .eq _), (15, .eq _), (16, .eq _), (27, .eq _)] (.cons rfl (.cons rfl (.cons rfl (.cons rfl (.cons rfl (.cons rfl (.cons rfl (.cons rfl .nil)))))))) ?_
    refine ends_then ?_
    refine cw_cond rfl (fun h27 => ?_) (fun h27 => ?_)
    ·
      -- region 3
      refine cw_region ?_
      refine lw_v rfl rfl (ok_move rfl (.n rfl) rfl) ?_
      refine lw_v rfl rfl (ok_move rfl (.n rfl) rfl) ?_
      refine lw_v rfl rfl (ok_len rfl (.n rfl) Try.underlying25 rfl) ?_
      refine lw_v rfl rfl (ok_quo rfl (.n rfl) rfl rfl (fun _ => by omega)) ?_
      refine lw_v rfl rfl (ok_slto (k := (R.take (R.length / 2)).length) (enc := (eInt .i64)) rfl (.n rfl) Try.underlying25 Try.sizeOf2 rfl rfl hS ⟨by rw [half_eq _ (by omega), List.length_take, Nat.min_eq_left (by omega)], by rw [List.length_take]; omega⟩) ?_
      refine lw_v rfl rfl (ok_assign rfl (.n rfl) rfl) ?_
      refine lw_nil ?_
      -- CUT
      refine ends_cut3 A6 c6 (R.take (R.length / 2)) (.cons rfl (.cons rfl (.cons rfl (.cons rfl (.cons rfl (.cons rfl (.cons rfl .nil))))))) ⟨by rw [List.length_take]; omega, (hS.take' (.tail _ (.head _)) (R.length / 2) (by omega)).sub (.cons_cons _ (.cons_cons _ (.cons _ (List.Sublist.refl _))))⟩
    ·
      refine cw_skip ?_
      -- CUT
      refine ends_cut3 A6 c6 R (.cons rfl (.cons rfl (.cons rfl (.cons rfl (.cons rfl (.cons rfl (.cons rfl .nil))))))) ⟨by omega, (hS.dup (.tail _ (.head _)) rfl).sub (.cons_cons _ (.cons_cons _ (.cons _ (List.Sublist.refl _))))⟩
  ·
    clear hS
    rintro AR cR rs wc ⟨hrs, hS⟩
    refine cw_cut3 [(3, .eq _), (11, .eq _), (12, .eq _), (15, .eq _), (16, .eq _)] (fun (AE : Option Addr) (cE : Nat) (es : List Int) => [(2, .eq (.slice AE es.length cE))]) (fun AE cE es w' => es.length ≤ 140737488351232 ∧ St w.heap.size w w' [sl (eInt .i64) 1 AE es.length cE es, sl (eInt .i64) 1 AR rs.length cR rs, bx b15 (csV C q).cells.toList 29, sl (eInt .i64) 1 q.a0 C.First.length q.c0 C.First, sl (eInt .i64) 1 q.a1 C.Head.length q.c1 C.Head, sl (eInt .i64) 1 q.a2 C.Rev.length q.c2 C.Rev, sl (eInt .i64) 1 q.a3 C.Cap.length q.c3 C.Cap, sl (eInt .i64) 1 q.a4 C.Arc.length q.c4 C.Arc, sl eBool 1 q.a5 C.Back.length q.c5 C.Back, bx b12 (Value.agg #[.int .i64 b1, .int .i64 b2]).cells.toList 53, bx b11 (Value.agg #[.int .i64 a1, .int .i64 a2]).cells.toList 53, bx b7 (netV n A c).cells.toList 24, sl (eInt .i64) 1 A2 ex.length c2 ex, sl (eInt .i64) 1 A1 l.length c1 l, sl eArc 3 A n.arcs.length c n.arcs]) (.cons rfl (.cons rfl (.cons rfl (.cons rfl (.cons rfl .nil))))) ?_ ?_
    ·
      refine cw_seq ?_
      -- region 4
      refine cw_region ?_
      refine lw_v rfl rfl (ok_move rfl (.n rfl) rfl) ?_
      refine lw_v rfl rfl (ok_rem rfl (.n rfl) rfl rfl (fun _ => by omega)) ?_
      refine lw_v rfl rfl (ok_gtr rfl (.n rfl) rfl rfl) ?_
      refine lw_nil ?_
      refine Ends.keep [(2, .eq _), (3, .eq _), (11, .eq _), (12, .eq _), (15, .eq _), (16, .eq _), (35, .eq _)] (.cons rfl (.cons rfl (.cons rfl (.cons rfl (.cons rfl (.cons rfl (.cons rfl .nil))))))) ?_
      refine ends_then ?_
      refine cw_cond rfl (fun h35 => ?_) (fun h35 => ?_)
      ·
        -- region 5
        refine cw_draw2 (by kernel_rfl) (List.take 8 _) (List.drop 8 _) [true, false, true, false, false, true, false, false] (List.take_append_drop 8 _).symm (by kernel_rfl) (fun w' => St w.heap.size w w' [bx b15 (csV C q).cells.toList 29]) (fun vs w' => match vs with
            | [] => St w.heap.size w w' [sl (eInt .i64) 1 AR rs.length cR rs, bx b15 (csV C q).cells.toList 29, sl (eInt .i64) 1 q.a0 C.First.length q.c0 C.First, sl (eInt .i64) 1 q.a1 C.Head.length q.c1 C.Head, sl (eInt .i64) 1 q.a2 C.Rev.length q.c2 C.Rev, sl (eInt .i64) 1 q.a3 C.Cap.length q.c3 C.Cap, sl (eInt .i64) 1 q.a4 C.Arc.length q.c4 C.Arc, sl eBool 1 q.a5 C.Back.length q.c5 C.Back, bx b12 (Value.agg #[.int .i64 b1, .int .i64 b2]).cells.toList 53, bx b11 (Value.agg #[.int .i64 a1, .int .i64 a2]).cells.toList 53, bx b7 (netV n A c).cells.toList 24, sl (eInt .i64) 1 A2 ex.length c2 ex, sl (eInt .i64) 1 A1 l.length c1 l, sl eArc 3 A n.arcs.length c n.arcs]
            | [v1] => ∃ A1' c1', v1 = .slice A1' 0 c1' ∧ St w.heap.size w w' [own (eInt .i64) 1 2 A1' 0 c1' [], sl (eInt .i64) 1 AR rs.length cR rs, bx b15 (csV C q).cells.toList 29, sl (eInt .i64) 1 q.a0 C.First.length q.c0 C.First, sl (eInt .i64) 1 q.a1 C.Head.length q.c1 C.Head, sl (eInt .i64) 1 q.a2 C.Rev.length q.c2 C.Rev, sl (eInt .i64) 1 q.a3 C.Cap.length q.c3 C.Cap, sl (eInt .i64) 1 q.a4 C.Arc.length q.c4 C.Arc, sl eBool 1 q.a5 C.Back.length q.c5 C.Back, bx b12 (Value.agg #[.int .i64 b1, .int .i64 b2]).cells.toList 53, bx b11 (Value.agg #[.int .i64 a1, .int .i64 a2]).cells.toList 53, bx b7 (netV n A c).cells.toList 24, sl (eInt .i64) 1 A2 ex.length c2 ex, sl (eInt .i64) 1 A1 l.length c1 l, sl eArc 3 A n.arcs.length c n.arcs]
            | [_, v2] => ∃ A1' c1', v2 = .slice A1' ex.length c1' ∧ St w.heap.size w w' [own (eInt .i64) 1 2 A1' ex.length c1' ex, sl (eInt .i64) 1 AR rs.length cR rs, bx b15 (csV C q).cells.toList 29, sl (eInt .i64) 1 q.a0 C.First.length q.c0 C.First, sl (eInt .i64) 1 q.a1 C.Head.length q.c1 C.Head, sl (eInt .i64) 1 q.a2 C.Rev.length q.c2 C.Rev, sl (eInt .i64) 1 q.a3 C.Cap.length q.c3 C.Cap, sl (eInt .i64) 1 q.a4 C.Arc.length q.c4 C.Arc, sl eBool 1 q.a5 C.Back.length q.c5 C.Back, bx b12 (Value.agg #[.int .i64 b1, .int .i64 b2]).cells.toList 53, bx b11 (Value.agg #[.int .i64 a1, .int .i64 a2]).cells.toList 53, bx b7 (netV n A c).cells.toList 24, sl (eInt .i64) 1 A2 ex.length c2 ex, sl (eInt .i64) 1 A1 l.length c1 l, sl eArc 3 A n.arcs.length c n.arcs]
            | [_, _, v3] => ∃ A1' c1', v3 = .slice A1' (ex.length + C.N) c1' ∧ St w.heap.size w w' [own (eInt .i64) 1 2 A1' (ex.length + C.N) c1' (ex ++ List.replicate C.N 0), sl (eInt .i64) 1 AR rs.length cR rs, bx b15 (csV C q).cells.toList 29, sl (eInt .i64) 1 q.a0 C.First.length q.c0 C.First, sl (eInt .i64) 1 q.a1 C.Head.length q.c1 C.Head, sl (eInt .i64) 1 q.a2 C.Rev.length q.c2 C.Rev, sl (eInt .i64) 1 q.a3 C.Cap.length q.c3 C.Cap, sl (eInt .i64) 1 q.a4 C.Arc.length q.c4 C.Arc, sl eBool 1 q.a5 C.Back.length q.c5 C.Back, bx b12 (Value.agg #[.int .i64 b1, .int .i64 b2]).cells.toList 53, bx b11 (Value.agg #[.int .i64 a1, .int .i64 a2]).cells.toList 53, bx b7 (netV n A c).cells.toList 24, sl (eInt .i64) 1 A2 ex.length c2 ex, sl (eInt .i64) 1 A1 l.length c1 l, sl eArc 3 A n.arcs.length c n.arcs]
            | _ => False) (fun vs w' h => by
              match vs, h with
              | [], h => exact h.lone (.tail _ (.head _))
              | [_], ⟨_, _, _, h⟩ => exact h.lone (.tail _ (.tail _ (.head _)))
              | [_, _], ⟨_, _, _, h⟩ => exact h.lone (.tail _ (.tail _ (.head _)))
              | [_, _, _], ⟨_, _, _, h⟩ => exact h.lone (.tail _ (.tail _ (.head _)))) hS.drew ?_
        refine free2_w ?_ ?_
        ·
          intro vs wq hv hP
          obtain rfl : vs = [] := List.eq_nil_of_length_eq_zero hv
          have hS : St w.heap.size w wq [sl (eInt .i64) 1 AR rs.length cR rs, bx b15 (csV C q).cells.toList 29, sl (eInt .i64) 1 q.a0 C.First.length q.c0 C.First, sl (eInt .i64) 1 q.a1 C.Head.length q.c1 C.Head, sl (eInt .i64) 1 q.a2 C.Rev.length q.c2 C.Rev, sl (eInt .i64) 1 q.a3 C.Cap.length q.c3 C.Cap, sl (eInt .i64) 1 q.a4 C.Arc.length q.c4 C.Arc, sl eBool 1 q.a5 C.Back.length q.c5 C.Back, bx b12 (Value.agg #[.int .i64 b1, .int .i64 b2]).cells.toList 53, bx b11 (Value.agg #[.int .i64 a1, .int .i64 a2]).cells.toList 53, bx b7 (netV n A c).cells.toList 24, sl (eInt .i64) 1 A2 ex.length c2 ex, sl (eInt .i64) 1 A1 l.length c1 l, sl eArc 3 A n.arcs.length c n.arcs] := hP
          refine lw_ls0 (enc := (eInt .i64)) rfl rfl rfl Try.underlying25 Try.sizeOf2 hS ?_
          intro A36 c36 w' _ hS9
          exact lw_nil fun a ha _ hs => ⟨rfl, ha, A36, c36, hs 36 _ rfl, hS9⟩
        refine free2_v (ok_each (hS.lone (.tail _ (.head _))) (fun w_ hS => ok_move rfl (.n rfl) rfl)) rfl ?_
        refine free2_w ?_ ?_
        ·
          intro vs wq hv hP
          obtain ⟨v1, rfl⟩ := List.length_eq_one_iff.1 hv
          obtain ⟨A36, c36, rfl, hS⟩ := hP
          refine lw_append0 (enc := (eInt .i64)) rfl rfl rfl Try.underlying25 info2 rfl rfl rfl hS (by omega) (by omega) ?_
          intro A' c' w' hS1
          replace hS := hS1 _ Rep.r
          rw [List.nil_append] at hS ⊢
          exact lw_nil fun a ha _ hs => ⟨rfl, ha, A', c', hs 38 _ rfl, hS⟩
        refine free2_v (ok_each (hS.lone (.tail _ (.head _))) (fun w_ hS => ok_fb rfl (.n rfl) Try.underlying29 rfl Try.sizeOf3 (by decide) rfl)) rfl ?_
        refine free2_v (ok_each (hS.lone (.tail _ (.head _))) (fun w_ hS => ok_eq (ok_ldb rfl (.n rfl) rfl Try.isAgg3 hS (by rfl)) (c' := .int .i64 (C.N : Int)) (fun _ => rfl))) rfl ?_
        refine free2_w ?_ ?_
        ·
          intro vs wq hv hP
          obtain ⟨v1, v2, rfl⟩ : ∃ a b, vs = [a, b] := by
            match vs, hv with
            | [a, b], _ => exact ⟨a, b, rfl⟩
          obtain ⟨A38, c38, rfl, hS⟩ := hP
          refine lw_apzo (k := C.N) rfl rfl rfl Try.underlying25 Try.underlying3 info2 rfl rfl (by omega) (by omega) hS (by omega) ?_
          intro A' c' w' hS1
          exact lw_nil fun a ha _ hs => ⟨rfl, ha, A', c', hs 41 _ rfl, hS1 _ Rep.r⟩
        refine free2_v (ok_each (hS.lone (.tail _ (.head _))) (fun w_ hS => ok_fb rfl (.n rfl) Try.underlying29 rfl Try.sizeOf3 (by decide) rfl)) rfl ?_
        refine free2_v (ok_each (hS.lone (.tail _ (.head _))) (fun w_ hS => ok_eq (ok_ldb rfl (.n rfl) rfl Try.isAgg3 hS (by rfl)) (c' := .int .i64 (C.N : Int)) (fun _ => rfl))) rfl ?_
        refine free2_nil ?_
        clear hS
        intro vs wq hv hP
        obtain ⟨v1, v2, v3, rfl⟩ : ∃ a b d, vs = [a, b, d] := by
          match vs, hv with
          | [a, b, d], _ => exact ⟨a, b, d, rfl⟩
        obtain ⟨A41, c41, rfl, hS⟩ := hP
        have hcap : ex.length + C.N ≤ c41 := hS.cap (A := A41) (enc := eInt .i64) (sz := 1) (m := ex.length + C.N) (c := c41) (xs := ex ++ List.replicate C.N 0) (.inr ⟨2, .head _⟩)
        obtain ⟨es, hes, hel⟩ : ∃ es, es = (ex ++ List.replicate C.N 0).take C.N ∧ es.length = C.N := ⟨_, rfl, by rw [List.length_take, List.length_append, List.length_replicate]; omega⟩
        refine lw_v rfl rfl (ok_eq (ok_slto' (sz := 1) C.N rfl (.n rfl) Try.underlying25 Try.sizeOf2 rfl rfl hcap ⟨rfl, by omega⟩) (c' := .slice A41 es.length c41) (fun _ => by rw [hel])) ?_
        refine lw_v rfl rfl (ok_assign rfl (.n rfl) rfl) ?_
        refine lw_nil ?_
        -- CUT
        have hS2 := (hS.ownTake (n := C.N) (by omega) (by omega)).freeze .here (by omega)
        rw [← hes, ← hel] at hS2
        refine ends_cut3 A41 c41 es (.cons rfl (.cons rfl (.cons rfl (.cons rfl (.cons rfl (.cons rfl .nil)))))) ⟨by omega, hS2⟩
      ·
        refine cw_skip ?_
        -- CUT
        refine ends_cut3 A2 c2 ex (.cons rfl (.cons rfl (.cons rfl (.cons rfl (.cons rfl (.cons rfl .nil)))))) ⟨by omega, hS.dup (.tail _ (.tail _ (.tail _ (.tail _ (.tail _ (.tail _ (.tail _ (.tail _ (.tail _ (.tail _ (.tail _ (.head _)))))))))))) rfl⟩
    ·
      clear hS
      rintro AE cE es wc2 ⟨hes, hS⟩
      have hxf := exactF_len hwf rs workers
      have hrf := (exactF_len hwf rs 1).1
      have hb1 : (exactF C rs workers).length ≤ 140737488351232 := by omega
      have hb2 : (reachL C rs).length ≤ 140737488351232 := by unfold reachL; rw [List.length_map]; omega
      refine cw_seq ?_
      -- region 6
      refine cw_region ?_
      refine lw_v rfl rfl (ok_move rfl (.n rfl) rfl) ?_
      refine lw_v rfl rfl (ok_move rfl (.n rfl) rfl) ?_
      refine lw_v rfl rfl (ok_build (cells := #[.slice AR rs.length cR, .slice AE es.length cE, .slice none 0 0]) rfl (.n rfl) Try.underlying56 Try.zeroValue56 pl56 rfl (by kernel_rfl)) ?_
      refine lw_alloc rfl rfl rfl Try.zeroValue56 hS ?_
      clear hS; intro b17 w6 _ _ hS
      refine lw_stS rfl rfl rfl rfl rfl (by kernel_rfl) hS rfl (by rfl) (by rfl) ?_
      clear hS; intro w7 hS
      refine lw_nil ?_
      refine Ends.keep [(3, .eq _), (11, .eq _), (12, .eq _), (15, .eq _), (16, .eq _), (17, .eq _)] (.cons rfl (.cons rfl (.cons rfl (.cons rfl (.cons rfl (.cons rfl .nil)))))) ?_
      refine ends_then ?_
      refine cw_seq ?_
      -- region 7
      refine cw_draw (by kernel_rfl) (List.take 33 _) (List.drop 33 _) (List.take_append_drop 33 _).symm (by kernel_rfl) ?_
      refine free_v (ok_ldS rfl (.n rfl) rfl Try.isAgg29 Try.sizeOf29 hS rfl) ?_
      refine free_v (ok_move rfl (.n rfl) rfl) ?_
      refine free_v (ok_move rfl (.n rfl) rfl) ?_
      refine free_cons (ok_callL rfl rfl Try.call44 rfl (fun w' hg => f44L C q rs AR cR workers w' hwf ((hS.grow hg).cs q) ((hS.grow hg).rd AR (by omega)))) ?_
      refine free_v (ok_ldS rfl (.n rfl) rfl Try.isAgg29 Try.sizeOf29 hS rfl) ?_
      refine free_v (ok_move rfl (.n rfl) rfl) ?_
      refine free_v (ok_move rfl (.n rfl) rfl) ?_
      refine free_cons (ok_callL rfl rfl Try.call62 rfl (fun w' hg => f62 C q rs AR cR workers w' hwf ((hS.grow hg).cs q) ((hS.grow hg).rd AR (by omega)))) ?_
      refine free_cons (ok_callSv (.bool true) (xs := [_, _]) rfl rfl Try.call30 (fun vs w' hg hv => by
          match vs, hv with
          | [v0_, v1_], hv =>
            obtain ⟨⟨A_, c_, rfl, ho_, _⟩, ⟨B_, d_, rfl, ho2_, _⟩, _⟩ := hv
            exact f30s A_ c_ B_ d_ _ w' (own_sl ho_ hb1) (own_sl ho2_ hb1))) ?_
      refine free_v (ok_move rfl (.n rfl) rfl) ?_
      refine free_cons (ok_on (.s rfl rfl) rfl (by rfl) (OpV.ok (ok_ldS rfl (.n rfl) rfl Try.isAgg29 Try.sizeOf29 hS rfl))) ?_
      refine free_cons (ok_on (.s rfl rfl) rfl (by rfl) (OpV.ok (ok_move rfl (.n rfl) rfl))) ?_
      refine free_cons (ok_on (.s rfl rfl) rfl (by rfl) (ok_callB rfl rfl Try.call60 rfl (fun w' hg => f60 C q rs AR cR w' hwf ((hS.grow hg).cs q) ((hS.grow hg).rd AR (by omega))))) ?_
      refine free_cons (ok_on (.s rfl rfl) rfl (by rfl) (OpV.ok (ok_ldS rfl (.n rfl) rfl Try.isAgg29 Try.sizeOf29 hS rfl))) ?_
      refine free_cons (ok_on (.s rfl rfl) rfl (by rfl) (OpV.ok (ok_move rfl (.n rfl) rfl))) ?_
      refine free_cons (ok_on (.s rfl rfl) rfl (by rfl) (ok_callB rfl rfl Try.call63 rfl (fun w' hg => f63 C q rs AR cR w' hwf ((hS.grow hg).cs q) ((hS.grow hg).rd AR (by omega))))) ?_
      refine free_cons (ok_on (.s rfl rfl) rfl (by rfl) (ok_callSv (.bool true) (xs := [_, _]) rfl rfl Try.call61 (fun vs w' hg hv => by
          match vs, hv with
          | [v0_, v1_], hv =>
            obtain ⟨⟨A_, c_, rfl, ho_, _⟩, ⟨B_, d_, rfl, ho2_, _⟩, _⟩ := hv
            exact f61s A_ c_ B_ d_ _ w' (own_sl ho_ hb2) (own_sl ho2_ hb2)))) ?_
      refine free_v (ok_pick rfl rfl rfl rfl rfl) ?_
      refine free_v (ok_move rfl (.n rfl) rfl) ?_
      refine free_cons (ok_on (.s rfl rfl) rfl (by rfl) (OpV.ok (ok_ldS rfl (.n rfl) rfl Try.isAgg29 Try.sizeOf29 hS rfl))) ?_
      refine free_cons (ok_on (.s rfl rfl) rfl (by rfl) (OpV.ok (ok_eq (ok_ldS rfl (.n rfl) rfl Try.isAgg56 Try.sizeOf56 hS rfl) (c' := preV AR rs.length cR AE es.length cE) (fun _ => rfl)))) ?_
      refine free_cons (ok_on (.s rfl rfl) rfl (by rfl) (ok_callv (mkV (markF C rs es)) rfl rfl Try.call45 rfl (fun w' hg => f45 C q rs es AR cR AE cE w' hwf ((hS.grow hg).cs q) ((hS.grow hg).rd AR (by omega)) ((hS.grow hg).rd AE (by omega))))) ?_
      refine free_cons (ok_on (.s rfl rfl) rfl (by rfl) (OpV.ok (ok_ldS rfl (.n rfl) rfl Try.isAgg29 Try.sizeOf29 hS rfl))) ?_
      refine free_cons (ok_on (.s rfl rfl) rfl (by rfl) (OpV.ok (ok_eq (ok_ldS rfl (.n rfl) rfl Try.isAgg56 Try.sizeOf56 hS rfl) (c' := preV AR rs.length cR AE es.length cE) (fun _ => rfl)))) ?_
      refine free_cons (ok_on (.s rfl rfl) rfl (by rfl) (ok_callv (mkV (markF C rs es)) rfl rfl Try.call64 rfl (fun w' hg => f64 C q rs es AR cR AE cE w' hwf ((hS.grow hg).cs q) ((hS.grow hg).rd AR (by omega)) ((hS.grow hg).rd AE (by omega))))) ?_
      refine free_cons (ok_on (.s rfl rfl) rfl (by rfl) (OpV.ok (ok_eq (g := none) (ok_eqMk rfl (.n rfl) rfl rfl) (c' := .bool true) (fun _ => congrArg Value.bool (by simp))))) ?_
      refine free_v (ok_pick rfl rfl rfl rfl rfl) ?_
      refine free_v (ok_move rfl (.n rfl) rfl) ?_
      refine free_cons (ok_on (.s rfl rfl) rfl (by rfl) (OpV.ok (ok_eq (ok_ldS rfl (.n rfl) rfl Try.isAgg53 Try.sizeOf53 hS rfl) (c' := .agg #[.int .i64 a1, .int .i64 a2]) (fun _ => rfl)))) ?_
      refine free_cons (ok_on (.s rfl rfl) rfl (by rfl) (OpV.ok (ok_eq (ok_ldS rfl (.n rfl) rfl Try.isAgg53 Try.sizeOf53 hS rfl) (c' := .agg #[.int .i64 b1, .int .i64 b2]) (fun _ => rfl)))) ?_
      refine free_cons (ok_on (.s rfl rfl) rfl (by rfl) (ok_callv (.bool (risenB a1 a2 b1 b2)) rfl rfl Try.call46 rfl (fun w' hg => f46 a1 a2 b1 b2 w'))) ?_
      refine free_cons (ok_on (.s rfl rfl) rfl (by rfl) (OpV.ok (ok_eq (ok_ldS rfl (.n rfl) rfl Try.isAgg53 Try.sizeOf53 hS rfl) (c' := .agg #[.int .i64 a1, .int .i64 a2]) (fun _ => rfl)))) ?_
      refine free_cons (ok_on (.s rfl rfl) rfl (by rfl) (OpV.ok (ok_eq (ok_ldS rfl (.n rfl) rfl Try.isAgg53 Try.sizeOf53 hS rfl) (c' := .agg #[.int .i64 b1, .int .i64 b2]) (fun _ => rfl)))) ?_
      refine free_nil ?_
      intro w8 hg_; replace hS := hS.grow hg_; clear hg_
      refine lw_on (.s rfl rfl) rfl ?_
      refine lw_call (f := 65) (xs := [_, _]) rfl rfl rfl Try.call65 rfl (Calls.mono (f65 a1 a2 b1 b2 _) ?_)
      rintro e w' ⟨rfl, hg⟩
      replace hS := hS.grow hg; clear hg
      refine ⟨_, rfl, ?_⟩
      refine lw_on (.s rfl rfl) rfl ?_
      refine lw_v rfl rfl (ok_eq (g := none) (ok_eqb rfl (.n rfl) Try.underlying4 rfl rfl) (c' := .bool true) (fun _ => congrArg Value.bool (by simp))) ?_
      refine lw_v rfl rfl (ok_pick rfl rfl rfl rfl rfl) ?_
      refine lw_v rfl rfl (ok_move rfl (.n rfl) rfl) ?_
      refine lw_on (.s rfl rfl) rfl ?_
      refine lw_call (f := 47) (xs := []) rfl rfl rfl Try.call47 rfl (Calls.mono (f47 _) ?_)
      rintro e w' ⟨rfl, hg⟩
      replace hS := hS.grow hg; clear hg
      refine ⟨_, rfl, ?_⟩
      refine lw_v rfl rfl (ok_pick rfl rfl rfl rfl rfl) ?_
      refine lw_v rfl rfl (ok_assign rfl (.n rfl) rfl) ?_
      refine lw_nil ?_
      refine Ends.keep [(14, .eq _)] (.cons rfl .nil) ?_
      refine ends_then ?_
      refine cw_ret ?_
      exact end_ret (res1 Try.results22 rfl) ⟨rfl, hS.below⟩

end Go.Proofs.Ytnpgeohkmdcbkaa.Aq
