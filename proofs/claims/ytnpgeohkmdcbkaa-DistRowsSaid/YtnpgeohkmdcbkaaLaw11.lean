/- The walk of the law DistRows. -/
import Derived.Test.YtnpgeohkmdcbkaaLawD
import Derived.Test.YtnpgeohkmdcbkaaPlain11
namespace Go.Proofs.Ytnpgeohkmdcbkaa.Aq
open Go Go.RowKit

theorem metF_rng (D : List Int) (N k i : Nat) (x : Int) : 0 ≤ metF D N k i x ∧ metF D N k i x ≤ 1 := by
  unfold metF; split <;> omega
theorem rows_bad {D : List Int} {N k i mk x : Nat} (hlt : i < mk) (hmk : (rowAt D N k).length = mk) (hl1 : D.length = N) (hxN : x < N) (hxD : D.getD x 0 = (k : Int)) (hx : (rowAt D N k).getD i 0 = (x : Int))
    (h : (((decide ((x : Int) < 0) || decide ((D.length : Int) ≤ x)) || !decide (D.getD (x : Int).toNat 0 = (k : Int))) || (decide ((0 : Int) < (i : Int)) && decide ((x : Int) ≤ (rowAt D N k).getD ((i : Int) - 1).toNat 0))) = true) : False := by
  rw [decide_eq_false (by omega), decide_eq_false (by omega), decide_eq_true (show D.getD (x : Int).toNat 0 = (k : Int) from hxD), Bool.not_true, Bool.false_or, Bool.false_or, Bool.false_or, Bool.and_eq_true, decide_eq_true_eq, decide_eq_true_eq] at h
  have e : ((i : Int) - 1).toNat = i - 1 := by omega
  rw [e] at h
  have h2 : (rowAt D N k).getD (i - 1) 0 < (rowAt D N k).getD i 0 := filt_sorted (p := fun u => decide (D.getD u 0 = (k : Int))) (M := N) (i := i - 1) (j := i) (by omega) (by show i < (rowAt D N k).length; omega)
  omega
theorem rows_bad2 {D : List Int} {N k mk u : Nat} (hmk : (rowAt D N k).length = mk) (hpos : 0 < mk) (hz : k = 0 → rowAt D N k = [(u : Int)])
    (h : (decide ((mk : Int) = 0) || (decide ((k : Int) = 0) && (!decide ((mk : Int) = 1) || !decide ((rowAt D N k).getD (0 : Int).toNat 0 = (u : Int))))) = true) : False := by
  rw [decide_eq_false (by omega : ¬ (mk : Int) = 0), Bool.false_or, Bool.and_eq_true, decide_eq_true_eq] at h
  have hk := hz (by omega)
  have h1 : mk = 1 := by rw [← hmk, hk]; rfl
  rw [hk, decide_eq_true (by omega : (mk : Int) = 1)] at h
  simp at h

set_option maxHeartbeats 2000000 in
set_option maxRecDepth 10000 in
/-- acequialaw05.DistRows. -/
theorem f11 (n : Nt) (A : Option Addr) (c : Nat) (l : List Int) (A1 : Option Addr) (c1 : Nat) (at0 : Int) (w : World) (ha : (sl eArc 3 A n.arcs.length c n.arcs).p w) (hrgn : (-9223372036854775808 ≤ n.N ∧ n.N ≤ 9223372036854775807) ∧ (-9223372036854775808 ≤ n.S ∧ n.S ≤ 9223372036854775807) ∧ (-9223372036854775808 ≤ n.T ∧ n.T ≤ 9223372036854775807) ∧ ∀ a ∈ n.arcs, -9223372036854775808 ≤ a.1 ∧ a.1 ≤ 9223372036854775807 ∧ -9223372036854775808 ≤ a.2.1 ∧ a.2.1 ≤ 9223372036854775807 ∧ -9223372036854775808 ≤ a.2.2 ∧ a.2.2 ≤ 9223372036854775807) (hl : (sl (eInt .i64) 1 A1 l.length c1 l).p w) (hrgl : ∀ x ∈ l, -9223372036854775808 ≤ x ∧ x ≤ 9223372036854775807) (hat0 : 0 ≤ at0 ∧ at0 ≤ 255) :
    Calls Try.prog 11 #[netV n A c, .slice A1 l.length c1, .int .u8 at0] w fun e w' => e = .returned (.bool true) ∧ Gr w w' := by
  refine calls_cw Try.func11 rfl Try.ntmps11 rfl ?_
  have hS := ((St.start w).args (Nat.le_refl _) _ ha rfl).args (Nat.le_refl _) _ hl rfl
  refine cw_seq ?_
  -- region 0
  refine cw_region ?_
  refine lw_box rfl rfl rfl rfl hS ?_
  clear hS; intro b3 w1 _ _ hS
  refine lw_v rfl rfl (ok_assign rfl (.n rfl) rfl) ?_
  refine lw_nil ?_
  refine Ends.keep [(1, .eq _), (2, .eq _), (3, .eq _)] (.cons rfl (.cons rfl (.cons rfl .nil))) ?_
  refine ends_then ?_
  refine cw_seq ?_
  -- region 1
  refine cw_region ?_
  refine lw_v rfl rfl (ok_ldS rfl (.n rfl) rfl Try.isAgg24 Try.sizeOf24 hS rfl) ?_
  refine lw_call (f := 24) (xs := [_, _, _]) rfl rfl rfl Try.call24 rfl (Calls.mono (f24a n A c _ (hS.rd A (by have := ha.2.1; omega)) hrgn) ?_)
  rintro e w' ⟨n1, AS, cS, hok, rfl, hg, hfr, ho⟩
  replace hS := hS.new hg _ ho hfr; clear hg ho hfr
  refine ⟨_, rfl, ?_⟩
  refine lw_v rfl rfl (ok_move rfl (.n rfl) rfl) ?_
  refine lw_call (f := 23) (xs := [_, _]) rfl rfl rfl Try.call23 rfl (Calls.mono (f23a n1 AS cS l A1 c1 _ hok (hS.rd AS (by have := hok.len; omega)) (hS.rd A1 hl.2.1) hl.2.1 hrgl) ?_)
  rintro e w' ⟨C, R, q, A6, c6, ⟨hwf, hro⟩, rfl, hg, hnew, hat, hfr, hap, ho⟩
  replace hS := hS.left hg hat hnew ho hfr hap; clear hg hnew hat hfr hap ho
  replace hS := hS.sub (.cons_cons _ (.cons_cons _ (.cons_cons _ (.cons_cons _ (.cons_cons _ (.cons_cons _ (.cons_cons _ (.cons _ (.cons _ (List.Sublist.refl _))))))))))
  have hM := hwf.m
  have hrlen := hro.len
  have hN := hwf.hi
  have hlo := hwf.lo
  obtain ⟨u, huv, huN⟩ := modN at0 hat0.1 C.N (by omega)
  refine ⟨_, rfl, ?_⟩
  refine lw_v rfl rfl (ok_move rfl (.n rfl) rfl) ?_
  refine lw_v rfl rfl (ok_extract rfl (.n rfl) rfl rfl) ?_
  refine lw_v rfl rfl (ok_extract rfl (.n rfl) rfl rfl) ?_
  refine lw_alloc rfl rfl rfl Try.zeroValue29 hS ?_
  clear hS; intro b7 w2 _ _ hS
  refine lw_stS rfl rfl rfl rfl rfl (by kernel_rfl) hS rfl (by rfl) (by rfl) ?_
  clear hS; intro w3 hS
  refine lw_v rfl rfl (ok_assign rfl (.n rfl) rfl) ?_
  refine lw_nil ?_
  refine Ends.keep [(2, .eq _), (7, .eq _), (8, .eq _)] (.cons rfl (.cons rfl (.cons rfl .nil))) ?_
  refine ends_then ?_
  refine cw_seq ?_
  -- region 2
  refine cw_region ?_
  refine lw_v rfl rfl (ok_move rfl (.n rfl) rfl) ?_
  refine lw_v rfl rfl (ok_eq (ok_conv rfl (.n rfl) Try.underlying5 Try.underlying3 rfl) (c' := .int .i64 at0) (fun _ => congrArg (Value.int .i64) (wrap_in ⟨by omega, by omega⟩))) ?_
  refine lw_v rfl rfl (ok_fb rfl (.n rfl) Try.underlying29 rfl Try.sizeOf3 (by decide) rfl) ?_
  refine lw_v rfl rfl (ok_ldb rfl (.n rfl) rfl Try.isAgg3 hS (by rfl)) ?_
  refine lw_v rfl rfl (ok_eq (ok_rem rfl (.n rfl) rfl rfl (fun _ => by omega)) (c' := .int .i64 (u : Int)) (fun _ => congrArg (Value.int .i64) huv)) ?_
  refine lw_v rfl rfl (ok_assign rfl (.n rfl) rfl) ?_
  refine lw_nil ?_
  refine Ends.keep [(7, .eq _), (8, .eq _), (9, .eq _)] (.cons rfl (.cons rfl (.cons rfl .nil))) ?_
  refine ends_then ?_
  refine cw_seq ?_
  -- region 3
  refine cw_region ?_
  refine lw_v rfl rfl (ok_ldS rfl (.n rfl) rfl Try.isAgg29 Try.sizeOf29 hS rfl) ?_
  refine lw_v rfl rfl (ok_move rfl (.n rfl) rfl) ?_
  refine lw_v rfl rfl (ok_move rfl (.n rfl) rfl) ?_
  refine lw_call (f := 41) (xs := [_, _, _]) rfl rfl rfl Try.call41 rfl (Calls.mono (f41 C q R u A6 c6 _ hwf (hS.cs q) (hS.rd A6 (by omega))) ?_)
  rintro e w' ⟨A33, c33, rfl, hg, hfr, ho⟩
  replace hS := hS.new hg _ ho hfr; clear hg ho hfr
  have hl1 := toL_len hrlen huN
  replace hS := hS.freeze .here (by omega)
  refine ⟨_, rfl, ?_⟩
  refine lw_v rfl rfl (ok_assign rfl (.n rfl) rfl) ?_
  refine lw_nil ?_
  refine Ends.keep [(7, .eq _), (8, .eq _), (9, .eq _), (10, .eq _)] (.cons rfl (.cons rfl (.cons rfl (.cons rfl .nil)))) ?_
  refine ends_then ?_
  refine cw_seq ?_
  -- region 4
  refine cw_region ?_
  refine lw_mkmap rfl rfl rfl hS ?_
  clear hS; intro m34 w4 _ _ hS
  refine lw_v rfl rfl (ok_assign rfl (.n rfl) rfl) ?_
  refine lw_nil ?_
  refine Ends.keep [(7, .eq _), (8, .eq _), (9, .eq _), (10, .eq _), (11, .eq _)] (.cons rfl (.cons rfl (.cons rfl (.cons rfl (.cons rfl .nil))))) ?_
  refine ends_then ?_
  refine cw_seq ?_
  refine cw_seq ?_
  -- region 5
  refine cw_region ?_
  refine lw_v rfl rfl (ok_ldS rfl (.n rfl) rfl Try.isAgg29 Try.sizeOf29 hS rfl) ?_
  refine lw_v rfl rfl (ok_move rfl (.n rfl) rfl) ?_
  refine lw_v rfl rfl (ok_move rfl (.n rfl) rfl) ?_
  refine lw_call (f := 49) (xs := [_, _, _]) rfl rfl rfl Try.call49 rfl (Calls.mono (f49 C q R u A6 c6 _ hwf (hS.cs q) (hS.rd A6 (by omega))) ?_)
  rintro e w' ⟨A38, c38, hs, rfl, hg, hf1, hf2, ho1, ho2⟩
  replace hS := hS.rows hg ho1 ho2 hf1 hf2; clear hg ho1 hf1 hf2
  have hhs : hs.length = hiTo C.N (toL C R (u : Int)) C.N := by have := ho2.1; rw [this]; unfold rowsL rowsF; rw [rowsTo_len, hl1]
  clear ho2
  have hrw : rowsL C R (u : Int) = rowsTo (toL C R (u : Int)) C.N hs.length := by unfold rowsL rowsF; rw [hl1, hhs]
  rw [hrw] at hS
  have hat := fun v (hv : v < C.N) => toL_at hrlen huN hv
  have hne := fun k (hk : k < hiTo C.N (toL C R (u : Int)) C.N) => row_ne hrlen huN hk
  have hz := row_zero hrlen huN
  clear hrw
  generalize (toL C R (u : Int)) = D at hS hl1 hhs hat hne hz ⊢
  have hhi := hiTo_le (fun v hv => hat v (by omega)) C.N (by omega)
  refine ⟨_, rfl, ?_⟩
  refine lw_v rfl rfl (ok_len rfl (.n rfl) Try.underlying47 rfl) ?_
  refine lw_v rfl rfl (ok_move rfl (.n rfl) rfl) ?_
  refine lw_nil ?_
  refine Ends.keep [(7, .eq _), (9, .eq _), (10, .eq _), (11, .eq _), (38, .eq _), (39, .eq _), (40, .eq _)] (.cons rfl (.cons rfl (.cons rfl (.cons rfl (.cons rfl (.cons rfl (.cons rfl .nil))))))) ?_
  refine ends_then ?_
  refine cw_block ?_
  -- LOOP at region 6: changed live slots [40], kept [7, 9, 10, 11, 38, 39]
  refine cw_loop [(7, .eq _), (9, .eq _), (10, .eq _), (11, .eq _), (38, .eq _), (39, .eq _)] (fun k : Nat => [(40, .eq (.int .i64 k))]) (fun k w' => ∃ m f, (k ≤ hs.length ∧ m ≤ 16 * k ∧ ∀ x, f x = metF D C.N k 0 x) ∧ St w.heap.size w w' [sl eSl 1 A38 hs.length c38 hs, sls hs (rowsTo D C.N hs.length), mp m34 m f, sl (eInt .i64) 1 A33 D.length c33 D, bx b7 (csV C q).cells.toList 29, own (eInt .i64) 1 2 A6 R.length c6 R, sl (eInt .i64) 1 q.a0 C.First.length q.c0 C.First, sl (eInt .i64) 1 q.a1 C.Head.length q.c1 C.Head, sl (eInt .i64) 1 q.a2 C.Rev.length q.c2 C.Rev, sl (eInt .i64) 1 q.a3 C.Cap.length q.c3 C.Cap, sl (eInt .i64) 1 q.a4 C.Arc.length q.c4 C.Arc, sl eBool 1 q.a5 C.Back.length q.c5 C.Back, sl (eInt .i64) 1 A1 l.length c1 l, sl eArc 3 A n.arcs.length c n.arcs]) (fun k => hs.length - k) 0 (.cons rfl (.cons rfl (.cons rfl (.cons rfl (.cons rfl (.cons rfl .nil)))))) (.cons rfl (.cons rfl (.cons rfl (.cons rfl (.cons rfl (.cons rfl (.cons rfl .nil))))))) ⟨_, _, ⟨Nat.zero_le _, Nat.le_refl _, fun x => (metF_start (fun v hv => (hat v hv).1) x).symm⟩, hS⟩ ?_
  clear hS
  rintro k wr ⟨m, f, ⟨hk, hm, hf⟩, hS⟩
  refine cw_seq ?_
  -- region 6
  refine cw_region ?_
  refine lw_v rfl rfl (ok_lss rfl (.n rfl) rfl rfl) ?_
  refine lw_nil ?_
  refine Ends.keep [(7, .eq _), (9, .eq _), (10, .eq _), (11, .eq _), (38, .eq _), (39, .eq _), (40, .eq _), (41, .eq _)] (.cons rfl (.cons rfl (.cons rfl (.cons rfl (.cons rfl (.cons rfl (.cons rfl (.cons rfl .nil)))))))) ?_
  refine ends_then ?_
  refine cw_seq ?_
  refine cw_cond rfl (fun h41 => ?_) (fun h41 => ?_)
  ·
    have hkl : k < hs.length := by have := of_decide_eq_true h41; omega
    obtain ⟨Ak, mk, ck, hek⟩ : ∃ a b d, hs.getD k (none, 0, 0) = (a, b, d) := ⟨_, _, _, rfl⟩
    replace hS := hS.slsAt (.tail _ (.head _)) hkl
    unfold slK at hS
    rw [hek, rowsTo_get hkl] at hS
    have hmk : (rowAt D C.N k).length = mk := (hS.ok _ (.head _)).1.1
    have hml := rowAt_len D C.N k
    have hpos := hne k (by omega)
    refine cw_skip ?_
    refine ends_then ?_
    refine cw_seq ?_
    refine cw_block ?_
    refine cw_seq ?_
    -- region 7
    refine cw_region ?_
    refine lw_v rfl rfl (ok_move rfl (.n rfl) rfl) ?_
    refine lw_v rfl rfl (ok_ix rfl (.n rfl) Try.underlying47 Try.sizeOf26 rfl rfl hS (fun _ => ⟨by omega, by omega⟩)) ?_
    refine lw_v rfl rfl (ok_eq (ok_ldx rfl (.n rfl) rfl Try.isAgg26 hS (fun _ => ⟨by omega, by omega⟩) (by rfl)) (c' := .slice Ak mk ck) (fun _ => by show Value.slice (hs.getD k (none, 0, 0)).1 (hs.getD k (none, 0, 0)).2.1 (hs.getD k (none, 0, 0)).2.2 = _; rw [hek])) ?_
    refine lw_v rfl rfl (ok_assign rfl (.n rfl) rfl) ?_
    refine lw_v rfl rfl (ok_assign rfl (.n rfl) rfl) ?_
    refine lw_nil ?_
    refine Ends.keep [(7, .eq _), (9, .eq _), (10, .eq _), (11, .eq _), (12, .eq _), (13, .eq _), (38, .eq _), (39, .eq _), (40, .eq _)] (.cons rfl (.cons rfl (.cons rfl (.cons rfl (.cons rfl (.cons rfl (.cons rfl (.cons rfl (.cons rfl .nil))))))))) ?_
    refine ends_then ?_
    refine cw_seq ?_
    refine cw_seq ?_
    -- region 8
    refine cw_region ?_
    refine lw_v rfl rfl (ok_move rfl (.n rfl) rfl) ?_
    refine lw_v rfl rfl (ok_len rfl (.n rfl) Try.underlying26 rfl) ?_
    refine lw_v rfl rfl (ok_move rfl (.n rfl) rfl) ?_
    refine lw_nil ?_
    refine Ends.keep [(7, .eq _), (9, .eq _), (10, .eq _), (11, .eq _), (12, .eq _), (13, .eq _), (38, .eq _), (39, .eq _), (40, .eq _), (45, .eq _), (46, .eq _), (47, .eq _)] (.cons rfl (.cons rfl (.cons rfl (.cons rfl (.cons rfl (.cons rfl (.cons rfl (.cons rfl (.cons rfl (.cons rfl (.cons rfl (.cons rfl .nil)))))))))))) ?_
    refine ends_then ?_
    refine cw_block ?_
    -- LOOP at region 9: changed live slots [47], kept [7, 9, 10, 11, 12, 13, 38, 39, 40, 45, 46]
    refine cw_loop [(7, .eq _), (9, .eq _), (10, .eq _), (11, .eq _), (12, .eq _), (13, .eq _), (38, .eq _), (39, .eq _), (40, .eq _), (45, .eq _), (46, .eq _)] (fun i : Nat => [(47, .eq (.int .i64 i))]) (fun i w' => ∃ m f, (i ≤ mk ∧ m ≤ 16 * k + i ∧ ∀ x, f x = metF D C.N k i x) ∧ St w.heap.size w w' [sl (eInt .i64) 1 Ak mk ck (rowAt D C.N k), sl eSl 1 A38 hs.length c38 hs, sls hs (rowsTo D C.N hs.length), mp m34 m f, sl (eInt .i64) 1 A33 D.length c33 D, bx b7 (csV C q).cells.toList 29, own (eInt .i64) 1 2 A6 R.length c6 R, sl (eInt .i64) 1 q.a0 C.First.length q.c0 C.First, sl (eInt .i64) 1 q.a1 C.Head.length q.c1 C.Head, sl (eInt .i64) 1 q.a2 C.Rev.length q.c2 C.Rev, sl (eInt .i64) 1 q.a3 C.Cap.length q.c3 C.Cap, sl (eInt .i64) 1 q.a4 C.Arc.length q.c4 C.Arc, sl eBool 1 q.a5 C.Back.length q.c5 C.Back, sl (eInt .i64) 1 A1 l.length c1 l, sl eArc 3 A n.arcs.length c n.arcs]) (fun i => mk - i) 0 (.cons rfl (.cons rfl (.cons rfl (.cons rfl (.cons rfl (.cons rfl (.cons rfl (.cons rfl (.cons rfl (.cons rfl (.cons rfl .nil))))))))))) (.cons rfl (.cons rfl (.cons rfl (.cons rfl (.cons rfl (.cons rfl (.cons rfl (.cons rfl (.cons rfl (.cons rfl (.cons rfl (.cons rfl .nil)))))))))))) ⟨m, f, ⟨Nat.zero_le _, by omega, hf⟩, hS⟩ ?_
    clear hS
    clear hm hf m f
    rintro i wr ⟨m, f, ⟨hi, hm, hf⟩, hS⟩
    refine cw_seq ?_
    -- region 9
    refine cw_region ?_
    refine lw_v rfl rfl (ok_lss rfl (.n rfl) rfl rfl) ?_
    refine lw_nil ?_
    refine Ends.keep [(7, .eq _), (9, .eq _), (10, .eq _), (11, .eq _), (12, .eq _), (13, .eq _), (38, .eq _), (39, .eq _), (40, .eq _), (45, .eq _), (46, .eq _), (47, .eq _), (48, .eq _)] (.cons rfl (.cons rfl (.cons rfl (.cons rfl (.cons rfl (.cons rfl (.cons rfl (.cons rfl (.cons rfl (.cons rfl (.cons rfl (.cons rfl (.cons rfl .nil))))))))))))) ?_
    refine ends_then ?_
    refine cw_seq ?_
    refine cw_cond rfl (fun h48 => ?_) (fun h48 => ?_)
    ·
      have hlt : i < mk := by have := of_decide_eq_true h48; omega
      obtain ⟨x, hxN, hxD, hx'⟩ := mem_rowAt.1 (getD_memI (l := rowAt D C.N k) (k := i) (by omega))
      have hx : (rowAt D C.N k).getD (i : Int).toNat 0 = (x : Int) := hx'
      have hfx : f (x : Int) = metF D C.N k i x := hf _
      have hmr := metF_rng D C.N k i x
      refine cw_skip ?_
      refine ends_then ?_
      refine cw_seq ?_
      refine cw_block ?_
      refine cw_seq ?_
      -- region 10
      refine cw_region ?_
      refine lw_v rfl rfl (ok_move rfl (.n rfl) rfl) ?_
      refine lw_v rfl rfl (ok_ix rfl (.n rfl) Try.underlying26 Try.sizeOf3 rfl rfl hS (fun _ => ⟨by omega, by omega⟩)) ?_
      refine lw_v rfl rfl (ok_eq (ok_ldx rfl (.n rfl) rfl Try.isAgg3 hS (fun _ => ⟨by omega, by omega⟩) (by rfl)) (c' := .int .i64 (x : Int)) (fun _ => congrArg (Value.int .i64) hx)) ?_
      refine lw_v rfl rfl (ok_assign rfl (.n rfl) rfl) ?_
      refine lw_v rfl rfl (ok_assign rfl (.n rfl) rfl) ?_
      refine lw_nil ?_
      refine Ends.keep [(7, .eq _), (9, .eq _), (10, .eq _), (11, .eq _), (12, .eq _), (13, .eq _), (14, .eq _), (15, .eq _), (38, .eq _), (39, .eq _), (40, .eq _), (45, .eq _), (46, .eq _), (47, .eq _)] (.cons rfl (.cons rfl (.cons rfl (.cons rfl (.cons rfl (.cons rfl (.cons rfl (.cons rfl (.cons rfl (.cons rfl (.cons rfl (.cons rfl (.cons rfl (.cons rfl .nil)))))))))))))) ?_
      refine ends_then ?_
      refine cw_seq ?_
      refine cw_seq ?_
      -- region 11
      refine cw_region ?_
      refine lw_v rfl rfl (ok_move rfl (.n rfl) rfl) ?_
      refine lw_v rfl rfl (ok_lss rfl (.n rfl) rfl rfl) ?_
      refine lw_v rfl rfl (ok_move rfl (.n rfl) rfl) ?_
      refine lw_v rfl rfl (ok_move rfl (.s rfl rfl) rfl) ?_
      refine lw_v rfl rfl (ok_move rfl (.s rfl rfl) rfl) ?_
      refine lw_v rfl rfl (ok_len rfl (.s rfl rfl) Try.underlying26 rfl) ?_
      refine lw_v rfl rfl (ok_geq rfl (.s rfl rfl) rfl rfl) ?_
      refine lw_v rfl rfl (ok_or rfl rfl rfl rfl) ?_
      refine lw_v rfl rfl (ok_move rfl (.n rfl) rfl) ?_
      refine lw_v rfl rfl (ok_move rfl (.s rfl rfl) rfl) ?_
      refine lw_v rfl rfl (ok_move rfl (.s rfl rfl) rfl) ?_
      refine lw_v rfl rfl (ok_ix rfl (.s rfl rfl) Try.underlying26 Try.sizeOf3 rfl rfl hS (fun _ => ⟨by omega, by omega⟩)) ?_
      refine lw_v rfl rfl (ok_ldx rfl (.s rfl rfl) rfl Try.isAgg3 hS (fun _ => ⟨by omega, by omega⟩) (by rfl)) ?_
      refine lw_v rfl rfl (ok_move rfl (.s rfl rfl) rfl) ?_
      refine lw_v rfl rfl (ok_neq rfl (.s rfl rfl) rfl rfl) ?_
      refine lw_v rfl rfl (ok_or rfl rfl rfl rfl) ?_
      refine lw_v rfl rfl (ok_move rfl (.n rfl) rfl) ?_
      refine lw_v rfl rfl (ok_move rfl (.s rfl rfl) rfl) ?_
      refine lw_v rfl rfl (ok_gtr rfl (.s rfl rfl) rfl rfl) ?_
      refine lw_v rfl rfl (ok_move rfl (.s rfl rfl) rfl) ?_
      refine lw_v rfl rfl (ok_move rfl (.s rfl rfl) rfl) ?_
      refine lw_v rfl rfl (ok_move rfl (.s rfl rfl) rfl) ?_
      refine lw_v rfl rfl (ok_subi rfl (.s rfl rfl) rfl rfl (fun _ => ⟨by omega, by omega⟩)) ?_
      refine lw_v rfl rfl (ok_ix rfl (.s rfl rfl) Try.underlying26 Try.sizeOf3 rfl rfl hS (fun hg => ⟨by have h9 : decide ((0 : Int) < (i : Int)) = true := hg; have := of_decide_eq_true h9; omega, by omega⟩)) ?_
      refine lw_v rfl rfl (ok_ldx rfl (.s rfl rfl) rfl Try.isAgg3 hS (fun hg => ⟨by have h9 : decide ((0 : Int) < (i : Int)) = true := hg; have := of_decide_eq_true h9; omega, by omega⟩) (by rfl)) ?_
      refine lw_v rfl rfl (ok_move rfl (.s rfl rfl) rfl) ?_
      refine lw_v rfl rfl (ok_geq rfl (.s rfl rfl) rfl rfl) ?_
      refine lw_v rfl rfl (ok_andg rfl (.s rfl rfl) rfl rfl) ?_
      refine lw_v rfl rfl (ok_or rfl rfl rfl rfl) ?_
      refine lw_nil ?_
      refine Ends.keep [(7, .eq _), (9, .eq _), (10, .eq _), (11, .eq _), (12, .eq _), (13, .eq _), (15, .eq _), (38, .eq _), (39, .eq _), (40, .eq _), (45, .eq _), (46, .eq _), (47, .eq _), (80, .eq _)] (.cons rfl (.cons rfl (.cons rfl (.cons rfl (.cons rfl (.cons rfl (.cons rfl (.cons rfl (.cons rfl (.cons rfl (.cons rfl (.cons rfl (.cons rfl (.cons rfl .nil)))))))))))))) ?_
      refine ends_then ?_
      refine cw_cond rfl (fun h80 => ?_) (fun h80 => ?_)
      ·
        exact (rows_bad (N := C.N) hlt hmk hl1 hxN hxD hx' h80).elim
      ·
        refine cw_skip ?_
        refine ends_then ?_
        -- region 13
        refine cw_region ?_
        refine lw_v rfl rfl (ok_move rfl (.n rfl) rfl) ?_
        refine lw_v rfl rfl (ok_move rfl (.n rfl) rfl) ?_
        refine lw_v rfl rfl (ok_lookup rfl (.n rfl) Try.underlying43 rfl rfl hS (fun _ => ⟨by omega, by omega⟩)) ?_
        refine lw_v rfl rfl (ok_addi rfl (.n rfl) rfl rfl (fun _ => ⟨by omega, by omega⟩)) ?_
        refine lw_mapup rfl rfl rfl Try.underlying43 rfl rfl rfl hS ⟨by omega, by omega⟩ ⟨by omega, by omega⟩ (by omega) ?_
        clear hS; intro w5 hS
        refine lw_nil ?_
        refine in_normal (?_)
        refine Ends.keep [(7, .eq _), (9, .eq _), (10, .eq _), (11, .eq _), (12, .eq _), (13, .eq _), (38, .eq _), (39, .eq _), (40, .eq _), (45, .eq _), (46, .eq _), (47, .eq _)] (.cons rfl (.cons rfl (.cons rfl (.cons rfl (.cons rfl (.cons rfl (.cons rfl (.cons rfl (.cons rfl (.cons rfl (.cons rfl (.cons rfl .nil)))))))))))) ?_
        refine ends_then ?_
        -- region 14
        refine cw_region ?_
        refine lw_v rfl rfl (ok_addi rfl (.n rfl) rfl rfl (fun _ => ⟨by omega, by omega⟩)) ?_
        refine lw_v rfl rfl (ok_move rfl (.n rfl) rfl) ?_
        refine lw_nil ?_
        -- BACK
        refine ends_back (i + 1) (.cons rfl (.cons rfl (.cons rfl (.cons rfl (.cons rfl (.cons rfl (.cons rfl (.cons rfl (.cons rfl (.cons rfl (.cons rfl (.cons rfl .nil)))))))))))) ⟨m + 1, _, ⟨by omega, by omega, ?_⟩, hS⟩ (by omega)
        rw [← hx']
        exact metF_step (by omega) hf
    ·
      have hie : i = mk := by have := of_decide_eq_false h48; omega
      refine cw_exit ?_
      refine then_exit (then_exit (in_exit (?_)))
      refine Ends.keep [(7, .eq _), (9, .eq _), (10, .eq _), (11, .eq _), (12, .eq _), (13, .eq _), (38, .eq _), (39, .eq _), (40, .eq _)] (.cons rfl (.cons rfl (.cons rfl (.cons rfl (.cons rfl (.cons rfl (.cons rfl (.cons rfl (.cons rfl .nil))))))))) ?_
      refine ends_then ?_
      refine cw_seq ?_
      -- region 15
      refine cw_region ?_
      refine lw_v rfl rfl (ok_move rfl (.n rfl) rfl) ?_
      refine lw_v rfl rfl (ok_len rfl (.n rfl) Try.underlying26 rfl) ?_
      refine lw_v rfl rfl (ok_eql rfl (.n rfl) rfl rfl) ?_
      refine lw_v rfl rfl (ok_move rfl (.n rfl) rfl) ?_
      refine lw_v rfl rfl (ok_move rfl (.s rfl rfl) rfl) ?_
      refine lw_v rfl rfl (ok_eql rfl (.s rfl rfl) rfl rfl) ?_
      refine lw_v rfl rfl (ok_move rfl (.s rfl rfl) rfl) ?_
      refine lw_v rfl rfl (ok_move rfl (.s rfl rfl) rfl) ?_
      refine lw_v rfl rfl (ok_len rfl (.s rfl rfl) Try.underlying26 rfl) ?_
      refine lw_v rfl rfl (ok_neq rfl (.s rfl rfl) rfl rfl) ?_
      refine lw_v rfl rfl (ok_move rfl (.s rfl rfl) rfl) ?_
      refine lw_v rfl rfl (ok_move rfl (.s rfl rfl) rfl) ?_
      refine lw_v rfl rfl (ok_ix rfl (.s rfl rfl) Try.underlying26 Try.sizeOf3 rfl rfl hS (fun hg => ⟨by omega, by omega⟩)) ?_
      refine lw_v rfl rfl (ok_ldx rfl (.s rfl rfl) rfl Try.isAgg3 hS (fun hg => ⟨by omega, by omega⟩) (by rfl)) ?_
      refine lw_v rfl rfl (ok_move rfl (.s rfl rfl) rfl) ?_
      refine lw_v rfl rfl (ok_neq rfl (.s rfl rfl) rfl rfl) ?_
      refine lw_v rfl rfl (ok_org rfl (.s rfl rfl) rfl rfl) ?_
      refine lw_v rfl rfl (ok_andg rfl (.s rfl rfl) rfl rfl) ?_
      refine lw_v rfl rfl (ok_or rfl rfl rfl rfl) ?_
      refine lw_nil ?_
      refine Ends.keep [(7, .eq _), (9, .eq _), (10, .eq _), (11, .eq _), (38, .eq _), (39, .eq _), (40, .eq _), (104, .eq _)] (.cons rfl (.cons rfl (.cons rfl (.cons rfl (.cons rfl (.cons rfl (.cons rfl (.cons rfl .nil)))))))) ?_
      refine ends_then ?_
      refine cw_cond rfl (fun h104 => ?_) (fun h104 => ?_)
      ·
        exact (rows_bad2 hmk (by omega) (fun e => by subst e; exact hz) h104).elim
      ·
        refine cw_skip ?_
        refine in_normal (?_)
        refine ends_then ?_
        -- region 17
        refine cw_region ?_
        refine lw_v rfl rfl (ok_addi rfl (.n rfl) rfl rfl (fun _ => ⟨by omega, by omega⟩)) ?_
        refine lw_v rfl rfl (ok_move rfl (.n rfl) rfl) ?_
        refine lw_nil ?_
        -- BACK
        refine ends_back (k + 1) (.cons rfl (.cons rfl (.cons rfl (.cons rfl (.cons rfl (.cons rfl (.cons rfl .nil))))))) ⟨m, f, ⟨by omega, by omega, fun x => by rw [hf x, hie, ← hmk, metF_next]⟩, hS.tail⟩ (by omega)
  ·
    have hke : k = hiTo C.N D C.N := by have := of_decide_eq_false h41; omega
    refine cw_exit ?_
    refine then_exit (then_exit (in_exit (?_)))
    refine Ends.keep [(7, .eq _), (10, .eq _), (11, .eq _)] (.cons rfl (.cons rfl (.cons rfl .nil))) ?_
    refine ends_then ?_
    refine cw_seq ?_
    refine cw_seq ?_
    -- region 18
    refine cw_region ?_
    refine lw_v rfl rfl (ok_move rfl (.n rfl) rfl) ?_
    refine lw_v rfl rfl (ok_len rfl (.n rfl) Try.underlying26 rfl) ?_
    refine lw_v rfl rfl (ok_fb rfl (.n rfl) Try.underlying29 rfl Try.sizeOf3 (by decide) rfl) ?_
    refine lw_v rfl rfl (ok_ldb rfl (.n rfl) rfl Try.isAgg3 hS (by rfl)) ?_
    refine lw_v rfl rfl (ok_neq rfl (.n rfl) rfl rfl) ?_
    refine lw_nil ?_
    refine Ends.keep [(7, .eq _), (10, .eq _), (11, .eq _), (110, .eq _)] (.cons rfl (.cons rfl (.cons rfl (.cons rfl .nil)))) ?_
    refine ends_then ?_
    refine cw_cond rfl (fun h110 => ?_) (fun h110 => ?_)
    ·
      rw [hl1] at h110; simp at h110
    ·
      refine cw_skip ?_
      refine ends_then ?_
      refine cw_seq ?_
      refine cw_seq ?_
      -- region 20
      refine cw_region ?_
      refine lw_v rfl rfl (ok_move rfl (.n rfl) rfl) ?_
      refine lw_v rfl rfl (ok_len rfl (.n rfl) Try.underlying26 rfl) ?_
      refine lw_v rfl rfl (ok_move rfl (.n rfl) rfl) ?_
      refine lw_nil ?_
      refine Ends.keep [(7, .eq _), (11, .eq _), (111, .eq _), (112, .eq _), (113, .eq _)] (.cons rfl (.cons rfl (.cons rfl (.cons rfl (.cons rfl .nil))))) ?_
      refine ends_then ?_
      refine cw_block ?_
      -- LOOP at region 21: changed live slots [113], kept [7, 11, 111, 112]
      refine cw_loop [(7, .eq _), (11, .eq _), (111, .eq _), (112, .eq _)] (fun v : Nat => [(113, .eq (.int .i64 v))]) (fun v w' => v ≤ C.N ∧ St w.heap.size w w' [sl eSl 1 A38 hs.length c38 hs, sls hs (rowsTo D C.N hs.length), mp m34 m f, sl (eInt .i64) 1 A33 D.length c33 D, bx b7 (csV C q).cells.toList 29, own (eInt .i64) 1 2 A6 R.length c6 R, sl (eInt .i64) 1 q.a0 C.First.length q.c0 C.First, sl (eInt .i64) 1 q.a1 C.Head.length q.c1 C.Head, sl (eInt .i64) 1 q.a2 C.Rev.length q.c2 C.Rev, sl (eInt .i64) 1 q.a3 C.Cap.length q.c3 C.Cap, sl (eInt .i64) 1 q.a4 C.Arc.length q.c4 C.Arc, sl eBool 1 q.a5 C.Back.length q.c5 C.Back, sl (eInt .i64) 1 A1 l.length c1 l, sl eArc 3 A n.arcs.length c n.arcs]) (fun v => C.N - v) 0 (.cons rfl (.cons rfl (.cons rfl (.cons rfl .nil)))) (.cons rfl (.cons rfl (.cons rfl (.cons rfl (.cons rfl .nil))))) ⟨Nat.zero_le _, hS⟩ ?_
      clear hS
      rintro v wr ⟨hv, hS⟩
      refine cw_seq ?_
      -- region 21
      refine cw_region ?_
      refine lw_v rfl rfl (ok_lss rfl (.n rfl) rfl rfl) ?_
      refine lw_nil ?_
      refine Ends.keep [(7, .eq _), (11, .eq _), (111, .eq _), (112, .eq _), (113, .eq _), (114, .eq _)] (.cons rfl (.cons rfl (.cons rfl (.cons rfl (.cons rfl (.cons rfl .nil)))))) ?_
      refine ends_then ?_
      refine cw_seq ?_
      refine cw_cond rfl (fun h114 => ?_) (fun h114 => ?_)
      ·
        have hvN : v < C.N := by have := of_decide_eq_true h114; omega
        refine cw_skip ?_
        refine ends_then ?_
        refine cw_seq ?_
        refine cw_block ?_
        refine cw_seq ?_
        -- region 22
        refine cw_region ?_
        refine lw_v rfl rfl (ok_move rfl (.n rfl) rfl) ?_
        refine lw_v rfl rfl (ok_ix rfl (.n rfl) Try.underlying26 Try.sizeOf3 rfl rfl hS (fun _ => ⟨by omega, by omega⟩)) ?_
        refine lw_v rfl rfl (ok_ldx rfl (.n rfl) rfl Try.isAgg3 hS (fun _ => ⟨by omega, by omega⟩) (by rfl)) ?_
        refine lw_v rfl rfl (ok_assign rfl (.n rfl) rfl) ?_
        refine lw_v rfl rfl (ok_assign rfl (.n rfl) rfl) ?_
        refine lw_nil ?_
        refine Ends.keep [(7, .eq _), (11, .eq _), (16, .eq _), (17, .eq _), (111, .eq _), (112, .eq _), (113, .eq _)] (.cons rfl (.cons rfl (.cons rfl (.cons rfl (.cons rfl (.cons rfl (.cons rfl .nil))))))) ?_
        refine ends_then ?_
        refine cw_seq ?_
        -- region 23
        refine cw_region ?_
        refine lw_v rfl rfl (ok_move rfl (.n rfl) rfl) ?_
        refine lw_v rfl rfl (ok_move rfl (.n rfl) rfl) ?_
        refine lw_v rfl rfl (ok_lookup rfl (.n rfl) Try.underlying43 rfl rfl hS (fun _ => ⟨by omega, by omega⟩)) ?_
        refine lw_v rfl rfl (ok_eql rfl (.n rfl) rfl rfl) ?_
        refine lw_v rfl rfl (ok_move rfl (.n rfl) rfl) ?_
        refine lw_v rfl rfl (ok_fb rfl (.n rfl) Try.underlying29 rfl Try.sizeOf3 (by decide) rfl) ?_
        refine lw_v rfl rfl (ok_ldb rfl (.n rfl) rfl Try.isAgg3 hS (by rfl)) ?_
        refine lw_v rfl rfl (ok_lss rfl (.n rfl) rfl rfl) ?_
        refine lw_v rfl rfl (ok_neb rfl (.n rfl) Try.underlying4 rfl rfl) ?_
        refine lw_nil ?_
        refine Ends.keep [(7, .eq _), (11, .eq _), (111, .eq _), (112, .eq _), (113, .eq _), (126, .eq _)] (.cons rfl (.cons rfl (.cons rfl (.cons rfl (.cons rfl (.cons rfl .nil)))))) ?_
        refine ends_then ?_
        refine cw_cond rfl (fun h126 => ?_) (fun h126 => ?_)
        ·
          have h1 := metF_end hvN hat hl1
          have h2 : (!(decide (f (v : Int) = 1) == decide (D.getD v 0 < (C.N : Int)))) = true := h126
          rw [hf, hke, h1] at h2
          cases h2
        ·
          refine cw_skip ?_
          refine in_normal (?_)
          refine ends_then ?_
          -- region 25
          refine cw_region ?_
          refine lw_v rfl rfl (ok_addi rfl (.n rfl) rfl rfl (fun _ => ⟨by omega, by omega⟩)) ?_
          refine lw_v rfl rfl (ok_move rfl (.n rfl) rfl) ?_
          refine lw_nil ?_
          -- BACK
          refine ends_back (v + 1) (.cons rfl (.cons rfl (.cons rfl (.cons rfl (.cons rfl .nil))))) ⟨by omega, hS⟩ (by omega)
      ·
        refine cw_exit ?_
        refine then_exit (then_exit (in_exit (?_)))
        refine Ends.keep [] .nil ?_
        refine ends_then ?_
        refine cw_seq ?_
        -- region 26
        refine cw_region ?_
        refine lw_call (f := 43) (xs := []) rfl rfl rfl Try.call43 rfl (Calls.mono (f43 _) ?_)
        rintro e w' ⟨rfl, hg⟩
        replace hS := hS.grow hg; clear hg
        refine ⟨_, rfl, ?_⟩
        refine lw_v rfl rfl (ok_assign rfl (.n rfl) rfl) ?_
        refine lw_nil ?_
        refine Ends.keep [(6, .eq _)] (.cons rfl .nil) ?_
        refine ends_then ?_
        refine cw_ret ?_
        exact end_ret (res1 Try.results11 rfl) ⟨rfl, hS.below⟩

end Go.Proofs.Ytnpgeohkmdcbkaa.Aq
