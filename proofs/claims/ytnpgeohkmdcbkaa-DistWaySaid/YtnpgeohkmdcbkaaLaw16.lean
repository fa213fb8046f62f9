/- The walk of the law DistWay. -/
import Derived.Test.YtnpgeohkmdcbkaaLawD
import Derived.Test.YtnpgeohkmdcbkaaWay
namespace Go.Proofs.Ytnpgeohkmdcbkaa.Aq
open Go Go.RowKit

theorem wayB_is {c : Cs} {res : List Int} (hl : res.length = c.Head.length) {u v : Nat} (hu : u < c.N) (hv : v < c.N) : wayB c res (u : Int) (v : Int) = decide ((toL c res (v : Int)).getD u 0 < c.N) := by
  rw [Bool.eq_iff_iff, wayB_iff, decide_eq_true_eq]
  exact ⟨fun h => h.2.2.2, fun h => ⟨inB_of hl hv, by omega, by omega, h⟩⟩
theorem wayF_is {c : Cs} {res : List Int} (hl : res.length = c.Head.length) {u v : Nat} (hu : u < c.N) (hv : v < c.N) : wayF c res (u : Int) (v : Int) = if wayB c res (u : Int) (v : Int) = true then wayL c res (toL c res (v : Int)) ((toL c res (v : Int)).getD u 0).toNat u else [] := rfl
theorem wayF_len {c : Cs} (hw : WF c) {res : List Int} (hl : res.length = c.Head.length) {u v : Nat} (hu : u < c.N) (hv : v < c.N) : (wayF c res (u : Int) (v : Int)).length ≤ 16 := by
  have := hw.hi
  rw [wayF_is hl hu hv]
  split
  · rw [wayL_len]; have := toL_at hl hv hu; omega
  · exact Nat.zero_le _
theorem way_at {c : Cs} (hw : WF c) {res D W : List Int} {u v x i : Nat} {ok : Bool} (hL : Low c.N (Edge c res) (hTo c.N v) D) (hW : W = if ok = true then wayL c res D (D.getD u 0).toNat u else []) (hi : i < W.length) (hx : x < c.N) (h : ok = true → D.getD x 0 < c.N ∧ W.drop i = wayL c res D (D.getD x 0).toNat x) :
    ∃ a, NearR c res D x a ∧ W.getD i 0 = (a : Int) ∧ W.drop (i + 1) = wayL c res D (D.getD (c.Head.getD a 0).toNat 0).toNat (c.Head.getD a 0).toNat := by
  have hok : ok = true := by
    rcases Bool.eq_false_or_eq_true ok with h | h
    · exact h
    · rw [hW, h] at hi; exact absurd hi (Nat.not_lt_zero _)
  obtain ⟨h1, h2⟩ := h hok
  have h0 := hL.nn x hx
  have hlen := congrArg List.length h2
  rw [List.length_drop, wayL_len] at hlen
  have hp : 0 < D.getD x 0 := by omega
  obtain ⟨a, ha⟩ := near_ex hw hL hx hp h1
  have hn := near_is hw hL hx ha.1
  have e : (D.getD x 0).toNat = (D.getD (c.Head.getD a 0).toNat 0).toNat + 1 := by rw [hn.2.2.2]; omega
  rw [e] at h2
  unfold wayL at h2
  rw [nearA_eq ha, List.drop_eq_getElem_cons hi] at h2
  injection h2 with h3 h4
  refine ⟨a, ha, by rw [List.getD_eq_getElem?_getD, List.getElem?_eq_getElem hi]; exact h3, ?_⟩
  rw [h4]
theorem way_fin {c : Cs} {res D W : List Int} {v x i : Nat} {ok : Bool} (hL : Low c.N (Edge c res) (hTo c.N v) D) (hv : v < c.N) (hx : x < c.N) (hi : i = W.length) (h : ok = true → D.getD x 0 < c.N ∧ W.drop i = wayL c res D (D.getD x 0).toNat x) : (!ok || decide ((x : Int) = (v : Int))) = true := by
  rcases Bool.eq_false_or_eq_true ok with hok | hok
  · obtain ⟨h1, h2⟩ := h hok
    have hlen := congrArg List.length h2
    rw [List.length_drop, wayL_len] at hlen
    have h0 := hL.nn x hx
    have hz : D.getD x 0 = 0 := by omega
    rcases hL.why x hx with e | ⟨w, w1, _, e⟩
    · unfold hTo at e
      split at e
      · rename_i e2; rw [decide_eq_true (by omega : (x : Int) = v)]; simp
      · omega
    · have := hL.nn w w1; omega
  · rw [hok]; rfl
theorem way_wrong {c : Cs} {res D W : List Int} {u : Nat} {ok : Bool} (hl : D.length = c.N) (hu : 0 ≤ D.getD u 0 ∧ D.getD u 0 ≤ c.N) (hwb : ok = decide (D.getD u 0 < c.N)) (hW : W = if ok = true then wayL c res D (D.getD u 0).toNat u else [])
    (h : (((!decide ((D.length : Int) = (c.N : Int)) || !(ok == decide (D.getD (u : Int).toNat 0 < (c.N : Int)))) || (!ok && !decide ((W.length : Int) = 0))) || (ok && !decide ((W.length : Int) = D.getD (u : Int).toNat 0))) = true) : False := by
  have e : (ok == decide (D.getD (u : Int).toNat 0 < (c.N : Int))) = true := by rw [hwb]; exact beq_self_eq_true _
  rw [e, decide_eq_true (by omega : (D.length : Int) = (c.N : Int))] at h
  rcases Bool.eq_false_or_eq_true ok with hok | hok
  · rw [hok, if_pos rfl] at hW
    have h2 : (W.length : Int) = D.getD (u : Int).toNat 0 := by rw [hW, wayL_len]; exact Int.toNat_of_nonneg hu.1
    rw [hok, decide_eq_true h2] at h
    cases h
  · rw [hok] at hW
    have h2 : (W.length : Int) = 0 := by rw [hW]; rfl
    rw [hok, decide_eq_true h2] at h
    cases h
theorem way_arc {x r : Int} (hr : 0 < r) (h : ((!true || !decide (x = x)) || decide (r ≤ 0)) = true) : False := by
  rw [decide_eq_true rfl, decide_eq_false (by omega : ¬ r ≤ 0)] at h
  cases h

set_option maxHeartbeats 2000000 in
set_option maxRecDepth 10000 in
/-- acequialaw05.DistWay. -/
theorem f16 (n : Nt) (A : Option Addr) (c : Nat) (l : List Int) (A1 : Option Addr) (c1 : Nat) (at0 at1 : Int) (w : World) (ha : (sl eArc 3 A n.arcs.length c n.arcs).p w) (hrgn : (-9223372036854775808 ≤ n.N ∧ n.N ≤ 9223372036854775807) ∧ (-9223372036854775808 ≤ n.S ∧ n.S ≤ 9223372036854775807) ∧ (-9223372036854775808 ≤ n.T ∧ n.T ≤ 9223372036854775807) ∧ ∀ a ∈ n.arcs, -9223372036854775808 ≤ a.1 ∧ a.1 ≤ 9223372036854775807 ∧ -9223372036854775808 ≤ a.2.1 ∧ a.2.1 ≤ 9223372036854775807 ∧ -9223372036854775808 ≤ a.2.2 ∧ a.2.2 ≤ 9223372036854775807) (hl : (sl (eInt .i64) 1 A1 l.length c1 l).p w) (hrgl : ∀ x ∈ l, -9223372036854775808 ≤ x ∧ x ≤ 9223372036854775807) (hat0 : 0 ≤ at0 ∧ at0 ≤ 255) (hat1 : 0 ≤ at1 ∧ at1 ≤ 255) :
    Calls Try.prog 16 #[netV n A c, .slice A1 l.length c1, .int .u8 at0, .int .u8 at1] w fun e w' => e = .returned (.bool true) ∧ Gr w w' := by
  refine calls_cw Try.func16 rfl Try.ntmps16 rfl ?_
  have hS := ((St.start w).args (Nat.le_refl _) _ ha rfl).args (Nat.le_refl _) _ hl rfl
  refine cw_seq ?_
  -- region 0
  refine cw_region ?_
  refine lw_box rfl rfl rfl rfl hS ?_
  clear hS; intro b4 w1 _ _ hS
  refine lw_v rfl rfl (ok_assign rfl (.n rfl) rfl) ?_
  refine lw_nil ?_
  refine Ends.keep [(1, .eq _), (2, .eq _), (3, .eq _), (4, .eq _)] (.cons rfl (.cons rfl (.cons rfl (.cons rfl .nil)))) ?_
  refine ends_then ?_
  refine cw_seq ?_
  -- region 1
  refine cw_region ?_
  refine lw_v rfl rfl (ok_ldS rfl (.n rfl) rfl Try.isAgg24 Try.sizeOf24 hS rfl) ?_
  refine lw_call (f := 24) (xs := [_, _, _]) rfl rfl rfl Try.call24 rfl (Calls.mono (f24a n A c _ (hS.rd A (by have := ha.2.1; omega)) hrgn) ?_)
  rintro e w' ⟨n1, AS, cS, hok, rfl, hg, hfr, ho⟩
  replace hS := hS.new hg _ ho hfr; clear hg ho hfr
  refine ⟨_, rfl, ?_⟩
  refine lw_v rfl rfl (ok_move rfl (.n rfl) rfl) ?_
  refine lw_call (f := 23) (xs := [_, _]) rfl rfl rfl Try.call23 rfl (Calls.mono (f23a n1 AS cS l A1 c1 _ hok (hS.rd AS (by have := hok.len; omega)) (hS.rd A1 hl.2.1) hl.2.1 hrgl) ?_)
  rintro e w' ⟨C, R, q, A6, c6, ⟨hwf, hro⟩, rfl, hg, hnew, hat, hfr, hap, ho⟩
  replace hS := hS.left hg hat hnew ho hfr hap; clear hg hnew hat hfr hap ho
  replace hS := hS.sub (.cons_cons _ (.cons_cons _ (.cons_cons _ (.cons_cons _ (.cons_cons _ (.cons_cons _ (.cons_cons _ (.cons _ (.cons _ (List.Sublist.refl _))))))))))
  have hM := hwf.m
  have hrlen := hro.len
  have hN := hwf.hi
  have hlo := hwf.lo
  obtain ⟨u, huv, huN⟩ := modN at0 hat0.1 C.N (by omega)
  obtain ⟨v, hvv, hvN⟩ := modN at1 hat1.1 C.N (by omega)
  refine ⟨_, rfl, ?_⟩
  refine lw_v rfl rfl (ok_move rfl (.n rfl) rfl) ?_
  refine lw_v rfl rfl (ok_extract rfl (.n rfl) rfl rfl) ?_
  refine lw_v rfl rfl (ok_extract rfl (.n rfl) rfl rfl) ?_
  refine lw_alloc rfl rfl rfl Try.zeroValue29 hS ?_
  clear hS; intro b9 w2 _ _ hS
  refine lw_stS rfl rfl rfl rfl rfl (by kernel_rfl) hS rfl (by rfl) (by rfl) ?_
  clear hS; intro w3 hS
  refine lw_v rfl rfl (ok_assign rfl (.n rfl) rfl) ?_
  refine lw_nil ?_
  refine Ends.keep [(2, .eq _), (3, .eq _), (9, .eq _), (10, .eq _)] (.cons rfl (.cons rfl (.cons rfl (.cons rfl .nil)))) ?_
  refine ends_then ?_
  refine cw_seq ?_
  -- region 2
  refine cw_draw (by kernel_rfl) (List.take 11 _) (List.drop 11 _) (List.take_append_drop 11 _).symm (by kernel_rfl) ?_
  refine free_v (ok_move rfl (.n rfl) rfl) ?_
  refine free_v (ok_eq (ok_conv rfl (.n rfl) Try.underlying5 Try.underlying3 rfl) (c' := .int .i64 at0) (fun _ => congrArg (Value.int .i64) (wrap_in ⟨by omega, by omega⟩))) ?_
  refine free_v (ok_fb rfl (.n rfl) Try.underlying29 rfl Try.sizeOf3 (by decide) rfl) ?_
  refine free_v (ok_ldb rfl (.n rfl) rfl Try.isAgg3 hS (by rfl)) ?_
  refine free_v (ok_eq (ok_rem rfl (.n rfl) rfl rfl (fun _ => by omega)) (c' := .int .i64 (u : Int)) (fun _ => congrArg (Value.int .i64) huv)) ?_
  refine free_v (ok_move rfl (.n rfl) rfl) ?_
  refine free_v (ok_eq (ok_conv rfl (.n rfl) Try.underlying5 Try.underlying3 rfl) (c' := .int .i64 at1) (fun _ => congrArg (Value.int .i64) (wrap_in ⟨by omega, by omega⟩))) ?_
  refine free_v (ok_fb rfl (.n rfl) Try.underlying29 rfl Try.sizeOf3 (by decide) rfl) ?_
  refine free_v (ok_ldb rfl (.n rfl) rfl Try.isAgg3 hS (by rfl)) ?_
  refine free_v (ok_eq (ok_rem rfl (.n rfl) rfl rfl (fun _ => by omega)) (c' := .int .i64 (v : Int)) (fun _ => congrArg (Value.int .i64) hvv)) ?_
  refine free_v (ok_assign rfl (.n rfl) rfl) ?_
  refine free_nil ?_
  intro w4 hg_; replace hS := hS.grow hg_; clear hg_
  refine lw_v rfl rfl (ok_assign rfl (.n rfl) rfl) ?_
  refine lw_nil ?_
  refine Ends.keep [(9, .eq _), (10, .eq _), (11, .eq _), (12, .eq _)] (.cons rfl (.cons rfl (.cons rfl (.cons rfl .nil)))) ?_
  refine ends_then ?_
  refine cw_seq ?_
  -- region 3
  refine cw_region ?_
  refine lw_v rfl rfl (ok_ldS rfl (.n rfl) rfl Try.isAgg29 Try.sizeOf29 hS rfl) ?_
  refine lw_v rfl rfl (ok_move rfl (.n rfl) rfl) ?_
  refine lw_v rfl rfl (ok_move rfl (.n rfl) rfl) ?_
  refine lw_v rfl rfl (ok_move rfl (.n rfl) rfl) ?_
  refine lw_call (f := 54) (xs := [_, _, _, _]) rfl rfl rfl Try.call54 rfl (Calls.mono (f54 C q R u v A6 c6 _ hwf (hS.cs q) (hS.rd A6 (by omega))) ?_)
  rintro e w' ⟨A43, c43, rfl, hg, hfr, ho⟩
  have hwl := wayF_len hwf hrlen huN hvN
  replace hS := hS.new hg _ ho hfr; clear hg ho hfr
  replace hS := hS.freeze .here (by omega)
  refine ⟨_, rfl, ?_⟩
  refine lw_v rfl rfl (ok_move rfl (.n rfl) rfl) ?_
  refine lw_v rfl rfl (ok_extract rfl (.n rfl) rfl rfl) ?_
  refine lw_v rfl rfl (ok_extract rfl (.n rfl) rfl rfl) ?_
  refine lw_v rfl rfl (ok_assign rfl (.n rfl) rfl) ?_
  refine lw_v rfl rfl (ok_assign rfl (.n rfl) rfl) ?_
  refine lw_nil ?_
  refine Ends.keep [(9, .eq _), (10, .eq _), (11, .eq _), (12, .eq _), (13, .eq _), (14, .eq _)] (.cons rfl (.cons rfl (.cons rfl (.cons rfl (.cons rfl (.cons rfl .nil)))))) ?_
  refine ends_then ?_
  refine cw_seq ?_
  -- region 4
  refine cw_region ?_
  refine lw_v rfl rfl (ok_ldS rfl (.n rfl) rfl Try.isAgg29 Try.sizeOf29 hS rfl) ?_
  refine lw_v rfl rfl (ok_move rfl (.n rfl) rfl) ?_
  refine lw_v rfl rfl (ok_move rfl (.n rfl) rfl) ?_
  refine lw_call (f := 41) (xs := [_, _, _]) rfl rfl rfl Try.call41 rfl (Calls.mono (f41 C q R v A6 c6 _ hwf (hS.cs q) (hS.rd A6 (by omega))) ?_)
  rintro e w' ⟨A49, c49, rfl, hg, hfr, ho⟩
  replace hS := hS.new hg _ ho hfr; clear hg ho hfr
  have hl1 := toL_len hrlen hvN
  replace hS := hS.freeze .here (by omega)
  have hL := toL_low (inB_of hrlen hvN)
  have hwb := wayB_is hrlen huN hvN
  have hW := wayF_is hrlen huN hvN
  clear hwl
  generalize (wayF C R (u : Int) (v : Int)) = W at hS hW ⊢
  generalize wayB C R (u : Int) (v : Int) = ok at hS hwb hW ⊢
  have hL : Low C.N (Edge C R) (hTo C.N v) (toL C R (v : Int)) := hL
  generalize (toL C R (v : Int)) = D at hS hl1 hL hwb hW ⊢
  have hDu := hL.le_N huN
  have hWl : W.length ≤ 16 := by rw [hW]; split
                                 · rw [wayL_len]; omega
                                 · exact Nat.zero_le _
  refine ⟨_, rfl, ?_⟩
  refine lw_v rfl rfl (ok_assign rfl (.n rfl) rfl) ?_
  refine lw_nil ?_
  refine Ends.keep [(9, .eq _), (10, .eq _), (11, .eq _), (12, .eq _), (13, .eq _), (14, .eq _), (15, .eq _)] (.cons rfl (.cons rfl (.cons rfl (.cons rfl (.cons rfl (.cons rfl (.cons rfl .nil))))))) ?_
  refine ends_then ?_
  refine cw_seq ?_
  refine cw_seq ?_
  -- region 5
  refine cw_draw (by kernel_rfl) (List.take 34 _) (List.drop 34 _) (List.take_append_drop 34 _).symm (by kernel_rfl) ?_
  refine free_v (ok_move rfl (.n rfl) rfl) ?_
  refine free_v (ok_len rfl (.n rfl) Try.underlying26 rfl) ?_
  refine free_v (ok_fb rfl (.n rfl) Try.underlying29 rfl Try.sizeOf3 (by decide) rfl) ?_
  refine free_v (ok_ldb rfl (.n rfl) rfl Try.isAgg3 hS (by rfl)) ?_
  refine free_v (ok_neq rfl (.n rfl) rfl rfl) ?_
  refine free_v (ok_move rfl (.n rfl) rfl) ?_
  refine free_v (ok_move rfl (.s rfl rfl) rfl) ?_
  refine free_v (ok_move rfl (.s rfl rfl) rfl) ?_
  refine free_v (ok_move rfl (.s rfl rfl) rfl) ?_
  refine free_v (ok_ix rfl (.s rfl rfl) Try.underlying26 Try.sizeOf3 rfl rfl hS (fun _ => ⟨by omega, by omega⟩)) ?_
  refine free_v (ok_ldx rfl (.s rfl rfl) rfl Try.isAgg3 hS (fun _ => ⟨by omega, by omega⟩) (by rfl)) ?_
  refine free_v (ok_fb rfl (.s rfl rfl) Try.underlying29 rfl Try.sizeOf3 (by decide) rfl) ?_
  refine free_v (ok_ldb rfl (.s rfl rfl) rfl Try.isAgg3 hS (by rfl)) ?_
  refine free_v (ok_lss rfl (.s rfl rfl) rfl rfl) ?_
  refine free_v (ok_neb rfl (.s rfl rfl) Try.underlying4 rfl rfl) ?_
  refine free_v (ok_or rfl rfl rfl rfl) ?_
  refine free_v (ok_move rfl (.n rfl) rfl) ?_
  refine free_v (ok_move rfl (.s rfl rfl) rfl) ?_
  refine free_v (ok_not rfl (.s rfl rfl) rfl) ?_
  refine free_v (ok_move rfl (.s rfl rfl) rfl) ?_
  refine free_v (ok_move rfl (.s rfl rfl) rfl) ?_
  refine free_v (ok_len rfl (.s rfl rfl) Try.underlying26 rfl) ?_
  refine free_v (ok_neq rfl (.s rfl rfl) rfl rfl) ?_
  refine free_v (ok_andg rfl (.s rfl rfl) rfl rfl) ?_
  refine free_v (ok_or rfl rfl rfl rfl) ?_
  refine free_v (ok_move rfl (.n rfl) rfl) ?_
  refine free_v (ok_move rfl (.s rfl rfl) rfl) ?_
  refine free_v (ok_move rfl (.s rfl rfl) rfl) ?_
  refine free_v (ok_move rfl (.s rfl rfl) rfl) ?_
  refine free_v (ok_len rfl (.s rfl rfl) Try.underlying26 rfl) ?_
  refine free_v (ok_move rfl (.s rfl rfl) rfl) ?_
  refine free_v (ok_move rfl (.s rfl rfl) rfl) ?_
  refine free_v (ok_ix rfl (.s rfl rfl) Try.underlying26 Try.sizeOf3 rfl rfl hS (fun _ => ⟨by omega, by omega⟩)) ?_
  refine free_v (ok_ldx rfl (.s rfl rfl) rfl Try.isAgg3 hS (fun _ => ⟨by omega, by omega⟩) (by rfl)) ?_
  refine free_nil ?_
  intro w5 hg_; replace hS := hS.grow hg_; clear hg_
  refine lw_v rfl rfl (ok_neq rfl (.s rfl rfl) rfl rfl) ?_
  refine lw_v rfl rfl (ok_andg rfl (.s rfl rfl) rfl rfl) ?_
  refine lw_v rfl rfl (ok_or rfl rfl rfl rfl) ?_
  refine lw_nil ?_
  refine Ends.keep [(9, .eq _), (10, .eq _), (11, .eq _), (12, .eq _), (13, .eq _), (14, .eq _), (86, .eq _)] (.cons rfl (.cons rfl (.cons rfl (.cons rfl (.cons rfl (.cons rfl (.cons rfl .nil))))))) ?_
  refine ends_then ?_
  refine cw_cond rfl (fun h86 => ?_) (fun h86 => ?_)
  ·
    exact (way_wrong hl1 hDu hwb hW h86).elim
  ·
    refine cw_skip ?_
    refine ends_then ?_
    refine cw_seq ?_
    -- region 7
    refine cw_region ?_
    refine lw_v rfl rfl (ok_eq (ok_move rfl (.n rfl) rfl) (c' := .int .i64 (u : Int)) (fun _ => rfl)) ?_
    refine lw_v rfl rfl (ok_assign rfl (.n rfl) rfl) ?_
    refine lw_nil ?_
    refine Ends.keep [(9, .eq _), (10, .eq _), (12, .eq _), (13, .eq _), (14, .eq _), (16, .eq _)] (.cons rfl (.cons rfl (.cons rfl (.cons rfl (.cons rfl (.cons rfl .nil)))))) ?_
    refine ends_then ?_
    refine cw_seq ?_
    refine cw_seq ?_
    -- region 8
    refine cw_region ?_
    refine lw_v rfl rfl (ok_move rfl (.n rfl) rfl) ?_
    refine lw_v rfl rfl (ok_len rfl (.n rfl) Try.underlying26 rfl) ?_
    refine lw_v rfl rfl (ok_move rfl (.n rfl) rfl) ?_
    refine lw_nil ?_
    refine Ends.keep [(9, .eq _), (10, .eq _), (12, .eq _), (14, .eq _), (16, .eq _), (88, .eq _), (89, .eq _), (90, .eq _)] (.cons rfl (.cons rfl (.cons rfl (.cons rfl (.cons rfl (.cons rfl (.cons rfl (.cons rfl .nil)))))))) ?_
    refine ends_then ?_
    refine cw_block ?_
    -- LOOP at region 9: changed live slots [16, 90], kept [9, 10, 12, 14, 88, 89]
    refine cw_loop2 [(9, .eq _), (10, .eq _), (12, .eq _), (14, .eq _), (88, .eq _), (89, .eq _)] (fun (i x : Nat) => [(16, .eq (.int .i64 x)), (90, .eq (.int .i64 i))]) (fun i x w' => (i ≤ W.length ∧ x < C.N ∧ (ok = true → D.getD x 0 < C.N ∧ W.drop i = wayL C R D (D.getD x 0).toNat x)) ∧ St w.heap.size w w' [sl (eInt .i64) 1 A49 D.length c49 D, sl (eInt .i64) 1 A43 W.length c43 W, bx b9 (csV C q).cells.toList 29, own (eInt .i64) 1 2 A6 R.length c6 R, sl (eInt .i64) 1 q.a0 C.First.length q.c0 C.First, sl (eInt .i64) 1 q.a1 C.Head.length q.c1 C.Head, sl (eInt .i64) 1 q.a2 C.Rev.length q.c2 C.Rev, sl (eInt .i64) 1 q.a3 C.Cap.length q.c3 C.Cap, sl (eInt .i64) 1 q.a4 C.Arc.length q.c4 C.Arc, sl eBool 1 q.a5 C.Back.length q.c5 C.Back, sl (eInt .i64) 1 A1 l.length c1 l, sl eArc 3 A n.arcs.length c n.arcs]) (fun i _ => W.length - i) 0 u (.cons rfl (.cons rfl (.cons rfl (.cons rfl (.cons rfl (.cons rfl .nil)))))) (.cons rfl (.cons rfl (.cons rfl (.cons rfl (.cons rfl (.cons rfl (.cons rfl (.cons rfl .nil)))))))) ⟨⟨Nat.zero_le _, huN, fun h => by rw [hW, if_pos h, List.drop_zero]; rw [hwb] at h; exact ⟨of_decide_eq_true h, rfl⟩⟩, hS⟩ ?_
    clear hS
    rintro i x wr ⟨⟨hi, hxN, hix⟩, hS⟩
    refine cw_seq ?_
    -- region 9
    refine cw_region ?_
    refine lw_v rfl rfl (ok_lss rfl (.n rfl) rfl rfl) ?_
    refine lw_nil ?_
    refine Ends.keep [(9, .eq _), (10, .eq _), (12, .eq _), (14, .eq _), (16, .eq _), (88, .eq _), (89, .eq _), (90, .eq _), (91, .eq _)] (.cons rfl (.cons rfl (.cons rfl (.cons rfl (.cons rfl (.cons rfl (.cons rfl (.cons rfl (.cons rfl .nil))))))))) ?_
    refine ends_then ?_
    refine cw_seq ?_
    refine cw_cond rfl (fun h91 => ?_) (fun h91 => ?_)
    ·
      have hlt : i < W.length := by have := of_decide_eq_true h91; omega
      obtain ⟨a, hna, hWa', hnext'⟩ := way_at hwf hL hW hlt hxN hix
      have hWa : W.getD (i : Int).toNat 0 = (a : Int) := hWa'
      obtain ⟨haM, hat, hyN', hyD'⟩ := near_is hwf hL hxN hna.1
      obtain ⟨y, hy', hyN⟩ := head_at hwf haM
      have hy : C.Head.getD (a : Int).toNat 0 = (y : Int) := hy'
      rw [hy'] at hnext' hyD'
      have hok : ok = true := by
        rcases Bool.eq_false_or_eq_true ok with h | h
        · exact h
        · rw [hW, h] at hlt; exact absurd hlt (Nat.not_lt_zero _)
      have hxlt := (hix hok).1
      have hyD : D.getD y 0 = D.getD x 0 - 1 := hyD'
      have hnext : W.drop (i + 1) = wayL C R D (D.getD y 0).toNat y := hnext'
      have hpos := hna.1.2.2.1
      clear hnext' hyD' hyN'
      refine cw_skip ?_
      refine ends_then ?_
      refine cw_seq ?_
      refine cw_block ?_
      refine cw_seq ?_
      -- region 10
      refine cw_region ?_
      refine lw_v rfl rfl (ok_ix rfl (.n rfl) Try.underlying26 Try.sizeOf3 rfl rfl hS (fun _ => ⟨by omega, by omega⟩)) ?_
      refine lw_v rfl rfl (ok_eq (ok_ldx rfl (.n rfl) rfl Try.isAgg3 hS (fun _ => ⟨by omega, by omega⟩) (by rfl)) (c' := .int .i64 (a : Int)) (fun _ => congrArg (Value.int .i64) hWa)) ?_
      refine lw_v rfl rfl (ok_assign rfl (.n rfl) rfl) ?_
      refine lw_nil ?_
      refine Ends.keep [(9, .eq _), (10, .eq _), (12, .eq _), (14, .eq _), (16, .eq _), (18, .eq _), (88, .eq _), (89, .eq _), (90, .eq _)] (.cons rfl (.cons rfl (.cons rfl (.cons rfl (.cons rfl (.cons rfl (.cons rfl (.cons rfl (.cons rfl .nil))))))))) ?_
      refine ends_then ?_
      refine cw_seq ?_
      -- region 11
      refine cw_region ?_
      refine lw_v rfl rfl (ok_ldS rfl (.n rfl) rfl Try.isAgg29 Try.sizeOf29 hS rfl) ?_
      refine lw_v rfl rfl (ok_move rfl (.n rfl) rfl) ?_
      refine lw_call (f := 40) (xs := [_, _]) rfl rfl rfl Try.call40 rfl (Calls.mono (f40 C q a _ hwf (hS.cs q) haM) ?_)
      rintro e w' ⟨rfl, hg⟩
      replace hS := hS.grow hg; clear hg
      refine ⟨_, rfl, ?_⟩
      refine lw_v rfl rfl (ok_move rfl (.n rfl) rfl) ?_
      refine lw_v rfl rfl (ok_extract rfl (.n rfl) rfl rfl) ?_
      refine lw_v rfl rfl (ok_extract rfl (.n rfl) rfl rfl) ?_
      refine lw_v rfl rfl (ok_assign rfl (.n rfl) rfl) ?_
      refine lw_v rfl rfl (ok_assign rfl (.n rfl) rfl) ?_
      refine lw_nil ?_
      refine Ends.keep [(9, .eq _), (10, .eq _), (12, .eq _), (14, .eq _), (16, .eq _), (18, .eq _), (19, .eq _), (20, .eq _), (88, .eq _), (89, .eq _), (90, .eq _)] (.cons rfl (.cons rfl (.cons rfl (.cons rfl (.cons rfl (.cons rfl (.cons rfl (.cons rfl (.cons rfl (.cons rfl (.cons rfl .nil))))))))))) ?_
      refine ends_then ?_
      refine cw_seq ?_
      refine cw_seq ?_
      -- region 12
      refine cw_region ?_
      refine lw_v rfl rfl (ok_move rfl (.n rfl) rfl) ?_
      refine lw_v rfl rfl (ok_not rfl (.n rfl) rfl) ?_
      refine lw_v rfl rfl (ok_move rfl (.n rfl) rfl) ?_
      refine lw_v rfl rfl (ok_move rfl (.s rfl rfl) rfl) ?_
      refine lw_v rfl rfl (ok_move rfl (.s rfl rfl) rfl) ?_
      refine lw_v rfl rfl (ok_neq rfl (.s rfl rfl) rfl rfl) ?_
      refine lw_v rfl rfl (ok_or rfl rfl rfl rfl) ?_
      refine lw_v rfl rfl (ok_move rfl (.n rfl) rfl) ?_
      refine lw_v rfl rfl (ok_move rfl (.s rfl rfl) rfl) ?_
      refine lw_v rfl rfl (ok_move rfl (.s rfl rfl) rfl) ?_
      refine lw_v rfl rfl (ok_ix rfl (.s rfl rfl) Try.underlying25 Try.sizeOf2 rfl rfl hS (fun _ => ⟨by omega, by omega⟩)) ?_
      refine lw_v rfl rfl (ok_ldx rfl (.s rfl rfl) rfl Try.isAgg2 hS (fun _ => ⟨by omega, by omega⟩) (by rfl)) ?_
      refine lw_v rfl rfl (ok_leq rfl (.s rfl rfl) rfl rfl) ?_
      refine lw_v rfl rfl (ok_or rfl rfl rfl rfl) ?_
      refine lw_nil ?_
      refine Ends.keep [(9, .eq _), (10, .eq _), (12, .eq _), (14, .eq _), (18, .eq _), (88, .eq _), (89, .eq _), (90, .eq _), (113, .eq _)] (.cons rfl (.cons rfl (.cons rfl (.cons rfl (.cons rfl (.cons rfl (.cons rfl (.cons rfl (.cons rfl .nil))))))))) ?_
      refine ends_then ?_
      refine cw_cond rfl (fun h113 => ?_) (fun h113 => ?_)
      ·
        rw [hat] at h113
        exact (way_arc hpos h113).elim
      ·
        refine cw_skip ?_
        refine ends_then ?_
        -- region 14
        refine cw_region ?_
        refine lw_v rfl rfl (ok_fb rfl (.n rfl) Try.underlying29 rfl Try.sizeOf26 (by decide) rfl) ?_
        refine lw_v rfl rfl (ok_ldb rfl (.n rfl) rfl Try.isAgg26 hS (by rfl)) ?_
        refine lw_v rfl rfl (ok_move rfl (.n rfl) rfl) ?_
        refine lw_v rfl rfl (ok_ix rfl (.n rfl) Try.underlying26 Try.sizeOf3 rfl rfl hS (fun _ => ⟨by omega, by omega⟩)) ?_
        refine lw_v rfl rfl (ok_eq (ok_ldx rfl (.n rfl) rfl Try.isAgg3 hS (fun _ => ⟨by omega, by omega⟩) (by rfl)) (c' := .int .i64 (y : Int)) (fun _ => congrArg (Value.int .i64) hy)) ?_
        refine lw_v rfl rfl (ok_assign rfl (.n rfl) rfl) ?_
        refine lw_nil ?_
        refine in_normal (?_)
        refine Ends.keep [(9, .eq _), (10, .eq _), (12, .eq _), (14, .eq _), (16, .eq _), (88, .eq _), (89, .eq _), (90, .eq _)] (.cons rfl (.cons rfl (.cons rfl (.cons rfl (.cons rfl (.cons rfl (.cons rfl (.cons rfl .nil)))))))) ?_
        refine ends_then ?_
        -- region 15
        refine cw_region ?_
        refine lw_v rfl rfl (ok_addi rfl (.n rfl) rfl rfl (fun _ => ⟨by omega, by omega⟩)) ?_
        refine lw_v rfl rfl (ok_move rfl (.n rfl) rfl) ?_
        refine lw_nil ?_
        -- BACK
        refine ends_back2 (i + 1) y (.cons rfl (.cons rfl (.cons rfl (.cons rfl (.cons rfl (.cons rfl (.cons rfl (.cons rfl .nil)))))))) ⟨⟨by omega, hyN, fun _ => ⟨by omega, hnext⟩⟩, hS⟩ (by omega)
    ·
      have hie : i = W.length := by have := of_decide_eq_false h91; omega
      have hfin : (!ok || decide ((x : Int) = (v : Int))) = true := way_fin hL hvN hxN hie hix
      refine cw_exit ?_
      refine then_exit (then_exit (in_exit (?_)))
      refine Ends.keep [(12, .eq _), (14, .eq _), (16, .eq _)] (.cons rfl (.cons rfl (.cons rfl .nil))) ?_
      refine ends_then ?_
      refine cw_seq ?_
      -- region 16
      refine cw_region ?_
      refine lw_v rfl rfl (ok_move rfl (.n rfl) rfl) ?_
      refine lw_v rfl rfl (ok_not rfl (.n rfl) rfl) ?_
      refine lw_v rfl rfl (ok_move rfl (.n rfl) rfl) ?_
      refine lw_v rfl rfl (ok_move rfl (.s rfl rfl) rfl) ?_
      refine lw_v rfl rfl (ok_move rfl (.s rfl rfl) rfl) ?_
      refine lw_v rfl rfl (ok_eql rfl (.s rfl rfl) rfl rfl) ?_
      refine lw_v rfl rfl (ok_eq (g := none) (ok_or rfl rfl rfl rfl) (c' := .bool true) (fun _ => congrArg Value.bool (hfin))) ?_
      refine lw_v rfl rfl (ok_move rfl (.n rfl) rfl) ?_
      refine lw_on (.s rfl rfl) rfl ?_
      refine lw_call (f := 43) (xs := []) rfl rfl rfl Try.call43 rfl (Calls.mono (f43 _) ?_)
      rintro e w' ⟨rfl, hg⟩
      replace hS := hS.grow hg; clear hg
      refine ⟨_, rfl, ?_⟩
      refine lw_v rfl rfl (ok_pick rfl rfl rfl rfl rfl) ?_
      refine lw_v rfl rfl (ok_assign rfl (.n rfl) rfl) ?_
      refine lw_nil ?_
      refine Ends.keep [(8, .eq _)] (.cons rfl .nil) ?_
      refine ends_then ?_
      refine cw_ret ?_
      exact end_ret (res1 Try.results16 rfl) ⟨rfl, hS.below⟩

end Go.Proofs.Ytnpgeohkmdcbkaa.Aq
