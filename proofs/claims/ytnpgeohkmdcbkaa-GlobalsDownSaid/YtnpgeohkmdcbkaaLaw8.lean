/- The walk of the law GlobalsDown. -/
import Derived.Test.YtnpgeohkmdcbkaaLaw22
namespace Go.Proofs.Ytnpgeohkmdcbkaa.Aq
open Go Go.RowKit

/-! Pushes along flat arcs -/
theorem zeros_get {m k : Nat} : (List.replicate m (0 : Int)).getD k 0 = 0 := by
  simp [List.getD_eq_getElem?_getD, List.getElem?_replicate]
  split <;> rfl
theorem mark_is {c : Cs} {res ex : List Int} (hl : res.length = c.Head.length) (he : ex.length = c.N) : markF c res ex = (ex.getD c.T 0, (exactL c res).sum) := by
  have h : exOk c res 1 = true := exOk_iff.2 ⟨hl, by omega, by omega⟩
  rw [markF_yes h he, exactF_yes h]
structure PushOk (c : Cs) (Y : List Int) : Prop where
  len : Y.length = c.Head.length
  rng : ∀ a, a < c.Head.length → 0 ≤ Y.getD a 0 ∧ Y.getD a 0 + Y.getD (c.Rev.getD a 0).toNat 0 ≤ 4503599627370492
theorem PushOk.start {c : Cs} (hw : WF c) {R : List Int} (h : ResOk c R) : PushOk c R :=
  ⟨h.len, fun a ha => by
    have h1 := h.rng a ha
    have h2 := hw.rv a ha
    have h3 := h.rng (c.Rev.getD a 0).toNat (by omega)
    omega⟩
structure RevAt (c : Cs) (a r : Nat) : Prop where
  lt : r < c.Head.length
  ne : r ≠ a
  re : c.Rev.getD r 0 = a
  to : c.Rev.getD a 0 = r
  tl : tailOf c r = (c.Head.getD a 0).toNat
  hd : (c.Head.getD r 0).toNat = tailOf c a
theorem rev_at {c : Cs} (hw : WF c) {a : Nat} (ha : a < c.Head.length) : ∃ r : Nat, c.Rev.getD a 0 = r ∧ RevAt c a r := by
  have h2 := hw.rv a ha
  obtain ⟨r, hr⟩ : ∃ r : Nat, c.Rev.getD a 0 = r := ⟨(c.Rev.getD a 0).toNat, by omega⟩
  obtain ⟨h3, h4, h5⟩ := tail_at hw ha
  obtain ⟨h6, h7, h8, h9⟩ := hw.tl _ a h3 ha h4 h5
  have h10 := hw.rr a ha
  have hd := hw.hd a ha
  rw [hr, Int.toNat_natCast] at h10 h8
  rw [hr] at h6 h7 h2
  have h11 := tail_eq hw (by omega : (c.Head.getD a 0).toNat < c.N) h6 h7
  refine ⟨r, hr, by omega, ?_, h10, hr, h11, by omega⟩
  rintro rfl
  omega
theorem flat_at {c : Cs} (hw : WF c) {Y : List Int} (hl : Y.length = c.Head.length) {j : Nat} (hj : j < (flatL c Y (exactL c Y)).length) :
    ∃ a : Nat, (flatL c Y (exactL c Y)).getD j 0 = a ∧ a < c.Head.length ∧ tailOf c a ≠ c.S ∧ 0 < Y.getD a 0 ∧ (exactL c Y).getD (tailOf c a) 0 = (exactL c Y).getD (c.Head.getD a 0).toNat 0 + 1 := by
  have hm : mayB c Y (exactL c Y) = true := (may_iff hw).2 ⟨hl, exact_right hw (exactL_low c Y)⟩
  have h1 := getD_memI hj
  obtain ⟨h2, h3⟩ := downL_rng h1
  obtain ⟨a, ha⟩ : ∃ a : Nat, (flatL c Y (exactL c Y)).getD j 0 = a := ⟨_, (Int.toNat_of_nonneg h2).symm⟩
  rw [ha] at h1 h3
  refine ⟨a, ha, by omega, ?_⟩
  have h4 := (mem_down hm (by omega)).1 h1
  unfold downP at h4
  rw [Bool.and_eq_true, Bool.and_eq_true, Bool.not_eq_true', decide_eq_false_iff_not, decide_eq_true_eq, decide_eq_true_eq] at h4
  exact ⟨fun e => h4.1.1 (by rw [e]), h4.1.2, by omega⟩
theorem half_of {y : Int} (h : 0 < y) : ∃ d, (y + 1).tdiv 2 = d ∧ 1 ≤ d ∧ d ≤ y := by
  refine ⟨_, rfl, ?_⟩
  rw [Int.tdiv_eq_ediv_of_nonneg (by omega)]
  omega
theorem rem_of {d : Int} (h : 0 ≤ d) : ∃ e, d.tmod 1000 = e ∧ 0 ≤ e ∧ e ≤ 999 := by
  refine ⟨_, rfl, ?_⟩
  rw [Int.tmod_eq_emod_of_nonneg h]
  omega
theorem push_get {Y : List Int} {a r : Nat} {d : Int} (ha : a < Y.length) (hr : r < Y.length) (hne : r ≠ a) (x : Nat) : ((Y.set a (Y.getD a 0 - d)).set r (Y.getD r 0 + d)).getD x 0 = if x = r then Y.getD r 0 + d else if x = a then Y.getD a 0 - d else Y.getD x 0 := by
  rw [set_get (by rw [List.length_set]; exact hr), set_get ha]
theorem PushOk.push {c : Cs} {Y : List Int} (p : PushOk c Y) (hw : WF c) {a r : Nat} (hr : RevAt c a r) (ha : a < c.Head.length) {d : Int} (h1 : 1 ≤ d) (h2 : d ≤ Y.getD a 0) : PushOk c ((Y.set a (Y.getD a 0 - d)).set r (Y.getD r 0 + d)) := by
  have hl := p.len
  have hlt := hr.lt
  have get := push_get (Y := Y) (d := d) (a := a) (r := r) (by omega) (by omega) hr.ne
  refine ⟨by rw [List.length_set, List.length_set]; exact hl, fun x hx => ?_⟩
  have h3 := p.rng x hx
  have h4 := hw.rv x hx
  have h5 := hw.rr x hx
  obtain ⟨y, hy⟩ : ∃ y : Nat, c.Rev.getD x 0 = y := ⟨(c.Rev.getD x 0).toNat, by omega⟩
  rw [hy, Int.toNat_natCast] at h3 h5 ⊢
  rw [hy] at h4
  have h6 := p.rng r hlt
  have h7 := p.rng a ha
  have hne := hr.ne
  have hto := hr.to
  have hre := hr.re
  rw [get x, get y]
  by_cases e1 : x = r
  · subst e1
    obtain rfl : y = a := by omega
    rw [if_pos rfl, if_neg (Ne.symm hne), if_pos rfl]
    omega
  · by_cases e2 : x = a
    · subst e2
      obtain rfl : y = r := by omega
      rw [if_neg e1, if_pos rfl, if_pos rfl]
      omega
    · have e3 : y ≠ r := fun e => by subst e; omega
      have e4 : y ≠ a := fun e => by subst e; omega
      rw [if_neg e1, if_neg e2, if_neg e3, if_neg e4]
      exact h3
theorem push_low {c : Cs} (hw : WF c) {Y : List Int} (hl : Y.length = c.Head.length) {a r : Nat} (hr : RevAt c a r) (ha : a < c.Head.length) (hS : tailOf c a ≠ c.S) (hD : (exactL c Y).getD (tailOf c a) 0 = (exactL c Y).getD (c.Head.getD a 0).toNat 0 + 1) {d : Int} (h1 : 0 ≤ d) :
    ∀ v, v < c.N → (exactL c Y).getD v 0 ≤ (exactL c ((Y.set a (Y.getD a 0 - d)).set r (Y.getD r 0 + d))).getD v 0 := by
  have L := exactL_low c Y
  have hlt := hr.lt
  have get := push_get (Y := Y) (d := d) (a := a) (r := r) (by omega) (by omega) hr.ne
  refine (exactL_low c _).greatest (x := fun v => (exactL c Y).getD v 0) L.le fun u w hu hww he => ?_
  obtain ⟨hus, x, hx, e1, e2, e3⟩ := he
  rw [get x] at e3
  by_cases h3 : x = r
  · subst h3
    have h5 := hr.tl
    have h6 := hr.hd
    rw [e1] at h5
    rw [e2] at h6
    subst h5 h6
    show (exactL c Y).getD _ 0 ≤ (exactL c Y).getD _ 0 + 1
    omega
  · rw [if_neg h3] at e3
    refine L.ok u w hu hww ⟨hus, x, hx, e1, e2, ?_⟩
    split at e3
    · rename_i h4; subst h4; omega
    · exact e3
theorem sum_le : ∀ {D D' : List Int}, D.length = D'.length → (∀ v, v < D.length → D.getD v 0 ≤ D'.getD v 0) → D.sum ≤ D'.sum
  | [], [], _, _ => Int.le_refl _
  | x :: D, y :: D', h, hv => by
    have h1 := sum_le (D := D) (D' := D') (by simpa using h) fun v hlt => by simpa using hv (v + 1) (by simpa using hlt)
    have h2 := hv 0 (by simp)
    simp only [List.getD_cons_zero] at h2
    simp only [List.sum_cons]
    omega
theorem St.turn8 {B : Nat} {we w : World} {L : List Asn} {x y z a b d e : Asn} (h : St B we w (x :: y :: z :: a :: b :: d :: e :: L)) : St B we w (a :: b :: d :: x :: L) := by
  have h1 : St B we w (x :: a :: b :: d :: L) := h.sub (.cons_cons _ (.cons _ (.cons _ (.cons_cons _ (.cons_cons _ (.cons_cons _ (.cons _ (List.Sublist.refl _))))))))
  exact h1.perm ((List.Perm.swap a x _).trans (((List.Perm.swap b x _).trans ((List.Perm.swap d x _).cons b)).cons a))

set_option maxHeartbeats 4000000 in
set_option maxRecDepth 10000 in
/-- acequialaw20.GlobalsDown. -/
theorem f8 (n : Nt) (A : Option Addr) (c : Nat) (l : List Int) (A1 : Option Addr) (c1 : Nat) (more : List Int) (A2 : Option Addr) (c2 : Nat) (w : World) (ha : (sl eArc 3 A n.arcs.length c n.arcs).p w) (hrgn : (-9223372036854775808 ≤ n.N ∧ n.N ≤ 9223372036854775807) ∧ (-9223372036854775808 ≤ n.S ∧ n.S ≤ 9223372036854775807) ∧ (-9223372036854775808 ≤ n.T ∧ n.T ≤ 9223372036854775807) ∧ ∀ a ∈ n.arcs, -9223372036854775808 ≤ a.1 ∧ a.1 ≤ 9223372036854775807 ∧ -9223372036854775808 ≤ a.2.1 ∧ a.2.1 ≤ 9223372036854775807 ∧ -9223372036854775808 ≤ a.2.2 ∧ a.2.2 ≤ 9223372036854775807) (hl : (sl (eInt .i64) 1 A1 l.length c1 l).p w) (hrgl : ∀ x ∈ l, -9223372036854775808 ≤ x ∧ x ≤ 9223372036854775807) (hm : (sl (eInt .u8) 1 A2 more.length c2 more).p w) (hrgm : ∀ x ∈ more, 0 ≤ x ∧ x ≤ 255) :
    Calls Try.prog 8 #[netV n A c, .slice A1 l.length c1, .slice A2 more.length c2] w fun e w' => e = .returned (.bool true) ∧ Gr w w' := by
  refine calls_cw Try.func8 rfl Try.ntmps8 rfl ?_
  have hS := (((St.start w).args (Nat.le_refl _) _ ha rfl).args (Nat.le_refl _) _ hl rfl).args (Nat.le_refl _) _ hm rfl
  have hml := hm.2.1
  refine cw_seq ?_
  -- region 0
  refine cw_region ?_
  refine lw_box rfl rfl rfl rfl hS ?_
  clear hS; intro b3 w1 _ _ hS
  refine lw_v rfl rfl (ok_assign rfl (.n rfl) rfl) ?_
  refine lw_nil ?_
  refine Ends.keep [(1, .eq _), (2, .eq _), (3, .eq _)] (.cons rfl (.cons rfl (.cons rfl .nil))) ?_
  refine ends_then ?_
  refine cw_seq ?_
  -- region 1
  refine cw_region ?_
  refine lw_v rfl rfl (ok_ldS rfl (.n rfl) rfl Try.isAgg24 Try.sizeOf24 hS rfl) ?_
  refine lw_call (f := 24) (xs := [_, _, _]) rfl rfl rfl Try.call24 rfl (Calls.mono (f24a n A c _ (hS.rd A (by have := ha.2.1; omega)) hrgn) ?_)
  rintro e w' ⟨n1, AS, cS, hok, rfl, hg, hfr, ho⟩
  replace hS := hS.new hg _ ho hfr; clear hg ho hfr
  refine ⟨_, rfl, ?_⟩
  refine lw_v rfl rfl (ok_move rfl (.n rfl) rfl) ?_
  refine lw_call (f := 23) (xs := [_, _]) rfl rfl rfl Try.call23 rfl (Calls.mono (f23a n1 AS cS l A1 c1 _ hok (hS.rd AS (by have := hok.len; omega)) (hS.rd A1 hl.2.1) hl.2.1 hrgl) ?_)
  rintro e w' ⟨C, R, q, A6, c6, ⟨hwf, hro⟩, rfl, hg, hnew, hat, hfr, hap, ho⟩
  replace hS := hS.left hg hat hnew ho hfr hap; clear hg hnew hat hfr hap ho
  replace hS := hS.sub (.cons_cons _ (.cons_cons _ (.cons_cons _ (.cons_cons _ (.cons_cons _ (.cons_cons _ (.cons_cons _ (.cons _ (List.Sublist.refl _)))))))))
  have hM := hwf.m
  have hrlen := hro.len
  have hN := hwf.hi
  have hlo := hwf.lo
  have he1 : exactF C R 1 = exactL C R := exactF_yes (exOk_iff.2 ⟨hrlen, by omega, by omega⟩)
  have hDl := (exactL_low C R).len
  have htN := hwf.t
  have hrl := hwf.rl
  have hPR := PushOk.start hwf hro
  refine ⟨_, rfl, ?_⟩
  refine lw_v rfl rfl (ok_move rfl (.n rfl) rfl) ?_
  refine lw_v rfl rfl (ok_extract rfl (.n rfl) rfl rfl) ?_
  refine lw_v rfl rfl (ok_extract rfl (.n rfl) rfl rfl) ?_
  refine lw_alloc rfl rfl rfl Try.zeroValue29 hS ?_
  clear hS; intro b7 w2 _ _ hS
  refine lw_stS rfl rfl rfl rfl rfl (by kernel_rfl) hS rfl (by rfl) (by rfl) ?_
  clear hS; intro w3 hS
  refine lw_v rfl rfl (ok_assign rfl (.n rfl) rfl) ?_
  refine lw_nil ?_
  refine Ends.keep [(2, .eq _), (7, .eq _), (8, .eq _)] (.cons rfl (.cons rfl (.cons rfl .nil))) ?_
  refine ends_then ?_
  refine cw_seq ?_
  -- region 2
  refine cw_region ?_
  refine lw_v rfl rfl (ok_ldS rfl (.n rfl) rfl Try.isAgg29 Try.sizeOf29 hS rfl) ?_
  refine lw_v rfl rfl (ok_move rfl (.n rfl) rfl) ?_
  refine lw_call (f := 44) (xs := [_, _, _]) rfl rfl rfl Try.call44 rfl (Calls.mono (f44 C q R A6 c6 1 _ hwf (hS.cs q) (hS.rd A6 (by omega))) ?_)
  rintro e0 w' ⟨A29, c29, rfl, hg, hfr, ho, _⟩
  rw [he1, hDl] at hfr ho
  replace hS := hS.new hg _ ho hfr; clear hg ho hfr
  replace hS := hS.freeze .here (by omega)
  rw [he1, hDl]
  refine ⟨_, rfl, ?_⟩
  refine lw_v rfl rfl (ok_assign rfl (.n rfl) rfl) ?_
  refine lw_nil ?_
  refine Ends.keep [(2, .eq _), (7, .eq _), (8, .eq _), (9, .eq _)] (.cons rfl (.cons rfl (.cons rfl (.cons rfl .nil)))) ?_
  refine ends_then ?_
  refine cw_seq ?_
  -- region 3
  refine cw_region ?_
  refine lw_v rfl rfl (ok_fb rfl (.n rfl) Try.underlying29 rfl Try.sizeOf3 (by decide) rfl) ?_
  refine lw_v rfl rfl (ok_eq (ok_ldb rfl (.n rfl) rfl Try.isAgg3 hS (by rfl)) (c' := .int .i64 (C.N : Int)) (fun _ => rfl)) ?_
  refine lw_make (enc := (eInt .i64)) rfl rfl rfl Try.underlying25 info2 rfl rfl rfl rfl (by omega) (by omega) hS ?_
  clear hS; intro A32 c32 w4 _ hS
  refine lw_v rfl rfl (ok_assign rfl (.n rfl) rfl) ?_
  refine lw_nil ?_
  refine Ends.keep [(2, .eq _), (7, .eq _), (8, .eq _), (9, .eq _), (10, .eq _)] (.cons rfl (.cons rfl (.cons rfl (.cons rfl (.cons rfl .nil))))) ?_
  refine ends_then ?_
  refine cw_seq ?_
  -- region 4
  refine cw_region ?_
  refine lw_v rfl rfl (ok_ldS rfl (.n rfl) rfl Try.isAgg29 Try.sizeOf29 hS rfl) ?_
  refine lw_v rfl rfl (ok_move rfl (.n rfl) rfl) ?_
  refine lw_v rfl rfl (ok_move rfl (.n rfl) rfl) ?_
  refine lw_v rfl rfl (ok_build (cells := #[.slice A6 R.length c6, .slice A32 C.N c32, .slice none 0 0]) rfl (.n rfl) Try.underlying56 Try.zeroValue56 pl56 rfl (by kernel_rfl)) ?_
  refine lw_call (f := 45) (xs := [_, _]) rfl rfl rfl Try.call45 rfl (Calls.mono (f45 C q R (List.replicate C.N 0) A6 c6 A32 c32 _ hwf (hS.cs q) (hS.rd A6 (by omega)) (hS.rd A32 (by omega))) ?_)
  rintro e0 w' ⟨rfl, hg⟩
  replace hS := hS.grow hg; clear hg
  rw [mark_is hrlen List.length_replicate]
  refine ⟨_, rfl, ?_⟩
  refine lw_alloc rfl rfl rfl Try.zeroValue53 hS ?_
  clear hS; intro b11 w5 _ _ hS
  refine lw_stS rfl rfl rfl rfl rfl (by kernel_rfl) hS rfl (by rfl) (by rfl) ?_
  clear hS; intro w6 hS
  refine lw_nil ?_
  refine Ends.keep [(2, .eq _), (7, .eq _), (8, .eq _), (9, .eq _), (10, .eq _), (11, .eq _)] (.cons rfl (.cons rfl (.cons rfl (.cons rfl (.cons rfl (.cons rfl .nil)))))) ?_
  refine ends_then ?_
  refine cw_seq ?_
  refine cw_seq ?_
  -- region 5
  refine cw_region ?_
  refine lw_v rfl rfl (ok_move rfl (.n rfl) rfl) ?_
  refine lw_v rfl rfl (ok_move rfl (.n rfl) rfl) ?_
  refine lw_v rfl rfl (ok_len rfl (.n rfl) Try.underlying51 rfl) ?_
  refine lw_v rfl rfl (ok_eq (ok_min2 rfl (.n rfl) rfl rfl) (c' := .int .i64 (((min more.length 30) : Nat) : Int)) (fun _ => congrArg (Value.int .i64) (by split <;> omega))) ?_
  refine lw_v rfl rfl (ok_slto (k := (min more.length 30)) (enc := (eInt .u8)) rfl (.n rfl) Try.underlying51 Try.sizeOf5 rfl rfl hS ⟨rfl, by omega⟩) ?_
  refine lw_v rfl rfl (ok_len rfl (.n rfl) Try.underlying51 rfl) ?_
  refine lw_v rfl rfl (ok_move rfl (.n rfl) rfl) ?_
  refine lw_nil ?_
  refine Ends.keep [(7, .eq _), (8, .eq _), (9, .eq _), (10, .eq _), (11, .eq _), (42, .eq _), (43, .eq _), (44, .eq _)] (.cons rfl (.cons rfl (.cons rfl (.cons rfl (.cons rfl (.cons rfl (.cons rfl (.cons rfl .nil)))))))) ?_
  refine ends_then ?_
  refine cw_block ?_
  -- LOOP at region 6: changed live slots [9, 44], kept [7, 8, 10, 11, 42, 43]
  refine cw_loop3 [(7, .eq _), (8, .eq _), (10, .eq _), (11, .eq _), (42, .eq _), (43, .eq _)] (fun (i : Nat) (A' : Option Addr) (c' : Nat) => [(9, .eq (.slice A' C.N c')), (44, .eq (.int .i64 i))]) (fun i A' c' w' => ∃ (Y ex : List Int), (i ≤ (min more.length 30) ∧ PushOk C Y ∧ ex.length = C.N ∧ 0 ≤ ex.getD C.T 0 ∧ ex.getD C.T 0 ≤ 999 * (i : Int)) ∧ St w.heap.size w w' [sl (eInt .u8) 1 A2 (min more.length 30) c2 (more.take (min more.length 30)), bx b11 (mkV (ex.getD C.T 0, (exactL C Y).sum)).cells.toList 53, own (eInt .i64) 1 2 A32 C.N c32 ex, sl (eInt .i64) 1 A' C.N c' (exactL C Y), bx b7 (csV C q).cells.toList 29, own (eInt .i64) 1 2 A6 R.length c6 Y, sl (eInt .i64) 1 q.a0 C.First.length q.c0 C.First, sl (eInt .i64) 1 q.a1 C.Head.length q.c1 C.Head, sl (eInt .i64) 1 q.a2 C.Rev.length q.c2 C.Rev, sl (eInt .i64) 1 q.a3 C.Cap.length q.c3 C.Cap, sl (eInt .i64) 1 q.a4 C.Arc.length q.c4 C.Arc, sl eBool 1 q.a5 C.Back.length q.c5 C.Back, bx b3 (netV n A c).cells.toList 24, sl (eInt .u8) 1 A2 more.length c2 more, sl (eInt .i64) 1 A1 l.length c1 l, sl eArc 3 A n.arcs.length c n.arcs]) (fun i _ _ => (min more.length 30) - i) 0 A29 c29 (.cons rfl (.cons rfl (.cons rfl (.cons rfl (.cons rfl (.cons rfl .nil)))))) (.cons rfl (.cons rfl (.cons rfl (.cons rfl (.cons rfl (.cons rfl (.cons rfl (.cons rfl .nil)))))))) ⟨R, (List.replicate C.N 0), ⟨Nat.zero_le _, hPR, List.length_replicate, by rw [zeros_get]; omega, by rw [zeros_get]; omega⟩, by
    have h := hS.take' (.tail _ (.tail _ (.tail _ (.tail _ (.tail _ (.tail _ (.tail _ (.tail _ (.tail _ (.tail _ (.tail _ (.tail _ (.head _))))))))))))) (min more.length 30) (by omega)
    rw [show (more.take (min more.length 30)).length = (min more.length 30) from by rw [List.length_take]; omega] at h
    exact h⟩ ?_
  clear hS
  rintro i A' c' wr ⟨Y, ex, ⟨hi, hY, hexl, hex0, hex1⟩, hS⟩
  have hYl := hY.len
  have hmk : (more.take (min more.length 30)).length = (min more.length 30) := by rw [List.length_take]; omega
  have hFl := flatL_len hwf Y (exactL C Y)
  refine cw_seq ?_
  -- region 6
  refine cw_region ?_
  refine lw_v rfl rfl (ok_lss rfl (.n rfl) rfl rfl) ?_
  refine lw_nil ?_
  refine Ends.keep [(7, .eq _), (8, .eq _), (9, .eq _), (10, .eq _), (11, .eq _), (42, .eq _), (43, .eq _), (44, .eq _), (45, .eq _)] (.cons rfl (.cons rfl (.cons rfl (.cons rfl (.cons rfl (.cons rfl (.cons rfl (.cons rfl (.cons rfl .nil))))))))) ?_
  refine ends_then ?_
  refine cw_seq ?_
  refine cw_cond rfl (fun h45 => ?_) (fun h45 => ?_)
  ·
    have hiK : i < (min more.length 30) := by have := of_decide_eq_true h45; omega
    refine cw_skip ?_
    refine ends_then ?_
    refine cw_seq ?_
    refine cw_block ?_
    refine cw_seq ?_
    -- region 7
    refine cw_region ?_
    refine lw_v rfl rfl (ok_ix rfl (.n rfl) Try.underlying51 Try.sizeOf5 rfl rfl hS (fun _ => ⟨by omega, by omega⟩)) ?_
    refine lw_v rfl rfl (ok_ldx rfl (.n rfl) rfl Try.isAgg5 hS (fun _ => ⟨by omega, by omega⟩) (by rfl)) ?_
    refine lw_v rfl rfl (ok_assign rfl (.n rfl) rfl) ?_
    refine lw_nil ?_
    refine Ends.keep [(7, .eq _), (8, .eq _), (9, .eq _), (10, .eq _), (11, .eq _), (13, .eq _), (42, .eq _), (43, .eq _), (44, .eq _)] (.cons rfl (.cons rfl (.cons rfl (.cons rfl (.cons rfl (.cons rfl (.cons rfl (.cons rfl (.cons rfl .nil))))))))) ?_
    refine ends_then ?_
    refine cw_seq ?_
    -- region 8
    refine cw_region ?_
    refine lw_v rfl rfl (ok_ldS rfl (.n rfl) rfl Try.isAgg29 Try.sizeOf29 hS rfl) ?_
    refine lw_v rfl rfl (ok_move rfl (.n rfl) rfl) ?_
    refine lw_v rfl rfl (ok_move rfl (.n rfl) rfl) ?_
    refine lw_call (f := 33) (xs := [_, _, _]) rfl rfl rfl Try.call33 rfl (Calls.mono (f33g C q Y (exactL C Y) A6 c6 A' c' _ hwf (hS.cs q) (hS.rd A6 (by omega)) (hS.rd A' (by omega))) ?_)
    rintro e w' ⟨A51, c51, rfl, hg, hfr, ho⟩
    replace hS := hS.new hg _ ho hfr; clear hg ho hfr
    replace hS := hS.freeze .here (by omega)
    refine ⟨_, rfl, ?_⟩
    refine lw_v rfl rfl (ok_assign rfl (.n rfl) rfl) ?_
    refine lw_nil ?_
    refine Ends.keep [(7, .eq _), (8, .eq _), (9, .eq _), (10, .eq _), (11, .eq _), (13, .eq _), (14, .eq _), (42, .eq _), (43, .eq _), (44, .eq _)] (.cons rfl (.cons rfl (.cons rfl (.cons rfl (.cons rfl (.cons rfl (.cons rfl (.cons rfl (.cons rfl (.cons rfl .nil)))))))))) ?_
    refine ends_then ?_
    refine cw_seq ?_
    refine cw_seq ?_
    -- region 9
    refine cw_region ?_
    refine lw_v rfl rfl (ok_move rfl (.n rfl) rfl) ?_
    refine lw_v rfl rfl (ok_len rfl (.n rfl) Try.underlying26 rfl) ?_
    refine lw_v rfl rfl (ok_eql rfl (.n rfl) rfl rfl) ?_
    refine lw_nil ?_
    refine Ends.keep [(7, .eq _), (8, .eq _), (9, .eq _), (10, .eq _), (11, .eq _), (13, .eq _), (14, .eq _), (42, .eq _), (43, .eq _), (44, .eq _), (54, .eq _)] (.cons rfl (.cons rfl (.cons rfl (.cons rfl (.cons rfl (.cons rfl (.cons rfl (.cons rfl (.cons rfl (.cons rfl (.cons rfl .nil))))))))))) ?_
    refine ends_then ?_
    refine cw_cond rfl (fun h54 => ?_) (fun h54 => ?_)
    ·
      refine cw_exit ?_
      refine then_exit (in_other rfl (then_exit (then_exit (in_exit (?_)))))
      refine Ends.keep [] .nil ?_
      refine ends_then ?_
      refine cw_seq ?_
      -- region 28
      refine cw_region ?_
      refine lw_call (f := 47) (xs := []) rfl rfl rfl Try.call47 rfl (Calls.mono (f47 _) ?_)
      rintro e w' ⟨rfl, hg⟩
      replace hS := hS.grow hg; clear hg
      refine ⟨_, rfl, ?_⟩
      refine lw_v rfl rfl (ok_assign rfl (.n rfl) rfl) ?_
      refine lw_nil ?_
      refine Ends.keep [(6, .eq _)] (.cons rfl .nil) ?_
      refine ends_then ?_
      refine cw_ret ?_
      exact end_ret (res1 Try.results8 rfl) ⟨rfl, hS.below⟩
    ·
      have hnz : (flatL C Y (exactL C Y)).length ≠ 0 := by have := of_decide_eq_false h54; omega
      have hmx : 0 ≤ (more.take (min more.length 30)).getD i 0 ∧ (more.take (min more.length 30)).getD i 0 ≤ 255 := hrgm _ (List.mem_of_mem_take (getD_memI (by omega)))
      obtain ⟨j, hjv, hjN⟩ := modN ((more.take (min more.length 30)).getD i 0) hmx.1 (flatL C Y (exactL C Y)).length (by omega)
      obtain ⟨a, hav, haM, hfS, hfY, hfD⟩ := flat_at hwf hYl hjN
      obtain ⟨r, hrv, hr⟩ := rev_at hwf haM
      have hrM := hr.lt
      have hra := hr.ne
      obtain ⟨d, hdv, hd1, hd2⟩ := half_of hfY
      obtain ⟨e, hev, he0, he9⟩ := rem_of (d := d) (by omega)
      have hYa := hY.rng a haM
      have hYr := hY.rng r hrM
      rw [hrv] at hYa
      have hYa2 : 0 ≤ Y.getD a 0 ∧ Y.getD a 0 + Y.getD r 0 ≤ 4503599627370492 := hYa
      have hgr : (Y.set (a : Int).toNat (Y.getD a 0 - d)).getD (r : Int).toNat 0 = Y.getD r 0 := by rw [show (r : Int).toNat = r from rfl, show (a : Int).toNat = a from rfl, set_get (by omega), if_neg hra]
      refine cw_skip ?_
      refine ends_then ?_
      refine cw_seq ?_
      -- region 10
      refine cw_region ?_
      refine lw_v rfl rfl (ok_move rfl (.n rfl) rfl) ?_
      refine lw_v rfl rfl (ok_move rfl (.n rfl) rfl) ?_
      refine lw_v rfl rfl (ok_eq (ok_conv rfl (.n rfl) Try.underlying5 Try.underlying3 rfl) (c' := .int .i64 ((more.take (min more.length 30)).getD i 0)) (fun _ => congrArg (Value.int .i64) (wrap_in ⟨by show -9223372036854775808 ≤ (more.take (min more.length 30)).getD i 0; omega, by show (more.take (min more.length 30)).getD i 0 ≤ 9223372036854775807; omega⟩))) ?_
      refine lw_v rfl rfl (ok_move rfl (.n rfl) rfl) ?_
      refine lw_v rfl rfl (ok_len rfl (.n rfl) Try.underlying26 rfl) ?_
      refine lw_v rfl rfl (ok_eq (ok_rem rfl (.n rfl) rfl rfl (fun _ => by omega)) (c' := .int .i64 (j : Int)) (fun _ => congrArg (Value.int .i64) hjv)) ?_
      refine lw_v rfl rfl (ok_ix rfl (.n rfl) Try.underlying26 Try.sizeOf3 rfl rfl hS (fun _ => ⟨by omega, by omega⟩)) ?_
      refine lw_v rfl rfl (ok_eq (ok_ldx rfl (.n rfl) rfl Try.isAgg3 hS (fun _ => ⟨by omega, by omega⟩) (by rfl)) (c' := .int .i64 (a : Int)) (fun _ => congrArg (Value.int .i64) hav)) ?_
      refine lw_v rfl rfl (ok_assign rfl (.n rfl) rfl) ?_
      refine lw_nil ?_
      refine Ends.keep [(7, .eq _), (8, .eq _), (9, .eq _), (10, .eq _), (11, .eq _), (15, .eq _), (42, .eq _), (43, .eq _), (44, .eq _)] (.cons rfl (.cons rfl (.cons rfl (.cons rfl (.cons rfl (.cons rfl (.cons rfl (.cons rfl (.cons rfl .nil))))))))) ?_
      refine ends_then ?_
      refine cw_seq ?_
      -- region 11
      refine cw_region ?_
      refine lw_v rfl rfl (ok_move rfl (.n rfl) rfl) ?_
      refine lw_v rfl rfl (ok_move rfl (.n rfl) rfl) ?_
      refine lw_v rfl rfl (ok_ix rfl (.n rfl) Try.underlying25 Try.sizeOf2 rfl rfl hS (fun _ => ⟨by omega, by omega⟩)) ?_
      refine lw_v rfl rfl (ok_eq (ok_ldx rfl (.n rfl) rfl Try.isAgg2 hS (fun _ => ⟨by omega, by omega⟩) (by rfl)) (c' := .int .i64 (Y.getD a 0)) (fun _ => rfl)) ?_
      refine lw_v rfl rfl (ok_addi rfl (.n rfl) rfl rfl (fun _ => ⟨by omega, by omega⟩)) ?_
      refine lw_v rfl rfl (ok_eq (ok_quo rfl (.n rfl) rfl rfl (fun _ => by decide)) (c' := .int .i64 d) (fun _ => congrArg (Value.int .i64) ((wrap_in ⟨by rw [hdv]; omega, by rw [hdv]; omega⟩).trans hdv))) ?_
      refine lw_v rfl rfl (ok_assign rfl (.n rfl) rfl) ?_
      refine lw_nil ?_
      refine Ends.keep [(7, .eq _), (8, .eq _), (9, .eq _), (10, .eq _), (11, .eq _), (15, .eq _), (16, .eq _), (42, .eq _), (43, .eq _), (44, .eq _)] (.cons rfl (.cons rfl (.cons rfl (.cons rfl (.cons rfl (.cons rfl (.cons rfl (.cons rfl (.cons rfl (.cons rfl .nil)))))))))) ?_
      refine ends_then ?_
      refine cw_seq ?_
      -- region 12
      refine cw_region ?_
      refine lw_v rfl rfl (ok_move rfl (.n rfl) rfl) ?_
      refine lw_v rfl rfl (ok_move rfl (.n rfl) rfl) ?_
      refine lw_v rfl rfl (ok_ix rfl (.n rfl) Try.underlying25 Try.sizeOf2 rfl rfl hS (fun _ => ⟨by omega, by omega⟩)) ?_
      refine lw_v rfl rfl (ok_eq (ok_ldx rfl (.n rfl) rfl Try.isAgg2 hS (fun _ => ⟨by omega, by omega⟩) (by rfl)) (c' := .int .i64 (Y.getD a 0)) (fun _ => rfl)) ?_
      refine lw_v rfl rfl (ok_move rfl (.n rfl) rfl) ?_
      refine lw_v rfl rfl (ok_subi rfl (.n rfl) rfl rfl (fun _ => ⟨by omega, by omega⟩)) ?_
      refine lw_v rfl rfl (ok_ix rfl (.n rfl) Try.underlying25 Try.sizeOf2 rfl rfl hS (fun _ => ⟨by omega, by omega⟩)) ?_
      refine lw_stx (enc := (eInt .i64)) (_) rfl rfl rfl rfl rfl rfl Try.sizeOf2 hS (⟨by omega, by omega⟩) ?_
      clear hS; intro w7 hS
      refine lw_nil ?_
      refine Ends.keep [(7, .eq _), (8, .eq _), (9, .eq _), (10, .eq _), (11, .eq _), (15, .eq _), (16, .eq _), (42, .eq _), (43, .eq _), (44, .eq _)] (.cons rfl (.cons rfl (.cons rfl (.cons rfl (.cons rfl (.cons rfl (.cons rfl (.cons rfl (.cons rfl (.cons rfl .nil)))))))))) ?_
      refine ends_then ?_
      refine cw_seq ?_
      -- region 13
      refine cw_region ?_
      refine lw_v rfl rfl (ok_move rfl (.n rfl) rfl) ?_
      refine lw_v rfl rfl (ok_fb rfl (.n rfl) Try.underlying29 rfl Try.sizeOf26 (by decide) rfl) ?_
      refine lw_v rfl rfl (ok_ldb rfl (.n rfl) rfl Try.isAgg26 hS (by rfl)) ?_
      refine lw_v rfl rfl (ok_move rfl (.n rfl) rfl) ?_
      refine lw_v rfl rfl (ok_ix rfl (.n rfl) Try.underlying26 Try.sizeOf3 rfl rfl hS (fun _ => ⟨by omega, by omega⟩)) ?_
      refine lw_v rfl rfl (ok_eq (ok_ldx rfl (.n rfl) rfl Try.isAgg3 hS (fun _ => ⟨by omega, by omega⟩) (by rfl)) (c' := .int .i64 (r : Int)) (fun _ => congrArg (Value.int .i64) hrv)) ?_
      refine lw_v rfl rfl (ok_ix rfl (.n rfl) Try.underlying25 Try.sizeOf2 rfl rfl hS (fun _ => ⟨by omega, by omega⟩)) ?_
      refine lw_v rfl rfl (ok_eq (ok_ldx rfl (.n rfl) rfl Try.isAgg2 hS (fun _ => ⟨by omega, by omega⟩) (by rfl)) (c' := .int .i64 (Y.getD r 0)) (fun _ => congrArg (Value.int .i64) hgr)) ?_
      refine lw_v rfl rfl (ok_move rfl (.n rfl) rfl) ?_
      refine lw_v rfl rfl (ok_addi rfl (.n rfl) rfl rfl (fun _ => ⟨by omega, by omega⟩)) ?_
      refine lw_v rfl rfl (ok_ix rfl (.n rfl) Try.underlying25 Try.sizeOf2 rfl rfl hS (fun _ => ⟨by omega, by omega⟩)) ?_
      refine lw_stx (enc := (eInt .i64)) (_) rfl rfl rfl rfl rfl rfl Try.sizeOf2 hS (⟨by omega, by omega⟩) ?_
      clear hS; intro w8 hS
      refine lw_nil ?_
      refine Ends.keep [(7, .eq _), (8, .eq _), (9, .eq _), (10, .eq _), (11, .eq _), (15, .eq _), (16, .eq _), (42, .eq _), (43, .eq _), (44, .eq _)] (.cons rfl (.cons rfl (.cons rfl (.cons rfl (.cons rfl (.cons rfl (.cons rfl (.cons rfl (.cons rfl (.cons rfl .nil)))))))))) ?_
      refine ends_then ?_
      refine cw_cut [(7, .eq _), (8, .eq _), (9, .eq _), (10, .eq _), (11, .eq _), (42, .eq _), (43, .eq _), (44, .eq _)] (fun _ : List Int => ([] : List (Nat × PV))) (fun ex2 w' => (ex2.length = C.N ∧ ex.getD C.T 0 ≤ ex2.getD C.T 0 ∧ ex2.getD C.T 0 ≤ ex.getD C.T 0 + 999) ∧ St w.heap.size w w' [sl (eInt .i64) 1 A51 (flatL C Y (exactL C Y)).length c51 (flatL C Y (exactL C Y)), sl (eInt .u8) 1 A2 (min more.length 30) c2 (more.take (min more.length 30)), bx b11 (mkV (ex.getD C.T 0, (exactL C Y).sum)).cells.toList 53, own (eInt .i64) 1 2 A32 C.N c32 ex2, sl (eInt .i64) 1 A' C.N c' (exactL C Y), bx b7 (csV C q).cells.toList 29, own (eInt .i64) 1 2 A6 R.length c6 ((Y.set (a : Int).toNat (Y.getD a 0 - d)).set (r : Int).toNat (Y.getD r 0 + d)), sl (eInt .i64) 1 q.a0 C.First.length q.c0 C.First, sl (eInt .i64) 1 q.a1 C.Head.length q.c1 C.Head, sl (eInt .i64) 1 q.a2 C.Rev.length q.c2 C.Rev, sl (eInt .i64) 1 q.a3 C.Cap.length q.c3 C.Cap, sl (eInt .i64) 1 q.a4 C.Arc.length q.c4 C.Arc, sl eBool 1 q.a5 C.Back.length q.c5 C.Back, bx b3 (netV n A c).cells.toList 24, sl (eInt .u8) 1 A2 more.length c2 more, sl (eInt .i64) 1 A1 l.length c1 l, sl eArc 3 A n.arcs.length c n.arcs]) (.cons rfl (.cons rfl (.cons rfl (.cons rfl (.cons rfl (.cons rfl (.cons rfl (.cons rfl .nil)))))))) ?_ ?_
      ·
        refine cw_seq ?_
        -- region 14
        refine cw_draw (by kernel_rfl) (List.take 7 _) (List.drop 7 _) (List.take_append_drop 7 _).symm (by kernel_rfl) ?_
        refine free_v (ok_fb rfl (.n rfl) Try.underlying29 rfl Try.sizeOf26 (by decide) rfl) ?_
        refine free_v (ok_ldb rfl (.n rfl) rfl Try.isAgg26 hS (by rfl)) ?_
        refine free_v (ok_move rfl (.n rfl) rfl) ?_
        refine free_v (ok_ix rfl (.n rfl) Try.underlying26 Try.sizeOf3 rfl rfl hS (fun _ => ⟨by omega, by omega⟩)) ?_
        refine free_v (ok_ldx rfl (.n rfl) rfl Try.isAgg3 hS (fun _ => ⟨by omega, by omega⟩) (by rfl)) ?_
        refine free_v (ok_fb rfl (.n rfl) Try.underlying29 rfl Try.sizeOf3 (by decide) rfl) ?_
        refine free_v (ok_eq (ok_ldb rfl (.n rfl) rfl Try.isAgg3 hS (by rfl)) (c' := .int .i64 (C.T : Int)) (fun _ => rfl)) ?_
        refine free_nil ?_
        intro w9 hg_; replace hS := hS.grow hg_; clear hg_
        refine lw_v rfl rfl (ok_eql rfl (.n rfl) rfl rfl) ?_
        refine lw_nil ?_
        refine Ends.keep [(7, .eq _), (8, .eq _), (9, .eq _), (10, .eq _), (11, .eq _), (16, .eq _), (42, .eq _), (43, .eq _), (44, .eq _), (94, .eq _)] (.cons rfl (.cons rfl (.cons rfl (.cons rfl (.cons rfl (.cons rfl (.cons rfl (.cons rfl (.cons rfl (.cons rfl .nil)))))))))) ?_
        refine ends_then ?_
        refine cw_cond rfl (fun h94 => ?_) (fun h94 => ?_)
        ·
          -- region 15
          refine cw_region ?_
          refine lw_v rfl rfl (ok_move rfl (.n rfl) rfl) ?_
          refine lw_v rfl rfl (ok_fb rfl (.n rfl) Try.underlying29 rfl Try.sizeOf3 (by decide) rfl) ?_
          refine lw_v rfl rfl (ok_eq (ok_ldb rfl (.n rfl) rfl Try.isAgg3 hS (by rfl)) (c' := .int .i64 (C.T : Int)) (fun _ => rfl)) ?_
          refine lw_v rfl rfl (ok_ix rfl (.n rfl) Try.underlying25 Try.sizeOf2 rfl rfl hS (fun _ => ⟨by omega, by omega⟩)) ?_
          refine lw_v rfl rfl (ok_eq (ok_ldx rfl (.n rfl) rfl Try.isAgg2 hS (fun _ => ⟨by omega, by omega⟩) (by rfl)) (c' := .int .i64 (ex.getD C.T 0)) (fun _ => rfl)) ?_
          refine lw_v rfl rfl (ok_move rfl (.n rfl) rfl) ?_
          refine lw_v rfl rfl (ok_eq (ok_rem rfl (.n rfl) rfl rfl (fun _ => by decide)) (c' := .int .i64 e) (fun _ => congrArg (Value.int .i64) hev)) ?_
          refine lw_v rfl rfl (ok_addi rfl (.n rfl) rfl rfl (fun _ => ⟨by omega, by omega⟩)) ?_
          refine lw_v rfl rfl (ok_ix rfl (.n rfl) Try.underlying25 Try.sizeOf2 rfl rfl hS (fun _ => ⟨by omega, by omega⟩)) ?_
          refine lw_stx (enc := (eInt .i64)) (_) rfl rfl rfl rfl rfl rfl Try.sizeOf2 hS (⟨by omega, by omega⟩) ?_
          clear hS; intro w10 hS
          refine lw_nil ?_
          -- CUT
          have hget : (ex.set (C.T : Int).toNat (ex.getD C.T 0 + e)).getD C.T 0 = ex.getD C.T 0 + e := by rw [show (C.T : Int).toNat = C.T from rfl, set_get (by omega), if_pos rfl]
          refine ends_cut (ex.set (C.T : Int).toNat (ex.getD C.T 0 + e)) (.cons rfl (.cons rfl (.cons rfl (.cons rfl (.cons rfl (.cons rfl (.cons rfl (.cons rfl .nil)))))))) ⟨⟨by rw [List.length_set]; exact hexl, by omega, by omega⟩, hS⟩
        ·
          refine cw_skip ?_
          -- CUT
          refine ends_cut ex (.cons rfl (.cons rfl (.cons rfl (.cons rfl (.cons rfl (.cons rfl (.cons rfl (.cons rfl .nil)))))))) ⟨⟨hexl, by omega, by omega⟩, hS⟩
      ·
        clear hS
        rintro ex2 wc ⟨⟨hx2, hx3, hx4⟩, hS⟩
        have P2 := hY.push hwf hr haM hd1 hd2
        have hmono := push_low hwf hYl hr haM hfS hfD (d := d) (by omega)
        change PushOk C ((Y.set (a : Int).toNat (Y.getD a 0 - d)).set (r : Int).toNat (Y.getD r 0 + d)) at P2
        change ∀ v, v < C.N → (exactL C Y).getD v 0 ≤ (exactL C ((Y.set (a : Int).toNat (Y.getD a 0 - d)).set (r : Int).toNat (Y.getD r 0 + d))).getD v 0 at hmono
        generalize ((Y.set (a : Int).toNat (Y.getD a 0 - d)).set (r : Int).toNat (Y.getD r 0 + d)) = Y2 at hS P2 hmono
        have hP2l := P2.len
        have he2 : exactF C Y2 1 = exactL C Y2 := exactF_yes (exOk_iff.2 ⟨P2.len, by omega, by omega⟩)
        have hDl2 := (exactL_low C Y2).len
        have hDl1 := (exactL_low C Y).len
        have hsum := sum_le (D := exactL C Y) (D' := exactL C Y2) (by omega) (fun v hv => hmono v (by omega))
        have hris : risenB (ex2.getD C.T 0) (exactL C Y2).sum (ex.getD C.T 0) (exactL C Y).sum = false := by rw [← Bool.not_eq_true, risen_iff]; omega
        refine cw_seq ?_
        -- region 16
        refine cw_region ?_
        refine lw_v rfl rfl (ok_ldS rfl (.n rfl) rfl Try.isAgg29 Try.sizeOf29 hS rfl) ?_
        refine lw_v rfl rfl (ok_move rfl (.n rfl) rfl) ?_
        refine lw_v rfl rfl (ok_move rfl (.n rfl) rfl) ?_
        refine lw_v rfl rfl (ok_build (cells := #[.slice A6 R.length c6, .slice A32 C.N c32, .slice none 0 0]) rfl (.n rfl) Try.underlying56 Try.zeroValue56 pl56 rfl (by kernel_rfl)) ?_
        refine lw_call (f := 45) (xs := [_, _]) rfl rfl rfl Try.call45 rfl (Calls.mono (f45 C q Y2 ex2 A6 c6 A32 c32 _ hwf (hS.cs q) (hS.rd A6 (by omega)) (hS.rd A32 (by omega))) ?_)
        rintro e0 w' ⟨rfl, hg⟩
        replace hS := hS.grow hg; clear hg
        rw [mark_is P2.len hx2]
        refine ⟨_, rfl, ?_⟩
        refine lw_alloc rfl rfl rfl Try.zeroValue53 hS ?_
        clear hS; intro b17 w11 _ _ hS
        refine lw_stS rfl rfl rfl rfl rfl (by kernel_rfl) hS rfl (by rfl) (by rfl) ?_
        clear hS; intro w12 hS
        refine lw_nil ?_
        refine Ends.keep [(7, .eq _), (8, .eq _), (9, .eq _), (10, .eq _), (11, .eq _), (17, .eq _), (42, .eq _), (43, .eq _), (44, .eq _)] (.cons rfl (.cons rfl (.cons rfl (.cons rfl (.cons rfl (.cons rfl (.cons rfl (.cons rfl (.cons rfl .nil))))))))) ?_
        refine ends_then ?_
        refine cw_seq ?_
        -- region 17
        refine cw_region ?_
        refine lw_v rfl rfl (ok_ldS rfl (.n rfl) rfl Try.isAgg29 Try.sizeOf29 hS rfl) ?_
        refine lw_v rfl rfl (ok_move rfl (.n rfl) rfl) ?_
        refine lw_call (f := 44) (xs := [_, _, _]) rfl rfl rfl Try.call44 rfl (Calls.mono (f44 C q Y2 A6 c6 1 _ hwf (hS.cs q) (hS.rd A6 (by omega))) ?_)
        rintro e0 w' ⟨A111, c111, rfl, hg, hfr, ho, _⟩
        rw [he2, hDl2] at hfr ho
        replace hS := hS.new hg _ ho hfr; clear hg ho hfr
        replace hS := hS.freeze .here (by omega)
        rw [he2, hDl2]
        refine ⟨_, rfl, ?_⟩
        refine lw_v rfl rfl (ok_assign rfl (.n rfl) rfl) ?_
        refine lw_nil ?_
        refine Ends.keep [(7, .eq _), (8, .eq _), (9, .eq _), (10, .eq _), (11, .eq _), (17, .eq _), (18, .eq _), (42, .eq _), (43, .eq _), (44, .eq _)] (.cons rfl (.cons rfl (.cons rfl (.cons rfl (.cons rfl (.cons rfl (.cons rfl (.cons rfl (.cons rfl (.cons rfl .nil)))))))))) ?_
        refine ends_then ?_
        refine cw_seq ?_
        refine cw_seq ?_
        -- region 18
        refine cw_region ?_
        refine lw_v rfl rfl (ok_move rfl (.n rfl) rfl) ?_
        refine lw_v rfl rfl (ok_len rfl (.n rfl) Try.underlying26 rfl) ?_
        refine lw_v rfl rfl (ok_fb rfl (.n rfl) Try.underlying29 rfl Try.sizeOf3 (by decide) rfl) ?_
        refine lw_v rfl rfl (ok_eq (ok_ldb rfl (.n rfl) rfl Try.isAgg3 hS (by rfl)) (c' := .int .i64 (C.N : Int)) (fun _ => rfl)) ?_
        refine lw_v rfl rfl (ok_eq (g := none) (ok_neq rfl (.n rfl) rfl rfl) (c' := .bool false) (fun _ => congrArg Value.bool (by simp))) ?_
        refine lw_v rfl rfl (ok_move rfl (.n rfl) rfl) ?_
        refine lw_on (.s rfl rfl) rfl ?_
        refine lw_v rfl rfl (ok_eq (ok_ldS rfl (.n rfl) rfl Try.isAgg53 Try.sizeOf53 hS rfl) (c' := .agg #[.int .i64 (ex2.getD C.T 0), .int .i64 (exactL C Y2).sum]) (fun _ => rfl)) ?_
        refine lw_on (.s rfl rfl) rfl ?_
        refine lw_v rfl rfl (ok_eq (ok_ldS rfl (.n rfl) rfl Try.isAgg53 Try.sizeOf53 hS rfl) (c' := .agg #[.int .i64 (ex.getD C.T 0), .int .i64 (exactL C Y).sum]) (fun _ => rfl)) ?_
        refine lw_on (.s rfl rfl) rfl ?_
        refine lw_call (f := 46) (xs := [_, _]) rfl rfl rfl Try.call46 rfl (Calls.mono (f46e _ _ _ _ _ hris) ?_)
        rintro e w' ⟨rfl, hg⟩
        replace hS := hS.grow hg; clear hg
        refine ⟨_, rfl, ?_⟩
        refine lw_v rfl rfl (ok_pick rfl rfl rfl rfl rfl) ?_
        refine lw_nil ?_
        refine Ends.keep [(7, .eq _), (8, .eq _), (9, .eq _), (10, .eq _), (11, .eq _), (17, .eq _), (18, .eq _), (42, .eq _), (43, .eq _), (44, .eq _), (121, .eq _)] (.cons rfl (.cons rfl (.cons rfl (.cons rfl (.cons rfl (.cons rfl (.cons rfl (.cons rfl (.cons rfl (.cons rfl (.cons rfl .nil))))))))))) ?_
        refine ends_then ?_
        refine cw_cond rfl (fun h121 => ?_) (fun h121 => ?_)
        ·
          cases h121
        ·
          refine cw_skip ?_
          refine ends_then ?_
          refine cw_seq ?_
          refine cw_seq ?_
          -- region 20
          refine cw_region ?_
          refine lw_v rfl rfl (ok_move rfl (.n rfl) rfl) ?_
          refine lw_v rfl rfl (ok_len rfl (.n rfl) Try.underlying26 rfl) ?_
          refine lw_v rfl rfl (ok_move rfl (.n rfl) rfl) ?_
          refine lw_nil ?_
          refine Ends.keep [(7, .eq _), (8, .eq _), (9, .eq _), (10, .eq _), (11, .eq _), (17, .eq _), (18, .eq _), (42, .eq _), (43, .eq _), (44, .eq _), (123, .eq _), (124, .eq _)] (.cons rfl (.cons rfl (.cons rfl (.cons rfl (.cons rfl (.cons rfl (.cons rfl (.cons rfl (.cons rfl (.cons rfl (.cons rfl (.cons rfl .nil)))))))))))) ?_
          refine ends_then ?_
          refine cw_block ?_
          -- LOOP at region 21: changed live slots [124], kept [7, 8, 9, 10, 11, 17, 18, 42, 43, 44, 123]
          refine cw_loop [(7, .eq _), (8, .eq _), (9, .eq _), (10, .eq _), (11, .eq _), (17, .eq _), (18, .eq _), (42, .eq _), (43, .eq _), (44, .eq _), (123, .eq _)] (fun j : Nat => [(124, .eq (.int .i64 j))]) (fun j w' => j ≤ C.N ∧ St w.heap.size w w' [sl (eInt .i64) 1 A111 C.N c111 (exactL C Y2), bx b17 (mkV (ex2.getD C.T 0, (exactL C Y2).sum)).cells.toList 53, sl (eInt .i64) 1 A51 (flatL C Y (exactL C Y)).length c51 (flatL C Y (exactL C Y)), sl (eInt .u8) 1 A2 (min more.length 30) c2 (more.take (min more.length 30)), bx b11 (mkV (ex.getD C.T 0, (exactL C Y).sum)).cells.toList 53, own (eInt .i64) 1 2 A32 C.N c32 ex2, sl (eInt .i64) 1 A' C.N c' (exactL C Y), bx b7 (csV C q).cells.toList 29, own (eInt .i64) 1 2 A6 R.length c6 Y2, sl (eInt .i64) 1 q.a0 C.First.length q.c0 C.First, sl (eInt .i64) 1 q.a1 C.Head.length q.c1 C.Head, sl (eInt .i64) 1 q.a2 C.Rev.length q.c2 C.Rev, sl (eInt .i64) 1 q.a3 C.Cap.length q.c3 C.Cap, sl (eInt .i64) 1 q.a4 C.Arc.length q.c4 C.Arc, sl eBool 1 q.a5 C.Back.length q.c5 C.Back, bx b3 (netV n A c).cells.toList 24, sl (eInt .u8) 1 A2 more.length c2 more, sl (eInt .i64) 1 A1 l.length c1 l, sl eArc 3 A n.arcs.length c n.arcs]) (fun j => C.N - j) 0 (.cons rfl (.cons rfl (.cons rfl (.cons rfl (.cons rfl (.cons rfl (.cons rfl (.cons rfl (.cons rfl (.cons rfl (.cons rfl .nil))))))))))) (.cons rfl (.cons rfl (.cons rfl (.cons rfl (.cons rfl (.cons rfl (.cons rfl (.cons rfl (.cons rfl (.cons rfl (.cons rfl (.cons rfl .nil)))))))))))) ⟨Nat.zero_le _, hS⟩ ?_
          clear hS
          rintro jj wr2 ⟨hjj, hS⟩
          refine cw_seq ?_
          -- region 21
          refine cw_region ?_
          refine lw_v rfl rfl (ok_lss rfl (.n rfl) rfl rfl) ?_
          refine lw_nil ?_
          refine Ends.keep [(7, .eq _), (8, .eq _), (9, .eq _), (10, .eq _), (11, .eq _), (17, .eq _), (18, .eq _), (42, .eq _), (43, .eq _), (44, .eq _), (123, .eq _), (124, .eq _), (125, .eq _)] (.cons rfl (.cons rfl (.cons rfl (.cons rfl (.cons rfl (.cons rfl (.cons rfl (.cons rfl (.cons rfl (.cons rfl (.cons rfl (.cons rfl (.cons rfl .nil))))))))))))) ?_
          refine ends_then ?_
          refine cw_seq ?_
          refine cw_cond rfl (fun h125 => ?_) (fun h125 => ?_)
          ·
            have hjN2 : jj < C.N := by have := of_decide_eq_true h125; omega
            have hDl1' := hDl1
            refine cw_skip ?_
            refine ends_then ?_
            refine cw_seq ?_
            refine cw_block ?_
            refine cw_seq ?_
            -- region 22
            refine cw_region ?_
            refine lw_v rfl rfl (ok_move rfl (.n rfl) rfl) ?_
            refine lw_v rfl rfl (ok_assign rfl (.n rfl) rfl) ?_
            refine lw_nil ?_
            refine Ends.keep [(7, .eq _), (8, .eq _), (9, .eq _), (10, .eq _), (11, .eq _), (17, .eq _), (18, .eq _), (19, .eq _), (42, .eq _), (43, .eq _), (44, .eq _), (123, .eq _), (124, .eq _)] (.cons rfl (.cons rfl (.cons rfl (.cons rfl (.cons rfl (.cons rfl (.cons rfl (.cons rfl (.cons rfl (.cons rfl (.cons rfl (.cons rfl (.cons rfl .nil))))))))))))) ?_
            refine ends_then ?_
            refine cw_seq ?_
            -- region 23
            refine cw_draw (by kernel_rfl) (List.take 8 _) (List.drop 8 _) (List.take_append_drop 8 _).symm (by kernel_rfl) ?_
            refine free_v (ok_move rfl (.n rfl) rfl) ?_
            refine free_v (ok_move rfl (.n rfl) rfl) ?_
            refine free_v (ok_ix rfl (.n rfl) Try.underlying26 Try.sizeOf3 rfl rfl hS (fun _ => ⟨by omega, by omega⟩)) ?_
            refine free_v (ok_ldx rfl (.n rfl) rfl Try.isAgg3 hS (fun _ => ⟨by omega, by omega⟩) (by rfl)) ?_
            refine free_v (ok_move rfl (.n rfl) rfl) ?_
            refine free_v (ok_move rfl (.n rfl) rfl) ?_
            refine free_v (ok_ix rfl (.n rfl) Try.underlying26 Try.sizeOf3 rfl rfl hS (fun _ => ⟨by omega, by omega⟩)) ?_
            refine free_v (ok_ldx rfl (.n rfl) rfl Try.isAgg3 hS (fun _ => ⟨by omega, by omega⟩) (by rfl)) ?_
            refine free_nil ?_
            intro w13 hg_; replace hS := hS.grow hg_; clear hg_
            refine lw_v rfl rfl (ok_lss rfl (.n rfl) rfl rfl) ?_
            refine lw_nil ?_
            refine Ends.keep [(7, .eq _), (8, .eq _), (9, .eq _), (10, .eq _), (11, .eq _), (17, .eq _), (18, .eq _), (42, .eq _), (43, .eq _), (44, .eq _), (123, .eq _), (124, .eq _), (135, .eq _)] (.cons rfl (.cons rfl (.cons rfl (.cons rfl (.cons rfl (.cons rfl (.cons rfl (.cons rfl (.cons rfl (.cons rfl (.cons rfl (.cons rfl (.cons rfl .nil))))))))))))) ?_
            refine ends_then ?_
            refine cw_cond rfl (fun h135 => ?_) (fun h135 => ?_)
            ·
              exact absurd (of_decide_eq_true h135) (Int.not_lt.2 (hmono jj hjN2))
            ·
              refine cw_skip ?_
              refine in_normal (?_)
              refine ends_then ?_
              -- region 25
              refine cw_region ?_
              refine lw_v rfl rfl (ok_addi rfl (.n rfl) rfl rfl (fun _ => ⟨by omega, by omega⟩)) ?_
              refine lw_v rfl rfl (ok_move rfl (.n rfl) rfl) ?_
              refine lw_nil ?_
              -- BACK
              refine ends_back (jj + 1) (.cons rfl (.cons rfl (.cons rfl (.cons rfl (.cons rfl (.cons rfl (.cons rfl (.cons rfl (.cons rfl (.cons rfl (.cons rfl (.cons rfl .nil)))))))))))) ⟨by omega, hS⟩ (by omega)
          ·
            refine cw_exit ?_
            refine then_exit (then_exit (in_exit (?_)))
            refine Ends.keep [(7, .eq _), (8, .eq _), (10, .eq _), (11, .eq _), (17, .eq _), (18, .eq _), (42, .eq _), (43, .eq _), (44, .eq _)] (.cons rfl (.cons rfl (.cons rfl (.cons rfl (.cons rfl (.cons rfl (.cons rfl (.cons rfl (.cons rfl .nil))))))))) ?_
            refine ends_then ?_
            -- region 26
            refine cw_draw (by kernel_rfl) (List.take 3 _) (List.drop 3 _) (List.take_append_drop 3 _).symm (by kernel_rfl) ?_
            refine free_v (ok_move rfl (.n rfl) rfl) ?_
            refine free_v (ok_ldS rfl (.n rfl) rfl Try.isAgg53 Try.sizeOf53 hS rfl) ?_
            refine free_v (ok_assign rfl (.n rfl) rfl) ?_
            refine free_nil ?_
            intro w14 hg_; replace hS := hS.grow hg_; clear hg_
            refine lw_stS rfl rfl rfl rfl rfl (by kernel_rfl) hS rfl (by rfl) (by rfl) ?_
            clear hS; intro w15 hS
            refine lw_nil ?_
            refine in_normal (?_)
            refine Ends.keep [(7, .eq _), (8, .eq _), (9, .eq _), (10, .eq _), (11, .eq _), (42, .eq _), (43, .eq _), (44, .eq _)] (.cons rfl (.cons rfl (.cons rfl (.cons rfl (.cons rfl (.cons rfl (.cons rfl (.cons rfl .nil)))))))) ?_
            refine ends_then ?_
            -- region 27
            refine cw_region ?_
            refine lw_v rfl rfl (ok_addi rfl (.n rfl) rfl rfl (fun _ => ⟨by omega, by omega⟩)) ?_
            refine lw_v rfl rfl (ok_move rfl (.n rfl) rfl) ?_
            refine lw_nil ?_
            -- BACK
            refine ends_back3 (i + 1) A111 c111 (.cons rfl (.cons rfl (.cons rfl (.cons rfl (.cons rfl (.cons rfl (.cons rfl (.cons rfl .nil)))))))) ⟨Y2, ex2, ⟨by omega, P2, hx2, by omega, by omega⟩, hS.turn8⟩ (by omega)
  ·
    refine cw_exit ?_
    refine then_exit (then_exit (in_exit (?_)))
    refine Ends.keep [] .nil ?_
    refine ends_then ?_
    refine cw_seq ?_
    -- region 28
    refine cw_region ?_
    refine lw_call (f := 47) (xs := []) rfl rfl rfl Try.call47 rfl (Calls.mono (f47 _) ?_)
    rintro e w' ⟨rfl, hg⟩
    replace hS := hS.grow hg; clear hg
    refine ⟨_, rfl, ?_⟩
    refine lw_v rfl rfl (ok_assign rfl (.n rfl) rfl) ?_
    refine lw_nil ?_
    refine Ends.keep [(6, .eq _)] (.cons rfl .nil) ?_
    refine ends_then ?_
    refine cw_ret ?_
    exact end_ret (res1 Try.results8 rfl) ⟨rfl, hS.below⟩

end Go.Proofs.Ytnpgeohkmdcbkaa.Aq
