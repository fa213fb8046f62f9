/- The walk of the law RepairFlat. -/
import Derived.Test.YtnpgeohkmdcbkaaB5
import Derived.Test.YtnpgeohkmdcbkaaB9
namespace Go.Proofs.Ytnpgeohkmdcbkaa.Aq
open Go Go.RowKit

theorem ok_len0 {n : Nat} {ops : Array Oper} {E : Env} {o : Oper} {g : Option (Nat × Bool)} {B : Nat} {we w0 : World} {L : List Asn} {x : Operand} {t : TypeId} {b m : Nat} {f : Int → Int} (ho : o.op = .call { callee := .builtin .len, args := #[x], argTypes := #[t] }) (hg : GuardIs ops o g) (hu : Try.prog.underlying t = some (.map 3 3)) (hx : E.at g x = some (.map (some b)))
    (hS : St B we w0 L) [hb : HasMp L b m f] (hz : E.gc g → m = 0) : OpV Try.prog n ops (Gr w0) E o (PV.of g (.int .i64 0)) :=
  ok_val1 hg hx (by rw [ho]; simp [Op.operands, Call.operands]) fun ρ w h3 hw hc => by
    obtain ⟨D, hown, hf⟩ := (hS.grow hw).ok _ hb.mem
    have hsz : Go.Maps.size D = 0 := by have h1 := hown.size_le; have h2 := hz hc; omega
    have hrun := hown.len hu
    rw [hsz] at hrun
    simp [execOp, ho, h3, resolve, invoke, builtin, hrun, go_sem]
theorem low_self {N : Nat} {E : Nat → Nat → Prop} {h : Nat → Int} {D : List Int} (L : Low N E h D) : Low N E (fun v => D.getD v 0) D :=
  ⟨L.len, L.nn, fun _ _ => Int.le_refl _, L.ok, fun _ _ => .inl rfl⟩
theorem lowd_mem {D H : List Int} {x : Int} : x ∈ filt (fun v => decide (D.getD v 0 < H.getD v 0)) D.length ↔ ∃ v : Nat, v < D.length ∧ D.getD v 0 < H.getD v 0 ∧ x = v := by
  rw [filt_mem]
  simp only [decide_eq_true_eq]
theorem lowd_none {c : Cs} {res D : List Int} (hm : mayB c res D = true) (L : Low c.N (EdgeS c res) (fun v => D.getD v 0) D) : lowdL c res D = [] := by
  rw [lowd_exm (lowerL_eq hm L)]
  refine List.eq_nil_iff_forall_not_mem.2 fun x hx => ?_
  obtain ⟨v, _, h, _⟩ := lowd_mem.1 hx
  exact absurd h (Int.lt_irrefl _)
theorem valid_same {c : Cs} (hw : WF c) {res H D : List Int} (L : Low c.N (EdgeS c res) (fun v => H.getD v 0) D) (hv : validB c res H = true) : D = H := by
  obtain ⟨hm, hf⟩ := (valid_iff hw).1 hv
  have hr := ((may_iff hw).1 hm).2
  exact L.unique ⟨hr.len, fun v h => (hr.rng v h).1, fun _ _ => Int.le_refl _, hf, fun _ _ => .inl rfl⟩ (fun _ _ => rfl) fun _ _ _ _ => Iff.rfl
theorem low_why {c : Cs} (hw : WF c) {res H D : List Int} (hm : mayB c res D = true) (L : Low c.N (EdgeS c res) (fun v => H.getD v 0) D) {v : Nat} (hv : v < c.N) (hlt : D.getD v 0 < H.getD v 0) : ∃ x, x ∈ flatL c res D ∧ (tailOf c x.toNat : Nat) = v := by
  rcases L.why v hv with e | ⟨w, hwN, ⟨hne, a, h1, h2, h3, h4⟩, e⟩
  · exact absurd (e ▸ hlt) (Int.lt_irrefl _)
  · refine ⟨(a : Int), ?_, h2⟩
    unfold flatL
    rw [downL_may hm]
    refine filt_mem.2 ⟨a, h1, ?_, rfl⟩
    unfold downP
    rw [h2, h3]
    simp only [Bool.and_eq_true, decide_eq_true_eq, Bool.not_eq_true', decide_eq_false_iff_not]
    refine ⟨⟨by omega, h4⟩, by omega⟩
theorem tails_step {c : Cs} {FL : List Int} {f : Int → Int} {j a : Nat} (hf : ∀ x ∈ FL.take j, f (tailOf c x.toNat : Nat) = 1) (hj : j < FL.length) (ha : FL.getD (j : Int).toNat 0 = (a : Int)) : ∀ x ∈ FL.take (j + 1), (fun y => if y = (tailOf c a : Int) then 1 else f y) (tailOf c x.toNat : Nat) = 1 := fun x hx => by
  rw [List.take_add_one, List.mem_append] at hx
  show (if ((tailOf c x.toNat : Nat) : Int) = (tailOf c a : Int) then 1 else f (tailOf c x.toNat : Nat)) = 1
  rcases hx with hx | hx
  · split
    · rfl
    · exact hf x hx
  · rw [List.getElem?_eq_getElem hj] at hx
    have e : FL[j] = (a : Int) := by rw [← ha]; simp [List.getD_eq_getElem?_getD, hj]
    rw [e] at hx
    simp at hx
    subst hx
    exact if_pos rfl
theorem flat_bad {d h x y : Int} (h2 : x = if d < h then 1 else 0) (h1 : d < h → y = 1) (hb : (!(decide (d < h) == decide (x = 1)) || (decide (x = 1) && decide (y = 0))) = true) : False := by
  by_cases e : d < h
  · rw [if_pos e] at h2; rw [h2, h1 e, decide_eq_true e] at hb; exact absurd hb (by decide)
  · rw [if_neg e] at h2; rw [h2, decide_eq_false e] at hb; simp at hb

set_option maxHeartbeats 1000000 in
set_option maxRecDepth 10000 in
/-- acequialaw19.RepairFlat. -/
theorem f18 (n : Nt) (A : Option Addr) (c : Nat) (l : List Int) (A1 : Option Addr) (c1 : Nat) (h : List Int) (A2 : Option Addr) (c2 : Nat) (w : World) (ha : (sl eArc 3 A n.arcs.length c n.arcs).p w) (hrgn : (-9223372036854775808 ≤ n.N ∧ n.N ≤ 9223372036854775807) ∧ (-9223372036854775808 ≤ n.S ∧ n.S ≤ 9223372036854775807) ∧ (-9223372036854775808 ≤ n.T ∧ n.T ≤ 9223372036854775807) ∧ ∀ a ∈ n.arcs, -9223372036854775808 ≤ a.1 ∧ a.1 ≤ 9223372036854775807 ∧ -9223372036854775808 ≤ a.2.1 ∧ a.2.1 ≤ 9223372036854775807 ∧ -9223372036854775808 ≤ a.2.2 ∧ a.2.2 ≤ 9223372036854775807) (hl : (sl (eInt .i64) 1 A1 l.length c1 l).p w) (hrgl : ∀ x ∈ l, -9223372036854775808 ≤ x ∧ x ≤ 9223372036854775807) (hh : (sl (eInt .i64) 1 A2 h.length c2 h).p w) (hrgh : ∀ x ∈ h, -9223372036854775808 ≤ x ∧ x ≤ 9223372036854775807) :
    Calls Try.prog 18 #[netV n A c, .slice A1 l.length c1, .slice A2 h.length c2] w fun e w' => e = .returned (.bool true) ∧ Gr w w' := by
  refine calls_cw Try.func18 rfl Try.ntmps18 rfl ?_
  have hS := (((St.start w).args (Nat.le_refl _) _ ha rfl).args (Nat.le_refl _) _ hl rfl).args (Nat.le_refl _) _ hh rfl
  refine cw_seq ?_
  -- region 0
  refine cw_region ?_
  refine lw_box rfl rfl rfl rfl hS ?_
  clear hS; intro b3 w1 _ _ hS
  refine lw_v rfl rfl (ok_assign rfl (.n rfl) rfl) ?_
  refine lw_nil ?_
  refine Ends.keep [(1, .eq _), (2, .eq _), (3, .eq _)] (.cons rfl (.cons rfl (.cons rfl .nil))) ?_
  refine ends_then ?_
  refine cw_seq ?_
  -- region 1
  refine cw_region ?_
  refine lw_v rfl rfl (ok_ldS rfl (.n rfl) rfl Try.isAgg24 Try.sizeOf24 hS rfl) ?_
  refine lw_call (f := 24) (xs := [_, _, _]) rfl rfl rfl Try.call24 rfl (Calls.mono (f24a n A c _ (hS.rd A (by have := ha.2.1; omega)) hrgn) ?_)
  rintro e w' ⟨n1, AS, cS, hok, rfl, hg, hfr, ho⟩
  replace hS := hS.new hg _ ho hfr; clear hg ho hfr
  refine ⟨_, rfl, ?_⟩
  refine lw_v rfl rfl (ok_move rfl (.n rfl) rfl) ?_
  refine lw_call (f := 23) (xs := [_, _]) rfl rfl rfl Try.call23 rfl (Calls.mono (f23a n1 AS cS l A1 c1 _ hok (hS.rd AS (by have := hok.len; omega)) (hS.rd A1 hl.2.1) hl.2.1 hrgl) ?_)
  rintro e w' ⟨C, R, q, A6, c6, ⟨hwf, hro⟩, rfl, hg, hnew, hat, hfr, hap, ho⟩
  replace hS := hS.left hg hat hnew ho hfr hap; clear hg hnew hat hfr hap ho
  replace hS := hS.sub (.cons_cons _ (.cons_cons _ (.cons_cons _ (.cons_cons _ (.cons_cons _ (.cons_cons _ (.cons_cons _ (.cons _ (.cons _ (List.Sublist.refl _))))))))))
  have hM := hwf.m
  have hrlen := hro.len
  have hN := hwf.hi
  have hlo := hwf.lo
  replace hS := hS.freeze .here (by omega)
  refine ⟨_, rfl, ?_⟩
  refine lw_v rfl rfl (ok_move rfl (.n rfl) rfl) ?_
  refine lw_v rfl rfl (ok_extract rfl (.n rfl) rfl rfl) ?_
  refine lw_v rfl rfl (ok_extract rfl (.n rfl) rfl rfl) ?_
  refine lw_alloc rfl rfl rfl Try.zeroValue29 hS ?_
  clear hS; intro b7 w2 _ _ hS
  refine lw_stS rfl rfl rfl rfl rfl (by kernel_rfl) hS rfl (by rfl) (by rfl) ?_
  clear hS; intro w3 hS
  refine lw_v rfl rfl (ok_assign rfl (.n rfl) rfl) ?_
  refine lw_nil ?_
  refine Ends.keep [(2, .eq _), (7, .eq _), (8, .eq _)] (.cons rfl (.cons rfl (.cons rfl .nil))) ?_
  refine ends_then ?_
  refine cw_seq ?_
  -- region 2
  refine cw_region ?_
  refine lw_v rfl rfl (ok_ldS rfl (.n rfl) rfl Try.isAgg29 Try.sizeOf29 hS rfl) ?_
  refine lw_v rfl rfl (ok_move rfl (.n rfl) rfl) ?_
  refine lw_call (f := 25) (xs := [_, _]) rfl rfl rfl Try.call25 rfl (Calls.mono (f25a C q h A2 c2 _ hwf (hS.rd A2 hh.2.1) hrgh) ?_)
  rintro e w' ⟨H, AH, cH, hrh, rfl, hg, hfr, ho⟩
  replace hS := hS.new hg _ ho hfr; clear hg ho hfr
  have hHlH := hrh.len
  replace hS := hS.freeze .here (by omega)
  refine ⟨_, rfl, ?_⟩
  refine lw_v rfl rfl (ok_assign rfl (.n rfl) rfl) ?_
  refine lw_nil ?_
  refine Ends.keep [(2, .eq _), (7, .eq _), (8, .eq _)] (.cons rfl (.cons rfl (.cons rfl .nil))) ?_
  refine ends_then ?_
  refine cw_seq ?_
  -- region 3
  refine cw_region ?_
  refine lw_v rfl rfl (ok_ldS rfl (.n rfl) rfl Try.isAgg29 Try.sizeOf29 hS rfl) ?_
  refine lw_v rfl rfl (ok_move rfl (.n rfl) rfl) ?_
  refine lw_v rfl rfl (ok_move rfl (.n rfl) rfl) ?_
  refine lw_call (f := 48) (xs := [_, _, _]) rfl rfl rfl Try.call48 rfl (Calls.mono (f48 C q R H A6 c6 AH cH _ hwf (hS.cs q) (hS.rd A6 (by omega)) (hS.rd AH (by omega))) ?_)
  rintro e w' ⟨A32, c32, rfl, hg, hfr, ho⟩
  replace hS := hS.new hg _ ho hfr; clear hg ho hfr
  have hm : mayB C R H = true := (may_iff hwf).2 ⟨hrlen, hrh⟩
  have hL := lowerL_low hwf hm
  have hlowd := lowd_exm (c := C) (res := R) (h := H) rfl
  generalize lowerL C R H = D at hS hL hlowd ⊢
  have hDl := hL.len
  have hmD : mayB C R D = true := (may_iff hwf).2 ⟨hrlen, low_right hwf hrh hL⟩
  have hst : steepL C R D = [] := (steep_none hwf hmD).2 (low_flatly hL)
  have hLD : Low C.N (EdgeS C R) (fun v => D.getD v 0) D := low_self hL
  replace hS := hS.freeze .here (by omega)
  refine ⟨_, rfl, ?_⟩
  refine lw_v rfl rfl (ok_assign rfl (.n rfl) rfl) ?_
  refine lw_nil ?_
  refine Ends.keep [(2, .eq _), (7, .eq _), (8, .eq _), (9, .eq _)] (.cons rfl (.cons rfl (.cons rfl (.cons rfl .nil)))) ?_
  refine ends_then ?_
  refine cw_seq ?_
  -- region 4
  refine cw_region ?_
  refine lw_mkmap rfl rfl rfl hS ?_
  clear hS; intro m33 w4 _ _ hS
  refine lw_v rfl rfl (ok_assign rfl (.n rfl) rfl) ?_
  refine lw_nil ?_
  refine Ends.keep [(2, .eq _), (7, .eq _), (8, .eq _), (9, .eq _), (10, .eq _)] (.cons rfl (.cons rfl (.cons rfl (.cons rfl (.cons rfl .nil))))) ?_
  refine ends_then ?_
  refine cw_seq ?_
  refine cw_seq ?_
  -- region 5
  refine cw_region ?_
  refine lw_v rfl rfl (ok_ldS rfl (.n rfl) rfl Try.isAgg29 Try.sizeOf29 hS rfl) ?_
  refine lw_v rfl rfl (ok_move rfl (.n rfl) rfl) ?_
  refine lw_v rfl rfl (ok_move rfl (.n rfl) rfl) ?_
  refine lw_call (f := 33) (xs := [_, _, _]) rfl rfl rfl Try.call33 rfl (Calls.mono (f33g C q R D A6 c6 A32 c32 _ hwf (hS.cs q) (hS.rd A6 (by omega)) (hS.rd A32 (by omega))) ?_)
  rintro e w' ⟨A37, c37, rfl, hg, hfr, ho⟩
  replace hS := hS.new hg _ ho hfr; clear hg ho hfr
  have hFLl := flatL_len hwf R D
  have hFLr : ∀ x ∈ flatL C R D, 0 ≤ x ∧ x < C.Head.length := fun x hx => downL_rng hx
  have hFLm := fun v (hv : v < C.N) (hlt : D.getD v 0 < H.getD v 0) => low_why hwf hmD hL hv hlt
  generalize flatL C R D = FL at hS hFLl hFLr hFLm ⊢
  replace hS := hS.freeze .here (by omega)
  refine ⟨_, rfl, ?_⟩
  refine lw_v rfl rfl (ok_len rfl (.n rfl) Try.underlying26 rfl) ?_
  refine lw_v rfl rfl (ok_move rfl (.n rfl) rfl) ?_
  refine lw_nil ?_
  refine Ends.keep [(2, .eq _), (7, .eq _), (8, .eq _), (9, .eq _), (10, .eq _), (37, .eq _), (38, .eq _), (39, .eq _)] (.cons rfl (.cons rfl (.cons rfl (.cons rfl (.cons rfl (.cons rfl (.cons rfl (.cons rfl .nil)))))))) ?_
  refine ends_then ?_
  refine cw_block ?_
  -- LOOP at region 6: changed live slots [39], kept [2, 7, 8, 9, 10, 37, 38]
  refine cw_loop [(2, .eq _), (7, .eq _), (8, .eq _), (9, .eq _), (10, .eq _), (37, .eq _), (38, .eq _)] (fun j : Nat => [(39, .eq (.int .i64 j))]) (fun j w' => ∃ m f, (j ≤ FL.length ∧ m ≤ j ∧ ∀ x ∈ FL.take j, f (tailOf C x.toNat : Nat) = 1) ∧ St w.heap.size w w' [sl (eInt .i64) 1 A37 FL.length c37 FL, mp m33 m f, sl (eInt .i64) 1 A32 D.length c32 D, sl (eInt .i64) 1 AH H.length cH H, bx b7 (csV C q).cells.toList 29, sl (eInt .i64) 1 A6 R.length c6 R, sl (eInt .i64) 1 q.a0 C.First.length q.c0 C.First, sl (eInt .i64) 1 q.a1 C.Head.length q.c1 C.Head, sl (eInt .i64) 1 q.a2 C.Rev.length q.c2 C.Rev, sl (eInt .i64) 1 q.a3 C.Cap.length q.c3 C.Cap, sl (eInt .i64) 1 q.a4 C.Arc.length q.c4 C.Arc, sl eBool 1 q.a5 C.Back.length q.c5 C.Back, sl (eInt .i64) 1 A2 h.length c2 h, sl (eInt .i64) 1 A1 l.length c1 l, sl eArc 3 A n.arcs.length c n.arcs]) (fun j => FL.length - j) 0 (.cons rfl (.cons rfl (.cons rfl (.cons rfl (.cons rfl (.cons rfl (.cons rfl .nil))))))) (.cons rfl (.cons rfl (.cons rfl (.cons rfl (.cons rfl (.cons rfl (.cons rfl (.cons rfl .nil)))))))) ⟨0, fun _ => 0, ⟨Nat.zero_le _, Nat.le_refl _, fun x hx => by simp at hx⟩, hS⟩ ?_
  clear hS
  rintro j wr ⟨m, f, ⟨hj, hmj, hf⟩, hS⟩
  refine cw_seq ?_
  -- region 6
  refine cw_region ?_
  refine lw_v rfl rfl (ok_lss rfl (.n rfl) rfl rfl) ?_
  refine lw_nil ?_
  refine Ends.keep [(2, .eq _), (7, .eq _), (8, .eq _), (9, .eq _), (10, .eq _), (37, .eq _), (38, .eq _), (39, .eq _), (40, .eq _)] (.cons rfl (.cons rfl (.cons rfl (.cons rfl (.cons rfl (.cons rfl (.cons rfl (.cons rfl (.cons rfl .nil))))))))) ?_
  refine ends_then ?_
  refine cw_seq ?_
  refine cw_cond rfl (fun h40 => ?_) (fun h40 => ?_)
  ·
    have hlt : j < FL.length := by have := of_decide_eq_true h40; omega
    obtain ⟨hr0, hr1⟩ := hFLr _ (getD_memI hlt)
    obtain ⟨a, ha9⟩ : ∃ a : Nat, FL.getD j 0 = (a : Int) := ⟨(FL.getD j 0).toNat, (Int.toNat_of_nonneg hr0).symm⟩
    have ha' : FL.getD (j : Int).toNat 0 = (a : Int) := ha9
    have haM : a < C.Head.length := by omega
    have htN := (tail_at hwf haM).1
    refine cw_skip ?_
    refine ends_then ?_
    refine cw_seq ?_
    refine cw_block ?_
    refine cw_seq ?_
    -- region 7
    refine cw_region ?_
    refine lw_v rfl rfl (ok_ix rfl (.n rfl) Try.underlying26 Try.sizeOf3 rfl rfl hS (fun _ => ⟨by omega, by omega⟩)) ?_
    refine lw_v rfl rfl (ok_eq (ok_ldx rfl (.n rfl) rfl Try.isAgg3 hS (fun _ => ⟨by omega, by omega⟩) (by rfl)) (c' := .int .i64 (a : Int)) (fun _ => congrArg (Value.int .i64) ha')) ?_
    refine lw_v rfl rfl (ok_assign rfl (.n rfl) rfl) ?_
    refine lw_nil ?_
    refine Ends.keep [(2, .eq _), (7, .eq _), (8, .eq _), (9, .eq _), (10, .eq _), (12, .eq _), (37, .eq _), (38, .eq _), (39, .eq _)] (.cons rfl (.cons rfl (.cons rfl (.cons rfl (.cons rfl (.cons rfl (.cons rfl (.cons rfl (.cons rfl .nil))))))))) ?_
    refine ends_then ?_
    refine cw_seq ?_
    -- region 8
    refine cw_region ?_
    refine lw_v rfl rfl (ok_ldS rfl (.n rfl) rfl Try.isAgg29 Try.sizeOf29 hS rfl) ?_
    refine lw_v rfl rfl (ok_move rfl (.n rfl) rfl) ?_
    refine lw_call (f := 40) (xs := [_, _]) rfl rfl rfl Try.call40 rfl (Calls.mono (f40 C q a _ hwf (hS.cs q) haM) ?_)
    rintro e w' ⟨rfl, hg⟩
    replace hS := hS.grow hg; clear hg
    refine ⟨_, rfl, ?_⟩
    refine lw_v rfl rfl (ok_move rfl (.n rfl) rfl) ?_
    refine lw_v rfl rfl (ok_extract rfl (.n rfl) rfl rfl) ?_
    refine lw_v rfl rfl (ok_extract rfl (.n rfl) rfl rfl) ?_
    refine lw_v rfl rfl (ok_assign rfl (.n rfl) rfl) ?_
    refine lw_v rfl rfl (ok_assign rfl (.n rfl) rfl) ?_
    refine lw_nil ?_
    refine Ends.keep [(2, .eq _), (7, .eq _), (8, .eq _), (9, .eq _), (10, .eq _), (13, .eq _), (37, .eq _), (38, .eq _), (39, .eq _)] (.cons rfl (.cons rfl (.cons rfl (.cons rfl (.cons rfl (.cons rfl (.cons rfl (.cons rfl (.cons rfl .nil))))))))) ?_
    refine ends_then ?_
    -- region 9
    refine cw_region ?_
    refine lw_v rfl rfl (ok_move rfl (.n rfl) rfl) ?_
    refine lw_v rfl rfl (ok_move rfl (.n rfl) rfl) ?_
    refine lw_mapup rfl rfl rfl Try.underlying43 rfl rfl rfl hS ⟨by omega, by omega⟩ ⟨by omega, by omega⟩ (by omega) ?_
    clear hS; intro w5 hS
    refine lw_nil ?_
    refine in_normal (?_)
    refine Ends.keep [(2, .eq _), (7, .eq _), (8, .eq _), (9, .eq _), (10, .eq _), (37, .eq _), (38, .eq _), (39, .eq _)] (.cons rfl (.cons rfl (.cons rfl (.cons rfl (.cons rfl (.cons rfl (.cons rfl (.cons rfl .nil)))))))) ?_
    refine ends_then ?_
    -- region 10
    refine cw_region ?_
    refine lw_v rfl rfl (ok_addi rfl (.n rfl) rfl rfl (fun _ => ⟨by omega, by omega⟩)) ?_
    refine lw_v rfl rfl (ok_move rfl (.n rfl) rfl) ?_
    refine lw_nil ?_
    -- BACK
    refine ends_back (j + 1) (.cons rfl (.cons rfl (.cons rfl (.cons rfl (.cons rfl (.cons rfl (.cons rfl (.cons rfl .nil)))))))) ⟨m + 1, _, ⟨by omega, by omega, tails_step hf hlt ha'⟩, hS⟩ (by omega)
  ·
    have hje : j = FL.length := by have := of_decide_eq_false h40; omega
    rw [hje, List.take_length] at hf
    refine cw_exit ?_
    refine then_exit (then_exit (in_exit (?_)))
    refine Ends.keep [(2, .eq _), (7, .eq _), (8, .eq _), (9, .eq _), (10, .eq _)] (.cons rfl (.cons rfl (.cons rfl (.cons rfl (.cons rfl .nil))))) ?_
    refine ends_then ?_
    refine cw_seq ?_
    refine cw_seq ?_
    -- region 11
    refine cw_region ?_
    refine lw_v rfl rfl (ok_move rfl (.n rfl) rfl) ?_
    refine lw_v rfl rfl (ok_len rfl (.n rfl) Try.underlying26 rfl) ?_
    refine lw_v rfl rfl (ok_fb rfl (.n rfl) Try.underlying29 rfl Try.sizeOf3 (by decide) rfl) ?_
    refine lw_v rfl rfl (ok_ldb rfl (.n rfl) rfl Try.isAgg3 hS (by rfl)) ?_
    refine lw_v rfl rfl (ok_eq (g := none) (ok_neq rfl (.n rfl) rfl rfl) (c' := .bool false) (fun _ => congrArg Value.bool (by rw [hDl]; simp))) ?_
    refine lw_v rfl rfl (ok_move rfl (.n rfl) rfl) ?_
    refine lw_on (.s rfl rfl) rfl ?_
    refine lw_v rfl rfl (ok_ldS rfl (.n rfl) rfl Try.isAgg29 Try.sizeOf29 hS rfl) ?_
    refine lw_on (.s rfl rfl) rfl ?_
    refine lw_v rfl rfl (ok_move rfl (.n rfl) rfl) ?_
    refine lw_on (.s rfl rfl) rfl ?_
    refine lw_v rfl rfl (ok_move rfl (.n rfl) rfl) ?_
    refine lw_on (.s rfl rfl) rfl ?_
    refine lw_call (f := 31) (xs := [_, _, _]) rfl rfl rfl Try.call31 rfl (Calls.mono (f31g C q R D A6 c6 A32 c32 _ hwf (hS.cs q) (hS.rd A6 (by omega)) (hS.rd A32 (by omega))) ?_)
    rintro e w' ⟨A61, c61, rfl, hg, hfr, ho⟩
    replace hS := hS.new hg _ ho hfr; clear hg ho hfr
    rw [hst] at hS ⊢
    replace hS := hS.freeze .here (by simp)
    refine ⟨_, rfl, ?_⟩
    refine lw_on (.s rfl rfl) rfl ?_
    refine lw_v rfl rfl (ok_len rfl (.n rfl) Try.underlying26 rfl) ?_
    refine lw_on (.s rfl rfl) rfl ?_
    refine lw_v rfl rfl (ok_neq rfl (.n rfl) rfl rfl) ?_
    refine lw_v rfl rfl (ok_pick rfl rfl rfl rfl rfl) ?_
    refine lw_nil ?_
    refine Ends.keep [(2, .eq _), (7, .eq _), (8, .eq _), (9, .eq _), (10, .eq _), (64, .eq _)] (.cons rfl (.cons rfl (.cons rfl (.cons rfl (.cons rfl (.cons rfl .nil)))))) ?_
    refine ends_then ?_
    refine cw_cond rfl (fun h64 => ?_) (fun h64 => ?_)
    ·
      simp at h64
    ·
      refine cw_skip ?_
      refine ends_then ?_
      refine cw_seq ?_
      -- region 13
      refine cw_region ?_
      refine lw_mkmap rfl rfl rfl hS ?_
      clear hS; intro m65 w6 _ _ hS
      refine lw_v rfl rfl (ok_assign rfl (.n rfl) rfl) ?_
      refine lw_nil ?_
      refine Ends.keep [(2, .eq _), (7, .eq _), (8, .eq _), (9, .eq _), (10, .eq _), (15, .eq _)] (.cons rfl (.cons rfl (.cons rfl (.cons rfl (.cons rfl (.cons rfl .nil)))))) ?_
      refine ends_then ?_
      refine cw_seq ?_
      refine cw_seq ?_
      -- region 14
      refine cw_region ?_
      refine lw_v rfl rfl (ok_ldS rfl (.n rfl) rfl Try.isAgg29 Try.sizeOf29 hS rfl) ?_
      refine lw_v rfl rfl (ok_move rfl (.n rfl) rfl) ?_
      refine lw_v rfl rfl (ok_move rfl (.n rfl) rfl) ?_
      refine lw_call (f := 51) (xs := [_, _, _]) rfl rfl rfl Try.call51 rfl (Calls.mono (f51 C q R H A6 c6 AH cH _ hwf (hS.cs q) (hS.rd A6 (by omega)) (hS.rd AH (by omega))) ?_)
      rintro e w' ⟨A69, c69, rfl, hg, hfr, ho⟩
      replace hS := hS.new hg _ ho hfr; clear hg ho hfr
      rw [hlowd] at hS ⊢
      have hLDm := fun x => lowd_mem (D := D) (H := H) (x := x)
      have hLDl : (filt (fun v => decide (D.getD v 0 < H.getD v 0)) D.length).length ≤ D.length := filt_len _ _
      generalize filt (fun v => decide (D.getD v 0 < H.getD v 0)) D.length = LD at hS hLDm hLDl ⊢
      replace hS := hS.freeze .here (by omega)
      refine ⟨_, rfl, ?_⟩
      refine lw_v rfl rfl (ok_len rfl (.n rfl) Try.underlying26 rfl) ?_
      refine lw_v rfl rfl (ok_move rfl (.n rfl) rfl) ?_
      refine lw_nil ?_
      refine Ends.keep [(2, .eq _), (7, .eq _), (8, .eq _), (9, .eq _), (10, .eq _), (15, .eq _), (69, .eq _), (70, .eq _), (71, .eq _)] (.cons rfl (.cons rfl (.cons rfl (.cons rfl (.cons rfl (.cons rfl (.cons rfl (.cons rfl (.cons rfl .nil))))))))) ?_
      refine ends_then ?_
      refine cw_block ?_
      -- LOOP at region 15: changed live slots [71], kept [2, 7, 8, 9, 10, 15, 69, 70]
      refine cw_loop [(2, .eq _), (7, .eq _), (8, .eq _), (9, .eq _), (10, .eq _), (15, .eq _), (69, .eq _), (70, .eq _)] (fun j : Nat => [(71, .eq (.int .i64 j))]) (fun j w' => ∃ m2 f2, (j ≤ LD.length ∧ m2 ≤ j ∧ ∀ x, f2 x = if x ∈ LD.take j then (1 : Int) else 0) ∧ St w.heap.size w w' [sl (eInt .i64) 1 A69 LD.length c69 LD, mp m65 m2 f2, sl (eInt .i64) 1 A61 0 c61 [], sl (eInt .i64) 1 A37 FL.length c37 FL, mp m33 m f, sl (eInt .i64) 1 A32 D.length c32 D, sl (eInt .i64) 1 AH H.length cH H, bx b7 (csV C q).cells.toList 29, sl (eInt .i64) 1 A6 R.length c6 R, sl (eInt .i64) 1 q.a0 C.First.length q.c0 C.First, sl (eInt .i64) 1 q.a1 C.Head.length q.c1 C.Head, sl (eInt .i64) 1 q.a2 C.Rev.length q.c2 C.Rev, sl (eInt .i64) 1 q.a3 C.Cap.length q.c3 C.Cap, sl (eInt .i64) 1 q.a4 C.Arc.length q.c4 C.Arc, sl eBool 1 q.a5 C.Back.length q.c5 C.Back, sl (eInt .i64) 1 A2 h.length c2 h, sl (eInt .i64) 1 A1 l.length c1 l, sl eArc 3 A n.arcs.length c n.arcs]) (fun j => LD.length - j) 0 (.cons rfl (.cons rfl (.cons rfl (.cons rfl (.cons rfl (.cons rfl (.cons rfl (.cons rfl .nil)))))))) (.cons rfl (.cons rfl (.cons rfl (.cons rfl (.cons rfl (.cons rfl (.cons rfl (.cons rfl (.cons rfl .nil))))))))) ⟨0, _, ⟨Nat.zero_le _, Nat.le_refl _, fun x => by simp⟩, hS⟩ ?_
      clear hS
      rintro j wr ⟨m2, f2, ⟨hj2, hmj2, hf2⟩, hS⟩
      refine cw_seq ?_
      -- region 15
      refine cw_region ?_
      refine lw_v rfl rfl (ok_lss rfl (.n rfl) rfl rfl) ?_
      refine lw_nil ?_
      refine Ends.keep [(2, .eq _), (7, .eq _), (8, .eq _), (9, .eq _), (10, .eq _), (15, .eq _), (69, .eq _), (70, .eq _), (71, .eq _), (72, .eq _)] (.cons rfl (.cons rfl (.cons rfl (.cons rfl (.cons rfl (.cons rfl (.cons rfl (.cons rfl (.cons rfl (.cons rfl .nil)))))))))) ?_
      refine ends_then ?_
      refine cw_seq ?_
      refine cw_cond rfl (fun h72 => ?_) (fun h72 => ?_)
      ·
        have hlt : j < LD.length := by have := of_decide_eq_true h72; omega
        obtain ⟨v, hv1, hv2, hv3⟩ := (hLDm _).1 (getD_memI hlt)
        have hv4 : LD.getD (j : Int).toNat 0 = (v : Int) := hv3
        refine cw_skip ?_
        refine ends_then ?_
        refine cw_seq ?_
        refine cw_block ?_
        refine cw_seq ?_
        -- region 16
        refine cw_region ?_
        refine lw_v rfl rfl (ok_ix rfl (.n rfl) Try.underlying26 Try.sizeOf3 rfl rfl hS (fun _ => ⟨by omega, by omega⟩)) ?_
        refine lw_v rfl rfl (ok_eq (ok_ldx rfl (.n rfl) rfl Try.isAgg3 hS (fun _ => ⟨by omega, by omega⟩) (by rfl)) (c' := .int .i64 (LD.getD j 0)) (fun _ => rfl)) ?_
        refine lw_v rfl rfl (ok_assign rfl (.n rfl) rfl) ?_
        refine lw_nil ?_
        refine Ends.keep [(2, .eq _), (7, .eq _), (8, .eq _), (9, .eq _), (10, .eq _), (15, .eq _), (17, .eq _), (69, .eq _), (70, .eq _), (71, .eq _)] (.cons rfl (.cons rfl (.cons rfl (.cons rfl (.cons rfl (.cons rfl (.cons rfl (.cons rfl (.cons rfl (.cons rfl .nil)))))))))) ?_
        refine ends_then ?_
        -- region 17
        refine cw_region ?_
        refine lw_v rfl rfl (ok_move rfl (.n rfl) rfl) ?_
        refine lw_v rfl rfl (ok_move rfl (.n rfl) rfl) ?_
        refine lw_mapup rfl rfl rfl Try.underlying43 rfl rfl rfl hS ⟨by omega, by omega⟩ ⟨by omega, by omega⟩ (by omega) ?_
        clear hS; intro w7 hS
        refine lw_nil ?_
        refine in_normal (?_)
        refine Ends.keep [(2, .eq _), (7, .eq _), (8, .eq _), (9, .eq _), (10, .eq _), (15, .eq _), (69, .eq _), (70, .eq _), (71, .eq _)] (.cons rfl (.cons rfl (.cons rfl (.cons rfl (.cons rfl (.cons rfl (.cons rfl (.cons rfl (.cons rfl .nil))))))))) ?_
        refine ends_then ?_
        -- region 18
        refine cw_region ?_
        refine lw_v rfl rfl (ok_addi rfl (.n rfl) rfl rfl (fun _ => ⟨by omega, by omega⟩)) ?_
        refine lw_v rfl rfl (ok_move rfl (.n rfl) rfl) ?_
        refine lw_nil ?_
        -- BACK
        refine ends_back (j + 1) (.cons rfl (.cons rfl (.cons rfl (.cons rfl (.cons rfl (.cons rfl (.cons rfl (.cons rfl (.cons rfl .nil))))))))) ⟨m2 + 1, _, ⟨by omega, by omega, mem_step hf2 hlt⟩, hS⟩ (by omega)
      ·
        have hje2 : j = LD.length := by have := of_decide_eq_false h72; omega
        rw [hje2, List.take_length] at hf2
        have hm0 : validB C R H = true → m2 = 0 := fun hv => by
          have e := valid_same hwf hL hv
          have : LD = [] := by
            rcases List.eq_nil_or_concat LD with h9 | ⟨xs, x, h9⟩
            · exact h9
            · obtain ⟨v, _, h8, _⟩ := (hLDm x).1 (by rw [h9]; simp)
              rw [e] at h8; exact absurd h8 (Int.lt_irrefl _)
          rw [this] at hje2
          have : j = 0 := hje2
          omega
        refine cw_exit ?_
        refine then_exit (then_exit (in_exit (?_)))
        refine Ends.keep [(2, .eq _), (7, .eq _), (8, .eq _), (9, .eq _), (10, .eq _), (15, .eq _)] (.cons rfl (.cons rfl (.cons rfl (.cons rfl (.cons rfl (.cons rfl .nil)))))) ?_
        refine ends_then ?_
        refine cw_seq ?_
        refine cw_seq ?_
        -- region 19
        refine cw_region ?_
        refine lw_v rfl rfl (ok_move rfl (.n rfl) rfl) ?_
        refine lw_v rfl rfl (ok_len rfl (.n rfl) Try.underlying26 rfl) ?_
        refine lw_v rfl rfl (ok_move rfl (.n rfl) rfl) ?_
        refine lw_nil ?_
        refine Ends.keep [(2, .eq _), (7, .eq _), (8, .eq _), (9, .eq _), (10, .eq _), (15, .eq _), (79, .eq _), (80, .eq _)] (.cons rfl (.cons rfl (.cons rfl (.cons rfl (.cons rfl (.cons rfl (.cons rfl (.cons rfl .nil)))))))) ?_
        refine ends_then ?_
        refine cw_block ?_
        -- LOOP at region 20: changed live slots [80], kept [2, 7, 8, 9, 10, 15, 79]
        refine cw_loop [(2, .eq _), (7, .eq _), (8, .eq _), (9, .eq _), (10, .eq _), (15, .eq _), (79, .eq _)] (fun k : Nat => [(80, .eq (.int .i64 k))]) (fun k w' => k ≤ C.N ∧ St w.heap.size w w' [sl (eInt .i64) 1 A69 LD.length c69 LD, mp m65 m2 f2, sl (eInt .i64) 1 A61 0 c61 [], sl (eInt .i64) 1 A37 FL.length c37 FL, mp m33 m f, sl (eInt .i64) 1 A32 D.length c32 D, sl (eInt .i64) 1 AH H.length cH H, bx b7 (csV C q).cells.toList 29, sl (eInt .i64) 1 A6 R.length c6 R, sl (eInt .i64) 1 q.a0 C.First.length q.c0 C.First, sl (eInt .i64) 1 q.a1 C.Head.length q.c1 C.Head, sl (eInt .i64) 1 q.a2 C.Rev.length q.c2 C.Rev, sl (eInt .i64) 1 q.a3 C.Cap.length q.c3 C.Cap, sl (eInt .i64) 1 q.a4 C.Arc.length q.c4 C.Arc, sl eBool 1 q.a5 C.Back.length q.c5 C.Back, sl (eInt .i64) 1 A2 h.length c2 h, sl (eInt .i64) 1 A1 l.length c1 l, sl eArc 3 A n.arcs.length c n.arcs]) (fun k => C.N - k) 0 (.cons rfl (.cons rfl (.cons rfl (.cons rfl (.cons rfl (.cons rfl (.cons rfl .nil))))))) (.cons rfl (.cons rfl (.cons rfl (.cons rfl (.cons rfl (.cons rfl (.cons rfl (.cons rfl .nil)))))))) ⟨Nat.zero_le _, hS⟩ ?_
        clear hS
        rintro k wr ⟨hk, hS⟩
        refine cw_seq ?_
        -- region 20
        refine cw_region ?_
        refine lw_v rfl rfl (ok_lss rfl (.n rfl) rfl rfl) ?_
        refine lw_nil ?_
        refine Ends.keep [(2, .eq _), (7, .eq _), (8, .eq _), (9, .eq _), (10, .eq _), (15, .eq _), (79, .eq _), (80, .eq _), (81, .eq _)] (.cons rfl (.cons rfl (.cons rfl (.cons rfl (.cons rfl (.cons rfl (.cons rfl (.cons rfl (.cons rfl .nil))))))))) ?_
        refine ends_then ?_
        refine cw_seq ?_
        refine cw_cond rfl (fun h81 => ?_) (fun h81 => ?_)
        ·
          have hkN : k < C.N := by have := of_decide_eq_true h81; omega
          have hk1 : f2 (k : Int) = if D.getD (k : Int).toNat 0 < H.getD (k : Int).toNat 0 then 1 else 0 := by
            have h8 : (k : Int) ∈ LD ↔ D.getD (k : Int).toNat 0 < H.getD (k : Int).toNat 0 := by
              rw [hLDm]
              exact ⟨fun ⟨v, h1, h2, h3⟩ => by obtain rfl : k = v := Int.ofNat.inj h3; exact h2, fun h9 => ⟨k, by omega, h9, rfl⟩⟩
            rw [hf2]
            by_cases h9 : D.getD (k : Int).toNat 0 < H.getD (k : Int).toNat 0
            · rw [if_pos (h8.2 h9), if_pos h9]
            · rw [if_neg fun h7 => h9 (h8.1 h7), if_neg h9]
          have hk2 : D.getD (k : Int).toNat 0 < H.getD (k : Int).toNat 0 → f (k : Int) = 1 := fun h9 => by
            obtain ⟨x, hx1, hx2⟩ := hFLm k hkN h9
            have := hf x hx1
            rwa [hx2] at this
          refine cw_skip ?_
          refine ends_then ?_
          refine cw_seq ?_
          refine cw_block ?_
          refine cw_seq ?_
          -- region 21
          refine cw_region ?_
          refine lw_v rfl rfl (ok_move rfl (.n rfl) rfl) ?_
          refine lw_v rfl rfl (ok_assign rfl (.n rfl) rfl) ?_
          refine lw_nil ?_
          refine Ends.keep [(2, .eq _), (7, .eq _), (8, .eq _), (9, .eq _), (10, .eq _), (15, .eq _), (18, .eq _), (79, .eq _), (80, .eq _)] (.cons rfl (.cons rfl (.cons rfl (.cons rfl (.cons rfl (.cons rfl (.cons rfl (.cons rfl (.cons rfl .nil))))))))) ?_
          refine ends_then ?_
          refine cw_seq ?_
          -- region 22
          refine cw_draw (by kernel_rfl) (List.take 22 _) (List.drop 22 _) (List.take_append_drop 22 _).symm (by kernel_rfl) ?_
          refine free_v (ok_move rfl (.n rfl) rfl) ?_
          refine free_v (ok_move rfl (.n rfl) rfl) ?_
          refine free_v (ok_ix rfl (.n rfl) Try.underlying26 Try.sizeOf3 rfl rfl hS (fun _ => ⟨by omega, by omega⟩)) ?_
          refine free_v (ok_ldx rfl (.n rfl) rfl Try.isAgg3 hS (fun _ => ⟨by omega, by omega⟩) (by rfl)) ?_
          refine free_v (ok_move rfl (.n rfl) rfl) ?_
          refine free_v (ok_move rfl (.n rfl) rfl) ?_
          refine free_v (ok_ix rfl (.n rfl) Try.underlying26 Try.sizeOf3 rfl rfl hS (fun _ => ⟨by omega, by omega⟩)) ?_
          refine free_v (ok_ldx rfl (.n rfl) rfl Try.isAgg3 hS (fun _ => ⟨by omega, by omega⟩) (by rfl)) ?_
          refine free_v (ok_lss rfl (.n rfl) rfl rfl) ?_
          refine free_v (ok_move rfl (.n rfl) rfl) ?_
          refine free_v (ok_move rfl (.n rfl) rfl) ?_
          refine free_v (ok_lookup rfl (.n rfl) Try.underlying43 rfl rfl hS (fun _ => ⟨by omega, by omega⟩)) ?_
          refine free_v (ok_eql rfl (.n rfl) rfl rfl) ?_
          refine free_v (ok_neb rfl (.n rfl) Try.underlying4 rfl rfl) ?_
          refine free_v (ok_move rfl (.n rfl) rfl) ?_
          refine free_v (ok_move rfl (.s rfl rfl) rfl) ?_
          refine free_v (ok_move rfl (.s rfl rfl) rfl) ?_
          refine free_v (ok_lookup rfl (.s rfl rfl) Try.underlying43 rfl rfl hS (fun _ => ⟨by omega, by omega⟩)) ?_
          refine free_v (ok_eql rfl (.s rfl rfl) rfl rfl) ?_
          refine free_v (ok_move rfl (.s rfl rfl) rfl) ?_
          refine free_v (ok_move rfl (.s rfl rfl) rfl) ?_
          refine free_v (ok_move rfl (.s rfl rfl) rfl) ?_
          refine free_nil ?_
          intro w8 hg_; replace hS := hS.grow hg_; clear hg_
          refine lw_v rfl rfl (ok_lookup rfl (.s rfl rfl) Try.underlying43 rfl rfl hS (fun _ => ⟨by omega, by omega⟩)) ?_
          refine lw_v rfl rfl (ok_eql rfl (.s rfl rfl) rfl rfl) ?_
          refine lw_v rfl rfl (ok_andg rfl (.s rfl rfl) rfl rfl) ?_
          refine lw_v rfl rfl (ok_or rfl rfl rfl rfl) ?_
          refine lw_nil ?_
          refine Ends.keep [(2, .eq _), (7, .eq _), (8, .eq _), (9, .eq _), (10, .eq _), (15, .eq _), (79, .eq _), (80, .eq _), (108, .eq _)] (.cons rfl (.cons rfl (.cons rfl (.cons rfl (.cons rfl (.cons rfl (.cons rfl (.cons rfl (.cons rfl .nil))))))))) ?_
          refine ends_then ?_
          refine cw_cond rfl (fun h108 => ?_) (fun h108 => ?_)
          ·
            exact (flat_bad hk1 hk2 h108).elim
          ·
            refine cw_skip ?_
            refine in_normal (?_)
            refine ends_then ?_
            -- region 24
            refine cw_region ?_
            refine lw_v rfl rfl (ok_addi rfl (.n rfl) rfl rfl (fun _ => ⟨by omega, by omega⟩)) ?_
            refine lw_v rfl rfl (ok_move rfl (.n rfl) rfl) ?_
            refine lw_nil ?_
            -- BACK
            refine ends_back (k + 1) (.cons rfl (.cons rfl (.cons rfl (.cons rfl (.cons rfl (.cons rfl (.cons rfl (.cons rfl .nil)))))))) ⟨by omega, hS⟩ (by omega)
        ·
          refine cw_exit ?_
          refine then_exit (then_exit (in_exit (?_)))
          refine Ends.keep [(2, .eq _), (7, .eq _), (8, .eq _), (9, .eq _), (15, .eq _)] (.cons rfl (.cons rfl (.cons rfl (.cons rfl (.cons rfl .nil))))) ?_
          refine ends_then ?_
          refine cw_seq ?_
          refine cw_seq ?_
          -- region 25
          refine cw_region ?_
          refine lw_v rfl rfl (ok_ldS rfl (.n rfl) rfl Try.isAgg29 Try.sizeOf29 hS rfl) ?_
          refine lw_v rfl rfl (ok_move rfl (.n rfl) rfl) ?_
          refine lw_v rfl rfl (ok_move rfl (.n rfl) rfl) ?_
          refine lw_call (f := 35) (xs := [_, _, _]) rfl rfl rfl Try.call35 rfl (Calls.mono (f35g C q R H A6 c6 AH cH _ hwf (hS.cs q) (hS.rd A6 (by omega)) (hS.rd AH (by omega))) ?_)
          rintro e w' ⟨rfl, hg⟩
          replace hS := hS.grow hg; clear hg
          refine ⟨_, rfl, ?_⟩
          refine lw_v rfl rfl (ok_move rfl (.n rfl) rfl) ?_
          refine lw_v rfl rfl (ok_move rfl (.s rfl rfl) rfl) ?_
          refine lw_v rfl rfl (ok_len0 rfl (.s rfl rfl) Try.underlying43 rfl hS (fun hg => hm0 hg)) ?_
          refine lw_v rfl rfl (ok_neq rfl (.s rfl rfl) rfl rfl) ?_
          refine lw_v rfl rfl (ok_move rfl (.s rfl rfl) rfl) ?_
          refine lw_v rfl rfl (ok_move rfl (.s rfl rfl) rfl) ?_
          refine lw_v rfl rfl (ok_move rfl (.s rfl rfl) rfl) ?_
          refine lw_o rfl rfl (ok_callg (.bool (decide (D = H))) rfl (.s rfl rfl) Try.call30 rfl rfl (fun _ w' hg => f30g A32 c32 AH cH w' H D ((hS.grow hg).rd A32 (by omega)) ((hS.grow hg).rd AH (by omega)))) ?_
          intro w9 hg_; replace hS := hS.grow hg_; clear hg_
          refine lw_v rfl rfl (ok_not rfl (.s rfl rfl) rfl) ?_
          refine lw_v rfl rfl (ok_org rfl (.s rfl rfl) rfl rfl) ?_
          refine lw_v rfl rfl (ok_and rfl rfl rfl rfl) ?_
          refine lw_nil ?_
          refine Ends.keep [(7, .eq _), (8, .eq _), (9, .eq _), (124, .eq _)] (.cons rfl (.cons rfl (.cons rfl (.cons rfl .nil)))) ?_
          refine ends_then ?_
          refine cw_cond rfl (fun h124 => ?_) (fun h124 => ?_)
          ·
            rw [Bool.and_eq_true] at h124
            obtain ⟨hv, h9⟩ := h124
            rw [valid_same hwf hL hv] at h9
            simp at h9
          ·
            refine cw_skip ?_
            refine ends_then ?_
            refine cw_seq ?_
            -- region 27
            refine cw_region ?_
            refine lw_v rfl rfl (ok_ldS rfl (.n rfl) rfl Try.isAgg29 Try.sizeOf29 hS rfl) ?_
            refine lw_v rfl rfl (ok_move rfl (.n rfl) rfl) ?_
            refine lw_v rfl rfl (ok_move rfl (.n rfl) rfl) ?_
            refine lw_call (f := 48) (xs := [_, _, _]) rfl rfl rfl Try.call48 rfl (Calls.mono (f48 C q R D A6 c6 A32 c32 _ hwf (hS.cs q) (hS.rd A6 (by omega)) (hS.rd A32 (by omega))) ?_)
            rintro e w' ⟨A128, c128, rfl, hg, hfr, ho⟩
            replace hS := hS.new hg _ ho hfr; clear hg ho hfr
            rw [lowerL_eq hmD hLD] at hS ⊢
            replace hS := hS.freeze .here (by omega)
            refine ⟨_, rfl, ?_⟩
            refine lw_v rfl rfl (ok_move rfl (.n rfl) rfl) ?_
            refine lw_call (f := 30) (xs := [_, _]) rfl rfl rfl Try.call30 rfl (Calls.mono (f30s A128 c128 A32 c32 D _ (hS.rd A128 (by omega)) (hS.rd A32 (by omega))) ?_)
            rintro e w' ⟨rfl, hg⟩
            replace hS := hS.grow hg; clear hg
            refine ⟨_, rfl, ?_⟩
            refine lw_v rfl rfl (ok_move rfl (.n rfl) rfl) ?_
            refine lw_on (.s rfl rfl) rfl ?_
            refine lw_v rfl rfl (ok_ldS rfl (.n rfl) rfl Try.isAgg29 Try.sizeOf29 hS rfl) ?_
            refine lw_on (.s rfl rfl) rfl ?_
            refine lw_v rfl rfl (ok_move rfl (.n rfl) rfl) ?_
            refine lw_on (.s rfl rfl) rfl ?_
            refine lw_v rfl rfl (ok_move rfl (.n rfl) rfl) ?_
            refine lw_on (.s rfl rfl) rfl ?_
            refine lw_call (f := 51) (xs := [_, _, _]) rfl rfl rfl Try.call51 rfl (Calls.mono (f51 C q R D A6 c6 A32 c32 _ hwf (hS.cs q) (hS.rd A6 (by omega)) (hS.rd A32 (by omega))) ?_)
            rintro e w' ⟨A135, c135, rfl, hg, hfr, ho⟩
            replace hS := hS.new hg _ ho hfr; clear hg ho hfr
            rw [lowd_none hmD hLD] at hS ⊢
            refine ⟨_, rfl, ?_⟩
            refine lw_on (.s rfl rfl) rfl ?_
            refine lw_v rfl rfl (ok_len rfl (.n rfl) Try.underlying26 rfl) ?_
            refine lw_on (.s rfl rfl) rfl ?_
            refine lw_v rfl rfl (ok_eq (g := none) (ok_eql rfl (.n rfl) rfl rfl) (c' := .bool true) (fun _ => congrArg Value.bool (by simp))) ?_
            refine lw_v rfl rfl (ok_pick rfl rfl rfl rfl rfl) ?_
            refine lw_v rfl rfl (ok_move rfl (.n rfl) rfl) ?_
            refine lw_on (.s rfl rfl) rfl ?_
            refine lw_call (f := 53) (xs := []) rfl rfl rfl Try.call53 rfl (Calls.mono (f53 _) ?_)
            rintro e w' ⟨rfl, hg⟩
            replace hS := hS.grow hg; clear hg
            refine ⟨_, rfl, ?_⟩
            refine lw_v rfl rfl (ok_pick rfl rfl rfl rfl rfl) ?_
            refine lw_v rfl rfl (ok_assign rfl (.n rfl) rfl) ?_
            refine lw_nil ?_
            refine Ends.keep [(6, .eq _)] (.cons rfl .nil) ?_
            refine ends_then ?_
            refine cw_ret ?_
            exact end_ret (res1 Try.results18 rfl) ⟨rfl, hS.below⟩

end Go.Proofs.Ytnpgeohkmdcbkaa.Aq
