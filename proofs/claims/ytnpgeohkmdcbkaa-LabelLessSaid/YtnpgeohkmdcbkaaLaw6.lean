/- The walk of the law LabelLess. -/
import Derived.Test.YtnpgeohkmdcbkaaB5
import Derived.Test.YtnpgeohkmdcbkaaB8
import Derived.Test.YtnpgeohkmdcbkaaB9
namespace Go.Proofs.Ytnpgeohkmdcbkaa.Aq
open Go Go.RowKit

theorem f25r (c : Cs) (q : Q6) (l : List Int) {m : Nat} (A1 : Option Addr) (c1 : Nat) (w : World) (hwf : WF c) (hl : (sl (eInt .i64) 1 A1 m c1 l).p w) (hrng : ∀ x ∈ l, -9223372036854775808 ≤ x ∧ x ≤ 9223372036854775807) : RetL 25 [csV c q, .slice A1 m c1] w (heightsF c l) := by
  have e1 := hl.1.1; subst e1; exact f25' c q l A1 c1 w hwf hl hrng
theorem min_right {c : Cs} (hw : WF c) {G H X : List Int} (hG : RightH c G) (hH : RightH c H) (hl : X.length = c.N) (hX : ∀ v, v < c.N → X.getD v 0 = if H.getD v 0 < G.getD v 0 then H.getD v 0 else G.getD v 0) : RightH c X :=
  ⟨hl, fun v hv => by have := hG.rng v hv; have := hH.rng v hv; rw [hX v hv]; split <;> omega, by rw [hX _ hw.t, hG.t, hH.t]; rfl, by rw [hX _ hw.s, hG.s, hH.s]; split <;> rfl⟩
theorem max_right {c : Cs} (hw : WF c) {G H X : List Int} (hG : RightH c G) (hH : RightH c H) (hl : X.length = c.N) (hX : ∀ v, v < c.N → X.getD v 0 = if G.getD v 0 < H.getD v 0 then H.getD v 0 else G.getD v 0) : RightH c X :=
  ⟨hl, fun v hv => by have := hG.rng v hv; have := hH.rng v hv; rw [hX v hv]; split <;> omega, by rw [hX _ hw.t, hG.t, hH.t]; rfl, by rw [hX _ hw.s, hG.s, hH.s]; split <;> rfl⟩
theorem min_flat {c : Cs} {res G H X : List Int} (hG : Flatly c res G) (hH : Flatly c res H) (hX : ∀ v, v < c.N → X.getD v 0 = if H.getD v 0 < G.getD v 0 then H.getD v 0 else G.getD v 0) : Flatly c res X := fun u w hu hw e => by
  have h1 := hG u w hu hw e
  have h2 := hH u w hu hw e
  rw [hX u hu, hX w hw]
  split <;> split <;> omega
theorem max_flat {c : Cs} {res G H X : List Int} (hG : Flatly c res G) (hH : Flatly c res H) (hX : ∀ v, v < c.N → X.getD v 0 = if G.getD v 0 < H.getD v 0 then H.getD v 0 else G.getD v 0) : Flatly c res X := fun u w hu hw e => by
  have h1 := hG u w hu hw e
  have h2 := hH u w hu hw e
  rw [hX u hu, hX w hw]
  split <;> split <;> omega
theorem sumB_rng {c : Cs} (hw : WF c) {h : List Int} (hr : RightH c h) : 0 ≤ sumB c h ∧ sumB c h ≤ ((c.N * c.N : Nat) : Int) := by
  unfold sumB
  rw [if_pos ((right_iff hw).2 hr), hr.len]
  have := sumTo_rng hr c.N (Nat.le_refl _)
  rw [Int.natCast_mul]
  exact this
theorem sums {c : Cs} (hw : WF c) {G H P Q : List Int} (hG : RightH c G) (hH : RightH c H) (hP : RightH c P) (hQ : RightH c Q) (h1 : ∀ v, v < c.N → P.getD v 0 = if H.getD v 0 < G.getD v 0 then H.getD v 0 else G.getD v 0) (h2 : ∀ v, v < c.N → Q.getD v 0 = if G.getD v 0 < H.getD v 0 then H.getD v 0 else G.getD v 0) : sumB c P + sumB c Q = sumB c G + sumB c H := by
  unfold sumB
  rw [if_pos ((right_iff hw).2 hG), if_pos ((right_iff hw).2 hH), if_pos ((right_iff hw).2 hP), if_pos ((right_iff hw).2 hQ), hG.len, hH.len, hP.len, hQ.len]
  have key : ∀ k, k ≤ c.N → sumTo P k + sumTo Q k = sumTo G k + sumTo H k := by
    intro k
    induction k with
    | zero => intro _; rfl
    | succ k ih =>
      intro hk
      have i1 := ih (by omega)
      have e1 := h1 k (by omega)
      have e2 := h2 k (by omega)
      simp only [sumTo]
      rw [e1, e2]
      split <;> split <;> omega
  exact key c.N (Nat.le_refl _)
theorem dec2_right {c : Cs} {G : List Int} (hG : RightH c G) {u x : Nat} (hu : u < c.N) (hx : x < c.N) (hS : u ≠ c.S) (hT : u ≠ c.T) (h : 1 < G.getD u 0 - G.getD x 0) : RightH c (G.set u (G.getD x 0 + 1)) := by
  have hl := hG.len
  have get := fun v => set_get (D := G) (u := u) (z := G.getD x 0 + 1) (by omega) v
  have h1 := hG.rng u hu
  have h2 := hG.rng x hx
  refine ⟨by rw [List.length_set]; exact hl, fun v hv => ?_, ?_, ?_⟩
  · rw [get v]
    split
    · omega
    · exact hG.rng v hv
  · rw [get, if_neg fun e => hT e.symm]; exact hG.t
  · rw [get, if_neg fun e => hS e.symm]; exact hG.s
theorem steep_mem {c : Cs} {res G : List Int} {x : Int} (hm : mayB c res G = true) (hx : x ∈ steepL c res G) : ∃ a : Nat, a < c.Head.length ∧ x = a ∧ tailOf c a ≠ c.S ∧ 1 < G.getD (tailOf c a) 0 - G.getD (c.Head.getD a 0).toNat 0 := by
  unfold steepL at hx
  rw [downL_may hm] at hx
  obtain ⟨a, h1, h2, rfl⟩ := filt_mem.1 hx
  unfold downP at h2
  simp only [Bool.and_eq_true, decide_eq_true_eq, Bool.not_eq_true', decide_eq_false_iff_not] at h2
  exact ⟨a, h1, rfl, by omega, h2.2⟩
/-- Two rows made, in whatever order: what holds on the way. -/
def Ph2 (B : Nat) (we : World) (L : List Asn) (n : Nat) (vs : Nat → Option Value) (w' : World) : Prop :=
  (match vs 2, vs 5 with
  | none, none => St B we w' L
  | some v, none => ∃ A c, v = .slice A n c ∧ St B we w' (own (eInt .i64) 1 3 A n c (List.replicate n (0 : Int)) :: L)
  | none, some v => ∃ A c, v = .slice A n c ∧ St B we w' (own (eInt .i64) 1 3 A n c (List.replicate n (0 : Int)) :: L)
  | some v, some v' => ∃ A c A' c', v = .slice A n c ∧ v' = .slice A' n c' ∧ St B we w' (own (eInt .i64) 1 3 A n c (List.replicate n (0 : Int)) :: own (eInt .i64) 1 3 A' n c' (List.replicate n (0 : Int)) :: L)) ∧ ∀ v, vs 6 = some v → vs 2 = some v
section
variable {B n : Nat} {we w : World} {L : List Asn} {vs : Nat → Option Value} {A A' : Option Addr} {c c' : Nat} {v x : Value}
theorem Ph2.st (h : Ph2 B we L n vs w) : St B we w L := by
  obtain ⟨h, _⟩ := h
  split at h
  · exact h
  · obtain ⟨_, _, _, h⟩ := h; exact h.tail
  · obtain ⟨_, _, _, h⟩ := h; exact h.tail
  · obtain ⟨_, _, _, _, _, _, h⟩ := h; exact h.tail.tail
theorem mk2_2 (h2 : vs 2 = none) (h5 : vs 5 = none) (e1 : x = .slice A n c) (h6 : ∀ v, vs 6 = some v → vs 2 = some v) (hS : St B we w (own (eInt .i64) 1 3 A n c (List.replicate n (0 : Int)) :: L)) : Ph2 B we L n (updV vs 2 x) w := by
  have a1 : updV vs 2 x 2 = some x := rfl
  have a2 : updV vs 2 x 5 = none := h5
  refine ⟨?_, fun v hv => ?_⟩
  · simp only [a1, a2]; exact ⟨A, c, e1, hS⟩
  · have := h6 v hv; rw [h2] at this; cases this
theorem mk2_2b (h2 : vs 2 = none) (h5 : vs 5 = some v) (ev : v = .slice A' n c') (e1 : x = .slice A n c) (h6 : ∀ v, vs 6 = some v → vs 2 = some v) (hS : St B we w (own (eInt .i64) 1 3 A n c (List.replicate n (0 : Int)) :: own (eInt .i64) 1 3 A' n c' (List.replicate n (0 : Int)) :: L)) : Ph2 B we L n (updV vs 2 x) w := by
  have a1 : updV vs 2 x 2 = some x := rfl
  have a2 : updV vs 2 x 5 = some v := h5
  refine ⟨?_, fun v hv => ?_⟩
  · simp only [a1, a2]; exact ⟨A, c, A', c', e1, ev, hS⟩
  · have := h6 v hv; rw [h2] at this; cases this
theorem mk2_5 (h5 : vs 5 = none) (h2 : vs 2 = none) (e1 : x = .slice A n c) (h6 : ∀ v, vs 6 = some v → vs 2 = some v) (hS : St B we w (own (eInt .i64) 1 3 A n c (List.replicate n (0 : Int)) :: L)) : Ph2 B we L n (updV vs 5 x) w := by
  have a1 : updV vs 5 x 5 = some x := rfl
  have a2 : updV vs 5 x 2 = none := h2
  refine ⟨?_, fun v hv => h6 v hv⟩
  simp only [a1, a2]; exact ⟨A, c, e1, hS⟩
theorem mk2_5b (h5 : vs 5 = none) (h2 : vs 2 = some v) (ev : v = .slice A' n c') (e1 : x = .slice A n c) (h6 : ∀ v, vs 6 = some v → vs 2 = some v) (hS : St B we w (own (eInt .i64) 1 3 A n c (List.replicate n (0 : Int)) :: own (eInt .i64) 1 3 A' n c' (List.replicate n (0 : Int)) :: L)) : Ph2 B we L n (updV vs 5 x) w := by
  have a1 : updV vs 5 x 5 = some x := rfl
  have a2 : updV vs 5 x 2 = some v := h2
  refine ⟨?_, fun v hv => h6 v hv⟩
  simp only [a1, a2]; exact ⟨A', c', A, c, ev, e1, hS.swap⟩
theorem updV_same (h : vs 2 = some v) : vs = updV vs 2 v := by
  funext j
  unfold updV
  cases hb : Nat.beq j 2 with
  | true => have := Nat.eq_of_beq_eq_true hb; subst this; exact h
  | false => rfl
theorem as2 (h : Ph2 B we L n vs w) (hv : vs 2 = some v) (e1 : x = v) : Ph2 B we L n (updV (updV vs 2 v) 6 x) w := by
  obtain ⟨h1, h2⟩ := h
  have a2 : updV (updV vs 2 v) 6 x 2 = some v := rfl
  have a5 : updV (updV vs 2 v) 6 x 5 = vs 5 := rfl
  rw [hv] at h1
  refine ⟨?_, fun u hu => ?_⟩
  · rw [a2, a5]; exact h1
  · have : some x = some u := hu
    rw [a2, ← e1]; exact this
theorem fS3 {f : Nat → Value} {v2 v5 : Value} (h2 : f 2 = v2) (h5 : f 5 = v5) (h6 : f 6 = v2) : fS [false, false, true, false, false, true, true] f = fS [false, false, true, false, false, true, true] (fun i => bif Nat.beq i 5 then v5 else v2) := by
  funext i
  match i with
  | 0 => rfl
  | 1 => rfl
  | 2 => exact congrArg some h2
  | 3 => rfl
  | 4 => rfl
  | 5 => exact congrArg some h5
  | 6 => exact congrArg some h6
  | k + 7 => rfl
end


set_option maxHeartbeats 1000000 in
set_option maxRecDepth 10000 in
/-- acequialaw06.LabelLess. -/
theorem f6 (n : Nt) (A : Option Addr) (c : Nat) (l : List Int) (A1 : Option Addr) (c1 : Nat) (g : List Int) (A2 : Option Addr) (c2 : Nat) (h : List Int) (A3 : Option Addr) (c3 : Nat) (w : World) (ha : (sl eArc 3 A n.arcs.length c n.arcs).p w) (hrgn : (-9223372036854775808 ≤ n.N ∧ n.N ≤ 9223372036854775807) ∧ (-9223372036854775808 ≤ n.S ∧ n.S ≤ 9223372036854775807) ∧ (-9223372036854775808 ≤ n.T ∧ n.T ≤ 9223372036854775807) ∧ ∀ a ∈ n.arcs, -9223372036854775808 ≤ a.1 ∧ a.1 ≤ 9223372036854775807 ∧ -9223372036854775808 ≤ a.2.1 ∧ a.2.1 ≤ 9223372036854775807 ∧ -9223372036854775808 ≤ a.2.2 ∧ a.2.2 ≤ 9223372036854775807) (hl : (sl (eInt .i64) 1 A1 l.length c1 l).p w) (hrgl : ∀ x ∈ l, -9223372036854775808 ≤ x ∧ x ≤ 9223372036854775807) (hgg : (sl (eInt .i64) 1 A2 g.length c2 g).p w) (hrgg : ∀ x ∈ g, -9223372036854775808 ≤ x ∧ x ≤ 9223372036854775807) (hh : (sl (eInt .i64) 1 A3 h.length c3 h).p w) (hrgh : ∀ x ∈ h, -9223372036854775808 ≤ x ∧ x ≤ 9223372036854775807) :
    Calls Try.prog 6 #[netV n A c, .slice A1 l.length c1, .slice A2 g.length c2, .slice A3 h.length c3] w fun e w' => e = .returned (.bool true) ∧ Gr w w' := by
  refine calls_cw Try.func6 rfl Try.ntmps6 rfl ?_
  have hS := ((((St.start w).args (Nat.le_refl _) _ ha rfl).args (Nat.le_refl _) _ hl rfl).args (Nat.le_refl _) _ hgg rfl).args (Nat.le_refl _) _ hh rfl
  refine cw_seq ?_
  -- region 0
  refine cw_region ?_
  refine lw_box rfl rfl rfl rfl hS ?_
  clear hS; intro b4 w1 _ _ hS
  refine lw_v rfl rfl (ok_assign rfl (.n rfl) rfl) ?_
  refine lw_nil ?_
  refine Ends.keep [(1, .eq _), (2, .eq _), (3, .eq _), (4, .eq _)] (.cons rfl (.cons rfl (.cons rfl (.cons rfl .nil)))) ?_
  refine ends_then ?_
  refine cw_seq ?_
  -- region 1
  refine cw_region ?_
  refine lw_v rfl rfl (ok_ldS rfl (.n rfl) rfl Try.isAgg24 Try.sizeOf24 hS rfl) ?_
  refine lw_call (f := 24) (xs := [_, _, _]) rfl rfl rfl Try.call24 rfl (Calls.mono (f24a n A c _ (hS.rd A (by have := ha.2.1; omega)) hrgn) ?_)
  rintro e w' ⟨n1, AS, cS, hok, rfl, hg, hfr, ho⟩
  replace hS := hS.new hg _ ho hfr; clear hg ho hfr
  refine ⟨_, rfl, ?_⟩
  refine lw_v rfl rfl (ok_move rfl (.n rfl) rfl) ?_
  refine lw_call (f := 23) (xs := [_, _]) rfl rfl rfl Try.call23 rfl (Calls.mono (f23a n1 AS cS l A1 c1 _ hok (hS.rd AS (by have := hok.len; omega)) (hS.rd A1 hl.2.1) hl.2.1 hrgl) ?_)
  rintro e w' ⟨C, R, q, A6, c6, ⟨hwf, hro⟩, rfl, hg, hnew, hat, hfr, hap, ho⟩
  replace hS := hS.left hg hat hnew ho hfr hap; clear hg hnew hat hfr hap ho
  replace hS := hS.sub (.cons_cons _ (.cons_cons _ (.cons_cons _ (.cons_cons _ (.cons_cons _ (.cons_cons _ (.cons_cons _ (.cons _ (.cons _ (List.Sublist.refl _))))))))))
  have hM := hwf.m
  have hrlen := hro.len
  have hN := hwf.hi
  have hlo := hwf.lo
  replace hS := hS.freeze .here (by omega)
  have hl1 := heightsF_len C g
  have hl2 := heightsF_len C h
  have hCS := hwf.s
  have hCT := hwf.t
  obtain ⟨K, hK⟩ : ∃ K, K = C.N * C.N := ⟨_, rfl⟩
  have hK3 : (C.N : Int) * (C.N : Int) = (K : Int) := by rw [hK, Int.natCast_mul]
  have hKb : K ≤ 16 * 16 := by rw [hK]; exact Nat.mul_le_mul hN hN
  have hK0 : 2 * 2 ≤ K := by rw [hK]; exact Nat.mul_le_mul hlo hlo
  refine ⟨_, rfl, ?_⟩
  refine lw_v rfl rfl (ok_move rfl (.n rfl) rfl) ?_
  refine lw_v rfl rfl (ok_extract rfl (.n rfl) rfl rfl) ?_
  refine lw_v rfl rfl (ok_extract rfl (.n rfl) rfl rfl) ?_
  refine lw_alloc rfl rfl rfl Try.zeroValue29 hS ?_
  clear hS; intro b9 w2 _ _ hS
  refine lw_stS rfl rfl rfl rfl rfl (by kernel_rfl) hS rfl (by rfl) (by rfl) ?_
  clear hS; intro w3 hS
  refine lw_v rfl rfl (ok_assign rfl (.n rfl) rfl) ?_
  refine lw_nil ?_
  refine Ends.keep [(2, .eq _), (3, .eq _), (9, .eq _), (10, .eq _)] (.cons rfl (.cons rfl (.cons rfl (.cons rfl .nil)))) ?_
  refine ends_then ?_
  refine cw_seq ?_
  -- region 2
  refine cw_draw (by kernel_rfl) (List.take 5 _) (List.drop 5 _) (List.take_append_drop 5 _).symm (by kernel_rfl) ?_
  refine free_v (ok_ldS rfl (.n rfl) rfl Try.isAgg29 Try.sizeOf29 hS rfl) ?_
  refine free_v (ok_move rfl (.n rfl) rfl) ?_
  refine free_cons (ok_callL rfl rfl Try.call25 rfl (fun w' hg => f25r C q g A2 c2 w' hwf ((hS.grow hg).rd A2 hgg.2.1) hrgg)) ?_
  refine free_v (ok_ldS rfl (.n rfl) rfl Try.isAgg29 Try.sizeOf29 hS rfl) ?_
  refine free_v (ok_move rfl (.n rfl) rfl) ?_
  refine free_nil ?_
  intro wz hg_
  refine LW.opened (s := 28) rfl ?_
  rintro _ ⟨A28, c28, rfl, ho28, hf28⟩
  replace hS := hS.new hg_ _ ho28 hf28; clear hg_ ho28 hf28
  refine lw_call (f := 25) (xs := [_, _]) rfl rfl rfl Try.call25 rfl (Calls.mono (f25r C q h A3 c3 _ hwf (hS.rd A3 hh.2.1) hrgh) ?_)
  rintro e w' ⟨A31, c31, rfl, hg, hfr, ho⟩
  replace hS := hS.new hg _ ho hfr; clear hg ho hfr
  have hG := heightsF_right hwf g
  have hH := heightsF_right hwf h
  generalize heightsF C g = G at hS hl1 hG ⊢
  generalize heightsF C h = H at hS hl2 hH ⊢
  rw [hl1, hl2] at hS ⊢
  refine ⟨_, rfl, ?_⟩
  refine lw_v rfl rfl (ok_assign rfl (.n rfl) rfl) ?_
  refine lw_v rfl rfl (ok_assign rfl (.n rfl) rfl) ?_
  refine lw_nil ?_
  refine Ends.keep [(2, .eq _), (3, .eq _), (9, .eq _), (10, .eq _)] (.cons rfl (.cons rfl (.cons rfl (.cons rfl .nil)))) ?_
  refine ends_then ?_
  refine cw_seq ?_
  refine cw_seq ?_
  -- region 3
  refine cw_region ?_
  refine lw_v rfl rfl (ok_move rfl (.n rfl) rfl) ?_
  refine lw_v rfl rfl (ok_move rfl (.n rfl) rfl) ?_
  refine lw_ls (enc := eSl) [(A28, C.N, c28), (A31, C.N, c31)] rfl rfl rfl Try.underlying47 Try.sizeOf26 Try.zeroValue26 rfl (by kernel_rfl) rfl (by decide) (by decide) hS ?_
  clear hS; intro A34 c34 w4 _ hS
  refine lw_v rfl rfl (ok_len rfl (.n rfl) Try.underlying47 rfl) ?_
  refine lw_v rfl rfl (ok_move rfl (.n rfl) rfl) ?_
  refine lw_nil ?_
  refine Ends.keep [(2, .eq _), (3, .eq _), (9, .eq _), (10, .eq _), (34, .eq _), (35, .eq _), (36, .eq _)] (.cons rfl (.cons rfl (.cons rfl (.cons rfl (.cons rfl (.cons rfl (.cons rfl .nil))))))) ?_
  refine ends_then ?_
  refine cw_block ?_
  -- LOOP at region 4: changed live slots [36], kept [2, 3, 9, 10, 34, 35]
  refine cw_loop [(2, .eq _), (3, .eq _), (9, .eq _), (10, .eq _), (34, .eq _), (35, .eq _)] (fun k : Nat => [(36, .eq (.int .i64 k))]) (fun k w' => ∃ G H : List Int, (k ≤ 2 ∧ RightH C G ∧ RightH C H ∧ (1 ≤ k → Flatly C R G) ∧ (2 ≤ k → Flatly C R H)) ∧ St w.heap.size w w' [own eSl 1 26 A34 2 c34 [(A28, C.N, c28), (A31, C.N, c31)], own (eInt .i64) 1 3 A31 C.N c31 H, own (eInt .i64) 1 3 A28 C.N c28 G, bx b9 (csV C q).cells.toList 29, sl (eInt .i64) 1 A6 R.length c6 R, sl (eInt .i64) 1 q.a0 C.First.length q.c0 C.First, sl (eInt .i64) 1 q.a1 C.Head.length q.c1 C.Head, sl (eInt .i64) 1 q.a2 C.Rev.length q.c2 C.Rev, sl (eInt .i64) 1 q.a3 C.Cap.length q.c3 C.Cap, sl (eInt .i64) 1 q.a4 C.Arc.length q.c4 C.Arc, sl eBool 1 q.a5 C.Back.length q.c5 C.Back, sl (eInt .i64) 1 A3 h.length c3 h, sl (eInt .i64) 1 A2 g.length c2 g, sl (eInt .i64) 1 A1 l.length c1 l, sl eArc 3 A n.arcs.length c n.arcs]) (fun k => 2 - k) 0 (.cons rfl (.cons rfl (.cons rfl (.cons rfl (.cons rfl (.cons rfl .nil)))))) (.cons rfl (.cons rfl (.cons rfl (.cons rfl (.cons rfl (.cons rfl (.cons rfl .nil))))))) ⟨G, H, ⟨Nat.zero_le _, hG, hH, fun h => absurd h (by omega), fun h => absurd h (by omega)⟩, hS⟩ ?_
  clear hS
  clear hG hH hl1 hl2
  rintro k wr ⟨G, H, ⟨hk, hG, hH, hfG, hfH⟩, hS⟩
  refine cw_seq ?_
  -- region 4
  refine cw_region ?_
  refine lw_v rfl rfl (ok_lss rfl (.n rfl) rfl rfl) ?_
  refine lw_nil ?_
  refine Ends.keep [(2, .eq _), (3, .eq _), (9, .eq _), (10, .eq _), (34, .eq _), (35, .eq _), (36, .eq _), (37, .eq _)] (.cons rfl (.cons rfl (.cons rfl (.cons rfl (.cons rfl (.cons rfl (.cons rfl (.cons rfl .nil)))))))) ?_
  refine ends_then ?_
  refine cw_seq ?_
  refine cw_cond rfl (fun h37 => ?_) (fun h37 => ?_)
  ·
    have hk2 : k < 2 := by have := of_decide_eq_true h37; omega
    obtain ⟨Ax, cx, X, Ay, cy, Y, hel, hX, hS2, hres⟩ : ∃ Ax cx X Ay cy Y, ([(A28, C.N, c28), (A31, C.N, c31)] : List Hd).getD k (none, 0, 0) = (Ax, C.N, cx) ∧ RightH C X ∧ St w.heap.size w wr [own (eInt .i64) 1 3 Ax C.N cx X, own (eInt .i64) 1 3 Ay C.N cy Y, own eSl 1 26 A34 2 c34 [(A28, C.N, c28), (A31, C.N, c31)], bx b9 (csV C q).cells.toList 29, sl (eInt .i64) 1 A6 R.length c6 R, sl (eInt .i64) 1 q.a0 C.First.length q.c0 C.First, sl (eInt .i64) 1 q.a1 C.Head.length q.c1 C.Head, sl (eInt .i64) 1 q.a2 C.Rev.length q.c2 C.Rev, sl (eInt .i64) 1 q.a3 C.Cap.length q.c3 C.Cap, sl (eInt .i64) 1 q.a4 C.Arc.length q.c4 C.Arc, sl eBool 1 q.a5 C.Back.length q.c5 C.Back, sl (eInt .i64) 1 A3 h.length c3 h, sl (eInt .i64) 1 A2 g.length c2 g, sl (eInt .i64) 1 A1 l.length c1 l, sl eArc 3 A n.arcs.length c n.arcs] ∧ ∀ w' X', RightH C X' → Flatly C R X' → St w.heap.size w w' [own (eInt .i64) 1 3 Ax C.N cx X', own (eInt .i64) 1 3 Ay C.N cy Y, own eSl 1 26 A34 2 c34 [(A28, C.N, c28), (A31, C.N, c31)], bx b9 (csV C q).cells.toList 29, sl (eInt .i64) 1 A6 R.length c6 R, sl (eInt .i64) 1 q.a0 C.First.length q.c0 C.First, sl (eInt .i64) 1 q.a1 C.Head.length q.c1 C.Head, sl (eInt .i64) 1 q.a2 C.Rev.length q.c2 C.Rev, sl (eInt .i64) 1 q.a3 C.Cap.length q.c3 C.Cap, sl (eInt .i64) 1 q.a4 C.Arc.length q.c4 C.Arc, sl eBool 1 q.a5 C.Back.length q.c5 C.Back, sl (eInt .i64) 1 A3 h.length c3 h, sl (eInt .i64) 1 A2 g.length c2 g, sl (eInt .i64) 1 A1 l.length c1 l, sl eArc 3 A n.arcs.length c n.arcs] → ∃ G H : List Int, ((k + 1) ≤ 2 ∧ RightH C G ∧ RightH C H ∧ (1 ≤ (k + 1) → Flatly C R G) ∧ (2 ≤ (k + 1) → Flatly C R H)) ∧ St w.heap.size w w' [own eSl 1 26 A34 2 c34 [(A28, C.N, c28), (A31, C.N, c31)], own (eInt .i64) 1 3 A31 C.N c31 H, own (eInt .i64) 1 3 A28 C.N c28 G, bx b9 (csV C q).cells.toList 29, sl (eInt .i64) 1 A6 R.length c6 R, sl (eInt .i64) 1 q.a0 C.First.length q.c0 C.First, sl (eInt .i64) 1 q.a1 C.Head.length q.c1 C.Head, sl (eInt .i64) 1 q.a2 C.Rev.length q.c2 C.Rev, sl (eInt .i64) 1 q.a3 C.Cap.length q.c3 C.Cap, sl (eInt .i64) 1 q.a4 C.Arc.length q.c4 C.Arc, sl eBool 1 q.a5 C.Back.length q.c5 C.Back, sl (eInt .i64) 1 A3 h.length c3 h, sl (eInt .i64) 1 A2 g.length c2 g, sl (eInt .i64) 1 A1 l.length c1 l, sl eArc 3 A n.arcs.length c n.arcs] := by
      rcases (by omega : k = 0 ∨ k = 1) with rfl | rfl
      · exact ⟨A28, c28, G, A31, c31, H, rfl, hG, hS.rot3.swap, fun w' X' h1 h2 h3 => ⟨X', H, ⟨by omega, h1, hH, fun _ => h2, fun h => absurd h (by omega)⟩, h3.rot3.swap⟩⟩
      · exact ⟨A31, c31, H, A28, c28, G, rfl, hH, hS.rot3, fun w' X' h1 h2 h3 => ⟨G, X', ⟨by omega, hG, h1, fun _ => hfG (by omega), fun _ => h2⟩, h3.rot3.rot3⟩⟩
    replace hS := hS2; clear hS2
    refine cw_skip ?_
    refine ends_then ?_
    refine cw_seq ?_
    refine cw_block ?_
    refine cw_seq ?_
    -- region 5
    refine cw_region ?_
    refine lw_v rfl rfl (ok_ix rfl (.n rfl) Try.underlying47 Try.sizeOf26 rfl rfl hS (fun _ => ⟨by omega, by omega⟩)) ?_
    refine lw_v rfl rfl (ok_eq (ok_ldx rfl (.n rfl) rfl Try.isAgg26 hS (fun _ => ⟨by omega, by omega⟩) (by rfl)) (c' := .slice Ax C.N cx) (fun _ => by show Value.slice (([(A28, C.N, c28), (A31, C.N, c31)] : List Hd).getD k (none, 0, 0)).1 (([(A28, C.N, c28), (A31, C.N, c31)] : List Hd).getD k (none, 0, 0)).2.1 (([(A28, C.N, c28), (A31, C.N, c31)] : List Hd).getD k (none, 0, 0)).2.2 = _; rw [hel])) ?_
    refine lw_v rfl rfl (ok_assign rfl (.n rfl) rfl) ?_
    refine lw_nil ?_
    refine Ends.keep [(2, .eq _), (3, .eq _), (9, .eq _), (10, .eq _), (12, .eq _), (34, .eq _), (35, .eq _), (36, .eq _)] (.cons rfl (.cons rfl (.cons rfl (.cons rfl (.cons rfl (.cons rfl (.cons rfl (.cons rfl .nil)))))))) ?_
    refine ends_then ?_
    refine cw_seq ?_
    refine cw_seq ?_
    -- region 6
    refine cw_region ?_
    refine lw_v rfl rfl (ok_fb rfl (.n rfl) Try.underlying29 rfl Try.sizeOf3 (by decide) rfl) ?_
    refine lw_v rfl rfl (ok_ldb rfl (.n rfl) rfl Try.isAgg3 hS (by rfl)) ?_
    refine lw_v rfl rfl (ok_fb rfl (.n rfl) Try.underlying29 rfl Try.sizeOf3 (by decide) rfl) ?_
    refine lw_v rfl rfl (ok_ldb rfl (.n rfl) rfl Try.isAgg3 hS (by rfl)) ?_
    refine lw_v rfl rfl (ok_eq (ok_muli rfl (.n rfl) rfl rfl (fun _ => ⟨by rw [hK3]; omega, by rw [hK3]; omega⟩)) (c' := .int .i64 (K : Int)) (fun _ => congrArg (Value.int .i64) hK3)) ?_
    refine lw_v rfl rfl (ok_muli rfl (.n rfl) rfl rfl (fun _ => ⟨by omega, by omega⟩)) ?_
    refine lw_v rfl rfl (ok_move rfl (.n rfl) rfl) ?_
    refine lw_nil ?_
    refine Ends.keep [(2, .eq _), (3, .eq _), (9, .eq _), (10, .eq _), (12, .eq _), (34, .eq _), (35, .eq _), (36, .eq _), (45, .eq _), (46, .eq _)] (.cons rfl (.cons rfl (.cons rfl (.cons rfl (.cons rfl (.cons rfl (.cons rfl (.cons rfl (.cons rfl (.cons rfl .nil)))))))))) ?_
    refine ends_then ?_
    refine cw_block ?_
    -- LOOP at region 7: changed live slots [46], kept [2, 3, 9, 10, 12, 34, 35, 36, 45]
    refine cw_loop [(2, .eq _), (3, .eq _), (9, .eq _), (10, .eq _), (12, .eq _), (34, .eq _), (35, .eq _), (36, .eq _), (45, .eq _)] (fun i : Nat => [(46, .eq (.int .i64 i))]) (fun i w' => ∃ X : List Int, (RightH C X ∧ tot X + i ≤ K) ∧ St w.heap.size w w' [own (eInt .i64) 1 3 Ax C.N cx X, own (eInt .i64) 1 3 Ay C.N cy Y, own eSl 1 26 A34 2 c34 [(A28, C.N, c28), (A31, C.N, c31)], bx b9 (csV C q).cells.toList 29, sl (eInt .i64) 1 A6 R.length c6 R, sl (eInt .i64) 1 q.a0 C.First.length q.c0 C.First, sl (eInt .i64) 1 q.a1 C.Head.length q.c1 C.Head, sl (eInt .i64) 1 q.a2 C.Rev.length q.c2 C.Rev, sl (eInt .i64) 1 q.a3 C.Cap.length q.c3 C.Cap, sl (eInt .i64) 1 q.a4 C.Arc.length q.c4 C.Arc, sl eBool 1 q.a5 C.Back.length q.c5 C.Back, sl (eInt .i64) 1 A3 h.length c3 h, sl (eInt .i64) 1 A2 g.length c2 g, sl (eInt .i64) 1 A1 l.length c1 l, sl eArc 3 A n.arcs.length c n.arcs]) (fun i => K - i) 0 (.cons rfl (.cons rfl (.cons rfl (.cons rfl (.cons rfl (.cons rfl (.cons rfl (.cons rfl (.cons rfl .nil))))))))) (.cons rfl (.cons rfl (.cons rfl (.cons rfl (.cons rfl (.cons rfl (.cons rfl (.cons rfl (.cons rfl (.cons rfl .nil)))))))))) ⟨X, ⟨hX, by have := tot_le hX.len (b := C.N) fun y hy => (hX.rng y hy).2; omega⟩, hS⟩ ?_
    clear hS
    clear hX
    rintro i wr ⟨X, ⟨hX, hti⟩, hS⟩
    have hXl := hX.len
    refine cw_seq ?_
    -- region 7
    refine cw_region ?_
    refine lw_v rfl rfl (ok_lss rfl (.n rfl) rfl rfl) ?_
    refine lw_nil ?_
    refine Ends.keep [(2, .eq _), (3, .eq _), (9, .eq _), (10, .eq _), (12, .eq _), (34, .eq _), (35, .eq _), (36, .eq _), (45, .eq _), (46, .eq _), (47, .eq _)] (.cons rfl (.cons rfl (.cons rfl (.cons rfl (.cons rfl (.cons rfl (.cons rfl (.cons rfl (.cons rfl (.cons rfl (.cons rfl .nil))))))))))) ?_
    refine ends_then ?_
    refine cw_seq ?_
    refine cw_cond rfl (fun h47 => ?_) (fun h47 => ?_)
    ·
      have hi2 : (i : Int) < (K : Int) * 2 := of_decide_eq_true h47
      refine cw_skip ?_
      refine ends_then ?_
      refine cw_seq ?_
      refine cw_block ?_
      refine cw_seq ?_
      -- region 8
      refine cw_region ?_
      refine lw_v rfl rfl (ok_ldS rfl (.n rfl) rfl Try.isAgg29 Try.sizeOf29 hS rfl) ?_
      refine lw_v rfl rfl (ok_move rfl (.n rfl) rfl) ?_
      refine lw_v rfl rfl (ok_move rfl (.n rfl) rfl) ?_
      refine lw_call (f := 31) (xs := [_, _, _]) rfl rfl rfl Try.call31 rfl (Calls.mono (f31g C q R X A6 c6 Ax cx _ hwf (hS.cs q) (hS.rd A6 (by omega)) (hS.rd Ax (by omega))) ?_)
      rintro e w' ⟨A51, c51, rfl, hg, hfr, ho⟩
      replace hS := hS.new hg _ ho hfr; clear hg ho hfr
      have hmX : mayB C R X = true := (may_iff hwf).2 ⟨hrlen, hX⟩
      have hSTl := steepL_len hwf R X
      have hSTm := fun x => steep_mem (c := C) (x := x) hmX
      have hST0 := steep_none hwf hmX
      generalize steepL C R X = ST at hS hSTl hSTm hST0 ⊢
      replace hS := hS.freeze .here (by omega)
      refine ⟨_, rfl, ?_⟩
      refine lw_v rfl rfl (ok_assign rfl (.n rfl) rfl) ?_
      refine lw_nil ?_
      refine Ends.keep [(2, .eq _), (3, .eq _), (9, .eq _), (10, .eq _), (12, .eq _), (13, .eq _), (34, .eq _), (35, .eq _), (36, .eq _), (45, .eq _), (46, .eq _)] (.cons rfl (.cons rfl (.cons rfl (.cons rfl (.cons rfl (.cons rfl (.cons rfl (.cons rfl (.cons rfl (.cons rfl (.cons rfl .nil))))))))))) ?_
      refine ends_then ?_
      refine cw_seq ?_
      refine cw_seq ?_
      -- region 9
      refine cw_region ?_
      refine lw_v rfl rfl (ok_move rfl (.n rfl) rfl) ?_
      refine lw_v rfl rfl (ok_len rfl (.n rfl) Try.underlying26 rfl) ?_
      refine lw_v rfl rfl (ok_eql rfl (.n rfl) rfl rfl) ?_
      refine lw_nil ?_
      refine Ends.keep [(2, .eq _), (3, .eq _), (9, .eq _), (10, .eq _), (12, .eq _), (13, .eq _), (34, .eq _), (35, .eq _), (36, .eq _), (45, .eq _), (46, .eq _), (54, .eq _)] (.cons rfl (.cons rfl (.cons rfl (.cons rfl (.cons rfl (.cons rfl (.cons rfl (.cons rfl (.cons rfl (.cons rfl (.cons rfl (.cons rfl .nil)))))))))))) ?_
      refine ends_then ?_
      refine cw_cond rfl (fun h54 => ?_) (fun h54 => ?_)
      ·
        have hnil : ST = [] := List.eq_nil_of_length_eq_zero (by have := of_decide_eq_true h54; omega)
        have hfl := hST0.1 hnil
        have hvX : validB C R X = true := (valid_iff hwf).2 ⟨hmX, hfl⟩
        refine cw_exit ?_
        refine then_exit (in_other rfl (then_exit (then_exit (in_exit (?_)))))
        refine Ends.keep [(2, .eq _), (3, .eq _), (9, .eq _), (10, .eq _), (12, .eq _), (34, .eq _), (35, .eq _), (36, .eq _)] (.cons rfl (.cons rfl (.cons rfl (.cons rfl (.cons rfl (.cons rfl (.cons rfl (.cons rfl .nil)))))))) ?_
        refine ends_then ?_
        refine cw_seq ?_
        -- region 15
        refine cw_region ?_
        refine lw_v rfl rfl (ok_ldS rfl (.n rfl) rfl Try.isAgg29 Try.sizeOf29 hS rfl) ?_
        refine lw_v rfl rfl (ok_move rfl (.n rfl) rfl) ?_
        refine lw_v rfl rfl (ok_move rfl (.n rfl) rfl) ?_
        refine lw_call (f := 35) (xs := [_, _, _]) rfl rfl rfl Try.call35 rfl (Calls.mono (f35g C q R X A6 c6 Ax cx _ hwf (hS.cs q) (hS.rd A6 (by omega)) (hS.rd Ax (by omega))) ?_)
        rintro e w' ⟨rfl, hg⟩
        replace hS := hS.grow hg; clear hg
        refine ⟨_, rfl, ?_⟩
        refine lw_v rfl rfl (ok_not rfl (.n rfl) rfl) ?_
        refine lw_nil ?_
        refine Ends.keep [(2, .eq _), (3, .eq _), (9, .eq _), (10, .eq _), (34, .eq _), (35, .eq _), (36, .eq _), (96, .eq _)] (.cons rfl (.cons rfl (.cons rfl (.cons rfl (.cons rfl (.cons rfl (.cons rfl (.cons rfl .nil)))))))) ?_
        refine ends_then ?_
        refine cw_cond rfl (fun h96 => ?_) (fun h96 => ?_)
        ·
          rw [hvX] at h96
          cases h96
        ·
          refine cw_skip ?_
          refine in_normal (?_)
          refine ends_then ?_
          -- region 17
          refine cw_region ?_
          refine lw_v rfl rfl (ok_addi rfl (.n rfl) rfl rfl (fun _ => ⟨by omega, by omega⟩)) ?_
          refine lw_v rfl rfl (ok_move rfl (.n rfl) rfl) ?_
          refine lw_nil ?_
          -- BACK
          exact ends_back (k + 1) (.cons rfl (.cons rfl (.cons rfl (.cons rfl (.cons rfl (.cons rfl (.cons rfl .nil))))))) (hres _ X hX hfl hS.tail) (by omega)
      ·
        have hp : 0 < ST.length := by have := of_decide_eq_false h54; omega
        obtain ⟨a, haM, hax, huS, hstp⟩ := hSTm _ (getD_memI (l := ST) (k := 0) hp)
        have ha' : ST.getD (0 : Int).toNat 0 = (a : Int) := hax
        have htN := (tail_at hwf haM).1
        obtain ⟨x, hx', hxN⟩ := head_at hwf haM
        have hx : C.Head.getD (a : Int).toNat 0 = (x : Int) := hx'
        have hstp2 : 1 < X.getD (tailOf C a) 0 - X.getD x 0 := by rw [hx'] at hstp; exact hstp
        have hXx := hX.rng x hxN
        have hXx2 : 0 ≤ X.getD (x : Int).toNat 0 ∧ X.getD (x : Int).toNat 0 ≤ C.N := hXx
        have hXu := hX.rng _ htN
        have huT : tailOf C a ≠ C.T := fun e => by rw [e, hX.t] at hstp2; omega
        refine cw_skip ?_
        refine ends_then ?_
        refine cw_seq ?_
        -- region 10
        refine cw_draw (by kernel_rfl) (List.take 9 _) (List.drop 9 _) (List.take_append_drop 9 _).symm (by kernel_rfl) ?_
        refine free_v (ok_ldS rfl (.n rfl) rfl Try.isAgg29 Try.sizeOf29 hS rfl) ?_
        refine free_v (ok_move rfl (.n rfl) rfl) ?_
        refine free_v (ok_ix rfl (.n rfl) Try.underlying26 Try.sizeOf3 rfl rfl hS (fun _ => ⟨by omega, by omega⟩)) ?_
        refine free_v (ok_eq (ok_ldx rfl (.n rfl) rfl Try.isAgg3 hS (fun _ => ⟨by omega, by omega⟩) (by rfl)) (c' := .int .i64 (a : Int)) (fun _ => congrArg (Value.int .i64) ha')) ?_
        refine free_cons (ok_callv (.tuple #[.int .i64 (tailOf C a), .bool true]) rfl rfl Try.call40 rfl (fun w' hg => f40 C q a w' hwf ((hS.grow hg).cs q) haM)) ?_
        refine free_v (ok_move rfl (.n rfl) rfl) ?_
        refine free_v (ok_extract rfl (.n rfl) rfl rfl) ?_
        refine free_v (ok_extract rfl (.n rfl) rfl rfl) ?_
        refine free_v (ok_assign rfl (.n rfl) rfl) ?_
        refine free_nil ?_
        intro w5 hg_; replace hS := hS.grow hg_; clear hg_
        refine lw_v rfl rfl (ok_assign rfl (.n rfl) rfl) ?_
        refine lw_nil ?_
        refine Ends.keep [(2, .eq _), (3, .eq _), (9, .eq _), (10, .eq _), (12, .eq _), (13, .eq _), (14, .eq _), (15, .eq _), (34, .eq _), (35, .eq _), (36, .eq _), (45, .eq _), (46, .eq _)] (.cons rfl (.cons rfl (.cons rfl (.cons rfl (.cons rfl (.cons rfl (.cons rfl (.cons rfl (.cons rfl (.cons rfl (.cons rfl (.cons rfl (.cons rfl .nil))))))))))))) ?_
        refine ends_then ?_
        refine cw_seq ?_
        refine cw_seq ?_
        -- region 11
        refine cw_region ?_
        refine lw_v rfl rfl (ok_move rfl (.n rfl) rfl) ?_
        refine lw_v rfl rfl (ok_not rfl (.n rfl) rfl) ?_
        refine lw_v rfl rfl (ok_move rfl (.n rfl) rfl) ?_
        refine lw_v rfl rfl (ok_move rfl (.s rfl rfl) rfl) ?_
        refine lw_v rfl rfl (ok_fb rfl (.s rfl rfl) Try.underlying29 rfl Try.sizeOf3 (by decide) rfl) ?_
        refine lw_v rfl rfl (ok_ldb rfl (.s rfl rfl) rfl Try.isAgg3 hS (by rfl)) ?_
        refine lw_v rfl rfl (ok_eql rfl (.s rfl rfl) rfl rfl) ?_
        refine lw_v rfl rfl (ok_or rfl rfl rfl rfl) ?_
        refine lw_v rfl rfl (ok_move rfl (.n rfl) rfl) ?_
        refine lw_v rfl rfl (ok_move rfl (.s rfl rfl) rfl) ?_
        refine lw_v rfl rfl (ok_fb rfl (.s rfl rfl) Try.underlying29 rfl Try.sizeOf3 (by decide) rfl) ?_
        refine lw_v rfl rfl (ok_ldb rfl (.s rfl rfl) rfl Try.isAgg3 hS (by rfl)) ?_
        refine lw_v rfl rfl (ok_eql rfl (.s rfl rfl) rfl rfl) ?_
        refine lw_v rfl rfl (ok_or rfl rfl rfl rfl) ?_
        refine lw_nil ?_
        refine Ends.keep [(2, .eq _), (3, .eq _), (9, .eq _), (10, .eq _), (12, .eq _), (13, .eq _), (14, .eq _), (34, .eq _), (35, .eq _), (36, .eq _), (45, .eq _), (46, .eq _), (76, .eq _)] (.cons rfl (.cons rfl (.cons rfl (.cons rfl (.cons rfl (.cons rfl (.cons rfl (.cons rfl (.cons rfl (.cons rfl (.cons rfl (.cons rfl (.cons rfl .nil))))))))))))) ?_
        refine ends_then ?_
        refine cw_cond rfl (fun h76 => ?_) (fun h76 => ?_)
        ·
          rw [decide_eq_false (by omega : ¬ ((tailOf C a : Nat) : Int) = (C.S : Int)), decide_eq_false (by omega : ¬ ((tailOf C a : Nat) : Int) = (C.T : Int))] at h76
          simp at h76
        ·
          refine cw_skip ?_
          refine ends_then ?_
          -- region 13
          refine cw_draw (by kernel_rfl) (List.take 13 _) (List.drop 13 _) (List.take_append_drop 13 _).symm (by kernel_rfl) ?_
          refine free_v (ok_move rfl (.n rfl) rfl) ?_
          refine free_v (ok_move rfl (.n rfl) rfl) ?_
          refine free_v (ok_move rfl (.n rfl) rfl) ?_
          refine free_v (ok_fb rfl (.n rfl) Try.underlying29 rfl Try.sizeOf26 (by decide) rfl) ?_
          refine free_v (ok_ldb rfl (.n rfl) rfl Try.isAgg26 hS (by rfl)) ?_
          refine free_v (ok_move rfl (.n rfl) rfl) ?_
          refine free_v (ok_ix rfl (.n rfl) Try.underlying26 Try.sizeOf3 rfl rfl hS (fun _ => ⟨by omega, by omega⟩)) ?_
          refine free_v (ok_eq (ok_ldx rfl (.n rfl) rfl Try.isAgg3 hS (fun _ => ⟨by omega, by omega⟩) (by rfl)) (c' := .int .i64 (a : Int)) (fun _ => congrArg (Value.int .i64) ha')) ?_
          refine free_v (ok_ix rfl (.n rfl) Try.underlying26 Try.sizeOf3 rfl rfl hS (fun _ => ⟨by omega, by omega⟩)) ?_
          refine free_v (ok_eq (ok_ldx rfl (.n rfl) rfl Try.isAgg3 hS (fun _ => ⟨by omega, by omega⟩) (by rfl)) (c' := .int .i64 (x : Int)) (fun _ => congrArg (Value.int .i64) hx)) ?_
          refine free_v (ok_ix rfl (.n rfl) Try.underlying26 Try.sizeOf3 rfl rfl hS (fun _ => ⟨by omega, by omega⟩)) ?_
          refine free_v (ok_ldx rfl (.n rfl) rfl Try.isAgg3 hS (fun _ => ⟨by omega, by omega⟩) (by rfl)) ?_
          refine free_v (ok_addi rfl (.n rfl) rfl rfl (fun _ => ⟨by omega, by omega⟩)) ?_
          refine free_nil ?_
          intro w6 hg_; replace hS := hS.grow hg_; clear hg_
          refine lw_v rfl rfl (ok_ix rfl (.n rfl) Try.underlying26 Try.sizeOf3 rfl rfl hS (fun _ => ⟨by omega, by omega⟩)) ?_
          refine lw_stx (enc := (eInt .i64)) (_) rfl rfl rfl rfl rfl rfl Try.sizeOf3 hS (⟨by omega, by omega⟩) ?_
          clear hS; intro w7 hS
          refine lw_nil ?_
          refine in_normal (?_)
          refine Ends.keep [(2, .eq _), (3, .eq _), (9, .eq _), (10, .eq _), (12, .eq _), (34, .eq _), (35, .eq _), (36, .eq _), (45, .eq _), (46, .eq _)] (.cons rfl (.cons rfl (.cons rfl (.cons rfl (.cons rfl (.cons rfl (.cons rfl (.cons rfl (.cons rfl (.cons rfl .nil)))))))))) ?_
          refine ends_then ?_
          -- region 14
          refine cw_region ?_
          refine lw_v rfl rfl (ok_addi rfl (.n rfl) rfl rfl (fun _ => ⟨by omega, by omega⟩)) ?_
          refine lw_v rfl rfl (ok_move rfl (.n rfl) rfl) ?_
          refine lw_nil ?_
          -- BACK
          have htl := tot_low hXl htN (z := X.getD x 0 + 1) (by omega) (by omega)
          exact ends_back (i + 1) (.cons rfl (.cons rfl (.cons rfl (.cons rfl (.cons rfl (.cons rfl (.cons rfl (.cons rfl (.cons rfl (.cons rfl .nil)))))))))) ⟨_, ⟨dec2_right hX htN hxN huS huT hstp2, show tot (X.set (tailOf C a) (X.getD x 0 + 1)) + (i + 1) ≤ K by omega⟩, hS.tail⟩ (by omega)
    ·
      exfalso
      have := of_decide_eq_false h47
      omega
  ·
    have hk2 : 2 ≤ k := by have := of_decide_eq_false h37; omega
    replace hfG := hfG (by omega)
    replace hfH := hfH hk2
    have hGl := hG.len
    have hHl := hH.len
    refine cw_exit ?_
    refine then_exit (then_exit (in_exit (?_)))
    refine Ends.keep [(2, .eq _), (3, .eq _), (9, .eq _), (10, .eq _)] (.cons rfl (.cons rfl (.cons rfl (.cons rfl .nil)))) ?_
    refine ends_then ?_
    refine cw_seq ?_
    -- region 18
    refine cw_draw4 (by kernel_rfl) (List.take 7 _) (List.drop 7 _) [false, false, true, false, false, true, true] (List.take_append_drop 7 _).symm (by kernel_rfl) (fun w' => St w.heap.size w w' [own eSl 1 26 A34 2 c34 [(A28, C.N, c28), (A31, C.N, c31)], own (eInt .i64) 1 3 A31 C.N c31 H, own (eInt .i64) 1 3 A28 C.N c28 G, bx b9 (csV C q).cells.toList 29, sl (eInt .i64) 1 A6 R.length c6 R, sl (eInt .i64) 1 q.a0 C.First.length q.c0 C.First, sl (eInt .i64) 1 q.a1 C.Head.length q.c1 C.Head, sl (eInt .i64) 1 q.a2 C.Rev.length q.c2 C.Rev, sl (eInt .i64) 1 q.a3 C.Cap.length q.c3 C.Cap, sl (eInt .i64) 1 q.a4 C.Arc.length q.c4 C.Arc, sl eBool 1 q.a5 C.Back.length q.c5 C.Back, sl (eInt .i64) 1 A3 h.length c3 h, sl (eInt .i64) 1 A2 g.length c2 g, sl (eInt .i64) 1 A1 l.length c1 l, sl eArc 3 A n.arcs.length c n.arcs]) (Ph2 w.heap.size w [own eSl 1 26 A34 2 c34 [(A28, C.N, c28), (A31, C.N, c31)], own (eInt .i64) 1 3 A31 C.N c31 H, own (eInt .i64) 1 3 A28 C.N c28 G, bx b9 (csV C q).cells.toList 29, sl (eInt .i64) 1 A6 R.length c6 R, sl (eInt .i64) 1 q.a0 C.First.length q.c0 C.First, sl (eInt .i64) 1 q.a1 C.Head.length q.c1 C.Head, sl (eInt .i64) 1 q.a2 C.Rev.length q.c2 C.Rev, sl (eInt .i64) 1 q.a3 C.Cap.length q.c3 C.Cap, sl (eInt .i64) 1 q.a4 C.Arc.length q.c4 C.Arc, sl eBool 1 q.a5 C.Back.length q.c5 C.Back, sl (eInt .i64) 1 A3 h.length c3 h, sl (eInt .i64) 1 A2 g.length c2 g, sl (eInt .i64) 1 A1 l.length c1 l, sl eArc 3 A n.arcs.length c n.arcs] C.N) (fun _ _ h => h.st) ⟨hS.drew, fun _ h => by cases h⟩ ?_
    refine free4_v (ok_each hS (fun w_ hS => ok_fb rfl (.n rfl) Try.underlying29 rfl Try.sizeOf3 (by decide) rfl)) rfl ?_
    refine free4_v (ok_each hS (fun w_ hS => ok_ldb rfl (.n rfl) rfl Try.isAgg3 hS (by rfl))) rfl ?_
    refine free4_w rfl ?_ ?_
    ·
      rintro vs wq hv0 _ ⟨hP, h6⟩
      cases hv9 : vs 5 with
      | none =>
        simp only [hv0, hv9] at hP
        refine lw_make (enc := (eInt .i64)) rfl rfl rfl Try.underlying26 info3 rfl rfl rfl rfl (by omega) (by omega) hP ?_
        intro A_ c_ w_ _ hS9
        refine lw_nil fun a ha _ hs => ⟨rfl, ha, ?_⟩
        have e1 : tm a 100 = _ := hs 100 _ rfl
        exact mk2_2 hv0 hv9 e1 h6 hS9
      | some v =>
        simp only [hv0, hv9] at hP
        obtain ⟨B_, d_, hv8, hP⟩ := hP
        refine lw_make (enc := (eInt .i64)) rfl rfl rfl Try.underlying26 info3 rfl rfl rfl rfl (by omega) (by omega) hP ?_
        intro A_ c_ w_ _ hS9
        refine lw_nil fun a ha _ hs => ⟨rfl, ha, ?_⟩
        have e1 : tm a 100 = _ := hs 100 _ rfl
        exact mk2_2b hv0 hv9 hv8 e1 h6 hS9
    refine free4_v (ok_each hS (fun w_ hS => ok_fb rfl (.n rfl) Try.underlying29 rfl Try.sizeOf3 (by decide) rfl)) rfl ?_
    refine free4_v (ok_each hS (fun w_ hS => ok_ldb rfl (.n rfl) rfl Try.isAgg3 hS (by rfl))) rfl ?_
    refine free4_w rfl ?_ ?_
    ·
      rintro vs wq hv0 _ ⟨hP, h6⟩
      cases hv9 : vs 2 with
      | none =>
        simp only [hv0, hv9] at hP
        refine lw_make (enc := (eInt .i64)) rfl rfl rfl Try.underlying26 info3 rfl rfl rfl rfl (by omega) (by omega) hP ?_
        intro A_ c_ w_ _ hS9
        refine lw_nil fun a ha _ hs => ⟨rfl, ha, ?_⟩
        have e1 : tm a 103 = _ := hs 103 _ rfl
        exact mk2_5 hv0 hv9 e1 h6 hS9
      | some v =>
        simp only [hv0, hv9] at hP
        obtain ⟨B_, d_, hv8, hP⟩ := hP
        refine lw_make (enc := (eInt .i64)) rfl rfl rfl Try.underlying26 info3 rfl rfl rfl rfl (by omega) (by omega) hP ?_
        intro A_ c_ w_ _ hS9
        refine lw_nil fun a ha _ hs => ⟨rfl, ha, ?_⟩
        have e1 : tm a 103 = _ := hs 103 _ rfl
        exact mk2_5b hv0 hv9 hv8 e1 h6 hS9
    refine free4_w rfl ?_ ?_
    ·
      rintro vs wq hv0 hnd hP
      obtain ⟨v, hv⟩ := Option.isSome_iff_exists.1 (hnd 2 100 (by decide) rfl rfl (by decide))
      rw [updV_same hv]
      refine lw_v rfl rfl (ok_assign rfl (.n rfl) rfl) ?_
      refine lw_nil fun a ha _ hs => ⟨rfl, ha, ?_⟩
      have e1 : tm a 16 = _ := hs 16 _ rfl
      exact as2 hP hv e1
    refine free4_nil ?_
    clear hS
    rintro f wq ⟨hP, h6⟩
    obtain ⟨A100, c100, A103, c103, hf2, hf5, hS⟩ := hP
    have hf6 : f 2 = f 6 := Option.some.inj (show some (f 2) = some (f 6) from h6 (f 6) rfl)
    rw [hf2] at hf6
    rw [fS3 hf2 hf5 hf6.symm]
    clear hf2 hf5 hf6 h6
    refine lw_v rfl rfl (ok_assign rfl (.n rfl) rfl) ?_
    refine lw_nil ?_
    refine Ends.keep [(2, .eq _), (3, .eq _), (9, .eq _), (10, .eq _), (16, .eq _), (17, .eq _)] (.cons rfl (.cons rfl (.cons rfl (.cons rfl (.cons rfl (.cons rfl .nil)))))) ?_
    refine ends_then ?_
    refine cw_seq ?_
    refine cw_seq ?_
    -- region 19
    refine cw_region ?_
    refine lw_v rfl rfl (ok_move rfl (.n rfl) rfl) ?_
    refine lw_v rfl rfl (ok_len rfl (.n rfl) Try.underlying26 rfl) ?_
    refine lw_v rfl rfl (ok_move rfl (.n rfl) rfl) ?_
    refine lw_nil ?_
    refine Ends.keep [(2, .eq _), (3, .eq _), (9, .eq _), (10, .eq _), (16, .eq _), (17, .eq _), (105, .eq _), (106, .eq _)] (.cons rfl (.cons rfl (.cons rfl (.cons rfl (.cons rfl (.cons rfl (.cons rfl (.cons rfl .nil)))))))) ?_
    refine ends_then ?_
    refine cw_block ?_
    -- LOOP at region 20: changed live slots [106], kept [2, 3, 9, 10, 16, 17, 105]
    refine cw_loop [(2, .eq _), (3, .eq _), (9, .eq _), (10, .eq _), (16, .eq _), (17, .eq _), (105, .eq _)] (fun k : Nat => [(106, .eq (.int .i64 k))]) (fun k w' => ∃ P Q : List Int, (k ≤ C.N ∧ P.length = C.N ∧ Q.length = C.N ∧ ∀ v, v < k → P.getD v 0 = (if H.getD v 0 < G.getD v 0 then H.getD v 0 else G.getD v 0) ∧ Q.getD v 0 = (if G.getD v 0 < H.getD v 0 then H.getD v 0 else G.getD v 0)) ∧ St w.heap.size w w' [own (eInt .i64) 1 3 A100 C.N c100 P, own (eInt .i64) 1 3 A103 C.N c103 Q, own eSl 1 26 A34 2 c34 [(A28, C.N, c28), (A31, C.N, c31)], own (eInt .i64) 1 3 A31 C.N c31 H, own (eInt .i64) 1 3 A28 C.N c28 G, bx b9 (csV C q).cells.toList 29, sl (eInt .i64) 1 A6 R.length c6 R, sl (eInt .i64) 1 q.a0 C.First.length q.c0 C.First, sl (eInt .i64) 1 q.a1 C.Head.length q.c1 C.Head, sl (eInt .i64) 1 q.a2 C.Rev.length q.c2 C.Rev, sl (eInt .i64) 1 q.a3 C.Cap.length q.c3 C.Cap, sl (eInt .i64) 1 q.a4 C.Arc.length q.c4 C.Arc, sl eBool 1 q.a5 C.Back.length q.c5 C.Back, sl (eInt .i64) 1 A3 h.length c3 h, sl (eInt .i64) 1 A2 g.length c2 g, sl (eInt .i64) 1 A1 l.length c1 l, sl eArc 3 A n.arcs.length c n.arcs]) (fun k => C.N - k) 0 (.cons rfl (.cons rfl (.cons rfl (.cons rfl (.cons rfl (.cons rfl (.cons rfl .nil))))))) (.cons rfl (.cons rfl (.cons rfl (.cons rfl (.cons rfl (.cons rfl (.cons rfl (.cons rfl .nil)))))))) ⟨_, _, ⟨Nat.zero_le _, by simp, by simp, fun v hv => absurd hv (Nat.not_lt_zero v)⟩, hS⟩ ?_
    clear hS
    rintro k wr ⟨P, Q, ⟨hk, hPl, hQl, hPQ⟩, hS⟩
    refine cw_seq ?_
    -- region 20
    refine cw_region ?_
    refine lw_v rfl rfl (ok_lss rfl (.n rfl) rfl rfl) ?_
    refine lw_nil ?_
    refine Ends.keep [(2, .eq _), (3, .eq _), (9, .eq _), (10, .eq _), (16, .eq _), (17, .eq _), (105, .eq _), (106, .eq _), (107, .eq _)] (.cons rfl (.cons rfl (.cons rfl (.cons rfl (.cons rfl (.cons rfl (.cons rfl (.cons rfl (.cons rfl .nil))))))))) ?_
    refine ends_then ?_
    refine cw_seq ?_
    refine cw_cond rfl (fun h107 => ?_) (fun h107 => ?_)
    ·
      have hkN : k < C.N := by have := of_decide_eq_true h107; omega
      refine cw_skip ?_
      refine ends_then ?_
      refine cw_seq ?_
      refine cw_block ?_
      refine cw_seq ?_
      -- region 21
      refine cw_region ?_
      refine lw_v rfl rfl (ok_move rfl (.n rfl) rfl) ?_
      refine lw_v rfl rfl (ok_assign rfl (.n rfl) rfl) ?_
      refine lw_nil ?_
      refine Ends.keep [(2, .eq _), (3, .eq _), (9, .eq _), (10, .eq _), (16, .eq _), (17, .eq _), (18, .eq _), (105, .eq _), (106, .eq _)] (.cons rfl (.cons rfl (.cons rfl (.cons rfl (.cons rfl (.cons rfl (.cons rfl (.cons rfl (.cons rfl .nil))))))))) ?_
      refine ends_then ?_
      -- region 22
      refine cw_draw2 (by kernel_rfl) (List.take 24 _) (List.drop 24 _) [false, false, false, false, false, false, false, false, false, false, false, false, false, false, false, false, false, false, false, false, false, false, false, true] (List.take_append_drop 24 _).symm (by kernel_rfl) (fun w' => ∃ xs, St w.heap.size w w' [own (eInt .i64) 1 3 A100 C.N c100 xs, own (eInt .i64) 1 3 A103 C.N c103 Q, own eSl 1 26 A34 2 c34 [(A28, C.N, c28), (A31, C.N, c31)], own (eInt .i64) 1 3 A31 C.N c31 H, own (eInt .i64) 1 3 A28 C.N c28 G, bx b9 (csV C q).cells.toList 29, sl (eInt .i64) 1 A6 R.length c6 R, sl (eInt .i64) 1 q.a0 C.First.length q.c0 C.First, sl (eInt .i64) 1 q.a1 C.Head.length q.c1 C.Head, sl (eInt .i64) 1 q.a2 C.Rev.length q.c2 C.Rev, sl (eInt .i64) 1 q.a3 C.Cap.length q.c3 C.Cap, sl (eInt .i64) 1 q.a4 C.Arc.length q.c4 C.Arc, sl eBool 1 q.a5 C.Back.length q.c5 C.Back, sl (eInt .i64) 1 A3 h.length c3 h, sl (eInt .i64) 1 A2 g.length c2 g, sl (eInt .i64) 1 A1 l.length c1 l, sl eArc 3 A n.arcs.length c n.arcs]) (fun vs w' => match vs with | [] => St w.heap.size w w' [own (eInt .i64) 1 3 A100 C.N c100 P, own (eInt .i64) 1 3 A103 C.N c103 Q, own eSl 1 26 A34 2 c34 [(A28, C.N, c28), (A31, C.N, c31)], own (eInt .i64) 1 3 A31 C.N c31 H, own (eInt .i64) 1 3 A28 C.N c28 G, bx b9 (csV C q).cells.toList 29, sl (eInt .i64) 1 A6 R.length c6 R, sl (eInt .i64) 1 q.a0 C.First.length q.c0 C.First, sl (eInt .i64) 1 q.a1 C.Head.length q.c1 C.Head, sl (eInt .i64) 1 q.a2 C.Rev.length q.c2 C.Rev, sl (eInt .i64) 1 q.a3 C.Cap.length q.c3 C.Cap, sl (eInt .i64) 1 q.a4 C.Arc.length q.c4 C.Arc, sl eBool 1 q.a5 C.Back.length q.c5 C.Back, sl (eInt .i64) 1 A3 h.length c3 h, sl (eInt .i64) 1 A2 g.length c2 g, sl (eInt .i64) 1 A1 l.length c1 l, sl eArc 3 A n.arcs.length c n.arcs] | [_] => St w.heap.size w w' [own (eInt .i64) 1 3 A100 C.N c100 (P.set (k : Int).toNat (if H.getD (k : Int).toNat 0 < G.getD (k : Int).toNat 0 then H.getD (k : Int).toNat 0 else G.getD (k : Int).toNat 0)), own (eInt .i64) 1 3 A103 C.N c103 Q, own eSl 1 26 A34 2 c34 [(A28, C.N, c28), (A31, C.N, c31)], own (eInt .i64) 1 3 A31 C.N c31 H, own (eInt .i64) 1 3 A28 C.N c28 G, bx b9 (csV C q).cells.toList 29, sl (eInt .i64) 1 A6 R.length c6 R, sl (eInt .i64) 1 q.a0 C.First.length q.c0 C.First, sl (eInt .i64) 1 q.a1 C.Head.length q.c1 C.Head, sl (eInt .i64) 1 q.a2 C.Rev.length q.c2 C.Rev, sl (eInt .i64) 1 q.a3 C.Cap.length q.c3 C.Cap, sl (eInt .i64) 1 q.a4 C.Arc.length q.c4 C.Arc, sl eBool 1 q.a5 C.Back.length q.c5 C.Back, sl (eInt .i64) 1 A3 h.length c3 h, sl (eInt .i64) 1 A2 g.length c2 g, sl (eInt .i64) 1 A1 l.length c1 l, sl eArc 3 A n.arcs.length c n.arcs] | _ => False) (fun vs w' h => match vs, h with | [], h => ⟨_, h⟩ | [_], h => ⟨_, h⟩) hS.drew ?_
      refine free2_v (ok_each ⟨_, hS⟩ (fun w_ ⟨xs, hS⟩ => ok_move rfl (.n rfl) rfl)) rfl ?_
      refine free2_v (ok_each ⟨_, hS⟩ (fun w_ ⟨xs, hS⟩ => ok_move rfl (.n rfl) rfl)) rfl ?_
      refine free2_v (ok_each ⟨_, hS⟩ (fun w_ ⟨xs, hS⟩ => ok_move rfl (.n rfl) rfl)) rfl ?_
      refine free2_v (ok_each ⟨_, hS⟩ (fun w_ ⟨xs, hS⟩ => ok_move rfl (.n rfl) rfl)) rfl ?_
      refine free2_v (ok_each ⟨_, hS⟩ (fun w_ ⟨xs, hS⟩ => ok_move rfl (.n rfl) rfl)) rfl ?_
      refine free2_v (ok_each ⟨_, hS⟩ (fun w_ ⟨xs, hS⟩ => ok_move rfl (.n rfl) rfl)) rfl ?_
      refine free2_v (ok_each ⟨_, hS⟩ (fun w_ ⟨xs, hS⟩ => ok_ix rfl (.n rfl) Try.underlying26 Try.sizeOf3 rfl rfl hS (fun _ => ⟨by omega, by omega⟩))) rfl ?_
      refine free2_v (ok_each ⟨_, hS⟩ (fun w_ ⟨xs, hS⟩ => ok_ldx rfl (.n rfl) rfl Try.isAgg3 hS (fun _ => ⟨by omega, by omega⟩) (by rfl))) rfl ?_
      refine free2_v (ok_each ⟨_, hS⟩ (fun w_ ⟨xs, hS⟩ => ok_move rfl (.n rfl) rfl)) rfl ?_
      refine free2_v (ok_each ⟨_, hS⟩ (fun w_ ⟨xs, hS⟩ => ok_move rfl (.n rfl) rfl)) rfl ?_
      refine free2_v (ok_each ⟨_, hS⟩ (fun w_ ⟨xs, hS⟩ => ok_ix rfl (.n rfl) Try.underlying26 Try.sizeOf3 rfl rfl hS (fun _ => ⟨by omega, by omega⟩))) rfl ?_
      refine free2_v (ok_each ⟨_, hS⟩ (fun w_ ⟨xs, hS⟩ => ok_ldx rfl (.n rfl) rfl Try.isAgg3 hS (fun _ => ⟨by omega, by omega⟩) (by rfl))) rfl ?_
      refine free2_v (ok_each ⟨_, hS⟩ (fun w_ ⟨xs, hS⟩ => ok_min2 rfl (.n rfl) rfl rfl)) rfl ?_
      refine free2_v (ok_each ⟨_, hS⟩ (fun w_ ⟨xs, hS⟩ => ok_move rfl (.n rfl) rfl)) rfl ?_
      refine free2_v (ok_each ⟨_, hS⟩ (fun w_ ⟨xs, hS⟩ => ok_move rfl (.n rfl) rfl)) rfl ?_
      refine free2_v (ok_each ⟨_, hS⟩ (fun w_ ⟨xs, hS⟩ => ok_ix rfl (.n rfl) Try.underlying26 Try.sizeOf3 rfl rfl hS (fun _ => ⟨by omega, by omega⟩))) rfl ?_
      refine free2_v (ok_each ⟨_, hS⟩ (fun w_ ⟨xs, hS⟩ => ok_ldx rfl (.n rfl) rfl Try.isAgg3 hS (fun _ => ⟨by omega, by omega⟩) (by rfl))) rfl ?_
      refine free2_v (ok_each ⟨_, hS⟩ (fun w_ ⟨xs, hS⟩ => ok_move rfl (.n rfl) rfl)) rfl ?_
      refine free2_v (ok_each ⟨_, hS⟩ (fun w_ ⟨xs, hS⟩ => ok_move rfl (.n rfl) rfl)) rfl ?_
      refine free2_v (ok_each ⟨_, hS⟩ (fun w_ ⟨xs, hS⟩ => ok_ix rfl (.n rfl) Try.underlying26 Try.sizeOf3 rfl rfl hS (fun _ => ⟨by omega, by omega⟩))) rfl ?_
      refine free2_v (ok_each ⟨_, hS⟩ (fun w_ ⟨xs, hS⟩ => ok_ldx rfl (.n rfl) rfl Try.isAgg3 hS (fun _ => ⟨by omega, by omega⟩) (by rfl))) rfl ?_
      refine free2_v (ok_each ⟨_, hS⟩ (fun w_ ⟨xs, hS⟩ => ok_max2 rfl (.n rfl) rfl rfl)) rfl ?_
      refine free2_v (ok_each ⟨_, hS⟩ (fun w_ ⟨xs, hS⟩ => ok_ix rfl (.n rfl) Try.underlying26 Try.sizeOf3 rfl rfl hS (fun _ => ⟨by omega, by omega⟩))) rfl ?_
      refine free2_w ?_ ?_
      ·
        intro vs wq hv hP
        obtain rfl : vs = [] := List.eq_nil_of_length_eq_zero hv
        have hS9 : St w.heap.size w wq [own (eInt .i64) 1 3 A100 C.N c100 P, own (eInt .i64) 1 3 A103 C.N c103 Q, own eSl 1 26 A34 2 c34 [(A28, C.N, c28), (A31, C.N, c31)], own (eInt .i64) 1 3 A31 C.N c31 H, own (eInt .i64) 1 3 A28 C.N c28 G, bx b9 (csV C q).cells.toList 29, sl (eInt .i64) 1 A6 R.length c6 R, sl (eInt .i64) 1 q.a0 C.First.length q.c0 C.First, sl (eInt .i64) 1 q.a1 C.Head.length q.c1 C.Head, sl (eInt .i64) 1 q.a2 C.Rev.length q.c2 C.Rev, sl (eInt .i64) 1 q.a3 C.Cap.length q.c3 C.Cap, sl (eInt .i64) 1 q.a4 C.Arc.length q.c4 C.Arc, sl eBool 1 q.a5 C.Back.length q.c5 C.Back, sl (eInt .i64) 1 A3 h.length c3 h, sl (eInt .i64) 1 A2 g.length c2 g, sl (eInt .i64) 1 A1 l.length c1 l, sl eArc 3 A n.arcs.length c n.arcs] := hP
        refine lw_stx (enc := (eInt .i64)) ((if H.getD (k : Int).toNat 0 < G.getD (k : Int).toNat 0 then H.getD (k : Int).toNat 0 else G.getD (k : Int).toNat 0)) rfl rfl rfl rfl rfl rfl Try.sizeOf3 hS9 ⟨by omega, by omega⟩ ?_
        intro w9 hS10
        exact lw_nil fun a ha _ _ => ⟨rfl, ha, hS10⟩
      refine free2_nil ?_
      clear hS
      intro vs wq hv hP
      obtain ⟨v0, rfl⟩ : ∃ v, vs = [v] := List.length_eq_one_iff.1 hv
      have hS : St w.heap.size w wq [own (eInt .i64) 1 3 A100 C.N c100 (P.set (k : Int).toNat (if H.getD (k : Int).toNat 0 < G.getD (k : Int).toNat 0 then H.getD (k : Int).toNat 0 else G.getD (k : Int).toNat 0)), own (eInt .i64) 1 3 A103 C.N c103 Q, own eSl 1 26 A34 2 c34 [(A28, C.N, c28), (A31, C.N, c31)], own (eInt .i64) 1 3 A31 C.N c31 H, own (eInt .i64) 1 3 A28 C.N c28 G, bx b9 (csV C q).cells.toList 29, sl (eInt .i64) 1 A6 R.length c6 R, sl (eInt .i64) 1 q.a0 C.First.length q.c0 C.First, sl (eInt .i64) 1 q.a1 C.Head.length q.c1 C.Head, sl (eInt .i64) 1 q.a2 C.Rev.length q.c2 C.Rev, sl (eInt .i64) 1 q.a3 C.Cap.length q.c3 C.Cap, sl (eInt .i64) 1 q.a4 C.Arc.length q.c4 C.Arc, sl eBool 1 q.a5 C.Back.length q.c5 C.Back, sl (eInt .i64) 1 A3 h.length c3 h, sl (eInt .i64) 1 A2 g.length c2 g, sl (eInt .i64) 1 A1 l.length c1 l, sl eArc 3 A n.arcs.length c n.arcs] := hP
      clear hP hv
      refine lw_v rfl rfl (ok_ix rfl (.n rfl) Try.underlying26 Try.sizeOf3 rfl rfl hS (fun _ => ⟨by omega, by omega⟩)) ?_
      refine lw_stx (enc := (eInt .i64)) (_) rfl rfl rfl rfl rfl rfl Try.sizeOf3 hS (⟨by omega, by omega⟩) ?_
      clear hS; intro w8 hS
      refine lw_nil ?_
      refine in_normal (?_)
      refine Ends.keep [(2, .eq _), (3, .eq _), (9, .eq _), (10, .eq _), (16, .eq _), (17, .eq _), (105, .eq _), (106, .eq _)] (.cons rfl (.cons rfl (.cons rfl (.cons rfl (.cons rfl (.cons rfl (.cons rfl (.cons rfl .nil)))))))) ?_
      refine ends_then ?_
      -- region 23
      refine cw_region ?_
      refine lw_v rfl rfl (ok_addi rfl (.n rfl) rfl rfl (fun _ => ⟨by omega, by omega⟩)) ?_
      refine lw_v rfl rfl (ok_move rfl (.n rfl) rfl) ?_
      refine lw_nil ?_
      -- BACK
      refine ends_back (k + 1) (.cons rfl (.cons rfl (.cons rfl (.cons rfl (.cons rfl (.cons rfl (.cons rfl (.cons rfl .nil)))))))) ⟨_, _, ⟨by omega, by rw [List.length_set]; exact hPl, by rw [List.length_set]; exact hQl, fun v hv => ?_⟩, hS⟩ (by omega)
      rw [set_get (by rw [hPl]; exact hkN), set_get (by rw [hQl]; exact hkN)]
      by_cases e : v = k
      · subst e; exact ⟨if_pos rfl, if_pos rfl⟩
      · exact ⟨(if_neg e).trans (hPQ v (by omega)).1, (if_neg e).trans (hPQ v (by omega)).2⟩
    ·
      have hke : k = C.N := by have := of_decide_eq_false h107; omega
      have hP := fun v (hv : v < C.N) => (hPQ v (by omega)).1
      have hQ := fun v (hv : v < C.N) => (hPQ v (by omega)).2
      have hvP : validB C R P = true := (valid_iff hwf).2 ⟨(may_iff hwf).2 ⟨hrlen, min_right hwf hG hH hPl hP⟩, min_flat hfG hfH hP⟩
      have hvQ : validB C R Q = true := (valid_iff hwf).2 ⟨(may_iff hwf).2 ⟨hrlen, max_right hwf hG hH hQl hQ⟩, max_flat hfG hfH hQ⟩
      have hr1 := sumB_rng hwf (min_right hwf hG hH hPl hP)
      have hr2 := sumB_rng hwf (max_right hwf hG hH hQl hQ)
      have hr3 := sumB_rng hwf hG
      have hr4 := sumB_rng hwf hH
      have hsum := sums hwf hG hH (min_right hwf hG hH hPl hP) (max_right hwf hG hH hQl hQ) hP hQ
      rw [← hK] at hr1 hr2 hr3 hr4
      refine cw_exit ?_
      refine then_exit (then_exit (in_exit (?_)))
      refine Ends.keep [(2, .eq _), (3, .eq _), (9, .eq _), (10, .eq _), (16, .eq _), (17, .eq _)] (.cons rfl (.cons rfl (.cons rfl (.cons rfl (.cons rfl (.cons rfl .nil)))))) ?_
      refine ends_then ?_
      refine cw_seq ?_
      -- region 24
      refine cw_draw (by kernel_rfl) (List.take 25 _) (List.drop 25 _) (List.take_append_drop 25 _).symm (by kernel_rfl) ?_
      refine free_v (ok_ldS rfl (.n rfl) rfl Try.isAgg29 Try.sizeOf29 hS rfl) ?_
      refine free_v (ok_move rfl (.n rfl) rfl) ?_
      refine free_v (ok_move rfl (.n rfl) rfl) ?_
      refine free_cons (ok_callv (.bool true) rfl rfl Try.call35 rfl (fun w' hg => by have h9 := f35g C q R P A6 c6 A100 c100 w' hwf ((hS.grow hg).cs q) ((hS.grow hg).rd A6 (by omega)) ((hS.grow hg).rd A100 (by omega)); rwa [hvP] at h9)) ?_
      refine free_v (ok_move rfl (.n rfl) rfl) ?_
      refine free_cons (ok_on (.s rfl rfl) rfl (by rfl) (OpV.ok (ok_ldS rfl (.n rfl) rfl Try.isAgg29 Try.sizeOf29 hS rfl))) ?_
      refine free_cons (ok_on (.s rfl rfl) rfl (by rfl) (OpV.ok (ok_move rfl (.n rfl) rfl))) ?_
      refine free_cons (ok_on (.s rfl rfl) rfl (by rfl) (OpV.ok (ok_move rfl (.n rfl) rfl))) ?_
      refine free_cons (ok_on (.s rfl rfl) rfl (by rfl) (ok_callv (.bool true) rfl rfl Try.call35 rfl (fun w' hg => by have h9 := f35g C q R Q A6 c6 A103 c103 w' hwf ((hS.grow hg).cs q) ((hS.grow hg).rd A6 (by omega)) ((hS.grow hg).rd A103 (by omega)); rwa [hvQ] at h9))) ?_
      refine free_v (ok_pick rfl rfl rfl rfl rfl) ?_
      refine free_v (ok_move rfl (.n rfl) rfl) ?_
      refine free_cons (ok_on (.s rfl rfl) rfl (by rfl) (OpV.ok (ok_ldS rfl (.n rfl) rfl Try.isAgg29 Try.sizeOf29 hS rfl))) ?_
      refine free_cons (ok_on (.s rfl rfl) rfl (by rfl) (OpV.ok (ok_move rfl (.n rfl) rfl))) ?_
      refine free_cons (ok_on (.s rfl rfl) rfl (by rfl) (ok_callv (.int .i64 (sumB C P)) rfl rfl Try.call37 rfl (fun w' hg => f37g C q P A100 c100 w' hwf ((hS.grow hg).rd A100 (by omega))))) ?_
      refine free_cons (ok_on (.s rfl rfl) rfl (by rfl) (OpV.ok (ok_ldS rfl (.n rfl) rfl Try.isAgg29 Try.sizeOf29 hS rfl))) ?_
      refine free_cons (ok_on (.s rfl rfl) rfl (by rfl) (OpV.ok (ok_move rfl (.n rfl) rfl))) ?_
      refine free_cons (ok_on (.s rfl rfl) rfl (by rfl) (ok_callv (.int .i64 (sumB C Q)) rfl rfl Try.call37 rfl (fun w' hg => f37g C q Q A103 c103 w' hwf ((hS.grow hg).rd A103 (by omega))))) ?_
      refine free_cons (ok_on (.s rfl rfl) rfl (by rfl) (OpV.ok (ok_addi rfl (.n rfl) rfl rfl (fun _ => ⟨by omega, by omega⟩)))) ?_
      refine free_cons (ok_on (.s rfl rfl) rfl (by rfl) (OpV.ok (ok_ldS rfl (.n rfl) rfl Try.isAgg29 Try.sizeOf29 hS rfl))) ?_
      refine free_cons (ok_on (.s rfl rfl) rfl (by rfl) (OpV.ok (ok_move rfl (.n rfl) rfl))) ?_
      refine free_cons (ok_on (.s rfl rfl) rfl (by rfl) (ok_callv (.int .i64 (sumB C G)) rfl rfl Try.call37 rfl (fun w' hg => f37g C q G A28 c28 w' hwf ((hS.grow hg).rd A28 (by omega))))) ?_
      refine free_cons (ok_on (.s rfl rfl) rfl (by rfl) (OpV.ok (ok_ldS rfl (.n rfl) rfl Try.isAgg29 Try.sizeOf29 hS rfl))) ?_
      refine free_cons (ok_on (.s rfl rfl) rfl (by rfl) (OpV.ok (ok_move rfl (.n rfl) rfl))) ?_
      refine free_cons (ok_on (.s rfl rfl) rfl (by rfl) (ok_callv (.int .i64 (sumB C H)) rfl rfl Try.call37 rfl (fun w' hg => f37g C q H A31 c31 w' hwf ((hS.grow hg).rd A31 (by omega))))) ?_
      refine free_cons (ok_on (.s rfl rfl) rfl (by rfl) (OpV.ok (ok_addi rfl (.n rfl) rfl rfl (fun _ => ⟨by omega, by omega⟩)))) ?_
      refine free_nil ?_
      intro w9 hg_; replace hS := hS.grow hg_; clear hg_
      refine lw_on (.s rfl rfl) rfl ?_
      refine lw_v rfl rfl (ok_eq (g := none) (ok_eql rfl (.n rfl) rfl rfl) (c' := .bool true) (fun _ => congrArg Value.bool (decide_eq_true hsum))) ?_
      refine lw_v rfl rfl (ok_pick rfl rfl rfl rfl rfl) ?_
      refine lw_v rfl rfl (ok_move rfl (.n rfl) rfl) ?_
      refine lw_on (.s rfl rfl) rfl ?_
      refine lw_call (f := 39) (xs := []) rfl rfl rfl Try.call39 rfl (Calls.mono (f39 _) ?_)
      rintro e w' ⟨rfl, hg⟩
      replace hS := hS.grow hg; clear hg
      refine ⟨_, rfl, ?_⟩
      refine lw_v rfl rfl (ok_pick rfl rfl rfl rfl rfl) ?_
      refine lw_v rfl rfl (ok_assign rfl (.n rfl) rfl) ?_
      refine lw_nil ?_
      refine Ends.keep [(8, .eq _)] (.cons rfl .nil) ?_
      refine ends_then ?_
      refine cw_ret ?_
      exact end_ret (res1 Try.results6 rfl) ⟨rfl, hS.below⟩

end Go.Proofs.Ytnpgeohkmdcbkaa.Aq
