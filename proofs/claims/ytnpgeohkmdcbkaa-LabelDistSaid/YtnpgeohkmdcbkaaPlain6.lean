/- Plain mathematics: the greatest numbers below given ones that fall by at most one along each edge. No condition but those that each lemma names. -/
import Derived.Test.YtnpgeohkmdcbkaaPlain3
namespace Go.Proofs.Ytnpgeohkmdcbkaa.Aq

/-- D holds, vertex by vertex, the greatest numbers below h that fall by at most one along the edges E. -/
structure Low (N : Nat) (E : Nat → Nat → Prop) (h : Nat → Int) (D : List Int) : Prop where
  len : D.length = N
  nn : ∀ v, v < N → 0 ≤ D.getD v 0
  le : ∀ v, v < N → D.getD v 0 ≤ h v
  ok : ∀ u w, u < N → w < N → E u w → D.getD u 0 ≤ D.getD w 0 + 1
  why : ∀ v, v < N → D.getD v 0 = h v ∨ ∃ w, w < N ∧ E v w ∧ D.getD v 0 = D.getD w 0 + 1

theorem Low.greatest {N : Nat} {E : Nat → Nat → Prop} {h x : Nat → Int} {D : List Int} (L : Low N E h D) (hx : ∀ v, v < N → x v ≤ h v)
    (ho : ∀ u w, u < N → w < N → E u w → x u ≤ x w + 1) : ∀ v, v < N → x v ≤ D.getD v 0 := by
  have key : ∀ n : Nat, ∀ v, v < N → D.getD v 0 ≤ n → x v ≤ D.getD v 0 := by
    intro n
    induction n with
    | zero =>
      intro v h1 hn
      rcases L.why v h1 with e | ⟨w, w1, _, e⟩
      · rw [e]; exact hx v h1
      · have := L.nn w w1; omega
    | succ n ih =>
      intro v h1 hn
      rcases L.why v h1 with e | ⟨w, w1, hE, e⟩
      · rw [e]; exact hx v h1
      · have a := ih w w1 (by omega)
        have b := ho v w h1 w1 hE
        omega
  intro v h1
  have := L.nn v h1
  exact key (D.getD v 0).toNat v h1 (by omega)

theorem Low.mono {N : Nat} {E E' : Nat → Nat → Prop} {h h' : Nat → Int} {D D' : List Int} (L : Low N E h D) (L' : Low N E' h' D') (hh : ∀ v, v < N → h v ≤ h' v)
    (hE : ∀ u w, u < N → w < N → E' u w → E u w) : ∀ v, v < N → D.getD v 0 ≤ D'.getD v 0 :=
  L'.greatest (x := fun v => D.getD v 0) (fun v a => Int.le_trans (L.le v a) (hh v a)) (fun u w a b e => L.ok u w a b (hE u w a b e))

theorem list_ext {N : Nat} {D D' : List Int} (h : D.length = N) (h' : D'.length = N) (e : ∀ v, v < N → D.getD v 0 = D'.getD v 0) : D = D' := by
  refine List.ext_getElem (by omega) fun i h1 h2 => ?_
  have := e i (by omega)
  simpa [List.getD_eq_getElem?_getD, h1, h2] using this

theorem Low.unique {N : Nat} {E E' : Nat → Nat → Prop} {h h' : Nat → Int} {D D' : List Int} (L : Low N E h D) (L' : Low N E' h' D') (hh : ∀ v, v < N → h v = h' v)
    (hE : ∀ u w, u < N → w < N → (E u w ↔ E' u w)) : D = D' :=
  list_ext L.len L'.len fun v a => by
    have p := L.mono L' (fun v a => by have := hh v a; omega) (fun u w a b e => (hE u w a b).2 e) v a
    have q := L'.mono L (fun v a => by have := hh v a; omega) (fun u w a b e => (hE u w a b).1 e) v a
    omega

/-- On the way there. -/
structure LowPre (N : Nat) (E : Nat → Nat → Prop) (h : Nat → Int) (D : List Int) : Prop where
  len : D.length = N
  nn : ∀ v, v < N → 0 ≤ D.getD v 0
  le : ∀ v, v < N → D.getD v 0 ≤ h v
  why : ∀ v, v < N → D.getD v 0 = h v ∨ ∃ w, w < N ∧ E v w ∧ D.getD w 0 + 1 ≤ D.getD v 0

theorem LowPre.low {N : Nat} {E : Nat → Nat → Prop} {h : Nat → Int} {D : List Int} (p : LowPre N E h D) (ok : ∀ u w, u < N → w < N → E u w → D.getD u 0 ≤ D.getD w 0 + 1) : Low N E h D :=
  ⟨p.len, p.nn, p.le, ok, fun v hv => (p.why v hv).imp id fun ⟨w, h1, h2, h3⟩ => ⟨w, h1, h2, by have := ok v w hv h1 h2; omega⟩⟩

theorem set_get {D : List Int} {u : Nat} {z : Int} (hu : u < D.length) (v : Nat) : (D.set u z).getD v 0 = if v = u then z else D.getD v 0 := by
  simp only [List.getD_eq_getElem?_getD, List.getElem?_set]
  by_cases h1 : u = v
  · subst h1; simp [hu]
  · simp [h1, Ne.symm h1]

/-- All together, as a count. -/
def tot (D : List Int) : Nat := (D.map Int.toNat).sum
theorem tot_set : ∀ {D : List Int} {u : Nat} {z : Int}, u < D.length → 0 ≤ z → z < D.getD u 0 → tot (D.set u z) < tot D
  | [], u, z, h, _, _ => by simp at h
  | x :: D, 0, z, _, h0, h1 => by
    simp only [List.getD_cons_zero] at h1
    simp only [tot, List.set_cons_zero, List.map_cons, List.sum_cons]
    omega
  | x :: D, u + 1, z, h, h0, h1 => by
    have := tot_set (D := D) (u := u) (z := z) (by simpa using h) h0 (by simpa using h1)
    simp only [tot, List.set_cons_succ, List.map_cons, List.sum_cons] at this ⊢
    omega
theorem tot_le {N : Nat} {b : Nat} : ∀ {D : List Int}, D.length = N → (∀ v, v < N → D.getD v 0 ≤ b) → tot D ≤ N * b := by
  induction N with
  | zero => intro D h _; have := List.eq_nil_of_length_eq_zero h; subst this; simp [tot]
  | succ N ih =>
    intro D h hb
    match D, h with
    | x :: D, h =>
      have h1 := ih (D := D) (by simpa using h) fun v hv => by simpa using hb (v + 1) (by omega)
      have h2 := hb 0 (by omega)
      simp only [List.getD_cons_zero] at h2
      simp only [tot, List.map_cons, List.sum_cons] at h1 ⊢
      rw [Nat.add_mul]
      omega

theorem LowPre.step {N : Nat} {E : Nat → Nat → Prop} {h : Nat → Int} {D : List Int} (p : LowPre N E h D) {u w : Nat} (hu : u < N) (hw : w < N) (he : E u w) (hlt : D.getD w 0 + 1 < D.getD u 0) :
    LowPre N E h (D.set u (D.getD w 0 + 1)) := by
  have hl := p.len
  have hne : w ≠ u := fun e => by subst e; omega
  have get := fun v => set_get (D := D) (u := u) (z := D.getD w 0 + 1) (by omega) v
  have dn : ∀ v, (D.set u (D.getD w 0 + 1)).getD v 0 ≤ D.getD v 0 := fun v => by
    rw [get v]; split
    · rename_i e; subst e; omega
    · exact Int.le_refl _
  refine ⟨by rw [List.length_set]; exact hl, fun v hv => ?_, fun v hv => Int.le_trans (dn v) (p.le v hv), fun v hv => ?_⟩
  · rw [get v]; split
    · have := p.nn w hw; omega
    · exact p.nn v hv
  · by_cases h1 : v = u
    · subst h1
      refine .inr ⟨w, hw, he, ?_⟩
      rw [get w, get v, if_neg hne, if_pos rfl]
      exact Int.le_refl _
    · rcases p.why v hv with e | ⟨x, h3, h4, h5⟩
      · left; rw [get v, if_neg h1]; exact e
      · refine .inr ⟨x, h3, h4, ?_⟩
        have := dn x
        rw [get v, if_neg h1]
        omega

theorem low_from {N : Nat} {E : Nat → Nat → Prop} {h : Nat → Int} : ∀ (m : Nat) (D : List Int), tot D ≤ m → LowPre N E h D → ∃ D', Low N E h D' := by
  intro m
  induction m with
  | zero =>
    intro D hm p
    refine ⟨D, p.low fun u w hu hw he => ?_⟩
    rcases Int.lt_or_le (D.getD w 0 + 1) (D.getD u 0) with hlt | hle
    · have := tot_set (D := D) (u := u) (z := D.getD w 0 + 1) (by rw [p.len]; exact hu) (by have := p.nn w hw; omega) hlt
      omega
    · exact hle
  | succ m ih =>
    intro D hm p
    by_cases hex : ∃ u w, u < N ∧ w < N ∧ E u w ∧ D.getD w 0 + 1 < D.getD u 0
    · obtain ⟨u, w, hu, hw, he, hlt⟩ := hex
      have := tot_set (D := D) (u := u) (z := D.getD w 0 + 1) (by rw [p.len]; exact hu) (by have := p.nn w hw; omega) hlt
      exact ih _ (by omega) (p.step hu hw he hlt)
    · refine ⟨D, p.low fun u w hu hw he => ?_⟩
      rcases Int.lt_or_le (D.getD w 0 + 1) (D.getD u 0) with hlt | hle
      · exact absurd ⟨u, w, hu, hw, he, hlt⟩ hex
      · exact hle

theorem LowPre.start {N : Nat} {E : Nat → Nat → Prop} {h : Nat → Int} {D : List Int} (hl : D.length = N) (h0 : ∀ v, v < N → D.getD v 0 = h v) (hn : ∀ v, v < N → 0 ≤ h v) : LowPre N E h D :=
  ⟨hl, fun v hv => by rw [h0 v hv]; exact hn v hv, fun v hv => by rw [h0 v hv]; exact Int.le_refl _, fun v hv => .inl (h0 v hv)⟩

theorem low_ex {N : Nat} (E : Nat → Nat → Prop) {h : Nat → Int} (hn : ∀ v, v < N → 0 ≤ h v) : ∃ D, Low N E h D :=
  low_from (tot ((List.range N).map h)) ((List.range N).map h) (Nat.le_refl _) (LowPre.start (by simp) (fun v hv => by simp [List.getD_eq_getElem?_getD, hv]) hn)

/-- These numbers. -/
noncomputable def lowL (N : Nat) (E : Nat → Nat → Prop) (h : Nat → Int) : List Int := Classical.epsilon fun D => Low N E h D
theorem lowL_low {N : Nat} (E : Nat → Nat → Prop) {h : Nat → Int} (hn : ∀ v, v < N → 0 ≤ h v) : Low N E h (lowL N E h) := Classical.epsilon_spec (low_ex E hn)
theorem lowL_eq {N : Nat} {E : Nat → Nat → Prop} {h : Nat → Int} {D : List Int} (L : Low N E h D) : lowL N E h = D :=
  (Classical.epsilon_spec (p := fun D => Low N E h D) ⟨D, L⟩).unique L (fun _ _ => rfl) fun _ _ _ _ => Iff.rfl

/-! ### Edges of a row -/
/-- An open arc leads from u to w. -/
def Edge (c : Cs) (res : List Int) (u w : Nat) : Prop := ∃ a, a < c.Head.length ∧ tailOf c a = u ∧ (c.Head.getD a 0).toNat = w ∧ 0 < res.getD a 0
/-- N everywhere, but 0 at t. -/
def hTo (N t : Nat) (v : Nat) : Int := if v = t then 0 else N
theorem hTo_nn (N t : Nat) (v : Nat) (_ : v < N) : 0 ≤ hTo N t v := by unfold hTo; split <;> omega
/-- Has res a number for each arc, and is v a vertex? -/
def inB (c : Cs) (res : List Int) (v : Int) : Bool := decide ((res.length : Int) = c.Head.length) && decide (0 ≤ v) && decide (v < c.N)
noncomputable def toL (c : Cs) (res : List Int) (t : Int) : List Int := if inB c res t = true then lowL c.N (Edge c res) (hTo c.N t.toNat) else []
noncomputable def fromL (c : Cs) (res : List Int) (s : Int) : List Int := if inB c res s = true then lowL c.N (fun u w => Edge c res w u) (hTo c.N s.toNat) else []
/-- An open arc that does not begin at S. -/
def EdgeS (c : Cs) (res : List Int) (u w : Nat) : Prop := u ≠ c.S ∧ Edge c res u w
noncomputable def lowerL (c : Cs) (res h : List Int) : List Int := if mayB c res h = true then lowL c.N (EdgeS c res) (fun v => h.getD v 0) else []
noncomputable def exactL (c : Cs) (res : List Int) : List Int := lowL c.N (EdgeS c res) (hTo c.N c.T)

theorem inB_iff {c : Cs} {res : List Int} {v : Int} : inB c res v = true ↔ res.length = c.Head.length ∧ 0 ≤ v ∧ v < c.N := by
  unfold inB
  rw [Bool.and_eq_true, Bool.and_eq_true, decide_eq_true_eq, decide_eq_true_eq, decide_eq_true_eq]
  omega
theorem toL_low {c : Cs} {res : List Int} {t : Int} (h : inB c res t = true) : Low c.N (Edge c res) (hTo c.N t.toNat) (toL c res t) := by
  unfold toL; rw [if_pos h]; exact lowL_low _ (hTo_nn _ _)
theorem fromL_low {c : Cs} {res : List Int} {t : Int} (h : inB c res t = true) : Low c.N (fun u w => Edge c res w u) (hTo c.N t.toNat) (fromL c res t) := by
  unfold fromL; rw [if_pos h]; exact lowL_low _ (hTo_nn _ _)
theorem exactL_low (c : Cs) (res : List Int) : Low c.N (EdgeS c res) (hTo c.N c.T) (exactL c res) := lowL_low _ (hTo_nn _ _)
theorem lowerL_low {c : Cs} (hw : WF c) {res h : List Int} (hm : mayB c res h = true) : Low c.N (EdgeS c res) (fun v => h.getD v 0) (lowerL c res h) := by
  unfold lowerL; rw [if_pos hm]; exact lowL_low _ fun v hv => (((may_iff hw).1 hm).2.rng v hv).1
theorem toL_no {c : Cs} {res : List Int} {t : Int} (h : inB c res t = false) : toL c res t = [] := by unfold toL; rw [if_neg (by rw [h]; decide)]
theorem fromL_no {c : Cs} {res : List Int} {t : Int} (h : inB c res t = false) : fromL c res t = [] := by unfold fromL; rw [if_neg (by rw [h]; decide)]
theorem toL_eq {c : Cs} {res : List Int} {t : Int} {D : List Int} (h : inB c res t = true) (L : Low c.N (Edge c res) (hTo c.N t.toNat) D) : toL c res t = D := by unfold toL; rw [if_pos h]; exact lowL_eq L
theorem fromL_eq {c : Cs} {res : List Int} {t : Int} {D : List Int} (h : inB c res t = true) (L : Low c.N (fun u w => Edge c res w u) (hTo c.N t.toNat) D) : fromL c res t = D := by unfold fromL; rw [if_pos h]; exact lowL_eq L
theorem lowerL_eq {c : Cs} {res h D : List Int} (hm : mayB c res h = true) (L : Low c.N (EdgeS c res) (fun v => h.getD v 0) D) : lowerL c res h = D := by unfold lowerL; rw [if_pos hm]; exact lowL_eq L
theorem lowerL_no {c : Cs} {res h : List Int} (hm : mayB c res h = false) : lowerL c res h = [] := by unfold lowerL; rw [if_neg (by rw [hm]; decide)]

/-- The edges of a vertex, by its own arcs. -/
theorem edge_seg {c : Cs} (hw : WF c) {res : List Int} {u w : Nat} (hu : u < c.N) : Edge c res u w ↔ ∃ a : Nat, c.First.getD u 0 ≤ a ∧ (a : Int) < c.First.getD (u + 1) 0 ∧ (c.Head.getD a 0).toNat = w ∧ 0 < res.getD a 0 := by
  constructor
  · rintro ⟨a, h1, rfl, h3, h4⟩
    obtain ⟨_, h5, h6⟩ := tail_at hw h1
    exact ⟨a, h5, h6, h3, h4⟩
  · rintro ⟨a, h1, h2, h3, h4⟩
    have hle := first_mono hw (show u + 1 ≤ c.N by omega) (Nat.le_refl _)
    rw [hw.fN] at hle
    exact ⟨a, by omega, tail_eq hw hu h1 h2, h3, h4⟩
/-- The edges into a vertex, by the arcs back. -/
theorem edge_rev {c : Cs} (hw : WF c) {res : List Int} {u w : Nat} (hu : u < c.N) (hww : w < c.N) : Edge c res w u ↔ ∃ a : Nat, c.First.getD u 0 ≤ a ∧ (a : Int) < c.First.getD (u + 1) 0 ∧ (c.Head.getD a 0).toNat = w ∧ 0 < res.getD (c.Rev.getD a 0).toNat 0 := by
  constructor
  · rintro ⟨a, h1, h2, h3, h4⟩
    obtain ⟨h5, h6, h7⟩ := tail_at hw h1
    rw [h2] at h6 h7
    obtain ⟨h8, h9, h10, _⟩ := hw.tl w a hww h1 h6 h7
    have hrv := hw.rv a h1
    rw [h3] at h8 h9
    refine ⟨(c.Rev.getD a 0).toNat, by omega, by omega, by rw [h10]; simp, ?_⟩
    rw [hw.rr a h1]
    simpa using h4
  · rintro ⟨a, h1, h2, h3, h4⟩
    have hle := first_mono hw (show u + 1 ≤ c.N by omega) (Nat.le_refl _)
    rw [hw.fN] at hle
    have ha : a < c.Head.length := by omega
    obtain ⟨h8, h9, h10, _⟩ := hw.tl u a hu ha h1 h2
    have hrv := hw.rv a ha
    rw [h3] at h8 h9
    exact ⟨(c.Rev.getD a 0).toNat, by omega, tail_eq hw hww (by omega) (by omega), by rw [h10]; simp, h4⟩
end Go.Proofs.Ytnpgeohkmdcbkaa.Aq
