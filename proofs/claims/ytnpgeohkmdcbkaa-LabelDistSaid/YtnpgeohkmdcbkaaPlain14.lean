/- Plain mathematics: heights and steps. No condition but those that each lemma names. -/
import Derived.Test.YtnpgeohkmdcbkaaPlain10
import Derived.Test.YtnpgeohkmdcbkaaPlain5
namespace Go.Proofs.Ytnpgeohkmdcbkaa.Aq

/-- Along no arc but those of S do they fall by more than one. -/
def Flatly (c : Cs) (res h : List Int) : Prop := ∀ u w, u < c.N → w < c.N → EdgeS c res u w → h.getD u 0 ≤ h.getD w 0 + 1
theorem steep_none {c : Cs} (hw : WF c) {res h : List Int} (hm : mayB c res h = true) : steepL c res h = [] ↔ Flatly c res h := by
  rw [List.eq_nil_iff_forall_not_mem]
  constructor
  · rintro hn u w hu hww ⟨hus, a, h1, h2, h3, h4⟩
    have h5 := hn (a : Int)
    rw [steepL, mem_down hm h1] at h5
    rcases Int.lt_or_le (h.getD w 0 + 1) (h.getD u 0) with h6 | h6
    · refine absurd ?_ h5
      unfold downP
      rw [h2, h3, decide_eq_false (by omega : ¬ (u : Int) = c.S), decide_eq_true h4, show ((fun k : Int => decide (1 < k)) (h.getD u 0 - h.getD w 0)) = true from decide_eq_true (by omega)]
      rfl
    · exact h6
  · intro hf x hx
    obtain ⟨h0, h1⟩ := downL_rng hx
    obtain ⟨a, rfl⟩ : ∃ a : Nat, x = a := ⟨x.toNat, by omega⟩
    have ha : a < c.Head.length := by omega
    rw [steepL, mem_down hm ha] at hx
    unfold downP at hx
    rw [Bool.and_eq_true, Bool.and_eq_true, Bool.not_eq_true', decide_eq_false_iff_not, decide_eq_true_eq, decide_eq_true_eq] at hx
    have hh := hw.hd a ha
    have ht := tail_at hw ha
    have := hf (tailOf c a) (c.Head.getD a 0).toNat ht.1 (by omega) ⟨by omega, a, ha, rfl, rfl, hx.1.2⟩
    omega
theorem valid_iff {c : Cs} (hw : WF c) {res h : List Int} : validB c res h = true ↔ mayB c res h = true ∧ Flatly c res h := by
  unfold validB
  rw [Bool.and_eq_true, decide_eq_true_eq]
  constructor
  · rintro ⟨h1, h2⟩
    exact ⟨h1, (steep_none hw h1).1 (List.eq_nil_of_length_eq_zero (by omega))⟩
  · rintro ⟨h1, h2⟩
    exact ⟨h1, by rw [(steep_none hw h1).2 h2]; rfl⟩
/-- Exact heights are heights. -/
theorem low_right {c : Cs} (hw : WF c) {res h D : List Int} (hr : RightH c h) (L : Low c.N (EdgeS c res) (fun v => h.getD v 0) D) : RightH c D := by
  refine ⟨L.len, fun v hv => ⟨L.nn v hv, Int.le_trans (L.le v hv) (hr.rng v hv).2⟩, ?_, ?_⟩
  · have h1 := L.le c.T hw.t
    have h2 := L.nn c.T hw.t
    have h3 := hr.t
    omega
  · rcases L.why c.S hw.s with e | ⟨w, _, ⟨hne, _⟩, _⟩
    · exact e.trans hr.s
    · exact absurd rfl hne
theorem top_right {c : Cs} (hw : WF c) {h : List Int} (hl : h.length = c.N) (hh : ∀ v, v < c.N → h.getD v 0 = hTo c.N c.T v) : RightH c h := by
  refine ⟨hl, fun v hv => ?_, ?_, ?_⟩
  · rw [hh v hv]; unfold hTo; split <;> omega
  · rw [hh c.T hw.t]; unfold hTo; rw [if_pos rfl]
  · rw [hh c.S hw.s]; unfold hTo; rw [if_neg hw.ne]
theorem low_congr {N : Nat} {E E' : Nat → Nat → Prop} {h h' : Nat → Int} {D : List Int} (L : Low N E h D) (hh : ∀ v, v < N → h v = h' v) (hE : ∀ u w, u < N → w < N → (E u w ↔ E' u w)) : Low N E' h' D :=
  ⟨L.len, L.nn, fun v hv => by rw [← hh v hv]; exact L.le v hv, fun u w hu hw he => L.ok u w hu hw ((hE u w hu hw).2 he), fun v hv => (L.why v hv).elim (fun e => .inl (e.trans (hh v hv))) fun ⟨w, h1, h2, h3⟩ => .inr ⟨w, h1, (hE v w hv h1).1 h2, h3⟩⟩
theorem exact_right {c : Cs} (hw : WF c) {res D : List Int} (L : Low c.N (EdgeS c res) (hTo c.N c.T) D) : RightH c D := by
  have e : ∀ v, v < c.N → hTo c.N c.T v = ((List.range c.N).map (hTo c.N c.T)).getD v 0 := fun v hv => by simp [List.getD_eq_getElem?_getD, hv]
  exact low_right hw (top_right hw (by simp) fun v hv => (e v hv).symm) (low_congr L e fun _ _ _ _ => Iff.rfl)
theorem low_flatly {c : Cs} {res D : List Int} {h : Nat → Int} (L : Low c.N (EdgeS c res) h D) : Flatly c res D := fun u w hu hw he => L.ok u w hu hw he
/-- The arcs of S shut. -/
theorem edge_shut {c : Cs} (hw : WF c) {res out : List Int} (h : ∀ a : Nat, out.getD a 0 = if c.First.getD c.S 0 ≤ (a : Int) ∧ (a : Int) < c.First.getD (c.S + 1) 0 then 0 else res.getD a 0) {u w : Nat} : Edge c out u w ↔ EdgeS c res u w := by
  constructor
  · rintro ⟨a, h1, h2, h3, h4⟩
    rw [h a] at h4
    split at h4
    · omega
    · rename_i h5
      refine ⟨fun e => h5 ?_, a, h1, h2, h3, h4⟩
      have ht := tail_at hw h1
      rw [h2, e] at ht
      exact ht.2
  · rintro ⟨hne, a, h1, h2, h3, h4⟩
    refine ⟨a, h1, h2, h3, ?_⟩
    rw [h a, if_neg]
    · exact h4
    · rintro ⟨h5, h6⟩
      exact hne (h2.symm.trans (tail_eq hw hw.s h5 h6))
theorem set_same {D : List Int} {u : Nat} {z : Int} (h : D.getD u 0 = z) (hu : u < D.length) : D.set u z = D := by
  refine List.ext_getElem (by simp) fun i h1 h2 => ?_
  rw [List.getElem_set]
  split
  · rename_i e; subst e
    rw [List.getD_eq_getElem?_getD, List.getElem?_eq_getElem hu, Option.getD_some] at h
    exact h.symm
  · rfl
end Go.Proofs.Ytnpgeohkmdcbkaa.Aq
