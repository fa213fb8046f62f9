/- Plain mathematics of a row: where an arc begins. -/
import Derived.Test.YtnpgeohkmdcbkaaPlain1
namespace Go.Proofs.Ytnpgeohkmdcbkaa.Aq

/-- The vertex that a residual arc begins at. -/
def tailOf (c : Cs) (a : Nat) : Nat := ((List.range c.N).find? fun v => decide (c.First.getD v 0 ≤ a) && decide ((a : Int) < c.First.getD (v + 1) 0)).getD 0

theorem first_mono {c : Cs} (h : WF c) {u : Nat} : ∀ {v : Nat}, u ≤ v → v ≤ c.N → c.First.getD u 0 ≤ c.First.getD v 0
  | 0, h1, _ => by have : u = 0 := by omega
                   subst this; exact Int.le_refl _
  | v + 1, h1, h2 => by
    rcases Nat.lt_or_ge v u with h3 | h3
    · have : u = v + 1 := by omega
      subst this; exact Int.le_refl _
    · have := first_mono h h3 (by omega)
      have := h.fm v (by omega)
      omega
theorem tail_eq {c : Cs} (h : WF c) {a v : Nat} (hv : v < c.N) (h1 : c.First.getD v 0 ≤ a) (h2 : (a : Int) < c.First.getD (v + 1) 0) : tailOf c a = v := by
  unfold tailOf
  have : (List.range c.N).find? (fun v => decide (c.First.getD v 0 ≤ a) && decide ((a : Int) < c.First.getD (v + 1) 0)) = some v := by
    rw [List.find?_range_eq_some]
    refine ⟨by rw [Bool.and_eq_true, decide_eq_true_eq, decide_eq_true_eq]; exact ⟨h1, h2⟩, by simpa using hv, fun j hj => ?_⟩
    have := first_mono h (show j + 1 ≤ v from hj) (by omega)
    simp only [Bool.not_eq_true', Bool.and_eq_false_iff, decide_eq_false_iff_not]
    right
    omega
  rw [this]
  rfl
theorem tail_ex {c : Cs} (h : WF c) {a : Nat} (ha : a < c.Head.length) : ∃ v, v < c.N ∧ c.First.getD v 0 ≤ a ∧ (a : Int) < c.First.getD (v + 1) 0 := by
  have key : ∀ m, m ≤ c.N → (a : Int) < c.First.getD m 0 → ∃ v, v < m ∧ c.First.getD v 0 ≤ a ∧ (a : Int) < c.First.getD (v + 1) 0 := by
    intro m
    induction m with
    | zero => intro _ h1; have := h.f0; omega
    | succ m ih =>
      intro hm h1
      rcases Int.lt_or_le (a : Int) (c.First.getD m 0) with h2 | h2
      · obtain ⟨v, h3, h4⟩ := ih (by omega) h2
        exact ⟨v, by omega, h4⟩
      · exact ⟨m, by omega, h2, h1⟩
  obtain ⟨v, h3, h4⟩ := key c.N (Nat.le_refl _) (by have := h.fN; omega)
  exact ⟨v, h3, h4⟩
/-- What is known of where an arc begins. -/
theorem tail_at {c : Cs} (h : WF c) {a : Nat} (ha : a < c.Head.length) : tailOf c a < c.N ∧ c.First.getD (tailOf c a) 0 ≤ a ∧ (a : Int) < c.First.getD (tailOf c a + 1) 0 := by
  obtain ⟨v, h1, h2, h3⟩ := tail_ex h ha
  rw [tail_eq h h1 h2 h3]
  exact ⟨h1, h2, h3⟩
theorem tail_found {c : Cs} (h : WF c) {a i : Nat} (ha : a < c.Head.length) (h1 : i ≤ c.First.length) (h2 : 0 < i → decide ((a : Int) + 1 ≤ c.First.getD (i - 1) 0) = false) (h3 : i < c.First.length → decide ((a : Int) + 1 ≤ c.First.getD i 0) = true) : (i : Int) - 1 = (tailOf c a : Int) := by
  have hfl := h.fl
  have h0 : 0 < i := by
    rcases Nat.eq_zero_or_pos i with rfl | hp
    · have := of_decide_eq_true (h3 (by omega))
      have := h.f0
      omega
    · exact hp
  have h4 := of_decide_eq_false (h2 h0)
  have hi : i ≤ c.N := by
    rcases Nat.lt_or_ge c.N i with hlt | hge
    · have : i - 1 = c.N := by omega
      rw [this, h.fN] at h4
      omega
    · exact hge
  have h5 := of_decide_eq_true (h3 (by omega))
  rw [tail_eq h (v := i - 1) (by omega) (by omega) (by rw [show i - 1 + 1 = i by omega]; omega)]
  omega
end Go.Proofs.Ytnpgeohkmdcbkaa.Aq
