/- Plain mathematics: a shortest row. No condition but those that each lemma names. -/
import Derived.Test.YtnpgeohkmdcbkaaPlain10
namespace Go.Proofs.Ytnpgeohkmdcbkaa.Aq

/-- An open arc of u that leads nearer. -/
def PN (c : Cs) (res D : List Int) (u b : Nat) : Prop := c.First.getD u 0 ≤ (b : Int) ∧ (b : Int) < c.First.getD (u + 1) 0 ∧ 0 < res.getD b 0 ∧ D.getD (c.Head.getD b 0).toNat 0 < D.getD u 0
/-- The first one. -/
def NearR (c : Cs) (res D : List Int) (u a : Nat) : Prop := PN c res D u a ∧ ∀ b, b < a → ¬ PN c res D u b
theorem near_unique {c : Cs} {res D : List Int} {u a b : Nat} (h : NearR c res D u a) (k : NearR c res D u b) : a = b := by
  rcases Nat.lt_trichotomy a b with h1 | h1 | h1
  · exact absurd h.1 (k.2 a h1)
  · exact h1
  · exact absurd k.1 (h.2 b h1)
noncomputable def nearA (c : Cs) (res D : List Int) (u : Nat) : Nat := Classical.epsilon fun a => NearR c res D u a
theorem nearA_eq {c : Cs} {res D : List Int} {u a : Nat} (h : NearR c res D u a) : nearA c res D u = a := near_unique (Classical.epsilon_spec (p := fun a => NearR c res D u a) ⟨a, h⟩) h
noncomputable def wayL (c : Cs) (res D : List Int) : Nat → Nat → List Int
  | 0, _ => []
  | n + 1, u => (nearA c res D u : Int) :: wayL c res D n (c.Head.getD (nearA c res D u) 0).toNat
theorem wayL_len (c : Cs) (res D : List Int) : ∀ n u, (wayL c res D n u).length = n
  | 0, _ => rfl
  | n + 1, u => by unfold wayL; rw [List.length_cons, wayL_len]

section
variable {c : Cs} {res D : List Int} {t : Nat} (hw : WF c) (L : Low c.N (Edge c res) (hTo c.N t) D)
include hw L
theorem near_ex {u : Nat} (hu : u < c.N) (h0 : 0 < D.getD u 0) (h1 : D.getD u 0 < c.N) : ∃ a, NearR c res D u a := by
  have hex : ∃ a, PN c res D u a := by
    rcases L.why u hu with e | ⟨w, w1, hE, e⟩
    · unfold hTo at e; split at e <;> omega
    · obtain ⟨a, h2, h3, h4, h5⟩ := (edge_seg hw hu).1 hE
      exact ⟨a, h2, h3, h5, by rw [h4]; omega⟩
  have key : ∀ n a : Nat, a ≤ n → PN c res D u a → ∃ a, NearR c res D u a := by
    intro n
    induction n with
    | zero => intro a ha hp; exact ⟨a, hp, fun b hb => absurd hb (by omega)⟩
    | succ n ih =>
      intro a ha hp
      by_cases hb : ∃ b, b < a ∧ PN c res D u b
      · obtain ⟨b, h2, h3⟩ := hb; exact ih b (by omega) h3
      · exact ⟨a, hp, fun b h2 h3 => hb ⟨b, h2, h3⟩⟩
  obtain ⟨a, ha⟩ := hex
  exact key a a (Nat.le_refl _) ha
/-- What a nearer one is. -/
theorem near_is {u a : Nat} (hu : u < c.N) (h : PN c res D u a) : a < c.Head.length ∧ tailOf c a = u ∧ (c.Head.getD a 0).toNat < c.N ∧ D.getD (c.Head.getD a 0).toNat 0 = D.getD u 0 - 1 := by
  obtain ⟨h1, h2, h3, h4⟩ := h
  have hf := seg_rng hw hu
  have ha : a < c.Head.length := by omega
  have hh := hw.hd a ha
  have htl := tail_eq hw hu h1 h2
  have := L.ok u (c.Head.getD a 0).toNat hu (by omega) ⟨a, ha, htl, rfl, h3⟩
  exact ⟨ha, htl, by omega, by omega⟩
end
/-- Is there a way? -/
noncomputable def wayB (c : Cs) (res : List Int) (s t : Int) : Bool := inB c res t && decide (0 ≤ s) && decide (s < c.N) && decide ((toL c res t).getD s.toNat 0 < c.N)
noncomputable def wayF (c : Cs) (res : List Int) (s t : Int) : List Int := if wayB c res s t = true then wayL c res (toL c res t) ((toL c res t).getD s.toNat 0).toNat s.toNat else []
theorem wayB_iff {c : Cs} {res : List Int} {s t : Int} : wayB c res s t = true ↔ inB c res t = true ∧ 0 ≤ s ∧ s < c.N ∧ (toL c res t).getD s.toNat 0 < c.N := by
  unfold wayB
  rw [Bool.and_eq_true, Bool.and_eq_true, Bool.and_eq_true, decide_eq_true_eq, decide_eq_true_eq, decide_eq_true_eq]
  exact ⟨fun ⟨⟨⟨a, b⟩, c⟩, d⟩ => ⟨a, b, c, d⟩, fun ⟨a, b, c, d⟩ => ⟨⟨⟨a, b⟩, c⟩, d⟩⟩
end Go.Proofs.Ytnpgeohkmdcbkaa.Aq
