/- Plain mathematics: steps to, or from, a vertex, and who has a next one that is nearer. No condition but those that each lemma names. -/
import Derived.Test.YtnpgeohkmdcbkaaPlain10
namespace Go.Proofs.Ytnpgeohkmdcbkaa.Aq

def EE (c : Cs) (res : List Int) : Bool → Nat → Nat → Prop
  | true, u, w => Edge c res u w
  | false, u, w => Edge c res w u
def srcOf (c : Cs) : Bool → Nat → Nat
  | true, a => tailOf c a
  | false, a => (c.Head.getD a 0).toNat
def dstOf (c : Cs) : Bool → Nat → Nat
  | true, a => (c.Head.getD a 0).toNat
  | false, a => tailOf c a
theorem ee_arc {c : Cs} {res : List Int} {a : Nat} (ha : a < c.Head.length) (h : 0 < res.getD a 0) : ∀ b, EE c res b (srcOf c b a) (dstOf c b a)
  | true => ⟨a, ha, rfl, rfl, h⟩
  | false => ⟨a, ha, rfl, rfl, h⟩
theorem arc_ee {c : Cs} {res : List Int} {u w : Nat} : ∀ {b : Bool}, EE c res b u w → ∃ a, a < c.Head.length ∧ 0 < res.getD a 0 ∧ srcOf c b a = u ∧ dstOf c b a = w
  | true, ⟨a, h1, h2, h3, h4⟩ => ⟨a, h1, h4, h2, h3⟩
  | false, ⟨a, h1, h2, h3, h4⟩ => ⟨a, h1, h4, h3, h2⟩
/-- Those that have one that is a step nearer, over the first k arcs. -/
structure NearI (c : Cs) (res D : List Int) (b : Bool) (near : List Bool) (k : Nat) : Prop where
  len : near.length = c.N
  iff : ∀ v, v < c.N → (near.getD v false = true ↔ ∃ a, a < k ∧ 0 < res.getD a 0 ∧ srcOf c b a = v ∧ D.getD v 0 = D.getD (dstOf c b a) 0 + 1)
theorem NearI.start (c : Cs) (res D : List Int) (b : Bool) : NearI c res D b (List.replicate c.N false) 0 :=
  ⟨List.length_replicate, fun v hv => ⟨fun h => by simp [List.getD_eq_getElem?_getD, hv] at h, fun ⟨a, h, _⟩ => absurd h (Nat.not_lt_zero a)⟩⟩
theorem NearI.skip {c : Cs} {res D : List Int} {b : Bool} {near : List Bool} {k : Nat} (h : NearI c res D b near k) (h0 : ¬ 0 < res.getD k 0) : NearI c res D b near (k + 1) :=
  ⟨h.len, fun v hv => (h.iff v hv).trans ⟨fun ⟨a, h1, h2⟩ => ⟨a, by omega, h2⟩, fun ⟨a, h1, h2, h3⟩ => ⟨a, by
    rcases Nat.lt_or_ge a k with h4 | h4
    · exact h4
    · have : a = k := by omega
      subst this; exact absurd h2 h0, h2, h3⟩⟩⟩
theorem NearI.add {c : Cs} {res D : List Int} {b : Bool} {near : List Bool} {k x y : Nat} (h : NearI c res D b near k) (hx : x < c.N) (hxs : x = srcOf c b k) (hys : y = dstOf c b k) (h0 : 0 < res.getD k 0) :
    NearI c res D b (near.set x (near.getD x false || decide (D.getD x 0 = D.getD y 0 + 1))) (k + 1) := by
  have hl := h.len
  refine ⟨by rw [List.length_set]; exact hl, fun v hv => ?_⟩
  have get : (near.set x (near.getD x false || decide (D.getD x 0 = D.getD y 0 + 1))).getD v false = if v = x then (near.getD x false || decide (D.getD x 0 = D.getD y 0 + 1)) else near.getD v false := by
    simp only [List.getD_eq_getElem?_getD, List.getElem?_set]
    by_cases h1 : x = v
    · subst h1; simp [hl, hx]
    · simp [h1, Ne.symm h1]
  rw [get]
  split
  · rename_i e
    subst e
    rw [Bool.or_eq_true, decide_eq_true_eq, h.iff v hv]
    constructor
    · rintro (⟨a, h1, h2⟩ | h1)
      · exact ⟨a, by omega, h2⟩
      · exact ⟨k, by omega, h0, hxs.symm, by rw [← hys]; exact h1⟩
    · rintro ⟨a, h1, h2, h3, h4⟩
      rcases Nat.lt_or_ge a k with h5 | h5
      · exact .inl ⟨a, h5, h2, h3, h4⟩
      · have : a = k := by omega
        subst this; right; rw [hys]; exact h4
  · rename_i e
    rw [h.iff v hv]
    constructor
    · rintro ⟨a, h1, h2⟩; exact ⟨a, by omega, h2⟩
    · rintro ⟨a, h1, h2, h3, h4⟩
      refine ⟨a, ?_, h2, h3, h4⟩
      rcases Nat.lt_or_ge a k with h5 | h5
      · exact h5
      · have : a = k := by omega
        subst this; exact absurd (hxs.trans h3).symm e
theorem near_end {c : Cs} {res D : List Int} {b : Bool} {near : List Bool} {t v : Nat} (L : Low c.N (EE c res b) (hTo c.N t) D) (h : NearI c res D b near c.Head.length) (hv : v < c.N) (h0 : 0 < D.getD v 0) (h1 : D.getD v 0 < c.N) : near.getD v false = true := by
  rcases L.why v hv with e | ⟨w, w1, hE, e⟩
  · unfold hTo at e; split at e <;> omega
  · obtain ⟨a, h2, h3, h4, h5⟩ := arc_ee hE
    exact (h.iff v hv).2 ⟨a, h2, h3, h4, by rw [h5]; exact e⟩
theorem Low.zero {N t : Nat} {E : Nat → Nat → Prop} {D : List Int} (L : Low N E (hTo N t) D) (ht : t < N) {v : Nat} (hv : v < N) : (decide (D.getD v 0 = 0) == decide (v = t)) = true := by
  by_cases h : v = t
  · subst h; rw [L.at_t ht]; simp
  · have : ¬ D.getD v 0 = 0 := by
      rcases L.why v hv with e | ⟨w, w1, _, e⟩
      · unfold hTo at e; rw [if_neg h] at e; omega
      · have := L.nn w w1; omega
    rw [decide_eq_false h, decide_eq_false this]; rfl
end Go.Proofs.Ytnpgeohkmdcbkaa.Aq
