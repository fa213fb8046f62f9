/- Plain mathematics: more, and fewer, open arcs. No condition but those that each lemma names. -/
import Derived.Test.YtnpgeohkmdcbkaaPlain8
namespace Go.Proofs.Ytnpgeohkmdcbkaa.Aq

theorem inB_of {c : Cs} {res : List Int} (h : res.length = c.Head.length) {u : Nat} (hu : u < c.N) : inB c res (u : Int) = true := inB_iff.2 ⟨h, by omega, by omega⟩
theorem toL_len {c : Cs} {res : List Int} (h : res.length = c.Head.length) {u : Nat} (hu : u < c.N) : (toL c res (u : Int)).length = c.N := (toL_low (inB_of h hu)).len
theorem fromL_len {c : Cs} {res : List Int} (h : res.length = c.Head.length) {u : Nat} (hu : u < c.N) : (fromL c res (u : Int)).length = c.N := (fromL_low (inB_of h hu)).len
theorem edge_more {c : Cs} {res res' : List Int} (h : ∀ a, a < c.Head.length → 0 < res.getD a 0 → 0 < res'.getD a 0) {u w : Nat} (he : Edge c res u w) : Edge c res' u w := by
  obtain ⟨a, h1, h2, h3, h4⟩ := he
  exact ⟨a, h1, h2, h3, h a h1 h4⟩
theorem to_more {c : Cs} {res res' : List Int} (hl : res.length = c.Head.length) (hl' : res'.length = c.Head.length) (h : ∀ a, a < c.Head.length → 0 < res.getD a 0 → 0 < res'.getD a 0) {u : Nat} (hu : u < c.N) :
    ∀ v, v < c.N → (toL c res' (u : Int)).getD v 0 ≤ (toL c res (u : Int)).getD v 0 :=
  (toL_low (inB_of hl' hu)).mono (toL_low (inB_of hl hu)) (fun _ _ => Int.le_refl _) fun _ _ _ _ he => edge_more h he
theorem from_more {c : Cs} {res res' : List Int} (hl : res.length = c.Head.length) (hl' : res'.length = c.Head.length) (h : ∀ a, a < c.Head.length → 0 < res.getD a 0 → 0 < res'.getD a 0) {u : Nat} (hu : u < c.N) :
    ∀ v, v < c.N → (fromL c res' (u : Int)).getD v 0 ≤ (fromL c res (u : Int)).getD v 0 :=
  (fromL_low (inB_of hl' hu)).mono (fromL_low (inB_of hl hu)) (fun _ _ => Int.le_refl _) fun _ _ _ _ he => edge_more h he
theorem to_same {c : Cs} {res res' : List Int} (hl : res.length = c.Head.length) (hl' : res'.length = c.Head.length) (h : ∀ a, a < c.Head.length → (0 < res.getD a 0 ↔ 0 < res'.getD a 0)) {u : Nat} (hu : u < c.N) : toL c res (u : Int) = toL c res' (u : Int) :=
  (toL_low (inB_of hl hu)).unique (toL_low (inB_of hl' hu)) (fun _ _ => rfl) fun _ _ _ _ => ⟨edge_more fun a ha => (h a ha).1, edge_more fun a ha => (h a ha).2⟩

/-- Some of the first k are one more. -/
structure XI (R X : List Int) (k : Nat) : Prop where
  len : X.length = R.length
  rng : ∀ a, R.getD a 0 ≤ X.getD a 0 ∧ X.getD a 0 ≤ R.getD a 0 + 1
  rest : ∀ a, k ≤ a → X.getD a 0 = R.getD a 0
theorem XI.start (R : List Int) : XI R R 0 := ⟨rfl, fun a => ⟨by omega, by omega⟩, fun _ _ => rfl⟩
theorem XI.skip {R X : List Int} {k : Nat} (h : XI R X k) : XI R X (k + 1) := ⟨h.len, h.rng, fun a ha => h.rest a (by omega)⟩
theorem XI.inc {R X : List Int} {k : Nat} (h : XI R X k) (hk : k < R.length) : XI R (X.set k (X.getD k 0 + 1)) (k + 1) := by
  have hl := h.len
  have get := fun v => set_get (D := X) (u := k) (z := X.getD k 0 + 1) (by omega) v
  refine ⟨by rw [List.length_set]; exact hl, fun a => ?_, fun a ha => ?_⟩
  · rw [get a]; split
    · rename_i e; subst e; have := h.rest a (Nat.le_refl _); omega
    · exact h.rng a
  · rw [get a, if_neg (by omega)]; exact h.rest a (by omega)
/-- Of the first k those that are positive have become greater. -/
structure YI (R Y : List Int) (k : Nat) : Prop where
  len : Y.length = R.length
  rng : ∀ a, (0 < R.getD a 0 ↔ 0 < Y.getD a 0) ∧ Y.getD a 0 ≤ R.getD a 0 + 300
  rest : ∀ a, k ≤ a → Y.getD a 0 = R.getD a 0
theorem YI.start (R : List Int) : YI R R 0 := ⟨rfl, fun a => ⟨Iff.rfl, by omega⟩, fun _ _ => rfl⟩
theorem YI.skip {R X : List Int} {k : Nat} (h : YI R X k) : YI R X (k + 1) := ⟨h.len, h.rng, fun a ha => h.rest a (by omega)⟩
theorem YI.inc {R Y : List Int} {k : Nat} {d : Int} (h : YI R Y k) (hk : k < R.length) (h0 : 0 < Y.getD k 0) (h1 : 0 ≤ d) (h2 : d ≤ 300) : YI R (Y.set k (Y.getD k 0 + d)) (k + 1) := by
  have hl := h.len
  have get := fun v => set_get (D := Y) (u := k) (z := Y.getD k 0 + d) (by omega) v
  refine ⟨by rw [List.length_set]; exact hl, fun a => ?_, fun a ha => ?_⟩
  · rw [get a]; split
    · rename_i e; subst e; have := h.rest a (Nat.le_refl _); constructor
      · constructor <;> intro _ <;> omega
      · omega
    · exact h.rng a
  · rw [get a, if_neg (by omega)]; exact h.rest a (by omega)
theorem mod7 (k : Nat) : 0 ≤ (k : Int).tmod 7 ∧ (k : Int).tmod 7 ≤ 6 := by
  rw [Int.tmod_eq_emod_of_nonneg (by omega)]
  omega
end Go.Proofs.Ytnpgeohkmdcbkaa.Aq
