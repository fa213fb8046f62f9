/- Plain mathematics of heights: what the outright laws of chapter 06 ask. -/
import Derived.Test.YtnpgeohkmdcbkaaAH
import Derived.Test.YtnpgeohkmdcbkaaPlain3
namespace Go.Proofs.Ytnpgeohkmdcbkaa.Aq

theorem heightsF_right {c : Cs} (hw : WF c) (l : List Int) : RightH c (heightsF c l) := by
  have hs := hw.s
  have ht := hw.t
  have hne := hw.ne
  have get : ∀ v, v < c.N → (heightsF c l).getD v 0 = if v = c.S then (c.N : Int) else if v = c.T then 0 else (heightsTo c.N l c.N).getD v 0 := fun v hv => by
    unfold heightsF
    rw [Int.toNat_natCast, Int.toNat_natCast]
    simp only [List.getD_eq_getElem?_getD, List.getElem?_set, List.length_set]
    have hlen : (heightsTo c.N l c.N).length = c.N := by simp [heightsTo]
    rw [hlen]
    by_cases h1 : c.S = v
    · subst h1; simp [hs]
    · rw [if_neg h1, if_neg (Ne.symm h1)]
      by_cases h2 : c.T = v
      · subst h2; simp [ht]
      · rw [if_neg h2, if_neg (Ne.symm h2)]
  refine ⟨heightsF_len c l, fun v hv => ?_, ?_, ?_⟩
  · rw [get v hv]
    split
    · omega
    · split
      · omega
      · have : (heightsTo c.N l c.N).getD v 0 = if v < c.N ∧ v < l.length then among (l.getD v 0) (c.N + 1) else 0 := by
          simp [heightsTo, List.getD_eq_getElem?_getD, hv]
        rw [this]
        split
        · unfold among
          have h1 := Int.emod_nonneg (l.getD v 0) (by omega : (c.N : Int) + 1 ≠ 0)
          have h2 := Int.emod_lt_of_pos (l.getD v 0) (by omega : (0 : Int) < (c.N : Int) + 1)
          omega
        · omega
  · rw [get _ ht, if_neg (Ne.symm hne), if_pos rfl]
  · rw [get _ hs, if_pos rfl]

theorem filt_mem {p : Nat → Bool} {M : Nat} {x : Int} : x ∈ filt p M ↔ ∃ a : Nat, a < M ∧ p a = true ∧ x = a := by
  unfold filt
  simp only [List.mem_map, List.mem_filter, List.mem_range]
  constructor
  · rintro ⟨a, ⟨h1, h2⟩, rfl⟩; exact ⟨a, h1, h2, rfl⟩
  · rintro ⟨a, h1, h2, rfl⟩; exact ⟨a, ⟨h1, h2⟩, rfl⟩
theorem filt_zero (p : Nat → Bool) : filt p 0 = [] := rfl
theorem filt_succ' (p : Nat → Bool) (k : Nat) : filt p (k + 1) = filt p k ++ (if p k = true then [(k : Int)] else []) := filt_succ p k
theorem filt_count (p : Nat → Bool) (a : Nat) : ∀ M, (filt p M).count (a : Int) = if a < M ∧ p a = true then 1 else 0
  | 0 => by simp [filt_zero]
  | M + 1 => by
    rw [filt_succ', List.count_append, filt_count p a M]
    by_cases h : a = M
    · subst h
      cases hp : p a <;> simp
    · by_cases h1 : a < M
      · have h2 : a < M + 1 := by omega
        cases hp : p M <;> simp [h1, h2, List.count_cons] <;> omega
      · have h2 : ¬ a < M + 1 := by omega
        cases hp : p M <;> simp [h1, h2, List.count_cons] <;> omega
theorem downL_may {c : Cs} {res h : List Int} {p : Int → Bool} (hm : mayB c res h = true) : downL c res h p = filt (downP c res h p) c.Head.length := by
  unfold downL
  rw [if_pos hm]
  rfl
theorem downL_rng {c : Cs} {res h : List Int} {p : Int → Bool} {x : Int} (hx : x ∈ downL c res h p) : 0 ≤ x ∧ x < c.Head.length := by
  by_cases hm : mayB c res h = true
  · rw [downL_may hm] at hx
    obtain ⟨a, h1, _, rfl⟩ := filt_mem.1 hx
    omega
  · unfold downL at hx
    rw [if_neg hm] at hx
    cases hx
end Go.Proofs.Ytnpgeohkmdcbkaa.Aq
