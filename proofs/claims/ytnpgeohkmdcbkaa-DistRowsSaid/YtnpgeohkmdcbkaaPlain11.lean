/- Plain mathematics: what rows by steps hold. No condition but those that each lemma names. -/
import Derived.Test.YtnpgeohkmdcbkaaPlain10
namespace Go.Proofs.Ytnpgeohkmdcbkaa.Aq

theorem filt_sorted {p : Nat → Bool} {M i j : Nat} (hij : i < j) (hj : j < (filt p M).length) : (filt p M).getD i 0 < (filt p M).getD j 0 := by
  have hp : (filt p M).Pairwise (· < ·) := by
    unfold filt
    rw [List.pairwise_map]
    refine List.Pairwise.imp (fun {a b} h => ?_) (List.pairwise_lt_range.filter p)
    exact Int.ofNat_lt.2 h
  have := List.pairwise_iff_getElem.1 hp i j (by omega) hj hij
  simpa [List.getD_eq_getElem?_getD, hj, (by omega : i < (filt p M).length)] using this
theorem filt_one {p : Nat → Bool} {M j : Nat} (hj : j < M) (h : ∀ x, x < M → (p x = true ↔ x = j)) : filt p M = [(j : Int)] := by
  unfold filt
  rw [filter_one p j M hj ((h j hj).2 rfl) fun x hx hp => (h x hx).1 hp]
  rfl
theorem hiTo_ex {N : Nat} {D : List Int} {k : Nat} : ∀ {v : Nat}, k < hiTo N D v → ∃ u, u < v ∧ D.getD u 0 ≠ (N : Int) ∧ k ≤ (D.getD u 0).toNat
  | 0, h => absurd h (Nat.not_lt_zero k)
  | v + 1, h => by
    unfold hiTo at h
    split at h
    · obtain ⟨u, h1, h2⟩ := hiTo_ex h; exact ⟨u, by omega, h2⟩
    · rename_i hne
      rcases Nat.lt_or_ge k (hiTo N D v) with h3 | h3
      · obtain ⟨u, h1, h2⟩ := hiTo_ex h3; exact ⟨u, by omega, h2⟩
      · exact ⟨v, by omega, hne, by omega⟩
theorem low_down {N t : Nat} {E : Nat → Nat → Prop} {D : List Int} (L : Low N E (hTo N t) D) : ∀ (n u : Nat), u < N → D.getD u 0 ≤ n → D.getD u 0 < N → ∀ k : Nat, (k : Int) ≤ D.getD u 0 → ∃ w, w < N ∧ D.getD w 0 = k
  | 0, u, hu, hn, hlt, k, hk => ⟨u, hu, by omega⟩
  | n + 1, u, hu, hn, hlt, k, hk => by
    by_cases he : D.getD u 0 = k
    · exact ⟨u, hu, he⟩
    · rcases L.why u hu with e | ⟨w, w1, _, e⟩
      · unfold hTo at e; split at e <;> omega
      · exact low_down L n w w1 (by omega) (by omega) k (by omega)

section
variable {c : Cs} {res : List Int} {t : Nat} (hl : res.length = c.Head.length) (ht : t < c.N)
include hl ht
theorem row_len : (toL c res (t : Int)).length = c.N := toL_len hl ht
theorem row_full {k : Nat} (hk : k < hiTo c.N (toL c res (t : Int)) c.N) : ∃ w, w < c.N ∧ (toL c res (t : Int)).getD w 0 = (k : Int) := by
  have L := toL_low (inB_of hl ht)
  obtain ⟨u, h1, h2, h3⟩ := hiTo_ex hk
  have := L.le_N h1
  exact low_down L _ u h1 (Int.le_of_eq (Int.toNat_of_nonneg this.1).symm) (by omega) k (by omega)
theorem row_ne {k : Nat} (hk : k < hiTo c.N (toL c res (t : Int)) c.N) : 0 < (rowAt (toL c res (t : Int)) c.N k).length := by
  obtain ⟨w, h1, h2⟩ := row_full hl ht hk
  exact List.length_pos_of_mem (mem_rowAt.2 ⟨w, h1, h2, rfl⟩)
theorem row_zero : rowAt (toL c res (t : Int)) c.N 0 = [(t : Int)] := by
  have L := toL_low (inB_of hl ht)
  refine filt_one ht fun x hx => ?_
  rw [decide_eq_true_eq]
  constructor
  · intro h0
    rcases L.why x hx with e | ⟨w, w1, _, e⟩
    · unfold hTo at e; split at e
      · rename_i e2; exact e2
      · have := ht; omega
    · have := L.nn w w1; omega
  · intro h0; subst h0; exact L.at_t ht
end

/-- Who has been met, ahead of row k and in the first i of it. -/
def metF (D : List Int) (N k i : Nat) (x : Int) : Int := if (∃ v : Nat, v < N ∧ x = v ∧ D.getD v 0 < (k : Int)) ∨ x ∈ (rowAt D N k).take i then 1 else 0
theorem metF_start {D : List Int} {N : Nat} (h : ∀ v, v < N → 0 ≤ D.getD v 0) (x : Int) : metF D N 0 0 x = 0 := by
  unfold metF
  rw [if_neg]
  rintro (⟨v, h1, h2, h3⟩ | h1)
  · have := h v h1; omega
  · simp at h1
theorem take_mem {xs : List Int} {i : Nat} (hi : i < xs.length) (x : Int) : x ∈ xs.take (i + 1) ↔ x ∈ xs.take i ∨ x = xs.getD i 0 := by
  rw [List.take_succ_eq_append_getElem hi, List.mem_append, List.mem_singleton]
  simp [List.getD_eq_getElem?_getD, hi]
theorem metF_step {D : List Int} {N k i : Nat} (hi : i < (rowAt D N k).length) {f : Int → Int} (hf : ∀ x, f x = metF D N k i x) : ∀ x, (fun x => if x = (rowAt D N k).getD i 0 then f ((rowAt D N k).getD i 0) + 1 else f x) x = metF D N k (i + 1) x := fun x => by
  have hm : (rowAt D N k).getD i 0 ∈ rowAt D N k := by simp [List.getD_eq_getElem?_getD, hi]
  obtain ⟨u, h1, h2, h3⟩ := mem_rowAt.1 hm
  show (if x = _ then _ else _) = _
  by_cases hx : x = (rowAt D N k).getD i 0
  · rw [if_pos hx, hf]
    unfold metF
    rw [if_neg, if_pos]
    · rfl
    · right; rw [take_mem hi]; exact .inr hx
    · rintro (⟨v, h4, h5, h6⟩ | h4)
      · have : v = u := by omega
        subst this; omega
      · obtain ⟨j, hj, he⟩ := List.mem_iff_getElem.1 h4
        rw [List.length_take] at hj
        rw [List.getElem_take] at he
        have := filt_sorted (p := fun u => decide (D.getD u 0 = (k : Int))) (M := N) (i := j) (j := i) (by omega) hi
        have e1 : (rowAt D N k).getD j 0 = (rowAt D N k)[j] := by simp [List.getD_eq_getElem?_getD, (by omega : j < (rowAt D N k).length)]
        have e2 : (rowAt D N k).getD j 0 < (rowAt D N k).getD i 0 := this
        omega
  · rw [if_neg hx, hf]
    unfold metF
    congr 1
    rw [take_mem hi]
    exact propext (or_congr Iff.rfl ⟨.inl, fun h => h.elim id fun h => absurd h hx⟩)
theorem metF_next {D : List Int} {N k : Nat} (x : Int) : metF D N k (rowAt D N k).length x = metF D N (k + 1) 0 x := by
  unfold metF
  congr 1
  rw [List.take_length, List.take_zero]
  refine propext ⟨?_, ?_⟩
  · rintro (⟨v, h1, h2, h3⟩ | h1)
    · exact .inl ⟨v, h1, h2, by omega⟩
    · obtain ⟨u, h2, h3, h4⟩ := mem_rowAt.1 h1
      exact .inl ⟨u, h2, h4, by omega⟩
  · rintro (⟨v, h1, h2, h3⟩ | h1)
    · by_cases he : D.getD v 0 = (k : Int)
      · exact .inr (mem_rowAt.2 ⟨v, h1, he, h2⟩)
      · exact .inl ⟨v, h1, h2, by omega⟩
    · cases h1
theorem metF_end {D : List Int} {N v : Nat} (hv : v < N) (h : ∀ u, u < N → 0 ≤ D.getD u 0 ∧ D.getD u 0 ≤ N) (hD : D.length = N) : (decide (metF D N (hiTo N D N) 0 v = 1) == decide (D.getD v 0 < (N : Int))) = true := by
  by_cases hlt : D.getD v 0 < (N : Int)
  · have h1 := hiTo_gt (N := N) (D := D) hv (by omega)
    have h2 := h v hv
    have : metF D N (hiTo N D N) 0 v = 1 := by unfold metF; rw [if_pos (.inl ⟨v, hv, rfl, by omega⟩)]
    rw [this, decide_eq_true hlt]; rfl
  · have : metF D N (hiTo N D N) 0 v = 0 := by
      unfold metF
      rw [if_neg]
      rintro (⟨u, h1, h2, h3⟩ | h1)
      · have : u = v := by omega
        subst this
        have := hiTo_le (N := N) (D := D) (v := N) (fun x hx => h x (by omega)) (by omega)
        omega
      · cases h1
    rw [this, decide_eq_false hlt]; rfl
end Go.Proofs.Ytnpgeohkmdcbkaa.Aq
