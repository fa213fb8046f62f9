/- Plain mathematics: a search by a queue that grows. No condition but those that each lemma names. -/
import Derived.Test.YtnpgeohkmdcbkaaPlain6
namespace Go.Proofs.Ytnpgeohkmdcbkaa.Aq

/-- A list of numbers below N, none twice, has at most N. -/
theorem nodup_le {N : Nat} {xs : List Int} (hn : xs.Nodup) (hr : ∀ x ∈ xs, 0 ≤ x ∧ x < N) : xs.length ≤ N := by
  have h1 : (xs.map Int.toNat).Nodup := by
    rw [List.Nodup, List.pairwise_map]
    refine List.Pairwise.imp_of_mem (fun {a b} ha hb hab e => ?_) hn
    have := hr a ha
    have := hr b hb
    omega
  have h2 : xs.map Int.toNat ⊆ List.range N := by
    intro y hy
    obtain ⟨x, hx, rfl⟩ := List.mem_map.1 hy
    have := hr x hx
    exact List.mem_range.2 (by omega)
  have := h1.length_le_of_subset h2
  simpa using this

/-- A search in its midst: D tells how far, row is the queue, those ahead of i are done, and of the one at i those arcs of which P speaks. -/
structure Bfs (N : Nat) (G : Nat → Nat → Prop) (s : Nat) (D row : List Int) (i : Nat) (P : Nat → Prop) : Prop where
  len : D.length = N
  s0 : s < N
  rng : ∀ v, v < N → 0 ≤ D.getD v 0 ∧ D.getD v 0 ≤ N
  mem : ∀ x ∈ row, 0 ≤ x ∧ x < N ∧ D.getD x.toNat 0 < N
  all : ∀ v : Nat, v < N → D.getD v 0 < N → (v : Int) ∈ row
  nd : row.Nodup
  mono : ∀ j k, j ≤ k → k < row.length → D.getD (row.getD j 0).toNat 0 ≤ D.getD (row.getD k 0).toNat 0
  idx : ∀ k, k < row.length → D.getD (row.getD k 0).toNat 0 ≤ k
  last : ∀ k, k < row.length → i < row.length → D.getD (row.getD k 0).toNat 0 ≤ D.getD (row.getD i 0).toNat 0 + 1
  ds : D.getD s 0 = 0
  why : ∀ v, v < N → v ≠ s → D.getD v 0 < N → ∃ u, u < N ∧ G u v ∧ D.getD v 0 = D.getD u 0 + 1
  done : ∀ j, j < i → j < row.length → ∀ w, w < N → G (row.getD j 0).toNat w → D.getD w 0 ≤ D.getD (row.getD j 0).toNat 0 + 1
  cur : i < row.length → ∀ w, w < N → P w → D.getD w 0 ≤ D.getD (row.getD i 0).toNat 0 + 1
  le : i ≤ row.length

section
variable {N : Nat} {G : Nat → Nat → Prop} {s : Nat} {D row : List Int} {i : Nat} {P P' : Nat → Prop}

theorem Bfs.size (b : Bfs N G s D row i P) : row.length ≤ N := nodup_le b.nd fun x hx => ⟨(b.mem x hx).1, (b.mem x hx).2.1⟩

theorem Bfs.start (hN : 1 ≤ N) (hs : s < N) (hl : D.length = N) (hD : ∀ v, v < N → D.getD v 0 = hTo N s v) : Bfs N G s D [(s : Int)] 0 (fun _ => False) := by
  have h0 : D.getD s 0 = 0 := by rw [hD s hs]; unfold hTo; rw [if_pos rfl]
  have one : ∀ k, k < [(s : Int)].length → k = 0 := fun k hk => by simp at hk; exact hk
  refine ⟨hl, hs, fun v hv => ?_, fun x hx => ?_, fun v hv h => ?_, by simp, fun j k h1 h2 => ?_, fun k hk => ?_, fun k hk _ => ?_, h0, fun v hv hne h => ?_, fun j hj => absurd hj (Nat.not_lt_zero _), fun _ w _ h => h.elim, Nat.zero_le _⟩
  · rw [hD v hv]; unfold hTo; split <;> omega
  · rw [List.mem_singleton] at hx; subst hx; rw [Int.toNat_natCast, h0]; omega
  · rw [hD v hv] at h
    unfold hTo at h
    split at h
    · rename_i e; subst e; exact List.mem_singleton.2 rfl
    · omega
  · rw [one k h2] at h1 ⊢; rw [show j = 0 by omega]; exact Int.le_refl _
  · rw [one k hk]; show D.getD s 0 ≤ 0; omega
  · rw [one k hk]; omega
  · rw [hD v hv] at h; unfold hTo at h; rw [if_neg hne] at h; omega

/-- An arc that finds nothing new. -/
theorem Bfs.pass (b : Bfs N G s D row i P) (h : i < row.length → ∀ w, w < N → P' w → P w ∨ D.getD w 0 ≤ D.getD (row.getD i 0).toNat 0 + 1) : Bfs N G s D row i P' :=
  { b with cur := fun hi w hw hp => (h hi w hw hp).elim (b.cur hi w hw) id }

/-- One that has been found already is no farther. -/
theorem Bfs.old (b : Bfs N G s D row i P) (hi : i < row.length) {w : Nat} (hw : w < N) (h : D.getD w 0 < N) : D.getD w 0 ≤ D.getD (row.getD i 0).toNat 0 + 1 := by
  obtain ⟨k, hk, e⟩ := List.mem_iff_getElem.1 (b.all w hw h)
  have := b.last k hk hi
  rw [List.getD_eq_getElem?_getD (l := row) (i := k), List.getElem?_eq_getElem hk, Option.getD_some, e, Int.toNat_natCast] at this
  exact this

/-- An arc that finds a new one. -/
theorem Bfs.add (b : Bfs N G s D row i P) (hi : i < row.length) {w : Nat} (hw : w < N) (hg : G (row.getD i 0).toNat w) (hn : ¬ D.getD w 0 < N) (h : ∀ x, x < N → P' x → P x ∨ x = w) :
    Bfs N G s (D.set w (D.getD (row.getD i 0).toNat 0 + 1)) (row ++ [(w : Int)]) i P' ∧ D.getD (row.getD i 0).toNat 0 + 1 < N := by
  have hl := b.len
  have hnw : (w : Int) ∉ row := fun hm => hn (by simpa using (b.mem _ hm).2.2)
  have hnd : (row ++ [(w : Int)]).Nodup := by
    rw [List.nodup_append]
    exact ⟨b.nd, by simp, fun x hx y hy e => by rw [List.mem_singleton] at hy; subst hy; subst e; exact hnw hx⟩
  have hsz : row.length + 1 ≤ N := by
    have := nodup_le (N := N) hnd fun x hx => by
      rcases List.mem_append.1 hx with hx | hx
      · exact ⟨(b.mem x hx).1, (b.mem x hx).2.1⟩
      · rw [List.mem_singleton] at hx; subst hx; omega
    simpa using this
  have hid := b.idx i hi
  have hzN : D.getD (row.getD i 0).toNat 0 + 1 < N := by omega
  have get := fun v => set_get (D := D) (u := w) (z := D.getD (row.getD i 0).toNat 0 + 1) (by omega) v
  have rowm : ∀ k, k < row.length → row.getD k 0 ∈ row := fun k hk => by simp [List.getD_eq_getElem?_getD, hk]
  have hrow : ∀ k, k < row.length → (row ++ [(w : Int)]).getD k 0 = row.getD k 0 := fun k hk => by simp [List.getD_eq_getElem?_getD, List.getElem?_append_left hk]
  have hrowe : (row ++ [(w : Int)]).getD row.length 0 = w := by simp [List.getD_eq_getElem?_getD]
  have keep : ∀ k, k < row.length → (D.set w (D.getD (row.getD i 0).toNat 0 + 1)).getD (row.getD k 0).toNat 0 = D.getD (row.getD k 0).toNat 0 := fun k hk => by
    rw [get, if_neg fun e => hnw ?_]
    have := (b.mem _ (rowm k hk)).1
    rw [← e, Int.toNat_of_nonneg this]
    exact rowm k hk
  have hir := b.mem _ (rowm i hi)
  have hz0 := (b.rng (row.getD i 0).toNat (by omega)).1
  have cases_k : ∀ k, k < (row ++ [(w : Int)]).length → k < row.length ∨ k = row.length := fun k hk => by simp at hk; omega
  have key : ∀ k, k < row.length → (D.set w (D.getD (row.getD i 0).toNat 0 + 1)).getD ((row ++ [(w : Int)]).getD k 0).toNat 0 = D.getD (row.getD k 0).toNat 0 := fun k hk => by rw [hrow k hk, keep k hk]
  have keye : (D.set w (D.getD (row.getD i 0).toNat 0 + 1)).getD ((row ++ [(w : Int)]).getD row.length 0).toNat 0 = D.getD (row.getD i 0).toNat 0 + 1 := by rw [hrowe, Int.toNat_natCast, get, if_pos rfl]
  have dn : ∀ v, v < N → (D.set w (D.getD (row.getD i 0).toNat 0 + 1)).getD v 0 ≤ D.getD v 0 := fun v hv => by
    rw [get v]; split
    · rename_i e; subst e; omega
    · exact Int.le_refl _
  refine ⟨⟨by rw [List.length_set]; exact hl, b.s0, fun v hv => ?_, fun x hx => ?_, fun v hv h1 => ?_, hnd, fun j k h1 h2 => ?_, fun k hk => ?_, fun k hk _ => ?_, ?_, fun v hv hne h1 => ?_, fun j hj hj2 v hv h1 => ?_, fun _ v hv h1 => ?_, by have := b.le; simp; omega⟩, hzN⟩
  · rw [get v]; split
    · omega
    · exact b.rng v hv
  · rcases List.mem_append.1 hx with hx | hx
    · have := b.mem x hx
      refine ⟨this.1, this.2.1, ?_⟩
      have := dn x.toNat (by omega)
      omega
    · rw [List.mem_singleton] at hx; subst hx
      rw [Int.toNat_natCast, get, if_pos rfl]
      omega
  · rw [get v] at h1
    split at h1
    · rename_i e; subst e; exact List.mem_append_right _ (List.mem_singleton.2 rfl)
    · exact List.mem_append_left _ (b.all v hv h1)
  · rcases cases_k k h2 with hk | hk
    · rw [key k hk, key j (by omega)]; exact b.mono j k h1 hk
    · subst hk
      rw [keye]
      rcases Nat.lt_or_ge j row.length with hj | hj
      · rw [key j hj]; exact b.last j hj hi
      · rw [show j = row.length by omega, keye]; exact Int.le_refl _
  · rcases cases_k k hk with hk | hk
    · rw [key k hk]; exact b.idx k hk
    · subst hk; rw [keye]; omega
  · rw [key i hi]
    rcases cases_k k hk with hk | hk
    · rw [key k hk]; exact b.last k hk hi
    · subst hk; rw [keye]; exact Int.le_refl _
  · rw [get, if_neg fun e => hn (by rw [← e, b.ds]; omega)]; exact b.ds
  · by_cases hvw : v = w
    · subst hvw
      refine ⟨(row.getD i 0).toNat, by omega, hg, ?_⟩
      rw [get v, if_pos rfl, keep i hi]
    · rw [get v, if_neg hvw] at h1 ⊢
      obtain ⟨u, h2, h3, h4⟩ := b.why v hv hne h1
      refine ⟨u, h2, h3, ?_⟩
      rw [get u, if_neg fun e => hn (by subst e; omega)]
      exact h4
  · have hj3 : j < row.length := by omega
    rw [key j hj3]
    rw [hrow j hj3] at h1
    exact Int.le_trans (dn v hv) (b.done j hj hj3 v hv h1)
  · rw [key i hi]
    rcases h v hv h1 with h2 | h2
    · exact Int.le_trans (dn v hv) (b.cur hi v hv h2)
    · subst h2; rw [get, if_pos rfl]; exact Int.le_refl _

/-- The next one. -/
theorem Bfs.next (b : Bfs N G s D row i P) (hi : i < row.length) (h : ∀ w, w < N → G (row.getD i 0).toNat w → P w) : Bfs N G s D row (i + 1) (fun _ => False) :=
  { b with
    last := fun k hk h1 => by have := b.last k hk hi; have := b.mono i (i + 1) (by omega) h1; omega
    done := fun j hj hj2 w hw hg => by
      rcases Nat.lt_or_ge j i with h1 | h1
      · exact b.done j h1 hj2 w hw hg
      · have : j = i := by omega
        subst this
        exact b.cur hi w hw (h w hw hg)
    cur := fun _ _ _ h => h.elim
    le := hi }

/-- At its end. -/
theorem Bfs.low (b : Bfs N G s D row i P) (hi : i = row.length) : Low N (fun v u => G u v) (hTo N s) D := by
  have hs := b.s0
  refine ⟨b.len, fun v hv => (b.rng v hv).1, fun v hv => ?_, fun v u hv hu hg => ?_, fun v hv => ?_⟩
  · unfold hTo; split
    · rename_i e; subst e; rw [b.ds]; omega
    · exact (b.rng v hv).2
  · rcases Int.lt_or_le (D.getD u 0) N with h | h
    · obtain ⟨k, hk, e⟩ := List.mem_iff_getElem.1 (b.all u hu h)
      have hk' : row.getD k 0 = u := by rw [List.getD_eq_getElem?_getD, List.getElem?_eq_getElem hk, Option.getD_some, e]
      have := b.done k (by omega) hk v hv (by rw [hk', Int.toNat_natCast]; exact hg)
      rw [hk', Int.toNat_natCast] at this
      exact this
    · have := (b.rng v hv).2; omega
  · unfold hTo
    by_cases h1 : v = s
    · subst h1; left; rw [if_pos rfl]; exact b.ds
    · rw [if_neg h1]
      rcases Int.lt_or_le (D.getD v 0) N with h | h
      · obtain ⟨u, h2, h3, h4⟩ := b.why v hv h1 h
        exact .inr ⟨u, h2, h3, h4⟩
      · left; have := (b.rng v hv).2; omega
end
end Go.Proofs.Ytnpgeohkmdcbkaa.Aq
