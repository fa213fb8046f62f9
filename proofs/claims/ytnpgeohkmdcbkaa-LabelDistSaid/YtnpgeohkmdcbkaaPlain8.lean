/- Plain mathematics: rows by steps. No condition but those that each lemma names. -/
import Derived.Test.YtnpgeohkmdcbkaaPlain7
import Derived.Test.YtnpgeohkmdcbkaaPlain4
namespace Go.Proofs.Ytnpgeohkmdcbkaa.Aq

/-- Those below v that are k steps away. -/
def rowAt (D : List Int) (v k : Nat) : List Int := filt (fun u => decide (D.getD u 0 = (k : Int))) v
/-- So many rows there are. -/
def hiTo (N : Nat) (D : List Int) : Nat → Nat
  | 0 => 0
  | v + 1 => if D.getD v 0 = (N : Int) then hiTo N D v else max (hiTo N D v) ((D.getD v 0).toNat + 1)
def rowsTo (D : List Int) (v m : Nat) : List (List Int) := (List.range m).map (rowAt D v)
def rowsF (N : Nat) (D : List Int) : List (List Int) := rowsTo D D.length (hiTo N D D.length)
noncomputable def rowsL (c : Cs) (res : List Int) (t : Int) : List (List Int) := rowsF c.N (toL c res t)

theorem rowsTo_len (D : List Int) (v m : Nat) : (rowsTo D v m).length = m := by simp [rowsTo]
theorem rowsTo_get {D : List Int} {v m k : Nat} (h : k < m) : (rowsTo D v m).getD k [] = rowAt D v k := by simp [rowsTo, List.getD_eq_getElem?_getD, h]
theorem rowAt_len (D : List Int) (v k : Nat) : (rowAt D v k).length ≤ v := filt_len _ v
theorem mem_rowAt {D : List Int} {v k : Nat} {x : Int} : x ∈ rowAt D v k ↔ ∃ u : Nat, u < v ∧ D.getD u 0 = (k : Int) ∧ x = u := by
  unfold rowAt
  rw [filt_mem]
  simp only [decide_eq_true_eq]
theorem hiTo_gt {N : Nat} {D : List Int} : ∀ {v u : Nat}, u < v → D.getD u 0 ≠ (N : Int) → (D.getD u 0).toNat < hiTo N D v
  | 0, u, h, _ => absurd h (Nat.not_lt_zero u)
  | v + 1, u, h, hne => by
    unfold hiTo
    by_cases he : u = v
    · subst he; rw [if_neg hne]; omega
    · have := hiTo_gt (v := v) (u := u) (by omega) hne
      split <;> omega
theorem hiTo_le {N : Nat} {D : List Int} (h : ∀ u, u < D.length → 0 ≤ D.getD u 0 ∧ D.getD u 0 ≤ N) : ∀ v, v ≤ D.length → hiTo N D v ≤ N
  | 0, _ => Nat.zero_le _
  | v + 1, hv => by
    have := hiTo_le h v (by omega)
    have := h v (by omega)
    unfold hiTo
    split <;> omega
theorem rowAt_nil {N : Nat} {D : List Int} {v m : Nat} (h : hiTo N D v ≤ m) (hm : m < N) : rowAt D v m = [] := by
  refine List.eq_nil_iff_forall_not_mem.2 fun x hx => ?_
  obtain ⟨u, h1, h2, _⟩ := mem_rowAt.1 hx
  have := hiTo_gt (N := N) (D := D) h1 (by omega)
  omega
theorem rows_add {N : Nat} {D : List Int} {v m : Nat} (h : hiTo N D v ≤ m) (hm : m < N) : rowsTo D v m ++ [[]] = rowsTo D v (m + 1) := by
  unfold rowsTo
  rw [List.range_succ, List.map_append, List.map_singleton, rowAt_nil h hm]
theorem rowAt_succ (D : List Int) (v k : Nat) : rowAt D (v + 1) k = rowAt D v k ++ if D.getD v 0 = (k : Int) then [(v : Int)] else [] := by
  unfold rowAt
  rw [filt_succ']
  simp only [decide_eq_true_eq]
theorem rows_skip {D : List Int} {v m : Nat} (h : ∀ k, k < m → D.getD v 0 ≠ (k : Int)) : rowsTo D v m = rowsTo D (v + 1) m := by
  unfold rowsTo
  refine List.map_congr_left fun k hk => ?_
  rw [rowAt_succ, if_neg (h k (List.mem_range.1 hk)), List.append_nil]
theorem rows_set {D : List Int} {v m k : Nat} (hk : D.getD v 0 = (k : Int)) (hm : k < m) : (rowsTo D v m).set k (rowAt D v k ++ [(v : Int)]) = rowsTo D (v + 1) m := by
  refine List.ext_getElem (by simp [rowsTo]) fun i h1 h2 => ?_
  rw [List.getElem_set]
  have hi : i < m := by simpa [rowsTo] using h2
  simp only [rowsTo, List.getElem_map, List.getElem_range]
  by_cases he : k = i
  · subst he; rw [if_pos rfl, rowAt_succ, if_pos hk]
  · rw [if_neg he, rowAt_succ, if_neg (by omega), List.append_nil]
theorem toL_rng {c : Cs} {res : List Int} {t : Int} : (toL c res t).length ≤ c.N ∧ ∀ u, u < (toL c res t).length → 0 ≤ (toL c res t).getD u 0 ∧ (toL c res t).getD u 0 ≤ c.N := by
  cases h : inB c res t with
  | true =>
    have L := toL_low h
    have hl := L.len
    refine ⟨by omega, fun u hu => ⟨L.nn u (by omega), Int.le_trans (L.le u (by omega)) ?_⟩⟩
    unfold hTo; split <;> omega
  | false => rw [toL_no h]; exact ⟨Nat.zero_le _, fun u hu => absurd hu (Nat.not_lt_zero u)⟩
end Go.Proofs.Ytnpgeohkmdcbkaa.Aq
