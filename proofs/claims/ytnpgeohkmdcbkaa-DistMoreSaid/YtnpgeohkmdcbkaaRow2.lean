/- How an argument of bools reads. -/
import Derived.Test.YtnpgeohkmdcbkaaRow1
namespace Go.Proofs.Ytnpgeohkmdcbkaa.Aq
open Go Go.RowKit Go.ChangeShapes Go.WideShapes Go.ChangeAt Go.Joins Go.Deep

section
variable {H : Type} {enc : TypeId × Value → H} {W : World} {base : Nat} {v : Value} {d : DataW H} {p : List MemPlace}
set_option maxRecDepth 100000 in
/-- A slice of bools. -/
theorem row_bools {t e : TypeId} (ht : Try.prog.underlying t = some (.slice e)) (he : Try.prog.underlying e = some .bool) (hc : Try.prog.cellsOf e = 1) (hb : 1 ≤ Try.prog.bytesOf e)
    (hv : Value.okWide Try.prog W .any base t v) (h : DataW.Trod enc Try.prog W 0 (fun _ => true) true t v d p) (hw : ∀ n ∈ d.weights Try.prog t, n ≤ reachBytes) :
    ∃ A c xs, v = .slice A xs.length c ∧ (sl eBool 1 A xs.length c xs).p W := by
  obtain ⟨a0, len0, cap0, rfl⟩ := okWide_slice ht hv
  obtain ⟨fuel, hf⟩ := h
  rcases open_bools ht he hc hf with ⟨hcs, hx⟩ | ⟨a, len, cap, B, hcs, _, hl, hm, hx, hcell⟩
  · simp [Value.cells] at hcs
    obtain ⟨rfl, rfl, rfl⟩ := hcs
    exact ⟨none, 0, [], rfl, ⟨⟨rfl, Nat.le_refl _⟩, Nat.zero_le _, fun i x hi => by simp at hi⟩⟩
  · simp [Value.cells] at hcs
    obtain ⟨rfl, rfl, rfl⟩ := hcs
    have hlen : ((List.range len0).map B).length = len0 := by simp
    have hsz : len0 ≤ 140737488351232 := by
      simp only [Prod.mk.injEq] at hx
      have h1 := hw (cap0 * Try.prog.bytesOf e) (by
        rw [hx.1]
        simp only [DataW.weights, boolRow, ht, List.mem_cons]
        left
        simp only [List.length_map, List.length_range]
        rw [show len0 + (cap0 - len0) = cap0 by omega])
      have h2 : cap0 ≤ cap0 * Try.prog.bytesOf e := Nat.le_mul_of_pos_right _ hb
      have : reachBytes = 140737488351232 := rfl
      omega
    refine ⟨some a, cap0, (List.range len0).map B, by rw [hlen], ⟨⟨rfl, by omega⟩, by omega, fun i x hi j u hj => ⟨a, rfl, ?_⟩⟩⟩
    have hi' : i < len0 := by have := (List.getElem?_eq_some_iff.1 hi).1; simpa using this
    have hj0 : j = 0 := by
      have := (List.getElem?_eq_some_iff.1 hj).1
      simp [eBool] at this
      exact this
    subst hj0
    simp [hi'] at hi
    subst hi
    simp [eBool] at hj
    subst hj
    have := hcell i (by omega)
    simpa using this
end
end Go.Proofs.Ytnpgeohkmdcbkaa.Aq
