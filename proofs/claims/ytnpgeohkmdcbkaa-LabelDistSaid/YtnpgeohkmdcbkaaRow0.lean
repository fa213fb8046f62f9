/- How the laws' arguments read: what their walks ask of them. -/
import Derived.Test.YtnpgeohkmdcbkaaRows
import Derived.Test.YtnpgeohkmdcbkaaA1
import Derived.ProofKit
import Derived.OpenShut
import Derived.SizedLaws
import Derived.Below
import Derived.ChangeOld
import Derived.Lib.SmallJoins
import Derived.Deep.Slices
import Derived.Deep.Strs
import Derived.Deep.Grids
namespace Go.Proofs.Ytnpgeohkmdcbkaa.Aq
open Go Go.RowKit Go.ChangeShapes Go.WideShapes Go.ChangeAt Go.Joins Go.Deep

theorem own0 : ownKnob Try.prog.godebug = none := by kernel_rfl
theorem laidOut0 : laidOutB Try.prog = true := by kernel_rfl

section
variable {H : Type} {enc : TypeId × Value → H} {W : World} {base : Nat} {v : Value} {d : DataW H} {p : List MemPlace}

set_option maxRecDepth 100000 in
/-- A slice of integers. -/
theorem row_ints {t e : TypeId} {k : IntKind} (ht : Try.prog.underlying t = some (.slice e)) (he : Try.prog.underlying e = some (.int k)) (hc : Try.prog.cellsOf e = 1) (hb : 1 ≤ Try.prog.bytesOf e)
    (hv : Value.okWide Try.prog W .any base t v) (h : DataW.Trod enc Try.prog W 0 (fun _ => true) true t v d p) (hw : ∀ n ∈ d.weights Try.prog t, n ≤ reachBytes) :
    ∃ A c xs, v = .slice A xs.length c ∧ (sl (eInt k) 1 A xs.length c xs).p W ∧ ∀ x ∈ xs, (Lit.int k x).wf = true := by
  obtain ⟨a0, len0, cap0, rfl⟩ := okWide_slice ht hv
  obtain ⟨fuel, hf⟩ := h
  rcases open_ints ht he hc hf with ⟨hcs, hx⟩ | ⟨a, len, cap, zs, hcs, _, hl, hm, hz, hx, hcell, hwz⟩
  · simp [Value.cells] at hcs
    obtain ⟨rfl, rfl, rfl⟩ := hcs
    exact ⟨none, 0, [], rfl, ⟨⟨rfl, Nat.le_refl _⟩, Nat.zero_le _, fun i x hi => by simp at hi⟩, fun x hx => by cases hx⟩
  · simp [Value.cells] at hcs
    obtain ⟨rfl, rfl, rfl⟩ := hcs
    simp only [if_true] at hz
    have hlen : (zs.take len0).length = len0 := by rw [List.length_take]; omega
    have hsz : len0 ≤ 140737488351232 := by
      simp only [Prod.mk.injEq] at hx
      have h1 := hw ((zs.length) * Try.prog.bytesOf e) (by
        rw [hx.1]
        simp only [DataW.weights, ht, List.mem_cons]
        left
        simp only [lits, List.length_map]
        rw [← List.length_append, List.take_append_drop])
      have h2 : zs.length ≤ zs.length * Try.prog.bytesOf e := Nat.le_mul_of_pos_right _ hb
      have : reachBytes = 140737488351232 := rfl
      omega
    refine ⟨some a, cap0, zs.take len0, by rw [hlen], ⟨⟨rfl, by omega⟩, by omega, fun i x hi j u hj => ⟨a, rfl, ?_⟩⟩, fun x hx => hwz x (List.mem_of_mem_take hx)⟩
    rw [List.getElem?_take] at hi
    split at hi
    · have hi' := (List.getElem?_eq_some_iff.1 hi).1
      have hj0 : j = 0 := by
        have := (List.getElem?_eq_some_iff.1 hj).1
        simp [eInt] at this
        exact this
      subst hj0
      simp [eInt] at hj
      subst hj
      have := hcell i hi'
      rw [List.getD_eq_getElem?_getD, hi] at this
      simpa using this
    · cases hi

theorem choose_list {α : Type} {P : Nat → α → Prop} : ∀ (n : Nat), (∀ i, i < n → ∃ x, P i x) → ∃ xs : List α, xs.length = n ∧ ∀ i x, xs[i]? = some x → P i x
  | 0, _ => ⟨[], rfl, fun i x h => by simp at h⟩
  | n + 1, h => by
    obtain ⟨xs, h1, h2⟩ := choose_list n fun i hi => h i (by omega)
    obtain ⟨y, hy⟩ := h n (by omega)
    refine ⟨xs ++ [y], by simp [h1], fun i x hi => ?_⟩
    rw [List.getElem?_append] at hi
    split at hi
    · exact h2 i x hi
    · rename_i hlt
      have : i - xs.length = 0 := by have := (List.getElem?_eq_some_iff.1 hi).1; simp at this; omega
      rw [this] at hi
      simp at hi
      subst hi
      have : i = n := by omega
      subst this
      exact hy

theorem cells24 : Try.prog.cellsOf 24 = 4 := by kernel_rfl
theorem cells82 : Try.prog.cellsOf 82 = 3 := by kernel_rfl
theorem cells3 : Try.prog.cellsOf 3 = 1 := by kernel_rfl
theorem cells2 : Try.prog.cellsOf 2 = 1 := by kernel_rfl
theorem bytes82 : Try.prog.bytesOf 82 = 24 := by kernel_rfl

set_option maxRecDepth 100000 in
/-- A network. -/
theorem row_net (hv : Value.okWide Try.prog W .any base 24 v) (h : DataW.Trod enc Try.prog W 0 (fun _ => true) true 24 v d p) (hw : ∀ n ∈ d.weights Try.prog 24, n ≤ reachBytes) :
    ∃ (n : Nt) (A : Option Addr) (c : Nat), v = netV n A c ∧ (sl eArc 3 A n.arcs.length c n.arcs).p W ∧ (-9223372036854775808 ≤ n.N ∧ n.N ≤ 9223372036854775807) ∧ (-9223372036854775808 ≤ n.S ∧ n.S ≤ 9223372036854775807) ∧ (-9223372036854775808 ≤ n.T ∧ n.T ≤ 9223372036854775807) ∧
      ∀ a ∈ n.arcs, -9223372036854775808 ≤ a.1 ∧ a.1 ≤ 9223372036854775807 ∧ -9223372036854775808 ≤ a.2.1 ∧ a.2.1 ≤ 9223372036854775807 ∧ -9223372036854775808 ≤ a.2.2 ∧ a.2.2 ≤ 9223372036854775807 := by
  obtain ⟨v0, v1, v2, v3, y0, y1, y2, y3, m, rfl, rfl, rfl, hy0, hy1, hy2, hy3⟩ := open_agg4 Try.underlying24 (by kernel_rfl) cells24 hv h
  obtain ⟨xN, e0, rfl, w0⟩ := DataW.trod_int Try.underlying3 hy0
  obtain ⟨xS, e1, rfl, w1⟩ := DataW.trod_int Try.underlying3 hy1
  obtain ⟨xT, e2, rfl, w2⟩ := DataW.trod_int Try.underlying3 hy2
  obtain rfl : v0 = .int .i64 xN := by simpa using e0
  obtain rfl : v1 = .int .i64 xS := by simpa using e1
  obtain rfl : v2 = .int .i64 xT := by simpa using e2
  have b0 := bounds_i64 w0
  have b1 := bounds_i64 w1
  have b2 := bounds_i64 w2
  rcases open_slice Try.underlying22 hy3 with ⟨hcs, hx⟩ | ⟨a, len, cap, mm, nn, D, Pl, hcs, _, hl, hm, hmm, hx, hel⟩
  · obtain rfl : v3 = .slice none 0 0 := by simpa using hcs
    exact ⟨⟨xN, xS, xT, []⟩, none, 0, rfl, ⟨⟨rfl, Nat.le_refl _⟩, Nat.zero_le _, fun i x hi => by simp at hi⟩, b0, b1, b2, fun a ha => by cases ha⟩
  · obtain rfl : v3 = .slice (some a) len cap := by simpa using hcs
    simp only [if_true] at hmm
    subst hmm
    have hsz : len ≤ 140737488351232 := by
      have h1 := hw (mm * Try.prog.bytesOf 82) (by
        rw [hx]
        simp only [DataW.weights, Try.underlying24, Try.underlying22, DataW.weightsEach, List.map_cons, List.map_nil, List.mem_append, List.mem_cons, List.length_map, List.length_range]
        right; right; right; left; left
        congr 1
        omega)
      rw [bytes82] at h1
      have : reachBytes = 140737488351232 := rfl
      omega
    have each : ∀ i, i < len → ∃ x : Int × Int × Int, (∀ j u, (eArc x)[j]? = some u → W.cell? (a.add (i * 3 + j)) = some u) ∧ (-9223372036854775808 ≤ x.1 ∧ x.1 ≤ 9223372036854775807 ∧ -9223372036854775808 ≤ x.2.1 ∧ x.2.1 ≤ 9223372036854775807 ∧ -9223372036854775808 ≤ x.2.2 ∧ x.2.2 ≤ 9223372036854775807) := fun i hi => by
      obtain ⟨cs', h1, h2⟩ := hel i (by omega)
      rw [cells82] at h1
      obtain ⟨_, hlen, hcell⟩ := World.cells?_some h1
      obtain ⟨z0, z1, z2, n3, _, _, hz0, hz1, hz2⟩ := trod_struct3 Try.underlying82 h2
      obtain ⟨x0, f0, _, g0⟩ := DataW.trod_int Try.underlying3 hz0
      obtain ⟨x1, f1, _, g1⟩ := DataW.trod_int Try.underlying3 hz1
      obtain ⟨x2, f2, _, g2⟩ := DataW.trod_int Try.underlying2 hz2
      have t0 := bounds_i64 g0
      have t1 := bounds_i64 g1
      have t2 := bounds_i64 g2
      rw [cells3] at f0 f1
      rw [cells2] at f2
      match cs', hlen with
      | [u0, u1, u2], _ =>
        simp at f0 f1 f2
        subst f0; subst f1; subst f2
        refine ⟨(x0, x1, x2), fun j u hj => ?_, t0.1, t0.2, t1.1, t1.2, t2.1, t2.2⟩
        have hj3 : j < 3 := by have := (List.getElem?_eq_some_iff.1 hj).1; simpa [eArc] using this
        have := hcell j hj3
        rw [← add_add, this, ← hj]
        rfl
    obtain ⟨xs, hxl, hxs⟩ := choose_list len each
    subst hxl
    refine ⟨⟨xN, xS, xT, xs⟩, some a, mm, rfl, ⟨⟨rfl, hl⟩, hsz, fun i x hi j u hj => ⟨a, rfl, (hxs i x hi).1 j u hj⟩⟩, b0, b1, b2, fun x hx => ?_⟩
    obtain ⟨i, hi, rfl⟩ := List.mem_iff_getElem.1 hx
    exact (hxs i _ (List.getElem?_eq_getElem hi)).2
end
end Go.Proofs.Ytnpgeohkmdcbkaa.Aq
