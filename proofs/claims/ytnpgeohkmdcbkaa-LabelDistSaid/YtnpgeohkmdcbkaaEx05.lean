/- The chapter's example of steps, by computing: a checker of greatest numbers. -/
import Derived.Test.YtnpgeohkmdcbkaaPlain8
import Derived.KernelRfl
namespace Go.Proofs.Ytnpgeohkmdcbkaa.Aq

def edgeL (c : Cs) (res : List Int) : List (Nat × Nat) := (List.range c.Head.length).filterMap fun a => if 0 < res.getD a 0 then some (tailOf c a, (c.Head.getD a 0).toNat) else none
theorem edgeL_mem {c : Cs} {res : List Int} {u w : Nat} : Edge c res u w ↔ (u, w) ∈ edgeL c res := by
  unfold Edge edgeL
  rw [List.mem_filterMap]
  constructor
  · rintro ⟨a, h1, h2, h3, h4⟩
    exact ⟨a, List.mem_range.2 h1, by rw [if_pos h4, h2, h3]⟩
  · rintro ⟨a, h1, h2⟩
    split at h2
    · rename_i h4
      injection h2 with h2
      injection h2 with h5 h6
      exact ⟨a, List.mem_range.1 h1, h5, h6, h4⟩
    · cases h2
def lowB (N : Nat) (es : List (Nat × Nat)) (h : Nat → Int) (D : List Int) : Bool :=
  Nat.beq D.length N && (List.range N).all (fun v => decide (0 ≤ D.getD v 0) && decide (D.getD v 0 ≤ h v) && (decide (D.getD v 0 = h v) || es.any fun e => Nat.beq e.1 v && Nat.blt e.2 N && decide (D.getD v 0 = D.getD e.2 0 + 1))) &&
    es.all fun e => decide (D.getD e.1 0 ≤ D.getD e.2 0 + 1)
theorem lowB_low {N : Nat} {es : List (Nat × Nat)} {h : Nat → Int} {D : List Int} (hb : lowB N es h D = true) {E : Nat → Nat → Prop} (hE : ∀ u w, E u w ↔ (u, w) ∈ es) : Low N E h D := by
  unfold lowB at hb
  simp only [Bool.and_eq_true, List.all_eq_true, List.mem_range, decide_eq_true_eq, Bool.or_eq_true, List.any_eq_true] at hb
  obtain ⟨⟨h1, h2⟩, h3⟩ := hb
  refine ⟨Nat.eq_of_beq_eq_true h1, fun v hv => (h2 v hv).1.1, fun v hv => (h2 v hv).1.2, fun u w _ _ he => h3 (u, w) ((hE u w).1 he), fun v hv => (h2 v hv).2.imp id fun ⟨e, h4, h5⟩ => ?_⟩
  have e1 := Nat.eq_of_beq_eq_true h5.1.1
  have e2 : e.2 < N := by have := h5.1.2; rwa [Nat.blt_eq] at this
  exact ⟨e.2, e2, (hE v e.2).2 (by rw [← e1]; exact h4), h5.2⟩
def swapL (es : List (Nat × Nat)) : List (Nat × Nat) := es.map fun e => (e.2, e.1)
theorem swapL_mem {es : List (Nat × Nat)} {u w : Nat} : (u, w) ∈ swapL es ↔ (w, u) ∈ es := by
  unfold swapL
  rw [List.mem_map]
  constructor
  · rintro ⟨e, h1, h2⟩
    injection h2 with h3 h4
    obtain ⟨a, b⟩ := e
    simp only at h3 h4
    subst h3; subst h4; exact h1
  · intro h; exact ⟨(w, u), h, rfl⟩
theorem to_ex {c : Cs} {res : List Int} {t : Nat} {D : List Int} (h : inB c res t = true) (hb : lowB c.N (edgeL c res) (hTo c.N t) D = true) : toL c res t = D := toL_eq h (lowB_low hb fun _ _ => edgeL_mem)
theorem from_ex {c : Cs} {res : List Int} {t : Nat} {D : List Int} (h : inB c res t = true) (hb : lowB c.N (swapL (edgeL c res)) (hTo c.N t) D = true) : fromL c res t = D := fromL_eq h (lowB_low hb fun _ _ => edgeL_mem.trans swapL_mem.symm)

def n05 : Nt := ⟨4, 0, 2, [(0, 1, 1), (1, 2, 1), (0, 2, 1)]⟩
theorem ok05 : NetOk n05 := ⟨by decide, by decide, by decide, by decide, by decide, by decide, by decide, by decide, fun a ha => by
  simp only [n05, List.mem_cons, List.not_mem_nil, or_false] at ha
  rcases ha with rfl | rfl | rfl <;> decide⟩
theorem m05a : (resL n05 []).length = 6 := by kernel_rfl
theorem m05b : (resL n05 [0, 0, 1]).length = 6 := by kernel_rfl
theorem to05a : toL (makeF n05) (resL n05 []) 2 = [1, 1, 0, 4] := to_ex (t := 2) (by kernel_rfl) (by kernel_rfl)
theorem from05a : fromL (makeF n05) (resL n05 []) 1 = [4, 0, 1, 4] := from_ex (t := 1) (by kernel_rfl) (by kernel_rfl)
theorem to05b : toL (makeF n05) (resL n05 [0, 0, 1]) 2 = [2, 1, 0, 4] := to_ex (t := 2) (by kernel_rfl) (by kernel_rfl)
theorem from05b : fromL (makeF n05) (resL n05 [0, 0, 1]) 2 = [1, 2, 0, 4] := from_ex (t := 2) (by kernel_rfl) (by kernel_rfl)
theorem rows05 : rowsL (makeF n05) (resL n05 []) 2 = [[2], [0, 1]] := by
  unfold rowsL
  rw [to05a]
  kernel_rfl
end Go.Proofs.Ytnpgeohkmdcbkaa.Aq
