/- The chapter's example of heights, by computing. -/
import Derived.Test.YtnpgeohkmdcbkaaPlain3
import Derived.KernelRfl
namespace Go.Proofs.Ytnpgeohkmdcbkaa.Aq

def n06 : Nt := ⟨3, 0, 2, [(0, 1, 5), (1, 2, 5)]⟩
theorem ok06 : NetOk n06 := ⟨by decide, by decide, by decide, by decide, by decide, by decide, by decide, by decide, fun a ha => by
  simp only [n06, List.mem_cons, List.not_mem_nil, or_false] at ha
  rcases ha with rfl | rfl <;> decide⟩
theorem m06 : (resL n06 []).length = 4 := by kernel_rfl
theorem valid06 : validB (makeF n06) (resL n06 []) [3, 1, 0] = true := by kernel_rfl
theorem flat06 : flatL (makeF n06) (resL n06 []) [3, 1, 0] = [2] := by kernel_rfl
theorem steep06 : steepL (makeF n06) (resL n06 []) [3, 2, 0] = [2] := by kernel_rfl
theorem none06 : flatL (makeF n06) (resL n06 []) [3, 0, 0] = [] := by kernel_rfl
theorem sum06 : sumB (makeF n06) [3, 1, 0] = 4 := by kernel_rfl
theorem may06 : mayB (makeF n06) (resL n06 []) [3, 1, 0] = true := by kernel_rfl
theorem least06 : LeastR (makeF n06) (resL n06 []) [3, 1, 0] 1 2 0 true := by
  have f1 : (makeF n06).First.getD 1 0 = 1 := by kernel_rfl
  have f2 : (makeF n06).First.getD 2 0 = 3 := by kernel_rfl
  have r1 : (resL n06 []).getD 1 0 = 0 := by kernel_rfl
  have r2 : (resL n06 []).getD 2 0 = 5 := by kernel_rfl
  have e2 : endH (makeF n06) [3, 1, 0] 2 = 0 := by kernel_rfl
  have key : ∀ a, Opn (makeF n06) (resL n06 []) 1 a → a = 2 := fun a ⟨h1, h2, h3⟩ => by
    rw [f1] at h1
    rw [show (1 + 1 : Nat) = 2 from rfl, f2] at h2
    rcases (by omega : a = 1 ∨ a = 2) with rfl | rfl
    · rw [show (1 : Int).toNat = 1 from rfl, r1] at h3; omega
    · rfl
  refine .inl ⟨may06, by decide, by decide, rfl, ⟨by show (makeF n06).First.getD 1 0 ≤ 2; rw [f1]; decide, by show (2 : Int) < (makeF n06).First.getD 2 0; rw [f2]; decide, by show 0 < (resL n06 []).getD 2 0; rw [r2]; decide⟩, e2.symm, fun a ha => ?_, fun a ha ho => ?_⟩
  · rw [key a ha, e2]; decide
  · have := key a ho; omega
end Go.Proofs.Ytnpgeohkmdcbkaa.Aq
