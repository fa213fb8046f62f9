/- Plain mathematics of networks and of their residual arcs: no program. -/
namespace Go.Proofs.Ytnpgeohkmdcbkaa.Aq

/-- A number of a list. -/
def rd (xs : List Int) (i : Int) : Int := xs.getD i.toNat 0

structure Nt where
  N : Int
  S : Int
  T : Int
  arcs : List (Int × Int × Int)

structure NetOk (n : Nt) : Prop where
  lo : 2 ≤ n.N
  hi : n.N ≤ 16
  s0 : 0 ≤ n.S
  s1 : n.S < n.N
  t0 : 0 ≤ n.T
  t1 : n.T < n.N
  ne : n.S ≠ n.T
  len : n.arcs.length ≤ 40
  arc : ∀ a ∈ n.arcs, (0 ≤ a.1 ∧ a.1 < n.N) ∧ (0 ≤ a.2.1 ∧ a.2.1 < n.N) ∧ 0 ≤ a.2.2 ∧ a.2.2 ≤ 1125899906842623

/-- A number brought within. -/
def among (x n : Int) : Int := x % n
def capOf (c : Int) : Int := (if c < 0 then -(c + 1) else c) % 1125899906842624
def someN (n : Nt) : Nt :=
  let N := 2 + among n.N 15
  let S := among n.S N
  let T := among n.T N
  { N := N, S := S, T := if S = T then among (S + 1) N else T, arcs := (n.arcs.take 40).map fun a => (among a.1 N, among a.2.1 N, capOf a.2.2) }

theorem someN_ok (n : Nt) : NetOk (someN n) := by
  have h1 := Int.emod_nonneg n.N (by omega : (15 : Int) ≠ 0)
  have h2 := Int.emod_lt_of_pos n.N (by omega : (0 : Int) < 15)
  have hN : 0 < (someN n).N := by simp only [someN, among]; omega
  have em : ∀ x : Int, 0 ≤ x % (someN n).N ∧ x % (someN n).N < (someN n).N := fun x => ⟨Int.emod_nonneg x (by omega), Int.emod_lt_of_pos x hN⟩
  have hS : (someN n).S = n.S % (someN n).N := rfl
  have hT : (someN n).T = if n.S % (someN n).N = n.T % (someN n).N then (n.S % (someN n).N + 1) % (someN n).N else n.T % (someN n).N := rfl
  have hlo : 2 ≤ (someN n).N := by simp only [someN, among]; omega
  refine ⟨hlo, by simp only [someN, among]; omega, ?_, ?_, ?_, ?_, ?_, ?_, ?_⟩
  · rw [hS]; exact (em _).1
  · rw [hS]; exact (em _).2
  · rw [hT]; split
    · exact (em _).1
    · exact (em _).1
  · rw [hT]; split
    · exact (em _).2
    · exact (em _).2
  · rw [hS, hT]
    split
    · rename_i e
      intro h
      have a := em n.S
      generalize n.S % (someN n).N = s at h a
      generalize (someN n).N = M at h a hlo
      by_cases hl : s + 1 = M
      · rw [hl, Int.emod_self] at h; omega
      · rw [Int.emod_eq_of_lt (by omega) (by omega)] at h; omega
    · rename_i e; exact e
  · simp [someN]; omega
  · intro a ha
    simp only [someN, List.mem_map] at ha
    obtain ⟨b, _, rfl⟩ := ha
    refine ⟨em _, em _, ?_, ?_⟩
    · exact Int.emod_nonneg _ (by omega)
    · have := Int.emod_lt_of_pos (if b.2.2 < 0 then -(b.2.2 + 1) else b.2.2) (by omega : (0 : Int) < 1125899906842624)
      show (if b.2.2 < 0 then -(b.2.2 + 1) else b.2.2) % 1125899906842624 ≤ _
      omega

/-- A flow within the capacities, out of any numbers. -/
def withinAt (l : List Int) (i : Nat) (a : Int × Int × Int) : Int :=
  if l.length ≤ i ∨ a.1 = a.2.1 then 0 else (if l.getD i 0 < 0 then -(l.getD i 0 + 1) else l.getD i 0) % (a.2.2 + 1)
def withinL (n : Nt) (l : List Int) : List Int := n.arcs.zipIdx.map fun (a, i) => withinAt l i a

/-! ### Residual arcs -/
/-- head, capacity, arc, backward? -/
abbrev En := Int × Int × Int × Bool
def enOf (v : Int) (a : Int × Int × Int) (k : Nat) : List En :=
  if a.1 = a.2.1 then [] else (if a.1 = v then [(a.2.1, a.2.2, (k : Int), false)] else []) ++ (if a.2.1 = v then [(a.1, 0, (k : Int), true)] else [])
def partTo (arcs : List (Int × Int × Int)) (v : Nat) (k : Nat) : List En := (List.range k).flatMap fun i : Nat => enOf v (arcs.getD i (0, 0, 0)) i
def part (arcs : List (Int × Int × Int)) (v : Nat) : List En := partTo arcs v arcs.length
def ents (arcs : List (Int × Int × Int)) (v : Nat) : List En := (List.range v).flatMap fun u : Nat => part arcs u
def entsTo (arcs : List (Int × Int × Int)) (v k : Nat) : List En := ents arcs v ++ partTo arcs v k
def firstTo (arcs : List (Int × Int × Int)) (v : Nat) : List Int := (List.range v).map fun u => ((ents arcs u).length : Int)

structure Cs where
  N : Nat
  S : Nat
  T : Nat
  First : List Int
  Head : List Int
  Rev : List Int
  Cap : List Int
  Arc : List Int
  Back : List Bool

def rowF (Arc : List Int) (i k : Nat) : List Int := ((List.range k).filter fun j => decide (Arc.getD i 0 = Arc.getD j 0) && !decide (i = j)).map Int.ofNat
def revTo (Arc : List Int) (i : Nat) : List Int := (List.range i).flatMap fun i => rowF Arc i Arc.length
def makeF (n : Nt) : Cs :=
  let E := ents n.arcs n.N.toNat
  { N := n.N.toNat, S := n.S.toNat, T := n.T.toNat, First := firstTo n.arcs (n.N.toNat + 1), Head := E.map (·.1), Cap := E.map (·.2.1), Arc := E.map (·.2.2.1), Back := E.map (·.2.2.2), Rev := revTo (E.map (·.2.2.1)) E.length }

theorem entsTo_zero (arcs : List (Int × Int × Int)) (v : Nat) : entsTo arcs v 0 = ents arcs v := by simp [entsTo, partTo]
theorem entsTo_all (arcs : List (Int × Int × Int)) (v : Nat) : entsTo arcs v arcs.length = ents arcs (v + 1) := by
  simp [entsTo, ents, List.range_succ, part]
theorem entsTo_succ (arcs : List (Int × Int × Int)) (v k : Nat) : entsTo arcs v (k + 1) = entsTo arcs v k ++ enOf v (arcs.getD k (0, 0, 0)) k := by
  simp [entsTo, partTo, List.range_succ]
theorem enOf_loop {v : Int} {a : Int × Int × Int} {k : Nat} (h : a.1 = a.2.1) : enOf v a k = [] := if_pos h
theorem enOf_from {v : Int} {a : Int × Int × Int} {k : Nat} (h : ¬ a.1 = a.2.1) (h1 : a.1 = v) : enOf v a k = [(a.2.1, a.2.2, (k : Int), false)] := by
  unfold enOf
  rw [if_neg h, if_pos h1, if_neg (by omega)]
  rfl
theorem enOf_to {v : Int} {a : Int × Int × Int} {k : Nat} (h : ¬ a.1 = a.2.1) (h1 : ¬ a.1 = v) (h2 : a.2.1 = v) : enOf v a k = [(a.1, 0, (k : Int), true)] := by
  unfold enOf
  rw [if_neg h, if_neg h1, if_pos h2]
  rfl
theorem enOf_no {v : Int} {a : Int × Int × Int} {k : Nat} (h : ¬ a.1 = a.2.1) (h1 : ¬ a.1 = v) (h2 : ¬ a.2.1 = v) : enOf v a k = [] := by
  unfold enOf
  rw [if_neg h, if_neg h1, if_neg h2]
  rfl
theorem enOf_len (v : Int) (a : Int × Int × Int) (k : Nat) : (enOf v a k).length ≤ 2 := by
  unfold enOf
  split
  · simp
  · split <;> split <;> simp
theorem partTo_len (arcs : List (Int × Int × Int)) (v k : Nat) : (partTo arcs v k).length ≤ 2 * k := by
  induction k with
  | zero => simp [partTo]
  | succ k ih =>
    have : partTo arcs v (k + 1) = partTo arcs v k ++ enOf v (arcs.getD k (0, 0, 0)) k := by simp [partTo, List.range_succ]
    have h2 := enOf_len v (arcs.getD k (0, 0, 0)) k
    rw [this, List.length_append]
    omega
theorem ents_len (arcs : List (Int × Int × Int)) (h : arcs.length ≤ 40) (v : Nat) : (ents arcs v).length ≤ 80 * v := by
  induction v with
  | zero => simp [ents]
  | succ v ih =>
    rw [← entsTo_all, entsTo, List.length_append]
    have := partTo_len arcs v arcs.length
    omega
theorem entsTo_len (arcs : List (Int × Int × Int)) (h : arcs.length ≤ 40) {v k : Nat} (hv : v < 16) (hk : k ≤ arcs.length) : (entsTo arcs v k).length ≤ 1280 := by
  rw [entsTo, List.length_append]
  have := partTo_len arcs v k
  have := ents_len arcs h v
  omega
theorem firstTo_succ (arcs : List (Int × Int × Int)) (v : Nat) : firstTo arcs (v + 1) = firstTo arcs v ++ [((ents arcs v).length : Int)] := by
  simp [firstTo, List.range_succ]
theorem rowF_succ (Arc : List Int) (i k : Nat) : rowF Arc i (k + 1) = rowF Arc i k ++ (if (decide (Arc.getD i 0 = Arc.getD k 0) && !decide (i = k)) = true then [(k : Int)] else []) := by
  unfold rowF
  rw [List.range_succ, List.filter_append, List.map_append]
  congr 1
  split <;> simp_all
theorem rowF_len (Arc : List Int) (i k : Nat) : (rowF Arc i k).length ≤ k := by
  unfold rowF
  rw [List.length_map]
  exact Nat.le_trans (List.length_filter_le _ _) (by simp)
theorem revTo_succ (Arc : List Int) (i : Nat) : revTo Arc (i + 1) = revTo Arc i ++ rowF Arc i Arc.length := by
  simp [revTo, List.range_succ]
theorem revTo_len (Arc : List Int) (i : Nat) : (revTo Arc i).length ≤ i * Arc.length := by
  induction i with
  | zero => simp [revTo]
  | succ i ih =>
    rw [revTo_succ, List.length_append, Nat.add_mul]
    have := rowF_len Arc i Arc.length
    omega

/-- Of such rows all is known that the proofs ask. -/
structure WF (c : Cs) : Prop where
  lo : 2 ≤ c.N
  hi : c.N ≤ 16
  s : c.S < c.N
  t : c.T < c.N
  ne : c.S ≠ c.T
  fl : c.First.length = c.N + 1
  m : c.Head.length ≤ 1280
  rl : c.Rev.length = c.Head.length
  cl : c.Cap.length = c.Head.length
  al : c.Arc.length = c.Head.length
  bl : c.Back.length = c.Head.length
  f0 : c.First.getD 0 0 = 0
  fm : ∀ v, v < c.N → c.First.getD v 0 ≤ c.First.getD (v + 1) 0
  fN : c.First.getD c.N 0 = c.Head.length
  hd : ∀ a, a < c.Head.length → 0 ≤ c.Head.getD a 0 ∧ c.Head.getD a 0 < c.N
  rv : ∀ a, a < c.Head.length → 0 ≤ c.Rev.getD a 0 ∧ c.Rev.getD a 0 < c.Head.length
  rr : ∀ a, a < c.Head.length → c.Rev.getD (c.Rev.getD a 0).toNat 0 = a
  tl : ∀ v a : Nat, v < c.N → a < c.Head.length → c.First.getD v 0 ≤ a → a < c.First.getD (v + 1) 0 →
    c.First.getD (c.Head.getD a 0).toNat 0 ≤ c.Rev.getD a 0 ∧ c.Rev.getD a 0 < c.First.getD ((c.Head.getD a 0).toNat + 1) 0 ∧ c.Head.getD (c.Rev.getD a 0).toNat 0 = v ∧ c.Head.getD a 0 ≠ v

end Go.Proofs.Ytnpgeohkmdcbkaa.Aq
