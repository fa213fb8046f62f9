/- Plain mathematics of networks and of their residual arcs: no program. Plain mathematics of residual arcs: the row of a right net is as all later proofs ask. Plain mathematics of a row: where an arc begins. Plain mathematics of heights: what the package label tells. Plain mathematics: the greatest numbers below given ones that fall by at most one along each edge. No condition but those that each lemma names. Plain mathematics: a search by a queue that grows. No condition but those that each lemma names. No condition but those that each lemma names. -/
namespace Go.Proofs.Ytnpgeohkmdcbkaa.Aq

/-- A number of a list. -/
def rd (xs : List Int) (i : Int) : Int := xs.getD i.toNat 0

structure Nt where
  N : Int
  S : Int
  T : Int
  arcs : List (Int × Int × Int)

structure NetOk (n : Nt) : Prop where
  lo : 2 ≤ n.N
  hi : n.N ≤ 16
  s0 : 0 ≤ n.S
  s1 : n.S < n.N
  t0 : 0 ≤ n.T
  t1 : n.T < n.N
  ne : n.S ≠ n.T
  len : n.arcs.length ≤ 40
  arc : ∀ a ∈ n.arcs, (0 ≤ a.1 ∧ a.1 < n.N) ∧ (0 ≤ a.2.1 ∧ a.2.1 < n.N) ∧ 0 ≤ a.2.2 ∧ a.2.2 ≤ 1125899906842623

/-- A number brought within. -/
def among (x n : Int) : Int := x % n
def capOf (c : Int) : Int := (if c < 0 then -(c + 1) else c) % 1125899906842624
def someN (n : Nt) : Nt :=
  let N := 2 + among n.N 15
  let S := among n.S N
  let T := among n.T N
  { N := N, S := S, T := if S = T then among (S + 1) N else T, arcs := (n.arcs.take 40).map fun a => (among a.1 N, among a.2.1 N, capOf a.2.2) }

theorem someN_ok (n : Nt) : NetOk (someN n) := by
  have h1 := Int.emod_nonneg n.N (by omega : (15 : Int) ≠ 0)
  have h2 := Int.emod_lt_of_pos n.N (by omega : (0 : Int) < 15)
  have hN : 0 < (someN n).N := by simp only [someN, among]; omega
  have em : ∀ x : Int, 0 ≤ x % (someN n).N ∧ x % (someN n).N < (someN n).N := fun x => ⟨Int.emod_nonneg x (by omega), Int.emod_lt_of_pos x hN⟩
  have hS : (someN n).S = n.S % (someN n).N := rfl
  have hT : (someN n).T = if n.S % (someN n).N = n.T % (someN n).N then (n.S % (someN n).N + 1) % (someN n).N else n.T % (someN n).N := rfl
  have hlo : 2 ≤ (someN n).N := by simp only [someN, among]; omega
  refine ⟨hlo, by simp only [someN, among]; omega, ?_, ?_, ?_, ?_, ?_, ?_, ?_⟩
  · rw [hS]; exact (em _).1
  · rw [hS]; exact (em _).2
  · rw [hT]; split
    · exact (em _).1
    · exact (em _).1
  · rw [hT]; split
    · exact (em _).2
    · exact (em _).2
  · rw [hS, hT]
    split
    · rename_i e
      intro h
      have a := em n.S
      generalize n.S % (someN n).N = s at h a
      generalize (someN n).N = M at h a hlo
      by_cases hl : s + 1 = M
      · rw [hl, Int.emod_self] at h; omega
      · rw [Int.emod_eq_of_lt (by omega) (by omega)] at h; omega
    · rename_i e; exact e
  · simp [someN]; omega
  · intro a ha
    simp only [someN, List.mem_map] at ha
    obtain ⟨b, _, rfl⟩ := ha
    refine ⟨em _, em _, ?_, ?_⟩
    · exact Int.emod_nonneg _ (by omega)
    · have := Int.emod_lt_of_pos (if b.2.2 < 0 then -(b.2.2 + 1) else b.2.2) (by omega : (0 : Int) < 1125899906842624)
      show (if b.2.2 < 0 then -(b.2.2 + 1) else b.2.2) % 1125899906842624 ≤ _
      omega

/-- A flow within the capacities, out of any numbers. -/
def withinAt (l : List Int) (i : Nat) (a : Int × Int × Int) : Int :=
  if l.length ≤ i ∨ a.1 = a.2.1 then 0 else (if l.getD i 0 < 0 then -(l.getD i 0 + 1) else l.getD i 0) % (a.2.2 + 1)
def withinL (n : Nt) (l : List Int) : List Int := n.arcs.zipIdx.map fun (a, i) => withinAt l i a

/-! ### Residual arcs -/
/-- head, capacity, arc, backward? -/
abbrev En := Int × Int × Int × Bool
def enOf (v : Int) (a : Int × Int × Int) (k : Nat) : List En :=
  if a.1 = a.2.1 then [] else (if a.1 = v then [(a.2.1, a.2.2, (k : Int), false)] else []) ++ (if a.2.1 = v then [(a.1, 0, (k : Int), true)] else [])
def partTo (arcs : List (Int × Int × Int)) (v : Nat) (k : Nat) : List En := (List.range k).flatMap fun i : Nat => enOf v (arcs.getD i (0, 0, 0)) i
def part (arcs : List (Int × Int × Int)) (v : Nat) : List En := partTo arcs v arcs.length
def ents (arcs : List (Int × Int × Int)) (v : Nat) : List En := (List.range v).flatMap fun u : Nat => part arcs u
def entsTo (arcs : List (Int × Int × Int)) (v k : Nat) : List En := ents arcs v ++ partTo arcs v k
def firstTo (arcs : List (Int × Int × Int)) (v : Nat) : List Int := (List.range v).map fun u => ((ents arcs u).length : Int)

structure Cs where
  N : Nat
  S : Nat
  T : Nat
  First : List Int
  Head : List Int
  Rev : List Int
  Cap : List Int
  Arc : List Int
  Back : List Bool

def rowF (Arc : List Int) (i k : Nat) : List Int := ((List.range k).filter fun j => decide (Arc.getD i 0 = Arc.getD j 0) && !decide (i = j)).map Int.ofNat
def revTo (Arc : List Int) (i : Nat) : List Int := (List.range i).flatMap fun i => rowF Arc i Arc.length
def makeF (n : Nt) : Cs :=
  let E := ents n.arcs n.N.toNat
  { N := n.N.toNat, S := n.S.toNat, T := n.T.toNat, First := firstTo n.arcs (n.N.toNat + 1), Head := E.map (·.1), Cap := E.map (·.2.1), Arc := E.map (·.2.2.1), Back := E.map (·.2.2.2), Rev := revTo (E.map (·.2.2.1)) E.length }

theorem entsTo_zero (arcs : List (Int × Int × Int)) (v : Nat) : entsTo arcs v 0 = ents arcs v := by simp [entsTo, partTo]
theorem entsTo_all (arcs : List (Int × Int × Int)) (v : Nat) : entsTo arcs v arcs.length = ents arcs (v + 1) := by
  simp [entsTo, ents, List.range_succ, part]
theorem entsTo_succ (arcs : List (Int × Int × Int)) (v k : Nat) : entsTo arcs v (k + 1) = entsTo arcs v k ++ enOf v (arcs.getD k (0, 0, 0)) k := by
  simp [entsTo, partTo, List.range_succ]
theorem enOf_loop {v : Int} {a : Int × Int × Int} {k : Nat} (h : a.1 = a.2.1) : enOf v a k = [] := if_pos h
theorem enOf_from {v : Int} {a : Int × Int × Int} {k : Nat} (h : ¬ a.1 = a.2.1) (h1 : a.1 = v) : enOf v a k = [(a.2.1, a.2.2, (k : Int), false)] := by
  unfold enOf
  rw [if_neg h, if_pos h1, if_neg (by omega)]
  rfl
theorem enOf_to {v : Int} {a : Int × Int × Int} {k : Nat} (h : ¬ a.1 = a.2.1) (h1 : ¬ a.1 = v) (h2 : a.2.1 = v) : enOf v a k = [(a.1, 0, (k : Int), true)] := by
  unfold enOf
  rw [if_neg h, if_neg h1, if_pos h2]
  rfl
theorem enOf_no {v : Int} {a : Int × Int × Int} {k : Nat} (h : ¬ a.1 = a.2.1) (h1 : ¬ a.1 = v) (h2 : ¬ a.2.1 = v) : enOf v a k = [] := by
  unfold enOf
  rw [if_neg h, if_neg h1, if_neg h2]
  rfl
theorem enOf_len (v : Int) (a : Int × Int × Int) (k : Nat) : (enOf v a k).length ≤ 2 := by
  unfold enOf
  split
  · simp
  · split <;> split <;> simp
theorem partTo_len (arcs : List (Int × Int × Int)) (v k : Nat) : (partTo arcs v k).length ≤ 2 * k := by
  induction k with
  | zero => simp [partTo]
  | succ k ih =>
    have : partTo arcs v (k + 1) = partTo arcs v k ++ enOf v (arcs.getD k (0, 0, 0)) k := by simp [partTo, List.range_succ]
    have h2 := enOf_len v (arcs.getD k (0, 0, 0)) k
    rw [this, List.length_append]
    omega
theorem ents_len (arcs : List (Int × Int × Int)) (h : arcs.length ≤ 40) (v : Nat) : (ents arcs v).length ≤ 80 * v := by
  induction v with
  | zero => simp [ents]
  | succ v ih =>
    rw [← entsTo_all, entsTo, List.length_append]
    have := partTo_len arcs v arcs.length
    omega
theorem entsTo_len (arcs : List (Int × Int × Int)) (h : arcs.length ≤ 40) {v k : Nat} (hv : v < 16) (hk : k ≤ arcs.length) : (entsTo arcs v k).length ≤ 1280 := by
  rw [entsTo, List.length_append]
  have := partTo_len arcs v k
  have := ents_len arcs h v
  omega
theorem firstTo_succ (arcs : List (Int × Int × Int)) (v : Nat) : firstTo arcs (v + 1) = firstTo arcs v ++ [((ents arcs v).length : Int)] := by
  simp [firstTo, List.range_succ]
theorem rowF_succ (Arc : List Int) (i k : Nat) : rowF Arc i (k + 1) = rowF Arc i k ++ (if (decide (Arc.getD i 0 = Arc.getD k 0) && !decide (i = k)) = true then [(k : Int)] else []) := by
  unfold rowF
  rw [List.range_succ, List.filter_append, List.map_append]
  congr 1
  split <;> simp_all
theorem rowF_len (Arc : List Int) (i k : Nat) : (rowF Arc i k).length ≤ k := by
  unfold rowF
  rw [List.length_map]
  exact Nat.le_trans (List.length_filter_le _ _) (by simp)
theorem revTo_succ (Arc : List Int) (i : Nat) : revTo Arc (i + 1) = revTo Arc i ++ rowF Arc i Arc.length := by
  simp [revTo, List.range_succ]
theorem revTo_len (Arc : List Int) (i : Nat) : (revTo Arc i).length ≤ i * Arc.length := by
  induction i with
  | zero => simp [revTo]
  | succ i ih =>
    rw [revTo_succ, List.length_append, Nat.add_mul]
    have := rowF_len Arc i Arc.length
    omega

/-- Of such rows all is known that the proofs ask. -/
structure WF (c : Cs) : Prop where
  lo : 2 ≤ c.N
  hi : c.N ≤ 16
  s : c.S < c.N
  t : c.T < c.N
  ne : c.S ≠ c.T
  fl : c.First.length = c.N + 1
  m : c.Head.length ≤ 1280
  rl : c.Rev.length = c.Head.length
  cl : c.Cap.length = c.Head.length
  al : c.Arc.length = c.Head.length
  bl : c.Back.length = c.Head.length
  f0 : c.First.getD 0 0 = 0
  fm : ∀ v, v < c.N → c.First.getD v 0 ≤ c.First.getD (v + 1) 0
  fN : c.First.getD c.N 0 = c.Head.length
  hd : ∀ a, a < c.Head.length → 0 ≤ c.Head.getD a 0 ∧ c.Head.getD a 0 < c.N
  rv : ∀ a, a < c.Head.length → 0 ≤ c.Rev.getD a 0 ∧ c.Rev.getD a 0 < c.Head.length
  rr : ∀ a, a < c.Head.length → c.Rev.getD (c.Rev.getD a 0).toNat 0 = a
  tl : ∀ v a : Nat, v < c.N → a < c.Head.length → c.First.getD v 0 ≤ a → a < c.First.getD (v + 1) 0 →
    c.First.getD (c.Head.getD a 0).toNat 0 ≤ c.Rev.getD a 0 ∧ c.Rev.getD a 0 < c.First.getD ((c.Head.getD a 0).toNat + 1) 0 ∧ c.Head.getD (c.Rev.getD a 0).toNat 0 = v ∧ c.Head.getD a 0 ≠ v

end Go.Proofs.Ytnpgeohkmdcbkaa.Aq

namespace Go.Proofs.Ytnpgeohkmdcbkaa.Aq

def resAt (c : Cs) (f : List Int) (a : Nat) : Int :=
  if c.Back.getD a false = true then f.getD (c.Arc.getD a 0).toNat 0 else c.Cap.getD a 0 + c.Cap.getD (c.Rev.getD a 0).toNat 0 - f.getD (c.Arc.getD a 0).toNat 0
def resTo (c : Cs) (f : List Int) (k : Nat) : List Int := (List.range k).map (resAt c f)
theorem resTo_back {c : Cs} {f : List Int} {k : Nat} (h : c.Back.getD (k : Int).toNat false = true) : resTo c f (k + 1) = resTo c f k ++ [f.getD (c.Arc.getD (k : Int).toNat 0).toNat 0] := by
  simp only [resTo, List.range_succ, List.map_append, List.map_cons, List.map_nil]
  congr 2
  exact if_pos h
theorem resTo_fwd {c : Cs} {f : List Int} {k : Nat} (h : c.Back.getD (k : Int).toNat false = false) : resTo c f (k + 1) = resTo c f k ++ [c.Cap.getD (k : Int).toNat 0 + c.Cap.getD (c.Rev.getD (k : Int).toNat 0).toNat 0 - f.getD (c.Arc.getD (k : Int).toNat 0).toNat 0] := by
  simp only [resTo, List.range_succ, List.map_append, List.map_cons, List.map_nil]
  congr 2
  exact if_neg (by rw [show c.Back.getD k false = false from h]; decide)
/-- What a flow must be that it leaves something. -/
def FlowOk (c : Cs) (f : List Int) : Prop := ∀ a, a < c.Head.length → 0 ≤ c.Arc.getD a 0 ∧ c.Arc.getD a 0 < f.length ∧ 0 ≤ f.getD (c.Arc.getD a 0).toNat 0 ∧ f.getD (c.Arc.getD a 0).toNat 0 ≤ c.Cap.getD a 0 + c.Cap.getD (c.Rev.getD a 0).toNat 0 ∧
  0 ≤ c.Cap.getD a 0 ∧ c.Cap.getD a 0 ≤ 1125899906842623 ∧ 0 ≤ c.Cap.getD (c.Rev.getD a 0).toNat 0 ∧ c.Cap.getD (c.Rev.getD a 0).toNat 0 ≤ 1125899906842623
theorem ents_succ (as : List (Int × Int × Int)) (v : Nat) : ents as (v + 1) = ents as v ++ part as v := by
  simp [ents, List.range_succ]
theorem ents_mono (as : List (Int × Int × Int)) {v u : Nat} (h : v ≤ u) : (ents as v).length ≤ (ents as u).length := by
  induction u with
  | zero => have : v = 0 := by omega
            subst this; exact Nat.le_refl _
  | succ u ih =>
    rcases Nat.lt_or_ge u v with h1 | h1
    · have : v = u + 1 := by omega
      subst this; exact Nat.le_refl _
    · rw [ents_succ, List.length_append]
      have := ih h1
      omega
theorem seg_get (as : List (Int × Int × Int)) {v i : Nat} : ∀ {N : Nat}, v < N → i < (part as v).length → (ents as N)[(ents as v).length + i]? = (part as v)[i]?
  | 0, h, _ => by omega
  | N + 1, h, hi => by
    rw [ents_succ]
    rcases Nat.lt_or_ge v N with h1 | h1
    · rw [List.getElem?_append_left, seg_get as h1 hi]
      have := ents_mono as (show v + 1 ≤ N from h1)
      rw [ents_succ, List.length_append] at this
      omega
    · have : v = N := by omega
      subst this
      rw [List.getElem?_append_right (by omega)]
      congr 1
      omega
theorem seg_of (as : List (Int × Int × Int)) {a : Nat} : ∀ {N : Nat}, a < (ents as N).length → ∃ v, v < N ∧ (ents as v).length ≤ a ∧ a < (ents as (v + 1)).length
  | 0, h => by simp [ents] at h
  | N + 1, h => by
    rcases Nat.lt_or_ge a (ents as N).length with h1 | h1
    · obtain ⟨v, h2, h3⟩ := seg_of as h1
      exact ⟨v, by omega, h3⟩
    · exact ⟨N, by omega, h1, h⟩
theorem mem_enOf {v : Int} {a : Int × Int × Int} {k : Nat} {x : En} : x ∈ enOf v a k ↔ a.1 ≠ a.2.1 ∧ ((a.1 = v ∧ x = (a.2.1, a.2.2, (k : Int), false)) ∨ (a.2.1 = v ∧ x = (a.1, 0, (k : Int), true))) := by
  unfold enOf
  by_cases h : a.1 = a.2.1
  · simp [h]
  · rw [if_neg h, List.mem_append]
    constructor
    · rintro (h1 | h1)
      · split at h1
        · simp at h1; exact ⟨h, .inl ⟨by assumption, h1⟩⟩
        · simp at h1
      · split at h1
        · simp at h1; exact ⟨h, .inr ⟨by assumption, h1⟩⟩
        · simp at h1
    · rintro ⟨_, ⟨h1, h2⟩ | ⟨h1, h2⟩⟩
      · left; rw [if_pos h1]; simp [h2]
      · right; rw [if_pos h1]; simp [h2]
theorem mem_part {as : List (Int × Int × Int)} {v : Nat} {x : En} : x ∈ part as v ↔ ∃ k, k < as.length ∧ x ∈ enOf v (as.getD k (0, 0, 0)) k := by
  unfold part partTo
  rw [List.mem_flatMap]
  simp only [List.mem_range]
/-- Which arc, and which way. -/
def key (x : En) : Int × Bool := (x.2.2.1, x.2.2.2)
theorem enOf_key {v : Int} {a : Int × Int × Int} {k : Nat} {x : En} (h : x ∈ enOf v a k) : (key x).1 = k := by
  rcases (mem_enOf.1 h).2 with ⟨_, rfl⟩ | ⟨_, rfl⟩ <;> rfl
theorem keys (as : List (Int × Int × Int)) (N : Nat) : (ents as N).Pairwise fun x y => key x ≠ key y := by
  unfold ents
  rw [List.pairwise_flatMap]
  refine ⟨fun v _ => ?_, ?_⟩
  · unfold part partTo
    rw [List.pairwise_flatMap]
    refine ⟨fun k _ => ?_, ?_⟩
    · unfold enOf
      split
      · exact List.Pairwise.nil
      · rename_i hne
        split <;> split <;> simp [key]
    · refine List.Pairwise.imp (fun {k l} hkl x hx y hy => ?_) (List.nodup_range (n := as.length))
      intro he
      have h1 := enOf_key hx
      have h2 := enOf_key hy
      rw [he] at h1
      rw [h1] at h2
      exact hkl (by omega)
  · refine List.Pairwise.imp (fun {u v} huv x hx y hy => ?_) (List.nodup_range (n := N))
    intro he
    obtain ⟨k, _, hk⟩ := mem_part.1 hx
    obtain ⟨l, _, hl⟩ := mem_part.1 hy
    have h1 := enOf_key hk
    have h2 := enOf_key hl
    rw [he] at h1
    rw [h1] at h2
    have : k = l := by omega
    subst this
    obtain ⟨_, h3⟩ := mem_enOf.1 hk
    obtain ⟨_, h4⟩ := mem_enOf.1 hl
    rcases h3 with ⟨h3, rfl⟩ | ⟨h3, rfl⟩ <;> rcases h4 with ⟨h4, rfl⟩ | ⟨h4, rfl⟩
    · exact huv (by omega)
    · simp [key] at he
    · simp [key] at he
    · exact huv (by omega)
theorem key_inj {as : List (Int × Int × Int)} {N a b : Nat} {x y : En} (h1 : (ents as N)[a]? = some x) (h2 : (ents as N)[b]? = some y) (h : key x = key y) : a = b := by
  have hk := keys as N
  rw [List.pairwise_iff_getElem] at hk
  obtain ⟨ha, hx⟩ := List.getElem?_eq_some_iff.1 h1
  obtain ⟨hb, hy⟩ := List.getElem?_eq_some_iff.1 h2
  rcases Nat.lt_trichotomy a b with h3 | h3 | h3
  · exact absurd (by rw [hx, hy]; exact h) (hk a b ha hb h3)
  · exact h3
  · exact absurd (by rw [hx, hy]; exact h.symm) (hk b a hb ha h3)
theorem filter_one (p : Nat → Bool) (j : Nat) : ∀ M, j < M → p j = true → (∀ x, x < M → p x = true → x = j) → (List.range M).filter p = [j]
  | 0, h, _, _ => by omega
  | M + 1, h, hp, hx => by
    rw [List.range_succ, List.filter_append]
    rcases Nat.lt_or_ge j M with h1 | h1
    · rw [filter_one p j M h1 hp fun x h2 h3 => hx x (by omega) h3]
      have : p M = false := by
        cases h2 : p M with
        | false => rfl
        | true => have := hx M (by omega) h2; omega
      simp [this]
    · have : j = M := by omega
      subst this
      have : (List.range j).filter p = [] := List.filter_eq_nil_iff.2 fun x h2 h3 => by
        have := hx x (by have := List.mem_range.1 h2; omega) h3
        have := List.mem_range.1 h2
        omega
      simp [this, hp]
theorem getD_map_En {β : Type} (E : List En) (f : En → β) (d : β) {a : Nat} {x : En} (h : E[a]? = some x) : (E.map f).getD a d = f x := by
  simp [List.getD_eq_getElem?_getD, h]
theorem revTo_get {Arc : List Int} {r : Nat → Nat} : ∀ (m : Nat), (∀ i, i < m → rowF Arc i Arc.length = [(r i : Int)]) → revTo Arc m = (List.range m).map fun i => (r i : Int)
  | 0, _ => by simp [revTo]
  | m + 1, h => by
    rw [revTo_succ, revTo_get m fun i hi => h i (by omega), h m (by omega), List.range_succ]
    simp

theorem withinL_len (n : Nt) (l : List Int) : (withinL n l).length = n.arcs.length := by
  simp [withinL]
section
variable {n : Nt} (hok : NetOk n)
/-- What stands at a place of a row. -/
theorem at_place {as : List (Int × Int × Int)} {N v a : Nat} (hv : v < N) (h1 : (ents as v).length ≤ a) (h2 : a < (ents as (v + 1)).length) : ∃ x, (ents as N)[a]? = some x ∧ x ∈ part as v := by
  rw [ents_succ, List.length_append] at h2
  have hi : a - (ents as v).length < (part as v).length := by omega
  have := seg_get as hv hi
  rw [show (ents as v).length + (a - (ents as v).length) = a by omega, List.getElem?_eq_getElem hi] at this
  exact ⟨_, this, List.getElem_mem hi⟩
theorem place_of {as : List (Int × Int × Int)} {N v : Nat} {x : En} (hv : v < N) (hx : x ∈ part as v) : ∃ a, (ents as v).length ≤ a ∧ a < (ents as (v + 1)).length ∧ (ents as N)[a]? = some x := by
  obtain ⟨i, hi, he⟩ := List.mem_iff_getElem.1 hx
  refine ⟨(ents as v).length + i, by omega, by rw [ents_succ, List.length_append]; omega, ?_⟩
  rw [seg_get as hv hi, List.getElem?_eq_getElem hi, he]
theorem row_one {v a : Nat} (hv : v < n.N.toNat) (h1 : (ents n.arcs v).length ≤ a) (h2 : a < (ents n.arcs (v + 1)).length) {b : Nat} {x y : En} (hx : (ents n.arcs n.N.toNat)[a]? = some x) (hy : (ents n.arcs n.N.toNat)[b]? = some y) (hab : a ≠ b) (hk : x.2.2.1 = y.2.2.1) :
    rowF ((ents n.arcs n.N.toNat).map (·.2.2.1)) a ((ents n.arcs n.N.toNat).map (·.2.2.1)).length = [(b : Int)] := by
  have hbl := (List.getElem?_eq_some_iff.1 hy).1
  unfold rowF
  rw [List.length_map, filter_one _ b _ hbl]
  · rfl
  · rw [getD_map_En _ _ _ hx, getD_map_En _ _ _ hy, hk]
    simp [hab]
  · intro i hi hp
    have hz : (ents n.arcs n.N.toNat)[i]? = some (ents n.arcs n.N.toNat)[i] := List.getElem?_eq_getElem hi
    rw [getD_map_En _ _ _ hx, getD_map_En _ _ _ hz] at hp
    simp only [Bool.and_eq_true, decide_eq_true_eq, Bool.not_eq_true', decide_eq_false_iff_not] at hp
    obtain ⟨hp1, hp2⟩ := hp
    -- of three with the same arc two have the same key
    generalize hzz : (ents n.arcs n.N.toNat)[i] = z at hz hp1
    cases hb1 : x.2.2.2 with
    | true => cases hb2 : y.2.2.2 with
      | true => exact absurd (key_inj hx hy (by simp [key, hk, hb1, hb2])) hab
      | false => cases hb3 : z.2.2.2 with
        | true => exact absurd (key_inj hx hz (by simp [key, hp1, hb1, hb3])) hp2
        | false => exact key_inj hz hy (by simp [key, ← hp1, hk, hb3, hb2])
    | false => cases hb2 : y.2.2.2 with
      | false => exact absurd (key_inj hx hy (by simp [key, hk, hb1, hb2])) hab
      | true => cases hb3 : z.2.2.2 with
        | false => exact absurd (key_inj hx hz (by simp [key, hp1, hb1, hb3])) hp2
        | true => exact key_inj hz hy (by simp [key, ← hp1, hk, hb3, hb2])

theorem firstTo_get {as : List (Int × Int × Int)} {m v : Nat} (h : v < m) : (firstTo as m).getD v 0 = ((ents as v).length : Int) := by
  simp [firstTo, List.getD_eq_getElem?_getD, h]

include hok
/-- The other one of a pair. -/
theorem partner {v a : Nat} (hv : v < n.N.toNat) (h1 : (ents n.arcs v).length ≤ a) (h2 : a < (ents n.arcs (v + 1)).length) :
    ∃ (h b k : Nat) (x y : En), (ents n.arcs n.N.toNat)[a]? = some x ∧ (ents n.arcs n.N.toNat)[b]? = some y ∧ h < n.N.toNat ∧ h ≠ v ∧ (ents n.arcs h).length ≤ b ∧ b < (ents n.arcs (h + 1)).length ∧ a ≠ b ∧
      x.1 = h ∧ y.1 = v ∧ k < n.arcs.length ∧ x.2.2.1 = k ∧ y.2.2.1 = k ∧ ((x.2.2.2 = false ∧ y.2.2.2 = true ∧ x.2.1 = (n.arcs.getD k (0, 0, 0)).2.2 ∧ y.2.1 = 0) ∨ (x.2.2.2 = true ∧ y.2.2.2 = false ∧ y.2.1 = (n.arcs.getD k (0, 0, 0)).2.2 ∧ x.2.1 = 0)) := by
  obtain ⟨x, hx, hm⟩ := at_place hv h1 h2
  obtain ⟨k, hk, hm⟩ := mem_part.1 hm
  obtain ⟨hne, hm⟩ := mem_enOf.1 hm
  have hends : (0 ≤ (n.arcs.getD k (0, 0, 0)).1 ∧ (n.arcs.getD k (0, 0, 0)).1 < n.N) ∧ (0 ≤ (n.arcs.getD k (0, 0, 0)).2.1 ∧ (n.arcs.getD k (0, 0, 0)).2.1 < n.N) := by
    have := hok.arc (n.arcs[k]) (List.getElem_mem hk)
    have e : n.arcs.getD k (0, 0, 0) = n.arcs[k] := by simp [List.getD_eq_getElem?_getD, hk]
    rw [e]
    exact ⟨this.1, this.2.1⟩
  obtain ⟨arc, harc⟩ : ∃ arc, n.arcs.getD k (0, 0, 0) = arc := ⟨_, rfl⟩
  rw [harc] at hne hm hends
  rcases hm with ⟨h3, rfl⟩ | ⟨h3, rfl⟩
  · have hy : (arc.1, (0 : Int), (k : Int), true) ∈ part n.arcs arc.2.1.toNat := mem_part.2 ⟨k, hk, mem_enOf.2 ⟨by rw [harc]; exact hne, .inr ⟨by rw [harc]; omega, by rw [harc]⟩⟩⟩
    obtain ⟨b, h4, h5, h6⟩ := place_of (N := n.N.toNat) (by omega) hy
    refine ⟨arc.2.1.toNat, b, k, _, _, hx, h6, by omega, by omega, h4, h5, fun e => ?_, by simp only; omega, by simp only; omega, hk, rfl, rfl, .inl ⟨rfl, rfl, by rw [harc], rfl⟩⟩
    subst e
    rw [h6] at hx
    simp at hx
  · have hy : (arc.2.1, arc.2.2, (k : Int), false) ∈ part n.arcs arc.1.toNat := mem_part.2 ⟨k, hk, mem_enOf.2 ⟨by rw [harc]; exact hne, .inl ⟨by rw [harc]; omega, by rw [harc]⟩⟩⟩
    obtain ⟨b, h4, h5, h6⟩ := place_of (N := n.N.toNat) (by omega) hy
    refine ⟨arc.1.toNat, b, k, _, _, hx, h6, by omega, by omega, h4, h5, fun e => ?_, by simp only; omega, by simp only; omega, hk, rfl, rfl, .inr ⟨rfl, rfl, by rw [harc], rfl⟩⟩
    subst e
    rw [h6] at hx
    simp at hx

/-- All that is known of a residual arc of a right net's row. -/
theorem arcAt {v a : Nat} (hv : v < n.N.toNat) (h1 : (ents n.arcs v).length ≤ a) (h2 : a < (ents n.arcs (v + 1)).length) :
    ∃ h b k : Nat, h < n.N.toNat ∧ h ≠ v ∧ b < (ents n.arcs n.N.toNat).length ∧ (ents n.arcs h).length ≤ b ∧ b < (ents n.arcs (h + 1)).length ∧ a ≠ b ∧ k < n.arcs.length ∧
      rowF ((ents n.arcs n.N.toNat).map (·.2.2.1)) a ((ents n.arcs n.N.toNat).map (·.2.2.1)).length = [(b : Int)] ∧ rowF ((ents n.arcs n.N.toNat).map (·.2.2.1)) b ((ents n.arcs n.N.toNat).map (·.2.2.1)).length = [(a : Int)] ∧
      (makeF n).Head.getD a 0 = h ∧ (makeF n).Head.getD b 0 = v ∧ (makeF n).Arc.getD a 0 = k ∧
      (((makeF n).Cap.getD a 0 = (n.arcs.getD k (0, 0, 0)).2.2 ∧ (makeF n).Cap.getD b 0 = 0) ∨ ((makeF n).Cap.getD b 0 = (n.arcs.getD k (0, 0, 0)).2.2 ∧ (makeF n).Cap.getD a 0 = 0)) := by
  obtain ⟨h, b, k, x, y, hx, hy, h3, h4, h5, h6, h7, h8, h9, h10, h11, h12, h13⟩ := partner hok hv h1 h2
  refine ⟨h, b, k, h3, h4, (List.getElem?_eq_some_iff.1 hy).1, h5, h6, h7, h10, row_one hv h1 h2 hx hy h7 (by rw [h11, h12]), row_one h3 h5 h6 hy hx (Ne.symm h7) (by rw [h11, h12]), ?_, ?_, ?_, ?_⟩
  · rw [← h8]; exact getD_map_En _ _ _ hx
  · rw [← h9]; exact getD_map_En _ _ _ hy
  · rw [← h11]; exact getD_map_En _ _ _ hx
  · have e1 : (makeF n).Cap.getD a 0 = x.2.1 := getD_map_En _ _ _ hx
    have e2 : (makeF n).Cap.getD b 0 = y.2.1 := getD_map_En _ _ _ hy
    rw [e1, e2]
    rcases h13 with ⟨_, _, h, h'⟩ | ⟨_, _, h, h'⟩
    · exact .inl ⟨h, h'⟩
    · exact .inr ⟨h, h'⟩

theorem rev_ex : ∃ r : Nat → Nat, (makeF n).Rev = (List.range (ents n.arcs n.N.toNat).length).map (fun i => (r i : Int)) ∧ ∀ a b : Nat, a < (ents n.arcs n.N.toNat).length → rowF ((ents n.arcs n.N.toNat).map (·.2.2.1)) a ((ents n.arcs n.N.toNat).map (·.2.2.1)).length = [(b : Int)] → r a = b := by
  have ex : ∀ a, ∃ b : Nat, a < (ents n.arcs n.N.toNat).length → rowF ((ents n.arcs n.N.toNat).map (·.2.2.1)) a ((ents n.arcs n.N.toNat).map (·.2.2.1)).length = [(b : Int)] := fun a => by
    by_cases h : a < (ents n.arcs n.N.toNat).length
    · obtain ⟨v, hv, h1, h2⟩ := seg_of n.arcs h
      obtain ⟨_, b, _, _, _, _, _, _, _, _, hb, _⟩ := arcAt hok hv h1 h2
      exact ⟨b, fun _ => hb⟩
    · exact ⟨0, fun h' => absurd h' h⟩
  obtain ⟨r, hr⟩ := Classical.axiomOfChoice ex
  refine ⟨r, revTo_get _ fun i hi => hr i hi, fun a b ha hb => ?_⟩
  rw [hr a ha] at hb
  simp at hb
  omega
theorem makeF_wf : WF (makeF n) := by
  obtain ⟨hlo, hhi, hs0, hs1, ht0, ht1, hne, hln, harc⟩ := id hok
  obtain ⟨r, hR, hr⟩ := rev_ex hok
  have hM : (makeF n).Head.length = (ents n.arcs n.N.toNat).length := List.length_map _
  have hN : (makeF n).N = n.N.toNat := rfl
  have hF : (makeF n).First = firstTo n.arcs (n.N.toNat + 1) := rfl
  have hE := ents_len n.arcs hln n.N.toNat
  have rget : ∀ a, a < (ents n.arcs n.N.toNat).length → (makeF n).Rev.getD a 0 = (r a : Int) := fun a ha => by
    rw [hR]; simp [List.getD_eq_getElem?_getD, ha]
  have all : ∀ a, a < (ents n.arcs n.N.toNat).length → ∃ v h, v < n.N.toNat ∧ h < n.N.toNat ∧ h ≠ v ∧ r a < (ents n.arcs n.N.toNat).length ∧ (ents n.arcs v).length ≤ a ∧ a < (ents n.arcs (v + 1)).length ∧ (ents n.arcs h).length ≤ r a ∧ r a < (ents n.arcs (h + 1)).length ∧
      r (r a) = a ∧ (makeF n).Head.getD a 0 = h ∧ (makeF n).Head.getD (r a) 0 = v := fun a ha => by
    obtain ⟨v, hv, h1, h2⟩ := seg_of n.arcs ha
    obtain ⟨h, b, k, h3, h4, h5, h6, h7, h8, h9, h10, h11, h12, h13, _⟩ := arcAt hok hv h1 h2
    have e := hr a b ha h10
    subst e
    exact ⟨v, h, hv, h3, h4, h5, h1, h2, h6, h7, hr _ a h5 h11, h12, h13⟩
  -- one vertex alone has a place
  have uniq : ∀ a u v, (ents n.arcs u).length ≤ a → a < (ents n.arcs (u + 1)).length → (ents n.arcs v).length ≤ a → a < (ents n.arcs (v + 1)).length → u = v := fun a u v h1 h2 h3 h4 => by
    rcases Nat.lt_trichotomy u v with h | h | h
    · have := ents_mono n.arcs (show u + 1 ≤ v from h); omega
    · exact h
    · have := ents_mono n.arcs (show v + 1 ≤ u from h); omega
  refine ⟨by omega, by omega, by show n.S.toNat < n.N.toNat; omega, by show n.T.toNat < n.N.toNat; omega, by show n.S.toNat ≠ n.T.toNat; omega, ?_, by omega, ?_, ?_, ?_, ?_, ?_, ?_, ?_, ?_, ?_, ?_, ?_⟩
  · rw [hF, hN]; simp [firstTo]
  · rw [hR, hM]; simp
  · rw [hM]; exact List.length_map _
  · rw [hM]; exact List.length_map _
  · rw [hM]; exact List.length_map _
  · rw [hF, firstTo_get (by omega)]; rfl
  · intro v hv
    rw [hN] at hv
    rw [hF, firstTo_get (by omega), firstTo_get (by omega)]
    have := ents_mono n.arcs (show v ≤ v + 1 by omega)
    omega
  · rw [hF, hN, firstTo_get (by omega), hM]
  · intro a ha
    rw [hM] at ha
    obtain ⟨v, h, hv, hh, _, _, _, _, _, _, _, e, _⟩ := all a ha
    rw [e, hN]; omega
  · intro a ha
    rw [hM] at ha ⊢
    obtain ⟨v, h, hv, hh, _, hra, _⟩ := all a ha
    rw [rget a ha]; omega
  · intro a ha
    rw [hM] at ha
    obtain ⟨v, h, hv, hh, _, hra, _, _, _, _, hrr, _⟩ := all a ha
    rw [rget a ha, Int.toNat_natCast, rget _ hra, hrr]
  · intro v a hv ha h1 h2
    rw [hM] at ha
    rw [hN] at hv
    rw [hF, firstTo_get (by omega)] at h1 h2
    obtain ⟨u, h, hu, hh, hne', hra, h3, h4, h5, h6, _, e1, e2⟩ := all a ha
    have := uniq a u v h3 h4 (by omega) (by omega)
    subst this
    rw [e1, rget a ha, Int.toNat_natCast, Int.toNat_natCast, e2, hF, firstTo_get (by omega), firstTo_get (by omega)]
    omega

theorem withinL_get {l : List Int} {k : Nat} (hk : k < n.arcs.length) : 0 ≤ (withinL n l).getD k 0 ∧ (withinL n l).getD k 0 ≤ (n.arcs.getD k (0, 0, 0)).2.2 := by
  have hc := (hok.arc (n.arcs[k]) (List.getElem_mem hk)).2.2
  have e : n.arcs.getD k (0, 0, 0) = n.arcs[k] := by simp [List.getD_eq_getElem?_getD, hk]
  have e2 : (withinL n l).getD k 0 = withinAt l k (n.arcs[k]) := by simp [withinL, List.getD_eq_getElem?_getD, hk]
  rw [e, e2]
  unfold withinAt
  split
  · exact ⟨Int.le_refl _, hc.1⟩
  · refine ⟨Int.emod_nonneg _ (by omega), ?_⟩
    have := Int.emod_lt_of_pos (if l.getD k 0 < 0 then -(l.getD k 0 + 1) else l.getD k 0) (by omega : 0 < (n.arcs[k]).2.2 + 1)
    omega
theorem flowOk (l : List Int) : FlowOk (makeF n) (withinL n l) := by
  intro a ha
  obtain ⟨r, hR, hr⟩ := rev_ex hok
  have hM : (makeF n).Head.length = (ents n.arcs n.N.toNat).length := List.length_map _
  rw [hM] at ha
  obtain ⟨v, hv, h1, h2⟩ := seg_of n.arcs ha
  obtain ⟨h, b, k, h3, h4, h5, h6, h7, h8, h9, h10, h11, h12, h13, h14, h15⟩ := arcAt hok hv h1 h2
  have e := hr a b ha h10
  have rget : (makeF n).Rev.getD a 0 = (b : Int) := by
    rw [hR, ← e]; simp [List.getD_eq_getElem?_getD, ha]
  have hc := (hok.arc (n.arcs[k]) (List.getElem_mem h9)).2.2
  have e2 : n.arcs.getD k (0, 0, 0) = n.arcs[k] := by simp [List.getD_eq_getElem?_getD, h9]
  have hw := withinL_get hok (l := l) h9
  rw [rget, h14, Int.toNat_natCast, Int.toNat_natCast, withinL_len]
  rw [e2] at h15 hw
  rcases h15 with ⟨h15, h16⟩ | ⟨h15, h16⟩ <;> rw [h15, h16] <;> refine ⟨by omega, by omega, hw.1, by omega, by omega, by omega, by omega, by omega⟩
end
/-- What a flow within leaves. -/
theorem resTo_len (c : Cs) (f : List Int) (k : Nat) : (resTo c f k).length = k := by simp [resTo]
theorem resAt_get {c : Cs} {f : List Int} {k a : Nat} (h : a < k) : (resTo c f k).getD a 0 = resAt c f a := by
  simp [resTo, List.getD_eq_getElem?_getD, h]
theorem resAt_rng {c : Cs} {f : List Int} (hf : FlowOk c f) {a : Nat} (h : a < c.Head.length) : 0 ≤ resAt c f a ∧ resAt c f a ≤ 2251799813685246 := by
  obtain ⟨h1, h2, h3, h4, h5, h6, h7, h8⟩ := hf a h
  unfold resAt
  split <;> omega
/-- What is left of a right net's row. -/
def resL (n : Nt) (l : List Int) : List Int := resTo (makeF n) (withinL n l) (makeF n).Head.length
/-- Numbers as many as arcs, none of them great. -/
structure ResOk (c : Cs) (res : List Int) : Prop where
  len : res.length = c.Head.length
  rng : ∀ a, a < c.Head.length → 0 ≤ res.getD a 0 ∧ res.getD a 0 ≤ 2251799813685246
theorem resL_ok {n : Nt} (hok : NetOk n) (l : List Int) : ResOk (makeF n) (resL n l) :=
  ⟨resTo_len _ _ _, fun a ha => by rw [show (resL n l).getD a 0 = resAt (makeF n) (withinL n l) a from resAt_get ha]; exact resAt_rng (flowOk hok l) ha⟩
end Go.Proofs.Ytnpgeohkmdcbkaa.Aq

namespace Go.Proofs.Ytnpgeohkmdcbkaa.Aq

/-- The vertex that a residual arc begins at. -/
def tailOf (c : Cs) (a : Nat) : Nat := ((List.range c.N).find? fun v => decide (c.First.getD v 0 ≤ a) && decide ((a : Int) < c.First.getD (v + 1) 0)).getD 0

theorem first_mono {c : Cs} (h : WF c) {u : Nat} : ∀ {v : Nat}, u ≤ v → v ≤ c.N → c.First.getD u 0 ≤ c.First.getD v 0
  | 0, h1, _ => by have : u = 0 := by omega
                   subst this; exact Int.le_refl _
  | v + 1, h1, h2 => by
    rcases Nat.lt_or_ge v u with h3 | h3
    · have : u = v + 1 := by omega
      subst this; exact Int.le_refl _
    · have := first_mono h h3 (by omega)
      have := h.fm v (by omega)
      omega
theorem tail_eq {c : Cs} (h : WF c) {a v : Nat} (hv : v < c.N) (h1 : c.First.getD v 0 ≤ a) (h2 : (a : Int) < c.First.getD (v + 1) 0) : tailOf c a = v := by
  unfold tailOf
  have : (List.range c.N).find? (fun v => decide (c.First.getD v 0 ≤ a) && decide ((a : Int) < c.First.getD (v + 1) 0)) = some v := by
    rw [List.find?_range_eq_some]
    refine ⟨by rw [Bool.and_eq_true, decide_eq_true_eq, decide_eq_true_eq]; exact ⟨h1, h2⟩, by simpa using hv, fun j hj => ?_⟩
    have := first_mono h (show j + 1 ≤ v from hj) (by omega)
    simp only [Bool.not_eq_true', Bool.and_eq_false_iff, decide_eq_false_iff_not]
    right
    omega
  rw [this]
  rfl
theorem tail_ex {c : Cs} (h : WF c) {a : Nat} (ha : a < c.Head.length) : ∃ v, v < c.N ∧ c.First.getD v 0 ≤ a ∧ (a : Int) < c.First.getD (v + 1) 0 := by
  have key : ∀ m, m ≤ c.N → (a : Int) < c.First.getD m 0 → ∃ v, v < m ∧ c.First.getD v 0 ≤ a ∧ (a : Int) < c.First.getD (v + 1) 0 := by
    intro m
    induction m with
    | zero => intro _ h1; have := h.f0; omega
    | succ m ih =>
      intro hm h1
      rcases Int.lt_or_le (a : Int) (c.First.getD m 0) with h2 | h2
      · obtain ⟨v, h3, h4⟩ := ih (by omega) h2
        exact ⟨v, by omega, h4⟩
      · exact ⟨m, by omega, h2, h1⟩
  obtain ⟨v, h3, h4⟩ := key c.N (Nat.le_refl _) (by have := h.fN; omega)
  exact ⟨v, h3, h4⟩
/-- What is known of where an arc begins. -/
theorem tail_at {c : Cs} (h : WF c) {a : Nat} (ha : a < c.Head.length) : tailOf c a < c.N ∧ c.First.getD (tailOf c a) 0 ≤ a ∧ (a : Int) < c.First.getD (tailOf c a + 1) 0 := by
  obtain ⟨v, h1, h2, h3⟩ := tail_ex h ha
  rw [tail_eq h h1 h2 h3]
  exact ⟨h1, h2, h3⟩
theorem tail_found {c : Cs} (h : WF c) {a i : Nat} (ha : a < c.Head.length) (h1 : i ≤ c.First.length) (h2 : 0 < i → decide ((a : Int) + 1 ≤ c.First.getD (i - 1) 0) = false) (h3 : i < c.First.length → decide ((a : Int) + 1 ≤ c.First.getD i 0) = true) : (i : Int) - 1 = (tailOf c a : Int) := by
  have hfl := h.fl
  have h0 : 0 < i := by
    rcases Nat.eq_zero_or_pos i with rfl | hp
    · have := of_decide_eq_true (h3 (by omega))
      have := h.f0
      omega
    · exact hp
  have h4 := of_decide_eq_false (h2 h0)
  have hi : i ≤ c.N := by
    rcases Nat.lt_or_ge c.N i with hlt | hge
    · have : i - 1 = c.N := by omega
      rw [this, h.fN] at h4
      omega
    · exact hge
  have h5 := of_decide_eq_true (h3 (by omega))
  rw [tail_eq h (v := i - 1) (by omega) (by omega) (by rw [show i - 1 + 1 = i by omega]; omega)]
  omega
end Go.Proofs.Ytnpgeohkmdcbkaa.Aq

namespace Go.Proofs.Ytnpgeohkmdcbkaa.Aq

def wrongB (N : Nat) (k : Int) : Bool := decide (k < 0) || decide ((N : Int) < k)
def rightB (c : Cs) (h : List Int) : Bool := decide ((h.length : Int) = c.N) && decide ((0 : Int) < c.N) && !(h.any (wrongB c.N)) && decide (h.getD c.T 0 = 0) && decide (h.getD c.S 0 = c.N)
def mayB (c : Cs) (res h : List Int) : Bool := decide ((res.length : Int) = c.Head.length) && rightB c h
def downP (c : Cs) (res h : List Int) (p : Int → Bool) (a : Nat) : Bool := !decide ((tailOf c a : Int) = c.S) && decide (0 < res.getD a 0) && p (h.getD (tailOf c a) 0 - h.getD (c.Head.getD a 0).toNat 0)
def downL (c : Cs) (res h : List Int) (p : Int → Bool) : List Int := if mayB c res h = true then ((List.range c.Head.length).filter (downP c res h p)).map Int.ofNat else []
def steepL (c : Cs) (res h : List Int) : List Int := downL c res h fun k => decide (1 < k)
def flatL (c : Cs) (res h : List Int) : List Int := downL c res h fun k => decide (k = 1)
def validB (c : Cs) (res h : List Int) : Bool := mayB c res h && decide (((steepL c res h).length : Int) = 0)
/-- What right heights are. -/
structure RightH (c : Cs) (h : List Int) : Prop where
  len : h.length = c.N
  rng : ∀ v, v < c.N → 0 ≤ h.getD v 0 ∧ h.getD v 0 ≤ c.N
  t : h.getD c.T 0 = 0
  s : h.getD c.S 0 = c.N

theorem right_iff {c : Cs} (hw : WF c) {h : List Int} : rightB c h = true ↔ RightH c h := by
  have hlo := hw.lo
  unfold rightB
  simp only [Bool.and_eq_true, decide_eq_true_eq, Bool.not_eq_true', List.any_eq_false]
  constructor
  · rintro ⟨⟨⟨⟨h1, _⟩, h2⟩, h3⟩, h4⟩
    refine ⟨by omega, fun v hv => ?_, h3, h4⟩
    have hm : h.getD v 0 ∈ h := by
      have hv' : v < h.length := by omega
      simp [List.getD_eq_getElem?_getD, hv']
    have := h2 _ hm
    simp only [wrongB, Bool.or_eq_true, decide_eq_true_eq] at this
    omega
  · rintro ⟨h1, h2, h3, h4⟩
    refine ⟨⟨⟨⟨by omega, by omega⟩, fun x hx => ?_⟩, h3⟩, h4⟩
    obtain ⟨v, hv, rfl⟩ := List.mem_iff_getElem.1 hx
    have := h2 v (by omega)
    rw [List.getD_eq_getElem?_getD, List.getElem?_eq_getElem hv, Option.getD_some] at this
    simp only [wrongB, Bool.or_eq_true, decide_eq_true_eq]
    omega
theorem may_iff {c : Cs} (hw : WF c) {res h : List Int} : mayB c res h = true ↔ res.length = c.Head.length ∧ RightH c h := by
  unfold mayB
  rw [Bool.and_eq_true, decide_eq_true_eq, right_iff hw]
  exact ⟨fun ⟨h1, h2⟩ => ⟨by omega, h2⟩, fun ⟨h1, h2⟩ => ⟨by omega, h2⟩⟩
theorem and3 {a b : Int} {x y : Bool} (h : ((decide (a = b) && x) && y) = true) : a = b := by
  rw [Bool.and_eq_true, Bool.and_eq_true, decide_eq_true_eq] at h
  exact h.1.1
theorem and4 {a b : Int} {x y z : Bool} (h : (((decide (a = b) && x) && y) && z) = true) : a = b := and3 (x := x) (y := y) (by rw [Bool.and_eq_true] at h; exact h.1)
theorem filt_succ (p : Nat → Bool) (k : Nat) : ((List.range (k + 1)).filter p).map Int.ofNat = ((List.range k).filter p).map Int.ofNat ++ (if p k = true then [(k : Int)] else []) := by
  rw [List.range_succ, List.filter_append, List.map_append]
  congr 1
  split <;> simp_all
theorem filt_len (p : Nat → Bool) (k : Nat) : (((List.range k).filter p).map Int.ofNat).length ≤ k := by
  rw [List.length_map]
  exact Nat.le_trans (List.length_filter_le _ _) (by simp)
end Go.Proofs.Ytnpgeohkmdcbkaa.Aq
namespace Go.Proofs.Ytnpgeohkmdcbkaa.Aq
def sumTo (l : List Int) : Nat → Int
  | 0 => 0
  | k + 1 => sumTo l k + l.getD k 0
def sumB (c : Cs) (h : List Int) : Int := if rightB c h = true then sumTo h h.length else 0
theorem sumTo_rng {c : Cs} {h : List Int} (hr : RightH c h) : ∀ k, k ≤ c.N → 0 ≤ sumTo h k ∧ sumTo h k ≤ c.N * k
  | 0, _ => ⟨Int.le_refl _, by simp [sumTo]⟩
  | k + 1, hk => by
    obtain ⟨h1, h2⟩ := sumTo_rng hr k (by omega)
    obtain ⟨h3, h4⟩ := hr.rng k (by omega)
    rw [sumTo]
    refine ⟨by omega, ?_⟩
    have : (c.N : Int) * ((k + 1 : Nat) : Int) = c.N * k + c.N := by rw [Int.natCast_add, Int.mul_add]; simp
    rw [this]
    omega
/-- An open residual arc of a vertex. -/
def Opn (c : Cs) (res : List Int) (u : Nat) (a : Int) : Prop := c.First.getD u 0 ≤ a ∧ a < c.First.getD (u + 1) 0 ∧ 0 < res.getD a.toNat 0
/-- The height of an arc's end. -/
def endH (c : Cs) (h : List Int) (a : Int) : Int := h.getD (c.Head.getD a.toNat 0).toNat 0
/-- The lowest open end. -/
def LeastR (c : Cs) (res h : List Int) (u b l : Int) (ok : Bool) : Prop :=
  (mayB c res h = true ∧ 0 ≤ u ∧ u < c.N ∧ ok = true ∧ Opn c res u.toNat b ∧ l = endH c h b ∧ (∀ a, Opn c res u.toNat a → l ≤ endH c h a) ∧ ∀ a, a < b → Opn c res u.toNat a → l < endH c h a) ∨
  (ok = false ∧ b = 0 ∧ l = 0 ∧ (mayB c res h = true → 0 ≤ u → u < c.N → ∀ a, ¬ Opn c res u.toNat a))
theorem least_unique {c : Cs} {res h : List Int} {u b l b' l' : Int} {ok ok' : Bool} (h1 : LeastR c res h u b l ok) (h2 : LeastR c res h u b' l' ok') : b = b' ∧ l = l' ∧ ok = ok' := by
  rcases h1 with ⟨m, u0, u1, rfl, o, rfl, h3, h4⟩ | ⟨rfl, rfl, rfl, h3⟩ <;> rcases h2 with ⟨m', u0', u1', rfl, o', rfl, h3', h4'⟩ | ⟨rfl, rfl, rfl, h3'⟩
  · have h5 := h3 _ o'
    have h6 := h3' _ o
    have h7 : endH c h b = endH c h b' := by omega
    rcases Int.lt_trichotomy b b' with h | h | h
    · have := h4' b h o; omega
    · exact ⟨h, by rw [h], rfl⟩
    · have := h4 b' h o'; omega
  · exact absurd o (h3' m u0 u1 b)
  · exact absurd o' (h3 m' u0' u1' b')
  · exact ⟨rfl, rfl, rfl⟩
/-- So far. -/
def LeastTo (c : Cs) (res h : List Int) (u : Nat) (a b l : Int) : Prop :=
  (b = 0 ∧ l = c.N + 1 ∧ ∀ x, x < a → ¬ Opn c res u x) ∨ (l ≤ c.N ∧ b < a ∧ Opn c res u b ∧ l = endH c h b ∧ (∀ x, x < a → Opn c res u x → l ≤ endH c h x) ∧ ∀ x, x < b → Opn c res u x → l < endH c h x)
theorem least_take {c : Cs} {res h : List Int} {u : Nat} {a b l : Int} (ht : LeastTo c res h u a b l) (ho : Opn c res u a) (hl : endH c h a < l) (hN : endH c h a ≤ c.N) : LeastTo c res h u (a + 1) a (endH c h a) := by
  refine .inr ⟨hN, by omega, ho, rfl, fun x hx hox => ?_, fun x hx hox => ?_⟩
  · rcases Int.lt_or_le x a with h1 | h1
    · rcases ht with ⟨_, _, h2⟩ | ⟨_, _, _, _, h2, _⟩
      · exact absurd hox (h2 x h1)
      · have := h2 x h1 hox; omega
    · have : x = a := by omega
      subst this; exact Int.le_refl _
  · rcases ht with ⟨_, _, h2⟩ | ⟨_, _, _, _, h2, _⟩
    · exact absurd hox (h2 x hx)
    · have := h2 x hx hox; omega
theorem least_pass {c : Cs} {res h : List Int} {u : Nat} {a b l : Int} (ht : LeastTo c res h u a b l) (hn : ¬ (Opn c res u a ∧ endH c h a < l)) (hN : endH c h a ≤ c.N) : LeastTo c res h u (a + 1) b l := by
  rcases ht with ⟨rfl, rfl, h2⟩ | ⟨h1, h2, h3, h4, h5, h6⟩
  · refine .inl ⟨rfl, rfl, fun x hx hox => ?_⟩
    rcases Int.lt_or_le x a with h3 | h3
    · exact h2 x h3 hox
    · have : x = a := by omega
      subst this
      exact hn ⟨hox, by omega⟩
  · refine .inr ⟨h1, by omega, h3, h4, fun x hx hox => ?_, h6⟩
    rcases Int.lt_or_le x a with h7 | h7
    · exact h5 x h7 hox
    · have : x = a := by omega
      subst this
      exact Int.not_lt.1 fun h8 => hn ⟨hox, h8⟩
end Go.Proofs.Ytnpgeohkmdcbkaa.Aq
namespace Go.Proofs.Ytnpgeohkmdcbkaa.Aq
/-- Seen so far from above. -/
def LeastFrom (c : Cs) (res h : List Int) (u : Nat) (a b l : Int) : Prop :=
  (b = 0 ∧ l = -1 ∧ ∀ x, a < x → ¬ Opn c res u x) ∨ (0 ≤ l ∧ a < b ∧ Opn c res u b ∧ l = endH c h b ∧ (∀ x, a < x → Opn c res u x → l ≤ endH c h x) ∧ ∀ x, a < x → x < b → Opn c res u x → l < endH c h x)
theorem least_take' {c : Cs} {res h : List Int} {u : Nat} {a b l : Int} (ht : LeastFrom c res h u a b l) (ho : Opn c res u a) (hl : l < 0 ∨ endH c h a ≤ l) (h0 : 0 ≤ endH c h a) : LeastFrom c res h u (a - 1) a (endH c h a) := by
  refine .inr ⟨h0, by omega, ho, rfl, fun x hx hox => ?_, fun x hx hxa hox => by omega⟩
  rcases Int.lt_or_le a x with h1 | h1
  · rcases ht with ⟨_, _, h2⟩ | ⟨_, _, _, _, h2, _⟩
    · exact absurd hox (h2 x h1)
    · have := h2 x h1 hox; omega
  · have : x = a := by omega
    subst this; exact Int.le_refl _
theorem least_pass' {c : Cs} {res h : List Int} {u : Nat} {a b l : Int} (ht : LeastFrom c res h u a b l) (hn : ¬ (Opn c res u a ∧ (l < 0 ∨ endH c h a ≤ l))) : LeastFrom c res h u (a - 1) b l := by
  rcases ht with ⟨rfl, rfl, h2⟩ | ⟨h1, h2, h3, h4, h5, h6⟩
  · refine .inl ⟨rfl, rfl, fun x hx hox => ?_⟩
    rcases Int.lt_or_le a x with h3 | h3
    · exact h2 x h3 hox
    · have : x = a := by omega
      subst this
      exact hn ⟨hox, .inl (by omega)⟩
  · have key : Opn c res u a → l < endH c h a := fun ho => Int.not_le.1 fun h8 => hn ⟨ho, .inr h8⟩
    refine .inr ⟨h1, by omega, h3, h4, fun x hx hox => ?_, fun x hx hxb hox => ?_⟩
    · rcases Int.lt_or_le a x with h7 | h7
      · exact h5 x h7 hox
      · have : x = a := by omega
        subst this
        have := key hox; omega
    · rcases Int.lt_or_le a x with h7 | h7
      · exact h6 x h7 hxb hox
      · have : x = a := by omega
        subst this
        exact key hox
theorem seg_rng {c : Cs} (hw : WF c) {v : Nat} (hv : v < c.N) : 0 ≤ c.First.getD v 0 ∧ c.First.getD v 0 ≤ c.First.getD (v + 1) 0 ∧ c.First.getD (v + 1) 0 ≤ c.Head.length := by
  have h1 := first_mono hw (show 0 ≤ v by omega) (by omega)
  have h2 := first_mono hw (show v + 1 ≤ c.N by omega) (Nat.le_refl _)
  have := hw.f0
  have := hw.fN
  have := hw.fm v hv
  omega
theorem end_rng {c : Cs} (hw : WF c) {h : List Int} (hr : RightH c h) {a : Int} (h0 : 0 ≤ a) (h1 : a < c.Head.length) : (0 ≤ c.Head.getD a.toNat 0 ∧ c.Head.getD a.toNat 0 < c.N) ∧ 0 ≤ endH c h a ∧ endH c h a ≤ c.N := by
  have h2 := hw.hd a.toNat (by omega)
  exact ⟨h2, hr.rng _ (by omega)⟩
/-- By how far they go down. -/
def byP (c : Cs) (res h : List Int) (lo hi : Int) (a : Nat) : Bool := !decide ((tailOf c a : Int) = c.S) && decide (0 < res.getD a 0) && decide (lo ≤ h.getD (tailOf c a) 0 - h.getD (c.Head.getD a 0).toNat 0) && decide (h.getD (tailOf c a) 0 - h.getD (c.Head.getD a 0).toNat 0 ≤ hi)
def filt (p : Nat → Bool) (k : Nat) : List Int := ((List.range k).filter p).map Int.ofNat
def byL (c : Cs) (res h : List Int) (lo hi : Int) : List Int := if mayB c res h = true then filt (byP c res h lo hi) c.Head.length else []
theorem by_down {c : Cs} (hw : WF c) {res h : List Int} {lo hi : Int} {p : Int → Bool} (hp : ∀ k : Int, k ≤ c.N → (decide (lo ≤ k) && decide (k ≤ hi)) = p k) : byL c res h lo hi = downL c res h p := by
  unfold byL downL
  by_cases hm : mayB c res h = true
  · rw [if_pos hm, if_pos hm]
    obtain ⟨_, hr⟩ := (may_iff hw).1 hm
    unfold filt
    congr 1
    refine List.filter_congr fun a ha => ?_
    have ha := List.mem_range.1 ha
    obtain ⟨h1, _⟩ := tail_at hw ha
    have h2 := hr.rng _ h1
    have h3 := hw.hd a ha
    have h4 := hr.rng (c.Head.getD a 0).toNat (by omega)
    unfold byP downP
    rw [Bool.and_assoc, hp _ (by omega)]
  · rw [if_neg hm, if_neg hm]
theorem right_no_len {c : Cs} {h : List Int} (hl : ¬ (h.length : Int) = c.N) : rightB c h = false := by
  unfold rightB
  rw [decide_eq_false hl]; rfl
theorem right_no_any {c : Cs} {h : List Int} (ha : h.any (wrongB c.N) = true) : rightB c h = false := by
  unfold rightB
  rw [ha]; simp
theorem right_end {c : Cs} {h : List Int} (hl : (h.length : Int) = c.N) (h0 : 0 < c.N) (ha : h.any (wrongB c.N) = false) : rightB c h = (decide (h.getD c.T 0 = 0) && decide (h.getD c.S 0 = c.N)) := by
  unfold rightB
  rw [decide_eq_true hl, decide_eq_true (by omega : (0 : Int) < c.N), ha]; rfl
end Go.Proofs.Ytnpgeohkmdcbkaa.Aq
namespace Go.Proofs.Ytnpgeohkmdcbkaa.Aq
theorem downL_len {c : Cs} (hw : WF c) (res h : List Int) (p : Int → Bool) : (downL c res h p).length ≤ 1280 := by
  unfold downL
  have := hw.m
  split
  · have := filt_len (downP c res h p) c.Head.length
    omega
  · simp
theorem steepL_len {c : Cs} (hw : WF c) (res h : List Int) : (steepL c res h).length ≤ 1280 := downL_len hw _ _ _
theorem flatL_len {c : Cs} (hw : WF c) (res h : List Int) : (flatL c res h).length ≤ 1280 := downL_len hw _ _ _
end Go.Proofs.Ytnpgeohkmdcbkaa.Aq

namespace Go.Proofs.Ytnpgeohkmdcbkaa.Aq

/-- D holds, vertex by vertex, the greatest numbers below h that fall by at most one along the edges E. -/
structure Low (N : Nat) (E : Nat → Nat → Prop) (h : Nat → Int) (D : List Int) : Prop where
  len : D.length = N
  nn : ∀ v, v < N → 0 ≤ D.getD v 0
  le : ∀ v, v < N → D.getD v 0 ≤ h v
  ok : ∀ u w, u < N → w < N → E u w → D.getD u 0 ≤ D.getD w 0 + 1
  why : ∀ v, v < N → D.getD v 0 = h v ∨ ∃ w, w < N ∧ E v w ∧ D.getD v 0 = D.getD w 0 + 1

theorem Low.greatest {N : Nat} {E : Nat → Nat → Prop} {h x : Nat → Int} {D : List Int} (L : Low N E h D) (hx : ∀ v, v < N → x v ≤ h v)
    (ho : ∀ u w, u < N → w < N → E u w → x u ≤ x w + 1) : ∀ v, v < N → x v ≤ D.getD v 0 := by
  have key : ∀ n : Nat, ∀ v, v < N → D.getD v 0 ≤ n → x v ≤ D.getD v 0 := by
    intro n
    induction n with
    | zero =>
      intro v h1 hn
      rcases L.why v h1 with e | ⟨w, w1, _, e⟩
      · rw [e]; exact hx v h1
      · have := L.nn w w1; omega
    | succ n ih =>
      intro v h1 hn
      rcases L.why v h1 with e | ⟨w, w1, hE, e⟩
      · rw [e]; exact hx v h1
      · have a := ih w w1 (by omega)
        have b := ho v w h1 w1 hE
        omega
  intro v h1
  have := L.nn v h1
  exact key (D.getD v 0).toNat v h1 (by omega)

theorem Low.mono {N : Nat} {E E' : Nat → Nat → Prop} {h h' : Nat → Int} {D D' : List Int} (L : Low N E h D) (L' : Low N E' h' D') (hh : ∀ v, v < N → h v ≤ h' v)
    (hE : ∀ u w, u < N → w < N → E' u w → E u w) : ∀ v, v < N → D.getD v 0 ≤ D'.getD v 0 :=
  L'.greatest (x := fun v => D.getD v 0) (fun v a => Int.le_trans (L.le v a) (hh v a)) (fun u w a b e => L.ok u w a b (hE u w a b e))

theorem list_ext {N : Nat} {D D' : List Int} (h : D.length = N) (h' : D'.length = N) (e : ∀ v, v < N → D.getD v 0 = D'.getD v 0) : D = D' := by
  refine List.ext_getElem (by omega) fun i h1 h2 => ?_
  have := e i (by omega)
  simpa [List.getD_eq_getElem?_getD, h1, h2] using this

theorem Low.unique {N : Nat} {E E' : Nat → Nat → Prop} {h h' : Nat → Int} {D D' : List Int} (L : Low N E h D) (L' : Low N E' h' D') (hh : ∀ v, v < N → h v = h' v)
    (hE : ∀ u w, u < N → w < N → (E u w ↔ E' u w)) : D = D' :=
  list_ext L.len L'.len fun v a => by
    have p := L.mono L' (fun v a => by have := hh v a; omega) (fun u w a b e => (hE u w a b).2 e) v a
    have q := L'.mono L (fun v a => by have := hh v a; omega) (fun u w a b e => (hE u w a b).1 e) v a
    omega

/-- On the way there. -/
structure LowPre (N : Nat) (E : Nat → Nat → Prop) (h : Nat → Int) (D : List Int) : Prop where
  len : D.length = N
  nn : ∀ v, v < N → 0 ≤ D.getD v 0
  le : ∀ v, v < N → D.getD v 0 ≤ h v
  why : ∀ v, v < N → D.getD v 0 = h v ∨ ∃ w, w < N ∧ E v w ∧ D.getD w 0 + 1 ≤ D.getD v 0

theorem LowPre.low {N : Nat} {E : Nat → Nat → Prop} {h : Nat → Int} {D : List Int} (p : LowPre N E h D) (ok : ∀ u w, u < N → w < N → E u w → D.getD u 0 ≤ D.getD w 0 + 1) : Low N E h D :=
  ⟨p.len, p.nn, p.le, ok, fun v hv => (p.why v hv).imp id fun ⟨w, h1, h2, h3⟩ => ⟨w, h1, h2, by have := ok v w hv h1 h2; omega⟩⟩

theorem set_get {D : List Int} {u : Nat} {z : Int} (hu : u < D.length) (v : Nat) : (D.set u z).getD v 0 = if v = u then z else D.getD v 0 := by
  simp only [List.getD_eq_getElem?_getD, List.getElem?_set]
  by_cases h1 : u = v
  · subst h1; simp [hu]
  · simp [h1, Ne.symm h1]

/-- All together, as a count. -/
def tot (D : List Int) : Nat := (D.map Int.toNat).sum
theorem tot_set : ∀ {D : List Int} {u : Nat} {z : Int}, u < D.length → 0 ≤ z → z < D.getD u 0 → tot (D.set u z) < tot D
  | [], u, z, h, _, _ => by simp at h
  | x :: D, 0, z, _, h0, h1 => by
    simp only [List.getD_cons_zero] at h1
    simp only [tot, List.set_cons_zero, List.map_cons, List.sum_cons]
    omega
  | x :: D, u + 1, z, h, h0, h1 => by
    have := tot_set (D := D) (u := u) (z := z) (by simpa using h) h0 (by simpa using h1)
    simp only [tot, List.set_cons_succ, List.map_cons, List.sum_cons] at this ⊢
    omega
theorem tot_le {N : Nat} {b : Nat} : ∀ {D : List Int}, D.length = N → (∀ v, v < N → D.getD v 0 ≤ b) → tot D ≤ N * b := by
  induction N with
  | zero => intro D h _; have := List.eq_nil_of_length_eq_zero h; subst this; simp [tot]
  | succ N ih =>
    intro D h hb
    match D, h with
    | x :: D, h =>
      have h1 := ih (D := D) (by simpa using h) fun v hv => by simpa using hb (v + 1) (by omega)
      have h2 := hb 0 (by omega)
      simp only [List.getD_cons_zero] at h2
      simp only [tot, List.map_cons, List.sum_cons] at h1 ⊢
      rw [Nat.add_mul]
      omega

theorem LowPre.step {N : Nat} {E : Nat → Nat → Prop} {h : Nat → Int} {D : List Int} (p : LowPre N E h D) {u w : Nat} (hu : u < N) (hw : w < N) (he : E u w) (hlt : D.getD w 0 + 1 < D.getD u 0) :
    LowPre N E h (D.set u (D.getD w 0 + 1)) := by
  have hl := p.len
  have hne : w ≠ u := fun e => by subst e; omega
  have get := fun v => set_get (D := D) (u := u) (z := D.getD w 0 + 1) (by omega) v
  have dn : ∀ v, (D.set u (D.getD w 0 + 1)).getD v 0 ≤ D.getD v 0 := fun v => by
    rw [get v]; split
    · rename_i e; subst e; omega
    · exact Int.le_refl _
  refine ⟨by rw [List.length_set]; exact hl, fun v hv => ?_, fun v hv => Int.le_trans (dn v) (p.le v hv), fun v hv => ?_⟩
  · rw [get v]; split
    · have := p.nn w hw; omega
    · exact p.nn v hv
  · by_cases h1 : v = u
    · subst h1
      refine .inr ⟨w, hw, he, ?_⟩
      rw [get w, get v, if_neg hne, if_pos rfl]
      exact Int.le_refl _
    · rcases p.why v hv with e | ⟨x, h3, h4, h5⟩
      · left; rw [get v, if_neg h1]; exact e
      · refine .inr ⟨x, h3, h4, ?_⟩
        have := dn x
        rw [get v, if_neg h1]
        omega

theorem low_from {N : Nat} {E : Nat → Nat → Prop} {h : Nat → Int} : ∀ (m : Nat) (D : List Int), tot D ≤ m → LowPre N E h D → ∃ D', Low N E h D' := by
  intro m
  induction m with
  | zero =>
    intro D hm p
    refine ⟨D, p.low fun u w hu hw he => ?_⟩
    rcases Int.lt_or_le (D.getD w 0 + 1) (D.getD u 0) with hlt | hle
    · have := tot_set (D := D) (u := u) (z := D.getD w 0 + 1) (by rw [p.len]; exact hu) (by have := p.nn w hw; omega) hlt
      omega
    · exact hle
  | succ m ih =>
    intro D hm p
    by_cases hex : ∃ u w, u < N ∧ w < N ∧ E u w ∧ D.getD w 0 + 1 < D.getD u 0
    · obtain ⟨u, w, hu, hw, he, hlt⟩ := hex
      have := tot_set (D := D) (u := u) (z := D.getD w 0 + 1) (by rw [p.len]; exact hu) (by have := p.nn w hw; omega) hlt
      exact ih _ (by omega) (p.step hu hw he hlt)
    · refine ⟨D, p.low fun u w hu hw he => ?_⟩
      rcases Int.lt_or_le (D.getD w 0 + 1) (D.getD u 0) with hlt | hle
      · exact absurd ⟨u, w, hu, hw, he, hlt⟩ hex
      · exact hle

theorem LowPre.start {N : Nat} {E : Nat → Nat → Prop} {h : Nat → Int} {D : List Int} (hl : D.length = N) (h0 : ∀ v, v < N → D.getD v 0 = h v) (hn : ∀ v, v < N → 0 ≤ h v) : LowPre N E h D :=
  ⟨hl, fun v hv => by rw [h0 v hv]; exact hn v hv, fun v hv => by rw [h0 v hv]; exact Int.le_refl _, fun v hv => .inl (h0 v hv)⟩

theorem low_ex {N : Nat} (E : Nat → Nat → Prop) {h : Nat → Int} (hn : ∀ v, v < N → 0 ≤ h v) : ∃ D, Low N E h D :=
  low_from (tot ((List.range N).map h)) ((List.range N).map h) (Nat.le_refl _) (LowPre.start (by simp) (fun v hv => by simp [List.getD_eq_getElem?_getD, hv]) hn)

/-- These numbers. -/
noncomputable def lowL (N : Nat) (E : Nat → Nat → Prop) (h : Nat → Int) : List Int := Classical.epsilon fun D => Low N E h D
theorem lowL_low {N : Nat} (E : Nat → Nat → Prop) {h : Nat → Int} (hn : ∀ v, v < N → 0 ≤ h v) : Low N E h (lowL N E h) := Classical.epsilon_spec (low_ex E hn)
theorem lowL_eq {N : Nat} {E : Nat → Nat → Prop} {h : Nat → Int} {D : List Int} (L : Low N E h D) : lowL N E h = D :=
  (Classical.epsilon_spec (p := fun D => Low N E h D) ⟨D, L⟩).unique L (fun _ _ => rfl) fun _ _ _ _ => Iff.rfl

/-! ### Edges of a row -/
/-- An open arc leads from u to w. -/
def Edge (c : Cs) (res : List Int) (u w : Nat) : Prop := ∃ a, a < c.Head.length ∧ tailOf c a = u ∧ (c.Head.getD a 0).toNat = w ∧ 0 < res.getD a 0
/-- N everywhere, but 0 at t. -/
def hTo (N t : Nat) (v : Nat) : Int := if v = t then 0 else N
theorem hTo_nn (N t : Nat) (v : Nat) (_ : v < N) : 0 ≤ hTo N t v := by unfold hTo; split <;> omega
/-- Has res a number for each arc, and is v a vertex? -/
def inB (c : Cs) (res : List Int) (v : Int) : Bool := decide ((res.length : Int) = c.Head.length) && decide (0 ≤ v) && decide (v < c.N)
noncomputable def toL (c : Cs) (res : List Int) (t : Int) : List Int := if inB c res t = true then lowL c.N (Edge c res) (hTo c.N t.toNat) else []
noncomputable def fromL (c : Cs) (res : List Int) (s : Int) : List Int := if inB c res s = true then lowL c.N (fun u w => Edge c res w u) (hTo c.N s.toNat) else []
/-- An open arc that does not begin at S. -/
def EdgeS (c : Cs) (res : List Int) (u w : Nat) : Prop := u ≠ c.S ∧ Edge c res u w
noncomputable def lowerL (c : Cs) (res h : List Int) : List Int := if mayB c res h = true then lowL c.N (EdgeS c res) (fun v => h.getD v 0) else []
noncomputable def exactL (c : Cs) (res : List Int) : List Int := lowL c.N (EdgeS c res) (hTo c.N c.T)

theorem inB_iff {c : Cs} {res : List Int} {v : Int} : inB c res v = true ↔ res.length = c.Head.length ∧ 0 ≤ v ∧ v < c.N := by
  unfold inB
  rw [Bool.and_eq_true, Bool.and_eq_true, decide_eq_true_eq, decide_eq_true_eq, decide_eq_true_eq]
  omega
theorem toL_low {c : Cs} {res : List Int} {t : Int} (h : inB c res t = true) : Low c.N (Edge c res) (hTo c.N t.toNat) (toL c res t) := by
  unfold toL; rw [if_pos h]; exact lowL_low _ (hTo_nn _ _)
theorem fromL_low {c : Cs} {res : List Int} {t : Int} (h : inB c res t = true) : Low c.N (fun u w => Edge c res w u) (hTo c.N t.toNat) (fromL c res t) := by
  unfold fromL; rw [if_pos h]; exact lowL_low _ (hTo_nn _ _)
theorem exactL_low (c : Cs) (res : List Int) : Low c.N (EdgeS c res) (hTo c.N c.T) (exactL c res) := lowL_low _ (hTo_nn _ _)
theorem lowerL_low {c : Cs} (hw : WF c) {res h : List Int} (hm : mayB c res h = true) : Low c.N (EdgeS c res) (fun v => h.getD v 0) (lowerL c res h) := by
  unfold lowerL; rw [if_pos hm]; exact lowL_low _ fun v hv => (((may_iff hw).1 hm).2.rng v hv).1
theorem toL_no {c : Cs} {res : List Int} {t : Int} (h : inB c res t = false) : toL c res t = [] := by unfold toL; rw [if_neg (by rw [h]; decide)]
theorem fromL_no {c : Cs} {res : List Int} {t : Int} (h : inB c res t = false) : fromL c res t = [] := by unfold fromL; rw [if_neg (by rw [h]; decide)]
theorem toL_eq {c : Cs} {res : List Int} {t : Int} {D : List Int} (h : inB c res t = true) (L : Low c.N (Edge c res) (hTo c.N t.toNat) D) : toL c res t = D := by unfold toL; rw [if_pos h]; exact lowL_eq L
theorem fromL_eq {c : Cs} {res : List Int} {t : Int} {D : List Int} (h : inB c res t = true) (L : Low c.N (fun u w => Edge c res w u) (hTo c.N t.toNat) D) : fromL c res t = D := by unfold fromL; rw [if_pos h]; exact lowL_eq L
theorem lowerL_eq {c : Cs} {res h D : List Int} (hm : mayB c res h = true) (L : Low c.N (EdgeS c res) (fun v => h.getD v 0) D) : lowerL c res h = D := by unfold lowerL; rw [if_pos hm]; exact lowL_eq L
theorem lowerL_no {c : Cs} {res h : List Int} (hm : mayB c res h = false) : lowerL c res h = [] := by unfold lowerL; rw [if_neg (by rw [hm]; decide)]

/-- The edges of a vertex, by its own arcs. -/
theorem edge_seg {c : Cs} (hw : WF c) {res : List Int} {u w : Nat} (hu : u < c.N) : Edge c res u w ↔ ∃ a : Nat, c.First.getD u 0 ≤ a ∧ (a : Int) < c.First.getD (u + 1) 0 ∧ (c.Head.getD a 0).toNat = w ∧ 0 < res.getD a 0 := by
  constructor
  · rintro ⟨a, h1, rfl, h3, h4⟩
    obtain ⟨_, h5, h6⟩ := tail_at hw h1
    exact ⟨a, h5, h6, h3, h4⟩
  · rintro ⟨a, h1, h2, h3, h4⟩
    have hle := first_mono hw (show u + 1 ≤ c.N by omega) (Nat.le_refl _)
    rw [hw.fN] at hle
    exact ⟨a, by omega, tail_eq hw hu h1 h2, h3, h4⟩
/-- The edges into a vertex, by the arcs back. -/
theorem edge_rev {c : Cs} (hw : WF c) {res : List Int} {u w : Nat} (hu : u < c.N) (hww : w < c.N) : Edge c res w u ↔ ∃ a : Nat, c.First.getD u 0 ≤ a ∧ (a : Int) < c.First.getD (u + 1) 0 ∧ (c.Head.getD a 0).toNat = w ∧ 0 < res.getD (c.Rev.getD a 0).toNat 0 := by
  constructor
  · rintro ⟨a, h1, h2, h3, h4⟩
    obtain ⟨h5, h6, h7⟩ := tail_at hw h1
    rw [h2] at h6 h7
    obtain ⟨h8, h9, h10, _⟩ := hw.tl w a hww h1 h6 h7
    have hrv := hw.rv a h1
    rw [h3] at h8 h9
    refine ⟨(c.Rev.getD a 0).toNat, by omega, by omega, by rw [h10]; simp, ?_⟩
    rw [hw.rr a h1]
    simpa using h4
  · rintro ⟨a, h1, h2, h3, h4⟩
    have hle := first_mono hw (show u + 1 ≤ c.N by omega) (Nat.le_refl _)
    rw [hw.fN] at hle
    have ha : a < c.Head.length := by omega
    obtain ⟨h8, h9, h10, _⟩ := hw.tl u a hu ha h1 h2
    have hrv := hw.rv a ha
    rw [h3] at h8 h9
    exact ⟨(c.Rev.getD a 0).toNat, by omega, tail_eq hw hww (by omega) (by omega), by rw [h10]; simp, h4⟩
end Go.Proofs.Ytnpgeohkmdcbkaa.Aq

namespace Go.Proofs.Ytnpgeohkmdcbkaa.Aq

/-- A list of numbers below N, none twice, has at most N. -/
theorem nodup_le {N : Nat} {xs : List Int} (hn : xs.Nodup) (hr : ∀ x ∈ xs, 0 ≤ x ∧ x < N) : xs.length ≤ N := by
  have h1 : (xs.map Int.toNat).Nodup := by
    rw [List.Nodup, List.pairwise_map]
    refine List.Pairwise.imp_of_mem (fun {a b} ha hb hab e => ?_) hn
    have := hr a ha
    have := hr b hb
    omega
  have h2 : xs.map Int.toNat ⊆ List.range N := by
    intro y hy
    obtain ⟨x, hx, rfl⟩ := List.mem_map.1 hy
    have := hr x hx
    exact List.mem_range.2 (by omega)
  have := h1.length_le_of_subset h2
  simpa using this

/-- A search in its midst: D tells how far, row is the queue, those ahead of i are done, and of the one at i those arcs of which P speaks. -/
structure Bfs (N : Nat) (G : Nat → Nat → Prop) (s : Nat) (D row : List Int) (i : Nat) (P : Nat → Prop) : Prop where
  len : D.length = N
  s0 : s < N
  rng : ∀ v, v < N → 0 ≤ D.getD v 0 ∧ D.getD v 0 ≤ N
  mem : ∀ x ∈ row, 0 ≤ x ∧ x < N ∧ D.getD x.toNat 0 < N
  all : ∀ v : Nat, v < N → D.getD v 0 < N → (v : Int) ∈ row
  nd : row.Nodup
  mono : ∀ j k, j ≤ k → k < row.length → D.getD (row.getD j 0).toNat 0 ≤ D.getD (row.getD k 0).toNat 0
  idx : ∀ k, k < row.length → D.getD (row.getD k 0).toNat 0 ≤ k
  last : ∀ k, k < row.length → i < row.length → D.getD (row.getD k 0).toNat 0 ≤ D.getD (row.getD i 0).toNat 0 + 1
  ds : D.getD s 0 = 0
  why : ∀ v, v < N → v ≠ s → D.getD v 0 < N → ∃ u, u < N ∧ G u v ∧ D.getD v 0 = D.getD u 0 + 1
  done : ∀ j, j < i → j < row.length → ∀ w, w < N → G (row.getD j 0).toNat w → D.getD w 0 ≤ D.getD (row.getD j 0).toNat 0 + 1
  cur : i < row.length → ∀ w, w < N → P w → D.getD w 0 ≤ D.getD (row.getD i 0).toNat 0 + 1
  le : i ≤ row.length

section
variable {N : Nat} {G : Nat → Nat → Prop} {s : Nat} {D row : List Int} {i : Nat} {P P' : Nat → Prop}

theorem Bfs.size (b : Bfs N G s D row i P) : row.length ≤ N := nodup_le b.nd fun x hx => ⟨(b.mem x hx).1, (b.mem x hx).2.1⟩

theorem Bfs.start (hN : 1 ≤ N) (hs : s < N) (hl : D.length = N) (hD : ∀ v, v < N → D.getD v 0 = hTo N s v) : Bfs N G s D [(s : Int)] 0 (fun _ => False) := by
  have h0 : D.getD s 0 = 0 := by rw [hD s hs]; unfold hTo; rw [if_pos rfl]
  have one : ∀ k, k < [(s : Int)].length → k = 0 := fun k hk => by simp at hk; exact hk
  refine ⟨hl, hs, fun v hv => ?_, fun x hx => ?_, fun v hv h => ?_, by simp, fun j k h1 h2 => ?_, fun k hk => ?_, fun k hk _ => ?_, h0, fun v hv hne h => ?_, fun j hj => absurd hj (Nat.not_lt_zero _), fun _ w _ h => h.elim, Nat.zero_le _⟩
  · rw [hD v hv]; unfold hTo; split <;> omega
  · rw [List.mem_singleton] at hx; subst hx; rw [Int.toNat_natCast, h0]; omega
  · rw [hD v hv] at h
    unfold hTo at h
    split at h
    · rename_i e; subst e; exact List.mem_singleton.2 rfl
    · omega
  · rw [one k h2] at h1 ⊢; rw [show j = 0 by omega]; exact Int.le_refl _
  · rw [one k hk]; show D.getD s 0 ≤ 0; omega
  · rw [one k hk]; omega
  · rw [hD v hv] at h; unfold hTo at h; rw [if_neg hne] at h; omega

/-- An arc that finds nothing new. -/
theorem Bfs.pass (b : Bfs N G s D row i P) (h : i < row.length → ∀ w, w < N → P' w → P w ∨ D.getD w 0 ≤ D.getD (row.getD i 0).toNat 0 + 1) : Bfs N G s D row i P' :=
  { b with cur := fun hi w hw hp => (h hi w hw hp).elim (b.cur hi w hw) id }

/-- One that has been found already is no farther. -/
theorem Bfs.old (b : Bfs N G s D row i P) (hi : i < row.length) {w : Nat} (hw : w < N) (h : D.getD w 0 < N) : D.getD w 0 ≤ D.getD (row.getD i 0).toNat 0 + 1 := by
  obtain ⟨k, hk, e⟩ := List.mem_iff_getElem.1 (b.all w hw h)
  have := b.last k hk hi
  rw [List.getD_eq_getElem?_getD (l := row) (i := k), List.getElem?_eq_getElem hk, Option.getD_some, e, Int.toNat_natCast] at this
  exact this

/-- An arc that finds a new one. -/
theorem Bfs.add (b : Bfs N G s D row i P) (hi : i < row.length) {w : Nat} (hw : w < N) (hg : G (row.getD i 0).toNat w) (hn : ¬ D.getD w 0 < N) (h : ∀ x, x < N → P' x → P x ∨ x = w) :
    Bfs N G s (D.set w (D.getD (row.getD i 0).toNat 0 + 1)) (row ++ [(w : Int)]) i P' ∧ D.getD (row.getD i 0).toNat 0 + 1 < N := by
  have hl := b.len
  have hnw : (w : Int) ∉ row := fun hm => hn (by simpa using (b.mem _ hm).2.2)
  have hnd : (row ++ [(w : Int)]).Nodup := by
    rw [List.nodup_append]
    exact ⟨b.nd, by simp, fun x hx y hy e => by rw [List.mem_singleton] at hy; subst hy; subst e; exact hnw hx⟩
  have hsz : row.length + 1 ≤ N := by
    have := nodup_le (N := N) hnd fun x hx => by
      rcases List.mem_append.1 hx with hx | hx
      · exact ⟨(b.mem x hx).1, (b.mem x hx).2.1⟩
      · rw [List.mem_singleton] at hx; subst hx; omega
    simpa using this
  have hid := b.idx i hi
  have hzN : D.getD (row.getD i 0).toNat 0 + 1 < N := by omega
  have get := fun v => set_get (D := D) (u := w) (z := D.getD (row.getD i 0).toNat 0 + 1) (by omega) v
  have rowm : ∀ k, k < row.length → row.getD k 0 ∈ row := fun k hk => by simp [List.getD_eq_getElem?_getD, hk]
  have hrow : ∀ k, k < row.length → (row ++ [(w : Int)]).getD k 0 = row.getD k 0 := fun k hk => by simp [List.getD_eq_getElem?_getD, List.getElem?_append_left hk]
  have hrowe : (row ++ [(w : Int)]).getD row.length 0 = w := by simp [List.getD_eq_getElem?_getD]
  have keep : ∀ k, k < row.length → (D.set w (D.getD (row.getD i 0).toNat 0 + 1)).getD (row.getD k 0).toNat 0 = D.getD (row.getD k 0).toNat 0 := fun k hk => by
    rw [get, if_neg fun e => hnw ?_]
    have := (b.mem _ (rowm k hk)).1
    rw [← e, Int.toNat_of_nonneg this]
    exact rowm k hk
  have hir := b.mem _ (rowm i hi)
  have hz0 := (b.rng (row.getD i 0).toNat (by omega)).1
  have cases_k : ∀ k, k < (row ++ [(w : Int)]).length → k < row.length ∨ k = row.length := fun k hk => by simp at hk; omega
  have key : ∀ k, k < row.length → (D.set w (D.getD (row.getD i 0).toNat 0 + 1)).getD ((row ++ [(w : Int)]).getD k 0).toNat 0 = D.getD (row.getD k 0).toNat 0 := fun k hk => by rw [hrow k hk, keep k hk]
  have keye : (D.set w (D.getD (row.getD i 0).toNat 0 + 1)).getD ((row ++ [(w : Int)]).getD row.length 0).toNat 0 = D.getD (row.getD i 0).toNat 0 + 1 := by rw [hrowe, Int.toNat_natCast, get, if_pos rfl]
  have dn : ∀ v, v < N → (D.set w (D.getD (row.getD i 0).toNat 0 + 1)).getD v 0 ≤ D.getD v 0 := fun v hv => by
    rw [get v]; split
    · rename_i e; subst e; omega
    · exact Int.le_refl _
  refine ⟨⟨by rw [List.length_set]; exact hl, b.s0, fun v hv => ?_, fun x hx => ?_, fun v hv h1 => ?_, hnd, fun j k h1 h2 => ?_, fun k hk => ?_, fun k hk _ => ?_, ?_, fun v hv hne h1 => ?_, fun j hj hj2 v hv h1 => ?_, fun _ v hv h1 => ?_, by have := b.le; simp; omega⟩, hzN⟩
  · rw [get v]; split
    · omega
    · exact b.rng v hv
  · rcases List.mem_append.1 hx with hx | hx
    · have := b.mem x hx
      refine ⟨this.1, this.2.1, ?_⟩
      have := dn x.toNat (by omega)
      omega
    · rw [List.mem_singleton] at hx; subst hx
      rw [Int.toNat_natCast, get, if_pos rfl]
      omega
  · rw [get v] at h1
    split at h1
    · rename_i e; subst e; exact List.mem_append_right _ (List.mem_singleton.2 rfl)
    · exact List.mem_append_left _ (b.all v hv h1)
  · rcases cases_k k h2 with hk | hk
    · rw [key k hk, key j (by omega)]; exact b.mono j k h1 hk
    · subst hk
      rw [keye]
      rcases Nat.lt_or_ge j row.length with hj | hj
      · rw [key j hj]; exact b.last j hj hi
      · rw [show j = row.length by omega, keye]; exact Int.le_refl _
  · rcases cases_k k hk with hk | hk
    · rw [key k hk]; exact b.idx k hk
    · subst hk; rw [keye]; omega
  · rw [key i hi]
    rcases cases_k k hk with hk | hk
    · rw [key k hk]; exact b.last k hk hi
    · subst hk; rw [keye]; exact Int.le_refl _
  · rw [get, if_neg fun e => hn (by rw [← e, b.ds]; omega)]; exact b.ds
  · by_cases hvw : v = w
    · subst hvw
      refine ⟨(row.getD i 0).toNat, by omega, hg, ?_⟩
      rw [get v, if_pos rfl, keep i hi]
    · rw [get v, if_neg hvw] at h1 ⊢
      obtain ⟨u, h2, h3, h4⟩ := b.why v hv hne h1
      refine ⟨u, h2, h3, ?_⟩
      rw [get u, if_neg fun e => hn (by subst e; omega)]
      exact h4
  · have hj3 : j < row.length := by omega
    rw [key j hj3]
    rw [hrow j hj3] at h1
    exact Int.le_trans (dn v hv) (b.done j hj hj3 v hv h1)
  · rw [key i hi]
    rcases h v hv h1 with h2 | h2
    · exact Int.le_trans (dn v hv) (b.cur hi v hv h2)
    · subst h2; rw [get, if_pos rfl]; exact Int.le_refl _

/-- The next one. -/
theorem Bfs.next (b : Bfs N G s D row i P) (hi : i < row.length) (h : ∀ w, w < N → G (row.getD i 0).toNat w → P w) : Bfs N G s D row (i + 1) (fun _ => False) :=
  { b with
    last := fun k hk h1 => by have := b.last k hk hi; have := b.mono i (i + 1) (by omega) h1; omega
    done := fun j hj hj2 w hw hg => by
      rcases Nat.lt_or_ge j i with h1 | h1
      · exact b.done j h1 hj2 w hw hg
      · have : j = i := by omega
        subst this
        exact b.cur hi w hw (h w hw hg)
    cur := fun _ _ _ h => h.elim
    le := hi }

/-- At its end. -/
theorem Bfs.low (b : Bfs N G s D row i P) (hi : i = row.length) : Low N (fun v u => G u v) (hTo N s) D := by
  have hs := b.s0
  refine ⟨b.len, fun v hv => (b.rng v hv).1, fun v hv => ?_, fun v u hv hu hg => ?_, fun v hv => ?_⟩
  · unfold hTo; split
    · rename_i e; subst e; rw [b.ds]; omega
    · exact (b.rng v hv).2
  · rcases Int.lt_or_le (D.getD u 0) N with h | h
    · obtain ⟨k, hk, e⟩ := List.mem_iff_getElem.1 (b.all u hu h)
      have hk' : row.getD k 0 = u := by rw [List.getD_eq_getElem?_getD, List.getElem?_eq_getElem hk, Option.getD_some, e]
      have := b.done k (by omega) hk v hv (by rw [hk', Int.toNat_natCast]; exact hg)
      rw [hk', Int.toNat_natCast] at this
      exact this
    · have := (b.rng v hv).2; omega
  · unfold hTo
    by_cases h1 : v = s
    · subst h1; left; rw [if_pos rfl]; exact b.ds
    · rw [if_neg h1]
      rcases Int.lt_or_le (D.getD v 0) N with h | h
      · obtain ⟨u, h2, h3, h4⟩ := b.why v hv h1 h
        exact .inr ⟨u, h2, h3, h4⟩
      · left; have := (b.rng v hv).2; omega
end
end Go.Proofs.Ytnpgeohkmdcbkaa.Aq
