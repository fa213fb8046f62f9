/- Plain mathematics of heights: what the package label tells. -/
import Derived.Test.YtnpgeohkmdcbkaaPlain2
namespace Go.Proofs.Ytnpgeohkmdcbkaa.Aq

def wrongB (N : Nat) (k : Int) : Bool := decide (k < 0) || decide ((N : Int) < k)
def rightB (c : Cs) (h : List Int) : Bool := decide ((h.length : Int) = c.N) && decide ((0 : Int) < c.N) && !(h.any (wrongB c.N)) && decide (h.getD c.T 0 = 0) && decide (h.getD c.S 0 = c.N)
def mayB (c : Cs) (res h : List Int) : Bool := decide ((res.length : Int) = c.Head.length) && rightB c h
def downP (c : Cs) (res h : List Int) (p : Int → Bool) (a : Nat) : Bool := !decide ((tailOf c a : Int) = c.S) && decide (0 < res.getD a 0) && p (h.getD (tailOf c a) 0 - h.getD (c.Head.getD a 0).toNat 0)
def downL (c : Cs) (res h : List Int) (p : Int → Bool) : List Int := if mayB c res h = true then ((List.range c.Head.length).filter (downP c res h p)).map Int.ofNat else []
def steepL (c : Cs) (res h : List Int) : List Int := downL c res h fun k => decide (1 < k)
def flatL (c : Cs) (res h : List Int) : List Int := downL c res h fun k => decide (k = 1)
def validB (c : Cs) (res h : List Int) : Bool := mayB c res h && decide (((steepL c res h).length : Int) = 0)
/-- What right heights are. -/
structure RightH (c : Cs) (h : List Int) : Prop where
  len : h.length = c.N
  rng : ∀ v, v < c.N → 0 ≤ h.getD v 0 ∧ h.getD v 0 ≤ c.N
  t : h.getD c.T 0 = 0
  s : h.getD c.S 0 = c.N

theorem right_iff {c : Cs} (hw : WF c) {h : List Int} : rightB c h = true ↔ RightH c h := by
  have hlo := hw.lo
  unfold rightB
  simp only [Bool.and_eq_true, decide_eq_true_eq, Bool.not_eq_true', List.any_eq_false]
  constructor
  · rintro ⟨⟨⟨⟨h1, _⟩, h2⟩, h3⟩, h4⟩
    refine ⟨by omega, fun v hv => ?_, h3, h4⟩
    have hm : h.getD v 0 ∈ h := by
      have hv' : v < h.length := by omega
      simp [List.getD_eq_getElem?_getD, hv']
    have := h2 _ hm
    simp only [wrongB, Bool.or_eq_true, decide_eq_true_eq] at this
    omega
  · rintro ⟨h1, h2, h3, h4⟩
    refine ⟨⟨⟨⟨by omega, by omega⟩, fun x hx => ?_⟩, h3⟩, h4⟩
    obtain ⟨v, hv, rfl⟩ := List.mem_iff_getElem.1 hx
    have := h2 v (by omega)
    rw [List.getD_eq_getElem?_getD, List.getElem?_eq_getElem hv, Option.getD_some] at this
    simp only [wrongB, Bool.or_eq_true, decide_eq_true_eq]
    omega
theorem may_iff {c : Cs} (hw : WF c) {res h : List Int} : mayB c res h = true ↔ res.length = c.Head.length ∧ RightH c h := by
  unfold mayB
  rw [Bool.and_eq_true, decide_eq_true_eq, right_iff hw]
  exact ⟨fun ⟨h1, h2⟩ => ⟨by omega, h2⟩, fun ⟨h1, h2⟩ => ⟨by omega, h2⟩⟩
theorem and3 {a b : Int} {x y : Bool} (h : ((decide (a = b) && x) && y) = true) : a = b := by
  rw [Bool.and_eq_true, Bool.and_eq_true, decide_eq_true_eq] at h
  exact h.1.1
theorem and4 {a b : Int} {x y z : Bool} (h : (((decide (a = b) && x) && y) && z) = true) : a = b := and3 (x := x) (y := y) (by rw [Bool.and_eq_true] at h; exact h.1)
theorem filt_succ (p : Nat → Bool) (k : Nat) : ((List.range (k + 1)).filter p).map Int.ofNat = ((List.range k).filter p).map Int.ofNat ++ (if p k = true then [(k : Int)] else []) := by
  rw [List.range_succ, List.filter_append, List.map_append]
  congr 1
  split <;> simp_all
theorem filt_len (p : Nat → Bool) (k : Nat) : (((List.range k).filter p).map Int.ofNat).length ≤ k := by
  rw [List.length_map]
  exact Nat.le_trans (List.length_filter_le _ _) (by simp)
end Go.Proofs.Ytnpgeohkmdcbkaa.Aq
namespace Go.Proofs.Ytnpgeohkmdcbkaa.Aq
def sumTo (l : List Int) : Nat → Int
  | 0 => 0
  | k + 1 => sumTo l k + l.getD k 0
def sumB (c : Cs) (h : List Int) : Int := if rightB c h = true then sumTo h h.length else 0
theorem sumTo_rng {c : Cs} {h : List Int} (hr : RightH c h) : ∀ k, k ≤ c.N → 0 ≤ sumTo h k ∧ sumTo h k ≤ c.N * k
  | 0, _ => ⟨Int.le_refl _, by simp [sumTo]⟩
  | k + 1, hk => by
    obtain ⟨h1, h2⟩ := sumTo_rng hr k (by omega)
    obtain ⟨h3, h4⟩ := hr.rng k (by omega)
    rw [sumTo]
    refine ⟨by omega, ?_⟩
    have : (c.N : Int) * ((k + 1 : Nat) : Int) = c.N * k + c.N := by rw [Int.natCast_add, Int.mul_add]; simp
    rw [this]
    omega
/-- An open residual arc of a vertex. -/
def Opn (c : Cs) (res : List Int) (u : Nat) (a : Int) : Prop := c.First.getD u 0 ≤ a ∧ a < c.First.getD (u + 1) 0 ∧ 0 < res.getD a.toNat 0
/-- The height of an arc's end. -/
def endH (c : Cs) (h : List Int) (a : Int) : Int := h.getD (c.Head.getD a.toNat 0).toNat 0
/-- The lowest open end. -/
def LeastR (c : Cs) (res h : List Int) (u b l : Int) (ok : Bool) : Prop :=
  (mayB c res h = true ∧ 0 ≤ u ∧ u < c.N ∧ ok = true ∧ Opn c res u.toNat b ∧ l = endH c h b ∧ (∀ a, Opn c res u.toNat a → l ≤ endH c h a) ∧ ∀ a, a < b → Opn c res u.toNat a → l < endH c h a) ∨
  (ok = false ∧ b = 0 ∧ l = 0 ∧ (mayB c res h = true → 0 ≤ u → u < c.N → ∀ a, ¬ Opn c res u.toNat a))
theorem least_unique {c : Cs} {res h : List Int} {u b l b' l' : Int} {ok ok' : Bool} (h1 : LeastR c res h u b l ok) (h2 : LeastR c res h u b' l' ok') : b = b' ∧ l = l' ∧ ok = ok' := by
  rcases h1 with ⟨m, u0, u1, rfl, o, rfl, h3, h4⟩ | ⟨rfl, rfl, rfl, h3⟩ <;> rcases h2 with ⟨m', u0', u1', rfl, o', rfl, h3', h4'⟩ | ⟨rfl, rfl, rfl, h3'⟩
  · have h5 := h3 _ o'
    have h6 := h3' _ o
    have h7 : endH c h b = endH c h b' := by omega
    rcases Int.lt_trichotomy b b' with h | h | h
    · have := h4' b h o; omega
    · exact ⟨h, by rw [h], rfl⟩
    · have := h4 b' h o'; omega
  · exact absurd o (h3' m u0 u1 b)
  · exact absurd o' (h3 m' u0' u1' b')
  · exact ⟨rfl, rfl, rfl⟩
/-- So far. -/
def LeastTo (c : Cs) (res h : List Int) (u : Nat) (a b l : Int) : Prop :=
  (b = 0 ∧ l = c.N + 1 ∧ ∀ x, x < a → ¬ Opn c res u x) ∨ (l ≤ c.N ∧ b < a ∧ Opn c res u b ∧ l = endH c h b ∧ (∀ x, x < a → Opn c res u x → l ≤ endH c h x) ∧ ∀ x, x < b → Opn c res u x → l < endH c h x)
theorem least_take {c : Cs} {res h : List Int} {u : Nat} {a b l : Int} (ht : LeastTo c res h u a b l) (ho : Opn c res u a) (hl : endH c h a < l) (hN : endH c h a ≤ c.N) : LeastTo c res h u (a + 1) a (endH c h a) := by
  refine .inr ⟨hN, by omega, ho, rfl, fun x hx hox => ?_, fun x hx hox => ?_⟩
  · rcases Int.lt_or_le x a with h1 | h1
    · rcases ht with ⟨_, _, h2⟩ | ⟨_, _, _, _, h2, _⟩
      · exact absurd hox (h2 x h1)
      · have := h2 x h1 hox; omega
    · have : x = a := by omega
      subst this; exact Int.le_refl _
  · rcases ht with ⟨_, _, h2⟩ | ⟨_, _, _, _, h2, _⟩
    · exact absurd hox (h2 x hx)
    · have := h2 x hx hox; omega
theorem least_pass {c : Cs} {res h : List Int} {u : Nat} {a b l : Int} (ht : LeastTo c res h u a b l) (hn : ¬ (Opn c res u a ∧ endH c h a < l)) (hN : endH c h a ≤ c.N) : LeastTo c res h u (a + 1) b l := by
  rcases ht with ⟨rfl, rfl, h2⟩ | ⟨h1, h2, h3, h4, h5, h6⟩
  · refine .inl ⟨rfl, rfl, fun x hx hox => ?_⟩
    rcases Int.lt_or_le x a with h3 | h3
    · exact h2 x h3 hox
    · have : x = a := by omega
      subst this
      exact hn ⟨hox, by omega⟩
  · refine .inr ⟨h1, by omega, h3, h4, fun x hx hox => ?_, h6⟩
    rcases Int.lt_or_le x a with h7 | h7
    · exact h5 x h7 hox
    · have : x = a := by omega
      subst this
      exact Int.not_lt.1 fun h8 => hn ⟨hox, h8⟩
end Go.Proofs.Ytnpgeohkmdcbkaa.Aq
namespace Go.Proofs.Ytnpgeohkmdcbkaa.Aq
/-- Seen so far from above. -/
def LeastFrom (c : Cs) (res h : List Int) (u : Nat) (a b l : Int) : Prop :=
  (b = 0 ∧ l = -1 ∧ ∀ x, a < x → ¬ Opn c res u x) ∨ (0 ≤ l ∧ a < b ∧ Opn c res u b ∧ l = endH c h b ∧ (∀ x, a < x → Opn c res u x → l ≤ endH c h x) ∧ ∀ x, a < x → x < b → Opn c res u x → l < endH c h x)
theorem least_take' {c : Cs} {res h : List Int} {u : Nat} {a b l : Int} (ht : LeastFrom c res h u a b l) (ho : Opn c res u a) (hl : l < 0 ∨ endH c h a ≤ l) (h0 : 0 ≤ endH c h a) : LeastFrom c res h u (a - 1) a (endH c h a) := by
  refine .inr ⟨h0, by omega, ho, rfl, fun x hx hox => ?_, fun x hx hxa hox => by omega⟩
  rcases Int.lt_or_le a x with h1 | h1
  · rcases ht with ⟨_, _, h2⟩ | ⟨_, _, _, _, h2, _⟩
    · exact absurd hox (h2 x h1)
    · have := h2 x h1 hox; omega
  · have : x = a := by omega
    subst this; exact Int.le_refl _
theorem least_pass' {c : Cs} {res h : List Int} {u : Nat} {a b l : Int} (ht : LeastFrom c res h u a b l) (hn : ¬ (Opn c res u a ∧ (l < 0 ∨ endH c h a ≤ l))) : LeastFrom c res h u (a - 1) b l := by
  rcases ht with ⟨rfl, rfl, h2⟩ | ⟨h1, h2, h3, h4, h5, h6⟩
  · refine .inl ⟨rfl, rfl, fun x hx hox => ?_⟩
    rcases Int.lt_or_le a x with h3 | h3
    · exact h2 x h3 hox
    · have : x = a := by omega
      subst this
      exact hn ⟨hox, .inl (by omega)⟩
  · have key : Opn c res u a → l < endH c h a := fun ho => Int.not_le.1 fun h8 => hn ⟨ho, .inr h8⟩
    refine .inr ⟨h1, by omega, h3, h4, fun x hx hox => ?_, fun x hx hxb hox => ?_⟩
    · rcases Int.lt_or_le a x with h7 | h7
      · exact h5 x h7 hox
      · have : x = a := by omega
        subst this
        have := key hox; omega
    · rcases Int.lt_or_le a x with h7 | h7
      · exact h6 x h7 hxb hox
      · have : x = a := by omega
        subst this
        exact key hox
theorem seg_rng {c : Cs} (hw : WF c) {v : Nat} (hv : v < c.N) : 0 ≤ c.First.getD v 0 ∧ c.First.getD v 0 ≤ c.First.getD (v + 1) 0 ∧ c.First.getD (v + 1) 0 ≤ c.Head.length := by
  have h1 := first_mono hw (show 0 ≤ v by omega) (by omega)
  have h2 := first_mono hw (show v + 1 ≤ c.N by omega) (Nat.le_refl _)
  have := hw.f0
  have := hw.fN
  have := hw.fm v hv
  omega
theorem end_rng {c : Cs} (hw : WF c) {h : List Int} (hr : RightH c h) {a : Int} (h0 : 0 ≤ a) (h1 : a < c.Head.length) : (0 ≤ c.Head.getD a.toNat 0 ∧ c.Head.getD a.toNat 0 < c.N) ∧ 0 ≤ endH c h a ∧ endH c h a ≤ c.N := by
  have h2 := hw.hd a.toNat (by omega)
  exact ⟨h2, hr.rng _ (by omega)⟩
/-- By how far they go down. -/
def byP (c : Cs) (res h : List Int) (lo hi : Int) (a : Nat) : Bool := !decide ((tailOf c a : Int) = c.S) && decide (0 < res.getD a 0) && decide (lo ≤ h.getD (tailOf c a) 0 - h.getD (c.Head.getD a 0).toNat 0) && decide (h.getD (tailOf c a) 0 - h.getD (c.Head.getD a 0).toNat 0 ≤ hi)
def filt (p : Nat → Bool) (k : Nat) : List Int := ((List.range k).filter p).map Int.ofNat
def byL (c : Cs) (res h : List Int) (lo hi : Int) : List Int := if mayB c res h = true then filt (byP c res h lo hi) c.Head.length else []
theorem by_down {c : Cs} (hw : WF c) {res h : List Int} {lo hi : Int} {p : Int → Bool} (hp : ∀ k : Int, k ≤ c.N → (decide (lo ≤ k) && decide (k ≤ hi)) = p k) : byL c res h lo hi = downL c res h p := by
  unfold byL downL
  by_cases hm : mayB c res h = true
  · rw [if_pos hm, if_pos hm]
    obtain ⟨_, hr⟩ := (may_iff hw).1 hm
    unfold filt
    congr 1
    refine List.filter_congr fun a ha => ?_
    have ha := List.mem_range.1 ha
    obtain ⟨h1, _⟩ := tail_at hw ha
    have h2 := hr.rng _ h1
    have h3 := hw.hd a ha
    have h4 := hr.rng (c.Head.getD a 0).toNat (by omega)
    unfold byP downP
    rw [Bool.and_assoc, hp _ (by omega)]
  · rw [if_neg hm, if_neg hm]
theorem right_no_len {c : Cs} {h : List Int} (hl : ¬ (h.length : Int) = c.N) : rightB c h = false := by
  unfold rightB
  rw [decide_eq_false hl]; rfl
theorem right_no_any {c : Cs} {h : List Int} (ha : h.any (wrongB c.N) = true) : rightB c h = false := by
  unfold rightB
  rw [ha]; simp
theorem right_end {c : Cs} {h : List Int} (hl : (h.length : Int) = c.N) (h0 : 0 < c.N) (ha : h.any (wrongB c.N) = false) : rightB c h = (decide (h.getD c.T 0 = 0) && decide (h.getD c.S 0 = c.N)) := by
  unfold rightB
  rw [decide_eq_true hl, decide_eq_true (by omega : (0 : Int) < c.N), ha]; rfl
end Go.Proofs.Ytnpgeohkmdcbkaa.Aq
namespace Go.Proofs.Ytnpgeohkmdcbkaa.Aq
theorem downL_len {c : Cs} (hw : WF c) (res h : List Int) (p : Int → Bool) : (downL c res h p).length ≤ 1280 := by
  unfold downL
  have := hw.m
  split
  · have := filt_len (downP c res h p) c.Head.length
    omega
  · simp
theorem steepL_len {c : Cs} (hw : WF c) (res h : List Int) : (steepL c res h).length ≤ 1280 := downL_len hw _ _ _
theorem flatL_len {c : Cs} (hw : WF c) (res h : List Int) : (flatL c res h).length ≤ 1280 := downL_len hw _ _ _
end Go.Proofs.Ytnpgeohkmdcbkaa.Aq
