/- The engine, part 16: slices of slices of numbers. No condition but those each lemma names. -/
import Derived.Test.YtnpgeohkmdcbkaaEng15
namespace Go.Proofs.Ytnpgeohkmdcbkaa.Aq
open Go Go.RowKit

abbrev Hd := Option Addr × Nat × Nat
/-- The k-th of many slices of the call's own. -/
def ownK (hs : List Hd) (xss : List (List Int)) (k : Nat) : Asn := own (eInt .i64) 1 3 (hs.getD k (none, 0, 0)).1 (hs.getD k (none, 0, 0)).2.1 (hs.getD k (none, 0, 0)).2.2 (xss.getD k [])
def slK (hs : List Hd) (xss : List (List Int)) (k : Nat) : Asn := sl (eInt .i64) 1 (hs.getD k (none, 0, 0)).1 (hs.getD k (none, 0, 0)).2.1 (hs.getD k (none, 0, 0)).2.2 (xss.getD k [])

/-- Many slices that can be read. -/
def sls (hs : List Hd) (xss : List (List Int)) : Asn where
  p := fun w => hs.length = xss.length ∧ ∀ k, k < hs.length → (slK hs xss k).p w
  fp := fun b => ∃ k, k < hs.length ∧ (slK hs xss k).fp b
  mt := false
  st := fun h hp => ⟨hp.1, fun k hk => (slK hs xss k).st (fun b hb => h b ⟨k, hk, hb⟩) (hp.2 k hk)⟩
  lt := fun hp ⟨k, hk, hb⟩ => (slK hs xss k).lt (hp.2 k hk) hb

/-- Many slices of the call's own (but for one), each in its own block. -/
def ownsE (ex : Option Nat) (hs : List Hd) (xss : List (List Int)) : Asn where
  p := fun w => hs.length = xss.length ∧ (∀ k, k < hs.length → some k ≠ ex → (ownK hs xss k).p w) ∧ ∀ i j, i < hs.length → j < hs.length → i ≠ j → some i ≠ ex → some j ≠ ex → ∀ b, (ownK hs xss i).fp b → ¬ (ownK hs xss j).fp b
  fp := fun b => ∃ k, k < hs.length ∧ some k ≠ ex ∧ (ownK hs xss k).fp b
  mt := true
  st := fun h hp => ⟨hp.1, fun k hk hne => (ownK hs xss k).st (fun b hb => h b ⟨k, hk, hne, hb⟩) (hp.2.1 k hk hne), hp.2.2⟩
  lt := fun hp ⟨k, hk, hne, hb⟩ => (ownK hs xss k).lt (hp.2.1 k hk hne) hb

section
variable {B : Nat} {we w : World} {L : List Asn} {hs : List Hd} {xss : List (List Int)}

/-- The head of the list of facts turns into others, on the same memory. -/
theorem St.head {a : Asn} (h : St B we w (a :: L)) (a' : Asn) (hp : a'.p w) (hf : ∀ b, a'.fp b → a.fp b) (hm : a'.mt = true → a.mt = true) (hm2 : a.mt = true ∨ a'.mt = false) : St B we w (a' :: L) := by
  have hap := List.pairwise_cons.1 h.apart
  refine ⟨h.below, h.base, fun x hx => ?_, fun x hx hmx b hb => ?_, List.pairwise_cons.2 ⟨fun x hx hor b hb hxb => ?_, hap.2⟩⟩
  · rcases List.mem_cons.1 hx with rfl | hx
    · exact hp
    · exact h.ok x (List.mem_cons_of_mem _ hx)
  · rcases List.mem_cons.1 hx with rfl | hx
    · exact h.ge a (List.mem_cons_self) (hm hmx) b (hf b hb)
    · exact h.ge x (List.mem_cons_of_mem _ hx) hmx b hb
  · refine hap.1 x hx ?_ b (hf b hb) hxb
    rcases hor with ho | ho
    · exact .inl (hm ho)
    · exact .inr ho

theorem St.ownsNil (h : St B we w L) : St B we w (ownsE none [] [] :: L) := by
  refine ⟨h.below, h.base, fun x hx => ?_, fun x hx hmx b hb => ?_, List.pairwise_cons.2 ⟨fun x hx _ b hb _ => ?_, h.apart⟩⟩
  · rcases List.mem_cons.1 hx with rfl | hx
    · exact ⟨rfl, fun k hk => absurd hk (Nat.not_lt_zero k), fun i j hi => absurd hi (Nat.not_lt_zero i)⟩
    · exact h.ok x hx
  · rcases List.mem_cons.1 hx with rfl | hx
    · obtain ⟨k, hk, _⟩ := hb; exact absurd hk (Nat.not_lt_zero k)
    · exact h.ge x hx hmx b hb
  · obtain ⟨k, hk, _⟩ := hb; exact absurd hk (Nat.not_lt_zero k)

theorem St.ownsSplit {k : Nat} (h : St B we w (ownsE none hs xss :: L)) (hk : k < hs.length) : St B we w (ownK hs xss k :: ownsE (some k) hs xss :: L) := by
  have hap := List.pairwise_cons.1 h.apart
  have hp : (ownsE none hs xss).p w := h.ok _ List.mem_cons_self
  have hge := h.ge _ List.mem_cons_self rfl
  have no : ∀ i : Nat, some i ≠ (none : Option Nat) := fun i => by simp
  have sub : ∀ b, (ownsE (some k) hs xss).fp b → (ownsE none hs xss).fp b := fun b ⟨i, h1, _, h3⟩ => ⟨i, h1, no i, h3⟩
  have sub2 : ∀ b, (ownK hs xss k).fp b → (ownsE none hs xss).fp b := fun b hb => ⟨k, hk, no k, hb⟩
  refine ⟨h.below, h.base, fun x hx => ?_, fun x hx hmx b hb => ?_, List.pairwise_cons.2 ⟨fun x hx hor b hb hxb => ?_, List.pairwise_cons.2 ⟨fun x hx hor b hb hxb => ?_, hap.2⟩⟩⟩
  · rcases List.mem_cons.1 hx with rfl | hx
    · exact hp.2.1 k hk (no k)
    · rcases List.mem_cons.1 hx with rfl | hx
      · exact ⟨hp.1, fun i hi _ => hp.2.1 i hi (no i), fun i j hi hj hne _ _ => hp.2.2 i j hi hj hne (no i) (no j)⟩
      · exact h.ok x (List.mem_cons_of_mem _ hx)
  · rcases List.mem_cons.1 hx with rfl | hx
    · exact hge b (sub2 b hb)
    · rcases List.mem_cons.1 hx with rfl | hx
      · exact hge b (sub b hb)
      · exact h.ge x (List.mem_cons_of_mem _ hx) hmx b hb
  · rcases List.mem_cons.1 hx with rfl | hx
    · obtain ⟨i, hi, hne, hib⟩ := hxb
      exact hp.2.2 k i hk hi (fun e => hne (by rw [e])) (no k) (no i) b hb hib
    · exact hap.1 x hx (.inl rfl) b (sub2 b hb) hxb
  · exact hap.1 x hx (.inl rfl) b (sub b hb) hxb

theorem getD_setL {α : Type} {xs : List α} {k : Nat} {x d : α} (hk : k < xs.length) (i : Nat) : (xs.set k x).getD i d = if i = k then x else xs.getD i d := by
  simp only [List.getD_eq_getElem?_getD, List.getElem?_set]
  by_cases h : k = i
  · subst h; simp [hk]
  · simp [h, Ne.symm h]

theorem St.ownsJoin {k m c : Nat} {A : Option Addr} {xs : List Int} (h : St B we w (own (eInt .i64) 1 3 A m c xs :: ownsE (some k) hs xss :: L)) (hk : k < hs.length) : St B we w (ownsE none (hs.set k (A, m, c)) (xss.set k xs) :: L) := by
  have hap := List.pairwise_cons.1 h.apart
  have hap2 := List.pairwise_cons.1 hap.2
  have hp1 : (own (eInt .i64) 1 3 A m c xs).p w := h.ok _ List.mem_cons_self
  have hp2 : (ownsE (some k) hs xss).p w := h.ok _ (.tail _ (.head _))
  have hlen := hp2.1
  have hd : ∀ b, (own (eInt .i64) 1 3 A m c xs).fp b → ¬ (ownsE (some k) hs xss).fp b := fun b => hap.1 _ List.mem_cons_self (.inl rfl) b
  have at_k : ownK (hs.set k (A, m, c)) (xss.set k xs) k = own (eInt .i64) 1 3 A m c xs := by
    unfold ownK
    rw [getD_setL hk, getD_setL (by omega), if_pos rfl, if_pos rfl]
  have at_i : ∀ i, i ≠ k → ownK (hs.set k (A, m, c)) (xss.set k xs) i = ownK hs xss i := fun i hi => by
    unfold ownK
    rw [getD_setL hk, getD_setL (by omega), if_neg hi, if_neg hi]
  have hfp : ∀ b, (ownsE none (hs.set k (A, m, c)) (xss.set k xs)).fp b → (own (eInt .i64) 1 3 A m c xs).fp b ∨ (ownsE (some k) hs xss).fp b := fun b ⟨i, hi, _, hb⟩ => by
    rw [List.length_set] at hi
    by_cases hik : i = k
    · subst hik; rw [at_k] at hb; exact .inl hb
    · rw [at_i i hik] at hb; exact .inr ⟨i, hi, fun e => hik (by injection e), hb⟩
  refine ⟨h.below, h.base, fun x hx => ?_, fun x hx hmx b hb => ?_, List.pairwise_cons.2 ⟨fun x hx hor b hb hxb => ?_, hap2.2⟩⟩
  · rcases List.mem_cons.1 hx with rfl | hx
    · refine ⟨by rw [List.length_set, List.length_set]; exact hlen, fun i hi _ => ?_, fun i j hi hj hne _ _ b hbi hbj => ?_⟩
      · rw [List.length_set] at hi
        by_cases hik : i = k
        · subst hik; rw [at_k]; exact hp1
        · rw [at_i i hik]; exact hp2.2.1 i hi fun e => hik (by injection e)
      · rw [List.length_set] at hi hj
        by_cases hik : i = k
        · subst hik
          have hjk : j ≠ i := fun e => hne e.symm
          rw [at_k] at hbi
          rw [at_i j hjk] at hbj
          exact hd b hbi ⟨j, hj, fun e => hjk (by injection e), hbj⟩
        · rw [at_i i hik] at hbi
          by_cases hjk : j = k
          · subst hjk
            rw [at_k] at hbj
            exact hd b hbj ⟨i, hi, fun e => hik (by injection e), hbi⟩
          · rw [at_i j hjk] at hbj
            exact hp2.2.2 i j hi hj hne (fun e => hik (by injection e)) (fun e => hjk (by injection e)) b hbi hbj
    · exact h.ok x (List.mem_cons_of_mem _ (List.mem_cons_of_mem _ hx))
  · rcases List.mem_cons.1 hx with rfl | hx
    · rcases hfp b hb with h1 | h1
      · exact h.ge _ List.mem_cons_self rfl b h1
      · exact h.ge _ (.tail _ (.head _)) rfl b h1
    · exact h.ge x (List.mem_cons_of_mem _ (List.mem_cons_of_mem _ hx)) hmx b hb
  · rcases hfp b hb with h1 | h1
    · exact hap.1 x (List.mem_cons_of_mem _ hx) (.inl rfl) b h1 hxb
    · exact hap2.1 x hx (.inl rfl) b h1 hxb

theorem ownK_old {i : Nat} (hi : i < hs.length) (hl : hs.length = xss.length) : ownK (hs ++ [(none, 0, 0)]) (xss ++ [[]]) i = ownK hs xss i := by
  unfold ownK
  simp only [List.getD_eq_getElem?_getD, List.getElem?_append_left hi, List.getElem?_append_left (hl ▸ hi)]
theorem ownK_new (hl : hs.length = xss.length) : ownK (hs ++ [(none, 0, 0)]) (xss ++ [[]]) hs.length = own (eInt .i64) 1 3 none 0 0 [] := by
  unfold ownK
  have h1 : (hs ++ [((none, 0, 0) : Hd)]).getD hs.length (none, 0, 0) = (none, 0, 0) := by simp [List.getD_eq_getElem?_getD]
  have h2 : (xss ++ [[]]).getD hs.length [] = [] := by rw [hl]; simp [List.getD_eq_getElem?_getD]
  rw [h1, h2]
theorem St.ownsAdd (h : St B we w (ownsE none hs xss :: L)) : St B we w (ownsE none (hs ++ [(none, 0, 0)]) (xss ++ [[]]) :: L) := by
  have hp : (ownsE none hs xss).p w := h.ok _ List.mem_cons_self
  have hl := hp.1
  have no : ∀ i : Nat, some i ≠ (none : Option Nat) := fun i => by simp
  have nofp : ∀ b, ¬ (own (eInt .i64) 1 3 none 0 0 []).fp b := fun b ⟨ad, e, _⟩ => by cases e
  have cs : ∀ i, i < (hs ++ [((none, 0, 0) : Hd)]).length → i < hs.length ∨ i = hs.length := fun i hi => by simp at hi; omega
  refine h.head _ ⟨by simp [hl], fun i hi _ => ?_, fun i j hi hj hne _ _ b hb hb' => ?_⟩ (fun b ⟨i, hi, _, hb⟩ => ?_) (fun _ => rfl) (.inl rfl)
  · rcases cs i hi with h1 | rfl
    · rw [ownK_old h1 hl]; exact hp.2.1 i h1 (no i)
    · rw [ownK_new hl]
      exact ⟨rfl, rfl, .inl ⟨rfl, rfl⟩⟩
  · rcases cs i hi with h1 | rfl
    · rcases cs j hj with h2 | rfl
      · rw [ownK_old h1 hl] at hb
        rw [ownK_old h2 hl] at hb'
        exact hp.2.2 i j h1 h2 hne (no i) (no j) b hb hb'
      · rw [ownK_new hl] at hb'; exact nofp b hb'
    · rw [ownK_new hl] at hb; exact nofp b hb
  · rcases cs i hi with h1 | rfl
    · rw [ownK_old h1 hl] at hb; exact ⟨i, h1, no i, hb⟩
    · rw [ownK_new hl] at hb; exact (nofp b hb).elim
theorem St.ownsFreeze (h : St B we w (ownsE none hs xss :: L)) (hb : ∀ k, k < hs.length → (xss.getD k []).length ≤ 140737488351232) : St B we w (sls hs xss :: L) := by
  have hp : (ownsE none hs xss).p w := h.ok _ List.mem_cons_self
  have no : ∀ i : Nat, some i ≠ (none : Option Nat) := fun i => by simp
  refine h.head _ ⟨hp.1, fun i hi => ?_⟩ (fun b ⟨i, hi, ad, e1, e2, _⟩ => ⟨i, hi, no i, ad, e1, e2⟩) (fun hm => by cases hm) (.inr rfl)
  have h1 := hp.2.1 i hi (no i)
  exact own_sl h1 (by rw [← h1.1]; exact hb i hi)

/-- One of many. -/
theorem St.slsAt (h : St B we w L) (hm : sls hs xss ∈ L) {k : Nat} (hk : k < hs.length) : St B we w (slK hs xss k :: L) := by
  have hp : (sls hs xss).p w := h.ok _ hm
  refine ⟨h.below, h.base, fun x hx => ?_, fun x hx hmx b hb => ?_, List.pairwise_cons.2 ⟨fun x hx hor b hb hxb => ?_, h.apart⟩⟩
  · rcases List.mem_cons.1 hx with rfl | hx
    · exact hp.2 k hk
    · exact h.ok x hx
  · rcases List.mem_cons.1 hx with rfl | hx
    · cases hmx
    · exact h.ge x hx hmx b hb
  · rcases hor with ho | ho
    · cases ho
    · -- x is the call's own, the many are read alone: apart, for x is not among them
      have key : ∀ L' : List Asn, sls hs xss ∈ L' → x ∈ L' → L'.Pairwise (fun a a' => (a.mt = true ∨ a'.mt = true) → ∀ b, a.fp b → ¬ a'.fp b) → False := by
        intro L' h1 h2 h3
        induction L' with
        | nil => cases h1
        | cons y L' ih =>
          rw [List.pairwise_cons] at h3
          rcases List.mem_cons.1 h1 with rfl | h1'
          · rcases List.mem_cons.1 h2 with rfl | h2'
            · cases ho
            · exact h3.1 x h2' (.inr ho) b ⟨k, hk, hb⟩ hxb
          · rcases List.mem_cons.1 h2 with rfl | h2'
            · exact h3.1 _ h1' (.inl ho) b hxb ⟨k, hk, hb⟩
            · exact ih h1' h2' h3.2
      exact key L hm hx h.apart
end
end Go.Proofs.Ytnpgeohkmdcbkaa.Aq
