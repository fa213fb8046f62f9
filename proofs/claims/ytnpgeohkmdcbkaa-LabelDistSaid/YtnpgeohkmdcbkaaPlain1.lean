/- Plain mathematics of residual arcs: the row of a right net is as all later proofs ask. -/
import Derived.Test.YtnpgeohkmdcbkaaPlain0
namespace Go.Proofs.Ytnpgeohkmdcbkaa.Aq

def resAt (c : Cs) (f : List Int) (a : Nat) : Int :=
  if c.Back.getD a false = true then f.getD (c.Arc.getD a 0).toNat 0 else c.Cap.getD a 0 + c.Cap.getD (c.Rev.getD a 0).toNat 0 - f.getD (c.Arc.getD a 0).toNat 0
def resTo (c : Cs) (f : List Int) (k : Nat) : List Int := (List.range k).map (resAt c f)
theorem resTo_back {c : Cs} {f : List Int} {k : Nat} (h : c.Back.getD (k : Int).toNat false = true) : resTo c f (k + 1) = resTo c f k ++ [f.getD (c.Arc.getD (k : Int).toNat 0).toNat 0] := by
  simp only [resTo, List.range_succ, List.map_append, List.map_cons, List.map_nil]
  congr 2
  exact if_pos h
theorem resTo_fwd {c : Cs} {f : List Int} {k : Nat} (h : c.Back.getD (k : Int).toNat false = false) : resTo c f (k + 1) = resTo c f k ++ [c.Cap.getD (k : Int).toNat 0 + c.Cap.getD (c.Rev.getD (k : Int).toNat 0).toNat 0 - f.getD (c.Arc.getD (k : Int).toNat 0).toNat 0] := by
  simp only [resTo, List.range_succ, List.map_append, List.map_cons, List.map_nil]
  congr 2
  exact if_neg (by rw [show c.Back.getD k false = false from h]; decide)
/-- What a flow must be that it leaves something. -/
def FlowOk (c : Cs) (f : List Int) : Prop := ∀ a, a < c.Head.length → 0 ≤ c.Arc.getD a 0 ∧ c.Arc.getD a 0 < f.length ∧ 0 ≤ f.getD (c.Arc.getD a 0).toNat 0 ∧ f.getD (c.Arc.getD a 0).toNat 0 ≤ c.Cap.getD a 0 + c.Cap.getD (c.Rev.getD a 0).toNat 0 ∧
  0 ≤ c.Cap.getD a 0 ∧ c.Cap.getD a 0 ≤ 1125899906842623 ∧ 0 ≤ c.Cap.getD (c.Rev.getD a 0).toNat 0 ∧ c.Cap.getD (c.Rev.getD a 0).toNat 0 ≤ 1125899906842623
theorem ents_succ (as : List (Int × Int × Int)) (v : Nat) : ents as (v + 1) = ents as v ++ part as v := by
  simp [ents, List.range_succ]
theorem ents_mono (as : List (Int × Int × Int)) {v u : Nat} (h : v ≤ u) : (ents as v).length ≤ (ents as u).length := by
  induction u with
  | zero => have : v = 0 := by omega
            subst this; exact Nat.le_refl _
  | succ u ih =>
    rcases Nat.lt_or_ge u v with h1 | h1
    · have : v = u + 1 := by omega
      subst this; exact Nat.le_refl _
    · rw [ents_succ, List.length_append]
      have := ih h1
      omega
theorem seg_get (as : List (Int × Int × Int)) {v i : Nat} : ∀ {N : Nat}, v < N → i < (part as v).length → (ents as N)[(ents as v).length + i]? = (part as v)[i]?
  | 0, h, _ => by omega
  | N + 1, h, hi => by
    rw [ents_succ]
    rcases Nat.lt_or_ge v N with h1 | h1
    · rw [List.getElem?_append_left, seg_get as h1 hi]
      have := ents_mono as (show v + 1 ≤ N from h1)
      rw [ents_succ, List.length_append] at this
      omega
    · have : v = N := by omega
      subst this
      rw [List.getElem?_append_right (by omega)]
      congr 1
      omega
theorem seg_of (as : List (Int × Int × Int)) {a : Nat} : ∀ {N : Nat}, a < (ents as N).length → ∃ v, v < N ∧ (ents as v).length ≤ a ∧ a < (ents as (v + 1)).length
  | 0, h => by simp [ents] at h
  | N + 1, h => by
    rcases Nat.lt_or_ge a (ents as N).length with h1 | h1
    · obtain ⟨v, h2, h3⟩ := seg_of as h1
      exact ⟨v, by omega, h3⟩
    · exact ⟨N, by omega, h1, h⟩
theorem mem_enOf {v : Int} {a : Int × Int × Int} {k : Nat} {x : En} : x ∈ enOf v a k ↔ a.1 ≠ a.2.1 ∧ ((a.1 = v ∧ x = (a.2.1, a.2.2, (k : Int), false)) ∨ (a.2.1 = v ∧ x = (a.1, 0, (k : Int), true))) := by
  unfold enOf
  by_cases h : a.1 = a.2.1
  · simp [h]
  · rw [if_neg h, List.mem_append]
    constructor
    · rintro (h1 | h1)
      · split at h1
        · simp at h1; exact ⟨h, .inl ⟨by assumption, h1⟩⟩
        · simp at h1
      · split at h1
        · simp at h1; exact ⟨h, .inr ⟨by assumption, h1⟩⟩
        · simp at h1
    · rintro ⟨_, ⟨h1, h2⟩ | ⟨h1, h2⟩⟩
      · left; rw [if_pos h1]; simp [h2]
      · right; rw [if_pos h1]; simp [h2]
theorem mem_part {as : List (Int × Int × Int)} {v : Nat} {x : En} : x ∈ part as v ↔ ∃ k, k < as.length ∧ x ∈ enOf v (as.getD k (0, 0, 0)) k := by
  unfold part partTo
  rw [List.mem_flatMap]
  simp only [List.mem_range]
/-- Which arc, and which way. -/
def key (x : En) : Int × Bool := (x.2.2.1, x.2.2.2)
theorem enOf_key {v : Int} {a : Int × Int × Int} {k : Nat} {x : En} (h : x ∈ enOf v a k) : (key x).1 = k := by
  rcases (mem_enOf.1 h).2 with ⟨_, rfl⟩ | ⟨_, rfl⟩ <;> rfl
theorem keys (as : List (Int × Int × Int)) (N : Nat) : (ents as N).Pairwise fun x y => key x ≠ key y := by
  unfold ents
  rw [List.pairwise_flatMap]
  refine ⟨fun v _ => ?_, ?_⟩
  · unfold part partTo
    rw [List.pairwise_flatMap]
    refine ⟨fun k _ => ?_, ?_⟩
    · unfold enOf
      split
      · exact List.Pairwise.nil
      · rename_i hne
        split <;> split <;> simp [key]
    · refine List.Pairwise.imp (fun {k l} hkl x hx y hy => ?_) (List.nodup_range (n := as.length))
      intro he
      have h1 := enOf_key hx
      have h2 := enOf_key hy
      rw [he] at h1
      rw [h1] at h2
      exact hkl (by omega)
  · refine List.Pairwise.imp (fun {u v} huv x hx y hy => ?_) (List.nodup_range (n := N))
    intro he
    obtain ⟨k, _, hk⟩ := mem_part.1 hx
    obtain ⟨l, _, hl⟩ := mem_part.1 hy
    have h1 := enOf_key hk
    have h2 := enOf_key hl
    rw [he] at h1
    rw [h1] at h2
    have : k = l := by omega
    subst this
    obtain ⟨_, h3⟩ := mem_enOf.1 hk
    obtain ⟨_, h4⟩ := mem_enOf.1 hl
    rcases h3 with ⟨h3, rfl⟩ | ⟨h3, rfl⟩ <;> rcases h4 with ⟨h4, rfl⟩ | ⟨h4, rfl⟩
    · exact huv (by omega)
    · simp [key] at he
    · simp [key] at he
    · exact huv (by omega)
theorem key_inj {as : List (Int × Int × Int)} {N a b : Nat} {x y : En} (h1 : (ents as N)[a]? = some x) (h2 : (ents as N)[b]? = some y) (h : key x = key y) : a = b := by
  have hk := keys as N
  rw [List.pairwise_iff_getElem] at hk
  obtain ⟨ha, hx⟩ := List.getElem?_eq_some_iff.1 h1
  obtain ⟨hb, hy⟩ := List.getElem?_eq_some_iff.1 h2
  rcases Nat.lt_trichotomy a b with h3 | h3 | h3
  · exact absurd (by rw [hx, hy]; exact h) (hk a b ha hb h3)
  · exact h3
  · exact absurd (by rw [hx, hy]; exact h.symm) (hk b a hb ha h3)
theorem filter_one (p : Nat → Bool) (j : Nat) : ∀ M, j < M → p j = true → (∀ x, x < M → p x = true → x = j) → (List.range M).filter p = [j]
  | 0, h, _, _ => by omega
  | M + 1, h, hp, hx => by
    rw [List.range_succ, List.filter_append]
    rcases Nat.lt_or_ge j M with h1 | h1
    · rw [filter_one p j M h1 hp fun x h2 h3 => hx x (by omega) h3]
      have : p M = false := by
        cases h2 : p M with
        | false => rfl
        | true => have := hx M (by omega) h2; omega
      simp [this]
    · have : j = M := by omega
      subst this
      have : (List.range j).filter p = [] := List.filter_eq_nil_iff.2 fun x h2 h3 => by
        have := hx x (by have := List.mem_range.1 h2; omega) h3
        have := List.mem_range.1 h2
        omega
      simp [this, hp]
theorem getD_map_En {β : Type} (E : List En) (f : En → β) (d : β) {a : Nat} {x : En} (h : E[a]? = some x) : (E.map f).getD a d = f x := by
  simp [List.getD_eq_getElem?_getD, h]
theorem revTo_get {Arc : List Int} {r : Nat → Nat} : ∀ (m : Nat), (∀ i, i < m → rowF Arc i Arc.length = [(r i : Int)]) → revTo Arc m = (List.range m).map fun i => (r i : Int)
  | 0, _ => by simp [revTo]
  | m + 1, h => by
    rw [revTo_succ, revTo_get m fun i hi => h i (by omega), h m (by omega), List.range_succ]
    simp

theorem withinL_len (n : Nt) (l : List Int) : (withinL n l).length = n.arcs.length := by
  simp [withinL]
section
variable {n : Nt} (hok : NetOk n)
/-- What stands at a place of a row. -/
theorem at_place {as : List (Int × Int × Int)} {N v a : Nat} (hv : v < N) (h1 : (ents as v).length ≤ a) (h2 : a < (ents as (v + 1)).length) : ∃ x, (ents as N)[a]? = some x ∧ x ∈ part as v := by
  rw [ents_succ, List.length_append] at h2
  have hi : a - (ents as v).length < (part as v).length := by omega
  have := seg_get as hv hi
  rw [show (ents as v).length + (a - (ents as v).length) = a by omega, List.getElem?_eq_getElem hi] at this
  exact ⟨_, this, List.getElem_mem hi⟩
theorem place_of {as : List (Int × Int × Int)} {N v : Nat} {x : En} (hv : v < N) (hx : x ∈ part as v) : ∃ a, (ents as v).length ≤ a ∧ a < (ents as (v + 1)).length ∧ (ents as N)[a]? = some x := by
  obtain ⟨i, hi, he⟩ := List.mem_iff_getElem.1 hx
  refine ⟨(ents as v).length + i, by omega, by rw [ents_succ, List.length_append]; omega, ?_⟩
  rw [seg_get as hv hi, List.getElem?_eq_getElem hi, he]
theorem row_one {v a : Nat} (hv : v < n.N.toNat) (h1 : (ents n.arcs v).length ≤ a) (h2 : a < (ents n.arcs (v + 1)).length) {b : Nat} {x y : En} (hx : (ents n.arcs n.N.toNat)[a]? = some x) (hy : (ents n.arcs n.N.toNat)[b]? = some y) (hab : a ≠ b) (hk : x.2.2.1 = y.2.2.1) :
    rowF ((ents n.arcs n.N.toNat).map (·.2.2.1)) a ((ents n.arcs n.N.toNat).map (·.2.2.1)).length = [(b : Int)] := by
  have hbl := (List.getElem?_eq_some_iff.1 hy).1
  unfold rowF
  rw [List.length_map, filter_one _ b _ hbl]
  · rfl
  · rw [getD_map_En _ _ _ hx, getD_map_En _ _ _ hy, hk]
    simp [hab]
  · intro i hi hp
    have hz : (ents n.arcs n.N.toNat)[i]? = some (ents n.arcs n.N.toNat)[i] := List.getElem?_eq_getElem hi
    rw [getD_map_En _ _ _ hx, getD_map_En _ _ _ hz] at hp
    simp only [Bool.and_eq_true, decide_eq_true_eq, Bool.not_eq_true', decide_eq_false_iff_not] at hp
    obtain ⟨hp1, hp2⟩ := hp
    -- of three with the same arc two have the same key
    generalize hzz : (ents n.arcs n.N.toNat)[i] = z at hz hp1
    cases hb1 : x.2.2.2 with
    | true => cases hb2 : y.2.2.2 with
      | true => exact absurd (key_inj hx hy (by simp [key, hk, hb1, hb2])) hab
      | false => cases hb3 : z.2.2.2 with
        | true => exact absurd (key_inj hx hz (by simp [key, hp1, hb1, hb3])) hp2
        | false => exact key_inj hz hy (by simp [key, ← hp1, hk, hb3, hb2])
    | false => cases hb2 : y.2.2.2 with
      | false => exact absurd (key_inj hx hy (by simp [key, hk, hb1, hb2])) hab
      | true => cases hb3 : z.2.2.2 with
        | false => exact absurd (key_inj hx hz (by simp [key, hp1, hb1, hb3])) hp2
        | true => exact key_inj hz hy (by simp [key, ← hp1, hk, hb3, hb2])

theorem firstTo_get {as : List (Int × Int × Int)} {m v : Nat} (h : v < m) : (firstTo as m).getD v 0 = ((ents as v).length : Int) := by
  simp [firstTo, List.getD_eq_getElem?_getD, h]

include hok
/-- The other one of a pair. -/
theorem partner {v a : Nat} (hv : v < n.N.toNat) (h1 : (ents n.arcs v).length ≤ a) (h2 : a < (ents n.arcs (v + 1)).length) :
    ∃ (h b k : Nat) (x y : En), (ents n.arcs n.N.toNat)[a]? = some x ∧ (ents n.arcs n.N.toNat)[b]? = some y ∧ h < n.N.toNat ∧ h ≠ v ∧ (ents n.arcs h).length ≤ b ∧ b < (ents n.arcs (h + 1)).length ∧ a ≠ b ∧
      x.1 = h ∧ y.1 = v ∧ k < n.arcs.length ∧ x.2.2.1 = k ∧ y.2.2.1 = k ∧ ((x.2.2.2 = false ∧ y.2.2.2 = true ∧ x.2.1 = (n.arcs.getD k (0, 0, 0)).2.2 ∧ y.2.1 = 0) ∨ (x.2.2.2 = true ∧ y.2.2.2 = false ∧ y.2.1 = (n.arcs.getD k (0, 0, 0)).2.2 ∧ x.2.1 = 0)) := by
  obtain ⟨x, hx, hm⟩ := at_place hv h1 h2
  obtain ⟨k, hk, hm⟩ := mem_part.1 hm
  obtain ⟨hne, hm⟩ := mem_enOf.1 hm
  have hends : (0 ≤ (n.arcs.getD k (0, 0, 0)).1 ∧ (n.arcs.getD k (0, 0, 0)).1 < n.N) ∧ (0 ≤ (n.arcs.getD k (0, 0, 0)).2.1 ∧ (n.arcs.getD k (0, 0, 0)).2.1 < n.N) := by
    have := hok.arc (n.arcs[k]) (List.getElem_mem hk)
    have e : n.arcs.getD k (0, 0, 0) = n.arcs[k] := by simp [List.getD_eq_getElem?_getD, hk]
    rw [e]
    exact ⟨this.1, this.2.1⟩
  obtain ⟨arc, harc⟩ : ∃ arc, n.arcs.getD k (0, 0, 0) = arc := ⟨_, rfl⟩
  rw [harc] at hne hm hends
  rcases hm with ⟨h3, rfl⟩ | ⟨h3, rfl⟩
  · have hy : (arc.1, (0 : Int), (k : Int), true) ∈ part n.arcs arc.2.1.toNat := mem_part.2 ⟨k, hk, mem_enOf.2 ⟨by rw [harc]; exact hne, .inr ⟨by rw [harc]; omega, by rw [harc]⟩⟩⟩
    obtain ⟨b, h4, h5, h6⟩ := place_of (N := n.N.toNat) (by omega) hy
    refine ⟨arc.2.1.toNat, b, k, _, _, hx, h6, by omega, by omega, h4, h5, fun e => ?_, by simp only; omega, by simp only; omega, hk, rfl, rfl, .inl ⟨rfl, rfl, by rw [harc], rfl⟩⟩
    subst e
    rw [h6] at hx
    simp at hx
  · have hy : (arc.2.1, arc.2.2, (k : Int), false) ∈ part n.arcs arc.1.toNat := mem_part.2 ⟨k, hk, mem_enOf.2 ⟨by rw [harc]; exact hne, .inl ⟨by rw [harc]; omega, by rw [harc]⟩⟩⟩
    obtain ⟨b, h4, h5, h6⟩ := place_of (N := n.N.toNat) (by omega) hy
    refine ⟨arc.1.toNat, b, k, _, _, hx, h6, by omega, by omega, h4, h5, fun e => ?_, by simp only; omega, by simp only; omega, hk, rfl, rfl, .inr ⟨rfl, rfl, by rw [harc], rfl⟩⟩
    subst e
    rw [h6] at hx
    simp at hx

/-- All that is known of a residual arc of a right net's row. -/
theorem arcAt {v a : Nat} (hv : v < n.N.toNat) (h1 : (ents n.arcs v).length ≤ a) (h2 : a < (ents n.arcs (v + 1)).length) :
    ∃ h b k : Nat, h < n.N.toNat ∧ h ≠ v ∧ b < (ents n.arcs n.N.toNat).length ∧ (ents n.arcs h).length ≤ b ∧ b < (ents n.arcs (h + 1)).length ∧ a ≠ b ∧ k < n.arcs.length ∧
      rowF ((ents n.arcs n.N.toNat).map (·.2.2.1)) a ((ents n.arcs n.N.toNat).map (·.2.2.1)).length = [(b : Int)] ∧ rowF ((ents n.arcs n.N.toNat).map (·.2.2.1)) b ((ents n.arcs n.N.toNat).map (·.2.2.1)).length = [(a : Int)] ∧
      (makeF n).Head.getD a 0 = h ∧ (makeF n).Head.getD b 0 = v ∧ (makeF n).Arc.getD a 0 = k ∧
      (((makeF n).Cap.getD a 0 = (n.arcs.getD k (0, 0, 0)).2.2 ∧ (makeF n).Cap.getD b 0 = 0) ∨ ((makeF n).Cap.getD b 0 = (n.arcs.getD k (0, 0, 0)).2.2 ∧ (makeF n).Cap.getD a 0 = 0)) := by
  obtain ⟨h, b, k, x, y, hx, hy, h3, h4, h5, h6, h7, h8, h9, h10, h11, h12, h13⟩ := partner hok hv h1 h2
  refine ⟨h, b, k, h3, h4, (List.getElem?_eq_some_iff.1 hy).1, h5, h6, h7, h10, row_one hv h1 h2 hx hy h7 (by rw [h11, h12]), row_one h3 h5 h6 hy hx (Ne.symm h7) (by rw [h11, h12]), ?_, ?_, ?_, ?_⟩
  · rw [← h8]; exact getD_map_En _ _ _ hx
  · rw [← h9]; exact getD_map_En _ _ _ hy
  · rw [← h11]; exact getD_map_En _ _ _ hx
  · have e1 : (makeF n).Cap.getD a 0 = x.2.1 := getD_map_En _ _ _ hx
    have e2 : (makeF n).Cap.getD b 0 = y.2.1 := getD_map_En _ _ _ hy
    rw [e1, e2]
    rcases h13 with ⟨_, _, h, h'⟩ | ⟨_, _, h, h'⟩
    · exact .inl ⟨h, h'⟩
    · exact .inr ⟨h, h'⟩

theorem rev_ex : ∃ r : Nat → Nat, (makeF n).Rev = (List.range (ents n.arcs n.N.toNat).length).map (fun i => (r i : Int)) ∧ ∀ a b : Nat, a < (ents n.arcs n.N.toNat).length → rowF ((ents n.arcs n.N.toNat).map (·.2.2.1)) a ((ents n.arcs n.N.toNat).map (·.2.2.1)).length = [(b : Int)] → r a = b := by
  have ex : ∀ a, ∃ b : Nat, a < (ents n.arcs n.N.toNat).length → rowF ((ents n.arcs n.N.toNat).map (·.2.2.1)) a ((ents n.arcs n.N.toNat).map (·.2.2.1)).length = [(b : Int)] := fun a => by
    by_cases h : a < (ents n.arcs n.N.toNat).length
    · obtain ⟨v, hv, h1, h2⟩ := seg_of n.arcs h
      obtain ⟨_, b, _, _, _, _, _, _, _, _, hb, _⟩ := arcAt hok hv h1 h2
      exact ⟨b, fun _ => hb⟩
    · exact ⟨0, fun h' => absurd h' h⟩
  obtain ⟨r, hr⟩ := Classical.axiomOfChoice ex
  refine ⟨r, revTo_get _ fun i hi => hr i hi, fun a b ha hb => ?_⟩
  rw [hr a ha] at hb
  simp at hb
  omega
theorem makeF_wf : WF (makeF n) := by
  obtain ⟨hlo, hhi, hs0, hs1, ht0, ht1, hne, hln, harc⟩ := id hok
  obtain ⟨r, hR, hr⟩ := rev_ex hok
  have hM : (makeF n).Head.length = (ents n.arcs n.N.toNat).length := List.length_map _
  have hN : (makeF n).N = n.N.toNat := rfl
  have hF : (makeF n).First = firstTo n.arcs (n.N.toNat + 1) := rfl
  have hE := ents_len n.arcs hln n.N.toNat
  have rget : ∀ a, a < (ents n.arcs n.N.toNat).length → (makeF n).Rev.getD a 0 = (r a : Int) := fun a ha => by
    rw [hR]; simp [List.getD_eq_getElem?_getD, ha]
  have all : ∀ a, a < (ents n.arcs n.N.toNat).length → ∃ v h, v < n.N.toNat ∧ h < n.N.toNat ∧ h ≠ v ∧ r a < (ents n.arcs n.N.toNat).length ∧ (ents n.arcs v).length ≤ a ∧ a < (ents n.arcs (v + 1)).length ∧ (ents n.arcs h).length ≤ r a ∧ r a < (ents n.arcs (h + 1)).length ∧
      r (r a) = a ∧ (makeF n).Head.getD a 0 = h ∧ (makeF n).Head.getD (r a) 0 = v := fun a ha => by
    obtain ⟨v, hv, h1, h2⟩ := seg_of n.arcs ha
    obtain ⟨h, b, k, h3, h4, h5, h6, h7, h8, h9, h10, h11, h12, h13, _⟩ := arcAt hok hv h1 h2
    have e := hr a b ha h10
    subst e
    exact ⟨v, h, hv, h3, h4, h5, h1, h2, h6, h7, hr _ a h5 h11, h12, h13⟩
  -- one vertex alone has a place
  have uniq : ∀ a u v, (ents n.arcs u).length ≤ a → a < (ents n.arcs (u + 1)).length → (ents n.arcs v).length ≤ a → a < (ents n.arcs (v + 1)).length → u = v := fun a u v h1 h2 h3 h4 => by
    rcases Nat.lt_trichotomy u v with h | h | h
    · have := ents_mono n.arcs (show u + 1 ≤ v from h); omega
    · exact h
    · have := ents_mono n.arcs (show v + 1 ≤ u from h); omega
  refine ⟨by omega, by omega, by show n.S.toNat < n.N.toNat; omega, by show n.T.toNat < n.N.toNat; omega, by show n.S.toNat ≠ n.T.toNat; omega, ?_, by omega, ?_, ?_, ?_, ?_, ?_, ?_, ?_, ?_, ?_, ?_, ?_⟩
  · rw [hF, hN]; simp [firstTo]
  · rw [hR, hM]; simp
  · rw [hM]; exact List.length_map _
  · rw [hM]; exact List.length_map _
  · rw [hM]; exact List.length_map _
  · rw [hF, firstTo_get (by omega)]; rfl
  · intro v hv
    rw [hN] at hv
    rw [hF, firstTo_get (by omega), firstTo_get (by omega)]
    have := ents_mono n.arcs (show v ≤ v + 1 by omega)
    omega
  · rw [hF, hN, firstTo_get (by omega), hM]
  · intro a ha
    rw [hM] at ha
    obtain ⟨v, h, hv, hh, _, _, _, _, _, _, _, e, _⟩ := all a ha
    rw [e, hN]; omega
  · intro a ha
    rw [hM] at ha ⊢
    obtain ⟨v, h, hv, hh, _, hra, _⟩ := all a ha
    rw [rget a ha]; omega
  · intro a ha
    rw [hM] at ha
    obtain ⟨v, h, hv, hh, _, hra, _, _, _, _, hrr, _⟩ := all a ha
    rw [rget a ha, Int.toNat_natCast, rget _ hra, hrr]
  · intro v a hv ha h1 h2
    rw [hM] at ha
    rw [hN] at hv
    rw [hF, firstTo_get (by omega)] at h1 h2
    obtain ⟨u, h, hu, hh, hne', hra, h3, h4, h5, h6, _, e1, e2⟩ := all a ha
    have := uniq a u v h3 h4 (by omega) (by omega)
    subst this
    rw [e1, rget a ha, Int.toNat_natCast, Int.toNat_natCast, e2, hF, firstTo_get (by omega), firstTo_get (by omega)]
    omega

theorem withinL_get {l : List Int} {k : Nat} (hk : k < n.arcs.length) : 0 ≤ (withinL n l).getD k 0 ∧ (withinL n l).getD k 0 ≤ (n.arcs.getD k (0, 0, 0)).2.2 := by
  have hc := (hok.arc (n.arcs[k]) (List.getElem_mem hk)).2.2
  have e : n.arcs.getD k (0, 0, 0) = n.arcs[k] := by simp [List.getD_eq_getElem?_getD, hk]
  have e2 : (withinL n l).getD k 0 = withinAt l k (n.arcs[k]) := by simp [withinL, List.getD_eq_getElem?_getD, hk]
  rw [e, e2]
  unfold withinAt
  split
  · exact ⟨Int.le_refl _, hc.1⟩
  · refine ⟨Int.emod_nonneg _ (by omega), ?_⟩
    have := Int.emod_lt_of_pos (if l.getD k 0 < 0 then -(l.getD k 0 + 1) else l.getD k 0) (by omega : 0 < (n.arcs[k]).2.2 + 1)
    omega
theorem flowOk (l : List Int) : FlowOk (makeF n) (withinL n l) := by
  intro a ha
  obtain ⟨r, hR, hr⟩ := rev_ex hok
  have hM : (makeF n).Head.length = (ents n.arcs n.N.toNat).length := List.length_map _
  rw [hM] at ha
  obtain ⟨v, hv, h1, h2⟩ := seg_of n.arcs ha
  obtain ⟨h, b, k, h3, h4, h5, h6, h7, h8, h9, h10, h11, h12, h13, h14, h15⟩ := arcAt hok hv h1 h2
  have e := hr a b ha h10
  have rget : (makeF n).Rev.getD a 0 = (b : Int) := by
    rw [hR, ← e]; simp [List.getD_eq_getElem?_getD, ha]
  have hc := (hok.arc (n.arcs[k]) (List.getElem_mem h9)).2.2
  have e2 : n.arcs.getD k (0, 0, 0) = n.arcs[k] := by simp [List.getD_eq_getElem?_getD, h9]
  have hw := withinL_get hok (l := l) h9
  rw [rget, h14, Int.toNat_natCast, Int.toNat_natCast, withinL_len]
  rw [e2] at h15 hw
  rcases h15 with ⟨h15, h16⟩ | ⟨h15, h16⟩ <;> rw [h15, h16] <;> refine ⟨by omega, by omega, hw.1, by omega, by omega, by omega, by omega, by omega⟩
end
/-- What a flow within leaves. -/
theorem resTo_len (c : Cs) (f : List Int) (k : Nat) : (resTo c f k).length = k := by simp [resTo]
theorem resAt_get {c : Cs} {f : List Int} {k a : Nat} (h : a < k) : (resTo c f k).getD a 0 = resAt c f a := by
  simp [resTo, List.getD_eq_getElem?_getD, h]
theorem resAt_rng {c : Cs} {f : List Int} (hf : FlowOk c f) {a : Nat} (h : a < c.Head.length) : 0 ≤ resAt c f a ∧ resAt c f a ≤ 2251799813685246 := by
  obtain ⟨h1, h2, h3, h4, h5, h6, h7, h8⟩ := hf a h
  unfold resAt
  split <;> omega
/-- What is left of a right net's row. -/
def resL (n : Nt) (l : List Int) : List Int := resTo (makeF n) (withinL n l) (makeF n).Head.length
/-- Numbers as many as arcs, none of them great. -/
structure ResOk (c : Cs) (res : List Int) : Prop where
  len : res.length = c.Head.length
  rng : ∀ a, a < c.Head.length → 0 ≤ res.getD a 0 ∧ res.getD a 0 ≤ 2251799813685246
theorem resL_ok {n : Nt} (hok : NetOk n) (l : List Int) : ResOk (makeF n) (resL n l) :=
  ⟨resTo_len _ _ _, fun a ha => by rw [show (resL n l).getD a 0 = resAt (makeF n) (withinL n l) a from resAt_get ha]; exact resAt_rng (flowOk hok l) ha⟩
end Go.Proofs.Ytnpgeohkmdcbkaa.Aq
