/- Plain mathematics: a vertex raised (LabelRaise). -/
import Derived.Test.YtnpgeohkmdcbkaaPlain4
namespace Go.Proofs.Ytnpgeohkmdcbkaa.Aq

/-- The heights with one of another height. -/
theorem up_get {h : List Int} {u : Nat} {z : Int} (hu : u < h.length) (v : Nat) : (h.set u z).getD v 0 = if v = u then z else h.getD v 0 := by
  simp only [List.getD_eq_getElem?_getD, List.getElem?_set]
  by_cases h1 : u = v
  · subst h1; simp [hu]
  · simp [h1, Ne.symm h1]
theorem up_right {c : Cs} {h : List Int} (hr : RightH c h) {u : Nat} {z : Int} (hu : u < c.N) (hs : u ≠ c.S) (ht : u ≠ c.T) (h0 : 0 ≤ z) (h1 : z ≤ c.N) : RightH c (h.set u z) := by
  have hl := hr.len
  refine ⟨by rw [List.length_set]; exact hl, fun v hv => ?_, ?_, ?_⟩
  · rw [up_get (by omega)]
    split
    · exact ⟨h0, h1⟩
    · exact hr.rng v hv
  · rw [up_get (by omega), if_neg (Ne.symm ht)]; exact hr.t
  · rw [up_get (by omega), if_neg (Ne.symm hs)]; exact hr.s
theorem least_in {ok : Bool} {u s t : Int} (h : ((!ok || decide (u = s)) || decide (u = t)) = false) : ok = true ∧ u ≠ s ∧ u ≠ t := by
  rw [Bool.or_eq_false_iff, Bool.or_eq_false_iff, decide_eq_false_iff_not, decide_eq_false_iff_not] at h
  exact ⟨by simpa using h.1.1, h.1.2, h.2⟩
theorem least_open {c : Cs} {res h : List Int} {u b l : Int} (hL : LeastR c res h u b l true) : Opn c res u.toNat b ∧ l = endH c h b ∧ ∀ a, Opn c res u.toNat a → l ≤ endH c h a := by
  rcases hL with ⟨_, _, _, _, h1, h2, h3, _⟩ | ⟨h9, _⟩
  · exact ⟨h1, h2, h3⟩
  · cases h9
/-- An arc does not end where it begins. -/
theorem no_loop {c : Cs} (hw : WF c) {x : Nat} (hx : x < c.Head.length) : (c.Head.getD x 0).toNat ≠ tailOf c x := by
  obtain ⟨h1, h2, h3⟩ := tail_at hw hx
  have h4 := hw.hd x hx
  have h5 := (hw.tl (tailOf c x) x h1 hx h2 h3).2.2.2
  omega
theorem raise_mine {c : Cs} (hw : WF c) {res h : List Int} (hr : RightH c h) {u x : Nat} {z : Int} (hx : x < c.Head.length) (ht : tailOf c x = u) (hle : 0 < res.getD x 0 → z ≤ endH c h x + 1) : downP c res (h.set u z) (fun k => decide (1 < k)) x = false := by
  obtain ⟨h1, _⟩ := tail_at hw hx
  have h4 := no_loop hw hx
  have hl := hr.len
  unfold downP
  rw [up_get (by omega), up_get (by omega), if_pos ht, if_neg (by omega)]
  by_cases h0 : 0 < res.getD x 0
  · have := hle h0
    unfold endH at this
    rw [Int.toNat_natCast] at this
    have e : (fun k : Int => decide (1 < k)) (z - h.getD (c.Head.getD x 0).toNat 0) = false := decide_eq_false (by omega)
    rw [e]
    simp
  · rw [decide_eq_false h0]; simp
theorem raise_other {c : Cs} {res h : List Int} {u x : Nat} {z : Int} {p : Int → Bool} (hu : u < h.length) (ht : tailOf c x ≠ u) (hh : (c.Head.getD x 0).toNat ≠ u) : downP c res (h.set u z) p x = downP c res h p x := by
  unfold downP
  rw [up_get hu, up_get hu, if_neg ht, if_neg hh]
theorem raise_end {c : Cs} {res h : List Int} {u x : Nat} {z : Int} (hu : u < h.length) (ht : tailOf c x ≠ u) (hh : (c.Head.getD x 0).toNat = u) (hz : h.getD u 0 ≤ z) (hd : downP c res (h.set u z) (fun k => decide (1 < k)) x = true) : downP c res h (fun k => decide (1 < k)) x = true := by
  unfold downP at hd ⊢
  rw [up_get hu, up_get hu, if_neg ht, if_pos hh] at hd
  simp only [Bool.and_eq_true, decide_eq_true_eq] at hd ⊢
  rw [hh]
  exact ⟨hd.1, by omega⟩
theorem mem_down {c : Cs} {res h : List Int} {p : Int → Bool} (hm : mayB c res h = true) {k : Nat} (hk : k < c.Head.length) : (k : Int) ∈ downL c res h p ↔ downP c res h p k = true := by
  rw [downL_may hm, filt_mem]
  constructor
  · rintro ⟨a, _, h2, h3⟩
    have : a = k := by omega
    subst this; exact h2
  · intro h1; exact ⟨k, hk, h1, rfl⟩
theorem may_up {c : Cs} (hw : WF c) {res h : List Int} (hm : mayB c res h = true) {u : Nat} {z : Int} (hu : u < c.N) (hs : u ≠ c.S) (ht : u ≠ c.T) (h0 : 0 ≤ z) (h1 : z ≤ c.N) : mayB c res (h.set u z) = true := by
  obtain ⟨h2, h3⟩ := (may_iff hw).1 hm
  exact (may_iff hw).2 ⟨h2, up_right h3 hu hs ht h0 h1⟩
/-- The three ways that it fails. -/
theorem raise_dead1 {c : Cs} (hw : WF c) {res h : List Int} (hm : mayB c res h = true) {u k : Nat} {z m0 f2 : Int} (hu : u < c.N) (hs : u ≠ c.S) (ht : u ≠ c.T) (h0 : 0 ≤ z) (h1 : z ≤ c.N) (hz : z ≤ m0 + 1) (hall : ∀ a, Opn c res u a → m0 ≤ endH c h a)
    (hk : k < c.Head.length) (hf2 : f2 = if (k : Int) ∈ steepL c res (h.set u z) then (1 : Int) else 0)
    (hb : ((decide (c.First.getD u 0 ≤ (k : Int)) && decide ((k : Int) < c.First.getD (u + 1) 0)) && decide (f2 = 1)) = true) : False := by
  rw [Bool.and_eq_true, Bool.and_eq_true, decide_eq_true_eq, decide_eq_true_eq, decide_eq_true_eq] at hb
  obtain ⟨⟨h2, h3⟩, h4⟩ := hb
  have h5 := raise_mine hw ((may_iff hw).1 hm).2 (z := z) hk (tail_eq hw hu h2 h3) (u := u) (res := res) fun h6 => by
    have := hall k ⟨h2, h3, by simpa using h6⟩
    omega
  rw [hf2] at h4
  split at h4
  · rename_i h6
    rw [steepL, mem_down (may_up hw hm hu hs ht h0 h1) hk, h5] at h6
    cases h6
  · omega
theorem not_mine {c : Cs} (hw : WF c) {u k : Nat} (hk : k < c.Head.length) (h : (!(decide (c.First.getD u 0 ≤ (k : Int)) && decide ((k : Int) < c.First.getD (u + 1) 0))) = true) : tailOf c k ≠ u := fun e => by
  obtain ⟨_, h2, h3⟩ := tail_at hw hk
  rw [e] at h2 h3
  rw [decide_eq_true h2, decide_eq_true h3] at h
  cases h
theorem raise_dead2 {c : Cs} (hw : WF c) {res h : List Int} (hm : mayB c res h = true) {u k : Nat} {z f f2 : Int} (hu : u < c.N) (hs : u ≠ c.S) (ht : u ≠ c.T) (h0 : 0 ≤ z) (h1 : z ≤ c.N)
    (hk : k < c.Head.length) (hf : f = if (k : Int) ∈ steepL c res h then (1 : Int) else 0) (hf2 : f2 = if (k : Int) ∈ steepL c res (h.set u z) then (1 : Int) else 0)
    (hb : ((!(decide (c.First.getD u 0 ≤ (k : Int)) && decide ((k : Int) < c.First.getD (u + 1) 0)) && !decide (c.Head.getD k 0 = (u : Int))) && !decide (f = f2)) = true) : False := by
  rw [Bool.and_eq_true, Bool.and_eq_true, Bool.not_eq_true', Bool.not_eq_true' (b := decide (f = f2)), decide_eq_false_iff_not] at hb
  obtain ⟨⟨h2, h3⟩, h4⟩ := hb
  rw [Bool.not_eq_true', decide_eq_false_iff_not] at h3
  have hhd := hw.hd k hk
  have hl := ((may_iff hw).1 hm).2.len
  have h5 := raise_other (c := c) (res := res) (h := h) (u := u) (x := k) (z := z) (p := fun k => decide (1 < k)) (by omega) (not_mine hw hk (by rw [h2]; rfl)) (by omega)
  apply h4
  rw [hf, hf2]
  unfold steepL
  simp only [mem_down (may_up hw hm hu hs ht h0 h1) hk, mem_down hm hk, h5]
theorem raise_dead3 {c : Cs} (hw : WF c) {res h : List Int} (hm : mayB c res h = true) {u k : Nat} {z f f2 : Int} (hu : u < c.N) (hs : u ≠ c.S) (ht : u ≠ c.T) (h0 : 0 ≤ z) (h1 : z ≤ c.N)
    (hk : k < c.Head.length) (hf : f = if (k : Int) ∈ steepL c res h then (1 : Int) else 0) (hf2 : f2 = if (k : Int) ∈ steepL c res (h.set u z) then (1 : Int) else 0)
    (hb : ((((!(decide (c.First.getD u 0 ≤ (k : Int)) && decide ((k : Int) < c.First.getD (u + 1) 0)) && decide (c.Head.getD k 0 = (u : Int))) && decide (h.getD u 0 ≤ (h.set u z).getD u 0)) && decide (f2 = 1)) && decide (f = 0)) = true) : False := by
  simp only [Bool.and_eq_true, decide_eq_true_eq] at hb
  obtain ⟨⟨⟨⟨h2, h3⟩, h4⟩, h5⟩, h6⟩ := hb
  have hl := ((may_iff hw).1 hm).2.len
  rw [up_get (by omega), if_pos rfl] at h4
  rw [hf2] at h5
  rw [hf] at h6
  split at h5
  · rename_i h7
    rw [steepL, mem_down (may_up hw hm hu hs ht h0 h1) hk] at h7
    have h8 := raise_end (by omega) (not_mine hw hk h2) (by omega) h4 h7
    rw [steepL, if_pos ((mem_down hm hk).2 h8)] at h6
    omega
  · omega
/-- It has a flat arc. -/
theorem raise_flat {c : Cs} (hw : WF c) {res h : List Int} (hm : mayB c res h = true) {u : Nat} {m0 b : Int} (hu : u < c.N) (hs : u ≠ c.S) (ht : u ≠ c.T) (hop : Opn c res u b) (hme : m0 = endH c h b) (hlt : ¬ (c.N : Int) < m0 + 1) (h0 : 0 ≤ m0) :
    (flatL c res (h.set u (m0 + 1))).any (fun x => decide (c.First.getD u 0 ≤ x) && decide (x < c.First.getD (u + 1) 0)) = true := by
  obtain ⟨h1, h2, h3⟩ := hop
  have hf := seg_rng hw hu
  obtain ⟨k, rfl⟩ : ∃ k : Nat, b = k := ⟨b.toNat, by omega⟩
  have hk : k < c.Head.length := by omega
  have htl := tail_eq hw hu h1 h2
  have hl := ((may_iff hw).1 hm).2.len
  have hnl := no_loop hw hk
  rw [List.any_eq_true]
  refine ⟨(k : Int), ?_, by rw [decide_eq_true h1, decide_eq_true h2]; rfl⟩
  rw [flatL, mem_down (may_up hw hm hu hs ht (by omega) (by omega)) hk]
  unfold downP
  rw [up_get (by omega), up_get (by omega), htl, if_pos rfl, if_neg (by omega)]
  have h4 : m0 = h.getD (c.Head.getD k 0).toNat 0 := hme
  rw [decide_eq_false (by omega), decide_eq_true (by simpa using h3), show ((fun k : Int => decide (k = 1)) (m0 + 1 - h.getD (c.Head.getD k 0).toNat 0)) = true from decide_eq_true (by omega)]
  rfl
theorem any_step {xs : List Int} {p : Int → Bool} {fl : Bool} {j : Nat} (h : fl = (xs.take j).any p) (hj : j < xs.length) : (fl || p (xs.getD (j : Int).toNat 0)) = (xs.take (j + 1)).any p := by
  have e : xs.getD (j : Int).toNat 0 = xs[j] := by simp [List.getD_eq_getElem?_getD, hj]
  rw [e, List.take_succ_eq_append_getElem hj, List.any_append, h]
  simp
theorem mem_step {xs : List Int} {f : Int → Int} {j : Nat} (hf : ∀ x, f x = if x ∈ xs.take j then (1 : Int) else 0) (hj : j < xs.length) : ∀ x, (fun x => if x = xs.getD (j : Int).toNat 0 then 1 else f x) x = if x ∈ xs.take (j + 1) then (1 : Int) else 0 := fun x => by
  have e : xs.getD (j : Int).toNat 0 = xs[j] := by simp [List.getD_eq_getElem?_getD, hj]
  rw [e, List.take_succ_eq_append_getElem hj]
  show (if x = xs[j] then 1 else f x) = _
  by_cases h : x = xs[j]
  · rw [if_pos h, if_pos (List.mem_append_right _ (List.mem_singleton.2 h))]
  · rw [if_neg h, hf]
    have e2 : (x ∈ xs.take j ++ [xs[j]]) = (x ∈ xs.take j) := propext ⟨fun hm => (List.mem_append.1 hm).elim id fun hm => absurd (List.mem_singleton.1 hm) h, fun hm => List.mem_append_left _ hm⟩
    simp only [e2]
end Go.Proofs.Ytnpgeohkmdcbkaa.Aq
