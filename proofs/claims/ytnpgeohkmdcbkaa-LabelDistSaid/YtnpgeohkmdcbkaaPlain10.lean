/- Plain mathematics: ways, turned round and put together. No condition but those that each lemma names. -/
import Derived.Test.YtnpgeohkmdcbkaaPlain9
namespace Go.Proofs.Ytnpgeohkmdcbkaa.Aq

theorem to_path {N t : Nat} {E : Nat → Nat → Prop} {D : List Int} (L : Low N E (hTo N t) D) {F : Nat → Int} (hF : ∀ u w, u < N → w < N → E u w → F w ≤ F u + 1) : ∀ v, v < N → D.getD v 0 < N → F t ≤ F v + D.getD v 0 := by
  have key : ∀ n : Nat, ∀ v, v < N → D.getD v 0 ≤ n → D.getD v 0 < N → F t ≤ F v + D.getD v 0 := by
    intro n
    induction n with
    | zero =>
      intro v h1 hn hlt
      rcases L.why v h1 with e | ⟨w, w1, _, e⟩
      · unfold hTo at e; split at e
        · rename_i e2; subst e2; omega
        · omega
      · have := L.nn w w1; omega
    | succ n ih =>
      intro v h1 hn hlt
      rcases L.why v h1 with e | ⟨w, w1, hE, e⟩
      · unfold hTo at e; split at e
        · rename_i e2; subst e2; omega
        · omega
      · have a := ih w w1 (by omega) (by omega)
        have b := hF v w h1 w1 hE
        omega
  intro v h1 hlt
  have := L.nn v h1
  exact key (D.getD v 0).toNat v h1 (by omega) hlt
theorem Low.at_t {N t : Nat} {E : Nat → Nat → Prop} {D : List Int} (L : Low N E (hTo N t) D) (ht : t < N) : D.getD t 0 = 0 := by
  have h1 := L.nn t ht
  have h2 := L.le t ht
  unfold hTo at h2
  rw [if_pos rfl] at h2
  omega
theorem Low.le_N {N t : Nat} {E : Nat → Nat → Prop} {D : List Int} (L : Low N E (hTo N t) D) {v : Nat} (hv : v < N) : 0 ≤ D.getD v 0 ∧ D.getD v 0 ≤ N := by
  refine ⟨L.nn v hv, Int.le_trans (L.le v hv) ?_⟩
  unfold hTo; split <;> omega
/-- From one to another it is as far as the other way told. -/
theorem to_from {N s t : Nat} {E : Nat → Nat → Prop} {D G : List Int} (L : Low N E (hTo N t) D) (M : Low N (fun u w => E w u) (hTo N s) G) (hs : s < N) (ht : t < N) : D.getD s 0 = G.getD t 0 := by
  have h1 := L.le_N hs
  have h2 := M.le_N ht
  have h3 : D.getD s 0 < N → G.getD t 0 ≤ D.getD s 0 := fun h => by
    have := to_path L (F := fun v => G.getD v 0) (fun u w hu hw he => M.ok w u hw hu he) s hs h
    have := M.at_t hs
    omega
  have h4 : G.getD t 0 < N → D.getD s 0 ≤ G.getD t 0 := fun h => by
    have := to_path M (F := fun v => D.getD v 0) (fun u w hu hw he => L.ok w u hw hu he) t ht h
    have := L.at_t ht
    omega
  omega
/-- Over a third one it is no nearer. -/
theorem over_third {N s t x : Nat} {E : Nat → Nat → Prop} {D G : List Int} (L : Low N E (hTo N t) D) (M : Low N (fun u w => E w u) (hTo N s) G) (hx : x < N) (h : D.getD x 0 < N) : G.getD t 0 ≤ G.getD x 0 + D.getD x 0 :=
  to_path L (F := fun v => G.getD v 0) (fun u w hu hw he => M.ok w u hw hu he) x hx h
/-- The arcs turned round. -/
theorem edge_turn {c : Cs} (hw : WF c) {res back : List Int} (hb : ∀ a, a < c.Head.length → back.getD a 0 = res.getD (c.Rev.getD a 0).toNat 0) {u w : Nat} (hu : u < c.N) (hww : w < c.N) : Edge c back u w ↔ Edge c res w u := by
  rw [edge_seg hw hu, edge_rev hw hu hww]
  have hle := first_mono hw (show u + 1 ≤ c.N by omega) (Nat.le_refl _)
  rw [hw.fN] at hle
  constructor
  · rintro ⟨a, h1, h2, h3, h4⟩; exact ⟨a, h1, h2, h3, by rw [← hb a (by omega)]; exact h4⟩
  · rintro ⟨a, h1, h2, h3, h4⟩; exact ⟨a, h1, h2, h3, by rw [hb a (by omega)]; exact h4⟩
theorem turn1 {c : Cs} (hw : WF c) {res back : List Int} (hl : res.length = c.Head.length) (hl2 : back.length = c.Head.length) (hb : ∀ a, a < c.Head.length → back.getD a 0 = res.getD (c.Rev.getD a 0).toNat 0) {v : Nat} (hv : v < c.N) : toL c res (v : Int) = fromL c back (v : Int) :=
  (toL_low (inB_of hl hv)).unique (fromL_low (inB_of hl2 hv)) (fun _ _ => rfl) fun u w hu hww => (edge_turn hw hb hww hu).symm
theorem turn2 {c : Cs} (hw : WF c) {res back : List Int} (hl : res.length = c.Head.length) (hl2 : back.length = c.Head.length) (hb : ∀ a, a < c.Head.length → back.getD a 0 = res.getD (c.Rev.getD a 0).toNat 0) {v : Nat} (hv : v < c.N) : fromL c res (v : Int) = toL c back (v : Int) :=
  (fromL_low (inB_of hl hv)).unique (toL_low (inB_of hl2 hv)) (fun _ _ => rfl) fun u w hu hww => (edge_turn hw hb hu hww).symm
theorem toL_at {c : Cs} {res : List Int} (hl : res.length = c.Head.length) {u v : Nat} (hu : u < c.N) (hv : v < c.N) : 0 ≤ (toL c res (u : Int)).getD v 0 ∧ (toL c res (u : Int)).getD v 0 ≤ c.N := (toL_low (inB_of hl hu)).le_N hv
theorem fromL_at {c : Cs} {res : List Int} (hl : res.length = c.Head.length) {u v : Nat} (hu : u < c.N) (hv : v < c.N) : 0 ≤ (fromL c res (u : Int)).getD v 0 ∧ (fromL c res (u : Int)).getD v 0 ≤ c.N := (fromL_low (inB_of hl hu)).le_N hv
end Go.Proofs.Ytnpgeohkmdcbkaa.Aq
