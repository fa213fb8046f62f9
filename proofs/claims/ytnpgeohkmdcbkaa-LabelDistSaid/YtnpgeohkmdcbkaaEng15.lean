/- The engine, part 15: loops of four letters; labels. No condition but those each lemma names. -/
import Derived.Test.YtnpgeohkmdcbkaaEng14
import Derived.Scope
namespace Go.Proofs.Ytnpgeohkmdcbkaa.Aq
open Go Go.RowKit
section
variable {P : Program} {n : Nat} {Q : Exit → Act → World → Prop} {E : Env} {w : World}
theorem cw_label {l : Nat} (h : Ends n Q .normal E w) : CW P n (.label l) Q E w := fun a ha hn hs => wp_label (h a ha hn hs)
theorem cw_scope {c : Code} (h : CW P n c (Exit.noGoto Q) E w) : CW P n (.scope c) Q E w := fun a ha hn hs => wp_scope_straight (h a ha hn hs)
theorem sc_normal (h : Ends n Q .normal E w) : Ends n (Exit.noGoto Q) .normal E w := h
theorem sc_ret (h : Ends n Q .ret E w) : Ends n (Exit.noGoto Q) .ret E w := h
theorem sc_exit {id : Nat} (h : Ends n Q (.exit id) E w) : Ends n (Exit.noGoto Q) (.exit id) E w := h
def Back4 {α β γ δ : Type} (n : Nat) (H : α → β → γ → δ → List (Nat × PV)) (J : α → β → γ → δ → World → Prop) (μ : α → β → γ → δ → Nat) (ls : List (Nat × PV)) (m : Nat) : Act → World → Prop :=
  Back n (fun p : α × β × γ × δ => H p.1 p.2.1 p.2.2.1 p.2.2.2 ++ ls) (fun p => J p.1 p.2.1 p.2.2.1 p.2.2.2) (fun p => μ p.1 p.2.1 p.2.2.1 p.2.2.2) m
theorem cw_loop4 {α β γ δ : Type} {c : Code} (ls : List (Nat × PV)) (H : α → β → γ → δ → List (Nat × PV)) (J : α → β → γ → δ → World → Prop) (μ : α → β → γ → δ → Nat) (i0 : α) (j0 : β) (k0 : γ) (l0 : δ) (hl : Keeps E ls) (hk : Keeps E (H i0 j0 k0 l0 ++ ls)) (hj : J i0 j0 k0 l0 w)
    (round : ∀ i j k l w, J i j k l w → CW P n c (Exit.then (Back4 n H J μ ls (μ i j k l)) Q) (Env.of (H i j k l ++ ls)) w) : CW P n (.loop c) Q E w :=
  cw_loop ls (fun p : α × β × γ × δ => H p.1 p.2.1 p.2.2.1 p.2.2.2) (fun p => J p.1 p.2.1 p.2.2.1 p.2.2.2) (fun p => μ p.1 p.2.1 p.2.2.1 p.2.2.2) (i0, j0, k0, l0) hl hk hj fun p w h => round p.1 p.2.1 p.2.2.1 p.2.2.2 w h
theorem ends_back4 {α β γ δ : Type} {H : α → β → γ → δ → List (Nat × PV)} {J : α → β → γ → δ → World → Prop} {μ : α → β → γ → δ → Nat} {ls : List (Nat × PV)} {m : Nat} (i : α) (j : β) (k : γ) (l : δ) (hk : Keeps E (H i j k l ++ ls)) (hj : J i j k l w) (hm : μ i j k l < m) :
    Ends n (Exit.then (Back4 n H J μ ls m) Q) .normal E w := ends_back (H := fun p : α × β × γ × δ => H p.1 p.2.1 p.2.2.1 p.2.2.2 ++ ls) (J := fun p => J p.1 p.2.1 p.2.2.1 p.2.2.2) (μ := fun p => μ p.1 p.2.1 p.2.2.1 p.2.2.2) (i, j, k, l) hk hj hm
def Cut4 {α β γ δ : Type} (n : Nat) (H : α → β → γ → δ → List (Nat × PV)) (J : α → β → γ → δ → World → Prop) (ls : List (Nat × PV)) : Act → World → Prop := fun a w => ∃ i : α × β × γ × δ, a.defers = [] ∧ a.tmps.size = n ∧ Sat (Env.of (H i.1 i.2.1 i.2.2.1 i.2.2.2 ++ ls)) a w ∧ J i.1 i.2.1 i.2.2.1 i.2.2.2 w
end
end Go.Proofs.Ytnpgeohkmdcbkaa.Aq
