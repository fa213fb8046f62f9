/- How a row of residual arcs lies in memory. -/
import Derived.Test.YtnpgeohkmdcbkaaEng9
import Derived.Test.YtnpgeohkmdcbkaaPlain0
namespace Go.Proofs.Ytnpgeohkmdcbkaa.Aq
open Go Go.RowKit

structure Q6 where
  a0 : Option Addr
  c0 : Nat
  a1 : Option Addr
  c1 : Nat
  a2 : Option Addr
  c2 : Nat
  a3 : Option Addr
  c3 : Nat
  a4 : Option Addr
  c4 : Nat
  a5 : Option Addr
  c5 : Nat
def csV (c : Cs) (q : Q6) : Value := .agg #[.int .i64 c.N, .int .i64 c.S, .int .i64 c.T, .slice q.a0 c.First.length q.c0, .slice q.a1 c.Head.length q.c1, .slice q.a2 c.Rev.length q.c2, .slice q.a3 c.Cap.length q.c3, .slice q.a4 c.Arc.length q.c4, .slice q.a5 c.Back.length q.c5]

/-- Something of all six slices. -/
structure Cs6 (R : Asn → Prop) (c : Cs) (q : Q6) : Prop where
  first : R (sl (eInt .i64) 1 q.a0 c.First.length q.c0 c.First)
  head : R (sl (eInt .i64) 1 q.a1 c.Head.length q.c1 c.Head)
  rev : R (sl (eInt .i64) 1 q.a2 c.Rev.length q.c2 c.Rev)
  cap : R (sl (eInt .i64) 1 q.a3 c.Cap.length q.c3 c.Cap)
  arc : R (sl (eInt .i64) 1 q.a4 c.Arc.length q.c4 c.Arc)
  back : R (sl eBool 1 q.a5 c.Back.length q.c5 c.Back)
theorem Cs6.mono {R R' : Asn → Prop} {c : Cs} {q : Q6} (h : Cs6 R c q) (f : ∀ a, R a → R' a) : Cs6 R' c q := ⟨f _ h.first, f _ h.head, f _ h.rev, f _ h.cap, f _ h.arc, f _ h.back⟩
/-- The six slices can be read. -/
abbrev CsAt (c : Cs) (q : Q6) (w : World) : Prop := Cs6 (fun a => a.p w) c q
/-- They lie in new memory. -/
abbrev CsNew (c : Cs) (q : Q6) (B : Nat) : Prop := Cs6 (fun a => ∀ b, a.fp b → B ≤ b) c q
/-- They lie elsewhere than something. -/
abbrev CsApart (c : Cs) (q : Q6) (p : Nat → Prop) : Prop := Cs6 (fun a => ∀ b, p b → ¬ a.fp b) c q
theorem own_fp {α : Type} {enc : α → List Value} {sz e m c B : Nat} {A : Option Addr} {xs : List α} (h : ∀ b, (own enc sz e A m c xs).fp b → B ≤ b) : ∀ b, (sl enc sz A m c xs).fp b → B ≤ b :=
  fun b ⟨ad, e1, e2, _⟩ => h b ⟨ad, e1, e2⟩

theorem CsAt.grow {c : Cs} {q : Q6} {w w' : World} (h : CsAt c q w) (g : Gr w w') : CsAt c q w' :=
  h.mono fun a ha => Asn.grow a ha g

/-- The first two as facts. -/
theorem St.args {B : Nat} {we w : World} {L : List Asn} (h : St B we w L) (hB : w.heap.size ≤ B) (a : Asn) (ha : a.p w) (hm : a.mt = false) : St B we w (a :: L) :=
  h.arg a ha hm fun b hb => Nat.lt_of_lt_of_le (a.lt ha hb) hB

end Go.Proofs.Ytnpgeohkmdcbkaa.Aq
