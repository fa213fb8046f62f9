/- What the laws of steps lean on: calls that answer new lists, among operations whose order is drawn. No condition but those that each lemma names. -/
import Derived.Test.YtnpgeohkmdcbkaaAw05
import Derived.Test.YtnpgeohkmdcbkaaPlain9
namespace Go.Proofs.Ytnpgeohkmdcbkaa.Aq
open Go Go.RowKit

/-- A new list of numbers. -/
def NewL (w0 : World) (xs : List Int) (v : Value) (w : World) : Prop := ∃ A c, v = .slice A xs.length c ∧ (own (eInt .i64) 1 3 A xs.length c xs).p w ∧ ∀ b, (own (eInt .i64) 1 3 A xs.length c xs).fp b → w0.heap.size ≤ b
theorem ok_callL {n : Nat} {ops : Array Oper} {E : Env} {o : Oper} {w0 : World} {f : FuncId} {xs : List Operand} {ts : Array TypeId} {vs : List Value} {res : List Int} (hg : o.guard = none) (ho : o.op = .call { callee := .value (.func f), args := xs.toArray, argTypes := ts }) (hf : ∀ args w, (callFunc f args).run Try.prog w = .ok (.enter f args) w)
    (hx : E.all none xs = some vs) (hc : ∀ w, Gr w0 w → RetL f vs w res) : OpOk Try.prog n ops (Gr w0) E o (.sat (NewL w0 res)) :=
  ok_call (NewL w0 res) hg ho hf hx fun w hg => (hc w hg).mono fun _ _ ⟨A, c, he, hg2, hfr, hown⟩ => ⟨_, he, hg2, fun _ hg3 => ⟨A, c, rfl, Asn.grow _ hown hg3, fun b hb => Nat.le_trans hg.size (hfr b hb)⟩⟩
theorem St.one' {B : Nat} {we w w' : World} {L : List Asn} (h : St B we w L) (hg : Gr w w') {A : Option Addr} {m c : Nat} {xs : List Int} (h1 : (own (eInt .i64) 1 3 A m c xs).p w') (f1 : ∀ b, (own (eInt .i64) 1 3 A m c xs).fp b → w.heap.size ≤ b) (b1 : m ≤ 140737488351232) :
    St B we w' (sl (eInt .i64) 1 A m c xs :: L) := h.newl [sl (eInt .i64) 1 A m c xs] hg fun a ha => by
  simp only [List.mem_cons, List.not_mem_nil, or_false] at ha
  subst ha; exact ⟨rfl, own_sl h1 b1, own_fp f1⟩
theorem St.two' {B : Nat} {we w w' : World} {L : List Asn} (h : St B we w L) (hg : Gr w w') {A A2 : Option Addr} {m c m2 c2 : Nat} {xs ys : List Int} (h1 : (own (eInt .i64) 1 3 A m c xs).p w') (f1 : ∀ b, (own (eInt .i64) 1 3 A m c xs).fp b → w.heap.size ≤ b) (b1 : m ≤ 140737488351232)
    (h2 : (own (eInt .i64) 1 3 A2 m2 c2 ys).p w') (f2 : ∀ b, (own (eInt .i64) 1 3 A2 m2 c2 ys).fp b → w.heap.size ≤ b) (b2 : m2 ≤ 140737488351232) : St B we w' (sl (eInt .i64) 1 A m c xs :: sl (eInt .i64) 1 A2 m2 c2 ys :: L) := h.newl [sl (eInt .i64) 1 A m c xs, sl (eInt .i64) 1 A2 m2 c2 ys] hg fun a ha => by
  simp only [List.mem_cons, List.not_mem_nil, or_false] at ha
  rcases ha with rfl | rfl
  · exact ⟨rfl, own_sl h1 b1, own_fp f1⟩
  · exact ⟨rfl, own_sl h2 b2, own_fp f2⟩
theorem St.three' {B : Nat} {we w w' : World} {L : List Asn} (h : St B we w L) (hg : Gr w w') {A A2 A3 : Option Addr} {m c m2 c2 m3 c3 : Nat} {xs ys zs : List Int} (h1 : (own (eInt .i64) 1 3 A m c xs).p w') (f1 : ∀ b, (own (eInt .i64) 1 3 A m c xs).fp b → w.heap.size ≤ b) (b1 : m ≤ 140737488351232)
    (h2 : (own (eInt .i64) 1 3 A2 m2 c2 ys).p w') (f2 : ∀ b, (own (eInt .i64) 1 3 A2 m2 c2 ys).fp b → w.heap.size ≤ b) (b2 : m2 ≤ 140737488351232)
    (h3 : (own (eInt .i64) 1 3 A3 m3 c3 zs).p w') (f3 : ∀ b, (own (eInt .i64) 1 3 A3 m3 c3 zs).fp b → w.heap.size ≤ b) (b3 : m3 ≤ 140737488351232) : St B we w' (sl (eInt .i64) 1 A m c xs :: sl (eInt .i64) 1 A2 m2 c2 ys :: sl (eInt .i64) 1 A3 m3 c3 zs :: L) := h.newl [sl (eInt .i64) 1 A m c xs, sl (eInt .i64) 1 A2 m2 c2 ys, sl (eInt .i64) 1 A3 m3 c3 zs] hg fun a ha => by
  simp only [List.mem_cons, List.not_mem_nil, or_false] at ha
  rcases ha with rfl | rfl | rfl
  · exact ⟨rfl, own_sl h1 b1, own_fp f1⟩
  · exact ⟨rfl, own_sl h2 b2, own_fp f2⟩
  · exact ⟨rfl, own_sl h3 b3, own_fp f3⟩
end Go.Proofs.Ytnpgeohkmdcbkaa.Aq
