/- The engine, part 10: operations on values of which facts are known; rows of residual arcs as facts. -/
import Derived.Test.YtnpgeohkmdcbkaaEng9
import Derived.Test.YtnpgeohkmdcbkaaCsr
namespace Go.Proofs.Ytnpgeohkmdcbkaa.Aq
open Go Go.RowKit

/-- What is known of operands, one by one. -/
def Env.views (E : Env) (w : World) : List Operand → List Value → Prop
  | [], [] => True
  | x :: xs, v :: vs => (match E.at none x with
      | some u => v = u
      | none => (match x with
        | .tmp t => (match E t with
          | some (.sat F) => F v w
          | _ => True)
        | _ => True)) ∧ E.views w xs vs
  | _, _ => False

theorem views_of {ops : Array Oper} {E : Env} {o : Oper} {a : Act} {w : World} (hs : SatOn (o.looksAt ops) E a w) : ∀ (xs : List Operand), (∀ x ∈ xs, x ∈ o.op.operands) → E.views w xs (xs.map a.eval)
  | [], _ => trivial
  | x :: xs, hm => by
    refine ⟨?_, views_of hs xs fun y hy => hm y (List.mem_cons_of_mem _ hy)⟩
    have hx := hm x List.mem_cons_self
    cases he : E.at none x with
    | some u => exact agree_of (g := none) hs (fun s b h => by cases h) x hx u he
    | none =>
      cases x with
      | tmp t =>
        simp only
        split
        · rename_i F hF
          have := hs t (look_tmp hx) _ hF
          exact this w (Gr.refl w)
        · trivial
      | _ => trivial

section
variable {P : Program} {n : Nat} {ops : Array Oper} {S : World → Prop} {E : Env} {o : Oper} {w0 : World}

/-- A call of which the arguments are known by facts. -/
theorem ok_callS {f : FuncId} {xs : List Operand} {ts : Array TypeId} (F : Value → World → Prop) (hg : o.guard = none) (ho : o.op = .call { callee := .value (.func f), args := xs.toArray, argTypes := ts }) (hf : ∀ args w, (callFunc f args).run P w = .ok (.enter f args) w)
    (hc : ∀ vs w, S w → E.views w xs vs → Calls P f vs.toArray w fun e w' => ∃ v, e = .returned v ∧ Gr w w' ∧ ∀ w2, Gr w' w2 → F v w2) : OpOk P n ops S E o (.sat F) where
  shape := fun _ _ _ he => by cases he
  run := fun a w hn hs hS hw => by
    have hv := views_of hs xs (fun z hz => by rw [ho]; simp [Op.operands, Call.operands]; exact .inr hz)
    have hrun : (execOp a.eval o).run P w = .ok (.enter f (xs.map a.eval).toArray) w := by
      have : (Act.eval a (.func f)) = .func (.func f) #[] #[] := rfl
      simp only [execOp, ho, resolve, this, Deferred.ofValue, Sem.run_bind, Sem.run_pure, Result.andThen_ok, invoke, List.map_toArray]
      simpa using hf (xs.map a.eval).toArray w
    unfold OpR
    rw [hrun]
    exact (hc _ w hS hv).mono fun e w' ⟨v, he, hg, hF⟩ => ⟨v, he, hg, hF⟩
  skip := fun a w hn hs hS hw => by simp [Region.wanted, hg] at hw

/-- The same where what it returns is known. -/
theorem ok_callSv {f : FuncId} {xs : List Operand} {ts : Array TypeId} (cv : Value) (hg : o.guard = none) (ho : o.op = .call { callee := .value (.func f), args := xs.toArray, argTypes := ts }) (hf : ∀ args w, (callFunc f args).run P w = .ok (.enter f args) w)
    (hc : ∀ vs w, S w → E.views w xs vs → Calls P f vs.toArray w fun e w' => e = .returned cv ∧ Gr w w') : OpOk P n ops S E o (.eq cv) where
  shape := fun _ _ _ he => by cases he
  run := fun a w hn hs hS hw => by
    have h := ok_callS (P := P) (n := n) (ops := ops) (S := S) (E := E) (o := o) (fun v _ => v = cv) hg ho hf (fun vs w hS hv => (hc vs w hS hv).mono fun e w' ⟨h1, h2⟩ => ⟨cv, h1, h2, fun _ _ => rfl⟩)
    exact (h.run a w hn hs hS hw).mono fun v w' ⟨g, hp⟩ => ⟨g, hp w' (Gr.refl _)⟩
  skip := fun a w hn hs hS hw => by simp [Region.wanted, hg] at hw

theorem ok_mvS {s : Nat} {F : Value → World → Prop} (hg : o.guard = none) (ho : o.op = .move (.tmp s) ∨ o.op = .assign (.tmp s)) (hs : E s = some (.sat F)) : OpV P n ops S E o (.sat F) where
  shape := fun _ _ _ he => by cases he
  run := fun a w hn hso hS hw => by
    have h1 := hso s (look_tmp (by rcases ho with ho | ho <;> rw [ho] <;> simp [Op.operands])) _ hs
    refine ⟨tm a s, ?_, h1⟩
    rcases ho with ho | ho <;> simp only [execOp, ho] <;> rfl
  skip := fun a w hn hs hS hw => by simp [Region.wanted, hg] at hw

theorem ok_exS {s m : Nat} {F G : Value → World → Prop} (hg : o.guard = none) (ho : o.op = .extract (.tmp s) m) (hs : E s = some (.sat F)) (hFG : ∀ v w, F v w → ∃ vs u, v = .tuple vs ∧ vs[m]? = some u ∧ G u w) : OpV P n ops S E o (.sat G) where
  shape := fun _ _ _ he => by cases he
  run := fun a w hn hso hS hw => by
    have h1 := hso s (look_tmp (by rw [ho]; simp [Op.operands])) _ hs
    obtain ⟨vs, u, e1, e2, _⟩ := hFG _ _ (h1 w (Gr.refl w))
    have e0 : a.eval (.tmp s) = .tuple vs := e1
    refine ⟨u, by simp only [execOp, ho, e0]; simp [Instr.extract, e2, go_sem], fun w' g => ?_⟩
    obtain ⟨vs', u', e1', e2', hG⟩ := hFG _ _ (h1 w' g)
    have : Value.tuple vs = .tuple vs' := e1.symm.trans e1'
    injection this with this
    subst this
    rw [e2] at e2'
    injection e2' with e2'
    subst e2'
    exact hG
  skip := fun a w hn hs hS hw => by simp [Region.wanted, hg] at hw

variable {B : Nat} {we w w' : World} {L : List Asn}
/-- New facts, read alone. -/
theorem St.newl (Ls : List Asn) : ∀ {L : List Asn}, St B we w L → Gr w w' → (∀ a ∈ Ls, a.mt = false ∧ a.p w' ∧ ∀ b, a.fp b → w.heap.size ≤ b) → St B we w' (Ls ++ L) := by
  intro L h g hL
  refine ⟨(h.grow g).below, (h.grow g).base, fun x hx => ?_, fun x hx hm b hb => ?_, List.pairwise_append.2 ⟨?_, h.apart, fun x hx y hy _ b hb hb' => ?_⟩⟩
  · rcases List.mem_append.1 hx with hx | hx
    · exact (hL x hx).2.1
    · exact (h.grow g).ok x hx
  · rcases List.mem_append.1 hx with hx | hx
    · have := (hL x hx).1; rw [hm] at this; cases this
    · exact h.ge x hx hm b hb
  · refine List.Pairwise.imp_of_mem (R := fun _ _ => True) (fun {x y} hx hy _ ho => ?_) (List.pairwise_of_forall fun _ _ => trivial)
    rcases ho with ho | ho
    · rw [(hL x hx).1] at ho; cases ho
    · rw [(hL y hy).1] at ho; cases ho
  · have := y.lt (h.ok y hy) hb'
    have := (hL x hx).2.2 b hb
    omega
theorem St.csr {c : Cs} {q : Q6} (h : St B we w L) (g : Gr w w') (hat : CsAt c q w') (hn : CsNew c q w.heap.size) :
    St B we w' (sl (eInt .i64) 1 q.a0 c.First.length q.c0 c.First :: sl (eInt .i64) 1 q.a1 c.Head.length q.c1 c.Head :: sl (eInt .i64) 1 q.a2 c.Rev.length q.c2 c.Rev :: sl (eInt .i64) 1 q.a3 c.Cap.length q.c3 c.Cap :: sl (eInt .i64) 1 q.a4 c.Arc.length q.c4 c.Arc :: sl eBool 1 q.a5 c.Back.length q.c5 c.Back :: L) :=
  h.newl [sl (eInt .i64) 1 q.a0 c.First.length q.c0 c.First, sl (eInt .i64) 1 q.a1 c.Head.length q.c1 c.Head, sl (eInt .i64) 1 q.a2 c.Rev.length q.c2 c.Rev, sl (eInt .i64) 1 q.a3 c.Cap.length q.c3 c.Cap, sl (eInt .i64) 1 q.a4 c.Arc.length q.c4 c.Arc, sl eBool 1 q.a5 c.Back.length q.c5 c.Back] g fun a ha => by
    simp only [List.mem_cons, List.not_mem_nil, or_false] at ha
    rcases ha with rfl | rfl | rfl | rfl | rfl | rfl
    · exact ⟨rfl, hat.first, hn.first⟩
    · exact ⟨rfl, hat.head, hn.head⟩
    · exact ⟨rfl, hat.rev, hn.rev⟩
    · exact ⟨rfl, hat.cap, hn.cap⟩
    · exact ⟨rfl, hat.arc, hn.arc⟩
    · exact ⟨rfl, hat.back, hn.back⟩
/-- A row handed in. -/
theorem St.ofc {c : Cs} {q : Q6} (h : CsAt c q w) : St w.heap.size w w [sl (eInt .i64) 1 q.a0 c.First.length q.c0 c.First, sl (eInt .i64) 1 q.a1 c.Head.length q.c1 c.Head, sl (eInt .i64) 1 q.a2 c.Rev.length q.c2 c.Rev, sl (eInt .i64) 1 q.a3 c.Cap.length q.c3 c.Cap, sl (eInt .i64) 1 q.a4 c.Arc.length q.c4 c.Arc, sl eBool 1 q.a5 c.Back.length q.c5 c.Back] :=
  ((((((St.start w).args (Nat.le_refl _) _ h.back rfl).args (Nat.le_refl _) _ h.arc rfl).args (Nat.le_refl _) _ h.cap rfl).args (Nat.le_refl _) _ h.rev rfl).args (Nat.le_refl _) _ h.head rfl).args (Nat.le_refl _) _ h.first rfl
end
/-- A list of facts that holds a row's six. -/
class HasCs (L : List Asn) (c : outParam Cs) (q : Q6) : Prop where
  get : ∀ {R : Asn → Prop}, (∀ a ∈ L, R a) → Cs6 R c q
instance {L : List Asn} {a : Asn} {c : Cs} {q : Q6} [h : HasCs L c q] : HasCs (a :: L) c q := ⟨fun ha => h.get fun x hx => ha x (List.mem_cons_of_mem _ hx)⟩
instance {L : List Asn} {c : Cs} {q : Q6} : HasCs (sl (eInt .i64) 1 q.a0 c.First.length q.c0 c.First :: sl (eInt .i64) 1 q.a1 c.Head.length q.c1 c.Head :: sl (eInt .i64) 1 q.a2 c.Rev.length q.c2 c.Rev :: sl (eInt .i64) 1 q.a3 c.Cap.length q.c3 c.Cap :: sl (eInt .i64) 1 q.a4 c.Arc.length q.c4 c.Arc :: sl eBool 1 q.a5 c.Back.length q.c5 c.Back :: L) c q := ⟨fun ha => ⟨ha _ (.head _), ha _ (.tail _ (.head _)), ha _ (.tail _ (.tail _ (.head _))), ha _ (.tail _ (.tail _ (.tail _ (.head _)))), ha _ (.tail _ (.tail _ (.tail _ (.tail _ (.head _))))), ha _ (.tail _ (.tail _ (.tail _ (.tail _ (.tail _ (.head _))))))⟩⟩
theorem St.cs {B : Nat} {we w : World} {L : List Asn} {c : Cs} (h : St B we w L) (q : Q6) [hc : HasCs L c q] : CsAt c q w := hc.get h.ok
theorem St.csApart {B : Nat} {we w : World} {L : List Asn} {c : Cs} {a : Asn} (h : St B we w (a :: L)) (q : Q6) [hc : HasCs L c q] (hm : a.mt = true) : CsApart c q a.fp :=
  hc.get fun x hx => (List.pairwise_cons.1 h.apart).1 x hx (.inl hm)
/-- A row that a call has made, and a slice of the call's own. -/
theorem St.left {B : Nat} {we w w' : World} {L : List Asn} {c : Cs} {q : Q6} {a : Asn} (h : St B we w L) (g : Gr w w') (hat : CsAt c q w') (hn : CsNew c q w.heap.size) (ha : a.p w') (hf : ∀ b, a.fp b → w.heap.size ≤ b) (hap : CsApart c q a.fp) :
    St B we w' (a :: sl (eInt .i64) 1 q.a0 c.First.length q.c0 c.First :: sl (eInt .i64) 1 q.a1 c.Head.length q.c1 c.Head :: sl (eInt .i64) 1 q.a2 c.Rev.length q.c2 c.Rev :: sl (eInt .i64) 1 q.a3 c.Cap.length q.c3 c.Cap :: sl (eInt .i64) 1 q.a4 c.Arc.length q.c4 c.Arc :: sl eBool 1 q.a5 c.Back.length q.c5 c.Back :: L) := by
  have h1 := h.csr g hat hn
  refine ⟨h1.below, h1.base, fun x hx => ?_, fun x hx hm b hb => ?_, List.pairwise_cons.2 ⟨fun x hx _ b hb hb' => ?_, h1.apart⟩⟩
  · rcases List.mem_cons.1 hx with rfl | hx
    · exact ha
    · exact h1.ok x hx
  · rcases List.mem_cons.1 hx with rfl | hx
    · exact Nat.le_trans h.base (hf b hb)
    · exact h1.ge x hx hm b hb
  · simp only [List.mem_cons] at hx
    rcases hx with rfl | rfl | rfl | rfl | rfl | rfl | hx
    · exact hap.first b hb hb'
    · exact hap.head b hb hb'
    · exact hap.rev b hb hb'
    · exact hap.cap b hb hb'
    · exact hap.arc b hb hb'
    · exact hap.back b hb hb'
    · have := x.lt (h.ok x hx) hb'
      have := hf b hb
      omega
/-- A slice that can be read, by its address. -/
theorem St.rd {α : Type} {B : Nat} {we w : World} {L : List Asn} (h : St B we w L) (A : Option Addr) {enc : α → List Value} {sz m c : Nat} {d : α} [hE : Enc enc sz d] {xs : List α} [hm : HasSl L A enc sz m c xs] (hl : m ≤ 140737488351232) : (sl enc sz A m c xs).p w := h.slp hm.mem hl
end Go.Proofs.Ytnpgeohkmdcbkaa.Aq
