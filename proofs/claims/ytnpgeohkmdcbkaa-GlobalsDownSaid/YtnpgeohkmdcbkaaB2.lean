/- How a row of residual arcs lies in memory. The engine, part 10: operations on values of which facts are known; rows of residual arcs as facts. The engine, part 11: function values; shifts. The engine, part 12: maps from int to int of the call's own. The engine, part 13: append of what may be empty. The engine, part 14: copy; slices from a place on. No condition but those each lemma names. The engine, part 15: loops of four letters; labels. No condition but those each lemma names. The engine, part 16: slices of slices of numbers. No condition but those each lemma names. The engine, part 17: a slice beside nil. No condition but those each lemma names. No condition but those that each lemma names. -/
import Derived.Test.YtnpgeohkmdcbkaaB1
import Derived.Test.YtnpgeohkmdcbkaaB0
import Derived.Maps.OwnSet
import Derived.Maps.Views
import Derived.OpenShut
import Derived.Deep.Upon
import Derived.Laws.CopyRow
import Derived.Scope
import Derived.Lib.SliceRun
namespace Go.Proofs.Ytnpgeohkmdcbkaa.Aq
open Go Go.RowKit

structure Q6 where
  a0 : Option Addr
  c0 : Nat
  a1 : Option Addr
  c1 : Nat
  a2 : Option Addr
  c2 : Nat
  a3 : Option Addr
  c3 : Nat
  a4 : Option Addr
  c4 : Nat
  a5 : Option Addr
  c5 : Nat
def csV (c : Cs) (q : Q6) : Value := .agg #[.int .i64 c.N, .int .i64 c.S, .int .i64 c.T, .slice q.a0 c.First.length q.c0, .slice q.a1 c.Head.length q.c1, .slice q.a2 c.Rev.length q.c2, .slice q.a3 c.Cap.length q.c3, .slice q.a4 c.Arc.length q.c4, .slice q.a5 c.Back.length q.c5]

/-- Something of all six slices. -/
structure Cs6 (R : Asn → Prop) (c : Cs) (q : Q6) : Prop where
  first : R (sl (eInt .i64) 1 q.a0 c.First.length q.c0 c.First)
  head : R (sl (eInt .i64) 1 q.a1 c.Head.length q.c1 c.Head)
  rev : R (sl (eInt .i64) 1 q.a2 c.Rev.length q.c2 c.Rev)
  cap : R (sl (eInt .i64) 1 q.a3 c.Cap.length q.c3 c.Cap)
  arc : R (sl (eInt .i64) 1 q.a4 c.Arc.length q.c4 c.Arc)
  back : R (sl eBool 1 q.a5 c.Back.length q.c5 c.Back)
theorem Cs6.mono {R R' : Asn → Prop} {c : Cs} {q : Q6} (h : Cs6 R c q) (f : ∀ a, R a → R' a) : Cs6 R' c q := ⟨f _ h.first, f _ h.head, f _ h.rev, f _ h.cap, f _ h.arc, f _ h.back⟩
/-- The six slices can be read. -/
abbrev CsAt (c : Cs) (q : Q6) (w : World) : Prop := Cs6 (fun a => a.p w) c q
/-- They lie in new memory. -/
abbrev CsNew (c : Cs) (q : Q6) (B : Nat) : Prop := Cs6 (fun a => ∀ b, a.fp b → B ≤ b) c q
/-- They lie elsewhere than something. -/
abbrev CsApart (c : Cs) (q : Q6) (p : Nat → Prop) : Prop := Cs6 (fun a => ∀ b, p b → ¬ a.fp b) c q
theorem own_fp {α : Type} {enc : α → List Value} {sz e m c B : Nat} {A : Option Addr} {xs : List α} (h : ∀ b, (own enc sz e A m c xs).fp b → B ≤ b) : ∀ b, (sl enc sz A m c xs).fp b → B ≤ b :=
  fun b ⟨ad, e1, e2, _⟩ => h b ⟨ad, e1, e2⟩

theorem CsAt.grow {c : Cs} {q : Q6} {w w' : World} (h : CsAt c q w) (g : Gr w w') : CsAt c q w' :=
  h.mono fun a ha => Asn.grow a ha g

/-- The first two as facts. -/
theorem St.args {B : Nat} {we w : World} {L : List Asn} (h : St B we w L) (hB : w.heap.size ≤ B) (a : Asn) (ha : a.p w) (hm : a.mt = false) : St B we w (a :: L) :=
  h.arg a ha hm fun b hb => Nat.lt_of_lt_of_le (a.lt ha hb) hB

end Go.Proofs.Ytnpgeohkmdcbkaa.Aq

namespace Go.Proofs.Ytnpgeohkmdcbkaa.Aq
open Go Go.RowKit

/-- What is known of operands, one by one. -/
def Env.views (E : Env) (w : World) : List Operand → List Value → Prop
  | [], [] => True
  | x :: xs, v :: vs => (match E.at none x with
      | some u => v = u
      | none => (match x with
        | .tmp t => (match E t with
          | some (.sat F) => F v w
          | _ => True)
        | _ => True)) ∧ E.views w xs vs
  | _, _ => False

theorem views_of {ops : Array Oper} {E : Env} {o : Oper} {a : Act} {w : World} (hs : SatOn (o.looksAt ops) E a w) : ∀ (xs : List Operand), (∀ x ∈ xs, x ∈ o.op.operands) → E.views w xs (xs.map a.eval)
  | [], _ => trivial
  | x :: xs, hm => by
    refine ⟨?_, views_of hs xs fun y hy => hm y (List.mem_cons_of_mem _ hy)⟩
    have hx := hm x List.mem_cons_self
    cases he : E.at none x with
    | some u => exact agree_of (g := none) hs (fun s b h => by cases h) x hx u he
    | none =>
      cases x with
      | tmp t =>
        simp only
        split
        · rename_i F hF
          have := hs t (look_tmp hx) _ hF
          exact this w (Gr.refl w)
        · trivial
      | _ => trivial

section
variable {P : Program} {n : Nat} {ops : Array Oper} {S : World → Prop} {E : Env} {o : Oper} {w0 : World}

/-- A call of which the arguments are known by facts. -/
theorem ok_callS {f : FuncId} {xs : List Operand} {ts : Array TypeId} (F : Value → World → Prop) (hg : o.guard = none) (ho : o.op = .call { callee := .value (.func f), args := xs.toArray, argTypes := ts }) (hf : ∀ args w, (callFunc f args).run P w = .ok (.enter f args) w)
    (hc : ∀ vs w, S w → E.views w xs vs → Calls P f vs.toArray w fun e w' => ∃ v, e = .returned v ∧ Gr w w' ∧ ∀ w2, Gr w' w2 → F v w2) : OpOk P n ops S E o (.sat F) where
  shape := fun _ _ _ he => by cases he
  run := fun a w hn hs hS hw => by
    have hv := views_of hs xs (fun z hz => by rw [ho]; simp [Op.operands, Call.operands]; exact .inr hz)
    have hrun : (execOp a.eval o).run P w = .ok (.enter f (xs.map a.eval).toArray) w := by
      have : (Act.eval a (.func f)) = .func (.func f) #[] #[] := rfl
      simp only [execOp, ho, resolve, this, Deferred.ofValue, Sem.run_bind, Sem.run_pure, Result.andThen_ok, invoke, List.map_toArray]
      simpa using hf (xs.map a.eval).toArray w
    unfold OpR
    rw [hrun]
    exact (hc _ w hS hv).mono fun e w' ⟨v, he, hg, hF⟩ => ⟨v, he, hg, hF⟩
  skip := fun a w hn hs hS hw => by simp [Region.wanted, hg] at hw

/-- The same where what it returns is known. -/
theorem ok_callSv {f : FuncId} {xs : List Operand} {ts : Array TypeId} (cv : Value) (hg : o.guard = none) (ho : o.op = .call { callee := .value (.func f), args := xs.toArray, argTypes := ts }) (hf : ∀ args w, (callFunc f args).run P w = .ok (.enter f args) w)
    (hc : ∀ vs w, S w → E.views w xs vs → Calls P f vs.toArray w fun e w' => e = .returned cv ∧ Gr w w') : OpOk P n ops S E o (.eq cv) where
  shape := fun _ _ _ he => by cases he
  run := fun a w hn hs hS hw => by
    have h := ok_callS (P := P) (n := n) (ops := ops) (S := S) (E := E) (o := o) (fun v _ => v = cv) hg ho hf (fun vs w hS hv => (hc vs w hS hv).mono fun e w' ⟨h1, h2⟩ => ⟨cv, h1, h2, fun _ _ => rfl⟩)
    exact (h.run a w hn hs hS hw).mono fun v w' ⟨g, hp⟩ => ⟨g, hp w' (Gr.refl _)⟩
  skip := fun a w hn hs hS hw => by simp [Region.wanted, hg] at hw

theorem ok_mvS {s : Nat} {F : Value → World → Prop} (hg : o.guard = none) (ho : o.op = .move (.tmp s) ∨ o.op = .assign (.tmp s)) (hs : E s = some (.sat F)) : OpV P n ops S E o (.sat F) where
  shape := fun _ _ _ he => by cases he
  run := fun a w hn hso hS hw => by
    have h1 := hso s (look_tmp (by rcases ho with ho | ho <;> rw [ho] <;> simp [Op.operands])) _ hs
    refine ⟨tm a s, ?_, h1⟩
    rcases ho with ho | ho <;> simp only [execOp, ho] <;> rfl
  skip := fun a w hn hs hS hw => by simp [Region.wanted, hg] at hw

theorem ok_exS {s m : Nat} {F G : Value → World → Prop} (hg : o.guard = none) (ho : o.op = .extract (.tmp s) m) (hs : E s = some (.sat F)) (hFG : ∀ v w, F v w → ∃ vs u, v = .tuple vs ∧ vs[m]? = some u ∧ G u w) : OpV P n ops S E o (.sat G) where
  shape := fun _ _ _ he => by cases he
  run := fun a w hn hso hS hw => by
    have h1 := hso s (look_tmp (by rw [ho]; simp [Op.operands])) _ hs
    obtain ⟨vs, u, e1, e2, _⟩ := hFG _ _ (h1 w (Gr.refl w))
    have e0 : a.eval (.tmp s) = .tuple vs := e1
    refine ⟨u, by simp only [execOp, ho, e0]; simp [Instr.extract, e2, go_sem], fun w' g => ?_⟩
    obtain ⟨vs', u', e1', e2', hG⟩ := hFG _ _ (h1 w' g)
    have : Value.tuple vs = .tuple vs' := e1.symm.trans e1'
    injection this with this
    subst this
    rw [e2] at e2'
    injection e2' with e2'
    subst e2'
    exact hG
  skip := fun a w hn hs hS hw => by simp [Region.wanted, hg] at hw

variable {B : Nat} {we w w' : World} {L : List Asn}
/-- New facts, read alone. -/
theorem St.newl (Ls : List Asn) : ∀ {L : List Asn}, St B we w L → Gr w w' → (∀ a ∈ Ls, a.mt = false ∧ a.p w' ∧ ∀ b, a.fp b → w.heap.size ≤ b) → St B we w' (Ls ++ L) := by
  intro L h g hL
  refine ⟨(h.grow g).below, (h.grow g).base, fun x hx => ?_, fun x hx hm b hb => ?_, List.pairwise_append.2 ⟨?_, h.apart, fun x hx y hy _ b hb hb' => ?_⟩⟩
  · rcases List.mem_append.1 hx with hx | hx
    · exact (hL x hx).2.1
    · exact (h.grow g).ok x hx
  · rcases List.mem_append.1 hx with hx | hx
    · have := (hL x hx).1; rw [hm] at this; cases this
    · exact h.ge x hx hm b hb
  · refine List.Pairwise.imp_of_mem (R := fun _ _ => True) (fun {x y} hx hy _ ho => ?_) (List.pairwise_of_forall fun _ _ => trivial)
    rcases ho with ho | ho
    · rw [(hL x hx).1] at ho; cases ho
    · rw [(hL y hy).1] at ho; cases ho
  · have := y.lt (h.ok y hy) hb'
    have := (hL x hx).2.2 b hb
    omega
theorem St.csr {c : Cs} {q : Q6} (h : St B we w L) (g : Gr w w') (hat : CsAt c q w') (hn : CsNew c q w.heap.size) :
    St B we w' (sl (eInt .i64) 1 q.a0 c.First.length q.c0 c.First :: sl (eInt .i64) 1 q.a1 c.Head.length q.c1 c.Head :: sl (eInt .i64) 1 q.a2 c.Rev.length q.c2 c.Rev :: sl (eInt .i64) 1 q.a3 c.Cap.length q.c3 c.Cap :: sl (eInt .i64) 1 q.a4 c.Arc.length q.c4 c.Arc :: sl eBool 1 q.a5 c.Back.length q.c5 c.Back :: L) :=
  h.newl [sl (eInt .i64) 1 q.a0 c.First.length q.c0 c.First, sl (eInt .i64) 1 q.a1 c.Head.length q.c1 c.Head, sl (eInt .i64) 1 q.a2 c.Rev.length q.c2 c.Rev, sl (eInt .i64) 1 q.a3 c.Cap.length q.c3 c.Cap, sl (eInt .i64) 1 q.a4 c.Arc.length q.c4 c.Arc, sl eBool 1 q.a5 c.Back.length q.c5 c.Back] g fun a ha => by
    simp only [List.mem_cons, List.not_mem_nil, or_false] at ha
    rcases ha with rfl | rfl | rfl | rfl | rfl | rfl
    · exact ⟨rfl, hat.first, hn.first⟩
    · exact ⟨rfl, hat.head, hn.head⟩
    · exact ⟨rfl, hat.rev, hn.rev⟩
    · exact ⟨rfl, hat.cap, hn.cap⟩
    · exact ⟨rfl, hat.arc, hn.arc⟩
    · exact ⟨rfl, hat.back, hn.back⟩
/-- A row handed in. -/
theorem St.ofc {c : Cs} {q : Q6} (h : CsAt c q w) : St w.heap.size w w [sl (eInt .i64) 1 q.a0 c.First.length q.c0 c.First, sl (eInt .i64) 1 q.a1 c.Head.length q.c1 c.Head, sl (eInt .i64) 1 q.a2 c.Rev.length q.c2 c.Rev, sl (eInt .i64) 1 q.a3 c.Cap.length q.c3 c.Cap, sl (eInt .i64) 1 q.a4 c.Arc.length q.c4 c.Arc, sl eBool 1 q.a5 c.Back.length q.c5 c.Back] :=
  ((((((St.start w).args (Nat.le_refl _) _ h.back rfl).args (Nat.le_refl _) _ h.arc rfl).args (Nat.le_refl _) _ h.cap rfl).args (Nat.le_refl _) _ h.rev rfl).args (Nat.le_refl _) _ h.head rfl).args (Nat.le_refl _) _ h.first rfl
end
/-- A list of facts that holds a row's six. -/
class HasCs (L : List Asn) (c : outParam Cs) (q : Q6) : Prop where
  get : ∀ {R : Asn → Prop}, (∀ a ∈ L, R a) → Cs6 R c q
instance {L : List Asn} {a : Asn} {c : Cs} {q : Q6} [h : HasCs L c q] : HasCs (a :: L) c q := ⟨fun ha => h.get fun x hx => ha x (List.mem_cons_of_mem _ hx)⟩
instance {L : List Asn} {c : Cs} {q : Q6} : HasCs (sl (eInt .i64) 1 q.a0 c.First.length q.c0 c.First :: sl (eInt .i64) 1 q.a1 c.Head.length q.c1 c.Head :: sl (eInt .i64) 1 q.a2 c.Rev.length q.c2 c.Rev :: sl (eInt .i64) 1 q.a3 c.Cap.length q.c3 c.Cap :: sl (eInt .i64) 1 q.a4 c.Arc.length q.c4 c.Arc :: sl eBool 1 q.a5 c.Back.length q.c5 c.Back :: L) c q := ⟨fun ha => ⟨ha _ (.head _), ha _ (.tail _ (.head _)), ha _ (.tail _ (.tail _ (.head _))), ha _ (.tail _ (.tail _ (.tail _ (.head _)))), ha _ (.tail _ (.tail _ (.tail _ (.tail _ (.head _))))), ha _ (.tail _ (.tail _ (.tail _ (.tail _ (.tail _ (.head _))))))⟩⟩
theorem St.cs {B : Nat} {we w : World} {L : List Asn} {c : Cs} (h : St B we w L) (q : Q6) [hc : HasCs L c q] : CsAt c q w := hc.get h.ok
theorem St.csApart {B : Nat} {we w : World} {L : List Asn} {c : Cs} {a : Asn} (h : St B we w (a :: L)) (q : Q6) [hc : HasCs L c q] (hm : a.mt = true) : CsApart c q a.fp :=
  hc.get fun x hx => (List.pairwise_cons.1 h.apart).1 x hx (.inl hm)
/-- A row that a call has made, and a slice of the call's own. -/
theorem St.left {B : Nat} {we w w' : World} {L : List Asn} {c : Cs} {q : Q6} {a : Asn} (h : St B we w L) (g : Gr w w') (hat : CsAt c q w') (hn : CsNew c q w.heap.size) (ha : a.p w') (hf : ∀ b, a.fp b → w.heap.size ≤ b) (hap : CsApart c q a.fp) :
    St B we w' (a :: sl (eInt .i64) 1 q.a0 c.First.length q.c0 c.First :: sl (eInt .i64) 1 q.a1 c.Head.length q.c1 c.Head :: sl (eInt .i64) 1 q.a2 c.Rev.length q.c2 c.Rev :: sl (eInt .i64) 1 q.a3 c.Cap.length q.c3 c.Cap :: sl (eInt .i64) 1 q.a4 c.Arc.length q.c4 c.Arc :: sl eBool 1 q.a5 c.Back.length q.c5 c.Back :: L) := by
  have h1 := h.csr g hat hn
  refine ⟨h1.below, h1.base, fun x hx => ?_, fun x hx hm b hb => ?_, List.pairwise_cons.2 ⟨fun x hx _ b hb hb' => ?_, h1.apart⟩⟩
  · rcases List.mem_cons.1 hx with rfl | hx
    · exact ha
    · exact h1.ok x hx
  · rcases List.mem_cons.1 hx with rfl | hx
    · exact Nat.le_trans h.base (hf b hb)
    · exact h1.ge x hx hm b hb
  · simp only [List.mem_cons] at hx
    rcases hx with rfl | rfl | rfl | rfl | rfl | rfl | hx
    · exact hap.first b hb hb'
    · exact hap.head b hb hb'
    · exact hap.rev b hb hb'
    · exact hap.cap b hb hb'
    · exact hap.arc b hb hb'
    · exact hap.back b hb hb'
    · have := x.lt (h.ok x hx) hb'
      have := hf b hb
      omega
/-- A slice that can be read, by its address. -/
theorem St.rd {α : Type} {B : Nat} {we w : World} {L : List Asn} (h : St B we w L) (A : Option Addr) {enc : α → List Value} {sz m c : Nat} {d : α} [hE : Enc enc sz d] {xs : List α} [hm : HasSl L A enc sz m c xs] (hl : m ≤ 140737488351232) : (sl enc sz A m c xs).p w := h.slp hm.mem hl
end Go.Proofs.Ytnpgeohkmdcbkaa.Aq

namespace Go.Proofs.Ytnpgeohkmdcbkaa.Aq
open Go Go.RowKit
variable {dfr : List Deferred}

/-- What a function value does, of worlds that have grown from one. -/
def Does (P : Program) (f : FuncId) (caps : List Value) (w0 : World) (args : List Value) (v : Value) : Prop :=
  ∀ w, Gr w0 w → Calls P f (args ++ caps).toArray w fun e w' => e = .returned v ∧ Gr w w'
theorem Does.grow {P : Program} {f : FuncId} {caps args : List Value} {w0 w1 : World} {v : Value} (h : Does P f caps w0 args v) (g : Gr w0 w1) : Does P f caps w1 args v := fun w g' => h w (g.trans g')

section
variable {P : Program} {n : Nat} {ops : Array Oper} {S : World → Prop} {Q : Exit → Act → World → Prop} {l : List Oper} {E : Env} {o : Oper} {g : Option (Nat × Bool)} {w w0 : World} {x y : Operand} {v u : Value}

theorem ok_mkfn {fn : Fn} {caps : Array Operand} {cs : List Value} (ho : o.op = .makeFunc fn #[] caps) (hg : GuardIs ops o g) (hx : E.all g caps.toList = some cs) : OpV P n ops S E o (PV.of g (.func fn #[] cs.toArray)) :=
  ok_val hg fun ρ w ha _ _ => by
    have key : ∀ {l : List Operand} {us : List Value}, (∀ z ∈ l, z ∈ o.op.operands) → E.all g l = some us → l.map ρ = us := by
      intro l
      induction l with
      | nil => intro us _ h; simp [Env.all] at h; subst h; rfl
      | cons z l ih =>
        intro us hm h
        simp only [Env.all] at h
        cases h1 : E.at g z with
        | none => rw [h1] at h; simp at h
        | some v =>
          cases h2 : E.all g l with
          | none => rw [h1, h2] at h; simp at h
          | some us' =>
            rw [h1, h2] at h
            simp only [Option.some.injEq] at h
            subst h
            have e1 := ha z (hm z List.mem_cons_self) v h1
            rw [List.map_cons, e1, ih (fun z hz => hm z (List.mem_cons_of_mem _ hz)) h2]
    have e := key (l := caps.toList) (fun z hz => by rw [ho]; simpa [Op.operands] using hz) hx
    have e' : caps.map ρ = cs.toArray := by
      apply Array.toList_inj.1
      rw [Array.toList_map, e]
    simp [execOp, ho, Instr.makeFunc, e', go_sem]

/-- A call of whatever function, in a row. -/
theorem lw_callf {f : FuncId} {xs : List Operand} {ts : Array TypeId} {vs : List Value} {caps : Array Value} (hd : dstOk n o = true) (hg : o.guard = none) (ho : o.op = .call { callee := .value x, args := xs.toArray, argTypes := ts }) (hf : ∀ args w, (callFunc f args).run P w = .ok (.enter f args) w)
    (hfx : E.at none x = some (.func (.func f) #[] caps)) (hx : E.all none xs = some vs) (hc : Calls P f (vs ++ caps.toList).toArray w fun e w' => ∃ v, e = .returned v ∧ LW dfr P n ops Q l (E.exact.updo o.dst (.eq v)) w') : LW dfr P n ops Q (o :: l) E w :=
  lw_w hd hg fun a _ hs => by
    have e0 := hs.ev hfx
    have e1 := hs.evs hx
    have hrun : (execOp a.eval o).run P w = .ok (.enter f (vs ++ caps.toList).toArray) w := by
      simp only [execOp, ho, resolve, e0, Deferred.ofValue, Sem.run_bind, Sem.run_pure, Result.andThen_ok, invoke, List.map_toArray, e1]
      have e3 : (vs ++ caps.toList).toArray = vs.toArray ++ caps := by simp
      have := hf (vs ++ caps.toList).toArray w
      rw [e3] at this ⊢
      simpa using this
    unfold OpR
    rw [hrun]
    exact hc

/-- A call of which the value is known, guarded or not, among operations whose order is drawn. -/
theorem ok_callg {f : FuncId} {xs : List Operand} {ts : Array TypeId} {vs : List Value} {caps : Array Value} (cv : Value) (ho : o.op = .call { callee := .value x, args := xs.toArray, argTypes := ts }) (hg : GuardIs ops o g) (hf : ∀ args w, (callFunc f args).run P w = .ok (.enter f args) w)
    (hfx : E.at g x = some (.func (.func f) #[] caps)) (hx : E.all g xs = some vs) (hc : E.gc g → ∀ w, S w → Calls P f (vs ++ caps.toList).toArray w fun e w' => e = .returned cv ∧ Gr w w') : OpOk P n ops S E o (PV.of g cv) where
  shape := fun s want c' he => by
    cases hg with
    | n h1 => simp [PV.of] at he
    | s h1 h2 => simp only [PV.of, PV.gd.injEq] at he; obtain ⟨rfl, rfl, rfl⟩ := he; exact ⟨_, _, h1, h2⟩
  run := fun a w hn hs hS hw => by
    obtain ⟨h1, h2⟩ := gc_of hs hg hw
    have ha := agree_of hs h2
    have key : ∀ {l : List Operand} {us : List Value}, (∀ z ∈ l, z ∈ o.op.operands) → E.all g l = some us → l.map a.eval = us := by
      intro l
      induction l with
      | nil => intro us _ h; simp [Env.all] at h; subst h; rfl
      | cons z l ih =>
        intro us hm h
        simp only [Env.all] at h
        cases h1 : E.at g z with
        | none => rw [h1] at h; simp at h
        | some v =>
          cases h2 : E.all g l with
          | none => rw [h1, h2] at h; simp at h
          | some us' =>
            rw [h1, h2] at h
            simp only [Option.some.injEq] at h
            subst h
            have e1 := ha z (hm z List.mem_cons_self) v h1
            rw [List.map_cons, e1, ih (fun z hz => hm z (List.mem_cons_of_mem _ hz)) h2]
    have e1 := key (fun z hz => by rw [ho]; simp [Op.operands, Call.operands]; exact .inr hz) hx
    have e0 := ha x (by rw [ho]; simp [Op.operands, Call.operands]) _ hfx
    have hrun : (execOp a.eval o).run P w = .ok (.enter f (vs ++ caps.toList).toArray) w := by
      simp only [execOp, ho, resolve, e0, Deferred.ofValue, Sem.run_bind, Sem.run_pure, Result.andThen_ok, invoke, List.map_toArray, e1]
      have e3 : (vs ++ caps.toList).toArray = vs.toArray ++ caps := by simp
      have := hf (vs ++ caps.toList).toArray w
      rw [e3] at this ⊢
      simpa using this
    unfold OpR
    rw [hrun]
    refine (hc h1 w hS).mono fun e w' ⟨he, hg'⟩ => ⟨cv, he, hg', ?_⟩
    cases g with
    | none => rfl
    | some sb => exact ⟨fun _ => rfl, fun hne => absurd (h2 _ _ rfl) hne⟩
  skip := fun a w hn hs hS hw => by
    cases hg with
    | n h1 => simp [Region.wanted, h1] at hw
    | s h1 h2 =>
      refine ⟨fun ht => ?_, fun _ => rfl⟩
      have := (wanted_guard (GuardIs.s h1 h2)).2 ht
      rw [hw] at this
      cases this

/-- A guard that is known not to hold. -/
theorem lw_off2 {s : Nat} {b : Bool} {v' : Value} (hd : dstOk n o = true) (hg : GuardIs ops o (some (s, b))) (hs : E s = some (.eq v')) (hne : v' ≠ .bool b) (h : LW dfr P n ops Q l (E.updo o.dst (.eq undef)) w) : LW dfr P n ops Q (o :: l) E w := by
  intro a ha hn hsat
  have hd' : ∀ x, o.dst = some x → x < n := fun x hx => by
    unfold dstOk at hd
    rw [hx] at hd
    exact of_blt hd
  have ht : tm a s = v' := hsat s _ hs
  have hw : ¬ Region.wanted o (yielded ops a.tmps) = true := fun hw => by
    have := (wanted_guard hg).1 hw
    rw [ht] at this
    exact hne this
  unfold wpList
  rw [if_neg hw]
  exact h _ (by rw [put_defers]; exact ha) (by rw [put_size]; exact hn) (hsat.updo hn hd' rfl)
theorem undef_ne (b : Bool) : undef ≠ .bool b := fun h => by cases h

/-- One operation that only lets memory grow, then the rest. -/
theorem lw_o {p : PV} (hd : dstOk n o = true) (hg : guardOk ops o = true) (h : OpOk P n ops (Gr w) E o p) (hl : ∀ w', Gr w w' → LW dfr P n ops Q l (E.updo o.dst p) w') : LW dfr P n ops Q (o :: l) E w := by
  intro a ha hn hs
  have hd' : ∀ x, o.dst = some x → x < n := fun x hx => by
    unfold dstOk at hd
    rw [hx] at hd
    exact of_blt hd
  refine wpList_free hn h (hs.on _) (Gr.refl w) fun v w' g hp => ?_
  exact hl w' g _ (by rw [put_defers]; exact ha) (by rw [put_size]; exact hn) ((hs.grow g).updo hn hd' (shape_put h.shape hg hp))

theorem fdiv2 (i : Int) : i.fdiv 2 = i / 2 := Int.fdiv_eq_ediv_of_nonneg _ (by decide)
theorem ok_shr1 {t t' : TypeId} {k : IntKind} {i : Int} (ho : o.op = .binOp .shr t x y t') (hg : GuardIs ops o g) (hk : k.bits = 64) (hx : E.at g x = some (.int k i)) (hy : E.at g y = some (.int .u64 1)) : OpV P n ops S E o (PV.of g (.int k (i / 2))) :=
  ok_val2 hg hx hy (by rw [ho]; simp [Op.operands]) (by rw [ho]; simp [Op.operands]) fun ρ w h1 h2 _ _ => by
    have e : (2 : Int) ^ (min (1 : Int).toNat k.bits) = 2 := by rw [hk]; rfl
    have e2 : Op.shift .shr k i .u64 1 = pure (.int k (i / 2)) := by
      unfold Op.shift
      rw [if_neg (by decide)]
      simp only [e, fdiv2]
    simp only [execOp, ho, h1, h2, eqGuard, binOp, e2]
    simp [go_sem]
end
end Go.Proofs.Ytnpgeohkmdcbkaa.Aq
namespace Go.Proofs.Ytnpgeohkmdcbkaa.Aq
open Go Go.RowKit
variable {dfr : List Deferred}
/-- The length of a slice of which facts are known. -/
theorem ok_lenS {P : Program} {n : Nat} {ops : Array Oper} {S : World → Prop} {E : Env} {o : Oper} {s m : Nat} {F : Value → World → Prop} {t e : TypeId} (hg : o.guard = none) (ho : o.op = .call { callee := .builtin .len, args := #[.tmp s], argTypes := #[t] }) (hu : P.underlying t = some (.slice e)) (hs : E s = some (.sat F))
    (hF : ∀ v w, F v w → ∃ A c, v = .slice A m c) : OpV P n ops S E o (.eq (.int .i64 m)) where
  shape := fun _ _ _ he => by cases he
  run := fun a w hn hso hS hw => by
    have h1 := hso s (look_tmp (by rw [ho]; simp [Op.operands, Call.operands])) _ hs
    obtain ⟨A, c, e1⟩ := hF _ _ (h1 w (Gr.refl w))
    have e0 : a.eval (.tmp s) = .slice A m c := e1
    refine ⟨_, ?_, rfl⟩
    have key : ∀ ρ : Operand → Value, ρ (.tmp s) = .slice A m c → (execOp ρ o).run P w = .ok (.value (.int .i64 m)) w := fun ρ h3 => by
      simp [execOp, ho, h3, resolve, invoke, builtin, Builtin.len_, run_underlying hu, goInt, go_sem]
    exact key a.eval e0
  skip := fun a w hn hs hS hw => by simp [Region.wanted, hg] at hw
end Go.Proofs.Ytnpgeohkmdcbkaa.Aq
namespace Go.Proofs.Ytnpgeohkmdcbkaa.Aq
open Go Go.RowKit
variable {dfr : List Deferred}
section
variable {P : Program} {n : Nat} {Q : Exit → Act → World → Prop} {E : Env} {w : World}
def Cut3 (dfr : List Deferred) {α β γ : Type} (n : Nat) (H : α → β → γ → List (Nat × PV)) (J : α → β → γ → World → Prop) (ls : List (Nat × PV)) : Act → World → Prop := fun a w => ∃ i : α × β × γ, a.defers = dfr ∧ a.tmps.size = n ∧ Sat (Env.of (H i.1 i.2.1 i.2.2 ++ ls)) a w ∧ J i.1 i.2.1 i.2.2 w
theorem cw_cut3 {α β γ : Type} {c1 c2 : Code} (ls : List (Nat × PV)) (H : α → β → γ → List (Nat × PV)) (J : α → β → γ → World → Prop) (hl : Keeps E ls) (h : CW dfr P n c1 (Exit.then (Cut3 dfr n H J ls) Q) E w)
    (h2 : ∀ i j k w, J i j k w → CW dfr P n c2 Q (Env.of (H i j k ++ ls)) w) : CW dfr P n (.seq c1 c2) Q E w :=
  cw_cut (ι := α × β × γ) ls (fun i => H i.1 i.2.1 i.2.2) (fun i => J i.1 i.2.1 i.2.2) hl h fun i w hj => h2 _ _ _ w hj
theorem ends_cut3 {α β γ : Type} {H : α → β → γ → List (Nat × PV)} {J : α → β → γ → World → Prop} {ls : List (Nat × PV)} (i : α) (j : β) (k : γ) (hk : Keeps E (H i j k ++ ls)) (hj : J i j k w) : Ends dfr n (Exit.then (Cut3 dfr n H J ls) Q) .normal E w :=
  fun a ha hn hs => ⟨(i, j, k), ha, hn, hs.keep hk, hj⟩
end
end Go.Proofs.Ytnpgeohkmdcbkaa.Aq
namespace Go.Proofs.Ytnpgeohkmdcbkaa.Aq
open Go Go.RowKit
variable {dfr : List Deferred}
/-- A fact that is only read, once more. -/
theorem St.dup {B : Nat} {we w : World} {L : List Asn} {a : Asn} (h : St B we w L) (hm : a ∈ L) (hf : a.mt = false) : St B we w (a :: L) := by
  refine ⟨h.below, h.base, fun x hx => ?_, fun x hx hmx => ?_, List.pairwise_cons.2 ⟨fun x hx hor b hb hxb => ?_, h.apart⟩⟩
  · rcases List.mem_cons.1 hx with rfl | hx
    · exact h.ok _ hm
    · exact h.ok x hx
  · rcases List.mem_cons.1 hx with rfl | hx
    · rw [hf] at hmx; cases hmx
    · exact h.ge x hx hmx
  · rcases hor with ho | ho
    · rw [hf] at ho; cases ho
    · have hp := List.pairwise_iff_getElem.1 h.apart
      obtain ⟨i1, hi1, e1'⟩ := List.mem_iff_getElem.1 hx
      obtain ⟨i2, hi2, e2'⟩ := List.mem_iff_getElem.1 hm
      rcases Nat.lt_trichotomy i1 i2 with hlt | heq | hgt
      · have h3 := hp i1 i2 hi1 hi2 hlt
        rw [e1', e2'] at h3
        exact h3 (.inl ho) b hxb hb
      · subst heq; rw [e1'] at e2'; subst e2'; rw [hf] at ho; cases ho
      · have h3 := hp i2 i1 hi2 hi1 hgt
        rw [e1', e2'] at h3
        exact h3 (.inr ho) b hb hxb
end Go.Proofs.Ytnpgeohkmdcbkaa.Aq
namespace Go.Proofs.Ytnpgeohkmdcbkaa.Aq
open Go Go.RowKit
variable {dfr : List Deferred}
/-- The first so many, told by their own length. -/
theorem St.take' {B : Nat} {we w : World} {L : List Asn} {α : Type} {enc : α → List Value} {sz : Nat} {A : Option Addr} {c : Nat} {xs : List α} (h : St B we w L) (hm : sl enc sz A xs.length c xs ∈ L) (j : Nat) (hj : j ≤ xs.length) : St B we w (sl enc sz A (xs.take j).length c (xs.take j) :: L) := by
  have := h.take hm (xs.take j).length (by rw [List.length_take]; omega)
  rwa [show xs.take (xs.take j).length = xs.take j by rw [List.length_take, Nat.min_eq_left hj]] at this
theorem half_eq (m : Nat) (h : m ≤ 4611686018427387903) : IntKind.i64.wrap ((m : Int).tdiv 2) = ((m / 2 : Nat) : Int) := by
  rw [show ((m : Int)).tdiv 2 = ((m / 2 : Nat) : Int) from (Int.ofNat_tdiv m 2).symm, wrap_in ⟨by omega, by omega⟩]
end Go.Proofs.Ytnpgeohkmdcbkaa.Aq

namespace Go.Proofs.Ytnpgeohkmdcbkaa.Aq
open Go Go.RowKit Go.Maps Go.ChangeShapes
variable {dfr : List Deferred}

theorem wf64 {x : Int} (h : -9223372036854775808 ≤ x ∧ x ≤ 9223372036854775807) : (Lit.int .i64 x).wf = true := by
  simp only [Lit.wf, IntKind.wrap, IntKind.bits, IntKind.signed, decide_eq_true_eq, beq_iff_eq]
  simp
  exact h

/-- A map from int to int. -/
def mp (b n : Nat) (f : Int → Int) : Asn where
  p := fun w => ∃ D : DataW Unit, w.ownsMap Try.prog 3 (plainElem Try.prog 3) b n D ∧ ∀ k, (Lit.int .i64 k).wf = true → D.atKey (.int .i64 k) (.lit (.int .i64 0)) = .lit (.int .i64 (f k))
  fp := fun k => k = b
  mt := true
  st := fun h ⟨D, ⟨es, clock, hb, r⟩, hf⟩ => ⟨D, ⟨es, clock, by rw [h b rfl]; exact hb, r⟩, hf⟩
  lt := fun ⟨D, ho, _⟩ hb => by subst hb; exact ho.lt

theorem mp_new (w : World) : (mp w.heap.size 0 fun _ => 0).p (w.alloc (.map #[] 0)) := by
  refine ⟨.map [], World.ownsMap_made w Try.prog 3 (plainElem Try.prog 3), ?_⟩
  intro k _
  rfl
class HasMp (L : List Asn) (b : Nat) (n : outParam Nat) (f : outParam (Int → Int)) : Prop where
  mem : mp b n f ∈ L
instance {L : List Asn} {a : Asn} {b n : Nat} {f : Int → Int} [h : HasMp L b n f] : HasMp (a :: L) b n f := ⟨List.mem_cons_of_mem _ h.mem⟩
instance {L : List Asn} {b n : Nat} {f : Int → Int} : HasMp (mp b n f :: L) b n f := ⟨List.mem_cons_self⟩

section
variable {n : Nat} {ops : Array Oper} {Q : Exit → Act → World → Prop} {l : List Oper} {E : Env} {o : Oper} {g : Option (Nat × Bool)} {w w0 : World} {x y z : Operand} {B : Nat} {we : World} {L L' : List Asn}

theorem lw_mkmap {t : TypeId} (hd : dstOk n o = true) (hg : o.guard = none) (ho : o.op = .makeMap t none) (hS : St B we w L)
    (hk : ∀ b w', w.heap.size ≤ b → Gr w w' → St B we w' (mp b 0 (fun _ => 0) :: L) → LW dfr Try.prog n ops Q l (E.updo o.dst (.eq (.map (some b)))) w') : LW dfr Try.prog n ops Q (o :: l) E w :=
  lw_g hd hg fun a hn hs => by
    have hr : (execOp a.eval o).run Try.prog w = .ok (.value (.map (some w.heap.size))) (w.alloc (.map #[] 0)) := by
      simp only [execOp, ho, Option.map_none, Sem.run_bind, run_makeMap, Result.andThen_ok, Sem.run_pure]
    unfold OpR
    rw [hr]
    exact ⟨gr_alloc _ _, hk w.heap.size _ (Nat.le_refl _) (gr_alloc _ _) (hS.new (gr_alloc _ _) (mp w.heap.size 0 fun _ => 0) (mp_new w) fun b hb => by rw [show b = w.heap.size from hb]; exact Nat.le_refl _)⟩

theorem ok_lookup {t : TypeId} {b m : Nat} {f : Int → Int} {k : Int} (ho : o.op = .lookup t x y false) (hg : GuardIs ops o g) (hu : Try.prog.underlying t = some (.map 3 3)) (hx : E.at g x = some (.map (some b))) (hy : E.at g y = some (.int .i64 k)) (hS : St B we w0 L) [hb : HasMp L b m f]
    (hk : E.gc g → -9223372036854775808 ≤ k ∧ k ≤ 9223372036854775807) : OpV Try.prog n ops (Gr w0) E o (PV.of g (.int .i64 (f k))) :=
  ok_val2 hg hx hy (by rw [ho]; simp [Op.operands]) (by rw [ho]; simp [Op.operands]) fun ρ w h1 h2 hw hc => by
    obtain ⟨D, hown, hf⟩ := (hS.grow hw).ok _ hb.mem
    have hwf := wf64 (hk hc)
    obtain ⟨c, hrun, hat, _⟩ := hown.lookup_int (int_keyed Try.underlying3) hu Try.underlying3 (Try.zeroValue3 w) (keyOf_int_mk Try.underlying3 hwf)
    rw [hf k hwf] at hat
    have hcf : f k = c := (Lit.int.inj (DataW.lit.inj hat)).2
    rw [hcf]
    simp only [execOp, ho, h1, h2, Sem.run_bind, hrun, Result.andThen_ok, Sem.run_pure]

theorem lw_mapup {t : TypeId} {b m : Nat} {f : Int → Int} {k v : Int} (hd : dstOk n o = true) (hg : o.guard = none) (ho : o.op = .mapUpdate t x y z) (hu : Try.prog.underlying t = some (.map 3 3)) (hx : E.at none x = some (.map (some b))) (hy : E.at none y = some (.int .i64 k)) (hz : E.at none z = some (.int .i64 v))
    (hS : St B we w L) [hb : HasMp L b m f] (hk : -9223372036854775808 ≤ k ∧ k ≤ 9223372036854775807) (hv : -9223372036854775808 ≤ v ∧ v ≤ 9223372036854775807) (hm : m < 9223372036854775807)
    [hr : Rep (mp b m f) (mp b (m + 1) (fun x => if x = k then v else f x)) L L'] (hn : ∀ w', St B we w' L' → LW dfr Try.prog n ops Q l (E.exact.updo o.dst (.eq undef)) w') : LW dfr Try.prog n ops Q (o :: l) E w :=
  lw_w hd hg fun a _ hs => by
    have e1 := hs.ev hx
    have e2 := hs.ev hy
    have e3 := hs.ev hz
    obtain ⟨D, hown, hf⟩ := hS.ok _ hb.mem
    have hwf := wf64 hk
    obtain ⟨w', hrun, hown', hg'⟩ := hown.update (int_keyed Try.underlying3) hu (by unfold maxLen; omega) (keyOf_int_mk Try.underlying3 hwf) (plainElem_int Try.underlying3 (wf64 hv))
    have hrun' : (execOp a.eval o).run Try.prog w = .ok .skip w' := by
      simp only [execOp, ho, e1, e2, e3, Sem.run_bind, hrun, Result.andThen_ok, Sem.run_pure]
    unfold OpR
    rw [hrun']
    refine hn _ (hS.write hr.r rfl (fun j hj hne => hg'.block j hj fun e => hne (by injection e with e)) hg'.os hg'.tape hg'.output hg'.size ⟨_, hown', fun j hj => ?_⟩ fun j hj => .inl hj)
    by_cases hjk : j = k
    · subst hjk
      have e : (fun x => if x = j then v else f x) j = v := if_pos rfl
      rw [e]
      exact atKey_put_same hown.isMap (by simp [WideAt.IsKeyLit]) _ _
    · have e : (fun x => if x = k then v else f x) j = f j := if_neg hjk
      rw [e, atKey_put_other (fun e => hjk (by injection e)), hf j hj]
end
end Go.Proofs.Ytnpgeohkmdcbkaa.Aq

namespace Go.Proofs.Ytnpgeohkmdcbkaa.Aq
open Go Go.RowKit
variable {dfr : List Deferred}

section
variable {P : Program} {n : Nat} {ops : Array Oper} {Q : Exit → Act → World → Prop} {l : List Oper} {E : Env} {o : Oper} {w : World} {x y : Operand} {B : Nat} {we : World} {L : List Asn}

theorem lw_append0 {α : Type} {enc : α → List Value} {sz : Nat} {d : α} [hE : Enc enc sz d] {A A2 : Option Addr} {e : TypeId} {m1 m2 c c2 bytes : Nat} {xs ys : List α} {t : TypeId} {z : Value} (hd : dstOk n o = true) (hg : o.guard = none)
    (ho : o.op = .call { callee := .builtin .append, args := #[x, y], argTypes := #[t, t] }) (hu : P.underlying t = some (.slice e)) (hinfo : (P.info? e).map (fun i => (i.zero, i.size, i.bytes)) = some (some z, sz, bytes)) (hz : z.cells.size = sz)
    (hx : E.at none x = some (.slice A m1 c)) (hy : E.at none y = some (.slice A2 m2 c2)) (hS : St B we w L) [hb : HasOwn L A enc sz e m1 c xs] [hb2 : HasSl L A2 enc sz m2 c2 ys] (hl : (m1 + m2) * bytes ≤ 140737488355328) (hl2 : m1 + m2 ≤ 140737488355328)
    (hn : ∀ A' c' w', (∀ L', Repl (own enc sz e A m1 c xs) (own enc sz e A' (xs ++ ys).length c' (xs ++ ys)) L L' → St B we w' L') → LW dfr P n ops Q l (E.exact.updo o.dst (.eq (.slice A' (xs ++ ys).length c'))) w') : LW dfr P n ops Q (o :: l) E w := by
  rcases Nat.eq_zero_or_pos m2 with hm | hm
  · subst hm
    have hl3 : ys.length = 0 := hS.len hb2.mem
    obtain rfl : ys = [] := List.eq_nil_of_length_eq_zero hl3
    have hl1 : xs.length = m1 := (hS.ok _ hb.mem).1
    have hle := hS.cap (A := A) (enc := enc) (sz := sz) (m := m1) (c := c) (xs := xs) (.inr ⟨e, hb.mem⟩)
    refine lw_w hd hg fun a _ hs => ?_
    have e1 := hs.ev hx
    have e2 := hs.ev hy
    obtain ⟨i0, hi, hzz⟩ := Option.map_eq_some_iff.1 hinfo
    simp only [Prod.mk.injEq] at hzz
    obtain ⟨hz0, hz1, hz2⟩ := hzz
    have hsrc : Src P i0.size t (.slice A2 0 c2) 0 [] w := by
      cases A2 with
      | none => exact Src.ofNil w hu c2
      | some ad => exact Src.ofSlice w hu ad 0 c2 [] (by simp) (fun j u h => by simp at h) (fun u h => by cases h)
    have hr := run_append_nothing w t t o.type e i0 hu hi A m1 c hle _ hsrc
    have hrun : (execOp a.eval o).run P w = .ok (.value (.slice A m1 c)) w := by
      unfold execOp
      simp only [ho, resolve, invoke, builtin, Sem.run_bind, Sem.run_pure, Result.andThen_ok, List.map_toArray, List.map_cons, List.map_nil, e1, e2, hr]
    unfold OpR
    rw [hrun]
    have := hn A c w fun L' hL' => by
      have e4 : (own enc sz e A (xs ++ []).length c (xs ++ [])) = own enc sz e A m1 c xs := by rw [List.append_nil, hl1]
      rw [e4] at hL'
      exact hS.write hL' (by rfl) (fun b _ _ => rfl) rfl rfl rfl (Nat.le_refl _) (hS.ok _ hb.mem) fun b hb => .inl hb
    rw [List.append_nil, hl1] at this
    exact this
  · exact lw_append hd hg ho hu hinfo hz hx hy hS hm hl hl2 hn
end
end Go.Proofs.Ytnpgeohkmdcbkaa.Aq
namespace Go.Proofs.Ytnpgeohkmdcbkaa.Aq
open Go Go.RowKit
variable {dfr : List Deferred}
section
variable {P : Program} {n : Nat} {ops : Array Oper} {S : World → Prop} {E : Env} {o : Oper}
/-- A choice that is guarded, by what is guarded alike. -/
theorem ok_pickg {s s0 : Nat} {b0 v : Bool} {a b : Operand} {va vb : Value} (ho : o.op = .pick (.tmp s) a b) (hg : GuardIs ops o (some (s0, b0))) (hs : E s = some (.gd s0 b0 (.bool v))) (ha : E.at (some (s, true)) a = some va) (hb : E.at (some (s, false)) b = some vb) :
    OpV P n ops S E o (.gd s0 b0 (if v = true then va else vb)) where
  shape := fun s' want c' he => by
    cases hg with
    | s h1 h2 => cases he; exact ⟨_, _, h1, h2⟩
  run := fun act w hn hsat _ hw => by
    have h0 := (wanted_guard hg).1 hw
    have hsl : s ∈ o.looksAt ops := look_tmp (by rw [ho]; simp [Op.operands])
    have hv : tm act s = .bool v := (hsat s hsl _ hs).1 h0
    have key : ∀ (z : Operand) (bz : Bool) (vz : Value), z ∈ o.op.operands → E.at (some (s, bz)) z = some vz → v = bz → act.eval z = vz := by
      intro z bz vz hz hez he
      subst he
      exact agree_of (g := some (s, v)) hsat (fun s' b' h => by cases h; exact hv) z hz vz hez
    refine ⟨if v = true then va else vb, ?_, ⟨fun _ => rfl, fun hne => absurd h0 hne⟩⟩
    have e1 : act.eval (.tmp s) = .bool v := hv
    cases v with
    | true =>
      have := key a true va (by rw [ho]; simp [Op.operands]) ha rfl
      simp only [execOp, ho, e1, this, asBool]
      simp [go_sem]
    | false =>
      have := key b false vb (by rw [ho]; simp [Op.operands]) hb rfl
      simp only [execOp, ho, e1, this, asBool]
      simp [go_sem]
  skip := fun act w hn hsat _ hw => by
    refine ⟨fun ht => ?_, fun _ => rfl⟩
    have := (wanted_guard hg).2 ht
    rw [hw] at this
    cases this
theorem ok_andg {s s0 : Nat} {b0 v u : Bool} {a : Operand} (ho : o.op = .pick (.tmp s) a (.const (.bool false))) (hg : GuardIs ops o (some (s0, b0))) (hs : E s = some (.gd s0 b0 (.bool v))) (ha : E.at (some (s, true)) a = some (.bool u)) : OpV P n ops S E o (.gd s0 b0 (.bool (v && u))) := by
  have h := ok_pickg (P := P) (n := n) (S := S) ho hg hs ha (b := .const (.bool false)) (vb := .bool false) rfl
  have e : (if v = true then Value.bool u else Value.bool false) = .bool (v && u) := by cases v <;> rfl
  rw [e] at h
  exact h
theorem ok_org {s s0 : Nat} {b0 v u : Bool} {a : Operand} (ho : o.op = .pick (.tmp s) (.const (.bool true)) a) (hg : GuardIs ops o (some (s0, b0))) (hs : E s = some (.gd s0 b0 (.bool v))) (ha : E.at (some (s, false)) a = some (.bool u)) : OpV P n ops S E o (.gd s0 b0 (.bool (v || u))) := by
  have h := ok_pickg (P := P) (n := n) (S := S) ho hg hs (a := .const (.bool true)) (va := .bool true) rfl ha
  have e : (if v = true then Value.bool true else Value.bool u) = .bool (v || u) := by cases v <;> rfl
  rw [e] at h
  exact h
end
end Go.Proofs.Ytnpgeohkmdcbkaa.Aq
namespace Go.Proofs.Ytnpgeohkmdcbkaa.Aq
open Go Go.RowKit
variable {dfr : List Deferred}
/-- A literal slice of nothing. -/
theorem lw_ls0 {P : Program} {n : Nat} {ops : Array Oper} {Q : Exit → Act → World → Prop} {l : List Oper} {E : Env} {o : Oper} {w : World} {B : Nat} {we : World} {L : List Asn} {α : Type} {enc : α → List Value} {sz : Nat} {d : α} [hE : Enc enc sz d] {t e : TypeId} (hd : dstOk n o = true) (hg : o.guard = none)
    (ho : o.op = .buildSlice t 0 #[]) (hu : P.underlying t = some (.slice e)) (hsz : ∀ w, (sizeOf e).run P w = .ok sz w) (hS : St B we w L)
    (hn : ∀ A c w', Gr w w' → St B we w' (own enc sz e A 0 c [] :: L) → LW dfr P n ops Q l (E.updo o.dst (.eq (.slice A 0 c))) w') : LW dfr P n ops Q (o :: l) E w :=
  lw_g hd hg fun a _ hs => by
    have hrun : (execOp a.eval o).run P w = .ok (.value (.slice (some ⟨w.heap.size, 0, none⟩) 0 0)) (w.alloc (.cells #[] e)) := by
      simp only [execOp, ho, Instr.buildSlice, Sem.run_bind, run_underlying hu, Result.andThen_ok, hsz]
      rw [if_neg (by omega)]
      simp only [Nat.zero_mul, if_true, Sem.run_bind, Sem.run_pure, Result.andThen_ok, pure_bind]
      have e0 : (Array.range 0 : Array Nat) = #[] := rfl
      rw [e0]
      simp only [List.map_toArray, List.map_nil, Instr.fill]
      rfl
    unfold OpR
    rw [hrun]
    refine ⟨gr_alloc _ _, hn _ _ _ (gr_alloc _ _) (hS.new (gr_alloc _ _) _ ?_ fun b ⟨ad, e1, e2⟩ => by injection e1 with e1; subst e1; subst e2; exact Nat.le_refl _)⟩
    have := World.ownsRow_lit (base := 0) (e := e) (size := sz) w #[] 0 (Nat.zero_le _) (Nat.zero_le _) (by simp)
    exact ⟨rfl, this⟩
end Go.Proofs.Ytnpgeohkmdcbkaa.Aq

namespace Go.Proofs.Ytnpgeohkmdcbkaa.Aq
open Go Go.RowKit
variable {dfr : List Deferred}

section
variable {P : Program} {n : Nat} {ops : Array Oper} {Q : Exit → Act → World → Prop} {l : List Oper} {E : Env} {o : Oper} {w w0 : World} {x y : Operand} {g : Option (Nat × Bool)}
variable {B : Nat} {we : World} {L L' : List Asn}

theorem add0 (A : Option Addr) : A = A.map fun a => a.add 0 := by cases A <;> rfl

/-- x[k:], k below its length. -/
theorem ok_slfrom {α : Type} {enc : α → List Value} {sz : Nat} {d : α} [hE : Enc enc sz d] {A : Option Addr} {m c : Nat} {xs : List α} {t e : TypeId} {kd : IntKind} {i : Int} (k : Nat) (ho : o.op = .slice t x (some y) none none) (hg : GuardIs ops o g) (hu : P.underlying t = some (.slice e)) (hs : ∀ w, (sizeOf e).run P w = .ok sz w)
    (hx : E.at g x = some (.slice A m c)) (hy : E.at g y = some (.int kd i)) (hS : St B we w0 L) [hb : HasSl L A enc sz m c xs] (hi : i = k ∧ k < m) : OpV P n ops (Gr w0) E o (PV.of g (.slice (A.map fun a => a.add (k * sz)) (m - k) (c - k))) :=
  ok_val2 hg hx hy (by rw [ho]; simp [Op.operands]) (by rw [ho]; simp [Op.operands]) fun ρ w h1 h2 _ _ => by
    obtain ⟨rfl, hk⟩ := hi
    have hc : m ≤ c := hS.cap hb.mem
    simp only [execOp, ho, h1, Option.map_none, Option.map_some, h2, Instr.sliceAt, Sem.run_bind, run_underlying hu, Result.andThen_ok, Instr.slice]
    simp only [Instr.sliceBounds, Instr.sliceBound, asIntOf, Sem.run_bind, Sem.run_pure, Result.andThen_ok, hs]
    have h0 : (0 : Int) ≤ (k : Int) ∧ (k : Int) ≤ (m : Int) ∧ (m : Int) ≤ (c : Int) := ⟨by omega, by omega, by omega⟩
    have h3 : (0 : Int) ≤ (k : Int) ∧ (k : Int) ≤ (m : Int) := ⟨by omega, by omega⟩
    have h4 : ¬ c - k = 0 := by omega
    have h5 : ¬ c = k := by omega
    simp [if_true, h0, h3, and_self, Sem.run_pure, Result.andThen_ok, Int.toNat_natCast, h4, h5, if_false]

/-- The same, where the room alone is known. -/
theorem ok_slfrom' {S : World → Prop} {A : Option Addr} {m c sz : Nat} {t e : TypeId} {kd : IntKind} {i : Int} (k : Nat) (ho : o.op = .slice t x (some y) none none) (hg : GuardIs ops o g) (hu : P.underlying t = some (.slice e)) (hs : ∀ w, (sizeOf e).run P w = .ok sz w)
    (hx : E.at g x = some (.slice A m c)) (hy : E.at g y = some (.int kd i)) (hc : m ≤ c) (hi : i = k ∧ k < m) : OpV P n ops S E o (PV.of g (.slice (A.map fun a => a.add (k * sz)) (m - k) (c - k))) :=
  ok_val2 hg hx hy (by rw [ho]; simp [Op.operands]) (by rw [ho]; simp [Op.operands]) fun ρ w h1 h2 _ _ => by
    obtain ⟨rfl, hk⟩ := hi
    simp only [execOp, ho, h1, Option.map_none, Option.map_some, h2, Instr.sliceAt, Sem.run_bind, run_underlying hu, Result.andThen_ok, Instr.slice]
    simp only [Instr.sliceBounds, Instr.sliceBound, asIntOf, Sem.run_bind, Sem.run_pure, Result.andThen_ok, hs]
    have h0 : (0 : Int) ≤ (k : Int) ∧ (k : Int) ≤ (m : Int) ∧ (m : Int) ≤ (c : Int) := ⟨by omega, by omega, by omega⟩
    have h3 : (0 : Int) ≤ (k : Int) ∧ (k : Int) ≤ (m : Int) := ⟨by omega, by omega⟩
    have h4 : ¬ c - k = 0 := by omega
    have h5 : ¬ c = k := by omega
    simp [if_true, h0, h3, and_self, Sem.run_pure, Result.andThen_ok, Int.toNat_natCast, h4, h5, if_false]
theorem ok_slto' {S : World → Prop} {A : Option Addr} {m c sz : Nat} {t e : TypeId} {kd : IntKind} {i : Int} (k : Nat) (ho : o.op = .slice t x none (some y) none) (hg : GuardIs ops o g) (hu : P.underlying t = some (.slice e)) (hs : ∀ w, (sizeOf e).run P w = .ok sz w)
    (hx : E.at g x = some (.slice A m c)) (hy : E.at g y = some (.int kd i)) (hc : m ≤ c) (hi : i = k ∧ k ≤ m) : OpV P n ops S E o (PV.of g (.slice A k c)) :=
  ok_val2 hg hx hy (by rw [ho]; simp [Op.operands]) (by rw [ho]; simp [Op.operands]) fun ρ w h1 h2 _ _ => by
    obtain ⟨rfl, hk⟩ := hi
    have hkc : (k : Int) ≤ (c : Int) := by omega
    simp only [execOp, ho, h1, Option.map_none, Option.map_some, h2, Instr.sliceAt, Sem.run_bind, run_underlying hu, Result.andThen_ok, Instr.slice]
    simp only [Instr.sliceBounds, Instr.sliceBound, asIntOf, Sem.run_bind, Sem.run_pure, Result.andThen_ok, hs]
    have h0 : (0 : Int) ≤ (k : Int) ∧ (k : Int) ≤ (c : Int) := ⟨by omega, hkc⟩
    simp only [if_true, h0, and_self, Sem.run_pure, Result.andThen_ok, Int.toNat_natCast, Nat.sub_zero, Nat.zero_mul]
    have hA : (if c = 0 then A else A.map fun a => a.add 0) = A := by
      split
      · rfl
      · cases A <;> rfl
    rw [hA]

theorem wrap_u {i : Int} (h : 0 ≤ i ∧ i ≤ 18446744073709551615) : IntKind.u64.wrap i = i := by
  unfold IntKind.wrap
  simp only [IntKind.bits, IntKind.signed]
  simp
  omega
/-- The lower half of a small number is it. -/
theorem ok_lowu {S : World → Prop} {t t' : TypeId} {i : Int} (ho : o.op = .binOp .and t x y t') (hg : GuardIs ops o g) (hx : E.at g x = some (.int .u64 i)) (hy : E.at g y = some (.int .u64 4294967295)) (hr : 0 ≤ i ∧ i ≤ 4294967295) : OpV P n ops S E o (PV.of g (.int .u64 i)) :=
  ok_val2 hg hx hy (by rw [ho]; simp [Op.operands]) (by rw [ho]; simp [Op.operands]) fun ρ w h1 h2 _ _ => by
    obtain ⟨m, rfl⟩ : ∃ m : Nat, i = m := ⟨i.toNat, by omega⟩
    have e : (BitVec.ofInt 64 (m : Int) &&& BitVec.ofInt 64 4294967295).toNat = m := by
      rw [BitVec.toNat_and, BitVec.ofInt_natCast]
      have h3 : (BitVec.ofInt 64 4294967295).toNat = 2 ^ 32 - 1 := by decide
      rw [h3, BitVec.toNat_ofNat, Nat.and_two_pow_sub_one_eq_mod]
      omega
    have e2 : Op.intBits .and .u64 (m : Int) 4294967295 = pure (.int .u64 (m : Int)) := by
      unfold Op.intBits
      show pure (Value.int .u64 (IntKind.u64.wrap (((BitVec.ofInt 64 (m : Int) &&& BitVec.ofInt 64 4294967295).toNat : Nat) : Int))) = _
      rw [e, wrap_u (by omega)]
    simp only [execOp, ho, h1, h2, eqGuard, binOp, e2]
    rfl
/-- The upper half of a small number. -/
theorem ok_highu {S : World → Prop} {t t' : TypeId} {i : Int} (ho : o.op = .binOp .shr t x y t') (hg : GuardIs ops o g) (hx : E.at g x = some (.int .u64 i)) (hy : E.at g y = some (.int .u64 32)) (hr : 0 ≤ i ∧ i ≤ 4294967295) : OpV P n ops S E o (PV.of g (.int .u64 0)) :=
  ok_val2 hg hx hy (by rw [ho]; simp [Op.operands]) (by rw [ho]; simp [Op.operands]) fun ρ w h1 h2 _ _ => by
    have e : i.fdiv (2 ^ 32) = 0 := by rw [Int.fdiv_eq_ediv_of_nonneg _ (by decide)]; exact Int.ediv_eq_zero_of_lt hr.1 (by omega)
    have e2 : Op.shift .shr .u64 i .u64 32 = pure (.int .u64 0) := by
      unfold Op.shift
      rw [if_neg (by omega)]
      show pure (Value.int .u64 (i.fdiv (2 ^ 32))) = _
      rw [e]
    simp only [execOp, ho, h1, h2, eqGuard, binOp, e2]
    rfl

theorem take_mid {β : Type} (X Y cs : List β) (k : Nat) (h : k + cs.length ≤ X.length) : (((X ++ Y).take k ++ cs) ++ (X ++ Y).drop (k + cs.length)).take X.length = X.take k ++ cs ++ X.drop (k + cs.length) := by
  rw [List.take_append_of_le_length (by omega : k ≤ X.length), List.drop_append_of_le_length (by omega), ← List.append_assoc, List.take_left']
  simp only [List.length_append, List.length_take, List.length_drop]
  omega

/-- copy, into a slice of the call's own (one cell an element), from place k on. -/
theorem lw_copy {α : Type} {enc : α → List Value} {d : α} [hE : Enc enc 1 d] {A A2 A' : Option Addr} {e : TypeId} {m c m2 c2 md cd s cs2 : Nat} {xs ys : List α} {t : TypeId} (k : Nat) (hd : dstOk n o = true) (hg : o.guard = none)
    (ho : o.op = .call { callee := .builtin .copy, args := #[x, y], argTypes := #[t, t] }) (hu : P.underlying t = some (.slice e)) (hsz : (P.info? e).map (·.size) = some 1)
    (hx : E.at none x = some (.slice A' md cd)) (hA : A' = A.map fun a => a.add k) (hy : E.at none y = some (.slice A2 s cs2)) (hS : St B we w L) [hb : HasOwn L A enc 1 e m c xs] [hb2 : HasSl L A2 enc 1 m2 c2 ys]
    (hk : k + min s md ≤ m) (hs : s ≤ m2) (h0 : 0 < min s md)
    (hn : ∀ w', (∀ L', Repl (own enc 1 e A m c xs) (own enc 1 e A m c (xs.take k ++ ys.take (min s md) ++ xs.drop (k + min s md))) L L' → St B we w' L') → LW dfr P n ops Q l (E.exact.updo o.dst (.eq (.int .i64 ((min s md : Nat) : Int)))) w') : LW dfr P n ops Q (o :: l) E w :=
  lw_w hd hg fun a _ hsat => by
    have e1 := hsat.ev hx
    have e2 := hsat.ev hy
    have hown := hS.ok _ hb.mem
    obtain ⟨g, rfl, h'⟩ := own_nn hown (by omega)
    have hl1 : xs.length = m := hown.1
    have hl2 : ys.length = m2 := hS.len hb2.mem
    have hA2 := hS.nn (A := A2) (enc := enc) (sz := 1) (d := d) (m0 := m2) (c := c2) (xs := ys) (by omega)
    obtain ⟨ad, rfl⟩ := Option.isSome_iff_exists.1 hA2
    rcases h'.2 with ⟨h1, _⟩ | ⟨g', cap, cur, hv, hbase, hheap, hmc, hcm, hcsz, htake⟩
    · cases h1
    · injection hv with hv1 _ hv3
      injection hv1 with hv1
      injection hv1 with hv1
      subst hv1
      subst hv3
      have hfx := flat_len (enc := enc) xs
      have hfy := flat_len (enc := enc) (ys.take (min s md))
      rw [List.length_take] at hfy
      have hcl : ((ys.take (min s md)).flatMap enc).length = min s md := by omega
      have hrun0 := run_copy_row (P := P) w t t o.type e g k md cd ad s cs2 cur e ((ys.take (min s md)).flatMap enc) hu hsz hheap (by rw [hcl])
        (fun j v hj => by
          have hjl := (List.getElem?_eq_some_iff.1 hj).1
          have hjy : j < ys.length := by omega
          obtain ⟨u, hu1⟩ : ∃ u, enc (ys.getD j d) = [u] := by
            have := hE.len (ys.getD j d)
            match h : enc (ys.getD j d), this with
            | [z], _ => exact ⟨z, rfl⟩
          have hyt : (ys.take (min s md))[j]? = some (ys.getD j d) := by rw [List.getElem?_take_of_lt (by omega)]; exact getD_some d hjy
          have hfg := flat_get (enc := enc) (sz := 1) (d := d) (ys.take (min s md)) j _ 0 u hyt (by rw [hu1]; rfl)
          rw [Nat.mul_one, Nat.add_zero, hj] at hfg
          injection hfg with hfg
          obtain ⟨ad', e', hc⟩ := hS.cellAt hb2.mem j _ (getD_some d hjy) 0 u (by rw [hu1]; rfl)
          injection e' with e'
          subst e'
          rw [hfg]
          simpa using hc) (by omega) (fun v hv => by obtain ⟨x1, _, hx1⟩ := List.mem_flatMap.1 hv; exact hE.one x1 v hx1)
      have hrun : (execOp a.eval o).run P w = .ok (.value (.int .i64 ((min s md : Nat) : Int))) (w.setRow g (cur.toList.take k ++ (ys.take (min s md)).flatMap enc ++ cur.toList.drop (k + ((ys.take (min s md)).flatMap enc).length)).toArray) := by
        have e3 : A' = some ⟨g, k, none⟩ := by rw [hA]; simp [add_lit]
        unfold execOp
        simp only [ho, resolve, invoke, builtin, Sem.run_bind, Sem.run_pure, Result.andThen_ok, List.map_toArray, List.map_cons, List.map_nil, e1, e2, e3, hrun0]
        rw [hcl]
        rfl
      unfold OpR
      rw [hrun]
      have hXY : cur.toList = xs.flatMap enc ++ cur.toList.drop (m * 1) := by rw [← htake, List.take_append_drop]
      have hlen' : (xs.take k ++ ys.take (min s md) ++ xs.drop (k + min s md)).length = m := by simp; omega
      have fm1 : ∀ zs : List α, ∀ i, (zs.take i).flatMap enc = (zs.flatMap enc).take i := fun zs i => by
        induction zs generalizing i with
        | nil => simp
        | cons z zs ih =>
          have hz := hE.len z
          cases i with
          | zero => simp
          | succ i => rw [List.take_succ_cons, List.flatMap_cons, List.flatMap_cons, ih, List.take_append, hz, List.take_of_length_le (by omega : (enc z).length ≤ i + 1)]; rfl
      have fm2 : ∀ zs : List α, ∀ i, (zs.drop i).flatMap enc = (zs.flatMap enc).drop i := fun zs i => by
        induction zs generalizing i with
        | nil => simp
        | cons z zs ih =>
          have hz := hE.len z
          cases i with
          | zero => simp
          | succ i => rw [List.drop_succ_cons, List.flatMap_cons, ih, List.drop_append, hz, List.drop_of_length_le (by omega : (enc z).length ≤ i + 1)]; rfl
      refine hn _ fun L' hL' => hS.write hL' rfl (fun j _ hne => setRow_other w g j _ fun e => hne ⟨_, rfl, e.symm⟩) rfl rfl rfl (by simp) ?_ fun j hj => .inl hj
      refine ⟨hlen', by rw [flat_len (enc := enc)]; omega, .inr ⟨g, c, _, rfl, hbase, setRow_heap w g cur _ e _ hheap, hmc, hcm, ?_, ?_⟩⟩
      · have hcz : cur.toList.length = c * 1 := by simpa using hcsz
        simp only [List.size_toArray, List.length_append, List.length_take, List.length_drop, hcl]
        omega
      · rw [hXY]
        have hX : (xs.flatMap enc).length = m * 1 := by omega
        have := take_mid (xs.flatMap enc) (cur.toList.drop (m * 1)) ((ys.take (min s md)).flatMap enc) k (by omega)
        rw [hX] at this
        rw [this, hcl, List.flatMap_append, List.flatMap_append, fm1 xs k, fm2 xs]
end
end Go.Proofs.Ytnpgeohkmdcbkaa.Aq

namespace Go.Proofs.Ytnpgeohkmdcbkaa.Aq
open Go Go.RowKit
variable {dfr : List Deferred}
section
variable {P : Program} {n : Nat} {Q : Exit → Act → World → Prop} {E : Env} {w : World}
theorem cw_label {l : Nat} (h : Ends dfr n Q .normal E w) : CW dfr P n (.label l) Q E w := fun a ha hn hs => wp_label (h a ha hn hs)
theorem cw_scope {c : Code} (h : CW dfr P n c (Exit.noGoto Q) E w) : CW dfr P n (.scope c) Q E w := fun a ha hn hs => wp_scope_straight (h a ha hn hs)
theorem sc_normal (h : Ends dfr n Q .normal E w) : Ends dfr n (Exit.noGoto Q) .normal E w := h
theorem sc_ret (h : Ends dfr n Q .ret E w) : Ends dfr n (Exit.noGoto Q) .ret E w := h
theorem sc_exit {id : Nat} (h : Ends dfr n Q (.exit id) E w) : Ends dfr n (Exit.noGoto Q) (.exit id) E w := h
def Back4 (dfr : List Deferred) {α β γ δ : Type} (n : Nat) (H : α → β → γ → δ → List (Nat × PV)) (J : α → β → γ → δ → World → Prop) (μ : α → β → γ → δ → Nat) (ls : List (Nat × PV)) (m : Nat) : Act → World → Prop :=
  Back dfr n (fun p : α × β × γ × δ => H p.1 p.2.1 p.2.2.1 p.2.2.2 ++ ls) (fun p => J p.1 p.2.1 p.2.2.1 p.2.2.2) (fun p => μ p.1 p.2.1 p.2.2.1 p.2.2.2) m
theorem cw_loop4 {α β γ δ : Type} {c : Code} (ls : List (Nat × PV)) (H : α → β → γ → δ → List (Nat × PV)) (J : α → β → γ → δ → World → Prop) (μ : α → β → γ → δ → Nat) (i0 : α) (j0 : β) (k0 : γ) (l0 : δ) (hl : Keeps E ls) (hk : Keeps E (H i0 j0 k0 l0 ++ ls)) (hj : J i0 j0 k0 l0 w)
    (round : ∀ i j k l w, J i j k l w → CW dfr P n c (Exit.then (Back4 dfr n H J μ ls (μ i j k l)) Q) (Env.of (H i j k l ++ ls)) w) : CW dfr P n (.loop c) Q E w :=
  cw_loop ls (fun p : α × β × γ × δ => H p.1 p.2.1 p.2.2.1 p.2.2.2) (fun p => J p.1 p.2.1 p.2.2.1 p.2.2.2) (fun p => μ p.1 p.2.1 p.2.2.1 p.2.2.2) (i0, j0, k0, l0) hl hk hj fun p w h => round p.1 p.2.1 p.2.2.1 p.2.2.2 w h
theorem ends_back4 {α β γ δ : Type} {H : α → β → γ → δ → List (Nat × PV)} {J : α → β → γ → δ → World → Prop} {μ : α → β → γ → δ → Nat} {ls : List (Nat × PV)} {m : Nat} (i : α) (j : β) (k : γ) (l : δ) (hk : Keeps E (H i j k l ++ ls)) (hj : J i j k l w) (hm : μ i j k l < m) :
    Ends dfr n (Exit.then (Back4 dfr n H J μ ls m) Q) .normal E w := ends_back (H := fun p : α × β × γ × δ => H p.1 p.2.1 p.2.2.1 p.2.2.2 ++ ls) (J := fun p => J p.1 p.2.1 p.2.2.1 p.2.2.2) (μ := fun p => μ p.1 p.2.1 p.2.2.1 p.2.2.2) (i, j, k, l) hk hj hm
def Cut4 (dfr : List Deferred) {α β γ δ : Type} (n : Nat) (H : α → β → γ → δ → List (Nat × PV)) (J : α → β → γ → δ → World → Prop) (ls : List (Nat × PV)) : Act → World → Prop := fun a w => ∃ i : α × β × γ × δ, a.defers = dfr ∧ a.tmps.size = n ∧ Sat (Env.of (H i.1 i.2.1 i.2.2.1 i.2.2.2 ++ ls)) a w ∧ J i.1 i.2.1 i.2.2.1 i.2.2.2 w
end
end Go.Proofs.Ytnpgeohkmdcbkaa.Aq

namespace Go.Proofs.Ytnpgeohkmdcbkaa.Aq
open Go Go.RowKit

abbrev Hd := Option Addr × Nat × Nat
/-- The k-th of many slices of the call's own. -/
def ownK (hs : List Hd) (xss : List (List Int)) (k : Nat) : Asn := own (eInt .i64) 1 3 (hs.getD k (none, 0, 0)).1 (hs.getD k (none, 0, 0)).2.1 (hs.getD k (none, 0, 0)).2.2 (xss.getD k [])
def slK (hs : List Hd) (xss : List (List Int)) (k : Nat) : Asn := sl (eInt .i64) 1 (hs.getD k (none, 0, 0)).1 (hs.getD k (none, 0, 0)).2.1 (hs.getD k (none, 0, 0)).2.2 (xss.getD k [])

/-- Many slices that can be read. -/
def sls (hs : List Hd) (xss : List (List Int)) : Asn where
  p := fun w => hs.length = xss.length ∧ ∀ k, k < hs.length → (slK hs xss k).p w
  fp := fun b => ∃ k, k < hs.length ∧ (slK hs xss k).fp b
  mt := false
  st := fun h hp => ⟨hp.1, fun k hk => (slK hs xss k).st (fun b hb => h b ⟨k, hk, hb⟩) (hp.2 k hk)⟩
  lt := fun hp ⟨k, hk, hb⟩ => (slK hs xss k).lt (hp.2 k hk) hb

/-- Many slices of the call's own (but for one), each in its own block. -/
def ownsE (ex : Option Nat) (hs : List Hd) (xss : List (List Int)) : Asn where
  p := fun w => hs.length = xss.length ∧ (∀ k, k < hs.length → some k ≠ ex → (ownK hs xss k).p w) ∧ ∀ i j, i < hs.length → j < hs.length → i ≠ j → some i ≠ ex → some j ≠ ex → ∀ b, (ownK hs xss i).fp b → ¬ (ownK hs xss j).fp b
  fp := fun b => ∃ k, k < hs.length ∧ some k ≠ ex ∧ (ownK hs xss k).fp b
  mt := true
  st := fun h hp => ⟨hp.1, fun k hk hne => (ownK hs xss k).st (fun b hb => h b ⟨k, hk, hne, hb⟩) (hp.2.1 k hk hne), hp.2.2⟩
  lt := fun hp ⟨k, hk, hne, hb⟩ => (ownK hs xss k).lt (hp.2.1 k hk hne) hb

section
variable {B : Nat} {we w : World} {L : List Asn} {hs : List Hd} {xss : List (List Int)}

/-- The head of the list of facts turns into others, on the same memory. -/
theorem St.head {a : Asn} (h : St B we w (a :: L)) (a' : Asn) (hp : a'.p w) (hf : ∀ b, a'.fp b → a.fp b) (hm : a'.mt = true → a.mt = true) (hm2 : a.mt = true ∨ a'.mt = false) : St B we w (a' :: L) := by
  have hap := List.pairwise_cons.1 h.apart
  refine ⟨h.below, h.base, fun x hx => ?_, fun x hx hmx b hb => ?_, List.pairwise_cons.2 ⟨fun x hx hor b hb hxb => ?_, hap.2⟩⟩
  · rcases List.mem_cons.1 hx with rfl | hx
    · exact hp
    · exact h.ok x (List.mem_cons_of_mem _ hx)
  · rcases List.mem_cons.1 hx with rfl | hx
    · exact h.ge a (List.mem_cons_self) (hm hmx) b (hf b hb)
    · exact h.ge x (List.mem_cons_of_mem _ hx) hmx b hb
  · refine hap.1 x hx ?_ b (hf b hb) hxb
    rcases hor with ho | ho
    · exact .inl (hm ho)
    · exact .inr ho

theorem St.ownsNil (h : St B we w L) : St B we w (ownsE none [] [] :: L) := by
  refine ⟨h.below, h.base, fun x hx => ?_, fun x hx hmx b hb => ?_, List.pairwise_cons.2 ⟨fun x hx _ b hb _ => ?_, h.apart⟩⟩
  · rcases List.mem_cons.1 hx with rfl | hx
    · exact ⟨rfl, fun k hk => absurd hk (Nat.not_lt_zero k), fun i j hi => absurd hi (Nat.not_lt_zero i)⟩
    · exact h.ok x hx
  · rcases List.mem_cons.1 hx with rfl | hx
    · obtain ⟨k, hk, _⟩ := hb; exact absurd hk (Nat.not_lt_zero k)
    · exact h.ge x hx hmx b hb
  · obtain ⟨k, hk, _⟩ := hb; exact absurd hk (Nat.not_lt_zero k)

theorem St.ownsSplit {k : Nat} (h : St B we w (ownsE none hs xss :: L)) (hk : k < hs.length) : St B we w (ownK hs xss k :: ownsE (some k) hs xss :: L) := by
  have hap := List.pairwise_cons.1 h.apart
  have hp : (ownsE none hs xss).p w := h.ok _ List.mem_cons_self
  have hge := h.ge _ List.mem_cons_self rfl
  have no : ∀ i : Nat, some i ≠ (none : Option Nat) := fun i => by simp
  have sub : ∀ b, (ownsE (some k) hs xss).fp b → (ownsE none hs xss).fp b := fun b ⟨i, h1, _, h3⟩ => ⟨i, h1, no i, h3⟩
  have sub2 : ∀ b, (ownK hs xss k).fp b → (ownsE none hs xss).fp b := fun b hb => ⟨k, hk, no k, hb⟩
  refine ⟨h.below, h.base, fun x hx => ?_, fun x hx hmx b hb => ?_, List.pairwise_cons.2 ⟨fun x hx hor b hb hxb => ?_, List.pairwise_cons.2 ⟨fun x hx hor b hb hxb => ?_, hap.2⟩⟩⟩
  · rcases List.mem_cons.1 hx with rfl | hx
    · exact hp.2.1 k hk (no k)
    · rcases List.mem_cons.1 hx with rfl | hx
      · exact ⟨hp.1, fun i hi _ => hp.2.1 i hi (no i), fun i j hi hj hne _ _ => hp.2.2 i j hi hj hne (no i) (no j)⟩
      · exact h.ok x (List.mem_cons_of_mem _ hx)
  · rcases List.mem_cons.1 hx with rfl | hx
    · exact hge b (sub2 b hb)
    · rcases List.mem_cons.1 hx with rfl | hx
      · exact hge b (sub b hb)
      · exact h.ge x (List.mem_cons_of_mem _ hx) hmx b hb
  · rcases List.mem_cons.1 hx with rfl | hx
    · obtain ⟨i, hi, hne, hib⟩ := hxb
      exact hp.2.2 k i hk hi (fun e => hne (by rw [e])) (no k) (no i) b hb hib
    · exact hap.1 x hx (.inl rfl) b (sub2 b hb) hxb
  · exact hap.1 x hx (.inl rfl) b (sub b hb) hxb

theorem getD_setL {α : Type} {xs : List α} {k : Nat} {x d : α} (hk : k < xs.length) (i : Nat) : (xs.set k x).getD i d = if i = k then x else xs.getD i d := by
  simp only [List.getD_eq_getElem?_getD, List.getElem?_set]
  by_cases h : k = i
  · subst h; simp [hk]
  · simp [h, Ne.symm h]

theorem St.ownsJoin {k m c : Nat} {A : Option Addr} {xs : List Int} (h : St B we w (own (eInt .i64) 1 3 A m c xs :: ownsE (some k) hs xss :: L)) (hk : k < hs.length) : St B we w (ownsE none (hs.set k (A, m, c)) (xss.set k xs) :: L) := by
  have hap := List.pairwise_cons.1 h.apart
  have hap2 := List.pairwise_cons.1 hap.2
  have hp1 : (own (eInt .i64) 1 3 A m c xs).p w := h.ok _ List.mem_cons_self
  have hp2 : (ownsE (some k) hs xss).p w := h.ok _ (.tail _ (.head _))
  have hlen := hp2.1
  have hd : ∀ b, (own (eInt .i64) 1 3 A m c xs).fp b → ¬ (ownsE (some k) hs xss).fp b := fun b => hap.1 _ List.mem_cons_self (.inl rfl) b
  have at_k : ownK (hs.set k (A, m, c)) (xss.set k xs) k = own (eInt .i64) 1 3 A m c xs := by
    unfold ownK
    rw [getD_setL hk, getD_setL (by omega), if_pos rfl, if_pos rfl]
  have at_i : ∀ i, i ≠ k → ownK (hs.set k (A, m, c)) (xss.set k xs) i = ownK hs xss i := fun i hi => by
    unfold ownK
    rw [getD_setL hk, getD_setL (by omega), if_neg hi, if_neg hi]
  have hfp : ∀ b, (ownsE none (hs.set k (A, m, c)) (xss.set k xs)).fp b → (own (eInt .i64) 1 3 A m c xs).fp b ∨ (ownsE (some k) hs xss).fp b := fun b ⟨i, hi, _, hb⟩ => by
    rw [List.length_set] at hi
    by_cases hik : i = k
    · subst hik; rw [at_k] at hb; exact .inl hb
    · rw [at_i i hik] at hb; exact .inr ⟨i, hi, fun e => hik (by injection e), hb⟩
  refine ⟨h.below, h.base, fun x hx => ?_, fun x hx hmx b hb => ?_, List.pairwise_cons.2 ⟨fun x hx hor b hb hxb => ?_, hap2.2⟩⟩
  · rcases List.mem_cons.1 hx with rfl | hx
    · refine ⟨by rw [List.length_set, List.length_set]; exact hlen, fun i hi _ => ?_, fun i j hi hj hne _ _ b hbi hbj => ?_⟩
      · rw [List.length_set] at hi
        by_cases hik : i = k
        · subst hik; rw [at_k]; exact hp1
        · rw [at_i i hik]; exact hp2.2.1 i hi fun e => hik (by injection e)
      · rw [List.length_set] at hi hj
        by_cases hik : i = k
        · subst hik
          have hjk : j ≠ i := fun e => hne e.symm
          rw [at_k] at hbi
          rw [at_i j hjk] at hbj
          exact hd b hbi ⟨j, hj, fun e => hjk (by injection e), hbj⟩
        · rw [at_i i hik] at hbi
          by_cases hjk : j = k
          · subst hjk
            rw [at_k] at hbj
            exact hd b hbj ⟨i, hi, fun e => hik (by injection e), hbi⟩
          · rw [at_i j hjk] at hbj
            exact hp2.2.2 i j hi hj hne (fun e => hik (by injection e)) (fun e => hjk (by injection e)) b hbi hbj
    · exact h.ok x (List.mem_cons_of_mem _ (List.mem_cons_of_mem _ hx))
  · rcases List.mem_cons.1 hx with rfl | hx
    · rcases hfp b hb with h1 | h1
      · exact h.ge _ List.mem_cons_self rfl b h1
      · exact h.ge _ (.tail _ (.head _)) rfl b h1
    · exact h.ge x (List.mem_cons_of_mem _ (List.mem_cons_of_mem _ hx)) hmx b hb
  · rcases hfp b hb with h1 | h1
    · exact hap.1 x (List.mem_cons_of_mem _ hx) (.inl rfl) b h1 hxb
    · exact hap2.1 x hx (.inl rfl) b h1 hxb

theorem ownK_old {i : Nat} (hi : i < hs.length) (hl : hs.length = xss.length) : ownK (hs ++ [(none, 0, 0)]) (xss ++ [[]]) i = ownK hs xss i := by
  unfold ownK
  simp only [List.getD_eq_getElem?_getD, List.getElem?_append_left hi, List.getElem?_append_left (hl ▸ hi)]
theorem ownK_new (hl : hs.length = xss.length) : ownK (hs ++ [(none, 0, 0)]) (xss ++ [[]]) hs.length = own (eInt .i64) 1 3 none 0 0 [] := by
  unfold ownK
  have h1 : (hs ++ [((none, 0, 0) : Hd)]).getD hs.length (none, 0, 0) = (none, 0, 0) := by simp [List.getD_eq_getElem?_getD]
  have h2 : (xss ++ [[]]).getD hs.length [] = [] := by rw [hl]; simp [List.getD_eq_getElem?_getD]
  rw [h1, h2]
theorem St.ownsAdd (h : St B we w (ownsE none hs xss :: L)) : St B we w (ownsE none (hs ++ [(none, 0, 0)]) (xss ++ [[]]) :: L) := by
  have hp : (ownsE none hs xss).p w := h.ok _ List.mem_cons_self
  have hl := hp.1
  have no : ∀ i : Nat, some i ≠ (none : Option Nat) := fun i => by simp
  have nofp : ∀ b, ¬ (own (eInt .i64) 1 3 none 0 0 []).fp b := fun b ⟨ad, e, _⟩ => by cases e
  have cs : ∀ i, i < (hs ++ [((none, 0, 0) : Hd)]).length → i < hs.length ∨ i = hs.length := fun i hi => by simp at hi; omega
  refine h.head _ ⟨by simp [hl], fun i hi _ => ?_, fun i j hi hj hne _ _ b hb hb' => ?_⟩ (fun b ⟨i, hi, _, hb⟩ => ?_) (fun _ => rfl) (.inl rfl)
  · rcases cs i hi with h1 | rfl
    · rw [ownK_old h1 hl]; exact hp.2.1 i h1 (no i)
    · rw [ownK_new hl]
      exact ⟨rfl, rfl, .inl ⟨rfl, rfl⟩⟩
  · rcases cs i hi with h1 | rfl
    · rcases cs j hj with h2 | rfl
      · rw [ownK_old h1 hl] at hb
        rw [ownK_old h2 hl] at hb'
        exact hp.2.2 i j h1 h2 hne (no i) (no j) b hb hb'
      · rw [ownK_new hl] at hb'; exact nofp b hb'
    · rw [ownK_new hl] at hb; exact nofp b hb
  · rcases cs i hi with h1 | rfl
    · rw [ownK_old h1 hl] at hb; exact ⟨i, h1, no i, hb⟩
    · rw [ownK_new hl] at hb; exact (nofp b hb).elim
theorem St.ownsFreeze (h : St B we w (ownsE none hs xss :: L)) (hb : ∀ k, k < hs.length → (xss.getD k []).length ≤ 140737488351232) : St B we w (sls hs xss :: L) := by
  have hp : (ownsE none hs xss).p w := h.ok _ List.mem_cons_self
  have no : ∀ i : Nat, some i ≠ (none : Option Nat) := fun i => by simp
  refine h.head _ ⟨hp.1, fun i hi => ?_⟩ (fun b ⟨i, hi, ad, e1, e2, _⟩ => ⟨i, hi, no i, ad, e1, e2⟩) (fun hm => by cases hm) (.inr rfl)
  have h1 := hp.2.1 i hi (no i)
  exact own_sl h1 (by rw [← h1.1]; exact hb i hi)

/-- One of many. -/
theorem St.slsAt (h : St B we w L) (hm : sls hs xss ∈ L) {k : Nat} (hk : k < hs.length) : St B we w (slK hs xss k :: L) := by
  have hp : (sls hs xss).p w := h.ok _ hm
  refine ⟨h.below, h.base, fun x hx => ?_, fun x hx hmx b hb => ?_, List.pairwise_cons.2 ⟨fun x hx hor b hb hxb => ?_, h.apart⟩⟩
  · rcases List.mem_cons.1 hx with rfl | hx
    · exact hp.2 k hk
    · exact h.ok x hx
  · rcases List.mem_cons.1 hx with rfl | hx
    · cases hmx
    · exact h.ge x hx hmx b hb
  · rcases hor with ho | ho
    · cases ho
    · -- x is the call's own, the many are read alone: apart, for x is not among them
      have key : ∀ L' : List Asn, sls hs xss ∈ L' → x ∈ L' → L'.Pairwise (fun a a' => (a.mt = true ∨ a'.mt = true) → ∀ b, a.fp b → ¬ a'.fp b) → False := by
        intro L' h1 h2 h3
        induction L' with
        | nil => cases h1
        | cons y L' ih =>
          rw [List.pairwise_cons] at h3
          rcases List.mem_cons.1 h1 with rfl | h1'
          · rcases List.mem_cons.1 h2 with rfl | h2'
            · cases ho
            · exact h3.1 x h2' (.inr ho) b ⟨k, hk, hb⟩ hxb
          · rcases List.mem_cons.1 h2 with rfl | h2'
            · exact h3.1 _ h1' (.inl ho) b hxb ⟨k, hk, hb⟩
            · exact ih h1' h2' h3.2
      exact key L hm hx h.apart
end
end Go.Proofs.Ytnpgeohkmdcbkaa.Aq

namespace Go.Proofs.Ytnpgeohkmdcbkaa.Aq
open Go Go.RowKit
theorem ok_eqnil {P : Program} {n : Nat} {ops : Array Oper} {S : World → Prop} {E : Env} {o : Oper} {g : Option (Nat × Bool)} {x y : Operand} {A : Option Addr} {m cc : Nat} {t t' e : TypeId} (ho : o.op = .binOp .eql t x y t') (hg : GuardIs ops o g) (hu : P.underlying t = some (.slice e)) (hx : E.at g x = some (.slice A m cc)) (hy : E.at g y = some (.slice none 0 0)) :
    OpV P n ops S E o (PV.of g (.bool A.isNone)) :=
  ok_val2 hg hx hy (by rw [ho]; simp [Op.operands]) (by rw [ho]; simp [Op.operands]) fun ρ w h1 h2 _ _ => by
    simp only [execOp, ho, h1, h2, eqGuard, Sem.run_bind]
    simp [Lib.run_eql_slice_nil w t e A m cc 0 0 hu, go_sem]
section
variable {B : Nat} {we w : World} {L : List Asn} {hs : List Hd} {xss : List (List Int)}
/-- One more of many. -/
theorem St.ownsPush {m c : Nat} {A : Option Addr} {xs : List Int} (h : St B we w (own (eInt .i64) 1 3 A m c xs :: ownsE none hs xss :: L)) : St B we w (ownsE none (hs ++ [(A, m, c)]) (xss ++ [xs]) :: L) := by
  have hl : hs.length = xss.length := (h.ok _ (.tail _ (.head _))).1
  have h1 := h.swap.ownsAdd
  have h2 := (h1.ownsSplit (k := hs.length) (by simp)).tail.swap.ownsJoin (by simp)
  have e1 : (hs ++ [((none, 0, 0) : Hd)]).set hs.length (A, m, c) = hs ++ [(A, m, c)] := by simp
  have e2 : (xss ++ [([] : List Int)]).set hs.length xs = xss ++ [xs] := by rw [hl]; simp
  rw [e1, e2] at h2
  exact h2
end
end Go.Proofs.Ytnpgeohkmdcbkaa.Aq
