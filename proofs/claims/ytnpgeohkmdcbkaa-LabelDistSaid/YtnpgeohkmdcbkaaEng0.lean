/- The engine, part 0: what is known of slots (environments), judgements on code and on rows of operations, and a region whose order is drawn. No condition but those each lemma names. -/
import Derived.Test.YtnpgeohkmdcbkaaProg
import Derived.WalkKit
import Derived.Orders
namespace Go.Proofs.Ytnpgeohkmdcbkaa.Aq
open Go Go.RowKit

/-- Growth: all that lay in w lies in w' as it lay. -/
def Gr (w w' : World) : Prop := Below w.heap.size w w'
theorem Gr.refl (w : World) : Gr w w := Below.refl _ _
theorem Gr.trans {a b c : World} (h : Gr a b) (k : Gr b c) : Gr a c := Below.trans h (Below.mono k h.size)
theorem Gr.size {a b : World} (h : Gr a b) : a.heap.size ≤ b.heap.size := Below.size h
theorem Gr.cell {a b : World} (h : Gr a b) {p : Addr} {v : Value} (hc : a.cell? p = some v) : b.cell? p = some v :=
  (Below.cell h (World.block_lt_of_cell? a p hc)).trans hc
theorem Gr.block {a b : World} (h : Gr a b) {k : Nat} {o : Obj} (hc : a.heap[k]? = some o) : b.heap[k]? = some o :=
  (Below.block h k (Array.getElem?_eq_some_iff.1 hc).1).trans hc

def tm (a : Act) (t : Nat) : Value := a.tmps.getD t undef

/-- What is known of a slot. -/
inductive PV where
  | eq (v : Value)
  | sat (F : Value → World → Prop)
  | gd (s : Nat) (want : Bool) (v : Value)

def PV.ok (a : Act) (w : World) : PV → Value → Prop
  | .eq c, v => v = c
  | .sat F, v => ∀ w', Gr w w' → F v w'
  | .gd s want c, v => (tm a s = .bool want → v = c) ∧ (tm a s ≠ .bool want → v = undef)

def PV.men (d : Nat) : PV → Bool
  | .gd s _ _ => Nat.beq s d
  | _ => false
def PV.isGd : PV → Bool
  | .gd .. => true
  | _ => false
def PV.isEq : PV → Bool
  | .eq _ => true
  | _ => false

theorem PV.ok_grow {a : Act} {w w' : World} {p : PV} {v : Value} (h : p.ok a w v) (g : Gr w w') : p.ok a w' v := by
  cases p with
  | eq c => exact h
  | sat F => exact fun w2 h2 => h w2 (g.trans h2)
  | gd s want c => exact h

/-- Two acts that agree on what p mentions. -/
theorem PV.ok_act {a a' : Act} {w : World} {p : PV} {v : Value} (h : p.ok a w v) (e : ∀ s want c, p = .gd s want c → tm a' s = tm a s) : p.ok a' w v := by
  cases p with
  | eq c => exact h
  | sat F => exact h
  | gd s want c => simp only [PV.ok, e s want c rfl]; exact h

abbrev Env := Nat → Option PV
def Env.upd (E : Env) (d : Nat) (p : PV) : Env := fun t => bif Nat.beq t d then some p else (E t).filter (fun q => !q.men d)
def Env.updo (E : Env) : Option Nat → PV → Env
  | none, _ => E
  | some d, p => E.upd d p
def Env.nogd (E : Env) : Env := fun t => (E t).filter fun q => !q.isGd
def Env.exact (E : Env) : Env := fun t => (E t).filter fun q => q.isEq

/-- The value of an operand, where it is known; g: the guard that is known to hold. -/
def Env.at (E : Env) (g : Option (Nat × Bool)) : Operand → Option Value
  | .const v => some v
  | .func f => some (.func (.func f) #[] #[])
  | .global _ => none
  | .tmp t => match E t with
    | some (.eq c) => some c
    | some (.gd s w c) => (match g with
      | some (s', w') => bif Nat.beq s s' && (w == w') then some c else none
      | none => none)
    | _ => none

def Sat (E : Env) (a : Act) (w : World) : Prop := ∀ t p, E t = some p → p.ok a w (tm a t)
def SatOn (L : List Nat) (E : Env) (a : Act) (w : World) : Prop := ∀ t ∈ L, ∀ p, E t = some p → p.ok a w (tm a t)

theorem Sat.grow {E : Env} {a : Act} {w w' : World} (h : Sat E a w) (g : Gr w w') : Sat E a w' := fun t p e => PV.ok_grow (h t p e) g
theorem Sat.on {E : Env} {a : Act} {w : World} (h : Sat E a w) (L : List Nat) : SatOn L E a w := fun t _ p e => h t p e
theorem filter_some {α : Type} {o : Option α} {f : α → Bool} {x : α} (h : o.filter f = some x) : o = some x ∧ f x = true := by
  cases o with
  | none => simp at h
  | some y =>
    simp only [Option.filter] at h
    split at h
    · rename_i hy; injection h with h; subst h; exact ⟨rfl, hy⟩
    · cases h
theorem Sat.nogd {E : Env} {a : Act} {w : World} (h : Sat E a w) : Sat E.nogd a w := fun t p e => h t p (filter_some e).1
theorem Sat.exact {E : Env} {a : Act} {w w' : World} (h : Sat E a w) : Sat E.exact a w' := fun t p e => by
  obtain ⟨e1, e2⟩ := filter_some e
  have := h t p e1
  cases p <;> first | exact this | simp [PV.isEq] at e2

theorem tm_put_same {a : Act} {d n : Nat} {v : Value} (hs : a.tmps.size = n) (hd : d < n) : tm (a.put (some d) v) d = v := by
  subst hs
  simp [tm, Act.put, Array.getD_eq_getD_getElem?, hd]
theorem tm_put_ne {a : Act} {d t : Nat} {v : Value} (h : t ≠ d) : tm (a.put (some d) v) t = tm a t := by
  simp [tm, Act.put, Array.getD_eq_getD_getElem?, Array.getElem?_setIfInBounds_ne (Ne.symm h)]
theorem put_size (a : Act) (d : Option Nat) (v : Value) : (a.put d v).tmps.size = a.tmps.size := by
  cases d <;> simp [Act.put]
theorem put_defers (a : Act) (d : Option Nat) (v : Value) : (a.put d v).defers = a.defers := by
  cases d <;> simp [Act.put]

theorem upd_same (E : Env) (d : Nat) (p : PV) : E.upd d p d = some p := by simp [Env.upd]
theorem upd_ne (E : Env) {d t : Nat} (p : PV) (h : t ≠ d) : E.upd d p t = (E t).filter (fun q => !q.men d) := by
  have : Nat.beq t d = false := by
    cases hb : Nat.beq t d with
    | false => rfl
    | true => exact absurd (Nat.eq_of_beq_eq_true hb) h
  simp [Env.upd, this]

theorem Sat.upd {E : Env} {a : Act} {w : World} {d n : Nat} {v : Value} {p : PV} (h : Sat E a w) (hs : a.tmps.size = n) (hd : d < n)
    (hp : p.ok (a.put (some d) v) w v) : Sat (E.upd d p) (a.put (some d) v) w := by
  intro t q e
  by_cases ht : t = d
  · subst ht
    rw [upd_same] at e
    injection e with e
    subst e
    rw [tm_put_same hs hd]
    exact hp
  · rw [upd_ne E p ht] at e
    obtain ⟨e1, e2⟩ := filter_some e
    rw [tm_put_ne ht]
    refine PV.ok_act (h t q e1) fun s want c he => ?_
    subst he
    refine tm_put_ne fun hs' => ?_
    subst hs'
    simp [PV.men] at e2

theorem Sat.updo {E : Env} {a : Act} {w : World} {d : Option Nat} {n : Nat} {v : Value} {p : PV} (h : Sat E a w) (hs : a.tmps.size = n) (hd : ∀ x, d = some x → x < n)
    (hp : p.ok (a.put d v) w v) : Sat (E.updo d p) (a.put d v) w := by
  cases d with
  | none => exact h
  | some x => exact h.upd hs (hd x rfl) hp

/-- How one operation ends. -/
def OpR (P : Program) (o : Oper) (ρ : Operand → Value) (w : World) (K : Value → World → Prop) : Prop :=
  match (execOp ρ o).run P w with
  | .ok (.value v) w' => K v w'
  | .ok .skip w' => K undef w'
  | .ok (.enter f args) w' => Calls P f args w' fun e w'' => ∃ v, e = .returned v ∧ K v w''
  | _ => False

theorem OpR.mono {P : Program} {o : Oper} {ρ : Operand → Value} {w : World} {K K' : Value → World → Prop} (h : OpR P o ρ w K) (hk : ∀ v w', K v w' → K' v w') : OpR P o ρ w K' := by
  unfold OpR at *
  split at h
  · exact hk _ _ h
  · exact hk _ _ h
  · exact h.mono fun _ _ ⟨v, he, hv⟩ => ⟨v, he, hk _ _ hv⟩
  · exact h.elim

theorem OpR.wp {P : Program} {o : Oper} {a : Act} {w : World} {K : Value → World → Prop} {next : Act → World → Prop} {Q : Exit → Act → World → Prop}
    (h : OpR P o a.eval w K) (hk : ∀ v w', K v w' → next (a.put o.dst v) w') : o.wp P a w next Q := by
  unfold OpR at h
  unfold Oper.wp
  split at h
  · rename_i e; rw [e]; exact hk _ _ h
  · rename_i e; rw [e]; exact hk _ _ h
  · rename_i e
    rw [e]
    refine Calls.mono h fun e w' he => ?_
    obtain ⟨v, rfl, hv⟩ := he
    exact hk _ _ hv
  · exact h.elim

/-- An operation of a region, whatever stands elsewhere: what it leaves in its slot. -/
structure OpOk (P : Program) (n : Nat) (ops : Array Oper) (S : World → Prop) (E : Env) (o : Oper) (p : PV) : Prop where
  shape : ∀ s want c, p = .gd s want c → ∃ j b, o.guard = some (j, b) ∧ (ops[j]?).bind (·.dst) = some s
  run : ∀ (a : Act) (w : World), a.tmps.size = n → SatOn (o.looksAt ops) E a w → S w → Region.wanted o (yielded ops a.tmps) = true →
    OpR P o a.eval w fun v w' => Gr w w' ∧ p.ok a w' v
  skip : ∀ (a : Act) (w : World), a.tmps.size = n → SatOn (o.looksAt ops) E a w → S w → Region.wanted o (yielded ops a.tmps) = false → p.ok a w undef

/-- The same of an operation that leaves the world alone. -/
structure OpV (P : Program) (n : Nat) (ops : Array Oper) (S : World → Prop) (E : Env) (o : Oper) (p : PV) : Prop where
  shape : ∀ s want c, p = .gd s want c → ∃ j b, o.guard = some (j, b) ∧ (ops[j]?).bind (·.dst) = some s
  run : ∀ (a : Act) (w : World), a.tmps.size = n → SatOn (o.looksAt ops) E a w → S w → Region.wanted o (yielded ops a.tmps) = true →
    ∃ v, (execOp a.eval o).run P w = .ok (.value v) w ∧ p.ok a w v
  skip : ∀ (a : Act) (w : World), a.tmps.size = n → SatOn (o.looksAt ops) E a w → S w → Region.wanted o (yielded ops a.tmps) = false → p.ok a w undef

theorem OpV.ok {P : Program} {n : Nat} {ops : Array Oper} {S : World → Prop} {E : Env} {o : Oper} {p : PV} (h : OpV P n ops S E o p) : OpOk P n ops S E o p :=
  ⟨h.shape, fun a w hn hs hS hw => by
    obtain ⟨v, hr, hp⟩ := h.run a w hn hs hS hw
    unfold OpR
    rw [hr]
    exact ⟨Gr.refl _, hp⟩, h.skip⟩

def FreeOk (P : Program) (n : Nat) (ops : Array Oper) (S : World → Prop) : Env → List Oper → (Env → Prop) → Prop
  | E, [], K => K E
  | E, o :: l, K => ∃ p, OpOk P n ops S E o p ∧ FreeOk P n ops S (E.updo o.dst p) l K

section
variable {P : Program} {n : Nat} {ops : Array Oper} {S : World → Prop} {E : Env} {K : Env → Prop}
theorem free_nil (h : K E) : FreeOk P n ops S E [] K := h
theorem free_cons {o : Oper} {l : List Oper} {p : PV} (h : OpOk P n ops S E o p) (hl : FreeOk P n ops S (E.updo o.dst p) l K) : FreeOk P n ops S E (o :: l) K := ⟨p, h, hl⟩
end
theorem free_v {P : Program} {n : Nat} {ops : Array Oper} {S : World → Prop} {E : Env} {K : Env → Prop} {o : Oper} {l : List Oper} {p : PV} (h : OpV P n ops S E o p) (hl : FreeOk P n ops S (E.updo o.dst p) l K) : FreeOk P n ops S E (o :: l) K := ⟨p, h.ok, hl⟩

/-- A row of operations, one behind the other. -/
def LW (P : Program) (n : Nat) (ops : Array Oper) (Q : Exit → Act → World → Prop) (l : List Oper) (E : Env) (w : World) : Prop :=
  ∀ a : Act, a.defers = [] → a.tmps.size = n → Sat E a w → wpList P ops Q l a w
def CW (P : Program) (n : Nat) (c : Code) (Q : Exit → Act → World → Prop) (E : Env) (w : World) : Prop :=
  ∀ a : Act, a.defers = [] → a.tmps.size = n → Sat E a w → c.wp P Q a w
def Ends (n : Nat) (Q : Exit → Act → World → Prop) (e : Exit) (E : Env) (w : World) : Prop :=
  ∀ a : Act, a.defers = [] → a.tmps.size = n → Sat E a w → Q e a w

theorem of_blt {a b : Nat} (h : Nat.blt a b = true) : a < b := by rw [Nat.blt_eq] at h; exact h
def dstLt (n : Nat) (l : List Oper) : Bool := l.all fun o => match o.dst with
  | some d => Nat.blt d n
  | none => true
/-- No operation is guarded by its own slot. -/
def guardOther (ops : Array Oper) (l : List Oper) : Bool := l.all fun o => match o.guard with
  | some (j, _) => !(((ops[j]?).bind (·.dst)) == o.dst) 
  | none => true

theorem dstLt_mem {n : Nat} {l : List Oper} (h : dstLt n l = true) {o : Oper} (ho : o ∈ l) : ∀ x, o.dst = some x → x < n := by
  intro x hx
  have := List.all_eq_true.1 h o ho
  rw [hx] at this
  exact of_blt this

theorem shape_put {ops : Array Oper} {o : Oper} {p : PV} {a : Act} {w : World} {v v' : Value} (hsh : ∀ s want c, p = .gd s want c → ∃ j b, o.guard = some (j, b) ∧ (ops[j]?).bind (·.dst) = some s)
    (hg : (match o.guard with | some (j, _) => !(((ops[j]?).bind (·.dst)) == o.dst) | none => true) = true) (h : p.ok a w v) : p.ok (a.put o.dst v') w v := by
  refine PV.ok_act h fun s want c e => ?_
  obtain ⟨j, b, h1, h2⟩ := hsh s want c e
  rw [h1] at hg
  simp only [h2] at hg
  cases hd : o.dst with
  | none => rfl
  | some d =>
    refine tm_put_ne fun hs => ?_
    subst hs
    simp [hd] at hg

theorem wpList_free {P : Program} {n : Nat} {ops : Array Oper} {Q : Exit → Act → World → Prop} {o : Oper} {rest : List Oper} {S : World → Prop} {E : Env} {p : PV} {a : Act} {w : World}
    (ha : a.tmps.size = n) (h : OpOk P n ops S E o p) (hs : SatOn (o.looksAt ops) E a w) (hS : S w)
    (hk : ∀ v w', Gr w w' → p.ok a w' v → wpList P ops Q rest (a.put o.dst v) w') : wpList P ops Q (o :: rest) a w := by
  unfold wpList
  split
  · rename_i hw
    exact .inl ((h.run a w ha hs hS hw).wp fun v w' ⟨g, hp⟩ => hk v w' g hp)
  · rename_i hw
    exact hk undef w (Gr.refl _) (h.skip a w ha hs hS (by simpa using hw))

/-- A row of operations in the text's order. -/
theorem free_seq {P : Program} {n : Nat} {ops : Array Oper} {Q : Exit → Act → World → Prop} {w0 : World} {l2 : List Oper} :
    ∀ (l1 : List Oper) (E : Env), dstLt n l1 = true → guardOther ops l1 = true → FreeOk P n ops (Gr w0) E l1 (fun E' => ∀ w', Gr w0 w' → LW P n ops Q l2 E' w') →
      ∀ w, Gr w0 w → LW P n ops Q (l1 ++ l2) E w
  | [], _, _, _, h, w, g => h w g
  | o :: l1, E, hd, hg, ⟨p, h, hl⟩, w, g => by
    intro a ha hn hs
    simp only [dstLt, guardOther, List.all_cons, Bool.and_eq_true] at hd hg
    refine wpList_free hn h (hs.on _) g fun v w' g' hp => ?_
    refine free_seq l1 (E.updo o.dst p) hd.2 hg.2 hl w' (g.trans g') _ (by rw [put_defers]; exact ha) (by rw [put_size]; exact hn) ?_
    refine (hs.grow g').updo hn (fun x hx => ?_) (shape_put h.shape hg.1 hp)
    have := hd.1
    rw [hx] at this
    exact of_blt this


def guardOk (ops : Array Oper) (o : Oper) : Bool := match o.guard with
  | some (j, _) => !(((ops[j]?).bind (·.dst)) == o.dst)
  | none => true
def dstOk (n : Nat) (o : Oper) : Bool := match o.dst with
  | some d => Nat.blt d n
  | none => true

/-- One operation that leaves the world alone, then the rest. -/
theorem lw_v {P : Program} {n : Nat} {ops : Array Oper} {Q : Exit → Act → World → Prop} {l : List Oper} {E : Env} {o : Oper} {p : PV} {w : World}
    (hd : dstOk n o = true) (hg : guardOk ops o = true) (h : OpV P n ops (Gr w) E o p) (hl : LW P n ops Q l (E.updo o.dst p) w) : LW P n ops Q (o :: l) E w := by
  intro a ha hn hs
  have hd' : ∀ x, o.dst = some x → x < n := fun x hx => by
    unfold dstOk at hd
    rw [hx] at hd
    exact of_blt hd
  have hsh : ∀ v, p.ok a w v → Sat (E.updo o.dst p) (a.put o.dst v) w := fun v hp => hs.updo hn hd' (shape_put h.shape hg hp)
  unfold wpList
  split
  · rename_i hw
    obtain ⟨v, hr, hp⟩ := h.run a w hn (hs.on _) (Gr.refl w) hw
    refine .inl ?_
    unfold Oper.wp
    rw [hr]
    exact hl _ (by rw [put_defers]; exact ha) (by rw [put_size]; exact hn) (hsh v hp)
  · rename_i hw
    exact hl _ (by rw [put_defers]; exact ha) (by rw [put_size]; exact hn) (hsh _ (h.skip a w hn (hs.on _) (Gr.refl w) (by simpa using hw)))

/-- One operation that changes the world. -/
theorem lw_w {P : Program} {n : Nat} {ops : Array Oper} {Q : Exit → Act → World → Prop} {l : List Oper} {E : Env} {o : Oper} {w : World}
    (hd : dstOk n o = true) (hg : o.guard = none) (h : ∀ a : Act, a.tmps.size = n → Sat E a w → OpR P o a.eval w fun v w' => LW P n ops Q l (E.exact.updo o.dst (.eq v)) w') : LW P n ops Q (o :: l) E w := by
  intro a ha hn hs
  have hd' : ∀ x, o.dst = some x → x < n := fun x hx => by
    unfold dstOk at hd
    rw [hx] at hd
    exact of_blt hd
  unfold wpList
  rw [if_pos (by simp [Region.wanted, hg])]
  refine .inl ((h a hn hs).wp fun v w' hl => hl _ (by rw [put_defers]; exact ha) (by rw [put_size]; exact hn) ?_)
  have hs' : Sat E.exact a w' := hs.exact
  exact hs'.updo hn hd' rfl

theorem lw_nil {P : Program} {n : Nat} {ops : Array Oper} {Q : Exit → Act → World → Prop} {E : Env} {w : World} (h : Ends n Q .normal E w) : LW P n ops Q [] E w := fun a ha hn hs => h a ha hn hs

end Go.Proofs.Ytnpgeohkmdcbkaa.Aq
