/- The engine, part 2: one operation at a time: what reads slots alone; rules for code. -/
import Derived.Test.YtnpgeohkmdcbkaaEng1
namespace Go.Proofs.Ytnpgeohkmdcbkaa.Aq
open Go Go.RowKit

inductive GuardIs (ops : Array Oper) (o : Oper) : Option (Nat × Bool) → Prop
  | n : o.guard = none → GuardIs ops o none
  | s {j : Nat} {b : Bool} {s : Nat} : o.guard = some (j, b) → (ops[j]?).bind (·.dst) = some s → GuardIs ops o (some (s, b))

def PV.of (g : Option (Nat × Bool)) (v : Value) : PV := match g with
  | none => .eq v
  | some (s, b) => .gd s b v

/-- What the guard says. -/
def Env.gc (E : Env) (g : Option (Nat × Bool)) : Prop := match g with
  | none => True
  | some (s, b) => match E s with
    | some (.eq (.bool e)) => e = b
    | some (.gd _ _ (.bool e)) => e = b
    | _ => True

theorem yield_bool {ops : Array Oper} {a : Act} {j s : Nat} {b : Bool} (hs : (ops[j]?).bind (·.dst) = some s) (h : yielded ops a.tmps j = some b) : tm a s = .bool b := by
  unfold yielded at h
  simp only [hs, Option.bind_some] at h
  cases ht : a.tmps[s]? with
  | none => rw [ht] at h; simp at h
  | some v =>
    rw [ht] at h
    cases v <;> simp at h
    subst h
    simp [tm, Array.getD_eq_getD_getElem?, ht]

theorem yield_of {ops : Array Oper} {a : Act} {j s : Nat} {b : Bool} (hs : (ops[j]?).bind (·.dst) = some s) (h : tm a s = .bool b) : yielded ops a.tmps j = some b := by
  unfold yielded
  simp only [hs, Option.bind_some]
  cases ht : a.tmps[s]? with
  | none => simp [tm, Array.getD_eq_getD_getElem?, ht, undef] at h
  | some v =>
    simp [tm, Array.getD_eq_getD_getElem?, ht] at h
    subst h
    rfl

theorem wanted_guard {ops : Array Oper} {o : Oper} {a : Act} {s : Nat} {b : Bool} (h : GuardIs ops o (some (s, b))) : Region.wanted o (yielded ops a.tmps) = true ↔ tm a s = .bool b := by
  cases h with
  | s h1 h2 =>
    unfold Region.wanted
    rw [h1]
    simp only [beq_iff_eq]
    exact ⟨fun h => yield_bool h2 h, fun h => yield_of h2 h⟩

theorem look_guard {ops : Array Oper} {o : Oper} {s : Nat} {b : Bool} (h : GuardIs ops o (some (s, b))) : s ∈ o.looksAt ops := by
  cases h with
  | s h1 h2 =>
    unfold Oper.looksAt
    rw [h1]
    simp [h2]

theorem look_tmp {ops : Array Oper} {o : Oper} {t : Nat} (h : Operand.tmp t ∈ o.op.operands) : t ∈ o.looksAt ops :=
  List.mem_append_left _ (List.mem_filterMap.2 ⟨.tmp t, by simpa using h, rfl⟩)

/-- What is known of the operands, where the guard holds. -/
def Agree (E : Env) (g : Option (Nat × Bool)) (o : Oper) (ρ : Operand → Value) : Prop := ∀ x ∈ o.op.operands, ∀ v, E.at g x = some v → ρ x = v

theorem agree_of {ops : Array Oper} {E : Env} {g : Option (Nat × Bool)} {o : Oper} {a : Act} {w : World} (hs : SatOn (o.looksAt ops) E a w) (hg : ∀ s b, g = some (s, b) → tm a s = .bool b) : Agree E g o a.eval := by
  intro x hx v hv
  cases x with
  | const c => simp only [Env.at, Option.some.injEq] at hv; exact hv
  | func f => simp only [Env.at, Option.some.injEq] at hv; exact hv
  | global k => simp [Env.at] at hv
  | tmp t =>
    have ht := hs t (look_tmp hx)
    simp only [Env.at] at hv
    show tm a t = v
    cases he : E t with
    | none => rw [he] at hv; simp at hv
    | some p =>
      have hp := ht p he
      rw [he] at hv
      cases p with
      | eq c => simp only [Option.some.injEq] at hv; subst hv; exact hp
      | sat F => simp at hv
      | gd s b c =>
        cases g with
        | none => simp at hv
        | some sb =>
          obtain ⟨s', b'⟩ := sb
          simp only at hv
          cases hb : (Nat.beq s s' && (b == b')) with
          | false => rw [hb] at hv; simp at hv
          | true =>
            rw [hb] at hv
            simp only [cond_true, Option.some.injEq] at hv
            rw [Bool.and_eq_true] at hb
            have e1 := Nat.eq_of_beq_eq_true hb.1
            have e2 : b = b' := by simpa using hb.2
            subst e1; subst e2; subst hv
            exact hp.1 (hg s b rfl)

section
variable {P : Program} {n : Nat} {ops : Array Oper} {S : World → Prop} {E : Env} {o : Oper} {g : Option (Nat × Bool)}

/-- What a slot's fact says of a guard that holds. -/
theorem gc_at {L : List Nat} {E : Env} {a : Act} {w : World} {s : Nat} {b : Bool} (hs : SatOn L E a w) (hm : s ∈ L) (ht : tm a s = .bool b) : E.gc (some (s, b)) := by
  unfold Env.gc
  simp only
  split
  · rename_i e he
    have := hs s hm _ he
    simp only [PV.ok] at this
    rw [ht] at this
    injection this with this
    exact this.symm
  · rename_i s0 b0 e he
    have := hs s hm _ he
    simp only [PV.ok] at this
    rw [ht] at this
    by_cases h : tm a s0 = .bool b0
    · have := this.1 h
      injection this with this
      exact this.symm
    · have := this.2 h
      cases this
  · trivial

theorem gc_of {a : Act} {w : World} (hs : SatOn (o.looksAt ops) E a w) (hg : GuardIs ops o g) (hw : Region.wanted o (yielded ops a.tmps) = true) : E.gc g ∧ ∀ s b, g = some (s, b) → tm a s = .bool b := by
  cases g with
  | none => exact ⟨trivial, fun s b h => by cases h⟩
  | some sb =>
    obtain ⟨s, b⟩ := sb
    have h1 := (wanted_guard hg).1 hw
    exact ⟨gc_at hs (look_guard hg) h1, fun s' b' h => by cases h; exact h1⟩

/-- An operation that gives a value and leaves the world alone. -/
theorem ok_val (hg : GuardIs ops o g) {c : Value} (h : ∀ (ρ : Operand → Value) (w : World), Agree E g o ρ → S w → E.gc g → (execOp ρ o).run P w = .ok (.value c) w) :
    OpV P n ops S E o (PV.of g c) where
  shape := fun s want c' he => by
    cases hg with
    | n h1 => simp [PV.of] at he
    | s h1 h2 => simp only [PV.of, PV.gd.injEq] at he; obtain ⟨rfl, rfl, rfl⟩ := he; exact ⟨_, _, h1, h2⟩
  run := fun a w hn hs hS hw => by
    obtain ⟨h1, h2⟩ := gc_of hs hg hw
    refine ⟨c, h a.eval w (agree_of hs h2) hS h1, ?_⟩
    cases g with
    | none => rfl
    | some sb => exact ⟨fun _ => rfl, fun hne => absurd (h2 _ _ rfl) hne⟩
  skip := fun a w hn hs hS hw => by
    cases hg with
    | n h1 => simp [Region.wanted, h1] at hw
    | s h1 h2 =>
      refine ⟨fun ht => ?_, fun _ => rfl⟩
      have := (wanted_guard (GuardIs.s h1 h2)).2 ht
      rw [this] at hw
      cases hw

/-- The guard is known to want it. -/
theorem ok_sure {s : Nat} {b : Bool} {c : Value} (h : OpV P n ops S E o (.gd s b c)) (hg : GuardIs ops o (some (s, b))) (hs : E s = some (.eq (.bool b))) : OpV P n ops S E o (.eq c) where
  shape := fun _ _ _ he => by cases he
  run := fun a w hn ho hS hw => let ⟨v, hr, hp⟩ := h.run a w hn ho hS hw; ⟨v, hr, hp.1 (ho s (look_guard hg) _ hs)⟩
  skip := fun a w hn ho hS hw => by
    have : tm a s = .bool b := ho s (look_guard hg) _ hs
    rw [(wanted_guard hg).2 this] at hw
    cases hw

/-- The guard is known not to want it. -/
theorem ok_skip {s : Nat} {b b' : Bool} (hg : GuardIs ops o (some (s, b))) (hs : E s = some (.eq (.bool b'))) (hne : b' ≠ b) : OpV P n ops S E o (.eq undef) where
  shape := fun _ _ _ he => by cases he
  run := fun a w hn ho hS hw => by
    have h1 := (wanted_guard hg).1 hw
    have h2 : tm a s = .bool b' := ho s (look_guard hg) _ hs
    rw [h2] at h1
    injection h1 with h1
    exact absurd h1 hne
  skip := fun a w hn ho hS hw => rfl

/-- Another word for the same value. -/
theorem ok_eq {c c' : Value} (h : OpV P n ops S E o (PV.of g c)) (e : E.gc g → c = c') : OpV P n ops S E o (PV.of g c') := by
  cases g with
  | none => rw [← e trivial]; exact h
  | some sb =>
    obtain ⟨s, b⟩ := sb
    refine ⟨fun s' want c'' he => ?_, fun a w hn hs hS hw => ?_, fun a w hn hs hS hw => ?_⟩
    · simp only [PV.of, PV.gd.injEq] at he
      obtain ⟨rfl, rfl, rfl⟩ := he
      exact h.shape s b c rfl
    · obtain ⟨v, hr, hp⟩ := h.run a w hn hs hS hw
      refine ⟨v, hr, fun ht => ?_, hp.2⟩
      rw [hp.1 ht]
      obtain ⟨j, b0, hj1, hj2⟩ := h.shape s b c rfl
      have hl : s ∈ o.looksAt ops := by unfold Oper.looksAt; rw [hj1]; simp [hj2]
      exact e (gc_at hs hl ht)
    · refine ⟨fun ht => ?_, fun _ => rfl⟩
      have h3 := (h.skip a w hn hs hS hw).1 ht
      have h4 := h.skip a w hn hs hS hw
      -- skipped though the guard's slot holds what is wanted: cannot be
      obtain ⟨j, b0, hj1, hj2⟩ := h.shape s b c rfl
      rw [h3]
      have hl : s ∈ o.looksAt ops := by unfold Oper.looksAt; rw [hj1]; simp [hj2]
      exact e (gc_at hs hl ht)

variable {x y z : Operand} {v u : Value}

theorem ok_move (ho : o.op = .move x) (hg : GuardIs ops o g) (hx : E.at g x = some v) : OpV P n ops S E o (PV.of g v) :=
  ok_val hg fun ρ w ha _ _ => by
    have e := ha x (by rw [ho]; simp [Op.operands]) v hx
    simp only [execOp, ho, e]; rfl
theorem ok_assign (ho : o.op = .assign x) (hg : GuardIs ops o g) (hx : E.at g x = some v) : OpV P n ops S E o (PV.of g v) :=
  ok_val hg fun ρ w ha _ _ => by
    have e := ha x (by rw [ho]; simp [Op.operands]) v hx
    simp only [execOp, ho, e]; rfl

/-- The world is left alone: a value out of two operands. -/
theorem ok_val1 {c : Value} (hg : GuardIs ops o g) (hx : E.at g x = some v) (hm : x ∈ o.op.operands)
    (h : ∀ (ρ : Operand → Value) (w : World), ρ x = v → S w → E.gc g → (execOp ρ o).run P w = .ok (.value c) w) : OpV P n ops S E o (PV.of g c) :=
  ok_val hg fun ρ w ha hS hc => h ρ w (ha x hm v hx) hS hc
theorem ok_val2 {c : Value} (hg : GuardIs ops o g) (hx : E.at g x = some v) (hy : E.at g y = some u) (hm : x ∈ o.op.operands) (hm2 : y ∈ o.op.operands)
    (h : ∀ (ρ : Operand → Value) (w : World), ρ x = v → ρ y = u → S w → E.gc g → (execOp ρ o).run P w = .ok (.value c) w) : OpV P n ops S E o (PV.of g c) :=
  ok_val hg fun ρ w ha hS hc => h ρ w (ha x hm v hx) (ha y hm2 u hy) hS hc

section ints
variable {t t' : TypeId} {k : IntKind} {i j : Int}

theorem ok_lss (ho : o.op = .binOp .lss t x y t') (hg : GuardIs ops o g) (hx : E.at g x = some (.int k i)) (hy : E.at g y = some (.int k j)) : OpV P n ops S E o (PV.of g (.bool (decide (i < j)))) :=
  ok_val2 hg hx hy (by rw [ho]; simp [Op.operands]) (by rw [ho]; simp [Op.operands]) fun ρ w h1 h2 _ _ => by
    simp [execOp, ho, h1, h2, eqGuard, binOp, Op.intCmp, go_sem]
theorem ok_leq (ho : o.op = .binOp .leq t x y t') (hg : GuardIs ops o g) (hx : E.at g x = some (.int k i)) (hy : E.at g y = some (.int k j)) : OpV P n ops S E o (PV.of g (.bool (decide (i ≤ j)))) :=
  ok_val2 hg hx hy (by rw [ho]; simp [Op.operands]) (by rw [ho]; simp [Op.operands]) fun ρ w h1 h2 _ _ => by
    simp [execOp, ho, h1, h2, eqGuard, binOp, Op.intCmp, go_sem]
theorem ok_gtr (ho : o.op = .binOp .gtr t x y t') (hg : GuardIs ops o g) (hx : E.at g x = some (.int k i)) (hy : E.at g y = some (.int k j)) : OpV P n ops S E o (PV.of g (.bool (decide (j < i)))) :=
  ok_val2 hg hx hy (by rw [ho]; simp [Op.operands]) (by rw [ho]; simp [Op.operands]) fun ρ w h1 h2 _ _ => by
    simp [execOp, ho, h1, h2, eqGuard, binOp, Op.intCmp, go_sem]
theorem ok_geq (ho : o.op = .binOp .geq t x y t') (hg : GuardIs ops o g) (hx : E.at g x = some (.int k i)) (hy : E.at g y = some (.int k j)) : OpV P n ops S E o (PV.of g (.bool (decide (j ≤ i)))) :=
  ok_val2 hg hx hy (by rw [ho]; simp [Op.operands]) (by rw [ho]; simp [Op.operands]) fun ρ w h1 h2 _ _ => by
    simp [execOp, ho, h1, h2, eqGuard, binOp, Op.intCmp, go_sem]
theorem ok_eql (ho : o.op = .binOp .eql t x y t') (hg : GuardIs ops o g) (hx : E.at g x = some (.int k i)) (hy : E.at g y = some (.int k j)) : OpV P n ops S E o (PV.of g (.bool (decide (i = j)))) :=
  ok_val2 hg hx hy (by rw [ho]; simp [Op.operands]) (by rw [ho]; simp [Op.operands]) fun ρ w h1 h2 _ _ => by
    simp only [execOp, ho, h1, h2, eqGuard, binOp, Op.intCmp]
    simp [go_sem]
    rfl
theorem ok_neq (ho : o.op = .binOp .neq t x y t') (hg : GuardIs ops o g) (hx : E.at g x = some (.int k i)) (hy : E.at g y = some (.int k j)) : OpV P n ops S E o (PV.of g (.bool (!decide (i = j)))) :=
  ok_val2 hg hx hy (by rw [ho]; simp [Op.operands]) (by rw [ho]; simp [Op.operands]) fun ρ w h1 h2 _ _ => by
    simp only [execOp, ho, h1, h2, eqGuard, binOp, Op.intCmp]
    simp [go_sem, bne]
    rfl
theorem ok_add (ho : o.op = .binOp .add t x y t') (hg : GuardIs ops o g) (hx : E.at g x = some (.int k i)) (hy : E.at g y = some (.int k j)) : OpV P n ops S E o (PV.of g (.int k (k.wrap (i + j)))) :=
  ok_val2 hg hx hy (by rw [ho]; simp [Op.operands]) (by rw [ho]; simp [Op.operands]) fun ρ w h1 h2 _ _ => by
    simp [execOp, ho, h1, h2, eqGuard, binOp, Op.intArith, go_sem]
theorem ok_sub (ho : o.op = .binOp .sub t x y t') (hg : GuardIs ops o g) (hx : E.at g x = some (.int k i)) (hy : E.at g y = some (.int k j)) : OpV P n ops S E o (PV.of g (.int k (k.wrap (i - j)))) :=
  ok_val2 hg hx hy (by rw [ho]; simp [Op.operands]) (by rw [ho]; simp [Op.operands]) fun ρ w h1 h2 _ _ => by
    simp [execOp, ho, h1, h2, eqGuard, binOp, Op.intArith, go_sem]
theorem ok_mul (ho : o.op = .binOp .mul t x y t') (hg : GuardIs ops o g) (hx : E.at g x = some (.int k i)) (hy : E.at g y = some (.int k j)) : OpV P n ops S E o (PV.of g (.int k (k.wrap (i * j)))) :=
  ok_val2 hg hx hy (by rw [ho]; simp [Op.operands]) (by rw [ho]; simp [Op.operands]) fun ρ w h1 h2 _ _ => by
    simp [execOp, ho, h1, h2, eqGuard, binOp, Op.intArith, go_sem]
theorem ok_rem (ho : o.op = .binOp .rem t x y t') (hg : GuardIs ops o g) (hx : E.at g x = some (.int k i)) (hy : E.at g y = some (.int k j)) (hj : E.gc g → j ≠ 0) : OpV P n ops S E o (PV.of g (.int k (i.tmod j))) :=
  ok_val2 hg hx hy (by rw [ho]; simp [Op.operands]) (by rw [ho]; simp [Op.operands]) fun ρ w h1 h2 _ hc => by
    have := hj hc
    simp [execOp, ho, h1, h2, eqGuard, binOp, Op.intDiv, this, go_sem]
theorem ok_quo (ho : o.op = .binOp .quo t x y t') (hg : GuardIs ops o g) (hx : E.at g x = some (.int k i)) (hy : E.at g y = some (.int k j)) (hj : E.gc g → j ≠ 0) : OpV P n ops S E o (PV.of g (.int k (k.wrap (i.tdiv j)))) :=
  ok_val2 hg hx hy (by rw [ho]; simp [Op.operands]) (by rw [ho]; simp [Op.operands]) fun ρ w h1 h2 _ hc => by
    have := hj hc
    simp [execOp, ho, h1, h2, eqGuard, binOp, Op.intDiv, this, go_sem]
theorem ok_not {b : Bool} (ho : o.op = .unOp .not t x) (hg : GuardIs ops o g) (hx : E.at g x = some (.bool b)) : OpV P n ops S E o (PV.of g (.bool (!b))) :=
  ok_val1 hg hx (by rw [ho]; simp [Op.operands]) fun ρ w h1 _ _ => by simp [execOp, ho, h1, Op.unary, go_sem]
theorem ok_eqb {a b : Bool} (ho : o.op = .binOp .eql t x y t') (hg : GuardIs ops o g) (hu : P.underlying t = some .bool) (hx : E.at g x = some (.bool a)) (hy : E.at g y = some (.bool b)) : OpV P n ops S E o (PV.of g (.bool (a == b))) :=
  ok_val2 hg hx hy (by rw [ho]; simp [Op.operands]) (by rw [ho]; simp [Op.operands]) fun ρ w h1 h2 _ _ => by
    simp [execOp, ho, h1, h2, eqGuard, binOp, run_equal_bool _ _ _ _ hu, go_sem]
theorem ok_neb {a b : Bool} (ho : o.op = .binOp .neq t x y t') (hg : GuardIs ops o g) (hu : P.underlying t = some .bool) (hx : E.at g x = some (.bool a)) (hy : E.at g y = some (.bool b)) : OpV P n ops S E o (PV.of g (.bool (!(a == b)))) :=
  ok_val2 hg hx hy (by rw [ho]; simp [Op.operands]) (by rw [ho]; simp [Op.operands]) fun ρ w h1 h2 _ _ => by
    simp [execOp, ho, h1, h2, eqGuard, binOp, run_equal_bool _ _ _ _ hu, go_sem]
theorem ok_conv {k' : IntKind} (ho : o.op = .convert t t' x) (hg : GuardIs ops o g) {k0 : IntKind} (h1 : P.underlying t = some (.int k0)) (h2 : P.underlying t' = some (.int k')) (hx : E.at g x = some (.int k i)) : OpV P n ops S E o (PV.of g (.int k' (k'.wrap i))) :=
  ok_val1 hg hx (by rw [ho]; simp [Op.operands]) fun ρ w h3 _ _ => by
    simp only [execOp, ho, h3, convert]
    simp [run_underlying h1, run_underlying h2, Conv.intToInt, go_sem]
theorem ok_len {m c : Nat} {e : TypeId} {ad : Option Addr} (ho : o.op = .call { callee := .builtin .len, args := #[x], argTypes := #[t] }) (hg : GuardIs ops o g) (hu : P.underlying t = some (.slice e)) (hx : E.at g x = some (.slice ad m c)) :
    OpV P n ops S E o (PV.of g (.int .i64 m)) :=
  ok_val1 hg hx (by rw [ho]; simp [Op.operands, Call.operands]) fun ρ w h3 _ _ => by
    simp [execOp, ho, h3, resolve, invoke, builtin, Builtin.len_, run_underlying hu, goInt, go_sem]
theorem ok_extract {vs : Array Value} {m : Nat} (ho : o.op = .extract x m) (hg : GuardIs ops o g) (hx : E.at g x = some (.tuple vs)) (hm : vs[m]? = some v) : OpV P n ops S E o (PV.of g v) :=
  ok_val1 hg hx (by rw [ho]; simp [Op.operands]) fun ρ w h3 _ _ => by
    simp [execOp, ho, h3, Instr.extract, hm, go_sem]
theorem ok_min2 (ho : o.op = .call { callee := .builtin .min, args := #[x, y], argTypes := #[t, t'] }) (hg : GuardIs ops o g) (hx : E.at g x = some (.int k i)) (hy : E.at g y = some (.int k j)) : OpV P n ops S E o (PV.of g (.int k (if j < i then j else i))) :=
  ok_val2 hg hx hy (by rw [ho]; simp [Op.operands, Call.operands]) (by rw [ho]; simp [Op.operands, Call.operands]) fun ρ w h1 h2 _ _ => by
    simp [execOp, ho, h1, h2, resolve, invoke, builtin, Builtin.min_, Builtin.min2, go_sem]
theorem ok_max2 (ho : o.op = .call { callee := .builtin .max, args := #[x, y], argTypes := #[t, t'] }) (hg : GuardIs ops o g) (hx : E.at g x = some (.int k i)) (hy : E.at g y = some (.int k j)) : OpV P n ops S E o (PV.of g (.int k (if i < j then j else i))) :=
  ok_val2 hg hx hy (by rw [ho]; simp [Op.operands, Call.operands]) (by rw [ho]; simp [Op.operands, Call.operands]) fun ρ w h1 h2 _ _ => by
    simp [execOp, ho, h1, h2, resolve, invoke, builtin, Builtin.max_, Builtin.max2, go_sem]
theorem wrap_in {i : Int} (h : -9223372036854775808 ≤ i ∧ i ≤ 9223372036854775807) : IntKind.i64.wrap i = i := by
  unfold IntKind.wrap
  simp only [IntKind.bits, IntKind.signed]
  simp
  split <;> omega
theorem ok_addi (ho : o.op = .binOp .add t x y t') (hg : GuardIs ops o g) (hx : E.at g x = some (.int .i64 i)) (hy : E.at g y = some (.int .i64 j)) (hr : E.gc g → -9223372036854775808 ≤ i + j ∧ i + j ≤ 9223372036854775807) : OpV P n ops S E o (PV.of g (.int .i64 (i + j))) :=
  ok_eq (ok_add ho hg hx hy) fun h => by rw [wrap_in (hr h)]
theorem ok_subi (ho : o.op = .binOp .sub t x y t') (hg : GuardIs ops o g) (hx : E.at g x = some (.int .i64 i)) (hy : E.at g y = some (.int .i64 j)) (hr : E.gc g → -9223372036854775808 ≤ i - j ∧ i - j ≤ 9223372036854775807) : OpV P n ops S E o (PV.of g (.int .i64 (i - j))) :=
  ok_eq (ok_sub ho hg hx hy) fun h => by rw [wrap_in (hr h)]
theorem ok_muli (ho : o.op = .binOp .mul t x y t') (hg : GuardIs ops o g) (hx : E.at g x = some (.int .i64 i)) (hy : E.at g y = some (.int .i64 j)) (hr : E.gc g → -9223372036854775808 ≤ i * j ∧ i * j ≤ 9223372036854775807) : OpV P n ops S E o (PV.of g (.int .i64 (i * j))) :=
  ok_eq (ok_mul ho hg hx hy) fun h => by rw [wrap_in (hr h)]
end ints
end
end Go.Proofs.Ytnpgeohkmdcbkaa.Aq
