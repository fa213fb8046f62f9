/- The engine, part 7: more operations. -/
import Derived.Test.YtnpgeohkmdcbkaaEng6
namespace Go.Proofs.Ytnpgeohkmdcbkaa.Aq
open Go Go.RowKit

/-- Parts with their places. -/
def Env.allp (E : Env) (g : Option (Nat × Bool)) : List (Nat × Operand) → Option (List (Nat × Value))
  | [] => some []
  | (i, x) :: l => match E.at g x, E.allp g l with
    | some v, some vs => some ((i, v) :: vs)
    | _, _ => none

theorem allp_of {E : Env} {g : Option (Nat × Bool)} {ρ : Operand → Value} : ∀ {l : List (Nat × Operand)} {vs : List (Nat × Value)}, (∀ p ∈ l, ∀ v, E.at g p.2 = some v → ρ p.2 = v) → E.allp g l = some vs → l.map (fun (i, x) => (i, ρ x)) = vs
  | [], vs, _, h => by simp [Env.allp] at h; subst h; rfl
  | (i, x) :: l, vs, hm, h => by
    simp only [Env.allp] at h
    cases h1 : E.at g x with
    | none => rw [h1] at h; simp at h
    | some v =>
      cases h2 : E.allp g l with
      | none => rw [h1, h2] at h; simp at h
      | some us =>
        rw [h1, h2] at h
        simp only [Option.some.injEq] at h
        subst h
        have e1 : ρ x = v := hm (i, x) List.mem_cons_self v h1
        simp only [List.map_cons, e1]
        rw [allp_of (fun p hp => hm p (List.mem_cons_of_mem _ hp)) h2]

section
variable {P : Program} {n : Nat} {ops : Array Oper} {S : World → Prop} {Q : Exit → Act → World → Prop} {l : List Oper} {E : Env} {o : Oper} {g : Option (Nat × Bool)} {w w0 : World} {x y : Operand} {v u : Value}
variable {B : Nat} {we : World} {L L' : List Asn}

theorem ok_neg {t : TypeId} {i : Int} (ho : o.op = .unOp .neg t x) (hg : GuardIs ops o g) (hx : E.at g x = some (.int .i64 i)) (hr : E.gc g → -9223372036854775807 ≤ i ∧ i ≤ 9223372036854775807) : OpV P n ops S E o (PV.of g (.int .i64 (-i))) :=
  ok_val1 hg hx (by rw [ho]; simp [Op.operands]) fun ρ w h1 _ hc => by
    obtain ⟨h2, h3⟩ := hr hc
    have e : IntKind.i64.wrap (0 - i) = -i := by rw [wrap_in ⟨by omega, by omega⟩]; omega
    simp only [execOp, ho, h1, Op.unary, Op.intArith, e]
    rfl

theorem ok_slto {α : Type} {enc : α → List Value} {sz : Nat} {d : α} [hE : Enc enc sz d] {A : Option Addr} {m c : Nat} {xs : List α} {t e : TypeId} {kd : IntKind} {i : Int} (k : Nat) (ho : o.op = .slice t x none (some y) none) (hg : GuardIs ops o g) (hu : P.underlying t = some (.slice e)) (hs : ∀ w, (sizeOf e).run P w = .ok sz w)
    (hx : E.at g x = some (.slice A m c)) (hy : E.at g y = some (.int kd i)) (hS : St B we w0 L) [hb : HasSl L A enc sz m c xs] (hi : i = k ∧ k ≤ m) : OpV P n ops (Gr w0) E o (PV.of g (.slice A k c)) :=
  ok_val2 hg hx hy (by rw [ho]; simp [Op.operands]) (by rw [ho]; simp [Op.operands]) fun ρ w h1 h2 _ _ => by
    obtain ⟨rfl, hk⟩ := hi
    have hc : m ≤ c := hS.cap hb.mem
    have hkc : (k : Int) ≤ (c : Int) := by omega
    simp only [execOp, ho, h1, Option.map_none, Option.map_some, h2, Instr.sliceAt, Sem.run_bind, run_underlying hu, Result.andThen_ok, Instr.slice]
    simp only [Instr.sliceBounds, Instr.sliceBound, asIntOf, Sem.run_bind, Sem.run_pure, Result.andThen_ok, hs]
    have h0 : (0 : Int) ≤ (k : Int) ∧ (k : Int) ≤ (c : Int) := ⟨by omega, hkc⟩
    simp only [if_true, h0, and_self, Sem.run_pure, Result.andThen_ok, Int.toNat_natCast, Nat.sub_zero, Nat.zero_mul]
    have hA : (if c = 0 then A else A.map fun a => a.add 0) = A := by
      split
      · rfl
      · cases A <;> rfl
    rw [hA]

theorem ok_build {t : TypeId} {fs : Array Field} {parts : Array (Nat × Operand)} {z : Value} {pl : Array (Nat × Nat)} {vs : List (Nat × Value)} {cells : Array Value} (ho : o.op = .build t parts) (hg : GuardIs ops o g) (hu : P.underlying t = some (.struct fs)) (hz : ∀ w, (zeroValue t).run P w = .ok z w)
    (hpl : ∀ w, (fs.mapM fun (f : Field) => do pure (f.offset, ← sizeOf f.type)).run P w = .ok pl w) (hx : E.allp g parts.toList = some vs) (hf : Instr.fill (pl[·]?) z.cells vs = some cells) : OpV P n ops S E o (PV.of g (.agg cells)) :=
  ok_val hg fun ρ w ha _ _ => by
    have hv := allp_of (ρ := ρ) (fun p hp v hv => ha p.2 (by rw [ho]; simp only [Op.operands]; exact List.mem_toArray.2 (List.mem_map.2 ⟨p, hp, rfl⟩)) v hv) hx
    have hv' : (parts.map fun (i, x) => (i, ρ x)).toList = vs := by simpa using hv
    simp only [execOp, ho, Instr.build, Sem.run_bind, hz, Result.andThen_ok, run_underlying hu, hpl, hv', hf]
    rfl

/-- A literal slice. -/
theorem lw_ls {α : Type} {enc : α → List Value} {sz : Nat} {d : α} [hE : Enc enc sz d] {t e : TypeId} {m : Nat} {parts : Array (Nat × Operand)} {vs : List (Nat × Value)} {z : Value} (xs : List α) (hd : dstOk n o = true) (hg : o.guard = none)
    (ho : o.op = .buildSlice t m parts) (hu : P.underlying t = some (.slice e)) (hsz : ∀ w, (sizeOf e).run P w = .ok sz w) (hz : ∀ w, (zeroValue e).run P w = .ok z w)
    (hvs : E.allp none parts.toList = some vs) (hf : Instr.fill (fun i => some (i * sz, sz)) ((Array.range (m * sz)).map (z.cells[· % z.cells.size]!)) vs = some (xs.flatMap enc).toArray) (hm : xs.length = m) (hm0 : 0 < m) (hm1 : m * sz ≤ 16777216)
    (hS : St B we w L) (hn : ∀ A c w', Gr w w' → St B we w' (own enc sz e A m c xs :: L) → LW P n ops Q l (E.updo o.dst (.eq (.slice A m c))) w') : LW P n ops Q (o :: l) E w :=
  lw_lit xs hd hg ho hu hsz hz (fun a hs => allp_of (fun p _ v hv => hs.ev hv) hvs) hf hm hm0 hm1 hS hn

theorem St.tail {a : Asn} (h : St B we w (a :: L)) : St B we w L := h.sub (List.sublist_cons_self a L)

/-- A slice of the call's own is henceforth only read. -/
theorem St.freeze {α : Type} {enc : α → List Value} {sz : Nat} {d : α} [hE : Enc enc sz d] {e : TypeId} {A : Option Addr} {m c : Nat} {xs : List α} (h : St B we w L) (hr : Repl (own enc sz e A m c xs) (sl enc sz A m c xs) L L') (hl : m ≤ 140737488351232) : St B we w L' := by
  have ho := h.ok _ hr.mem
  refine h.write hr rfl (fun b _ _ => rfl) rfl rfl rfl (Nat.le_refl _) (own_sl ho hl) fun b ⟨ad, e1, e2, _⟩ => .inl ⟨ad, e1, e2⟩

/-- A part of what is read. -/
theorem St.take {α : Type} {enc : α → List Value} {sz : Nat} {A : Option Addr} {m c : Nat} {xs : List α} (h : St B we w L) (hm : sl enc sz A m c xs ∈ L) (k : Nat) (hk : k ≤ m) : St B we w (sl enc sz A k c (xs.take k) :: L) := by
  have hp := h.ok _ hm
  refine ⟨h.below, h.base, fun x hx => ?_, fun x hx hmx => ?_, List.pairwise_cons.2 ⟨fun x hx hor b hb hxb => ?_, h.apart⟩⟩
  · rcases List.mem_cons.1 hx with rfl | hx
    · refine ⟨⟨by have := hp.1.1; simp; omega, by have := hp.1.2; omega⟩, by have := hp.2.1; omega, fun i y hi j u hj => ?_⟩
      rw [List.getElem?_take] at hi
      split at hi
      · exact hp.2.2 i y hi j u hj
      · cases hi
    · exact h.ok x hx
  · rcases List.mem_cons.1 hx with rfl | hx
    · cases hmx
    · exact h.ge x hx hmx
  · rcases hor with ho | ho
    · cases ho
    · -- x is the call's own, and apart from the whole
      obtain ⟨ad, e1, e2, i, y, j, u, hi, hj⟩ := hb
      rw [List.getElem?_take] at hi
      split at hi
      · have hfull : (sl enc sz A m c xs).fp b := ⟨ad, e1, e2, i, y, j, u, hi, hj⟩
        have hne : x ≠ sl enc sz A m c xs := fun e => by subst e; cases ho
        -- pairwise, in whatever order
        have := List.pairwise_iff_getElem.1 h.apart
        obtain ⟨i1, hi1, e1'⟩ := List.mem_iff_getElem.1 hx
        obtain ⟨i2, hi2, e2'⟩ := List.mem_iff_getElem.1 hm
        rcases Nat.lt_trichotomy i1 i2 with hlt | heq | hgt
        · have h3 := this i1 i2 hi1 hi2 hlt
          rw [e1', e2'] at h3
          exact h3 (.inl ho) b hxb hfull
        · subst heq; rw [e1'] at e2'; exact hne e2'
        · have h3 := this i2 i1 hi2 hi1 hgt
          rw [e1', e2'] at h3
          exact h3 (.inr ho) b hfull hxb
      · cases hi

/-- A slice that is nil is the call's own. -/
theorem St.nil {α : Type} (enc : α → List Value) (sz : Nat) (e : TypeId) (h : St B we w L) : St B we w (own enc sz e none 0 0 [] :: L) := by
  refine ⟨h.below, h.base, fun x hx => ?_, fun x hx hmx b hb => ?_, List.pairwise_cons.2 ⟨fun x _ _ b hb _ => ?_, h.apart⟩⟩
  · rcases List.mem_cons.1 hx with rfl | hx
    · exact ⟨rfl, World.ownsRow_nil w 0 e sz⟩
    · exact h.ok x hx
  · rcases List.mem_cons.1 hx with rfl | hx
    · obtain ⟨ad, e1, _⟩ := hb; cases e1
    · exact h.ge x hx hmx b hb
  · obtain ⟨ad, e1, _⟩ := hb; cases e1
/-- A slice that is nil can be read. -/
theorem St.nils {α : Type} (enc : α → List Value) (sz : Nat) (h : St B we w L) : St B we w (sl enc sz none 0 0 [] :: L) :=
  h.arg _ ⟨⟨rfl, Nat.le_refl _⟩, Nat.zero_le _, fun i x hi => by simp at hi⟩ rfl fun b ⟨ad, e1, _⟩ => by cases e1
/-- Two facts change places. -/
theorem St.swap {a a' : Asn} (h : St B we w (a :: a' :: L)) : St B we w (a' :: a :: L) := by
  refine ⟨h.below, h.base, fun x hx => h.ok x ?_, fun x hx => h.ge x ?_, ?_⟩
  · simp only [List.mem_cons] at hx ⊢; rcases hx with h | h | h <;> simp [h]
  · simp only [List.mem_cons] at hx ⊢; rcases hx with h | h | h <;> simp [h]
  · have hp := h.apart
    simp only [List.pairwise_cons, List.mem_cons] at hp ⊢
    exact ⟨fun x hx => by
      rcases hx with rfl | hx
      · exact fun ho b h1 h2 => hp.1 a' (.inl rfl) (ho.symm) b h2 h1
      · exact hp.2.1 x hx, fun x hx => hp.1 x (.inr hx), hp.2.2⟩
theorem St.drop2 {a a' : Asn} (h : St B we w (a :: a' :: L)) : St B we w (a :: L) := h.swap.tail

end
end Go.Proofs.Ytnpgeohkmdcbkaa.Aq
