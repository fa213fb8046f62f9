/- The engine, part 4: loads, addresses. -/
import Derived.Test.YtnpgeohkmdcbkaaEng3
namespace Go.Proofs.Ytnpgeohkmdcbkaa.Aq
open Go Go.RowKit

theorem add_lit (b k m : Nat) : (⟨b, k, none⟩ : Addr).add m = ⟨b, k + m, none⟩ := by
  unfold Addr.add
  split
  · rename_i h; subst h; rfl
  · rfl
theorem add_add (a : Addr) (k m : Nat) : (a.add k).add m = a.add (k + m) := by
  unfold Addr.add
  by_cases h1 : k = 0
  · subst h1; simp
  · by_cases h2 : m = 0
    · subst h2; simp [h1]
    · simp [h1, h2, Nat.add_assoc]

section
variable {P : Program} {n : Nat} {ops : Array Oper} {S : World → Prop} {E : Env} {o : Oper} {g : Option (Nat × Bool)} {x y : Operand} {v u : Value}
variable {B : Nat} {we w0 : World} {L : List Asn}

theorem bx_cell {b k : Nat} {cs : List Value} {t : TypeId} {w : World} (h : (bx b cs t).p w) (hk : k < cs.length) : w.cell? ⟨b, k, none⟩ = some (cs.getD k undef) := by
  have h' : w.heap[b]? = some (.cells cs.toArray t (0, 0)) := h
  simp [World.cell?, h', List.getD_eq_getElem?_getD, hk]

theorem St.bx {B : Nat} {we w : World} {L : List Asn} (h : St B we w L) {b : Nat} {cs : List Value} {t : TypeId} [hb : HasBx L b cs t] : (bx b cs t).p w := hb.get h.ok

theorem ok_fb {t : TypeId} {fs : Array Field} {i b k s : Nat} {f : Field} (ho : o.op = .fieldAddr t x i) (hg : GuardIs ops o g) (hu : P.underlying t = some (.struct fs)) (hf : fs[i]? = some f) (hs : ∀ w, (sizeOf f.type).run P w = .ok s w) (h0 : s ≠ 0)
    (hx : E.at g x = some (.pointer (some ⟨b, k, none⟩))) : OpV P n ops S E o (PV.of g (.pointer (some ⟨b, k + f.offset, none⟩))) :=
  ok_val1 hg hx (by rw [ho]; simp [Op.operands]) fun ρ w h1 _ _ => by
    simp [execOp, ho, h1, Instr.fieldAt, Instr.sureAddr, run_underlying hu, hf, fieldPlace, hs, h0, add_lit, go_sem]

theorem ok_ldb {t tt : TypeId} {b k : Nat} {cs : List Value} (ho : o.op = .load t x) (hg : GuardIs ops o g) (hx : E.at g x = some (.pointer (some ⟨b, k, none⟩))) (hagg : ∀ w, (isAgg t).run P w = .ok false w)
    (hS : St B we w0 L) [hb : HasBx L b cs tt] (hk : Nat.blt k cs.length = true) : OpV P n ops (Gr w0) E o (PV.of g (cs.getD k undef)) :=
  ok_val1 hg hx (by rw [ho]; simp [Op.operands]) fun ρ w h1 hw _ => by
    have hc := Gr.cell hw (bx_cell (hS.bx (b := b) (cs := cs) (t := tt)) (of_blt hk))
    simp [execOp, ho, h1, Instr.loadAt, Instr.sureAddr, loadVar, hagg, hc, go_sem]

theorem ok_ldS {t tt : TypeId} {b : Nat} {cs : List Value} {m : Nat} (ho : o.op = .load t x) (hg : GuardIs ops o g) (hx : E.at g x = some (.pointer (some ⟨b, 0, none⟩))) (hagg : ∀ w, (isAgg t).run P w = .ok true w) (hs : ∀ w, (sizeOf t).run P w = .ok m w)
    (hS : St B we w0 L) [hb : HasBx L b cs tt] (hk : cs.length = m) : OpV P n ops (Gr w0) E o (PV.of g (.agg cs.toArray)) :=
  ok_val1 hg hx (by rw [ho]; simp [Op.operands]) fun ρ w h1 hw _ => by
    subst hk
    have hc := run_loadCells_list (P := P) w ⟨b, 0, none⟩ cs fun k v hk => by
      have hk' := (List.getElem?_eq_some_iff.1 hk).1
      have := Gr.cell hw (bx_cell (hS.bx (b := b) (cs := cs) (t := tt)) hk')
      rw [add_lit, Nat.zero_add, this, List.getD_eq_getElem?_getD, hk]
      rfl
    simp only [loadCells] at hc
    simp [execOp, ho, h1, Instr.loadAt, Instr.sureAddr, loadVar, hagg, hs, hc, go_sem]

variable {α : Type} {enc : α → List Value} {sz : Nat} {d : α} {A : Option Addr} {m0 c : Nat} {xs : List α}

theorem getD_some {α : Type} {xs : List α} {i : Nat} (d : α) (h : i < xs.length) : xs[i]? = some (xs.getD i d) := by
  simp [List.getD_eq_getElem?_getD, h]

theorem St.nn [hE : Enc enc sz d] (hS : St B we w0 L) [hb : HasSl L A enc sz m0 c xs] (hn0 : 0 < m0) : A.isSome = true := by
  have hn : 0 < xs.length := by rw [hS.len hb.mem]; exact hn0
  have h0 : xs[0]? = some xs[0] := List.getElem?_eq_getElem hn
  have hl := hE.len xs[0]
  have hp := hE.pos
  obtain ⟨ad, e, _⟩ := hS.cellAt hb.mem 0 _ h0 0 _ (List.getElem?_eq_getElem (by omega : 0 < (enc xs[0]).length))
  rw [e]; rfl

theorem ok_ix [hE : Enc enc sz d] {t e : TypeId} {k : IntKind} {i : Int} (ho : o.op = .indexAddr t x y) (hg : GuardIs ops o g) (hu : P.underlying t = some (.slice e)) (hs : ∀ w, (sizeOf e).run P w = .ok sz w)
    (hx : E.at g x = some (.slice A m0 c)) (hy : E.at g y = some (.int k i)) (hS : St B we w0 L) [hb : HasSl L A enc sz m0 c xs] (hi : E.gc g → 0 ≤ i ∧ i < m0) :
    OpV P n ops (Gr w0) E o (PV.of g (pat A i sz 0)) :=
  ok_val2 hg hx hy (by rw [ho]; simp [Op.operands]) (by rw [ho]; simp [Op.operands]) fun ρ w h1 h2 _ hc => by
    obtain ⟨i0, i1⟩ := hi hc
    obtain ⟨ad, rfl⟩ := Option.isSome_iff_exists.1 (hS.nn (A := A) (enc := enc) (sz := sz) (d := d) (m0 := m0) (c := c) (xs := xs) (by omega))
    simp [execOp, ho, h1, h2, pat, Instr.indexAt, asIntOf, run_underlying hu, i0, i1, hs, go_sem]

theorem ok_fx [hE : Enc enc sz d] {t : TypeId} {fs : Array Field} {i s off : Nat} {j : Int} {f : Field} (ho : o.op = .fieldAddr t x i) (hg : GuardIs ops o g) (hu : P.underlying t = some (.struct fs)) (hf : fs[i]? = some f) (hs : ∀ w, (sizeOf f.type).run P w = .ok s w) (h0 : s ≠ 0)
    (hx : E.at g x = some (pat A j sz off)) (hS : St B we w0 L) [hb : HasSl L A enc sz m0 c xs] (hi : E.gc g → 0 ≤ j ∧ j < m0) : OpV P n ops (Gr w0) E o (PV.of g (pat A j sz (off + f.offset))) :=
  ok_val1 hg hx (by rw [ho]; simp [Op.operands]) fun ρ w h1 _ hc => by
    obtain ⟨i0, i1⟩ := hi hc
    obtain ⟨ad, rfl⟩ := Option.isSome_iff_exists.1 (hS.nn (A := A) (enc := enc) (sz := sz) (d := d) (m0 := m0) (c := c) (xs := xs) (by omega))
    simp [execOp, ho, h1, pat, Instr.fieldAt, Instr.sureAddr, run_underlying hu, hf, fieldPlace, hs, h0, add_add, Nat.add_assoc, go_sem]

theorem ok_ldx [hE : Enc enc sz d] {t : TypeId} {i : Int} {off : Nat} (ho : o.op = .load t x) (hg : GuardIs ops o g) (hx : E.at g x = some (pat A i sz off)) (hagg : ∀ w, (isAgg t).run P w = .ok false w)
    (hS : St B we w0 L) [hb : HasSl L A enc sz m0 c xs] (hi : E.gc g → 0 ≤ i ∧ i < m0) (hoff : Nat.blt off sz = true) :
    OpV P n ops (Gr w0) E o (PV.of g ((enc (xs.getD i.toNat d)).getD off undef)) :=
  ok_val1 hg hx (by rw [ho]; simp [Op.operands]) fun ρ w h1 hw hc => by
    obtain ⟨i0, i1⟩ := hi hc
    have hlt : i.toNat < xs.length := by rw [hS.len hb.mem]; omega
    have ho' : off < (enc (xs.getD i.toNat d)).length := by rw [hE.len]; exact of_blt hoff
    obtain ⟨ad, rfl, hcell⟩ := hS.cellAt hb.mem i.toNat _ (getD_some d hlt) off _ (getD_some undef ho')
    have hcell := Gr.cell hw hcell
    simp [execOp, ho, h1, pat, Instr.loadAt, Instr.sureAddr, loadVar, hagg, hcell, go_sem]

theorem ok_ldxS [hE : Enc enc sz d] {t : TypeId} {i : Int} (ho : o.op = .load t x) (hg : GuardIs ops o g) (hx : E.at g x = some (pat A i sz 0)) (hagg : ∀ w, (isAgg t).run P w = .ok true w) (hs : ∀ w, (sizeOf t).run P w = .ok sz w)
    (hS : St B we w0 L) [hb : HasSl L A enc sz m0 c xs] (hi : E.gc g → 0 ≤ i ∧ i < m0) :
    OpV P n ops (Gr w0) E o (PV.of g (.agg (enc (xs.getD i.toNat d)).toArray)) :=
  ok_val1 hg hx (by rw [ho]; simp [Op.operands]) fun ρ w h1 hw hc => by
    obtain ⟨i0, i1⟩ := hi hc
    have hlt : i.toNat < xs.length := by rw [hS.len hb.mem]; omega
    have hA := hS.nn (A := A) (enc := enc) (sz := sz) (d := d) (m0 := m0) (c := c) (xs := xs) (by omega)
    obtain ⟨ad, rfl⟩ := Option.isSome_iff_exists.1 hA
    have hcs := run_loadCells_list (P := P) w (ad.add (i.toNat * sz)) (enc (xs.getD i.toNat d)) fun k v hk => by
      obtain ⟨ad', e', hcell⟩ := hS.cellAt hb.mem i.toNat _ (getD_some d hlt) k _ hk
      injection e' with e'
      subst e'
      rw [add_add]
      exact Gr.cell hw hcell
    rw [hE.len] at hcs
    simp only [loadCells] at hcs
    simp [execOp, ho, h1, pat, Instr.loadAt, Instr.sureAddr, loadVar, hagg, hs, hcs, go_sem]

theorem ok_nil {a : Addr} (ho : o.op = .nilCheck x) (hg : GuardIs ops o g) (hx : E.at g x = some (.pointer (some a))) : OpV P n ops S E o (PV.of g (.pointer (some a))) :=
  ok_val1 hg hx (by rw [ho]; simp [Op.operands]) fun ρ w h1 _ _ => by
    simp [execOp, ho, h1, go_sem]

theorem ok_pick {s : Nat} {b0 : Bool} {a b : Operand} {va vb : Value} (ho : o.op = .pick (.tmp s) a b) (hg : o.guard = none) (hs : E s = some (.eq (.bool b0))) (ha : E.at (some (s, true)) a = some va) (hb : E.at (some (s, false)) b = some vb) :
    OpV P n ops S E o (.eq (if b0 = true then va else vb)) where
  shape := fun _ _ _ he => by cases he
  run := fun act w hn hsat _ _ => by
    have hsl : s ∈ o.looksAt ops := look_tmp (by rw [ho]; simp [Op.operands])
    have hv : tm act s = .bool b0 := hsat s hsl _ hs
    have key : ∀ (z : Operand) (bz : Bool) (vz : Value), z ∈ o.op.operands → E.at (some (s, bz)) z = some vz → b0 = bz → act.eval z = vz := by
      intro z bz vz hz hez he
      subst he
      exact agree_of (g := some (s, b0)) hsat (fun s' b' h => by cases h; exact hv) z hz vz hez
    refine ⟨_, ?_, rfl⟩
    have e1 : act.eval (.tmp s) = .bool b0 := hv
    cases b0 with
    | true =>
      have := key a true va (by rw [ho]; simp [Op.operands]) ha rfl
      simp only [execOp, ho, e1, this, asBool]
      simp [go_sem]
    | false =>
      have := key b false vb (by rw [ho]; simp [Op.operands]) hb rfl
      simp only [execOp, ho, e1, this, asBool]
      simp [go_sem]
  skip := fun act w _ _ _ hw => by simp [Region.wanted, hg] at hw

theorem ok_and {s : Nat} {b0 b1 : Bool} {a : Operand} (ho : o.op = .pick (.tmp s) a (.const (.bool false))) (hg : o.guard = none) (hs : E s = some (.eq (.bool b0))) (ha : E.at (some (s, true)) a = some (.bool b1)) :
    OpV P n ops S E o (.eq (.bool (b0 && b1))) := by
  have h := ok_pick (P := P) (n := n) (ops := ops) (S := S) ho hg hs ha (b := .const (.bool false)) (vb := .bool false) rfl
  have e : (if b0 = true then Value.bool b1 else Value.bool false) = .bool (b0 && b1) := by cases b0 <;> rfl
  rw [e] at h
  exact h
theorem ok_or {s : Nat} {b0 b1 : Bool} {a : Operand} (ho : o.op = .pick (.tmp s) (.const (.bool true)) a) (hg : o.guard = none) (hs : E s = some (.eq (.bool b0))) (ha : E.at (some (s, false)) a = some (.bool b1)) :
    OpV P n ops S E o (.eq (.bool (b0 || b1))) := by
  have h := ok_pick (P := P) (n := n) (ops := ops) (S := S) ho hg hs (a := .const (.bool true)) (va := .bool true) rfl ha
  have e : (if b0 = true then Value.bool true else Value.bool b1) = .bool (b0 || b1) := by cases b0 <;> rfl
  rw [e] at h
  exact h
end
end Go.Proofs.Ytnpgeohkmdcbkaa.Aq
