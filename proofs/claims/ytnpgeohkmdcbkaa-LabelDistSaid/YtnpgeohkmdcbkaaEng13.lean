/- The engine, part 13: append of what may be empty. -/
import Derived.Test.YtnpgeohkmdcbkaaEng12
import Derived.Deep.Upon
namespace Go.Proofs.Ytnpgeohkmdcbkaa.Aq
open Go Go.RowKit

section
variable {P : Program} {n : Nat} {ops : Array Oper} {Q : Exit → Act → World → Prop} {l : List Oper} {E : Env} {o : Oper} {w : World} {x y : Operand} {B : Nat} {we : World} {L : List Asn}

theorem lw_append0 {α : Type} {enc : α → List Value} {sz : Nat} {d : α} [hE : Enc enc sz d] {A A2 : Option Addr} {e : TypeId} {m1 m2 c c2 bytes : Nat} {xs ys : List α} {t : TypeId} {z : Value} (hd : dstOk n o = true) (hg : o.guard = none)
    (ho : o.op = .call { callee := .builtin .append, args := #[x, y], argTypes := #[t, t] }) (hu : P.underlying t = some (.slice e)) (hinfo : (P.info? e).map (fun i => (i.zero, i.size, i.bytes)) = some (some z, sz, bytes)) (hz : z.cells.size = sz)
    (hx : E.at none x = some (.slice A m1 c)) (hy : E.at none y = some (.slice A2 m2 c2)) (hS : St B we w L) [hb : HasOwn L A enc sz e m1 c xs] [hb2 : HasSl L A2 enc sz m2 c2 ys] (hl : (m1 + m2) * bytes ≤ 140737488355328) (hl2 : m1 + m2 ≤ 140737488355328)
    (hn : ∀ A' c' w', (∀ L', Repl (own enc sz e A m1 c xs) (own enc sz e A' (xs ++ ys).length c' (xs ++ ys)) L L' → St B we w' L') → LW P n ops Q l (E.exact.updo o.dst (.eq (.slice A' (xs ++ ys).length c'))) w') : LW P n ops Q (o :: l) E w := by
  rcases Nat.eq_zero_or_pos m2 with hm | hm
  · subst hm
    have hl3 : ys.length = 0 := hS.len hb2.mem
    obtain rfl : ys = [] := List.eq_nil_of_length_eq_zero hl3
    have hl1 : xs.length = m1 := (hS.ok _ hb.mem).1
    have hle := hS.cap (A := A) (enc := enc) (sz := sz) (m := m1) (c := c) (xs := xs) (.inr ⟨e, hb.mem⟩)
    refine lw_w hd hg fun a _ hs => ?_
    have e1 := hs.ev hx
    have e2 := hs.ev hy
    obtain ⟨i0, hi, hzz⟩ := Option.map_eq_some_iff.1 hinfo
    simp only [Prod.mk.injEq] at hzz
    obtain ⟨hz0, hz1, hz2⟩ := hzz
    have hsrc : Src P i0.size t (.slice A2 0 c2) 0 [] w := by
      cases A2 with
      | none => exact Src.ofNil w hu c2
      | some ad => exact Src.ofSlice w hu ad 0 c2 [] (by simp) (fun j u h => by simp at h) (fun u h => by cases h)
    have hr := run_append_nothing w t t o.type e i0 hu hi A m1 c hle _ hsrc
    have hrun : (execOp a.eval o).run P w = .ok (.value (.slice A m1 c)) w := by
      unfold execOp
      simp only [ho, resolve, invoke, builtin, Sem.run_bind, Sem.run_pure, Result.andThen_ok, List.map_toArray, List.map_cons, List.map_nil, e1, e2, hr]
    unfold OpR
    rw [hrun]
    have := hn A c w fun L' hL' => by
      have e4 : (own enc sz e A (xs ++ []).length c (xs ++ [])) = own enc sz e A m1 c xs := by rw [List.append_nil, hl1]
      rw [e4] at hL'
      exact hS.write hL' (by rfl) (fun b _ _ => rfl) rfl rfl rfl (Nat.le_refl _) (hS.ok _ hb.mem) fun b hb => .inl hb
    rw [List.append_nil, hl1] at this
    exact this
  · exact lw_append hd hg ho hu hinfo hz hx hy hS hm hl hl2 hn
end
end Go.Proofs.Ytnpgeohkmdcbkaa.Aq
namespace Go.Proofs.Ytnpgeohkmdcbkaa.Aq
open Go Go.RowKit
section
variable {P : Program} {n : Nat} {ops : Array Oper} {S : World → Prop} {E : Env} {o : Oper}
/-- A choice that is guarded, by what is guarded alike. -/
theorem ok_pickg {s s0 : Nat} {b0 v : Bool} {a b : Operand} {va vb : Value} (ho : o.op = .pick (.tmp s) a b) (hg : GuardIs ops o (some (s0, b0))) (hs : E s = some (.gd s0 b0 (.bool v))) (ha : E.at (some (s, true)) a = some va) (hb : E.at (some (s, false)) b = some vb) :
    OpV P n ops S E o (.gd s0 b0 (if v = true then va else vb)) where
  shape := fun s' want c' he => by
    cases hg with
    | s h1 h2 => cases he; exact ⟨_, _, h1, h2⟩
  run := fun act w hn hsat _ hw => by
    have h0 := (wanted_guard hg).1 hw
    have hsl : s ∈ o.looksAt ops := look_tmp (by rw [ho]; simp [Op.operands])
    have hv : tm act s = .bool v := (hsat s hsl _ hs).1 h0
    have key : ∀ (z : Operand) (bz : Bool) (vz : Value), z ∈ o.op.operands → E.at (some (s, bz)) z = some vz → v = bz → act.eval z = vz := by
      intro z bz vz hz hez he
      subst he
      exact agree_of (g := some (s, v)) hsat (fun s' b' h => by cases h; exact hv) z hz vz hez
    refine ⟨if v = true then va else vb, ?_, ⟨fun _ => rfl, fun hne => absurd h0 hne⟩⟩
    have e1 : act.eval (.tmp s) = .bool v := hv
    cases v with
    | true =>
      have := key a true va (by rw [ho]; simp [Op.operands]) ha rfl
      simp only [execOp, ho, e1, this, asBool]
      simp [go_sem]
    | false =>
      have := key b false vb (by rw [ho]; simp [Op.operands]) hb rfl
      simp only [execOp, ho, e1, this, asBool]
      simp [go_sem]
  skip := fun act w hn hsat _ hw => by
    refine ⟨fun ht => ?_, fun _ => rfl⟩
    have := (wanted_guard hg).2 ht
    rw [hw] at this
    cases this
theorem ok_andg {s s0 : Nat} {b0 v u : Bool} {a : Operand} (ho : o.op = .pick (.tmp s) a (.const (.bool false))) (hg : GuardIs ops o (some (s0, b0))) (hs : E s = some (.gd s0 b0 (.bool v))) (ha : E.at (some (s, true)) a = some (.bool u)) : OpV P n ops S E o (.gd s0 b0 (.bool (v && u))) := by
  have h := ok_pickg (P := P) (n := n) (S := S) ho hg hs ha (b := .const (.bool false)) (vb := .bool false) rfl
  have e : (if v = true then Value.bool u else Value.bool false) = .bool (v && u) := by cases v <;> rfl
  rw [e] at h
  exact h
theorem ok_org {s s0 : Nat} {b0 v u : Bool} {a : Operand} (ho : o.op = .pick (.tmp s) (.const (.bool true)) a) (hg : GuardIs ops o (some (s0, b0))) (hs : E s = some (.gd s0 b0 (.bool v))) (ha : E.at (some (s, false)) a = some (.bool u)) : OpV P n ops S E o (.gd s0 b0 (.bool (v || u))) := by
  have h := ok_pickg (P := P) (n := n) (S := S) ho hg hs (a := .const (.bool true)) (va := .bool true) rfl ha
  have e : (if v = true then Value.bool true else Value.bool u) = .bool (v || u) := by cases v <;> rfl
  rw [e] at h
  exact h
end
end Go.Proofs.Ytnpgeohkmdcbkaa.Aq
namespace Go.Proofs.Ytnpgeohkmdcbkaa.Aq
open Go Go.RowKit
/-- A literal slice of nothing. -/
theorem lw_ls0 {P : Program} {n : Nat} {ops : Array Oper} {Q : Exit → Act → World → Prop} {l : List Oper} {E : Env} {o : Oper} {w : World} {B : Nat} {we : World} {L : List Asn} {α : Type} {enc : α → List Value} {sz : Nat} {d : α} [hE : Enc enc sz d] {t e : TypeId} (hd : dstOk n o = true) (hg : o.guard = none)
    (ho : o.op = .buildSlice t 0 #[]) (hu : P.underlying t = some (.slice e)) (hsz : ∀ w, (sizeOf e).run P w = .ok sz w) (hS : St B we w L)
    (hn : ∀ A c w', Gr w w' → St B we w' (own enc sz e A 0 c [] :: L) → LW P n ops Q l (E.updo o.dst (.eq (.slice A 0 c))) w') : LW P n ops Q (o :: l) E w :=
  lw_g hd hg fun a _ hs => by
    have hrun : (execOp a.eval o).run P w = .ok (.value (.slice (some ⟨w.heap.size, 0, none⟩) 0 0)) (w.alloc (.cells #[] e)) := by
      simp only [execOp, ho, Instr.buildSlice, Sem.run_bind, run_underlying hu, Result.andThen_ok, hsz]
      rw [if_neg (by omega)]
      simp only [Nat.zero_mul, if_true, Sem.run_bind, Sem.run_pure, Result.andThen_ok, pure_bind]
      have e0 : (Array.range 0 : Array Nat) = #[] := rfl
      rw [e0]
      simp only [List.map_toArray, List.map_nil, Instr.fill]
      rfl
    unfold OpR
    rw [hrun]
    refine ⟨gr_alloc _ _, hn _ _ _ (gr_alloc _ _) (hS.new (gr_alloc _ _) _ ?_ fun b ⟨ad, e1, e2⟩ => by injection e1 with e1; subst e1; subst e2; exact Nat.le_refl _)⟩
    have := World.ownsRow_lit (base := 0) (e := e) (size := sz) w #[] 0 (Nat.zero_le _) (Nat.zero_le _) (by simp)
    exact ⟨rfl, this⟩
end Go.Proofs.Ytnpgeohkmdcbkaa.Aq
