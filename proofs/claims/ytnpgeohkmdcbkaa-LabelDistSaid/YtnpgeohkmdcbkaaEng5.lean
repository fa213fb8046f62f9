/- The engine, part 5: operations that change memory; calls; code. -/
import Derived.Test.YtnpgeohkmdcbkaaEng4
import Derived.Maps.AppendAt
import Derived.Deep.OwnRows
namespace Go.Proofs.Ytnpgeohkmdcbkaa.Aq
open Go Go.RowKit

theorem Sat.ev {E : Env} {a : Act} {w : World} (hs : Sat E a w) {x : Operand} {v : Value} (h : E.at none x = some v) : a.eval x = v := by
  cases x with
  | const c => simp only [Env.at, Option.some.injEq] at h; exact h
  | func f => simp only [Env.at, Option.some.injEq] at h; exact h
  | global k => simp [Env.at] at h
  | tmp t =>
    simp only [Env.at] at h
    show tm a t = v
    cases he : E t with
    | none => rw [he] at h; simp at h
    | some p =>
      have hp := hs t p he
      rw [he] at h
      cases p with
      | eq c => simp only [Option.some.injEq] at h; subst h; exact hp
      | sat F => simp at h
      | gd s b c => simp at h

/-- Operands one by one. -/
def Env.all (E : Env) (g : Option (Nat × Bool)) : List Operand → Option (List Value)
  | [] => some []
  | x :: l => match E.at g x, E.all g l with
    | some v, some vs => some (v :: vs)
    | _, _ => none
theorem Sat.evs {E : Env} {a : Act} {w : World} (hs : Sat E a w) : ∀ {l : List Operand} {vs : List Value}, E.all none l = some vs → l.map a.eval = vs
  | [], vs, h => by simp [Env.all] at h; subst h; rfl
  | x :: l, vs, h => by
    simp only [Env.all] at h
    cases h1 : E.at none x with
    | none => rw [h1] at h; simp at h
    | some v =>
      cases h2 : E.all none l with
      | none => rw [h1, h2] at h; simp at h
      | some us =>
        rw [h1, h2] at h
        simp only [Option.some.injEq] at h
        subst h
        rw [List.map_cons, hs.ev h1, hs.evs h2]

theorem gr_alloc (w : World) (o : Obj) : Gr w (w.alloc o) := ⟨rfl, rfl, rfl, by simp, fun k hk => Below.heap_alloc w o k hk⟩

section
variable {P : Program} {n : Nat} {ops : Array Oper} {Q : Exit → Act → World → Prop} {l : List Oper} {E : Env} {o : Oper} {w : World} {x y : Operand} {v u : Value}
variable {B : Nat} {we : World} {L L' : List Asn}

/-- An operation behind which all old memory lies as it lay. -/
theorem lw_g (hd : dstOk n o = true) (hg : o.guard = none) (h : ∀ a : Act, a.tmps.size = n → Sat E a w → OpR P o a.eval w fun v w' => Gr w w' ∧ LW P n ops Q l (E.updo o.dst (.eq v)) w') : LW P n ops Q (o :: l) E w := by
  intro a ha hn hs
  have hd' : ∀ x, o.dst = some x → x < n := fun x hx => by
    unfold dstOk at hd
    rw [hx] at hd
    exact of_blt hd
  unfold wpList
  rw [if_pos (by simp [Region.wanted, hg])]
  refine .inl ((h a hn hs).wp fun v w' ⟨g, hl⟩ => hl _ (by rw [put_defers]; exact ha) (by rw [put_size]; exact hn) ?_)
  exact (hs.grow g).updo hn hd' rfl

theorem bx_new (w : World) (cs : Array Value) (t : TypeId) : (bx w.heap.size cs.toList t).p (w.alloc (.cells cs t)) := by
  show (w.alloc (.cells cs t)).heap[w.heap.size]? = some (.cells cs.toList.toArray t (0, 0))
  exact heap_alloc_new w _

theorem lw_box {t : TypeId} (hd : dstOk n o = true) (hg : o.guard = none) (ho : o.op = .box t x) (hx : E.at none x = some v) (hS : St B we w L)
    (hk : ∀ b w', w.heap.size ≤ b → Gr w w' → St B we w' (bx b v.cells.toList t :: L) → LW P n ops Q l (E.updo o.dst (.eq (.pointer (some ⟨b, 0, none⟩)))) w') : LW P n ops Q (o :: l) E w :=
  lw_g hd hg fun a hn hs => by
    have e := hs.ev hx
    have hr : (execOp a.eval o).run P w = .ok (.value (.pointer (some ⟨w.heap.size, 0, none⟩))) (w.alloc (.cells v.cells t)) := by
      simp only [execOp, ho, e, Instr.box, newVar, newRow, newObj]
      rfl
    unfold OpR
    rw [hr]
    exact ⟨gr_alloc _ _, hk _ _ (Nat.le_refl _) (gr_alloc _ _) (hS.new (gr_alloc _ _) _ (bx_new w v.cells t) fun b hb => by rw [show b = w.heap.size from hb]; exact Nat.le_refl _)⟩

theorem lw_alloc {t : TypeId} {z : Value} (hd : dstOk n o = true) (hg : o.guard = none) (ho : o.op = .alloc t) (hz : ∀ w, (zeroValue t).run P w = .ok z w) (hS : St B we w L)
    (hk : ∀ b w', w.heap.size ≤ b → Gr w w' → St B we w' (bx b z.cells.toList t :: L) → LW P n ops Q l (E.updo o.dst (.eq (.pointer (some ⟨b, 0, none⟩)))) w') : LW P n ops Q (o :: l) E w :=
  lw_g hd hg fun a hn hs => by
    have hr : (execOp a.eval o).run P w = .ok (.value (.pointer (some ⟨w.heap.size, 0, none⟩))) (w.alloc (.cells z.cells t)) := by
      simp only [execOp, ho, Instr.alloc, Sem.run_bind, hz, Result.andThen_ok]
      rfl
    unfold OpR
    rw [hr]
    exact ⟨gr_alloc _ _, hk _ _ (Nat.le_refl _) (gr_alloc _ _) (hS.new (gr_alloc _ _) _ (bx_new w z.cells t) fun b hb => by rw [show b = w.heap.size from hb]; exact Nat.le_refl _)⟩

theorem setCell_other (w : World) (b k : Nat) (u : Value) (j : Nat) (h : j ≠ b) : (w.setCell ⟨b, k, none⟩ u).heap[j]? = w.heap[j]? := Below.heap_setCell w ⟨b, k, none⟩ u j h

theorem bx_set {b k : Nat} {cs : List Value} {t : TypeId} {w : World} (u : Value) (h : (bx b cs t).p w) : (bx b (cs.set k u) t).p (w.setCell ⟨b, k, none⟩ u) := by
  have h' : w.heap[b]? = some (.cells cs.toArray t (0, 0)) := h
  show (w.setCell ⟨b, k, none⟩ u).heap[b]? = some (.cells (cs.set k u).toArray t (0, 0))
  simp [World.setCell, Array.getElem?_modify, h']

theorem one_cells {u : Value} (h : u.oneCell' = true) : u.cells = #[u] := by cases u <;> first | rfl | simp [Value.oneCell'] at h

/-- A store of one cell into a block known whole. -/
theorem lw_st {t tt : TypeId} {b k : Nat} {cs : List Value} (hd : dstOk n o = true) (hg : o.guard = none) (ho : o.op = .store t x y) (hx : E.at none x = some (.pointer (some ⟨b, k, none⟩))) (hy : E.at none y = some u) (h1 : u.oneCell' = true)
    (hs1 : ∀ w, (sizeOf t).run P w = .ok 1 w) (hS : St B we w L) [hb : HasBx L b cs tt] (hk : Nat.blt k cs.length = true) [hr : Rep (bx b cs tt) (bx b (cs.set k u) tt) L L']
    (hn : ∀ w', St B we w' L' → LW P n ops Q l (E.exact.updo o.dst (.eq undef)) w') : LW P n ops Q (o :: l) E w :=
  lw_w hd hg fun a _ hs => by
    have e1 := hs.ev hx
    have e2 := hs.ev hy
    have hbx := hS.bx (b := b) (cs := cs) (t := tt)
    have hc := bx_cell hbx (of_blt hk)
    have hb' : w.heap[b]? = some (.cells cs.toArray tt (0, 0)) := hbx
    have hfz : w.frozen? ⟨b, k, none⟩ = false := by simp [World.frozen?, hb']
    have hrun : (execOp a.eval o).run P w = .ok .skip (w.setCell ⟨b, k, none⟩ u) := by
      simp only [execOp, ho, e1, e2, Instr.storeAt, Instr.sureAddr, storeVar, one_cells h1, Sem.run_bind, Sem.run_pure, Result.andThen_ok, hs1]
      simp only [List.size_toArray, List.length_cons, List.length_nil, Nat.zero_add, ne_eq, not_true_eq_false, if_false]
      simp only [storeCells, Sem.run_bind, add_lit, Nat.add_zero, run_store P w _ u _ h1, stored, hc, hfz]
      simp [go_sem]
    unfold OpR
    rw [hrun]
    refine hn _ (hS.write hr.r rfl (fun j _ hj => setCell_other w b k u j hj) rfl rfl rfl (by simp [World.setCell]) (bx_set u hbx) fun j hj => .inl hj)

theorem bx_row {b : Nat} {cs : List Value} {t : TypeId} {w : World} (us : Array Value) (h : (bx b cs t).p w) : (bx b us.toList t).p (w.setRow b us) := by
  have h' : w.heap[b]? = some (.cells cs.toArray t (0, 0)) := h
  show (w.setRow b us).heap[b]? = some (.cells us.toList.toArray t (0, 0))
  have := setRow_heap w b cs.toArray us t _ h'
  simpa using this

/-- A store of a whole struct into its block. -/
theorem lw_stS {t tt : TypeId} {b m : Nat} {cs : List Value} {us : Array Value} (hd : dstOk n o = true) (hg : o.guard = none) (ho : o.op = .store t x y) (hx : E.at none x = some (.pointer (some ⟨b, 0, none⟩))) (hy : E.at none y = some (.agg us))
    (hi : (P.info? t).map (·.size) = some m) (hS : St B we w L) [hb : HasBx L b cs tt] (hm : us.size = m) (hcs : cs.length = m) (h1 : us.toList.all (·.oneCell') = true) [hr : Rep (bx b cs tt) (bx b us.toList tt) L L']
    (hn : ∀ w', St B we w' L' → LW P n ops Q l (E.exact.updo o.dst (.eq undef)) w') : LW P n ops Q (o :: l) E w :=
  lw_w hd hg fun a _ hs => by
    have e1 := hs.ev hx
    have e2 := hs.ev hy
    have hbx := hS.bx (b := b) (cs := cs) (t := tt)
    have hb' : w.heap[b]? = some (.cells cs.toArray tt (0, 0)) := hbx
    have hv := run_storeVar_row (P := P) w b tt t cs.toArray us hb' (by rw [hi, hm]) (by simp; omega) (by rw [← Array.all_toList]; exact h1)
    have hrun : (execOp a.eval o).run P w = .ok .skip (w.setRow b us) := by
      simp only [execOp, ho, e1, e2, Instr.storeAt, Instr.sureAddr, Sem.run_bind, Sem.run_pure, Result.andThen_ok, hv]
    unfold OpR
    rw [hrun]
    refine hn _ (hS.write hr.r rfl (fun j _ hj => setRow_other w b j _ (fun e => hj e)) rfl rfl rfl (by simp) (bx_row us hbx) fun j hj => .inl hj)

theorem own_nn {α : Type} {enc : α → List Value} {sz : Nat} {e : TypeId} {A : Option Addr} {m c : Nat} {xs : List α} {w : World} (h : (own enc sz e A m c xs).p w) (hn : 0 < m) :
    ∃ g, A = some ⟨g, 0, none⟩ ∧ w.ownsRow 0 e sz (.slice (some ⟨g, 0, none⟩) m c) m (xs.flatMap enc) := by
  have h' : w.ownsRow 0 e sz (.slice A m c) m (xs.flatMap enc) := h.2
  obtain ⟨g, cap, hv, _⟩ := World.ownsRow.form h' hn
  injection hv with h1 _ _
  subst h1
  exact ⟨g, rfl, h'⟩

theorem flat_set1 {α : Type} {enc : α → List Value} {d : α} [hE : Enc enc 1 d] (xs : List α) (i : Nat) (x : α) (u : Value) (hu : enc x = [u]) : (xs.set i x).flatMap enc = (xs.flatMap enc).set i u := by
  induction xs generalizing i with
  | nil => simp
  | cons y ys ih =>
    obtain ⟨z, hz⟩ : ∃ z, enc y = [z] := by
      have := hE.len y
      match h : enc y, this with
      | [z], _ => exact ⟨z, rfl⟩
    cases i with
    | zero => simp [hu, hz]
    | succ i => simp [hz, ih i]

/-- A store into an element (one cell) of a slice of the call's own. -/
theorem lw_stx {α : Type} {enc : α → List Value} {d : α} [hE : Enc enc 1 d] {A : Option Addr} {e : TypeId} {m c : Nat} {xs : List α} {t : TypeId} {i : Int} (x' : α) (hd : dstOk n o = true) (hg : o.guard = none) (ho : o.op = .store t x y)
    (hx : E.at none x = some (pat A i 1 0)) (hy : E.at none y = some u) (hx' : enc x' = [u]) (hs1 : ∀ w, (sizeOf t).run P w = .ok 1 w) (hS : St B we w L) [hb : HasOwn L A enc 1 e m c xs] (hi : 0 ≤ i ∧ i < m)
    [hr : Rep (own enc 1 e A m c xs) (own enc 1 e A m c (xs.set i.toNat x')) L L'] (hn : ∀ w', St B we w' L' → LW P n ops Q l (E.exact.updo o.dst (.eq undef)) w') : LW P n ops Q (o :: l) E w :=
  lw_w hd hg fun a _ hs => by
    have e1 := hs.ev hx
    have e2 := hs.ev hy
    have hown := hS.ok _ hb.mem
    obtain ⟨g, rfl, h'⟩ := own_nn hown (by omega)
    have h1 : u.oneCell' = true := hE.one x' u (by rw [hx']; simp)
    have hlen : xs.length = m := hown.1
    have hlt : i.toNat < xs.length := by omega
    have hcell := World.ownsRow.cellAt h' i.toNat (by omega)
    have hfl := flat_len (enc := enc) xs
    rw [List.getElem?_eq_getElem (by omega)] at hcell
    have hfz := World.ownsRow.frozenAt h' i.toNat
    obtain ⟨h2, h3⟩ := World.ownsRow.stored h' i.toNat u
    have hrun : (execOp a.eval o).run P w = .ok .skip (w.setCell ⟨g, i.toNat, none⟩ u) := by
      have e3 : pat (some ⟨g, 0, none⟩) i 1 0 = .pointer (some ⟨g, i.toNat, none⟩) := by simp [pat, add_lit]
      simp only [execOp, ho, e1, e2, e3, Instr.storeAt, Instr.sureAddr, storeVar, one_cells h1, Sem.run_bind, Sem.run_pure, Result.andThen_ok, hs1]
      simp only [List.size_toArray, List.length_cons, List.length_nil, Nat.zero_add, ne_eq, not_true_eq_false, if_false]
      simp only [storeCells, Sem.run_bind, add_lit, Nat.add_zero, run_store P w _ u _ h1, stored, hcell, hfz]
      simp [go_sem]
    unfold OpR
    rw [hrun]
    have hnew : (own enc 1 e (some ⟨g, 0, none⟩) m c (xs.set i.toNat x')).p (w.setCell ⟨g, i.toNat, none⟩ u) := by
      refine ⟨by rw [List.length_set]; exact hlen, ?_⟩
      rw [flat_set1 xs i.toNat x' u hx']
      exact h2
    refine hn _ (hS.write hr.r rfl (fun j hj hne => h3.block j hj fun e => hne ⟨_, rfl, by injection e with e; exact e.symm⟩) h3.os h3.tape h3.output h3.size hnew fun j hj => .inl hj)

/-- append of a slice that is read (not nil) to one of the call's own. -/
theorem lw_append {α : Type} {enc : α → List Value} {sz : Nat} {d : α} [hE : Enc enc sz d] {A A2 : Option Addr} {e : TypeId} {m1 m2 c c2 bytes : Nat} {xs ys : List α} {t : TypeId} {z : Value} (hd : dstOk n o = true) (hg : o.guard = none)
    (ho : o.op = .call { callee := .builtin .append, args := #[x, y], argTypes := #[t, t] }) (hu : P.underlying t = some (.slice e)) (hinfo : (P.info? e).map (fun i => (i.zero, i.size, i.bytes)) = some (some z, sz, bytes)) (hz : z.cells.size = sz)
    (hx : E.at none x = some (.slice A m1 c)) (hy : E.at none y = some (.slice A2 m2 c2)) (hS : St B we w L) [hb : HasOwn L A enc sz e m1 c xs] [hb2 : HasSl L A2 enc sz m2 c2 ys] (hne : 0 < m2) (hl : (m1 + m2) * bytes ≤ 140737488355328) (hl2 : m1 + m2 ≤ 140737488355328)
    (hn : ∀ A' c' w', (∀ L', Repl (own enc sz e A m1 c xs) (own enc sz e A' (xs ++ ys).length c' (xs ++ ys)) L L' → St B we w' L') → LW P n ops Q l (E.exact.updo o.dst (.eq (.slice A' (xs ++ ys).length c'))) w') : LW P n ops Q (o :: l) E w :=
  lw_w hd hg fun a _ hs => by
    have e1 := hs.ev hx
    have e2 := hs.ev hy
    obtain ⟨i0, hi, hzz⟩ := Option.map_eq_some_iff.1 hinfo
    simp only [Prod.mk.injEq] at hzz
    obtain ⟨hz0, hz1, hz2⟩ := hzz
    have hl1 : xs.length = m1 := (hS.ok _ hb.mem).1
    have hl3 : ys.length = m2 := hS.len hb2.mem
    subst hl1
    subst hl3
    have hown : w.ownsRow 0 e sz (.slice A xs.length c) xs.length (xs.flatMap enc) := (hS.ok _ hb.mem).2
    have hA2 := hS.nn (A := A2) (enc := enc) (sz := sz) (d := d) (m0 := ys.length) (c := c2) (xs := ys) hne
    obtain ⟨ad, rfl⟩ := Option.isSome_iff_exists.1 hA2
    have hnews : ∀ j u, (ys.flatMap enc)[j]? = some u → w.cell? (ad.add j) = some u := by
      intro j u hj
      have hp := hE.pos
      have hjl := (List.getElem?_eq_some_iff.1 hj).1
      rw [flat_len (enc := enc)] at hjl
      have hq : j / sz < ys.length := (Nat.div_lt_iff_lt_mul hp).2 hjl
      have hys : ys[j / sz]? = some (ys.getD (j / sz) d) := getD_some d hq
      have hm : j % sz < (enc (ys.getD (j / sz) d)).length := by rw [hE.len]; exact Nat.mod_lt _ hp
      have hfg := flat_get (enc := enc) ys _ _ _ _ hys (getD_some undef hm)
      have hdm : j / sz * sz + j % sz = j := by rw [Nat.mul_comm]; exact Nat.div_add_mod j sz
      rw [hdm, hj] at hfg
      injection hfg with hfg
      obtain ⟨ad', e', hc⟩ := hS.cellAt hb2.mem _ _ hys _ _ (getD_some undef hm)
      injection e' with e'
      subst e'
      rw [hdm, ← hfg] at hc
      exact hc
    obtain ⟨v', w', hr, h2, h3, h4, h5⟩ := run_append_own_at (P := P) w 0 t o.type e i0 z sz bytes hu hi hz0 hz1 hz2 hz hE.pos (.slice A xs.length c) xs.length (xs.flatMap enc) hown ad ys.length c2 (ys.flatMap enc) (flat_len ys) hnews
      (fun u hu => by obtain ⟨x1, _, hx1⟩ := List.mem_flatMap.1 hu; exact hE.one x1 u hx1) (by simp only [maxLen]; omega) hl (Nat.zero_le _)
    have hrun : (execOp a.eval o).run P w = .ok (.value v') w' := by
      unfold execOp
      simp only [ho, resolve, invoke, builtin, Sem.run_bind, Sem.run_pure, Result.andThen_ok, List.map_toArray, List.map_cons, List.map_nil, e1, e2, hr]
    unfold OpR
    rw [hrun]
    have hpos : 0 < xs.length + ys.length := by omega
    obtain ⟨g, cap, rfl, _⟩ := World.ownsRow.form h2 hpos
    have hlen : (xs ++ ys).length = xs.length + ys.length := List.length_append
    rw [← hlen] at h2 ⊢
    refine hn (some ⟨g, 0, none⟩) cap w' fun L' hL' => hS.write hL' rfl (fun j hj hne' => h3.block j hj fun e => ?_) h3.os h3.tape h3.output h3.size ?_ fun j hj => ?_
    · cases A with
      | none => simp [Value.ownBlock] at e
      | some ad1 => simp [Value.ownBlock] at e; exact hne' ⟨ad1, rfl, e.symm⟩
    · refine ⟨rfl, ?_⟩
      rw [List.flatMap_append]
      exact h2
    · obtain ⟨ad1, e1', e2'⟩ := hj
      injection e1' with e1'
      subst e1'
      subst e2'
      rcases h5 with h5 | h5
      · left
        cases A with
        | none => simp [Value.ownBlock] at h5
        | some ad2 => simp [Value.ownBlock] at h5; exact ⟨ad2, rfl, h5.symm⟩
      · right
        have h6 : g = w.heap.size := by simpa [Value.ownBlock] using h5
        show w.heap.size ≤ g
        omega

/-- A literal slice. -/
theorem lw_lit {α : Type} {enc : α → List Value} {sz : Nat} {d : α} [hE : Enc enc sz d] {t e : TypeId} {m : Nat} {parts : Array (Nat × Operand)} {vs : List (Nat × Value)} {z : Value} (xs : List α) (hd : dstOk n o = true) (hg : o.guard = none)
    (ho : o.op = .buildSlice t m parts) (hu : P.underlying t = some (.slice e)) (hsz : ∀ w, (sizeOf e).run P w = .ok sz w) (hz : ∀ w, (zeroValue e).run P w = .ok z w)
    (hvs : ∀ a : Act, Sat E a w → parts.toList.map (fun (i, x) => (i, a.eval x)) = vs) (hf : Instr.fill (fun i => some (i * sz, sz)) ((Array.range (m * sz)).map (z.cells[· % z.cells.size]!)) vs = some (xs.flatMap enc).toArray) (hm : xs.length = m) (hm0 : 0 < m) (hm1 : m * sz ≤ 16777216)
    (hS : St B we w L) (hn : ∀ A c w', Gr w w' → St B we w' (own enc sz e A m c xs :: L) → LW P n ops Q l (E.updo o.dst (.eq (.slice A m c))) w') : LW P n ops Q (o :: l) E w :=
  lw_g hd hg fun a _ hs => by
    have hp := hE.pos
    have h0 : m * sz ≠ 0 := by have := Nat.mul_pos hm0 hp; omega
    have hrun : (execOp a.eval o).run P w = .ok (.value (.slice (some ⟨w.heap.size, 0, none⟩) m m)) (w.alloc (.cells (xs.flatMap enc).toArray e)) := by
      have hv : (parts.map fun (i, x) => (i, a.eval x)).toList = vs := by simpa using hvs a hs
      simp only [execOp, ho, Instr.buildSlice, Sem.run_bind, run_underlying hu, Result.andThen_ok, hsz, hv]
      rw [if_neg (by omega)]
      simp only [h0, if_false, Sem.run_bind, hz, Result.andThen_ok, Sem.run_pure]
      rw [hf]
      rfl
    unfold OpR
    rw [hrun]
    subst hm
    refine ⟨gr_alloc _ _, hn _ _ _ (gr_alloc _ _) (hS.new (gr_alloc _ _) _ ?_ fun b ⟨ad, e1, e2⟩ => by injection e1 with e1; subst e1; subst e2; exact Nat.le_refl _)⟩
    have := World.ownsRow_lit (base := 0) (e := e) (size := sz) w (xs.flatMap enc).toArray xs.length (Nat.zero_le _) (by simp only [maxLen]; have : xs.length ≤ xs.length * sz := Nat.le_mul_of_pos_right _ hp; omega) (by simpa using flat_len (enc := enc) xs)
    exact ⟨rfl, this⟩

theorem rep_flat {α : Type} {enc : α → List Value} (m : Nat) (x : α) (v : Value) (h : enc x = [v]) : (List.replicate m x).flatMap enc = List.replicate m v := by
  induction m with
  | zero => rfl
  | succ m ih => rw [List.replicate_succ, List.flatMap_cons, ih, h]; rfl

/-- make([]T, m), T of one cell. -/
theorem lw_make {α : Type} {enc : α → List Value} {d : α} [hE : Enc enc 1 d] {t e : TypeId} {m bytes : Nat} {z : Value} (hd : dstOk n o = true) (hg : o.guard = none) (ho : o.op = .makeSlice t x y) (hu : P.underlying t = some (.slice e))
    (hinfo : (P.info? e).map (fun i => (i.zero, i.size, i.bytes)) = some (some z, 1, bytes)) (hz1 : z.cells = #[z]) (hzd : enc d = [z]) (hx : E.at none x = some (.int .i64 m)) (hy : E.at none y = some (.int .i64 m)) (hm : bytes * m ≤ 281474976710656) (hm2 : m ≤ 281474976710656)
    (hS : St B we w L) (hn : ∀ A c w', Gr w w' → St B we w' (own enc 1 e A m c (List.replicate m d) :: L) → LW P n ops Q l (E.updo o.dst (.eq (.slice A m c))) w') : LW P n ops Q (o :: l) E w :=
  lw_g hd hg fun a _ hs => by
    have e1 := hs.ev hx
    have e2 := hs.ev hy
    have hr := run_make_row' (P := P) t e z bytes hu hinfo hz1 .i64 .i64 m hm (by omega) w
    have hrun : (execOp a.eval o).run P w = .ok (.value (.slice (some ⟨w.heap.size, 0, none⟩) m m)) (w.alloc (.cells (madeCells #[z] m) e)) := by
      simp only [execOp, ho, e1, e2, Sem.run_bind, hr, Result.andThen_ok, Sem.run_pure]
    unfold OpR
    rw [hrun]
    have hlen : (List.replicate m d).length = m := by simp
    have hgoal := hn (some ⟨w.heap.size, 0, none⟩) m _ (gr_alloc w (.cells (madeCells #[z] m) e)) (hS.new (gr_alloc _ _) _ ?_ fun b ⟨ad, e1, e2⟩ => by injection e1 with e1; subst e1; subst e2; exact Nat.le_refl _)
    · exact ⟨gr_alloc _ _, hgoal⟩
    · refine ⟨hlen, ?_⟩
      rw [rep_flat m d z hzd]
      have := World.ownsRow_lit (base := 0) (e := e) (size := 1) w (madeCells #[z] m) m (Nat.zero_le _) (by simp only [maxLen]; omega) (by simp [size_madeCells])
      rw [toList_madeCells_one] at this
      exact this

/-- A call of a Go function by its contract. -/
theorem lw_call {f : FuncId} {xs : List Operand} {ts : Array TypeId} {vs : List Value} (hd : dstOk n o = true) (hg : o.guard = none) (ho : o.op = .call { callee := .value (.func f), args := xs.toArray, argTypes := ts }) (hf : ∀ args w, (callFunc f args).run P w = .ok (.enter f args) w)
    (hx : E.all none xs = some vs) (hc : Calls P f vs.toArray w fun e w' => ∃ v, e = .returned v ∧ LW P n ops Q l (E.exact.updo o.dst (.eq v)) w') : LW P n ops Q (o :: l) E w :=
  lw_w hd hg fun a _ hs => by
    have e1 := hs.evs hx
    have hrun : (execOp a.eval o).run P w = .ok (.enter f vs.toArray) w := by
      have : (Act.eval a (.func f)) = .func (.func f) #[] #[] := rfl
      simp only [execOp, ho, resolve, this, Deferred.ofValue, Sem.run_bind, Sem.run_pure, Result.andThen_ok, invoke, List.map_toArray, e1]
      simpa using hf vs.toArray w
    unfold OpR
    rw [hrun]
    exact hc

end
end Go.Proofs.Ytnpgeohkmdcbkaa.Aq
