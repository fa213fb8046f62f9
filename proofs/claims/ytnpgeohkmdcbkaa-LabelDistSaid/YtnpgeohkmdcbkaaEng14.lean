/- The engine, part 14: copy; slices from a place on. No condition but those each lemma names. -/
import Derived.Test.YtnpgeohkmdcbkaaEng13
import Derived.Laws.CopyRow
namespace Go.Proofs.Ytnpgeohkmdcbkaa.Aq
open Go Go.RowKit

section
variable {P : Program} {n : Nat} {ops : Array Oper} {Q : Exit → Act → World → Prop} {l : List Oper} {E : Env} {o : Oper} {w w0 : World} {x y : Operand} {g : Option (Nat × Bool)}
variable {B : Nat} {we : World} {L L' : List Asn}

theorem add0 (A : Option Addr) : A = A.map fun a => a.add 0 := by cases A <;> rfl

/-- x[k:], k below its length. -/
theorem ok_slfrom {α : Type} {enc : α → List Value} {sz : Nat} {d : α} [hE : Enc enc sz d] {A : Option Addr} {m c : Nat} {xs : List α} {t e : TypeId} {kd : IntKind} {i : Int} (k : Nat) (ho : o.op = .slice t x (some y) none none) (hg : GuardIs ops o g) (hu : P.underlying t = some (.slice e)) (hs : ∀ w, (sizeOf e).run P w = .ok sz w)
    (hx : E.at g x = some (.slice A m c)) (hy : E.at g y = some (.int kd i)) (hS : St B we w0 L) [hb : HasSl L A enc sz m c xs] (hi : i = k ∧ k < m) : OpV P n ops (Gr w0) E o (PV.of g (.slice (A.map fun a => a.add (k * sz)) (m - k) (c - k))) :=
  ok_val2 hg hx hy (by rw [ho]; simp [Op.operands]) (by rw [ho]; simp [Op.operands]) fun ρ w h1 h2 _ _ => by
    obtain ⟨rfl, hk⟩ := hi
    have hc : m ≤ c := hS.cap hb.mem
    simp only [execOp, ho, h1, Option.map_none, Option.map_some, h2, Instr.sliceAt, Sem.run_bind, run_underlying hu, Result.andThen_ok, Instr.slice]
    simp only [Instr.sliceBounds, Instr.sliceBound, asIntOf, Sem.run_bind, Sem.run_pure, Result.andThen_ok, hs]
    have h0 : (0 : Int) ≤ (k : Int) ∧ (k : Int) ≤ (m : Int) ∧ (m : Int) ≤ (c : Int) := ⟨by omega, by omega, by omega⟩
    have h3 : (0 : Int) ≤ (k : Int) ∧ (k : Int) ≤ (m : Int) := ⟨by omega, by omega⟩
    have h4 : ¬ c - k = 0 := by omega
    have h5 : ¬ c = k := by omega
    simp [if_true, h0, h3, and_self, Sem.run_pure, Result.andThen_ok, Int.toNat_natCast, h4, h5, if_false]

/-- The same, where the room alone is known. -/
theorem ok_slfrom' {S : World → Prop} {A : Option Addr} {m c sz : Nat} {t e : TypeId} {kd : IntKind} {i : Int} (k : Nat) (ho : o.op = .slice t x (some y) none none) (hg : GuardIs ops o g) (hu : P.underlying t = some (.slice e)) (hs : ∀ w, (sizeOf e).run P w = .ok sz w)
    (hx : E.at g x = some (.slice A m c)) (hy : E.at g y = some (.int kd i)) (hc : m ≤ c) (hi : i = k ∧ k < m) : OpV P n ops S E o (PV.of g (.slice (A.map fun a => a.add (k * sz)) (m - k) (c - k))) :=
  ok_val2 hg hx hy (by rw [ho]; simp [Op.operands]) (by rw [ho]; simp [Op.operands]) fun ρ w h1 h2 _ _ => by
    obtain ⟨rfl, hk⟩ := hi
    simp only [execOp, ho, h1, Option.map_none, Option.map_some, h2, Instr.sliceAt, Sem.run_bind, run_underlying hu, Result.andThen_ok, Instr.slice]
    simp only [Instr.sliceBounds, Instr.sliceBound, asIntOf, Sem.run_bind, Sem.run_pure, Result.andThen_ok, hs]
    have h0 : (0 : Int) ≤ (k : Int) ∧ (k : Int) ≤ (m : Int) ∧ (m : Int) ≤ (c : Int) := ⟨by omega, by omega, by omega⟩
    have h3 : (0 : Int) ≤ (k : Int) ∧ (k : Int) ≤ (m : Int) := ⟨by omega, by omega⟩
    have h4 : ¬ c - k = 0 := by omega
    have h5 : ¬ c = k := by omega
    simp [if_true, h0, h3, and_self, Sem.run_pure, Result.andThen_ok, Int.toNat_natCast, h4, h5, if_false]
theorem ok_slto' {S : World → Prop} {A : Option Addr} {m c sz : Nat} {t e : TypeId} {kd : IntKind} {i : Int} (k : Nat) (ho : o.op = .slice t x none (some y) none) (hg : GuardIs ops o g) (hu : P.underlying t = some (.slice e)) (hs : ∀ w, (sizeOf e).run P w = .ok sz w)
    (hx : E.at g x = some (.slice A m c)) (hy : E.at g y = some (.int kd i)) (hc : m ≤ c) (hi : i = k ∧ k ≤ m) : OpV P n ops S E o (PV.of g (.slice A k c)) :=
  ok_val2 hg hx hy (by rw [ho]; simp [Op.operands]) (by rw [ho]; simp [Op.operands]) fun ρ w h1 h2 _ _ => by
    obtain ⟨rfl, hk⟩ := hi
    have hkc : (k : Int) ≤ (c : Int) := by omega
    simp only [execOp, ho, h1, Option.map_none, Option.map_some, h2, Instr.sliceAt, Sem.run_bind, run_underlying hu, Result.andThen_ok, Instr.slice]
    simp only [Instr.sliceBounds, Instr.sliceBound, asIntOf, Sem.run_bind, Sem.run_pure, Result.andThen_ok, hs]
    have h0 : (0 : Int) ≤ (k : Int) ∧ (k : Int) ≤ (c : Int) := ⟨by omega, hkc⟩
    simp only [if_true, h0, and_self, Sem.run_pure, Result.andThen_ok, Int.toNat_natCast, Nat.sub_zero, Nat.zero_mul]
    have hA : (if c = 0 then A else A.map fun a => a.add 0) = A := by
      split
      · rfl
      · cases A <;> rfl
    rw [hA]

theorem wrap_u {i : Int} (h : 0 ≤ i ∧ i ≤ 18446744073709551615) : IntKind.u64.wrap i = i := by
  unfold IntKind.wrap
  simp only [IntKind.bits, IntKind.signed]
  simp
  omega
/-- The lower half of a small number is it. -/
theorem ok_lowu {S : World → Prop} {t t' : TypeId} {i : Int} (ho : o.op = .binOp .and t x y t') (hg : GuardIs ops o g) (hx : E.at g x = some (.int .u64 i)) (hy : E.at g y = some (.int .u64 4294967295)) (hr : 0 ≤ i ∧ i ≤ 4294967295) : OpV P n ops S E o (PV.of g (.int .u64 i)) :=
  ok_val2 hg hx hy (by rw [ho]; simp [Op.operands]) (by rw [ho]; simp [Op.operands]) fun ρ w h1 h2 _ _ => by
    obtain ⟨m, rfl⟩ : ∃ m : Nat, i = m := ⟨i.toNat, by omega⟩
    have e : (BitVec.ofInt 64 (m : Int) &&& BitVec.ofInt 64 4294967295).toNat = m := by
      rw [BitVec.toNat_and, BitVec.ofInt_natCast]
      have h3 : (BitVec.ofInt 64 4294967295).toNat = 2 ^ 32 - 1 := by decide
      rw [h3, BitVec.toNat_ofNat, Nat.and_two_pow_sub_one_eq_mod]
      omega
    have e2 : Op.intBits .and .u64 (m : Int) 4294967295 = pure (.int .u64 (m : Int)) := by
      unfold Op.intBits
      show pure (Value.int .u64 (IntKind.u64.wrap (((BitVec.ofInt 64 (m : Int) &&& BitVec.ofInt 64 4294967295).toNat : Nat) : Int))) = _
      rw [e, wrap_u (by omega)]
    simp only [execOp, ho, h1, h2, eqGuard, binOp, e2]
    rfl
/-- The upper half of a small number. -/
theorem ok_highu {S : World → Prop} {t t' : TypeId} {i : Int} (ho : o.op = .binOp .shr t x y t') (hg : GuardIs ops o g) (hx : E.at g x = some (.int .u64 i)) (hy : E.at g y = some (.int .u64 32)) (hr : 0 ≤ i ∧ i ≤ 4294967295) : OpV P n ops S E o (PV.of g (.int .u64 0)) :=
  ok_val2 hg hx hy (by rw [ho]; simp [Op.operands]) (by rw [ho]; simp [Op.operands]) fun ρ w h1 h2 _ _ => by
    have e : i.fdiv (2 ^ 32) = 0 := by rw [Int.fdiv_eq_ediv_of_nonneg _ (by decide)]; exact Int.ediv_eq_zero_of_lt hr.1 (by omega)
    have e2 : Op.shift .shr .u64 i .u64 32 = pure (.int .u64 0) := by
      unfold Op.shift
      rw [if_neg (by omega)]
      show pure (Value.int .u64 (i.fdiv (2 ^ 32))) = _
      rw [e]
    simp only [execOp, ho, h1, h2, eqGuard, binOp, e2]
    rfl

theorem take_mid {β : Type} (X Y cs : List β) (k : Nat) (h : k + cs.length ≤ X.length) : (((X ++ Y).take k ++ cs) ++ (X ++ Y).drop (k + cs.length)).take X.length = X.take k ++ cs ++ X.drop (k + cs.length) := by
  rw [List.take_append_of_le_length (by omega : k ≤ X.length), List.drop_append_of_le_length (by omega), ← List.append_assoc, List.take_left']
  simp only [List.length_append, List.length_take, List.length_drop]
  omega

/-- copy, into a slice of the call's own (one cell an element), from place k on. -/
theorem lw_copy {α : Type} {enc : α → List Value} {d : α} [hE : Enc enc 1 d] {A A2 A' : Option Addr} {e : TypeId} {m c m2 c2 md cd s cs2 : Nat} {xs ys : List α} {t : TypeId} (k : Nat) (hd : dstOk n o = true) (hg : o.guard = none)
    (ho : o.op = .call { callee := .builtin .copy, args := #[x, y], argTypes := #[t, t] }) (hu : P.underlying t = some (.slice e)) (hsz : (P.info? e).map (·.size) = some 1)
    (hx : E.at none x = some (.slice A' md cd)) (hA : A' = A.map fun a => a.add k) (hy : E.at none y = some (.slice A2 s cs2)) (hS : St B we w L) [hb : HasOwn L A enc 1 e m c xs] [hb2 : HasSl L A2 enc 1 m2 c2 ys]
    (hk : k + min s md ≤ m) (hs : s ≤ m2) (h0 : 0 < min s md)
    (hn : ∀ w', (∀ L', Repl (own enc 1 e A m c xs) (own enc 1 e A m c (xs.take k ++ ys.take (min s md) ++ xs.drop (k + min s md))) L L' → St B we w' L') → LW P n ops Q l (E.exact.updo o.dst (.eq (.int .i64 ((min s md : Nat) : Int)))) w') : LW P n ops Q (o :: l) E w :=
  lw_w hd hg fun a _ hsat => by
    have e1 := hsat.ev hx
    have e2 := hsat.ev hy
    have hown := hS.ok _ hb.mem
    obtain ⟨g, rfl, h'⟩ := own_nn hown (by omega)
    have hl1 : xs.length = m := hown.1
    have hl2 : ys.length = m2 := hS.len hb2.mem
    have hA2 := hS.nn (A := A2) (enc := enc) (sz := 1) (d := d) (m0 := m2) (c := c2) (xs := ys) (by omega)
    obtain ⟨ad, rfl⟩ := Option.isSome_iff_exists.1 hA2
    rcases h'.2 with ⟨h1, _⟩ | ⟨g', cap, cur, hv, hbase, hheap, hmc, hcm, hcsz, htake⟩
    · cases h1
    · injection hv with hv1 _ hv3
      injection hv1 with hv1
      injection hv1 with hv1
      subst hv1
      subst hv3
      have hfx := flat_len (enc := enc) xs
      have hfy := flat_len (enc := enc) (ys.take (min s md))
      rw [List.length_take] at hfy
      have hcl : ((ys.take (min s md)).flatMap enc).length = min s md := by omega
      have hrun0 := run_copy_row (P := P) w t t o.type e g k md cd ad s cs2 cur e ((ys.take (min s md)).flatMap enc) hu hsz hheap (by rw [hcl])
        (fun j v hj => by
          have hjl := (List.getElem?_eq_some_iff.1 hj).1
          have hjy : j < ys.length := by omega
          obtain ⟨u, hu1⟩ : ∃ u, enc (ys.getD j d) = [u] := by
            have := hE.len (ys.getD j d)
            match h : enc (ys.getD j d), this with
            | [z], _ => exact ⟨z, rfl⟩
          have hyt : (ys.take (min s md))[j]? = some (ys.getD j d) := by rw [List.getElem?_take_of_lt (by omega)]; exact getD_some d hjy
          have hfg := flat_get (enc := enc) (sz := 1) (d := d) (ys.take (min s md)) j _ 0 u hyt (by rw [hu1]; rfl)
          rw [Nat.mul_one, Nat.add_zero, hj] at hfg
          injection hfg with hfg
          obtain ⟨ad', e', hc⟩ := hS.cellAt hb2.mem j _ (getD_some d hjy) 0 u (by rw [hu1]; rfl)
          injection e' with e'
          subst e'
          rw [hfg]
          simpa using hc) (by omega) (fun v hv => by obtain ⟨x1, _, hx1⟩ := List.mem_flatMap.1 hv; exact hE.one x1 v hx1)
      have hrun : (execOp a.eval o).run P w = .ok (.value (.int .i64 ((min s md : Nat) : Int))) (w.setRow g (cur.toList.take k ++ (ys.take (min s md)).flatMap enc ++ cur.toList.drop (k + ((ys.take (min s md)).flatMap enc).length)).toArray) := by
        have e3 : A' = some ⟨g, k, none⟩ := by rw [hA]; simp [add_lit]
        unfold execOp
        simp only [ho, resolve, invoke, builtin, Sem.run_bind, Sem.run_pure, Result.andThen_ok, List.map_toArray, List.map_cons, List.map_nil, e1, e2, e3, hrun0]
        rw [hcl]
        rfl
      unfold OpR
      rw [hrun]
      have hXY : cur.toList = xs.flatMap enc ++ cur.toList.drop (m * 1) := by rw [← htake, List.take_append_drop]
      have hlen' : (xs.take k ++ ys.take (min s md) ++ xs.drop (k + min s md)).length = m := by simp; omega
      have fm1 : ∀ zs : List α, ∀ i, (zs.take i).flatMap enc = (zs.flatMap enc).take i := fun zs i => by
        induction zs generalizing i with
        | nil => simp
        | cons z zs ih =>
          have hz := hE.len z
          cases i with
          | zero => simp
          | succ i => rw [List.take_succ_cons, List.flatMap_cons, List.flatMap_cons, ih, List.take_append, hz, List.take_of_length_le (by omega : (enc z).length ≤ i + 1)]; rfl
      have fm2 : ∀ zs : List α, ∀ i, (zs.drop i).flatMap enc = (zs.flatMap enc).drop i := fun zs i => by
        induction zs generalizing i with
        | nil => simp
        | cons z zs ih =>
          have hz := hE.len z
          cases i with
          | zero => simp
          | succ i => rw [List.drop_succ_cons, List.flatMap_cons, ih, List.drop_append, hz, List.drop_of_length_le (by omega : (enc z).length ≤ i + 1)]; rfl
      refine hn _ fun L' hL' => hS.write hL' rfl (fun j _ hne => setRow_other w g j _ fun e => hne ⟨_, rfl, e.symm⟩) rfl rfl rfl (by simp) ?_ fun j hj => .inl hj
      refine ⟨hlen', by rw [flat_len (enc := enc)]; omega, .inr ⟨g, c, _, rfl, hbase, setRow_heap w g cur _ e _ hheap, hmc, hcm, ?_, ?_⟩⟩
      · have hcz : cur.toList.length = c * 1 := by simpa using hcsz
        simp only [List.size_toArray, List.length_append, List.length_take, List.length_drop, hcl]
        omega
      · rw [hXY]
        have hX : (xs.flatMap enc).length = m * 1 := by omega
        have := take_mid (xs.flatMap enc) (cur.toList.drop (m * 1)) ((ys.take (min s md)).flatMap enc) k (by omega)
        rw [hX] at this
        rw [this, hcl, List.flatMap_append, List.flatMap_append, fm1 xs k, fm2 xs]
end
end Go.Proofs.Ytnpgeohkmdcbkaa.Aq
