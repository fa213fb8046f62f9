/- The engine, part 11: function values; shifts. -/
import Derived.Test.YtnpgeohkmdcbkaaEng10
namespace Go.Proofs.Ytnpgeohkmdcbkaa.Aq
open Go Go.RowKit

/-- What a function value does, of worlds that have grown from one. -/
def Does (P : Program) (f : FuncId) (caps : List Value) (w0 : World) (args : List Value) (v : Value) : Prop :=
  ∀ w, Gr w0 w → Calls P f (args ++ caps).toArray w fun e w' => e = .returned v ∧ Gr w w'
theorem Does.grow {P : Program} {f : FuncId} {caps args : List Value} {w0 w1 : World} {v : Value} (h : Does P f caps w0 args v) (g : Gr w0 w1) : Does P f caps w1 args v := fun w g' => h w (g.trans g')

section
variable {P : Program} {n : Nat} {ops : Array Oper} {S : World → Prop} {Q : Exit → Act → World → Prop} {l : List Oper} {E : Env} {o : Oper} {g : Option (Nat × Bool)} {w w0 : World} {x y : Operand} {v u : Value}

theorem ok_mkfn {fn : Fn} {caps : Array Operand} {cs : List Value} (ho : o.op = .makeFunc fn #[] caps) (hg : GuardIs ops o g) (hx : E.all g caps.toList = some cs) : OpV P n ops S E o (PV.of g (.func fn #[] cs.toArray)) :=
  ok_val hg fun ρ w ha _ _ => by
    have key : ∀ {l : List Operand} {us : List Value}, (∀ z ∈ l, z ∈ o.op.operands) → E.all g l = some us → l.map ρ = us := by
      intro l
      induction l with
      | nil => intro us _ h; simp [Env.all] at h; subst h; rfl
      | cons z l ih =>
        intro us hm h
        simp only [Env.all] at h
        cases h1 : E.at g z with
        | none => rw [h1] at h; simp at h
        | some v =>
          cases h2 : E.all g l with
          | none => rw [h1, h2] at h; simp at h
          | some us' =>
            rw [h1, h2] at h
            simp only [Option.some.injEq] at h
            subst h
            have e1 := ha z (hm z List.mem_cons_self) v h1
            rw [List.map_cons, e1, ih (fun z hz => hm z (List.mem_cons_of_mem _ hz)) h2]
    have e := key (l := caps.toList) (fun z hz => by rw [ho]; simpa [Op.operands] using hz) hx
    have e' : caps.map ρ = cs.toArray := by
      apply Array.toList_inj.1
      rw [Array.toList_map, e]
    simp [execOp, ho, Instr.makeFunc, e', go_sem]

/-- A call of whatever function, in a row. -/
theorem lw_callf {f : FuncId} {xs : List Operand} {ts : Array TypeId} {vs : List Value} {caps : Array Value} (hd : dstOk n o = true) (hg : o.guard = none) (ho : o.op = .call { callee := .value x, args := xs.toArray, argTypes := ts }) (hf : ∀ args w, (callFunc f args).run P w = .ok (.enter f args) w)
    (hfx : E.at none x = some (.func (.func f) #[] caps)) (hx : E.all none xs = some vs) (hc : Calls P f (vs ++ caps.toList).toArray w fun e w' => ∃ v, e = .returned v ∧ LW P n ops Q l (E.exact.updo o.dst (.eq v)) w') : LW P n ops Q (o :: l) E w :=
  lw_w hd hg fun a _ hs => by
    have e0 := hs.ev hfx
    have e1 := hs.evs hx
    have hrun : (execOp a.eval o).run P w = .ok (.enter f (vs ++ caps.toList).toArray) w := by
      simp only [execOp, ho, resolve, e0, Deferred.ofValue, Sem.run_bind, Sem.run_pure, Result.andThen_ok, invoke, List.map_toArray, e1]
      have e3 : (vs ++ caps.toList).toArray = vs.toArray ++ caps := by simp
      have := hf (vs ++ caps.toList).toArray w
      rw [e3] at this ⊢
      simpa using this
    unfold OpR
    rw [hrun]
    exact hc

/-- A call of which the value is known, guarded or not, among operations whose order is drawn. -/
theorem ok_callg {f : FuncId} {xs : List Operand} {ts : Array TypeId} {vs : List Value} {caps : Array Value} (cv : Value) (ho : o.op = .call { callee := .value x, args := xs.toArray, argTypes := ts }) (hg : GuardIs ops o g) (hf : ∀ args w, (callFunc f args).run P w = .ok (.enter f args) w)
    (hfx : E.at g x = some (.func (.func f) #[] caps)) (hx : E.all g xs = some vs) (hc : E.gc g → ∀ w, S w → Calls P f (vs ++ caps.toList).toArray w fun e w' => e = .returned cv ∧ Gr w w') : OpOk P n ops S E o (PV.of g cv) where
  shape := fun s want c' he => by
    cases hg with
    | n h1 => simp [PV.of] at he
    | s h1 h2 => simp only [PV.of, PV.gd.injEq] at he; obtain ⟨rfl, rfl, rfl⟩ := he; exact ⟨_, _, h1, h2⟩
  run := fun a w hn hs hS hw => by
    obtain ⟨h1, h2⟩ := gc_of hs hg hw
    have ha := agree_of hs h2
    have key : ∀ {l : List Operand} {us : List Value}, (∀ z ∈ l, z ∈ o.op.operands) → E.all g l = some us → l.map a.eval = us := by
      intro l
      induction l with
      | nil => intro us _ h; simp [Env.all] at h; subst h; rfl
      | cons z l ih =>
        intro us hm h
        simp only [Env.all] at h
        cases h1 : E.at g z with
        | none => rw [h1] at h; simp at h
        | some v =>
          cases h2 : E.all g l with
          | none => rw [h1, h2] at h; simp at h
          | some us' =>
            rw [h1, h2] at h
            simp only [Option.some.injEq] at h
            subst h
            have e1 := ha z (hm z List.mem_cons_self) v h1
            rw [List.map_cons, e1, ih (fun z hz => hm z (List.mem_cons_of_mem _ hz)) h2]
    have e1 := key (fun z hz => by rw [ho]; simp [Op.operands, Call.operands]; exact .inr hz) hx
    have e0 := ha x (by rw [ho]; simp [Op.operands, Call.operands]) _ hfx
    have hrun : (execOp a.eval o).run P w = .ok (.enter f (vs ++ caps.toList).toArray) w := by
      simp only [execOp, ho, resolve, e0, Deferred.ofValue, Sem.run_bind, Sem.run_pure, Result.andThen_ok, invoke, List.map_toArray, e1]
      have e3 : (vs ++ caps.toList).toArray = vs.toArray ++ caps := by simp
      have := hf (vs ++ caps.toList).toArray w
      rw [e3] at this ⊢
      simpa using this
    unfold OpR
    rw [hrun]
    refine (hc h1 w hS).mono fun e w' ⟨he, hg'⟩ => ⟨cv, he, hg', ?_⟩
    cases g with
    | none => rfl
    | some sb => exact ⟨fun _ => rfl, fun hne => absurd (h2 _ _ rfl) hne⟩
  skip := fun a w hn hs hS hw => by
    cases hg with
    | n h1 => simp [Region.wanted, h1] at hw
    | s h1 h2 =>
      refine ⟨fun ht => ?_, fun _ => rfl⟩
      have := (wanted_guard (GuardIs.s h1 h2)).2 ht
      rw [hw] at this
      cases this

/-- A guard that is known not to hold. -/
theorem lw_off2 {s : Nat} {b : Bool} {v' : Value} (hd : dstOk n o = true) (hg : GuardIs ops o (some (s, b))) (hs : E s = some (.eq v')) (hne : v' ≠ .bool b) (h : LW P n ops Q l (E.updo o.dst (.eq undef)) w) : LW P n ops Q (o :: l) E w := by
  intro a ha hn hsat
  have hd' : ∀ x, o.dst = some x → x < n := fun x hx => by
    unfold dstOk at hd
    rw [hx] at hd
    exact of_blt hd
  have ht : tm a s = v' := hsat s _ hs
  have hw : ¬ Region.wanted o (yielded ops a.tmps) = true := fun hw => by
    have := (wanted_guard hg).1 hw
    rw [ht] at this
    exact hne this
  unfold wpList
  rw [if_neg hw]
  exact h _ (by rw [put_defers]; exact ha) (by rw [put_size]; exact hn) (hsat.updo hn hd' rfl)
theorem undef_ne (b : Bool) : undef ≠ .bool b := fun h => by cases h

/-- One operation that only lets memory grow, then the rest. -/
theorem lw_o {p : PV} (hd : dstOk n o = true) (hg : guardOk ops o = true) (h : OpOk P n ops (Gr w) E o p) (hl : ∀ w', Gr w w' → LW P n ops Q l (E.updo o.dst p) w') : LW P n ops Q (o :: l) E w := by
  intro a ha hn hs
  have hd' : ∀ x, o.dst = some x → x < n := fun x hx => by
    unfold dstOk at hd
    rw [hx] at hd
    exact of_blt hd
  refine wpList_free hn h (hs.on _) (Gr.refl w) fun v w' g hp => ?_
  exact hl w' g _ (by rw [put_defers]; exact ha) (by rw [put_size]; exact hn) ((hs.grow g).updo hn hd' (shape_put h.shape hg hp))

theorem fdiv2 (i : Int) : i.fdiv 2 = i / 2 := Int.fdiv_eq_ediv_of_nonneg _ (by decide)
theorem ok_shr1 {t t' : TypeId} {k : IntKind} {i : Int} (ho : o.op = .binOp .shr t x y t') (hg : GuardIs ops o g) (hk : k.bits = 64) (hx : E.at g x = some (.int k i)) (hy : E.at g y = some (.int .u64 1)) : OpV P n ops S E o (PV.of g (.int k (i / 2))) :=
  ok_val2 hg hx hy (by rw [ho]; simp [Op.operands]) (by rw [ho]; simp [Op.operands]) fun ρ w h1 h2 _ _ => by
    have e : (2 : Int) ^ (min (1 : Int).toNat k.bits) = 2 := by rw [hk]; rfl
    have e2 : Op.shift .shr k i .u64 1 = pure (.int k (i / 2)) := by
      unfold Op.shift
      rw [if_neg (by decide)]
      simp only [e, fdiv2]
    simp only [execOp, ho, h1, h2, eqGuard, binOp, e2]
    simp [go_sem]
end
end Go.Proofs.Ytnpgeohkmdcbkaa.Aq
namespace Go.Proofs.Ytnpgeohkmdcbkaa.Aq
open Go Go.RowKit
/-- The length of a slice of which facts are known. -/
theorem ok_lenS {P : Program} {n : Nat} {ops : Array Oper} {S : World → Prop} {E : Env} {o : Oper} {s m : Nat} {F : Value → World → Prop} {t e : TypeId} (hg : o.guard = none) (ho : o.op = .call { callee := .builtin .len, args := #[.tmp s], argTypes := #[t] }) (hu : P.underlying t = some (.slice e)) (hs : E s = some (.sat F))
    (hF : ∀ v w, F v w → ∃ A c, v = .slice A m c) : OpV P n ops S E o (.eq (.int .i64 m)) where
  shape := fun _ _ _ he => by cases he
  run := fun a w hn hso hS hw => by
    have h1 := hso s (look_tmp (by rw [ho]; simp [Op.operands, Call.operands])) _ hs
    obtain ⟨A, c, e1⟩ := hF _ _ (h1 w (Gr.refl w))
    have e0 : a.eval (.tmp s) = .slice A m c := e1
    refine ⟨_, ?_, rfl⟩
    have key : ∀ ρ : Operand → Value, ρ (.tmp s) = .slice A m c → (execOp ρ o).run P w = .ok (.value (.int .i64 m)) w := fun ρ h3 => by
      simp [execOp, ho, h3, resolve, invoke, builtin, Builtin.len_, run_underlying hu, goInt, go_sem]
    exact key a.eval e0
  skip := fun a w hn hs hS hw => by simp [Region.wanted, hg] at hw
end Go.Proofs.Ytnpgeohkmdcbkaa.Aq
namespace Go.Proofs.Ytnpgeohkmdcbkaa.Aq
open Go Go.RowKit
section
variable {P : Program} {n : Nat} {Q : Exit → Act → World → Prop} {E : Env} {w : World}
def Cut3 {α β γ : Type} (n : Nat) (H : α → β → γ → List (Nat × PV)) (J : α → β → γ → World → Prop) (ls : List (Nat × PV)) : Act → World → Prop := fun a w => ∃ i : α × β × γ, a.defers = [] ∧ a.tmps.size = n ∧ Sat (Env.of (H i.1 i.2.1 i.2.2 ++ ls)) a w ∧ J i.1 i.2.1 i.2.2 w
theorem cw_cut3 {α β γ : Type} {c1 c2 : Code} (ls : List (Nat × PV)) (H : α → β → γ → List (Nat × PV)) (J : α → β → γ → World → Prop) (hl : Keeps E ls) (h : CW P n c1 (Exit.then (Cut3 n H J ls) Q) E w)
    (h2 : ∀ i j k w, J i j k w → CW P n c2 Q (Env.of (H i j k ++ ls)) w) : CW P n (.seq c1 c2) Q E w :=
  cw_cut (ι := α × β × γ) ls (fun i => H i.1 i.2.1 i.2.2) (fun i => J i.1 i.2.1 i.2.2) hl h fun i w hj => h2 _ _ _ w hj
theorem ends_cut3 {α β γ : Type} {H : α → β → γ → List (Nat × PV)} {J : α → β → γ → World → Prop} {ls : List (Nat × PV)} (i : α) (j : β) (k : γ) (hk : Keeps E (H i j k ++ ls)) (hj : J i j k w) : Ends n (Exit.then (Cut3 n H J ls) Q) .normal E w :=
  fun a ha hn hs => ⟨(i, j, k), ha, hn, hs.keep hk, hj⟩
end
end Go.Proofs.Ytnpgeohkmdcbkaa.Aq
namespace Go.Proofs.Ytnpgeohkmdcbkaa.Aq
open Go Go.RowKit
/-- A fact that is only read, once more. -/
theorem St.dup {B : Nat} {we w : World} {L : List Asn} {a : Asn} (h : St B we w L) (hm : a ∈ L) (hf : a.mt = false) : St B we w (a :: L) := by
  refine ⟨h.below, h.base, fun x hx => ?_, fun x hx hmx => ?_, List.pairwise_cons.2 ⟨fun x hx hor b hb hxb => ?_, h.apart⟩⟩
  · rcases List.mem_cons.1 hx with rfl | hx
    · exact h.ok _ hm
    · exact h.ok x hx
  · rcases List.mem_cons.1 hx with rfl | hx
    · rw [hf] at hmx; cases hmx
    · exact h.ge x hx hmx
  · rcases hor with ho | ho
    · rw [hf] at ho; cases ho
    · have hp := List.pairwise_iff_getElem.1 h.apart
      obtain ⟨i1, hi1, e1'⟩ := List.mem_iff_getElem.1 hx
      obtain ⟨i2, hi2, e2'⟩ := List.mem_iff_getElem.1 hm
      rcases Nat.lt_trichotomy i1 i2 with hlt | heq | hgt
      · have h3 := hp i1 i2 hi1 hi2 hlt
        rw [e1', e2'] at h3
        exact h3 (.inl ho) b hxb hb
      · subst heq; rw [e1'] at e2'; subst e2'; rw [hf] at ho; cases ho
      · have h3 := hp i2 i1 hi2 hi1 hgt
        rw [e1', e2'] at h3
        exact h3 (.inr ho) b hb hxb
end Go.Proofs.Ytnpgeohkmdcbkaa.Aq
namespace Go.Proofs.Ytnpgeohkmdcbkaa.Aq
open Go Go.RowKit
/-- The first so many, told by their own length. -/
theorem St.take' {B : Nat} {we w : World} {L : List Asn} {α : Type} {enc : α → List Value} {sz : Nat} {A : Option Addr} {c : Nat} {xs : List α} (h : St B we w L) (hm : sl enc sz A xs.length c xs ∈ L) (j : Nat) (hj : j ≤ xs.length) : St B we w (sl enc sz A (xs.take j).length c (xs.take j) :: L) := by
  have := h.take hm (xs.take j).length (by rw [List.length_take]; omega)
  rwa [show xs.take (xs.take j).length = xs.take j by rw [List.length_take, Nat.min_eq_left hj]] at this
theorem half_eq (m : Nat) (h : m ≤ 4611686018427387903) : IntKind.i64.wrap ((m : Int).tdiv 2) = ((m / 2 : Nat) : Int) := by
  rw [show ((m : Int)).tdiv 2 = ((m / 2 : Nat) : Int) from (Int.ofNat_tdiv m 2).symm, wrap_in ⟨by omega, by omega⟩]
end Go.Proofs.Ytnpgeohkmdcbkaa.Aq
