/- The engine, part 6: calls in a region that draws; code, loops, the end of a function. -/
import Derived.Test.YtnpgeohkmdcbkaaEng5
namespace Go.Proofs.Ytnpgeohkmdcbkaa.Aq
open Go Go.RowKit

/-- Slots told one by one. -/
def Env.of : List (Nat × PV) → Env
  | [] => fun _ => none
  | (s, p) :: l => fun t => bif Nat.beq t s then some p else Env.of l t
inductive Keeps (E : Env) : List (Nat × PV) → Prop
  | nil : Keeps E []
  | cons {s : Nat} {p : PV} {l : List (Nat × PV)} : E s = some p → Keeps E l → Keeps E ((s, p) :: l)
theorem Sat.keep {E : Env} {a : Act} {w : World} (hs : Sat E a w) : ∀ {l : List (Nat × PV)}, Keeps E l → Sat (Env.of l) a w
  | [], _ => fun t p h => by simp [Env.of] at h
  | (s, p) :: l, .cons h1 h2 => fun t q h => by
    simp only [Env.of] at h
    cases hb : Nat.beq t s with
    | true =>
      rw [hb] at h
      simp only [cond_true, Option.some.injEq] at h
      subst h
      have := Nat.eq_of_beq_eq_true hb
      subst this
      exact hs t p h1
    | false =>
      rw [hb] at h
      simp only [cond_false] at h
      exact (hs.keep h2) t q h

section
variable {P : Program} {n : Nat} {ops : Array Oper} {S : World → Prop} {Q : Exit → Act → World → Prop} {l : List Oper} {E : Env} {o : Oper} {w w0 : World} {x y c : Operand} {v u : Value}
variable {B : Nat} {we : World} {L L' : List Asn}

theorem CW.keep {c : Code} (ls : List (Nat × PV)) (hk : Keeps E ls) (h : CW P n c Q (Env.of ls) w) : CW P n c Q E w := fun a ha hn hs => h a ha hn (hs.keep hk)
theorem LW.keep (ls : List (Nat × PV)) (hk : Keeps E ls) (h : LW P n ops Q l (Env.of ls) w) : LW P n ops Q l E w := fun a ha hn hs => h a ha hn (hs.keep hk)
theorem Ends.keep {e : Exit} (ls : List (Nat × PV)) (hk : Keeps E ls) (h : Ends n Q e (Env.of ls) w) : Ends n Q e E w := fun a ha hn hs => h a ha hn (hs.keep hk)

/-- A slot of which a fact is known is given its value. -/
theorem LW.opened {s : Nat} {F : Value → World → Prop} (hs : E s = some (.sat F)) (h : ∀ v, F v w → LW P n ops Q l (E.upd s (.eq v)) w) : LW P n ops Q l E w := by
  intro a ha hn hsat
  have h1 := hsat s _ hs w (Gr.refl w)
  refine h (tm a s) h1 a ha hn ?_
  intro t p hp
  by_cases ht : t = s
  · subst ht
    rw [upd_same] at hp
    injection hp with hp
    subst hp
    rfl
  · rw [upd_ne E _ ht] at hp
    exact hsat t p (filter_some hp).1

/-- A call among operations whose order is drawn: F says what it gives; it must not hang on anything that grows. -/
theorem ok_call {f : FuncId} {xs : List Operand} {ts : Array TypeId} {vs : List Value} (F : Value → World → Prop) (hg : o.guard = none) (ho : o.op = .call { callee := .value (.func f), args := xs.toArray, argTypes := ts }) (hf : ∀ args w, (callFunc f args).run P w = .ok (.enter f args) w)
    (hx : E.all none xs = some vs) (hc : ∀ w, S w → Calls P f vs.toArray w fun e w' => ∃ v, e = .returned v ∧ Gr w w' ∧ ∀ w2, Gr w' w2 → F v w2) : OpOk P n ops S E o (.sat F) where
  shape := fun _ _ _ he => by cases he
  run := fun a w hn hs hS hw => by
    have key : ∀ {l : List Operand} {us : List Value}, (∀ z ∈ l, z ∈ o.op.operands) → E.all none l = some us → l.map a.eval = us := by
      intro l
      induction l with
      | nil => intro us _ h; simp [Env.all] at h; subst h; rfl
      | cons z l ih =>
        intro us hm h
        simp only [Env.all] at h
        cases h1 : E.at none z with
        | none => rw [h1] at h; simp at h
        | some v =>
          cases h2 : E.all none l with
          | none => rw [h1, h2] at h; simp at h
          | some us' =>
            rw [h1, h2] at h
            simp only [Option.some.injEq] at h
            subst h
            have e1 := agree_of (g := none) hs (fun s b h => by cases h) z (hm z List.mem_cons_self) v h1
            rw [List.map_cons, e1, ih (fun z hz => hm z (List.mem_cons_of_mem _ hz)) h2]
    have e1 := key (fun z hz => by rw [ho]; simp [Op.operands, Call.operands]; exact .inr hz) hx
    have hrun : (execOp a.eval o).run P w = .ok (.enter f vs.toArray) w := by
      have : (Act.eval a (.func f)) = .func (.func f) #[] #[] := rfl
      simp only [execOp, ho, resolve, this, Deferred.ofValue, Sem.run_bind, Sem.run_pure, Result.andThen_ok, invoke, List.map_toArray, e1]
      simpa using hf vs.toArray w
    unfold OpR
    rw [hrun]
    exact (hc w hS).mono fun e w' ⟨v, he, hg, hF⟩ => ⟨v, he, hg, hF⟩
  skip := fun a w hn hs hS hw => by simp [Region.wanted, hg] at hw

/-- The same where the value is known. -/
theorem ok_callv {f : FuncId} {xs : List Operand} {ts : Array TypeId} {vs : List Value} (cv : Value) (hg : o.guard = none) (ho : o.op = .call { callee := .value (.func f), args := xs.toArray, argTypes := ts }) (hf : ∀ args w, (callFunc f args).run P w = .ok (.enter f args) w)
    (hx : E.all none xs = some vs) (hc : ∀ w, S w → Calls P f vs.toArray w fun e w' => e = .returned cv ∧ Gr w w') : OpOk P n ops S E o (.eq cv) where
  shape := fun _ _ _ he => by cases he
  run := fun a w hn hs hS hw => by
    have h := ok_call (P := P) (n := n) (ops := ops) (S := S) (E := E) (o := o) (fun v _ => v = cv) hg ho hf hx (fun w hS => (hc w hS).mono fun e w' ⟨h1, h2⟩ => ⟨cv, h1, h2, fun _ _ => rfl⟩)
    exact (h.run a w hn hs hS hw).mono fun v w' ⟨g, hp⟩ => ⟨g, hp w' (Gr.refl _)⟩
  skip := fun a w hn hs hS hw => by simp [Region.wanted, hg] at hw

/-- A guard that is known to hold is taken off. -/
theorem ok_on {s : Nat} {b : Bool} {p : PV} (hg : GuardIs ops o (some (s, b))) (hs : E s = some (.eq (.bool b))) (hp : p.isGd = false) (h : OpOk P n ops S E { o with guard := none } p) : OpOk P n ops S E o p where
  shape := fun s' want c he => by subst he; simp [PV.isGd] at hp
  run := fun a w hn hso hS hw => by
    have hso' : SatOn (({ o with guard := none } : Oper).looksAt ops) E a w := fun t ht => hso t (by
      unfold Oper.looksAt at ht ⊢
      simp only [List.append_nil] at ht
      exact List.mem_append_left _ ht)
    exact h.run a w hn hso' hS rfl
  skip := fun a w hn hso hS hw => by
    have : tm a s = .bool b := hso s (look_guard hg) _ hs
    rw [(wanted_guard hg).2 this] at hw
    cases hw

/-- A guard that is known to hold, in a row. -/
theorem lw_on {s : Nat} {b : Bool} (hg : GuardIs ops o (some (s, b))) (hs : E s = some (.eq (.bool b))) (h : LW P n ops Q ({ o with guard := none } :: l) E w) : LW P n ops Q (o :: l) E w := by
  intro a ha hn hsat
  have h1 := h a ha hn hsat
  have ht : tm a s = .bool b := hsat s _ hs
  have hw := (wanted_guard hg).2 ht
  unfold wpList at h1 ⊢
  rw [if_pos hw]
  rw [if_pos (by simp [Region.wanted])] at h1
  exact h1
/-- A guard that is known not to hold. -/
theorem lw_off {s : Nat} {b b' : Bool} (hd : dstOk n o = true) (hg : GuardIs ops o (some (s, b))) (hs : E s = some (.eq (.bool b'))) (hne : (b' == b) = false) (h : LW P n ops Q l (E.updo o.dst (.eq undef)) w) : LW P n ops Q (o :: l) E w := by
  intro a ha hn hsat
  have hd' : ∀ x, o.dst = some x → x < n := fun x hx => by
    unfold dstOk at hd
    rw [hx] at hd
    exact of_blt hd
  have ht : tm a s = .bool b' := hsat s _ hs
  have hw : ¬ Region.wanted o (yielded ops a.tmps) = true := fun hw => by
    have := (wanted_guard hg).1 hw
    rw [ht] at this
    injection this with this
    subst this
    simp at hne
  unfold wpList
  rw [if_neg hw]
  exact h _ (by rw [put_defers]; exact ha) (by rw [put_size]; exact hn) (hsat.updo hn hd' rfl)

/-! ### Code -/
theorem cw_seq {c1 c2 : Code} (h : CW P n c1 (Exit.then (c2.wp P Q) Q) E w) : CW P n (.seq c1 c2) Q E w := fun a ha hn hs => wp_seq (h a ha hn hs)
theorem cw_skip (h : Ends n Q .normal E w) : CW P n .skip Q E w := fun a ha hn hs => wp_skip (h a ha hn hs)
theorem cw_ret (h : Ends n Q .ret E w) : CW P n .ret Q E w := fun a ha hn hs => wp_ret (h a ha hn hs)
theorem cw_exit {id : Nat} (h : Ends n Q (.exit id) E w) : CW P n (.exit id) Q E w := fun a ha hn hs => wp_exit (h a ha hn hs)
theorem cw_block {id : Nat} {c : Code} (h : CW P n c (Exit.inBlock id Q) E w) : CW P n (.block id c) Q E w := fun a ha hn hs => wp_block (h a ha hn hs)
theorem cw_cond {c1 c2 : Code} {b : Bool} (hc : E.at none c = some (.bool b)) (h1 : b = true → CW P n c1 Q E w) (h2 : b = false → CW P n c2 Q E w) : CW P n (.cond c c1 c2) Q E w :=
  fun a ha hn hs => wp_cond_split (hs.ev hc) (fun h => h1 h a ha hn hs) (fun h => h2 h a ha hn hs)

section ends
variable {K : Act → World → Prop} {id id' : Nat}
theorem ends_then {c2 : Code} (h : CW P n c2 Q E w) : Ends n (Exit.then (c2.wp P Q) Q) .normal E w := h
theorem then_ret (h : Ends n Q .ret E w) : Ends n (Exit.then K Q) .ret E w := h
theorem then_exit (h : Ends n Q (.exit id) E w) : Ends n (Exit.then K Q) (.exit id) E w := h
theorem in_normal (h : Ends n Q .normal E w) : Ends n (Exit.inBlock id Q) .normal E w := h
theorem in_ret (h : Ends n Q .ret E w) : Ends n (Exit.inBlock id Q) .ret E w := h
theorem in_exit (h : Ends n Q .normal E w) : Ends n (Exit.inBlock id Q) (.exit id) E w := fun a ha hn hs => by
  show (if id = id then Q .normal a w else Q (.exit id) a w)
  rw [if_pos rfl]; exact h a ha hn hs
theorem in_other (hne : Nat.beq id' id = false) (h : Ends n Q (.exit id') E w) : Ends n (Exit.inBlock id Q) (.exit id') E w := fun a ha hn hs => by
  show (if id' = id then Q .normal a w else Q (.exit id') a w)
  rw [if_neg (fun e => by subst e; rw [Nat.beq_refl] at hne; cases hne)]; exact h a ha hn hs
end ends

/-- Where ways meet again. -/
theorem cw_cut {ι : Type} {c1 c2 : Code} (ls : List (Nat × PV)) (H : ι → List (Nat × PV)) (J : ι → World → Prop) (_ : Keeps E ls) (h : CW P n c1 (Exit.then (fun a w => ∃ i, a.defers = [] ∧ a.tmps.size = n ∧ Sat (Env.of (H i ++ ls)) a w ∧ J i w) Q) E w)
    (h2 : ∀ i w, J i w → CW P n c2 Q (Env.of (H i ++ ls)) w) : CW P n (.seq c1 c2) Q E w :=
  cw_seq fun a ha hn hs => Go.wp_mono (h a ha hn hs) fun e a w hq => by
    cases e with
    | normal => obtain ⟨i, ha, hn, hs, hj⟩ := hq; exact h2 i w hj a ha hn hs
    | _ => exact hq
theorem ends_cut {ι : Type} {H : ι → List (Nat × PV)} {J : ι → World → Prop} (i : ι) (hk : Keeps E (H i)) (hj : J i w) : Ends n (Exit.then (fun a w => ∃ i, a.defers = [] ∧ a.tmps.size = n ∧ Sat (Env.of (H i)) a w ∧ J i w) Q) .normal E w :=
  fun a ha hn hs => ⟨i, ha, hn, hs.keep hk, hj⟩

def Back {ι : Type} (n : Nat) (H : ι → List (Nat × PV)) (J : ι → World → Prop) (μ : ι → Nat) (m : Nat) (a : Act) (w : World) : Prop :=
  ∃ i, a.defers = [] ∧ a.tmps.size = n ∧ Sat (Env.of (H i)) a w ∧ J i w ∧ μ i < m

/-- A loop: ls: the slots that stay; H: the slots at its head, J: what holds there, μ: what each round lowers. -/
theorem cw_loop {ι : Type} {c : Code} (ls : List (Nat × PV)) (H : ι → List (Nat × PV)) (J : ι → World → Prop) (μ : ι → Nat) (i0 : ι) (_ : Keeps E ls) (hk : Keeps E (H i0 ++ ls)) (hj : J i0 w)
    (round : ∀ i w, J i w → CW P n c (Exit.then (Back n (fun i => H i ++ ls) J μ (μ i)) Q) (Env.of (H i ++ ls)) w) : CW P n (.loop c) Q E w := by
  intro a ha hn hs b k cs
  have key : ∀ m i a w, μ i = m → J i w → a.defers = [] → a.tmps.size = n → Sat (Env.of (H i ++ ls)) a w →
      ∃ e a' w', Q e a' w' ∧ Arrives P (lone (b.at a (.code c :: .inLoop c :: k)) cs w) b k cs e a' w' := by
    intro m
    induction m using Nat.strongRecOn with
    | _ m ih =>
      intro i a w hm hJ ha hn hs
      obtain ⟨e, a₁, w₁, hq, harr⟩ := round i w hJ a ha hn hs b (.inLoop c :: k) cs
      cases e with
      | normal =>
        obtain ⟨i', ha', hn', hs', hJ', hlt⟩ := hq
        obtain ⟨e₂, a₂, w₂, hq₂, harr₂⟩ := ih (μ i') (hm ▸ hlt) i' a₁ w₁ rfl hJ' ha' hn' hs'
        exact ⟨e₂, a₂, w₂, hq₂, .of_steps (Steps.trans harr (.one step_inLoop)) harr₂⟩
      | exit id => exact ⟨_, a₁, w₁, hq, .pass (x := .inLoop c) rfl (fun _ _ => .inl (by simp)) harr⟩
      | goto l => exact ⟨_, a₁, w₁, hq, .pass (x := .inLoop c) rfl (fun _ _ => .inl (by simp)) harr⟩
      | ret => exact ⟨_, a₁, w₁, hq, .pass (x := .inLoop c) rfl (fun _ _ => .inl (by simp)) harr⟩
      | panic ch => exact ⟨_, a₁, w₁, hq, .pass (x := .inLoop c) rfl (fun _ _ => .inl (by simp)) harr⟩
      | outgrown => exact ⟨_, a₁, w₁, hq, .pass (x := .inLoop c) rfl (fun _ _ => .inl (by simp)) harr⟩
  obtain ⟨e, a', w', hq, harr⟩ := key _ i0 a w rfl hj ha hn (hs.keep hk)
  exact ⟨e, a', w', hq, .of_steps (.one step_loop) harr⟩

theorem ends_back {ι : Type} {H : ι → List (Nat × PV)} {J : ι → World → Prop} {μ : ι → Nat} {m : Nat} (i : ι) (hk : Keeps E (H i)) (hj : J i w) (hm : μ i < m) : Ends n (Exit.then (Back n H J μ m) Q) .normal E w :=
  fun a ha hn hs => ⟨i, ha, hn, hs.keep hk, hj, hm⟩

def Back2 {α β : Type} (n : Nat) (H : α → β → List (Nat × PV)) (J : α → β → World → Prop) (μ : α → β → Nat) (ls : List (Nat × PV)) (m : Nat) : Act → World → Prop := Back n (fun p : α × β => H p.1 p.2 ++ ls) (fun p => J p.1 p.2) (fun p => μ p.1 p.2) m
def Back3 {α β γ : Type} (n : Nat) (H : α → β → γ → List (Nat × PV)) (J : α → β → γ → World → Prop) (μ : α → β → γ → Nat) (ls : List (Nat × PV)) (m : Nat) : Act → World → Prop := Back n (fun p : α × β × γ => H p.1 p.2.1 p.2.2 ++ ls) (fun p => J p.1 p.2.1 p.2.2) (fun p => μ p.1 p.2.1 p.2.2) m
theorem cw_loop2 {α β : Type} {c : Code} (ls : List (Nat × PV)) (H : α → β → List (Nat × PV)) (J : α → β → World → Prop) (μ : α → β → Nat) (i0 : α) (j0 : β) (hl : Keeps E ls) (hk : Keeps E (H i0 j0 ++ ls)) (hj : J i0 j0 w)
    (round : ∀ i j w, J i j w → CW P n c (Exit.then (Back2 n H J μ ls (μ i j)) Q) (Env.of (H i j ++ ls)) w) : CW P n (.loop c) Q E w :=
  cw_loop ls (fun p : α × β => H p.1 p.2) (fun p => J p.1 p.2) (fun p => μ p.1 p.2) (i0, j0) hl hk hj fun p w h => round p.1 p.2 w h
theorem cw_loop3 {α β γ : Type} {c : Code} (ls : List (Nat × PV)) (H : α → β → γ → List (Nat × PV)) (J : α → β → γ → World → Prop) (μ : α → β → γ → Nat) (i0 : α) (j0 : β) (k0 : γ) (hl : Keeps E ls) (hk : Keeps E (H i0 j0 k0 ++ ls)) (hj : J i0 j0 k0 w)
    (round : ∀ i j k w, J i j k w → CW P n c (Exit.then (Back3 n H J μ ls (μ i j k)) Q) (Env.of (H i j k ++ ls)) w) : CW P n (.loop c) Q E w :=
  cw_loop ls (fun p : α × β × γ => H p.1 p.2.1 p.2.2) (fun p => J p.1 p.2.1 p.2.2) (fun p => μ p.1 p.2.1 p.2.2) (i0, j0, k0) hl hk hj fun p w h => round p.1 p.2.1 p.2.2 w h
theorem ends_back2 {α β : Type} {H : α → β → List (Nat × PV)} {J : α → β → World → Prop} {μ : α → β → Nat} {ls : List (Nat × PV)} {m : Nat} (i : α) (j : β) (hk : Keeps E (H i j ++ ls)) (hj : J i j w) (hm : μ i j < m) :
    Ends n (Exit.then (Back2 n H J μ ls m) Q) .normal E w := ends_back (H := fun p : α × β => H p.1 p.2 ++ ls) (J := fun p => J p.1 p.2) (μ := fun p => μ p.1 p.2) (i, j) hk hj hm
theorem ends_back3 {α β γ : Type} {H : α → β → γ → List (Nat × PV)} {J : α → β → γ → World → Prop} {μ : α → β → γ → Nat} {ls : List (Nat × PV)} {m : Nat} (i : α) (j : β) (k : γ) (hk : Keeps E (H i j k ++ ls)) (hj : J i j k w) (hm : μ i j k < m) :
    Ends n (Exit.then (Back3 n H J μ ls m) Q) .normal E w := ends_back (H := fun p : α × β × γ => H p.1 p.2.1 p.2.2 ++ ls) (J := fun p => J p.1 p.2.1 p.2.2) (μ := fun p => μ p.1 p.2.1 p.2.2) (i, j, k) hk hj hm

/-! ### The end of a function -/
variable {fn : Func} {R : Ending → World → Prop}
theorem end_ret (hr : ∀ a : Act, Sat E a w → (results fn a.tmps).run P w = .ok v w) (h : R (.returned v) w) : Ends n (bodyPost P fn R) .ret E w := fun a ha hn hs => ⟨ha, v, hr a hs, h⟩
theorem end_norm (hr : ∀ a : Act, Sat E a w → (results fn a.tmps).run P w = .ok v w) (h : R (.returned v) w) : Ends n (bodyPost P fn R) .normal E w := fun a ha hn hs => ⟨ha, v, hr a hs, h⟩

theorem res1 {t : Nat} (hf : fn.results = #[.tmp t]) (he : E t = some (.eq v)) (a : Act) (hs : Sat E a w) : (results fn a.tmps).run P w = .ok v w := by
  rw [results_tmp hf]
  have : tm a t = v := hs t _ he
  exact congrArg (fun z => Result.ok z w) this
theorem res2 {t t2 : Nat} {v2 : Value} (hf : fn.results = #[.tmp t, .tmp t2]) (he : E t = some (.eq v)) (he2 : E t2 = some (.eq v2)) (a : Act) (hs : Sat E a w) : (results fn a.tmps).run P w = .ok (.tuple #[v, v2]) w := by
  rw [results_tmp2 hf]
  have h1 : tm a t = v := hs t _ he
  have h2 : tm a t2 = v2 := hs t2 _ he2
  unfold tm at h1 h2
  rw [h1, h2]
theorem res3 {t t2 t3 : Nat} {v2 v3 : Value} (hf : fn.results = #[.tmp t, .tmp t2, .tmp t3]) (he : E t = some (.eq v)) (he2 : E t2 = some (.eq v2)) (he3 : E t3 = some (.eq v3)) (a : Act) (hs : Sat E a w) : (results fn a.tmps).run P w = .ok (.tuple #[v, v2, v3]) w := by
  have h1 : tm a t = v := hs t _ he
  have h2 : tm a t2 = v2 := hs t2 _ he2
  have h3 : tm a t3 = v3 := hs t3 _ he3
  unfold tm at h1 h2 h3
  unfold results
  rw [hf]
  simp only [List.mapM_toArray, List.mapM_cons, List.mapM_nil, h1, h2, h3]
  rfl
theorem res0 (hf : fn.results = #[]) (a : Act) (_ : Sat E a w) : (results fn a.tmps).run P w = .ok (.tuple #[]) w := results_none hf _ _ _
theorem res_cells {t tt : TypeId} {b : Nat} {cs : List Value} {m : Nat} (hagg : ∀ w, (isAgg t).run P w = .ok true w) (hs : ∀ w, (sizeOf t).run P w = .ok m w) (hS : St B we w L) [hb : HasBx L b cs tt] (hk : cs.length = m) : (loadVar t ⟨b, 0, none⟩).run P w = .ok (.agg cs.toArray) w := by
  subst hk
  have hc := run_loadCells_list (P := P) w ⟨b, 0, none⟩ cs fun k v hk => by
    have hk' := (List.getElem?_eq_some_iff.1 hk).1
    have := bx_cell (hS.bx (b := b) (cs := cs) (t := tt)) hk'
    rw [add_lit, Nat.zero_add, this, List.getD_eq_getElem?_getD, hk]
    rfl
  simp only [loadVar, Sem.run_bind, hagg, Result.andThen_ok, if_true, hs, hc, Sem.run_pure]
theorem resS {s : Nat} {t tt : TypeId} {b : Nat} {cs : List Value} {m : Nat} (hf : fn.results = #[.cell s t]) (he : E s = some (.eq (.pointer (some ⟨b, 0, none⟩)))) (hagg : ∀ w, (isAgg t).run P w = .ok true w) (hs : ∀ w, (sizeOf t).run P w = .ok m w) (hS : St B we w L) [hb : HasBx L b cs tt] (hk : cs.length = m)
    (a : Act) (hsat : Sat E a w) : (results fn a.tmps).run P w = .ok (.agg cs.toArray) w := by
  have h1 : tm a s = .pointer (some ⟨b, 0, none⟩) := hsat s _ he
  have h2 := res_cells (tt := tt) hagg hs hS (b := b) (cs := cs) hk
  unfold tm at h1
  unfold results
  rw [hf]
  simp only [List.mapM_toArray, List.mapM_cons, List.mapM_nil, h1, asAddr, pure_bind]
  generalize loadVar t ⟨b, 0, none⟩ = ld at h2 ⊢
  simp [h2, go_sem]
theorem resST {s s2 : Nat} {t tt : TypeId} {b : Nat} {cs : List Value} {m : Nat} {v2 : Value} (hf : fn.results = #[.cell s t, .tmp s2]) (he : E s = some (.eq (.pointer (some ⟨b, 0, none⟩)))) (he2 : E s2 = some (.eq v2)) (hagg : ∀ w, (isAgg t).run P w = .ok true w) (hs : ∀ w, (sizeOf t).run P w = .ok m w) (hS : St B we w L) [hb : HasBx L b cs tt] (hk : cs.length = m)
    (a : Act) (hsat : Sat E a w) : (results fn a.tmps).run P w = .ok (.tuple #[.agg cs.toArray, v2]) w := by
  have h1 : tm a s = .pointer (some ⟨b, 0, none⟩) := hsat s _ he
  have h3 : tm a s2 = v2 := hsat s2 _ he2
  have h2 := res_cells (tt := tt) hagg hs hS (b := b) (cs := cs) hk
  unfold tm at h1 h3
  unfold results
  rw [hf]
  simp only [List.mapM_toArray, List.mapM_cons, List.mapM_nil, h1, h3, asAddr, pure_bind]
  generalize loadVar t ⟨b, 0, none⟩ = ld at h2 ⊢
  simp [h2, go_sem]

/-- A function is entered. -/
theorem calls_cw {f : FuncId} {c : Code} {args : List Value} (hf : P.funcs[f]? = some fn) (hb : fn.body = some c) (hn : fn.ntmps = n) (hle : Nat.ble args.length n = true)
    (h : CW P n c (bodyPost P fn R) (Env.of (args.zipIdx.map fun (v, i) => (i, .eq v))) w) : Calls P f args.toArray w R := by
  refine calls_of_wp hf hb (h _ rfl ?_ ?_)
  · have := Nat.le_of_ble_eq_true hle
    simp [hn]; omega
  · have key : ∀ (l : List Value) (k : Nat) (a : Act), (∀ i v, l[i]? = some v → tm a (k + i) = v) → Sat (Env.of ((l.zipIdx k).map fun (v, i) => (i, .eq v))) a w := by
      intro l
      induction l with
      | nil => intro k a _ t p h; simp [Env.of] at h
      | cons v l ih =>
        intro k a hl
        rw [List.zipIdx_cons, List.map_cons]
        intro t p hp
        simp only [Env.of] at hp
        cases hb : Nat.beq t k with
        | true =>
          rw [hb] at hp
          simp only [cond_true, Option.some.injEq] at hp
          subst hp
          have := Nat.eq_of_beq_eq_true hb
          subst this
          exact hl 0 v rfl
        | false =>
          rw [hb] at hp
          simp only [cond_false] at hp
          exact ih (k + 1) a (fun i u hi => by have := hl (i + 1) u (by simpa using hi); rw [← this]; congr 1; omega) t p hp
    refine key args 0 _ fun i v hi => ?_
    have hlt := (List.getElem?_eq_some_iff.1 hi).1
    simp only [tm, Nat.zero_add, Array.getD_eq_getD_getElem?]
    rw [Array.getElem?_append_left (by simpa using hlt)]
    simp [hi]
end
end Go.Proofs.Ytnpgeohkmdcbkaa.Aq
