/- The engine, part 9: a region whose order is drawn, some of whose operations write: these come one behind the other, the others whenever. -/
import Derived.Test.YtnpgeohkmdcbkaaEng8
namespace Go.Proofs.Ytnpgeohkmdcbkaa.Aq
open Go Go.RowKit

def PV.isSat : PV → Bool
  | .sat _ => true
  | _ => false
def lookM : List (Option Nat) → List Value → Nat → Option Value
  | some d :: ds, v :: vs, t => bif Nat.beq t d then some v else lookM ds vs t
  | none :: ds, _ :: vs, t => lookM ds vs t
  | _, _, _ => none
def envM (E : Env) (ds : List (Option Nat)) (vs : List Value) : Env := fun t => match lookM ds vs t with
  | some v => some (.eq v)
  | none => E t
def Env.on (E : Env) (L : List Nat) : Env := fun t => bif L.any (Nat.beq t) then E t else none
def vOf : Option Nat → Value → Value
  | some _, v => v
  | none, _ => undef
def tmO (a : Act) : Option Nat → Value
  | some d => tm a d
  | none => undef
def PostM (d : Option Nat) (K : Value → World → Prop) : Exit → Act → World → Prop := fun e a w => e = .normal ∧ a.defers = [] ∧ K (tmO a d) w

theorem put_vOf {a : Act} {d : Option Nat} {v : Value} {n : Nat} (hn : a.tmps.size = n) (hd : ∀ x, d = some x → x < n) : tmO (a.put d v) d = vOf d v := by
  cases d with
  | none => rfl
  | some d => exact tm_put_same hn (hd d rfl)

theorem wp_of_lw {P : Program} {n : Nat} {ops : Array Oper} {o : Oper} {E : Env} {a : Act} {w : World} {K : Value → World → Prop} {Q' : Exit → Act → World → Prop} (hg : o.guard = none) (hd : ∀ d, o.dst = some d → d < n) (ha : a.defers = []) (hn : a.tmps.size = n) (hs : Sat E a w)
    (h : LW P n ops (PostM o.dst K) [o] E w) : o.wp P a w (fun a' w' => ∃ v, a' = a.put o.dst v ∧ K (vOf o.dst v) w') Q' := by
  have h1 := h a ha hn hs
  unfold wpList at h1
  rw [if_pos (by simp [Region.wanted, hg])] at h1
  rcases h1 with h1 | ⟨_, a', w', h2, _⟩
  · unfold Oper.wp at h1 ⊢
    have key : ∀ v w', PostM o.dst K .normal (a.put o.dst v) w' → ∃ v', a.put o.dst v = a.put o.dst v' ∧ K (vOf o.dst v') w' := fun v w' hp => ⟨v, rfl, by
      have h3 := hp.2.2
      have h4 := put_vOf (a := a) (d := o.dst) (v := v) hn hd
      rw [h4] at h3; exact h3⟩
    generalize (execOp a.eval o).run P w = r at *
    cases r with
    | ok x w' =>
      cases x with
      | value v => exact key v w' h1
      | skip => exact key undef w' h1
      | defer d =>
        exfalso
        have := h1.2.1
        rw [put_defers] at this
        cases this
      | enter f args =>
        refine Calls.mono h1 fun e w'' he => ?_
        cases e with
        | returned v => exact key v w'' he
        | panicked c => exact absurd he.1 (by simp)
        | outgrown => obtain ⟨a', w', h2, _⟩ := he; cases h2
      | row row args => exact Rows.mono h1 fun v w'' he => key v w'' he
      | _ => exact h1
    | halt x w' =>
      cases x <;> first | exact h1 | exact absurd h1.1 (by simp)
  · cases h2

def FreeOk2 (P : Program) (n : Nat) (ops : Array Oper) (S : World → Prop) (Ph : List Value → World → Prop) : Env → List (Option Nat) → List Oper → List Bool → (Env → List (Option Nat) → Prop) → Prop
  | E, ds, [], [], K => K E ds
  | E, ds, o :: l, false :: fl, K => ∃ p, p.isSat = false ∧ OpV P n ops S E o p ∧ FreeOk2 P n ops S Ph (E.updo o.dst p) ds l fl K
  | E, ds, o :: l, true :: fl, K => (∀ vs w, vs.length = ds.length → Ph vs w → LW P n ops (PostM o.dst fun v w' => Ph (vs ++ [v]) w') [o] ((envM E ds vs).on (o.looksAt ops)) w) ∧ FreeOk2 P n ops S Ph (E.updo o.dst (.sat fun _ _ => True)) (ds ++ [o.dst]) l fl K
  | _, _, _, _, _ => False

section
variable {P : Program} {n : Nat} {ops : Array Oper} {S : World → Prop} {Ph : List Value → World → Prop} {E : Env} {ds : List (Option Nat)} {K : Env → List (Option Nat) → Prop}
theorem free2_nil (h : K E ds) : FreeOk2 P n ops S Ph E ds [] [] K := h
theorem free2_v {o : Oper} {l : List Oper} {fl : List Bool} {p : PV} (h : OpV P n ops S E o p) (hp : p.isSat = false) (hl : FreeOk2 P n ops S Ph (E.updo o.dst p) ds l fl K) : FreeOk2 P n ops S Ph E ds (o :: l) (false :: fl) K := ⟨p, hp, h, hl⟩
theorem free2_w {o : Oper} {l : List Oper} {fl : List Bool} (h : ∀ vs w, vs.length = ds.length → Ph vs w → LW P n ops (PostM o.dst fun v w' => Ph (vs ++ [v]) w') [o] ((envM E ds vs).on (o.looksAt ops)) w)
    (hl : FreeOk2 P n ops S Ph (E.updo o.dst (.sat fun _ _ => True)) (ds ++ [o.dst]) l fl K) : FreeOk2 P n ops S Ph E ds (o :: l) (true :: fl) K := ⟨h, hl⟩
end

def dM : List Oper → List Bool → List (Option Nat)
  | o :: l, true :: fl => o.dst :: dM l fl
  | _ :: l, false :: fl => dM l fl
  | _, _ => []
def cM (fl : List Bool) (i : Nat) : Nat := ((fl.take i).filter fun b => b).length

theorem dM_len : ∀ (l : List Oper) (fl : List Bool), l.length = fl.length → (dM l fl).length = (fl.filter fun b => b).length
  | [], [], _ => rfl
  | o :: l, true :: fl, h => by simp [dM, dM_len l fl (by simpa using h)]
  | o :: l, false :: fl, h => by simp [dM, dM_len l fl (by simpa using h)]

theorem free2_list {P : Program} {n : Nat} {ops : Array Oper} {S : World → Prop} {Ph : List Value → World → Prop} {K : Env → List (Option Nat) → Prop} : ∀ (l : List Oper) (fl : List Bool) (E : Env) (ds : List (Option Nat)), FreeOk2 P n ops S Ph E ds l fl K →
    fl.length = l.length ∧ ∃ ps : List PV, ps.length = l.length ∧ (∀ (i : Nat) (o : Oper) (p : PV), l[i]? = some o → ps[i]? = some p → fl[i]? = some false → p.isSat = false ∧ OpV P n ops S (envs E (l.take i) (ps.take i)) o p) ∧
      (∀ (i : Nat) (p : PV), ps[i]? = some p → fl[i]? = some true → p = .sat fun _ _ => True) ∧
      (∀ (i : Nat) (o : Oper), l[i]? = some o → fl[i]? = some true → ∀ vs w, vs.length = (ds ++ dM (l.take i) (fl.take i)).length → Ph vs w → LW P n ops (PostM o.dst fun v w' => Ph (vs ++ [v]) w') [o] ((envM (envs E (l.take i) (ps.take i)) (ds ++ dM (l.take i) (fl.take i)) vs).on (o.looksAt ops)) w) ∧
      K (envs E l ps) (ds ++ dM l fl)
  | [], [], E, ds, h => ⟨rfl, [], rfl, fun i o p h1 => by simp at h1, fun i p h1 => by simp at h1, fun i o h1 => by simp at h1, by simp only [FreeOk2] at h; simpa [dM, envs] using h⟩
  | [], _ :: _, E, ds, h => by simp [FreeOk2] at h
  | _ :: _, [], E, ds, h => by simp [FreeOk2] at h
  | o :: l, false :: fl, E, ds, ⟨p, hp, h, hl⟩ => by
    obtain ⟨h0, ps, h1, h2, h3, h4, h5⟩ := free2_list l fl _ ds hl
    refine ⟨by simp [h0], p :: ps, by simp [h1], fun i o' p' ho hp' hf => ?_, fun i p' hp' hf => ?_, fun i o' ho hf => ?_, h5⟩
    · cases i with
      | zero => simp at ho hp'; subst ho; subst hp'; exact ⟨hp, h⟩
      | succ i => simp at ho hp' hf; exact h2 i o' p' ho hp' hf
    · cases i with
      | zero => simp at hf
      | succ i => simp at hp' hf; exact h3 i p' hp' hf
    · cases i with
      | zero => simp at hf
      | succ i => simp at ho hf; exact h4 i o' ho hf
  | o :: l, true :: fl, E, ds, ⟨h, hl⟩ => by
    obtain ⟨h0, ps, h1, h2, h3, h4, h5⟩ := free2_list l fl _ _ hl
    refine ⟨by simp [h0], (.sat fun _ _ => True) :: ps, by simp [h1], fun i o' p' ho hp' hf => ?_, fun i p' hp' hf => ?_, fun i o' ho hf => ?_, by simpa [dM, envs] using h5⟩
    · cases i with
      | zero => simp at hf
      | succ i => simp at ho hp' hf; exact h2 i o' p' ho hp' hf
    · cases i with
      | zero => simp at hp'; exact hp'.symm
      | succ i => simp at hp' hf; exact h3 i p' hp' hf
    · cases i with
      | zero => simp at ho; subst ho; simpa [dM, envs] using h
      | succ i =>
        simp at ho hf
        have := h4 i o' ho hf
        simpa [dM, envs] using this

theorem lookM_some {t : Nat} {v : Value} : ∀ (l : List Oper) (fl : List Bool) (vs : List Value), l.length = fl.length → lookM (dM l fl) vs t = some v → ∃ j o, l[j]? = some o ∧ fl[j]? = some true ∧ o.dst = some t ∧ vs[cM fl j]? = some v
  | [], fl, vs, _, h => by simp [dM, lookM] at h
  | o :: l, [], vs, hl, h => by simp at hl
  | o :: l, false :: fl, vs, hl, h => by
    obtain ⟨j, o', h1, h2, h3, h4⟩ := lookM_some l fl vs (by simpa using hl) (by simpa [dM] using h)
    exact ⟨j + 1, o', by simpa using h1, by simpa using h2, h3, by simpa [cM] using h4⟩
  | o :: l, true :: fl, [], hl, h => by
    simp [dM] at h
    cases hd : o.dst <;> rw [hd] at h <;> simp [lookM] at h
  | o :: l, true :: fl, u :: vs, hl, h => by
    have rec' : lookM (dM l fl) vs t = some v → ∃ j o', (o :: l)[j]? = some o' ∧ (true :: fl)[j]? = some true ∧ o'.dst = some t ∧ (u :: vs)[cM (true :: fl) j]? = some v := fun h => by
      obtain ⟨j, o', h1, h2, h3, h4⟩ := lookM_some l fl vs (by simpa using hl) h
      exact ⟨j + 1, o', by simpa using h1, by simpa using h2, h3, by simpa [cM] using h4⟩
    simp only [dM] at h
    cases hd : o.dst with
    | none => rw [hd] at h; exact rec' h
    | some d =>
      rw [hd] at h
      simp only [lookM] at h
      cases hb : Nat.beq t d with
      | true =>
        rw [hb] at h
        simp at h
        subst h
        have := Nat.eq_of_beq_eq_true hb
        subst this
        exact ⟨0, o, by simp, by simp, hd, by simp [cM]⟩
      | false => rw [hb] at h; exact rec' h

def chk2 (n k : Nat) (fl : List Bool) (ops : Array Oper) : Bool :=
  let L := ops.toList
  let M := masks L []
  let idx := List.range L.length
  (idx.all fun i => match L[i]? with | some o => (needs o).all (fun m => Nat.blt m i) | none => true) &&
  ((List.range k).all fun i => match L[i]? with
    | some o => (match o.dst with | some d => Nat.blt d n | none => fl.getD i false) &&
      ((List.range k).all fun j => Nat.beq i j || (match L[j]? with
        | some o' => (match o'.dst with
          | some d' => !(o.dst == some d') && (!((o.looksAt ops).contains d') || (bif Nat.blt j i then waits M i j else waits M j i))
          | none => true)
        | none => true)) &&
      (match o.guard with | some (j, _) => !(fl.getD i false) && Nat.blt j i && waits M i j && ((ops[j]?).bind (·.dst)).isSome | none => true) &&
      (!(fl.getD i false) || (List.range i).all fun j => !(fl.getD j false) || waits M i j)
    | none => false) &&
  (idx.all fun i => Nat.blt i k || (List.range i).all fun j => waits M i j) &&
  Nat.ble k L.length

structure Shaped2 (n k : Nat) (fl : List Bool) (ops : Array Oper) (W : Nat → Nat → Prop) : Prop where
  back : ∀ i o, ops[i]? = some o → ∀ m ∈ needs o, m < i
  wait : ∀ i o j, ops[i]? = some o → W i j → ∃ m ∈ needs o, m = j ∨ (m < i ∧ W m j)
  dst : ∀ i, i < k → ∃ o, ops[i]? = some o ∧ (∀ d, o.dst = some d → d < n) ∧ (o.dst = none → fl.getD i false = true)
  ne : ∀ i j o o' d, i < k → j < k → i ≠ j → ops[i]? = some o → ops[j]? = some o' → o'.dst = some d → o.dst ≠ some d
  look : ∀ i j o o' d', i < k → j < k → i ≠ j → ops[i]? = some o → ops[j]? = some o' → o'.dst = some d' → d' ∈ o.looksAt ops → (j < i → W i j) ∧ (i < j → W j i)
  grd : ∀ i o j b, i < k → ops[i]? = some o → o.guard = some (j, b) → fl.getD i false = false ∧ j < i ∧ W i j ∧ ((ops[j]?).bind (·.dst)).isSome = true
  mord : ∀ i j, i < k → j < i → fl.getD i false = true → fl.getD j false = true → W i j
  tail : ∀ i j, k ≤ i → i < ops.size → j < i → W i j
  le : k ≤ ops.size

theorem chk2_shaped {n k : Nat} {fl : List Bool} {ops : Array Oper} (h : chk2 n k fl ops = true) : Shaped2 n k fl ops (fun i j => waits (masks ops.toList []) i j = true) := by
  unfold chk2 at h
  simp only [Bool.and_eq_true, List.all_eq_true, List.mem_range] at h
  obtain ⟨⟨⟨h1, h2⟩, h3⟩, h4⟩ := h
  have hle : k ≤ ops.size := by simpa using Nat.le_of_ble_eq_true h4
  have mo := masks_ok ops.toList ops.toList [] (by simp) (by simp) (fun i o hi => by simp at hi)
  have gt : ∀ i : Nat, ops.toList[i]? = ops[i]? := fun i => Array.getElem?_toList
  have nb : ∀ {i j : Nat}, i ≠ j → Nat.beq i j = false := fun {i j} hne => by
    cases hb : Nat.beq i j with
    | false => rfl
    | true => exact absurd (Nat.eq_of_beq_eq_true hb) hne
  refine ⟨?_, ?_, ?_, ?_, ?_, ?_, ?_, ?_, hle⟩
  · intro i o ho m hm
    have hi : i < ops.toList.length := by have := (Array.getElem?_eq_some_iff.1 ho).1; simpa using this
    have := h1 i hi
    rw [gt, ho] at this
    exact of_blt (List.all_eq_true.1 this m hm)
  · intro i o j ho hw
    have hi : i < (masks ops.toList []).length := by rw [mo.2]; have := (Array.getElem?_eq_some_iff.1 ho).1; simpa using this
    obtain ⟨m, h5, h6⟩ := mo.1 i o hi (by rw [gt]; exact ho) j hw
    exact ⟨m, h5, h6⟩
  · intro i hi
    have := h2 i hi
    cases ho : ops[i]? with
    | none => rw [gt, ho] at this; simp at this
    | some o =>
      rw [gt, ho] at this
      simp only [Bool.and_eq_true] at this
      refine ⟨o, rfl, fun d hd => ?_, fun hd => ?_⟩
      · have h5 := this.1.1.1
        rw [hd] at h5
        exact of_blt h5
      · have h5 := this.1.1.1
        rw [hd] at h5
        exact h5
  · intro i j o o' d hi hj hne ho ho' hd he
    have := h2 i hi
    rw [gt, ho] at this
    simp only [Bool.and_eq_true, List.all_eq_true, List.mem_range] at this
    have h5 := this.1.1.2 j hj
    rw [gt, ho'] at h5
    simp only [nb hne, Bool.false_or, hd, he, Bool.and_eq_true] at h5
    simp at h5
  · intro i j o o' d' hi hj hne ho ho' hd' hm
    have := h2 i hi
    rw [gt, ho] at this
    simp only [Bool.and_eq_true, List.all_eq_true, List.mem_range] at this
    have h5 := this.1.1.2 j hj
    rw [gt, ho'] at h5
    simp only [nb hne, Bool.false_or, hd', Bool.and_eq_true] at h5
    have hc : (o.looksAt ops).contains d' = true := by simpa using hm
    have h6 := h5.2
    rw [hc] at h6
    simp only [Bool.not_true, Bool.false_or] at h6
    refine ⟨fun hlt => ?_, fun hlt => ?_⟩
    · have : Nat.blt j i = true := by rw [Nat.blt_eq]; exact hlt
      rw [this] at h6; exact h6
    · have : Nat.blt j i = false := by
        cases hb : Nat.blt j i with
        | false => rfl
        | true => have := of_blt hb; omega
      rw [this] at h6; exact h6
  · intro i o j b hi ho hg
    have := h2 i hi
    rw [gt, ho] at this
    simp only [Bool.and_eq_true] at this
    have h5 := this.1.2
    rw [hg] at h5
    simp only [Bool.and_eq_true] at h5
    exact ⟨by simpa using h5.1.1.1, of_blt h5.1.1.2, h5.1.2, h5.2⟩
  · intro i j hi hj hfi hfj
    have := h2 i hi
    cases ho : ops[i]? with
    | none => rw [gt, ho] at this; simp at this
    | some o =>
      rw [gt, ho] at this
      simp only [Bool.and_eq_true] at this
      have h5 := this.2
      rw [hfi] at h5
      simp only [Bool.not_true, Bool.false_or, List.all_eq_true, List.mem_range] at h5
      have h6 := h5 j hj
      rw [hfj] at h6
      simpa using h6
  · intro i j hki hi hj
    have := h3 i (by simpa using hi)
    rw [Bool.or_eq_true] at this
    rcases this with h5 | h5
    · have := of_blt h5; omega
    · exact List.all_eq_true.1 h5 j (List.mem_range.2 hj)

section
variable {P : Program} {n k : Nat} {fl : List Bool} {ops : Array Oper} {Q : Exit → Act → World → Prop} {W : Nat → Nat → Prop}
/-- The shape that part 1 asks, of a region without operations that come in whatever order: only its order. -/
theorem Shaped2.plain (hs : Shaped2 n k fl ops W) : ∀ {L : Array Bool}, (∀ i o, ops[i]? = some o → L.getD i false = true → ∀ m ∈ needs o, L.getD m false = true) →
    ∀ (i : Nat) (o : Oper) (j : Nat), ops[i]? = some o → W i j → (∀ m ∈ needs o, L.getD m false = true) → L.getD j false = true := by
  intro L hc i
  induction i using Nat.strongRecOn with
  | _ i ih =>
    intro o j ho hw hn
    obtain ⟨m, hm, h⟩ := hs.wait i o j ho hw
    have hmi := hs.back i o ho m hm
    rcases h with rfl | ⟨_, h⟩
    · exact hn m hm
    · have hm' : m < ops.size := by have := (Array.getElem?_eq_some_iff.1 ho).1; omega
      exact ih m hmi ops[m] j (Array.getElem?_eq_getElem hm') h (hc m _ (Array.getElem?_eq_getElem hm') (hn m hm))

theorem tail_any2 (hs : Shaped2 n k fl ops W) : ∀ (fuel m : Nat) (L : Array Bool) (a : Act) (w : World), k ≤ m → m ≤ ops.size → L.size = ops.size → (∀ j, j < ops.size → L.getD j false = decide (j < m)) →
    ops.size - m ≤ fuel → wpOps P ops Q (List.range' m (ops.size - m)) a w → wpAny P .any ops Q fuel L a w := by
  intro fuel
  induction fuel with
  | zero =>
    intro m L a w hkm hm hL hj hf h
    have : ops.size - m = 0 := by omega
    rw [this] at h
    refine ⟨?_, h⟩
    refine List.eq_nil_iff_forall_not_mem.2 fun i hi => ?_
    obtain ⟨o, ho, h1, _⟩ := mem_ready.1 hi
    have hi' := (Array.getElem?_eq_some_iff.1 ho).1
    rw [getD_tf (by omega), hj i hi'] at h1
    simp at h1
    omega
  | succ fuel ih =>
    intro m L a w hkm hm hL hj hf h
    have only : ∀ i ∈ Region.ready .any ops L, i = m := by
      intro i hi
      obtain ⟨o, ho, h1, h2⟩ := mem_ready.1 hi
      have hi' := (Array.getElem?_eq_some_iff.1 ho).1
      rw [getD_tf (by omega), hj i hi'] at h1
      simp at h1
      rcases Nat.lt_or_ge m i with hlt | hge
      · have hw := hs.tail i m (by omega) hi' hlt
        have hmm : m < ops.size := by omega
        have := hs.plain (L := L) (fun i o ho hl mm hmm' => by
          have hi2 := (Array.getElem?_eq_some_iff.1 ho).1
          rw [hj i hi2] at hl
          have := hs.back i o ho mm hmm'
          rw [hj mm (by omega)]
          simp at hl ⊢
          omega) i o m ho hw h2
        rw [hj m hmm] at this
        simp at this
      · omega
    constructor
    · intro hr
      by_cases hlt : m < ops.size
      · exfalso
        have : m ∈ Region.ready .any ops L := mem_ready.2 ⟨ops[m], Array.getElem?_eq_getElem hlt, by rw [getD_tf (by omega), hj m hlt]; simp, fun mm hmm => by
          have := hs.back m _ (Array.getElem?_eq_getElem hlt) mm hmm
          rw [hj mm (by omega)]
          simpa using this⟩
        rw [hr] at this
        simp at this
      · have : ops.size - m = 0 := by omega
        rw [this] at h
        exact h
    · intro i hi
      have := only i hi
      subst this
      obtain ⟨o, ho, _, _⟩ := mem_ready.1 hi
      have hi' := (Array.getElem?_eq_some_iff.1 ho).1
      have e : ops.size - i = (ops.size - (i + 1)) + 1 := by omega
      rw [e, List.range'_succ, wpOps_cons] at h
      refine wpOp_mono (fun a' w' h' => ?_) h
      refine ih (i + 1) _ a' w' (by omega) (by omega) (by simpa using hL) (fun j hj' => ?_) (by omega) h'
      rw [getD_set _ (by omega), hj j hj']
      by_cases hji : j = i
      · subst hji; simp
      · rw [if_neg hji]; congr 1; simp; omega

/-- A loop over what is drawn, with an invariant of one's own. -/
theorem draw_inv (hs : Shaped2 n k fl ops W) (Inv : Array Bool → Act → World → Prop)
    (hclosed : ∀ L a w, Inv L a w → L.size = ops.size ∧ (∀ i o, ops[i]? = some o → L.getD i false = true → ∀ m ∈ needs o, L.getD m false = true) ∧ ∀ i, k ≤ i → L.getD i false = false)
    (hstep : ∀ L a w i o, Inv L a w → i < k → ops[i]? = some o → L.getD i false = false → (∀ m ∈ needs o, L.getD m false = true) → wpOp P ops Q i (Inv (L.setIfInBounds i true)) a w)
    (hend : ∀ L a w, Inv L a w → (∀ i, i < k → L.getD i false = true) → wpOps P ops Q (List.range' k (ops.size - k)) a w) :
    ∀ (fuel : Nat) (L : Array Bool) (a : Act) (w : World), Inv L a w → cnt ops.size L ≤ fuel → wpAny P .any ops Q fuel L a w := by
  intro fuel
  induction fuel with
  | zero =>
    intro L a w hI hcnt
    obtain ⟨hL, hc, ht⟩ := hclosed L a w hI
    have all : ∀ i, i < ops.size → L.getD i false = true := fun i hi => cnt_zero hcnt hi
    have hle := hs.le
    have hk : k = ops.size := by
      rcases Nat.lt_or_ge k ops.size with hlt | hge
      · have h1 := all k hlt; rw [ht k (Nat.le_refl _)] at h1; cases h1
      · omega
    exact tail_any2 hs 0 k L a w (Nat.le_refl _) hs.le hL (fun j hj => by rw [all j hj]; simp; omega) (by omega) (hend L a w hI fun i hi => all i (by omega))
  | succ fuel ih =>
    intro L a w hI hcnt
    obtain ⟨hL, hc, ht⟩ := hclosed L a w hI
    have hle := hs.le
    by_cases hall : ∀ i, i < k → L.getD i false = true
    · refine tail_any2 hs (fuel + 1) k L a w (Nat.le_refl _) hs.le hL (fun j hj => ?_) ?_ (hend L a w hI hall)
      · by_cases hjk : j < k
        · rw [hall j hjk]; simp [hjk]
        · rw [ht j (by omega)]; simp; omega
      · refine Nat.le_trans ?_ hcnt
        unfold cnt
        have e : (List.range' k (ops.size - k)).length = ops.size - k := by simp
        rw [← e]
        refine List.Sublist.length_le ?_
        have hr : List.range ops.size = List.range k ++ List.range' k (ops.size - k) := by
          rw [List.range_eq_range', List.range_eq_range']
          have h2 : ops.size = k + (ops.size - k) := by omega
          conv => lhs; rw [h2]
          rw [← List.range'_append_1]
          simp
        rw [hr, List.filter_append]
        refine List.Sublist.trans ?_ (List.sublist_append_right _ _)
        rw [List.filter_eq_self.2]
        · exact List.Sublist.refl _
        · intro j hj
          rw [List.mem_range'_1] at hj
          rw [ht j hj.1]; rfl
    · have hex : ∃ i, i < k ∧ L.getD i false = false := by
        refine Classical.byContradiction fun hne => hall fun i hi => ?_
        cases hb' : L.getD i false with
        | true => rfl
        | false => exact absurd ⟨i, hi, hb'⟩ hne
      constructor
      · intro hr
        exfalso
        have least : ∀ i, i < k → L.getD i false = false → False := by
          intro i
          induction i using Nat.strongRecOn with
          | _ i ihi =>
            intro hi hLi
            have hi' : i < ops.size := by omega
            have : i ∈ Region.ready .any ops L := mem_ready.2 ⟨ops[i], Array.getElem?_eq_getElem hi', by rw [getD_tf (by omega)]; exact hLi, fun m hm => by
              have hmi := hs.back i _ (Array.getElem?_eq_getElem hi') m hm
              cases hb' : L.getD m false with
              | true => rfl
              | false => exact (ihi m hmi (by omega) hb').elim⟩
            rw [hr] at this
            simp at this
        obtain ⟨i, hi, hLi⟩ := hex
        exact least i hi hLi
      · intro i hi
        obtain ⟨o, ho, h1, h2⟩ := mem_ready.1 hi
        have hi' := (Array.getElem?_eq_some_iff.1 ho).1
        rw [getD_tf (by omega)] at h1
        have hik : i < k := by
          rcases Nat.lt_or_ge i k with hlt | hge
          · exact hlt
          · obtain ⟨j, hj, hLj⟩ := hex
            have := hs.plain hc i o j ho (hs.tail i j hge hi' (by omega)) h2
            rw [hLj] at this
            cases this
        refine wpOp_mono (fun a' w' hI' => ih _ a' w' hI' ?_) (hstep L a w i o hI hik ho h1 h2)
        have := cnt_set (N := ops.size) hi' (by omega) h1
        omega
end

theorem PV.ok_any {a : Act} {w w' : World} {p : PV} {v : Value} (hp : p.isSat = false) (h : p.ok a w v) : p.ok a w' v := by
  cases p with
  | sat F => cases hp
  | _ => exact h

theorem exact_eq {E : Env} {t : Nat} {q : PV} (h : E.exact t = some q) : ∃ v, q = .eq v ∧ E t = some (.eq v) := by
  obtain ⟨h1, h2⟩ := filter_some h
  cases q with
  | eq v => exact ⟨v, rfl, h1⟩
  | _ => simp [PV.isEq] at h2

theorem cM_succ {fl : List Bool} {i : Nat} {b : Bool} (h : fl[i]? = some b) : cM fl (i + 1) = cM fl i + (if b then 1 else 0) := by
  unfold cM
  rw [List.take_add_one, h, List.filter_append, List.length_append]
  cases b <;> simp
theorem cM_mono {fl : List Bool} {i j : Nat} (h : i ≤ j) : cM fl i ≤ cM fl j := by
  unfold cM
  exact List.Sublist.length_le ((List.take_sublist_take_left h).filter _)
theorem cM_lt {fl : List Bool} {i j : Nat} (h : i < j) (hi : fl[i]? = some true) : cM fl i < cM fl j := by
  have h1 := cM_succ hi
  have h2 := cM_mono (fl := fl) (show i + 1 ≤ j by omega)
  simp at h1
  omega

/-- A region whose order is drawn: its first operations l1 in whatever order, save that those that 'fl' marks, which may write, come one behind the other; then l2 in the text's order. Ph: what holds behind so many of the marked ones, whose values are given. -/
theorem cw_draw2 {P : Program} {n id : Nat} {ops : Array Oper} {Q : Exit → Act → World → Prop} {E : Env} {w0 : World} (hm : P.follows .mixedOrders = true) (l1 l2 : List Oper) (fl : List Bool) (hl : ops.toList = l1 ++ l2)
    (hchk : chk2 n l1.length fl ops = true) (S : World → Prop) (Ph : List Value → World → Prop) (hS : ∀ vs w, Ph vs w → S w) (hdrew : Ph [] { w0 with drawn := w0.drawn + 1 })
    (h : FreeOk2 P n ops S Ph E.exact [] l1 fl fun E' ds => ∀ vs w', vs.length = ds.length → Ph vs w' → LW P n ops Q l2 (envM E' ds vs) w') : CW P n (.region id ops true) Q E w0 := by
  intro a0 ha0 hn0 hs0
  refine wp_region_any hm ?_
  obtain ⟨hfl, ps, hlen, hpure, htriv, hmain, hend⟩ := free2_list l1 fl _ _ h
  have hs := chk2_shaped hchk
  generalize hW : (fun i j => waits (masks ops.toList []) i j = true) = W at hs
  clear hW
  have hle := hs.le
  have ht1 : ops.toList.take l1.length = l1 := by rw [hl]; simp
  have hsz : ops.size = l1.length + l2.length := by have := congrArg List.length hl; simpa using this
  have getl : ∀ i, i < l1.length → l1[i]? = ops[i]? := fun i hi => by rw [← Array.getElem?_toList, hl, List.getElem?_append_left hi]
  simp only [List.nil_append] at hmain hend
  have flget : ∀ i, i < l1.length → fl[i]? = some (fl.getD i false) := fun i hi => by
    rw [List.getD_eq_getElem?_getD, List.getElem?_eq_getElem (by omega)]; rfl
  have base : ∀ {t : Nat} {q : PV} {a : Act} {w : World}, E.exact t = some q → tm a t = tm a0 t → q.ok a w (tm a t) := by
    intro t q a w he ht
    obtain ⟨v, rfl, hv⟩ := exact_eq he
    have := hs0 t _ hv
    show tm a t = v
    rw [ht]; exact this
  let Inv : Array Bool → Act → World → Prop := fun L a w =>
    (L.size = ops.size ∧ (∀ i o, ops[i]? = some o → L.getD i false = true → ∀ m ∈ needs o, L.getD m false = true) ∧ ∀ i, l1.length ≤ i → L.getD i false = false) ∧ a.defers = [] ∧ a.tmps.size = n ∧
    (∀ (i : Nat) (o : Oper) (p : PV) (d : Nat), i < l1.length → L.getD i false = true → ops[i]? = some o → ps[i]? = some p → o.dst = some d → p.ok a w (tm a d)) ∧
    (∀ t : Nat, (∀ (i : Nat) (o : Oper), i < l1.length → L.getD i false = true → ops[i]? = some o → o.dst ≠ some t) → tm a t = tm a0 t) ∧
    ∃ vs, Ph vs w ∧ vs.length ≤ cM fl l1.length ∧ ∀ (i : Nat) (o : Oper), i < l1.length → fl[i]? = some true → ops[i]? = some o → (L.getD i false = true ↔ cM fl i < vs.length) ∧ ∀ d, o.dst = some d → cM fl i < vs.length → vs[cM fl i]? = some (tm a d)
  -- what is seen by an operation that is ready
  have seen : ∀ (L : Array Bool) (a : Act) (w : World) (i : Nat) (o : Oper), Inv L a w → i < l1.length → ops[i]? = some o → L.getD i false = false → (∀ m ∈ needs o, L.getD m false = true) →
      SatOn (o.looksAt ops) (envs E.exact (l1.take i) (ps.take i)) a w := by
    intro L a w i o hI hi ho hLi hnd t ht q hq
    obtain ⟨⟨hL, hc, _⟩, _, _, hd, hb, _⟩ := hI
    have hli : (ps.take i).length = (l1.take i).length := by simp; omega
    rcases envs_look _ _ _ hli hq with ⟨j, o', h1, h2, h3⟩ | ⟨h1, h2⟩
    · have hj : j < i := by
        have := (List.getElem?_eq_some_iff.1 h1).1
        simp at this
        omega
      rw [List.getElem?_take_of_lt hj, getl j (by omega)] at h1
      rw [List.getElem?_take_of_lt hj] at h2
      have hw := (hs.look i j o o' t hi (by omega) (by omega) ho h1 h3 ht).1 hj
      exact hd j o' q t (by omega) (hs.plain hc i o j ho hw hnd) h1 h2 h3
    · refine base h1 (hb t fun j o' hj hLj ho' he => ?_)
      rcases Nat.lt_trichotomy j i with hlt | heq | hgt
      · exact h2 j o' (by rw [List.getElem?_take_of_lt hlt, getl j hj]; exact ho') he
      · subst heq; rw [hLi] at hLj; cases hLj
      · have hw := (hs.look i j o o' t hi hj (by omega) ho ho' he ht).2 hgt
        have := hs.plain hc j o' i ho' hw (hc j o' ho' hLj)
        rw [hLi] at this
        cases this
  -- the next state
  have next : ∀ (L : Array Bool) (a : Act) (w : World) (i : Nat) (o : Oper) (p : PV) (v : Value) (w' : World) (vs' : List Value), Inv L a w → i < l1.length → ops[i]? = some o → L.getD i false = false → (∀ m ∈ needs o, L.getD m false = true) →
      ps[i]? = some p → (∀ d, o.dst = some d → p.ok a w' v) → Ph vs' w' → vs'.length ≤ cM fl l1.length →
      (∀ (j : Nat) (o' : Oper), j < l1.length → fl[j]? = some true → ops[j]? = some o' → ((L.setIfInBounds i true).getD j false = true ↔ cM fl j < vs'.length) ∧ ∀ d, o'.dst = some d → cM fl j < vs'.length → vs'[cM fl j]? = some (tm (a.put o.dst v) d)) →
      Inv (L.setIfInBounds i true) (a.put o.dst v) w' := by
    intro L a w i o p v w' vs' hI hik ho h1 h2 hpi hp hPh hvl hvs
    obtain ⟨⟨hL, hc, ht⟩, ha, hn, hd, hb, _⟩ := hI
    have hLi : i < L.size := by omega
    obtain ⟨o2, ho2, hdn, _⟩ := hs.dst i hik
    rw [ho] at ho2
    injection ho2 with ho2
    subst ho2
    refine ⟨⟨by simpa using hL, ?_, ?_⟩, by rw [put_defers]; exact ha, by rw [put_size]; exact hn, ?_, ?_, vs', hPh, hvl, hvs⟩
    · intro j o' hj hLj m hm
      rw [getD_set _ hLi] at hLj ⊢
      by_cases hmi : m = i
      · rw [if_pos hmi]
      · rw [if_neg hmi]
        by_cases hji : j = i
        · subst hji
          rw [ho] at hj
          injection hj with hj
          subst hj
          exact h2 m hm
        · rw [if_neg hji] at hLj
          exact hc j o' hj hLj m hm
    · intro j hj
      rw [getD_set _ hLi, if_neg (by omega)]
      exact ht j hj
    · intro j o' p' d' hj hLj ho' hp' hd'
      rw [getD_set _ hLi] at hLj
      -- a marked one's fact says nothing
      cases hfj : fl.getD j false with
      | true =>
        have := htriv j p' hp' (by rw [flget j hj, hfj])
        subst this
        exact fun _ _ => trivial
      | false =>
      obtain ⟨hns, hopv⟩ := hpure j o' p' (by rw [getl j hj]; exact ho') hp' (by rw [flget j hj, hfj])
      have other : ∀ s want c, p' = .gd s want c → tm (a.put o.dst v) s = tm a s := by
        intro s want c he
        cases hdst : o.dst with
        | none => rfl
        | some d =>
        obtain ⟨g1, b1, hg1, hg2⟩ := hopv.shape s want c he
        obtain ⟨_, hgj, hgw, _⟩ := hs.grd j o' g1 b1 hj ho' hg1
        have hog : g1 < ops.size := by omega
        rw [Array.getElem?_eq_getElem hog] at hg2
        simp only [Option.bind_some] at hg2
        refine tm_put_ne fun hse => ?_
        subst hse
        have hgi : g1 = i := by
          refine Classical.byContradiction fun hne => ?_
          exact hs.ne i g1 o _ s hik (by omega) (Ne.symm hne) ho (Array.getElem?_eq_getElem hog) hg2 hdst
        subst hgi
        by_cases hji : j = g1
        · omega
        · rw [if_neg hji] at hLj
          have := hs.plain hc j o' g1 ho' hgw (hc j o' ho' hLj)
          rw [h1] at this
          cases this
      by_cases hji : j = i
      · subst hji
        rw [ho] at ho'
        injection ho' with ho'
        subst ho'
        rw [hpi] at hp'
        injection hp' with hp'
        subst hp'
        rw [hd'] at other ⊢
        rw [tm_put_same hn (hdn d' hd')]
        exact PV.ok_act (hp d' hd') other
      · rw [if_neg hji] at hLj
        have h5 := PV.ok_any (w' := w') hns (hd j o' p' d' hj hLj ho' hp' hd')
        have e1 : tm (a.put o.dst v) d' = tm a d' := by
          cases hdst : o.dst with
          | none => rfl
          | some d => exact tm_put_ne fun he => hs.ne i j o o' d' hik hj (Ne.symm hji) ho ho' hd' (by rw [hdst, he])
        rw [e1]
        exact PV.ok_act h5 other
    · intro t hwr
      have e1 : tm (a.put o.dst v) t = tm a t := by
        cases hdst : o.dst with
        | none => rfl
        | some d => exact tm_put_ne fun he => hwr i o hik (by rw [getD_set _ hLi, if_pos rfl]) ho (by rw [hdst, he])
      rw [e1]
      refine hb t fun j o' hj hLj ho' => hwr j o' hj ?_ ho'
      rw [getD_set _ hLi]
      split
      · rfl
      · exact hLj
  refine draw_inv (k := l1.length) hs Inv (fun L a w hI => hI.1) ?_ ?_ ops.size _ a0 _ ?_ ?_
  · intro L a w i o hI hik ho h1 h2
    have hI0 := hI
    obtain ⟨⟨hL, hc, ht⟩, ha, hn, hd, hb, vs, hPh, hvl, hvs⟩ := hI
    have hpi : ps[i]? = some ps[i] := List.getElem?_eq_getElem (by omega)
    have hsee := seen L a w i o hI0 hik ho h1 h2
    have hLi : i < L.size := by omega
    unfold wpOp
    simp only [ho]
    cases hfi : fl.getD i false with
    | false =>
      obtain ⟨hns, hop⟩ := hpure i o _ (by rw [getl i hik]; exact ho) hpi (by rw [flget i hik, hfi])
      have nx : ∀ v, ps[i].ok a w v → Inv (L.setIfInBounds i true) (a.put o.dst v) w := fun v hp => by
        refine next L a w i o _ v w vs hI0 hik ho h1 h2 hpi (fun _ _ => hp) hPh hvl fun j o' hj hfj ho' => ?_
        have hji : j ≠ i := fun he => by subst he; rw [flget j hj, hfi] at hfj; cases hfj
        obtain ⟨h6, h7⟩ := hvs j o' hj hfj ho'
        refine ⟨by rw [getD_set _ hLi, if_neg hji]; exact h6, fun d hd' hlt => ?_⟩
        rw [h7 d hd' hlt]
        congr 1
        cases hdst : o.dst with
        | none => rfl
        | some d2 => exact (tm_put_ne fun he => hs.ne i j o o' d hik hj (Ne.symm hji) ho ho' hd' (by rw [hdst, he])).symm
      split
      · rename_i hw
        refine .inl ?_
        obtain ⟨v, hr, hp⟩ := hop.run a w hn hsee (hS _ _ hPh) hw
        unfold Oper.wp
        rw [hr]
        exact nx v hp
      · rename_i hw
        exact nx undef (hop.skip a w hn hsee (hS _ _ hPh) (by simpa using hw))
    | true =>
      have hf : fl[i]? = some true := by rw [flget i hik, hfi]
      have hg : o.guard = none := by
        cases hgg : o.guard with
        | none => rfl
        | some g => have := (hs.grd i o g.1 g.2 hik ho hgg).1; rw [hfi] at this; cases this
      have hlt : ¬ cM fl i < vs.length := fun hlt => by
        have := (hvs i o hik hf ho).1.2 hlt
        rw [h1] at this; cases this
      have hvlen : vs.length = cM fl i := by
        refine Nat.le_antisymm (by omega) ?_
        -- all marked ones ahead are done
        refine Classical.byContradiction fun hne => ?_
        have hlt2 : vs.length < cM fl i := by omega
        -- the marked one of number vs.length
        have ex : ∀ i, i ≤ l1.length → vs.length < cM fl i → ∃ j, j < i ∧ fl[j]? = some true ∧ cM fl j = vs.length := by
          intro i
          induction i with
          | zero => intro _ h; simp [cM] at h
          | succ i ih =>
            intro hi h
            by_cases h7 : vs.length < cM fl i
            · obtain ⟨j, hj, h8⟩ := ih (by omega) h7
              exact ⟨j, by omega, h8⟩
            · have h8 := cM_succ (flget i (by omega))
              cases h9 : fl.getD i false with
              | false => rw [h9] at h8; simp at h8; omega
              | true => rw [h9] at h8; simp at h8; exact ⟨i, by omega, by rw [flget i (by omega), h9], by omega⟩
        obtain ⟨j, hj, hfj, hcj⟩ := ex i (by omega) hlt2
        have hjs : j < ops.size := by omega
        have hw := hs.mord i j hik hj hfi (by rw [List.getD_eq_getElem?_getD, hfj]; rfl)
        have hLj := hs.plain hc i o j ho hw h2
        have := (hvs j _ (by omega) hfj (Array.getElem?_eq_getElem hjs)).1.1 hLj
        omega
      have hdlen : (dM (l1.take i) (fl.take i)).length = cM fl i := by rw [dM_len _ _ (by simp; omega)]; rfl
      have hlw := hmain i o (by rw [getl i hik]; exact ho) hf vs w (by omega) hPh
      rw [if_pos (by simp [Region.wanted, hg])]
      refine .inl ?_
      obtain ⟨o2, ho2, hdn, _⟩ := hs.dst i hik
      rw [ho] at ho2
      injection ho2 with ho2
      subst ho2
      refine Oper.wp_mono ?_ (wp_of_lw hg hdn ha hn ?_ hlw)
      · rintro a' w' ⟨v, rfl, hK⟩
        refine next L a w i o _ v w' _ hI0 hik ho h1 h2 hpi (fun d hd' => ?_) hK ?_ fun j o' hj hfj ho' => ?_
        · have := htriv i _ hpi hf
          rw [this]
          exact fun _ _ => trivial
        · have := cM_lt hik hf
          simp; omega
        · by_cases hji : j = i
          · subst hji
            rw [ho] at ho'
            injection ho' with ho'
            subst ho'
            refine ⟨⟨fun _ => by simp; omega, fun _ => by rw [getD_set _ hLi, if_pos rfl]⟩, fun d hd' _ => ?_⟩
            rw [List.getElem?_append_right (by omega), hvlen, Nat.sub_self, hd', tm_put_same hn (hdn d hd')]
            rfl
          · obtain ⟨h6, h7⟩ := hvs j o' hj hfj ho'
            have hne : cM fl j ≠ cM fl i := by
              rcases Nat.lt_trichotomy j i with h | h | h
              · have := cM_lt h hfj; omega
              · exact absurd h hji
              · have := cM_lt h hf; omega
            refine ⟨by rw [getD_set _ hLi, if_neg hji, h6]; simp; omega, fun d hd' hlt' => ?_⟩
            have hlt2 : cM fl j < vs.length := by simp at hlt'; omega
            rw [List.getElem?_append_left hlt2, h7 d hd' hlt2]
            congr 1
            cases hdst : o.dst with
            | none => rfl
            | some d2 => exact (tm_put_ne fun he => hs.ne i j o o' d hik hj (Ne.symm hji) ho ho' hd' (by rw [hdst, he])).symm
      · intro t q hq
        unfold Env.on at hq
        cases hb' : (o.looksAt ops).any (Nat.beq t) with
        | false => rw [hb'] at hq; cases hq
        | true =>
          rw [hb'] at hq
          simp only [cond_true] at hq
          obtain ⟨t', ht', he⟩ := List.any_eq_true.1 hb'
          have := Nat.eq_of_beq_eq_true he
          subst this
          unfold envM at hq
          split at hq
          · rename_i v hv
            injection hq with hq
            subst hq
            obtain ⟨j, o', h5, h6, h7, h8⟩ := lookM_some _ _ vs (by simp; omega) hv
            have hji : j < i := by have := (List.getElem?_eq_some_iff.1 h5).1; simp at this; omega
            rw [List.getElem?_take_of_lt hji, getl j (by omega)] at h5
            rw [List.getElem?_take_of_lt hji] at h6
            have hcj : cM (fl.take i) j = cM fl j := by unfold cM; rw [List.take_take, Nat.min_eq_left (by omega)]
            rw [hcj] at h8
            have h9 := (List.getElem?_eq_some_iff.1 h8).1
            have := (hvs j o' (by omega) h6 h5).2 t h7 h9
            rw [h8] at this
            injection this with this
            exact this.symm
          · exact hsee t ht' q hq
  · intro L a w hI hall
    obtain ⟨⟨hL, hc, ht⟩, ha, hn, hd, hb, vs, hPh, hvl, hvs⟩ := hI
    have hdlen : (dM l1 fl).length = cM fl l1.length := by
      rw [dM_len _ _ (by omega)]; unfold cM; rw [List.take_of_length_le (by omega)]
    have hvlen : vs.length = cM fl l1.length := by
      refine Nat.le_antisymm hvl ?_
      refine Classical.byContradiction fun hne => ?_
      have ex : ∀ i, i ≤ l1.length → vs.length < cM fl i → ∃ j, j < i ∧ fl[j]? = some true ∧ cM fl j = vs.length := by
        intro i
        induction i with
        | zero => intro _ h; simp [cM] at h
        | succ i ih =>
          intro hi h
          by_cases h7 : vs.length < cM fl i
          · obtain ⟨j, hj, h8⟩ := ih (by omega) h7
            exact ⟨j, by omega, h8⟩
          · have h8 := cM_succ (flget i (by omega))
            cases h9 : fl.getD i false with
            | false => rw [h9] at h8; simp at h8; omega
            | true => rw [h9] at h8; simp at h8; exact ⟨i, by omega, by rw [flget i (by omega), h9], by omega⟩
      obtain ⟨j, hj, hfj, hcj⟩ := ex l1.length (Nat.le_refl _) (by omega)
      have := (hvs j _ hj hfj (Array.getElem?_eq_getElem (by omega))).1.1 (hall j hj)
      omega
    have hr : ops.size - l1.length = l2.length := by omega
    rw [hr, wpOps_eq_wpList l2 l1.length]
    · refine hend vs w (by omega) hPh a ha hn ?_
      intro t q hq
      unfold envM at hq
      split at hq
      · rename_i v hv
        injection hq with hq
        subst hq
        obtain ⟨j, o', h5, h6, h7, h8⟩ := lookM_some _ _ vs (by omega) hv
        have hj : j < l1.length := (List.getElem?_eq_some_iff.1 h5).1
        rw [getl j hj] at h5
        have h9 := (List.getElem?_eq_some_iff.1 h8).1
        have := (hvs j o' hj h6 h5).2 t h7 h9
        rw [h8] at this
        injection this with this
        exact this.symm
      · rcases envs_look _ _ _ (by omega) hq with ⟨j, o', h1, h2, h3⟩ | ⟨h1, h2⟩
        · have hj : j < l1.length := (List.getElem?_eq_some_iff.1 h1).1
          rw [getl j hj] at h1
          exact hd j o' q t hj (hall j hj) h1 h2 h3
        · exact base h1 (hb t fun j o' hj _ ho' => h2 j o' (by rw [getl j hj]; exact ho'))
    · intro j
      rw [← Array.getElem?_toList, hl, List.getElem?_append_right (by omega)]
      congr 1
      omega
  · refine ⟨⟨by simp, fun i o _ hLi => ?_, fun i _ => getD_rep _ _⟩, ha0, hn0, fun i o p d _ hLi => ?_, fun t _ => rfl, [], hdrew, by simp, fun i o hi hf ho => ⟨?_, fun d _ hlt => by simp at hlt⟩⟩
    · rw [getD_rep] at hLi; cases hLi
    · rw [getD_rep] at hLi; cases hLi
    · rw [getD_rep]; simp
  · unfold cnt
    exact Nat.le_trans (List.length_filter_le _ _) (by simp)

theorem ok_each {P : Program} {n : Nat} {ops : Array Oper} {S : World → Prop} {E : Env} {o : Oper} {p : PV} {w0 : World} (hw : S w0) (h : ∀ w, S w → OpV P n ops (Gr w) E o p) : OpV P n ops S E o p where
  shape := (h w0 hw).shape
  run := fun a w hn hs hS hwant => (h w hS).run a w hn hs (Gr.refl w) hwant
  skip := fun a w hn hs hS hwant => (h w hS).skip a w hn hs (Gr.refl w) hwant

theorem St.drew {B : Nat} {we w : World} {L : List Asn} (h : St B we w L) : St B we { w with drawn := w.drawn + 1 } L := h.grow (gr_drew w)

/-! A literal slice, made among operations whose order is drawn. -/
theorem ok_ls {P : Program} {n : Nat} {ops : Array Oper} {E : Env} {o : Oper} {w0 : World} {α : Type} {enc : α → List Value} {sz : Nat} {d : α} [hE : Enc enc sz d] {t e : TypeId} {m : Nat} {parts : Array (Nat × Operand)} {vs : List (Nat × Value)} {z : Value} (xs : List α) (hg : o.guard = none)
    (ho : o.op = .buildSlice t m parts) (hu : P.underlying t = some (.slice e)) (hsz : ∀ w, (sizeOf e).run P w = .ok sz w) (hz : ∀ w, (zeroValue e).run P w = .ok z w)
    (hvs : E.allp none parts.toList = some vs) (hf : Instr.fill (fun i => some (i * sz, sz)) ((Array.range (m * sz)).map (z.cells[· % z.cells.size]!)) vs = some (xs.flatMap enc).toArray) (hm : xs.length = m) (hm0 : 0 < m) (hm1 : m * sz ≤ 16777216) :
    OpOk P n ops (Gr w0) E o (.sat fun v w => ∃ A c, v = .slice A m c ∧ (own enc sz e A m c xs).p w ∧ ∀ b, (own enc sz e A m c xs).fp b → w0.heap.size ≤ b) where
  shape := fun _ _ _ he => by cases he
  run := fun a w hn hs hS hw => by
    have hv := allp_of (ρ := a.eval) (fun p hp v hv => agree_of (g := none) hs (fun s b h => by cases h) p.2 (by rw [ho]; simp only [Op.operands]; exact List.mem_toArray.2 (List.mem_map.2 ⟨p, hp, rfl⟩)) v hv) hvs
    have hp := hE.pos
    have h0 : m * sz ≠ 0 := by have := Nat.mul_pos hm0 hp; omega
    have hrun : (execOp a.eval o).run P w = .ok (.value (.slice (some ⟨w.heap.size, 0, none⟩) m m)) (w.alloc (.cells (xs.flatMap enc).toArray e)) := by
      have hv : (parts.map fun (i, x) => (i, a.eval x)).toList = vs := by simpa using hv
      simp only [execOp, ho, Instr.buildSlice, Sem.run_bind, run_underlying hu, Result.andThen_ok, hsz, hv]
      rw [if_neg (by omega)]
      simp only [h0, if_false, Sem.run_bind, hz, Result.andThen_ok, Sem.run_pure]
      rw [hf]
      rfl
    unfold OpR
    rw [hrun]
    subst hm
    refine ⟨gr_alloc _ _, fun w' g => ⟨_, _, rfl, Asn.grow (own enc sz e _ _ _ xs) ?_ g, fun b ⟨ad, e1, e2⟩ => by injection e1 with e1; subst e1; subst e2; exact Gr.size hS⟩⟩
    have := World.ownsRow_lit (base := 0) (e := e) (size := sz) w (xs.flatMap enc).toArray xs.length (Nat.zero_le _) (by simp only [maxLen]; have : xs.length ≤ xs.length * sz := Nat.le_mul_of_pos_right _ hp; omega) (by simpa using flat_len (enc := enc) xs)
    exact ⟨rfl, this⟩
  skip := fun a w hn hs hS hw => by simp [Region.wanted, hg] at hw

end Go.Proofs.Ytnpgeohkmdcbkaa.Aq
