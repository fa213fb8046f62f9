/- The engine, part 1: a region whose order is drawn: its first operations, whatever their order, then the rest in the text's order. -/
import Derived.Test.YtnpgeohkmdcbkaaEng0
namespace Go.Proofs.Ytnpgeohkmdcbkaa.Aq
open Go Go.RowKit

/-- What an operation waits for. -/
def needs (o : Oper) : List Nat := (o.after.toList.filter (fun e => Region.binds .any e)).map (fun e => e.on)
def maskOf (acc : List Nat) : List Nat → Nat
  | [] => 0
  | j :: r => (2 ^ j ||| acc.getD j 0) ||| maskOf acc r
def masks : List Oper → List Nat → List Nat
  | [], acc => acc
  | o :: l, acc => masks l (acc ++ [maskOf acc (needs o)])

theorem maskOf_bit {acc : List Nat} {i : Nat} : ∀ {ns : List Nat}, (maskOf acc ns).testBit i = true → ∃ m ∈ ns, m = i ∨ (acc.getD m 0).testBit i = true
  | [], h => by simp [maskOf] at h
  | j :: r, h => by
    unfold maskOf at h
    rw [Nat.testBit_or, Nat.testBit_or, Bool.or_eq_true, Bool.or_eq_true] at h
    rcases h with (h | h) | h
    · rw [Nat.testBit_two_pow] at h
      exact ⟨j, List.mem_cons_self, .inl (by simpa using h)⟩
    · exact ⟨j, List.mem_cons_self, .inr h⟩
    · obtain ⟨m, hm, h2⟩ := maskOf_bit h
      exact ⟨m, List.mem_cons_of_mem _ hm, h2⟩

/-- acc are the masks of the first operations of L. -/
def MaskOk (L : List Oper) (acc : List Nat) : Prop := ∀ i o, i < acc.length → L[i]? = some o → ∀ j, (acc.getD i 0).testBit j = true → ∃ m ∈ needs o, m = j ∨ (m < i ∧ (acc.getD m 0).testBit j = true)

theorem masks_ok (L : List Oper) : ∀ (l : List Oper) (acc : List Nat), acc.length + l.length = L.length → L.drop acc.length = l → MaskOk L acc → MaskOk L (masks l acc) ∧ (masks l acc).length = L.length
  | [], acc, h, _, hm => ⟨hm, by unfold masks; simpa using h⟩
  | o :: l, acc, h, hd, hm => by
    have ho : L[acc.length]? = some o := by
      have : (L.drop acc.length)[0]? = some o := by rw [hd]; rfl
      rw [List.getElem?_drop] at this
      simpa using this
    refine masks_ok L l (acc ++ [maskOf acc (needs o)]) (by simp at h ⊢; omega) ?_ ?_
    · rw [List.length_append, List.length_singleton, ← List.drop_drop, hd]; rfl
    · intro i o' hi hL j hb
      have get : ∀ m, m < acc.length → (acc ++ [maskOf acc (needs o)]).getD m 0 = acc.getD m 0 := fun m hm' => by
        simp [List.getD_eq_getElem?_getD, List.getElem?_append_left hm']
      by_cases hlt : i < acc.length
      · rw [get i hlt] at hb
        obtain ⟨m, hm1, hm2⟩ := hm i o' hlt hL j hb
        refine ⟨m, hm1, hm2.imp id fun ⟨h1, h2⟩ => ⟨h1, by rw [get m (by omega)]; exact h2⟩⟩
      · have hie : i = acc.length := by simp at hi; omega
        subst hie
        rw [ho] at hL
        injection hL with hL
        subst hL
        have : (acc ++ [maskOf acc (needs o)]).getD acc.length 0 = maskOf acc (needs o) := by simp [List.getD_eq_getElem?_getD]
        rw [this] at hb
        obtain ⟨m, hm1, hm2⟩ := maskOf_bit hb
        refine ⟨m, hm1, ?_⟩
        rcases hm2 with rfl | hm2
        · exact .inl rfl
        · by_cases hml : m < acc.length
          · exact .inr ⟨hml, by rw [get m hml]; exact hm2⟩
          · have : acc.getD m 0 = 0 := by simp [List.getD_eq_getElem?_getD, List.getElem?_eq_none (by omega : acc.length ≤ m)]
            rw [this] at hm2
            simp at hm2

/-- The operation at i waits for j. -/
def waits (M : List Nat) (i j : Nat) : Bool := (M.getD i 0).testBit j

/-- What is asked of the region's shape. k: how many operations come in whatever order. -/
def chk (n k : Nat) (ops : Array Oper) : Bool :=
  let L := ops.toList
  let M := masks L []
  let idx := List.range L.length
  -- needs lie behind
  (idx.all fun i => match L[i]? with | some o => (needs o).all (fun m => Nat.blt m i) | none => true) &&
  -- the first k: each has a slot of its own, below n; another's slot that it looks at is ordered against it
  ((List.range k).all fun i => match L[i]? with
    | some o => (match o.dst with | some d => Nat.blt d n | none => false) &&
      ((List.range k).all fun j => Nat.beq i j || (match L[j]? with
        | some o' => !(o'.dst == o.dst) && (match o'.dst with
          | some d' => !((o.looksAt ops).contains d') || (bif Nat.blt j i then waits M i j else waits M j i)
          | none => true)
        | none => true)) &&
      (match o.guard with | some (j, _) => Nat.blt j i && waits M i j && ((ops[j]?).bind (·.dst)).isSome | none => true)
    | none => false) &&
  -- the rest in the text's order
  (idx.all fun i => Nat.blt i k || (List.range i).all fun j => waits M i j) &&
  Nat.ble k L.length

structure Shaped (n k : Nat) (ops : Array Oper) (W : Nat → Nat → Prop) : Prop where
  back : ∀ i o, ops[i]? = some o → ∀ m ∈ needs o, m < i
  wait : ∀ i o j, ops[i]? = some o → W i j → ∃ m ∈ needs o, m = j ∨ (m < i ∧ W m j)
  dst : ∀ i, i < k → ∃ o d, ops[i]? = some o ∧ o.dst = some d ∧ d < n
  ne : ∀ i j o o', i < k → j < k → i ≠ j → ops[i]? = some o → ops[j]? = some o' → o'.dst ≠ o.dst
  look : ∀ i j o o' d', i < k → j < k → i ≠ j → ops[i]? = some o → ops[j]? = some o' → o'.dst = some d' → d' ∈ o.looksAt ops → (j < i → W i j) ∧ (i < j → W j i)
  grd : ∀ i o j b, i < k → ops[i]? = some o → o.guard = some (j, b) → j < i ∧ W i j ∧ ((ops[j]?).bind (·.dst)).isSome = true
  tail : ∀ i j, k ≤ i → i < ops.size → j < i → W i j
  le : k ≤ ops.size

theorem chk_shaped {n k : Nat} {ops : Array Oper} (h : chk n k ops = true) : Shaped n k ops (fun i j => waits (masks ops.toList []) i j = true) := by
  unfold chk at h
  simp only [Bool.and_eq_true, List.all_eq_true, List.mem_range] at h
  obtain ⟨⟨⟨h1, h2⟩, h3⟩, h4⟩ := h
  have hle : k ≤ ops.size := by simpa using Nat.le_of_ble_eq_true h4
  have mo := masks_ok ops.toList ops.toList [] (by simp) (by simp) (fun i o hi => by simp at hi)
  have gt : ∀ i : Nat, ops.toList[i]? = ops[i]? := fun i => Array.getElem?_toList
  refine ⟨?_, ?_, ?_, ?_, ?_, ?_, ?_, hle⟩
  · intro i o ho m hm
    have hi : i < ops.toList.length := by have := (Array.getElem?_eq_some_iff.1 ho).1; simpa using this
    have := h1 i hi
    rw [gt, ho] at this
    exact of_blt (List.all_eq_true.1 this m hm)
  · intro i o j ho hw
    have hi : i < (masks ops.toList []).length := by rw [mo.2]; have := (Array.getElem?_eq_some_iff.1 ho).1; simpa using this
    obtain ⟨m, h5, h6⟩ := mo.1 i o hi (by rw [gt]; exact ho) j hw
    exact ⟨m, h5, h6⟩
  · intro i hi
    have := h2 i hi
    cases ho : ops[i]? with
    | none => rw [gt, ho] at this; simp at this
    | some o =>
      rw [gt, ho] at this
      simp only [Bool.and_eq_true] at this
      cases hd : o.dst with
      | none => rw [hd] at this; simp at this
      | some d => rw [hd] at this; exact ⟨o, d, rfl, hd, of_blt this.1.1⟩
  · intro i j o o' hi hj hne ho ho'
    have := h2 i hi
    rw [gt, ho] at this
    simp only [Bool.and_eq_true, List.all_eq_true, List.mem_range] at this
    have h5 := this.1.2 j hj
    rw [gt, ho'] at h5
    have hb : Nat.beq i j = false := by
      cases hb : Nat.beq i j with
      | false => rfl
      | true => exact absurd (Nat.eq_of_beq_eq_true hb) hne
    simp only [hb, Bool.false_or, Bool.and_eq_true] at h5
    intro he
    have := h5.1
    rw [he] at this
    simp at this
  · intro i j o o' d' hi hj hne ho ho' hd' hm
    have := h2 i hi
    rw [gt, ho] at this
    simp only [Bool.and_eq_true, List.all_eq_true, List.mem_range] at this
    have h5 := this.1.2 j hj
    rw [gt, ho'] at h5
    have hb : Nat.beq i j = false := by
      cases hb : Nat.beq i j with
      | false => rfl
      | true => exact absurd (Nat.eq_of_beq_eq_true hb) hne
    simp only [hb, Bool.false_or, Bool.and_eq_true, hd'] at h5
    have hc : (o.looksAt ops).contains d' = true := by simpa using hm
    have h6 := h5.2
    rw [hc] at h6
    simp only [Bool.not_true, Bool.false_or] at h6
    refine ⟨fun hlt => ?_, fun hlt => ?_⟩
    · have : Nat.blt j i = true := by rw [Nat.blt_eq]; exact hlt
      rw [this] at h6; exact h6
    · have : Nat.blt j i = false := by
        cases hb : Nat.blt j i with
        | false => rfl
        | true => have := of_blt hb; omega
      rw [this] at h6; exact h6
  · intro i o j b hi ho hg
    have := h2 i hi
    rw [gt, ho] at this
    simp only [Bool.and_eq_true] at this
    have h5 := this.2
    rw [hg] at h5
    simp only [Bool.and_eq_true] at h5
    exact ⟨of_blt h5.1.1, h5.1.2, h5.2⟩
  · intro i j hki hi hj
    have := h3 i (by simpa using hi)
    rw [Bool.or_eq_true] at this
    rcases this with h5 | h5
    · have := of_blt h5; omega
    · exact List.all_eq_true.1 h5 j (List.mem_range.2 hj)


def envs (E : Env) : List Oper → List PV → Env
  | o :: l, p :: ps => envs (E.updo o.dst p) l ps
  | _, _ => E

theorem free_list {P : Program} {n : Nat} {ops : Array Oper} {S : World → Prop} {K : Env → Prop} : ∀ (l : List Oper) (E : Env), FreeOk P n ops S E l K →
    ∃ ps : List PV, ps.length = l.length ∧ (∀ (i : Nat) (o : Oper) (p : PV), l[i]? = some o → ps[i]? = some p → OpOk P n ops S (envs E (l.take i) (ps.take i)) o p) ∧ K (envs E l ps)
  | [], E, h => ⟨[], rfl, fun i o p h1 => by simp at h1, h⟩
  | o :: l, E, ⟨p, h, hl⟩ => by
    obtain ⟨ps, h1, h2, h3⟩ := free_list l _ hl
    refine ⟨p :: ps, by simp [h1], fun i o' p' ho hp => ?_, h3⟩
    cases i with
    | zero =>
      simp at ho hp
      subst ho; subst hp
      exact h
    | succ i =>
      simp at ho hp
      exact h2 i o' p' ho hp

theorem envs_look {t : Nat} {q : PV} : ∀ (l : List Oper) (ps : List PV) (E : Env), ps.length = l.length → envs E l ps t = some q →
    (∃ (j : Nat) (o : Oper), l[j]? = some o ∧ ps[j]? = some q ∧ o.dst = some t) ∨ (E t = some q ∧ ∀ (j : Nat) (o : Oper), l[j]? = some o → o.dst ≠ some t)
  | [], ps, E, _, h => .inr ⟨by unfold envs at h; cases ps <;> exact h, fun j o h1 => by simp at h1⟩
  | o :: l, [], E, hl, h => by simp at hl
  | o :: l, p :: ps, E, hl, h => by
    unfold envs at h
    rcases envs_look l ps _ (by simpa using hl) h with ⟨j, o', h1, h2, h3⟩ | ⟨h1, h2⟩
    · exact .inl ⟨j + 1, o', by simpa using h1, by simpa using h2, h3⟩
    · cases hd : o.dst with
      | none =>
        rw [hd] at h1
        refine .inr ⟨h1, fun j o' hj => ?_⟩
        cases j with
        | zero => simp at hj; subst hj; rw [hd]; simp
        | succ j => exact h2 j o' (by simpa using hj)
      | some d =>
        rw [hd] at h1
        by_cases ht : t = d
        · subst ht
          simp only [Env.updo, upd_same] at h1
          injection h1 with h1
          subst h1
          exact .inl ⟨0, o, by simp, by simp, hd⟩
        · simp only [Env.updo, upd_ne E p ht] at h1
          refine .inr ⟨(filter_some h1).1, fun j o' hj => ?_⟩
          cases j with
          | zero => simp at hj; subst hj; rw [hd]; intro he; injection he with he; exact ht he.symm
          | succ j => exact h2 j o' (by simpa using hj)

section
variable {P : Program} {n k : Nat} {ops : Array Oper} {Q : Exit → Act → World → Prop} {W : Nat → Nat → Prop}

theorem mem_ready {L : Array Bool} {i : Nat} : i ∈ Region.ready .any ops L ↔ ∃ o, ops[i]? = some o ∧ L.getD i true = false ∧ ∀ m ∈ needs o, L.getD m false = true := by
  unfold Region.ready
  rw [List.mem_filter, List.mem_range, Bool.and_eq_true]
  constructor
  · rintro ⟨hi, h1, h2⟩
    refine ⟨ops[i], by simp [hi], by simpa using h1, fun m hm => ?_⟩
    rw [Array.getElem?_eq_getElem hi] at h2
    simp only [Option.map_some, Option.getD_some] at h2
    obtain ⟨e, he, rfl⟩ := List.mem_map.1 hm
    obtain ⟨he1, he2⟩ := List.mem_filter.1 he
    have := Array.all_eq_true_iff_forall_mem.1 h2 e (Array.mem_toList_iff.1 he1)
    rw [he2] at this
    simpa using this
  · rintro ⟨o, ho, h1, h2⟩
    refine ⟨(Array.getElem?_eq_some_iff.1 ho).1, by simp [h1], ?_⟩
    rw [ho]
    simp only [Option.map_some, Option.getD_some]
    refine Array.all_eq_true_iff_forall_mem.2 fun e he => ?_
    cases hb : Region.binds .any e with
    | false => rfl
    | true =>
      simp only [Bool.not_true, Bool.false_or]
      exact h2 _ (List.mem_map.2 ⟨e, List.mem_filter.2 ⟨Array.mem_toList_iff.2 he, hb⟩, rfl⟩)

theorem W_lt (hs : Shaped n k ops W) : ∀ (i : Nat) (o : Oper) (j : Nat), ops[i]? = some o → W i j → j < i := by
  intro i
  induction i using Nat.strongRecOn with
  | _ i ih =>
    intro o j ho hw
    obtain ⟨m, hm, h⟩ := hs.wait i o j ho hw
    have hmi := hs.back i o ho m hm
    rcases h with rfl | ⟨_, h⟩
    · exact hmi
    · have hm' : m < ops.size := by have := (Array.getElem?_eq_some_iff.1 ho).1; omega
      have := ih m hmi ops[m] j (Array.getElem?_eq_getElem hm') h
      omega

theorem W_closed (hs : Shaped n k ops W) {L : Array Bool} (hc : ∀ i o, ops[i]? = some o → L.getD i false = true → ∀ m ∈ needs o, L.getD m false = true) :
    ∀ (i : Nat) (o : Oper) (j : Nat), ops[i]? = some o → W i j → (∀ m ∈ needs o, L.getD m false = true) → L.getD j false = true := by
  intro i
  induction i using Nat.strongRecOn with
  | _ i ih =>
    intro o j ho hw hn
    obtain ⟨m, hm, h⟩ := hs.wait i o j ho hw
    have hmi := hs.back i o ho m hm
    rcases h with rfl | ⟨_, h⟩
    · exact hn m hm
    · have hm' : m < ops.size := by have := (Array.getElem?_eq_some_iff.1 ho).1; omega
      exact ih m hmi ops[m] j (Array.getElem?_eq_getElem hm') h (hc m _ (Array.getElem?_eq_getElem hm') (hn m hm))

theorem getD_set {L : Array Bool} {i j : Nat} (b : Bool) (hi : i < L.size) : (L.setIfInBounds i true).getD j b = if j = i then true else L.getD j b := by
  rw [Array.getD_eq_getD_getElem?, Array.getD_eq_getD_getElem?]
  by_cases h : j = i
  · subst h; simp [hi]
  · rw [Array.getElem?_setIfInBounds_ne (Ne.symm h), if_neg h]

theorem getD_tf {L : Array Bool} {i : Nat} (h : i < L.size) : L.getD i true = L.getD i false := by
  simp [Array.getD, h]

/-- The rest, in the text's order. -/
theorem tail_any (hs : Shaped n k ops W) : ∀ (fuel m : Nat) (L : Array Bool) (a : Act) (w : World), k ≤ m → m ≤ ops.size → L.size = ops.size → (∀ j, j < ops.size → L.getD j false = decide (j < m)) →
    ops.size - m ≤ fuel → wpOps P ops Q (List.range' m (ops.size - m)) a w → wpAny P .any ops Q fuel L a w := by
  intro fuel
  induction fuel with
  | zero =>
    intro m L a w hkm hm hL hj hf h
    have : ops.size - m = 0 := by omega
    rw [this] at h
    refine ⟨?_, h⟩
    refine List.eq_nil_iff_forall_not_mem.2 fun i hi => ?_
    obtain ⟨o, ho, h1, _⟩ := mem_ready.1 hi
    have hi' := (Array.getElem?_eq_some_iff.1 ho).1
    rw [getD_tf (by omega), hj i hi'] at h1
    simp at h1
    omega
  | succ fuel ih =>
    intro m L a w hkm hm hL hj hf h
    have only : ∀ i ∈ Region.ready .any ops L, i = m := by
      intro i hi
      obtain ⟨o, ho, h1, h2⟩ := mem_ready.1 hi
      have hi' := (Array.getElem?_eq_some_iff.1 ho).1
      rw [getD_tf (by omega), hj i hi'] at h1
      simp at h1
      rcases Nat.lt_or_ge m i with hlt | hge
      · have hw := hs.tail i m (by omega) hi' hlt
        have hmm : m < ops.size := by omega
        have := W_closed hs (L := L) (fun i o ho hl mm hmm' => by
          have hi2 := (Array.getElem?_eq_some_iff.1 ho).1
          rw [hj i hi2] at hl
          have := hs.back i o ho mm hmm'
          rw [hj mm (by omega)]
          simp at hl ⊢
          omega) i o m ho hw h2
        rw [hj m hmm] at this
        simp at this
      · omega
    constructor
    · intro hr
      by_cases hlt : m < ops.size
      · exfalso
        have : m ∈ Region.ready .any ops L := mem_ready.2 ⟨ops[m], Array.getElem?_eq_getElem hlt, by rw [getD_tf (by omega), hj m hlt]; simp, fun mm hmm => by
          have := hs.back m _ (Array.getElem?_eq_getElem hlt) mm hmm
          rw [hj mm (by omega)]
          simpa using this⟩
        rw [hr] at this
        simp at this
      · have : ops.size - m = 0 := by omega
        rw [this] at h
        exact h
    · intro i hi
      have := only i hi
      subst this
      obtain ⟨o, ho, _, _⟩ := mem_ready.1 hi
      have hi' := (Array.getElem?_eq_some_iff.1 ho).1
      have e : ops.size - i = (ops.size - (i + 1)) + 1 := by omega
      rw [e, List.range'_succ, wpOps_cons] at h
      refine wpOp_mono (fun a' w' h' => ?_) h
      refine ih (i + 1) _ a' w' (by omega) (by omega) (by simpa using hL) (fun j hj' => ?_) (by omega) h'
      rw [getD_set _ (by omega), hj j hj']
      by_cases hji : j = i
      · subst hji; simp
      · rw [if_neg hji]; congr 1; simp; omega

def cnt (N : Nat) (L : Array Bool) : Nat := ((List.range N).filter fun j => !L.getD j false).length

theorem cnt_set {N i : Nat} {L : Array Bool} (hi : i < N) (hL : i < L.size) (h : L.getD i false = false) : cnt N (L.setIfInBounds i true) < cnt N L := by
  unfold cnt
  have e : (List.range N).filter (fun j => !(L.setIfInBounds i true).getD j false) = ((List.range N).filter fun j => !L.getD j false).filter fun j => !(Nat.beq j i) := by
    rw [List.filter_filter]
    refine List.filter_congr fun j _ => ?_
    rw [getD_set _ hL]
    by_cases hj : j = i
    · subst hj; simp
    · rw [if_neg hj]
      have : Nat.beq j i = false := by
        cases hb : Nat.beq j i with
        | false => rfl
        | true => exact absurd (Nat.eq_of_beq_eq_true hb) hj
      simp [this]
  rw [e]
  refine List.length_filter_lt_length_iff_exists.2 ⟨i, List.mem_filter.2 ⟨List.mem_range.2 hi, by simp only [h]; rfl⟩, by simp⟩

theorem cnt_zero {N i : Nat} {L : Array Bool} (h : cnt N L ≤ 0) (hi : i < N) : L.getD i false = true := by
  unfold cnt at h
  have := List.eq_nil_of_length_eq_zero (Nat.le_zero.1 h)
  cases hb : L.getD i false with
  | true => rfl
  | false =>
    have hm : i ∈ (List.range N).filter fun j => !L.getD j false := List.mem_filter.2 ⟨List.mem_range.2 hi, by simp only [hb]; rfl⟩
    rw [this] at hm
    simp at hm

/-- The first k operations in whatever order, then the rest. -/
theorem draw_any {E : Env} {w0 : World} {a0 : Act} {ps : List PV} (hs : Shaped n k ops W) (hng : ∀ t s want c, E t ≠ some (.gd s want c)) (hsat : Sat E a0 w0)
    (hlen : ps.length = k) (hok : ∀ (i : Nat) (o : Oper) (p : PV), i < k → ops[i]? = some o → ps[i]? = some p → OpOk P n ops (Gr w0) (envs E (ops.toList.take i) (ps.take i)) o p)
    (hend : ∀ (a : Act) (w : World), a.defers = [] → a.tmps.size = n → Sat (envs E (ops.toList.take k) ps) a w → Gr w0 w → wpOps P ops Q (List.range' k (ops.size - k)) a w) :
    ∀ (fuel : Nat) (L : Array Bool) (a : Act) (w : World), L.size = ops.size → a.defers = [] → a.tmps.size = n → Gr w0 w →
      (∀ i o, ops[i]? = some o → L.getD i false = true → ∀ m ∈ needs o, L.getD m false = true) → (∀ i, k ≤ i → L.getD i false = false) →
      (∀ (i : Nat) (o : Oper) (p : PV) (d : Nat), i < k → L.getD i false = true → ops[i]? = some o → ps[i]? = some p → o.dst = some d → p.ok a w (tm a d)) →
      (∀ t : Nat, (∀ (i : Nat) (o : Oper), i < k → L.getD i false = true → ops[i]? = some o → o.dst ≠ some t) → tm a t = tm a0 t) →
      cnt ops.size L ≤ fuel → wpAny P .any ops Q fuel L a w := by
  have htk : (ops.toList.take k).length = k := by have := hs.le; simp; omega
  have gtk : ∀ i j : Nat, j < i → (ops.toList.take i)[j]? = ops[j]? := fun i j h => by rw [List.getElem?_take_of_lt h, Array.getElem?_toList]
  have base : ∀ {t : Nat} {q : PV} {a : Act} {w : World}, E t = some q → Gr w0 w → tm a t = tm a0 t → q.ok a w (tm a t) := by
    intro t q a w he g ht
    have h1 := PV.ok_grow (hsat t q he) g
    rw [← ht] at h1
    exact PV.ok_act h1 fun s want c hq => absurd (hq ▸ he) (hng t s want c)
  -- what an operation that is ready looks at
  have seen : ∀ (L : Array Bool) (a : Act) (w : World) (i : Nat) (o : Oper), i < k → ops[i]? = some o → L.getD i false = false → (∀ m ∈ needs o, L.getD m false = true) → Gr w0 w →
      (∀ i o, ops[i]? = some o → L.getD i false = true → ∀ m ∈ needs o, L.getD m false = true) →
      (∀ (i : Nat) (o : Oper) (p : PV) (d : Nat), i < k → L.getD i false = true → ops[i]? = some o → ps[i]? = some p → o.dst = some d → p.ok a w (tm a d)) →
      (∀ t : Nat, (∀ (i : Nat) (o : Oper), i < k → L.getD i false = true → ops[i]? = some o → o.dst ≠ some t) → tm a t = tm a0 t) →
      SatOn (o.looksAt ops) (envs E (ops.toList.take i) (ps.take i)) a w := by
    intro L a w i o hi ho hLi hn g hc hd hb t ht q hq
    have hli : (ps.take i).length = (ops.toList.take i).length := by have := hs.le; simp; omega
    rcases envs_look _ _ _ hli hq with ⟨j, o', h1, h2, h3⟩ | ⟨h1, h2⟩
    · have hj : j < i := by
        have := (List.getElem?_eq_some_iff.1 h1).1
        simp at this
        omega
      rw [gtk i j hj] at h1
      rw [List.getElem?_take_of_lt hj] at h2
      have hw := (hs.look i j o o' t hi (by omega) (by omega) ho h1 h3 ht).1 hj
      exact hd j o' q t (by omega) (W_closed hs hc i o j ho hw hn) h1 h2 h3
    · refine base h1 g (hb t fun j o' hj hLj ho' he => ?_)
      rcases Nat.lt_trichotomy j i with hlt | heq | hgt
      · exact h2 j o' (by rw [gtk i j hlt]; exact ho') he
      · subst heq; rw [hLi] at hLj; cases hLj
      · have hw := (hs.look i j o o' t hi hj (by omega) ho ho' he ht).2 hgt
        have := W_closed hs hc j o' i ho' hw (hc j o' ho' hLj)
        rw [hLi] at this
        cases this
  intro fuel
  induction fuel with
  | zero =>
    intro L a w hL ha hn g hc ht hd hb hcnt
    have all : ∀ i, i < ops.size → L.getD i false = true := fun i hi => cnt_zero hcnt hi
    have hk : k = ops.size := by
      rcases Nat.lt_or_ge k ops.size with hlt | hge
      · have h1 := all k hlt; rw [ht k (Nat.le_refl _)] at h1; cases h1
      · have := hs.le; omega
    refine tail_any hs 0 k L a w (Nat.le_refl _) hs.le hL (fun j hj => by rw [all j hj]; simp; omega) (by omega) (hend a w ha hn ?_ g)
    intro t q hq
    rcases envs_look _ _ _ (by rw [hlen, htk]) hq with ⟨j, o', h1, h2, h3⟩ | ⟨h1, h2⟩
    · have hj : j < k := by have := (List.getElem?_eq_some_iff.1 h1).1; omega
      rw [gtk k j hj] at h1
      exact hd j o' q t hj (all j (by omega)) h1 h2 h3
    · refine base h1 g (hb t fun j o' hj _ ho' => h2 j o' (by rw [gtk k j hj]; exact ho'))
  | succ fuel ih =>
    intro L a w hL ha hn g hc ht hd hb hcnt
    by_cases hall : ∀ i, i < k → L.getD i false = true
    · refine tail_any hs (fuel + 1) k L a w (Nat.le_refl _) hs.le hL (fun j hj => ?_) ?_ (hend a w ha hn ?_ g)
      · by_cases hjk : j < k
        · rw [hall j hjk]; simp [hjk]
        · rw [ht j (by omega)]; simp; omega
      · -- the unlisted ones are the rest
        refine Nat.le_trans ?_ hcnt
        unfold cnt
        have e : (List.range' k (ops.size - k)).length = ops.size - k := by simp
        rw [← e]
        refine List.Sublist.length_le ?_
        have hr : List.range ops.size = List.range k ++ List.range' k (ops.size - k) := by
          have := hs.le
          rw [List.range_eq_range', List.range_eq_range']
          have h2 : ops.size = k + (ops.size - k) := by omega
          conv => lhs; rw [h2]
          rw [← List.range'_append_1]
          simp
        rw [hr, List.filter_append]
        refine List.Sublist.trans ?_ (List.sublist_append_right _ _)
        rw [List.filter_eq_self.2]
        · exact List.Sublist.refl _
        · intro j hj
          rw [List.mem_range'_1] at hj
          rw [ht j hj.1]; rfl
      · intro t q hq
        rcases envs_look _ _ _ (by rw [hlen, htk]) hq with ⟨j, o', h1, h2, h3⟩ | ⟨h1, h2⟩
        · have hj : j < k := by have := (List.getElem?_eq_some_iff.1 h1).1; omega
          rw [gtk k j hj] at h1
          exact hd j o' q t hj (hall j hj) h1 h2 h3
        · refine base h1 g (hb t fun j o' hj _ ho' => h2 j o' (by rw [gtk k j hj]; exact ho'))
    · have hex : ∃ i, i < k ∧ L.getD i false = false := by
        refine Classical.byContradiction fun hne => hall fun i hi => ?_
        cases hb' : L.getD i false with
        | true => rfl
        | false => exact absurd ⟨i, hi, hb'⟩ hne
      constructor
      · intro hr
        exfalso
        -- the least unlisted one is ready
        have least : ∀ i, i < k → L.getD i false = false → False := by
          intro i
          induction i using Nat.strongRecOn with
          | _ i ihi =>
            intro hi hLi
            have hi' : i < ops.size := by have := hs.le; omega
            have : i ∈ Region.ready .any ops L := mem_ready.2 ⟨ops[i], Array.getElem?_eq_getElem hi', by rw [getD_tf (by omega)]; exact hLi, fun m hm => by
              have hmi := hs.back i _ (Array.getElem?_eq_getElem hi') m hm
              cases hb' : L.getD m false with
              | true => rfl
              | false => exact (ihi m hmi (by omega) hb').elim⟩
            rw [hr] at this
            simp at this
        obtain ⟨i, hi, hLi⟩ := hex
        exact least i hi hLi
      · intro i hi
        obtain ⟨o, ho, h1, h2⟩ := mem_ready.1 hi
        have hi' := (Array.getElem?_eq_some_iff.1 ho).1
        rw [getD_tf (by omega)] at h1
        have hik : i < k := by
          rcases Nat.lt_or_ge i k with hlt | hge
          · exact hlt
          · obtain ⟨j, hj, hLj⟩ := hex
            have := W_closed hs hc i o j ho (hs.tail i j hge hi' (by omega)) h2
            rw [hLj] at this
            cases this
        obtain ⟨o2, d, ho2, hdst, hdn⟩ := hs.dst i hik
        rw [ho] at ho2
        injection ho2 with ho2
        subst ho2
        have hpi : ps[i]? = some ps[i] := List.getElem?_eq_getElem (by omega)
        have hop := hok i o _ hik ho hpi
        have hsee := seen L a w i o hik ho h1 h2 g hc hd hb
        have next : ∀ v w', Gr w w' → ps[i].ok a w' v → wpAny P .any ops Q fuel (L.setIfInBounds i true) (a.put o.dst v) w' := by
          intro v w' g' hp
          have hLi : i < L.size := by omega
          refine ih _ _ w' (by simpa using hL) (by rw [put_defers]; exact ha) (by rw [put_size]; exact hn) (g.trans g') ?_ ?_ ?_ ?_ ?_
          · intro j o' hj hLj m hm
            rw [getD_set _ hLi] at hLj ⊢
            by_cases hmi : m = i
            · rw [if_pos hmi]
            · rw [if_neg hmi]
              by_cases hji : j = i
              · subst hji
                rw [ho] at hj
                injection hj with hj
                subst hj
                exact h2 m hm
              · rw [if_neg hji] at hLj
                exact hc j o' hj hLj m hm
          · intro j hj
            rw [getD_set _ hLi, if_neg (by omega)]
            exact ht j hj
          · intro j o' p d' hj hLj ho' hp' hd'
            rw [getD_set _ hLi] at hLj
            -- the slot that p names is another than d
            have other : ∀ s want c, p = .gd s want c → tm (a.put o.dst v) s = tm a s := by
              intro s want c he
              have hoj : ∃ o'', ops[j]? = some o'' ∧ o'' = o' := ⟨o', ho', rfl⟩
              obtain ⟨g1, b1, hg1, hg2⟩ := (hok j o' p hj ho' hp').shape s want c he
              obtain ⟨hgj, hgw, _⟩ := hs.grd j o' g1 b1 hj ho' hg1
              have hog : g1 < ops.size := by have := hs.le; omega
              rw [Array.getElem?_eq_getElem hog] at hg2
              simp only [Option.bind_some] at hg2
              rw [hdst]
              refine tm_put_ne fun hse => ?_
              subst hse
              -- then the guard's slot is o's own: g1 = i
              have hgi : g1 = i := by
                refine Classical.byContradiction fun hne => ?_
                exact hs.ne i g1 o _ hik (by omega) (Ne.symm hne) ho (Array.getElem?_eq_getElem hog) (by rw [hg2, hdst])
              subst hgi
              by_cases hji : j = g1
              · omega
              · rw [if_neg hji] at hLj
                have := W_closed hs hc j o' g1 ho' hgw (hc j o' ho' hLj)
                rw [h1] at this
                cases this
            by_cases hji : j = i
            · subst hji
              rw [ho] at ho'
              injection ho' with ho'
              subst ho'
              rw [hpi] at hp'
              injection hp' with hp'
              subst hp'
              rw [hdst] at hd'
              injection hd' with hd'
              subst hd'
              rw [hdst] at other ⊢
              rw [tm_put_same hn hdn]
              exact PV.ok_act hp other
            · rw [if_neg hji] at hLj
              have h5 := PV.ok_grow (hd j o' p d' hj hLj ho' hp' hd') g'
              have hne : d' ≠ d := fun he => hs.ne i j o o' hik hj (Ne.symm hji) ho ho' (by rw [hd', hdst, he])
              have e1 : tm (a.put o.dst v) d' = tm a d' := by rw [hdst]; exact tm_put_ne hne
              rw [e1]
              exact PV.ok_act h5 other
          · intro t hwr
            have hne : t ≠ d := fun he => hwr i o hik (by rw [getD_set _ hLi, if_pos rfl]) ho (by rw [hdst, he])
            have e1 : tm (a.put o.dst v) t = tm a t := by rw [hdst]; exact tm_put_ne hne
            rw [e1]
            refine hb t fun j o' hj hLj ho' => hwr j o' hj ?_ ho'
            rw [getD_set _ hLi]
            split
            · rfl
            · exact hLj
          · have := cnt_set (N := ops.size) hi' hLi h1
            omega
        unfold wpOp
        simp only [ho]
        split
        · rename_i hw
          exact .inl ((hop.run a w hn hsee g hw).wp fun v w' ⟨g', hp⟩ => next v w' g' hp)
        · rename_i hw
          exact next undef w (Gr.refl _) (hop.skip a w hn hsee g (by simpa using hw))

end

theorem getD_rep (N i : Nat) : (Array.replicate N false).getD i false = false := by
  rw [Array.getD_eq_getD_getElem?]
  by_cases h : i < N
  · simp [h]
  · simp [h]
theorem nogd_ne (E : Env) : ∀ t s want c, E.nogd t ≠ some (.gd s want c) := fun t s want c h => by
  have := (filter_some h).2
  simp [PV.isGd] at this

theorem gr_drew (w : World) : Gr w { w with drawn := w.drawn + 1 } := ⟨rfl, rfl, rfl, Nat.le_refl _, fun _ _ => rfl⟩

/-- A region whose order is drawn: its first operations l1 in whatever order, then l2 in the text's. -/
theorem cw_draw {P : Program} {n id : Nat} {ops : Array Oper} {Q : Exit → Act → World → Prop} {E : Env} {w : World} (hm : P.follows .mixedOrders = true) (l1 l2 : List Oper) (hl : ops.toList = l1 ++ l2)
    (hchk : chk n l1.length ops = true) (h : FreeOk P n ops (Gr w) E.nogd l1 fun E' => ∀ w', Gr w w' → LW P n ops Q l2 E' w') : CW P n (.region id ops true) Q E w := by
  intro a ha hn hs
  refine wp_region_any hm ?_
  obtain ⟨ps, hlen, hok, hend⟩ := free_list l1 _ h
  have hsh := chk_shaped hchk
  have ht1 : ops.toList.take l1.length = l1 := by rw [hl]; simp
  have hsz : ops.size = l1.length + l2.length := by have := congrArg List.length hl; simpa using this
  refine draw_any (E := E.nogd) (w0 := w) (a0 := a) (ps := ps) hsh (nogd_ne E) hs.nogd hlen ?_ ?_ ops.size _ a _ (by simp) ha hn (gr_drew w) ?_ ?_ ?_ ?_ ?_
  · intro i o p hi ho hp
    have e : ops.toList.take i = l1.take i := by rw [hl, List.take_append_of_le_length (by omega)]
    rw [e]
    refine hok i o p ?_ hp
    have : ops.toList[i]? = some o := by rw [Array.getElem?_toList]; exact ho
    rw [hl, List.getElem?_append_left hi] at this
    exact this
  · intro a' w' ha' hn' hs' g
    rw [ht1] at hs'
    have := hend w' g a' ha' hn' hs'
    have hr : ops.size - l1.length = l2.length := by omega
    rw [hr, wpOps_eq_wpList l2 l1.length]
    · exact this
    · intro j
      rw [← Array.getElem?_toList, hl, List.getElem?_append_right (by omega)]
      congr 1
      omega
  · intro i o _ hLi
    rw [getD_rep] at hLi
    cases hLi
  · intro i _
    exact getD_rep _ _
  · intro i o p d _ hLi
    rw [getD_rep] at hLi
    cases hLi
  · intro t _
    rfl
  · unfold cnt
    refine Nat.le_trans (List.length_filter_le _ _) (by simp)

/-- A region in the text's order. -/
theorem cw_region {P : Program} {n id : Nat} {l : List Oper} {Q : Exit → Act → World → Prop} {E : Env} {w : World}
    (h : LW P n l.toArray Q l E w) : CW P n (.region id l.toArray false) Q E w := fun a ha hn hs => wp_region_lit (h a ha hn hs)

end Go.Proofs.Ytnpgeohkmdcbkaa.Aq
