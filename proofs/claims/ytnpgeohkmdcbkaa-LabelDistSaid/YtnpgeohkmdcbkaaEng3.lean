/- The engine, part 3: what is known of memory; loads. -/
import Derived.Test.YtnpgeohkmdcbkaaEng2
import Derived.Deep.AppendLies
namespace Go.Proofs.Ytnpgeohkmdcbkaa.Aq
open Go Go.RowKit

/-- A fact on memory, the blocks that it hangs on, and whether it is the call's own to change. -/
structure Asn where
  p : World → Prop
  fp : Nat → Prop
  mt : Bool
  st : ∀ {w w' : World}, (∀ b, fp b → w'.heap[b]? = w.heap[b]?) → p w → p w'
  lt : ∀ {w : World} {b : Nat}, p w → fp b → b < w.heap.size

/-- A block known whole. -/
def bx (b : Nat) (cs : List Value) (t : TypeId) : Asn where
  p := fun w => w.heap[b]? = some (.cells cs.toArray t (0, 0))
  fp := fun k => k = b
  mt := true
  st := fun h hp => by rw [h b rfl]; exact hp
  lt := fun hp hb => by subst hb; exact (Array.getElem?_eq_some_iff.1 hp).1

/-- The same, only read. -/
def rbx (b : Nat) (cs : List Value) (t : TypeId) : Asn where
  p := fun w => w.heap[b]? = some (.cells cs.toArray t (0, 0))
  fp := fun k => k = b
  mt := false
  st := fun h hp => by rw [h b rfl]; exact hp
  lt := fun hp hb => by subst hb; exact (Array.getElem?_eq_some_iff.1 hp).1

/-- How the elements of a slice are written. -/
class Enc {α : Type} (enc : α → List Value) (sz : outParam Nat) (d : outParam α) : Prop where
  len : ∀ x, (enc x).length = sz
  one : ∀ x, ∀ u ∈ enc x, u.oneCell' = true
  pos : 0 < sz

def eInt (k : IntKind) (x : Int) : List Value := [.int k x]
def eBool (x : Bool) : List Value := [.bool x]
def eArc (x : Int × Int × Int) : List Value := [.int .i64 x.1, .int .i64 x.2.1, .int .i64 x.2.2]
def eSpot (x : Int × Int) : List Value := [.int .i64 x.1, .int .i64 x.2]
def eSl (x : Option Addr × Nat × Nat) : List Value := [.slice x.1 x.2.1 x.2.2]
instance (k : IntKind) : Enc (eInt k) 1 0 := ⟨fun _ => rfl, fun x u h => by simp [eInt] at h; subst h; rfl, by decide⟩
instance : Enc eBool 1 false := ⟨fun _ => rfl, fun x u h => by simp [eBool] at h; subst h; rfl, by decide⟩
instance : Enc eArc 3 (0, 0, 0) := ⟨fun _ => rfl, fun x u h => by simp [eArc] at h; rcases h with rfl | rfl | rfl <;> rfl, by decide⟩
instance : Enc eSpot 2 (0, 0) := ⟨fun _ => rfl, fun x u h => by simp [eSpot] at h; rcases h with rfl | rfl <;> rfl, by decide⟩
instance : Enc eSl 1 (none, 0, 0) := ⟨fun _ => rfl, fun x u h => by simp [eSl] at h; subst h; rfl, by decide⟩

theorem add_block (a : Addr) (n : Nat) : (a.add n).block = a.block := by unfold Addr.add; split <;> rfl

/-- A slice that is read: '.slice A m c'. -/
def sl {α : Type} (enc : α → List Value) (sz : Nat) (A : Option Addr) (m c : Nat) (xs : List α) : Asn where
  p := fun w => (xs.length = m ∧ m ≤ c) ∧ m ≤ 140737488351232 ∧ ∀ i x, xs[i]? = some x → ∀ j u, (enc x)[j]? = some u → ∃ ad, A = some ad ∧ w.cell? (ad.add (i * sz + j)) = some u
  fp := fun k => ∃ ad, A = some ad ∧ ad.block = k ∧ ∃ (i : Nat) (x : α) (j : Nat) (u : Value), xs[i]? = some x ∧ (enc x)[j]? = some u
  mt := false
  st := fun h hp => ⟨hp.1, hp.2.1, fun i x hi j u hj => by
    obtain ⟨ad, e, hc⟩ := hp.2.2 i x hi j u hj
    refine ⟨ad, e, ?_⟩
    rw [← hc]
    exact World.cell?_of_block (by rw [add_block]; exact h _ ⟨ad, e, rfl, i, x, j, u, hi, hj⟩)⟩
  lt := fun hp ⟨ad, e, hb, i, x, j, u, hi, hj⟩ => by
    obtain ⟨ad', e', hc⟩ := hp.2.2 i x hi j u hj
    rw [e] at e'
    injection e' with e'
    subst e'
    have := World.block_lt_of_cell? _ _ hc
    rw [add_block, hb] at this
    exact this

/-- A slice of the call's own. -/
def own {α : Type} (enc : α → List Value) (sz : Nat) (e : TypeId) (A : Option Addr) (m c : Nat) (xs : List α) : Asn where
  p := fun w => xs.length = m ∧ w.ownsRow 0 e sz (.slice A m c) m (xs.flatMap enc)
  fp := fun k => ∃ ad, A = some ad ∧ ad.block = k
  mt := true
  st := fun h hp0 => by
    obtain ⟨hpl, hp⟩ := hp0
    refine ⟨hpl, hp.1, ?_⟩
    rcases hp.2 with h1 | ⟨g, cap, cur, hv, hb, hh, r⟩
    · exact .inl h1
    · refine .inr ⟨g, cap, cur, hv, hb, ?_, r⟩
      rw [← hh]
      injection hv with hv1 _ _
      exact h g ⟨_, hv1, rfl⟩
  lt := fun hp0 ⟨ad, e, hb⟩ => by
    obtain ⟨hpl, hp⟩ := hp0
    rcases hp.2 with ⟨h1, _⟩ | ⟨g, cap, cur, hv, _, hh, _⟩
    · injection h1 with h1 _ _; rw [e] at h1; cases h1
    · injection hv with hv1 _ _
      rw [e] at hv1
      injection hv1 with hv1
      subst hv1
      subst hb
      exact (Array.getElem?_eq_some_iff.1 hh).1

/-- A map of the call's own, or whatever block it be. -/
def blk (b : Nat) (o : Obj) : Asn where
  p := fun w => w.heap[b]? = some o
  fp := fun k => k = b
  mt := true
  st := fun h hp => by rw [h b rfl]; exact hp
  lt := fun hp hb => by subst hb; exact (Array.getElem?_eq_some_iff.1 hp).1

theorem flat_get {α : Type} {enc : α → List Value} {sz : Nat} {d : α} [hE : Enc enc sz d] : ∀ (xs : List α) (i : Nat) (x : α) (j : Nat) (u : Value), xs[i]? = some x → (enc x)[j]? = some u → (xs.flatMap enc)[i * sz + j]? = some u
  | [], i, x, j, u, h, _ => by simp at h
  | y :: xs, 0, x, j, u, h, hj => by
    simp at h
    subst h
    rw [List.flatMap_cons, Nat.zero_mul, Nat.zero_add, List.getElem?_append_left (List.getElem?_eq_some_iff.1 hj).1]
    exact hj
  | y :: xs, i + 1, x, j, u, h, hj => by
    simp at h
    have hl := hE.len y
    rw [List.flatMap_cons, List.getElem?_append_right (by rw [hl, Nat.add_mul]; omega)]
    have : (i + 1) * sz + j - (enc y).length = i * sz + j := by rw [hl, Nat.add_mul]; omega
    rw [this]
    exact flat_get xs i x j u h hj

theorem flat_len {α : Type} {enc : α → List Value} {sz : Nat} {d : α} [hE : Enc enc sz d] (xs : List α) : (xs.flatMap enc).length = xs.length * sz := by
  induction xs with
  | nil => simp
  | cons x xs ih => rw [List.flatMap_cons, List.length_append, ih, hE.len, List.length_cons, Nat.add_mul]; omega

/-- What is owned can be read. -/
theorem own_sl {α : Type} {enc : α → List Value} {sz : Nat} {d : α} [hE : Enc enc sz d] {e : TypeId} {A : Option Addr} {m c : Nat} {xs : List α} {w : World} (h : (own enc sz e A m c xs).p w) (hm : m ≤ 140737488351232) : (sl enc sz A m c xs).p w := by
  have hl : xs.length = m := h.1
  subst hl
  have h' : w.ownsRow 0 e sz (.slice A xs.length c) xs.length (xs.flatMap enc) := h.2
  refine ⟨⟨rfl, ?_⟩, hm, fun i x hi j u hj => ?_⟩
  · rcases h'.2 with ⟨h1, h2⟩ | ⟨g, cap, cur, hv, _, _, h3, _⟩
    · omega
    · injection hv with _ _ h5
      omega
  · have hne : 0 < xs.length := by have := (List.getElem?_eq_some_iff.1 hi).1; omega
    obtain ⟨g, cap, hv, _⟩ := World.ownsRow.form h' hne
    injection hv with hv1 _ hv3
    refine ⟨_, hv1, ?_⟩
    exact World.ownsRow.cells h' (g := g) (by rw [hv1]; rfl) _ _ (flat_get xs i x j u hi hj)

structure St (B : Nat) (we w : World) (L : List Asn) : Prop where
  below : Below B we w
  base : B ≤ w.heap.size
  ok : ∀ a ∈ L, a.p w
  ge : ∀ a ∈ L, a.mt = true → ∀ b, a.fp b → B ≤ b
  apart : L.Pairwise fun a a' => (a.mt = true ∨ a'.mt = true) → ∀ b, a.fp b → ¬ a'.fp b

theorem Asn.grow (a : Asn) {w w' : World} (h : a.p w) (g : Gr w w') : a.p w' := a.st (fun b hb => Below.block g b (a.lt h hb)) h

theorem St.grow {B : Nat} {we w w' : World} {L : List Asn} (h : St B we w L) (g : Gr w w') : St B we w' L :=
  ⟨h.below.trans (Below.mono g h.base), Nat.le_trans h.base g.size, fun a ha => a.grow (h.ok a ha) g, h.ge, h.apart⟩

theorem St.start (w : World) : St w.heap.size w w [] := ⟨Below.refl _ _, Nat.le_refl _, fun _ h => by simp at h, fun _ h => by simp at h, List.Pairwise.nil⟩

/-- A new fact on new memory. -/
theorem St.new {B : Nat} {we w w' : World} {L : List Asn} (h : St B we w L) (g : Gr w w') (a : Asn) (ha : a.p w') (hf : ∀ b, a.fp b → w.heap.size ≤ b) : St B we w' (a :: L) := by
  refine ⟨(h.grow g).below, (h.grow g).base, fun x hx => ?_, fun x hx hm b hb => ?_, List.Pairwise.cons (fun x hx _ b hb hb' => ?_) h.apart⟩
  · rcases List.mem_cons.1 hx with rfl | hx
    · exact ha
    · exact (h.grow g).ok x hx
  · rcases List.mem_cons.1 hx with rfl | hx
    · have := hf b hb; have := h.base; omega
    · exact h.ge x hx hm b hb
  · have := x.lt (h.ok x hx) hb'
    have := hf b hb
    omega

/-- A fact that is read alone, of memory that lay there before the call. -/
theorem St.arg {B : Nat} {we w : World} {L : List Asn} (h : St B we w L) (a : Asn) (ha : a.p w) (hm : a.mt = false) (hf : ∀ b, a.fp b → b < B) : St B we w (a :: L) := by
  refine ⟨h.below, h.base, fun x hx => ?_, fun x hx hmx b hb => ?_, List.Pairwise.cons (fun x hx hor b hb hb' => ?_) h.apart⟩
  · rcases List.mem_cons.1 hx with rfl | hx
    · exact ha
    · exact h.ok x hx
  · rcases List.mem_cons.1 hx with rfl | hx
    · rw [hm] at hmx; cases hmx
    · exact h.ge x hx hmx b hb
  · rcases hor with ho | ho
    · rw [hm] at ho; cases ho
    · have := h.ge x hx ho b hb'
      have := hf b hb
      omega

/-- A weaker list. -/
theorem St.sub {B : Nat} {we w : World} {L L' : List Asn} (h : St B we w L) (hs : L'.Sublist L) : St B we w L' :=
  ⟨h.below, h.base, fun a ha => h.ok a (hs.subset ha), fun a ha => h.ge a (hs.subset ha), h.apart.sublist hs⟩

inductive Repl (a a' : Asn) : List Asn → List Asn → Prop
  | here {L : List Asn} : Repl a a' (a :: L) (a' :: L)
  | there {x : Asn} {L L' : List Asn} : Repl a a' L L' → Repl a a' (x :: L) (x :: L')

theorem Repl.mem {a a' : Asn} {L L' : List Asn} (h : Repl a a' L L') : a ∈ L := by
  induction h with
  | here => exact List.mem_cons_self
  | there _ ih => exact List.mem_cons_of_mem _ ih

/-- One of the call's own facts turns into another. -/
theorem St.write {B : Nat} {we w w' : World} {L L' : List Asn} (h : St B we w L) {a a' : Asn} (hr : Repl a a' L L') (hm : a.mt = true)
    (hb : ∀ b, b < w.heap.size → ¬ a.fp b → w'.heap[b]? = w.heap[b]?) (hos : w'.os = w.os) (htp : w'.tape = w.tape) (hout : w'.output = w.output) (hsz : w.heap.size ≤ w'.heap.size)
    (ha : a'.p w') (hf : ∀ b, a'.fp b → a.fp b ∨ w.heap.size ≤ b) : St B we w' L' := by
  have hge := h.ge a hr.mem hm
  have hbel : Below B w w' := ⟨hos, htp, hout, hsz, fun k hk => hb k (Nat.lt_of_lt_of_le hk h.base) fun hc => by have := hge k hc; omega⟩
  have key : (∀ x ∈ L', x.p w') ∧ (∀ x ∈ L', x.mt = true → ∀ b, x.fp b → B ≤ b) ∧ (∀ x : Asn, x ∈ L' → (x = a' ∨ x ∈ L)) ∧
      L'.Pairwise (fun a a' => (a.mt = true ∨ a'.mt = true) → ∀ b, a.fp b → ¬ a'.fp b) := by
    have hok := h.ok
    have hge' := h.ge
    have hap := h.apart
    have other : ∀ x : Asn, (x ∈ L) → x.p w → (∀ b, a.fp b → ¬ x.fp b) → x.p w' := fun x _ hx hd =>
      x.st (fun b hxb => hb b (x.lt hx hxb) fun hc => hd b hc hxb) hx
    have a'ge : ∀ b, a'.fp b → B ≤ b := fun b hb' => by
      rcases hf b hb' with hc | hc
      · exact hge b hc
      · have := h.base; omega
    -- another one stays apart from what a turned into
    have far : ∀ x : Asn, x.p w → (∀ b, a.fp b → ¬ x.fp b) → ∀ b, a'.fp b → ¬ x.fp b := fun x hx hd b hb' hxb => by
      rcases hf b hb' with hc | hc
      · exact hd b hc hxb
      · have := x.lt hx hxb; omega
    clear h
    induction hr with
    | here =>
      rename_i L
      rw [List.pairwise_cons] at hap
      refine ⟨fun x hx => ?_, fun x hx hmx b hxb => ?_, fun x hx => ?_, List.pairwise_cons.2 ⟨fun x hx _ b hb' => ?_, hap.2⟩⟩
      · rcases List.mem_cons.1 hx with rfl | hx
        · exact ha
        · exact other x (List.mem_cons_of_mem _ hx) (hok x (List.mem_cons_of_mem _ hx)) (hap.1 x hx (.inl hm))
      · rcases List.mem_cons.1 hx with rfl | hx
        · exact a'ge b hxb
        · exact hge' x (List.mem_cons_of_mem _ hx) hmx b hxb
      · rcases List.mem_cons.1 hx with rfl | hx
        · exact .inl rfl
        · exact .inr (List.mem_cons_of_mem _ hx)
      · exact far x (hok x (List.mem_cons_of_mem _ hx)) (hap.1 x hx (.inl hm)) b hb'
    | there hr ih =>
      rename_i y L L'
      rw [List.pairwise_cons] at hap
      obtain ⟨h1, h2, h3, h4⟩ := ih (fun x hx => hok x (List.mem_cons_of_mem _ hx)) (fun x hx => hge' x (List.mem_cons_of_mem _ hx)) hap.2 (fun x hx => other x (List.mem_cons_of_mem _ hx))
      have hya : ∀ b, a.fp b → ¬ y.fp b := fun b hc hyb => hap.1 a hr.mem (.inr hm) b hyb hc
      refine ⟨fun x hx => ?_, fun x hx => ?_, fun x hx => ?_, List.pairwise_cons.2 ⟨fun x hx hor b hyb hxb => ?_, h4⟩⟩
      · rcases List.mem_cons.1 hx with rfl | hx
        · exact other x List.mem_cons_self (hok x List.mem_cons_self) hya
        · exact h1 x hx
      · rcases List.mem_cons.1 hx with rfl | hx
        · exact hge' x List.mem_cons_self
        · exact h2 x hx
      · rcases List.mem_cons.1 hx with rfl | hx
        · exact .inr List.mem_cons_self
        · exact (h3 x hx).imp id (List.mem_cons_of_mem _)
      · rcases h3 x hx with rfl | hx'
        · exact far y (hok y List.mem_cons_self) hya b hxb hyb
        · exact hap.1 x hx' hor b hyb hxb
  exact ⟨h.below.trans hbel, Nat.le_trans h.base hsz, key.1, key.2.1, key.2.2.2⟩

/-! Looking facts up, by their block's or their address's name. -/
class HasBx (L : List Asn) (b : Nat) (cs : outParam (List Value)) (t : outParam TypeId) : Prop where
  get : ∀ {w : World}, (∀ a ∈ L, a.p w) → (bx b cs t).p w
instance {L : List Asn} {a : Asn} {b : Nat} {cs : List Value} {t : TypeId} [h : HasBx L b cs t] : HasBx (a :: L) b cs t := ⟨fun ha => h.get fun x hx => ha x (List.mem_cons_of_mem _ hx)⟩
instance {L : List Asn} {b : Nat} {cs : List Value} {t : TypeId} : HasBx (bx b cs t :: L) b cs t := ⟨fun ha => ha _ List.mem_cons_self⟩
instance {L : List Asn} {b : Nat} {cs : List Value} {t : TypeId} : HasBx (rbx b cs t :: L) b cs t := ⟨fun ha => ha (rbx b cs t) List.mem_cons_self⟩

/-- A slice that can be read, be it the call's own or not. -/
class HasSl {α : outParam Type} (L : List Asn) (A : Option Addr) (enc : outParam (α → List Value)) (sz m c : outParam Nat) (xs : outParam (List α)) : Prop where
  mem : sl enc sz A m c xs ∈ L ∨ ∃ e, own enc sz e A m c xs ∈ L
instance {α : Type} {L : List Asn} {a : Asn} {A : Option Addr} {enc : α → List Value} {sz m c : Nat} {xs : List α} [h : HasSl L A enc sz m c xs] : HasSl (a :: L) A enc sz m c xs :=
  ⟨h.mem.imp (List.mem_cons_of_mem _) fun ⟨e, h⟩ => ⟨e, List.mem_cons_of_mem _ h⟩⟩
instance {α : Type} {L : List Asn} {A : Option Addr} {enc : α → List Value} {sz e m c : Nat} {xs : List α} : HasSl (own enc sz e A m c xs :: L) A enc sz m c xs := ⟨.inr ⟨e, List.mem_cons_self⟩⟩
instance {α : Type} {L : List Asn} {A : Option Addr} {enc : α → List Value} {sz m c : Nat} {xs : List α} : HasSl (sl enc sz A m c xs :: L) A enc sz m c xs := ⟨.inl List.mem_cons_self⟩

class HasOwn {α : outParam Type} (L : List Asn) (A : Option Addr) (enc : outParam (α → List Value)) (sz : outParam Nat) (e : outParam TypeId) (m c : outParam Nat) (xs : outParam (List α)) : Prop where
  mem : own enc sz e A m c xs ∈ L
instance {α : Type} {L : List Asn} {a : Asn} {A : Option Addr} {enc : α → List Value} {sz e m c : Nat} {xs : List α} [h : HasOwn L A enc sz e m c xs] : HasOwn (a :: L) A enc sz e m c xs := ⟨List.mem_cons_of_mem _ h.mem⟩
instance {α : Type} {L : List Asn} {A : Option Addr} {enc : α → List Value} {sz e m c : Nat} {xs : List α} : HasOwn (own enc sz e A m c xs :: L) A enc sz e m c xs := ⟨List.mem_cons_self⟩

class Rep (a a' : Asn) (L : List Asn) (L' : outParam (List Asn)) : Prop where
  r : Repl a a' L L'
instance {a a' x : Asn} {L L' : List Asn} [h : Rep a a' L L'] : Rep a a' (x :: L) (x :: L') := ⟨.there h.r⟩
instance {a a' : Asn} {L : List Asn} : Rep a a' (a :: L) (a' :: L) := ⟨.here⟩

/-- The address of a part of an element: '.pointer' of it. -/
def pat (A : Option Addr) (i : Int) (sz off : Nat) : Value := .pointer (A.map fun ad => ad.add (i.toNat * sz + off))

theorem St.slp {α : Type} {B : Nat} {we w : World} {L : List Asn} (h : St B we w L) {A : Option Addr} {enc : α → List Value} {sz : Nat} {d : α} [hE : Enc enc sz d] {m c : Nat} {xs : List α} (hm : sl enc sz A m c xs ∈ L ∨ ∃ e, own enc sz e A m c xs ∈ L) (hl : m ≤ 140737488351232) : (sl enc sz A m c xs).p w := by
  rcases hm with hm | ⟨e, hm⟩
  · exact h.ok _ hm
  · exact own_sl (h.ok _ hm) hl

theorem St.len {α : Type} {B : Nat} {we w : World} {L : List Asn} (h : St B we w L) {A : Option Addr} {enc : α → List Value} {sz m c : Nat} {xs : List α} (hm : sl enc sz A m c xs ∈ L ∨ ∃ e, own enc sz e A m c xs ∈ L) : xs.length = m := by
  rcases hm with hm | ⟨e, hm⟩
  · exact (h.ok _ hm).1.1
  · exact (h.ok _ hm).1

theorem St.cap {α : Type} {B : Nat} {we w : World} {L : List Asn} (h : St B we w L) {A : Option Addr} {enc : α → List Value} {sz m c : Nat} {xs : List α} (hm : sl enc sz A m c xs ∈ L ∨ ∃ e, own enc sz e A m c xs ∈ L) : m ≤ c := by
  rcases hm with hm | ⟨e, hm⟩
  · exact (h.ok _ hm).1.2
  · have h' : w.ownsRow 0 e sz (.slice A m c) m (xs.flatMap enc) := (h.ok _ hm).2
    rcases h'.2 with ⟨h1, h2⟩ | ⟨g, cap, cur, hv, _, _, h3, _⟩
    · omega
    · injection hv with _ _ h5; omega

theorem St.cellAt {α : Type} {B : Nat} {we w : World} {L : List Asn} (h : St B we w L) {A : Option Addr} {enc : α → List Value} {sz : Nat} {d : α} [hE : Enc enc sz d] {m c : Nat} {xs : List α} (hm : sl enc sz A m c xs ∈ L ∨ ∃ e, own enc sz e A m c xs ∈ L)
    (i : Nat) (x : α) (hi : xs[i]? = some x) (j : Nat) (u : Value) (hj : (enc x)[j]? = some u) : ∃ ad, A = some ad ∧ w.cell? (ad.add (i * sz + j)) = some u := by
  rcases hm with hm | ⟨e, hm⟩
  · exact (h.ok _ hm).2.2 i x hi j u hj
  · have hl : xs.length = m := (h.ok _ hm).1
    subst hl
    have h' : w.ownsRow 0 e sz (.slice A xs.length c) xs.length (xs.flatMap enc) := (h.ok _ hm).2
    have hne : 0 < xs.length := by have := (List.getElem?_eq_some_iff.1 hi).1; omega
    obtain ⟨g, cap, hv, _⟩ := World.ownsRow.form h' hne
    injection hv with hv1 _ hv3
    refine ⟨_, hv1, ?_⟩
    exact World.ownsRow.cells h' (g := g) (by rw [hv1]; rfl) _ _ (flat_get xs i x j u hi hj)

end Go.Proofs.Ytnpgeohkmdcbkaa.Aq
