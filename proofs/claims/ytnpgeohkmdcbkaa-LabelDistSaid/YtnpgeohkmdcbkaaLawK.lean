/- What the laws' walks lean on: contracts that name their rows by letters alone. No condition but those that each lemma names. -/
import Derived.Test.YtnpgeohkmdcbkaaLabC
import Derived.Test.YtnpgeohkmdcbkaaLeft
import Derived.Test.YtnpgeohkmdcbkaaF30
import Derived.Test.YtnpgeohkmdcbkaaA3
import Derived.Test.YtnpgeohkmdcbkaaAH
import Derived.Test.YtnpgeohkmdcbkaaEng13
import Derived.Test.YtnpgeohkmdcbkaaPlain7
import Derived.Test.YtnpgeohkmdcbkaaPlain5
namespace Go.Proofs.Ytnpgeohkmdcbkaa.Aq
open Go Go.RowKit

/-- A call that answers v, and leaves old memory as it lies. -/
def RetV (f : FuncId) (args : List Value) (w : World) (v : Value) : Prop := Calls Try.prog f args.toArray w fun e w' => e = .returned v ∧ Gr w w'
/-- A call that answers a new list of numbers. -/
def RetL (f : FuncId) (args : List Value) (w : World) (xs : List Int) : Prop :=
  Calls Try.prog f args.toArray w fun e w' => ∃ A c, e = .returned (.slice A xs.length c) ∧ Gr w w' ∧ (∀ b, (own (eInt .i64) 1 3 A xs.length c xs).fp b → w.heap.size ≤ b) ∧ (own (eInt .i64) 1 3 A xs.length c xs).p w'

/-- A vertex out of a number. -/
theorem modN (x : Int) (h0 : 0 ≤ x) (N : Nat) (hN : 0 < N) : ∃ u : Nat, x.tmod (N : Int) = (u : Int) ∧ u < N := by
  have h1 := Int.tmod_eq_emod_of_nonneg (b := (N : Int)) h0
  have h2 := Int.emod_nonneg x (by omega : (N : Int) ≠ 0)
  have h3 := Int.emod_lt_of_pos x (by omega : (0 : Int) < (N : Int))
  exact ⟨(x.tmod (N : Int)).toNat, by omega, by omega⟩
section
variable (c : Cs) (q : Q6) (res l : List Int) {m1 m2 : Nat} (A1 : Option Addr) (c1 : Nat) (A : Option Addr) (cc : Nat) (w : World)
theorem f31g (hwf : WF c) (hc : CsAt c q w) (hr : (sl (eInt .i64) 1 A1 m1 c1 res).p w) (hl : (sl (eInt .i64) 1 A m2 cc l).p w) : RetL 31 [csV c q, .slice A1 m1 c1, .slice A m2 cc] w (steepL c res l) := by
  have e1 := hr.1.1; have e2 := hl.1.1; subst e1; subst e2; exact f31 c q res l A1 c1 A cc w hwf hc hr hl
theorem f33g (hwf : WF c) (hc : CsAt c q w) (hr : (sl (eInt .i64) 1 A1 m1 c1 res).p w) (hl : (sl (eInt .i64) 1 A m2 cc l).p w) : RetL 33 [csV c q, .slice A1 m1 c1, .slice A m2 cc] w (flatL c res l) := by
  have e1 := hr.1.1; have e2 := hl.1.1; subst e1; subst e2; exact f33 c q res l A1 c1 A cc w hwf hc hr hl
theorem f35g (hwf : WF c) (hc : CsAt c q w) (hr : (sl (eInt .i64) 1 A1 m1 c1 res).p w) (hl : (sl (eInt .i64) 1 A m2 cc l).p w) : RetV 35 [csV c q, .slice A1 m1 c1, .slice A m2 cc] w (.bool (validB c res l)) := by
  have e1 := hr.1.1; have e2 := hl.1.1; subst e1; subst e2; exact f35 c q res l A1 c1 A cc w hwf hc hr hl
theorem f28g (hwf : WF c) (hl : (sl (eInt .i64) 1 A m2 cc l).p w) : RetV 28 [csV c q, .slice A m2 cc] w (.bool (rightB c l)) := by
  have e2 := hl.1.1; subst e2; exact f28 c q l A cc w hwf hl
theorem f37g (hwf : WF c) (hl : (sl (eInt .i64) 1 A m2 cc l).p w) : RetV 37 [csV c q, .slice A m2 cc] w (.int .i64 (sumB c l)) := by
  have e2 := hl.1.1; subst e2; exact f37 c q l A cc w hwf hl
theorem f26g (u : Int) (hwf : WF c) (hc : CsAt c q w) (hr : (sl (eInt .i64) 1 A1 m1 c1 res).p w) (hl : (sl (eInt .i64) 1 A m2 cc l).p w) :
    Calls Try.prog 26 #[csV c q, .slice A1 m1 c1, .slice A m2 cc, .int .i64 u] w fun e w' => ∃ b m ok, e = .returned (.tuple #[.int .i64 b, .int .i64 m, .bool ok]) ∧ Gr w w' ∧ LeastR c res l u b m ok := by
  have e1 := hr.1.1; have e2 := hl.1.1; subst e1; subst e2; exact f26 c q res l u A1 c1 A cc w hwf hc hr hl
theorem f30g (ys xs : List Int) (hr : (sl (eInt .i64) 1 A1 m1 c1 xs).p w) (hl : (sl (eInt .i64) 1 A m2 cc ys).p w) : RetV 30 [.slice A1 m1 c1, .slice A m2 cc] w (.bool (decide (xs = ys))) := by
  have e1 := hr.1.1; have e2 := hl.1.1; subst e1; subst e2; exact f30 A1 c1 xs A cc ys w hr hl
end
theorem f24a (n : Nt) (A : Option Addr) (c : Nat) (w : World) (ha : (sl eArc 3 A n.arcs.length c n.arcs).p w) (hrg : (-9223372036854775808 ≤ n.N ∧ n.N ≤ 9223372036854775807) ∧ (-9223372036854775808 ≤ n.S ∧ n.S ≤ 9223372036854775807) ∧ (-9223372036854775808 ≤ n.T ∧ n.T ≤ 9223372036854775807) ∧
      ∀ a ∈ n.arcs, -9223372036854775808 ≤ a.1 ∧ a.1 ≤ 9223372036854775807 ∧ -9223372036854775808 ≤ a.2.1 ∧ a.2.1 ≤ 9223372036854775807 ∧ -9223372036854775808 ≤ a.2.2 ∧ a.2.2 ≤ 9223372036854775807) :
    Calls Try.prog 24 #[netV n A c, .int .i64 16, .int .i64 40] w fun e w' => ∃ n' A' c', NetOk n' ∧ e = .returned (netV n' A' c') ∧ Gr w w' ∧ (∀ b, (own eArc 3 82 A' n'.arcs.length c' n'.arcs).fp b → w.heap.size ≤ b) ∧ (own eArc 3 82 A' n'.arcs.length c' n'.arcs).p w' :=
  (f24 n A c w ha hrg).mono fun _ _ ⟨A', c', h⟩ => ⟨someN n, A', c', someN_ok n, h⟩
theorem f23a (n : Nt) (A : Option Addr) (c : Nat) (l : List Int) (A1 : Option Addr) (c1 : Nat) (w : World) (hok : NetOk n) (ha : (sl eArc 3 A n.arcs.length c n.arcs).p w) (hl : (sl (eInt .i64) 1 A1 l.length c1 l).p w) (hll : l.length ≤ 140737488351232) (hrng : ∀ x ∈ l, -9223372036854775808 ≤ x ∧ x ≤ 9223372036854775807) :
    Calls Try.prog 23 #[netV n A c, .slice A1 l.length c1] w fun e w' => ∃ C R q A6 c6, (WF C ∧ ResOk C R) ∧ e = .returned (.tuple #[csV C q, .slice A6 R.length c6]) ∧ Gr w w' ∧ CsNew C q w.heap.size ∧ CsAt C q w' ∧ (∀ b, (own (eInt .i64) 1 2 A6 R.length c6 R).fp b → w.heap.size ≤ b) ∧ CsApart C q (own (eInt .i64) 1 2 A6 R.length c6 R).fp ∧ (own (eInt .i64) 1 2 A6 R.length c6 R).p w' :=
  (f23 n A c l A1 c1 w hok ha hl hll hrng).mono fun _ _ ⟨q, A6, c6, h⟩ => ⟨makeF n, resL n l, q, A6, c6, ⟨makeF_wf hok, resL_ok hok l⟩, h⟩
theorem f25a (c : Cs) (q : Q6) (l : List Int) {m : Nat} (A1 : Option Addr) (c1 : Nat) (w : World) (hwf : WF c) (hl : (sl (eInt .i64) 1 A1 m c1 l).p w) (hrng : ∀ x ∈ l, -9223372036854775808 ≤ x ∧ x ≤ 9223372036854775807) :
    Calls Try.prog 25 #[csV c q, .slice A1 m c1] w fun e w' => ∃ H A9 c9, RightH c H ∧ e = .returned (.slice A9 H.length c9) ∧ Gr w w' ∧ (∀ b, (own (eInt .i64) 1 3 A9 H.length c9 H).fp b → w.heap.size ≤ b) ∧ (own (eInt .i64) 1 3 A9 H.length c9 H).p w' := by
  have e1 := hl.1.1; subst e1; exact (f25' c q l A1 c1 w hwf hl hrng).mono fun _ _ ⟨A9, c9, h⟩ => ⟨heightsF c l, A9, c9, heightsF_right hwf l, h⟩
end Go.Proofs.Ytnpgeohkmdcbkaa.Aq
