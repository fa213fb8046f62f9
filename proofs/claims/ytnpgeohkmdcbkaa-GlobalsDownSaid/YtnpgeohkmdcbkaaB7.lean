/- How the laws' arguments read: what their walks ask of them. What the rows ask of the program's head: its words are told as numbers, so that the kernel need not take the string apart. How an argument of bools reads. How long a list of numbers is at most, at the door of a law: its bytes fit the reach. No condition. How an argument that is a mark reads. No condition. No condition but those that each lemma names. -/
import Derived.Test.YtnpgeohkmdcbkaaRows
import Derived.Test.YtnpgeohkmdcbkaaB3
import Derived.ProofKit
import Derived.OpenShut
import Derived.SizedLaws
import Derived.Below
import Derived.ChangeOld
import Derived.Lib.SmallJoins
import Derived.Deep.Slices
import Derived.Deep.Strs
import Derived.Deep.Grids
namespace Go.Proofs.Ytnpgeohkmdcbkaa.Aq
open Go Go.RowKit Go.ChangeShapes Go.WideShapes Go.ChangeAt Go.Joins Go.Deep

theorem own0 : ownKnob Try.prog.godebug = none := by kernel_rfl
theorem laidOut0 : laidOutB Try.prog = true := by kernel_rfl

section
variable {H : Type} {enc : TypeId × Value → H} {W : World} {base : Nat} {v : Value} {d : DataW H} {p : List MemPlace}

set_option maxRecDepth 100000 in
/-- A slice of integers. -/
theorem row_ints {t e : TypeId} {k : IntKind} (ht : Try.prog.underlying t = some (.slice e)) (he : Try.prog.underlying e = some (.int k)) (hc : Try.prog.cellsOf e = 1) (hb : 1 ≤ Try.prog.bytesOf e)
    (hv : Value.okWide Try.prog W .any base t v) (h : DataW.Trod enc Try.prog W 0 (fun _ => true) true t v d p) (hw : ∀ n ∈ d.weights Try.prog t, n ≤ reachBytes) :
    ∃ A c xs, v = .slice A xs.length c ∧ (sl (eInt k) 1 A xs.length c xs).p W ∧ ∀ x ∈ xs, (Lit.int k x).wf = true := by
  obtain ⟨a0, len0, cap0, rfl⟩ := okWide_slice ht hv
  obtain ⟨fuel, hf⟩ := h
  rcases open_ints ht he hc hf with ⟨hcs, hx⟩ | ⟨a, len, cap, zs, hcs, _, hl, hm, hz, hx, hcell, hwz⟩
  · simp [Value.cells] at hcs
    obtain ⟨rfl, rfl, rfl⟩ := hcs
    exact ⟨none, 0, [], rfl, ⟨⟨rfl, Nat.le_refl _⟩, Nat.zero_le _, fun i x hi => by simp at hi⟩, fun x hx => by cases hx⟩
  · simp [Value.cells] at hcs
    obtain ⟨rfl, rfl, rfl⟩ := hcs
    simp only [if_true] at hz
    have hlen : (zs.take len0).length = len0 := by rw [List.length_take]; omega
    have hsz : len0 ≤ 140737488351232 := by
      simp only [Prod.mk.injEq] at hx
      have h1 := hw ((zs.length) * Try.prog.bytesOf e) (by
        rw [hx.1]
        simp only [DataW.weights, ht, List.mem_cons]
        left
        simp only [lits, List.length_map]
        rw [← List.length_append, List.take_append_drop])
      have h2 : zs.length ≤ zs.length * Try.prog.bytesOf e := Nat.le_mul_of_pos_right _ hb
      have : reachBytes = 140737488351232 := rfl
      omega
    refine ⟨some a, cap0, zs.take len0, by rw [hlen], ⟨⟨rfl, by omega⟩, by omega, fun i x hi j u hj => ⟨a, rfl, ?_⟩⟩, fun x hx => hwz x (List.mem_of_mem_take hx)⟩
    rw [List.getElem?_take] at hi
    split at hi
    · have hi' := (List.getElem?_eq_some_iff.1 hi).1
      have hj0 : j = 0 := by
        have := (List.getElem?_eq_some_iff.1 hj).1
        simp [eInt] at this
        exact this
      subst hj0
      simp [eInt] at hj
      subst hj
      have := hcell i hi'
      rw [List.getD_eq_getElem?_getD, hi] at this
      simpa using this
    · cases hi

theorem choose_list {α : Type} {P : Nat → α → Prop} : ∀ (n : Nat), (∀ i, i < n → ∃ x, P i x) → ∃ xs : List α, xs.length = n ∧ ∀ i x, xs[i]? = some x → P i x
  | 0, _ => ⟨[], rfl, fun i x h => by simp at h⟩
  | n + 1, h => by
    obtain ⟨xs, h1, h2⟩ := choose_list n fun i hi => h i (by omega)
    obtain ⟨y, hy⟩ := h n (by omega)
    refine ⟨xs ++ [y], by simp [h1], fun i x hi => ?_⟩
    rw [List.getElem?_append] at hi
    split at hi
    · exact h2 i x hi
    · rename_i hlt
      have : i - xs.length = 0 := by have := (List.getElem?_eq_some_iff.1 hi).1; simp at this; omega
      rw [this] at hi
      simp at hi
      subst hi
      have : i = n := by omega
      subst this
      exact hy

theorem cells24 : Try.prog.cellsOf 24 = 4 := by kernel_rfl
theorem cells82 : Try.prog.cellsOf 82 = 3 := by kernel_rfl
theorem cells3 : Try.prog.cellsOf 3 = 1 := by kernel_rfl
theorem cells2 : Try.prog.cellsOf 2 = 1 := by kernel_rfl
theorem bytes82 : Try.prog.bytesOf 82 = 24 := by kernel_rfl

set_option maxRecDepth 100000 in
/-- A network. -/
theorem row_net (hv : Value.okWide Try.prog W .any base 24 v) (h : DataW.Trod enc Try.prog W 0 (fun _ => true) true 24 v d p) (hw : ∀ n ∈ d.weights Try.prog 24, n ≤ reachBytes) :
    ∃ (n : Nt) (A : Option Addr) (c : Nat), v = netV n A c ∧ (sl eArc 3 A n.arcs.length c n.arcs).p W ∧ (-9223372036854775808 ≤ n.N ∧ n.N ≤ 9223372036854775807) ∧ (-9223372036854775808 ≤ n.S ∧ n.S ≤ 9223372036854775807) ∧ (-9223372036854775808 ≤ n.T ∧ n.T ≤ 9223372036854775807) ∧
      ∀ a ∈ n.arcs, -9223372036854775808 ≤ a.1 ∧ a.1 ≤ 9223372036854775807 ∧ -9223372036854775808 ≤ a.2.1 ∧ a.2.1 ≤ 9223372036854775807 ∧ -9223372036854775808 ≤ a.2.2 ∧ a.2.2 ≤ 9223372036854775807 := by
  obtain ⟨v0, v1, v2, v3, y0, y1, y2, y3, m, rfl, rfl, rfl, hy0, hy1, hy2, hy3⟩ := open_agg4 Try.underlying24 (by kernel_rfl) cells24 hv h
  obtain ⟨xN, e0, rfl, w0⟩ := DataW.trod_int Try.underlying3 hy0
  obtain ⟨xS, e1, rfl, w1⟩ := DataW.trod_int Try.underlying3 hy1
  obtain ⟨xT, e2, rfl, w2⟩ := DataW.trod_int Try.underlying3 hy2
  obtain rfl : v0 = .int .i64 xN := by simpa using e0
  obtain rfl : v1 = .int .i64 xS := by simpa using e1
  obtain rfl : v2 = .int .i64 xT := by simpa using e2
  have b0 := bounds_i64 w0
  have b1 := bounds_i64 w1
  have b2 := bounds_i64 w2
  rcases open_slice Try.underlying22 hy3 with ⟨hcs, hx⟩ | ⟨a, len, cap, mm, nn, D, Pl, hcs, _, hl, hm, hmm, hx, hel⟩
  · obtain rfl : v3 = .slice none 0 0 := by simpa using hcs
    exact ⟨⟨xN, xS, xT, []⟩, none, 0, rfl, ⟨⟨rfl, Nat.le_refl _⟩, Nat.zero_le _, fun i x hi => by simp at hi⟩, b0, b1, b2, fun a ha => by cases ha⟩
  · obtain rfl : v3 = .slice (some a) len cap := by simpa using hcs
    simp only [if_true] at hmm
    subst hmm
    have hsz : len ≤ 140737488351232 := by
      have h1 := hw (mm * Try.prog.bytesOf 82) (by
        rw [hx]
        simp only [DataW.weights, Try.underlying24, Try.underlying22, DataW.weightsEach, List.map_cons, List.map_nil, List.mem_append, List.mem_cons, List.length_map, List.length_range]
        right; right; right; left; left
        congr 1
        omega)
      rw [bytes82] at h1
      have : reachBytes = 140737488351232 := rfl
      omega
    have each : ∀ i, i < len → ∃ x : Int × Int × Int, (∀ j u, (eArc x)[j]? = some u → W.cell? (a.add (i * 3 + j)) = some u) ∧ (-9223372036854775808 ≤ x.1 ∧ x.1 ≤ 9223372036854775807 ∧ -9223372036854775808 ≤ x.2.1 ∧ x.2.1 ≤ 9223372036854775807 ∧ -9223372036854775808 ≤ x.2.2 ∧ x.2.2 ≤ 9223372036854775807) := fun i hi => by
      obtain ⟨cs', h1, h2⟩ := hel i (by omega)
      rw [cells82] at h1
      obtain ⟨_, hlen, hcell⟩ := World.cells?_some h1
      obtain ⟨z0, z1, z2, n3, _, _, hz0, hz1, hz2⟩ := trod_struct3 Try.underlying82 h2
      obtain ⟨x0, f0, _, g0⟩ := DataW.trod_int Try.underlying3 hz0
      obtain ⟨x1, f1, _, g1⟩ := DataW.trod_int Try.underlying3 hz1
      obtain ⟨x2, f2, _, g2⟩ := DataW.trod_int Try.underlying2 hz2
      have t0 := bounds_i64 g0
      have t1 := bounds_i64 g1
      have t2 := bounds_i64 g2
      rw [cells3] at f0 f1
      rw [cells2] at f2
      match cs', hlen with
      | [u0, u1, u2], _ =>
        simp at f0 f1 f2
        subst f0; subst f1; subst f2
        refine ⟨(x0, x1, x2), fun j u hj => ?_, t0.1, t0.2, t1.1, t1.2, t2.1, t2.2⟩
        have hj3 : j < 3 := by have := (List.getElem?_eq_some_iff.1 hj).1; simpa [eArc] using this
        have := hcell j hj3
        rw [← add_add, this, ← hj]
        rfl
    obtain ⟨xs, hxl, hxs⟩ := choose_list len each
    subst hxl
    refine ⟨⟨xN, xS, xT, xs⟩, some a, mm, rfl, ⟨⟨rfl, hl⟩, hsz, fun i x hi j u hj => ⟨a, rfl, (hxs i x hi).1 j u hj⟩⟩, b0, b1, b2, fun x hx => ?_⟩
    obtain ⟨i, hi, rfl⟩ := List.mem_iff_getElem.1 hx
    exact (hxs i _ (List.getElem?_eq_getElem hi)).2
end
end Go.Proofs.Ytnpgeohkmdcbkaa.Aq

namespace Go.Proofs.Ytnpgeohkmdcbkaa.Aq
open Go Go.RowKit
/-- The words of the program's head. -/
def headNums : List (List Nat) := [[104, 97, 114, 110, 101, 115, 115], [51, 50, 51, 101, 100, 101, 102, 54, 100, 97, 50, 102, 102, 54, 98, 49, 49, 99, 48, 102, 51, 55, 50, 52, 50, 51, 53, 98, 49, 102, 50, 55, 100, 57, 52, 50, 50, 56, 102, 102, 99, 100, 50, 100, 55, 52, 48, 101, 48, 51, 48, 102, 48, 55, 99, 56, 51, 48, 98, 55, 102, 49, 54, 54], [99, 117, 116], [97, 116], [97, 99, 101, 113, 117, 105, 97, 47, 97, 99, 101, 113, 117, 105, 97, 108, 97, 119, 48, 54, 46, 76, 97, 98, 101, 108, 84, 101, 108, 108, 115], [97, 99, 101, 113, 117, 105, 97, 47, 97, 99, 101, 113, 117, 105, 97, 108, 97, 119, 48, 54, 46, 76, 97, 98, 101, 108, 82, 97, 105, 115, 101], [97, 99, 101, 113, 117, 105, 97, 47, 97, 99, 101, 113, 117, 105, 97, 108, 97, 119, 48, 54, 46, 76, 97, 98, 101, 108, 65, 114, 99, 115], [97, 99, 101, 113, 117, 105, 97, 47, 97, 99, 101, 113, 117, 105, 97, 108, 97, 119, 48, 54, 46, 76, 97, 98, 101, 108, 76, 101, 115, 115], [97, 99, 101, 113, 117, 105, 97, 47, 97, 99, 101, 113, 117, 105, 97, 108, 97, 119, 48, 53, 46, 68, 105, 115, 116, 77, 111, 114, 101], [97, 99, 101, 113, 117, 105, 97, 47, 97, 99, 101, 113, 117, 105, 97, 108, 97, 119, 50, 48, 46, 71, 108, 111, 98, 97, 108, 115, 68, 111, 119, 110], [97, 99, 101, 113, 117, 105, 97, 47, 97, 99, 101, 113, 117, 105, 97, 108, 97, 119, 48, 53, 46, 68, 105, 115, 116, 84, 117, 114, 110, 115], [97, 99, 101, 113, 117, 105, 97, 47, 97, 99, 101, 113, 117, 105, 97, 108, 97, 119, 50, 48, 46, 71, 108, 111, 98, 97, 108, 115, 69, 120, 97, 99, 116], [97, 99, 101, 113, 117, 105, 97, 47, 97, 99, 101, 113, 117, 105, 97, 108, 97, 119, 48, 53, 46, 68, 105, 115, 116, 82, 111, 119, 115], [97, 99, 101, 113, 117, 105, 97, 47, 97, 99, 101, 113, 117, 105, 97, 108, 97, 119, 49, 57, 46, 82, 101, 112, 97, 105, 114, 84, 101, 108, 108, 115], [97, 99, 101, 113, 117, 105, 97, 47, 97, 99, 101, 113, 117, 105, 97, 108, 97, 119, 49, 57, 46, 82, 101, 112, 97, 105, 114, 79, 114, 100, 101, 114], [97, 99, 101, 113, 117, 105, 97, 47, 97, 99, 101, 113, 117, 105, 97, 108, 97, 119, 48, 53, 46, 68, 105, 115, 116, 84, 101, 108, 108, 115], [97, 99, 101, 113, 117, 105, 97, 47, 97, 99, 101, 113, 117, 105, 97, 108, 97, 119, 48, 53, 46, 68, 105, 115, 116, 83, 116, 101, 112, 115], [97, 99, 101, 113, 117, 105, 97, 47, 97, 99, 101, 113, 117, 105, 97, 108, 97, 119, 48, 53, 46, 68, 105, 115, 116, 87, 97, 121], [97, 99, 101, 113, 117, 105, 97, 47, 97, 99, 101, 113, 117, 105, 97, 108, 97, 119, 49, 57, 46, 82, 101, 112, 97, 105, 114, 71, 114, 101, 97, 116, 101, 115, 116], [97, 99, 101, 113, 117, 105, 97, 47, 97, 99, 101, 113, 117, 105, 97, 108, 97, 119, 49, 57, 46, 82, 101, 112, 97, 105, 114, 70, 108, 97, 116], [97, 99, 101, 113, 117, 105, 97, 47, 97, 99, 101, 113, 117, 105, 97, 108, 97, 119, 48, 54, 46, 76, 97, 98, 101, 108, 68, 105, 115, 116], [97, 99, 101, 113, 117, 105, 97, 47, 97, 99, 101, 113, 117, 105, 97, 108, 97, 119, 50, 48, 46, 71, 108, 111, 98, 97, 108, 115, 82, 105, 115, 101, 110], [97, 99, 101, 113, 117, 105, 97, 47, 97, 99, 101, 113, 117, 105, 97, 108, 97, 119, 50, 48, 46, 71, 108, 111, 98, 97, 108, 115, 82, 101, 97, 99, 104], [97, 99, 101, 113, 117, 105, 97, 47, 97, 99, 101, 113, 117, 105, 97, 108, 97, 119, 50, 48, 46, 71, 108, 111, 98, 97, 108, 115, 84, 101, 108, 108]]
def headWords : List (List Char) := headNums.map fun w => w.map Char.ofNat
def joinW : List (List Char) → List Char
  | [] => []
  | [w] => w
  | w :: v :: ws => w ++ Char.ofNat 32 :: joinW (v :: ws)
theorem ws_cons {c : Char} {r w : List Char} {ws : List (List Char)} (h : c ≠ Char.ofNat 32) (hr : wordsSigns r = w :: ws) : wordsSigns (c :: r) = (c :: w) :: ws := by
  rw [wordsSigns.eq_def]
  split
  · rename_i he; cases he
  · rename_i he; injection he with he; exact absurd he h
  · rename_i c' r' _ he
    injection he with h1 h2
    subst h1; subst h2
    rw [hr]
theorem ws_word : ∀ (w r : List Char), (∀ c ∈ w, c ≠ Char.ofNat 32) → wordsSigns (w ++ Char.ofNat 32 :: r) = w :: wordsSigns r
  | [], r, _ => rfl
  | c :: w, r, h => ws_cons (h c List.mem_cons_self) (ws_word w r fun x hx => h x (List.mem_cons_of_mem _ hx))
theorem ws_last : ∀ (w : List Char), (∀ c ∈ w, c ≠ Char.ofNat 32) → wordsSigns w = [w]
  | [], _ => rfl
  | c :: w, h => ws_cons (h c List.mem_cons_self) (ws_last w fun x hx => h x (List.mem_cons_of_mem _ hx))
theorem ws_join : ∀ (ws : List (List Char)), ws ≠ [] → (∀ w ∈ ws, ∀ c ∈ w, c ≠ Char.ofNat 32) → wordsSigns (joinW ws) = ws
  | [], h, _ => absurd rfl h
  | [w], _, h => ws_last w (h w List.mem_cons_self)
  | w :: v :: ws, _, h => by
    show wordsSigns (w ++ Char.ofNat 32 :: joinW (v :: ws)) = _
    rw [ws_word w _ (h w List.mem_cons_self), ws_join (v :: ws) (by simp) fun x hx => h x (List.mem_cons_of_mem _ hx)]
set_option maxRecDepth 100000 in
theorem head_is : Try.prog.initOrder = String.ofList (joinW headWords) := by kernel_rfl
set_option maxRecDepth 100000 in
theorem no_space : (headWords.all fun w => w.all fun c => c.toNat != 32) = true := by kernel_rfl
theorem head_signs : wordsSigns Try.prog.initOrder.toList = headWords := by
  rw [head_is, String.toList_ofList]
  refine ws_join _ (by simp [headWords, headNums]) fun w hw c hc he => ?_
  have := List.all_eq_true.1 (List.all_eq_true.1 no_space w hw) c hc
  rw [he] at this
  exact absurd this (by decide)
set_option maxRecDepth 100000 in
theorem head_rest : behindMainWord headWords = headWords.drop 2 := by kernel_rfl
theorem make_of {P : Program} {c : List Char} {rest : List (List Char)} (h1 : behindMainWord (wordsSigns P.initOrder.toList) = c :: rest) (h2 : (c == "gc".toList || c == "spec".toList) = false) (h3 : (c == "cut".toList) = true) : P.make = some .cut := by
  unfold Program.make
  rw [h1]
  simp only [h2, h3, Bool.true_or, if_true]
  rfl
theorem lifts_of {P : Program} {c : List Char} {rest : List (List Char)} (h1 : behindMainWord (wordsSigns P.initOrder.toList) = c :: rest) (hs : stripLifts liftWords (c :: rest) = ([], c :: rest)) : P.headLifts = [] := by
  unfold Program.headLifts
  rw [h1, hs]
  simp
theorem final_of {P : Program} {c : List Char} {rest : List (List Char)} (h1 : behindMainWord (wordsSigns P.initOrder.toList) = c :: rest) (hs : stripLifts liftWords (c :: rest) = ([], c :: rest)) (h2 : (some c == some "carried".toList) = false) : P.liftsFinal = false := by
  unfold Program.liftsFinal
  rw [h1, lifts_of h1 hs]
  simp only [List.head?_cons, h2, Bool.false_and, Bool.false_or]
  rfl
theorem enter_of {P : Program} {c : List Char} {rest : List (List Char)} (h1 : behindMainWord (wordsSigns P.initOrder.toList) = c :: rest) (hs : stripLifts liftWords (c :: rest) = ([], c :: rest)) (hc : (some c == some "cut".toList) = true)
    (hl : P.laysLater = false) (hb : P.bearsReflect = false) (hd : P.doorFits [] = true) (hr : (!([] : List String).contains "leanrows") = true) : P.mayEnter = true := by
  unfold Program.mayEnter
  rw [h1]
  simp only [hs, List.head?_cons, hc, hl, hb, hd, hr, Bool.not_false, Bool.or_true, Bool.true_and, Bool.and_true]
theorem head_cons : behindMainWord (wordsSigns Try.prog.initOrder.toList) = (headNums.getD 2 []).map Char.ofNat :: headWords.drop 3 := by
  rw [head_signs, head_rest]
  kernel_rfl
set_option maxRecDepth 100000 in
theorem strip0 : stripLifts liftWords ((headNums.getD 2 []).map Char.ofNat :: headWords.drop 3) = ([], (headNums.getD 2 []).map Char.ofNat :: headWords.drop 3) := by kernel_rfl
theorem make1 : Try.prog.make = some .cut := make_of head_cons (by kernel_rfl) (by kernel_rfl)
theorem make0 : (Try.prog.make == some Rows.labelTellsRow.make) = true := by
  rw [make1]
  kernel_rfl
theorem lifted0 : (Rows.labelTellsRow.lifted == Try.prog.liftsFinal) = true := by
  rw [final_of head_cons strip0 (by kernel_rfl)]
  kernel_rfl
set_option maxRecDepth 100000 in
theorem enter0 : Try.prog.mayEnter = true := enter_of head_cons strip0 (by kernel_rfl) (by kernel_rfl) (by kernel_rfl) (by kernel_rfl) (by kernel_rfl)
end Go.Proofs.Ytnpgeohkmdcbkaa.Aq

namespace Go.Proofs.Ytnpgeohkmdcbkaa.Aq
open Go Go.RowKit Go.ChangeShapes Go.WideShapes Go.ChangeAt Go.Joins Go.Deep

section
variable {H : Type} {enc : TypeId × Value → H} {W : World} {base : Nat} {v : Value} {d : DataW H} {p : List MemPlace}
set_option maxRecDepth 100000 in
/-- A slice of bools. -/
theorem row_bools {t e : TypeId} (ht : Try.prog.underlying t = some (.slice e)) (he : Try.prog.underlying e = some .bool) (hc : Try.prog.cellsOf e = 1) (hb : 1 ≤ Try.prog.bytesOf e)
    (hv : Value.okWide Try.prog W .any base t v) (h : DataW.Trod enc Try.prog W 0 (fun _ => true) true t v d p) (hw : ∀ n ∈ d.weights Try.prog t, n ≤ reachBytes) :
    ∃ A c xs, v = .slice A xs.length c ∧ (sl eBool 1 A xs.length c xs).p W := by
  obtain ⟨a0, len0, cap0, rfl⟩ := okWide_slice ht hv
  obtain ⟨fuel, hf⟩ := h
  rcases open_bools ht he hc hf with ⟨hcs, hx⟩ | ⟨a, len, cap, B, hcs, _, hl, hm, hx, hcell⟩
  · simp [Value.cells] at hcs
    obtain ⟨rfl, rfl, rfl⟩ := hcs
    exact ⟨none, 0, [], rfl, ⟨⟨rfl, Nat.le_refl _⟩, Nat.zero_le _, fun i x hi => by simp at hi⟩⟩
  · simp [Value.cells] at hcs
    obtain ⟨rfl, rfl, rfl⟩ := hcs
    have hlen : ((List.range len0).map B).length = len0 := by simp
    have hsz : len0 ≤ 140737488351232 := by
      simp only [Prod.mk.injEq] at hx
      have h1 := hw (cap0 * Try.prog.bytesOf e) (by
        rw [hx.1]
        simp only [DataW.weights, boolRow, ht, List.mem_cons]
        left
        simp only [List.length_map, List.length_range]
        rw [show len0 + (cap0 - len0) = cap0 by omega])
      have h2 : cap0 ≤ cap0 * Try.prog.bytesOf e := Nat.le_mul_of_pos_right _ hb
      have : reachBytes = 140737488351232 := rfl
      omega
    refine ⟨some a, cap0, (List.range len0).map B, by rw [hlen], ⟨⟨rfl, by omega⟩, by omega, fun i x hi j u hj => ⟨a, rfl, ?_⟩⟩⟩
    have hi' : i < len0 := by have := (List.getElem?_eq_some_iff.1 hi).1; simpa using this
    have hj0 : j = 0 := by
      have := (List.getElem?_eq_some_iff.1 hj).1
      simp [eBool] at this
      exact this
    subst hj0
    simp [hi'] at hi
    subst hi
    simp [eBool] at hj
    subst hj
    have := hcell i (by omega)
    simpa using this
end
end Go.Proofs.Ytnpgeohkmdcbkaa.Aq

namespace Go.Proofs.Ytnpgeohkmdcbkaa.Aq
open Go Go.RowKit Go.ChangeShapes Go.WideShapes Go.ChangeAt Go.Joins Go.Deep
section
variable {H : Type} {enc : TypeId × Value → H} {W : World} {base : Nat} {v : Value} {d : DataW H} {p : List MemPlace}
set_option maxRecDepth 100000 in
theorem row_len8 {t e : TypeId} {k : IntKind} (ht : Try.prog.underlying t = some (.slice e)) (he : Try.prog.underlying e = some (.int k)) (hc : Try.prog.cellsOf e = 1) (hb : 8 ≤ Try.prog.bytesOf e)
    (hv : Value.okWide Try.prog W .any base t v) (h : DataW.Trod enc Try.prog W 0 (fun _ => true) true t v d p) (hw : ∀ n ∈ d.weights Try.prog t, n ≤ reachBytes) :
    ∀ A m c, v = .slice A m c → m * 8 ≤ 140737488351232 := by
  obtain ⟨a0, len0, cap0, rfl⟩ := okWide_slice ht hv
  obtain ⟨fuel, hf⟩ := h
  intro A m c e0
  injection e0 with _ e1 _
  subst e1
  rcases open_ints ht he hc hf with ⟨hcs, hx⟩ | ⟨a, len, cap, zs, hcs, _, hl, hm, hz, hx, hcell, hwz⟩
  · simp [Value.cells] at hcs
    obtain ⟨rfl, rfl, rfl⟩ := hcs
    omega
  · simp [Value.cells] at hcs
    obtain ⟨rfl, rfl, rfl⟩ := hcs
    simp only [if_true] at hz
    simp only [Prod.mk.injEq] at hx
    have h1 := hw ((zs.length) * Try.prog.bytesOf e) (by
      rw [hx.1]
      simp only [DataW.weights, ht, List.mem_cons]
      left
      simp only [lits, List.length_map]
      rw [← List.length_append, List.take_append_drop])
    have h2 : zs.length * 8 ≤ zs.length * Try.prog.bytesOf e := Nat.mul_le_mul_left _ hb
    have : reachBytes = 140737488351232 := rfl
    omega
end
end Go.Proofs.Ytnpgeohkmdcbkaa.Aq

namespace Go.Proofs.Ytnpgeohkmdcbkaa.Aq
open Go Go.RowKit Go.ChangeShapes Go.WideShapes Go.ChangeAt Go.Joins Go.Deep
section
variable {H : Type} {enc : TypeId × Value → H} {W : World} {base : Nat} {v : Value} {d : DataW H} {p : List MemPlace}
theorem cells53 : Try.prog.cellsOf 53 = 2 := by kernel_rfl
set_option maxRecDepth 100000 in
theorem row_mark (hv : Value.okWide Try.prog W .any base 53 v) (h : DataW.Trod enc Try.prog W 0 (fun _ => true) true 53 v d p) :
    ∃ x y : Int, v = .agg #[.int .i64 x, .int .i64 y] ∧ (-9223372036854775808 ≤ x ∧ x ≤ 9223372036854775807) ∧ (-9223372036854775808 ≤ y ∧ y ≤ 9223372036854775807) := by
  obtain ⟨v0, v1, y0, y1, m, rfl, rfl, rfl, hy0, hy1⟩ := open_agg2 Try.underlying53 (by kernel_rfl) cells53 hv h
  obtain ⟨xN, e0, rfl, w0⟩ := DataW.trod_int Try.underlying2 hy0
  obtain ⟨xS, e1, rfl, w1⟩ := DataW.trod_int Try.underlying3 hy1
  obtain rfl : v0 = .int .i64 xN := by simpa using e0
  obtain rfl : v1 = .int .i64 xS := by simpa using e1
  exact ⟨xN, xS, rfl, bounds_i64 w0, bounds_i64 w1⟩
end
end Go.Proofs.Ytnpgeohkmdcbkaa.Aq
