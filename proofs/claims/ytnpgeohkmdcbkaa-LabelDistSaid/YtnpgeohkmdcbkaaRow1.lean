/- What the rows ask of the program's head: its words are told as numbers, so that the kernel need not take the string apart. -/
import Derived.Test.YtnpgeohkmdcbkaaRow0
namespace Go.Proofs.Ytnpgeohkmdcbkaa.Aq
open Go Go.RowKit
/-- The words of the program's head. -/
def headNums : List (List Nat) := [[104, 97, 114, 110, 101, 115, 115], [51, 50, 51, 101, 100, 101, 102, 54, 100, 97, 50, 102, 102, 54, 98, 49, 49, 99, 48, 102, 51, 55, 50, 52, 50, 51, 53, 98, 49, 102, 50, 55, 100, 57, 52, 50, 50, 56, 102, 102, 99, 100, 50, 100, 55, 52, 48, 101, 48, 51, 48, 102, 48, 55, 99, 56, 51, 48, 98, 55, 102, 49, 54, 54], [99, 117, 116], [97, 116], [97, 99, 101, 113, 117, 105, 97, 47, 97, 99, 101, 113, 117, 105, 97, 108, 97, 119, 48, 54, 46, 76, 97, 98, 101, 108, 84, 101, 108, 108, 115], [97, 99, 101, 113, 117, 105, 97, 47, 97, 99, 101, 113, 117, 105, 97, 108, 97, 119, 48, 54, 46, 76, 97, 98, 101, 108, 82, 97, 105, 115, 101], [97, 99, 101, 113, 117, 105, 97, 47, 97, 99, 101, 113, 117, 105, 97, 108, 97, 119, 48, 54, 46, 76, 97, 98, 101, 108, 65, 114, 99, 115], [97, 99, 101, 113, 117, 105, 97, 47, 97, 99, 101, 113, 117, 105, 97, 108, 97, 119, 48, 54, 46, 76, 97, 98, 101, 108, 76, 101, 115, 115], [97, 99, 101, 113, 117, 105, 97, 47, 97, 99, 101, 113, 117, 105, 97, 108, 97, 119, 48, 53, 46, 68, 105, 115, 116, 77, 111, 114, 101], [97, 99, 101, 113, 117, 105, 97, 47, 97, 99, 101, 113, 117, 105, 97, 108, 97, 119, 50, 48, 46, 71, 108, 111, 98, 97, 108, 115, 68, 111, 119, 110], [97, 99, 101, 113, 117, 105, 97, 47, 97, 99, 101, 113, 117, 105, 97, 108, 97, 119, 48, 53, 46, 68, 105, 115, 116, 84, 117, 114, 110, 115], [97, 99, 101, 113, 117, 105, 97, 47, 97, 99, 101, 113, 117, 105, 97, 108, 97, 119, 50, 48, 46, 71, 108, 111, 98, 97, 108, 115, 69, 120, 97, 99, 116], [97, 99, 101, 113, 117, 105, 97, 47, 97, 99, 101, 113, 117, 105, 97, 108, 97, 119, 48, 53, 46, 68, 105, 115, 116, 82, 111, 119, 115], [97, 99, 101, 113, 117, 105, 97, 47, 97, 99, 101, 113, 117, 105, 97, 108, 97, 119, 49, 57, 46, 82, 101, 112, 97, 105, 114, 84, 101, 108, 108, 115], [97, 99, 101, 113, 117, 105, 97, 47, 97, 99, 101, 113, 117, 105, 97, 108, 97, 119, 49, 57, 46, 82, 101, 112, 97, 105, 114, 79, 114, 100, 101, 114], [97, 99, 101, 113, 117, 105, 97, 47, 97, 99, 101, 113, 117, 105, 97, 108, 97, 119, 48, 53, 46, 68, 105, 115, 116, 84, 101, 108, 108, 115], [97, 99, 101, 113, 117, 105, 97, 47, 97, 99, 101, 113, 117, 105, 97, 108, 97, 119, 48, 53, 46, 68, 105, 115, 116, 83, 116, 101, 112, 115], [97, 99, 101, 113, 117, 105, 97, 47, 97, 99, 101, 113, 117, 105, 97, 108, 97, 119, 48, 53, 46, 68, 105, 115, 116, 87, 97, 121], [97, 99, 101, 113, 117, 105, 97, 47, 97, 99, 101, 113, 117, 105, 97, 108, 97, 119, 49, 57, 46, 82, 101, 112, 97, 105, 114, 71, 114, 101, 97, 116, 101, 115, 116], [97, 99, 101, 113, 117, 105, 97, 47, 97, 99, 101, 113, 117, 105, 97, 108, 97, 119, 49, 57, 46, 82, 101, 112, 97, 105, 114, 70, 108, 97, 116], [97, 99, 101, 113, 117, 105, 97, 47, 97, 99, 101, 113, 117, 105, 97, 108, 97, 119, 48, 54, 46, 76, 97, 98, 101, 108, 68, 105, 115, 116], [97, 99, 101, 113, 117, 105, 97, 47, 97, 99, 101, 113, 117, 105, 97, 108, 97, 119, 50, 48, 46, 71, 108, 111, 98, 97, 108, 115, 82, 105, 115, 101, 110], [97, 99, 101, 113, 117, 105, 97, 47, 97, 99, 101, 113, 117, 105, 97, 108, 97, 119, 50, 48, 46, 71, 108, 111, 98, 97, 108, 115, 82, 101, 97, 99, 104], [97, 99, 101, 113, 117, 105, 97, 47, 97, 99, 101, 113, 117, 105, 97, 108, 97, 119, 50, 48, 46, 71, 108, 111, 98, 97, 108, 115, 84, 101, 108, 108]]
def headWords : List (List Char) := headNums.map fun w => w.map Char.ofNat
def joinW : List (List Char) → List Char
  | [] => []
  | [w] => w
  | w :: v :: ws => w ++ Char.ofNat 32 :: joinW (v :: ws)
theorem ws_cons {c : Char} {r w : List Char} {ws : List (List Char)} (h : c ≠ Char.ofNat 32) (hr : wordsSigns r = w :: ws) : wordsSigns (c :: r) = (c :: w) :: ws := by
  rw [wordsSigns.eq_def]
  split
  · rename_i he; cases he
  · rename_i he; injection he with he; exact absurd he h
  · rename_i c' r' _ he
    injection he with h1 h2
    subst h1; subst h2
    rw [hr]
theorem ws_word : ∀ (w r : List Char), (∀ c ∈ w, c ≠ Char.ofNat 32) → wordsSigns (w ++ Char.ofNat 32 :: r) = w :: wordsSigns r
  | [], r, _ => rfl
  | c :: w, r, h => ws_cons (h c List.mem_cons_self) (ws_word w r fun x hx => h x (List.mem_cons_of_mem _ hx))
theorem ws_last : ∀ (w : List Char), (∀ c ∈ w, c ≠ Char.ofNat 32) → wordsSigns w = [w]
  | [], _ => rfl
  | c :: w, h => ws_cons (h c List.mem_cons_self) (ws_last w fun x hx => h x (List.mem_cons_of_mem _ hx))
theorem ws_join : ∀ (ws : List (List Char)), ws ≠ [] → (∀ w ∈ ws, ∀ c ∈ w, c ≠ Char.ofNat 32) → wordsSigns (joinW ws) = ws
  | [], h, _ => absurd rfl h
  | [w], _, h => ws_last w (h w List.mem_cons_self)
  | w :: v :: ws, _, h => by
    show wordsSigns (w ++ Char.ofNat 32 :: joinW (v :: ws)) = _
    rw [ws_word w _ (h w List.mem_cons_self), ws_join (v :: ws) (by simp) fun x hx => h x (List.mem_cons_of_mem _ hx)]
set_option maxRecDepth 100000 in
theorem head_is : Try.prog.initOrder = String.ofList (joinW headWords) := by kernel_rfl
set_option maxRecDepth 100000 in
theorem no_space : (headWords.all fun w => w.all fun c => c.toNat != 32) = true := by kernel_rfl
theorem head_signs : wordsSigns Try.prog.initOrder.toList = headWords := by
  rw [head_is, String.toList_ofList]
  refine ws_join _ (by simp [headWords, headNums]) fun w hw c hc he => ?_
  have := List.all_eq_true.1 (List.all_eq_true.1 no_space w hw) c hc
  rw [he] at this
  exact absurd this (by decide)
set_option maxRecDepth 100000 in
theorem head_rest : behindMainWord headWords = headWords.drop 2 := by kernel_rfl
theorem make_of {P : Program} {c : List Char} {rest : List (List Char)} (h1 : behindMainWord (wordsSigns P.initOrder.toList) = c :: rest) (h2 : (c == "gc".toList || c == "spec".toList) = false) (h3 : (c == "cut".toList) = true) : P.make = some .cut := by
  unfold Program.make
  rw [h1]
  simp only [h2, h3, Bool.true_or, if_true]
  rfl
theorem lifts_of {P : Program} {c : List Char} {rest : List (List Char)} (h1 : behindMainWord (wordsSigns P.initOrder.toList) = c :: rest) (hs : stripLifts liftWords (c :: rest) = ([], c :: rest)) : P.headLifts = [] := by
  unfold Program.headLifts
  rw [h1, hs]
  simp
theorem final_of {P : Program} {c : List Char} {rest : List (List Char)} (h1 : behindMainWord (wordsSigns P.initOrder.toList) = c :: rest) (hs : stripLifts liftWords (c :: rest) = ([], c :: rest)) (h2 : (some c == some "carried".toList) = false) : P.liftsFinal = false := by
  unfold Program.liftsFinal
  rw [h1, lifts_of h1 hs]
  simp only [List.head?_cons, h2, Bool.false_and, Bool.false_or]
  rfl
theorem enter_of {P : Program} {c : List Char} {rest : List (List Char)} (h1 : behindMainWord (wordsSigns P.initOrder.toList) = c :: rest) (hs : stripLifts liftWords (c :: rest) = ([], c :: rest)) (hc : (some c == some "cut".toList) = true)
    (hl : P.laysLater = false) (hb : P.bearsReflect = false) (hd : P.doorFits [] = true) (hr : (!([] : List String).contains "leanrows") = true) : P.mayEnter = true := by
  unfold Program.mayEnter
  rw [h1]
  simp only [hs, List.head?_cons, hc, hl, hb, hd, hr, Bool.not_false, Bool.or_true, Bool.true_and, Bool.and_true]
theorem head_cons : behindMainWord (wordsSigns Try.prog.initOrder.toList) = (headNums.getD 2 []).map Char.ofNat :: headWords.drop 3 := by
  rw [head_signs, head_rest]
  kernel_rfl
set_option maxRecDepth 100000 in
theorem strip0 : stripLifts liftWords ((headNums.getD 2 []).map Char.ofNat :: headWords.drop 3) = ([], (headNums.getD 2 []).map Char.ofNat :: headWords.drop 3) := by kernel_rfl
theorem make1 : Try.prog.make = some .cut := make_of head_cons (by kernel_rfl) (by kernel_rfl)
theorem make0 : (Try.prog.make == some Rows.labelTellsRow.make) = true := by
  rw [make1]
  kernel_rfl
theorem lifted0 : (Rows.labelTellsRow.lifted == Try.prog.liftsFinal) = true := by
  rw [final_of head_cons strip0 (by kernel_rfl)]
  kernel_rfl
set_option maxRecDepth 100000 in
theorem enter0 : Try.prog.mayEnter = true := enter_of head_cons strip0 (by kernel_rfl) (by kernel_rfl) (by kernel_rfl) (by kernel_rfl) (by kernel_rfl)
end Go.Proofs.Ytnpgeohkmdcbkaa.Aq
