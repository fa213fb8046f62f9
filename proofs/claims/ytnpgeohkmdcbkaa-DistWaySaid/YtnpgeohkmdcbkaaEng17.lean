/- The engine, part 17: a slice beside nil. No condition but those each lemma names. -/
import Derived.Test.YtnpgeohkmdcbkaaEng16
import Derived.Lib.SliceRun
namespace Go.Proofs.Ytnpgeohkmdcbkaa.Aq
open Go Go.RowKit
theorem ok_eqnil {P : Program} {n : Nat} {ops : Array Oper} {S : World → Prop} {E : Env} {o : Oper} {g : Option (Nat × Bool)} {x y : Operand} {A : Option Addr} {m cc : Nat} {t t' e : TypeId} (ho : o.op = .binOp .eql t x y t') (hg : GuardIs ops o g) (hu : P.underlying t = some (.slice e)) (hx : E.at g x = some (.slice A m cc)) (hy : E.at g y = some (.slice none 0 0)) :
    OpV P n ops S E o (PV.of g (.bool A.isNone)) :=
  ok_val2 hg hx hy (by rw [ho]; simp [Op.operands]) (by rw [ho]; simp [Op.operands]) fun ρ w h1 h2 _ _ => by
    simp only [execOp, ho, h1, h2, eqGuard, Sem.run_bind]
    simp [Lib.run_eql_slice_nil w t e A m cc 0 0 hu, go_sem]
end Go.Proofs.Ytnpgeohkmdcbkaa.Aq
