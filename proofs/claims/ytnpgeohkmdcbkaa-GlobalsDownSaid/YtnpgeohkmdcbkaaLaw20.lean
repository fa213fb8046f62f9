/- The walk of acequialaw20.GlobalsRisen. -/
import Derived.Test.YtnpgeohkmdcbkaaB10
namespace Go.Proofs.Ytnpgeohkmdcbkaa.Aq
open Go Go.RowKit

/-! Marks -/
theorem risen_iff {x1 x2 y1 y2 : Int} : risenB x1 x2 y1 y2 = true ↔ x1 < y1 ∨ (x1 = y1 ∧ x2 < y2) := by
  unfold risenB orL orL orL cmpI
  rw [decide_eq_true_eq]
  repeat' split
  all_goals omega
theorem risen_eq (x1 x2 y1 y2 : Int) : risenB x1 x2 y1 y2 = decide (x1 < y1 ∨ (x1 = y1 ∧ x2 < y2)) := by
  rw [Bool.eq_iff_iff, risen_iff, decide_eq_true_eq]
theorem rs1 (a1 a2 b1 b2 : Int) : (!(risenB a1 a2 b1 b2 && risenB b1 b2 a1 a2)) = true := by
  rw [Bool.not_eq_true', ← Bool.not_eq_true, Bool.and_eq_true, risen_iff, risen_iff]
  omega
theorem rs2 (a1 a2 b1 b2 : Int) : ((risenB a1 a2 b1 b2 || risenB b1 b2 a1 a2) == (!(a1 == b1 && a2 == b2))) = true := by
  rw [beq_iff_eq, Bool.eq_iff_iff, Bool.or_eq_true, risen_iff, risen_iff, Bool.not_eq_true', ← Bool.not_eq_true, Bool.and_eq_true, beq_iff_eq, beq_iff_eq]
  omega
theorem rs3 (a1 a2 b1 b2 c1 c2 : Int) : (!((risenB a1 a2 b1 b2 && risenB b1 b2 c1 c2) && !risenB a1 a2 c1 c2)) = true := by
  rw [Bool.not_eq_true', ← Bool.not_eq_true, Bool.and_eq_true, Bool.and_eq_true, Bool.not_eq_true', ← Bool.not_eq_true, risen_iff, risen_iff, risen_iff]
  omega
theorem run_eqMk (x1 x2 y1 y2 : Int) (w : World) : (Op.equalIn 10000 53 (.agg #[.int .i64 x1, .int .i64 x2]) (.agg #[.int .i64 y1, .int .i64 y2])).run Try.prog w = .ok (x1 == y1 && x2 == y2) w := by
  have u2 := Try.underlying2
  have u3 := Try.underlying3
  have a2 := Try.isAgg2
  have z2 := Try.sizeOf2
  have a3 := Try.isAgg3
  have z3 := Try.sizeOf3
  have hS : Try.prog.underlying 53 = some (.struct (Try.prog.fieldsOf 53)) := by kernel_rfl
  have hp : Try.prog.stoodInHeld 53 = false := by kernel_rfl
  rw [show (10000 : Nat) = 9999 + 1 from rfl, run_equalIn_agg w 9999 53 _ _ hS hp]
  simp only [Program.fieldsOf, Try.underlying53]
  go_simp
  by_cases h1 : x1 = y1 <;> by_cases h2 : x2 = y2 <;> simp [h1, h2]
theorem guard_mk : Try.prog.eqGuardType Try.prog.depth 53 = false := by kernel_rfl
section
variable {n : Nat} {ops : Array Oper} {S : World → Prop} {E : Env} {o : Oper} {g : Option (Nat × Bool)} {x y : Operand} {t' : TypeId} {x1 x2 y1 y2 : Int}
theorem ok_eqMk (ho : o.op = .binOp .eql 53 x y t') (hg : GuardIs ops o g) (hx : E.at g x = some (.agg #[.int .i64 x1, .int .i64 x2])) (hy : E.at g y = some (.agg #[.int .i64 y1, .int .i64 y2])) : OpV Try.prog n ops S E o (PV.of g (.bool (x1 == y1 && x2 == y2))) :=
  ok_val2 hg hx hy (by rw [ho]; simp [Op.operands]) (by rw [ho]; simp [Op.operands]) fun ρ w h1 h2 _ _ => by
    simp only [execOp, ho, h1, h2, Sem.run_bind, run_eqGuard_agg w _ _ _ _ _ _ guard_mk, Result.andThen_ok, run_eql_struct, run_eqMk, Sem.run_pure]
theorem ok_neMk (ho : o.op = .binOp .neq 53 x y t') (hg : GuardIs ops o g) (hx : E.at g x = some (.agg #[.int .i64 x1, .int .i64 x2])) (hy : E.at g y = some (.agg #[.int .i64 y1, .int .i64 y2])) : OpV Try.prog n ops S E o (PV.of g (.bool (!(x1 == y1 && x2 == y2)))) :=
  ok_val2 hg hx hy (by rw [ho]; simp [Op.operands]) (by rw [ho]; simp [Op.operands]) fun ρ w h1 h2 _ _ => by
    simp only [execOp, ho, h1, h2, Sem.run_bind, run_eqGuard_agg w _ _ _ _ _ _ guard_mk, Result.andThen_ok, run_neq_struct, run_eqMk, Sem.run_pure]
end

set_option maxRecDepth 10000 in
/-- acequialaw20.GlobalsRisen. -/
theorem f20 (a1 a2 b1 b2 c1 c2 : Int) (w : World) : RetV 20 [.agg #[.int .i64 a1, .int .i64 a2], .agg #[.int .i64 b1, .int .i64 b2], .agg #[.int .i64 c1, .int .i64 c2]] w (.bool true) := by
  refine calls_cw Try.func20 rfl Try.ntmps20 rfl ?_
  have hS := St.start w
  refine cw_seq ?_
  -- region 0
  refine cw_region ?_
  refine lw_box rfl rfl rfl rfl hS ?_
  clear hS; intro b3 w1 _ _ hS
  refine lw_box rfl rfl rfl rfl hS ?_
  clear hS; intro b4 w2 _ _ hS
  refine lw_box rfl rfl rfl rfl hS ?_
  clear hS; intro b5 w3 _ _ hS
  refine lw_v rfl rfl (ok_assign rfl (.n rfl) rfl) ?_
  refine lw_nil ?_
  refine Ends.keep [(3, .eq _), (4, .eq _), (5, .eq _)] (.cons rfl (.cons rfl (.cons rfl .nil))) ?_
  refine ends_then ?_
  refine cw_seq ?_
  -- region 1
  refine cw_draw (by kernel_rfl) (List.take 5 _) (List.drop 5 _) (List.take_append_drop 5 _).symm (by kernel_rfl) ?_
  refine free_v (ok_eq (ok_ldS rfl (.n rfl) rfl Try.isAgg53 Try.sizeOf53 hS rfl) (c' := .agg #[.int .i64 a1, .int .i64 a2]) (fun _ => rfl)) ?_
  refine free_v (ok_eq (ok_ldS rfl (.n rfl) rfl Try.isAgg53 Try.sizeOf53 hS rfl) (c' := .agg #[.int .i64 b1, .int .i64 b2]) (fun _ => rfl)) ?_
  refine free_cons (ok_callv (.bool (risenB a1 a2 b1 b2)) rfl rfl Try.call46 rfl (fun w' hg => f46 a1 a2 b1 b2 w')) ?_
  refine free_v (ok_eq (ok_ldS rfl (.n rfl) rfl Try.isAgg53 Try.sizeOf53 hS rfl) (c' := .agg #[.int .i64 b1, .int .i64 b2]) (fun _ => rfl)) ?_
  refine free_v (ok_eq (ok_ldS rfl (.n rfl) rfl Try.isAgg53 Try.sizeOf53 hS rfl) (c' := .agg #[.int .i64 a1, .int .i64 a2]) (fun _ => rfl)) ?_
  refine free_nil ?_
  intro w4 hg_; replace hS := hS.grow hg_; clear hg_
  refine lw_call (f := 46) (xs := [_, _]) rfl rfl rfl Try.call46 rfl (Calls.mono (f46 b1 b2 a1 a2 _) ?_)
  rintro e w' ⟨rfl, hg⟩
  replace hS := hS.grow hg; clear hg
  refine ⟨_, rfl, ?_⟩
  refine lw_v rfl rfl (ok_assign rfl (.n rfl) rfl) ?_
  refine lw_v rfl rfl (ok_assign rfl (.n rfl) rfl) ?_
  refine lw_nil ?_
  refine Ends.keep [(3, .eq _), (4, .eq _), (5, .eq _), (7, .eq _), (8, .eq _)] (.cons rfl (.cons rfl (.cons rfl (.cons rfl (.cons rfl .nil))))) ?_
  refine ends_then ?_
  refine cw_seq ?_
  -- region 2
  refine cw_region ?_
  refine lw_v rfl rfl (ok_move rfl (.n rfl) rfl) ?_
  refine lw_v rfl rfl (ok_move rfl (.n rfl) rfl) ?_
  refine lw_v rfl rfl (ok_move rfl (.s rfl rfl) rfl) ?_
  refine lw_v rfl rfl (ok_and rfl rfl rfl rfl) ?_
  refine lw_v rfl rfl (ok_eq (g := none) (ok_not rfl (.n rfl) rfl) (c' := .bool true) (fun _ => congrArg Value.bool (rs1 a1 a2 b1 b2))) ?_
  refine lw_v rfl rfl (ok_move rfl (.n rfl) rfl) ?_
  refine lw_on (.s rfl rfl) rfl ?_
  refine lw_v rfl rfl (ok_move rfl (.n rfl) rfl) ?_
  refine lw_on (.s rfl rfl) rfl ?_
  refine lw_v rfl rfl (ok_move rfl (.n rfl) rfl) ?_
  refine lw_v rfl rfl (ok_move rfl (.s rfl rfl) rfl) ?_
  refine lw_on (.s rfl rfl) rfl ?_
  refine lw_v rfl rfl (ok_or rfl rfl rfl rfl) ?_
  refine lw_on (.s rfl rfl) rfl ?_
  refine lw_v rfl rfl (ok_eq (ok_ldS rfl (.n rfl) rfl Try.isAgg53 Try.sizeOf53 hS rfl) (c' := .agg #[.int .i64 a1, .int .i64 a2]) (fun _ => rfl)) ?_
  refine lw_on (.s rfl rfl) rfl ?_
  refine lw_v rfl rfl (ok_eq (ok_ldS rfl (.n rfl) rfl Try.isAgg53 Try.sizeOf53 hS rfl) (c' := .agg #[.int .i64 b1, .int .i64 b2]) (fun _ => rfl)) ?_
  refine lw_on (.s rfl rfl) rfl ?_
  refine lw_v rfl rfl (ok_neMk rfl (.n rfl) rfl rfl) ?_
  refine lw_on (.s rfl rfl) rfl ?_
  refine lw_v rfl rfl (ok_eq (g := none) (ok_eqb rfl (.n rfl) Try.underlying4 rfl rfl) (c' := .bool true) (fun _ => congrArg Value.bool (rs2 a1 a2 b1 b2))) ?_
  refine lw_v rfl rfl (ok_pick rfl rfl rfl rfl rfl) ?_
  refine lw_v rfl rfl (ok_move rfl (.n rfl) rfl) ?_
  refine lw_on (.s rfl rfl) rfl ?_
  refine lw_v rfl rfl (ok_move rfl (.n rfl) rfl) ?_
  refine lw_on (.s rfl rfl) rfl ?_
  refine lw_v rfl rfl (ok_move rfl (.n rfl) rfl) ?_
  refine lw_v rfl rfl (ok_eq (ok_ldS rfl (.s rfl rfl) rfl Try.isAgg53 Try.sizeOf53 hS rfl) (c' := .agg #[.int .i64 b1, .int .i64 b2]) (fun _ => rfl)) ?_
  refine lw_v rfl rfl (ok_eq (ok_ldS rfl (.s rfl rfl) rfl Try.isAgg53 Try.sizeOf53 hS rfl) (c' := .agg #[.int .i64 c1, .int .i64 c2]) (fun _ => rfl)) ?_
  refine lw_o rfl rfl (ok_callg (.bool (risenB b1 b2 c1 c2)) rfl (.s rfl rfl) Try.call46 rfl rfl (fun _ w' hg => f46 b1 b2 c1 c2 w')) ?_
  intro w5 hg_; replace hS := hS.grow hg_; clear hg_
  refine lw_on (.s rfl rfl) rfl ?_
  refine lw_v rfl rfl (ok_and rfl rfl rfl rfl) ?_
  refine lw_on (.s rfl rfl) rfl ?_
  refine lw_v rfl rfl (ok_move rfl (.n rfl) rfl) ?_
  refine lw_v rfl rfl (ok_eq (ok_ldS rfl (.s rfl rfl) rfl Try.isAgg53 Try.sizeOf53 hS rfl) (c' := .agg #[.int .i64 a1, .int .i64 a2]) (fun _ => rfl)) ?_
  refine lw_v rfl rfl (ok_eq (ok_ldS rfl (.s rfl rfl) rfl Try.isAgg53 Try.sizeOf53 hS rfl) (c' := .agg #[.int .i64 c1, .int .i64 c2]) (fun _ => rfl)) ?_
  refine lw_o rfl rfl (ok_callg (.bool (risenB a1 a2 c1 c2)) rfl (.s rfl rfl) Try.call46 rfl rfl (fun _ w' hg => f46 a1 a2 c1 c2 w')) ?_
  intro w6 hg_; replace hS := hS.grow hg_; clear hg_
  refine lw_v rfl rfl (ok_not rfl (.s rfl rfl) rfl) ?_
  refine lw_on (.s rfl rfl) rfl ?_
  refine lw_v rfl rfl (ok_and rfl rfl rfl rfl) ?_
  refine lw_on (.s rfl rfl) rfl ?_
  refine lw_v rfl rfl (ok_eq (g := none) (ok_not rfl (.n rfl) rfl) (c' := .bool true) (fun _ => congrArg Value.bool (rs3 a1 a2 b1 b2 c1 c2))) ?_
  refine lw_v rfl rfl (ok_pick rfl rfl rfl rfl rfl) ?_
  refine lw_v rfl rfl (ok_move rfl (.n rfl) rfl) ?_
  refine lw_on (.s rfl rfl) rfl ?_
  refine lw_call (f := 47) (xs := []) rfl rfl rfl Try.call47 rfl (Calls.mono (f47 _) ?_)
  rintro e w' ⟨rfl, hg⟩
  replace hS := hS.grow hg; clear hg
  refine ⟨_, rfl, ?_⟩
  refine lw_v rfl rfl (ok_pick rfl rfl rfl rfl rfl) ?_
  refine lw_v rfl rfl (ok_assign rfl (.n rfl) rfl) ?_
  refine lw_nil ?_
  refine Ends.keep [(6, .eq _)] (.cons rfl .nil) ?_
  refine ends_then ?_
  refine cw_ret ?_
  exact end_ret (res1 Try.results20 rfl) ⟨rfl, hS.below⟩

end Go.Proofs.Ytnpgeohkmdcbkaa.Aq
