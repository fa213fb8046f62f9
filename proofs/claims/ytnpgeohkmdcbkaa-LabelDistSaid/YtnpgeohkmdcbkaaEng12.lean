/- The engine, part 12: maps from int to int of the call's own. -/
import Derived.Test.YtnpgeohkmdcbkaaEng11
import Derived.Maps.OwnSet
import Derived.Maps.Views
import Derived.OpenShut
namespace Go.Proofs.Ytnpgeohkmdcbkaa.Aq
open Go Go.RowKit Go.Maps Go.ChangeShapes

theorem wf64 {x : Int} (h : -9223372036854775808 ≤ x ∧ x ≤ 9223372036854775807) : (Lit.int .i64 x).wf = true := by
  simp only [Lit.wf, IntKind.wrap, IntKind.bits, IntKind.signed, decide_eq_true_eq, beq_iff_eq]
  simp
  exact h

/-- A map from int to int. -/
def mp (b n : Nat) (f : Int → Int) : Asn where
  p := fun w => ∃ D : DataW Unit, w.ownsMap Try.prog 3 (plainElem Try.prog 3) b n D ∧ ∀ k, (Lit.int .i64 k).wf = true → D.atKey (.int .i64 k) (.lit (.int .i64 0)) = .lit (.int .i64 (f k))
  fp := fun k => k = b
  mt := true
  st := fun h ⟨D, ⟨es, clock, hb, r⟩, hf⟩ => ⟨D, ⟨es, clock, by rw [h b rfl]; exact hb, r⟩, hf⟩
  lt := fun ⟨D, ho, _⟩ hb => by subst hb; exact ho.lt

theorem mp_new (w : World) : (mp w.heap.size 0 fun _ => 0).p (w.alloc (.map #[] 0)) := by
  refine ⟨.map [], World.ownsMap_made w Try.prog 3 (plainElem Try.prog 3), ?_⟩
  intro k _
  rfl
class HasMp (L : List Asn) (b : Nat) (n : outParam Nat) (f : outParam (Int → Int)) : Prop where
  mem : mp b n f ∈ L
instance {L : List Asn} {a : Asn} {b n : Nat} {f : Int → Int} [h : HasMp L b n f] : HasMp (a :: L) b n f := ⟨List.mem_cons_of_mem _ h.mem⟩
instance {L : List Asn} {b n : Nat} {f : Int → Int} : HasMp (mp b n f :: L) b n f := ⟨List.mem_cons_self⟩

section
variable {n : Nat} {ops : Array Oper} {Q : Exit → Act → World → Prop} {l : List Oper} {E : Env} {o : Oper} {g : Option (Nat × Bool)} {w w0 : World} {x y z : Operand} {B : Nat} {we : World} {L L' : List Asn}

theorem lw_mkmap {t : TypeId} (hd : dstOk n o = true) (hg : o.guard = none) (ho : o.op = .makeMap t none) (hS : St B we w L)
    (hk : ∀ b w', w.heap.size ≤ b → Gr w w' → St B we w' (mp b 0 (fun _ => 0) :: L) → LW Try.prog n ops Q l (E.updo o.dst (.eq (.map (some b)))) w') : LW Try.prog n ops Q (o :: l) E w :=
  lw_g hd hg fun a hn hs => by
    have hr : (execOp a.eval o).run Try.prog w = .ok (.value (.map (some w.heap.size))) (w.alloc (.map #[] 0)) := by
      simp only [execOp, ho, Option.map_none, Sem.run_bind, run_makeMap, Result.andThen_ok, Sem.run_pure]
    unfold OpR
    rw [hr]
    exact ⟨gr_alloc _ _, hk w.heap.size _ (Nat.le_refl _) (gr_alloc _ _) (hS.new (gr_alloc _ _) (mp w.heap.size 0 fun _ => 0) (mp_new w) fun b hb => by rw [show b = w.heap.size from hb]; exact Nat.le_refl _)⟩

theorem ok_lookup {t : TypeId} {b m : Nat} {f : Int → Int} {k : Int} (ho : o.op = .lookup t x y false) (hg : GuardIs ops o g) (hu : Try.prog.underlying t = some (.map 3 3)) (hx : E.at g x = some (.map (some b))) (hy : E.at g y = some (.int .i64 k)) (hS : St B we w0 L) [hb : HasMp L b m f]
    (hk : E.gc g → -9223372036854775808 ≤ k ∧ k ≤ 9223372036854775807) : OpV Try.prog n ops (Gr w0) E o (PV.of g (.int .i64 (f k))) :=
  ok_val2 hg hx hy (by rw [ho]; simp [Op.operands]) (by rw [ho]; simp [Op.operands]) fun ρ w h1 h2 hw hc => by
    obtain ⟨D, hown, hf⟩ := (hS.grow hw).ok _ hb.mem
    have hwf := wf64 (hk hc)
    obtain ⟨c, hrun, hat, _⟩ := hown.lookup_int (int_keyed Try.underlying3) hu Try.underlying3 (Try.zeroValue3 w) (keyOf_int_mk Try.underlying3 hwf)
    rw [hf k hwf] at hat
    have hcf : f k = c := (Lit.int.inj (DataW.lit.inj hat)).2
    rw [hcf]
    simp only [execOp, ho, h1, h2, Sem.run_bind, hrun, Result.andThen_ok, Sem.run_pure]

theorem lw_mapup {t : TypeId} {b m : Nat} {f : Int → Int} {k v : Int} (hd : dstOk n o = true) (hg : o.guard = none) (ho : o.op = .mapUpdate t x y z) (hu : Try.prog.underlying t = some (.map 3 3)) (hx : E.at none x = some (.map (some b))) (hy : E.at none y = some (.int .i64 k)) (hz : E.at none z = some (.int .i64 v))
    (hS : St B we w L) [hb : HasMp L b m f] (hk : -9223372036854775808 ≤ k ∧ k ≤ 9223372036854775807) (hv : -9223372036854775808 ≤ v ∧ v ≤ 9223372036854775807) (hm : m < 9223372036854775807)
    [hr : Rep (mp b m f) (mp b (m + 1) (fun x => if x = k then v else f x)) L L'] (hn : ∀ w', St B we w' L' → LW Try.prog n ops Q l (E.exact.updo o.dst (.eq undef)) w') : LW Try.prog n ops Q (o :: l) E w :=
  lw_w hd hg fun a _ hs => by
    have e1 := hs.ev hx
    have e2 := hs.ev hy
    have e3 := hs.ev hz
    obtain ⟨D, hown, hf⟩ := hS.ok _ hb.mem
    have hwf := wf64 hk
    obtain ⟨w', hrun, hown', hg'⟩ := hown.update (int_keyed Try.underlying3) hu (by unfold maxLen; omega) (keyOf_int_mk Try.underlying3 hwf) (plainElem_int Try.underlying3 (wf64 hv))
    have hrun' : (execOp a.eval o).run Try.prog w = .ok .skip w' := by
      simp only [execOp, ho, e1, e2, e3, Sem.run_bind, hrun, Result.andThen_ok, Sem.run_pure]
    unfold OpR
    rw [hrun']
    refine hn _ (hS.write hr.r rfl (fun j hj hne => hg'.block j hj fun e => hne (by injection e with e)) hg'.os hg'.tape hg'.output hg'.size ⟨_, hown', fun j hj => ?_⟩ fun j hj => .inl hj)
    by_cases hjk : j = k
    · subst hjk
      have e : (fun x => if x = j then v else f x) j = v := if_pos rfl
      rw [e]
      exact atKey_put_same hown.isMap (by simp [WideAt.IsKeyLit]) _ _
    · have e : (fun x => if x = k then v else f x) j = f j := if_neg hjk
      rw [e, atKey_put_other (fun e => hjk (by injection e)), hf j hj]
end
end Go.Proofs.Ytnpgeohkmdcbkaa.Aq
