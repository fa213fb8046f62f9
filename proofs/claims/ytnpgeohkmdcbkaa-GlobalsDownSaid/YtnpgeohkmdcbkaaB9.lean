/- The engine, part 18: methods called through an interface value; stores of whole structs into slices. No condition but those each lemma names. The engine, part 19: a store of a whole struct into an element of a slice of the call's own. No condition but those each lemma names. The engine, part 20: a region whose order is drawn, some of whose operations write: those that come ahead of all of these see what lay there before. No condition but those each lemma names. The engine, part 21: a region whose order is drawn, some of whose operations change the world, these too in whatever order. The walks of the heap's own methods, and of container/heap. Plain mathematics: lowered one by one, out of a queue. No condition but those that each lemma names. The walk of repair.Lower. The walks of repair.Lowered, and of acequiaref19. The chapter's example of lowering, by computing. The walk of acequialaw19.awake. No condition but those that each lemma names. -/
import Derived.Test.YtnpgeohkmdcbkaaB2
import Derived.ChangeKeysEq
import Derived.Test.YtnpgeohkmdcbkaaB1
import Derived.Test.YtnpgeohkmdcbkaaB4
import Derived.Test.YtnpgeohkmdcbkaaB5
namespace Go.Proofs.Ytnpgeohkmdcbkaa.Aq
open Go Go.RowKit
variable {dfr : List Deferred}

theorem meth101 (name : String) (m : Method) (h : (Try.prog.info? 101).bind (fun i => i.methods.find? (fun m => m.name == name)) = some m) : ∃ i, Try.prog.info? 101 = some i ∧ i.methods.find? (fun m => m.name == name) = some m := Option.bind_eq_some_iff.1 h
theorem mLen : ∃ i, Try.prog.info? 101 = some i ∧ i.methods.find? (fun m => m.name == "Len") = some ⟨"Len", 109, #[⟨105, 0, true⟩], some (90, false)⟩ := meth101 _ _ (by kernel_rfl)
theorem mLess : ∃ i, Try.prog.info? 101 = some i ∧ i.methods.find? (fun m => m.name == "Less") = some ⟨"Less", 146, #[⟨105, 0, true⟩], some (151, false)⟩ := meth101 _ _ (by kernel_rfl)
theorem mSwap : ∃ i, Try.prog.info? 101 = some i ∧ i.methods.find? (fun m => m.name == "Swap") = some ⟨"Swap", 131, #[⟨105, 0, true⟩], some (154, false)⟩ := meth101 _ _ (by kernel_rfl)
theorem mPop : ∃ i, Try.prog.info? 101 = some i ∧ i.methods.find? (fun m => m.name == "Pop") = some ⟨"Pop", 133, #[], some (152, true)⟩ := meth101 _ _ (by kernel_rfl)
theorem mPush : ∃ i, Try.prog.info? 101 = some i ∧ i.methods.find? (fun m => m.name == "Push") = some ⟨"Push", 129, #[], some (153, true)⟩ := meth101 _ _ (by kernel_rfl)

/-- The queue as an interface value. -/
def qV (b : Nat) : Value := .iface 101 (.pointer (some ⟨b, 0, none⟩))
theorem run_method_row {w : World} {b k : Nat} {A : Option Addr} {m c : Nat} {name : String} {sig f : Nat} (hm : ∃ i, Try.prog.info? 101 = some i ∧ i.methods.find? (fun m => m.name == name) = some ⟨name, sig, #[⟨105, 0, true⟩], some (f, false)⟩) (hb : (bx b [.slice A m c] 105).p w) :
    (method (k + 1) 101 (.pointer (some ⟨b, 0, none⟩)) name).run Try.prog w = .ok (f, .slice A m c) w := by
  obtain ⟨i, h1, h2⟩ := hm
  have hc : w.cell? ⟨b, 0, none⟩ = some (.slice A m c) := bx_cell hb (by simp)
  simp only [method, Sem.run_bind, run_typeInfo w h1, Result.andThen_ok, h2]
  simp [follow, run_underlying Try.underlying105, Place.get, asAddr, fieldPlace, Try.sizeOf103, receiverAt, run_underlying Try.underlying103, loadVar, Try.isAgg103, add_lit, hc, go_sem]
theorem run_method_ptr {w : World} {b k : Nat} {name : String} {sig f : Nat} (hm : ∃ i, Try.prog.info? 101 = some i ∧ i.methods.find? (fun m => m.name == name) = some ⟨name, sig, #[], some (f, true)⟩) :
    (method (k + 1) 101 (.pointer (some ⟨b, 0, none⟩)) name).run Try.prog w = .ok (f, .pointer (some ⟨b, 0, none⟩)) w := by
  obtain ⟨i, h1, h2⟩ := hm
  simp only [method, Sem.run_bind, run_typeInfo w h1, Result.andThen_ok, h2]
  simp [follow, Place.get, receiverAt, run_underlying Try.underlying101, go_sem]
theorem fuel_succ : ∃ k, Try.prog.types.size + Made.depth = k + 1 := ⟨Try.prog.types.size + 99, by unfold Made.depth; exact (Nat.add_assoc _ 99 1).symm⟩
set_option maxRecDepth 100000 in
theorem run_meth_row {w : World} {b : Nat} {A : Option Addr} {m c : Nat} {name : String} {sig f : Nat} {args : Array Value} (hm : ∃ i, Try.prog.info? 101 = some i ∧ i.methods.find? (fun m => m.name == name) = some ⟨name, sig, #[⟨105, 0, true⟩], some (f, false)⟩) (hb : (bx b [.slice A m c] 105).p w) :
    (callMethod (qV b) name args).run Try.prog w = (callFunc f (#[.slice A m c] ++ args)).run Try.prog w := by
  obtain ⟨k, hk⟩ := fuel_succ
  unfold callMethod qV
  simp only [Sem.run_bind, run_program, Result.andThen_ok]
  rw [hk, run_method_row hm hb]
  rfl
set_option maxRecDepth 100000 in
theorem run_meth_ptr {w : World} {b : Nat} {name : String} {sig f : Nat} {args : Array Value} (hm : ∃ i, Try.prog.info? 101 = some i ∧ i.methods.find? (fun m => m.name == name) = some ⟨name, sig, #[], some (f, true)⟩) :
    (callMethod (qV b) name args).run Try.prog w = (callFunc f (#[.pointer (some ⟨b, 0, none⟩)] ++ args)).run Try.prog w := by
  obtain ⟨k, hk⟩ := fuel_succ
  unfold callMethod qV
  simp only [Sem.run_bind, run_program, Result.andThen_ok]
  rw [hk, run_method_ptr hm]
  rfl

section
variable {n : Nat} {ops : Array Oper} {Q : Exit → Act → World → Prop} {l : List Oper} {E : Env} {o : Oper} {w : World} {x y : Operand} {v u : Value}
variable {B : Nat} {we : World} {L L' : List Asn}

/-- A method of the queue that the row has. -/
theorem lw_inv {b : Nat} {A : Option Addr} {m c : Nat} {name : String} {sig f : Nat} {xs : List Operand} {ts : Array TypeId} {vs : List Value} (hd : dstOk n o = true) (hg : o.guard = none) (ho : o.op = .call { callee := .invoke x name, args := xs.toArray, argTypes := ts })
    (hm : ∃ i, Try.prog.info? 101 = some i ∧ i.methods.find? (fun m => m.name == name) = some ⟨name, sig, #[⟨105, 0, true⟩], some (f, false)⟩) (hf : ∀ args w, (callFunc f args).run Try.prog w = .ok (.enter f args) w)
    (hr : E.at none x = some (qV b)) (hx : E.all none xs = some vs) (hS : St B we w L) [hb : HasBx L b [.slice A m c] 105] (hc : Calls Try.prog f (.slice A m c :: vs).toArray w fun e w' => ∃ v, e = .returned v ∧ LW dfr Try.prog n ops Q l (E.exact.updo o.dst (.eq v)) w') : LW dfr Try.prog n ops Q (o :: l) E w :=
  lw_w hd hg fun a _ hs => by
    have e1 := hs.evs hx
    have e2 := hs.ev hr
    have hbx : (bx b [.slice A m c] 105).p w := hS.bx
    have hrun : (execOp a.eval o).run Try.prog w = .ok (.enter f (.slice A m c :: vs).toArray) w := by
      simp only [execOp, ho, resolve, invoke, Sem.run_bind, Sem.run_pure, Result.andThen_ok, List.map_toArray, e1, e2]
      have h3 : (#[qV b] ++ vs.toArray)[0]? = some (qV b) := by simp
      have h4 : (#[qV b] ++ vs.toArray).extract 1 (#[qV b] ++ vs.toArray).size = vs.toArray := by simp
      simp only [h3, h4, run_meth_row hm hbx]
      rw [hf]
      simp
    unfold OpR
    rw [hrun]
    exact hc
/-- A method of the queue itself. -/
theorem lw_invp {b : Nat} {name : String} {sig f : Nat} {xs : List Operand} {ts : Array TypeId} {vs : List Value} (hd : dstOk n o = true) (hg : o.guard = none) (ho : o.op = .call { callee := .invoke x name, args := xs.toArray, argTypes := ts })
    (hm : ∃ i, Try.prog.info? 101 = some i ∧ i.methods.find? (fun m => m.name == name) = some ⟨name, sig, #[], some (f, true)⟩) (hf : ∀ args w, (callFunc f args).run Try.prog w = .ok (.enter f args) w)
    (hr : E.at none x = some (qV b)) (hx : E.all none xs = some vs) (hc : Calls Try.prog f (.pointer (some ⟨b, 0, none⟩) :: vs).toArray w fun e w' => ∃ v, e = .returned v ∧ LW dfr Try.prog n ops Q l (E.exact.updo o.dst (.eq v)) w') : LW dfr Try.prog n ops Q (o :: l) E w :=
  lw_w hd hg fun a _ hs => by
    have e1 := hs.evs hx
    have e2 := hs.ev hr
    have hrun : (execOp a.eval o).run Try.prog w = .ok (.enter f (.pointer (some ⟨b, 0, none⟩) :: vs).toArray) w := by
      simp only [execOp, ho, resolve, invoke, Sem.run_bind, Sem.run_pure, Result.andThen_ok, List.map_toArray, e1, e2]
      have h3 : (#[qV b] ++ vs.toArray)[0]? = some (qV b) := by simp
      have h4 : (#[qV b] ++ vs.toArray).extract 1 (#[qV b] ++ vs.toArray).size = vs.toArray := by simp
      simp only [h3, h4, run_meth_ptr hm]
      rw [hf]
      simp
    unfold OpR
    rw [hrun]
    exact hc
end

section
variable {P : Program} {n : Nat} {ops : Array Oper} {S : World → Prop} {E : Env} {o : Oper} {g : Option (Nat × Bool)} {x y : Operand} {v u : Value} {w : World} {l : List Oper} {Q : Exit → Act → World → Prop}
variable {B : Nat} {we w0 : World} {L L' : List Asn}
/-- The same of a method that answers v and leaves old memory as it lies, be it guarded. -/
theorem ok_inv {b : Nat} {A : Option Addr} {m c : Nat} {name : String} {sig f : Nat} {xs : List Operand} {ts : Array TypeId} {vs : List Value} (cv : Value) (ho : o.op = .call { callee := .invoke x name, args := xs.toArray, argTypes := ts }) (hg : GuardIs ops o g)
    (hm : ∃ i, Try.prog.info? 101 = some i ∧ i.methods.find? (fun m => m.name == name) = some ⟨name, sig, #[⟨105, 0, true⟩], some (f, false)⟩) (hf : ∀ args w, (callFunc f args).run Try.prog w = .ok (.enter f args) w)
    (hr : E.at g x = some (qV b)) (hx : E.all g xs = some vs) (hb : ∀ w, S w → (bx b [.slice A m c] 105).p w) (hc : E.gc g → ∀ w, S w → Calls Try.prog f (.slice A m c :: vs).toArray w fun e w' => e = .returned cv ∧ Gr w w') : OpOk Try.prog n ops S E o (PV.of g cv) where
  shape := fun s want c' he => by
    cases hg with
    | n h1 => simp [PV.of] at he
    | s h1 h2 => simp only [PV.of, PV.gd.injEq] at he; obtain ⟨rfl, rfl, rfl⟩ := he; exact ⟨_, _, h1, h2⟩
  run := fun a w hn hs hS hw => by
    obtain ⟨h1, h2⟩ := gc_of hs hg hw
    have hag : Agree E g o a.eval := agree_of hs h2
    have key : ∀ {l : List Operand} {us : List Value}, (∀ z ∈ l, z ∈ o.op.operands) → E.all g l = some us → l.map a.eval = us := by
      intro l
      induction l with
      | nil => intro us _ h; simp [Env.all] at h; subst h; rfl
      | cons z l ih =>
        intro us hz h
        simp only [Env.all] at h
        cases h3 : E.at g z with
        | none => rw [h3] at h; simp at h
        | some v1 =>
          cases h4 : E.all g l with
          | none => rw [h3, h4] at h; simp at h
          | some us' =>
            rw [h3, h4] at h
            simp only [Option.some.injEq] at h
            subst h
            rw [List.map_cons, hag z (hz z List.mem_cons_self) v1 h3, ih (fun z' hz' => hz z' (List.mem_cons_of_mem _ hz')) h4]
    have e1 := key (l := xs) (fun z hz => by rw [ho]; simp [Op.operands, Call.operands, hz]) hx
    have e2 := hag x (by rw [ho]; simp [Op.operands, Call.operands]) _ hr
    have hrun : (execOp a.eval o).run Try.prog w = .ok (.enter f (.slice A m c :: vs).toArray) w := by
      simp only [execOp, ho, resolve, invoke, Sem.run_bind, Sem.run_pure, Result.andThen_ok, List.map_toArray, e1, e2]
      have h3 : (#[qV b] ++ vs.toArray)[0]? = some (qV b) := by simp
      have h4 : (#[qV b] ++ vs.toArray).extract 1 (#[qV b] ++ vs.toArray).size = vs.toArray := by simp
      simp only [h3, h4, run_meth_row hm (hb w hS)]
      rw [hf]
      simp
    unfold OpR
    rw [hrun]
    refine (hc h1 w hS).mono fun e w' ⟨he, hgr⟩ => ⟨cv, he, hgr, ?_⟩
    cases g with
    | none => rfl
    | some sb => exact ⟨fun _ => rfl, fun hne => absurd (h2 _ _ rfl) hne⟩
  skip := fun a w hn hs hS hw => by
    cases hg with
    | n h1 => simp [Region.wanted, h1] at hw
    | s h1 h2 =>
      refine ⟨fun ht => ?_, fun _ => rfl⟩
      have := (wanted_guard (GuardIs.s h1 h2)).2 ht
      rw [this] at hw
      cases hw

theorem ok_iface {t : TypeId} {d : TypeDesc} (ho : o.op = .makeInterface t x) (hg : GuardIs ops o g) (hu : P.underlying t = some d) (hd : (match d with | .interface _ => true | _ => false) = false) (hx : E.at g x = some v) : OpV P n ops S E o (PV.of g (.iface t v)) :=
  ok_val1 hg hx (by rw [ho]; simp [Op.operands]) fun ρ w h1 _ _ => by
    simp only [execOp, ho, h1, Instr.makeInterface, Sem.run_bind, run_underlying hu, Result.andThen_ok]
    cases d <;> first | rfl | (cases hd; done)
theorem ok_tassert {t xt : TypeId} {d : TypeDesc} (ho : o.op = .typeAssert x xt t false) (hg : GuardIs ops o g) (hu : P.underlying t = some d) (hd : (match d with | .interface _ => true | _ => false) = false) (hx : E.at g x = some (.iface t v)) : OpV P n ops S E o (PV.of g v) :=
  ok_val1 hg hx (by rw [ho]; simp [Op.operands]) fun ρ w h1 _ _ => by
    simp only [execOp, ho, h1, Instr.typeAssert, Sem.run_bind, run_underlying hu, Result.andThen_ok]
    cases d <;> first | rfl | (simp [go_sem]; done) | (cases hd; done)
end
end Go.Proofs.Ytnpgeohkmdcbkaa.Aq

namespace Go.Proofs.Ytnpgeohkmdcbkaa.Aq
open Go Go.RowKit
variable {dfr : List Deferred}

theorem flat_setS {α : Type} {enc : α → List Value} {sz : Nat} {d : α} [hE : Enc enc sz d] : ∀ (xs : List α) (i : Nat) (x' : α), i < xs.length → (xs.set i x').flatMap enc = (xs.flatMap enc).take (i * sz) ++ enc x' ++ (xs.flatMap enc).drop (i * sz + (enc x').length)
  | [], i, x', h => by simp at h
  | y :: xs, 0, x', h => by
    have h1 := hE.len y
    have h2 := hE.len x'
    simp only [List.set_cons_zero, List.flatMap_cons, Nat.zero_mul, List.take_zero, List.nil_append, Nat.zero_add]
    rw [h2, ← h1, List.drop_left]
  | y :: xs, i + 1, x', h => by
    have h1 := hE.len y
    have ih := flat_setS (enc := enc) xs i x' (by simpa using h)
    have e1 : (i + 1) * sz = (enc y).length + i * sz := by rw [h1, Nat.add_mul]; omega
    simp only [List.set_cons_succ, List.flatMap_cons, ih]
    rw [e1, List.take_length_add_append, Nat.add_assoc, List.drop_length_add_append]
    simp only [List.append_assoc]

section
variable {P : Program} {n : Nat} {ops : Array Oper} {Q : Exit → Act → World → Prop} {l : List Oper} {E : Env} {o : Oper} {w : World} {x y : Operand}
variable {B : Nat} {we : World} {L L' : List Asn}
theorem lw_stxS {α : Type} {enc : α → List Value} {sz : Nat} {d : α} [hE : Enc enc sz d] {A : Option Addr} {e : TypeId} {m c : Nat} {xs : List α} {t : TypeId} {i : Int} {us : Array Value} (x' : α) (hd : dstOk n o = true) (hg : o.guard = none) (ho : o.op = .store t x y)
    (hx : E.at none x = some (pat A i sz 0)) (hy : E.at none y = some (.agg us)) (hx' : enc x' = us.toList) (hs1 : ∀ w, (sizeOf t).run P w = .ok sz w) (hS : St B we w L) [hb : HasOwn L A enc sz e m c xs] (hi : 0 ≤ i ∧ i < m)
    [hr : Rep (own enc sz e A m c xs) (own enc sz e A m c (xs.set i.toNat x')) L L'] (hn : ∀ w', St B we w' L' → LW dfr P n ops Q l (E.exact.updo o.dst (.eq undef)) w') : LW dfr P n ops Q (o :: l) E w :=
  lw_w hd hg fun a _ hsat => by
    have e1 := hsat.ev hx
    have e2 := hsat.ev hy
    have hown := hS.ok _ hb.mem
    obtain ⟨g, rfl, h'⟩ := own_nn hown (by omega)
    have hlen : xs.length = m := hown.1
    have hlt : i.toNat < xs.length := by omega
    rcases h'.2 with ⟨h1, _⟩ | ⟨g', cap, cur, hv, hbase, hheap, hmc, hcm, hcsz, htake⟩
    · cases h1
    · injection hv with hv1 _ hv3
      injection hv1 with hv1
      injection hv1 with hv1
      subst hv1
      subst hv3
      have hul : us.size = sz := by have := hE.len x'; rw [hx'] at this; simpa using this
      have hfl := flat_len (enc := enc) xs
      rw [hlen] at hfl
      have hcz : cur.toList.length = c * sz := by simpa using hcsz
      have hisz : i.toNat * sz + sz ≤ m * sz := by
        have : (i.toNat + 1) * sz ≤ m * sz := Nat.mul_le_mul_right sz (by omega)
        rw [Nat.add_mul] at this; omega
      have hmcz : m * sz ≤ c * sz := Nat.mul_le_mul_right sz hmc
      have hcs2 : cur.size = c * sz := by simpa using hcsz
      have hfit : i.toNat * sz + us.toList.length ≤ cur.size := by rw [Array.length_toList, hul]; omega
      have hst := run_storeCells_at P g (i.toNat * sz) e us.toList 0 cur w hheap (by simpa using hfit) (fun v hv => hE.one x' v (by rw [hx']; exact hv))
      have hrun : (execOp a.eval o).run P w = .ok .skip (w.setRow g (cur.toList.take (i.toNat * sz) ++ us.toList ++ cur.toList.drop (i.toNat * sz + us.toList.length)).toArray) := by
        have e3 : pat (some ⟨g, 0, none⟩) i sz 0 = .pointer (some ⟨g, i.toNat * sz, none⟩) := by simp [pat, add_lit]
        simp only [execOp, ho, e1, e2, e3, Instr.storeAt, Instr.sureAddr, storeVar, Sem.run_bind, Sem.run_pure, Result.andThen_ok, hs1]
        have e4 : (Value.agg us).cells = us := rfl
        rw [e4, if_neg (by omega), hst]
        rfl
      unfold OpR
      rw [hrun]
      have hXY : cur.toList = xs.flatMap enc ++ cur.toList.drop (m * sz) := by rw [← htake, List.take_append_drop]
      refine hn _ (hS.write hr.r rfl (fun j _ hne => setRow_other w g j _ fun e => hne ⟨_, rfl, e.symm⟩) rfl rfl rfl (by simp) ?_ fun j hj => .inl hj)
      refine ⟨by rw [List.length_set]; exact hlen, by rw [flat_len (enc := enc), List.length_set, hlen], .inr ⟨g, c, _, rfl, hbase, setRow_heap w g cur _ e _ hheap, hmc, hcm, ?_, ?_⟩⟩
      · simp only [List.size_toArray, List.length_append, List.length_take, List.length_drop, Array.length_toList, hul]
        have : cur.size = c * sz := by simpa using hcsz
        omega
      · have h2 := take_mid (xs.flatMap enc) (cur.toList.drop (m * sz)) us.toList (i.toNat * sz) (by rw [Array.length_toList, hul]; omega)
        have hX : (xs.flatMap enc).length = m * sz := by omega
        rw [hX, ← hXY] at h2
        rw [h2, flat_setS xs i.toNat x' hlt, hx']
end
end Go.Proofs.Ytnpgeohkmdcbkaa.Aq

namespace Go.Proofs.Ytnpgeohkmdcbkaa.Aq
open Go Go.RowKit

def FreeOk3 (P : Program) (n : Nat) (ops : Array Oper) (S : Nat → World → Prop) (Ph : List Value → World → Prop) : Nat → Env → List (Option Nat) → List Oper → List Bool → (Env → List (Option Nat) → Prop) → Prop
  | _, E, ds, [], [], K => K E ds
  | k, E, ds, o :: l, false :: fl, K => ∃ p, p.isSat = false ∧ OpV P n ops (S k) E o p ∧ FreeOk3 P n ops S Ph (k + 1) (E.updo o.dst p) ds l fl K
  | k, E, ds, o :: l, true :: fl, K => (∀ vs w, vs.length = ds.length → Ph vs w → LW [] P n ops (PostM o.dst fun v w' => Ph (vs ++ [v]) w') [o] ((envM E ds vs).on (o.looksAt ops)) w) ∧ FreeOk3 P n ops S Ph (k + 1) (E.updo o.dst (.sat fun _ _ => True)) (ds ++ [o.dst]) l fl K
  | _, _, _, _, _, _ => False

section
variable {P : Program} {n k : Nat} {ops : Array Oper} {S : Nat → World → Prop} {Ph : List Value → World → Prop} {E : Env} {ds : List (Option Nat)} {K : Env → List (Option Nat) → Prop}
theorem free3_nil (h : K E ds) : FreeOk3 P n ops S Ph k E ds [] [] K := h
theorem free3_v {o : Oper} {l : List Oper} {fl : List Bool} {p : PV} (h : OpV P n ops (S k) E o p) (hp : p.isSat = false) (hl : FreeOk3 P n ops S Ph (k + 1) (E.updo o.dst p) ds l fl K) : FreeOk3 P n ops S Ph k E ds (o :: l) (false :: fl) K := ⟨p, hp, h, hl⟩
theorem free3_w {o : Oper} {l : List Oper} {fl : List Bool} (h : ∀ vs w, vs.length = ds.length → Ph vs w → LW [] P n ops (PostM o.dst fun v w' => Ph (vs ++ [v]) w') [o] ((envM E ds vs).on (o.looksAt ops)) w)
    (hl : FreeOk3 P n ops S Ph (k + 1) (E.updo o.dst (.sat fun _ _ => True)) (ds ++ [o.dst]) l fl K) : FreeOk3 P n ops S Ph k E ds (o :: l) (true :: fl) K := ⟨h, hl⟩
end

theorem free3_list {P : Program} {n : Nat} {ops : Array Oper} {S : Nat → World → Prop} {Ph : List Value → World → Prop} {K : Env → List (Option Nat) → Prop} : ∀ (l : List Oper) (fl : List Bool) (k : Nat) (E : Env) (ds : List (Option Nat)), FreeOk3 P n ops S Ph k E ds l fl K →
    fl.length = l.length ∧ ∃ ps : List PV, ps.length = l.length ∧ (∀ (i : Nat) (o : Oper) (p : PV), l[i]? = some o → ps[i]? = some p → fl[i]? = some false → p.isSat = false ∧ OpV P n ops (S (k + i)) (envs E (l.take i) (ps.take i)) o p) ∧
      (∀ (i : Nat) (p : PV), ps[i]? = some p → fl[i]? = some true → p = .sat fun _ _ => True) ∧
      (∀ (i : Nat) (o : Oper), l[i]? = some o → fl[i]? = some true → ∀ vs w, vs.length = (ds ++ dM (l.take i) (fl.take i)).length → Ph vs w → LW [] P n ops (PostM o.dst fun v w' => Ph (vs ++ [v]) w') [o] ((envM (envs E (l.take i) (ps.take i)) (ds ++ dM (l.take i) (fl.take i)) vs).on (o.looksAt ops)) w) ∧
      K (envs E l ps) (ds ++ dM l fl)
  | [], [], k, E, ds, h => ⟨rfl, [], rfl, fun i o p h1 => by simp at h1, fun i p h1 => by simp at h1, fun i o h1 => by simp at h1, by simp only [FreeOk3] at h; simpa [dM, envs] using h⟩
  | [], _ :: _, k, E, ds, h => by simp [FreeOk3] at h
  | _ :: _, [], k, E, ds, h => by simp [FreeOk3] at h
  | o :: l, false :: fl, k, E, ds, ⟨p, hp, h, hl⟩ => by
    obtain ⟨h0, ps, h1, h2, h3, h4, h5⟩ := free3_list l fl _ _ ds hl
    refine ⟨by simp [h0], p :: ps, by simp [h1], fun i o' p' ho hp' hf => ?_, fun i p' hp' hf => ?_, fun i o' ho hf => ?_, h5⟩
    · cases i with
      | zero => simp at ho hp'; subst ho; subst hp'; exact ⟨hp, h⟩
      | succ i => simp at ho hp' hf; have h9 := h2 i o' p' ho hp' hf; rw [show k + 1 + i = k + (i + 1) by omega] at h9; exact h9
    · cases i with
      | zero => simp at hf
      | succ i => simp at hp' hf; exact h3 i p' hp' hf
    · cases i with
      | zero => simp at hf
      | succ i => simp at ho hf; exact h4 i o' ho hf
  | o :: l, true :: fl, k, E, ds, ⟨h, hl⟩ => by
    obtain ⟨h0, ps, h1, h2, h3, h4, h5⟩ := free3_list l fl _ _ _ hl
    refine ⟨by simp [h0], (.sat fun _ _ => True) :: ps, by simp [h1], fun i o' p' ho hp' hf => ?_, fun i p' hp' hf => ?_, fun i o' ho hf => ?_, by simpa [dM, envs] using h5⟩
    · cases i with
      | zero => simp at hf
      | succ i => simp at ho hp' hf; have h9 := h2 i o' p' ho hp' hf; rw [show k + 1 + i = k + (i + 1) by omega] at h9; exact h9
    · cases i with
      | zero => simp at hp'; exact hp'.symm
      | succ i => simp at hp' hf; exact h3 i p' hp' hf
    · cases i with
      | zero => simp at ho; subst ho; simpa [dM, envs] using h
      | succ i =>
        simp at ho hf
        have := h4 i o' ho hf
        simpa [dM, envs] using this

/-- All marked ones wait for this one. -/
def preC (ops : Array Oper) (k : Nat) (fl : List Bool) (i : Nat) : Bool := (List.range k).all fun j => !(fl.getD j false) || waits (masks ops.toList []) j i
theorem preC_of {ops : Array Oper} {k : Nat} {fl : List Bool} {i j : Nat} (h : preC ops k fl i = true) (hj : j < k) (hf : fl.getD j false = true) : waits (masks ops.toList []) j i = true := by
  have := List.all_eq_true.1 h j (List.mem_range.2 hj)
  rw [hf] at this
  simpa using this

/-- A region whose order is drawn: its first operations l1 in whatever order, save that those that 'fl' marks, which may write, come one behind the other; then l2 in the text's order. Ph: what holds behind so many of the marked ones, whose values are given. -/
theorem cw_draw3 {P : Program} {n id : Nat} {ops : Array Oper} {Q : Exit → Act → World → Prop} {E : Env} {w0 : World} (hm : P.follows .mixedOrders = true) (l1 l2 : List Oper) (fl : List Bool) (hl : ops.toList = l1 ++ l2)
    (hchk : chk2 n l1.length fl ops = true) (Ph : List Value → World → Prop) (hdrew : Ph [] { w0 with drawn := w0.drawn + 1 })
    (h : FreeOk3 P n ops (fun i w => preC ops l1.length fl i = true → Ph [] w) Ph 0 E.exact [] l1 fl fun E' ds => ∀ vs w', vs.length = ds.length → Ph vs w' → LW [] P n ops Q l2 (envM E' ds vs) w') : CW [] P n (.region id ops true) Q E w0 := by
  intro a0 ha0 hn0 hs0
  refine wp_region_any hm ?_
  obtain ⟨hfl, ps, hlen, hpure, htriv, hmain, hend⟩ := free3_list l1 fl _ _ _ h
  have hs := chk2_shaped hchk
  have hpreW : ∀ i j, preC ops l1.length fl i = true → j < l1.length → fl.getD j false = true → waits (masks ops.toList []) j i = true := fun i j hp hj hf => preC_of hp hj hf
  generalize hW : (fun i j => waits (masks ops.toList []) i j = true) = W at hs
  have hpreW2 : ∀ i j, preC ops l1.length fl i = true → j < l1.length → fl.getD j false = true → W j i := fun i j hp hj hf => by rw [← hW]; exact hpreW i j hp hj hf
  clear hW
  have hle := hs.le
  have ht1 : ops.toList.take l1.length = l1 := by rw [hl]; simp
  have hsz : ops.size = l1.length + l2.length := by have := congrArg List.length hl; simpa using this
  have getl : ∀ i, i < l1.length → l1[i]? = ops[i]? := fun i hi => by rw [← Array.getElem?_toList, hl, List.getElem?_append_left hi]
  simp only [List.nil_append] at hmain hend
  have flget : ∀ i, i < l1.length → fl[i]? = some (fl.getD i false) := fun i hi => by
    rw [List.getD_eq_getElem?_getD, List.getElem?_eq_getElem (by omega)]; rfl
  have base : ∀ {t : Nat} {q : PV} {a : Act} {w : World}, E.exact t = some q → tm a t = tm a0 t → q.ok a w (tm a t) := by
    intro t q a w he ht
    obtain ⟨v, rfl, hv⟩ := exact_eq he
    have := hs0 t _ hv
    show tm a t = v
    rw [ht]; exact this
  let Inv : Array Bool → Act → World → Prop := fun L a w =>
    (L.size = ops.size ∧ (∀ i o, ops[i]? = some o → L.getD i false = true → ∀ m ∈ needs o, L.getD m false = true) ∧ ∀ i, l1.length ≤ i → L.getD i false = false) ∧ a.defers = [] ∧ a.tmps.size = n ∧
    (∀ (i : Nat) (o : Oper) (p : PV) (d : Nat), i < l1.length → L.getD i false = true → ops[i]? = some o → ps[i]? = some p → o.dst = some d → p.ok a w (tm a d)) ∧
    (∀ t : Nat, (∀ (i : Nat) (o : Oper), i < l1.length → L.getD i false = true → ops[i]? = some o → o.dst ≠ some t) → tm a t = tm a0 t) ∧
    ∃ vs, Ph vs w ∧ vs.length ≤ cM fl l1.length ∧ ∀ (i : Nat) (o : Oper), i < l1.length → fl[i]? = some true → ops[i]? = some o → (L.getD i false = true ↔ cM fl i < vs.length) ∧ ∀ d, o.dst = some d → cM fl i < vs.length → vs[cM fl i]? = some (tm a d)
  -- what is seen by an operation that is ready
  have seen : ∀ (L : Array Bool) (a : Act) (w : World) (i : Nat) (o : Oper), Inv L a w → i < l1.length → ops[i]? = some o → L.getD i false = false → (∀ m ∈ needs o, L.getD m false = true) →
      SatOn (o.looksAt ops) (envs E.exact (l1.take i) (ps.take i)) a w := by
    intro L a w i o hI hi ho hLi hnd t ht q hq
    obtain ⟨⟨hL, hc, _⟩, _, _, hd, hb, _⟩ := hI
    have hli : (ps.take i).length = (l1.take i).length := by simp; omega
    rcases envs_look _ _ _ hli hq with ⟨j, o', h1, h2, h3⟩ | ⟨h1, h2⟩
    · have hj : j < i := by
        have := (List.getElem?_eq_some_iff.1 h1).1
        simp at this
        omega
      rw [List.getElem?_take_of_lt hj, getl j (by omega)] at h1
      rw [List.getElem?_take_of_lt hj] at h2
      have hw := (hs.look i j o o' t hi (by omega) (by omega) ho h1 h3 ht).1 hj
      exact hd j o' q t (by omega) (hs.plain hc i o j ho hw hnd) h1 h2 h3
    · refine base h1 (hb t fun j o' hj hLj ho' he => ?_)
      rcases Nat.lt_trichotomy j i with hlt | heq | hgt
      · exact h2 j o' (by rw [List.getElem?_take_of_lt hlt, getl j hj]; exact ho') he
      · subst heq; rw [hLi] at hLj; cases hLj
      · have hw := (hs.look i j o o' t hi hj (by omega) ho ho' he ht).2 hgt
        have := hs.plain hc j o' i ho' hw (hc j o' ho' hLj)
        rw [hLi] at this
        cases this
  -- the next state
  have next : ∀ (L : Array Bool) (a : Act) (w : World) (i : Nat) (o : Oper) (p : PV) (v : Value) (w' : World) (vs' : List Value), Inv L a w → i < l1.length → ops[i]? = some o → L.getD i false = false → (∀ m ∈ needs o, L.getD m false = true) →
      ps[i]? = some p → (∀ d, o.dst = some d → p.ok a w' v) → Ph vs' w' → vs'.length ≤ cM fl l1.length →
      (∀ (j : Nat) (o' : Oper), j < l1.length → fl[j]? = some true → ops[j]? = some o' → ((L.setIfInBounds i true).getD j false = true ↔ cM fl j < vs'.length) ∧ ∀ d, o'.dst = some d → cM fl j < vs'.length → vs'[cM fl j]? = some (tm (a.put o.dst v) d)) →
      Inv (L.setIfInBounds i true) (a.put o.dst v) w' := by
    intro L a w i o p v w' vs' hI hik ho h1 h2 hpi hp hPh hvl hvs
    obtain ⟨⟨hL, hc, ht⟩, ha, hn, hd, hb, _⟩ := hI
    have hLi : i < L.size := by omega
    obtain ⟨o2, ho2, hdn, _⟩ := hs.dst i hik
    rw [ho] at ho2
    injection ho2 with ho2
    subst ho2
    refine ⟨⟨by simpa using hL, ?_, ?_⟩, by rw [put_defers]; exact ha, by rw [put_size]; exact hn, ?_, ?_, vs', hPh, hvl, hvs⟩
    · intro j o' hj hLj m hm
      rw [getD_set _ hLi] at hLj ⊢
      by_cases hmi : m = i
      · rw [if_pos hmi]
      · rw [if_neg hmi]
        by_cases hji : j = i
        · subst hji
          rw [ho] at hj
          injection hj with hj
          subst hj
          exact h2 m hm
        · rw [if_neg hji] at hLj
          exact hc j o' hj hLj m hm
    · intro j hj
      rw [getD_set _ hLi, if_neg (by omega)]
      exact ht j hj
    · intro j o' p' d' hj hLj ho' hp' hd'
      rw [getD_set _ hLi] at hLj
      -- a marked one's fact says nothing
      cases hfj : fl.getD j false with
      | true =>
        have := htriv j p' hp' (by rw [flget j hj, hfj])
        subst this
        exact fun _ _ => trivial
      | false =>
      obtain ⟨hns, hopv⟩ := hpure j o' p' (by rw [getl j hj]; exact ho') hp' (by rw [flget j hj, hfj])
      have other : ∀ s want c, p' = .gd s want c → tm (a.put o.dst v) s = tm a s := by
        intro s want c he
        cases hdst : o.dst with
        | none => rfl
        | some d =>
        obtain ⟨g1, b1, hg1, hg2⟩ := hopv.shape s want c he
        obtain ⟨_, hgj, hgw, _⟩ := hs.grd j o' g1 b1 hj ho' hg1
        have hog : g1 < ops.size := by omega
        rw [Array.getElem?_eq_getElem hog] at hg2
        simp only [Option.bind_some] at hg2
        refine tm_put_ne fun hse => ?_
        subst hse
        have hgi : g1 = i := by
          refine Classical.byContradiction fun hne => ?_
          exact hs.ne i g1 o _ s hik (by omega) (Ne.symm hne) ho (Array.getElem?_eq_getElem hog) hg2 hdst
        subst hgi
        by_cases hji : j = g1
        · omega
        · rw [if_neg hji] at hLj
          have := hs.plain hc j o' g1 ho' hgw (hc j o' ho' hLj)
          rw [h1] at this
          cases this
      by_cases hji : j = i
      · subst hji
        rw [ho] at ho'
        injection ho' with ho'
        subst ho'
        rw [hpi] at hp'
        injection hp' with hp'
        subst hp'
        rw [hd'] at other ⊢
        rw [tm_put_same hn (hdn d' hd')]
        exact PV.ok_act (hp d' hd') other
      · rw [if_neg hji] at hLj
        have h5 := PV.ok_any (w' := w') hns (hd j o' p' d' hj hLj ho' hp' hd')
        have e1 : tm (a.put o.dst v) d' = tm a d' := by
          cases hdst : o.dst with
          | none => rfl
          | some d => exact tm_put_ne fun he => hs.ne i j o o' d' hik hj (Ne.symm hji) ho ho' hd' (by rw [hdst, he])
        rw [e1]
        exact PV.ok_act h5 other
    · intro t hwr
      have e1 : tm (a.put o.dst v) t = tm a t := by
        cases hdst : o.dst with
        | none => rfl
        | some d => exact tm_put_ne fun he => hwr i o hik (by rw [getD_set _ hLi, if_pos rfl]) ho (by rw [hdst, he])
      rw [e1]
      refine hb t fun j o' hj hLj ho' => hwr j o' hj ?_ ho'
      rw [getD_set _ hLi]
      split
      · rfl
      · exact hLj
  refine draw_inv (k := l1.length) hs Inv (fun L a w hI => hI.1) ?_ ?_ ops.size _ a0 _ ?_ ?_
  · intro L a w i o hI hik ho h1 h2
    have hI0 := hI
    obtain ⟨⟨hL, hc, ht⟩, ha, hn, hd, hb, vs, hPh, hvl, hvs⟩ := hI
    have hpi : ps[i]? = some ps[i] := List.getElem?_eq_getElem (by omega)
    have hsee := seen L a w i o hI0 hik ho h1 h2
    have hLi : i < L.size := by omega
    unfold wpOp
    simp only [ho]
    cases hfi : fl.getD i false with
    | false =>
      obtain ⟨hns, hop⟩ := hpure i o _ (by rw [getl i hik]; exact ho) hpi (by rw [flget i hik, hfi])
      have nx : ∀ v, ps[i].ok a w v → Inv (L.setIfInBounds i true) (a.put o.dst v) w := fun v hp => by
        refine next L a w i o _ v w vs hI0 hik ho h1 h2 hpi (fun _ _ => hp) hPh hvl fun j o' hj hfj ho' => ?_
        have hji : j ≠ i := fun he => by subst he; rw [flget j hj, hfi] at hfj; cases hfj
        obtain ⟨h6, h7⟩ := hvs j o' hj hfj ho'
        refine ⟨by rw [getD_set _ hLi, if_neg hji]; exact h6, fun d hd' hlt => ?_⟩
        rw [h7 d hd' hlt]
        congr 1
        cases hdst : o.dst with
        | none => rfl
        | some d2 => exact (tm_put_ne fun he => hs.ne i j o o' d hik hj (Ne.symm hji) ho ho' hd' (by rw [hdst, he])).symm
      have hSi : preC ops l1.length fl (0 + i) = true → Ph [] w := fun hpre => by
        rw [Nat.zero_add] at hpre
        have hv0 : vs = [] := by
          refine Classical.byContradiction fun hne => ?_
          have hpos : 0 < vs.length := List.length_pos_iff.2 hne
          have ex : ∀ i, i ≤ l1.length → 0 < cM fl i → ∃ j, j < i ∧ fl[j]? = some true ∧ cM fl j = 0 := by
            intro i
            induction i with
            | zero => intro _ h; simp [cM] at h
            | succ i ih =>
              intro hi h
              by_cases h7 : 0 < cM fl i
              · obtain ⟨j, hj, h8⟩ := ih (by omega) h7
                exact ⟨j, by omega, h8⟩
              · have h8 := cM_succ (flget i (by omega))
                cases h9 : fl.getD i false with
                | false => rw [h9] at h8; simp at h8; omega
                | true => rw [h9] at h8; simp at h8; exact ⟨i, by omega, by rw [flget i (by omega), h9], by omega⟩
          obtain ⟨j, hj, hfj, hcj⟩ := ex l1.length (Nat.le_refl _) (by omega)
          have hoj : ops[j]? = some ops[j] := Array.getElem?_eq_getElem (by omega)
          have hLj := (hvs j _ hj hfj hoj).1.2 (by omega)
          have hwt := hpreW2 i j hpre hj (by rw [List.getD_eq_getElem?_getD, hfj]; rfl)
          have := hs.plain hc j _ i hoj hwt (hc j _ hoj hLj)
          rw [h1] at this
          cases this
        rw [hv0] at hPh
        exact hPh
      split
      · rename_i hw
        refine .inl ?_
        obtain ⟨v, hr, hp⟩ := hop.run a w hn hsee hSi hw
        unfold Oper.wp
        rw [hr]
        exact nx v hp
      · rename_i hw
        exact nx undef (hop.skip a w hn hsee hSi (by simpa using hw))
    | true =>
      have hf : fl[i]? = some true := by rw [flget i hik, hfi]
      have hg : o.guard = none := by
        cases hgg : o.guard with
        | none => rfl
        | some g => have := (hs.grd i o g.1 g.2 hik ho hgg).1; rw [hfi] at this; cases this
      have hlt : ¬ cM fl i < vs.length := fun hlt => by
        have := (hvs i o hik hf ho).1.2 hlt
        rw [h1] at this; cases this
      have hvlen : vs.length = cM fl i := by
        refine Nat.le_antisymm (by omega) ?_
        -- all marked ones ahead are done
        refine Classical.byContradiction fun hne => ?_
        have hlt2 : vs.length < cM fl i := by omega
        -- the marked one of number vs.length
        have ex : ∀ i, i ≤ l1.length → vs.length < cM fl i → ∃ j, j < i ∧ fl[j]? = some true ∧ cM fl j = vs.length := by
          intro i
          induction i with
          | zero => intro _ h; simp [cM] at h
          | succ i ih =>
            intro hi h
            by_cases h7 : vs.length < cM fl i
            · obtain ⟨j, hj, h8⟩ := ih (by omega) h7
              exact ⟨j, by omega, h8⟩
            · have h8 := cM_succ (flget i (by omega))
              cases h9 : fl.getD i false with
              | false => rw [h9] at h8; simp at h8; omega
              | true => rw [h9] at h8; simp at h8; exact ⟨i, by omega, by rw [flget i (by omega), h9], by omega⟩
        obtain ⟨j, hj, hfj, hcj⟩ := ex i (by omega) hlt2
        have hjs : j < ops.size := by omega
        have hw := hs.mord i j hik hj hfi (by rw [List.getD_eq_getElem?_getD, hfj]; rfl)
        have hLj := hs.plain hc i o j ho hw h2
        have := (hvs j _ (by omega) hfj (Array.getElem?_eq_getElem hjs)).1.1 hLj
        omega
      have hdlen : (dM (l1.take i) (fl.take i)).length = cM fl i := by rw [dM_len _ _ (by simp; omega)]; rfl
      have hlw := hmain i o (by rw [getl i hik]; exact ho) hf vs w (by omega) hPh
      rw [if_pos (by simp [Region.wanted, hg])]
      refine .inl ?_
      obtain ⟨o2, ho2, hdn, _⟩ := hs.dst i hik
      rw [ho] at ho2
      injection ho2 with ho2
      subst ho2
      refine Oper.wp_mono ?_ (wp_of_lw hg hdn ha hn ?_ hlw)
      · rintro a' w' ⟨v, rfl, hK⟩
        refine next L a w i o _ v w' _ hI0 hik ho h1 h2 hpi (fun d hd' => ?_) hK ?_ fun j o' hj hfj ho' => ?_
        · have := htriv i _ hpi hf
          rw [this]
          exact fun _ _ => trivial
        · have := cM_lt hik hf
          simp; omega
        · by_cases hji : j = i
          · subst hji
            rw [ho] at ho'
            injection ho' with ho'
            subst ho'
            refine ⟨⟨fun _ => by simp; omega, fun _ => by rw [getD_set _ hLi, if_pos rfl]⟩, fun d hd' _ => ?_⟩
            rw [List.getElem?_append_right (by omega), hvlen, Nat.sub_self, hd', tm_put_same hn (hdn d hd')]
            rfl
          · obtain ⟨h6, h7⟩ := hvs j o' hj hfj ho'
            have hne : cM fl j ≠ cM fl i := by
              rcases Nat.lt_trichotomy j i with h | h | h
              · have := cM_lt h hfj; omega
              · exact absurd h hji
              · have := cM_lt h hf; omega
            refine ⟨by rw [getD_set _ hLi, if_neg hji, h6]; simp; omega, fun d hd' hlt' => ?_⟩
            have hlt2 : cM fl j < vs.length := by simp at hlt'; omega
            rw [List.getElem?_append_left hlt2, h7 d hd' hlt2]
            congr 1
            cases hdst : o.dst with
            | none => rfl
            | some d2 => exact (tm_put_ne fun he => hs.ne i j o o' d hik hj (Ne.symm hji) ho ho' hd' (by rw [hdst, he])).symm
      · intro t q hq
        unfold Env.on at hq
        cases hb' : (o.looksAt ops).any (Nat.beq t) with
        | false => rw [hb'] at hq; cases hq
        | true =>
          rw [hb'] at hq
          simp only [cond_true] at hq
          obtain ⟨t', ht', he⟩ := List.any_eq_true.1 hb'
          have := Nat.eq_of_beq_eq_true he
          subst this
          unfold envM at hq
          split at hq
          · rename_i v hv
            injection hq with hq
            subst hq
            obtain ⟨j, o', h5, h6, h7, h8⟩ := lookM_some _ _ vs (by simp; omega) hv
            have hji : j < i := by have := (List.getElem?_eq_some_iff.1 h5).1; simp at this; omega
            rw [List.getElem?_take_of_lt hji, getl j (by omega)] at h5
            rw [List.getElem?_take_of_lt hji] at h6
            have hcj : cM (fl.take i) j = cM fl j := by unfold cM; rw [List.take_take, Nat.min_eq_left (by omega)]
            rw [hcj] at h8
            have h9 := (List.getElem?_eq_some_iff.1 h8).1
            have := (hvs j o' (by omega) h6 h5).2 t h7 h9
            rw [h8] at this
            injection this with this
            exact this.symm
          · exact hsee t ht' q hq
  · intro L a w hI hall
    obtain ⟨⟨hL, hc, ht⟩, ha, hn, hd, hb, vs, hPh, hvl, hvs⟩ := hI
    have hdlen : (dM l1 fl).length = cM fl l1.length := by
      rw [dM_len _ _ (by omega)]; unfold cM; rw [List.take_of_length_le (by omega)]
    have hvlen : vs.length = cM fl l1.length := by
      refine Nat.le_antisymm hvl ?_
      refine Classical.byContradiction fun hne => ?_
      have ex : ∀ i, i ≤ l1.length → vs.length < cM fl i → ∃ j, j < i ∧ fl[j]? = some true ∧ cM fl j = vs.length := by
        intro i
        induction i with
        | zero => intro _ h; simp [cM] at h
        | succ i ih =>
          intro hi h
          by_cases h7 : vs.length < cM fl i
          · obtain ⟨j, hj, h8⟩ := ih (by omega) h7
            exact ⟨j, by omega, h8⟩
          · have h8 := cM_succ (flget i (by omega))
            cases h9 : fl.getD i false with
            | false => rw [h9] at h8; simp at h8; omega
            | true => rw [h9] at h8; simp at h8; exact ⟨i, by omega, by rw [flget i (by omega), h9], by omega⟩
      obtain ⟨j, hj, hfj, hcj⟩ := ex l1.length (Nat.le_refl _) (by omega)
      have := (hvs j _ hj hfj (Array.getElem?_eq_getElem (by omega))).1.1 (hall j hj)
      omega
    have hr : ops.size - l1.length = l2.length := by omega
    rw [hr, wpOps_eq_wpList l2 l1.length]
    · refine hend vs w (by omega) hPh a ha hn ?_
      intro t q hq
      unfold envM at hq
      split at hq
      · rename_i v hv
        injection hq with hq
        subst hq
        obtain ⟨j, o', h5, h6, h7, h8⟩ := lookM_some _ _ vs (by omega) hv
        have hj : j < l1.length := (List.getElem?_eq_some_iff.1 h5).1
        rw [getl j hj] at h5
        have h9 := (List.getElem?_eq_some_iff.1 h8).1
        have := (hvs j o' hj h6 h5).2 t h7 h9
        rw [h8] at this
        injection this with this
        exact this.symm
      · rcases envs_look _ _ _ (by omega) hq with ⟨j, o', h1, h2, h3⟩ | ⟨h1, h2⟩
        · have hj : j < l1.length := (List.getElem?_eq_some_iff.1 h1).1
          rw [getl j hj] at h1
          exact hd j o' q t hj (hall j hj) h1 h2 h3
        · exact base h1 (hb t fun j o' hj _ ho' => h2 j o' (by rw [getl j hj]; exact ho'))
    · intro j
      rw [← Array.getElem?_toList, hl, List.getElem?_append_right (by omega)]
      congr 1
      omega
  · refine ⟨⟨by simp, fun i o _ hLi => ?_, fun i _ => getD_rep _ _⟩, ha0, hn0, fun i o p d _ hLi => ?_, fun t _ => rfl, [], hdrew, by simp, fun i o hi hf ho => ⟨?_, fun d _ hlt => by simp at hlt⟩⟩
    · rw [getD_rep] at hLi; cases hLi
    · rw [getD_rep] at hLi; cases hLi
    · rw [getD_rep]; simp
  · unfold cnt
    exact Nat.le_trans (List.length_filter_le _ _) (by simp)

theorem ok_pre {P : Program} {n : Nat} {ops : Array Oper} {S : World → Prop} {E : Env} {o : Oper} {p : PV} {w0 : World} {b : Bool} (hb : b = true) (hw : S w0) (h : ∀ w, S w → OpV P n ops (Gr w) E o p) : OpV P n ops (fun w => b = true → S w) E o p where
  shape := (h w0 hw).shape
  run := fun a w hn hs hS hwant => (h w (hS hb)).run a w hn hs (Gr.refl w) hwant
  skip := fun a w hn hs hS hwant => (h w (hS hb)).skip a w hn hs (Gr.refl w) hwant
theorem ok_any {P : Program} {n : Nat} {ops : Array Oper} {S : World → Prop} {E : Env} {o : Oper} {p : PV} {w0 : World} (h : ∀ w, True → OpV P n ops (Gr w) E o p) : OpV P n ops S E o p where
  shape := (h w0 trivial).shape
  run := fun a w hn hs _ hwant => (h w trivial).run a w hn hs (Gr.refl w) hwant
  skip := fun a w hn hs _ hwant => (h w trivial).skip a w hn hs (Gr.refl w) hwant
end Go.Proofs.Ytnpgeohkmdcbkaa.Aq

namespace Go.Proofs.Ytnpgeohkmdcbkaa.Aq
open Go Go.RowKit

def updV (vs : Nat → Option Value) (i : Nat) (v : Value) : Nat → Option Value := fun j => bif Nat.beq j i then some v else vs j
def lookV : Nat → List Oper → List Bool → (Nat → Option Value) → Nat → Option Value
  | i, o :: l, true :: fl, vs, t => match o.dst with
    | some d => bif Nat.beq t d then vs i else lookV (i + 1) l fl vs t
    | none => lookV (i + 1) l fl vs t
  | i, _ :: l, false :: fl, vs, t => lookV (i + 1) l fl vs t
  | _, _, _, _, _ => none
def envV (E : Env) (l : List Oper) (fl : List Bool) (vs : Nat → Option Value) : Env := fun t => match lookV 0 l fl vs t with
  | some v => some (.eq v)
  | none => E t
def fS (fl : List Bool) (f : Nat → Value) : Nat → Option Value := fun i => bif fl.getD i false then some (f i) else none
theorem lookV_some {t : Nat} {v : Value} {vs : Nat → Option Value} : ∀ (l : List Oper) (fl : List Bool) (i : Nat), lookV i l fl vs t = some v → ∃ j o, l[j]? = some o ∧ fl[j]? = some true ∧ o.dst = some t ∧ vs (i + j) = some v
  | [], fl, i, h => by simp [lookV] at h
  | _ :: _, [], i, h => by simp [lookV] at h
  | o :: l, false :: fl, i, h => by
    obtain ⟨j, o', h1, h2, h3, h4⟩ := lookV_some l fl (i + 1) (by simpa [lookV] using h)
    exact ⟨j + 1, o', by simpa using h1, by simpa using h2, h3, by rw [show i + (j + 1) = i + 1 + j by omega]; exact h4⟩
  | o :: l, true :: fl, i, h => by
    have rec' : lookV (i + 1) l fl vs t = some v → ∃ j o', (o :: l)[j]? = some o' ∧ (true :: fl)[j]? = some true ∧ o'.dst = some t ∧ vs (i + j) = some v := fun h => by
      obtain ⟨j, o', h1, h2, h3, h4⟩ := lookV_some l fl (i + 1) h
      exact ⟨j + 1, o', by simpa using h1, by simpa using h2, h3, by rw [show i + (j + 1) = i + 1 + j by omega]; exact h4⟩
    cases hd : o.dst with
    | none => simp only [lookV, hd] at h; exact rec' h
    | some d =>
      simp only [lookV, hd] at h
      cases hb : Nat.beq t d with
      | true =>
        rw [hb] at h
        have := Nat.eq_of_beq_eq_true hb
        subst this
        exact ⟨0, o, by simp, by simp, hd, by simpa using h⟩
      | false => rw [hb] at h; exact rec' h

def FreeOk4 (P : Program) (n : Nat) (ops : Array Oper) (S : World → Prop) (Ph : (Nat → Option Value) → World → Prop) (L : List Oper) (F : List Bool) : Nat → Env → List Oper → List Bool → (Env → Prop) → Prop
  | _, E, [], [], K => K E
  | i, E, o :: l, false :: fl, K => ∃ p, p.isSat = false ∧ OpV P n ops S E o p ∧ FreeOk4 P n ops S Ph L F (i + 1) (E.updo o.dst p) l fl K
  | i, E, o :: l, true :: fl, K => (o.guard = none ∧ ∀ vs w, vs i = none → (∀ j d, j < i → F[j]? = some true → (L[j]?).bind (·.dst) = some d → d ∈ o.looksAt ops → (vs j).isSome = true) → Ph vs w →
      LW [] P n ops (PostM o.dst fun v w' => Ph (updV vs i v) w') [o] ((envV E (L.take i) (F.take i) vs).on (o.looksAt ops)) w) ∧ FreeOk4 P n ops S Ph L F (i + 1) (E.updo o.dst (.sat fun _ _ => True)) l fl K
  | _, _, _, _, _ => False
section
variable {P : Program} {n i : Nat} {ops : Array Oper} {S : World → Prop} {Ph : (Nat → Option Value) → World → Prop} {L : List Oper} {F : List Bool} {E : Env} {K : Env → Prop}
theorem free4_nil (h : K E) : FreeOk4 P n ops S Ph L F i E [] [] K := h
theorem free4_v {o : Oper} {l : List Oper} {fl : List Bool} {p : PV} (h : OpV P n ops S E o p) (hp : p.isSat = false) (hl : FreeOk4 P n ops S Ph L F (i + 1) (E.updo o.dst p) l fl K) : FreeOk4 P n ops S Ph L F i E (o :: l) (false :: fl) K := ⟨p, hp, h, hl⟩
theorem free4_w {o : Oper} {l : List Oper} {fl : List Bool} (hg : o.guard = none) (h : ∀ vs w, vs i = none → (∀ j d, j < i → F[j]? = some true → (L[j]?).bind (·.dst) = some d → d ∈ o.looksAt ops → (vs j).isSome = true) → Ph vs w →
      LW [] P n ops (PostM o.dst fun v w' => Ph (updV vs i v) w') [o] ((envV E (L.take i) (F.take i) vs).on (o.looksAt ops)) w)
    (hl : FreeOk4 P n ops S Ph L F (i + 1) (E.updo o.dst (.sat fun _ _ => True)) l fl K) : FreeOk4 P n ops S Ph L F i E (o :: l) (true :: fl) K := ⟨⟨hg, h⟩, hl⟩
end
theorem free4_list {P : Program} {n : Nat} {ops : Array Oper} {S : World → Prop} {Ph : (Nat → Option Value) → World → Prop} {L : List Oper} {F : List Bool} {K : Env → Prop} : ∀ (l : List Oper) (fl : List Bool) (k : Nat) (E : Env), FreeOk4 P n ops S Ph L F k E l fl K →
    fl.length = l.length ∧ ∃ ps : List PV, ps.length = l.length ∧ (∀ (i : Nat) (o : Oper) (p : PV), l[i]? = some o → ps[i]? = some p → fl[i]? = some false → p.isSat = false ∧ OpV P n ops S (envs E (l.take i) (ps.take i)) o p) ∧
      (∀ (i : Nat) (p : PV), ps[i]? = some p → fl[i]? = some true → p = .sat fun _ _ => True) ∧
      (∀ (i : Nat) (o : Oper), l[i]? = some o → fl[i]? = some true → o.guard = none ∧ ∀ vs w, vs (k + i) = none → (∀ j d, j < k + i → F[j]? = some true → (L[j]?).bind (·.dst) = some d → d ∈ o.looksAt ops → (vs j).isSome = true) → Ph vs w →
        LW [] P n ops (PostM o.dst fun v w' => Ph (updV vs (k + i) v) w') [o] ((envV (envs E (l.take i) (ps.take i)) (L.take (k + i)) (F.take (k + i)) vs).on (o.looksAt ops)) w) ∧
      K (envs E l ps)
  | [], [], k, E, h => ⟨rfl, [], rfl, fun i o p h1 => by simp at h1, fun i p h1 => by simp at h1, fun i o h1 => by simp at h1, by simp only [FreeOk4] at h; simpa [envs] using h⟩
  | [], _ :: _, k, E, h => by simp [FreeOk4] at h
  | _ :: _, [], k, E, h => by simp [FreeOk4] at h
  | o :: l, false :: fl, k, E, ⟨p, hp, h, hl⟩ => by
    obtain ⟨h0, ps, h1, h2, h3, h4, h5⟩ := free4_list l fl (k + 1) _ hl
    refine ⟨by simp [h0], p :: ps, by simp [h1], fun i o' p' ho hp' hf => ?_, fun i p' hp' hf => ?_, fun i o' ho hf => ?_, h5⟩
    · cases i with
      | zero => simp at ho hp'; subst ho; subst hp'; exact ⟨hp, h⟩
      | succ i => simp at ho hp' hf; exact h2 i o' p' ho hp' hf
    · cases i with
      | zero => simp at hf
      | succ i => simp at hp' hf; exact h3 i p' hp' hf
    · cases i with
      | zero => simp at hf
      | succ i => simp at ho hf; have := h4 i o' ho hf; rw [show k + 1 + i = k + (i + 1) by omega] at this; exact this
  | o :: l, true :: fl, k, E, ⟨h, hl⟩ => by
    obtain ⟨h0, ps, h1, h2, h3, h4, h5⟩ := free4_list l fl (k + 1) _ hl
    refine ⟨by simp [h0], (.sat fun _ _ => True) :: ps, by simp [h1], fun i o' p' ho hp' hf => ?_, fun i p' hp' hf => ?_, fun i o' ho hf => ?_, h5⟩
    · cases i with
      | zero => simp at hf
      | succ i => simp at ho hp' hf; exact h2 i o' p' ho hp' hf
    · cases i with
      | zero => simp at hp'; exact hp'.symm
      | succ i => simp at hp' hf; exact h3 i p' hp' hf
    · cases i with
      | zero => simp at ho; subst ho; exact h
      | succ i => simp at ho hf; have := h4 i o' ho hf; rw [show k + 1 + i = k + (i + 1) by omega] at this; exact this

theorem nbeq {i j : Nat} (h : i ≠ j) : Nat.beq i j = false := by
  cases hb : Nat.beq i j with
  | false => rfl
  | true => exact absurd (Nat.eq_of_beq_eq_true hb) h
/-- A region whose order is drawn: its first operations l1 in whatever order, those too that 'fl' marks, which may change the world; then l2 in the text's order. Ph: what holds where so many of the marked ones are done, whose values are given. -/
theorem cw_draw4 {P : Program} {n id : Nat} {ops : Array Oper} {Q : Exit → Act → World → Prop} {E : Env} {w0 : World} (hm : P.follows .mixedOrders = true) (l1 l2 : List Oper) (fl : List Bool) (hl : ops.toList = l1 ++ l2)
    (hchk : chk2 n l1.length [] ops = true) (S : World → Prop) (Ph : (Nat → Option Value) → World → Prop) (hS : ∀ vs w, Ph vs w → S w) (hdrew : Ph (fun _ => none) { w0 with drawn := w0.drawn + 1 })
    (h : FreeOk4 P n ops S Ph l1 fl 0 E.exact l1 fl fun E' => ∀ f w', Ph (fS fl f) w' → LW [] P n ops Q l2 (envV E' l1 fl (fS fl f)) w') : CW [] P n (.region id ops true) Q E w0 := by
  intro a0 ha0 hn0 hs0
  refine wp_region_any hm ?_
  obtain ⟨hfl, ps, hlen, hpure, htriv, hmain, hend⟩ := free4_list l1 fl _ _ h
  have hs := chk2_shaped hchk
  generalize hW : (fun i j => waits (masks ops.toList []) i j = true) = W at hs
  clear hW
  have hle := hs.le
  have ht1 : ops.toList.take l1.length = l1 := by rw [hl]; simp
  have hsz : ops.size = l1.length + l2.length := by have := congrArg List.length hl; simpa using this
  have getl : ∀ i, i < l1.length → l1[i]? = ops[i]? := fun i hi => by rw [← Array.getElem?_toList, hl, List.getElem?_append_left hi]
  simp only [Nat.zero_add] at hmain
  have flget : ∀ i, i < l1.length → fl[i]? = some (fl.getD i false) := fun i hi => by
    rw [List.getD_eq_getElem?_getD, List.getElem?_eq_getElem (by omega)]; rfl
  have base : ∀ {t : Nat} {q : PV} {a : Act} {w : World}, E.exact t = some q → tm a t = tm a0 t → q.ok a w (tm a t) := by
    intro t q a w he ht
    obtain ⟨v, rfl, hv⟩ := exact_eq he
    have := hs0 t _ hv
    show tm a t = v
    rw [ht]; exact this
  let Inv : Array Bool → Act → World → Prop := fun L a w =>
    (L.size = ops.size ∧ (∀ i o, ops[i]? = some o → L.getD i false = true → ∀ m ∈ needs o, L.getD m false = true) ∧ ∀ i, l1.length ≤ i → L.getD i false = false) ∧ a.defers = [] ∧ a.tmps.size = n ∧
    (∀ (i : Nat) (o : Oper) (p : PV) (d : Nat), i < l1.length → L.getD i false = true → ops[i]? = some o → ps[i]? = some p → o.dst = some d → p.ok a w (tm a d)) ∧
    (∀ t : Nat, (∀ (i : Nat) (o : Oper), i < l1.length → L.getD i false = true → ops[i]? = some o → o.dst ≠ some t) → tm a t = tm a0 t) ∧
    ∃ vs, Ph vs w ∧ (∀ j, fl.getD j false = false → vs j = none) ∧ ∀ (i : Nat) (o : Oper), i < l1.length → fl[i]? = some true → ops[i]? = some o → (L.getD i false = true ↔ (vs i).isSome = true) ∧ ∀ d, o.dst = some d → L.getD i false = true → vs i = some (tm a d)
  -- what is seen by an operation that is ready
  have seen : ∀ (L : Array Bool) (a : Act) (w : World) (i : Nat) (o : Oper), Inv L a w → i < l1.length → ops[i]? = some o → L.getD i false = false → (∀ m ∈ needs o, L.getD m false = true) →
      SatOn (o.looksAt ops) (envs E.exact (l1.take i) (ps.take i)) a w := by
    intro L a w i o hI hi ho hLi hnd t ht q hq
    obtain ⟨⟨hL, hc, _⟩, _, _, hd, hb, _⟩ := hI
    have hli : (ps.take i).length = (l1.take i).length := by simp; omega
    rcases envs_look _ _ _ hli hq with ⟨j, o', h1, h2, h3⟩ | ⟨h1, h2⟩
    · have hj : j < i := by
        have := (List.getElem?_eq_some_iff.1 h1).1
        simp at this
        omega
      rw [List.getElem?_take_of_lt hj, getl j (by omega)] at h1
      rw [List.getElem?_take_of_lt hj] at h2
      have hw := (hs.look i j o o' t hi (by omega) (by omega) ho h1 h3 ht).1 hj
      exact hd j o' q t (by omega) (hs.plain hc i o j ho hw hnd) h1 h2 h3
    · refine base h1 (hb t fun j o' hj hLj ho' he => ?_)
      rcases Nat.lt_trichotomy j i with hlt | heq | hgt
      · exact h2 j o' (by rw [List.getElem?_take_of_lt hlt, getl j hj]; exact ho') he
      · subst heq; rw [hLi] at hLj; cases hLj
      · have hw := (hs.look i j o o' t hi hj (by omega) ho ho' he ht).2 hgt
        have := hs.plain hc j o' i ho' hw (hc j o' ho' hLj)
        rw [hLi] at this
        cases this
  -- the next state
  have next : ∀ (L : Array Bool) (a : Act) (w : World) (i : Nat) (o : Oper) (p : PV) (v : Value) (w' : World) (vs' : Nat → Option Value), Inv L a w → i < l1.length → ops[i]? = some o → L.getD i false = false → (∀ m ∈ needs o, L.getD m false = true) →
      ps[i]? = some p → (∀ d, o.dst = some d → p.ok a w' v) → Ph vs' w' → (∀ j, fl.getD j false = false → vs' j = none) →
      (∀ (j : Nat) (o' : Oper), j < l1.length → fl[j]? = some true → ops[j]? = some o' → ((L.setIfInBounds i true).getD j false = true ↔ (vs' j).isSome = true) ∧ ∀ d, o'.dst = some d → (L.setIfInBounds i true).getD j false = true → vs' j = some (tm (a.put o.dst v) d)) →
      Inv (L.setIfInBounds i true) (a.put o.dst v) w' := by
    intro L a w i o p v w' vs' hI hik ho h1 h2 hpi hp hPh hvl hvs
    obtain ⟨⟨hL, hc, ht⟩, ha, hn, hd, hb, _⟩ := hI
    have hLi : i < L.size := by omega
    obtain ⟨o2, ho2, hdn, _⟩ := hs.dst i hik
    rw [ho] at ho2
    injection ho2 with ho2
    subst ho2
    refine ⟨⟨by simpa using hL, ?_, ?_⟩, by rw [put_defers]; exact ha, by rw [put_size]; exact hn, ?_, ?_, vs', hPh, hvl, hvs⟩
    · intro j o' hj hLj m hm
      rw [getD_set _ hLi] at hLj ⊢
      by_cases hmi : m = i
      · rw [if_pos hmi]
      · rw [if_neg hmi]
        by_cases hji : j = i
        · subst hji
          rw [ho] at hj
          injection hj with hj
          subst hj
          exact h2 m hm
        · rw [if_neg hji] at hLj
          exact hc j o' hj hLj m hm
    · intro j hj
      rw [getD_set _ hLi, if_neg (by omega)]
      exact ht j hj
    · intro j o' p' d' hj hLj ho' hp' hd'
      rw [getD_set _ hLi] at hLj
      -- a marked one's fact says nothing
      cases hfj : fl.getD j false with
      | true =>
        have := htriv j p' hp' (by rw [flget j hj, hfj])
        subst this
        exact fun _ _ => trivial
      | false =>
      obtain ⟨hns, hopv⟩ := hpure j o' p' (by rw [getl j hj]; exact ho') hp' (by rw [flget j hj, hfj])
      have other : ∀ s want c, p' = .gd s want c → tm (a.put o.dst v) s = tm a s := by
        intro s want c he
        cases hdst : o.dst with
        | none => rfl
        | some d =>
        obtain ⟨g1, b1, hg1, hg2⟩ := hopv.shape s want c he
        obtain ⟨_, hgj, hgw, _⟩ := hs.grd j o' g1 b1 hj ho' hg1
        have hog : g1 < ops.size := by omega
        rw [Array.getElem?_eq_getElem hog] at hg2
        simp only [Option.bind_some] at hg2
        refine tm_put_ne fun hse => ?_
        subst hse
        have hgi : g1 = i := by
          refine Classical.byContradiction fun hne => ?_
          exact hs.ne i g1 o _ s hik (by omega) (Ne.symm hne) ho (Array.getElem?_eq_getElem hog) hg2 hdst
        subst hgi
        by_cases hji : j = g1
        · omega
        · rw [if_neg hji] at hLj
          have := hs.plain hc j o' g1 ho' hgw (hc j o' ho' hLj)
          rw [h1] at this
          cases this
      by_cases hji : j = i
      · subst hji
        rw [ho] at ho'
        injection ho' with ho'
        subst ho'
        rw [hpi] at hp'
        injection hp' with hp'
        subst hp'
        rw [hd'] at other ⊢
        rw [tm_put_same hn (hdn d' hd')]
        exact PV.ok_act (hp d' hd') other
      · rw [if_neg hji] at hLj
        have h5 := PV.ok_any (w' := w') hns (hd j o' p' d' hj hLj ho' hp' hd')
        have e1 : tm (a.put o.dst v) d' = tm a d' := by
          cases hdst : o.dst with
          | none => rfl
          | some d => exact tm_put_ne fun he => hs.ne i j o o' d' hik hj (Ne.symm hji) ho ho' hd' (by rw [hdst, he])
        rw [e1]
        exact PV.ok_act h5 other
    · intro t hwr
      have e1 : tm (a.put o.dst v) t = tm a t := by
        cases hdst : o.dst with
        | none => rfl
        | some d => exact tm_put_ne fun he => hwr i o hik (by rw [getD_set _ hLi, if_pos rfl]) ho (by rw [hdst, he])
      rw [e1]
      refine hb t fun j o' hj hLj ho' => hwr j o' hj ?_ ho'
      rw [getD_set _ hLi]
      split
      · rfl
      · exact hLj
  refine draw_inv (k := l1.length) hs Inv (fun L a w hI => hI.1) ?_ ?_ ops.size _ a0 _ ?_ ?_
  · intro L a w i o hI hik ho h1 h2
    have hI0 := hI
    obtain ⟨⟨hL, hc, ht⟩, ha, hn, hd, hb, vs, hPh, hvl, hvs⟩ := hI
    have hpi : ps[i]? = some ps[i] := List.getElem?_eq_getElem (by omega)
    have hsee := seen L a w i o hI0 hik ho h1 h2
    have hLi : i < L.size := by omega
    unfold wpOp
    simp only [ho]
    cases hfi : fl.getD i false with
    | false =>
      obtain ⟨hns, hop⟩ := hpure i o _ (by rw [getl i hik]; exact ho) hpi (by rw [flget i hik, hfi])
      have nx : ∀ v, ps[i].ok a w v → Inv (L.setIfInBounds i true) (a.put o.dst v) w := fun v hp => by
        refine next L a w i o _ v w vs hI0 hik ho h1 h2 hpi (fun _ _ => hp) hPh hvl fun j o' hj hfj ho' => ?_
        have hji : j ≠ i := fun he => by subst he; rw [flget j hj, hfi] at hfj; cases hfj
        obtain ⟨h6, h7⟩ := hvs j o' hj hfj ho'
        refine ⟨by rw [getD_set _ hLi, if_neg hji]; exact h6, fun d hd' hlt => ?_⟩
        rw [getD_set _ hLi, if_neg hji] at hlt
        rw [h7 d hd' hlt]
        congr 1
        cases hdst : o.dst with
        | none => rfl
        | some d2 => exact (tm_put_ne fun he => hs.ne i j o o' d hik hj (Ne.symm hji) ho ho' hd' (by rw [hdst, he])).symm
      split
      · rename_i hw
        refine .inl ?_
        obtain ⟨v, hr, hp⟩ := hop.run a w hn hsee (hS _ _ hPh) hw
        unfold Oper.wp
        rw [hr]
        exact nx v hp
      · rename_i hw
        exact nx undef (hop.skip a w hn hsee (hS _ _ hPh) (by simpa using hw))
    | true =>
      have hf : fl[i]? = some true := by rw [flget i hik, hfi]
      have hvn : vs i = none := by
        have := (hvs i o hik hf ho).1
        cases hv : vs i with
        | none => rfl
        | some v => rw [hv] at this; rw [this.2 rfl] at h1; cases h1
      obtain ⟨hg, hmn⟩ := hmain i o (by rw [getl i hik]; exact ho) hf
      have hlw := hmn vs w hvn (fun j d hj hfj hdj hlk => by
        have hjs : j < l1.length := by omega
        rw [getl j hjs] at hdj
        cases hoj : ops[j]? with
        | none => rw [hoj] at hdj; cases hdj
        | some o' =>
        rw [hoj] at hdj
        have hw := (hs.look i j o o' d hik hjs (by omega) ho hoj hdj hlk).1 hj
        exact (hvs j o' hjs hfj hoj).1.1 (hs.plain hc i o j ho hw h2)) hPh
      rw [if_pos (by simp [Region.wanted, hg])]
      refine .inl ?_
      obtain ⟨o2, ho2, hdn, _⟩ := hs.dst i hik
      rw [ho] at ho2
      injection ho2 with ho2
      subst ho2
      refine Oper.wp_mono ?_ (wp_of_lw hg hdn ha hn ?_ hlw)
      · rintro a' w' ⟨v, rfl, hK⟩
        refine next L a w i o _ v w' _ hI0 hik ho h1 h2 hpi (fun d hd' => ?_) hK ?_ fun j o' hj hfj ho' => ?_
        · have := htriv i _ hpi hf
          rw [this]
          exact fun _ _ => trivial
        · intro j hj
          have hji : j ≠ i := fun e => by subst e; rw [hfi] at hj; cases hj
          unfold updV
          rw [nbeq hji]
          exact hvl j hj
        · by_cases hji : j = i
          · subst hji
            rw [ho] at ho'
            injection ho' with ho'
            subst ho'
            obtain ⟨o3, ho3, _, hne⟩ := hs.dst j hik
            rw [ho] at ho3
            injection ho3 with ho3
            subst ho3
            unfold updV
            rw [Nat.beq_refl]
            refine ⟨⟨fun _ => rfl, fun _ => by rw [getD_set _ hLi, if_pos rfl]⟩, fun d hd' _ => ?_⟩
            rw [hd', tm_put_same hn (hdn d hd')]
            rfl
          · obtain ⟨h6, h7⟩ := hvs j o' hj hfj ho'
            unfold updV
            rw [nbeq hji]
            refine ⟨by rw [getD_set _ hLi, if_neg hji]; exact h6, fun d hd' hlt' => ?_⟩
            rw [getD_set _ hLi, if_neg hji] at hlt'
            refine (h7 d hd' hlt').trans ?_
            congr 1
            cases hdst : o.dst with
            | none => rfl
            | some d2 => exact (tm_put_ne fun he => hs.ne i j o o' d hik hj (Ne.symm hji) ho ho' hd' (by rw [hdst, he])).symm
      · intro t q hq
        unfold Env.on at hq
        cases hb' : (o.looksAt ops).any (Nat.beq t) with
        | false => rw [hb'] at hq; cases hq
        | true =>
          rw [hb'] at hq
          simp only [cond_true] at hq
          obtain ⟨t', ht', he⟩ := List.any_eq_true.1 hb'
          have := Nat.eq_of_beq_eq_true he
          subst this
          unfold envV at hq
          split at hq
          · rename_i v hv
            injection hq with hq
            subst hq
            obtain ⟨j, o', h5, h6, h7, h8⟩ := lookV_some _ _ _ hv
            rw [Nat.zero_add] at h8
            have hji : j < i := by have := (List.getElem?_eq_some_iff.1 h5).1; simp at this; omega
            rw [List.getElem?_take_of_lt hji, getl j (by omega)] at h5
            rw [List.getElem?_take_of_lt hji] at h6
            obtain ⟨h9, h10⟩ := hvs j o' (by omega) h6 h5
            have := h10 t h7 (h9.2 (by rw [h8]; rfl))
            rw [h8] at this
            injection this with this
            exact this.symm
          · exact hsee t ht' q hq
  · intro L a w hI hall
    obtain ⟨⟨hL, hc, ht⟩, ha, hn, hd, hb, vs, hPh, hvl, hvs⟩ := hI
    have hvs2 : vs = fS fl fun j => (vs j).getD undef := by
      funext j
      unfold fS
      cases hfj : fl.getD j false with
      | false => exact hvl j hfj
      | true =>
        have hj : j < l1.length := by
          rcases Nat.lt_or_ge j l1.length with h9 | h9
          · exact h9
          · rw [List.getD_eq_getElem?_getD, List.getElem?_eq_none (by omega)] at hfj; cases hfj
        have := (hvs j _ hj (by rw [flget j hj, hfj]) (Array.getElem?_eq_getElem (by omega))).1.1 (hall j hj)
        cases hv : vs j with
        | none => rw [hv] at this; cases this
        | some v => show some v = some ((vs j).getD undef); rw [hv]; rfl
    rw [hvs2] at hPh
    have hr : ops.size - l1.length = l2.length := by omega
    rw [hr, wpOps_eq_wpList l2 l1.length]
    · refine hend _ w hPh a ha hn ?_
      rw [← hvs2]
      intro t q hq
      unfold envV at hq
      split at hq
      · rename_i v hv
        injection hq with hq
        subst hq
        obtain ⟨j, o', h5, h6, h7, h8⟩ := lookV_some _ _ _ hv
        rw [Nat.zero_add] at h8
        have hj : j < l1.length := (List.getElem?_eq_some_iff.1 h5).1
        rw [getl j hj] at h5
        have := (hvs j o' hj h6 h5).2 t h7 (hall j hj)
        rw [h8] at this
        injection this with this
        exact this.symm
      · rcases envs_look _ _ _ (by omega) hq with ⟨j, o', h1, h2, h3⟩ | ⟨h1, h2⟩
        · have hj : j < l1.length := (List.getElem?_eq_some_iff.1 h1).1
          rw [getl j hj] at h1
          exact hd j o' q t hj (hall j hj) h1 h2 h3
        · exact base h1 (hb t fun j o' hj _ ho' => h2 j o' (by rw [getl j hj]; exact ho'))
    · intro j
      rw [← Array.getElem?_toList, hl, List.getElem?_append_right (by omega)]
      congr 1
      omega
  · refine ⟨⟨by simp, fun i o _ hLi => ?_, fun i _ => getD_rep _ _⟩, ha0, hn0, fun i o p d _ hLi => ?_, fun t _ => rfl, fun _ => none, hdrew, fun _ _ => rfl, fun i o hi hf ho => ⟨?_, fun d _ hlt => ?_⟩⟩
    · rw [getD_rep] at hLi; cases hLi
    · rw [getD_rep] at hLi; cases hLi
    · rw [getD_rep]; simp
    · rw [getD_rep] at hlt; cases hlt
  · unfold cnt
    exact Nat.le_trans (List.length_filter_le _ _) (by simp)
end Go.Proofs.Ytnpgeohkmdcbkaa.Aq

namespace Go.Proofs.Ytnpgeohkmdcbkaa.Aq
open Go Go.RowKit

set_option maxRecDepth 10000 in
/-- repair.row.Len. -/
theorem f90 (A : Option Addr) (m c : Nat) (w : World) : RetV 90 [.slice A m c] w (.int .i64 m) := by
  refine calls_cw Try.func90 rfl Try.ntmps90 rfl ?_
  have hS := St.start w
  refine cw_seq ?_
  -- region 0
  refine cw_region ?_
  refine lw_v rfl rfl (ok_assign rfl (.n rfl) rfl) ?_
  refine lw_nil ?_
  refine Ends.keep [(0, .eq _)] (.cons rfl .nil) ?_
  refine ends_then ?_
  refine cw_seq ?_
  -- region 1
  refine cw_region ?_
  refine lw_v rfl rfl (ok_move rfl (.n rfl) rfl) ?_
  refine lw_v rfl rfl (ok_len rfl (.n rfl) Try.underlying103 rfl) ?_
  refine lw_v rfl rfl (ok_assign rfl (.n rfl) rfl) ?_
  refine lw_nil ?_
  refine Ends.keep [(2, .eq _)] (.cons rfl .nil) ?_
  refine ends_then ?_
  refine cw_ret ?_
  exact end_ret (res1 Try.results90 rfl) ⟨rfl, hS.below⟩

set_option maxRecDepth 10000 in
/-- repair.row.Less. -/
theorem f151 (A : Option Addr) (m c i j : Nat) (xs : List (Int × Int)) (w : World) (hr : (sl eSpot 2 A m c xs).p w) (hi : i < m) (hj : j < m) : RetV 151 [.slice A m c, .int .i64 i, .int .i64 j] w (.bool (decide ((xs.getD i (0, 0)).1 < (xs.getD j (0, 0)).1))) := by
  refine calls_cw Try.func151 rfl Try.ntmps151 rfl ?_
  have hS := (St.start w).args (Nat.le_refl _) _ hr rfl
  refine cw_seq ?_
  -- region 0
  refine cw_region ?_
  refine lw_v rfl rfl (ok_assign rfl (.n rfl) rfl) ?_
  refine lw_nil ?_
  refine Ends.keep [(0, .eq _), (1, .eq _), (2, .eq _)] (.cons rfl (.cons rfl (.cons rfl .nil))) ?_
  refine ends_then ?_
  refine cw_seq ?_
  -- region 1
  refine cw_draw (by kernel_rfl) (List.take 10 _) (List.drop 10 _) (List.take_append_drop 10 _).symm (by kernel_rfl) ?_
  refine free_v (ok_move rfl (.n rfl) rfl) ?_
  refine free_v (ok_move rfl (.n rfl) rfl) ?_
  refine free_v (ok_ix rfl (.n rfl) Try.underlying103 Try.sizeOf108 rfl rfl hS (fun _ => ⟨by omega, by omega⟩)) ?_
  refine free_v (ok_fx rfl (.n rfl) Try.underlying108 rfl Try.sizeOf3 (by decide) rfl hS (fun _ => ⟨by omega, by omega⟩)) ?_
  refine free_v (ok_ldx rfl (.n rfl) rfl Try.isAgg3 hS (fun _ => ⟨by omega, by omega⟩) (by rfl)) ?_
  refine free_v (ok_move rfl (.n rfl) rfl) ?_
  refine free_v (ok_move rfl (.n rfl) rfl) ?_
  refine free_v (ok_ix rfl (.n rfl) Try.underlying103 Try.sizeOf108 rfl rfl hS (fun _ => ⟨by omega, by omega⟩)) ?_
  refine free_v (ok_fx rfl (.n rfl) Try.underlying108 rfl Try.sizeOf3 (by decide) rfl hS (fun _ => ⟨by omega, by omega⟩)) ?_
  refine free_v (ok_ldx rfl (.n rfl) rfl Try.isAgg3 hS (fun _ => ⟨by omega, by omega⟩) (by rfl)) ?_
  refine free_nil ?_
  intro w1 hg_; replace hS := hS.grow hg_; clear hg_
  refine lw_v rfl rfl (ok_lss rfl (.n rfl) rfl rfl) ?_
  refine lw_v rfl rfl (ok_assign rfl (.n rfl) rfl) ?_
  refine lw_nil ?_
  refine Ends.keep [(6, .eq _)] (.cons rfl .nil) ?_
  refine ends_then ?_
  refine cw_ret ?_
  exact end_ret (res1 Try.results151 rfl) ⟨rfl, hS.below⟩

theorem St.lone {B : Nat} {we w : World} {L : List Asn} {a : Asn} (h : St B we w L) (hm : a ∈ L) : St B we w [a] :=
  ⟨h.below, h.base, fun x hx => by rw [List.mem_singleton.1 hx]; exact h.ok a hm, fun x hx => by rw [List.mem_singleton.1 hx]; exact h.ge a hm, List.pairwise_singleton _ _⟩
/-- Two of them the other way about. -/
def swp {α : Type} [Inhabited α] (xs : List α) (d : α) (i j : Nat) : List α := (xs.set i (xs.getD j d)).set j (xs.getD i d)
set_option maxRecDepth 10000 in
/-- repair.row.Swap. -/
theorem f154 {B : Nat} {we w : World} {L : List Asn} (A : Option Addr) (m c i j : Nat) (xs : List (Int × Int)) (hS : St B we w (own eSpot 2 108 A m c xs :: L)) (hi : i < m) (hj : j < m) :
    Calls Try.prog 154 #[.slice A m c, .int .i64 i, .int .i64 j] w fun e w' => e = .returned (.tuple #[]) ∧ St B we w' (own eSpot 2 108 A m c (swp xs (0, 0) i j) :: L) := by
  refine calls_cw Try.func154 rfl Try.ntmps154 rfl ?_
  -- region 0
  refine cw_draw3 (by kernel_rfl) (List.take 14 _) (List.drop 14 _) [false, false, false, false, false, false, false, false, false, false, false, false, false, true] (List.take_append_drop 14 _).symm (by kernel_rfl) (fun vs w' => match vs with | [] => St B we w' (own eSpot 2 108 A m c xs :: L) | [_] => St B we w' (own eSpot 2 108 A m c (xs.set i (xs.getD j (0, 0))) :: L) | _ => False) hS.drew ?_
  refine free3_v (ok_pre (by kernel_rfl) hS (fun w_ hS => ok_move rfl (.n rfl) rfl)) rfl ?_
  refine free3_v (ok_pre (by kernel_rfl) hS (fun w_ hS => ok_move rfl (.n rfl) rfl)) rfl ?_
  refine free3_v (ok_any (w0 := w) (fun w_ _ => ok_move rfl (.n rfl) rfl)) rfl ?_
  refine free3_v (ok_any (w0 := w) (fun w_ _ => ok_move rfl (.n rfl) rfl)) rfl ?_
  refine free3_v (ok_pre (by kernel_rfl) hS (fun w_ hS => ok_move rfl (.n rfl) rfl)) rfl ?_
  refine free3_v (ok_pre (by kernel_rfl) hS (fun w_ hS => ok_move rfl (.n rfl) rfl)) rfl ?_
  refine free3_v (ok_pre (by kernel_rfl) hS (fun w_ hS => ok_ix rfl (.n rfl) Try.underlying103 Try.sizeOf108 rfl rfl hS (fun _ => ⟨by omega, by omega⟩))) rfl ?_
  refine free3_v (ok_pre (by kernel_rfl) hS (fun w_ hS => ok_eq (ok_ldxS rfl (.n rfl) rfl Try.isAgg108 Try.sizeOf108 hS (fun _ => ⟨by omega, by omega⟩)) (c' := .agg (eSpot (xs.getD j (0, 0))).toArray) (fun _ => rfl))) rfl ?_
  refine free3_v (ok_pre (by kernel_rfl) hS (fun w_ hS => ok_move rfl (.n rfl) rfl)) rfl ?_
  refine free3_v (ok_pre (by kernel_rfl) hS (fun w_ hS => ok_move rfl (.n rfl) rfl)) rfl ?_
  refine free3_v (ok_pre (by kernel_rfl) hS (fun w_ hS => ok_ix rfl (.n rfl) Try.underlying103 Try.sizeOf108 rfl rfl hS (fun _ => ⟨by omega, by omega⟩))) rfl ?_
  refine free3_v (ok_pre (by kernel_rfl) hS (fun w_ hS => ok_eq (ok_ldxS rfl (.n rfl) rfl Try.isAgg108 Try.sizeOf108 hS (fun _ => ⟨by omega, by omega⟩)) (c' := .agg (eSpot (xs.getD i (0, 0))).toArray) (fun _ => rfl))) rfl ?_
  refine free3_v (ok_pre (by kernel_rfl) hS (fun w_ hS => ok_ix rfl (.n rfl) Try.underlying103 Try.sizeOf108 rfl rfl hS (fun _ => ⟨by omega, by omega⟩))) rfl ?_
  refine free3_w ?_ ?_
  ·
    intro vs wq hv hP
    obtain rfl : vs = [] := List.eq_nil_of_length_eq_zero hv
    have hS : St B we wq (own eSpot 2 108 A m c xs :: L) := hP
    refine lw_stxS (enc := eSpot) (xs.getD j (0, 0)) rfl rfl rfl rfl rfl rfl Try.sizeOf108 hS ⟨by omega, by omega⟩ ?_
    intro w' hS9
    exact lw_nil fun a ha _ _ => ⟨rfl, ha, hS9⟩
  refine free3_nil ?_
  clear hS
  intro vs wq hv hP
  obtain ⟨v1, rfl⟩ := List.length_eq_one_iff.1 hv
  have hS : St B we wq (own eSpot 2 108 A m c (xs.set i (xs.getD j (0, 0))) :: L) := hP
  refine lw_v rfl rfl (ok_ix rfl (.n rfl) Try.underlying103 Try.sizeOf108 rfl rfl hS (fun _ => ⟨by omega, by omega⟩)) ?_
  refine lw_stxS (enc := eSpot) (xs.getD i (0, 0)) rfl rfl rfl rfl rfl rfl Try.sizeOf108 hS (⟨by omega, by omega⟩) ?_
  clear hS; intro w1 hS
  refine lw_nil ?_
  exact end_norm (res0 Try.results154) ⟨rfl, hS⟩

set_option maxRecDepth 10000 in
/-- repair.queue.Push. -/
theorem f153 {B : Nat} {we w : World} {L : List Asn} (bq : Nat) (A : Option Addr) (m c : Nat) (k v : Int) (xs : List (Int × Int)) (hS : St B we w (bx bq [.slice A m c] 105 :: own eSpot 2 108 A m c xs :: L)) (hm : m ≤ 100000) :
    Calls Try.prog 153 #[.pointer (some ⟨bq, 0, none⟩), .iface 108 (.agg #[.int .i64 k, .int .i64 v])] w fun e w' => ∃ A' c', e = .returned (.tuple #[]) ∧ St B we w' (bx bq [.slice A' (xs ++ [(k, v)]).length c'] 105 :: own eSpot 2 108 A' (xs ++ [(k, v)]).length c' (xs ++ [(k, v)]) :: L) := by
  refine calls_cw Try.func153 rfl Try.ntmps153 rfl ?_
  -- region 0
  refine cw_draw2 (by kernel_rfl) (List.take 9 _) (List.drop 9 _) [false, false, false, false, false, false, false, true, true] (List.take_append_drop 9 _).symm (by kernel_rfl) (fun w' => St B we w' [bx bq [.slice A m c] 105]) (fun vs w' => match vs with
      | [] => St B we w' (bx bq [.slice A m c] 105 :: own eSpot 2 108 A m c xs :: L)
      | [v1] => ∃ A1 c1, v1 = .slice A1 1 c1 ∧ St B we w' (own eSpot 2 108 A1 1 c1 [(k, v)] :: bx bq [.slice A m c] 105 :: own eSpot 2 108 A m c xs :: L)
      | [_, v2] => ∃ A' c' A1 c1, v2 = .slice A' (xs ++ [(k, v)]).length c' ∧ St B we w' (own eSpot 2 108 A1 1 c1 [(k, v)] :: bx bq [.slice A m c] 105 :: own eSpot 2 108 A' (xs ++ [(k, v)]).length c' (xs ++ [(k, v)]) :: L)
      | _ => False) (fun vs w' h => by
        match vs, h with
        | [], h => exact h.lone (.head _)
        | [_], ⟨_, _, _, h⟩ => exact h.lone (.tail _ (.head _))
        | [_, _], ⟨_, _, _, _, _, h⟩ => exact h.lone (.tail _ (.head _))) hS.drew ?_
  refine free2_v (ok_each (hS.lone (.head _)) (fun w_ hS => ok_move rfl (.n rfl) rfl)) rfl ?_
  refine free2_v (ok_each (hS.lone (.head _)) (fun w_ hS => ok_move rfl (.n rfl) rfl)) rfl ?_
  refine free2_v (ok_each (hS.lone (.head _)) (fun w_ hS => ok_nil rfl (.n rfl) rfl)) rfl ?_
  refine free2_v (ok_each (hS.lone (.head _)) (fun w_ hS => ok_fb rfl (.n rfl) Try.underlying105 rfl Try.sizeOf103 (by decide) rfl)) rfl ?_
  refine free2_v (ok_each (hS.lone (.head _)) (fun w_ hS => ok_ldb rfl (.n rfl) rfl Try.isAgg103 hS (by rfl))) rfl ?_
  refine free2_v (ok_each (hS.lone (.head _)) (fun w_ hS => ok_move rfl (.n rfl) rfl)) rfl ?_
  refine free2_v (ok_each (hS.lone (.head _)) (fun w_ hS => ok_tassert rfl (.n rfl) Try.underlying108 rfl rfl)) rfl ?_
  refine free2_w ?_ ?_
  ·
    intro vs wq hv hP
    obtain rfl : vs = [] := List.eq_nil_of_length_eq_zero hv
    have hS : St B we wq (bx bq [.slice A m c] 105 :: own eSpot 2 108 A m c xs :: L) := hP
    refine lw_ls (enc := eSpot) [(k, v)] rfl rfl rfl Try.underlying103 Try.sizeOf108 Try.zeroValue108 rfl (by kernel_rfl) rfl (by decide) (by decide) hS ?_
    intro A1 c1 w' _ hS9
    exact lw_nil fun a ha _ hs => ⟨rfl, ha, A1, c1, hs 11 _ rfl, hS9⟩
  refine free2_w ?_ ?_
  ·
    intro vs wq hv hP
    obtain ⟨v1, rfl⟩ := List.length_eq_one_iff.1 hv
    obtain ⟨A1, c1, rfl, hS⟩ := hP
    refine lw_append (enc := eSpot) rfl rfl rfl Try.underlying103 info108 rfl rfl rfl hS (by decide) (by omega) (by omega) ?_
    intro A' c' w' hS1
    exact lw_nil fun a ha _ hs => ⟨rfl, ha, A', c', A1, c1, hs 12 _ rfl, hS1 _ Rep.r⟩
  refine free2_nil ?_
  clear hS
  intro vs wq hv hP
  obtain ⟨v1, v2, rfl⟩ : ∃ a b, vs = [a, b] := by
    match vs, hv with
    | [a, b], _ => exact ⟨a, b, rfl⟩
  obtain ⟨A', c', A1, c1, rfl, hS⟩ := hP
  refine lw_v rfl rfl (ok_nil rfl (.n rfl) rfl) ?_
  refine lw_v rfl rfl (ok_fb rfl (.n rfl) Try.underlying105 rfl Try.sizeOf103 (by decide) rfl) ?_
  refine lw_st rfl rfl rfl rfl rfl rfl Try.sizeOf103 hS (by rfl) ?_
  clear hS; intro w1 hS
  refine lw_nil ?_
  exact end_norm (res0 Try.results153) ⟨A', c', rfl, hS.tail⟩

theorem flat_take {α : Type} {enc : α → List Value} {sz : Nat} {d : α} [hE : Enc enc sz d] : ∀ (xs : List α) (n : Nat), (xs.take n).flatMap enc = (xs.flatMap enc).take (n * sz)
  | [], n => by simp
  | x :: xs, 0 => by simp
  | x :: xs, n + 1 => by
    have hx := hE.len x
    have e2 : (n + 1) * sz = (enc x).length + n * sz := by rw [hx, Nat.add_mul]; omega
    rw [List.take_succ_cons, List.flatMap_cons, List.flatMap_cons, e2, List.take_length_add_append, flat_take xs n]
theorem own_take {α : Type} {enc : α → List Value} {sz : Nat} {d : α} [hE : Enc enc sz d] {e : TypeId} {A : Option Addr} {m c n : Nat} {xs : List α} {w : World} (h : (own enc sz e A m c xs).p w) (h0 : 0 < m) (hn : n ≤ m) : (own enc sz e A n c (xs.take n)).p w := by
  obtain ⟨g, rfl, h'⟩ := own_nn h h0
  have hl : xs.length = m := h.1
  have hlt : (xs.take n).length = n := by rw [List.length_take]; omega
  refine ⟨hlt, by rw [flat_len (enc := enc), hlt], ?_⟩
  rcases h'.2 with ⟨h1, _⟩ | ⟨g', cap, cur, hv, hbase, hheap, hmc, hcm, hcsz, htake⟩
  · cases h1
  · injection hv with hv1 _ hv3
    injection hv1 with hv1
    injection hv1 with hv1
    subst hv1
    subst hv3
    refine .inr ⟨g, c, cur, rfl, hbase, hheap, by omega, hcm, hcsz, ?_⟩
    have e1 := flat_take (enc := enc) xs n
    rw [e1, ← htake, List.take_take]
    congr 1
    have := Nat.mul_le_mul_right sz hn
    omega
theorem St.ownTake {α : Type} {enc : α → List Value} {sz : Nat} {d : α} [hE : Enc enc sz d] {B : Nat} {we w : World} {L : List Asn} {e : TypeId} {A : Option Addr} {m c n : Nat} {xs : List α} (h : St B we w (own enc sz e A m c xs :: L)) (h0 : 0 < m) (hn : n ≤ m := by omega) : St B we w (own enc sz e A n c (xs.take n) :: L) :=
  h.head _ (own_take (h.ok _ (.head _)) h0 hn) (fun _ hb => hb) (fun _ => rfl) (.inl rfl)
set_option maxRecDepth 10000 in
/-- repair.queue.Pop. -/
theorem f152 {B : Nat} {we w : World} {L : List Asn} (bq : Nat) (A : Option Addr) (m c : Nat) (xs : List (Int × Int)) (hS : St B we w (bx bq [.slice A m c] 105 :: own eSpot 2 108 A m c xs :: L)) (hm : m ≤ 100000) (h0 : 0 < m) :
    Calls Try.prog 152 #[.pointer (some ⟨bq, 0, none⟩)] w fun e w' => e = .returned (.iface 108 (.agg (eSpot (xs.getD (m - 1) (0, 0))).toArray)) ∧ St B we w' (bx bq [.slice A (m - 1) c] 105 :: own eSpot 2 108 A (m - 1) c (xs.take (m - 1)) :: L) := by
  refine calls_cw Try.func152 rfl Try.ntmps152 rfl ?_
  have hml : xs.length = m := (hS.ok _ (.tail _ (.head _))).1
  refine cw_seq ?_
  -- region 0
  refine cw_region ?_
  refine lw_v rfl rfl (ok_assign rfl (.n rfl) rfl) ?_
  refine lw_nil ?_
  refine Ends.keep [(0, .eq _)] (.cons rfl .nil) ?_
  refine ends_then ?_
  refine cw_seq ?_
  -- region 1
  refine cw_region ?_
  refine lw_v rfl rfl (ok_move rfl (.n rfl) rfl) ?_
  refine lw_v rfl rfl (ok_nil rfl (.n rfl) rfl) ?_
  refine lw_v rfl rfl (ok_fb rfl (.n rfl) Try.underlying105 rfl Try.sizeOf103 (by decide) rfl) ?_
  refine lw_v rfl rfl (ok_ldb rfl (.n rfl) rfl Try.isAgg103 hS (by rfl)) ?_
  refine lw_v rfl rfl (ok_len rfl (.n rfl) Try.underlying103 rfl) ?_
  refine lw_v rfl rfl (ok_eq (ok_subi rfl (.n rfl) rfl rfl (fun _ => ⟨by omega, by omega⟩)) (c' := .int .i64 ((m - 1 : Nat) : Int)) (fun _ => congrArg (Value.int .i64) (by omega))) ?_
  refine lw_v rfl rfl (ok_assign rfl (.n rfl) rfl) ?_
  refine lw_nil ?_
  refine Ends.keep [(0, .eq _), (3, .eq _)] (.cons rfl (.cons rfl .nil)) ?_
  refine ends_then ?_
  refine cw_seq ?_
  -- region 2
  refine cw_region ?_
  refine lw_v rfl rfl (ok_move rfl (.n rfl) rfl) ?_
  refine lw_v rfl rfl (ok_nil rfl (.n rfl) rfl) ?_
  refine lw_v rfl rfl (ok_fb rfl (.n rfl) Try.underlying105 rfl Try.sizeOf103 (by decide) rfl) ?_
  refine lw_v rfl rfl (ok_ldb rfl (.n rfl) rfl Try.isAgg103 hS (by rfl)) ?_
  refine lw_v rfl rfl (ok_move rfl (.n rfl) rfl) ?_
  refine lw_v rfl rfl (ok_ix rfl (.n rfl) Try.underlying103 Try.sizeOf108 rfl rfl hS (fun _ => ⟨by omega, by omega⟩)) ?_
  refine lw_v rfl rfl (ok_eq (ok_ldxS rfl (.n rfl) rfl Try.isAgg108 Try.sizeOf108 hS (fun _ => ⟨by omega, by omega⟩)) (c' := .agg (eSpot (xs.getD (m - 1) (0, 0))).toArray) (fun _ => rfl)) ?_
  refine lw_alloc rfl rfl rfl Try.zeroValue108 hS ?_
  clear hS; intro b4 w1 _ _ hS
  refine lw_stS rfl rfl rfl rfl rfl (by kernel_rfl) hS rfl (by rfl) (by rfl) ?_
  clear hS; intro w2 hS
  refine lw_nil ?_
  refine Ends.keep [(0, .eq _), (3, .eq _), (4, .eq _)] (.cons rfl (.cons rfl (.cons rfl .nil))) ?_
  refine ends_then ?_
  refine cw_seq ?_
  -- region 3
  refine cw_region ?_
  refine lw_v rfl rfl (ok_move rfl (.n rfl) rfl) ?_
  refine lw_v rfl rfl (ok_move rfl (.n rfl) rfl) ?_
  refine lw_v rfl rfl (ok_nil rfl (.n rfl) rfl) ?_
  refine lw_v rfl rfl (ok_fb rfl (.n rfl) Try.underlying105 rfl Try.sizeOf103 (by decide) rfl) ?_
  refine lw_v rfl rfl (ok_ldb rfl (.n rfl) rfl Try.isAgg103 hS (by rfl)) ?_
  refine lw_v rfl rfl (ok_move rfl (.n rfl) rfl) ?_
  refine lw_v rfl rfl (ok_slto (enc := eSpot) (m - 1) rfl (.n rfl) Try.underlying103 Try.sizeOf108 rfl rfl hS ⟨rfl, by omega⟩) ?_
  refine lw_v rfl rfl (ok_nil rfl (.n rfl) rfl) ?_
  refine lw_v rfl rfl (ok_fb rfl (.n rfl) Try.underlying105 rfl Try.sizeOf103 (by decide) rfl) ?_
  refine lw_st rfl rfl rfl rfl rfl rfl Try.sizeOf103 hS (by rfl) ?_
  clear hS; intro w3 hS
  refine lw_nil ?_
  refine Ends.keep [(4, .eq _)] (.cons rfl .nil) ?_
  refine ends_then ?_
  refine cw_seq ?_
  -- region 4
  refine cw_region ?_
  refine lw_v rfl rfl (ok_ldS rfl (.n rfl) rfl Try.isAgg108 Try.sizeOf108 hS rfl) ?_
  refine lw_v rfl rfl (ok_iface rfl (.n rfl) Try.underlying108 rfl rfl) ?_
  refine lw_v rfl rfl (ok_assign rfl (.n rfl) rfl) ?_
  refine lw_nil ?_
  refine Ends.keep [(2, .eq _)] (.cons rfl .nil) ?_
  refine ends_then ?_
  refine cw_ret ?_
  exact end_ret (res1 Try.results152 rfl) ⟨rfl, (hS.tail.swap.ownTake (by omega)).swap⟩

theorem swp_perm {xs : List (Int × Int)} {i j : Nat} (hi : i < xs.length) (hj : j < xs.length) : (swp xs (0, 0) i j).Perm xs := by
  unfold swp
  have e1 : xs.getD i (0, 0) = xs[i] := by simp [List.getD_eq_getElem?_getD, hi]
  have e2 : xs.getD j (0, 0) = xs[j] := by simp [List.getD_eq_getElem?_getD, hj]
  rw [e1, e2]
  exact List.set_set_perm hi hj
theorem swp_len (xs : List (Int × Int)) (i j : Nat) : (swp xs (0, 0) i j).length = xs.length := by unfold swp; simp

theorem up_half (j : Nat) (hj : j ≤ 100000) : IntKind.i64.wrap (((j : Int) - 1).tdiv 2) = (((j - 1) / 2 : Nat) : Int) := by
  rcases Nat.eq_zero_or_pos j with h | h
  · subst h; rfl
  · obtain ⟨k, rfl⟩ : ∃ k, j = k + 1 := ⟨j - 1, by omega⟩
    have e : ((k + 1 : Nat) : Int) - 1 = (k : Int) := by omega
    rw [e, Nat.add_sub_cancel]
    exact half_eq k (by omega)
set_option maxRecDepth 10000 in
/-- container/heap.up, of the queue: what it holds stays. -/
theorem f108 {B : Nat} {we w : World} {L : List Asn} (bq : Nat) (A : Option Addr) (m c j0 : Nat) (xs : List (Int × Int)) (hS : St B we w (bx bq [.slice A m c] 105 :: own eSpot 2 108 A m c xs :: L)) (hm : m ≤ 100000) (hj0 : j0 < m) :
    Calls Try.prog 108 #[qV bq, .int .i64 j0] w fun e w' => ∃ ys, e = .returned (.tuple #[]) ∧ ys.Perm xs ∧ St B we w' (bx bq [.slice A m c] 105 :: own eSpot 2 108 A m c ys :: L) := by
  refine calls_cw Try.func108 rfl Try.ntmps108 rfl ?_
  have hxl : xs.length = m := (hS.ok _ (.tail _ (.head _))).1
  refine cw_block ?_
  -- LOOP at region 0: changed live slots [1], kept [0]
  refine cw_loop2 [(0, .eq _)] (fun (j : Nat) (ys : List (Int × Int)) => [(1, .eq (.int .i64 j))]) (fun j ys w' => (j < m ∧ ys.Perm xs) ∧ St B we w' (bx bq [.slice A m c] 105 :: own eSpot 2 108 A m c ys :: L)) (fun j _ => j) j0 xs (.cons rfl .nil) (.cons rfl (.cons rfl .nil)) ⟨⟨hj0, List.Perm.refl _⟩, hS⟩ ?_
  clear hS
  rintro j ys wr ⟨⟨hj, hpm⟩, hS⟩
  have hyl := hpm.length_eq
  refine cw_block ?_
  refine cw_seq ?_
  -- region 0
  refine cw_region ?_
  refine lw_v rfl rfl (ok_move rfl (.n rfl) rfl) ?_
  refine lw_v rfl rfl (ok_subi rfl (.n rfl) rfl rfl (fun _ => ⟨by omega, by omega⟩)) ?_
  refine lw_v rfl rfl (ok_eq (ok_quo rfl (.n rfl) rfl rfl (fun _ => by omega)) (c' := .int .i64 (((j - 1) / 2 : Nat) : Int)) (fun _ => congrArg (Value.int .i64) (up_half j (by omega)))) ?_
  refine lw_v rfl rfl (ok_assign rfl (.n rfl) rfl) ?_
  refine lw_nil ?_
  refine Ends.keep [(0, .eq _), (1, .eq _), (4, .eq _)] (.cons rfl (.cons rfl (.cons rfl .nil))) ?_
  refine ends_then ?_
  refine cw_seq ?_
  refine cw_seq ?_
  -- region 1
  refine cw_region ?_
  refine lw_v rfl rfl (ok_move rfl (.n rfl) rfl) ?_
  refine lw_v rfl rfl (ok_move rfl (.n rfl) rfl) ?_
  refine lw_v rfl rfl (ok_eql rfl (.n rfl) rfl rfl) ?_
  refine lw_v rfl rfl (ok_move rfl (.n rfl) rfl) ?_
  refine lw_v rfl rfl (ok_move rfl (.s rfl rfl) rfl) ?_
  refine lw_v rfl rfl (ok_move rfl (.s rfl rfl) rfl) ?_
  refine lw_v rfl rfl (ok_move rfl (.s rfl rfl) rfl) ?_
  refine lw_o rfl rfl (ok_inv (.bool (decide ((ys.getD j (0, 0)).1 < (ys.getD ((j - 1) / 2) (0, 0)).1))) rfl (.s rfl rfl) mLess Try.call151 rfl rfl (fun w' hg => (hS.grow hg).bx) (fun _ w' hg => f151 A m c j ((j - 1) / 2) ys w' ((hS.grow hg).rd A (by omega)) (by omega) (by omega))) ?_
  intro w1 hg_; replace hS := hS.grow hg_; clear hg_
  refine lw_v rfl rfl (ok_not rfl (.s rfl rfl) rfl) ?_
  refine lw_v rfl rfl (ok_or rfl rfl rfl rfl) ?_
  refine lw_nil ?_
  refine Ends.keep [(0, .eq _), (1, .eq _), (4, .eq _), (17, .eq _)] (.cons rfl (.cons rfl (.cons rfl (.cons rfl .nil)))) ?_
  refine ends_then ?_
  refine cw_cond rfl (fun h17 => ?_) (fun h17 => ?_)
  ·
    refine cw_exit ?_
    refine then_exit (in_other rfl (then_exit (in_exit (?_))))
    exact end_norm (res0 Try.results108) ⟨ys, rfl, hpm, hS⟩
  ·
    refine cw_skip ?_
    refine ends_then ?_
    refine cw_seq ?_
    -- region 2
    refine cw_region ?_
    refine lw_v rfl rfl (ok_move rfl (.n rfl) rfl) ?_
    refine lw_v rfl rfl (ok_move rfl (.n rfl) rfl) ?_
    refine lw_v rfl rfl (ok_move rfl (.n rfl) rfl) ?_
    refine lw_inv (xs := [_, _]) rfl rfl rfl mSwap Try.call154 rfl rfl hS (Calls.mono (f154 A m c ((j - 1) / 2) j ys hS.swap (by omega) (by omega)) ?_)
    rintro e w' ⟨rfl, hS9⟩
    replace hS := hS9.swap; clear hS9
    refine ⟨_, rfl, ?_⟩
    refine lw_nil ?_
    refine Ends.keep [(0, .eq _), (4, .eq _)] (.cons rfl (.cons rfl .nil)) ?_
    refine ends_then ?_
    -- region 3
    refine cw_region ?_
    refine lw_v rfl rfl (ok_move rfl (.n rfl) rfl) ?_
    refine lw_v rfl rfl (ok_assign rfl (.n rfl) rfl) ?_
    refine lw_nil ?_
    refine in_normal (?_)
    -- BACK
    have hne : ¬ (((j - 1) / 2 : Nat) : Int) = (j : Int) := fun e => by rw [decide_eq_true e] at h17; simp at h17
    refine ends_back2 ((j - 1) / 2) _ (.cons rfl (.cons rfl .nil)) ⟨⟨by omega, (swp_perm (by omega) (by omega)).trans hpm⟩, hS⟩ (by omega)

theorem dn_lt {i n0 : Nat} {x : Bool} (h : (decide ((n0 : Int) ≤ ((2 * i + 1 : Nat) : Int)) || x) = false) : 2 * i + 1 < n0 := by
  rw [Bool.or_eq_false_iff, decide_eq_false_iff_not] at h
  omega
theorem dn_and {i n0 : Nat} {x : Bool} (h : (decide (((2 * i + 2 : Nat) : Int) < (n0 : Int)) && x) = true) : 2 * i + 2 < n0 := by
  rw [Bool.and_eq_true, decide_eq_true_eq] at h
  omega
set_option maxRecDepth 10000 in
/-- container/heap.down, of the queue: what it holds stays. -/
theorem f109 {B : Nat} {we w : World} {L : List Asn} (bq : Nat) (A : Option Addr) (m c i0 n0 : Nat) (xs : List (Int × Int)) (hS : St B we w (bx bq [.slice A m c] 105 :: own eSpot 2 108 A m c xs :: L)) (hm : m ≤ 100000) (hi0 : i0 ≤ m) (hn0 : n0 ≤ m) :
    Calls Try.prog 109 #[qV bq, .int .i64 i0, .int .i64 n0] w fun e w' => ∃ v ys, e = .returned v ∧ ys.Perm xs ∧ St B we w' (bx bq [.slice A m c] 105 :: own eSpot 2 108 A m c ys :: L) := by
  refine calls_cw Try.func109 rfl Try.ntmps109 rfl ?_
  have hxl : xs.length = m := (hS.ok _ (.tail _ (.head _))).1
  refine cw_seq ?_
  -- region 0
  refine cw_region ?_
  refine lw_v rfl rfl (ok_assign rfl (.n rfl) rfl) ?_
  refine lw_nil ?_
  refine Ends.keep [(0, .eq _), (1, .eq _), (2, .eq _)] (.cons rfl (.cons rfl (.cons rfl .nil))) ?_
  refine ends_then ?_
  refine cw_seq ?_
  -- region 1
  refine cw_region ?_
  refine lw_v rfl rfl (ok_move rfl (.n rfl) rfl) ?_
  refine lw_v rfl rfl (ok_assign rfl (.n rfl) rfl) ?_
  refine lw_nil ?_
  refine Ends.keep [(0, .eq _), (1, .eq _), (2, .eq _), (7, .eq _)] (.cons rfl (.cons rfl (.cons rfl (.cons rfl .nil)))) ?_
  refine ends_then ?_
  refine cw_seq ?_
  refine cw_block ?_
  -- LOOP at region 2: changed live slots [7], kept [0, 1, 2]
  refine cw_loop2 [(0, .eq _), (1, .eq _), (2, .eq _)] (fun (i : Nat) (ys : List (Int × Int)) => [(7, .eq (.int .i64 i))]) (fun i ys w' => (i ≤ m ∧ ys.Perm xs) ∧ St B we w' (bx bq [.slice A m c] 105 :: own eSpot 2 108 A m c ys :: L)) (fun i _ => m + 1 - i) i0 xs (.cons rfl (.cons rfl (.cons rfl .nil))) (.cons rfl (.cons rfl (.cons rfl (.cons rfl .nil)))) ⟨⟨hi0, List.Perm.refl _⟩, hS⟩ ?_
  clear hS
  rintro i ys wr ⟨⟨hi, hpm⟩, hS⟩
  have hyl := hpm.length_eq
  refine cw_block ?_
  refine cw_seq ?_
  -- region 2
  refine cw_region ?_
  refine lw_v rfl rfl (ok_move rfl (.n rfl) rfl) ?_
  refine lw_v rfl rfl (ok_muli rfl (.n rfl) rfl rfl (fun _ => ⟨by omega, by omega⟩)) ?_
  refine lw_v rfl rfl (ok_eq (ok_addi rfl (.n rfl) rfl rfl (fun _ => ⟨by omega, by omega⟩)) (c' := .int .i64 ((2 * i + 1 : Nat) : Int)) (fun _ => congrArg (Value.int .i64) (by omega))) ?_
  refine lw_v rfl rfl (ok_assign rfl (.n rfl) rfl) ?_
  refine lw_nil ?_
  refine Ends.keep [(0, .eq _), (1, .eq _), (2, .eq _), (7, .eq _), (8, .eq _)] (.cons rfl (.cons rfl (.cons rfl (.cons rfl (.cons rfl .nil))))) ?_
  refine ends_then ?_
  refine cw_seq ?_
  refine cw_seq ?_
  -- region 3
  refine cw_region ?_
  refine lw_v rfl rfl (ok_move rfl (.n rfl) rfl) ?_
  refine lw_v rfl rfl (ok_move rfl (.n rfl) rfl) ?_
  refine lw_v rfl rfl (ok_geq rfl (.n rfl) rfl rfl) ?_
  refine lw_v rfl rfl (ok_move rfl (.n rfl) rfl) ?_
  refine lw_v rfl rfl (ok_move rfl (.s rfl rfl) rfl) ?_
  refine lw_v rfl rfl (ok_lss rfl (.s rfl rfl) rfl rfl) ?_
  refine lw_v rfl rfl (ok_or rfl rfl rfl rfl) ?_
  refine lw_nil ?_
  refine Ends.keep [(0, .eq _), (1, .eq _), (2, .eq _), (7, .eq _), (8, .eq _), (21, .eq _)] (.cons rfl (.cons rfl (.cons rfl (.cons rfl (.cons rfl (.cons rfl .nil)))))) ?_
  refine ends_then ?_
  refine cw_cond rfl (fun h21 => ?_) (fun h21 => ?_)
  ·
    refine cw_exit ?_
    refine then_exit (in_other rfl (then_exit (in_exit (?_))))
    refine Ends.keep [(1, .eq _), (7, .eq _)] (.cons rfl (.cons rfl .nil)) ?_
    refine ends_then ?_
    refine cw_seq ?_
    -- region 11
    refine cw_region ?_
    refine lw_v rfl rfl (ok_move rfl (.n rfl) rfl) ?_
    refine lw_v rfl rfl (ok_move rfl (.n rfl) rfl) ?_
    refine lw_v rfl rfl (ok_gtr rfl (.n rfl) rfl rfl) ?_
    refine lw_v rfl rfl (ok_assign rfl (.n rfl) rfl) ?_
    refine lw_nil ?_
    refine Ends.keep [(6, .eq _)] (.cons rfl .nil) ?_
    refine ends_then ?_
    refine cw_ret ?_
    exact end_ret (res1 Try.results109 rfl) ⟨_, ys, rfl, hpm, hS⟩
  ·
    have hlt : 2 * i + 1 < n0 := dn_lt h21
    refine cw_skip ?_
    refine ends_then ?_
    refine cw_seq ?_
    -- region 4
    refine cw_region ?_
    refine lw_v rfl rfl (ok_move rfl (.n rfl) rfl) ?_
    refine lw_v rfl rfl (ok_assign rfl (.n rfl) rfl) ?_
    refine lw_nil ?_
    refine Ends.keep [(0, .eq _), (1, .eq _), (2, .eq _), (7, .eq _), (8, .eq _), (9, .eq _)] (.cons rfl (.cons rfl (.cons rfl (.cons rfl (.cons rfl (.cons rfl .nil)))))) ?_
    refine ends_then ?_
    refine cw_seq ?_
    refine cw_seq ?_
    -- region 5
    refine cw_region ?_
    refine lw_v rfl rfl (ok_move rfl (.n rfl) rfl) ?_
    refine lw_v rfl rfl (ok_eq (ok_addi rfl (.n rfl) rfl rfl (fun _ => ⟨by omega, by omega⟩)) (c' := .int .i64 ((2 * i + 2 : Nat) : Int)) (fun _ => congrArg (Value.int .i64) (by omega))) ?_
    refine lw_v rfl rfl (ok_assign rfl (.n rfl) rfl) ?_
    refine lw_nil ?_
    refine Ends.keep [(0, .eq _), (1, .eq _), (2, .eq _), (7, .eq _), (8, .eq _), (9, .eq _), (10, .eq _)] (.cons rfl (.cons rfl (.cons rfl (.cons rfl (.cons rfl (.cons rfl (.cons rfl .nil))))))) ?_
    refine ends_then ?_
    refine cw_seq ?_
    -- region 6
    refine cw_region ?_
    refine lw_v rfl rfl (ok_move rfl (.n rfl) rfl) ?_
    refine lw_v rfl rfl (ok_move rfl (.n rfl) rfl) ?_
    refine lw_v rfl rfl (ok_lss rfl (.n rfl) rfl rfl) ?_
    refine lw_v rfl rfl (ok_move rfl (.n rfl) rfl) ?_
    refine lw_v rfl rfl (ok_move rfl (.s rfl rfl) rfl) ?_
    refine lw_v rfl rfl (ok_move rfl (.s rfl rfl) rfl) ?_
    refine lw_v rfl rfl (ok_move rfl (.s rfl rfl) rfl) ?_
    refine lw_o rfl rfl (ok_inv (.bool (decide ((ys.getD (2 * i + 2) (0, 0)).1 < (ys.getD (2 * i + 1) (0, 0)).1))) rfl (.s rfl rfl) mLess Try.call151 rfl rfl (fun w' hg => (hS.grow hg).bx) (fun hgc w' hg => f151 A m c (2 * i + 2) (2 * i + 1) ys w' ((hS.grow hg).rd A (by omega)) (by have h9 := of_decide_eq_true hgc; omega) (by omega))) ?_
    intro w1 hg_; replace hS := hS.grow hg_; clear hg_
    refine lw_v rfl rfl (ok_and rfl rfl rfl rfl) ?_
    refine lw_nil ?_
    refine Ends.keep [(0, .eq _), (1, .eq _), (2, .eq _), (7, .eq _), (9, .eq _), (10, .eq _), (33, .eq _)] (.cons rfl (.cons rfl (.cons rfl (.cons rfl (.cons rfl (.cons rfl (.cons rfl .nil))))))) ?_
    refine ends_then ?_
    refine cw_cond rfl (fun h33 => ?_) (fun h33 => ?_)
    ·
      have hlt2 := dn_and h33
      obtain ⟨j, hj⟩ : ∃ j : Nat, j = 2 * i + 2 := ⟨_, rfl⟩
      -- region 7
      refine cw_region ?_
      refine lw_v rfl rfl (ok_move rfl (.n rfl) rfl) ?_
      refine lw_v rfl rfl (ok_assign rfl (.n rfl) rfl) ?_
      refine lw_nil ?_
      refine Ends.keep [(0, .eq _), (1, .eq _), (2, .eq _), (7, .eq _), (9, .eq _)] (.cons rfl (.cons rfl (.cons rfl (.cons rfl (.cons rfl .nil))))) ?_
      refine ends_then ?_
      refine cw_seq ?_
      refine cw_seq ?_
      -- region 8
      refine cw_region ?_
      refine lw_v rfl rfl (ok_move rfl (.n rfl) rfl) ?_
      refine lw_v rfl rfl (ok_eq (ok_move rfl (.n rfl) rfl) (c' := .int .i64 (j : Int)) (fun _ => congrArg (Value.int .i64) (by omega))) ?_
      refine lw_v rfl rfl (ok_move rfl (.n rfl) rfl) ?_
      refine lw_o rfl rfl (ok_inv (.bool (decide ((ys.getD j (0, 0)).1 < (ys.getD i (0, 0)).1))) rfl (.n rfl) mLess Try.call151 rfl rfl (fun w' hg => (hS.grow hg).bx) (fun _ w' hg => f151 A m c j i ys w' ((hS.grow hg).rd A (by omega)) (by omega) (by omega))) ?_
      intro w2 hg_; replace hS := hS.grow hg_; clear hg_
      refine lw_v rfl rfl (ok_not rfl (.n rfl) rfl) ?_
      refine lw_nil ?_
      refine Ends.keep [(0, .eq _), (1, .eq _), (2, .eq _), (7, .eq _), (9, .eq _), (39, .eq _)] (.cons rfl (.cons rfl (.cons rfl (.cons rfl (.cons rfl (.cons rfl .nil)))))) ?_
      refine ends_then ?_
      refine cw_cond rfl (fun h39 => ?_) (fun h39 => ?_)
      ·
        refine cw_exit ?_
        refine then_exit (in_other rfl (then_exit (in_exit (?_))))
        refine Ends.keep [(1, .eq _), (7, .eq _)] (.cons rfl (.cons rfl .nil)) ?_
        refine ends_then ?_
        refine cw_seq ?_
        -- region 11
        refine cw_region ?_
        refine lw_v rfl rfl (ok_move rfl (.n rfl) rfl) ?_
        refine lw_v rfl rfl (ok_move rfl (.n rfl) rfl) ?_
        refine lw_v rfl rfl (ok_gtr rfl (.n rfl) rfl rfl) ?_
        refine lw_v rfl rfl (ok_assign rfl (.n rfl) rfl) ?_
        refine lw_nil ?_
        refine Ends.keep [(6, .eq _)] (.cons rfl .nil) ?_
        refine ends_then ?_
        refine cw_ret ?_
        exact end_ret (res1 Try.results109 rfl) ⟨_, ys, rfl, hpm, hS⟩
      ·
        refine cw_skip ?_
        refine ends_then ?_
        refine cw_seq ?_
        -- region 9
        refine cw_region ?_
        refine lw_v rfl rfl (ok_move rfl (.n rfl) rfl) ?_
        refine lw_v rfl rfl (ok_move rfl (.n rfl) rfl) ?_
        refine lw_v rfl rfl (ok_eq (ok_move rfl (.n rfl) rfl) (c' := .int .i64 (j : Int)) (fun _ => congrArg (Value.int .i64) (by omega))) ?_
        refine lw_inv (xs := [_, _]) rfl rfl rfl mSwap Try.call154 rfl rfl hS (Calls.mono (f154 A m c i j ys hS.swap (by omega) (by omega)) ?_)
        rintro e w' ⟨rfl, hS9⟩
        replace hS := hS9.swap; clear hS9
        refine ⟨_, rfl, ?_⟩
        refine lw_nil ?_
        refine Ends.keep [(0, .eq _), (1, .eq _), (2, .eq _), (9, .eq _)] (.cons rfl (.cons rfl (.cons rfl (.cons rfl .nil)))) ?_
        refine ends_then ?_
        -- region 10
        refine cw_region ?_
        refine lw_v rfl rfl (ok_eq (ok_move rfl (.n rfl) rfl) (c' := .int .i64 (j : Int)) (fun _ => congrArg (Value.int .i64) (by omega))) ?_
        refine lw_v rfl rfl (ok_assign rfl (.n rfl) rfl) ?_
        refine lw_nil ?_
        refine in_normal (?_)
        -- BACK
        refine ends_back2 j _ (.cons rfl (.cons rfl (.cons rfl (.cons rfl .nil)))) ⟨⟨by omega, (swp_perm (by omega) (by omega)).trans hpm⟩, hS⟩ (by omega)
    ·
      obtain ⟨j, hj⟩ : ∃ j : Nat, j = 2 * i + 1 := ⟨_, rfl⟩
      refine cw_skip ?_
      refine ends_then ?_
      refine cw_seq ?_
      refine cw_seq ?_
      -- region 8
      refine cw_region ?_
      refine lw_v rfl rfl (ok_move rfl (.n rfl) rfl) ?_
      refine lw_v rfl rfl (ok_eq (ok_move rfl (.n rfl) rfl) (c' := .int .i64 (j : Int)) (fun _ => congrArg (Value.int .i64) (by omega))) ?_
      refine lw_v rfl rfl (ok_move rfl (.n rfl) rfl) ?_
      refine lw_o rfl rfl (ok_inv (.bool (decide ((ys.getD j (0, 0)).1 < (ys.getD i (0, 0)).1))) rfl (.n rfl) mLess Try.call151 rfl rfl (fun w' hg => (hS.grow hg).bx) (fun _ w' hg => f151 A m c j i ys w' ((hS.grow hg).rd A (by omega)) (by omega) (by omega))) ?_
      intro w3 hg_; replace hS := hS.grow hg_; clear hg_
      refine lw_v rfl rfl (ok_not rfl (.n rfl) rfl) ?_
      refine lw_nil ?_
      refine Ends.keep [(0, .eq _), (1, .eq _), (2, .eq _), (7, .eq _), (9, .eq _), (39, .eq _)] (.cons rfl (.cons rfl (.cons rfl (.cons rfl (.cons rfl (.cons rfl .nil)))))) ?_
      refine ends_then ?_
      refine cw_cond rfl (fun h39 => ?_) (fun h39 => ?_)
      ·
        refine cw_exit ?_
        refine then_exit (in_other rfl (then_exit (in_exit (?_))))
        refine Ends.keep [(1, .eq _), (7, .eq _)] (.cons rfl (.cons rfl .nil)) ?_
        refine ends_then ?_
        refine cw_seq ?_
        -- region 11
        refine cw_region ?_
        refine lw_v rfl rfl (ok_move rfl (.n rfl) rfl) ?_
        refine lw_v rfl rfl (ok_move rfl (.n rfl) rfl) ?_
        refine lw_v rfl rfl (ok_gtr rfl (.n rfl) rfl rfl) ?_
        refine lw_v rfl rfl (ok_assign rfl (.n rfl) rfl) ?_
        refine lw_nil ?_
        refine Ends.keep [(6, .eq _)] (.cons rfl .nil) ?_
        refine ends_then ?_
        refine cw_ret ?_
        exact end_ret (res1 Try.results109 rfl) ⟨_, ys, rfl, hpm, hS⟩
      ·
        refine cw_skip ?_
        refine ends_then ?_
        refine cw_seq ?_
        -- region 9
        refine cw_region ?_
        refine lw_v rfl rfl (ok_move rfl (.n rfl) rfl) ?_
        refine lw_v rfl rfl (ok_move rfl (.n rfl) rfl) ?_
        refine lw_v rfl rfl (ok_eq (ok_move rfl (.n rfl) rfl) (c' := .int .i64 (j : Int)) (fun _ => congrArg (Value.int .i64) (by omega))) ?_
        refine lw_inv (xs := [_, _]) rfl rfl rfl mSwap Try.call154 rfl rfl hS (Calls.mono (f154 A m c i j ys hS.swap (by omega) (by omega)) ?_)
        rintro e w' ⟨rfl, hS9⟩
        replace hS := hS9.swap; clear hS9
        refine ⟨_, rfl, ?_⟩
        refine lw_nil ?_
        refine Ends.keep [(0, .eq _), (1, .eq _), (2, .eq _), (9, .eq _)] (.cons rfl (.cons rfl (.cons rfl (.cons rfl .nil)))) ?_
        refine ends_then ?_
        -- region 10
        refine cw_region ?_
        refine lw_v rfl rfl (ok_eq (ok_move rfl (.n rfl) rfl) (c' := .int .i64 (j : Int)) (fun _ => congrArg (Value.int .i64) (by omega))) ?_
        refine lw_v rfl rfl (ok_assign rfl (.n rfl) rfl) ?_
        refine lw_nil ?_
        refine in_normal (?_)
        -- BACK
        refine ends_back2 j _ (.cons rfl (.cons rfl (.cons rfl (.cons rfl .nil)))) ⟨⟨by omega, (swp_perm (by omega) (by omega)).trans hpm⟩, hS⟩ (by omega)

set_option maxRecDepth 10000 in
/-- container/heap.Push, of the queue. -/
theorem f89 {B : Nat} {we w : World} {L : List Asn} (bq : Nat) (A : Option Addr) (m c : Nat) (k v : Int) (xs : List (Int × Int)) (hS : St B we w (bx bq [.slice A m c] 105 :: own eSpot 2 108 A m c xs :: L)) (hm : m ≤ 90000) :
    Calls Try.prog 89 #[qV bq, .iface 108 (.agg #[.int .i64 k, .int .i64 v])] w fun e w' => ∃ A' c' ys, e = .returned (.tuple #[]) ∧ ys.Perm ((k, v) :: xs) ∧ St B we w' (bx bq [.slice A' ys.length c'] 105 :: own eSpot 2 108 A' ys.length c' ys :: L) := by
  refine calls_cw Try.func89 rfl Try.ntmps89 rfl ?_
  have hxl : xs.length = m := (hS.ok _ (.tail _ (.head _))).1
  refine cw_seq ?_
  -- region 0
  refine cw_region ?_
  refine lw_v rfl rfl (ok_move rfl (.n rfl) rfl) ?_
  refine lw_v rfl rfl (ok_move rfl (.n rfl) rfl) ?_
  refine lw_invp (xs := [_]) rfl rfl rfl mPush Try.call153 rfl rfl (Calls.mono (f153 bq A m c k v xs hS (by omega)) ?_)
  rintro e w' ⟨A', c', rfl, hS9⟩
  replace hS := hS9; clear hS9
  have hl2 : (xs ++ [(k, v)]).length = m + 1 := by simp [hxl]
  rw [hl2] at hS
  refine ⟨_, rfl, ?_⟩
  refine lw_nil ?_
  refine Ends.keep [(0, .eq _)] (.cons rfl .nil) ?_
  refine ends_then ?_
  -- region 1
  refine cw_region ?_
  refine lw_v rfl rfl (ok_move rfl (.n rfl) rfl) ?_
  refine lw_v rfl rfl (ok_move rfl (.n rfl) rfl) ?_
  refine lw_inv (xs := []) rfl rfl rfl mLen Try.call90 rfl rfl hS (Calls.mono (f90 A' (m + 1) c' _) ?_)
  rintro e w' ⟨rfl, hg⟩
  replace hS := hS.grow hg; clear hg
  refine ⟨_, rfl, ?_⟩
  refine lw_v rfl rfl (ok_eq (ok_subi rfl (.n rfl) rfl rfl (fun _ => ⟨by omega, by omega⟩)) (c' := .int .i64 (m : Int)) (fun _ => congrArg (Value.int .i64) (by omega))) ?_
  refine lw_call (f := 108) (xs := [_, _]) rfl rfl rfl Try.call108 rfl (Calls.mono (f108 bq A' (m + 1) c' m (xs ++ [(k, v)]) hS (by omega) (by omega)) ?_)
  rintro e w' ⟨ys, rfl, hpm, hS9⟩
  replace hS := hS9; clear hS9
  refine ⟨_, rfl, ?_⟩
  refine lw_nil ?_
  have hyl : ys.length = m + 1 := by rw [hpm.length_eq, hl2]
  rw [← hyl] at hS
  exact end_norm (res0 Try.results89) ⟨A', c', ys, rfl, hpm.trans (List.perm_append_singleton _ _), hS⟩

theorem pop_perm {ys : List (Int × Int)} {m : Nat} (h0 : 0 < m) (hl : ys.length = m) : (ys.getD (m - 1) (0, 0) :: ys.take (m - 1)).Perm ys := by
  have h1 : m - 1 < ys.length := by omega
  have e : ys = ys.take (m - 1) ++ [ys.getD (m - 1) (0, 0)] := by
    have := List.take_succ_eq_append_getElem h1
    rw [show m - 1 + 1 = m by omega, List.take_of_length_le (by omega)] at this
    rw [List.getD_eq_getElem?_getD, List.getElem?_eq_getElem h1]
    exact this
  have hp := List.perm_append_singleton (ys.getD (m - 1) (0, 0)) (ys.take (m - 1))
  rw [← e] at hp
  exact hp.symm
set_option maxRecDepth 10000 in
/-- container/heap.Pop, of the queue: one of those that it holds. -/
theorem f91 {B : Nat} {we w : World} {L : List Asn} (bq : Nat) (A : Option Addr) (m c : Nat) (xs : List (Int × Int)) (hS : St B we w (bx bq [.slice A m c] 105 :: own eSpot 2 108 A m c xs :: L)) (hm : m ≤ 90000) (h0 : 0 < m) :
    Calls Try.prog 91 #[qV bq] w fun e w' => ∃ x ys, e = .returned (.iface 108 (.agg (eSpot x).toArray)) ∧ (x :: ys).Perm xs ∧ St B we w' (bx bq [.slice A ys.length c] 105 :: own eSpot 2 108 A ys.length c ys :: L) := by
  refine calls_cw Try.func91 rfl Try.ntmps91 rfl ?_
  have hxl : xs.length = m := (hS.ok _ (.tail _ (.head _))).1
  refine cw_seq ?_
  -- region 0
  refine cw_region ?_
  refine lw_v rfl rfl (ok_assign rfl (.n rfl) rfl) ?_
  refine lw_nil ?_
  refine Ends.keep [(0, .eq _)] (.cons rfl .nil) ?_
  refine ends_then ?_
  refine cw_seq ?_
  -- region 1
  refine cw_region ?_
  refine lw_v rfl rfl (ok_move rfl (.n rfl) rfl) ?_
  refine lw_inv (xs := []) rfl rfl rfl mLen Try.call90 rfl rfl hS (Calls.mono (f90 A m c _) ?_)
  rintro e w' ⟨rfl, hg⟩
  replace hS := hS.grow hg; clear hg
  refine ⟨_, rfl, ?_⟩
  refine lw_v rfl rfl (ok_eq (ok_subi rfl (.n rfl) rfl rfl (fun _ => ⟨by omega, by omega⟩)) (c' := .int .i64 ((m - 1 : Nat) : Int)) (fun _ => congrArg (Value.int .i64) (by omega))) ?_
  refine lw_v rfl rfl (ok_assign rfl (.n rfl) rfl) ?_
  refine lw_nil ?_
  refine Ends.keep [(0, .eq _), (3, .eq _)] (.cons rfl (.cons rfl .nil)) ?_
  refine ends_then ?_
  refine cw_seq ?_
  -- region 2
  refine cw_region ?_
  refine lw_v rfl rfl (ok_move rfl (.n rfl) rfl) ?_
  refine lw_v rfl rfl (ok_move rfl (.n rfl) rfl) ?_
  refine lw_inv (xs := [_, _]) rfl rfl rfl mSwap Try.call154 rfl rfl hS (Calls.mono (f154 A m c 0 (m - 1) xs hS.swap (by omega) (by omega)) ?_)
  rintro e w' ⟨rfl, hS9⟩
  replace hS := hS9.swap; clear hS9
  refine ⟨_, rfl, ?_⟩
  refine lw_nil ?_
  refine Ends.keep [(0, .eq _), (3, .eq _)] (.cons rfl (.cons rfl .nil)) ?_
  refine ends_then ?_
  refine cw_seq ?_
  -- region 3
  refine cw_region ?_
  refine lw_v rfl rfl (ok_move rfl (.n rfl) rfl) ?_
  refine lw_v rfl rfl (ok_move rfl (.n rfl) rfl) ?_
  refine lw_call (f := 109) (xs := [_, _, _]) rfl rfl rfl Try.call109 rfl (Calls.mono (f109 bq A m c 0 (m - 1) (swp xs (0, 0) 0 (m - 1)) hS (by omega) (by omega) (by omega)) ?_)
  rintro e w' ⟨v, ys, rfl, hpm, hS9⟩
  replace hS := hS9; clear hS9
  have hp2 := hpm.trans (swp_perm (by omega) (by omega))
  have hyl : ys.length = m := by rw [hp2.length_eq, hxl]
  refine ⟨_, rfl, ?_⟩
  refine lw_nil ?_
  refine Ends.keep [(0, .eq _)] (.cons rfl .nil) ?_
  refine ends_then ?_
  refine cw_seq ?_
  -- region 4
  refine cw_region ?_
  refine lw_v rfl rfl (ok_move rfl (.n rfl) rfl) ?_
  refine lw_invp (xs := []) rfl rfl rfl mPop Try.call152 rfl rfl (Calls.mono (f152 bq A m c ys hS (by omega) (by omega)) ?_)
  rintro e w' ⟨rfl, hS9⟩
  replace hS := hS9; clear hS9
  refine ⟨_, rfl, ?_⟩
  refine lw_v rfl rfl (ok_assign rfl (.n rfl) rfl) ?_
  refine lw_nil ?_
  refine Ends.keep [(2, .eq _)] (.cons rfl .nil) ?_
  refine ends_then ?_
  refine cw_ret ?_
  have htl : (ys.take (m - 1)).length = m - 1 := by rw [List.length_take]; omega
  refine end_ret (res1 Try.results91 rfl) ⟨_, ys.take (m - 1), rfl, ?_, ?_⟩
  · exact (pop_perm (by omega) hyl).trans hp2
  · rw [htl]; exact hS

set_option maxRecDepth 10000 in
/-- slices.Clone of what is not empty. -/
theorem f88 (A : Option Addr) (m c : Nat) (xs : List Int) (w : World) (hr : (sl (eInt .i64) 1 A m c xs).p w) (h0 : 0 < m) (hm : m ≤ 100000) : RetL 88 [.slice A m c] w xs := by
  refine calls_cw Try.func88 rfl Try.ntmps88 rfl ?_
  have hS := (St.start w).args (Nat.le_refl _) _ hr rfl
  have hrl := hr.1.1
  have hA : A.isNone = false := by
    have := hS.nn (A := A) (enc := eInt .i64) (sz := 1) (m0 := m) (c := c) (xs := xs) h0
    cases A with
    | none => cases this
    | some a => rfl
  refine cw_seq ?_
  -- region 0
  refine cw_region ?_
  refine lw_v rfl rfl (ok_assign rfl (.n rfl) rfl) ?_
  refine lw_nil ?_
  refine Ends.keep [(0, .eq _)] (.cons rfl .nil) ?_
  refine ends_then ?_
  refine cw_seq ?_
  refine cw_seq ?_
  -- region 1
  refine cw_region ?_
  refine lw_v rfl rfl (ok_move rfl (.n rfl) rfl) ?_
  refine lw_v rfl rfl (ok_eq (ok_eqnil rfl (.n rfl) Try.underlying26 rfl rfl) (c' := .bool false) (fun _ => congrArg Value.bool hA)) ?_
  refine lw_nil ?_
  refine Ends.keep [(0, .eq _), (4, .eq _)] (.cons rfl (.cons rfl .nil)) ?_
  refine ends_then ?_
  refine cw_cond rfl (fun h4 => ?_) (fun h4 => ?_)
  ·
    cases h4
  ·
    refine cw_skip ?_
    refine ends_then ?_
    refine cw_seq ?_
    -- region 3
    refine cw_region ?_
    refine lw_ls0 (enc := (eInt .i64)) rfl rfl rfl Try.underlying26 Try.sizeOf3 hS ?_
    clear hS; intro A5 c5 w1 _ hS
    refine lw_v rfl rfl (ok_move rfl (.n rfl) rfl) ?_
    refine lw_append0 (enc := (eInt .i64)) rfl rfl rfl Try.underlying26 info3 rfl rfl rfl hS (by omega) (by omega) ?_
    intro A7 c7 wq hS1; replace hS := hS1 _ (Rep.r); clear hS1
    rw [List.nil_append] at hS ⊢
    refine lw_v rfl rfl (ok_assign rfl (.n rfl) rfl) ?_
    refine lw_nil ?_
    refine Ends.keep [(2, .eq _)] (.cons rfl .nil) ?_
    refine ends_then ?_
    refine cw_ret ?_
    exact end_ret (res1 Try.results88 rfl) ⟨A7, c7, rfl, hS.below, fun b hb => hS.ge _ (.head _) rfl b hb, hS.ok _ (.head _)⟩

end Go.Proofs.Ytnpgeohkmdcbkaa.Aq

namespace Go.Proofs.Ytnpgeohkmdcbkaa.Aq

/-- D on its way; xs the queue; P: who is looked at now. -/
structure RX (N : Nat) (E : Nat → Nat → Prop) (h : Nat → Int) (D : List Int) (xs : List (Int × Int)) (P : Nat → Prop) : Prop where
  pre : LowPre N E h D
  ent : ∀ e ∈ xs, 0 ≤ e.2 ∧ e.2 < N ∧ D.getD e.2.toNat 0 ≤ e.1 ∧ e.1 ≤ N
  cov : ∀ y, y < N → (D.getD y 0, (y : Int)) ∈ xs ∨ (∀ x, x < N → E x y → D.getD x 0 ≤ D.getD y 0 + 1) ∨ P y
section
variable {N : Nat} {E : Nat → Nat → Prop} {h : Nat → Int} {D : List Int} {xs ys : List (Int × Int)} {P : Nat → Prop} {k : Int} {v : Nat}
theorem RX.start (p : LowPre N E h D) (h1 : ∀ y, y < N → (D.getD y 0, (y : Int)) ∈ xs) (h2 : ∀ e ∈ xs, ∃ y : Nat, y < N ∧ e = (D.getD y 0, (y : Int))) (h3 : ∀ y, y < N → D.getD y 0 ≤ N) : RX N E h D xs (fun _ => False) :=
  ⟨p, fun e he => by obtain ⟨y, hy, rfl⟩ := h2 e he; exact ⟨by omega, by omega, Int.le_refl _, h3 y hy⟩, fun y hy => .inl (h1 y hy)⟩
theorem RX.pass (r : RX N E h D xs (fun _ => False)) (hp : ((k, (v : Int)) :: ys).Perm xs) (hne : D.getD v 0 < k) : RX N E h D ys (fun _ => False) :=
  ⟨r.pre, fun e he => r.ent e (hp.subset (List.mem_cons_of_mem _ he)), fun y hy => (r.cov y hy).imp (fun hm => by
    rcases List.mem_cons.1 (hp.symm.subset hm) with he | he
    · injection he with e1 e2
      have : y = v := by omega
      subst this; omega
    · exact he) id⟩
theorem RX.take (r : RX N E h D xs (fun _ => False)) (hp : ((k, (v : Int)) :: ys).Perm xs) : RX N E h D ys (fun y => y = v) :=
  ⟨r.pre, fun e he => r.ent e (hp.subset (List.mem_cons_of_mem _ he)), fun y hy => by
    rcases r.cov y hy with hm | hm | hm
    · rcases List.mem_cons.1 (hp.symm.subset hm) with he | he
      · injection he with e1 e2
        exact .inr (.inr (by omega))
      · exact .inl he
    · exact .inr (.inl hm)
    · exact hm.elim⟩
theorem RX.low {u : Nat} {zs : List (Int × Int)} (r : RX N E h D xs (fun y => y = v)) (hh : ∀ y, y < N → h y ≤ N) (hu : u < N) (hv : v < N) (he : E u v) (hlt : D.getD v 0 + 1 < D.getD u 0) (hp : zs.Perm ((D.getD v 0 + 1, (u : Int)) :: xs)) :
    RX N E h (D.set u (D.getD v 0 + 1)) zs (fun y => y = v) := by
  have hl := r.pre.len
  have get := fun y => set_get (D := D) (u := u) (z := D.getD v 0 + 1) (by omega) y
  have dn : ∀ y, (D.set u (D.getD v 0 + 1)).getD y 0 ≤ D.getD y 0 := fun y => by
    rw [get y]; split
    · rename_i e; subst e; omega
    · exact Int.le_refl _
  have hDu := r.pre.le u hu
  have hhu := hh u hu
  refine ⟨r.pre.step hu hv he hlt, fun e hm => ?_, fun y hy => ?_⟩
  · rcases List.mem_cons.1 (hp.subset hm) with rfl | hm
    · refine ⟨by show (0 : Int) ≤ (u : Int); omega, by show (u : Int) < (N : Int); omega, ?_, by show D.getD v 0 + 1 ≤ (N : Int); omega⟩
      simp only [Int.toNat_natCast]
      rw [get, if_pos rfl]; exact Int.le_refl _
    · have := r.ent e hm
      have := dn e.2.toNat
      exact ⟨by omega, by omega, by omega, by omega⟩
  · by_cases h1 : y = u
    · subst h1
      left
      rw [get, if_pos rfl]
      exact hp.symm.subset List.mem_cons_self
    · rw [get y, if_neg h1]
      rcases r.cov y hy with hm | hm | hm
      · exact .inl (hp.symm.subset (List.mem_cons_of_mem _ hm))
      · exact .inr (.inl fun x hx hE => Int.le_trans (dn x) (hm x hx hE))
      · exact .inr (.inr hm)
theorem RX.done (r : RX N E h D xs (fun y => y = v)) (hs : ∀ x, x < N → E x v → D.getD x 0 ≤ D.getD v 0 + 1) : RX N E h D xs (fun _ => False) :=
  ⟨r.pre, r.ent, fun y hy => by
    rcases r.cov y hy with hm | hm | hm
    · exact .inl hm
    · exact .inr (.inl hm)
    · subst hm; exact .inr (.inl hs)⟩
theorem RX.stop (r : RX N E h D [] (fun _ => False)) : Low N E h D := r.pre.low fun u w hu hw he => by
  rcases r.cov w hw with hm | hm | hm
  · cases hm
  · exact hm u hu he
  · exact hm.elim
end
/-- By how much it can fall yet. -/
theorem tot_low {D : List Int} {N u : Nat} {z : Int} (hl : D.length = N) (hu : u < N) (h0 : 0 ≤ z) (h1 : z < D.getD u 0) : tot (D.set u z) + 1 ≤ tot D := tot_set (by omega) h0 h1
end Go.Proofs.Ytnpgeohkmdcbkaa.Aq

namespace Go.Proofs.Ytnpgeohkmdcbkaa.Aq
open Go Go.RowKit

theorem pl105 : ∀ w, (#[({ name := "row", type := 103, offset := 0, embedded := true, tag := "", pkgPath := "acequia/repair", byteOffset := 0 } : Field)].mapM fun (f : Field) => do pure (f.offset, ← sizeOf f.type)).run Try.prog w = .ok #[(0, 1)] w := by
  intro w
  simp [Try.sizeOf103]
theorem St.perm {B : Nat} {we w : World} {L L' : List Asn} (h : St B we w L) (hp : L.Perm L') : St B we w L' :=
  ⟨h.below, h.base, fun a ha => h.ok a (hp.symm.subset ha), fun a ha => h.ge a (hp.symm.subset ha), (hp.pairwise_iff (fun {x y} hxy ho b hb hb' => hxy ho.symm b hb' hb)).1 h.apart⟩
theorem St.rot3 {B : Nat} {we w : World} {L : List Asn} {x y z : Asn} (h : St B we w (x :: y :: z :: L)) : St B we w (y :: z :: x :: L) := h.perm ((List.Perm.swap y x _).trans ((List.Perm.swap z x _).cons y))
theorem St.drop3 {B : Nat} {we w : World} {L : List Asn} {x y z : Asn} (h : St B we w (x :: y :: z :: L)) : St B we w (x :: y :: L) := h.sub (.cons_cons _ (.cons_cons _ (.cons _ (List.Sublist.refl _))))
theorem low_no {c : Cs} {res h : List Int} {m : Nat} (hl : res.length = m) (hh : (!decide ((m : Int) = c.Head.length) || !rightB c h) = true) : mayB c res h = false := by
  subst hl; exact may_no hh
theorem low_yes {c : Cs} {res h : List Int} {m : Nat} (hl : res.length = m) (hh : (!decide ((m : Int) = c.Head.length) || !rightB c h) = false) : mayB c res h = true := by
  subst hl; exact may_yes hh
theorem and3b {u s r d k : Int} (h : ((!decide (u = s) && decide (0 < r)) && decide (k < d)) = true) : (¬ u = s ∧ 0 < r) ∧ k < d := by
  simpa using h
theorem low_not {c : Cs} {D : List Int} {u : Nat} {k r : Int} (h : ((!decide ((u : Int) = (c.S : Int)) && decide (0 < r)) && decide (k + 1 < D.getD (u : Int).toNat 0)) = false) (h1 : (u : Int).toNat ≠ c.S) (h2 : 0 < r) : D.getD (u : Int).toNat 0 ≤ k + 1 := by
  rw [decide_eq_false (by omega : ¬ (u : Int) = (c.S : Int)), decide_eq_true h2] at h
  have := of_decide_eq_false (by simpa using h : decide (k + 1 < D.getD (u : Int).toNat 0) = false)
  omega
set_option maxHeartbeats 2000000 in
set_option maxRecDepth 10000 in
/-- repair.Lower. -/
theorem f48 (c : Cs) (q : Q6) (res h : List Int) {m1 m2 : Nat} (A1 : Option Addr) (c1 : Nat) (A2 : Option Addr) (c2 : Nat) (w : World) (hwf : WF c) (hc : CsAt c q w) (hr : (sl (eInt .i64) 1 A1 m1 c1 res).p w) (hh : (sl (eInt .i64) 1 A2 m2 c2 h).p w) : RetL 48 [csV c q, .slice A1 m1 c1, .slice A2 m2 c2] w (lowerL c res h) := by
  refine calls_cw Try.func48 rfl Try.ntmps48 rfl ?_
  have hS := ((St.ofc hc).args (Nat.le_refl _) _ hr rfl).args (Nat.le_refl _) _ hh rfl
  have hM := hwf.m
  have hN := hwf.hi
  have hlo := hwf.lo
  have hfl := hwf.fl
  have hrr := hr.2.1
  have hrl := hr.1.1
  have hhl := hh.1.1
  have hrvl := hwf.rl
  refine cw_seq ?_
  -- region 0
  refine cw_region ?_
  refine lw_box rfl rfl rfl rfl hS ?_
  clear hS; intro b3 w1 _ _ hS
  refine lw_v rfl rfl (ok_assign rfl (.n rfl) rfl) ?_
  refine lw_nil ?_
  refine Ends.keep [(1, .eq _), (2, .eq _), (3, .eq _)] (.cons rfl (.cons rfl (.cons rfl .nil))) ?_
  refine ends_then ?_
  refine cw_seq ?_
  refine cw_seq ?_
  -- region 1
  refine cw_region ?_
  refine lw_v rfl rfl (ok_move rfl (.n rfl) rfl) ?_
  refine lw_v rfl rfl (ok_len rfl (.n rfl) Try.underlying25 rfl) ?_
  refine lw_v rfl rfl (ok_ldS rfl (.n rfl) rfl Try.isAgg29 Try.sizeOf29 hS rfl) ?_
  refine lw_call (f := 77) (xs := [_]) rfl rfl rfl Try.call77 rfl (Calls.mono (f77 c q _) ?_)
  rintro e w' ⟨rfl, hg⟩
  replace hS := hS.grow hg; clear hg
  refine ⟨_, rfl, ?_⟩
  refine lw_v rfl rfl (ok_neq rfl (.n rfl) rfl rfl) ?_
  refine lw_v rfl rfl (ok_move rfl (.n rfl) rfl) ?_
  refine lw_v rfl rfl (ok_ldS rfl (.s rfl rfl) rfl Try.isAgg29 Try.sizeOf29 hS rfl) ?_
  refine lw_v rfl rfl (ok_move rfl (.s rfl rfl) rfl) ?_
  refine lw_o rfl rfl (ok_callg (.bool (rightB c h)) rfl (.s rfl rfl) Try.call28 rfl rfl (fun _ w' hg => f28g c q h A2 c2 w' hwf ((hS.grow hg).rd A2 hh.2.1))) ?_
  intro w2 hg_; replace hS := hS.grow hg_; clear hg_
  refine lw_v rfl rfl (ok_not rfl (.s rfl rfl) rfl) ?_
  refine lw_v rfl rfl (ok_or rfl rfl rfl rfl) ?_
  refine lw_nil ?_
  refine Ends.keep [(1, .eq _), (2, .eq _), (3, .eq _), (24, .eq _)] (.cons rfl (.cons rfl (.cons rfl (.cons rfl .nil)))) ?_
  refine ends_then ?_
  refine cw_cond rfl (fun h24 => ?_) (fun h24 => ?_)
  ·
    have hno : mayB c res h = false := low_no hrl h24
    replace hS := hS.nil (eInt .i64) 1 3
    refine cw_seq ?_
    -- region 2
    refine cw_region ?_
    refine lw_v rfl rfl (ok_assign rfl (.n rfl) rfl) ?_
    refine lw_nil ?_
    refine Ends.keep [(6, .eq _)] (.cons rfl .nil) ?_
    refine ends_then ?_
    refine cw_ret ?_
    refine then_ret (?_)
    rw [lowerL_no hno]
    exact end_ret (res1 Try.results48 rfl) ⟨none, 0, rfl, hS.below, fun b hb => hS.ge _ (.head _) rfl b hb, hS.ok _ (.head _)⟩
  ·
    have hm : mayB c res h = true := low_yes hrl h24
    obtain ⟨hrm, hrh⟩ := (may_iff hwf).1 hm
    have hhN := hrh.len
    refine cw_skip ?_
    refine ends_then ?_
    refine cw_seq ?_
    -- region 3
    refine cw_region ?_
    refine lw_v rfl rfl (ok_move rfl (.n rfl) rfl) ?_
    refine lw_call (f := 88) (xs := [_]) rfl rfl rfl Try.call88 rfl (Calls.mono (f88 A2 m2 c2 h _ (hS.rd A2 (by omega)) (by omega) (by omega)) ?_)
    rintro e w' ⟨A26, c26, rfl, hg, hfr, ho⟩
    replace hS := hS.new hg _ ho hfr; clear hg ho hfr
    rw [hhN] at hS ⊢
    refine ⟨_, rfl, ?_⟩
    refine lw_v rfl rfl (ok_assign rfl (.n rfl) rfl) ?_
    refine lw_nil ?_
    refine Ends.keep [(1, .eq _), (3, .eq _), (7, .eq _)] (.cons rfl (.cons rfl (.cons rfl .nil))) ?_
    refine ends_then ?_
    refine cw_seq ?_
    -- region 4
    refine cw_region ?_
    refine lw_v rfl rfl (ok_build (cells := #[.slice none 0 0]) rfl (.n rfl) Try.underlying105 Try.zeroValue105 pl105 rfl (by kernel_rfl)) ?_
    refine lw_box rfl rfl rfl rfl hS ?_
    clear hS; intro b28 w3 _ _ hS
    refine lw_v rfl rfl (ok_assign rfl (.n rfl) rfl) ?_
    refine lw_nil ?_
    refine Ends.keep [(1, .eq _), (3, .eq _), (7, .eq _), (8, .eq _)] (.cons rfl (.cons rfl (.cons rfl (.cons rfl .nil)))) ?_
    refine ends_then ?_
    refine cw_seq ?_
    refine cw_seq ?_
    -- region 5
    refine cw_region ?_
    refine lw_v rfl rfl (ok_move rfl (.n rfl) rfl) ?_
    refine lw_v rfl rfl (ok_len rfl (.n rfl) Try.underlying26 rfl) ?_
    refine lw_v rfl rfl (ok_move rfl (.n rfl) rfl) ?_
    refine lw_nil ?_
    refine Ends.keep [(1, .eq _), (3, .eq _), (7, .eq _), (8, .eq _), (29, .eq _), (30, .eq _), (31, .eq _)] (.cons rfl (.cons rfl (.cons rfl (.cons rfl (.cons rfl (.cons rfl (.cons rfl .nil))))))) ?_
    refine ends_then ?_
    refine cw_block ?_
    -- LOOP at region 6: changed live slots [31], kept [1, 3, 7, 8, 29, 30]
    refine cw_loop2 [(1, .eq _), (3, .eq _), (7, .eq _), (8, .eq _), (29, .eq _), (30, .eq _)] (fun (j : Nat) (xs : List (Int × Int)) => [(31, .eq (.int .i64 j))]) (fun j xs w' => (j ≤ c.N ∧ xs.length = j ∧ (∀ y, y < j → (h.getD y 0, (y : Int)) ∈ xs) ∧ ∀ e ∈ xs, ∃ y : Nat, y < j ∧ e = (h.getD y 0, (y : Int))) ∧ ∃ A' c', St w.heap.size w w' [bx b28 [.slice A' xs.length c'] 105, own eSpot 2 108 A' xs.length c' xs, own (eInt .i64) 1 3 A26 c.N c26 h, bx b3 (csV c q).cells.toList 29, sl (eInt .i64) 1 A2 m2 c2 h, sl (eInt .i64) 1 A1 m1 c1 res, sl (eInt .i64) 1 q.a0 c.First.length q.c0 c.First, sl (eInt .i64) 1 q.a1 c.Head.length q.c1 c.Head, sl (eInt .i64) 1 q.a2 c.Rev.length q.c2 c.Rev, sl (eInt .i64) 1 q.a3 c.Cap.length q.c3 c.Cap, sl (eInt .i64) 1 q.a4 c.Arc.length q.c4 c.Arc, sl eBool 1 q.a5 c.Back.length q.c5 c.Back]) (fun j _ => c.N - j) 0 [] (.cons rfl (.cons rfl (.cons rfl (.cons rfl (.cons rfl (.cons rfl .nil)))))) (.cons rfl (.cons rfl (.cons rfl (.cons rfl (.cons rfl (.cons rfl (.cons rfl .nil))))))) ⟨⟨Nat.zero_le _, rfl, fun y hy => absurd hy (Nat.not_lt_zero y), fun e he => by cases he⟩, none, 0, (hS.nil eSpot 2 108).swap⟩ ?_
    clear hS
    rintro j xs wr ⟨⟨hj, hxl, hx1, hx2⟩, A', c', hS⟩
    refine cw_seq ?_
    -- region 6
    refine cw_region ?_
    refine lw_v rfl rfl (ok_lss rfl (.n rfl) rfl rfl) ?_
    refine lw_nil ?_
    refine Ends.keep [(1, .eq _), (3, .eq _), (7, .eq _), (8, .eq _), (29, .eq _), (30, .eq _), (31, .eq _), (32, .eq _)] (.cons rfl (.cons rfl (.cons rfl (.cons rfl (.cons rfl (.cons rfl (.cons rfl (.cons rfl .nil)))))))) ?_
    refine ends_then ?_
    refine cw_seq ?_
    refine cw_cond rfl (fun h32 => ?_) (fun h32 => ?_)
    ·
      have hjN : j < c.N := by have := of_decide_eq_true h32; omega
      have hjr := hrh.rng j hjN
      refine cw_skip ?_
      refine ends_then ?_
      refine cw_seq ?_
      refine cw_block ?_
      refine cw_seq ?_
      -- region 7
      refine cw_region ?_
      refine lw_v rfl rfl (ok_move rfl (.n rfl) rfl) ?_
      refine lw_v rfl rfl (ok_ix rfl (.n rfl) Try.underlying26 Try.sizeOf3 rfl rfl hS (fun _ => ⟨by omega, by omega⟩)) ?_
      refine lw_v rfl rfl (ok_eq (ok_ldx rfl (.n rfl) rfl Try.isAgg3 hS (fun _ => ⟨by omega, by omega⟩) (by rfl)) (c' := .int .i64 (h.getD j 0)) (fun _ => rfl)) ?_
      refine lw_v rfl rfl (ok_assign rfl (.n rfl) rfl) ?_
      refine lw_v rfl rfl (ok_assign rfl (.n rfl) rfl) ?_
      refine lw_nil ?_
      refine Ends.keep [(1, .eq _), (3, .eq _), (7, .eq _), (8, .eq _), (9, .eq _), (10, .eq _), (29, .eq _), (30, .eq _), (31, .eq _)] (.cons rfl (.cons rfl (.cons rfl (.cons rfl (.cons rfl (.cons rfl (.cons rfl (.cons rfl (.cons rfl .nil))))))))) ?_
      refine ends_then ?_
      -- region 8
      refine cw_region ?_
      refine lw_v rfl rfl (ok_move rfl (.n rfl) rfl) ?_
      refine lw_v rfl rfl (ok_iface rfl (.n rfl) Try.underlying101 rfl rfl) ?_
      refine lw_v rfl rfl (ok_move rfl (.n rfl) rfl) ?_
      refine lw_v rfl rfl (ok_move rfl (.n rfl) rfl) ?_
      refine lw_v rfl rfl (ok_build (cells := #[.int .i64 (h.getD j 0), .int .i64 (j : Int)]) rfl (.n rfl) Try.underlying108 Try.zeroValue108 pl108 rfl (by kernel_rfl)) ?_
      refine lw_v rfl rfl (ok_iface rfl (.n rfl) Try.underlying108 rfl rfl) ?_
      refine lw_call (f := 89) (xs := [_, _]) rfl rfl rfl Try.call89 rfl (Calls.mono (f89 b28 A' xs.length c' (h.getD j 0) (j : Int) xs hS (by omega)) ?_)
      rintro e w' ⟨A2', c2', zs, rfl, hpm, hS9⟩
      replace hS := hS9; clear hS9
      refine ⟨_, rfl, ?_⟩
      refine lw_nil ?_
      refine in_normal (?_)
      refine Ends.keep [(1, .eq _), (3, .eq _), (7, .eq _), (8, .eq _), (29, .eq _), (30, .eq _), (31, .eq _)] (.cons rfl (.cons rfl (.cons rfl (.cons rfl (.cons rfl (.cons rfl (.cons rfl .nil))))))) ?_
      refine ends_then ?_
      -- region 9
      refine cw_region ?_
      refine lw_v rfl rfl (ok_addi rfl (.n rfl) rfl rfl (fun _ => ⟨by omega, by omega⟩)) ?_
      refine lw_v rfl rfl (ok_move rfl (.n rfl) rfl) ?_
      refine lw_nil ?_
      -- BACK
      refine ends_back2 (j + 1) zs (.cons rfl (.cons rfl (.cons rfl (.cons rfl (.cons rfl (.cons rfl (.cons rfl .nil))))))) ⟨⟨by omega, by rw [hpm.length_eq, List.length_cons, hxl], fun y hy => ?_, fun e he => ?_⟩, A2', c2', hS⟩ (by omega)
      · rcases Nat.lt_or_ge y j with hlt | hge
        · exact hpm.symm.subset (List.mem_cons_of_mem _ (hx1 y hlt))
        · have : y = j := by omega
          subst this; exact hpm.symm.subset List.mem_cons_self
      · rcases List.mem_cons.1 (hpm.subset he) with rfl | he
        · exact ⟨j, by omega, rfl⟩
        · obtain ⟨y, hy, rfl⟩ := hx2 e he; exact ⟨y, by omega, rfl⟩
    ·
      have hje : j = c.N := by have := of_decide_eq_false h32; omega
      refine cw_exit ?_
      refine then_exit (then_exit (in_exit (?_)))
      refine Ends.keep [(1, .eq _), (3, .eq _), (7, .eq _), (8, .eq _)] (.cons rfl (.cons rfl (.cons rfl (.cons rfl .nil)))) ?_
      refine ends_then ?_
      refine cw_seq ?_
      refine cw_block ?_
      -- LOOP at region 10: changed live slots [], kept [1, 3, 7, 8]
      refine cw_loop2 [(1, .eq _), (3, .eq _), (7, .eq _), (8, .eq _)] (fun (D : List Int) (xs : List (Int × Int)) => []) (fun D xs w' => (RX c.N (EdgeS c res) (fun y => h.getD y 0) D xs (fun _ => False) ∧ 2 * tot D + xs.length ≤ 1000) ∧ ∃ A' c', St w.heap.size w w' [bx b28 [.slice A' xs.length c'] 105, own eSpot 2 108 A' xs.length c' xs, own (eInt .i64) 1 3 A26 c.N c26 D, bx b3 (csV c q).cells.toList 29, sl (eInt .i64) 1 A2 m2 c2 h, sl (eInt .i64) 1 A1 m1 c1 res, sl (eInt .i64) 1 q.a0 c.First.length q.c0 c.First, sl (eInt .i64) 1 q.a1 c.Head.length q.c1 c.Head, sl (eInt .i64) 1 q.a2 c.Rev.length q.c2 c.Rev, sl (eInt .i64) 1 q.a3 c.Cap.length q.c3 c.Cap, sl (eInt .i64) 1 q.a4 c.Arc.length q.c4 c.Arc, sl eBool 1 q.a5 c.Back.length q.c5 c.Back]) (fun D xs => 2 * tot D + xs.length) h xs (.cons rfl (.cons rfl (.cons rfl (.cons rfl .nil)))) (.cons rfl (.cons rfl (.cons rfl (.cons rfl .nil)))) ⟨⟨RX.start (LowPre.start hhN (fun _ _ => rfl) fun y hy => (hrh.rng y hy).1) (fun y hy => hx1 y (by omega)) (fun e he => by obtain ⟨y, hy, e2⟩ := hx2 e he; exact ⟨y, by omega, e2⟩) fun y hy => (hrh.rng y hy).2, by have := tot_le hhN (b := c.N) fun y hy => (hrh.rng y hy).2; have h16 : c.N * c.N ≤ 16 * 16 := Nat.mul_le_mul hN hN; omega⟩, A', c', hS⟩ ?_
      clear hS
      clear hx1 hx2 hxl xs
      rintro D xs wr ⟨⟨hrx, hmu⟩, A', c', hS⟩
      have hDl := hrx.pre.len
      refine cw_seq ?_
      refine cw_seq ?_
      -- region 10
      refine cw_region ?_
      refine lw_v rfl rfl (ok_move rfl (.n rfl) rfl) ?_
      refine lw_v rfl rfl (ok_nil rfl (.n rfl) rfl) ?_
      refine lw_v rfl rfl (ok_fb rfl (.n rfl) Try.underlying105 rfl Try.sizeOf103 (by decide) rfl) ?_
      refine lw_v rfl rfl (ok_ldb rfl (.n rfl) rfl Try.isAgg103 hS (by rfl)) ?_
      refine lw_call (f := 90) (xs := [_]) rfl rfl rfl Try.call90 rfl (Calls.mono (f90 A' xs.length c' _) ?_)
      rintro e w' ⟨rfl, hg⟩
      replace hS := hS.grow hg; clear hg
      refine ⟨_, rfl, ?_⟩
      refine lw_v rfl rfl (ok_gtr rfl (.n rfl) rfl rfl) ?_
      refine lw_nil ?_
      refine Ends.keep [(1, .eq _), (3, .eq _), (7, .eq _), (8, .eq _), (49, .eq _)] (.cons rfl (.cons rfl (.cons rfl (.cons rfl (.cons rfl .nil))))) ?_
      refine ends_then ?_
      refine cw_cond rfl (fun h49 => ?_) (fun h49 => ?_)
      ·
        have hx0 : 0 < xs.length := by have := of_decide_eq_true h49; omega
        refine cw_skip ?_
        refine ends_then ?_
        refine cw_block ?_
        refine cw_seq ?_
        -- region 11
        refine cw_region ?_
        refine lw_v rfl rfl (ok_move rfl (.n rfl) rfl) ?_
        refine lw_v rfl rfl (ok_iface rfl (.n rfl) Try.underlying101 rfl rfl) ?_
        refine lw_call (f := 91) (xs := [_]) rfl rfl rfl Try.call91 rfl (Calls.mono (f91 b28 A' xs.length c' xs hS (by omega) (by omega)) ?_)
        rintro e w' ⟨x, ys, rfl, hpm, hS9⟩
        replace hS := hS9; clear hS9
        obtain ⟨hx0, hx1, hx2, hx3⟩ := hrx.ent x (hpm.subset List.mem_cons_self)
        obtain ⟨k, v0⟩ := x
        obtain ⟨v, rfl⟩ : ∃ v : Nat, v0 = (v : Int) := ⟨v0.toNat, (Int.toNat_of_nonneg hx0).symm⟩
        have hvN : v < c.N := by simp only at hx1; omega
        have hk0 : D.getD (v : Int).toNat 0 ≤ k := hx2
        have hk1 : k ≤ c.N := hx3
        have hDv0 := hrx.pre.nn v hvN
        have hDv1 : 0 ≤ D.getD (v : Int).toNat 0 := hDv0
        have hylen := hpm.length_eq
        simp only [List.length_cons] at hylen
        refine ⟨_, rfl, ?_⟩
        refine lw_v rfl rfl (ok_tassert rfl (.n rfl) Try.underlying108 rfl rfl) ?_
        refine lw_alloc rfl rfl rfl Try.zeroValue108 hS ?_
        clear hS; intro b11 w4 _ _ hS
        refine lw_stS rfl rfl rfl rfl rfl (by kernel_rfl) hS rfl (by rfl) (by rfl) ?_
        clear hS; intro w5 hS
        refine lw_nil ?_
        refine Ends.keep [(1, .eq _), (3, .eq _), (7, .eq _), (8, .eq _), (11, .eq _)] (.cons rfl (.cons rfl (.cons rfl (.cons rfl (.cons rfl .nil))))) ?_
        refine ends_then ?_
        refine cw_seq ?_
        refine cw_seq ?_
        -- region 12
        refine cw_draw (by kernel_rfl) (List.take 7 _) (List.drop 7 _) (List.take_append_drop 7 _).symm (by kernel_rfl) ?_
        refine free_v (ok_fb rfl (.n rfl) Try.underlying108 rfl Try.sizeOf3 (by decide) rfl) ?_
        refine free_v (ok_eq (ok_ldb rfl (.n rfl) rfl Try.isAgg3 hS (by rfl)) (c' := .int .i64 k) (fun _ => rfl)) ?_
        refine free_v (ok_move rfl (.n rfl) rfl) ?_
        refine free_v (ok_fb rfl (.n rfl) Try.underlying108 rfl Try.sizeOf3 (by decide) rfl) ?_
        refine free_v (ok_eq (ok_ldb rfl (.n rfl) rfl Try.isAgg3 hS (by rfl)) (c' := .int .i64 (v : Int)) (fun _ => rfl)) ?_
        refine free_v (ok_ix rfl (.n rfl) Try.underlying26 Try.sizeOf3 rfl rfl hS (fun _ => ⟨by omega, by omega⟩)) ?_
        refine free_v (ok_ldx rfl (.n rfl) rfl Try.isAgg3 hS (fun _ => ⟨by omega, by omega⟩) (by rfl)) ?_
        refine free_nil ?_
        intro w6 hg_; replace hS := hS.grow hg_; clear hg_
        refine lw_v rfl rfl (ok_gtr rfl (.n rfl) rfl rfl) ?_
        refine lw_nil ?_
        refine Ends.keep [(1, .eq _), (3, .eq _), (7, .eq _), (8, .eq _), (11, .eq _), (61, .eq _)] (.cons rfl (.cons rfl (.cons rfl (.cons rfl (.cons rfl (.cons rfl .nil)))))) ?_
        refine ends_then ?_
        refine cw_cond rfl (fun h61 => ?_) (fun h61 => ?_)
        ·
          replace hS := hS.rot3
          refine cw_exit ?_
          refine then_exit (in_exit (?_))
          -- BACK
          refine ends_back2 D ys (.cons rfl (.cons rfl (.cons rfl (.cons rfl .nil)))) ⟨⟨hrx.pass hpm (of_decide_eq_true h61), by omega⟩, A', c', hS.drop3⟩ (by omega)
        ·
          replace hS := hS.rot3
          have hkv0 : D.getD v 0 = k := by have h9 : ¬ D.getD v 0 < k := of_decide_eq_false h61; have h8 : D.getD v 0 ≤ k := hk0; omega
          obtain ⟨M0, hM0⟩ : ∃ M0, M0 = 2 * tot D + ys.length := ⟨_, rfl⟩
          have hM1 : M0 + 1 ≤ 2 * tot D + xs.length := by omega
          have hM2 : M0 ≤ 1000 := by omega
          obtain ⟨hf0, hf1, hf2⟩ := seg_rng hwf hvN
          refine cw_skip ?_
          refine ends_then ?_
          refine cw_seq ?_
          -- region 13
          refine cw_region ?_
          refine lw_v rfl rfl (ok_fb rfl (.n rfl) Try.underlying29 rfl Try.sizeOf26 (by decide) rfl) ?_
          refine lw_v rfl rfl (ok_ldb rfl (.n rfl) rfl Try.isAgg26 hS (by rfl)) ?_
          refine lw_v rfl rfl (ok_fb rfl (.n rfl) Try.underlying108 rfl Try.sizeOf3 (by decide) rfl) ?_
          refine lw_v rfl rfl (ok_eq (ok_ldb rfl (.n rfl) rfl Try.isAgg3 hS (by rfl)) (c' := .int .i64 (v : Int)) (fun _ => rfl)) ?_
          refine lw_v rfl rfl (ok_ix rfl (.n rfl) Try.underlying26 Try.sizeOf3 rfl rfl hS (fun _ => ⟨by omega, by omega⟩)) ?_
          refine lw_v rfl rfl (ok_eq (ok_ldx rfl (.n rfl) rfl Try.isAgg3 hS (fun _ => ⟨by omega, by omega⟩) (by rfl)) (c' := .int .i64 (((c.First.getD v 0).toNat : Nat) : Int)) (fun _ => congrArg (Value.int .i64) (Int.toNat_of_nonneg hf0).symm)) ?_
          refine lw_v rfl rfl (ok_assign rfl (.n rfl) rfl) ?_
          refine lw_nil ?_
          refine Ends.keep [(1, .eq _), (3, .eq _), (7, .eq _), (8, .eq _), (11, .eq _), (12, .eq _)] (.cons rfl (.cons rfl (.cons rfl (.cons rfl (.cons rfl (.cons rfl .nil)))))) ?_
          refine ends_then ?_
          refine cw_block ?_
          -- LOOP at region 14: changed live slots [12], kept [1, 3, 7, 8, 11]
          refine cw_loop3 [(1, .eq _), (3, .eq _), (7, .eq _), (8, .eq _), (11, .eq _)] (fun (a : Nat) (D : List Int) (xs : List (Int × Int)) => [(12, .eq (.int .i64 a))]) (fun a D xs w' => ((c.First.getD v 0 ≤ a ∧ a ≤ c.First.getD (v + 1) 0) ∧ RX c.N (EdgeS c res) (fun y => h.getD y 0) D xs (fun y => y = v) ∧ D.getD v 0 = k ∧ 2 * tot D + xs.length ≤ M0 ∧ ∀ b : Nat, c.First.getD v 0 ≤ (b : Int) → b < a → (c.Head.getD b 0).toNat ≠ c.S → 0 < res.getD (c.Rev.getD b 0).toNat 0 → D.getD (c.Head.getD b 0).toNat 0 ≤ k + 1) ∧ ∃ A' c', St w.heap.size w w' [bx b28 [.slice A' xs.length c'] 105, own eSpot 2 108 A' xs.length c' xs, bx b11 (eSpot (k, (v : Int))).toArray.toList 108, own (eInt .i64) 1 3 A26 c.N c26 D, bx b3 (csV c q).cells.toList 29, sl (eInt .i64) 1 A2 m2 c2 h, sl (eInt .i64) 1 A1 m1 c1 res, sl (eInt .i64) 1 q.a0 c.First.length q.c0 c.First, sl (eInt .i64) 1 q.a1 c.Head.length q.c1 c.Head, sl (eInt .i64) 1 q.a2 c.Rev.length q.c2 c.Rev, sl (eInt .i64) 1 q.a3 c.Cap.length q.c3 c.Cap, sl (eInt .i64) 1 q.a4 c.Arc.length q.c4 c.Arc, sl eBool 1 q.a5 c.Back.length q.c5 c.Back]) (fun a _ _ => (c.First.getD (v + 1) 0 - a).toNat) (c.First.getD v 0).toNat D ys (.cons rfl (.cons rfl (.cons rfl (.cons rfl (.cons rfl .nil))))) (.cons rfl (.cons rfl (.cons rfl (.cons rfl (.cons rfl (.cons rfl .nil)))))) ⟨⟨⟨by omega, by omega⟩, hrx.take hpm, hkv0, Nat.le_of_eq hM0.symm, fun b h1 h2 => absurd h1 (by omega)⟩, A', c', hS⟩ ?_
          clear hS
          clear hrx hkv0 hmu hDl hDv0 hDv1 hk0 hpm hx0 hx1 hx2 hylen hM0
          rintro a D xs wr ⟨⟨⟨ha0, ha1⟩, hrx, hkv, hmu, hdn⟩, A', c', hS⟩
          have hDl := hrx.pre.len
          refine cw_seq ?_
          refine cw_seq ?_
          -- region 14
          refine cw_region ?_
          refine lw_v rfl rfl (ok_move rfl (.n rfl) rfl) ?_
          refine lw_v rfl rfl (ok_fb rfl (.n rfl) Try.underlying29 rfl Try.sizeOf26 (by decide) rfl) ?_
          refine lw_v rfl rfl (ok_ldb rfl (.n rfl) rfl Try.isAgg26 hS (by rfl)) ?_
          refine lw_v rfl rfl (ok_fb rfl (.n rfl) Try.underlying108 rfl Try.sizeOf3 (by decide) rfl) ?_
          refine lw_v rfl rfl (ok_eq (ok_ldb rfl (.n rfl) rfl Try.isAgg3 hS (by rfl)) (c' := .int .i64 (v : Int)) (fun _ => rfl)) ?_
          refine lw_v rfl rfl (ok_addi rfl (.n rfl) rfl rfl (fun _ => ⟨by omega, by omega⟩)) ?_
          refine lw_v rfl rfl (ok_ix rfl (.n rfl) Try.underlying26 Try.sizeOf3 rfl rfl hS (fun _ => ⟨by omega, by omega⟩)) ?_
          refine lw_v rfl rfl (ok_ldx rfl (.n rfl) rfl Try.isAgg3 hS (fun _ => ⟨by omega, by omega⟩) (by rfl)) ?_
          refine lw_v rfl rfl (ok_lss rfl (.n rfl) rfl rfl) ?_
          refine lw_nil ?_
          refine Ends.keep [(1, .eq _), (3, .eq _), (7, .eq _), (8, .eq _), (11, .eq _), (12, .eq _), (76, .eq _)] (.cons rfl (.cons rfl (.cons rfl (.cons rfl (.cons rfl (.cons rfl (.cons rfl .nil))))))) ?_
          refine ends_then ?_
          refine cw_cond rfl (fun h76 => ?_) (fun h76 => ?_)
          ·
            have hlt : (a : Int) < c.First.getD (v + 1) 0 := of_decide_eq_true h76
            have hkn : 0 ≤ k := by rw [← hkv]; exact hrx.pre.nn v hvN
            have haM : a < c.Head.length := by omega
            obtain ⟨u, hu', huN⟩ := head_at hwf haM
            have hu : c.Head.getD (a : Int).toNat 0 = (u : Int) := hu'
            have hul : u < D.length := by omega
            have hrv : 0 ≤ c.Rev.getD (a : Int).toNat 0 ∧ c.Rev.getD (a : Int).toNat 0 < c.Head.length := hwf.rv a haM
            refine cw_skip ?_
            refine ends_then ?_
            refine cw_seq ?_
            refine cw_block ?_
            refine cw_seq ?_
            -- region 16
            refine cw_region ?_
            refine lw_v rfl rfl (ok_fb rfl (.n rfl) Try.underlying29 rfl Try.sizeOf26 (by decide) rfl) ?_
            refine lw_v rfl rfl (ok_ldb rfl (.n rfl) rfl Try.isAgg26 hS (by rfl)) ?_
            refine lw_v rfl rfl (ok_move rfl (.n rfl) rfl) ?_
            refine lw_v rfl rfl (ok_ix rfl (.n rfl) Try.underlying26 Try.sizeOf3 rfl rfl hS (fun _ => ⟨by omega, by omega⟩)) ?_
            refine lw_v rfl rfl (ok_eq (ok_ldx rfl (.n rfl) rfl Try.isAgg3 hS (fun _ => ⟨by omega, by omega⟩) (by rfl)) (c' := .int .i64 (u : Int)) (fun _ => congrArg (Value.int .i64) hu)) ?_
            refine lw_v rfl rfl (ok_assign rfl (.n rfl) rfl) ?_
            refine lw_nil ?_
            refine Ends.keep [(1, .eq _), (3, .eq _), (7, .eq _), (8, .eq _), (11, .eq _), (12, .eq _), (13, .eq _)] (.cons rfl (.cons rfl (.cons rfl (.cons rfl (.cons rfl (.cons rfl (.cons rfl .nil))))))) ?_
            refine ends_then ?_
            refine cw_seq ?_
            -- region 17
            refine cw_draw (by kernel_rfl) (List.take 23 _) (List.drop 23 _) (List.take_append_drop 23 _).symm (by kernel_rfl) ?_
            refine free_v (ok_move rfl (.n rfl) rfl) ?_
            refine free_v (ok_fb rfl (.n rfl) Try.underlying29 rfl Try.sizeOf3 (by decide) rfl) ?_
            refine free_v (ok_ldb rfl (.n rfl) rfl Try.isAgg3 hS (by rfl)) ?_
            refine free_v (ok_neq rfl (.n rfl) rfl rfl) ?_
            refine free_v (ok_move rfl (.n rfl) rfl) ?_
            refine free_v (ok_move rfl (.s rfl rfl) rfl) ?_
            refine free_v (ok_fb rfl (.s rfl rfl) Try.underlying29 rfl Try.sizeOf26 (by decide) rfl) ?_
            refine free_v (ok_ldb rfl (.s rfl rfl) rfl Try.isAgg26 hS (by rfl)) ?_
            refine free_v (ok_move rfl (.s rfl rfl) rfl) ?_
            refine free_v (ok_ix rfl (.s rfl rfl) Try.underlying26 Try.sizeOf3 rfl rfl hS (fun _ => ⟨by omega, by omega⟩)) ?_
            refine free_v (ok_ldx rfl (.s rfl rfl) rfl Try.isAgg3 hS (fun _ => ⟨by omega, by omega⟩) (by rfl)) ?_
            refine free_v (ok_ix rfl (.s rfl rfl) Try.underlying25 Try.sizeOf2 rfl rfl hS (fun _ => ⟨by omega, by omega⟩)) ?_
            refine free_v (ok_ldx rfl (.s rfl rfl) rfl Try.isAgg2 hS (fun _ => ⟨by omega, by omega⟩) (by rfl)) ?_
            refine free_v (ok_gtr rfl (.s rfl rfl) rfl rfl) ?_
            refine free_v (ok_and rfl rfl rfl rfl) ?_
            refine free_v (ok_move rfl (.n rfl) rfl) ?_
            refine free_v (ok_move rfl (.s rfl rfl) rfl) ?_
            refine free_v (ok_move rfl (.s rfl rfl) rfl) ?_
            refine free_v (ok_ix rfl (.s rfl rfl) Try.underlying26 Try.sizeOf3 rfl rfl hS (fun _ => ⟨by omega, by omega⟩)) ?_
            refine free_v (ok_ldx rfl (.s rfl rfl) rfl Try.isAgg3 hS (fun _ => ⟨by omega, by omega⟩) (by rfl)) ?_
            refine free_v (ok_fb rfl (.s rfl rfl) Try.underlying108 rfl Try.sizeOf3 (by decide) rfl) ?_
            refine free_v (ok_eq (ok_ldb rfl (.s rfl rfl) rfl Try.isAgg3 hS (by rfl)) (c' := .int .i64 k) (fun _ => rfl)) ?_
            refine free_v (ok_addi rfl (.s rfl rfl) rfl rfl (fun _ => ⟨by omega, by omega⟩)) ?_
            refine free_nil ?_
            intro w7 hg_; replace hS := hS.grow hg_; clear hg_
            refine lw_v rfl rfl (ok_gtr rfl (.s rfl rfl) rfl rfl) ?_
            refine lw_v rfl rfl (ok_and rfl rfl rfl rfl) ?_
            refine lw_nil ?_
            refine Ends.keep [(1, .eq _), (3, .eq _), (7, .eq _), (8, .eq _), (11, .eq _), (12, .eq _), (13, .eq _), (108, .eq _)] (.cons rfl (.cons rfl (.cons rfl (.cons rfl (.cons rfl (.cons rfl (.cons rfl (.cons rfl .nil)))))))) ?_
            refine ends_then ?_
            refine cw_cond rfl (fun h108 => ?_) (fun h108 => ?_)
            ·
              refine cw_seq ?_
              -- region 18
              refine cw_region ?_
              refine lw_v rfl rfl (ok_move rfl (.n rfl) rfl) ?_
              refine lw_v rfl rfl (ok_move rfl (.n rfl) rfl) ?_
              refine lw_v rfl rfl (ok_fb rfl (.n rfl) Try.underlying108 rfl Try.sizeOf3 (by decide) rfl) ?_
              refine lw_v rfl rfl (ok_eq (ok_ldb rfl (.n rfl) rfl Try.isAgg3 hS (by rfl)) (c' := .int .i64 k) (fun _ => rfl)) ?_
              refine lw_v rfl rfl (ok_addi rfl (.n rfl) rfl rfl (fun _ => ⟨by omega, by omega⟩)) ?_
              refine lw_v rfl rfl (ok_ix rfl (.n rfl) Try.underlying26 Try.sizeOf3 rfl rfl hS (fun _ => ⟨by omega, by omega⟩)) ?_
              refine lw_stx (enc := (eInt .i64)) (_) rfl rfl rfl rfl rfl rfl Try.sizeOf3 hS (⟨by omega, by omega⟩) ?_
              clear hS; intro w8 hS
              refine lw_nil ?_
              refine Ends.keep [(1, .eq _), (3, .eq _), (7, .eq _), (8, .eq _), (11, .eq _), (12, .eq _), (13, .eq _)] (.cons rfl (.cons rfl (.cons rfl (.cons rfl (.cons rfl (.cons rfl (.cons rfl .nil))))))) ?_
              refine ends_then ?_
              -- region 19
              refine cw_region ?_
              refine lw_v rfl rfl (ok_move rfl (.n rfl) rfl) ?_
              refine lw_v rfl rfl (ok_iface rfl (.n rfl) Try.underlying101 rfl rfl) ?_
              refine lw_v rfl rfl (ok_move rfl (.n rfl) rfl) ?_
              refine lw_v rfl rfl (ok_move rfl (.n rfl) rfl) ?_
              refine lw_v rfl rfl (ok_ix rfl (.n rfl) Try.underlying26 Try.sizeOf3 rfl rfl hS (fun _ => ⟨by omega, by omega⟩)) ?_
              refine lw_v rfl rfl (ok_eq (ok_ldx rfl (.n rfl) rfl Try.isAgg3 hS (fun _ => ⟨by omega, by omega⟩) (by rfl)) (c' := .int .i64 (k + 1)) (fun _ => congrArg (Value.int .i64) (by rw [set_get (by exact hul)]; exact if_pos rfl))) ?_
              refine lw_v rfl rfl (ok_move rfl (.n rfl) rfl) ?_
              refine lw_v rfl rfl (ok_build (cells := #[.int .i64 (k + 1), .int .i64 (u : Int)]) rfl (.n rfl) Try.underlying108 Try.zeroValue108 pl108 rfl (by kernel_rfl)) ?_
              refine lw_v rfl rfl (ok_iface rfl (.n rfl) Try.underlying108 rfl rfl) ?_
              refine lw_call (f := 89) (xs := [_, _]) rfl rfl rfl Try.call89 rfl (Calls.mono (f89 b28 A' xs.length c' (k + 1) (u : Int) xs hS (by omega)) ?_)
              rintro e w' ⟨A2', c2', zs, rfl, hpm, hS9⟩
              replace hS := hS9; clear hS9
              refine ⟨_, rfl, ?_⟩
              refine lw_nil ?_
              refine in_normal (?_)
              refine Ends.keep [(1, .eq _), (3, .eq _), (7, .eq _), (8, .eq _), (11, .eq _), (12, .eq _)] (.cons rfl (.cons rfl (.cons rfl (.cons rfl (.cons rfl (.cons rfl .nil)))))) ?_
              refine ends_then ?_
              -- region 15
              refine cw_region ?_
              refine lw_v rfl rfl (ok_move rfl (.n rfl) rfl) ?_
              refine lw_v rfl rfl (ok_addi rfl (.n rfl) rfl rfl (fun _ => ⟨by omega, by omega⟩)) ?_
              refine lw_v rfl rfl (ok_assign rfl (.n rfl) rfl) ?_
              refine lw_nil ?_
              -- BACK
              obtain ⟨⟨huS, hres⟩, hlt2⟩ := and3b h108
              have hE : EdgeS c res u v := ⟨by omega, (edge_rev hwf hvN huN).2 ⟨a, ha0, hlt, by rw [hu']; rfl, hres⟩⟩
              have hlt3 : D.getD v 0 + 1 < D.getD u 0 := by rw [hkv]; exact hlt2
              have hrx2 := hrx.low (fun y hy => (hrh.rng y hy).2) huN hvN hE hlt3 (show zs.Perm ((D.getD v 0 + 1, (u : Int)) :: xs) by rw [hkv]; exact hpm)
              rw [hkv] at hrx2 hlt3
              have htl := tot_low hDl huN (by omega : 0 ≤ k + 1) hlt3
              have hzl := hpm.length_eq
              simp only [List.length_cons] at hzl
              have huv : v ≠ u := fun e => by rw [← e, hkv] at hlt3; omega
              refine ends_back3 (a + 1) _ zs (.cons rfl (.cons rfl (.cons rfl (.cons rfl (.cons rfl (.cons rfl .nil)))))) ⟨⟨⟨by omega, by omega⟩, hrx2, (set_get (by exact hul) v).trans ((if_neg (by exact huv)).trans hkv), by omega, fun b h1 h2 h3 h4 => ?_⟩, A2', c2', hS⟩ (by omega)
              rw [set_get (by omega)]
              split
              · exact Int.le_refl _
              · rename_i hbu
                rcases Nat.lt_or_ge b a with h5 | h5
                · exact hdn b h1 h5 h3 h4
                · have : b = a := by omega
                  subst this; exact absurd (by rw [hu']; rfl) hbu
            ·
              refine cw_skip ?_
              refine in_normal (?_)
              refine ends_then ?_
              -- region 15
              refine cw_region ?_
              refine lw_v rfl rfl (ok_move rfl (.n rfl) rfl) ?_
              refine lw_v rfl rfl (ok_addi rfl (.n rfl) rfl rfl (fun _ => ⟨by omega, by omega⟩)) ?_
              refine lw_v rfl rfl (ok_assign rfl (.n rfl) rfl) ?_
              refine lw_nil ?_
              -- BACK
              refine ends_back3 (a + 1) D xs (.cons rfl (.cons rfl (.cons rfl (.cons rfl (.cons rfl (.cons rfl .nil)))))) ⟨⟨⟨by omega, by omega⟩, hrx, hkv, hmu, fun b h1 h2 h3 h4 => ?_⟩, A', c', hS⟩ (by omega)
              rcases Nat.lt_or_ge b a with h5 | h5
              · exact hdn b h1 h5 h3 h4
              · have : b = a := by omega
                subst this
                rw [hu'] at h3 ⊢
                exact low_not h108 h3 h4
          ·
            have hge : ¬ (a : Int) < c.First.getD (v + 1) 0 := of_decide_eq_false h76
            refine cw_exit ?_
            refine then_exit (then_exit (in_exit (?_)))
            refine in_normal (?_)
            -- BACK
            refine ends_back2 D xs (.cons rfl (.cons rfl (.cons rfl (.cons rfl .nil)))) ⟨⟨hrx.done fun x hx he => ?_, by omega⟩, A', c', hS.drop3⟩ (by omega)
            obtain ⟨hne, he2⟩ := he
            obtain ⟨b, h1, h2, h3, h4⟩ := (edge_rev hwf hvN hx).1 he2
            have := hdn b h1 (by omega) (by rw [h3]; exact hne) h4
            rw [h3] at this
            rw [hkv]; exact this
      ·
        have hx0 : xs = [] := List.eq_nil_of_length_eq_zero (by have := of_decide_eq_false h49; omega)
        refine cw_exit ?_
        refine then_exit (then_exit (in_exit (?_)))
        refine Ends.keep [(7, .eq _)] (.cons rfl .nil) ?_
        refine ends_then ?_
        refine cw_seq ?_
        -- region 20
        refine cw_region ?_
        refine lw_v rfl rfl (ok_move rfl (.n rfl) rfl) ?_
        refine lw_v rfl rfl (ok_assign rfl (.n rfl) rfl) ?_
        refine lw_nil ?_
        refine Ends.keep [(6, .eq _)] (.cons rfl .nil) ?_
        refine ends_then ?_
        refine cw_ret ?_
        subst hx0
        have e := lowerL_eq hm hrx.stop
        rw [e]
        refine end_ret (res1 Try.results48 rfl) ⟨A26, c26, by rw [hDl], hS.below, ?_, ?_⟩
        · rw [hDl]; exact fun b hb => hS.ge _ (.tail _ (.tail _ (.head _))) rfl b hb
        · rw [hDl]; exact hS.ok _ (.tail _ (.tail _ (.head _)))

end Go.Proofs.Ytnpgeohkmdcbkaa.Aq

namespace Go.Proofs.Ytnpgeohkmdcbkaa.Aq
open Go Go.RowKit

/-- Who is lowered. -/
noncomputable def lowdL (c : Cs) (res h : List Int) : List Int := filt (fun v => decide ((lowerL c res h).getD v 0 < h.getD v 0)) (lowerL c res h).length
theorem lowerL_le {c : Cs} (hw : WF c) (res h : List Int) : (lowerL c res h).length ≤ h.length ∧ (lowerL c res h).length ≤ 16 := by
  have hN := hw.hi
  rcases Bool.eq_false_or_eq_true (mayB c res h) with hm | hm
  · have := (lowerL_low hw hm).len
    have := ((may_iff hw).1 hm).2.len
    omega
  · rw [lowerL_no hm]; simp
theorem f29g {c : Cs} {q : Q6} {l : List Int} {A : Option Addr} {m2 cc : Nat} {w : World} (hwf : WF c) (hl : (sl (eInt .i64) 1 A m2 cc l).p w) : RetV 29 [csV c q, .slice A m2 cc] w (.bool (rightB c l)) := by
  have e2 := hl.1.1; subst e2; exact f29 c q l A cc w hwf hl

set_option maxHeartbeats 1000000 in
set_option maxRecDepth 10000 in
/-- repair.Lowered. -/
theorem f51 (c : Cs) (q : Q6) (res h : List Int) {m1 m2 : Nat} (A1 : Option Addr) (c1 : Nat) (A2 : Option Addr) (c2 : Nat) (w : World) (hwf : WF c) (hc : CsAt c q w) (hr : (sl (eInt .i64) 1 A1 m1 c1 res).p w) (hh : (sl (eInt .i64) 1 A2 m2 c2 h).p w) : RetL 51 [csV c q, .slice A1 m1 c1, .slice A2 m2 c2] w (lowdL c res h) := by
  refine calls_cw Try.func51 rfl Try.ntmps51 rfl ?_
  have hS := ((St.ofc hc).args (Nat.le_refl _) _ hr rfl).args (Nat.le_refl _) _ hh rfl
  have hM := hwf.m
  have hN := hwf.hi
  have hlo := hwf.lo
  have hfl := hwf.fl
  have hrr := hr.2.1
  have hrl := hr.1.1
  have hhl := hh.1.1
  have hrvl := hwf.rl
  have hDle := lowerL_le hwf res h
  unfold lowdL
  refine cw_seq ?_
  -- region 0
  refine cw_region ?_
  refine lw_box rfl rfl rfl rfl hS ?_
  clear hS; intro b3 w1 _ _ hS
  refine lw_v rfl rfl (ok_assign rfl (.n rfl) rfl) ?_
  refine lw_nil ?_
  refine Ends.keep [(1, .eq _), (2, .eq _), (3, .eq _)] (.cons rfl (.cons rfl (.cons rfl .nil))) ?_
  refine ends_then ?_
  refine cw_seq ?_
  -- region 1
  refine cw_region ?_
  refine lw_v rfl rfl (ok_assign rfl (.n rfl) rfl) ?_
  refine lw_nil ?_
  refine Ends.keep [(1, .eq _), (2, .eq _), (3, .eq _), (7, .eq _)] (.cons rfl (.cons rfl (.cons rfl (.cons rfl .nil)))) ?_
  refine ends_then ?_
  refine cw_seq ?_
  refine cw_seq ?_
  -- region 2
  refine cw_region ?_
  refine lw_v rfl rfl (ok_ldS rfl (.n rfl) rfl Try.isAgg29 Try.sizeOf29 hS rfl) ?_
  refine lw_v rfl rfl (ok_move rfl (.n rfl) rfl) ?_
  refine lw_v rfl rfl (ok_move rfl (.n rfl) rfl) ?_
  refine lw_call (f := 48) (xs := [_, _, _]) rfl rfl rfl Try.call48 rfl (Calls.mono (f48 c q res h A1 c1 A2 c2 _ hwf (hS.cs q) (hS.rd A1 hrr) (hS.rd A2 hh.2.1)) ?_)
  rintro e w' ⟨A13, c13, rfl, hg, hfr, ho⟩
  replace hS := hS.new hg _ ho hfr; clear hg ho hfr
  generalize lowerL c res h = D at hS hDle ⊢
  refine ⟨_, rfl, ?_⟩
  refine lw_v rfl rfl (ok_len rfl (.n rfl) Try.underlying26 rfl) ?_
  refine lw_v rfl rfl (ok_move rfl (.n rfl) rfl) ?_
  refine lw_nil ?_
  refine Ends.keep [(2, .eq _), (7, .eq _), (13, .eq _), (14, .eq _), (15, .eq _)] (.cons rfl (.cons rfl (.cons rfl (.cons rfl (.cons rfl .nil))))) ?_
  refine ends_then ?_
  refine cw_block ?_
  -- LOOP at region 3: changed live slots [7, 15], kept [2, 13, 14]
  refine cw_loop3 [(2, .eq _), (13, .eq _), (14, .eq _)] (fun (k : Nat) (A' : Option Addr) (c' : Nat) => [(7, .eq (.slice A' (filt (fun v => decide (D.getD v 0 < h.getD v 0)) k).length c')), (15, .eq (.int .i64 k))]) (fun k A' c' w' => k ≤ D.length ∧ St w.heap.size w w' [own (eInt .i64) 1 3 A' (filt (fun v => decide (D.getD v 0 < h.getD v 0)) k).length c' (filt (fun v => decide (D.getD v 0 < h.getD v 0)) k), own (eInt .i64) 1 3 A13 D.length c13 D, bx b3 (csV c q).cells.toList 29, sl (eInt .i64) 1 A2 m2 c2 h, sl (eInt .i64) 1 A1 m1 c1 res, sl (eInt .i64) 1 q.a0 c.First.length q.c0 c.First, sl (eInt .i64) 1 q.a1 c.Head.length q.c1 c.Head, sl (eInt .i64) 1 q.a2 c.Rev.length q.c2 c.Rev, sl (eInt .i64) 1 q.a3 c.Cap.length q.c3 c.Cap, sl (eInt .i64) 1 q.a4 c.Arc.length q.c4 c.Arc, sl eBool 1 q.a5 c.Back.length q.c5 c.Back]) (fun k _ _ => D.length - k) 0 none 0 (.cons rfl (.cons rfl (.cons rfl .nil))) (.cons rfl (.cons rfl (.cons rfl (.cons rfl (.cons rfl .nil))))) ⟨Nat.zero_le _, hS.nil (eInt .i64) 1 3⟩ ?_
  clear hS
  rintro k A' c' wr ⟨hk, hS⟩
  have hfl2 := filt_len (fun v => decide (D.getD v 0 < h.getD v 0)) k
  have hfl3 : (filt (fun v => decide (D.getD v 0 < h.getD v 0)) k).length ≤ k := hfl2
  refine cw_seq ?_
  -- region 3
  refine cw_region ?_
  refine lw_v rfl rfl (ok_lss rfl (.n rfl) rfl rfl) ?_
  refine lw_nil ?_
  refine Ends.keep [(2, .eq _), (7, .eq _), (13, .eq _), (14, .eq _), (15, .eq _), (16, .eq _)] (.cons rfl (.cons rfl (.cons rfl (.cons rfl (.cons rfl (.cons rfl .nil)))))) ?_
  refine ends_then ?_
  refine cw_seq ?_
  refine cw_cond rfl (fun h16 => ?_) (fun h16 => ?_)
  ·
    have hkD : k < D.length := by have := of_decide_eq_true h16; omega
    refine cw_skip ?_
    refine ends_then ?_
    refine cw_seq ?_
    refine cw_block ?_
    refine cw_seq ?_
    -- region 4
    refine cw_region ?_
    refine lw_v rfl rfl (ok_move rfl (.n rfl) rfl) ?_
    refine lw_v rfl rfl (ok_ix rfl (.n rfl) Try.underlying26 Try.sizeOf3 rfl rfl hS (fun _ => ⟨by omega, by omega⟩)) ?_
    refine lw_v rfl rfl (ok_ldx rfl (.n rfl) rfl Try.isAgg3 hS (fun _ => ⟨by omega, by omega⟩) (by rfl)) ?_
    refine lw_v rfl rfl (ok_assign rfl (.n rfl) rfl) ?_
    refine lw_v rfl rfl (ok_assign rfl (.n rfl) rfl) ?_
    refine lw_nil ?_
    refine Ends.keep [(2, .eq _), (7, .eq _), (8, .eq _), (9, .eq _), (13, .eq _), (14, .eq _), (15, .eq _)] (.cons rfl (.cons rfl (.cons rfl (.cons rfl (.cons rfl (.cons rfl (.cons rfl .nil))))))) ?_
    refine ends_then ?_
    refine cw_seq ?_
    -- region 5
    refine cw_region ?_
    refine lw_v rfl rfl (ok_move rfl (.n rfl) rfl) ?_
    refine lw_v rfl rfl (ok_move rfl (.n rfl) rfl) ?_
    refine lw_v rfl rfl (ok_move rfl (.n rfl) rfl) ?_
    refine lw_v rfl rfl (ok_ix rfl (.n rfl) Try.underlying26 Try.sizeOf3 rfl rfl hS (fun _ => ⟨by omega, by omega⟩)) ?_
    refine lw_v rfl rfl (ok_ldx rfl (.n rfl) rfl Try.isAgg3 hS (fun _ => ⟨by omega, by omega⟩) (by rfl)) ?_
    refine lw_v rfl rfl (ok_lss rfl (.n rfl) rfl rfl) ?_
    refine lw_nil ?_
    refine Ends.keep [(2, .eq _), (7, .eq _), (8, .eq _), (13, .eq _), (14, .eq _), (15, .eq _), (25, .eq _)] (.cons rfl (.cons rfl (.cons rfl (.cons rfl (.cons rfl (.cons rfl (.cons rfl .nil))))))) ?_
    refine ends_then ?_
    refine cw_cond rfl (fun h25 => ?_) (fun h25 => ?_)
    ·
      -- region 6
      refine cw_region ?_
      refine lw_v rfl rfl (ok_move rfl (.n rfl) rfl) ?_
      refine lw_v rfl rfl (ok_move rfl (.n rfl) rfl) ?_
      refine lw_ls (enc := (eInt .i64)) [(k : Int)] rfl rfl rfl Try.underlying26 Try.sizeOf3 Try.zeroValue3 rfl (by kernel_rfl) rfl (by decide) (by decide) hS ?_
      clear hS; intro A28 c28 w2 _ hS
      refine lw_append (enc := (eInt .i64)) rfl rfl rfl Try.underlying26 info3 rfl rfl rfl hS (by decide) (by omega) (by omega) ?_
      intro A29 c29 w3 hS1; replace hS := hS1 _ (Rep.r); clear hS1
      refine lw_v rfl rfl (ok_assign rfl (.n rfl) rfl) ?_
      refine lw_nil ?_
      refine in_normal (?_)
      refine Ends.keep [(2, .eq _), (7, .eq _), (13, .eq _), (14, .eq _), (15, .eq _)] (.cons rfl (.cons rfl (.cons rfl (.cons rfl (.cons rfl .nil))))) ?_
      refine ends_then ?_
      -- region 7
      refine cw_region ?_
      refine lw_v rfl rfl (ok_addi rfl (.n rfl) rfl rfl (fun _ => ⟨by omega, by omega⟩)) ?_
      refine lw_v rfl rfl (ok_move rfl (.n rfl) rfl) ?_
      refine lw_nil ?_
      -- BACK
      have e : filt (fun v => decide (D.getD v 0 < h.getD v 0)) k ++ [(k : Int)] = filt (fun v => decide (D.getD v 0 < h.getD v 0)) (k + 1) := by rw [filt_succ', if_pos (by exact h25)]
      replace hS := hS.tail
      rw [e] at hS ⊢
      exact ends_back3 (k + 1) A29 c29 (.cons rfl (.cons rfl (.cons rfl (.cons rfl (.cons rfl .nil))))) ⟨by omega, hS⟩ (by omega)
    ·
      refine cw_skip ?_
      refine in_normal (?_)
      refine ends_then ?_
      -- region 7
      refine cw_region ?_
      refine lw_v rfl rfl (ok_addi rfl (.n rfl) rfl rfl (fun _ => ⟨by omega, by omega⟩)) ?_
      refine lw_v rfl rfl (ok_move rfl (.n rfl) rfl) ?_
      refine lw_nil ?_
      -- BACK
      have e : filt (fun v => decide (D.getD v 0 < h.getD v 0)) k = filt (fun v => decide (D.getD v 0 < h.getD v 0)) (k + 1) := by rw [filt_succ', if_neg (by show ¬ decide (D.getD k 0 < h.getD k 0) = true; exact fun h9 => by rw [show decide (D.getD k 0 < h.getD k 0) = false from h25] at h9; cases h9), List.append_nil]
      rw [e] at hS ⊢
      exact ends_back3 (k + 1) A' c' (.cons rfl (.cons rfl (.cons rfl (.cons rfl (.cons rfl .nil))))) ⟨by omega, hS⟩ (by omega)
  ·
    have hke : k = D.length := by have := of_decide_eq_false h16; omega
    refine cw_exit ?_
    refine then_exit (then_exit (in_exit (?_)))
    refine Ends.keep [(7, .eq _)] (.cons rfl .nil) ?_
    refine ends_then ?_
    refine cw_seq ?_
    -- region 8
    refine cw_region ?_
    refine lw_v rfl rfl (ok_move rfl (.n rfl) rfl) ?_
    refine lw_v rfl rfl (ok_assign rfl (.n rfl) rfl) ?_
    refine lw_nil ?_
    refine Ends.keep [(6, .eq _)] (.cons rfl .nil) ?_
    refine ends_then ?_
    refine cw_ret ?_
    subst hke
    exact end_ret (res1 Try.results51 rfl) ⟨A', c', rfl, hS.below, fun b hb => hS.ge _ (.head _) rfl b hb, hS.ok _ (.head _)⟩

set_option maxHeartbeats 1000000 in
set_option maxRecDepth 10000 in
/-- acequiaref19.Lower. -/
theorem f50 (c : Cs) (q : Q6) (res h : List Int) {m1 m2 : Nat} (A1 : Option Addr) (c1 : Nat) (A2 : Option Addr) (c2 : Nat) (w : World) (hwf : WF c) (hc : CsAt c q w) (hr : (sl (eInt .i64) 1 A1 m1 c1 res).p w) (hh : (sl (eInt .i64) 1 A2 m2 c2 h).p w) : RetL 50 [csV c q, .slice A1 m1 c1, .slice A2 m2 c2] w (lowerL c res h) := by
  refine calls_cw Try.func50 rfl Try.ntmps50 rfl ?_
  have hS := ((St.ofc hc).args (Nat.le_refl _) _ hr rfl).args (Nat.le_refl _) _ hh rfl
  have hM := hwf.m
  have hN := hwf.hi
  have hlo := hwf.lo
  have hfl := hwf.fl
  have hrr := hr.2.1
  have hrl := hr.1.1
  have hhl := hh.1.1
  have hrvl := hwf.rl
  refine cw_seq ?_
  -- region 0
  refine cw_region ?_
  refine lw_box rfl rfl rfl rfl hS ?_
  clear hS; intro b3 w1 _ _ hS
  refine lw_v rfl rfl (ok_assign rfl (.n rfl) rfl) ?_
  refine lw_nil ?_
  refine Ends.keep [(1, .eq _), (2, .eq _), (3, .eq _)] (.cons rfl (.cons rfl (.cons rfl .nil))) ?_
  refine ends_then ?_
  refine cw_seq ?_
  refine cw_seq ?_
  -- region 1
  refine cw_region ?_
  refine lw_v rfl rfl (ok_move rfl (.n rfl) rfl) ?_
  refine lw_v rfl rfl (ok_len rfl (.n rfl) Try.underlying25 rfl) ?_
  refine lw_v rfl rfl (ok_fb rfl (.n rfl) Try.underlying29 rfl Try.sizeOf26 (by decide) rfl) ?_
  refine lw_v rfl rfl (ok_ldb rfl (.n rfl) rfl Try.isAgg26 hS (by rfl)) ?_
  refine lw_v rfl rfl (ok_len rfl (.n rfl) Try.underlying26 rfl) ?_
  refine lw_v rfl rfl (ok_neq rfl (.n rfl) rfl rfl) ?_
  refine lw_v rfl rfl (ok_move rfl (.n rfl) rfl) ?_
  refine lw_v rfl rfl (ok_ldS rfl (.s rfl rfl) rfl Try.isAgg29 Try.sizeOf29 hS rfl) ?_
  refine lw_v rfl rfl (ok_move rfl (.s rfl rfl) rfl) ?_
  refine lw_o rfl rfl (ok_callg (.bool (rightB c h)) rfl (.s rfl rfl) Try.call29 rfl rfl (fun _ w' hg => f29g (q := q) hwf ((hS.grow hg).rd A2 hh.2.1))) ?_
  intro w2 hg_; replace hS := hS.grow hg_; clear hg_
  refine lw_v rfl rfl (ok_not rfl (.s rfl rfl) rfl) ?_
  refine lw_v rfl rfl (ok_or rfl rfl rfl rfl) ?_
  refine lw_nil ?_
  refine Ends.keep [(1, .eq _), (2, .eq _), (3, .eq _), (22, .eq _)] (.cons rfl (.cons rfl (.cons rfl (.cons rfl .nil)))) ?_
  refine ends_then ?_
  refine cw_cond rfl (fun h22 => ?_) (fun h22 => ?_)
  ·
    have hno : mayB c res h = false := low_no hrl h22
    replace hS := hS.nil (eInt .i64) 1 3
    refine cw_seq ?_
    -- region 2
    refine cw_region ?_
    refine lw_v rfl rfl (ok_assign rfl (.n rfl) rfl) ?_
    refine lw_nil ?_
    refine Ends.keep [(6, .eq _)] (.cons rfl .nil) ?_
    refine ends_then ?_
    refine cw_ret ?_
    refine then_ret (?_)
    rw [lowerL_no hno]
    exact end_ret (res1 Try.results50 rfl) ⟨none, 0, rfl, hS.below, fun b hb => hS.ge _ (.head _) rfl b hb, hS.ok _ (.head _)⟩
  ·
    have hm : mayB c res h = true := low_yes hrl h22
    obtain ⟨hrm, hrh⟩ := (may_iff hwf).1 hm
    have hhN := hrh.len
    refine cw_skip ?_
    refine ends_then ?_
    refine cw_seq ?_
    -- region 3
    refine cw_region ?_
    refine lw_ls0 (enc := (eInt .i64)) rfl rfl rfl Try.underlying26 Try.sizeOf3 hS ?_
    clear hS; intro A23 c23 w3 _ hS
    refine lw_v rfl rfl (ok_move rfl (.n rfl) rfl) ?_
    refine lw_append0 (enc := (eInt .i64)) rfl rfl rfl Try.underlying26 info3 rfl rfl rfl hS (by omega) (by omega) ?_
    intro A25 c25 wq hS1; replace hS := hS1 _ (Rep.r); clear hS1
    rw [List.nil_append, hhN] at hS ⊢
    refine lw_v rfl rfl (ok_assign rfl (.n rfl) rfl) ?_
    refine lw_nil ?_
    refine Ends.keep [(1, .eq _), (3, .eq _), (7, .eq _)] (.cons rfl (.cons rfl (.cons rfl .nil))) ?_
    refine ends_then ?_
    refine cw_seq ?_
    refine cw_seq ?_
    -- region 4
    refine cw_region ?_
    refine lw_v rfl rfl (ok_assign rfl (.n rfl) rfl) ?_
    refine lw_nil ?_
    refine Ends.keep [(1, .eq _), (3, .eq _), (7, .eq _), (8, .eq _)] (.cons rfl (.cons rfl (.cons rfl (.cons rfl .nil)))) ?_
    refine ends_then ?_
    refine cw_block ?_
    -- LOOP at region 5: changed live slots [8], kept [1, 3, 7]
    refine cw_loop2 [(1, .eq _), (3, .eq _), (7, .eq _)] (fun (more : Bool) (D : List Int) => [(8, .eq (.bool more))]) (fun more D w' => (LowPre c.N (EdgeS c res) (fun v => h.getD v 0) D ∧ (more = false → Low c.N (EdgeS c res) (fun v => h.getD v 0) D)) ∧ St w.heap.size w w' [own (eInt .i64) 1 3 A25 c.N c25 D, bx b3 (csV c q).cells.toList 29, sl (eInt .i64) 1 A2 m2 c2 h, sl (eInt .i64) 1 A1 m1 c1 res, sl (eInt .i64) 1 q.a0 c.First.length q.c0 c.First, sl (eInt .i64) 1 q.a1 c.Head.length q.c1 c.Head, sl (eInt .i64) 1 q.a2 c.Rev.length q.c2 c.Rev, sl (eInt .i64) 1 q.a3 c.Cap.length q.c3 c.Cap, sl (eInt .i64) 1 q.a4 c.Arc.length q.c4 c.Arc, sl eBool 1 q.a5 c.Back.length q.c5 c.Back]) (fun more D => muM more D) true h (.cons rfl (.cons rfl (.cons rfl .nil))) (.cons rfl (.cons rfl (.cons rfl (.cons rfl .nil)))) ⟨⟨LowPre.start hhN (fun _ _ => rfl) fun y hy => (hrh.rng y hy).1, fun h => by cases h⟩, hS⟩ ?_
    clear hS
    rintro more D0 wr ⟨⟨hpre0, hlow⟩, hS⟩
    refine cw_seq ?_
    refine cw_seq ?_
    -- region 5
    refine cw_region ?_
    refine lw_v rfl rfl (ok_move rfl (.n rfl) rfl) ?_
    refine lw_nil ?_
    refine Ends.keep [(1, .eq _), (3, .eq _), (7, .eq _), (26, .eq _)] (.cons rfl (.cons rfl (.cons rfl (.cons rfl .nil)))) ?_
    refine ends_then ?_
    refine cw_cond rfl (fun h26 => ?_) (fun h26 => ?_)
    ·
      refine cw_skip ?_
      refine ends_then ?_
      refine cw_block ?_
      refine cw_seq ?_
      -- region 6
      refine cw_region ?_
      refine lw_v rfl rfl (ok_assign rfl (.n rfl) rfl) ?_
      refine lw_nil ?_
      refine Ends.keep [(1, .eq _), (3, .eq _), (7, .eq _), (8, .eq _)] (.cons rfl (.cons rfl (.cons rfl (.cons rfl .nil)))) ?_
      refine ends_then ?_
      refine cw_seq ?_
      -- region 7
      refine cw_region ?_
      refine lw_v rfl rfl (ok_assign rfl (.n rfl) rfl) ?_
      refine lw_nil ?_
      refine Ends.keep [(1, .eq _), (3, .eq _), (7, .eq _), (8, .eq _), (9, .eq _)] (.cons rfl (.cons rfl (.cons rfl (.cons rfl (.cons rfl .nil))))) ?_
      refine ends_then ?_
      refine cw_block ?_
      -- LOOP at region 8: changed live slots [8, 9], kept [1, 3, 7]
      refine cw_loop3 [(1, .eq _), (3, .eq _), (7, .eq _)] (fun (u : Nat) (more : Bool) (D : List Int) => [(8, .eq (.bool more)), (9, .eq (.int .i64 u))]) (fun u more D w' => (u ≤ c.N ∧ PassI c.N (EdgeS c res) (fun v => h.getD v 0) (tailOf c) (fun b => (c.Head.getD b 0).toNat) (fun b => tailOf c b ≠ c.S ∧ 0 < res.getD b 0) D0 more D (c.First.getD u 0).toNat) ∧ St w.heap.size w w' [own (eInt .i64) 1 3 A25 c.N c25 D, bx b3 (csV c q).cells.toList 29, sl (eInt .i64) 1 A2 m2 c2 h, sl (eInt .i64) 1 A1 m1 c1 res, sl (eInt .i64) 1 q.a0 c.First.length q.c0 c.First, sl (eInt .i64) 1 q.a1 c.Head.length q.c1 c.Head, sl (eInt .i64) 1 q.a2 c.Rev.length q.c2 c.Rev, sl (eInt .i64) 1 q.a3 c.Cap.length q.c3 c.Cap, sl (eInt .i64) 1 q.a4 c.Arc.length q.c4 c.Arc, sl eBool 1 q.a5 c.Back.length q.c5 c.Back]) (fun u _ _ => c.N - u) 0 false D0 (.cons rfl (.cons rfl (.cons rfl .nil))) (.cons rfl (.cons rfl (.cons rfl (.cons rfl (.cons rfl .nil))))) ⟨⟨Nat.zero_le _, by rw [hwf.f0]; exact PassI.start hpre0⟩, hS⟩ ?_
      clear hS
      rintro u more D wr ⟨⟨hu, hps⟩, hS⟩
      refine cw_seq ?_
      refine cw_seq ?_
      -- region 8
      refine cw_region ?_
      refine lw_v rfl rfl (ok_move rfl (.n rfl) rfl) ?_
      refine lw_v rfl rfl (ok_fb rfl (.n rfl) Try.underlying29 rfl Try.sizeOf3 (by decide) rfl) ?_
      refine lw_v rfl rfl (ok_ldb rfl (.n rfl) rfl Try.isAgg3 hS (by rfl)) ?_
      refine lw_v rfl rfl (ok_lss rfl (.n rfl) rfl rfl) ?_
      refine lw_nil ?_
      refine Ends.keep [(1, .eq _), (3, .eq _), (7, .eq _), (8, .eq _), (9, .eq _), (30, .eq _)] (.cons rfl (.cons rfl (.cons rfl (.cons rfl (.cons rfl (.cons rfl .nil)))))) ?_
      refine ends_then ?_
      refine cw_cond rfl (fun h30 => ?_) (fun h30 => ?_)
      ·
        have huN : u < c.N := by have := of_decide_eq_true h30; omega
        obtain ⟨hf0, hf1, hf2⟩ := seg_rng hwf huN
        refine cw_skip ?_
        refine ends_then ?_
        refine cw_seq ?_
        refine cw_block ?_
        refine cw_seq ?_
        -- region 10
        refine cw_region ?_
        refine lw_v rfl rfl (ok_fb rfl (.n rfl) Try.underlying29 rfl Try.sizeOf26 (by decide) rfl) ?_
        refine lw_v rfl rfl (ok_ldb rfl (.n rfl) rfl Try.isAgg26 hS (by rfl)) ?_
        refine lw_v rfl rfl (ok_move rfl (.n rfl) rfl) ?_
        refine lw_v rfl rfl (ok_ix rfl (.n rfl) Try.underlying26 Try.sizeOf3 rfl rfl hS (fun _ => ⟨by omega, by omega⟩)) ?_
        refine lw_v rfl rfl (ok_eq (ok_ldx rfl (.n rfl) rfl Try.isAgg3 hS (fun _ => ⟨by omega, by omega⟩) (by rfl)) (c' := .int .i64 (((c.First.getD u 0).toNat : Nat) : Int)) (fun _ => congrArg (Value.int .i64) (Int.toNat_of_nonneg hf0).symm)) ?_
        refine lw_v rfl rfl (ok_assign rfl (.n rfl) rfl) ?_
        refine lw_nil ?_
        refine Ends.keep [(1, .eq _), (3, .eq _), (7, .eq _), (8, .eq _), (9, .eq _), (10, .eq _)] (.cons rfl (.cons rfl (.cons rfl (.cons rfl (.cons rfl (.cons rfl .nil)))))) ?_
        refine ends_then ?_
        refine cw_block ?_
        -- LOOP at region 11: changed live slots [8, 10], kept [1, 3, 7, 9]
        refine cw_loop3 [(1, .eq _), (3, .eq _), (7, .eq _), (9, .eq _)] (fun (a : Nat) (more : Bool) (D : List Int) => [(8, .eq (.bool more)), (10, .eq (.int .i64 a))]) (fun a more D w' => ((c.First.getD u 0 ≤ a ∧ a ≤ c.First.getD (u + 1) 0) ∧ PassI c.N (EdgeS c res) (fun v => h.getD v 0) (tailOf c) (fun b => (c.Head.getD b 0).toNat) (fun b => tailOf c b ≠ c.S ∧ 0 < res.getD b 0) D0 more D a) ∧ St w.heap.size w w' [own (eInt .i64) 1 3 A25 c.N c25 D, bx b3 (csV c q).cells.toList 29, sl (eInt .i64) 1 A2 m2 c2 h, sl (eInt .i64) 1 A1 m1 c1 res, sl (eInt .i64) 1 q.a0 c.First.length q.c0 c.First, sl (eInt .i64) 1 q.a1 c.Head.length q.c1 c.Head, sl (eInt .i64) 1 q.a2 c.Rev.length q.c2 c.Rev, sl (eInt .i64) 1 q.a3 c.Cap.length q.c3 c.Cap, sl (eInt .i64) 1 q.a4 c.Arc.length q.c4 c.Arc, sl eBool 1 q.a5 c.Back.length q.c5 c.Back]) (fun a _ _ => (c.First.getD (u + 1) 0 - a).toNat) (c.First.getD u 0).toNat more D (.cons rfl (.cons rfl (.cons rfl (.cons rfl .nil)))) (.cons rfl (.cons rfl (.cons rfl (.cons rfl (.cons rfl (.cons rfl .nil)))))) ⟨⟨⟨by omega, by omega⟩, hps⟩, hS⟩ ?_
        clear hS
        clear hps D more
        rintro a more D wr ⟨⟨⟨ha0, ha1⟩, hps⟩, hS⟩
        have hDl := hps.pre.len
        refine cw_seq ?_
        refine cw_seq ?_
        -- region 11
        refine cw_region ?_
        refine lw_v rfl rfl (ok_move rfl (.n rfl) rfl) ?_
        refine lw_v rfl rfl (ok_fb rfl (.n rfl) Try.underlying29 rfl Try.sizeOf26 (by decide) rfl) ?_
        refine lw_v rfl rfl (ok_ldb rfl (.n rfl) rfl Try.isAgg26 hS (by rfl)) ?_
        refine lw_v rfl rfl (ok_move rfl (.n rfl) rfl) ?_
        refine lw_v rfl rfl (ok_addi rfl (.n rfl) rfl rfl (fun _ => ⟨by omega, by omega⟩)) ?_
        refine lw_v rfl rfl (ok_ix rfl (.n rfl) Try.underlying26 Try.sizeOf3 rfl rfl hS (fun _ => ⟨by omega, by omega⟩)) ?_
        refine lw_v rfl rfl (ok_ldx rfl (.n rfl) rfl Try.isAgg3 hS (fun _ => ⟨by omega, by omega⟩) (by rfl)) ?_
        refine lw_v rfl rfl (ok_lss rfl (.n rfl) rfl rfl) ?_
        refine lw_nil ?_
        refine Ends.keep [(1, .eq _), (3, .eq _), (7, .eq _), (8, .eq _), (9, .eq _), (10, .eq _), (45, .eq _)] (.cons rfl (.cons rfl (.cons rfl (.cons rfl (.cons rfl (.cons rfl (.cons rfl .nil))))))) ?_
        refine ends_then ?_
        refine cw_cond rfl (fun h45 => ?_) (fun h45 => ?_)
        ·
          have hlt : (a : Int) < c.First.getD (u + 1) 0 := of_decide_eq_true h45
          have haM : a < c.Head.length := by omega
          obtain ⟨x, hx', hxN⟩ := head_at hwf haM
          have hx : c.Head.getD (a : Int).toNat 0 = (x : Int) := hx'
          have htl := tail_eq hwf huN ha0 hlt
          have hDu : 0 ≤ D.getD (u : Int).toNat 0 ∧ D.getD (u : Int).toNat 0 ≤ c.N := ⟨hps.pre.nn u huN, Int.le_trans (hps.pre.le u huN) (hrh.rng u huN).2⟩
          have hDx : 0 ≤ D.getD (x : Int).toNat 0 ∧ D.getD (x : Int).toNat 0 ≤ c.N := ⟨hps.pre.nn x hxN, Int.le_trans (hps.pre.le x hxN) (hrh.rng x hxN).2⟩
          refine cw_skip ?_
          refine ends_then ?_
          refine cw_seq ?_
          refine cw_block ?_
          refine cw_seq ?_
          -- region 13
          refine cw_draw (by kernel_rfl) (List.take 25 _) (List.drop 25 _) (List.take_append_drop 25 _).symm (by kernel_rfl) ?_
          refine free_v (ok_move rfl (.n rfl) rfl) ?_
          refine free_v (ok_fb rfl (.n rfl) Try.underlying29 rfl Try.sizeOf3 (by decide) rfl) ?_
          refine free_v (ok_ldb rfl (.n rfl) rfl Try.isAgg3 hS (by rfl)) ?_
          refine free_v (ok_neq rfl (.n rfl) rfl rfl) ?_
          refine free_v (ok_move rfl (.n rfl) rfl) ?_
          refine free_v (ok_move rfl (.s rfl rfl) rfl) ?_
          refine free_v (ok_move rfl (.s rfl rfl) rfl) ?_
          refine free_v (ok_ix rfl (.s rfl rfl) Try.underlying25 Try.sizeOf2 rfl rfl hS (fun _ => ⟨by omega, by omega⟩)) ?_
          refine free_v (ok_ldx rfl (.s rfl rfl) rfl Try.isAgg2 hS (fun _ => ⟨by omega, by omega⟩) (by rfl)) ?_
          refine free_v (ok_gtr rfl (.s rfl rfl) rfl rfl) ?_
          refine free_v (ok_and rfl rfl rfl rfl) ?_
          refine free_v (ok_move rfl (.n rfl) rfl) ?_
          refine free_v (ok_move rfl (.s rfl rfl) rfl) ?_
          refine free_v (ok_move rfl (.s rfl rfl) rfl) ?_
          refine free_v (ok_ix rfl (.s rfl rfl) Try.underlying26 Try.sizeOf3 rfl rfl hS (fun _ => ⟨by omega, by omega⟩)) ?_
          refine free_v (ok_ldx rfl (.s rfl rfl) rfl Try.isAgg3 hS (fun _ => ⟨by omega, by omega⟩) (by rfl)) ?_
          refine free_v (ok_move rfl (.s rfl rfl) rfl) ?_
          refine free_v (ok_fb rfl (.s rfl rfl) Try.underlying29 rfl Try.sizeOf26 (by decide) rfl) ?_
          refine free_v (ok_ldb rfl (.s rfl rfl) rfl Try.isAgg26 hS (by rfl)) ?_
          refine free_v (ok_move rfl (.s rfl rfl) rfl) ?_
          refine free_v (ok_ix rfl (.s rfl rfl) Try.underlying26 Try.sizeOf3 rfl rfl hS (fun _ => ⟨by omega, by omega⟩)) ?_
          refine free_v (ok_eq (ok_ldx rfl (.s rfl rfl) rfl Try.isAgg3 hS (fun _ => ⟨by omega, by omega⟩) (by rfl)) (c' := .int .i64 (x : Int)) (fun _ => congrArg (Value.int .i64) hx)) ?_
          refine free_v (ok_ix rfl (.s rfl rfl) Try.underlying26 Try.sizeOf3 rfl rfl hS (fun _ => ⟨by omega, by omega⟩)) ?_
          refine free_v (ok_ldx rfl (.s rfl rfl) rfl Try.isAgg3 hS (fun _ => ⟨by omega, by omega⟩) (by rfl)) ?_
          refine free_v (ok_addi rfl (.s rfl rfl) rfl rfl (fun _ => ⟨by omega, by omega⟩)) ?_
          refine free_nil ?_
          intro w4 hg_; replace hS := hS.grow hg_; clear hg_
          refine lw_v rfl rfl (ok_gtr rfl (.s rfl rfl) rfl rfl) ?_
          refine lw_v rfl rfl (ok_and rfl rfl rfl rfl) ?_
          refine lw_nil ?_
          refine Ends.keep [(1, .eq _), (3, .eq _), (7, .eq _), (8, .eq _), (9, .eq _), (10, .eq _), (74, .eq _)] (.cons rfl (.cons rfl (.cons rfl (.cons rfl (.cons rfl (.cons rfl (.cons rfl .nil))))))) ?_
          refine ends_then ?_
          refine cw_cond rfl (fun h74 => ?_) (fun h74 => ?_)
          ·
            refine cw_seq ?_
            -- region 14
            refine cw_region ?_
            refine lw_v rfl rfl (ok_move rfl (.n rfl) rfl) ?_
            refine lw_v rfl rfl (ok_move rfl (.n rfl) rfl) ?_
            refine lw_v rfl rfl (ok_move rfl (.n rfl) rfl) ?_
            refine lw_v rfl rfl (ok_fb rfl (.n rfl) Try.underlying29 rfl Try.sizeOf26 (by decide) rfl) ?_
            refine lw_v rfl rfl (ok_ldb rfl (.n rfl) rfl Try.isAgg26 hS (by rfl)) ?_
            refine lw_v rfl rfl (ok_move rfl (.n rfl) rfl) ?_
            refine lw_v rfl rfl (ok_ix rfl (.n rfl) Try.underlying26 Try.sizeOf3 rfl rfl hS (fun _ => ⟨by omega, by omega⟩)) ?_
            refine lw_v rfl rfl (ok_eq (ok_ldx rfl (.n rfl) rfl Try.isAgg3 hS (fun _ => ⟨by omega, by omega⟩) (by rfl)) (c' := .int .i64 (x : Int)) (fun _ => congrArg (Value.int .i64) hx)) ?_
            refine lw_v rfl rfl (ok_ix rfl (.n rfl) Try.underlying26 Try.sizeOf3 rfl rfl hS (fun _ => ⟨by omega, by omega⟩)) ?_
            refine lw_v rfl rfl (ok_ldx rfl (.n rfl) rfl Try.isAgg3 hS (fun _ => ⟨by omega, by omega⟩) (by rfl)) ?_
            refine lw_v rfl rfl (ok_addi rfl (.n rfl) rfl rfl (fun _ => ⟨by omega, by omega⟩)) ?_
            refine lw_v rfl rfl (ok_ix rfl (.n rfl) Try.underlying26 Try.sizeOf3 rfl rfl hS (fun _ => ⟨by omega, by omega⟩)) ?_
            refine lw_stx (enc := (eInt .i64)) (_) rfl rfl rfl rfl rfl rfl Try.sizeOf3 hS (⟨by omega, by omega⟩) ?_
            clear hS; intro w5 hS
            refine lw_nil ?_
            refine Ends.keep [(1, .eq _), (3, .eq _), (7, .eq _), (9, .eq _), (10, .eq _)] (.cons rfl (.cons rfl (.cons rfl (.cons rfl (.cons rfl .nil))))) ?_
            refine ends_then ?_
            -- region 15
            refine cw_region ?_
            refine lw_v rfl rfl (ok_assign rfl (.n rfl) rfl) ?_
            refine lw_nil ?_
            refine in_normal (?_)
            refine Ends.keep [(1, .eq _), (3, .eq _), (7, .eq _), (8, .eq _), (9, .eq _), (10, .eq _)] (.cons rfl (.cons rfl (.cons rfl (.cons rfl (.cons rfl (.cons rfl .nil)))))) ?_
            refine ends_then ?_
            -- region 12
            refine cw_region ?_
            refine lw_v rfl rfl (ok_move rfl (.n rfl) rfl) ?_
            refine lw_v rfl rfl (ok_addi rfl (.n rfl) rfl rfl (fun _ => ⟨by omega, by omega⟩)) ?_
            refine lw_v rfl rfl (ok_assign rfl (.n rfl) rfl) ?_
            refine lw_nil ?_
            -- BACK
            refine ends_back3 (a + 1) true _ (.cons rfl (.cons rfl (.cons rfl (.cons rfl (.cons rfl (.cons rfl .nil)))))) ⟨⟨⟨by omega, by omega⟩, hps.step huN hxN (show EdgeS c res u x from ⟨by have := (and3b h74).1.1; omega, a, haM, htl, by rw [hx']; rfl, (and3b h74).1.2⟩) (and3b h74).2⟩, hS⟩ (by omega)
          ·
            refine cw_skip ?_
            refine in_normal (?_)
            refine ends_then ?_
            -- region 12
            refine cw_region ?_
            refine lw_v rfl rfl (ok_move rfl (.n rfl) rfl) ?_
            refine lw_v rfl rfl (ok_addi rfl (.n rfl) rfl rfl (fun _ => ⟨by omega, by omega⟩)) ?_
            refine lw_v rfl rfl (ok_assign rfl (.n rfl) rfl) ?_
            refine lw_nil ?_
            -- BACK
            refine ends_back3 (a + 1) more D (.cons rfl (.cons rfl (.cons rfl (.cons rfl (.cons rfl (.cons rfl .nil)))))) ⟨⟨⟨by omega, by omega⟩, hps.skip fun ho => ?_⟩, hS⟩ (by omega)
            show D.getD (tailOf c a) 0 ≤ D.getD (c.Head.getD a 0).toNat 0 + 1
            obtain ⟨ho1, ho2⟩ := ho
            rw [htl] at ho1 ⊢
            rw [show (c.Head.getD a 0).toNat = x by rw [hx']; rfl]
            exact low_not (u := u) (k := D.getD x 0) h74 ho1 ho2
        ·
          have hge : ¬ (a : Int) < c.First.getD (u + 1) 0 := of_decide_eq_false h45
          refine cw_exit ?_
          refine then_exit (then_exit (in_exit (?_)))
          refine in_normal (?_)
          refine Ends.keep [(1, .eq _), (3, .eq _), (7, .eq _), (8, .eq _), (9, .eq _)] (.cons rfl (.cons rfl (.cons rfl (.cons rfl (.cons rfl .nil))))) ?_
          refine ends_then ?_
          -- region 9
          refine cw_region ?_
          refine lw_v rfl rfl (ok_move rfl (.n rfl) rfl) ?_
          refine lw_v rfl rfl (ok_addi rfl (.n rfl) rfl rfl (fun _ => ⟨by omega, by omega⟩)) ?_
          refine lw_v rfl rfl (ok_assign rfl (.n rfl) rfl) ?_
          refine lw_nil ?_
          -- BACK
          refine ends_back3 (u + 1) more D (.cons rfl (.cons rfl (.cons rfl (.cons rfl (.cons rfl .nil))))) ⟨⟨by omega, by rw [show (c.First.getD (u + 1) 0).toNat = a by omega]; exact hps⟩, hS⟩ (by omega)
      ·
        have hge : ¬ u < c.N := by have := of_decide_eq_false h30; omega
        refine cw_exit ?_
        refine then_exit (then_exit (in_exit (?_)))
        refine in_normal (?_)
        -- BACK
        refine ends_back2 more D (.cons rfl (.cons rfl (.cons rfl (.cons rfl .nil)))) ⟨⟨hps.pre, fun hm => ?_⟩, hS⟩ (by subst h26; exact mu_pass hps)
        subst hm
        have hps2 := hps
        rw [show u = c.N by omega, hwf.fN, Int.toNat_natCast] at hps2
        exact hps2.low fun x y _ _ he => by obtain ⟨hne, b, h1, h2, h3, h4⟩ := he; exact ⟨b, h1, ⟨by rw [h2]; exact hne, h4⟩, h2, h3⟩
    ·
      refine cw_exit ?_
      refine then_exit (then_exit (in_exit (?_)))
      refine Ends.keep [(7, .eq _)] (.cons rfl .nil) ?_
      refine ends_then ?_
      refine cw_seq ?_
      -- region 16
      refine cw_region ?_
      refine lw_v rfl rfl (ok_move rfl (.n rfl) rfl) ?_
      refine lw_v rfl rfl (ok_assign rfl (.n rfl) rfl) ?_
      refine lw_nil ?_
      refine Ends.keep [(6, .eq _)] (.cons rfl .nil) ?_
      refine ends_then ?_
      refine cw_ret ?_
      have hL := hlow h26
      have e := lowerL_eq hm hL
      have hDl := hL.len
      rw [e]
      refine end_ret (res1 Try.results50 rfl) ⟨A25, c25, by rw [hDl], hS.below, ?_, ?_⟩
      · rw [hDl]; exact fun b hb => hS.ge _ (.head _) rfl b hb
      · rw [hDl]; exact hS.ok _ (.head _)

set_option maxHeartbeats 1000000 in
set_option maxRecDepth 10000 in
/-- acequiaref19.Lowered. -/
theorem f52 (c : Cs) (q : Q6) (res h : List Int) {m1 m2 : Nat} (A1 : Option Addr) (c1 : Nat) (A2 : Option Addr) (c2 : Nat) (w : World) (hwf : WF c) (hc : CsAt c q w) (hr : (sl (eInt .i64) 1 A1 m1 c1 res).p w) (hh : (sl (eInt .i64) 1 A2 m2 c2 h).p w) : RetL 52 [csV c q, .slice A1 m1 c1, .slice A2 m2 c2] w (lowdL c res h) := by
  refine calls_cw Try.func52 rfl Try.ntmps52 rfl ?_
  have hS := ((St.ofc hc).args (Nat.le_refl _) _ hr rfl).args (Nat.le_refl _) _ hh rfl
  have hM := hwf.m
  have hN := hwf.hi
  have hlo := hwf.lo
  have hfl := hwf.fl
  have hrr := hr.2.1
  have hrl := hr.1.1
  have hhl := hh.1.1
  have hrvl := hwf.rl
  have hDle := lowerL_le hwf res h
  unfold lowdL
  refine cw_seq ?_
  -- region 0
  refine cw_region ?_
  refine lw_box rfl rfl rfl rfl hS ?_
  clear hS; intro b3 w1 _ _ hS
  refine lw_v rfl rfl (ok_assign rfl (.n rfl) rfl) ?_
  refine lw_nil ?_
  refine Ends.keep [(1, .eq _), (2, .eq _), (3, .eq _)] (.cons rfl (.cons rfl (.cons rfl .nil))) ?_
  refine ends_then ?_
  refine cw_seq ?_
  -- region 1
  refine cw_region ?_
  refine lw_v rfl rfl (ok_ldS rfl (.n rfl) rfl Try.isAgg29 Try.sizeOf29 hS rfl) ?_
  refine lw_v rfl rfl (ok_move rfl (.n rfl) rfl) ?_
  refine lw_v rfl rfl (ok_move rfl (.n rfl) rfl) ?_
  refine lw_call (f := 50) (xs := [_, _, _]) rfl rfl rfl Try.call50 rfl (Calls.mono (f50 c q res h A1 c1 A2 c2 _ hwf (hS.cs q) (hS.rd A1 hrr) (hS.rd A2 hh.2.1)) ?_)
  rintro e w' ⟨A13, c13, rfl, hg, hfr, ho⟩
  replace hS := hS.new hg _ ho hfr; clear hg ho hfr
  generalize lowerL c res h = D at hS hDle ⊢
  refine ⟨_, rfl, ?_⟩
  refine lw_v rfl rfl (ok_assign rfl (.n rfl) rfl) ?_
  refine lw_nil ?_
  refine Ends.keep [(2, .eq _), (7, .eq _)] (.cons rfl (.cons rfl .nil)) ?_
  refine ends_then ?_
  refine cw_seq ?_
  -- region 2
  refine cw_region ?_
  refine lw_v rfl rfl (ok_assign rfl (.n rfl) rfl) ?_
  refine lw_nil ?_
  refine Ends.keep [(2, .eq _), (7, .eq _), (8, .eq _)] (.cons rfl (.cons rfl (.cons rfl .nil))) ?_
  refine ends_then ?_
  refine cw_seq ?_
  refine cw_seq ?_
  -- region 3
  refine cw_region ?_
  refine lw_v rfl rfl (ok_assign rfl (.n rfl) rfl) ?_
  refine lw_nil ?_
  refine Ends.keep [(2, .eq _), (7, .eq _), (8, .eq _), (9, .eq _)] (.cons rfl (.cons rfl (.cons rfl (.cons rfl .nil)))) ?_
  refine ends_then ?_
  refine cw_block ?_
  -- LOOP at region 4: changed live slots [8, 9], kept [2, 7]
  refine cw_loop3 [(2, .eq _), (7, .eq _)] (fun (k : Nat) (A' : Option Addr) (c' : Nat) => [(8, .eq (.slice A' (filt (fun v => decide (D.getD v 0 < h.getD v 0)) k).length c')), (9, .eq (.int .i64 k))]) (fun k A' c' w' => k ≤ D.length ∧ St w.heap.size w w' [own (eInt .i64) 1 3 A' (filt (fun v => decide (D.getD v 0 < h.getD v 0)) k).length c' (filt (fun v => decide (D.getD v 0 < h.getD v 0)) k), own (eInt .i64) 1 3 A13 D.length c13 D, bx b3 (csV c q).cells.toList 29, sl (eInt .i64) 1 A2 m2 c2 h, sl (eInt .i64) 1 A1 m1 c1 res, sl (eInt .i64) 1 q.a0 c.First.length q.c0 c.First, sl (eInt .i64) 1 q.a1 c.Head.length q.c1 c.Head, sl (eInt .i64) 1 q.a2 c.Rev.length q.c2 c.Rev, sl (eInt .i64) 1 q.a3 c.Cap.length q.c3 c.Cap, sl (eInt .i64) 1 q.a4 c.Arc.length q.c4 c.Arc, sl eBool 1 q.a5 c.Back.length q.c5 c.Back]) (fun k _ _ => D.length - k) 0 none 0 (.cons rfl (.cons rfl .nil)) (.cons rfl (.cons rfl (.cons rfl (.cons rfl .nil)))) ⟨Nat.zero_le _, hS.nil (eInt .i64) 1 3⟩ ?_
  clear hS
  rintro k A' c' wr ⟨hk, hS⟩
  have hfl2 := filt_len (fun v => decide (D.getD v 0 < h.getD v 0)) k
  have hfl3 : (filt (fun v => decide (D.getD v 0 < h.getD v 0)) k).length ≤ k := hfl2
  refine cw_seq ?_
  refine cw_seq ?_
  -- region 4
  refine cw_region ?_
  refine lw_v rfl rfl (ok_move rfl (.n rfl) rfl) ?_
  refine lw_v rfl rfl (ok_move rfl (.n rfl) rfl) ?_
  refine lw_v rfl rfl (ok_len rfl (.n rfl) Try.underlying26 rfl) ?_
  refine lw_v rfl rfl (ok_lss rfl (.n rfl) rfl rfl) ?_
  refine lw_nil ?_
  refine Ends.keep [(2, .eq _), (7, .eq _), (8, .eq _), (9, .eq _), (17, .eq _)] (.cons rfl (.cons rfl (.cons rfl (.cons rfl (.cons rfl .nil))))) ?_
  refine ends_then ?_
  refine cw_cond rfl (fun h17 => ?_) (fun h17 => ?_)
  ·
    have hkD : k < D.length := by have := of_decide_eq_true h17; omega
    refine cw_skip ?_
    refine ends_then ?_
    refine cw_seq ?_
    refine cw_block ?_
    refine cw_seq ?_
    -- region 6
    refine cw_draw (by kernel_rfl) (List.take 8 _) (List.drop 8 _) (List.take_append_drop 8 _).symm (by kernel_rfl) ?_
    refine free_v (ok_move rfl (.n rfl) rfl) ?_
    refine free_v (ok_move rfl (.n rfl) rfl) ?_
    refine free_v (ok_ix rfl (.n rfl) Try.underlying26 Try.sizeOf3 rfl rfl hS (fun _ => ⟨by omega, by omega⟩)) ?_
    refine free_v (ok_ldx rfl (.n rfl) rfl Try.isAgg3 hS (fun _ => ⟨by omega, by omega⟩) (by rfl)) ?_
    refine free_v (ok_move rfl (.n rfl) rfl) ?_
    refine free_v (ok_move rfl (.n rfl) rfl) ?_
    refine free_v (ok_ix rfl (.n rfl) Try.underlying26 Try.sizeOf3 rfl rfl hS (fun _ => ⟨by omega, by omega⟩)) ?_
    refine free_v (ok_ldx rfl (.n rfl) rfl Try.isAgg3 hS (fun _ => ⟨by omega, by omega⟩) (by rfl)) ?_
    refine free_nil ?_
    intro w2 hg_; replace hS := hS.grow hg_; clear hg_
    refine lw_v rfl rfl (ok_lss rfl (.n rfl) rfl rfl) ?_
    refine lw_nil ?_
    refine Ends.keep [(2, .eq _), (7, .eq _), (8, .eq _), (9, .eq _), (28, .eq _)] (.cons rfl (.cons rfl (.cons rfl (.cons rfl (.cons rfl .nil))))) ?_
    refine ends_then ?_
    refine cw_cond rfl (fun h28 => ?_) (fun h28 => ?_)
    ·
      -- region 7
      refine cw_region ?_
      refine lw_v rfl rfl (ok_move rfl (.n rfl) rfl) ?_
      refine lw_v rfl rfl (ok_move rfl (.n rfl) rfl) ?_
      refine lw_ls (enc := (eInt .i64)) [(k : Int)] rfl rfl rfl Try.underlying26 Try.sizeOf3 Try.zeroValue3 rfl (by kernel_rfl) rfl (by decide) (by decide) hS ?_
      clear hS; intro A31 c31 w3 _ hS
      refine lw_append (enc := (eInt .i64)) rfl rfl rfl Try.underlying26 info3 rfl rfl rfl hS (by decide) (by omega) (by omega) ?_
      intro A32 c32 w4 hS1; replace hS := hS1 _ (Rep.r); clear hS1
      refine lw_v rfl rfl (ok_assign rfl (.n rfl) rfl) ?_
      refine lw_nil ?_
      refine in_normal (?_)
      refine Ends.keep [(2, .eq _), (7, .eq _), (8, .eq _), (9, .eq _)] (.cons rfl (.cons rfl (.cons rfl (.cons rfl .nil)))) ?_
      refine ends_then ?_
      -- region 5
      refine cw_region ?_
      refine lw_v rfl rfl (ok_move rfl (.n rfl) rfl) ?_
      refine lw_v rfl rfl (ok_addi rfl (.n rfl) rfl rfl (fun _ => ⟨by omega, by omega⟩)) ?_
      refine lw_v rfl rfl (ok_assign rfl (.n rfl) rfl) ?_
      refine lw_nil ?_
      -- BACK
      have e : filt (fun v => decide (D.getD v 0 < h.getD v 0)) k ++ [(k : Int)] = filt (fun v => decide (D.getD v 0 < h.getD v 0)) (k + 1) := by rw [filt_succ', if_pos (by exact h28)]
      replace hS := hS.tail
      rw [e] at hS ⊢
      exact ends_back3 (k + 1) A32 c32 (.cons rfl (.cons rfl (.cons rfl (.cons rfl .nil)))) ⟨by omega, hS⟩ (by omega)
    ·
      refine cw_skip ?_
      refine in_normal (?_)
      refine ends_then ?_
      -- region 5
      refine cw_region ?_
      refine lw_v rfl rfl (ok_move rfl (.n rfl) rfl) ?_
      refine lw_v rfl rfl (ok_addi rfl (.n rfl) rfl rfl (fun _ => ⟨by omega, by omega⟩)) ?_
      refine lw_v rfl rfl (ok_assign rfl (.n rfl) rfl) ?_
      refine lw_nil ?_
      -- BACK
      have e : filt (fun v => decide (D.getD v 0 < h.getD v 0)) k = filt (fun v => decide (D.getD v 0 < h.getD v 0)) (k + 1) := by rw [filt_succ', if_neg (by show ¬ decide (D.getD k 0 < h.getD k 0) = true; exact fun h9 => by rw [show decide (D.getD k 0 < h.getD k 0) = false from h28] at h9; cases h9), List.append_nil]
      rw [e] at hS ⊢
      exact ends_back3 (k + 1) A' c' (.cons rfl (.cons rfl (.cons rfl (.cons rfl .nil)))) ⟨by omega, hS⟩ (by omega)
  ·
    have hke : k = D.length := by have := of_decide_eq_false h17; omega
    refine cw_exit ?_
    refine then_exit (then_exit (in_exit (?_)))
    refine Ends.keep [(8, .eq _)] (.cons rfl .nil) ?_
    refine ends_then ?_
    refine cw_seq ?_
    -- region 8
    refine cw_region ?_
    refine lw_v rfl rfl (ok_move rfl (.n rfl) rfl) ?_
    refine lw_v rfl rfl (ok_assign rfl (.n rfl) rfl) ?_
    refine lw_nil ?_
    refine Ends.keep [(6, .eq _)] (.cons rfl .nil) ?_
    refine ends_then ?_
    refine cw_ret ?_
    subst hke
    exact end_ret (res1 Try.results52 rfl) ⟨A', c', rfl, hS.below, fun b hb => hS.ge _ (.head _) rfl b hb, hS.ok _ (.head _)⟩

end Go.Proofs.Ytnpgeohkmdcbkaa.Aq

namespace Go.Proofs.Ytnpgeohkmdcbkaa.Aq

def edgeSL (c : Cs) (res : List Int) : List (Nat × Nat) := (edgeL c res).filter fun e => !Nat.beq e.1 c.S
theorem edgeSL_mem {c : Cs} {res : List Int} {u w : Nat} : EdgeS c res u w ↔ (u, w) ∈ edgeSL c res := by
  unfold EdgeS edgeSL
  rw [List.mem_filter, ← edgeL_mem, And.comm]
  refine and_congr_right fun _ => ?_
  rw [Bool.not_eq_true', ← Bool.not_eq_true, Nat.beq_eq]
theorem lower_exm {c : Cs} {res h D : List Int} (hm : mayB c res h = true) (hb : lowB c.N (edgeSL c res) (fun v => h.getD v 0) D = true) : lowerL c res h = D := lowerL_eq hm (lowB_low hb fun _ _ => edgeSL_mem)
theorem lowd_exm {c : Cs} {res h D : List Int} (e : lowerL c res h = D) : lowdL c res h = filt (fun v => decide (D.getD v 0 < h.getD v 0)) D.length := by
  unfold lowdL; rw [e]
def n19 : Nt := ⟨5, 0, 4, [(1, 2, 1), (2, 3, 1), (3, 4, 1)]⟩
theorem ok19 : NetOk n19 := ⟨by decide, by decide, by decide, by decide, by decide, by decide, by decide, by decide, fun a ha => by
  simp only [n19, List.mem_cons, List.not_mem_nil, or_false] at ha
  rcases ha with rfl | rfl | rfl <;> decide⟩
theorem m19 : (resL n19 []).length = 6 := by kernel_rfl
theorem low19a : lowerL (makeF n19) (resL n19 []) [5, 5, 5, 5, 0] = [5, 3, 2, 1, 0] := lower_exm (by kernel_rfl) (by kernel_rfl)
theorem low19b : lowdL (makeF n19) (resL n19 []) [5, 5, 5, 5, 0] = [1, 2, 3] := (lowd_exm low19a).trans (by kernel_rfl)
theorem low19c : lowerL (makeF n19) (resL n19 []) [5, 1, 5, 5, 0] = [5, 1, 2, 1, 0] := lower_exm (by kernel_rfl) (by kernel_rfl)
end Go.Proofs.Ytnpgeohkmdcbkaa.Aq

namespace Go.Proofs.Ytnpgeohkmdcbkaa.Aq
open Go Go.RowKit

set_option maxRecDepth 10000 in
/-- acequialaw19.awake. -/
theorem f53 (w : World) : Calls Try.prog 53 #[] w fun e w' => e = .returned (.bool true) ∧ Gr w w' := by
  refine calls_cw Try.func53 rfl Try.ntmps53 rfl ?_
  obtain ⟨C, hC⟩ : ∃ C, makeF n19 = C := ⟨_, rfl⟩
  obtain ⟨R, hR⟩ : ∃ R, resL n19 [] = R := ⟨_, rfl⟩
  have hwf : WF C := hC ▸ makeF_wf ok19
  have m1 := m19
  have e1 := low19a
  have e2 := low19b
  have e3 := low19c
  rw [hR] at m1 e1 e2 e3
  rw [hC] at e1 e2 e3
  have hS := St.start w
  refine cw_seq ?_
  -- region 0
  refine cw_region ?_
  refine lw_v rfl rfl (ok_assign rfl (.n rfl) rfl) ?_
  refine lw_nil ?_
  refine Ends.keep [] .nil ?_
  refine ends_then ?_
  refine cw_seq ?_
  -- region 1
  refine cw_region ?_
  refine lw_v rfl rfl (ok_build rfl (.n rfl) Try.underlying82 Try.zeroValue82 pl82 rfl rfl) ?_
  refine lw_v rfl rfl (ok_build rfl (.n rfl) Try.underlying82 Try.zeroValue82 pl82 rfl rfl) ?_
  refine lw_v rfl rfl (ok_build rfl (.n rfl) Try.underlying82 Try.zeroValue82 pl82 rfl rfl) ?_
  refine lw_ls (enc := eArc) [(1, 2, 1), (2, 3, 1), (3, 4, 1)] rfl rfl rfl Try.underlying22 Try.sizeOf82 Try.zeroValue82 rfl (by kernel_rfl) rfl (by decide) (by decide) hS ?_
  clear hS; intro A7 c7 w1 _ hS
  refine lw_v rfl rfl (ok_build rfl (.n rfl) Try.underlying24 Try.zeroValue24 pl24 rfl rfl) ?_
  refine lw_alloc rfl rfl rfl Try.zeroValue24 hS ?_
  clear hS; intro b1 w2 _ _ hS
  refine lw_stS rfl rfl rfl rfl rfl (by kernel_rfl) hS rfl (by rfl) (by rfl) ?_
  clear hS; intro w3 hS
  refine lw_nil ?_
  refine Ends.keep [(1, .eq _)] (.cons rfl .nil) ?_
  refine ends_then ?_
  refine cw_seq ?_
  -- region 2
  refine cw_region ?_
  refine lw_v rfl rfl (ok_ldS rfl (.n rfl) rfl Try.isAgg24 Try.sizeOf24 hS rfl) ?_
  refine lw_call (f := 23) (xs := [_, _]) rfl rfl rfl Try.call23 rfl (Calls.mono (f23e n19 A7 c7 [] none 0 _ ok19 hC hR (hS.rd A7 (by decide)) ((hS.nils (eInt .i64) 1).ok _ (.head _)) (by decide) (fun x hx => by cases hx)) ?_)
  rintro e w' ⟨q, A6, c6, rfl, hg, hnew, hat, hfr, hap, ho⟩
  replace hS := hS.left hg hat hnew ho hfr hap; clear hg hnew hat hfr hap ho
  refine ⟨_, rfl, ?_⟩
  refine lw_v rfl rfl (ok_move rfl (.n rfl) rfl) ?_
  refine lw_v rfl rfl (ok_extract rfl (.n rfl) rfl rfl) ?_
  refine lw_v rfl rfl (ok_extract rfl (.n rfl) rfl rfl) ?_
  refine lw_alloc rfl rfl rfl Try.zeroValue29 hS ?_
  clear hS; intro b2 w4 _ _ hS
  refine lw_stS rfl rfl rfl rfl rfl (by kernel_rfl) hS rfl (by rfl) (by rfl) ?_
  clear hS; intro w5 hS
  refine lw_v rfl rfl (ok_assign rfl (.n rfl) rfl) ?_
  refine lw_nil ?_
  refine Ends.keep [(2, .eq _), (3, .eq _)] (.cons rfl (.cons rfl .nil)) ?_
  refine ends_then ?_
  refine cw_seq ?_
  -- region 3
  refine cw_region ?_
  refine lw_v rfl rfl (ok_ldS rfl (.n rfl) rfl Try.isAgg29 Try.sizeOf29 hS rfl) ?_
  refine lw_v rfl rfl (ok_move rfl (.n rfl) rfl) ?_
  refine lw_ls (enc := (eInt .i64)) [5, 5, 5, 5, 0] rfl rfl rfl Try.underlying26 Try.sizeOf3 Try.zeroValue3 rfl (by kernel_rfl) rfl (by decide) (by decide) hS ?_
  clear hS; intro A16 c16 w6 _ hS
  refine lw_call (f := 48) (xs := [_, _, _]) rfl rfl rfl Try.call48 rfl (Calls.mono (f48 C q R [5, 5, 5, 5, 0] A6 c6 A16 c16 _ hwf (hS.cs q) (hS.rd A6 (by omega)) (hS.rd A16 (by decide))) ?_)
  rw [e1]
  rintro e w' ⟨A17, c17, rfl, hg, hfr, ho⟩
  replace hS := hS.new hg _ ho hfr; clear hg ho hfr
  refine ⟨_, rfl, ?_⟩
  refine lw_ls (enc := (eInt .i64)) [5, 3, 2, 1, 0] rfl rfl rfl Try.underlying26 Try.sizeOf3 Try.zeroValue3 rfl (by kernel_rfl) rfl (by decide) (by decide) hS ?_
  clear hS; intro A18 c18 w7 _ hS
  refine lw_call (f := 30) (xs := [_, _]) rfl rfl rfl Try.call30 rfl (Calls.mono (f30s A17 c17 A18 c18 [5, 3, 2, 1, 0] _ (hS.rd A17 (by decide)) (hS.rd A18 (by decide))) ?_)
  rintro e w' ⟨rfl, hg⟩
  replace hS := hS.grow hg; clear hg
  refine ⟨_, rfl, ?_⟩
  refine lw_v rfl rfl (ok_move rfl (.n rfl) rfl) ?_
  refine lw_on (.s rfl rfl) rfl ?_
  refine lw_v rfl rfl (ok_ldS rfl (.n rfl) rfl Try.isAgg29 Try.sizeOf29 hS rfl) ?_
  refine lw_on (.s rfl rfl) rfl ?_
  refine lw_v rfl rfl (ok_move rfl (.n rfl) rfl) ?_
  refine lw_on (.s rfl rfl) rfl ?_
  refine lw_ls (enc := (eInt .i64)) [5, 5, 5, 5, 0] rfl rfl rfl Try.underlying26 Try.sizeOf3 Try.zeroValue3 rfl (by kernel_rfl) rfl (by decide) (by decide) hS ?_
  clear hS; intro A23 c23 w8 _ hS
  refine lw_on (.s rfl rfl) rfl ?_
  refine lw_call (f := 51) (xs := [_, _, _]) rfl rfl rfl Try.call51 rfl (Calls.mono (f51 C q R [5, 5, 5, 5, 0] A6 c6 A23 c23 _ hwf (hS.cs q) (hS.rd A6 (by omega)) (hS.rd A23 (by decide))) ?_)
  rw [e2]
  rintro e w' ⟨A24, c24, rfl, hg, hfr, ho⟩
  replace hS := hS.new hg _ ho hfr; clear hg ho hfr
  refine ⟨_, rfl, ?_⟩
  refine lw_on (.s rfl rfl) rfl ?_
  refine lw_ls (enc := (eInt .i64)) [1, 2, 3] rfl rfl rfl Try.underlying26 Try.sizeOf3 Try.zeroValue3 rfl (by kernel_rfl) rfl (by decide) (by decide) hS ?_
  clear hS; intro A25 c25 w9 _ hS
  refine lw_on (.s rfl rfl) rfl ?_
  refine lw_call (f := 30) (xs := [_, _]) rfl rfl rfl Try.call30 rfl (Calls.mono (f30s A24 c24 A25 c25 [1, 2, 3] _ (hS.rd A24 (by decide)) (hS.rd A25 (by decide))) ?_)
  rintro e w' ⟨rfl, hg⟩
  replace hS := hS.grow hg; clear hg
  refine ⟨_, rfl, ?_⟩
  refine lw_v rfl rfl (ok_pick rfl rfl rfl rfl rfl) ?_
  refine lw_v rfl rfl (ok_move rfl (.n rfl) rfl) ?_
  refine lw_on (.s rfl rfl) rfl ?_
  refine lw_v rfl rfl (ok_ldS rfl (.n rfl) rfl Try.isAgg29 Try.sizeOf29 hS rfl) ?_
  refine lw_on (.s rfl rfl) rfl ?_
  refine lw_v rfl rfl (ok_move rfl (.n rfl) rfl) ?_
  refine lw_on (.s rfl rfl) rfl ?_
  refine lw_ls (enc := (eInt .i64)) [5, 1, 5, 5, 0] rfl rfl rfl Try.underlying26 Try.sizeOf3 Try.zeroValue3 rfl (by kernel_rfl) rfl (by decide) (by decide) hS ?_
  clear hS; intro A31 c31 w10 _ hS
  refine lw_on (.s rfl rfl) rfl ?_
  refine lw_call (f := 48) (xs := [_, _, _]) rfl rfl rfl Try.call48 rfl (Calls.mono (f48 C q R [5, 1, 5, 5, 0] A6 c6 A31 c31 _ hwf (hS.cs q) (hS.rd A6 (by omega)) (hS.rd A31 (by decide))) ?_)
  rw [e3]
  rintro e w' ⟨A32, c32, rfl, hg, hfr, ho⟩
  replace hS := hS.new hg _ ho hfr; clear hg ho hfr
  refine ⟨_, rfl, ?_⟩
  refine lw_on (.s rfl rfl) rfl ?_
  refine lw_ls (enc := (eInt .i64)) [5, 1, 2, 1, 0] rfl rfl rfl Try.underlying26 Try.sizeOf3 Try.zeroValue3 rfl (by kernel_rfl) rfl (by decide) (by decide) hS ?_
  clear hS; intro A33 c33 w11 _ hS
  refine lw_on (.s rfl rfl) rfl ?_
  refine lw_call (f := 30) (xs := [_, _]) rfl rfl rfl Try.call30 rfl (Calls.mono (f30s A32 c32 A33 c33 [5, 1, 2, 1, 0] _ (hS.rd A32 (by decide)) (hS.rd A33 (by decide))) ?_)
  rintro e w' ⟨rfl, hg⟩
  replace hS := hS.grow hg; clear hg
  refine ⟨_, rfl, ?_⟩
  refine lw_v rfl rfl (ok_pick rfl rfl rfl rfl rfl) ?_
  refine lw_v rfl rfl (ok_assign rfl (.n rfl) rfl) ?_
  refine lw_nil ?_
  refine Ends.keep [(0, .eq _)] (.cons rfl .nil) ?_
  refine ends_then ?_
  refine cw_ret ?_
  exact end_ret (res1 Try.results53 rfl) ⟨rfl, hS.below⟩

end Go.Proofs.Ytnpgeohkmdcbkaa.Aq
