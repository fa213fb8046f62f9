/- The engine, part 24: append of zeros to a slice of the call's own. No condition but those each lemma names. -/
import Derived.Test.YtnpgeohkmdcbkaaB10
import Derived.Lib.AppendZerosOnto
namespace Go.Proofs.Ytnpgeohkmdcbkaa.Aq
open Go Go.RowKit

theorem run_room_zeros {P : Program} (w : World) (t tn ty : TypeId) {i : TypeInfo} (ht : P.underlying t = some (.slice 2)) (htn : P.underlying tn = some (.int .i64)) (hi : P.info? 2 = some i) (hz : i.zero = some (.int .i64 0)) (hs : i.size = 1) (hb : i.bytes = 8)
    (g m c k : Nat) (cur : Array Value) (hg : w.heap[g]? = some (.cells cur 2 (0, 0))) (h0 : 0 < k) (hk : k ≤ 1000000) (hroom : m + k ≤ c) (hfit : m + k ≤ cur.size) :
    (Builtin.append_ #[t, tn] ty #[.slice (some ⟨g, 0, none⟩) m c, .int .i64 k]).run P w = .ok (.slice (some ⟨g, 0, none⟩) (m + k) c) (w.setRow g (cur.toList.take m ++ List.replicate k (Value.int .i64 0) ++ cur.toList.drop (m + k)).toArray) := by
  have hst := run_storeCells_at P g m 2 (List.replicate k (.int .i64 0)) 0 cur w hg (by simpa using hfit) (fun v hv => by rw [(List.mem_replicate.1 hv).2]; rfl)
  simp only [Nat.add_zero, List.length_replicate] at hst
  have hw : IntKind.i64.wrap (k : Int) = k := wrap_in ⟨by omega, by omega⟩
  have hneg : ¬ ((k : Int) < 0) := by omega
  have h48i : ¬ (281474976710656 < (k : Int) * (8 : Int)) := by omega
  have hk0 : k ≠ 0 := by omega
  have hzc : (Value.int .i64 0).cells = #[.int .i64 0] := rfl
  simp [Builtin.append_, run_underlying ht, run_underlying htn, sizeOf, typeInfo, zeroValue, hi, hz, hs, hb, asInt, asIntOf, hw, hk0, hneg, h48i, hroom, Addr.add_lit, zero_cells, hzc, hst]

theorem run_own_zeros {P : Program} (w : World) (t tn ty : TypeId) {i : TypeInfo} (ht : P.underlying t = some (.slice 2)) (htn : P.underlying tn = some (.int .i64)) (hi : P.info? 2 = some i) (hz : i.zero = some (.int .i64 0)) (hs : i.size = 1) (hb : i.bytes = 8)
    (v : Value) (n k : Nat) (xs : List Value) (hown : w.ownsRow 0 2 1 v n xs) (h0 : 0 < k) (hk : k ≤ 1000000) (hbytes : (n + k) * 8 ≤ 140737488355328) :
    ∃ v' w', (Builtin.append_ #[t, tn] ty #[v, .int .i64 k]).run P w = .ok v' w' ∧ w'.ownsRow 0 2 1 v' (n + k) (xs ++ List.replicate k (.int .i64 0)) ∧ w.grownBy w' v.ownBlock ∧ (v'.ownBlock = v.ownBlock ∨ v'.ownBlock = some w.heap.size) := by
  have hxl : xs.length = n := by rw [hown.1]; omega
  have hlen : (xs ++ List.replicate k (Value.int .i64 0)).length = (n + k) * 1 := by simp [hxl]
  have h63 : n + k ≤ maxLen := by simp only [maxLen]; omega
  have hzc : (Value.int .i64 0).cells = #[.int .i64 0] := rfl
  have s1 : ∀ m, (Builtin.zeroCells #[Value.int .i64 0] m).size = m := fun m => by rw [← Array.length_toList, zero_cells]; simp
  have grown : ∀ (old : Nat) (row : Option Nat), old < n + k →
      (w.drew.alloc (.cells (xs.toArray ++ Builtin.zeroCells #[.int .i64 0] k ++ Builtin.zeroCells #[.int .i64 0] (grownCap w (n + k) old 2 - (n + k))) 2)).ownsRow 0 2 1 (.slice (some ⟨w.heap.size, 0, none⟩) (n + k) (grownCap w (n + k) old 2)) (n + k) (xs ++ List.replicate k (.int .i64 0)) ∧
      w.grownBy (w.drew.alloc (.cells (xs.toArray ++ Builtin.zeroCells #[.int .i64 0] k ++ Builtin.zeroCells #[.int .i64 0] (grownCap w (n + k) old 2 - (n + k))) 2)) row := by
    intro old row ho
    have hge := grownCap_ge w (n + k) old 2
    have hcm := grownCap_le_maxLen w (n + k) old 2 h63
    refine ⟨⟨hlen, .inr ⟨w.heap.size, _, _, rfl, Nat.zero_le _, World.alloc_heap_new w.drew _, hge, hcm, ?_, ?_⟩⟩, ⟨rfl, rfl, rfl, by simp, fun j hj _ => Below.heap_alloc w.drew _ j hj⟩⟩
    · rw [Array.size_append, Array.size_append, s1, s1, List.size_toArray, hxl]; omega
    · rw [Array.toList_append, Array.toList_append, zero_cells, zero_cells, List.append_assoc, ← List.append_assoc, ← hlen]
      exact List.take_left
  rcases hown.2 with ⟨rfl, rfl⟩ | ⟨g, cap, cur, rfl, _, hg, hnc, hcm, hcs, htake⟩
  · have hx : xs = [] := List.eq_nil_of_length_eq_zero hxl
    subst hx
    have hr := Lib.run_append_nil_zeros (P := P) w t tn ty 2 i (.int .i64 0) .i64 .i64 ht htn hi hz k h0 (by omega) (by omega) (by rw [hb]; omega)
    have hgr := grown 0 (Value.ownBlock (.slice none 0 0)) (by omega)
    simp only [Nat.zero_add, List.nil_append, Array.empty_append, hzc] at hgr hr ⊢
    exact ⟨_, _, hr, hgr.1, hgr.2, .inr rfl⟩
  · by_cases hroom : n + k ≤ cap
    · have hr := run_room_zeros (P := P) w t tn ty ht htn hi hz hs hb g n cap k cur hg h0 hk hroom (by omega)
      refine ⟨_, _, hr, ⟨hlen, .inr ⟨g, cap, _, rfl, Nat.zero_le _, setRow_heap w g cur _ 2 _ hg, hroom, hcm, ?_, ?_⟩⟩, ⟨rfl, rfl, rfl, by simp, fun j _ hj => setRow_other w g j _ (fun e => hj (by simp [Value.ownBlock, e]))⟩, .inl rfl⟩
      · simp only [List.size_toArray, List.length_append, List.length_take, List.length_drop, Array.length_toList, List.length_replicate]
        omega
      · rw [Nat.mul_one] at htake
        rw [htake, ← hlen]
        exact List.take_left
    · have holds : ∀ j u, xs[j]? = some u → w.drew.cell? ((⟨g, 0, none⟩ : Addr).add j) = some u := hown.cells (g := g) rfl
      have hf := run_firstCells_some (P := P) w.drew i.size n ⟨g, 0, none⟩ n cap xs (by rw [hs]; omega) holds
      have hr := Lib.run_append_grow_zeros (P := P) w t tn ty 2 i (.int .i64 0) .i64 .i64 ht htn hi hz (some ⟨g, 0, none⟩) n cap xs hf k h0 (by omega) (by omega) (by omega) (by rw [hb]; omega) (growslice_fits (by omega) (by rw [hb]; exact hbytes))
      have hgr := grown cap (Value.ownBlock (.slice (some ⟨g, 0, none⟩) n cap)) (by omega)
      rw [hzc] at hr
      exact ⟨_, _, hr, hgr.1, hgr.2, .inr rfl⟩

section
variable {P : Program} {n : Nat} {ops : Array Oper} {Q : Exit → Act → World → Prop} {l : List Oper} {E : Env} {o : Oper} {w : World} {x y : Operand} {B : Nat} {we : World} {L : List Asn} {dfr : List Deferred}
theorem flat_ints (xs : List Int) : xs.flatMap (eInt .i64) = xs.map (Value.int .i64) := by
  induction xs with
  | nil => rfl
  | cons x xs ih => rw [List.flatMap_cons, ih]; rfl
theorem lw_apzo {A : Option Addr} {m c k : Nat} {xs : List Int} {t tn : TypeId} (hd : dstOk n o = true) (hg : o.guard = none)
    (ho : o.op = .call { callee := .builtin .append, args := #[x, y], argTypes := #[t, tn] }) (hu : P.underlying t = some (.slice 2)) (hut : P.underlying tn = some (.int .i64)) (hinfo : (P.info? 2).map (fun i => (i.zero, i.size, i.bytes)) = some (some (.int .i64 0), 1, 8))
    (hx : E.at none x = some (.slice A m c)) (hy : E.at none y = some (.int .i64 k)) (h0 : 0 < k) (hk : k ≤ 1000000) (hS : St B we w L) [hb : HasOwn L A (eInt .i64) 1 2 m c xs] (hl : (m + k) * 8 ≤ 140737488355328)
    (hn : ∀ A' c' w', (∀ L', Repl (own (eInt .i64) 1 2 A m c xs) (own (eInt .i64) 1 2 A' (m + k) c' (xs ++ List.replicate k 0)) L L' → St B we w' L') → LW dfr P n ops Q l (E.exact.updo o.dst (.eq (.slice A' (m + k) c'))) w') : LW dfr P n ops Q (o :: l) E w :=
  lw_w hd hg fun a _ hs => by
    have e1 := hs.ev hx
    have e2 := hs.ev hy
    obtain ⟨i0, hi, hzz⟩ := Option.map_eq_some_iff.1 hinfo
    simp only [Prod.mk.injEq] at hzz
    obtain ⟨hz0, hz1, hz2⟩ := hzz
    have hown : w.ownsRow 0 2 1 (.slice A m c) m (xs.flatMap (eInt .i64)) := (hS.ok _ hb.mem).2
    have hxl : xs.length = m := (hS.ok _ hb.mem).1
    obtain ⟨v', w', hr, h2, h3, h4⟩ := run_own_zeros (P := P) w t tn o.type hu hut hi hz0 hz1 hz2 (.slice A m c) m k _ hown h0 hk hl
    have hrun : (execOp a.eval o).run P w = .ok (.value v') w' := by
      unfold execOp
      simp only [ho, resolve, invoke, builtin, Sem.run_bind, Sem.run_pure, Result.andThen_ok, List.map_toArray, List.map_cons, List.map_nil, e1, e2, hr]
    unfold OpR
    rw [hrun]
    obtain ⟨g, cap, rfl, _⟩ := World.ownsRow.form h2 (by omega : 0 < m + k)
    have ef : (xs ++ List.replicate k (0 : Int)).flatMap (eInt .i64) = xs.flatMap (eInt .i64) ++ List.replicate k (.int .i64 0) := by rw [List.flatMap_append, flat_rep]
    refine hn (some ⟨g, 0, none⟩) cap w' fun L' hL' => hS.write hL' rfl (fun j hj hne => h3.block j hj fun e => ?_) h3.os h3.tape h3.output h3.size ⟨by simp [hxl], by rw [ef]; exact h2⟩ fun j hj => ?_
    · cases A with
      | none => simp [Value.ownBlock] at e
      | some ad =>
        simp only [Value.ownBlock, Option.some.injEq] at e
        exact hne ⟨ad, rfl, e.symm⟩
    · obtain ⟨ad, e, hb'⟩ := hj
      injection e with e
      subst e
      subst hb'
      rcases h4 with h4 | h4
      · cases A with
        | none => simp [Value.ownBlock] at h4
        | some ad =>
          simp only [Value.ownBlock, Option.some.injEq] at h4
          exact .inl ⟨ad, rfl, h4.symm⟩
      · simp only [Value.ownBlock, Option.some.injEq] at h4
        exact .inr (by rw [h4]; exact Nat.le_refl _)
end
end Go.Proofs.Ytnpgeohkmdcbkaa.Aq
