/- The walks of dist.Rows, and of acequialaw05's rows. -/
import Derived.Test.YtnpgeohkmdcbkaaDist
import Derived.Test.YtnpgeohkmdcbkaaEng16
import Derived.Test.YtnpgeohkmdcbkaaPlain8
namespace Go.Proofs.Ytnpgeohkmdcbkaa.Aq
open Go Go.RowKit

/-- A call that answers a new list of lists of numbers. -/
def RetR (f : FuncId) (args : List Value) (w : World) (xss : List (List Int)) : Prop :=
  Calls Try.prog f args.toArray w fun e w' => ∃ A c hs, e = .returned (.slice A hs.length c) ∧ Gr w w' ∧ (∀ b, (sl eSl 1 A hs.length c hs).fp b → w.heap.size ≤ b) ∧ (∀ b, (sls hs xss).fp b → w.heap.size ≤ b) ∧ (sl eSl 1 A hs.length c hs).p w' ∧ (sls hs xss).p w'
set_option maxRecDepth 10000 in
/-- dist.Rows. -/
theorem f49 (c : Cs) (q : Q6) (res : List Int) (t : Int) {m : Nat} (A1 : Option Addr) (c1 : Nat) (w : World) (hwf : WF c) (hc : CsAt c q w) (hr : (sl (eInt .i64) 1 A1 m c1 res).p w) : RetR 49 [csV c q, .slice A1 m c1, .int .i64 t] w (rowsL c res t) := by
  refine calls_cw Try.func49 rfl Try.ntmps49 rfl ?_
  have hS := (St.ofc hc).args (Nat.le_refl _) _ hr rfl
  have hN := hwf.hi
  have hrr := hr.2.1
  obtain ⟨hDl, hDr⟩ := toL_rng (c := c) (res := res) (t := t)
  unfold rowsL
  refine cw_seq ?_
  -- region 0
  refine cw_region ?_
  refine lw_box rfl rfl rfl rfl hS ?_
  clear hS; intro b3 w1 _ _ hS
  refine lw_v rfl rfl (ok_assign rfl (.n rfl) rfl) ?_
  refine lw_nil ?_
  refine Ends.keep [(1, .eq _), (2, .eq _), (3, .eq _)] (.cons rfl (.cons rfl (.cons rfl .nil))) ?_
  refine ends_then ?_
  refine cw_seq ?_
  -- region 1
  refine cw_region ?_
  refine lw_v rfl rfl (ok_ldS rfl (.n rfl) rfl Try.isAgg29 Try.sizeOf29 hS rfl) ?_
  refine lw_v rfl rfl (ok_move rfl (.n rfl) rfl) ?_
  refine lw_v rfl rfl (ok_move rfl (.n rfl) rfl) ?_
  refine lw_call (f := 41) (xs := [_, _, _]) rfl rfl rfl Try.call41 rfl (Calls.mono (f41 c q res t A1 c1 _ hwf (hS.cs q) (hS.rd A1 hrr)) ?_)
  rintro e w' ⟨A7, c7, rfl, hg, hfr, ho⟩
  replace hS := hS.new hg _ ho hfr; clear hg ho hfr
  generalize toL c res t = D at hS hDl hDr ⊢
  refine ⟨_, rfl, ?_⟩
  refine lw_v rfl rfl (ok_assign rfl (.n rfl) rfl) ?_
  refine lw_nil ?_
  refine Ends.keep [(3, .eq _), (7, .eq _)] (.cons rfl (.cons rfl .nil)) ?_
  refine ends_then ?_
  refine cw_seq ?_
  -- region 2
  refine cw_region ?_
  refine lw_v rfl rfl (ok_assign rfl (.n rfl) rfl) ?_
  refine lw_nil ?_
  refine Ends.keep [(3, .eq _), (7, .eq _), (8, .eq _)] (.cons rfl (.cons rfl (.cons rfl .nil))) ?_
  refine ends_then ?_
  refine cw_seq ?_
  refine cw_seq ?_
  -- region 3
  refine cw_region ?_
  refine lw_v rfl rfl (ok_move rfl (.n rfl) rfl) ?_
  refine lw_v rfl rfl (ok_len rfl (.n rfl) Try.underlying26 rfl) ?_
  refine lw_v rfl rfl (ok_move rfl (.n rfl) rfl) ?_
  refine lw_nil ?_
  refine Ends.keep [(3, .eq _), (8, .eq _), (15, .eq _), (16, .eq _), (17, .eq _)] (.cons rfl (.cons rfl (.cons rfl (.cons rfl (.cons rfl .nil))))) ?_
  refine ends_then ?_
  refine cw_block ?_
  -- LOOP at region 4: changed live slots [8, 17], kept [3, 15, 16]
  refine cw_loop4 [(3, .eq _), (15, .eq _), (16, .eq _)] (fun (v : Nat) (A' : Option Addr) (c' : Nat) (mm : Nat) => [(8, .eq (.slice A' mm c')), (17, .eq (.int .i64 v))]) (fun v A' c' mm w' => (v ≤ D.length ∧ mm = hiTo c.N D v) ∧ ∃ hs : List Hd, hs.length = mm ∧ St w.heap.size w w' [ownsE none hs (rowsTo D v mm), own eSl 1 26 A' mm c' hs, own (eInt .i64) 1 3 A7 D.length c7 D, bx b3 (csV c q).cells.toList 29, sl (eInt .i64) 1 A1 m c1 res, sl (eInt .i64) 1 q.a0 c.First.length q.c0 c.First, sl (eInt .i64) 1 q.a1 c.Head.length q.c1 c.Head, sl (eInt .i64) 1 q.a2 c.Rev.length q.c2 c.Rev, sl (eInt .i64) 1 q.a3 c.Cap.length q.c3 c.Cap, sl (eInt .i64) 1 q.a4 c.Arc.length q.c4 c.Arc, sl eBool 1 q.a5 c.Back.length q.c5 c.Back]) (fun v _ _ _ => D.length - v) 0 none 0 0 (.cons rfl (.cons rfl (.cons rfl .nil))) (.cons rfl (.cons rfl (.cons rfl (.cons rfl (.cons rfl .nil))))) ⟨⟨Nat.zero_le _, rfl⟩, [], rfl, (hS.nil eSl 1 26).ownsNil⟩ ?_
  clear hS
  rintro v A' c' mm wr ⟨⟨hv, hmm⟩, hs, hsl, hS⟩
  refine cw_seq ?_
  -- region 4
  refine cw_region ?_
  refine lw_v rfl rfl (ok_lss rfl (.n rfl) rfl rfl) ?_
  refine lw_nil ?_
  refine Ends.keep [(3, .eq _), (8, .eq _), (15, .eq _), (16, .eq _), (17, .eq _), (18, .eq _)] (.cons rfl (.cons rfl (.cons rfl (.cons rfl (.cons rfl (.cons rfl .nil)))))) ?_
  refine ends_then ?_
  refine cw_seq ?_
  refine cw_cond rfl (fun h18 => ?_) (fun h18 => ?_)
  ·
    have hlt : v < D.length := by have := of_decide_eq_true h18; omega
    have hDv := hDr v hlt
    obtain ⟨k, hk⟩ : ∃ k : Nat, D.getD (v : Int).toNat 0 = (k : Int) := ⟨(D.getD v 0).toNat, (Int.toNat_of_nonneg hDv.1).symm⟩
    have hk' : D.getD v 0 = (k : Int) := hk
    have hhi := hiTo_le hDr v hv
    refine cw_skip ?_
    refine ends_then ?_
    refine cw_seq ?_
    refine cw_block ?_
    refine cw_seq ?_
    -- region 5
    refine cw_region ?_
    refine lw_v rfl rfl (ok_move rfl (.n rfl) rfl) ?_
    refine lw_v rfl rfl (ok_ix rfl (.n rfl) Try.underlying26 Try.sizeOf3 rfl rfl hS (fun _ => ⟨by omega, by omega⟩)) ?_
    refine lw_v rfl rfl (ok_eq (ok_ldx rfl (.n rfl) rfl Try.isAgg3 hS (fun _ => ⟨by omega, by omega⟩) (by rfl)) (c' := .int .i64 (k : Int)) (fun _ => congrArg (Value.int .i64) hk)) ?_
    refine lw_v rfl rfl (ok_assign rfl (.n rfl) rfl) ?_
    refine lw_v rfl rfl (ok_assign rfl (.n rfl) rfl) ?_
    refine lw_nil ?_
    refine Ends.keep [(3, .eq _), (8, .eq _), (9, .eq _), (10, .eq _), (15, .eq _), (16, .eq _), (17, .eq _)] (.cons rfl (.cons rfl (.cons rfl (.cons rfl (.cons rfl (.cons rfl (.cons rfl .nil))))))) ?_
    refine ends_then ?_
    refine cw_seq ?_
    refine cw_seq ?_
    -- region 6
    refine cw_region ?_
    refine lw_v rfl rfl (ok_move rfl (.n rfl) rfl) ?_
    refine lw_v rfl rfl (ok_fb rfl (.n rfl) Try.underlying29 rfl Try.sizeOf3 (by decide) rfl) ?_
    refine lw_v rfl rfl (ok_ldb rfl (.n rfl) rfl Try.isAgg3 hS (by rfl)) ?_
    refine lw_v rfl rfl (ok_eql rfl (.n rfl) rfl rfl) ?_
    refine lw_nil ?_
    refine Ends.keep [(3, .eq _), (8, .eq _), (9, .eq _), (10, .eq _), (15, .eq _), (16, .eq _), (17, .eq _), (25, .eq _)] (.cons rfl (.cons rfl (.cons rfl (.cons rfl (.cons rfl (.cons rfl (.cons rfl (.cons rfl .nil)))))))) ?_
    refine ends_then ?_
    refine cw_cond rfl (fun h25 => ?_) (fun h25 => ?_)
    ·
      refine cw_exit ?_
      refine then_exit (in_exit (?_))
      refine Ends.keep [(3, .eq _), (8, .eq _), (15, .eq _), (16, .eq _), (17, .eq _)] (.cons rfl (.cons rfl (.cons rfl (.cons rfl (.cons rfl .nil))))) ?_
      refine ends_then ?_
      -- region 10
      refine cw_region ?_
      refine lw_v rfl rfl (ok_addi rfl (.n rfl) rfl rfl (fun _ => ⟨by omega, by omega⟩)) ?_
      refine lw_v rfl rfl (ok_move rfl (.n rfl) rfl) ?_
      refine lw_nil ?_
      -- BACK
      have hkN : D.getD v 0 = (c.N : Int) := by have := of_decide_eq_true h25; omega
      refine ends_back4 (v + 1) A' c' mm (.cons rfl (.cons rfl (.cons rfl (.cons rfl (.cons rfl .nil))))) ⟨⟨by omega, by unfold hiTo; rw [if_pos hkN]; exact hmm⟩, hs, hsl, ?_⟩ (by omega)
      rw [← rows_skip (fun i hi => by have := hiTo_le hDr v hv; omega)]; exact hS
    ·
      have hkN : k < c.N := by have := of_decide_eq_false h25; omega
      refine cw_skip ?_
      refine ends_then ?_
      refine cw_seq ?_
      refine cw_block ?_
      -- LOOP at region 7: changed live slots [8], kept [3, 9, 10, 15, 16, 17]
      refine cw_loop3 [(3, .eq _), (9, .eq _), (10, .eq _), (15, .eq _), (16, .eq _), (17, .eq _)] (fun (A' : Option Addr) (c' : Nat) (mm : Nat) => [(8, .eq (.slice A' mm c'))]) (fun A' c' mm w' => (hiTo c.N D v ≤ mm ∧ mm ≤ max (hiTo c.N D v) (k + 1)) ∧ ∃ hs : List Hd, hs.length = mm ∧ St w.heap.size w w' [ownsE none hs (rowsTo D v mm), own eSl 1 26 A' mm c' hs, own (eInt .i64) 1 3 A7 D.length c7 D, bx b3 (csV c q).cells.toList 29, sl (eInt .i64) 1 A1 m c1 res, sl (eInt .i64) 1 q.a0 c.First.length q.c0 c.First, sl (eInt .i64) 1 q.a1 c.Head.length q.c1 c.Head, sl (eInt .i64) 1 q.a2 c.Rev.length q.c2 c.Rev, sl (eInt .i64) 1 q.a3 c.Cap.length q.c3 c.Cap, sl (eInt .i64) 1 q.a4 c.Arc.length q.c4 c.Arc, sl eBool 1 q.a5 c.Back.length q.c5 c.Back]) (fun _ _ mm => k + 1 - mm) A' c' mm (.cons rfl (.cons rfl (.cons rfl (.cons rfl (.cons rfl (.cons rfl .nil)))))) (.cons rfl (.cons rfl (.cons rfl (.cons rfl (.cons rfl (.cons rfl (.cons rfl .nil))))))) ⟨⟨by omega, by omega⟩, hs, hsl, hS⟩ ?_
      clear hS
      clear hsl hmm hs
      rintro A' c' mm2 wr ⟨⟨hm0, hm1⟩, hs, hsl, hS⟩
      refine cw_seq ?_
      refine cw_seq ?_
      -- region 7
      refine cw_region ?_
      refine lw_v rfl rfl (ok_move rfl (.n rfl) rfl) ?_
      refine lw_v rfl rfl (ok_len rfl (.n rfl) Try.underlying47 rfl) ?_
      refine lw_v rfl rfl (ok_move rfl (.n rfl) rfl) ?_
      refine lw_v rfl rfl (ok_leq rfl (.n rfl) rfl rfl) ?_
      refine lw_nil ?_
      refine Ends.keep [(3, .eq _), (8, .eq _), (9, .eq _), (10, .eq _), (15, .eq _), (16, .eq _), (17, .eq _), (29, .eq _)] (.cons rfl (.cons rfl (.cons rfl (.cons rfl (.cons rfl (.cons rfl (.cons rfl (.cons rfl .nil)))))))) ?_
      refine ends_then ?_
      refine cw_cond rfl (fun h29 => ?_) (fun h29 => ?_)
      ·
        have hmk : mm2 ≤ k := by have := of_decide_eq_true h29; omega
        refine cw_skip ?_
        refine ends_then ?_
        refine cw_block ?_
        -- region 8
        refine cw_region ?_
        refine lw_v rfl rfl (ok_move rfl (.n rfl) rfl) ?_
        refine lw_ls (enc := eSl) [(none, 0, 0)] rfl rfl rfl Try.underlying47 Try.sizeOf26 Try.zeroValue26 rfl (by kernel_rfl) rfl (by decide) (by decide) hS ?_
        clear hS; intro A31 c31 w2 _ hS
        refine lw_append (enc := eSl) rfl rfl rfl Try.underlying47 info26 rfl rfl rfl hS (by decide) (by omega) (by omega) ?_
        intro A32 c32 w3 hS1; replace hS := hS1 _ (Rep.r); clear hS1
        refine lw_v rfl rfl (ok_assign rfl (.n rfl) rfl) ?_
        refine lw_nil ?_
        refine in_normal (?_)
        -- BACK
        refine ends_back3 A32 c32 (hs ++ [(none, 0, 0)]).length (.cons rfl (.cons rfl (.cons rfl (.cons rfl (.cons rfl (.cons rfl (.cons rfl .nil))))))) ⟨⟨by simp; omega, by simp; omega⟩, hs ++ [(none, 0, 0)], rfl, ?_⟩ (by simp; omega)
        have hS2 := hS.tail.ownsAdd
        rw [rows_add hm0 (by omega)] at hS2
        rw [show (hs ++ [((none, 0, 0) : Hd)]).length = mm2 + 1 by simp [hsl]] at hS2 ⊢
        exact hS2
      ·
        have hkl : k < mm2 := by have := of_decide_eq_false h29; omega
        replace hS := hS.ownsSplit (k := k) (by omega)
        obtain ⟨Ak, mk, ck, hek⟩ : ∃ a b d, hs.getD k (none, 0, 0) = (a, b, d) := ⟨_, _, _, rfl⟩
        unfold ownK at hS
        rw [hek, rowsTo_get hkl] at hS
        have hmk : (rowAt D v k).length = mk := (hS.ok _ (.head _)).1
        have hml := rowAt_len D v k
        refine cw_exit ?_
        refine then_exit (then_exit (in_exit (?_)))
        refine Ends.keep [(3, .eq _), (8, .eq _), (9, .eq _), (10, .eq _), (15, .eq _), (16, .eq _), (17, .eq _)] (.cons rfl (.cons rfl (.cons rfl (.cons rfl (.cons rfl (.cons rfl (.cons rfl .nil))))))) ?_
        refine ends_then ?_
        -- region 9
        refine cw_region ?_
        refine lw_v rfl rfl (ok_move rfl (.n rfl) rfl) ?_
        refine lw_v rfl rfl (ok_move rfl (.n rfl) rfl) ?_
        refine lw_v rfl rfl (ok_move rfl (.n rfl) rfl) ?_
        refine lw_v rfl rfl (ok_move rfl (.n rfl) rfl) ?_
        refine lw_v rfl rfl (ok_ix rfl (.n rfl) Try.underlying47 Try.sizeOf26 rfl rfl hS (fun _ => ⟨by omega, by omega⟩)) ?_
        refine lw_v rfl rfl (ok_eq (ok_ldx rfl (.n rfl) rfl Try.isAgg26 hS (fun _ => ⟨by omega, by omega⟩) (by rfl)) (c' := .slice Ak mk ck) (fun _ => by show Value.slice (hs.getD k (none, 0, 0)).1 (hs.getD k (none, 0, 0)).2.1 (hs.getD k (none, 0, 0)).2.2 = _; rw [hek])) ?_
        refine lw_v rfl rfl (ok_move rfl (.n rfl) rfl) ?_
        refine lw_ls (enc := (eInt .i64)) [(v : Int)] rfl rfl rfl Try.underlying26 Try.sizeOf3 Try.zeroValue3 rfl (by kernel_rfl) rfl (by decide) (by decide) hS ?_
        clear hS; intro A40 c40 w4 _ hS
        refine lw_append (enc := (eInt .i64)) rfl rfl rfl Try.underlying26 info3 rfl rfl rfl hS (by decide) (by omega) (by omega) ?_
        intro A41 c41 w5 hS1; replace hS := hS1 _ (Rep.r); clear hS1
        refine lw_v rfl rfl (ok_ix rfl (.n rfl) Try.underlying47 Try.sizeOf26 rfl rfl hS (fun _ => ⟨by omega, by omega⟩)) ?_
        refine lw_stx (enc := eSl) ((A41, (rowAt D v k ++ [(v : Int)]).length, c41)) rfl rfl rfl rfl rfl rfl Try.sizeOf26 hS (⟨by omega, by omega⟩) ?_
        clear hS; intro w6 hS
        refine lw_nil ?_
        refine in_normal (?_)
        refine Ends.keep [(3, .eq _), (8, .eq _), (15, .eq _), (16, .eq _), (17, .eq _)] (.cons rfl (.cons rfl (.cons rfl (.cons rfl (.cons rfl .nil))))) ?_
        refine ends_then ?_
        -- region 10
        refine cw_region ?_
        refine lw_v rfl rfl (ok_addi rfl (.n rfl) rfl rfl (fun _ => ⟨by omega, by omega⟩)) ?_
        refine lw_v rfl rfl (ok_move rfl (.n rfl) rfl) ?_
        refine lw_nil ?_
        -- BACK
        refine ends_back4 (v + 1) A' c' mm2 (.cons rfl (.cons rfl (.cons rfl (.cons rfl (.cons rfl .nil))))) ⟨⟨by omega, by unfold hiTo; rw [if_neg (by omega)]; omega⟩, hs.set k (A41, (rowAt D v k ++ [(v : Int)]).length, c41), by rw [List.length_set]; exact hsl, ?_⟩ (by omega)
        rw [← rows_set hk' hkl]; exact hS.tail.ownsJoin (by omega)
  ·
    have hve : v = D.length := by have := of_decide_eq_false h18; omega
    refine cw_exit ?_
    refine then_exit (then_exit (in_exit (?_)))
    refine Ends.keep [(8, .eq _)] (.cons rfl .nil) ?_
    refine ends_then ?_
    refine cw_seq ?_
    -- region 11
    refine cw_region ?_
    refine lw_v rfl rfl (ok_move rfl (.n rfl) rfl) ?_
    refine lw_v rfl rfl (ok_assign rfl (.n rfl) rfl) ?_
    refine lw_nil ?_
    refine Ends.keep [(6, .eq _)] (.cons rfl .nil) ?_
    refine ends_then ?_
    refine cw_ret ?_
    subst hve
    have hle := hiTo_le hDr _ (Nat.le_refl _)
    have hS2 := hS.ownsFreeze (fun k hk => by rw [rowsTo_get (by omega)]; have := rowAt_len D D.length k; omega)
    subst hsl
    have hS3 := hS2.swap.freeze .here (by omega)
    have e : rowsF c.N D = rowsTo D D.length hs.length := by unfold rowsF; rw [hmm]
    refine end_ret (res1 Try.results49 rfl) ⟨A', c', hs, rfl, hS3.below, own_fp fun b hb => hS.ge _ (.tail _ (.head _)) rfl b hb, fun b ⟨k, hk, ad, e1, e2, _⟩ => hS.ge _ (.head _) rfl b ⟨k, hk, by simp, ad, e1, e2⟩, hS3.ok _ (.head _), ?_⟩
    rw [e]; exact hS3.ok _ (.tail _ (.head _))

set_option maxRecDepth 10000 in
/-- acequialaw05.rows. -/
theorem f58 (xss yss : List (List Int)) (hs1 hs2 : List Hd) {m1 m2 : Nat} (A1 : Option Addr) (c1 : Nat) (A2 : Option Addr) (c2 : Nat) (w : World) (h1 : (sl eSl 1 A1 m1 c1 hs1).p w) (h2 : (sl eSl 1 A2 m2 c2 hs2).p w) (g1 : (sls hs1 xss).p w) (g2 : (sls hs2 yss).p w) : RetV 58 [.slice A1 m1 c1, .slice A2 m2 c2] w (.bool (decide (xss = yss))) := by
  refine calls_cw Try.func58 rfl Try.ntmps58 rfl ?_
  have hS := ((((St.start w).args (Nat.le_refl _) _ h1 rfl).args (Nat.le_refl _) _ h2 rfl).args (Nat.le_refl _) _ g1 rfl).args (Nat.le_refl _) _ g2 rfl
  have hb1 := h1.2.1
  have l1 := h1.1.1
  have l2 := h2.1.1
  have l3 := g1.1
  have l4 := g2.1
  refine cw_seq ?_
  -- region 0
  refine cw_region ?_
  refine lw_v rfl rfl (ok_assign rfl (.n rfl) rfl) ?_
  refine lw_nil ?_
  refine Ends.keep [(0, .eq _), (1, .eq _)] (.cons rfl (.cons rfl .nil)) ?_
  refine ends_then ?_
  refine cw_seq ?_
  refine cw_seq ?_
  -- region 1
  refine cw_region ?_
  refine lw_v rfl rfl (ok_move rfl (.n rfl) rfl) ?_
  refine lw_v rfl rfl (ok_len rfl (.n rfl) Try.underlying47 rfl) ?_
  refine lw_v rfl rfl (ok_move rfl (.n rfl) rfl) ?_
  refine lw_v rfl rfl (ok_len rfl (.n rfl) Try.underlying47 rfl) ?_
  refine lw_v rfl rfl (ok_neq rfl (.n rfl) rfl rfl) ?_
  refine lw_nil ?_
  refine Ends.keep [(0, .eq _), (1, .eq _), (10, .eq _)] (.cons rfl (.cons rfl (.cons rfl .nil))) ?_
  refine ends_then ?_
  refine cw_cond rfl (fun h10 => ?_) (fun h10 => ?_)
  ·
    refine cw_seq ?_
    -- region 2
    refine cw_region ?_
    refine lw_v rfl rfl (ok_assign rfl (.n rfl) rfl) ?_
    refine lw_nil ?_
    refine Ends.keep [(4, .eq _)] (.cons rfl .nil) ?_
    refine ends_then ?_
    refine cw_ret ?_
    refine then_ret (?_)
    refine end_ret (res1 Try.results58 rfl) ⟨?_, hS.below⟩
    rw [decide_eq_false fun e => ?_]
    have hne : decide ((m1 : Int) = m2) = false := by simpa using h10
    have := of_decide_eq_false hne
    have := congrArg List.length e
    omega
  ·
    have hmm : m1 = m2 := by
      have hd : decide ((m1 : Int) = m2) = true := by simpa using h10
      have := of_decide_eq_true hd
      omega
    refine cw_skip ?_
    refine ends_then ?_
    refine cw_seq ?_
    refine cw_seq ?_
    -- region 3
    refine cw_region ?_
    refine lw_v rfl rfl (ok_move rfl (.n rfl) rfl) ?_
    refine lw_v rfl rfl (ok_len rfl (.n rfl) Try.underlying47 rfl) ?_
    refine lw_v rfl rfl (ok_move rfl (.n rfl) rfl) ?_
    refine lw_nil ?_
    refine Ends.keep [(0, .eq _), (1, .eq _), (12, .eq _), (13, .eq _)] (.cons rfl (.cons rfl (.cons rfl (.cons rfl .nil)))) ?_
    refine ends_then ?_
    refine cw_block ?_
    -- LOOP at region 4: changed live slots [13], kept [0, 1, 12]
    refine cw_loop [(0, .eq _), (1, .eq _), (12, .eq _)] (fun k : Nat => [(13, .eq (.int .i64 k))]) (fun k w' => (k ≤ m1 ∧ ∀ i, i < k → xss.getD i [] = yss.getD i []) ∧ St w.heap.size w w' [sls hs2 yss, sls hs1 xss, sl eSl 1 A2 m2 c2 hs2, sl eSl 1 A1 m1 c1 hs1]) (fun k => m1 - k) 0 (.cons rfl (.cons rfl (.cons rfl .nil))) (.cons rfl (.cons rfl (.cons rfl (.cons rfl .nil)))) ⟨⟨Nat.zero_le _, fun i h => absurd h (Nat.not_lt_zero i)⟩, hS⟩ ?_
    clear hS
    rintro k wr ⟨⟨hk, hp⟩, hS⟩
    refine cw_seq ?_
    -- region 4
    refine cw_region ?_
    refine lw_v rfl rfl (ok_lss rfl (.n rfl) rfl rfl) ?_
    refine lw_nil ?_
    refine Ends.keep [(0, .eq _), (1, .eq _), (12, .eq _), (13, .eq _), (14, .eq _)] (.cons rfl (.cons rfl (.cons rfl (.cons rfl (.cons rfl .nil))))) ?_
    refine ends_then ?_
    refine cw_seq ?_
    refine cw_cond rfl (fun h14 => ?_) (fun h14 => ?_)
    ·
      have hlt : k < m1 := by have := of_decide_eq_true h14; omega
      refine cw_skip ?_
      refine ends_then ?_
      refine cw_seq ?_
      refine cw_block ?_
      refine cw_seq ?_
      -- region 5
      refine cw_region ?_
      refine lw_v rfl rfl (ok_move rfl (.n rfl) rfl) ?_
      refine lw_v rfl rfl (ok_assign rfl (.n rfl) rfl) ?_
      refine lw_nil ?_
      refine Ends.keep [(0, .eq _), (1, .eq _), (5, .eq _), (12, .eq _), (13, .eq _)] (.cons rfl (.cons rfl (.cons rfl (.cons rfl (.cons rfl .nil))))) ?_
      refine ends_then ?_
      refine cw_seq ?_
      -- region 6
      refine cw_draw (by kernel_rfl) (List.take 8 _) (List.drop 8 _) (List.take_append_drop 8 _).symm (by kernel_rfl) ?_
      refine free_v (ok_move rfl (.n rfl) rfl) ?_
      refine free_v (ok_move rfl (.n rfl) rfl) ?_
      refine free_v (ok_ix rfl (.n rfl) Try.underlying47 Try.sizeOf26 rfl rfl hS (fun _ => ⟨by omega, by omega⟩)) ?_
      refine free_v (ok_ldx rfl (.n rfl) rfl Try.isAgg26 hS (fun _ => ⟨by omega, by omega⟩) (by rfl)) ?_
      refine free_v (ok_move rfl (.n rfl) rfl) ?_
      refine free_v (ok_move rfl (.n rfl) rfl) ?_
      refine free_v (ok_ix rfl (.n rfl) Try.underlying47 Try.sizeOf26 rfl rfl hS (fun _ => ⟨by omega, by omega⟩)) ?_
      refine free_v (ok_ldx rfl (.n rfl) rfl Try.isAgg26 hS (fun _ => ⟨by omega, by omega⟩) (by rfl)) ?_
      refine free_nil ?_
      intro w1 hg_; replace hS := hS.grow hg_; clear hg_
      refine lw_o rfl rfl (ok_callv (.bool (decide (xss.getD k [] = yss.getD k []))) rfl rfl Try.call30 rfl (fun w' hg => f30g (hs1.getD k (none, 0, 0)).1 (hs1.getD k (none, 0, 0)).2.2 (hs2.getD k (none, 0, 0)).1 (hs2.getD k (none, 0, 0)).2.2 w' (yss.getD k []) (xss.getD k []) (((hS.grow hg).ok _ (.tail _ (.head _))).2 k (by omega)) (((hS.grow hg).ok _ (.head _)).2 k (by omega)))) ?_
      intro w2 hg_; replace hS := hS.grow hg_; clear hg_
      refine lw_v rfl rfl (ok_not rfl (.n rfl) rfl) ?_
      refine lw_nil ?_
      refine Ends.keep [(0, .eq _), (1, .eq _), (12, .eq _), (13, .eq _), (25, .eq _)] (.cons rfl (.cons rfl (.cons rfl (.cons rfl (.cons rfl .nil))))) ?_
      refine ends_then ?_
      refine cw_cond rfl (fun h25 => ?_) (fun h25 => ?_)
      ·
        refine cw_seq ?_
        -- region 7
        refine cw_region ?_
        refine lw_v rfl rfl (ok_assign rfl (.n rfl) rfl) ?_
        refine lw_nil ?_
        refine Ends.keep [(4, .eq _)] (.cons rfl .nil) ?_
        refine ends_then ?_
        refine cw_ret ?_
        refine in_ret (then_ret (then_ret (in_ret (then_ret (?_)))))
        refine end_ret (res1 Try.results58 rfl) ⟨?_, hS.below⟩
        rw [decide_eq_false fun e => ?_]
        rw [e] at h25; simp at h25
      ·
        refine cw_skip ?_
        refine in_normal (?_)
        refine ends_then ?_
        -- region 8
        refine cw_region ?_
        refine lw_v rfl rfl (ok_addi rfl (.n rfl) rfl rfl (fun _ => ⟨by omega, by omega⟩)) ?_
        refine lw_v rfl rfl (ok_move rfl (.n rfl) rfl) ?_
        refine lw_nil ?_
        -- BACK
        refine ends_back (k + 1) (.cons rfl (.cons rfl (.cons rfl (.cons rfl .nil)))) ⟨⟨by omega, fun i hi => ?_⟩, hS⟩ (by omega)
        rcases Nat.lt_or_ge i k with h | h
        · exact hp i h
        · have : i = k := by omega
          subst this; simpa using h25
    ·
      have hke : k = m1 := by have := of_decide_eq_false h14; omega
      refine cw_exit ?_
      refine then_exit (then_exit (in_exit (?_)))
      refine Ends.keep [] .nil ?_
      refine ends_then ?_
      refine cw_seq ?_
      -- region 9
      refine cw_region ?_
      refine lw_v rfl rfl (ok_assign rfl (.n rfl) rfl) ?_
      refine lw_nil ?_
      refine Ends.keep [(4, .eq _)] (.cons rfl .nil) ?_
      refine ends_then ?_
      refine cw_ret ?_
      refine end_ret (res1 Try.results58 rfl) ⟨?_, hS.below⟩
      rw [decide_eq_true]
      refine List.ext_getElem (by omega) fun i h1 h2 => ?_
      have := hp i (by omega)
      simpa [List.getD_eq_getElem?_getD, h1, h2] using this

end Go.Proofs.Ytnpgeohkmdcbkaa.Aq
