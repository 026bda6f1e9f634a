/- Act. No condition. -/
import Derived.Test.YtfhopjigdkjnoaaK21
import Derived.Laws.CopyOwn
import Derived.Laws.CopyRow
import Derived.ChangeKeysEq
import Derived.Deep.RegionHeld3
import Derived.Deep.MidRow
import Derived.Shelf.Abstract
import Derived.Maps.OwnSet
import Derived.Maps.AppendAt
import Derived.WalkSpells
namespace Go.Proofs.Ytfhopjigdkjnoaa.GA
open Go.RowKit Go.Shelf Go.Proofs.YtfhopjigdkjnoaaW.PrintWords Go.Proofs.YtfhopjigdkjnoaaW.PrintLast Go.Proofs.YtfhopjigdkjnoaaW.PrintMore
set_option linter.unusedVariables false
set_option linter.unusedSimpArgs false

theorem goesW_ {P : Program} {ops : Array Oper} {Q : Exit → Act → World → Prop} {oi : Oper} {N : Option Tmp} {a : Act} {w : World} {K : Act → World → Prop} {f : FuncId} {c : Operand} {ops_ : Array Operand} {ts : Array TypeId} (he : ∀ args w, (callFunc f args).run P w = .ok (.enter f args) w) (args : Array Value)
    (hw : Region.wanted oi (yielded ops a.tmps) = true) (hN : oi.dst = N) (hv : a.eval c = .func (.func f) #[] #[]) (hop : oi.op = .call { callee := .value c, args := ops_, argTypes := ts }) (hargs : ops_.map a.eval = args)
    (h : Calls P f args w fun e w' => ∃ v, e = .returned v ∧ K (a.put N v) w') : if Region.wanted oi (yielded ops a.tmps) = true then Oper.wp P oi a w K Q else K (a.put N undef) w := by
  refine call_ f args hw hN ?_ h
  have he := he args w
  unfold execOp
  simp [hop, resolve, hv, Deferred.ofValue, invoke, hargs, he]
theorem zval63 (w : World) : ∃ z, (zeroValue 63).run Try.prog w = .ok z w ∧ (Try.prog.info? 63).map (·.zero) = some (some z) := by
  have h : ((Try.prog.info? 63).bind (·.zero)).isSome = true := by kernel_rfl
  cases hi : Try.prog.info? 63 with
  | none => rw [hi] at h; cases h
  | some i =>
    cases hz : i.zero with
    | none => rw [hi] at h; simp [hz] at h
    | some z => exact ⟨z, by simp [zeroValue, typeInfo, hi, hz], by simp [hz]⟩
theorem zv63 : ∃ z, ∀ w, (zeroValue 63).run Try.prog w = .ok z w := by
  obtain ⟨z, _, hz⟩ := zval63 default
  obtain ⟨i, hi, hz⟩ := Option.map_eq_some_iff.1 hz
  exact ⟨z, fun w => by simp [zeroValue, typeInfo, hi, hz]⟩
theorem zv69 : ∃ z, ∀ w, (zeroValue 69).run Try.prog w = .ok z w := by
  have h : ((Try.prog.info? 69).bind (·.zero)).isSome = true := by kernel_rfl
  cases hi : Try.prog.info? 69 with
  | none => rw [hi] at h; cases h
  | some i =>
    cases hz : i.zero with
    | none => rw [hi] at h; simp [hz] at h
    | some z => exact ⟨z, fun w => by simp [zeroValue, typeInfo, hi, hz]⟩

set_option maxHeartbeats 8000000 in
set_option maxRecDepth 100000 in
theorem Act.neg (w : World) (gc mb B : Nat) (vl vw : Value) (s : CS) (hC : Cl w gc mb B vl vw s) (hn : s.W.length ≤ 1000000) (hn2 : s.L.length ≤ 1000000) (ak an aa ab at_ : Int) (ha : an < 0) : Calls Try.prog 8 #[.pointer (some ⟨gc, 0, none⟩), .agg #[.int .u8 ak, .int .i64 an, .int .i64 aa, .int .i64 ab, .int .u64 at_]] w fun e' w' => e' = .returned (.slice none 0 0) ∧ Post w w' gc mb B vl vw s := by
  have HC := Aside0.mk hC
  have HB := Aside0.mk (Below.refl w.heap.size w)
  clear hC
  go_enter Try.func8, Try.ntmps8
  go_upto_region 1 with ((with_reducible refine gate_dst (N := 3) rfl ?_); refine box_event ?hg (N := 3) ?hd (cs := #[.int .u8 ak, .int .i64 an, .int .i64 aa, .int .i64 ab, .int .u64 at_]) (t := 31) ?hr ?_; (case hd => rfl); (case hg => rfl); (case hr => first | (go_simp; done) | (go_simp; rfl)); intro ga hg w1_a hbox hb; have GGa := Aside0.mk (show w.heap.size ≤ ga from by rw [hg]; exact below_size (by repeat (first | (with_reducible first | exact HB.out | apply below_alloc | apply pw_below_drewN | apply below_drew1) | exact HB.out))); have BKa := Aside0.mk hbox; clear hbox hg; have n0_ := Aside0.mk (below_step (by repeat (first | (with_reducible first | exact HB.out | apply below_alloc | apply pw_below_drewN | apply below_drew1) | exact HB.out)) hb); clear HB; have HB := n0_; clear n0_ hb)
  have HC1 := Aside0.mk (HC.out.below HB.out)
  have y0 : w1_a.cell? ⟨ga, 0, none⟩ = some (.int .u8 ak) := (blk_cell BKa.out 0).trans rfl
  have y1 : w1_a.cell? ⟨ga, 1, none⟩ = some (.int .i64 an) := (blk_cell BKa.out 1).trans rfl
  have y2 : w1_a.cell? ⟨ga, 2, none⟩ = some (.int .i64 aa) := (blk_cell BKa.out 2).trans rfl
  have y3 : w1_a.cell? ⟨ga, 3, none⟩ = some (.int .i64 ab) := (blk_cell BKa.out 3).trans rfl
  have y4 : w1_a.cell? ⟨ga, 4, none⟩ = some (.int .u64 at_) := (blk_cell BKa.out 4).trans rfl
  go_wp2_with (go_at_call 15; with_reducible refine (none_.calls _ gc mb B vl vw s HC1.out).mono ?_; rintro e w2 ⟨rfl, hb⟩; have n0 := Aside0.mk (HC1.out.below hb); have n1 := Aside0.mk (blk_below BKa.out hb); have n2 := Aside0.mk (HB.out.trans (Below.mono hb HB.out.size)); clear BKa HB hb y0 y1 y2 y3 y4; have BKa := n1; have HB := n2; have HC2 := n0; clear n0 n1 n2; have y0 : w2.cell? ⟨ga, 0, none⟩ = some (.int .u8 ak) := (blk_cell BKa.out 0).trans rfl; have y1 : w2.cell? ⟨ga, 1, none⟩ = some (.int .i64 an) := (blk_cell BKa.out 1).trans rfl; have y2 : w2.cell? ⟨ga, 2, none⟩ = some (.int .i64 aa) := (blk_cell BKa.out 2).trans rfl; have y3 : w2.cell? ⟨ga, 3, none⟩ = some (.int .i64 ab) := (blk_cell BKa.out 3).trans rfl; have y4 : w2.cell? ⟨ga, 4, none⟩ = some (.int .u64 at_) := (blk_cell BKa.out 4).trans rfl)
  go_ret
  exact ⟨rfl, Post.of HC.out HB.out⟩

theorem quote_some (a b c d e : Int) : ∃ r, cloud_quote.f a b c d e = some r := by
  unfold cloud_quote.f
  repeat' split
  all_goals exact ⟨_, rfl⟩

set_option maxHeartbeats 8000000 in
set_option maxRecDepth 100000 in
theorem Act.quote (w : World) (gc mb B : Nat) (vl vw : Value) (s : CS) (hC : Cl w gc mb B vl vw s) (hn : s.W.length ≤ 1000000) (hn2 : s.L.length ≤ 1000000) (ak an aa ab at_ : Int) (ha : ¬ an < 0) (hk : ak = 8) : Calls Try.prog 8 #[.pointer (some ⟨gc, 0, none⟩), .agg #[.int .u8 ak, .int .i64 an, .int .i64 aa, .int .i64 ab, .int .u64 at_]] w fun e' w' => ∃ v, e' = .returned v ∧ Post w w' gc mb B vl vw s := by
  have zk : (ak == 8) = true := by rw [hk]; rfl
  obtain ⟨rq, hrq⟩ := quote_some ak an aa ab at_
  have HQ := Aside0.mk hrq
  clear hk hrq
  have HC := Aside0.mk hC
  have HB := Aside0.mk (Below.refl w.heap.size w)
  clear hC
  go_enter Try.func8, Try.ntmps8
  go_upto_region 1 with ((with_reducible refine gate_dst (N := 3) rfl ?_); refine box_event ?hg (N := 3) ?hd (cs := #[.int .u8 ak, .int .i64 an, .int .i64 aa, .int .i64 ab, .int .u64 at_]) (t := 31) ?hr ?_; (case hd => rfl); (case hg => rfl); (case hr => first | (go_simp; done) | (go_simp; rfl)); intro ga hg w1_a hbox hb; have GGa := Aside0.mk (show w.heap.size ≤ ga from by rw [hg]; exact below_size (by repeat (first | (with_reducible first | exact HB.out | apply below_alloc | apply pw_below_drewN | apply below_drew1) | exact HB.out))); have BKa := Aside0.mk hbox; clear hbox hg; have n0_ := Aside0.mk (below_step (by repeat (first | (with_reducible first | exact HB.out | apply below_alloc | apply pw_below_drewN | apply below_drew1) | exact HB.out)) hb); clear HB; have HB := n0_; clear n0_ hb)
  have HC1 := Aside0.mk (HC.out.below HB.out)
  have y0 : w1_a.cell? ⟨ga, 0, none⟩ = some (.int .u8 ak) := (blk_cell BKa.out 0).trans rfl
  have y1 : w1_a.cell? ⟨ga, 1, none⟩ = some (.int .i64 an) := (blk_cell BKa.out 1).trans rfl
  have y2 : w1_a.cell? ⟨ga, 2, none⟩ = some (.int .i64 aa) := (blk_cell BKa.out 2).trans rfl
  have y3 : w1_a.cell? ⟨ga, 3, none⟩ = some (.int .i64 ab) := (blk_cell BKa.out 3).trans rfl
  have y4 : w1_a.cell? ⟨ga, 4, none⟩ = some (.int .u64 at_) := (blk_cell BKa.out 4).trans rfl
  go_upto_region 3 with (go_at_call 15; with_reducible refine (none_.calls _ gc mb B vl vw s HC1.out).mono ?_; rintro e w2 ⟨rfl, hb⟩; have n0 := Aside0.mk (HC1.out.below hb); have n1 := Aside0.mk (blk_below BKa.out hb); have n2 := Aside0.mk (HB.out.trans (Below.mono hb HB.out.size)); clear BKa HB hb y0 y1 y2 y3 y4; have BKa := n1; have HB := n2; have HC2 := n0; clear n0 n1 n2; have y0 : w2.cell? ⟨ga, 0, none⟩ = some (.int .u8 ak) := (blk_cell BKa.out 0).trans rfl; have y1 : w2.cell? ⟨ga, 1, none⟩ = some (.int .i64 an) := (blk_cell BKa.out 1).trans rfl; have y2 : w2.cell? ⟨ga, 2, none⟩ = some (.int .i64 aa) := (blk_cell BKa.out 2).trans rfl; have y3 : w2.cell? ⟨ga, 3, none⟩ = some (.int .i64 ab) := (blk_cell BKa.out 3).trans rfl; have y4 : w2.cell? ⟨ga, 4, none⟩ = some (.int .u64 at_) := (blk_cell BKa.out 4).trans rfl)
  go_wp2_with (go_at_call 20; with_reducible refine (cloud_quote.calls ak an aa ab at_ rq _ HQ.out).mono ?_; rintro e w3 ⟨v3, rfl, -, hb⟩; have HB3 := Aside0.mk hb; clear hb)
  go_ret
  exact ⟨v3, rfl, Post.of HC.out (HB.out.trans (Below.mono HB3.out HB.out.size))⟩

theorem Cl.formW {w : World} {gc mb B : Nat} {vl vw : Value} {s : CS} (h : Cl w gc mb B vl vw s) {n : Nat} (hn : n < s.W.length) : ∃ gw c, vw = .slice (some ⟨gw, 0, none⟩) s.W.length c ∧ s.W.length ≤ c := by
  obtain ⟨g, cap, cur, h1, h2, h3, h4, h5, h6, h7⟩ := h.rowW.form (by omega)
  exact ⟨g, cap, h1, h4⟩
theorem Cl.w_ {w : World} {gc mb B gw m c : Nat} {vl : Value} {s : CS} (h : Cl w gc mb B vl (.slice (some ⟨gw, 0, none⟩) m c) s) {n : Nat} (hn : n < s.W.length) : w.cell? ⟨gw, n * 5, none⟩ = some (.int .u8 s.W[n].f0) ∧ w.cell? ⟨gw, n * 5 + 1, none⟩ = some (.int .u64 s.W[n].f1) ∧ w.cell? ⟨gw, n * 5 + 2, none⟩ = some (.int .i64 s.W[n].f2) ∧ w.cell? ⟨gw, n * 5 + 3, none⟩ = some (.bool s.W[n].f3) ∧ w.cell? ⟨gw, n * 5 + 4, none⟩ = some (.int .u64 s.W[n].f4) := by
  obtain ⟨A, c', e, _, hK⟩ := h.rowW.slice
  injection e with e1 _ _
  obtain ⟨ad, e2, x0, x1, x2, x3, x4⟩ := at_T27 hK (n : Int) (by omega) (by omega)
  rw [← e1] at e2
  injection e2 with e2
  rw [show rd_T27 s.W (n : Int) = s.W[n] by unfold rd_T27; rw [Int.toNat_natCast]; simp [hn], ← e2, Int.toNat_natCast, add_g] at x0 x1 x2 x3 x4
  exact ⟨x0, x1, x2, x3, x4⟩

set_option maxHeartbeats 8000000 in
set_option maxRecDepth 100000 in
theorem Act.high (w : World) (gc mb B : Nat) (vl vw : Value) (s : CS) (hC : Cl w gc mb B vl vw s) (hn : s.W.length ≤ 1000000) (hn2 : s.L.length ≤ 1000000) (ak an aa ab at_ : Int) (ha : ¬ an < 0) (hk : ak ≠ 8) (fv : Value) (hin : (ak, fv) ∈ answersL) (hh : an ≥ s.W.length) : Calls Try.prog 8 #[.pointer (some ⟨gc, 0, none⟩), .agg #[.int .u8 ak, .int .i64 an, .int .i64 aa, .int .i64 ab, .int .u64 at_]] w fun e' w' => e' = .returned (.slice none 0 0) ∧ Post w w' gc mb B vl vw s := by
  have zk : (ak == 8) = false := beq_false_of_ne hk
  have HIN := Aside0.mk hin
  clear hk hin
  have HC := Aside0.mk hC
  have HB := Aside0.mk (Below.refl w.heap.size w)
  clear hC
  go_enter Try.func8, Try.ntmps8
  go_upto_region 1 with ((with_reducible refine gate_dst (N := 3) rfl ?_); refine box_event ?hg (N := 3) ?hd (cs := #[.int .u8 ak, .int .i64 an, .int .i64 aa, .int .i64 ab, .int .u64 at_]) (t := 31) ?hr ?_; (case hd => rfl); (case hg => rfl); (case hr => first | (go_simp; done) | (go_simp; rfl)); intro ga hg w1_a hbox hb; have GGa := Aside0.mk (show w.heap.size ≤ ga from by rw [hg]; exact below_size (by repeat (first | (with_reducible first | exact HB.out | apply below_alloc | apply pw_below_drewN | apply below_drew1) | exact HB.out))); have BKa := Aside0.mk hbox; clear hbox hg; have n0_ := Aside0.mk (below_step (by repeat (first | (with_reducible first | exact HB.out | apply below_alloc | apply pw_below_drewN | apply below_drew1) | exact HB.out)) hb); clear HB; have HB := n0_; clear n0_ hb)
  have HC1 := Aside0.mk (HC.out.below HB.out)
  have y0 : w1_a.cell? ⟨ga, 0, none⟩ = some (.int .u8 ak) := (blk_cell BKa.out 0).trans rfl
  have y1 : w1_a.cell? ⟨ga, 1, none⟩ = some (.int .i64 an) := (blk_cell BKa.out 1).trans rfl
  have y2 : w1_a.cell? ⟨ga, 2, none⟩ = some (.int .i64 aa) := (blk_cell BKa.out 2).trans rfl
  have y3 : w1_a.cell? ⟨ga, 3, none⟩ = some (.int .i64 ab) := (blk_cell BKa.out 3).trans rfl
  have y4 : w1_a.cell? ⟨ga, 4, none⟩ = some (.int .u64 at_) := (blk_cell BKa.out 4).trans rfl
  go_upto_region 3 with (go_at_call 15; with_reducible refine (none_.calls _ gc mb B vl vw s HC1.out).mono ?_; rintro e w2 ⟨rfl, hb⟩; have n0 := Aside0.mk (HC1.out.below hb); have n1 := Aside0.mk (blk_below BKa.out hb); have n2 := Aside0.mk (HB.out.trans (Below.mono hb HB.out.size)); clear BKa HB hb y0 y1 y2 y3 y4; have BKa := n1; have HB := n2; have HC2 := n0; clear n0 n1 n2; have y0 : w2.cell? ⟨ga, 0, none⟩ = some (.int .u8 ak) := (blk_cell BKa.out 0).trans rfl; have y1 : w2.cell? ⟨ga, 1, none⟩ = some (.int .i64 an) := (blk_cell BKa.out 1).trans rfl; have y2 : w2.cell? ⟨ga, 2, none⟩ = some (.int .i64 aa) := (blk_cell BKa.out 2).trans rfl; have y3 : w2.cell? ⟨ga, 3, none⟩ = some (.int .i64 ab) := (blk_cell BKa.out 3).trans rfl; have y4 : w2.cell? ⟨ga, 4, none⟩ = some (.int .u64 at_) := (blk_cell BKa.out 4).trans rfl)
  go_upto_region 5 with fail
  refine start_ (n := 9) (S := fun w' => w'.cell? ⟨ga, 0, none⟩ = some (.int .u8 ak)) (ds := []) #[false, false, false, false, false, false, false, false, false] (by kernel_rfl) rfl rfl (((blk_cell BKa.out 0).trans rfl)) (fun hHeld => ?_)
  refine pure_ (i := 1) (N := some 23) (v := ?_) (a' := ?_) #[false, true, false, false, false, false, false, false, false] rfl rfl (by kernel_rfl) (fun _ _ _ h => h) (Or.inl ⟨by rfl, ?_⟩) ?_ ?_
  rotate_left
  · intro w'
    go_simp
    with_reducible rfl
  rotate_left
  · simp only [Act.put, List.setIfInBounds_toArray, List.set_cons_zero, List.set_cons_succ, i64_w, i32_w]
    rfl
  refine take_ (i := 2) (N := some 24) (v := ?_) (a' := ?_) #[false, true, true, false, false, false, false, false, false] rfl rfl (by kernel_rfl) (fun _ _ _ h => h) (Or.inl ⟨by rfl, ?_⟩) hHeld ?_ ?_
  rotate_left
  · intro w' s0
    go_simp
    with_reducible rfl
  rotate_left
  · simp only [Act.put, List.setIfInBounds_toArray, List.set_cons_zero, List.set_cons_succ, i64_w, i32_w]
    rfl
  refine one_ (i := 0) (N := some 22) #[true, true, true, false, false, false, false, false, false] rfl rfl (by kernel_rfl) (by decide) (fun K hK => ?_)
  refine goes_ Try.func21 (by kernel_rfl) rfl #[] (by rfl) rfl rfl (by simp) ?_
  with_reducible refine (answers.calls _).mono ?_
  rintro e w3 ⟨b, rfl, hbb, hm, hb⟩
  refine ⟨_, rfl, ?_⟩
  have hb9 : Below w2.heap.size w2 w3 := (below_drew1 (Below.refl w2.heap.size w2)).trans hb
  have hl : (Instr.lookup 65 (.map (some b)) (.int .u8 ak) true).run Try.prog w3 = .ok (.tuple #[fv, .bool true]) w3 := hm.hit 65 63 Try.underlying65 answers.keys HIN.out
  refine hK.out _ _ ((blk_cell (blk_below BKa.out hb9) 0).trans rfl) (fun hHeld => ?_)
  clear hK K
  refine norm_ (a' := ?_) ?_ ?_
  rotate_left
  · show Act.put _ (some 22) _ = _
    simp only [Act.put, List.setIfInBounds_toArray, List.set_cons_zero, List.set_cons_succ, i64_w, i32_w]
    rfl
  refine one_ (i := 3) (N := some 25) #[true, true, true, true, false, false, false, false, false] rfl rfl (by kernel_rfl) (by decide) (fun K hK => ?_)
  refine value_ (w1 := w3) (v := .tuple #[fv, .bool true]) (by rfl) rfl (exec_lookup rfl rfl rfl hl) ?_
  refine hK.out _ _ ((blk_cell (blk_below BKa.out hb9) 0).trans rfl) (fun hHeld => ?_)
  clear hK K
  refine norm_ (a' := ?_) ?_ ?_
  rotate_left
  · show Act.put _ (some 25) _ = _
    simp only [Act.put, List.setIfInBounds_toArray, List.set_cons_zero, List.set_cons_succ, i64_w, i32_w]
    rfl
  refine pure_ (i := 4) (N := some 21) (v := ?_) (a' := ?_) #[true, true, true, true, true, false, false, false, false] rfl rfl (by kernel_rfl) (fun _ _ _ h => h) (Or.inl ⟨by rfl, ?_⟩) ?_ ?_
  rotate_left
  · intro w'
    go_simp
    with_reducible rfl
  rotate_left
  · simp only [Act.put, List.setIfInBounds_toArray, List.set_cons_zero, List.set_cons_succ, i64_w, i32_w]
    rfl
  refine pure_ (i := 5) (N := some 26) (v := ?_) (a' := ?_) #[true, true, true, true, true, true, false, false, false] rfl rfl (by kernel_rfl) (fun _ _ _ h => h) (Or.inl ⟨by rfl, ?_⟩) ?_ ?_
  rotate_left
  · intro w'
    go_simp
    with_reducible rfl
  rotate_left
  · simp only [Act.put, List.setIfInBounds_toArray, List.set_cons_zero, List.set_cons_succ, i64_w, i32_w]
    rfl
  refine pure_ (i := 6) (N := some 27) (v := ?_) (a' := ?_) #[true, true, true, true, true, true, true, false, false] rfl rfl (by kernel_rfl) (fun _ _ _ h => h) (Or.inl ⟨by rfl, ?_⟩) ?_ ?_
  rotate_left
  · intro w'
    go_simp
    with_reducible rfl
  rotate_left
  · simp only [Act.put, List.setIfInBounds_toArray, List.set_cons_zero, List.set_cons_succ, i64_w, i32_w]
    rfl
  refine pure_ (i := 7) (N := some 5) (v := ?_) (a' := ?_) #[true, true, true, true, true, true, true, true, false] rfl rfl (by kernel_rfl) (fun _ _ _ h => h) (Or.inl ⟨by rfl, ?_⟩) ?_ ?_
  rotate_left
  · intro w'
    go_simp
    with_reducible rfl
  rotate_left
  · simp only [Act.put, List.setIfInBounds_toArray, List.set_cons_zero, List.set_cons_succ, i64_w, i32_w]
    rfl
  refine pure_ (i := 8) (N := some 6) (v := ?_) (a' := ?_) #[true, true, true, true, true, true, true, true, true] rfl rfl (by kernel_rfl) (fun _ _ _ h => h) (Or.inl ⟨by rfl, ?_⟩) ?_ ?_
  rotate_left
  · intro w'
    go_simp
    with_reducible rfl
  rotate_left
  · simp only [Act.put, List.setIfInBounds_toArray, List.set_cons_zero, List.set_cons_succ, i64_w, i32_w]
    rfl
  refine done_ (by kernel_rfl) ?_

  have HC3 := Aside0.mk (HC2.out.below hb9)
  have n1 := Aside0.mk (blk_below BKa.out hb9)
  have n2 := Aside0.mk (HB.out.trans (Below.mono hb9 HB.out.size))
  clear BKa HB hb9 y0 y1 y2 y3 y4 hHeld hbb hm hl hb
  have BKa := n1
  have HB := n2
  clear n1 n2
  have y0 : w3.cell? ⟨ga, 0, none⟩ = some (.int .u8 ak) := (blk_cell BKa.out 0).trans rfl; have y1 : w3.cell? ⟨ga, 1, none⟩ = some (.int .i64 an) := (blk_cell BKa.out 1).trans rfl; have y2 : w3.cell? ⟨ga, 2, none⟩ = some (.int .i64 aa) := (blk_cell BKa.out 2).trans rfl; have y3 : w3.cell? ⟨ga, 3, none⟩ = some (.int .i64 ab) := (blk_cell BKa.out 3).trans rfl; have y4 : w3.cell? ⟨ga, 4, none⟩ = some (.int .u64 at_) := (blk_cell BKa.out 4).trans rfl
  obtain ⟨Aw, cw, hvw, -⟩ := HC3.out.rowW.slice
  subst hvw
  have dN : decide (an ≥ (s.W.length : Int)) = true := decide_eq_true hh
  have dN2 : decide ((s.W.length : Int) ≤ an) = true := decide_eq_true hh
  go_upto_region 7 with fail
  refine start_ (n := 24) (S := fun w' => w'.cell? ⟨ga, 1, none⟩ = some (.int .i64 an) ∧ w'.cell? ⟨gc, 1, none⟩ = some (.slice Aw s.W.length cw)) (ds := []) #[false, false, false, false, false, false, false, false, false, false, false, false, false, false, false, false, false, false, false, false, false, false, false, false] (by kernel_rfl) rfl rfl ⟨y1, HC3.out.c1⟩ (fun hHeld => ?_)
  refine pure_ (i := 0) (N := some 29) (v := ?_) (a' := ?_) #[true, false, false, false, false, false, false, false, false, false, false, false, false, false, false, false, false, false, false, false, false, false, false, false] rfl rfl (by kernel_rfl) (fun _ _ _ h => h) (Or.inl ⟨by rfl, ?_⟩) ?_ ?_
  rotate_left
  · intro w'
    go_simp
    with_reducible rfl
  rotate_left
  · simp only [Act.put, List.setIfInBounds_toArray, List.set_cons_zero, List.set_cons_succ, i64_w, i32_w]
    rfl
  refine pure_ (i := 2) (N := some 31) (v := ?_) (a' := ?_) #[true, false, true, false, false, false, false, false, false, false, false, false, false, false, false, false, false, false, false, false, false, false, false, false] rfl rfl (by kernel_rfl) (fun _ _ _ h => h) (Or.inl ⟨by rfl, ?_⟩) ?_ ?_
  rotate_left
  · intro w'
    go_simp
    with_reducible rfl
  rotate_left
  · simp only [Act.put, List.setIfInBounds_toArray, List.set_cons_zero, List.set_cons_succ, i64_w, i32_w]
    rfl
  refine pure_ (i := 3) (N := some 32) (v := ?_) (a' := ?_) #[true, false, true, true, false, false, false, false, false, false, false, false, false, false, false, false, false, false, false, false, false, false, false, false] rfl rfl (by kernel_rfl) (fun _ _ _ h => h) (Or.inl ⟨by rfl, ?_⟩) ?_ ?_
  rotate_left
  · intro w'
    go_simp
    with_reducible rfl
  rotate_left
  · simp only [Act.put, List.setIfInBounds_toArray, List.set_cons_zero, List.set_cons_succ, i64_w, i32_w]
    rfl
  refine pure_ (i := 4) (N := some 33) (v := ?_) (a' := ?_) #[true, false, true, true, true, false, false, false, false, false, false, false, false, false, false, false, false, false, false, false, false, false, false, false] rfl rfl (by kernel_rfl) (fun _ _ _ h => h) (Or.inl ⟨by rfl, ?_⟩) ?_ ?_
  rotate_left
  · intro w'
    go_simp
    with_reducible rfl
  rotate_left
  · simp only [Act.put, List.setIfInBounds_toArray, List.set_cons_zero, List.set_cons_succ, i64_w, i32_w]
    rfl
  refine take_ (i := 1) (N := some 30) (v := ?_) (a' := ?_) #[true, true, true, true, true, false, false, false, false, false, false, false, false, false, false, false, false, false, false, false, false, false, false, false] rfl rfl (by kernel_rfl) (fun _ _ _ h => h) (Or.inl ⟨by rfl, ?_⟩) hHeld ?_ ?_
  rotate_left
  · rintro w' ⟨s0, s1⟩
    go_simp
    with_reducible rfl
  rotate_left
  · simp only [Act.put, List.setIfInBounds_toArray, List.set_cons_zero, List.set_cons_succ, i64_w, i32_w]
    rfl
  refine take_ (i := 5) (N := some 34) (v := ?_) (a' := ?_) #[true, true, true, true, true, true, false, false, false, false, false, false, false, false, false, false, false, false, false, false, false, false, false, false] rfl rfl (by kernel_rfl) (fun _ _ _ h => h) (Or.inl ⟨by rfl, ?_⟩) hHeld ?_ ?_
  rotate_left
  · rintro w' ⟨s0, s1⟩
    go_simp
    with_reducible rfl
  rotate_left
  · simp only [Act.put, List.setIfInBounds_toArray, List.set_cons_zero, List.set_cons_succ, i64_w, i32_w]
    rfl
  refine pure_ (i := 6) (N := some 35) (v := ?_) (a' := ?_) #[true, true, true, true, true, true, true, false, false, false, false, false, false, false, false, false, false, false, false, false, false, false, false, false] rfl rfl (by kernel_rfl) (fun _ _ _ h => h) (Or.inl ⟨by rfl, ?_⟩) ?_ ?_
  rotate_left
  · intro w'
    go_simp
    with_reducible rfl
  rotate_left
  · simp only [Act.put, List.setIfInBounds_toArray, List.set_cons_zero, List.set_cons_succ, i64_w, i32_w]
    rfl
  refine pure_ (i := 7) (N := some 36) (v := ?_) (a' := ?_) #[true, true, true, true, true, true, true, true, false, false, false, false, false, false, false, false, false, false, false, false, false, false, false, false] rfl rfl (by kernel_rfl) (fun _ _ _ h => h) (Or.inl ⟨by rfl, ?_⟩) ?_ ?_
  rotate_left
  · intro w'
    go_simp
    with_reducible rfl
  rotate_left
  · simp only [Act.put, List.setIfInBounds_toArray, List.set_cons_zero, List.set_cons_succ, i64_w, i32_w]
    rfl
  refine pure_ (i := 8) (N := some 37) (v := ?_) (a' := ?_) #[true, true, true, true, true, true, true, true, true, false, false, false, false, false, false, false, false, false, false, false, false, false, false, false] rfl rfl (by kernel_rfl) (fun _ _ _ h => h) (Or.inl ⟨by rfl, ?_⟩) ?_ ?_
  rotate_left
  · intro w'
    go_simp
    with_reducible rfl
  rotate_left
  · simp only [Act.put, List.setIfInBounds_toArray, List.set_cons_zero, List.set_cons_succ, i64_w, i32_w]
    rfl
  refine pure_ (i := 9) (N := some 38) (v := undef) (a' := ?_) #[true, true, true, true, true, true, true, true, true, true, false, false, false, false, false, false, false, false, false, false, false, false, false, false] rfl rfl (by kernel_rfl) (fun _ _ _ h => h) (Or.inr ⟨by rfl, rfl⟩) ?_ ?_
  rotate_left
  · simp only [Act.put, List.setIfInBounds_toArray, List.set_cons_zero, List.set_cons_succ, i64_w, i32_w]
    rfl
  refine pure_ (i := 10) (N := some 39) (v := undef) (a' := ?_) #[true, true, true, true, true, true, true, true, true, true, true, false, false, false, false, false, false, false, false, false, false, false, false, false] rfl rfl (by kernel_rfl) (fun _ _ _ h => h) (Or.inr ⟨by rfl, rfl⟩) ?_ ?_
  rotate_left
  · simp only [Act.put, List.setIfInBounds_toArray, List.set_cons_zero, List.set_cons_succ, i64_w, i32_w]
    rfl
  refine pure_ (i := 11) (N := some 40) (v := undef) (a' := ?_) #[true, true, true, true, true, true, true, true, true, true, true, true, false, false, false, false, false, false, false, false, false, false, false, false] rfl rfl (by kernel_rfl) (fun _ _ _ h => h) (Or.inr ⟨by rfl, rfl⟩) ?_ ?_
  rotate_left
  · simp only [Act.put, List.setIfInBounds_toArray, List.set_cons_zero, List.set_cons_succ, i64_w, i32_w]
    rfl
  refine pure_ (i := 12) (N := some 41) (v := undef) (a' := ?_) #[true, true, true, true, true, true, true, true, true, true, true, true, true, false, false, false, false, false, false, false, false, false, false, false] rfl rfl (by kernel_rfl) (fun _ _ _ h => h) (Or.inr ⟨by rfl, rfl⟩) ?_ ?_
  rotate_left
  · simp only [Act.put, List.setIfInBounds_toArray, List.set_cons_zero, List.set_cons_succ, i64_w, i32_w]
    rfl
  refine pure_ (i := 13) (N := some 42) (v := undef) (a' := ?_) #[true, true, true, true, true, true, true, true, true, true, true, true, true, true, false, false, false, false, false, false, false, false, false, false] rfl rfl (by kernel_rfl) (fun _ _ _ h => h) (Or.inr ⟨by rfl, rfl⟩) ?_ ?_
  rotate_left
  · simp only [Act.put, List.setIfInBounds_toArray, List.set_cons_zero, List.set_cons_succ, i64_w, i32_w]
    rfl
  refine pure_ (i := 14) (N := some 43) (v := undef) (a' := ?_) #[true, true, true, true, true, true, true, true, true, true, true, true, true, true, true, false, false, false, false, false, false, false, false, false] rfl rfl (by kernel_rfl) (fun _ _ _ h => h) (Or.inr ⟨by rfl, rfl⟩) ?_ ?_
  rotate_left
  · simp only [Act.put, List.setIfInBounds_toArray, List.set_cons_zero, List.set_cons_succ, i64_w, i32_w]
    rfl
  refine pure_ (i := 15) (N := some 44) (v := undef) (a' := ?_) #[true, true, true, true, true, true, true, true, true, true, true, true, true, true, true, true, false, false, false, false, false, false, false, false] rfl rfl (by kernel_rfl) (fun _ _ _ h => h) (Or.inr ⟨by rfl, rfl⟩) ?_ ?_
  rotate_left
  · simp only [Act.put, List.setIfInBounds_toArray, List.set_cons_zero, List.set_cons_succ, i64_w, i32_w]
    rfl
  refine pure_ (i := 16) (N := some 45) (v := undef) (a' := ?_) #[true, true, true, true, true, true, true, true, true, true, true, true, true, true, true, true, true, false, false, false, false, false, false, false] rfl rfl (by kernel_rfl) (fun _ _ _ h => h) (Or.inr ⟨by rfl, rfl⟩) ?_ ?_
  rotate_left
  · simp only [Act.put, List.setIfInBounds_toArray, List.set_cons_zero, List.set_cons_succ, i64_w, i32_w]
    rfl
  refine pure_ (i := 17) (N := some 46) (v := undef) (a' := ?_) #[true, true, true, true, true, true, true, true, true, true, true, true, true, true, true, true, true, true, false, false, false, false, false, false] rfl rfl (by kernel_rfl) (fun _ _ _ h => h) (Or.inr ⟨by rfl, rfl⟩) ?_ ?_
  rotate_left
  · simp only [Act.put, List.setIfInBounds_toArray, List.set_cons_zero, List.set_cons_succ, i64_w, i32_w]
    rfl
  refine pure_ (i := 18) (N := some 47) (v := undef) (a' := ?_) #[true, true, true, true, true, true, true, true, true, true, true, true, true, true, true, true, true, true, true, false, false, false, false, false] rfl rfl (by kernel_rfl) (fun _ _ _ h => h) (Or.inr ⟨by rfl, rfl⟩) ?_ ?_
  rotate_left
  · simp only [Act.put, List.setIfInBounds_toArray, List.set_cons_zero, List.set_cons_succ, i64_w, i32_w]
    rfl
  refine pure_ (i := 19) (N := some 48) (v := undef) (a' := ?_) #[true, true, true, true, true, true, true, true, true, true, true, true, true, true, true, true, true, true, true, true, false, false, false, false] rfl rfl (by kernel_rfl) (fun _ _ _ h => h) (Or.inr ⟨by rfl, rfl⟩) ?_ ?_
  rotate_left
  · simp only [Act.put, List.setIfInBounds_toArray, List.set_cons_zero, List.set_cons_succ, i64_w, i32_w]
    rfl
  refine pure_ (i := 20) (N := some 49) (v := undef) (a' := ?_) #[true, true, true, true, true, true, true, true, true, true, true, true, true, true, true, true, true, true, true, true, true, false, false, false] rfl rfl (by kernel_rfl) (fun _ _ _ h => h) (Or.inr ⟨by rfl, rfl⟩) ?_ ?_
  rotate_left
  · simp only [Act.put, List.setIfInBounds_toArray, List.set_cons_zero, List.set_cons_succ, i64_w, i32_w]
    rfl
  refine pure_ (i := 21) (N := some 50) (v := undef) (a' := ?_) #[true, true, true, true, true, true, true, true, true, true, true, true, true, true, true, true, true, true, true, true, true, true, false, false] rfl rfl (by kernel_rfl) (fun _ _ _ h => h) (Or.inr ⟨by rfl, rfl⟩) ?_ ?_
  rotate_left
  · simp only [Act.put, List.setIfInBounds_toArray, List.set_cons_zero, List.set_cons_succ, i64_w, i32_w]
    rfl
  refine pure_ (i := 22) (N := some 51) (v := undef) (a' := ?_) #[true, true, true, true, true, true, true, true, true, true, true, true, true, true, true, true, true, true, true, true, true, true, true, false] rfl rfl (by kernel_rfl) (fun _ _ _ h => h) (Or.inr ⟨by rfl, rfl⟩) ?_ ?_
  rotate_left
  · simp only [Act.put, List.setIfInBounds_toArray, List.set_cons_zero, List.set_cons_succ, i64_w, i32_w]
    rfl
  refine pure_ (i := 23) (N := some 52) (v := ?_) (a' := ?_) #[true, true, true, true, true, true, true, true, true, true, true, true, true, true, true, true, true, true, true, true, true, true, true, true] rfl rfl (by kernel_rfl) (fun _ _ _ h => h) (Or.inl ⟨by rfl, ?_⟩) ?_ ?_
  rotate_left
  · intro w'
    go_simp
    with_reducible rfl
  rotate_left
  · simp only [Act.put, List.setIfInBounds_toArray, List.set_cons_zero, List.set_cons_succ, i64_w, i32_w]
    rfl
  refine done_ (by kernel_rfl) ?_

  go_wp2
  go_ret
  exact ⟨rfl, Post.of HC.out (HB.out.drew)⟩

end Go.Proofs.Ytfhopjigdkjnoaa.GA
