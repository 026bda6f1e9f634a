/- Ask: nothing. No condition. -/
import Derived.Test.YtfhopjigdkjnoaaK18
import Derived.Laws.CopyOwn
import Derived.Laws.CopyRow
import Derived.ChangeKeysEq
import Derived.Deep.RegionHeld3
import Derived.Deep.MidRow
import Derived.Shelf.Abstract
import Derived.Maps.OwnSet
import Derived.Maps.AppendAt
import Derived.WalkSpells
namespace Go.Proofs.Ytfhopjigdkjnoaa.GA
open Go.RowKit Go.Shelf Go.Proofs.YtfhopjigdkjnoaaW.PrintWords Go.Proofs.YtfhopjigdkjnoaaW.PrintLast Go.Proofs.YtfhopjigdkjnoaaW.PrintMore
set_option linter.unusedVariables false
set_option linter.unusedSimpArgs false

theorem row27.load_run {o : Oper} {a : Act} (t : Nat) (g : Nat) (cs : Array Value) (ho : o.op = .load 27 (.tmp t)) (hx : a.eval (.tmp t) = .pointer (some ⟨g, 0, none⟩)) (w : World) (hg : w.heap[g]? = some (.cells cs 27 (0, 0))) (hi : (Try.prog.info? 27).map (·.size) = some cs.size) :
    (execOp a.eval o).run Try.prog w = .ok (.value (.agg cs)) w := by
  unfold execOp
  simp only [ho, hx, Instr.loadAt, Instr.sureAddr, Sem.run_bind, Sem.run_pure, Result.andThen_ok, run_loadVar_row w g 27 27 cs (0, 0) _ hg Try.underlying27 rfl hi]
theorem exec_lookup {P : Program} {o : Oper} {a : Act} {w : World} {t : TypeId} {d x : Operand} {b : Bool} (hop : o.op = .lookup t d x b) {m k v : Value} (hd : a.eval d = m) (hx : a.eval x = k) (hr : (Instr.lookup t m k b).run P w = .ok v w) : (execOp a.eval o).run P w = .ok (.value v) w := by
  unfold execOp
  simp [hop, hd, hx, hr, Result.andThen]
/-- may a request come? -/
def asksP (r : S27) : Bool := (cloud_asks.f r.f0 r.f1 r.f2 r.f3 r.f4).getD false
theorem asksP_f (r : S27) : cloud_asks.f r.f0 r.f1 r.f2 r.f3 r.f4 = some (asksP r) := by
  unfold asksP cloud_asks.f
  split
  · rfl
  · split
    · split
      · split <;> rfl
      · rfl
    · split
      · rfl
      · split <;> rfl
theorem asks.calls (r : S27) (b : Bool) (hb : asksP r = b) (w : World) : Calls Try.prog 16 #[.agg #[.int .u8 r.f0, .int .u64 r.f1, .int .i64 r.f2, .bool r.f3, .int .u64 r.f4]] w fun e w' => e = .returned (.bool b) ∧ Below w.heap.size w w' := cloud_asks.calls r.f0 r.f1 r.f2 r.f3 r.f4 b w (by rw [asksP_f, hb])
def putS (s : CS) (r : S27) : CS := ⟨s.L, s.W ++ [r], s.A⟩

set_option maxHeartbeats 8000000 in
set_option maxRecDepth 100000 in
theorem Ask.no (w : World) (gc mb B : Nat) (vl vw : Value) (s : CS) (hC : Cl w gc mb B vl vw s) (hn : s.W.length ≤ 1000000) (hn2 : s.L.length ≤ 1000000) (r : S27) (ha : asksP r = false) : Calls Try.prog 7 #[.pointer (some ⟨gc, 0, none⟩), .agg #[.int .u8 r.f0, .int .u64 r.f1, .int .i64 r.f2, .bool r.f3, .int .u64 r.f4]] w fun e' w' => e' = .returned (.slice none 0 0) ∧ Post w w' gc mb B vl vw s := by
  have HC := Aside0.mk hC
  have HB := Aside0.mk (Below.refl w.heap.size w)
  have HA := Aside0.mk ha
  obtain ⟨Aw, cw, hvw, hcw, -⟩ := hC.rowW.slice
  subst hvw
  clear hC ha
  go_enter Try.func7, Try.ntmps7
  go_upto_region 1 with ((with_reducible refine gate_dst (N := 3) rfl ?_); refine box_event ?hg (N := 3) ?hd (cs := #[.int .u8 r.f0, .int .u64 r.f1, .int .i64 r.f2, .bool r.f3, .int .u64 r.f4]) (t := 27) ?hr ?_; (case hd => rfl); (case hg => rfl); (case hr => first | (go_simp; done) | (go_simp; rfl)); intro gr hg w1_r hbox hb; have GGr := Aside0.mk (show w.heap.size ≤ gr from by rw [hg]; exact below_size (by repeat (first | (with_reducible first | exact HB.out | apply below_alloc | apply pw_below_drewN | apply below_drew1) | exact HB.out))); have BKr := Aside0.mk hbox; clear hbox hg; have n0_ := Aside0.mk (below_step (by repeat (first | (with_reducible first | exact HB.out | apply below_alloc | apply pw_below_drewN | apply below_drew1) | exact HB.out)) hb); clear HB; have HB := n0_; clear n0_ hb)
  have HC1 := Aside0.mk (HC.out.below HB.out)
  have y0 : w1_r.cell? ⟨gr, 0, none⟩ = some (.int .u8 r.f0) := (blk_cell BKr.out 0).trans rfl
  have y1 : w1_r.cell? ⟨gr, 1, none⟩ = some (.int .u64 r.f1) := (blk_cell BKr.out 1).trans rfl
  have y2 : w1_r.cell? ⟨gr, 2, none⟩ = some (.int .i64 r.f2) := (blk_cell BKr.out 2).trans rfl
  have y3 : w1_r.cell? ⟨gr, 3, none⟩ = some (.bool r.f3) := (blk_cell BKr.out 3).trans rfl
  have y4 : w1_r.cell? ⟨gr, 4, none⟩ = some (.int .u64 r.f4) := (blk_cell BKr.out 4).trans rfl
  go_wp2_with (first
    | (go_at_call 15; with_reducible refine (none_.calls _ gc mb B vl (.slice Aw s.W.length cw) s HC1.out).mono ?_; rintro e w2 ⟨rfl, hb⟩; have n0 := Aside0.mk (HC1.out.below hb); have n1 := Aside0.mk (blk_below BKr.out hb); have n2 := Aside0.mk (HB.out.trans (Below.mono hb HB.out.size)); clear BKr HB hb; have BKr := n1; have HB := n2; have HC2 := n0; clear n0 n1 n2; clear y0 y1 y2 y3 y4; have y0 : w2.cell? ⟨gr, 0, none⟩ = some (.int .u8 r.f0) := (blk_cell BKr.out 0).trans rfl; have y1 : w2.cell? ⟨gr, 1, none⟩ = some (.int .u64 r.f1) := (blk_cell BKr.out 1).trans rfl; have y2 : w2.cell? ⟨gr, 2, none⟩ = some (.int .i64 r.f2) := (blk_cell BKr.out 2).trans rfl; have y3 : w2.cell? ⟨gr, 3, none⟩ = some (.bool r.f3) := (blk_cell BKr.out 3).trans rfl; have y4 : w2.cell? ⟨gr, 4, none⟩ = some (.int .u64 r.f4) := (blk_cell BKr.out 4).trans rfl)
    | (go_at_call 16; with_reducible refine (asks.calls r false HA.out _).mono ?_; rintro e w3 ⟨rfl, hb⟩; have n0 := Aside0.mk (HC2.out.below hb); have n1 := Aside0.mk (blk_below BKr.out hb); have n2 := Aside0.mk (HB.out.trans (Below.mono hb HB.out.size)); clear BKr HB hb; have BKr := n1; have HB := n2; have HC3 := n0; clear n0 n1 n2; clear y0 y1 y2 y3 y4; have y0 : w3.cell? ⟨gr, 0, none⟩ = some (.int .u8 r.f0) := (blk_cell BKr.out 0).trans rfl; have y1 : w3.cell? ⟨gr, 1, none⟩ = some (.int .u64 r.f1) := (blk_cell BKr.out 1).trans rfl; have y2 : w3.cell? ⟨gr, 2, none⟩ = some (.int .i64 r.f2) := (blk_cell BKr.out 2).trans rfl; have y3 : w3.cell? ⟨gr, 3, none⟩ = some (.bool r.f3) := (blk_cell BKr.out 3).trans rfl; have y4 : w3.cell? ⟨gr, 4, none⟩ = some (.int .u64 r.f4) := (blk_cell BKr.out 4).trans rfl; have c1 : w3.cell? ⟨gc, 1, none⟩ = some (.slice Aw s.W.length cw) := HC3.out.c1))
  go_ret
  exact ⟨rfl, Post.of HC.out HB.out⟩

set_option maxHeartbeats 8000000 in
set_option maxRecDepth 100000 in
theorem Ask.waits (w : World) (gc mb B : Nat) (vl vw : Value) (s : CS) (hC : Cl w gc mb B vl vw s) (hn : s.W.length ≤ 1000000) (hn2 : s.L.length ≤ 1000000) (r : S27) (ha : asksP r = true) (hw : s.W.any (fun x => x.f1 == r.f1) = true) : Calls Try.prog 7 #[.pointer (some ⟨gc, 0, none⟩), .agg #[.int .u8 r.f0, .int .u64 r.f1, .int .i64 r.f2, .bool r.f3, .int .u64 r.f4]] w fun e' w' => e' = .returned (.slice none 0 0) ∧ Post w w' gc mb B vl vw s := by
  have HC := Aside0.mk hC
  have HB := Aside0.mk (Below.refl w.heap.size w)
  have HA := Aside0.mk ha
  obtain ⟨Aw, cw, hvw, hcw, -⟩ := hC.rowW.slice
  subst hvw
  have CF : Aside0 (∀ (W : World) {gr : Nat}, Cl W gc mb B vl (.slice Aw s.W.length cw) s → W.heap[gr]? = some (.cells #[.int .u8 r.f0, .int .u64 r.f1, .int .i64 r.f2, .bool r.f3, .int .u64 r.f4] 27 (0, 0)) → Calls Try.prog 17 #[.slice Aw s.W.length cw, .func (.func 18) #[] #[.pointer (some ⟨gr, 0, none⟩)]] W fun e w' => e = .returned (.bool true) ∧ Below W.heap.size W w') := ⟨fun W gr hC hg => by
    obtain ⟨A', c', e, hc', hK⟩ := hC.rowW.slice
    injection e with e1 _ e3
    subst e1 e3
    have := ContainsFunc.calls Aw cw s.W 18 #[.pointer (some ⟨gr, 0, none⟩)] (fun x => x.f1 == r.f1) [(gr, .cells #[.int .u8 r.f0, .int .u64 r.f1, .int .i64 r.f2, .bool r.f3, .int .u64 r.f4] 27 (0, 0))] W hK hcw (by omega) enters18 (Ask1.tells gr r) (fun p hp => by rw [List.mem_singleton] at hp; subst hp; exact hg)
    rw [firstAt_all, hw] at this
    exact this⟩
  clear hC ha
  go_enter Try.func7, Try.ntmps7
  go_upto_region 1 with ((with_reducible refine gate_dst (N := 3) rfl ?_); refine box_event ?hg (N := 3) ?hd (cs := #[.int .u8 r.f0, .int .u64 r.f1, .int .i64 r.f2, .bool r.f3, .int .u64 r.f4]) (t := 27) ?hr ?_; (case hd => rfl); (case hg => rfl); (case hr => first | (go_simp; done) | (go_simp; rfl)); intro gr hg w1_r hbox hb; have GGr := Aside0.mk (show w.heap.size ≤ gr from by rw [hg]; exact below_size (by repeat (first | (with_reducible first | exact HB.out | apply below_alloc | apply pw_below_drewN | apply below_drew1) | exact HB.out))); have BKr := Aside0.mk hbox; clear hbox hg; have n0_ := Aside0.mk (below_step (by repeat (first | (with_reducible first | exact HB.out | apply below_alloc | apply pw_below_drewN | apply below_drew1) | exact HB.out)) hb); clear HB; have HB := n0_; clear n0_ hb)
  have HC1 := Aside0.mk (HC.out.below HB.out)
  have y0 : w1_r.cell? ⟨gr, 0, none⟩ = some (.int .u8 r.f0) := (blk_cell BKr.out 0).trans rfl
  have y1 : w1_r.cell? ⟨gr, 1, none⟩ = some (.int .u64 r.f1) := (blk_cell BKr.out 1).trans rfl
  have y2 : w1_r.cell? ⟨gr, 2, none⟩ = some (.int .i64 r.f2) := (blk_cell BKr.out 2).trans rfl
  have y3 : w1_r.cell? ⟨gr, 3, none⟩ = some (.bool r.f3) := (blk_cell BKr.out 3).trans rfl
  have y4 : w1_r.cell? ⟨gr, 4, none⟩ = some (.int .u64 r.f4) := (blk_cell BKr.out 4).trans rfl
  go_wp2_with (first
    | (go_at_call 15; with_reducible refine (none_.calls _ gc mb B vl (.slice Aw s.W.length cw) s HC1.out).mono ?_; rintro e w2 ⟨rfl, hb⟩; have n0 := Aside0.mk (HC1.out.below hb); have n1 := Aside0.mk (blk_below BKr.out hb); have n2 := Aside0.mk (HB.out.trans (Below.mono hb HB.out.size)); clear BKr HB hb; have BKr := n1; have HB := n2; have HC2 := n0; clear n0 n1 n2; clear y0 y1 y2 y3 y4; have y0 : w2.cell? ⟨gr, 0, none⟩ = some (.int .u8 r.f0) := (blk_cell BKr.out 0).trans rfl; have y1 : w2.cell? ⟨gr, 1, none⟩ = some (.int .u64 r.f1) := (blk_cell BKr.out 1).trans rfl; have y2 : w2.cell? ⟨gr, 2, none⟩ = some (.int .i64 r.f2) := (blk_cell BKr.out 2).trans rfl; have y3 : w2.cell? ⟨gr, 3, none⟩ = some (.bool r.f3) := (blk_cell BKr.out 3).trans rfl; have y4 : w2.cell? ⟨gr, 4, none⟩ = some (.int .u64 r.f4) := (blk_cell BKr.out 4).trans rfl)
    | (go_at_call 16; with_reducible refine (asks.calls r true HA.out _).mono ?_; rintro e w3 ⟨rfl, hb⟩; have n0 := Aside0.mk (HC2.out.below hb); have n1 := Aside0.mk (blk_below BKr.out hb); have n2 := Aside0.mk (HB.out.trans (Below.mono hb HB.out.size)); clear BKr HB hb; have BKr := n1; have HB := n2; have HC3 := n0; clear n0 n1 n2; clear y0 y1 y2 y3 y4; have y0 : w3.cell? ⟨gr, 0, none⟩ = some (.int .u8 r.f0) := (blk_cell BKr.out 0).trans rfl; have y1 : w3.cell? ⟨gr, 1, none⟩ = some (.int .u64 r.f1) := (blk_cell BKr.out 1).trans rfl; have y2 : w3.cell? ⟨gr, 2, none⟩ = some (.int .i64 r.f2) := (blk_cell BKr.out 2).trans rfl; have y3 : w3.cell? ⟨gr, 3, none⟩ = some (.bool r.f3) := (blk_cell BKr.out 3).trans rfl; have y4 : w3.cell? ⟨gr, 4, none⟩ = some (.int .u64 r.f4) := (blk_cell BKr.out 4).trans rfl; have c1 : w3.cell? ⟨gc, 1, none⟩ = some (.slice Aw s.W.length cw) := HC3.out.c1)
    | (go_at_call 17; with_reducible refine (CF.out _ HC3.out BKr.out).mono ?_; rintro e w4 ⟨rfl, hb⟩; have n0 := Aside0.mk (HC3.out.below hb); have n1 := Aside0.mk (blk_below BKr.out hb); have n2 := Aside0.mk (HB.out.trans (Below.mono hb HB.out.size)); clear BKr HB hb; have BKr := n1; have HB := n2; have HC4 := n0; clear n0 n1 n2; clear y0 y1 y2 y3 y4; have y0 : w4.cell? ⟨gr, 0, none⟩ = some (.int .u8 r.f0) := (blk_cell BKr.out 0).trans rfl; have y1 : w4.cell? ⟨gr, 1, none⟩ = some (.int .u64 r.f1) := (blk_cell BKr.out 1).trans rfl; have y2 : w4.cell? ⟨gr, 2, none⟩ = some (.int .i64 r.f2) := (blk_cell BKr.out 2).trans rfl; have y3 : w4.cell? ⟨gr, 3, none⟩ = some (.bool r.f3) := (blk_cell BKr.out 3).trans rfl; have y4 : w4.cell? ⟨gr, 4, none⟩ = some (.int .u64 r.f4) := (blk_cell BKr.out 4).trans rfl; have c2 : w4.cell? ⟨gc, 2, none⟩ = some (.map (some mb)) := HC4.out.c2))
  go_ret
  exact ⟨rfl, Post.of HC.out HB.out⟩

set_option maxHeartbeats 8000000 in
set_option maxRecDepth 100000 in
theorem Ask.noinst (w : World) (gc mb B : Nat) (vl vw : Value) (s : CS) (hC : Cl w gc mb B vl vw s) (hn : s.W.length ≤ 1000000) (hn2 : s.L.length ≤ 1000000) (r : S27) (ha : asksP r = true) (hw : s.W.any (fun x => x.f1 == r.f1) = false) (hk : r.f0 ≠ 1) (hid : r.f4 = 0 ∨ r.f4 > s.L.length) : Calls Try.prog 7 #[.pointer (some ⟨gc, 0, none⟩), .agg #[.int .u8 r.f0, .int .u64 r.f1, .int .i64 r.f2, .bool r.f3, .int .u64 r.f4]] w fun e' w' => e' = .returned (.slice none 0 0) ∧ Post w w' gc mb B vl vw s := by
  have hk1 : (r.f0 == 1) = false := beq_false_of_ne hk
  have HID := Aside0.mk hid
  clear hid
  have HC := Aside0.mk hC
  have HB := Aside0.mk (Below.refl w.heap.size w)
  have HA := Aside0.mk ha
  obtain ⟨Aw, cw, hvw, hcw, -⟩ := hC.rowW.slice
  subst hvw
  have CF : Aside0 (∀ (W : World) {gr : Nat}, Cl W gc mb B vl (.slice Aw s.W.length cw) s → W.heap[gr]? = some (.cells #[.int .u8 r.f0, .int .u64 r.f1, .int .i64 r.f2, .bool r.f3, .int .u64 r.f4] 27 (0, 0)) → Calls Try.prog 17 #[.slice Aw s.W.length cw, .func (.func 18) #[] #[.pointer (some ⟨gr, 0, none⟩)]] W fun e w' => e = .returned (.bool false) ∧ Below W.heap.size W w') := ⟨fun W gr hC hg => by
    obtain ⟨A', c', e, hc', hK⟩ := hC.rowW.slice
    injection e with e1 _ e3
    subst e1 e3
    have := ContainsFunc.calls Aw cw s.W 18 #[.pointer (some ⟨gr, 0, none⟩)] (fun x => x.f1 == r.f1) [(gr, .cells #[.int .u8 r.f0, .int .u64 r.f1, .int .i64 r.f2, .bool r.f3, .int .u64 r.f4] 27 (0, 0))] W hK hcw (by omega) enters18 (Ask1.tells gr r) (fun p hp => by rw [List.mem_singleton] at hp; subst hp; exact hg)
    rw [firstAt_all, hw] at this
    exact this⟩
  clear hC ha
  go_enter Try.func7, Try.ntmps7
  go_upto_region 1 with ((with_reducible refine gate_dst (N := 3) rfl ?_); refine box_event ?hg (N := 3) ?hd (cs := #[.int .u8 r.f0, .int .u64 r.f1, .int .i64 r.f2, .bool r.f3, .int .u64 r.f4]) (t := 27) ?hr ?_; (case hd => rfl); (case hg => rfl); (case hr => first | (go_simp; done) | (go_simp; rfl)); intro gr hg w1_r hbox hb; have GGr := Aside0.mk (show w.heap.size ≤ gr from by rw [hg]; exact below_size (by repeat (first | (with_reducible first | exact HB.out | apply below_alloc | apply pw_below_drewN | apply below_drew1) | exact HB.out))); have BKr := Aside0.mk hbox; clear hbox hg; have n0_ := Aside0.mk (below_step (by repeat (first | (with_reducible first | exact HB.out | apply below_alloc | apply pw_below_drewN | apply below_drew1) | exact HB.out)) hb); clear HB; have HB := n0_; clear n0_ hb)
  have HC1 := Aside0.mk (HC.out.below HB.out)
  have y0 : w1_r.cell? ⟨gr, 0, none⟩ = some (.int .u8 r.f0) := (blk_cell BKr.out 0).trans rfl
  have y1 : w1_r.cell? ⟨gr, 1, none⟩ = some (.int .u64 r.f1) := (blk_cell BKr.out 1).trans rfl
  have y2 : w1_r.cell? ⟨gr, 2, none⟩ = some (.int .i64 r.f2) := (blk_cell BKr.out 2).trans rfl
  have y3 : w1_r.cell? ⟨gr, 3, none⟩ = some (.bool r.f3) := (blk_cell BKr.out 3).trans rfl
  have y4 : w1_r.cell? ⟨gr, 4, none⟩ = some (.int .u64 r.f4) := (blk_cell BKr.out 4).trans rfl
  go_upto_region 3 with (first
    | (go_at_call 15; with_reducible refine (none_.calls _ gc mb B vl (.slice Aw s.W.length cw) s HC1.out).mono ?_; rintro e w2 ⟨rfl, hb⟩; have n0 := Aside0.mk (HC1.out.below hb); have n1 := Aside0.mk (blk_below BKr.out hb); have n2 := Aside0.mk (HB.out.trans (Below.mono hb HB.out.size)); clear BKr HB hb; have BKr := n1; have HB := n2; have HC2 := n0; clear n0 n1 n2; clear y0 y1 y2 y3 y4; have y0 : w2.cell? ⟨gr, 0, none⟩ = some (.int .u8 r.f0) := (blk_cell BKr.out 0).trans rfl; have y1 : w2.cell? ⟨gr, 1, none⟩ = some (.int .u64 r.f1) := (blk_cell BKr.out 1).trans rfl; have y2 : w2.cell? ⟨gr, 2, none⟩ = some (.int .i64 r.f2) := (blk_cell BKr.out 2).trans rfl; have y3 : w2.cell? ⟨gr, 3, none⟩ = some (.bool r.f3) := (blk_cell BKr.out 3).trans rfl; have y4 : w2.cell? ⟨gr, 4, none⟩ = some (.int .u64 r.f4) := (blk_cell BKr.out 4).trans rfl)
    | (go_at_call 16; with_reducible refine (asks.calls r true HA.out _).mono ?_; rintro e w3 ⟨rfl, hb⟩; have n0 := Aside0.mk (HC2.out.below hb); have n1 := Aside0.mk (blk_below BKr.out hb); have n2 := Aside0.mk (HB.out.trans (Below.mono hb HB.out.size)); clear BKr HB hb; have BKr := n1; have HB := n2; have HC3 := n0; clear n0 n1 n2; clear y0 y1 y2 y3 y4; have y0 : w3.cell? ⟨gr, 0, none⟩ = some (.int .u8 r.f0) := (blk_cell BKr.out 0).trans rfl; have y1 : w3.cell? ⟨gr, 1, none⟩ = some (.int .u64 r.f1) := (blk_cell BKr.out 1).trans rfl; have y2 : w3.cell? ⟨gr, 2, none⟩ = some (.int .i64 r.f2) := (blk_cell BKr.out 2).trans rfl; have y3 : w3.cell? ⟨gr, 3, none⟩ = some (.bool r.f3) := (blk_cell BKr.out 3).trans rfl; have y4 : w3.cell? ⟨gr, 4, none⟩ = some (.int .u64 r.f4) := (blk_cell BKr.out 4).trans rfl; have c1 : w3.cell? ⟨gc, 1, none⟩ = some (.slice Aw s.W.length cw) := HC3.out.c1)
    | (go_at_call 17; with_reducible refine (CF.out _ HC3.out BKr.out).mono ?_; rintro e w4 ⟨rfl, hb⟩; have n0 := Aside0.mk (HC3.out.below hb); have n1 := Aside0.mk (blk_below BKr.out hb); have n2 := Aside0.mk (HB.out.trans (Below.mono hb HB.out.size)); clear BKr HB hb; have BKr := n1; have HB := n2; have HC4 := n0; clear n0 n1 n2; clear y0 y1 y2 y3 y4; have y0 : w4.cell? ⟨gr, 0, none⟩ = some (.int .u8 r.f0) := (blk_cell BKr.out 0).trans rfl; have y1 : w4.cell? ⟨gr, 1, none⟩ = some (.int .u64 r.f1) := (blk_cell BKr.out 1).trans rfl; have y2 : w4.cell? ⟨gr, 2, none⟩ = some (.int .i64 r.f2) := (blk_cell BKr.out 2).trans rfl; have y3 : w4.cell? ⟨gr, 3, none⟩ = some (.bool r.f3) := (blk_cell BKr.out 3).trans rfl; have y4 : w4.cell? ⟨gr, 4, none⟩ = some (.int .u64 r.f4) := (blk_cell BKr.out 4).trans rfl; have c2 : w4.cell? ⟨gc, 2, none⟩ = some (.map (some mb)) := HC4.out.c2))
  go_wp2_with (go_at_call 19; with_reducible refine (inst.none_ _ gc mb B vl (.slice Aw s.W.length cw) s HC4.out r.f4 HID.out hn2).mono ?_; rintro e w5 ⟨rfl, hb⟩; have n0 := Aside0.mk (HC4.out.below hb); have n1 := Aside0.mk (blk_below BKr.out hb); have n2 := Aside0.mk (HB.out.trans (Below.mono hb HB.out.size)); clear BKr HB hb; have BKr := n1; have HB := n2; have HC5 := n0; clear n0 n1 n2)
  go_ret
  exact ⟨rfl, Post.of HC.out HB.out⟩

end Go.Proofs.Ytfhopjigdkjnoaa.GA
