import Derived.Test.YthgbipgfplokeaaS16
import Derived.Deep.RegionHeld3
namespace Go.Proofs.Ythgbipgfplokeaa.GA
open Go.RowKit Go.Proofs.YthgbipgfplokeaaW.PrintWords Go.Proofs.YthgbipgfplokeaaW.PrintLast Go.Proofs.YthgbipgfplokeaaW.PrintMore
set_option linter.unusedVariables false
set_option linter.unusedSimpArgs false

def picksC (p : Int) : Array Value := #[.int .i64 p, .int .i64 0, .int .i64 1, .int .i64 2, .int .i64 64]
/-- the picks -/
def pk (p : Int) (i : Nat) : Int := if i = 0 then p else if i = 1 then 0 else if i = 2 then 1 else if i = 3 then 2 else 64
theorem picks_get (p : Int) (i : Nat) (h : i < 5) : (picksC p)[i]? = some (.int .i64 (pk p i)) := by
  rcases (by omega : i = 0 ∨ i = 1 ∨ i = 2 ∨ i = 3 ∨ i = 4) with rfl | rfl | rfl | rfl | rfl <;> rfl
theorem picks_make (p : Int) (W : World) : (Instr.buildSlice 44 5 #[(0, .int .i64 p), (1, .int .i64 0), (2, .int .i64 1), (3, .int .i64 2), (4, .int .i64 64)]).run Try.prog W = .ok (.slice (some ⟨W.heap.size, 0, none⟩) 5 5) (W.alloc (.cells (picksC p) 3)) := by kernel_rfl
theorem picks_run {o : Oper} {a : Act} (p : Int) (ho : o.op = .buildSlice 44 5 #[(0, .tmp 48), (1, .const (.int .i64 0)), (2, .const (.int .i64 1)), (3, .const (.int .i64 2)), (4, .const (.int .i64 64))]) (hp : a.eval (.tmp 48) = .int .i64 p) (W : World) : (execOp a.eval o).run Try.prog W = .ok (.value (.slice (some ⟨W.heap.size, 0, none⟩) 5 5)) (W.alloc (.cells (picksC p) 3 (0, 0))) := by
  unfold execOp
  have hm : #[((0 : Nat), Operand.tmp 48), (1, .const (.int .i64 0)), (2, .const (.int .i64 1)), (3, .const (.int .i64 2)), (4, .const (.int .i64 64))].map (fun (i, x) => (i, a.eval x)) = #[(0, .int .i64 p), (1, .int .i64 0), (2, .int .i64 1), (3, .int .i64 2), (4, .int .i64 64)] := by
    rw [← hp]
    simp [Act.eval]
  simp only [ho, hm, Sem.run_bind, picks_make, Result.andThen_ok, Sem.run_pure]
theorem alloc26_make (W : World) : (Instr.alloc 26 true (.tuple #[])).run Try.prog W = .ok (.pointer (some ⟨W.heap.size, 0, none⟩)) (W.alloc (.cells (bcells zero64) 26)) := by kernel_rfl
theorem alloc26_ev {ops : Array Oper} {Q : Exit → Act → World → Prop} {oi : Oper} {N : Option Tmp} {a : Act} {W : World} {K : Act → World → Prop} (hw : Region.wanted oi (yielded ops a.tmps) = true) (hN : oi.dst = N) (hop : oi.op = .alloc 26)
    (h : ∀ g, g = W.heap.size → ∀ w1, w1.heap[g]? = some (.cells (bcells zero64) 26 (0, 0)) → Below W.heap.size W w1 → K (a.put N (.pointer (some ⟨g, 0, none⟩))) w1) : if Region.wanted oi (yielded ops a.tmps) = true then Oper.wp Try.prog oi a W K Q else K (a.put N undef) W := by
  refine value_ hw hN (v := .pointer (some ⟨W.heap.size, 0, none⟩)) (w1 := W.alloc (.cells (bcells zero64) 26)) ?_ (h _ rfl _ (blk_new W _) (below_alloc (Below.refl _ _) _))
  unfold execOp
  simp only [hop, Sem.run_bind, alloc26_make, Result.andThen_ok, Sem.run_pure]
theorem store26_ev {ops : Array Oper} {Q : Exit → Act → World → Prop} {oi : Oper} {a : Act} {W : World} {K : Act → World → Prop} (hw : Region.wanted oi (yielded ops a.tmps) = true) (hN : oi.dst = none) (t v : Tmp) (hop : oi.op = .store 26 (.tmp t) (.tmp v)) (g : Nat) (hx : a.eval (.tmp t) = .pointer (some ⟨g, 0, none⟩)) (X : List Int) (hX : X.length = 64) (hy : a.eval (.tmp v) = .agg (bcells X)) (old : List Int) (ho : old.length = 64) (hg : W.heap[g]? = some (.cells (bcells old) 26 (0, 0)))
    (h : K a (W.setRow g (bcells X))) : if Region.wanted oi (yielded ops a.tmps) = true then Oper.wp Try.prog oi a W K Q else K (a.put none undef) W := by
  refine skip_ hw hN (w1 := W.setRow g (bcells X)) ?_ h
  unfold execOp
  simp only [hop, hx, hy, Instr.storeAt, Instr.sureAddr, Sem.run_bind, Sem.run_pure, Result.andThen_ok, run_storeVar_row W g 26 26 (bcells old) (bcells X) hg (seal_size X hX) (by rw [bcells_size, bcells_size, ho, hX]) (bcells_all X)]
/-- what Get tells of a torn write -/
def tornOk (k : Nat) (n o : Int) (x y : List Int) (q : Int) : Prop := ∃ (m : Int) (l : List Int) (g : Int), seal_Get.f k (tornL y x q) = some (m, l, g) ∧ ((tornL y x q = x ∧ g = 0 ∧ m = n) ∨ (tornL y x q ≠ x ∧ g ≠ 0) ∨ (tornL y x q ≠ x ∧ g = 0 ∧ tornL y x q = y ∧ m = o))
set_option maxHeartbeats 8000000 in
set_option maxRecDepth 100000 in
theorem sealTorn.callsA (k : Nat) (n o : Int) (A : Option Addr) (c : Nat) (b : List Int) (A2 : Option Addr) (c2 : Nat) (b2 : List Int) (p : Int) (x y : List Int) (w : World) (hb : Kd.C (Kd.int .u8) w A b.length b) (hc : b.length ≤ c) (hb2 : Kd.C (Kd.int .u8) w A2 b2.length b2) (hc2 : b2.length ≤ c2) (e1 e2 : Int) (lx : x.length = 64) (ly : y.length = 64) (f1 : seal_Put.f k n b = some (x, e1)) (f2 : seal_Put.f k o b2 = some (y, e2)) (h1 : e1 ≠ 0) :
    Calls Try.prog 6 #[.int .u64 n, .int .u64 o, .slice A b.length c, .slice A2 b2.length c2, .int .i64 p] w fun e' w' => e' = .returned (.bool true) ∧ Below w.heap.size w w' := by
  have HB := Aside0.mk (Below.refl w.heap.size w)
  have HC := Aside0.mk hb
  have HCC := Aside0.mk hc
  have HC2 := Aside0.mk hb2
  have HCC2 := Aside0.mk hc2
  have LX := Aside0.mk lx
  have LY := Aside0.mk ly
  have F1 := Aside0.mk f1
  have F2 := Aside0.mk f2
  have d1 : (e1 != 0) = true := by simpa using h1
  clear hb hc hb2 hc2 lx ly f1 f2 h1
  by_cases h2 : e2 = 0
  · subst h2
    go_enter Try.func6, Try.ntmps6
    go_wp2_with (first
      | (go_at_call 9; first | (with_reducible refine (seal_Put.calls k n A c b x e1 _ (Kd.C_below HC.out (by repeat (first | (with_reducible first | exact HB.out | apply below_alloc | apply pw_below_drewN | apply below_drew1) | exact HB.out))) HCC.out F1.out).mono ?_; rintro e' w' ⟨rfl, hb⟩; have n0_ := Aside0.mk (below_step (by repeat (first | (with_reducible first | exact HB.out | apply below_alloc | apply pw_below_drewN | apply below_drew1) | exact HB.out)) hb); clear HB; have HB := n0_; clear n0_ hb) | (with_reducible refine (seal_Put.calls k o A2 c2 b2 y 0 _ (Kd.C_below HC2.out (by repeat (first | (with_reducible first | exact HB.out | apply below_alloc | apply pw_below_drewN | apply below_drew1) | exact HB.out))) HCC2.out F2.out).mono ?_; rintro e' w' ⟨rfl, hb⟩; have n0_ := Aside0.mk (below_step (by repeat (first | (with_reducible first | exact HB.out | apply below_alloc | apply pw_below_drewN | apply below_drew1) | exact HB.out)) hb); (first | have n1_ := Aside0.mk (blk_below BKx.out hb) | have n1_ := Aside0.mk (blk_below (blk_drewN BKx.out _) hb) | have n1_ := Aside0.mk (blk_below (blk_drew BKx.out) hb) | have n1_ := Aside0.mk (blk_below (blk_alloc BKx.out _) hb) | have n1_ := Aside0.mk (blk_below (by (with_reducible repeat (first | refine blk_drewN ?_ _ | refine blk_drew ?_ | refine blk_alloc ?_ _)); exact BKx.out) hb)); clear HB BKx; have HB := n0_; have BKx := n1_; clear n0_ n1_ hb))
      | ((with_reducible refine gate_dst (N := 11) rfl ?_); refine box_event ?hg (N := 11) ?hd (cs := bcells zero64) (t := 26) ?hr ?_; (case hd => rfl); (case hg => rfl); (case hr => first | (go_simp; done) | (go_simp; rfl)); intro gx hg w1x hbox hb; have Gx := Aside0.mk (show w.heap.size ≤ gx from by rw [hg]; exact below_size (by repeat (first | (with_reducible first | exact HB.out | apply below_alloc | apply pw_below_drewN | apply below_drew1) | exact HB.out))); have BKx := Aside0.mk hbox; clear hbox hg; have n0_ := Aside0.mk (below_step (by repeat (first | (with_reducible first | exact HB.out | apply below_alloc | apply pw_below_drewN | apply below_drew1) | exact HB.out)) hb); clear HB; have HB := n0_; clear n0_ hb)
      | (refine wpList_store_row rfl 26 (.tmp 11) (.tmp 25) rfl gx (bcells x) rfl (by rfl) 26 (bcells zero64) (by (with_reducible repeat (first | refine blk_drewN ?_ _ | refine blk_drew ?_ | refine blk_alloc ?_ _)); exact BKx.out) (seal_size _ LX.out) (by rw [bcells_size, bcells_size, LX.out]; rfl) (bcells_all _) ?_; have n0 := Aside0.mk (below_setRow (show Below w.heap.size w _ from by repeat (first | (with_reducible first | exact HB.out | apply below_alloc | apply pw_below_drewN | apply below_drew1) | exact HB.out)) (show w.heap.size ≤ gx from Gx.out) (bcells x)); have n1 := Aside0.mk (setRow_heap _ _ _ (bcells x) _ _ (by (with_reducible repeat (first | refine blk_drewN ?_ _ | refine blk_drew ?_ | refine blk_alloc ?_ _)); exact BKx.out)); generalize World.setRow _ _ _ = w3 at n0 n1; clear HB BKx; have HB := n0; have BKx := n1; clear n0 n1)
      | ((with_reducible refine gate_dst (N := 13) rfl ?_); refine box_event ?hg (N := 13) ?hd (cs := bcells zero64) (t := 26) ?hr ?_; (case hd => rfl); (case hg => rfl); (case hr => first | (go_simp; done) | (go_simp; rfl)); intro gy hg w1y hbox hb; have Gy := Aside0.mk (show w.heap.size ≤ gy from by rw [hg]; exact below_size (by repeat (first | (with_reducible first | exact HB.out | apply below_alloc | apply pw_below_drewN | apply below_drew1) | exact HB.out))); have NExy := Aside0.mk (show gx ≠ gy from by rw [hg]; exact Nat.ne_of_lt (blk_lt (by (with_reducible repeat (first | refine blk_drewN ?_ _ | refine blk_drew ?_ | refine blk_alloc ?_ _)); exact BKx.out))); have BKy := Aside0.mk hbox; clear hbox hg; have n0_ := Aside0.mk (below_step (by repeat (first | (with_reducible first | exact HB.out | apply below_alloc | apply pw_below_drewN | apply below_drew1) | exact HB.out)) hb); (first | have n1_ := Aside0.mk (blk_below BKx.out hb) | have n1_ := Aside0.mk (blk_below (blk_drewN BKx.out _) hb) | have n1_ := Aside0.mk (blk_below (blk_drew BKx.out) hb) | have n1_ := Aside0.mk (blk_below (blk_alloc BKx.out _) hb) | have n1_ := Aside0.mk (blk_below (by (with_reducible repeat (first | refine blk_drewN ?_ _ | refine blk_drew ?_ | refine blk_alloc ?_ _)); exact BKx.out) hb)); clear HB BKx; have HB := n0_; have BKx := n1_; clear n0_ n1_ hb)
      | (refine wpList_store_row rfl 26 (.tmp 13) (.tmp 31) rfl gy (bcells y) rfl (by rfl) 26 (bcells zero64) (by (with_reducible repeat (first | refine blk_drewN ?_ _ | refine blk_drew ?_ | refine blk_alloc ?_ _)); exact BKy.out) (seal_size _ LY.out) (by rw [bcells_size, bcells_size, LY.out]; rfl) (bcells_all _) ?_; have n0 := Aside0.mk (below_setRow (show Below w.heap.size w _ from by repeat (first | (with_reducible first | exact HB.out | apply below_alloc | apply pw_below_drewN | apply below_drew1) | exact HB.out)) (show w.heap.size ≤ gy from Gy.out) (bcells y)); have n1 := Aside0.mk (setRow_heap _ _ _ (bcells y) _ _ (by (with_reducible repeat (first | refine blk_drewN ?_ _ | refine blk_drew ?_ | refine blk_alloc ?_ _)); exact BKy.out)); have kx := Aside0.mk ((setRow_other _ gy gx (bcells y) NExy.out).trans (by (with_reducible repeat (first | refine blk_drewN ?_ _ | refine blk_drew ?_ | refine blk_alloc ?_ _)); exact BKx.out)); generalize World.setRow _ _ _ = w3 at n0 n1 kx; clear HB BKy BKx; have HB := n0; have BKy := n1; have BKx := kx; clear kx; clear n0 n1)
      | (go_at_call 12; with_reducible refine (law_lives.calls _).mono ?_; rintro e' w' ⟨rfl, hb⟩; have n0_ := Aside0.mk (below_step (by repeat (first | (with_reducible first | exact HB.out | apply below_alloc | apply pw_below_drewN | apply below_drew1) | exact HB.out)) hb); clear HB; have HB := n0_; clear n0_ hb))
    go_ret
    exact ⟨rfl, by repeat (first | (with_reducible first | exact HB.out | apply below_alloc | apply pw_below_drewN | apply below_drew1) | exact HB.out)⟩
  · have d2 : (e2 != 0) = true := by simpa using h2
    clear h2
    go_enter Try.func6, Try.ntmps6
    go_wp2_with (first
      | (go_at_call 9; first | (with_reducible refine (seal_Put.calls k n A c b x e1 _ (Kd.C_below HC.out (by repeat (first | (with_reducible first | exact HB.out | apply below_alloc | apply pw_below_drewN | apply below_drew1) | exact HB.out))) HCC.out F1.out).mono ?_; rintro e' w' ⟨rfl, hb⟩; have n0_ := Aside0.mk (below_step (by repeat (first | (with_reducible first | exact HB.out | apply below_alloc | apply pw_below_drewN | apply below_drew1) | exact HB.out)) hb); clear HB; have HB := n0_; clear n0_ hb) | (with_reducible refine (seal_Put.calls k o A2 c2 b2 y e2 _ (Kd.C_below HC2.out (by repeat (first | (with_reducible first | exact HB.out | apply below_alloc | apply pw_below_drewN | apply below_drew1) | exact HB.out))) HCC2.out F2.out).mono ?_; rintro e' w' ⟨rfl, hb⟩; have n0_ := Aside0.mk (below_step (by repeat (first | (with_reducible first | exact HB.out | apply below_alloc | apply pw_below_drewN | apply below_drew1) | exact HB.out)) hb); (first | have n1_ := Aside0.mk (blk_below BKx.out hb) | have n1_ := Aside0.mk (blk_below (blk_drewN BKx.out _) hb) | have n1_ := Aside0.mk (blk_below (blk_drew BKx.out) hb) | have n1_ := Aside0.mk (blk_below (blk_alloc BKx.out _) hb) | have n1_ := Aside0.mk (blk_below (by (with_reducible repeat (first | refine blk_drewN ?_ _ | refine blk_drew ?_ | refine blk_alloc ?_ _)); exact BKx.out) hb)); clear HB BKx; have HB := n0_; have BKx := n1_; clear n0_ n1_ hb))
      | ((with_reducible refine gate_dst (N := 11) rfl ?_); refine box_event ?hg (N := 11) ?hd (cs := bcells zero64) (t := 26) ?hr ?_; (case hd => rfl); (case hg => rfl); (case hr => first | (go_simp; done) | (go_simp; rfl)); intro gx hg w1x hbox hb; have Gx := Aside0.mk (show w.heap.size ≤ gx from by rw [hg]; exact below_size (by repeat (first | (with_reducible first | exact HB.out | apply below_alloc | apply pw_below_drewN | apply below_drew1) | exact HB.out))); have BKx := Aside0.mk hbox; clear hbox hg; have n0_ := Aside0.mk (below_step (by repeat (first | (with_reducible first | exact HB.out | apply below_alloc | apply pw_below_drewN | apply below_drew1) | exact HB.out)) hb); clear HB; have HB := n0_; clear n0_ hb)
      | (refine wpList_store_row rfl 26 (.tmp 11) (.tmp 25) rfl gx (bcells x) rfl (by rfl) 26 (bcells zero64) (by (with_reducible repeat (first | refine blk_drewN ?_ _ | refine blk_drew ?_ | refine blk_alloc ?_ _)); exact BKx.out) (seal_size _ LX.out) (by rw [bcells_size, bcells_size, LX.out]; rfl) (bcells_all _) ?_; have n0 := Aside0.mk (below_setRow (show Below w.heap.size w _ from by repeat (first | (with_reducible first | exact HB.out | apply below_alloc | apply pw_below_drewN | apply below_drew1) | exact HB.out)) (show w.heap.size ≤ gx from Gx.out) (bcells x)); have n1 := Aside0.mk (setRow_heap _ _ _ (bcells x) _ _ (by (with_reducible repeat (first | refine blk_drewN ?_ _ | refine blk_drew ?_ | refine blk_alloc ?_ _)); exact BKx.out)); generalize World.setRow _ _ _ = w3 at n0 n1; clear HB BKx; have HB := n0; have BKx := n1; clear n0 n1)
      | ((with_reducible refine gate_dst (N := 13) rfl ?_); refine box_event ?hg (N := 13) ?hd (cs := bcells zero64) (t := 26) ?hr ?_; (case hd => rfl); (case hg => rfl); (case hr => first | (go_simp; done) | (go_simp; rfl)); intro gy hg w1y hbox hb; have Gy := Aside0.mk (show w.heap.size ≤ gy from by rw [hg]; exact below_size (by repeat (first | (with_reducible first | exact HB.out | apply below_alloc | apply pw_below_drewN | apply below_drew1) | exact HB.out))); have NExy := Aside0.mk (show gx ≠ gy from by rw [hg]; exact Nat.ne_of_lt (blk_lt (by (with_reducible repeat (first | refine blk_drewN ?_ _ | refine blk_drew ?_ | refine blk_alloc ?_ _)); exact BKx.out))); have BKy := Aside0.mk hbox; clear hbox hg; have n0_ := Aside0.mk (below_step (by repeat (first | (with_reducible first | exact HB.out | apply below_alloc | apply pw_below_drewN | apply below_drew1) | exact HB.out)) hb); (first | have n1_ := Aside0.mk (blk_below BKx.out hb) | have n1_ := Aside0.mk (blk_below (blk_drewN BKx.out _) hb) | have n1_ := Aside0.mk (blk_below (blk_drew BKx.out) hb) | have n1_ := Aside0.mk (blk_below (blk_alloc BKx.out _) hb) | have n1_ := Aside0.mk (blk_below (by (with_reducible repeat (first | refine blk_drewN ?_ _ | refine blk_drew ?_ | refine blk_alloc ?_ _)); exact BKx.out) hb)); clear HB BKx; have HB := n0_; have BKx := n1_; clear n0_ n1_ hb)
      | (refine wpList_store_row rfl 26 (.tmp 13) (.tmp 31) rfl gy (bcells y) rfl (by rfl) 26 (bcells zero64) (by (with_reducible repeat (first | refine blk_drewN ?_ _ | refine blk_drew ?_ | refine blk_alloc ?_ _)); exact BKy.out) (seal_size _ LY.out) (by rw [bcells_size, bcells_size, LY.out]; rfl) (bcells_all _) ?_; have n0 := Aside0.mk (below_setRow (show Below w.heap.size w _ from by repeat (first | (with_reducible first | exact HB.out | apply below_alloc | apply pw_below_drewN | apply below_drew1) | exact HB.out)) (show w.heap.size ≤ gy from Gy.out) (bcells y)); have n1 := Aside0.mk (setRow_heap _ _ _ (bcells y) _ _ (by (with_reducible repeat (first | refine blk_drewN ?_ _ | refine blk_drew ?_ | refine blk_alloc ?_ _)); exact BKy.out)); have kx := Aside0.mk ((setRow_other _ gy gx (bcells y) NExy.out).trans (by (with_reducible repeat (first | refine blk_drewN ?_ _ | refine blk_drew ?_ | refine blk_alloc ?_ _)); exact BKx.out)); generalize World.setRow _ _ _ = w3 at n0 n1 kx; clear HB BKy BKx; have HB := n0; have BKy := n1; have BKx := kx; clear kx; clear n0 n1)
      | (refine wpList_store_row rfl 26 (.tmp 13) (.tmp 35) rfl gy (bcells zero64) rfl (by rfl) 26 (bcells y) (by (with_reducible repeat (first | refine blk_drewN ?_ _ | refine blk_drew ?_ | refine blk_alloc ?_ _)); exact BKy.out) (seal_size _ rfl) (by rw [bcells_size, bcells_size, LY.out]; rfl) (bcells_all _) ?_; have n0 := Aside0.mk (below_setRow (show Below w.heap.size w _ from by repeat (first | (with_reducible first | exact HB.out | apply below_alloc | apply pw_below_drewN | apply below_drew1) | exact HB.out)) (show w.heap.size ≤ gy from Gy.out) (bcells zero64)); have n1 := Aside0.mk (setRow_heap _ _ _ (bcells zero64) _ _ (by (with_reducible repeat (first | refine blk_drewN ?_ _ | refine blk_drew ?_ | refine blk_alloc ?_ _)); exact BKy.out)); have kx := Aside0.mk ((setRow_other _ gy gx (bcells zero64) NExy.out).trans (by (with_reducible repeat (first | refine blk_drewN ?_ _ | refine blk_drew ?_ | refine blk_alloc ?_ _)); exact BKx.out)); generalize World.setRow _ _ _ = w3 at n0 n1 kx; clear HB BKy BKx; have HB := n0; have BKy := n1; have BKx := kx; clear kx; clear n0 n1)
      | (go_at_call 12; with_reducible refine (law_lives.calls _).mono ?_; rintro e' w' ⟨rfl, hb⟩; have n0_ := Aside0.mk (below_step (by repeat (first | (with_reducible first | exact HB.out | apply below_alloc | apply pw_below_drewN | apply below_drew1) | exact HB.out)) hb); clear HB; have HB := n0_; clear n0_ hb))
    go_ret
    exact ⟨rfl, by repeat (first | (with_reducible first | exact HB.out | apply below_alloc | apply pw_below_drewN | apply below_drew1) | exact HB.out)⟩
set_option maxHeartbeats 8000000 in
set_option maxRecDepth 100000 in
theorem sealTorn.callsB (k : Nat) (n o : Int) (A : Option Addr) (c : Nat) (b : List Int) (A2 : Option Addr) (c2 : Nat) (b2 : List Int) (p : Int) (x y : List Int) (w : World) (hb : Kd.C (Kd.int .u8) w A b.length b) (hc : b.length ≤ c) (hb2 : Kd.C (Kd.int .u8) w A2 b2.length b2) (hc2 : b2.length ≤ c2) (lx : x.length = 64) (ly : y.length = 64) (f1 : seal_Put.f k n b = some (x, 0)) (f2 : seal_Put.f k o b2 = some (y, 0)) (h1 : o = n) :
    Calls Try.prog 6 #[.int .u64 n, .int .u64 o, .slice A b.length c, .slice A2 b2.length c2, .int .i64 p] w fun e' w' => e' = .returned (.bool true) ∧ Below w.heap.size w w' := by
  have HB := Aside0.mk (Below.refl w.heap.size w)
  have HC := Aside0.mk hb
  have HCC := Aside0.mk hc
  have HC2 := Aside0.mk hb2
  have HCC2 := Aside0.mk hc2
  have LX := Aside0.mk lx
  have LY := Aside0.mk ly
  have F1 := Aside0.mk f1
  have F2 := Aside0.mk f2
  subst h1
  have d1 : (o == o) = true := by simp
  clear hb hc hb2 hc2 lx ly f1 f2
  go_enter Try.func6, Try.ntmps6
  go_wp2_with (first
    | (go_at_call 9; first | (with_reducible refine (seal_Put.calls k o A c b x 0 _ (Kd.C_below HC.out (by repeat (first | (with_reducible first | exact HB.out | apply below_alloc | apply pw_below_drewN | apply below_drew1) | exact HB.out))) HCC.out F1.out).mono ?_; rintro e' w' ⟨rfl, hb⟩; have n0_ := Aside0.mk (below_step (by repeat (first | (with_reducible first | exact HB.out | apply below_alloc | apply pw_below_drewN | apply below_drew1) | exact HB.out)) hb); clear HB; have HB := n0_; clear n0_ hb) | (with_reducible refine (seal_Put.calls k o A2 c2 b2 y 0 _ (Kd.C_below HC2.out (by repeat (first | (with_reducible first | exact HB.out | apply below_alloc | apply pw_below_drewN | apply below_drew1) | exact HB.out))) HCC2.out F2.out).mono ?_; rintro e' w' ⟨rfl, hb⟩; have n0_ := Aside0.mk (below_step (by repeat (first | (with_reducible first | exact HB.out | apply below_alloc | apply pw_below_drewN | apply below_drew1) | exact HB.out)) hb); (first | have n1_ := Aside0.mk (blk_below BKx.out hb) | have n1_ := Aside0.mk (blk_below (blk_drewN BKx.out _) hb) | have n1_ := Aside0.mk (blk_below (blk_drew BKx.out) hb) | have n1_ := Aside0.mk (blk_below (blk_alloc BKx.out _) hb) | have n1_ := Aside0.mk (blk_below (by (with_reducible repeat (first | refine blk_drewN ?_ _ | refine blk_drew ?_ | refine blk_alloc ?_ _)); exact BKx.out) hb)); clear HB BKx; have HB := n0_; have BKx := n1_; clear n0_ n1_ hb))
    | ((with_reducible refine gate_dst (N := 11) rfl ?_); refine box_event ?hg (N := 11) ?hd (cs := bcells zero64) (t := 26) ?hr ?_; (case hd => rfl); (case hg => rfl); (case hr => first | (go_simp; done) | (go_simp; rfl)); intro gx hg w1x hbox hb; have Gx := Aside0.mk (show w.heap.size ≤ gx from by rw [hg]; exact below_size (by repeat (first | (with_reducible first | exact HB.out | apply below_alloc | apply pw_below_drewN | apply below_drew1) | exact HB.out))); have BKx := Aside0.mk hbox; clear hbox hg; have n0_ := Aside0.mk (below_step (by repeat (first | (with_reducible first | exact HB.out | apply below_alloc | apply pw_below_drewN | apply below_drew1) | exact HB.out)) hb); clear HB; have HB := n0_; clear n0_ hb)
    | (refine wpList_store_row rfl 26 (.tmp 11) (.tmp 25) rfl gx (bcells x) rfl (by rfl) 26 (bcells zero64) (by (with_reducible repeat (first | refine blk_drewN ?_ _ | refine blk_drew ?_ | refine blk_alloc ?_ _)); exact BKx.out) (seal_size _ LX.out) (by rw [bcells_size, bcells_size, LX.out]; rfl) (bcells_all _) ?_; have n0 := Aside0.mk (below_setRow (show Below w.heap.size w _ from by repeat (first | (with_reducible first | exact HB.out | apply below_alloc | apply pw_below_drewN | apply below_drew1) | exact HB.out)) (show w.heap.size ≤ gx from Gx.out) (bcells x)); have n1 := Aside0.mk (setRow_heap _ _ _ (bcells x) _ _ (by (with_reducible repeat (first | refine blk_drewN ?_ _ | refine blk_drew ?_ | refine blk_alloc ?_ _)); exact BKx.out)); generalize World.setRow _ _ _ = w3 at n0 n1; clear HB BKx; have HB := n0; have BKx := n1; clear n0 n1)
    | ((with_reducible refine gate_dst (N := 13) rfl ?_); refine box_event ?hg (N := 13) ?hd (cs := bcells zero64) (t := 26) ?hr ?_; (case hd => rfl); (case hg => rfl); (case hr => first | (go_simp; done) | (go_simp; rfl)); intro gy hg w1y hbox hb; have Gy := Aside0.mk (show w.heap.size ≤ gy from by rw [hg]; exact below_size (by repeat (first | (with_reducible first | exact HB.out | apply below_alloc | apply pw_below_drewN | apply below_drew1) | exact HB.out))); have NExy := Aside0.mk (show gx ≠ gy from by rw [hg]; exact Nat.ne_of_lt (blk_lt (by (with_reducible repeat (first | refine blk_drewN ?_ _ | refine blk_drew ?_ | refine blk_alloc ?_ _)); exact BKx.out))); have BKy := Aside0.mk hbox; clear hbox hg; have n0_ := Aside0.mk (below_step (by repeat (first | (with_reducible first | exact HB.out | apply below_alloc | apply pw_below_drewN | apply below_drew1) | exact HB.out)) hb); (first | have n1_ := Aside0.mk (blk_below BKx.out hb) | have n1_ := Aside0.mk (blk_below (blk_drewN BKx.out _) hb) | have n1_ := Aside0.mk (blk_below (blk_drew BKx.out) hb) | have n1_ := Aside0.mk (blk_below (blk_alloc BKx.out _) hb) | have n1_ := Aside0.mk (blk_below (by (with_reducible repeat (first | refine blk_drewN ?_ _ | refine blk_drew ?_ | refine blk_alloc ?_ _)); exact BKx.out) hb)); clear HB BKx; have HB := n0_; have BKx := n1_; clear n0_ n1_ hb)
    | (refine wpList_store_row rfl 26 (.tmp 13) (.tmp 31) rfl gy (bcells y) rfl (by rfl) 26 (bcells zero64) (by (with_reducible repeat (first | refine blk_drewN ?_ _ | refine blk_drew ?_ | refine blk_alloc ?_ _)); exact BKy.out) (seal_size _ LY.out) (by rw [bcells_size, bcells_size, LY.out]; rfl) (bcells_all _) ?_; have n0 := Aside0.mk (below_setRow (show Below w.heap.size w _ from by repeat (first | (with_reducible first | exact HB.out | apply below_alloc | apply pw_below_drewN | apply below_drew1) | exact HB.out)) (show w.heap.size ≤ gy from Gy.out) (bcells y)); have n1 := Aside0.mk (setRow_heap _ _ _ (bcells y) _ _ (by (with_reducible repeat (first | refine blk_drewN ?_ _ | refine blk_drew ?_ | refine blk_alloc ?_ _)); exact BKy.out)); have kx := Aside0.mk ((setRow_other _ gy gx (bcells y) NExy.out).trans (by (with_reducible repeat (first | refine blk_drewN ?_ _ | refine blk_drew ?_ | refine blk_alloc ?_ _)); exact BKx.out)); generalize World.setRow _ _ _ = w3 at n0 n1 kx; clear HB BKy BKx; have HB := n0; have BKy := n1; have BKx := kx; clear kx; clear n0 n1)
    | (go_at_call 12; with_reducible refine (law_lives.calls _).mono ?_; rintro e' w' ⟨rfl, hb⟩; have n0_ := Aside0.mk (below_step (by repeat (first | (with_reducible first | exact HB.out | apply below_alloc | apply pw_below_drewN | apply below_drew1) | exact HB.out)) hb); clear HB; have HB := n0_; clear n0_ hb))
  go_ret
  exact ⟨rfl, by repeat (first | (with_reducible first | exact HB.out | apply below_alloc | apply pw_below_drewN | apply below_drew1) | exact HB.out)⟩
set_option maxHeartbeats 16000000 in
set_option maxRecDepth 100000 in
theorem sealTorn.callsC (k : Nat) (n o : Int) (A : Option Addr) (c : Nat) (b : List Int) (A2 : Option Addr) (c2 : Nat) (b2 : List Int) (p : Int) (x y : List Int) (w : World) (hb : Kd.C (Kd.int .u8) w A b.length b) (hc : b.length ≤ c) (hb2 : Kd.C (Kd.int .u8) w A2 b2.length b2) (hc2 : b2.length ≤ c2) (lx : x.length = 64) (ly : y.length = 64) (f1 : seal_Put.f k n b = some (x, 0)) (f2 : seal_Put.f k o b2 = some (y, 0)) (h1 : o ≠ n) (hp : ∀ i < 5, tornOk k n o x y (pk p i)) :
    Calls Try.prog 6 #[.int .u64 n, .int .u64 o, .slice A b.length c, .slice A2 b2.length c2, .int .i64 p] w fun e' w' => e' = .returned (.bool true) ∧ Below w.heap.size w w' := by
  have HB := Aside0.mk (Below.refl w.heap.size w)
  have HC := Aside0.mk hb
  have HCC := Aside0.mk hc
  have HC2 := Aside0.mk hb2
  have HCC2 := Aside0.mk hc2
  have LX := Aside0.mk lx
  have LY := Aside0.mk ly
  have F1 := Aside0.mk f1
  have F2 := Aside0.mk f2
  have HP := Aside0.mk hp
  have d1 : (o == n) = false := by simpa using h1
  clear hb hc hb2 hc2 lx ly f1 f2 h1 hp
  go_enter Try.func6, Try.ntmps6
  go_wp2_with (first
    | (go_at_call 9; first | (with_reducible refine (seal_Put.calls k n A c b x 0 _ (Kd.C_below HC.out (by repeat (first | (with_reducible first | exact HB.out | apply below_alloc | apply pw_below_drewN | apply below_drew1) | exact HB.out))) HCC.out F1.out).mono ?_; rintro e' w' ⟨rfl, hb⟩; have n0_ := Aside0.mk (below_step (by repeat (first | (with_reducible first | exact HB.out | apply below_alloc | apply pw_below_drewN | apply below_drew1) | exact HB.out)) hb); clear HB; have HB := n0_; clear n0_ hb) | (with_reducible refine (seal_Put.calls k o A2 c2 b2 y 0 _ (Kd.C_below HC2.out (by repeat (first | (with_reducible first | exact HB.out | apply below_alloc | apply pw_below_drewN | apply below_drew1) | exact HB.out))) HCC2.out F2.out).mono ?_; rintro e' w' ⟨rfl, hb⟩; have n0_ := Aside0.mk (below_step (by repeat (first | (with_reducible first | exact HB.out | apply below_alloc | apply pw_below_drewN | apply below_drew1) | exact HB.out)) hb); (first | have n1_ := Aside0.mk (blk_below BKx.out hb) | have n1_ := Aside0.mk (blk_below (blk_drewN BKx.out _) hb) | have n1_ := Aside0.mk (blk_below (blk_drew BKx.out) hb) | have n1_ := Aside0.mk (blk_below (blk_alloc BKx.out _) hb) | have n1_ := Aside0.mk (blk_below (by (with_reducible repeat (first | refine blk_drewN ?_ _ | refine blk_drew ?_ | refine blk_alloc ?_ _)); exact BKx.out) hb)); clear HB BKx; have HB := n0_; have BKx := n1_; clear n0_ n1_ hb))
    | ((with_reducible refine gate_dst (N := 11) rfl ?_); refine box_event ?hg (N := 11) ?hd (cs := bcells zero64) (t := 26) ?hr ?_; (case hd => rfl); (case hg => rfl); (case hr => first | (go_simp; done) | (go_simp; rfl)); intro gx hg w1x hbox hb; have Gx := Aside0.mk (show w.heap.size ≤ gx from by rw [hg]; exact below_size (by repeat (first | (with_reducible first | exact HB.out | apply below_alloc | apply pw_below_drewN | apply below_drew1) | exact HB.out))); have BKx := Aside0.mk hbox; clear hbox hg; have n0_ := Aside0.mk (below_step (by repeat (first | (with_reducible first | exact HB.out | apply below_alloc | apply pw_below_drewN | apply below_drew1) | exact HB.out)) hb); clear HB; have HB := n0_; clear n0_ hb)
    | (refine wpList_store_row rfl 26 (.tmp 11) (.tmp 25) rfl gx (bcells x) rfl (by rfl) 26 (bcells zero64) (by (with_reducible repeat (first | refine blk_drewN ?_ _ | refine blk_drew ?_ | refine blk_alloc ?_ _)); exact BKx.out) (seal_size _ LX.out) (by rw [bcells_size, bcells_size, LX.out]; rfl) (bcells_all _) ?_; have n0 := Aside0.mk (below_setRow (show Below w.heap.size w _ from by repeat (first | (with_reducible first | exact HB.out | apply below_alloc | apply pw_below_drewN | apply below_drew1) | exact HB.out)) (show w.heap.size ≤ gx from Gx.out) (bcells x)); have n1 := Aside0.mk (setRow_heap _ _ _ (bcells x) _ _ (by (with_reducible repeat (first | refine blk_drewN ?_ _ | refine blk_drew ?_ | refine blk_alloc ?_ _)); exact BKx.out)); generalize World.setRow _ _ _ = w3 at n0 n1; clear HB BKx; have HB := n0; have BKx := n1; clear n0 n1)
    | ((with_reducible refine gate_dst (N := 13) rfl ?_); refine box_event ?hg (N := 13) ?hd (cs := bcells zero64) (t := 26) ?hr ?_; (case hd => rfl); (case hg => rfl); (case hr => first | (go_simp; done) | (go_simp; rfl)); intro gy hg w1y hbox hb; have Gy := Aside0.mk (show w.heap.size ≤ gy from by rw [hg]; exact below_size (by repeat (first | (with_reducible first | exact HB.out | apply below_alloc | apply pw_below_drewN | apply below_drew1) | exact HB.out))); have NExy := Aside0.mk (show gx ≠ gy from by rw [hg]; exact Nat.ne_of_lt (blk_lt (by (with_reducible repeat (first | refine blk_drewN ?_ _ | refine blk_drew ?_ | refine blk_alloc ?_ _)); exact BKx.out))); have BKy := Aside0.mk hbox; clear hbox hg; have n0_ := Aside0.mk (below_step (by repeat (first | (with_reducible first | exact HB.out | apply below_alloc | apply pw_below_drewN | apply below_drew1) | exact HB.out)) hb); (first | have n1_ := Aside0.mk (blk_below BKx.out hb) | have n1_ := Aside0.mk (blk_below (blk_drewN BKx.out _) hb) | have n1_ := Aside0.mk (blk_below (blk_drew BKx.out) hb) | have n1_ := Aside0.mk (blk_below (blk_alloc BKx.out _) hb) | have n1_ := Aside0.mk (blk_below (by (with_reducible repeat (first | refine blk_drewN ?_ _ | refine blk_drew ?_ | refine blk_alloc ?_ _)); exact BKx.out) hb)); clear HB BKx; have HB := n0_; have BKx := n1_; clear n0_ n1_ hb)
    | (refine wpList_store_row rfl 26 (.tmp 13) (.tmp 31) rfl gy (bcells y) rfl (by rfl) 26 (bcells zero64) (by (with_reducible repeat (first | refine blk_drewN ?_ _ | refine blk_drew ?_ | refine blk_alloc ?_ _)); exact BKy.out) (seal_size _ LY.out) (by rw [bcells_size, bcells_size, LY.out]; rfl) (bcells_all _) ?_; have n0 := Aside0.mk (below_setRow (show Below w.heap.size w _ from by repeat (first | (with_reducible first | exact HB.out | apply below_alloc | apply pw_below_drewN | apply below_drew1) | exact HB.out)) (show w.heap.size ≤ gy from Gy.out) (bcells y)); have n1 := Aside0.mk (setRow_heap _ _ _ (bcells y) _ _ (by (with_reducible repeat (first | refine blk_drewN ?_ _ | refine blk_drew ?_ | refine blk_alloc ?_ _)); exact BKy.out)); have kx := Aside0.mk ((setRow_other _ gy gx (bcells y) NExy.out).trans (by (with_reducible repeat (first | refine blk_drewN ?_ _ | refine blk_drew ?_ | refine blk_alloc ?_ _)); exact BKx.out)); generalize World.setRow _ _ _ = w3 at n0 n1 kx; clear HB BKy BKx; have HB := n0; have BKy := n1; have BKx := kx; clear kx; clear n0 n1)
    | ((with_reducible refine gate_dst (N := 49) rfl ?_); refine mk_event rfl (N := 49) rfl (cs := picksC p) (t := 3) (n := 5) (picks_run p rfl rfl _) ?_; intro gs hg w1s hbox hb; have Gs := Aside0.mk (show w.heap.size ≤ gs from by rw [hg]; exact below_size (by repeat (first | (with_reducible first | exact HB.out | apply below_alloc | apply pw_below_drewN | apply below_drew1) | exact HB.out))); have NExs := Aside0.mk (show gx ≠ gs from by rw [hg]; exact Nat.ne_of_lt (blk_lt (by (with_reducible repeat (first | refine blk_drewN ?_ _ | refine blk_drew ?_ | refine blk_alloc ?_ _)); exact BKx.out))); have NEys := Aside0.mk (show gy ≠ gs from by rw [hg]; exact Nat.ne_of_lt (blk_lt (by (with_reducible repeat (first | refine blk_drewN ?_ _ | refine blk_drew ?_ | refine blk_alloc ?_ _)); exact BKy.out))); have BKs := Aside0.mk hbox; clear hbox hg; have n0_ := Aside0.mk (below_step (by repeat (first | (with_reducible first | exact HB.out | apply below_alloc | apply pw_below_drewN | apply below_drew1) | exact HB.out)) hb); (first | have n1_ := Aside0.mk (blk_below BKx.out hb) | have n1_ := Aside0.mk (blk_below (blk_drewN BKx.out _) hb) | have n1_ := Aside0.mk (blk_below (blk_drew BKx.out) hb) | have n1_ := Aside0.mk (blk_below (blk_alloc BKx.out _) hb) | have n1_ := Aside0.mk (blk_below (by (with_reducible repeat (first | refine blk_drewN ?_ _ | refine blk_drew ?_ | refine blk_alloc ?_ _)); exact BKx.out) hb)); (first | have n2_ := Aside0.mk (blk_below BKy.out hb) | have n2_ := Aside0.mk (blk_below (blk_drewN BKy.out _) hb) | have n2_ := Aside0.mk (blk_below (blk_drew BKy.out) hb) | have n2_ := Aside0.mk (blk_below (blk_alloc BKy.out _) hb) | have n2_ := Aside0.mk (blk_below (by (with_reducible repeat (first | refine blk_drewN ?_ _ | refine blk_drew ?_ | refine blk_alloc ?_ _)); exact BKy.out) hb)); clear HB BKx BKy; have HB := n0_; have BKx := n1_; have BKy := n2_; clear n0_ n1_ n2_ hb))
  go_loopw [16] (fun v16 w' => ∃ i : Nat, i ≤ 5 ∧ v16 = .int .i64 i ∧ Aside0 (w'.heap[gx]? = some (.cells (bcells x) 26 (0, 0))) ∧ Aside0 (w'.heap[gy]? = some (.cells (bcells y) 26 (0, 0))) ∧ Aside0 (w'.heap[gs]? = some (.cells (picksC p) 3 (0, 0))) ∧ Aside0 (Below w.heap.size w w')) (fun v16 _ => 5 - (intOf v16).toNat)
  case atStart => exact ⟨0, Nat.zero_le _, rfl, BKx, BKy, BKs, HB⟩
  case round =>
    clear BKx BKy BKs HB
    obtain ⟨i, hi, rfl, BKx, BKy, BKs, HB⟩ := hrel
    by_cases hlt : i < 5
    · have i1 : (0 : Int) ≤ (i : Int) := Int.natCast_nonneg i
      have i2 : (i : Int) < 5 := by omega
      have i3 : wrap64 ((i : Int) + 1) = (i : Int) + 1 := by unfold wrap64; omega
      obtain ⟨q, hq0⟩ : ∃ q, q = pk p i := ⟨_, rfl⟩
      have HQ := Aside0.mk (show (picksC p)[i]? = some (.int .i64 q) from by rw [hq0]; exact picks_get p i hlt)
      obtain ⟨m, l, g, fg, hcase⟩ := HP.out i hlt
      rw [← hq0] at fg hcase
      obtain ⟨z, hz⟩ : ∃ z, z = tornL y x q := ⟨_, rfl⟩
      have LZ := Aside0.mk (show z.length = 64 from by rw [hz]; exact tornL_len _ _ LY.out LX.out q)
      have TC := Aside0.mk (show ∀ W, Calls Try.prog 22 #[.agg (bcells y), .agg (bcells x), .int .i64 q] W fun e' w' => e' = .returned (.agg (bcells z)) ∧ Below W.heap.size W w' from fun W => by rw [hz]; exact torn.calls y x LY.out LX.out q W)
      rw [← hz] at fg hcase
      have FG := Aside0.mk fg
      have HCASE := Aside0.mk hcase
      have hq := (blk_cell BKs.out i).trans HQ.out
      clear fg hcase hz hq0
      go_wp2
      refine start_ (n := 9) (S := fun w' => w'.heap[gy]? = some (.cells (bcells y) 26 (0, 0)) ∧ w'.heap[gx]? = some (.cells (bcells x) 26 (0, 0)) ∧ w'.cell? ⟨gs, i, none⟩ = some (.int .i64 q)) (ds := []) #[false, false, false, false, false, false, false, false, false] (by kernel_rfl) rfl rfl ⟨BKy.out, BKx.out, hq⟩ (fun hHeld => ?_)
      refine pure_ (i := 2) (N := some 58) (v := ?_) (a' := ?_) #[false, false, true, false, false, false, false, false, false] rfl rfl (by kernel_rfl) (fun _ _ _ h => h) (Or.inl ⟨by rfl, ?_⟩) ?_ ?_
      rotate_left
      · intro w'
        go_simp
        with_reducible rfl
      rotate_left
      · simp only [Act.put, List.setIfInBounds_toArray, List.set_cons_zero, List.set_cons_succ, i64_w, i32_w]
        rfl
      refine pure_ (i := 3) (N := some 59) (v := ?_) (a' := ?_) #[false, false, true, true, false, false, false, false, false] rfl rfl (by kernel_rfl) (fun _ _ _ h => h) (Or.inl ⟨by rfl, ?_⟩) ?_ ?_
      rotate_left
      · intro w'
        go_simp
        with_reducible rfl
      rotate_left
      · simp only [Act.put, List.setIfInBounds_toArray, List.set_cons_zero, List.set_cons_succ, i64_w, i32_w]
        rfl
      refine pure_ (i := 4) (N := some 60) (v := ?_) (a' := ?_) #[false, false, true, true, true, false, false, false, false] rfl rfl (by kernel_rfl) (fun _ _ _ h => h) (Or.inl ⟨by rfl, ?_⟩) ?_ ?_
      rotate_left
      · intro w'
        go_simp
        with_reducible rfl
      rotate_left
      · simp only [Act.put, List.setIfInBounds_toArray, List.set_cons_zero, List.set_cons_succ, i64_w, i32_w]
        rfl
      refine take_ (i := 0) (N := some 56) (v := ?_) (a' := ?_) #[true, false, true, true, true, false, false, false, false] rfl rfl (by kernel_rfl) (fun _ _ _ h => h) (Or.inl ⟨by rfl, ?_⟩) hHeld ?_ ?_
      rotate_left
      · rintro w' ⟨s0, s1, s2⟩
        refine bl.load_run 13 gy (bcells y) ?_ ?_ w' s0 (seal_size y LY.out)
        · rfl
        · rfl
      rotate_left
      · simp only [Act.put, List.setIfInBounds_toArray, List.set_cons_zero, List.set_cons_succ, i64_w, i32_w]
        rfl
      refine take_ (i := 1) (N := some 57) (v := ?_) (a' := ?_) #[true, true, true, true, true, false, false, false, false] rfl rfl (by kernel_rfl) (fun _ _ _ h => h) (Or.inl ⟨by rfl, ?_⟩) hHeld ?_ ?_
      rotate_left
      · rintro w' ⟨s0, s1, s2⟩
        refine bl.load_run 11 gx (bcells x) ?_ ?_ w' s1 (seal_size x LX.out)
        · rfl
        · rfl
      rotate_left
      · simp only [Act.put, List.setIfInBounds_toArray, List.set_cons_zero, List.set_cons_succ, i64_w, i32_w]
        rfl
      refine take_ (i := 5) (N := some 61) (v := ?_) (a' := ?_) #[true, true, true, true, true, true, false, false, false] rfl rfl (by kernel_rfl) (fun _ _ _ h => h) (Or.inl ⟨by rfl, ?_⟩) hHeld ?_ ?_
      rotate_left
      · rintro w' ⟨s0, s1, s2⟩
        go_simp
        with_reducible rfl
      rotate_left
      · simp only [Act.put, List.setIfInBounds_toArray, List.set_cons_zero, List.set_cons_succ, i64_w, i32_w]
        rfl
      refine join_ (σ := Nat) 1 #[true, true, true, true, true, true, true, true, false] (fun g => [(62, .agg (bcells z)), (17, .pointer (some ⟨g, 0, none⟩))]) (fun g w2 => Aside0 (w.heap.size ≤ g) ∧ Aside0 (gx ≠ g) ∧ Aside0 (gy ≠ g) ∧ Aside0 (gs ≠ g) ∧ Aside0 (w2.heap[g]? = some (.cells (bcells zero64) 26 (0, 0))) ∧ Aside0 (w2.heap[gx]? = some (.cells (bcells x) 26 (0, 0))) ∧ Aside0 (w2.heap[gy]? = some (.cells (bcells y) 26 (0, 0))) ∧ Aside0 (w2.heap[gs]? = some (.cells (picksC p) 3 (0, 0))) ∧ Aside0 (Below w.heap.size w w2)) ?_ ?_
      rotate_left
      · intro hCont
        refine two_ (i := 6) (j := 7) (Ni := some 62) (Nj := some 17) #[true, true, true, true, true, true, true, false, false] #[true, true, true, true, true, true, false, true, false] rfl rfl rfl rfl (by kernel_rfl) (by decide) (by decide) (fun K hK => ?_) (fun K hK => ?_)
        · skip
          refine goes_ Try.func22 (by kernel_rfl) rfl #[.agg (bcells y), .agg (bcells x), .int .i64 q] (by rfl) rfl rfl (by simp only [List.map_toArray, List.map_cons, List.map_nil]; rfl) ?_
          with_reducible refine (TC.out _).mono ?_
          rintro e w3 ⟨rfl, hb⟩
          have n0_ := Aside0.mk (below_step (by repeat (first | (with_reducible first | exact HB.out | apply below_alloc | apply pw_below_drewN | apply below_drew1) | exact HB.out)) hb); (first | have n1_ := Aside0.mk (blk_below BKx.out hb) | have n1_ := Aside0.mk (blk_below (blk_drewN BKx.out _) hb) | have n1_ := Aside0.mk (blk_below (blk_drew BKx.out) hb) | have n1_ := Aside0.mk (blk_below (blk_alloc BKx.out _) hb) | have n1_ := Aside0.mk (blk_below (by (with_reducible repeat (first | refine blk_drewN ?_ _ | refine blk_drew ?_ | refine blk_alloc ?_ _)); exact BKx.out) hb)); (first | have n2_ := Aside0.mk (blk_below BKy.out hb) | have n2_ := Aside0.mk (blk_below (blk_drewN BKy.out _) hb) | have n2_ := Aside0.mk (blk_below (blk_drew BKy.out) hb) | have n2_ := Aside0.mk (blk_below (blk_alloc BKy.out _) hb) | have n2_ := Aside0.mk (blk_below (by (with_reducible repeat (first | refine blk_drewN ?_ _ | refine blk_drew ?_ | refine blk_alloc ?_ _)); exact BKy.out) hb)); (first | have n3_ := Aside0.mk (blk_below BKs.out hb) | have n3_ := Aside0.mk (blk_below (blk_drewN BKs.out _) hb) | have n3_ := Aside0.mk (blk_below (blk_drew BKs.out) hb) | have n3_ := Aside0.mk (blk_below (blk_alloc BKs.out _) hb) | have n3_ := Aside0.mk (blk_below (by (with_reducible repeat (first | refine blk_drewN ?_ _ | refine blk_drew ?_ | refine blk_alloc ?_ _)); exact BKs.out) hb)); clear HB BKx BKy BKs; have HB := n0_; have BKx := n1_; have BKy := n2_; have BKs := n3_; clear n0_ n1_ n2_ n3_ hb
          have hq := (blk_cell BKs.out i).trans HQ.out
          refine ⟨_, rfl, ?_⟩
          refine hK.out _ _ ⟨BKy.out, BKx.out, hq⟩ (fun hHeld => ?_)
          clear hK K
          refine norm_ (a' := ?_) ?_ ?_
          rotate_left
          · show Act.put _ (some 62) _ = _
            simp only [Act.put, List.setIfInBounds_toArray, List.set_cons_zero, List.set_cons_succ, i64_w, i32_w]
            rfl
          refine one_ (i := 7) (N := some 17) #[true, true, true, true, true, true, true, true, false] rfl rfl (by kernel_rfl) (by decide) (fun K hK => ?_)
          refine alloc26_ev (by rfl) rfl rfl ?_
          intro gz hg w5 hbox hb
          have Gz := Aside0.mk (show w.heap.size ≤ gz from by rw [hg]; exact below_size (by repeat (first | (with_reducible first | exact HB.out | apply below_alloc | apply pw_below_drewN | apply below_drew1) | exact HB.out)))
          have NExz := Aside0.mk (show gx ≠ gz from by rw [hg]; exact Nat.ne_of_lt (blk_lt (by (with_reducible repeat (first | refine blk_drewN ?_ _ | refine blk_drew ?_ | refine blk_alloc ?_ _)); exact BKx.out)))
          have NEyz := Aside0.mk (show gy ≠ gz from by rw [hg]; exact Nat.ne_of_lt (blk_lt (by (with_reducible repeat (first | refine blk_drewN ?_ _ | refine blk_drew ?_ | refine blk_alloc ?_ _)); exact BKy.out)))
          have NEsz := Aside0.mk (show gs ≠ gz from by rw [hg]; exact Nat.ne_of_lt (blk_lt (by (with_reducible repeat (first | refine blk_drewN ?_ _ | refine blk_drew ?_ | refine blk_alloc ?_ _)); exact BKs.out)))
          have BKz := Aside0.mk hbox
          clear hbox hg
          have n0_ := Aside0.mk (below_step (by repeat (first | (with_reducible first | exact HB.out | apply below_alloc | apply pw_below_drewN | apply below_drew1) | exact HB.out)) hb); (first | have n1_ := Aside0.mk (blk_below BKx.out hb) | have n1_ := Aside0.mk (blk_below (blk_drewN BKx.out _) hb) | have n1_ := Aside0.mk (blk_below (blk_drew BKx.out) hb) | have n1_ := Aside0.mk (blk_below (blk_alloc BKx.out _) hb) | have n1_ := Aside0.mk (blk_below (by (with_reducible repeat (first | refine blk_drewN ?_ _ | refine blk_drew ?_ | refine blk_alloc ?_ _)); exact BKx.out) hb)); (first | have n2_ := Aside0.mk (blk_below BKy.out hb) | have n2_ := Aside0.mk (blk_below (blk_drewN BKy.out _) hb) | have n2_ := Aside0.mk (blk_below (blk_drew BKy.out) hb) | have n2_ := Aside0.mk (blk_below (blk_alloc BKy.out _) hb) | have n2_ := Aside0.mk (blk_below (by (with_reducible repeat (first | refine blk_drewN ?_ _ | refine blk_drew ?_ | refine blk_alloc ?_ _)); exact BKy.out) hb)); (first | have n3_ := Aside0.mk (blk_below BKs.out hb) | have n3_ := Aside0.mk (blk_below (blk_drewN BKs.out _) hb) | have n3_ := Aside0.mk (blk_below (blk_drew BKs.out) hb) | have n3_ := Aside0.mk (blk_below (blk_alloc BKs.out _) hb) | have n3_ := Aside0.mk (blk_below (by (with_reducible repeat (first | refine blk_drewN ?_ _ | refine blk_drew ?_ | refine blk_alloc ?_ _)); exact BKs.out) hb)); clear HB BKx BKy BKs; have HB := n0_; have BKx := n1_; have BKy := n2_; have BKs := n3_; clear n0_ n1_ n2_ n3_ hb
          have hq := (blk_cell BKs.out i).trans HQ.out
          refine hK.out _ _ ⟨BKy.out, BKx.out, hq⟩ (fun hHeld => ?_)
          clear hK K
          refine norm_ (a' := ?_) ?_ ?_
          rotate_left
          · show Act.put _ (some 17) _ = _
            simp only [Act.put, List.setIfInBounds_toArray, List.set_cons_zero, List.set_cons_succ, i64_w, i32_w]
            rfl
          exact norm_ (by simp only [putAll, Act.put, List.setIfInBounds_toArray, List.set_cons_zero, List.set_cons_succ]) (hCont gz _ ⟨Gz, NExz, NEyz, NEsz, BKz, BKx, BKy, BKs, HB⟩)
        · skip
          refine alloc26_ev (by rfl) rfl rfl ?_
          intro gz hg w5 hbox hb
          have Gz := Aside0.mk (show w.heap.size ≤ gz from by rw [hg]; exact below_size (by repeat (first | (with_reducible first | exact HB.out | apply below_alloc | apply pw_below_drewN | apply below_drew1) | exact HB.out)))
          have NExz := Aside0.mk (show gx ≠ gz from by rw [hg]; exact Nat.ne_of_lt (blk_lt (by (with_reducible repeat (first | refine blk_drewN ?_ _ | refine blk_drew ?_ | refine blk_alloc ?_ _)); exact BKx.out)))
          have NEyz := Aside0.mk (show gy ≠ gz from by rw [hg]; exact Nat.ne_of_lt (blk_lt (by (with_reducible repeat (first | refine blk_drewN ?_ _ | refine blk_drew ?_ | refine blk_alloc ?_ _)); exact BKy.out)))
          have NEsz := Aside0.mk (show gs ≠ gz from by rw [hg]; exact Nat.ne_of_lt (blk_lt (by (with_reducible repeat (first | refine blk_drewN ?_ _ | refine blk_drew ?_ | refine blk_alloc ?_ _)); exact BKs.out)))
          have BKz := Aside0.mk hbox
          clear hbox hg
          have n0_ := Aside0.mk (below_step (by repeat (first | (with_reducible first | exact HB.out | apply below_alloc | apply pw_below_drewN | apply below_drew1) | exact HB.out)) hb); (first | have n1_ := Aside0.mk (blk_below BKx.out hb) | have n1_ := Aside0.mk (blk_below (blk_drewN BKx.out _) hb) | have n1_ := Aside0.mk (blk_below (blk_drew BKx.out) hb) | have n1_ := Aside0.mk (blk_below (blk_alloc BKx.out _) hb) | have n1_ := Aside0.mk (blk_below (by (with_reducible repeat (first | refine blk_drewN ?_ _ | refine blk_drew ?_ | refine blk_alloc ?_ _)); exact BKx.out) hb)); (first | have n2_ := Aside0.mk (blk_below BKy.out hb) | have n2_ := Aside0.mk (blk_below (blk_drewN BKy.out _) hb) | have n2_ := Aside0.mk (blk_below (blk_drew BKy.out) hb) | have n2_ := Aside0.mk (blk_below (blk_alloc BKy.out _) hb) | have n2_ := Aside0.mk (blk_below (by (with_reducible repeat (first | refine blk_drewN ?_ _ | refine blk_drew ?_ | refine blk_alloc ?_ _)); exact BKy.out) hb)); (first | have n3_ := Aside0.mk (blk_below BKs.out hb) | have n3_ := Aside0.mk (blk_below (blk_drewN BKs.out _) hb) | have n3_ := Aside0.mk (blk_below (blk_drew BKs.out) hb) | have n3_ := Aside0.mk (blk_below (blk_alloc BKs.out _) hb) | have n3_ := Aside0.mk (blk_below (by (with_reducible repeat (first | refine blk_drewN ?_ _ | refine blk_drew ?_ | refine blk_alloc ?_ _)); exact BKs.out) hb)); clear HB BKx BKy BKs; have HB := n0_; have BKx := n1_; have BKy := n2_; have BKs := n3_; clear n0_ n1_ n2_ n3_ hb
          have hq := (blk_cell BKs.out i).trans HQ.out
          refine hK.out _ _ ⟨BKy.out, BKx.out, hq⟩ (fun hHeld => ?_)
          clear hK K
          refine norm_ (a' := ?_) ?_ ?_
          rotate_left
          · show Act.put _ (some 17) _ = _
            simp only [Act.put, List.setIfInBounds_toArray, List.set_cons_zero, List.set_cons_succ, i64_w, i32_w]
            rfl
          refine one_ (i := 6) (N := some 62) #[true, true, true, true, true, true, true, true, false] rfl rfl (by kernel_rfl) (by decide) (fun K hK => ?_)
          refine goes_ Try.func22 (by kernel_rfl) rfl #[.agg (bcells y), .agg (bcells x), .int .i64 q] (by rfl) rfl rfl (by simp only [List.map_toArray, List.map_cons, List.map_nil]; rfl) ?_
          with_reducible refine (TC.out _).mono ?_
          rintro e w3 ⟨rfl, hb⟩
          have n0_ := Aside0.mk (below_step (by repeat (first | (with_reducible first | exact HB.out | apply below_alloc | apply pw_below_drewN | apply below_drew1) | exact HB.out)) hb); (first | have n1_ := Aside0.mk (blk_below BKx.out hb) | have n1_ := Aside0.mk (blk_below (blk_drewN BKx.out _) hb) | have n1_ := Aside0.mk (blk_below (blk_drew BKx.out) hb) | have n1_ := Aside0.mk (blk_below (blk_alloc BKx.out _) hb) | have n1_ := Aside0.mk (blk_below (by (with_reducible repeat (first | refine blk_drewN ?_ _ | refine blk_drew ?_ | refine blk_alloc ?_ _)); exact BKx.out) hb)); (first | have n2_ := Aside0.mk (blk_below BKy.out hb) | have n2_ := Aside0.mk (blk_below (blk_drewN BKy.out _) hb) | have n2_ := Aside0.mk (blk_below (blk_drew BKy.out) hb) | have n2_ := Aside0.mk (blk_below (blk_alloc BKy.out _) hb) | have n2_ := Aside0.mk (blk_below (by (with_reducible repeat (first | refine blk_drewN ?_ _ | refine blk_drew ?_ | refine blk_alloc ?_ _)); exact BKy.out) hb)); (first | have n3_ := Aside0.mk (blk_below BKs.out hb) | have n3_ := Aside0.mk (blk_below (blk_drewN BKs.out _) hb) | have n3_ := Aside0.mk (blk_below (blk_drew BKs.out) hb) | have n3_ := Aside0.mk (blk_below (blk_alloc BKs.out _) hb) | have n3_ := Aside0.mk (blk_below (by (with_reducible repeat (first | refine blk_drewN ?_ _ | refine blk_drew ?_ | refine blk_alloc ?_ _)); exact BKs.out) hb)); (first | have n4_ := Aside0.mk (blk_below BKz.out hb) | have n4_ := Aside0.mk (blk_below (blk_drewN BKz.out _) hb) | have n4_ := Aside0.mk (blk_below (blk_drew BKz.out) hb) | have n4_ := Aside0.mk (blk_below (blk_alloc BKz.out _) hb) | have n4_ := Aside0.mk (blk_below (by (with_reducible repeat (first | refine blk_drewN ?_ _ | refine blk_drew ?_ | refine blk_alloc ?_ _)); exact BKz.out) hb)); clear HB BKx BKy BKs BKz; have HB := n0_; have BKx := n1_; have BKy := n2_; have BKs := n3_; have BKz := n4_; clear n0_ n1_ n2_ n3_ n4_ hb
          have hq := (blk_cell BKs.out i).trans HQ.out
          refine ⟨_, rfl, ?_⟩
          refine hK.out _ _ ⟨BKy.out, BKx.out, hq⟩ (fun hHeld => ?_)
          clear hK K
          refine norm_ (a' := ?_) ?_ ?_
          rotate_left
          · show Act.put _ (some 62) _ = _
            simp only [Act.put, List.setIfInBounds_toArray, List.set_cons_zero, List.set_cons_succ, i64_w, i32_w]
            rfl
          exact norm_ (by simp only [putAll, Act.put, List.setIfInBounds_toArray, List.set_cons_zero, List.set_cons_succ]) (hCont gz _ ⟨Gz, NExz, NEyz, NEsz, BKz, BKx, BKy, BKs, HB⟩)
      clear BKx BKy BKs HB
      rintro gz w2 ⟨Gz, NExz, NEyz, NEsz, BKz, BKx, BKy, BKs, HB⟩
      have hq := (blk_cell BKs.out i).trans HQ.out
      have hHeld : w2.heap[gy]? = some (.cells (bcells y) 26 (0, 0)) ∧ w2.heap[gx]? = some (.cells (bcells x) 26 (0, 0)) ∧ w2.cell? ⟨gs, i, none⟩ = some (.int .i64 q) := ⟨BKy.out, BKx.out, hq⟩
      refine norm_ (a' := ?_) ?_ ?_
      rotate_left
      · simp only [putAll, Act.put, List.setIfInBounds_toArray, List.set_cons_zero, List.set_cons_succ]
        rfl
      refine one_ (i := 8) (N := none) #[true, true, true, true, true, true, true, true, true] rfl rfl (by kernel_rfl) (by decide) (fun K hK => ?_)
      refine store26_ev (by rfl) rfl 17 62 rfl gz rfl z LZ.out rfl zero64 rfl BKz.out ?_
      have n0 := Aside0.mk (below_setRow (show Below w.heap.size w _ from HB.out) (show w.heap.size ≤ gz from Gz.out) (bcells z)); have n1 := Aside0.mk (setRow_heap _ _ _ (bcells z) _ _ BKz.out); have kx := Aside0.mk ((setRow_other _ gz gx (bcells z) NExz.out).trans BKx.out); have ky := Aside0.mk ((setRow_other _ gz gy (bcells z) NEyz.out).trans BKy.out); have ks := Aside0.mk ((setRow_other _ gz gs (bcells z) NEsz.out).trans BKs.out); generalize World.setRow _ _ _ = w3 at n0 n1 kx ky ks ⊢; clear HB BKz BKx BKy BKs; have HB := n0; have BKz := n1; have BKx := kx; have BKy := ky; have BKs := ks; clear n0 n1 kx ky ks; have hq := (blk_cell BKs.out i).trans HQ.out
      refine hK.out _ _ ⟨BKy.out, BKx.out, hq⟩ (fun hHeld => ?_)
      clear hK K
      refine done_ (by kernel_rfl) ?_
  
      clear hq
      go_upto_region 13 with (first
        | ((with_reducible refine gate_dst (N := 64) rfl ?_); refine wpList_load_row rfl 26 (.tmp 17) rfl gz rfl 26 (bcells z) (0, 0) _ (by (with_reducible repeat (first | refine blk_drewN ?_ _ | refine blk_drew ?_ | refine blk_alloc ?_ _)); exact BKz.out) Try.underlying26 rfl (seal_size _ LZ.out) ?_)
        | (go_at_call 13; with_reducible refine (seal_Get.calls k z LZ.out m l g _ FG.out).mono ?_; rintro e' w6 ⟨v6, rfl, ho, hb⟩; clear ho; have n0_ := Aside0.mk (below_step (by repeat (first | (with_reducible first | exact HB.out | apply below_alloc | apply pw_below_drewN | apply below_drew1) | exact HB.out)) hb); (first | have n1_ := Aside0.mk (blk_below BKx.out hb) | have n1_ := Aside0.mk (blk_below (blk_drewN BKx.out _) hb) | have n1_ := Aside0.mk (blk_below (blk_drew BKx.out) hb) | have n1_ := Aside0.mk (blk_below (blk_alloc BKx.out _) hb) | have n1_ := Aside0.mk (blk_below (by (with_reducible repeat (first | refine blk_drewN ?_ _ | refine blk_drew ?_ | refine blk_alloc ?_ _)); exact BKx.out) hb)); (first | have n2_ := Aside0.mk (blk_below BKy.out hb) | have n2_ := Aside0.mk (blk_below (blk_drewN BKy.out _) hb) | have n2_ := Aside0.mk (blk_below (blk_drew BKy.out) hb) | have n2_ := Aside0.mk (blk_below (blk_alloc BKy.out _) hb) | have n2_ := Aside0.mk (blk_below (by (with_reducible repeat (first | refine blk_drewN ?_ _ | refine blk_drew ?_ | refine blk_alloc ?_ _)); exact BKy.out) hb)); (first | have n3_ := Aside0.mk (blk_below BKs.out hb) | have n3_ := Aside0.mk (blk_below (blk_drewN BKs.out _) hb) | have n3_ := Aside0.mk (blk_below (blk_drew BKs.out) hb) | have n3_ := Aside0.mk (blk_below (blk_alloc BKs.out _) hb) | have n3_ := Aside0.mk (blk_below (by (with_reducible repeat (first | refine blk_drewN ?_ _ | refine blk_drew ?_ | refine blk_alloc ?_ _)); exact BKs.out) hb)); (first | have n4_ := Aside0.mk (blk_below BKz.out hb) | have n4_ := Aside0.mk (blk_below (blk_drewN BKz.out _) hb) | have n4_ := Aside0.mk (blk_below (blk_drew BKz.out) hb) | have n4_ := Aside0.mk (blk_below (blk_alloc BKz.out _) hb) | have n4_ := Aside0.mk (blk_below (by (with_reducible repeat (first | refine blk_drewN ?_ _ | refine blk_drew ?_ | refine blk_alloc ?_ _)); exact BKz.out) hb)); clear HB BKx BKy BKs BKz; have HB := n0_; have BKx := n1_; have BKy := n2_; have BKs := n3_; have BKz := n4_; clear n0_ n1_ n2_ n3_ n4_ hb))
      rcases HCASE.out with ⟨h1, h2, h3⟩ | ⟨h1, h2⟩ | ⟨h1, h2, h3, h4⟩
      · subst h2
        have hEq : ∀ (d : Nat) (W : World), (Op.equalIn (d + 2) 26 (.agg (bcells z)) (.agg (bcells x))).run Try.prog W = .ok true W := fun d W => (eqArr d z x LZ.out LX.out W).trans (by rw [decide_eq_true h1])
        have hEq2 : ∀ (W : World), (Op.equal 26 (.agg (bcells z)) (.agg (bcells x))).run Try.prog W = .ok true W := fun W => hEq 9998 W
        have q1 : (m != n) = false := by rw [h3]; simp
        clear h1 h3 HCASE
        go_wp2_with (first
        | ((with_reducible refine gate_dst (N := 69) rfl ?_); refine wpList_load_row rfl 26 (.tmp 17) rfl gz rfl 26 (bcells z) (0, 0) _ (by (with_reducible repeat (first | refine blk_drewN ?_ _ | refine blk_drew ?_ | refine blk_alloc ?_ _)); exact BKz.out) Try.underlying26 rfl (seal_size _ LZ.out) ?_)
        | ((with_reducible refine gate_dst (N := 70) rfl ?_); refine wpList_load_row rfl 26 (.tmp 11) rfl gx rfl 26 (bcells x) (0, 0) _ (by (with_reducible repeat (first | refine blk_drewN ?_ _ | refine blk_drew ?_ | refine blk_alloc ?_ _)); exact BKx.out) Try.underlying26 rfl (seal_size _ LX.out) ?_)
        | ((with_reducible refine gate_dst (N := 82) rfl ?_); (refine gate_guard (by rfl) ?_; dsimp only); refine wpList_load_row rfl 26 (.tmp 17) rfl gz rfl 26 (bcells z) (0, 0) _ (by (with_reducible repeat (first | refine blk_drewN ?_ _ | refine blk_drew ?_ | refine blk_alloc ?_ _)); exact BKz.out) Try.underlying26 rfl (seal_size _ LZ.out) ?_)
        | ((with_reducible refine gate_dst (N := 83) rfl ?_); (refine gate_guard (by rfl) ?_; dsimp only); refine wpList_load_row rfl 26 (.tmp 11) rfl gx rfl 26 (bcells x) (0, 0) _ (by (with_reducible repeat (first | refine blk_drewN ?_ _ | refine blk_drew ?_ | refine blk_alloc ?_ _)); exact BKx.out) Try.underlying26 rfl (seal_size _ LX.out) ?_))
        exact ⟨⟨i + 1, hlt, by first | rfl | (rw [Int.natCast_add]; rfl), Aside0.mk (by (with_reducible repeat (first | refine blk_drewN ?_ _ | refine blk_drew ?_ | refine blk_alloc ?_ _)); exact BKx.out), Aside0.mk (by (with_reducible repeat (first | refine blk_drewN ?_ _ | refine blk_drew ?_ | refine blk_alloc ?_ _)); exact BKy.out), Aside0.mk (by (with_reducible repeat (first | refine blk_drewN ?_ _ | refine blk_drew ?_ | refine blk_alloc ?_ _)); exact BKs.out), Aside0.mk (by repeat (first | (with_reducible first | exact HB.out | apply below_alloc | apply pw_below_drewN | apply below_drew1) | exact HB.out))⟩, by show 5 - (i + 1) < 5 - i; omega⟩
      · have hEq : ∀ (d : Nat) (W : World), (Op.equalIn (d + 2) 26 (.agg (bcells z)) (.agg (bcells x))).run Try.prog W = .ok false W := fun d W => (eqArr d z x LZ.out LX.out W).trans (by rw [decide_eq_false h1])
        have hEq2 : ∀ (W : World), (Op.equal 26 (.agg (bcells z)) (.agg (bcells x))).run Try.prog W = .ok false W := fun W => hEq 9998 W
        have q1 : (g == 0) = false := by simpa using h2
        have q2 : (g != 0) = true := by simpa using h2
        clear h1 h2 HCASE
        go_wp2_with (first
        | ((with_reducible refine gate_dst (N := 69) rfl ?_); refine wpList_load_row rfl 26 (.tmp 17) rfl gz rfl 26 (bcells z) (0, 0) _ (by (with_reducible repeat (first | refine blk_drewN ?_ _ | refine blk_drew ?_ | refine blk_alloc ?_ _)); exact BKz.out) Try.underlying26 rfl (seal_size _ LZ.out) ?_)
        | ((with_reducible refine gate_dst (N := 70) rfl ?_); refine wpList_load_row rfl 26 (.tmp 11) rfl gx rfl 26 (bcells x) (0, 0) _ (by (with_reducible repeat (first | refine blk_drewN ?_ _ | refine blk_drew ?_ | refine blk_alloc ?_ _)); exact BKx.out) Try.underlying26 rfl (seal_size _ LX.out) ?_)
        | ((with_reducible refine gate_dst (N := 82) rfl ?_); (refine gate_guard (by rfl) ?_; dsimp only); refine wpList_load_row rfl 26 (.tmp 17) rfl gz rfl 26 (bcells z) (0, 0) _ (by (with_reducible repeat (first | refine blk_drewN ?_ _ | refine blk_drew ?_ | refine blk_alloc ?_ _)); exact BKz.out) Try.underlying26 rfl (seal_size _ LZ.out) ?_)
        | ((with_reducible refine gate_dst (N := 83) rfl ?_); (refine gate_guard (by rfl) ?_; dsimp only); refine wpList_load_row rfl 26 (.tmp 11) rfl gx rfl 26 (bcells x) (0, 0) _ (by (with_reducible repeat (first | refine blk_drewN ?_ _ | refine blk_drew ?_ | refine blk_alloc ?_ _)); exact BKx.out) Try.underlying26 rfl (seal_size _ LX.out) ?_))
        exact ⟨⟨i + 1, hlt, by first | rfl | (rw [Int.natCast_add]; rfl), Aside0.mk (by (with_reducible repeat (first | refine blk_drewN ?_ _ | refine blk_drew ?_ | refine blk_alloc ?_ _)); exact BKx.out), Aside0.mk (by (with_reducible repeat (first | refine blk_drewN ?_ _ | refine blk_drew ?_ | refine blk_alloc ?_ _)); exact BKy.out), Aside0.mk (by (with_reducible repeat (first | refine blk_drewN ?_ _ | refine blk_drew ?_ | refine blk_alloc ?_ _)); exact BKs.out), Aside0.mk (by repeat (first | (with_reducible first | exact HB.out | apply below_alloc | apply pw_below_drewN | apply below_drew1) | exact HB.out))⟩, by show 5 - (i + 1) < 5 - i; omega⟩
      · subst h2
        have hEq : ∀ (d : Nat) (W : World), (Op.equalIn (d + 2) 26 (.agg (bcells z)) (.agg (bcells x))).run Try.prog W = .ok false W := fun d W => (eqArr d z x LZ.out LX.out W).trans (by rw [decide_eq_false h1])
        have hEq2 : ∀ (W : World), (Op.equal 26 (.agg (bcells z)) (.agg (bcells x))).run Try.prog W = .ok false W := fun W => hEq 9998 W
        have hEq3 : ∀ (d : Nat) (W : World), (Op.equalIn (d + 2) 26 (.agg (bcells z)) (.agg (bcells y))).run Try.prog W = .ok true W := fun d W => (eqArr d z y LZ.out LY.out W).trans (by rw [decide_eq_true h3])
        have hEq4 : ∀ (W : World), (Op.equal 26 (.agg (bcells z)) (.agg (bcells y))).run Try.prog W = .ok true W := fun W => hEq3 9998 W
        have q1 : (m != o) = false := by rw [h4]; simp
        clear h1 h3 h4 HCASE
        go_wp2_with (first
        | ((with_reducible refine gate_dst (N := 69) rfl ?_); refine wpList_load_row rfl 26 (.tmp 17) rfl gz rfl 26 (bcells z) (0, 0) _ (by (with_reducible repeat (first | refine blk_drewN ?_ _ | refine blk_drew ?_ | refine blk_alloc ?_ _)); exact BKz.out) Try.underlying26 rfl (seal_size _ LZ.out) ?_)
        | ((with_reducible refine gate_dst (N := 70) rfl ?_); refine wpList_load_row rfl 26 (.tmp 11) rfl gx rfl 26 (bcells x) (0, 0) _ (by (with_reducible repeat (first | refine blk_drewN ?_ _ | refine blk_drew ?_ | refine blk_alloc ?_ _)); exact BKx.out) Try.underlying26 rfl (seal_size _ LX.out) ?_)
        | ((with_reducible refine gate_dst (N := 82) rfl ?_); (refine gate_guard (by rfl) ?_; dsimp only); refine wpList_load_row rfl 26 (.tmp 17) rfl gz rfl 26 (bcells z) (0, 0) _ (by (with_reducible repeat (first | refine blk_drewN ?_ _ | refine blk_drew ?_ | refine blk_alloc ?_ _)); exact BKz.out) Try.underlying26 rfl (seal_size _ LZ.out) ?_)
        | ((with_reducible refine gate_dst (N := 83) rfl ?_); (refine gate_guard (by rfl) ?_; dsimp only); refine wpList_load_row rfl 26 (.tmp 11) rfl gx rfl 26 (bcells x) (0, 0) _ (by (with_reducible repeat (first | refine blk_drewN ?_ _ | refine blk_drew ?_ | refine blk_alloc ?_ _)); exact BKx.out) Try.underlying26 rfl (seal_size _ LX.out) ?_)
        | ((with_reducible refine gate_dst (N := 90) rfl ?_); (refine gate_guard (by rfl) ?_; dsimp only); refine wpList_load_row rfl 26 (.tmp 17) rfl gz rfl 26 (bcells z) (0, 0) _ (by (with_reducible repeat (first | refine blk_drewN ?_ _ | refine blk_drew ?_ | refine blk_alloc ?_ _)); exact BKz.out) Try.underlying26 rfl (seal_size _ LZ.out) ?_)
        | ((with_reducible refine gate_dst (N := 91) rfl ?_); (refine gate_guard (by rfl) ?_; dsimp only); refine wpList_load_row rfl 26 (.tmp 13) rfl gy rfl 26 (bcells y) (0, 0) _ (by (with_reducible repeat (first | refine blk_drewN ?_ _ | refine blk_drew ?_ | refine blk_alloc ?_ _)); exact BKy.out) Try.underlying26 rfl (seal_size _ LY.out) ?_))
        exact ⟨⟨i + 1, hlt, by first | rfl | (rw [Int.natCast_add]; rfl), Aside0.mk (by (with_reducible repeat (first | refine blk_drewN ?_ _ | refine blk_drew ?_ | refine blk_alloc ?_ _)); exact BKx.out), Aside0.mk (by (with_reducible repeat (first | refine blk_drewN ?_ _ | refine blk_drew ?_ | refine blk_alloc ?_ _)); exact BKy.out), Aside0.mk (by (with_reducible repeat (first | refine blk_drewN ?_ _ | refine blk_drew ?_ | refine blk_alloc ?_ _)); exact BKs.out), Aside0.mk (by repeat (first | (with_reducible first | exact HB.out | apply below_alloc | apply pw_below_drewN | apply below_drew1) | exact HB.out))⟩, by show 5 - (i + 1) < 5 - i; omega⟩
    · have hin : i = 5 := by omega
      subst hin
      go_wp2_with (first
        | (go_at_call 12; with_reducible refine (law_lives.calls _).mono ?_; rintro e' w' ⟨rfl, hb⟩; have n0_ := Aside0.mk (below_step (by repeat (first | (with_reducible first | exact HB.out | apply below_alloc | apply pw_below_drewN | apply below_drew1) | exact HB.out)) hb); clear HB; have HB := n0_; clear n0_ hb))
      go_ret
      exact ⟨rfl, by repeat (first | (with_reducible first | exact HB.out | apply below_alloc | apply pw_below_drewN | apply below_drew1) | exact HB.out)⟩
set_option maxHeartbeats 16000000 in
set_option maxRecDepth 100000 in
theorem sealTorn.callsD (k : Nat) (n o : Int) (A : Option Addr) (c : Nat) (b : List Int) (A2 : Option Addr) (c2 : Nat) (b2 : List Int) (p : Int) (x y : List Int) (w : World) (hb : Kd.C (Kd.int .u8) w A b.length b) (hc : b.length ≤ c) (hb2 : Kd.C (Kd.int .u8) w A2 b2.length b2) (hc2 : b2.length ≤ c2) (e2 : Int) (lx : x.length = 64) (ly : y.length = 64) (f1 : seal_Put.f k n b = some (x, 0)) (f2 : seal_Put.f k o b2 = some (y, e2)) (h1 : e2 ≠ 0) (hp : ∀ i < 5, tornOk k n o x zero64 (pk p i)) :
    Calls Try.prog 6 #[.int .u64 n, .int .u64 o, .slice A b.length c, .slice A2 b2.length c2, .int .i64 p] w fun e' w' => e' = .returned (.bool true) ∧ Below w.heap.size w w' := by
  have HB := Aside0.mk (Below.refl w.heap.size w)
  have HC := Aside0.mk hb
  have HCC := Aside0.mk hc
  have HC2 := Aside0.mk hb2
  have HCC2 := Aside0.mk hc2
  have LX := Aside0.mk lx
  have LY := Aside0.mk ly
  have F1 := Aside0.mk f1
  have F2 := Aside0.mk f2
  have HP := Aside0.mk hp
  have d1 : (e2 != 0) = true := by simpa using h1
  have d2 : (e2 == 0) = false := by simpa using h1
  clear hb hc hb2 hc2 lx ly f1 f2 h1 hp
  go_enter Try.func6, Try.ntmps6
  go_wp2_with (first
    | (go_at_call 9; first | (with_reducible refine (seal_Put.calls k n A c b x 0 _ (Kd.C_below HC.out (by repeat (first | (with_reducible first | exact HB.out | apply below_alloc | apply pw_below_drewN | apply below_drew1) | exact HB.out))) HCC.out F1.out).mono ?_; rintro e' w' ⟨rfl, hb⟩; have n0_ := Aside0.mk (below_step (by repeat (first | (with_reducible first | exact HB.out | apply below_alloc | apply pw_below_drewN | apply below_drew1) | exact HB.out)) hb); clear HB; have HB := n0_; clear n0_ hb) | (with_reducible refine (seal_Put.calls k o A2 c2 b2 y e2 _ (Kd.C_below HC2.out (by repeat (first | (with_reducible first | exact HB.out | apply below_alloc | apply pw_below_drewN | apply below_drew1) | exact HB.out))) HCC2.out F2.out).mono ?_; rintro e' w' ⟨rfl, hb⟩; have n0_ := Aside0.mk (below_step (by repeat (first | (with_reducible first | exact HB.out | apply below_alloc | apply pw_below_drewN | apply below_drew1) | exact HB.out)) hb); (first | have n1_ := Aside0.mk (blk_below BKx.out hb) | have n1_ := Aside0.mk (blk_below (blk_drewN BKx.out _) hb) | have n1_ := Aside0.mk (blk_below (blk_drew BKx.out) hb) | have n1_ := Aside0.mk (blk_below (blk_alloc BKx.out _) hb) | have n1_ := Aside0.mk (blk_below (by (with_reducible repeat (first | refine blk_drewN ?_ _ | refine blk_drew ?_ | refine blk_alloc ?_ _)); exact BKx.out) hb)); clear HB BKx; have HB := n0_; have BKx := n1_; clear n0_ n1_ hb))
    | ((with_reducible refine gate_dst (N := 11) rfl ?_); refine box_event ?hg (N := 11) ?hd (cs := bcells zero64) (t := 26) ?hr ?_; (case hd => rfl); (case hg => rfl); (case hr => first | (go_simp; done) | (go_simp; rfl)); intro gx hg w1x hbox hb; have Gx := Aside0.mk (show w.heap.size ≤ gx from by rw [hg]; exact below_size (by repeat (first | (with_reducible first | exact HB.out | apply below_alloc | apply pw_below_drewN | apply below_drew1) | exact HB.out))); have BKx := Aside0.mk hbox; clear hbox hg; have n0_ := Aside0.mk (below_step (by repeat (first | (with_reducible first | exact HB.out | apply below_alloc | apply pw_below_drewN | apply below_drew1) | exact HB.out)) hb); clear HB; have HB := n0_; clear n0_ hb)
    | (refine wpList_store_row rfl 26 (.tmp 11) (.tmp 25) rfl gx (bcells x) rfl (by rfl) 26 (bcells zero64) (by (with_reducible repeat (first | refine blk_drewN ?_ _ | refine blk_drew ?_ | refine blk_alloc ?_ _)); exact BKx.out) (seal_size _ LX.out) (by rw [bcells_size, bcells_size, LX.out]; rfl) (bcells_all _) ?_; have n0 := Aside0.mk (below_setRow (show Below w.heap.size w _ from by repeat (first | (with_reducible first | exact HB.out | apply below_alloc | apply pw_below_drewN | apply below_drew1) | exact HB.out)) (show w.heap.size ≤ gx from Gx.out) (bcells x)); have n1 := Aside0.mk (setRow_heap _ _ _ (bcells x) _ _ (by (with_reducible repeat (first | refine blk_drewN ?_ _ | refine blk_drew ?_ | refine blk_alloc ?_ _)); exact BKx.out)); generalize World.setRow _ _ _ = w3 at n0 n1; clear HB BKx; have HB := n0; have BKx := n1; clear n0 n1)
    | ((with_reducible refine gate_dst (N := 13) rfl ?_); refine box_event ?hg (N := 13) ?hd (cs := bcells zero64) (t := 26) ?hr ?_; (case hd => rfl); (case hg => rfl); (case hr => first | (go_simp; done) | (go_simp; rfl)); intro gy hg w1y hbox hb; have Gy := Aside0.mk (show w.heap.size ≤ gy from by rw [hg]; exact below_size (by repeat (first | (with_reducible first | exact HB.out | apply below_alloc | apply pw_below_drewN | apply below_drew1) | exact HB.out))); have NExy := Aside0.mk (show gx ≠ gy from by rw [hg]; exact Nat.ne_of_lt (blk_lt (by (with_reducible repeat (first | refine blk_drewN ?_ _ | refine blk_drew ?_ | refine blk_alloc ?_ _)); exact BKx.out))); have BKy := Aside0.mk hbox; clear hbox hg; have n0_ := Aside0.mk (below_step (by repeat (first | (with_reducible first | exact HB.out | apply below_alloc | apply pw_below_drewN | apply below_drew1) | exact HB.out)) hb); (first | have n1_ := Aside0.mk (blk_below BKx.out hb) | have n1_ := Aside0.mk (blk_below (blk_drewN BKx.out _) hb) | have n1_ := Aside0.mk (blk_below (blk_drew BKx.out) hb) | have n1_ := Aside0.mk (blk_below (blk_alloc BKx.out _) hb) | have n1_ := Aside0.mk (blk_below (by (with_reducible repeat (first | refine blk_drewN ?_ _ | refine blk_drew ?_ | refine blk_alloc ?_ _)); exact BKx.out) hb)); clear HB BKx; have HB := n0_; have BKx := n1_; clear n0_ n1_ hb)
    | (refine wpList_store_row rfl 26 (.tmp 13) (.tmp 31) rfl gy (bcells y) rfl (by rfl) 26 (bcells zero64) (by (with_reducible repeat (first | refine blk_drewN ?_ _ | refine blk_drew ?_ | refine blk_alloc ?_ _)); exact BKy.out) (seal_size _ LY.out) (by rw [bcells_size, bcells_size, LY.out]; rfl) (bcells_all _) ?_; have n0 := Aside0.mk (below_setRow (show Below w.heap.size w _ from by repeat (first | (with_reducible first | exact HB.out | apply below_alloc | apply pw_below_drewN | apply below_drew1) | exact HB.out)) (show w.heap.size ≤ gy from Gy.out) (bcells y)); have n1 := Aside0.mk (setRow_heap _ _ _ (bcells y) _ _ (by (with_reducible repeat (first | refine blk_drewN ?_ _ | refine blk_drew ?_ | refine blk_alloc ?_ _)); exact BKy.out)); have kx := Aside0.mk ((setRow_other _ gy gx (bcells y) NExy.out).trans (by (with_reducible repeat (first | refine blk_drewN ?_ _ | refine blk_drew ?_ | refine blk_alloc ?_ _)); exact BKx.out)); generalize World.setRow _ _ _ = w3 at n0 n1 kx; clear HB BKy BKx; have HB := n0; have BKy := n1; have BKx := kx; clear kx; clear n0 n1)
    | (refine wpList_store_row rfl 26 (.tmp 13) (.tmp 35) rfl gy (bcells zero64) rfl (by rfl) 26 (bcells y) (by (with_reducible repeat (first | refine blk_drewN ?_ _ | refine blk_drew ?_ | refine blk_alloc ?_ _)); exact BKy.out) (seal_size _ rfl) (by rw [bcells_size, bcells_size, LY.out]; rfl) (bcells_all _) ?_; have n0 := Aside0.mk (below_setRow (show Below w.heap.size w _ from by repeat (first | (with_reducible first | exact HB.out | apply below_alloc | apply pw_below_drewN | apply below_drew1) | exact HB.out)) (show w.heap.size ≤ gy from Gy.out) (bcells zero64)); have n1 := Aside0.mk (setRow_heap _ _ _ (bcells zero64) _ _ (by (with_reducible repeat (first | refine blk_drewN ?_ _ | refine blk_drew ?_ | refine blk_alloc ?_ _)); exact BKy.out)); have kx := Aside0.mk ((setRow_other _ gy gx (bcells zero64) NExy.out).trans (by (with_reducible repeat (first | refine blk_drewN ?_ _ | refine blk_drew ?_ | refine blk_alloc ?_ _)); exact BKx.out)); generalize World.setRow _ _ _ = w3 at n0 n1 kx; clear HB BKy BKx; have HB := n0; have BKy := n1; have BKx := kx; clear kx; clear n0 n1)
    | ((with_reducible refine gate_dst (N := 49) rfl ?_); refine mk_event rfl (N := 49) rfl (cs := picksC p) (t := 3) (n := 5) (picks_run p rfl rfl _) ?_; intro gs hg w1s hbox hb; have Gs := Aside0.mk (show w.heap.size ≤ gs from by rw [hg]; exact below_size (by repeat (first | (with_reducible first | exact HB.out | apply below_alloc | apply pw_below_drewN | apply below_drew1) | exact HB.out))); have NExs := Aside0.mk (show gx ≠ gs from by rw [hg]; exact Nat.ne_of_lt (blk_lt (by (with_reducible repeat (first | refine blk_drewN ?_ _ | refine blk_drew ?_ | refine blk_alloc ?_ _)); exact BKx.out))); have NEys := Aside0.mk (show gy ≠ gs from by rw [hg]; exact Nat.ne_of_lt (blk_lt (by (with_reducible repeat (first | refine blk_drewN ?_ _ | refine blk_drew ?_ | refine blk_alloc ?_ _)); exact BKy.out))); have BKs := Aside0.mk hbox; clear hbox hg; have n0_ := Aside0.mk (below_step (by repeat (first | (with_reducible first | exact HB.out | apply below_alloc | apply pw_below_drewN | apply below_drew1) | exact HB.out)) hb); (first | have n1_ := Aside0.mk (blk_below BKx.out hb) | have n1_ := Aside0.mk (blk_below (blk_drewN BKx.out _) hb) | have n1_ := Aside0.mk (blk_below (blk_drew BKx.out) hb) | have n1_ := Aside0.mk (blk_below (blk_alloc BKx.out _) hb) | have n1_ := Aside0.mk (blk_below (by (with_reducible repeat (first | refine blk_drewN ?_ _ | refine blk_drew ?_ | refine blk_alloc ?_ _)); exact BKx.out) hb)); (first | have n2_ := Aside0.mk (blk_below BKy.out hb) | have n2_ := Aside0.mk (blk_below (blk_drewN BKy.out _) hb) | have n2_ := Aside0.mk (blk_below (blk_drew BKy.out) hb) | have n2_ := Aside0.mk (blk_below (blk_alloc BKy.out _) hb) | have n2_ := Aside0.mk (blk_below (by (with_reducible repeat (first | refine blk_drewN ?_ _ | refine blk_drew ?_ | refine blk_alloc ?_ _)); exact BKy.out) hb)); clear HB BKx BKy; have HB := n0_; have BKx := n1_; have BKy := n2_; clear n0_ n1_ n2_ hb))
  clear LY
  have LY := Aside0.mk (show zero64.length = 64 from rfl)
  go_loopw [16] (fun v16 w' => ∃ i : Nat, i ≤ 5 ∧ v16 = .int .i64 i ∧ Aside0 (w'.heap[gx]? = some (.cells (bcells x) 26 (0, 0))) ∧ Aside0 (w'.heap[gy]? = some (.cells (bcells zero64) 26 (0, 0))) ∧ Aside0 (w'.heap[gs]? = some (.cells (picksC p) 3 (0, 0))) ∧ Aside0 (Below w.heap.size w w')) (fun v16 _ => 5 - (intOf v16).toNat)
  case atStart => exact ⟨0, Nat.zero_le _, rfl, BKx, BKy, BKs, HB⟩
  case round =>
    clear BKx BKy BKs HB
    obtain ⟨i, hi, rfl, BKx, BKy, BKs, HB⟩ := hrel
    by_cases hlt : i < 5
    · have i1 : (0 : Int) ≤ (i : Int) := Int.natCast_nonneg i
      have i2 : (i : Int) < 5 := by omega
      have i3 : wrap64 ((i : Int) + 1) = (i : Int) + 1 := by unfold wrap64; omega
      obtain ⟨q, hq0⟩ : ∃ q, q = pk p i := ⟨_, rfl⟩
      have HQ := Aside0.mk (show (picksC p)[i]? = some (.int .i64 q) from by rw [hq0]; exact picks_get p i hlt)
      obtain ⟨m, l, g, fg, hcase⟩ := HP.out i hlt
      rw [← hq0] at fg hcase
      obtain ⟨z, hz⟩ : ∃ z, z = tornL zero64 x q := ⟨_, rfl⟩
      have LZ := Aside0.mk (show z.length = 64 from by rw [hz]; exact tornL_len _ _ LY.out LX.out q)
      have TC := Aside0.mk (show ∀ W, Calls Try.prog 22 #[.agg (bcells zero64), .agg (bcells x), .int .i64 q] W fun e' w' => e' = .returned (.agg (bcells z)) ∧ Below W.heap.size W w' from fun W => by rw [hz]; exact torn.calls zero64 x LY.out LX.out q W)
      rw [← hz] at fg hcase
      have FG := Aside0.mk fg
      have HCASE := Aside0.mk hcase
      have hq := (blk_cell BKs.out i).trans HQ.out
      clear fg hcase hz hq0
      go_wp2
      refine start_ (n := 9) (S := fun w' => w'.heap[gy]? = some (.cells (bcells zero64) 26 (0, 0)) ∧ w'.heap[gx]? = some (.cells (bcells x) 26 (0, 0)) ∧ w'.cell? ⟨gs, i, none⟩ = some (.int .i64 q)) (ds := []) #[false, false, false, false, false, false, false, false, false] (by kernel_rfl) rfl rfl ⟨BKy.out, BKx.out, hq⟩ (fun hHeld => ?_)
      refine pure_ (i := 2) (N := some 58) (v := ?_) (a' := ?_) #[false, false, true, false, false, false, false, false, false] rfl rfl (by kernel_rfl) (fun _ _ _ h => h) (Or.inl ⟨by rfl, ?_⟩) ?_ ?_
      rotate_left
      · intro w'
        go_simp
        with_reducible rfl
      rotate_left
      · simp only [Act.put, List.setIfInBounds_toArray, List.set_cons_zero, List.set_cons_succ, i64_w, i32_w]
        rfl
      refine pure_ (i := 3) (N := some 59) (v := ?_) (a' := ?_) #[false, false, true, true, false, false, false, false, false] rfl rfl (by kernel_rfl) (fun _ _ _ h => h) (Or.inl ⟨by rfl, ?_⟩) ?_ ?_
      rotate_left
      · intro w'
        go_simp
        with_reducible rfl
      rotate_left
      · simp only [Act.put, List.setIfInBounds_toArray, List.set_cons_zero, List.set_cons_succ, i64_w, i32_w]
        rfl
      refine pure_ (i := 4) (N := some 60) (v := ?_) (a' := ?_) #[false, false, true, true, true, false, false, false, false] rfl rfl (by kernel_rfl) (fun _ _ _ h => h) (Or.inl ⟨by rfl, ?_⟩) ?_ ?_
      rotate_left
      · intro w'
        go_simp
        with_reducible rfl
      rotate_left
      · simp only [Act.put, List.setIfInBounds_toArray, List.set_cons_zero, List.set_cons_succ, i64_w, i32_w]
        rfl
      refine take_ (i := 0) (N := some 56) (v := ?_) (a' := ?_) #[true, false, true, true, true, false, false, false, false] rfl rfl (by kernel_rfl) (fun _ _ _ h => h) (Or.inl ⟨by rfl, ?_⟩) hHeld ?_ ?_
      rotate_left
      · rintro w' ⟨s0, s1, s2⟩
        refine bl.load_run 13 gy (bcells zero64) ?_ ?_ w' s0 (seal_size zero64 LY.out)
        · rfl
        · rfl
      rotate_left
      · simp only [Act.put, List.setIfInBounds_toArray, List.set_cons_zero, List.set_cons_succ, i64_w, i32_w]
        rfl
      refine take_ (i := 1) (N := some 57) (v := ?_) (a' := ?_) #[true, true, true, true, true, false, false, false, false] rfl rfl (by kernel_rfl) (fun _ _ _ h => h) (Or.inl ⟨by rfl, ?_⟩) hHeld ?_ ?_
      rotate_left
      · rintro w' ⟨s0, s1, s2⟩
        refine bl.load_run 11 gx (bcells x) ?_ ?_ w' s1 (seal_size x LX.out)
        · rfl
        · rfl
      rotate_left
      · simp only [Act.put, List.setIfInBounds_toArray, List.set_cons_zero, List.set_cons_succ, i64_w, i32_w]
        rfl
      refine take_ (i := 5) (N := some 61) (v := ?_) (a' := ?_) #[true, true, true, true, true, true, false, false, false] rfl rfl (by kernel_rfl) (fun _ _ _ h => h) (Or.inl ⟨by rfl, ?_⟩) hHeld ?_ ?_
      rotate_left
      · rintro w' ⟨s0, s1, s2⟩
        go_simp
        with_reducible rfl
      rotate_left
      · simp only [Act.put, List.setIfInBounds_toArray, List.set_cons_zero, List.set_cons_succ, i64_w, i32_w]
        rfl
      refine join_ (σ := Nat) 1 #[true, true, true, true, true, true, true, true, false] (fun g => [(62, .agg (bcells z)), (17, .pointer (some ⟨g, 0, none⟩))]) (fun g w2 => Aside0 (w.heap.size ≤ g) ∧ Aside0 (gx ≠ g) ∧ Aside0 (gy ≠ g) ∧ Aside0 (gs ≠ g) ∧ Aside0 (w2.heap[g]? = some (.cells (bcells zero64) 26 (0, 0))) ∧ Aside0 (w2.heap[gx]? = some (.cells (bcells x) 26 (0, 0))) ∧ Aside0 (w2.heap[gy]? = some (.cells (bcells zero64) 26 (0, 0))) ∧ Aside0 (w2.heap[gs]? = some (.cells (picksC p) 3 (0, 0))) ∧ Aside0 (Below w.heap.size w w2)) ?_ ?_
      rotate_left
      · intro hCont
        refine two_ (i := 6) (j := 7) (Ni := some 62) (Nj := some 17) #[true, true, true, true, true, true, true, false, false] #[true, true, true, true, true, true, false, true, false] rfl rfl rfl rfl (by kernel_rfl) (by decide) (by decide) (fun K hK => ?_) (fun K hK => ?_)
        · skip
          refine goes_ Try.func22 (by kernel_rfl) rfl #[.agg (bcells zero64), .agg (bcells x), .int .i64 q] (by rfl) rfl rfl (by simp only [List.map_toArray, List.map_cons, List.map_nil]; rfl) ?_
          with_reducible refine (TC.out _).mono ?_
          rintro e w3 ⟨rfl, hb⟩
          have n0_ := Aside0.mk (below_step (by repeat (first | (with_reducible first | exact HB.out | apply below_alloc | apply pw_below_drewN | apply below_drew1) | exact HB.out)) hb); (first | have n1_ := Aside0.mk (blk_below BKx.out hb) | have n1_ := Aside0.mk (blk_below (blk_drewN BKx.out _) hb) | have n1_ := Aside0.mk (blk_below (blk_drew BKx.out) hb) | have n1_ := Aside0.mk (blk_below (blk_alloc BKx.out _) hb) | have n1_ := Aside0.mk (blk_below (by (with_reducible repeat (first | refine blk_drewN ?_ _ | refine blk_drew ?_ | refine blk_alloc ?_ _)); exact BKx.out) hb)); (first | have n2_ := Aside0.mk (blk_below BKy.out hb) | have n2_ := Aside0.mk (blk_below (blk_drewN BKy.out _) hb) | have n2_ := Aside0.mk (blk_below (blk_drew BKy.out) hb) | have n2_ := Aside0.mk (blk_below (blk_alloc BKy.out _) hb) | have n2_ := Aside0.mk (blk_below (by (with_reducible repeat (first | refine blk_drewN ?_ _ | refine blk_drew ?_ | refine blk_alloc ?_ _)); exact BKy.out) hb)); (first | have n3_ := Aside0.mk (blk_below BKs.out hb) | have n3_ := Aside0.mk (blk_below (blk_drewN BKs.out _) hb) | have n3_ := Aside0.mk (blk_below (blk_drew BKs.out) hb) | have n3_ := Aside0.mk (blk_below (blk_alloc BKs.out _) hb) | have n3_ := Aside0.mk (blk_below (by (with_reducible repeat (first | refine blk_drewN ?_ _ | refine blk_drew ?_ | refine blk_alloc ?_ _)); exact BKs.out) hb)); clear HB BKx BKy BKs; have HB := n0_; have BKx := n1_; have BKy := n2_; have BKs := n3_; clear n0_ n1_ n2_ n3_ hb
          have hq := (blk_cell BKs.out i).trans HQ.out
          refine ⟨_, rfl, ?_⟩
          refine hK.out _ _ ⟨BKy.out, BKx.out, hq⟩ (fun hHeld => ?_)
          clear hK K
          refine norm_ (a' := ?_) ?_ ?_
          rotate_left
          · show Act.put _ (some 62) _ = _
            simp only [Act.put, List.setIfInBounds_toArray, List.set_cons_zero, List.set_cons_succ, i64_w, i32_w]
            rfl
          refine one_ (i := 7) (N := some 17) #[true, true, true, true, true, true, true, true, false] rfl rfl (by kernel_rfl) (by decide) (fun K hK => ?_)
          refine alloc26_ev (by rfl) rfl rfl ?_
          intro gz hg w5 hbox hb
          have Gz := Aside0.mk (show w.heap.size ≤ gz from by rw [hg]; exact below_size (by repeat (first | (with_reducible first | exact HB.out | apply below_alloc | apply pw_below_drewN | apply below_drew1) | exact HB.out)))
          have NExz := Aside0.mk (show gx ≠ gz from by rw [hg]; exact Nat.ne_of_lt (blk_lt (by (with_reducible repeat (first | refine blk_drewN ?_ _ | refine blk_drew ?_ | refine blk_alloc ?_ _)); exact BKx.out)))
          have NEyz := Aside0.mk (show gy ≠ gz from by rw [hg]; exact Nat.ne_of_lt (blk_lt (by (with_reducible repeat (first | refine blk_drewN ?_ _ | refine blk_drew ?_ | refine blk_alloc ?_ _)); exact BKy.out)))
          have NEsz := Aside0.mk (show gs ≠ gz from by rw [hg]; exact Nat.ne_of_lt (blk_lt (by (with_reducible repeat (first | refine blk_drewN ?_ _ | refine blk_drew ?_ | refine blk_alloc ?_ _)); exact BKs.out)))
          have BKz := Aside0.mk hbox
          clear hbox hg
          have n0_ := Aside0.mk (below_step (by repeat (first | (with_reducible first | exact HB.out | apply below_alloc | apply pw_below_drewN | apply below_drew1) | exact HB.out)) hb); (first | have n1_ := Aside0.mk (blk_below BKx.out hb) | have n1_ := Aside0.mk (blk_below (blk_drewN BKx.out _) hb) | have n1_ := Aside0.mk (blk_below (blk_drew BKx.out) hb) | have n1_ := Aside0.mk (blk_below (blk_alloc BKx.out _) hb) | have n1_ := Aside0.mk (blk_below (by (with_reducible repeat (first | refine blk_drewN ?_ _ | refine blk_drew ?_ | refine blk_alloc ?_ _)); exact BKx.out) hb)); (first | have n2_ := Aside0.mk (blk_below BKy.out hb) | have n2_ := Aside0.mk (blk_below (blk_drewN BKy.out _) hb) | have n2_ := Aside0.mk (blk_below (blk_drew BKy.out) hb) | have n2_ := Aside0.mk (blk_below (blk_alloc BKy.out _) hb) | have n2_ := Aside0.mk (blk_below (by (with_reducible repeat (first | refine blk_drewN ?_ _ | refine blk_drew ?_ | refine blk_alloc ?_ _)); exact BKy.out) hb)); (first | have n3_ := Aside0.mk (blk_below BKs.out hb) | have n3_ := Aside0.mk (blk_below (blk_drewN BKs.out _) hb) | have n3_ := Aside0.mk (blk_below (blk_drew BKs.out) hb) | have n3_ := Aside0.mk (blk_below (blk_alloc BKs.out _) hb) | have n3_ := Aside0.mk (blk_below (by (with_reducible repeat (first | refine blk_drewN ?_ _ | refine blk_drew ?_ | refine blk_alloc ?_ _)); exact BKs.out) hb)); clear HB BKx BKy BKs; have HB := n0_; have BKx := n1_; have BKy := n2_; have BKs := n3_; clear n0_ n1_ n2_ n3_ hb
          have hq := (blk_cell BKs.out i).trans HQ.out
          refine hK.out _ _ ⟨BKy.out, BKx.out, hq⟩ (fun hHeld => ?_)
          clear hK K
          refine norm_ (a' := ?_) ?_ ?_
          rotate_left
          · show Act.put _ (some 17) _ = _
            simp only [Act.put, List.setIfInBounds_toArray, List.set_cons_zero, List.set_cons_succ, i64_w, i32_w]
            rfl
          exact norm_ (by simp only [putAll, Act.put, List.setIfInBounds_toArray, List.set_cons_zero, List.set_cons_succ]) (hCont gz _ ⟨Gz, NExz, NEyz, NEsz, BKz, BKx, BKy, BKs, HB⟩)
        · skip
          refine alloc26_ev (by rfl) rfl rfl ?_
          intro gz hg w5 hbox hb
          have Gz := Aside0.mk (show w.heap.size ≤ gz from by rw [hg]; exact below_size (by repeat (first | (with_reducible first | exact HB.out | apply below_alloc | apply pw_below_drewN | apply below_drew1) | exact HB.out)))
          have NExz := Aside0.mk (show gx ≠ gz from by rw [hg]; exact Nat.ne_of_lt (blk_lt (by (with_reducible repeat (first | refine blk_drewN ?_ _ | refine blk_drew ?_ | refine blk_alloc ?_ _)); exact BKx.out)))
          have NEyz := Aside0.mk (show gy ≠ gz from by rw [hg]; exact Nat.ne_of_lt (blk_lt (by (with_reducible repeat (first | refine blk_drewN ?_ _ | refine blk_drew ?_ | refine blk_alloc ?_ _)); exact BKy.out)))
          have NEsz := Aside0.mk (show gs ≠ gz from by rw [hg]; exact Nat.ne_of_lt (blk_lt (by (with_reducible repeat (first | refine blk_drewN ?_ _ | refine blk_drew ?_ | refine blk_alloc ?_ _)); exact BKs.out)))
          have BKz := Aside0.mk hbox
          clear hbox hg
          have n0_ := Aside0.mk (below_step (by repeat (first | (with_reducible first | exact HB.out | apply below_alloc | apply pw_below_drewN | apply below_drew1) | exact HB.out)) hb); (first | have n1_ := Aside0.mk (blk_below BKx.out hb) | have n1_ := Aside0.mk (blk_below (blk_drewN BKx.out _) hb) | have n1_ := Aside0.mk (blk_below (blk_drew BKx.out) hb) | have n1_ := Aside0.mk (blk_below (blk_alloc BKx.out _) hb) | have n1_ := Aside0.mk (blk_below (by (with_reducible repeat (first | refine blk_drewN ?_ _ | refine blk_drew ?_ | refine blk_alloc ?_ _)); exact BKx.out) hb)); (first | have n2_ := Aside0.mk (blk_below BKy.out hb) | have n2_ := Aside0.mk (blk_below (blk_drewN BKy.out _) hb) | have n2_ := Aside0.mk (blk_below (blk_drew BKy.out) hb) | have n2_ := Aside0.mk (blk_below (blk_alloc BKy.out _) hb) | have n2_ := Aside0.mk (blk_below (by (with_reducible repeat (first | refine blk_drewN ?_ _ | refine blk_drew ?_ | refine blk_alloc ?_ _)); exact BKy.out) hb)); (first | have n3_ := Aside0.mk (blk_below BKs.out hb) | have n3_ := Aside0.mk (blk_below (blk_drewN BKs.out _) hb) | have n3_ := Aside0.mk (blk_below (blk_drew BKs.out) hb) | have n3_ := Aside0.mk (blk_below (blk_alloc BKs.out _) hb) | have n3_ := Aside0.mk (blk_below (by (with_reducible repeat (first | refine blk_drewN ?_ _ | refine blk_drew ?_ | refine blk_alloc ?_ _)); exact BKs.out) hb)); clear HB BKx BKy BKs; have HB := n0_; have BKx := n1_; have BKy := n2_; have BKs := n3_; clear n0_ n1_ n2_ n3_ hb
          have hq := (blk_cell BKs.out i).trans HQ.out
          refine hK.out _ _ ⟨BKy.out, BKx.out, hq⟩ (fun hHeld => ?_)
          clear hK K
          refine norm_ (a' := ?_) ?_ ?_
          rotate_left
          · show Act.put _ (some 17) _ = _
            simp only [Act.put, List.setIfInBounds_toArray, List.set_cons_zero, List.set_cons_succ, i64_w, i32_w]
            rfl
          refine one_ (i := 6) (N := some 62) #[true, true, true, true, true, true, true, true, false] rfl rfl (by kernel_rfl) (by decide) (fun K hK => ?_)
          refine goes_ Try.func22 (by kernel_rfl) rfl #[.agg (bcells zero64), .agg (bcells x), .int .i64 q] (by rfl) rfl rfl (by simp only [List.map_toArray, List.map_cons, List.map_nil]; rfl) ?_
          with_reducible refine (TC.out _).mono ?_
          rintro e w3 ⟨rfl, hb⟩
          have n0_ := Aside0.mk (below_step (by repeat (first | (with_reducible first | exact HB.out | apply below_alloc | apply pw_below_drewN | apply below_drew1) | exact HB.out)) hb); (first | have n1_ := Aside0.mk (blk_below BKx.out hb) | have n1_ := Aside0.mk (blk_below (blk_drewN BKx.out _) hb) | have n1_ := Aside0.mk (blk_below (blk_drew BKx.out) hb) | have n1_ := Aside0.mk (blk_below (blk_alloc BKx.out _) hb) | have n1_ := Aside0.mk (blk_below (by (with_reducible repeat (first | refine blk_drewN ?_ _ | refine blk_drew ?_ | refine blk_alloc ?_ _)); exact BKx.out) hb)); (first | have n2_ := Aside0.mk (blk_below BKy.out hb) | have n2_ := Aside0.mk (blk_below (blk_drewN BKy.out _) hb) | have n2_ := Aside0.mk (blk_below (blk_drew BKy.out) hb) | have n2_ := Aside0.mk (blk_below (blk_alloc BKy.out _) hb) | have n2_ := Aside0.mk (blk_below (by (with_reducible repeat (first | refine blk_drewN ?_ _ | refine blk_drew ?_ | refine blk_alloc ?_ _)); exact BKy.out) hb)); (first | have n3_ := Aside0.mk (blk_below BKs.out hb) | have n3_ := Aside0.mk (blk_below (blk_drewN BKs.out _) hb) | have n3_ := Aside0.mk (blk_below (blk_drew BKs.out) hb) | have n3_ := Aside0.mk (blk_below (blk_alloc BKs.out _) hb) | have n3_ := Aside0.mk (blk_below (by (with_reducible repeat (first | refine blk_drewN ?_ _ | refine blk_drew ?_ | refine blk_alloc ?_ _)); exact BKs.out) hb)); (first | have n4_ := Aside0.mk (blk_below BKz.out hb) | have n4_ := Aside0.mk (blk_below (blk_drewN BKz.out _) hb) | have n4_ := Aside0.mk (blk_below (blk_drew BKz.out) hb) | have n4_ := Aside0.mk (blk_below (blk_alloc BKz.out _) hb) | have n4_ := Aside0.mk (blk_below (by (with_reducible repeat (first | refine blk_drewN ?_ _ | refine blk_drew ?_ | refine blk_alloc ?_ _)); exact BKz.out) hb)); clear HB BKx BKy BKs BKz; have HB := n0_; have BKx := n1_; have BKy := n2_; have BKs := n3_; have BKz := n4_; clear n0_ n1_ n2_ n3_ n4_ hb
          have hq := (blk_cell BKs.out i).trans HQ.out
          refine ⟨_, rfl, ?_⟩
          refine hK.out _ _ ⟨BKy.out, BKx.out, hq⟩ (fun hHeld => ?_)
          clear hK K
          refine norm_ (a' := ?_) ?_ ?_
          rotate_left
          · show Act.put _ (some 62) _ = _
            simp only [Act.put, List.setIfInBounds_toArray, List.set_cons_zero, List.set_cons_succ, i64_w, i32_w]
            rfl
          exact norm_ (by simp only [putAll, Act.put, List.setIfInBounds_toArray, List.set_cons_zero, List.set_cons_succ]) (hCont gz _ ⟨Gz, NExz, NEyz, NEsz, BKz, BKx, BKy, BKs, HB⟩)
      clear BKx BKy BKs HB
      rintro gz w2 ⟨Gz, NExz, NEyz, NEsz, BKz, BKx, BKy, BKs, HB⟩
      have hq := (blk_cell BKs.out i).trans HQ.out
      have hHeld : w2.heap[gy]? = some (.cells (bcells zero64) 26 (0, 0)) ∧ w2.heap[gx]? = some (.cells (bcells x) 26 (0, 0)) ∧ w2.cell? ⟨gs, i, none⟩ = some (.int .i64 q) := ⟨BKy.out, BKx.out, hq⟩
      refine norm_ (a' := ?_) ?_ ?_
      rotate_left
      · simp only [putAll, Act.put, List.setIfInBounds_toArray, List.set_cons_zero, List.set_cons_succ]
        rfl
      refine one_ (i := 8) (N := none) #[true, true, true, true, true, true, true, true, true] rfl rfl (by kernel_rfl) (by decide) (fun K hK => ?_)
      refine store26_ev (by rfl) rfl 17 62 rfl gz rfl z LZ.out rfl zero64 rfl BKz.out ?_
      have n0 := Aside0.mk (below_setRow (show Below w.heap.size w _ from HB.out) (show w.heap.size ≤ gz from Gz.out) (bcells z)); have n1 := Aside0.mk (setRow_heap _ _ _ (bcells z) _ _ BKz.out); have kx := Aside0.mk ((setRow_other _ gz gx (bcells z) NExz.out).trans BKx.out); have ky := Aside0.mk ((setRow_other _ gz gy (bcells z) NEyz.out).trans BKy.out); have ks := Aside0.mk ((setRow_other _ gz gs (bcells z) NEsz.out).trans BKs.out); generalize World.setRow _ _ _ = w3 at n0 n1 kx ky ks ⊢; clear HB BKz BKx BKy BKs; have HB := n0; have BKz := n1; have BKx := kx; have BKy := ky; have BKs := ks; clear n0 n1 kx ky ks; have hq := (blk_cell BKs.out i).trans HQ.out
      refine hK.out _ _ ⟨BKy.out, BKx.out, hq⟩ (fun hHeld => ?_)
      clear hK K
      refine done_ (by kernel_rfl) ?_
  
      clear hq
      go_upto_region 13 with (first
        | ((with_reducible refine gate_dst (N := 64) rfl ?_); refine wpList_load_row rfl 26 (.tmp 17) rfl gz rfl 26 (bcells z) (0, 0) _ (by (with_reducible repeat (first | refine blk_drewN ?_ _ | refine blk_drew ?_ | refine blk_alloc ?_ _)); exact BKz.out) Try.underlying26 rfl (seal_size _ LZ.out) ?_)
        | (go_at_call 13; with_reducible refine (seal_Get.calls k z LZ.out m l g _ FG.out).mono ?_; rintro e' w6 ⟨v6, rfl, ho, hb⟩; clear ho; have n0_ := Aside0.mk (below_step (by repeat (first | (with_reducible first | exact HB.out | apply below_alloc | apply pw_below_drewN | apply below_drew1) | exact HB.out)) hb); (first | have n1_ := Aside0.mk (blk_below BKx.out hb) | have n1_ := Aside0.mk (blk_below (blk_drewN BKx.out _) hb) | have n1_ := Aside0.mk (blk_below (blk_drew BKx.out) hb) | have n1_ := Aside0.mk (blk_below (blk_alloc BKx.out _) hb) | have n1_ := Aside0.mk (blk_below (by (with_reducible repeat (first | refine blk_drewN ?_ _ | refine blk_drew ?_ | refine blk_alloc ?_ _)); exact BKx.out) hb)); (first | have n2_ := Aside0.mk (blk_below BKy.out hb) | have n2_ := Aside0.mk (blk_below (blk_drewN BKy.out _) hb) | have n2_ := Aside0.mk (blk_below (blk_drew BKy.out) hb) | have n2_ := Aside0.mk (blk_below (blk_alloc BKy.out _) hb) | have n2_ := Aside0.mk (blk_below (by (with_reducible repeat (first | refine blk_drewN ?_ _ | refine blk_drew ?_ | refine blk_alloc ?_ _)); exact BKy.out) hb)); (first | have n3_ := Aside0.mk (blk_below BKs.out hb) | have n3_ := Aside0.mk (blk_below (blk_drewN BKs.out _) hb) | have n3_ := Aside0.mk (blk_below (blk_drew BKs.out) hb) | have n3_ := Aside0.mk (blk_below (blk_alloc BKs.out _) hb) | have n3_ := Aside0.mk (blk_below (by (with_reducible repeat (first | refine blk_drewN ?_ _ | refine blk_drew ?_ | refine blk_alloc ?_ _)); exact BKs.out) hb)); (first | have n4_ := Aside0.mk (blk_below BKz.out hb) | have n4_ := Aside0.mk (blk_below (blk_drewN BKz.out _) hb) | have n4_ := Aside0.mk (blk_below (blk_drew BKz.out) hb) | have n4_ := Aside0.mk (blk_below (blk_alloc BKz.out _) hb) | have n4_ := Aside0.mk (blk_below (by (with_reducible repeat (first | refine blk_drewN ?_ _ | refine blk_drew ?_ | refine blk_alloc ?_ _)); exact BKz.out) hb)); clear HB BKx BKy BKs BKz; have HB := n0_; have BKx := n1_; have BKy := n2_; have BKs := n3_; have BKz := n4_; clear n0_ n1_ n2_ n3_ n4_ hb))
      rcases HCASE.out with ⟨h1, h2, h3⟩ | ⟨h1, h2⟩ | ⟨h1, h2, h3, h4⟩
      · subst h2
        have hEq : ∀ (d : Nat) (W : World), (Op.equalIn (d + 2) 26 (.agg (bcells z)) (.agg (bcells x))).run Try.prog W = .ok true W := fun d W => (eqArr d z x LZ.out LX.out W).trans (by rw [decide_eq_true h1])
        have hEq2 : ∀ (W : World), (Op.equal 26 (.agg (bcells z)) (.agg (bcells x))).run Try.prog W = .ok true W := fun W => hEq 9998 W
        have q1 : (m != n) = false := by rw [h3]; simp
        clear h1 h3 HCASE
        go_wp2_with (first
        | ((with_reducible refine gate_dst (N := 69) rfl ?_); refine wpList_load_row rfl 26 (.tmp 17) rfl gz rfl 26 (bcells z) (0, 0) _ (by (with_reducible repeat (first | refine blk_drewN ?_ _ | refine blk_drew ?_ | refine blk_alloc ?_ _)); exact BKz.out) Try.underlying26 rfl (seal_size _ LZ.out) ?_)
        | ((with_reducible refine gate_dst (N := 70) rfl ?_); refine wpList_load_row rfl 26 (.tmp 11) rfl gx rfl 26 (bcells x) (0, 0) _ (by (with_reducible repeat (first | refine blk_drewN ?_ _ | refine blk_drew ?_ | refine blk_alloc ?_ _)); exact BKx.out) Try.underlying26 rfl (seal_size _ LX.out) ?_)
        | ((with_reducible refine gate_dst (N := 82) rfl ?_); (refine gate_guard (by rfl) ?_; dsimp only); refine wpList_load_row rfl 26 (.tmp 17) rfl gz rfl 26 (bcells z) (0, 0) _ (by (with_reducible repeat (first | refine blk_drewN ?_ _ | refine blk_drew ?_ | refine blk_alloc ?_ _)); exact BKz.out) Try.underlying26 rfl (seal_size _ LZ.out) ?_)
        | ((with_reducible refine gate_dst (N := 83) rfl ?_); (refine gate_guard (by rfl) ?_; dsimp only); refine wpList_load_row rfl 26 (.tmp 11) rfl gx rfl 26 (bcells x) (0, 0) _ (by (with_reducible repeat (first | refine blk_drewN ?_ _ | refine blk_drew ?_ | refine blk_alloc ?_ _)); exact BKx.out) Try.underlying26 rfl (seal_size _ LX.out) ?_))
        exact ⟨⟨i + 1, hlt, by first | rfl | (rw [Int.natCast_add]; rfl), Aside0.mk (by (with_reducible repeat (first | refine blk_drewN ?_ _ | refine blk_drew ?_ | refine blk_alloc ?_ _)); exact BKx.out), Aside0.mk (by (with_reducible repeat (first | refine blk_drewN ?_ _ | refine blk_drew ?_ | refine blk_alloc ?_ _)); exact BKy.out), Aside0.mk (by (with_reducible repeat (first | refine blk_drewN ?_ _ | refine blk_drew ?_ | refine blk_alloc ?_ _)); exact BKs.out), Aside0.mk (by repeat (first | (with_reducible first | exact HB.out | apply below_alloc | apply pw_below_drewN | apply below_drew1) | exact HB.out))⟩, by show 5 - (i + 1) < 5 - i; omega⟩
      · have hEq : ∀ (d : Nat) (W : World), (Op.equalIn (d + 2) 26 (.agg (bcells z)) (.agg (bcells x))).run Try.prog W = .ok false W := fun d W => (eqArr d z x LZ.out LX.out W).trans (by rw [decide_eq_false h1])
        have hEq2 : ∀ (W : World), (Op.equal 26 (.agg (bcells z)) (.agg (bcells x))).run Try.prog W = .ok false W := fun W => hEq 9998 W
        have q1 : (g == 0) = false := by simpa using h2
        have q2 : (g != 0) = true := by simpa using h2
        clear h1 h2 HCASE
        go_wp2_with (first
        | ((with_reducible refine gate_dst (N := 69) rfl ?_); refine wpList_load_row rfl 26 (.tmp 17) rfl gz rfl 26 (bcells z) (0, 0) _ (by (with_reducible repeat (first | refine blk_drewN ?_ _ | refine blk_drew ?_ | refine blk_alloc ?_ _)); exact BKz.out) Try.underlying26 rfl (seal_size _ LZ.out) ?_)
        | ((with_reducible refine gate_dst (N := 70) rfl ?_); refine wpList_load_row rfl 26 (.tmp 11) rfl gx rfl 26 (bcells x) (0, 0) _ (by (with_reducible repeat (first | refine blk_drewN ?_ _ | refine blk_drew ?_ | refine blk_alloc ?_ _)); exact BKx.out) Try.underlying26 rfl (seal_size _ LX.out) ?_)
        | ((with_reducible refine gate_dst (N := 82) rfl ?_); (refine gate_guard (by rfl) ?_; dsimp only); refine wpList_load_row rfl 26 (.tmp 17) rfl gz rfl 26 (bcells z) (0, 0) _ (by (with_reducible repeat (first | refine blk_drewN ?_ _ | refine blk_drew ?_ | refine blk_alloc ?_ _)); exact BKz.out) Try.underlying26 rfl (seal_size _ LZ.out) ?_)
        | ((with_reducible refine gate_dst (N := 83) rfl ?_); (refine gate_guard (by rfl) ?_; dsimp only); refine wpList_load_row rfl 26 (.tmp 11) rfl gx rfl 26 (bcells x) (0, 0) _ (by (with_reducible repeat (first | refine blk_drewN ?_ _ | refine blk_drew ?_ | refine blk_alloc ?_ _)); exact BKx.out) Try.underlying26 rfl (seal_size _ LX.out) ?_))
        exact ⟨⟨i + 1, hlt, by first | rfl | (rw [Int.natCast_add]; rfl), Aside0.mk (by (with_reducible repeat (first | refine blk_drewN ?_ _ | refine blk_drew ?_ | refine blk_alloc ?_ _)); exact BKx.out), Aside0.mk (by (with_reducible repeat (first | refine blk_drewN ?_ _ | refine blk_drew ?_ | refine blk_alloc ?_ _)); exact BKy.out), Aside0.mk (by (with_reducible repeat (first | refine blk_drewN ?_ _ | refine blk_drew ?_ | refine blk_alloc ?_ _)); exact BKs.out), Aside0.mk (by repeat (first | (with_reducible first | exact HB.out | apply below_alloc | apply pw_below_drewN | apply below_drew1) | exact HB.out))⟩, by show 5 - (i + 1) < 5 - i; omega⟩
      · subst h2
        have hEq : ∀ (d : Nat) (W : World), (Op.equalIn (d + 2) 26 (.agg (bcells z)) (.agg (bcells x))).run Try.prog W = .ok false W := fun d W => (eqArr d z x LZ.out LX.out W).trans (by rw [decide_eq_false h1])
        have hEq2 : ∀ (W : World), (Op.equal 26 (.agg (bcells z)) (.agg (bcells x))).run Try.prog W = .ok false W := fun W => hEq 9998 W
        have hEq3 : ∀ (d : Nat) (W : World), (Op.equalIn (d + 2) 26 (.agg (bcells z)) (.agg (bcells zero64))).run Try.prog W = .ok true W := fun d W => (eqArr d z zero64 LZ.out LY.out W).trans (by rw [decide_eq_true h3])
        have hEq4 : ∀ (W : World), (Op.equal 26 (.agg (bcells z)) (.agg (bcells zero64))).run Try.prog W = .ok true W := fun W => hEq3 9998 W
        have q1 : (m != o) = false := by rw [h4]; simp
        clear h1 h3 h4 HCASE
        go_wp2_with (first
        | ((with_reducible refine gate_dst (N := 69) rfl ?_); refine wpList_load_row rfl 26 (.tmp 17) rfl gz rfl 26 (bcells z) (0, 0) _ (by (with_reducible repeat (first | refine blk_drewN ?_ _ | refine blk_drew ?_ | refine blk_alloc ?_ _)); exact BKz.out) Try.underlying26 rfl (seal_size _ LZ.out) ?_)
        | ((with_reducible refine gate_dst (N := 70) rfl ?_); refine wpList_load_row rfl 26 (.tmp 11) rfl gx rfl 26 (bcells x) (0, 0) _ (by (with_reducible repeat (first | refine blk_drewN ?_ _ | refine blk_drew ?_ | refine blk_alloc ?_ _)); exact BKx.out) Try.underlying26 rfl (seal_size _ LX.out) ?_)
        | ((with_reducible refine gate_dst (N := 82) rfl ?_); (refine gate_guard (by rfl) ?_; dsimp only); refine wpList_load_row rfl 26 (.tmp 17) rfl gz rfl 26 (bcells z) (0, 0) _ (by (with_reducible repeat (first | refine blk_drewN ?_ _ | refine blk_drew ?_ | refine blk_alloc ?_ _)); exact BKz.out) Try.underlying26 rfl (seal_size _ LZ.out) ?_)
        | ((with_reducible refine gate_dst (N := 83) rfl ?_); (refine gate_guard (by rfl) ?_; dsimp only); refine wpList_load_row rfl 26 (.tmp 11) rfl gx rfl 26 (bcells x) (0, 0) _ (by (with_reducible repeat (first | refine blk_drewN ?_ _ | refine blk_drew ?_ | refine blk_alloc ?_ _)); exact BKx.out) Try.underlying26 rfl (seal_size _ LX.out) ?_)
        | ((with_reducible refine gate_dst (N := 90) rfl ?_); (refine gate_guard (by rfl) ?_; dsimp only); refine wpList_load_row rfl 26 (.tmp 17) rfl gz rfl 26 (bcells z) (0, 0) _ (by (with_reducible repeat (first | refine blk_drewN ?_ _ | refine blk_drew ?_ | refine blk_alloc ?_ _)); exact BKz.out) Try.underlying26 rfl (seal_size _ LZ.out) ?_)
        | ((with_reducible refine gate_dst (N := 91) rfl ?_); (refine gate_guard (by rfl) ?_; dsimp only); refine wpList_load_row rfl 26 (.tmp 13) rfl gy rfl 26 (bcells zero64) (0, 0) _ (by (with_reducible repeat (first | refine blk_drewN ?_ _ | refine blk_drew ?_ | refine blk_alloc ?_ _)); exact BKy.out) Try.underlying26 rfl (seal_size _ LY.out) ?_))
        exact ⟨⟨i + 1, hlt, by first | rfl | (rw [Int.natCast_add]; rfl), Aside0.mk (by (with_reducible repeat (first | refine blk_drewN ?_ _ | refine blk_drew ?_ | refine blk_alloc ?_ _)); exact BKx.out), Aside0.mk (by (with_reducible repeat (first | refine blk_drewN ?_ _ | refine blk_drew ?_ | refine blk_alloc ?_ _)); exact BKy.out), Aside0.mk (by (with_reducible repeat (first | refine blk_drewN ?_ _ | refine blk_drew ?_ | refine blk_alloc ?_ _)); exact BKs.out), Aside0.mk (by repeat (first | (with_reducible first | exact HB.out | apply below_alloc | apply pw_below_drewN | apply below_drew1) | exact HB.out))⟩, by show 5 - (i + 1) < 5 - i; omega⟩
    · have hin : i = 5 := by omega
      subst hin
      go_wp2_with (first
        | (go_at_call 12; with_reducible refine (law_lives.calls _).mono ?_; rintro e' w' ⟨rfl, hb⟩; have n0_ := Aside0.mk (below_step (by repeat (first | (with_reducible first | exact HB.out | apply below_alloc | apply pw_below_drewN | apply below_drew1) | exact HB.out)) hb); clear HB; have HB := n0_; clear n0_ hb))
      go_ret
      exact ⟨rfl, by repeat (first | (with_reducible first | exact HB.out | apply below_alloc | apply pw_below_drewN | apply below_drew1) | exact HB.out)⟩
/-- what the law asks -/
def tornAll (k : Nat) (n o : Int) (b b2 : List Int) (p : Int) : Prop := ∃ (x : List Int) (e1 : Int) (y : List Int) (e2 : Int), x.length = 64 ∧ y.length = 64 ∧ seal_Put.f k n b = some (x, e1) ∧ seal_Put.f k o b2 = some (y, e2) ∧
  (e1 ≠ 0 ∨ (e1 = 0 ∧ e2 = 0 ∧ o = n) ∨ (e1 = 0 ∧ e2 = 0 ∧ o ≠ n ∧ ∀ i < 5, tornOk k n o x y (pk p i)) ∨ (e1 = 0 ∧ e2 ≠ 0 ∧ ∀ i < 5, tornOk k n o x zero64 (pk p i)))
theorem sealTorn.calls (k : Nat) (n o : Int) (A : Option Addr) (c : Nat) (b : List Int) (A2 : Option Addr) (c2 : Nat) (b2 : List Int) (p : Int) (w : World) (hb : Kd.C (Kd.int .u8) w A b.length b) (hc : b.length ≤ c) (hb2 : Kd.C (Kd.int .u8) w A2 b2.length b2) (hc2 : b2.length ≤ c2) (h : tornAll k n o b b2 p) :
    Calls Try.prog 6 #[.int .u64 n, .int .u64 o, .slice A b.length c, .slice A2 b2.length c2, .int .i64 p] w fun e' w' => e' = .returned (.bool true) ∧ Below w.heap.size w w' := by
  obtain ⟨x, e1, y, e2, lx, ly, f1, f2, h⟩ := h
  rcases h with h | ⟨h1, h2, h3⟩ | ⟨h1, h2, h3, h4⟩ | ⟨h1, h2, h3⟩
  · exact sealTorn.callsA k n o A c b A2 c2 b2 p x y w hb hc hb2 hc2 e1 e2 lx ly f1 f2 h
  · subst h1; subst h2; exact sealTorn.callsB k n o A c b A2 c2 b2 p x y w hb hc hb2 hc2 lx ly f1 f2 h3
  · subst h1; subst h2; exact sealTorn.callsC k n o A c b A2 c2 b2 p x y w hb hc hb2 hc2 lx ly f1 f2 h3 h4
  · subst h1; exact sealTorn.callsD k n o A c b A2 c2 b2 p x y w hb hc hb2 hc2 e2 lx ly f1 f2 h2 h3
end Go.Proofs.Ythgbipgfplokeaa.GA
