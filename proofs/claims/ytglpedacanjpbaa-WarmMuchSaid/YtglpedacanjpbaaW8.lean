/- The weight of the warm ones. No condition. -/
import Derived.Test.YtglpedacanjpbaaW7
import Derived.Test.YtglpedacanjpbaaW4
import Derived.Laws.CopyOwn
import Derived.ChangeKeysEq
import Derived.Deep.RegionHeld3
import Derived.Deep.MidRow
import Derived.Shelf.Abstract
namespace Go.Proofs.Ytglpedacanjpbaa.GA
open Go.RowKit Go.Shelf Go.Proofs.YtglpedacanjpbaaW.PrintWords Go.Proofs.YtglpedacanjpbaaW.PrintLast Go.Proofs.YtglpedacanjpbaaW.PrintMore
set_option linter.unusedVariables false
set_option linter.unusedSimpArgs false

/-- the weight of the warm ones -/
def wt (ver : Int) (on st : Bool) (li : List S42) (lo : List S69) : Int := (sumOf li lo (if (on && !st) = true then ver else 0)).a4
theorem field59 (s : Sum) (W : World) : (Instr.field 59 (Value.agg (sumc s)) 4).run Try.prog W = .ok (.int .i64 s.a4) W := by kernel_rfl
theorem row36_run {o : Oper} {a : Act} (x : Operand) (g : Nat) (cs : Array Value) (ho : o.op = .load 36 x) (hx : a.eval x = .pointer (some ⟨g, 0, none⟩)) (w : World) (hg : w.heap[g]? = some (.cells cs 36 (0, 0))) (hi : (Try.prog.info? 36).map (·.size) = some cs.size) :
    (execOp a.eval o).run Try.prog w = .ok (.value (.agg cs)) w := by
  unfold execOp
  simp only [ho, hx, Instr.loadAt, Instr.sureAddr, Sem.run_bind, Sem.run_pure, Result.andThen_ok, run_loadVar_row w g 36 36 cs (0, 0) _ hg Try.underlying36 rfl hi]
theorem row42_run {o : Oper} {a : Act} (x : Operand) (g : Nat) (cs : Array Value) (ho : o.op = .load 42 x) (hx : a.eval x = .pointer (some ⟨g, 0, none⟩)) (w : World) (hg : w.heap[g]? = some (.cells cs 42 (0, 0))) (hi : (Try.prog.info? 42).map (·.size) = some cs.size) :
    (execOp a.eval o).run Try.prog w = .ok (.value (.agg cs)) w := by
  unfold execOp
  simp only [ho, hx, Instr.loadAt, Instr.sureAddr, Sem.run_bind, Sem.run_pure, Result.andThen_ok, run_loadVar_row w g 42 42 cs (0, 0) _ hg Try.underlying42 rfl hi]

set_option maxHeartbeats 8000000 in
set_option maxRecDepth 100000 in
theorem weight.calls (S : Array Value) (ver wm : Int) (on st : Bool) (Ai : Option Addr) (ci : Nat) (li : List S42) (Ao : Option Addr) (co : Nat) (lo : List S69) (hS : ST S ver wm on st Ai ci li Ao co lo) (w : World) (hl : Kd.C k42 w Ai li.length li) (hc : li.length ≤ ci) (hlo : Kd.C k69 w Ao lo.length lo) (hmo : lo.length ≤ 4096) (hmy : mayL li = true) : Calls Try.prog 21 #[.agg S] w fun e w' => e = .returned (.int .i64 (wt ver on st li lo)) ∧ Below w.heap.size w w' := by
  have HS := Aside0.mk hS
  clear hS
  have HB := Aside0.mk (Below.refl w.heap.size w)
  have HL := Aside0.mk hl
  have HC := Aside0.mk hc
  have HO := Aside0.mk hlo
  have HMO := Aside0.mk hmo
  clear hl hlo hmo
  have HMY := Aside0.mk hmy
  clear hmy
  unfold wt
  obtain ⟨go, hgo⟩ : ∃ go, (on && !st) = go := ⟨_, rfl⟩
  have HG := Aside0.mk hgo
  rw [hgo]
  clear hgo
  cases go
  · rw [if_neg (by decide)]
    go_enter Try.func21, Try.ntmps21
    go_wp2_with (first
      | ((with_reducible refine gate_dst (N := 1) rfl ?_); refine box_event ?hg (N := 1) ?hd (cs := S) (t := 36) ?hr ?_; (case hd => rfl); (case hg => rfl); (case hr => first | (go_simp; done) | (go_simp; rfl)); intro gS hg w1_S hbox hb; have GGS := Aside0.mk (show w.heap.size ≤ gS from by rw [hg]; exact below_size (by repeat (first | (with_reducible first | exact HB.out | apply below_alloc | apply pw_below_drewN | apply below_drew1) | exact HB.out))); have BKS := Aside0.mk hbox; clear hbox hg; have n0_ := Aside0.mk (below_step (by repeat (first | (with_reducible first | exact HB.out | apply below_alloc | apply pw_below_drewN | apply below_drew1) | exact HB.out)) hb); clear HB; have HB := n0_; clear n0_ hb; have s40 := (blk_cell BKS.out 40).trans HS.out.ver; have s46 := (blk_cell BKS.out 46).trans HS.out.ins; have s47 := (blk_cell BKS.out 47).trans HS.out.ops)
      | ((with_reducible refine gate_dst (N := 4) rfl ?_); refine wpList_load_row rfl 36 (.tmp 1) rfl gS rfl 36 S (0, 0) _ (by first | exact BKS.out | ((with_reducible repeat (first | refine blk_drewN ?_ _ | refine blk_drew ?_ | refine blk_alloc ?_ _)); exact BKS.out)) Try.underlying36 rfl HS.out.info ?_)
      | (go_at_call 25; with_reducible refine (Goes.calls S ver wm on st Ai ci li Ao co lo HS.out _).mono ?_; rw [HG.out]; rintro e w' ⟨rfl, hb⟩; have n0_ := Aside0.mk (below_step (by repeat (first | (with_reducible first | exact HB.out | apply below_alloc | apply pw_below_drewN | apply below_drew1) | exact HB.out)) hb); (first | have n1_ := Aside0.mk (blk_below BKS.out hb) | have n1_ := Aside0.mk (blk_below (blk_drewN BKS.out _) hb) | have n1_ := Aside0.mk (blk_below (blk_drew BKS.out) hb) | have n1_ := Aside0.mk (blk_below (blk_alloc BKS.out _) hb) | have n1_ := Aside0.mk (blk_below (by first | exact BKS.out | ((with_reducible repeat (first | refine blk_drewN ?_ _ | refine blk_drew ?_ | refine blk_alloc ?_ _)); exact BKS.out)) hb)); clear HB BKS; have HB := n0_; have BKS := n1_; clear n0_ n1_ hb; have s40 := (blk_cell BKS.out 40).trans HS.out.ver; have s46 := (blk_cell BKS.out 46).trans HS.out.ins; have s47 := (blk_cell BKS.out 47).trans HS.out.ops)
      | (go_at_call 27; with_reducible refine (Of.calls Ai ci li Ao co lo 0 _ (Kd.C_below HL.out (by repeat (first | (with_reducible first | exact HB.out | apply below_alloc | apply pw_below_drewN | apply below_drew1) | exact HB.out))) HC.out (Kd.C_below HO.out (by repeat (first | (with_reducible first | exact HB.out | apply below_alloc | apply pw_below_drewN | apply below_drew1) | exact HB.out))) HMO.out HMY.out).mono ?_; rintro e w' ⟨rfl, hb⟩; have n0_ := Aside0.mk (below_step (by repeat (first | (with_reducible first | exact HB.out | apply below_alloc | apply pw_below_drewN | apply below_drew1) | exact HB.out)) hb); clear HB; have HB := n0_; clear n0_ hb; have sg := field59 (sumOf li lo 0)))
    go_ret
    exact ⟨rfl, by repeat (first | (with_reducible first | exact HB.out | apply below_alloc | apply pw_below_drewN | apply below_drew1) | exact HB.out)⟩
  · rw [if_pos rfl]
    go_enter Try.func21, Try.ntmps21
    go_wp2_with (first
      | ((with_reducible refine gate_dst (N := 1) rfl ?_); refine box_event ?hg (N := 1) ?hd (cs := S) (t := 36) ?hr ?_; (case hd => rfl); (case hg => rfl); (case hr => first | (go_simp; done) | (go_simp; rfl)); intro gS hg w1_S hbox hb; have GGS := Aside0.mk (show w.heap.size ≤ gS from by rw [hg]; exact below_size (by repeat (first | (with_reducible first | exact HB.out | apply below_alloc | apply pw_below_drewN | apply below_drew1) | exact HB.out))); have BKS := Aside0.mk hbox; clear hbox hg; have n0_ := Aside0.mk (below_step (by repeat (first | (with_reducible first | exact HB.out | apply below_alloc | apply pw_below_drewN | apply below_drew1) | exact HB.out)) hb); clear HB; have HB := n0_; clear n0_ hb; have s40 := (blk_cell BKS.out 40).trans HS.out.ver; have s46 := (blk_cell BKS.out 46).trans HS.out.ins; have s47 := (blk_cell BKS.out 47).trans HS.out.ops)
      | ((with_reducible refine gate_dst (N := 4) rfl ?_); refine wpList_load_row rfl 36 (.tmp 1) rfl gS rfl 36 S (0, 0) _ (by first | exact BKS.out | ((with_reducible repeat (first | refine blk_drewN ?_ _ | refine blk_drew ?_ | refine blk_alloc ?_ _)); exact BKS.out)) Try.underlying36 rfl HS.out.info ?_)
      | (go_at_call 25; with_reducible refine (Goes.calls S ver wm on st Ai ci li Ao co lo HS.out _).mono ?_; rw [HG.out]; rintro e w' ⟨rfl, hb⟩; have n0_ := Aside0.mk (below_step (by repeat (first | (with_reducible first | exact HB.out | apply below_alloc | apply pw_below_drewN | apply below_drew1) | exact HB.out)) hb); (first | have n1_ := Aside0.mk (blk_below BKS.out hb) | have n1_ := Aside0.mk (blk_below (blk_drewN BKS.out _) hb) | have n1_ := Aside0.mk (blk_below (blk_drew BKS.out) hb) | have n1_ := Aside0.mk (blk_below (blk_alloc BKS.out _) hb) | have n1_ := Aside0.mk (blk_below (by first | exact BKS.out | ((with_reducible repeat (first | refine blk_drewN ?_ _ | refine blk_drew ?_ | refine blk_alloc ?_ _)); exact BKS.out)) hb)); clear HB BKS; have HB := n0_; have BKS := n1_; clear n0_ n1_ hb; have s40 := (blk_cell BKS.out 40).trans HS.out.ver; have s46 := (blk_cell BKS.out 46).trans HS.out.ins; have s47 := (blk_cell BKS.out 47).trans HS.out.ops)
      | (go_at_call 27; with_reducible refine (Of.calls Ai ci li Ao co lo ver _ (Kd.C_below HL.out (by repeat (first | (with_reducible first | exact HB.out | apply below_alloc | apply pw_below_drewN | apply below_drew1) | exact HB.out))) HC.out (Kd.C_below HO.out (by repeat (first | (with_reducible first | exact HB.out | apply below_alloc | apply pw_below_drewN | apply below_drew1) | exact HB.out))) HMO.out HMY.out).mono ?_; rintro e w' ⟨rfl, hb⟩; have n0_ := Aside0.mk (below_step (by repeat (first | (with_reducible first | exact HB.out | apply below_alloc | apply pw_below_drewN | apply below_drew1) | exact HB.out)) hb); clear HB; have HB := n0_; clear n0_ hb; have sg := field59 (sumOf li lo ver)))
    go_ret
    exact ⟨rfl, by repeat (first | (with_reducible first | exact HB.out | apply below_alloc | apply pw_below_drewN | apply below_drew1) | exact HB.out)⟩

end Go.Proofs.Ytglpedacanjpbaa.GA
