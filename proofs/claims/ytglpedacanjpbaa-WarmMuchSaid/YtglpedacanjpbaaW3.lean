/- The warm pool. No condition. -/
import Derived.Test.YtglpedacanjpbaaW2
import Derived.Laws.CopyOwn
import Derived.ChangeKeysEq
import Derived.Deep.RegionHeld3
import Derived.Deep.MidRow
import Derived.Shelf.Abstract
namespace Go.Proofs.Ytglpedacanjpbaa.GA
open Go.RowKit Go.Shelf Go.Proofs.YtglpedacanjpbaaW.PrintWords Go.Proofs.YtglpedacanjpbaaW.PrintLast Go.Proofs.YtglpedacanjpbaaW.PrintMore
set_option linter.unusedVariables false
set_option linter.unusedSimpArgs false

theorem info42s : (Try.prog.info? 42).map (·.size) = some 12 := by kernel_rfl
theorem enters24 : ∀ args w, (callFunc 24 args).run Try.prog w = .ok (.enter 24 args) w := enters_of Try.func24 (by kernel_rfl) rfl
theorem enters14 : ∀ args w, (callFunc 14 args).run Try.prog w = .ok (.enter 14 args) w := enters_of Try.func14 (by kernel_rfl) rfl
theorem enters19 : ∀ args w, (callFunc 19 args).run Try.prog w = .ok (.enter 19 args) w := enters_of Try.func19 (by kernel_rfl) rfl
theorem enters20 : ∀ args w, (callFunc 20 args).run Try.prog w = .ok (.enter 20 args) w := enters_of Try.func20 (by kernel_rfl) rfl

set_option maxHeartbeats 8000000 in
set_option maxRecDepth 100000 in
theorem first1.calls (gi : Nat) (g : Nat) (caps : Array Value) (p : S42 → Bool) (x : S42) (w : World) (hF : w.heap[gi]? = some (.cells #[.func (.func g) #[] caps] 53 (0, 0))) (eg : ∀ args w, (callFunc g args).run Try.prog w = .ok (.enter g args) w) (hp : Tells g caps p w) :
    Calls Try.prog 24 #[.agg #[.int .u64 x.f0, .int .u64 x.f1, .int .i64 x.f2, .int .i64 x.f3, .bool x.f4, .int .u8 x.f5, .int .u64 x.f6, .bool x.f7, .int .u64 x.f8, .bool x.f9, .bool x.f10, .int .u32 x.f11], .pointer (some ⟨gi, 0, none⟩)] w fun e w' => e = .returned (.bool ((x.f5 == 8) && p x)) ∧ Below w.heap.size w w' := by
  have HB := Aside0.mk (Below.refl w.heap.size w)
  have BKF := Aside0.mk hF
  have HP : Aside0 (Tells g caps p w) := Aside0.mk hp
  clear hF hp
  obtain ⟨b, hb⟩ : ∃ b, (x.f5 == 8) = b := ⟨_, rfl⟩
  rw [hb]
  cases b
  · rw [Bool.false_and]
    go_enter Try.func24, Try.ntmps24
    go_wp2_with (first
      | ((with_reducible refine gate_dst (N := 2) rfl ?_); refine box_event ?hg (N := 2) ?hd (cs := #[.int .u64 x.f0, .int .u64 x.f1, .int .i64 x.f2, .int .i64 x.f3, .bool x.f4, .int .u8 x.f5, .int .u64 x.f6, .bool x.f7, .int .u64 x.f8, .bool x.f9, .bool x.f10, .int .u32 x.f11]) (t := 42) ?hr ?_; (case hd => rfl); (case hg => rfl); (case hr => first | (go_simp; done) | (go_simp; rfl)); intro gI hg w1_I hbox hb; have GGI := Aside0.mk (show w.heap.size ≤ gI from by rw [hg]; exact below_size (by repeat (first | (with_reducible first | exact HB.out | apply below_alloc | apply pw_below_drewN | apply below_drew1) | exact HB.out))); have BKI := Aside0.mk hbox; clear hbox hg; have n0_ := Aside0.mk (below_step (by repeat (first | (with_reducible first | exact HB.out | apply below_alloc | apply pw_below_drewN | apply below_drew1) | exact HB.out)) hb); (first | have n1_ := Aside0.mk (blk_below BKF.out hb) | have n1_ := Aside0.mk (blk_below (blk_drewN BKF.out _) hb) | have n1_ := Aside0.mk (blk_below (blk_drew BKF.out) hb) | have n1_ := Aside0.mk (blk_below (blk_alloc BKF.out _) hb) | have n1_ := Aside0.mk (blk_below (by first | exact BKF.out | ((with_reducible repeat (first | refine blk_drewN ?_ _ | refine blk_drew ?_ | refine blk_alloc ?_ _)); exact BKF.out)) hb)); clear HB BKF; have HB := n0_; have BKF := n1_; clear n0_ n1_ hb; have gI5 : w1_I.cell? ⟨gI, 5, none⟩ = some (.int .u8 x.f5) := (blk_cell BKI.out 5).trans rfl; have c0 : w1_I.cell? ⟨gi, 0, none⟩ = some (.func (.func g) #[] caps) := (blk_cell BKF.out 0).trans rfl))
    go_ret
    exact ⟨rfl, by repeat (first | (with_reducible first | exact HB.out | apply below_alloc | apply pw_below_drewN | apply below_drew1) | exact HB.out)⟩
  · rw [Bool.true_and]
    go_enter Try.func24, Try.ntmps24
    go_wp2_with (first
      | ((with_reducible refine gate_dst (N := 2) rfl ?_); refine box_event ?hg (N := 2) ?hd (cs := #[.int .u64 x.f0, .int .u64 x.f1, .int .i64 x.f2, .int .i64 x.f3, .bool x.f4, .int .u8 x.f5, .int .u64 x.f6, .bool x.f7, .int .u64 x.f8, .bool x.f9, .bool x.f10, .int .u32 x.f11]) (t := 42) ?hr ?_; (case hd => rfl); (case hg => rfl); (case hr => first | (go_simp; done) | (go_simp; rfl)); intro gI hg w1_I hbox hb; have GGI := Aside0.mk (show w.heap.size ≤ gI from by rw [hg]; exact below_size (by repeat (first | (with_reducible first | exact HB.out | apply below_alloc | apply pw_below_drewN | apply below_drew1) | exact HB.out))); have BKI := Aside0.mk hbox; clear hbox hg; have n0_ := Aside0.mk (below_step (by repeat (first | (with_reducible first | exact HB.out | apply below_alloc | apply pw_below_drewN | apply below_drew1) | exact HB.out)) hb); (first | have n1_ := Aside0.mk (blk_below BKF.out hb) | have n1_ := Aside0.mk (blk_below (blk_drewN BKF.out _) hb) | have n1_ := Aside0.mk (blk_below (blk_drew BKF.out) hb) | have n1_ := Aside0.mk (blk_below (blk_alloc BKF.out _) hb) | have n1_ := Aside0.mk (blk_below (by first | exact BKF.out | ((with_reducible repeat (first | refine blk_drewN ?_ _ | refine blk_drew ?_ | refine blk_alloc ?_ _)); exact BKF.out)) hb)); clear HB BKF; have HB := n0_; have BKF := n1_; clear n0_ n1_ hb; have gI5 : w1_I.cell? ⟨gI, 5, none⟩ = some (.int .u8 x.f5) := (blk_cell BKI.out 5).trans rfl; have c0 : w1_I.cell? ⟨gi, 0, none⟩ = some (.func (.func g) #[] caps) := (blk_cell BKF.out 0).trans rfl)
      | ((with_reducible refine gate_dst (N := 9) rfl ?_); (refine gate_guard (by rfl) ?_; dsimp only); refine wpList_load_row rfl 42 (.tmp 2) rfl gI rfl 42 #[.int .u64 x.f0, .int .u64 x.f1, .int .i64 x.f2, .int .i64 x.f3, .bool x.f4, .int .u8 x.f5, .int .u64 x.f6, .bool x.f7, .int .u64 x.f8, .bool x.f9, .bool x.f10, .int .u32 x.f11] (0, 0) _ (by first | exact BKI.out | ((with_reducible repeat (first | refine blk_drewN ?_ _ | refine blk_drew ?_ | refine blk_alloc ?_ _)); exact BKI.out)) Try.underlying42 rfl info42s ?_)
      | (go_at_fn g; with_reducible refine (HP.out.at _ _ (by repeat (first | (with_reducible first | exact HB.out | apply below_alloc | apply pw_below_drewN | apply below_drew1) | exact HB.out))).mono ?_; rintro e w' ⟨rfl, hb⟩; have n0_ := Aside0.mk (below_step (by repeat (first | (with_reducible first | exact HB.out | apply below_alloc | apply pw_below_drewN | apply below_drew1) | exact HB.out)) hb); clear HB; have HB := n0_; clear n0_ hb))
    go_ret
    exact ⟨rfl, by repeat (first | (with_reducible first | exact HB.out | apply below_alloc | apply pw_below_drewN | apply below_drew1) | exact HB.out)⟩
theorem first1.tells (gi : Nat) (g : Nat) (caps : Array Value) (p : S42 → Bool) (w : World) (hF : w.heap[gi]? = some (.cells #[.func (.func g) #[] caps] 53 (0, 0))) (eg : ∀ args w, (callFunc g args).run Try.prog w = .ok (.enter g args) w) (hp : Tells g caps p w) : Tells 24 #[.pointer (some ⟨gi, 0, none⟩)] (fun x => (x.f5 == 8) && p x) w :=
  fun W x hW => first1.calls gi g caps p x W (blk_below hF hW) eg (hp.below hW)

set_option maxHeartbeats 8000000 in
set_option maxRecDepth 100000 in
theorem Draw1.calls (S : Array Value) (ver wm : Int) (on st : Bool) (Ai : Option Addr) (ci : Nat) (li : List S42) (Ao : Option Addr) (co : Nat) (lo : List S69) (hS : ST S ver wm on st Ai ci li Ao co lo) (gs gt : Nat) (spot : Bool) (x : S42) (w : World) (hs : w.heap[gs]? = some (.cells S 36 (0, 0))) (ht : w.heap[gt]? = some (.cells #[.bool spot] 4 (0, 0))) :
    Calls Try.prog 14 #[.agg #[.int .u64 x.f0, .int .u64 x.f1, .int .i64 x.f2, .int .i64 x.f3, .bool x.f4, .int .u8 x.f5, .int .u64 x.f6, .bool x.f7, .int .u64 x.f8, .bool x.f9, .bool x.f10, .int .u32 x.f11], .pointer (some ⟨gt, 0, none⟩), .pointer (some ⟨gs, 0, none⟩)] w fun e w' => e = .returned (.bool ((x.f4 == spot) && (!x.f7 && !((on && !st) && !(x.f11 == ver))))) ∧ Below w.heap.size w w' := by
  have HS := Aside0.mk hS
  clear hS
  have HB := Aside0.mk (Below.refl w.heap.size w)
  have BKS := Aside0.mk hs
  have BKT := Aside0.mk ht
  clear hs ht
  obtain ⟨b, hb⟩ : ∃ b, (x.f4 == spot) = b := ⟨_, rfl⟩
  rw [hb]
  cases b
  · rw [Bool.false_and]
    go_enter Try.func14, Try.ntmps14
    go_wp2_with (first
      | ((with_reducible refine gate_dst (N := 3) rfl ?_); refine box_event ?hg (N := 3) ?hd (cs := #[.int .u64 x.f0, .int .u64 x.f1, .int .i64 x.f2, .int .i64 x.f3, .bool x.f4, .int .u8 x.f5, .int .u64 x.f6, .bool x.f7, .int .u64 x.f8, .bool x.f9, .bool x.f10, .int .u32 x.f11]) (t := 42) ?hr ?_; (case hd => rfl); (case hg => rfl); (case hr => first | (go_simp; done) | (go_simp; rfl)); intro gI hg w1_I hbox hb; have GGI := Aside0.mk (show w.heap.size ≤ gI from by rw [hg]; exact below_size (by repeat (first | (with_reducible first | exact HB.out | apply below_alloc | apply pw_below_drewN | apply below_drew1) | exact HB.out))); have BKI := Aside0.mk hbox; clear hbox hg; have n0_ := Aside0.mk (below_step (by repeat (first | (with_reducible first | exact HB.out | apply below_alloc | apply pw_below_drewN | apply below_drew1) | exact HB.out)) hb); (first | have n1_ := Aside0.mk (blk_below BKS.out hb) | have n1_ := Aside0.mk (blk_below (blk_drewN BKS.out _) hb) | have n1_ := Aside0.mk (blk_below (blk_drew BKS.out) hb) | have n1_ := Aside0.mk (blk_below (blk_alloc BKS.out _) hb) | have n1_ := Aside0.mk (blk_below (by first | exact BKS.out | ((with_reducible repeat (first | refine blk_drewN ?_ _ | refine blk_drew ?_ | refine blk_alloc ?_ _)); exact BKS.out)) hb)); (first | have n2_ := Aside0.mk (blk_below BKT.out hb) | have n2_ := Aside0.mk (blk_below (blk_drewN BKT.out _) hb) | have n2_ := Aside0.mk (blk_below (blk_drew BKT.out) hb) | have n2_ := Aside0.mk (blk_below (blk_alloc BKT.out _) hb) | have n2_ := Aside0.mk (blk_below (by first | exact BKT.out | ((with_reducible repeat (first | refine blk_drewN ?_ _ | refine blk_drew ?_ | refine blk_alloc ?_ _)); exact BKT.out)) hb)); clear HB BKS BKT; have HB := n0_; have BKS := n1_; have BKT := n2_; clear n0_ n1_ n2_ hb; have gI4 : w1_I.cell? ⟨gI, 4, none⟩ = some (.bool x.f4) := (blk_cell BKI.out 4).trans rfl; have gI7 : w1_I.cell? ⟨gI, 7, none⟩ = some (.bool x.f7) := (blk_cell BKI.out 7).trans rfl; have c1 : w1_I.cell? ⟨gt, 0, none⟩ = some (.bool spot) := (blk_cell BKT.out 0).trans rfl))
    go_ret
    exact ⟨rfl, by repeat (first | (with_reducible first | exact HB.out | apply below_alloc | apply pw_below_drewN | apply below_drew1) | exact HB.out)⟩
  · rw [Bool.true_and]
    obtain ⟨c, hc⟩ : ∃ c, x.f7 = c := ⟨_, rfl⟩
    have H7 := Aside0.mk hc
    clear hc
    cases c
    · go_enter Try.func14, Try.ntmps14
      go_wp2_with (first
        | ((with_reducible refine gate_dst (N := 3) rfl ?_); refine box_event ?hg (N := 3) ?hd (cs := #[.int .u64 x.f0, .int .u64 x.f1, .int .i64 x.f2, .int .i64 x.f3, .bool x.f4, .int .u8 x.f5, .int .u64 x.f6, .bool x.f7, .int .u64 x.f8, .bool x.f9, .bool x.f10, .int .u32 x.f11]) (t := 42) ?hr ?_; (case hd => rfl); (case hg => rfl); (case hr => first | (go_simp; done) | (go_simp; rfl)); intro gI hg w1_I hbox hb; have GGI := Aside0.mk (show w.heap.size ≤ gI from by rw [hg]; exact below_size (by repeat (first | (with_reducible first | exact HB.out | apply below_alloc | apply pw_below_drewN | apply below_drew1) | exact HB.out))); have BKI := Aside0.mk hbox; clear hbox hg; have n0_ := Aside0.mk (below_step (by repeat (first | (with_reducible first | exact HB.out | apply below_alloc | apply pw_below_drewN | apply below_drew1) | exact HB.out)) hb); (first | have n1_ := Aside0.mk (blk_below BKS.out hb) | have n1_ := Aside0.mk (blk_below (blk_drewN BKS.out _) hb) | have n1_ := Aside0.mk (blk_below (blk_drew BKS.out) hb) | have n1_ := Aside0.mk (blk_below (blk_alloc BKS.out _) hb) | have n1_ := Aside0.mk (blk_below (by first | exact BKS.out | ((with_reducible repeat (first | refine blk_drewN ?_ _ | refine blk_drew ?_ | refine blk_alloc ?_ _)); exact BKS.out)) hb)); (first | have n2_ := Aside0.mk (blk_below BKT.out hb) | have n2_ := Aside0.mk (blk_below (blk_drewN BKT.out _) hb) | have n2_ := Aside0.mk (blk_below (blk_drew BKT.out) hb) | have n2_ := Aside0.mk (blk_below (blk_alloc BKT.out _) hb) | have n2_ := Aside0.mk (blk_below (by first | exact BKT.out | ((with_reducible repeat (first | refine blk_drewN ?_ _ | refine blk_drew ?_ | refine blk_alloc ?_ _)); exact BKT.out)) hb)); clear HB BKS BKT; have HB := n0_; have BKS := n1_; have BKT := n2_; clear n0_ n1_ n2_ hb; have gI4 : w1_I.cell? ⟨gI, 4, none⟩ = some (.bool x.f4) := (blk_cell BKI.out 4).trans rfl; have c1 : w1_I.cell? ⟨gt, 0, none⟩ = some (.bool spot) := (blk_cell BKT.out 0).trans rfl; have c7 : w1_I.cell? ⟨gI, 7, none⟩ = some (.bool false) := (blk_cell BKI.out 7).trans (congrArg (fun b => some (Value.bool b)) H7.out))
        | ((with_reducible refine gate_dst (N := 15) rfl ?_); (refine gate_guard (by rfl) ?_; dsimp only); refine wpList_load_row rfl 36 (.tmp 2) rfl gs rfl 36 S (0, 0) _ (by first | exact BKS.out | ((with_reducible repeat (first | refine blk_drewN ?_ _ | refine blk_drew ?_ | refine blk_alloc ?_ _)); exact BKS.out)) Try.underlying36 rfl HS.out.info ?_)
        | ((with_reducible refine gate_dst (N := 16) rfl ?_); (refine gate_guard (by rfl) ?_; dsimp only); refine wpList_load_row rfl 42 (.tmp 3) rfl gI rfl 42 #[.int .u64 x.f0, .int .u64 x.f1, .int .i64 x.f2, .int .i64 x.f3, .bool x.f4, .int .u8 x.f5, .int .u64 x.f6, .bool x.f7, .int .u64 x.f8, .bool x.f9, .bool x.f10, .int .u32 x.f11] (0, 0) _ (by first | exact BKI.out | ((with_reducible repeat (first | refine blk_drewN ?_ _ | refine blk_drew ?_ | refine blk_alloc ?_ _)); exact BKI.out)) Try.underlying42 rfl info42s ?_)
        | (go_at_call 15; with_reducible refine (Old.calls S ver wm on st Ai ci li Ao co lo HS.out x _).mono ?_; rintro e w' ⟨rfl, hb⟩; have n0_ := Aside0.mk (below_step (by repeat (first | (with_reducible first | exact HB.out | apply below_alloc | apply pw_below_drewN | apply below_drew1) | exact HB.out)) hb); clear HB; have HB := n0_; clear n0_ hb))
      go_ret
      exact ⟨by rw [H7.out]; show Ending.returned (Value.bool (!on || st || x.f11 == ver)) = _; simp, by repeat (first | (with_reducible first | exact HB.out | apply below_alloc | apply pw_below_drewN | apply below_drew1) | exact HB.out)⟩
    · go_enter Try.func14, Try.ntmps14
      go_wp2_with (first
        | ((with_reducible refine gate_dst (N := 3) rfl ?_); refine box_event ?hg (N := 3) ?hd (cs := #[.int .u64 x.f0, .int .u64 x.f1, .int .i64 x.f2, .int .i64 x.f3, .bool x.f4, .int .u8 x.f5, .int .u64 x.f6, .bool x.f7, .int .u64 x.f8, .bool x.f9, .bool x.f10, .int .u32 x.f11]) (t := 42) ?hr ?_; (case hd => rfl); (case hg => rfl); (case hr => first | (go_simp; done) | (go_simp; rfl)); intro gI hg w1_I hbox hb; have GGI := Aside0.mk (show w.heap.size ≤ gI from by rw [hg]; exact below_size (by repeat (first | (with_reducible first | exact HB.out | apply below_alloc | apply pw_below_drewN | apply below_drew1) | exact HB.out))); have BKI := Aside0.mk hbox; clear hbox hg; have n0_ := Aside0.mk (below_step (by repeat (first | (with_reducible first | exact HB.out | apply below_alloc | apply pw_below_drewN | apply below_drew1) | exact HB.out)) hb); (first | have n1_ := Aside0.mk (blk_below BKS.out hb) | have n1_ := Aside0.mk (blk_below (blk_drewN BKS.out _) hb) | have n1_ := Aside0.mk (blk_below (blk_drew BKS.out) hb) | have n1_ := Aside0.mk (blk_below (blk_alloc BKS.out _) hb) | have n1_ := Aside0.mk (blk_below (by first | exact BKS.out | ((with_reducible repeat (first | refine blk_drewN ?_ _ | refine blk_drew ?_ | refine blk_alloc ?_ _)); exact BKS.out)) hb)); (first | have n2_ := Aside0.mk (blk_below BKT.out hb) | have n2_ := Aside0.mk (blk_below (blk_drewN BKT.out _) hb) | have n2_ := Aside0.mk (blk_below (blk_drew BKT.out) hb) | have n2_ := Aside0.mk (blk_below (blk_alloc BKT.out _) hb) | have n2_ := Aside0.mk (blk_below (by first | exact BKT.out | ((with_reducible repeat (first | refine blk_drewN ?_ _ | refine blk_drew ?_ | refine blk_alloc ?_ _)); exact BKT.out)) hb)); clear HB BKS BKT; have HB := n0_; have BKS := n1_; have BKT := n2_; clear n0_ n1_ n2_ hb; have gI4 : w1_I.cell? ⟨gI, 4, none⟩ = some (.bool x.f4) := (blk_cell BKI.out 4).trans rfl; have c1 : w1_I.cell? ⟨gt, 0, none⟩ = some (.bool spot) := (blk_cell BKT.out 0).trans rfl; have c7 : w1_I.cell? ⟨gI, 7, none⟩ = some (.bool true) := (blk_cell BKI.out 7).trans (congrArg (fun b => some (Value.bool b)) H7.out)))
      go_ret
      exact ⟨by rw [H7.out]; rfl, by repeat (first | (with_reducible first | exact HB.out | apply below_alloc | apply pw_below_drewN | apply below_drew1) | exact HB.out)⟩

set_option maxHeartbeats 8000000 in
set_option maxRecDepth 100000 in
theorem Much1.calls (S : Array Value) (ver wm : Int) (on st : Bool) (Ai : Option Addr) (ci : Nat) (li : List S42) (Ao : Option Addr) (co : Nat) (lo : List S69) (hS : ST S ver wm on st Ai ci li Ao co lo) (gs : Nat) (x : S42) (w : World) (hs : w.heap[gs]? = some (.cells S 36 (0, 0))) :
    Calls Try.prog 19 #[.agg #[.int .u64 x.f0, .int .u64 x.f1, .int .i64 x.f2, .int .i64 x.f3, .bool x.f4, .int .u8 x.f5, .int .u64 x.f6, .bool x.f7, .int .u64 x.f8, .bool x.f9, .bool x.f10, .int .u32 x.f11], .pointer (some ⟨gs, 0, none⟩)] w fun e w' => e = .returned (.bool ((on && !st) && !(x.f11 == ver))) ∧ Below w.heap.size w w' := by
  have HS := Aside0.mk hS
  clear hS
  have HB := Aside0.mk (Below.refl w.heap.size w)
  have BKS := Aside0.mk hs
  clear hs
  go_enter Try.func19, Try.ntmps19
  go_wp2_with (first
    | ((with_reducible refine gate_dst (N := 2) rfl ?_); refine box_event ?hg (N := 2) ?hd (cs := #[.int .u64 x.f0, .int .u64 x.f1, .int .i64 x.f2, .int .i64 x.f3, .bool x.f4, .int .u8 x.f5, .int .u64 x.f6, .bool x.f7, .int .u64 x.f8, .bool x.f9, .bool x.f10, .int .u32 x.f11]) (t := 42) ?hr ?_; (case hd => rfl); (case hg => rfl); (case hr => first | (go_simp; done) | (go_simp; rfl)); intro gI hg w1_I hbox hb; have GGI := Aside0.mk (show w.heap.size ≤ gI from by rw [hg]; exact below_size (by repeat (first | (with_reducible first | exact HB.out | apply below_alloc | apply pw_below_drewN | apply below_drew1) | exact HB.out))); have BKI := Aside0.mk hbox; clear hbox hg; have n0_ := Aside0.mk (below_step (by repeat (first | (with_reducible first | exact HB.out | apply below_alloc | apply pw_below_drewN | apply below_drew1) | exact HB.out)) hb); (first | have n1_ := Aside0.mk (blk_below BKS.out hb) | have n1_ := Aside0.mk (blk_below (blk_drewN BKS.out _) hb) | have n1_ := Aside0.mk (blk_below (blk_drew BKS.out) hb) | have n1_ := Aside0.mk (blk_below (blk_alloc BKS.out _) hb) | have n1_ := Aside0.mk (blk_below (by first | exact BKS.out | ((with_reducible repeat (first | refine blk_drewN ?_ _ | refine blk_drew ?_ | refine blk_alloc ?_ _)); exact BKS.out)) hb)); clear HB BKS; have HB := n0_; have BKS := n1_; clear n0_ n1_ hb)
    | ((with_reducible refine gate_dst (N := 4) rfl ?_); refine wpList_load_row rfl 36 (.tmp 1) rfl gs rfl 36 S (0, 0) _ (by first | exact BKS.out | ((with_reducible repeat (first | refine blk_drewN ?_ _ | refine blk_drew ?_ | refine blk_alloc ?_ _)); exact BKS.out)) Try.underlying36 rfl HS.out.info ?_)
    | ((with_reducible refine gate_dst (N := 5) rfl ?_); refine wpList_load_row rfl 42 (.tmp 2) rfl gI rfl 42 #[.int .u64 x.f0, .int .u64 x.f1, .int .i64 x.f2, .int .i64 x.f3, .bool x.f4, .int .u8 x.f5, .int .u64 x.f6, .bool x.f7, .int .u64 x.f8, .bool x.f9, .bool x.f10, .int .u32 x.f11] (0, 0) _ (by first | exact BKI.out | ((with_reducible repeat (first | refine blk_drewN ?_ _ | refine blk_drew ?_ | refine blk_alloc ?_ _)); exact BKI.out)) Try.underlying42 rfl info42s ?_)
    | (go_at_call 15; with_reducible refine (Old.calls S ver wm on st Ai ci li Ao co lo HS.out x _).mono ?_; rintro e w' ⟨rfl, hb⟩; have n0_ := Aside0.mk (below_step (by repeat (first | (with_reducible first | exact HB.out | apply below_alloc | apply pw_below_drewN | apply below_drew1) | exact HB.out)) hb); clear HB; have HB := n0_; clear n0_ hb))
  go_ret
  exact ⟨rfl, by repeat (first | (with_reducible first | exact HB.out | apply below_alloc | apply pw_below_drewN | apply below_drew1) | exact HB.out)⟩

theorem Draw1.tells (S : Array Value) (ver wm : Int) (on st : Bool) (Ai : Option Addr) (ci : Nat) (li : List S42) (Ao : Option Addr) (co : Nat) (lo : List S69) (hS : ST S ver wm on st Ai ci li Ao co lo) (gs gt : Nat) (spot : Bool) (w : World) (hs : w.heap[gs]? = some (.cells S 36 (0, 0))) (ht : w.heap[gt]? = some (.cells #[.bool spot] 4 (0, 0))) : Tells 14 #[.pointer (some ⟨gt, 0, none⟩), .pointer (some ⟨gs, 0, none⟩)] (fun x => (x.f4 == spot) && (!x.f7 && !((on && !st) && !(x.f11 == ver)))) w :=
  fun W x hW => Draw1.calls S ver wm on st Ai ci li Ao co lo hS gs gt spot x W (blk_below hs hW) (blk_below ht hW)
theorem Much1.tells (S : Array Value) (ver wm : Int) (on st : Bool) (Ai : Option Addr) (ci : Nat) (li : List S42) (Ao : Option Addr) (co : Nat) (lo : List S69) (hS : ST S ver wm on st Ai ci li Ao co lo) (gs : Nat) (w : World) (hs : w.heap[gs]? = some (.cells S 36 (0, 0))) : Tells 19 #[.pointer (some ⟨gs, 0, none⟩)] (fun x => ((on && !st) && !(x.f11 == ver))) w :=
  fun W x hW => Much1.calls S ver wm on st Ai ci li Ao co lo hS gs x W (blk_below hs hW)

end Go.Proofs.Ytglpedacanjpbaa.GA
