/- What is drawn, and what is too much. No condition. -/
import Derived.Test.YtglpedacanjpbaaW9
import Derived.Laws.CopyOwn
import Derived.ChangeKeysEq
import Derived.Deep.RegionHeld3
import Derived.Deep.MidRow
import Derived.Shelf.Abstract
namespace Go.Proofs.Ytglpedacanjpbaa.GA
open Go.RowKit Go.Shelf Go.Proofs.YtglpedacanjpbaaW.PrintWords Go.Proofs.YtglpedacanjpbaaW.PrintLast Go.Proofs.YtglpedacanjpbaaW.PrintMore
set_option linter.unusedVariables false
set_option linter.unusedSimpArgs false


theorem firstR_none {ver wm : Int} {li : List S42} {p : S42 → Bool} (h : smay ver wm li = false) : firstR ver wm li p = (0, false) := by
  unfold firstR
  rw [h]
  rfl
/-- old; to be drawn; too much -/
def pOld (ver : Int) (on st : Bool) (x : S42) : Bool := ((on && !st) && !(x.f11 == ver))
def pDraw (ver : Int) (on st spot : Bool) (x : S42) : Bool := (x.f4 == spot) && (!x.f7 && !((on && !st) && !(x.f11 == ver)))
def pMuch (ver wm : Int) (on st : Bool) (li : List S42) (lo : List S69) (x : S42) : Bool := decide (wm ≤ wrap64 (wt ver on st li lo - x.f3))
/-- what is drawn -/
def drawR (ver wm : Int) (on st : Bool) (li : List S42) (spot : Bool) : Int × Bool := firstR ver wm li (pDraw ver on st spot)
/-- what is too much -/
def muchR (ver wm : Int) (on st : Bool) (li : List S42) (lo : List S69) : Int × Bool :=
  if (firstR ver wm li (pOld ver on st)).2 = true then ((firstR ver wm li (pOld ver on st)).1, true) else firstR ver wm li (pMuch ver wm on st li lo)

theorem Draw1.tells' (S : Array Value) (ver wm : Int) (on st : Bool) (Ai : Option Addr) (ci : Nat) (li : List S42) (Ao : Option Addr) (co : Nat) (lo : List S69) (hS : ST S ver wm on st Ai ci li Ao co lo) (gs gt : Nat) (spot : Bool) (w : World) (hs : w.heap[gs]? = some (.cells S 36 (0, 0))) (ht : w.heap[gt]? = some (.cells #[.bool spot] 4 (0, 0))) : Tells 14 #[.pointer (some ⟨gt, 0, none⟩), .pointer (some ⟨gs, 0, none⟩)] (pDraw ver on st spot) w := Draw1.tells S ver wm on st Ai ci li Ao co lo hS gs gt spot w hs ht
theorem Much1.tells' (S : Array Value) (ver wm : Int) (on st : Bool) (Ai : Option Addr) (ci : Nat) (li : List S42) (Ao : Option Addr) (co : Nat) (lo : List S69) (hS : ST S ver wm on st Ai ci li Ao co lo) (gs : Nat) (w : World) (hs : w.heap[gs]? = some (.cells S 36 (0, 0))) : Tells 19 #[.pointer (some ⟨gs, 0, none⟩)] (pOld ver on st) w := Much1.tells S ver wm on st Ai ci li Ao co lo hS gs w hs

set_option maxHeartbeats 8000000 in
set_option maxRecDepth 100000 in
theorem first0.calls (S : Array Value) (ver wm : Int) (on st : Bool) (Ai : Option Addr) (ci : Nat) (li : List S42) (Ao : Option Addr) (co : Nat) (lo : List S69) (hS : ST S ver wm on st Ai ci li Ao co lo) (g : Nat) (caps : Array Value) (w : World) (hl : Kd.C k42 w Ai li.length li) (hc : li.length ≤ ci) (hm : smay ver wm li = false) :
    Calls Try.prog 13 #[.agg S, .func (.func g) #[] caps] w fun e w' => e = .returned (.tuple #[.int .u64 0, .bool false]) ∧ Below w.heap.size w w' := by
  have HS := Aside0.mk hS
  clear hS
  have HB := Aside0.mk (Below.refl w.heap.size w)
  have HL := Aside0.mk hl
  have HC := Aside0.mk hc
  have HMY := Aside0.mk hm
  clear hl hm
  go_enter Try.func13, Try.ntmps13
  go_wp2_with (first
    | ((with_reducible refine gate_dst (N := 2) rfl ?_); refine box_event ?hg (N := 2) ?hd (cs := S) (t := 36) ?hr ?_; (case hd => rfl); (case hg => rfl); (case hr => first | (go_simp; done) | (go_simp; rfl)); intro gS hg w1_S hbox hb; have GGS := Aside0.mk (show w.heap.size ≤ gS from by rw [hg]; exact below_size (by repeat (first | (with_reducible first | exact HB.out | apply below_alloc | apply pw_below_drewN | apply below_drew1) | exact HB.out))); have BKS := Aside0.mk hbox; clear hbox hg; have n0_ := Aside0.mk (below_step (by repeat (first | (with_reducible first | exact HB.out | apply below_alloc | apply pw_below_drewN | apply below_drew1) | exact HB.out)) hb); clear HB; have HB := n0_; clear n0_ hb)
    | ((with_reducible refine gate_dst (N := 3) rfl ?_); refine box_event ?hg (N := 3) ?hd (cs := #[.func (.func g) #[] caps]) (t := 53) ?hr ?_; (case hd => rfl); (case hg => rfl); (case hr => first | (go_simp; done) | (go_simp; rfl)); intro gF hg w1_F hbox hb; have GGF := Aside0.mk (show w.heap.size ≤ gF from by rw [hg]; exact below_size (by repeat (first | (with_reducible first | exact HB.out | apply below_alloc | apply pw_below_drewN | apply below_drew1) | exact HB.out))); have BKF := Aside0.mk hbox; clear hbox hg; have n0_ := Aside0.mk (below_step (by repeat (first | (with_reducible first | exact HB.out | apply below_alloc | apply pw_below_drewN | apply below_drew1) | exact HB.out)) hb); (first | have n1_ := Aside0.mk (blk_below BKS.out hb) | have n1_ := Aside0.mk (blk_below (blk_drewN BKS.out _) hb) | have n1_ := Aside0.mk (blk_below (blk_drew BKS.out) hb) | have n1_ := Aside0.mk (blk_below (blk_alloc BKS.out _) hb) | have n1_ := Aside0.mk (blk_below (by first | exact BKS.out | ((with_reducible repeat (first | refine blk_drewN ?_ _ | refine blk_drew ?_ | refine blk_alloc ?_ _)); exact BKS.out)) hb)); clear HB BKS; have HB := n0_; have BKS := n1_; clear n0_ n1_ hb)
    | ((with_reducible refine gate_dst (N := 7) rfl ?_); refine wpList_load_row rfl 36 (.tmp 2) rfl gS rfl 36 S (0, 0) _ (by first | exact BKS.out | ((with_reducible repeat (first | refine blk_drewN ?_ _ | refine blk_drew ?_ | refine blk_alloc ?_ _)); exact BKS.out)) Try.underlying36 rfl HS.out.info ?_)
    | (go_at_call 22; with_reducible refine (wmay.calls S ver wm on st Ai ci li Ao co lo HS.out _ (Kd.C_below HL.out (by repeat (first | (with_reducible first | exact HB.out | apply below_alloc | apply pw_below_drewN | apply below_drew1) | exact HB.out))) HC.out).mono ?_; rw [HMY.out]; rintro e w' ⟨rfl, hb⟩; have n0_ := Aside0.mk (below_step (by repeat (first | (with_reducible first | exact HB.out | apply below_alloc | apply pw_below_drewN | apply below_drew1) | exact HB.out)) hb); (first | have n1_ := Aside0.mk (blk_below BKS.out hb) | have n1_ := Aside0.mk (blk_below (blk_drewN BKS.out _) hb) | have n1_ := Aside0.mk (blk_below (blk_drew BKS.out) hb) | have n1_ := Aside0.mk (blk_below (blk_alloc BKS.out _) hb) | have n1_ := Aside0.mk (blk_below (by first | exact BKS.out | ((with_reducible repeat (first | refine blk_drewN ?_ _ | refine blk_drew ?_ | refine blk_alloc ?_ _)); exact BKS.out)) hb)); (first | have n2_ := Aside0.mk (blk_below BKF.out hb) | have n2_ := Aside0.mk (blk_below (blk_drewN BKF.out _) hb) | have n2_ := Aside0.mk (blk_below (blk_drew BKF.out) hb) | have n2_ := Aside0.mk (blk_below (blk_alloc BKF.out _) hb) | have n2_ := Aside0.mk (blk_below (by first | exact BKF.out | ((with_reducible repeat (first | refine blk_drewN ?_ _ | refine blk_drew ?_ | refine blk_alloc ?_ _)); exact BKF.out)) hb)); clear HB BKS BKF; have HB := n0_; have BKS := n1_; have BKF := n2_; clear n0_ n1_ n2_ hb; have s46 := (blk_cell BKS.out 46).trans HS.out.ins))
  go_ret2
  exact ⟨rfl, by repeat (first | (with_reducible first | exact HB.out | apply below_alloc | apply pw_below_drewN | apply below_drew1) | exact HB.out)⟩

set_option maxHeartbeats 8000000 in
set_option maxRecDepth 100000 in
theorem Much2.calls (S : Array Value) (ver wm : Int) (on st : Bool) (Ai : Option Addr) (ci : Nat) (li : List S42) (Ao : Option Addr) (co : Nat) (lo : List S69) (hS : ST S ver wm on st Ai ci li Ao co lo) (gs : Nat) (x : S42) (w : World) (hs : w.heap[gs]? = some (.cells S 36 (0, 0))) (hl : Kd.C k42 w Ai li.length li) (hc : li.length ≤ ci) (hlo : Kd.C k69 w Ao lo.length lo) (hmo : lo.length ≤ 4096) (hmy : mayL li = true) :
    Calls Try.prog 20 #[.agg #[.int .u64 x.f0, .int .u64 x.f1, .int .i64 x.f2, .int .i64 x.f3, .bool x.f4, .int .u8 x.f5, .int .u64 x.f6, .bool x.f7, .int .u64 x.f8, .bool x.f9, .bool x.f10, .int .u32 x.f11], .pointer (some ⟨gs, 0, none⟩)] w fun e w' => e = .returned (.bool (decide (wm ≤ wrap64 (wt ver on st li lo - x.f3)))) ∧ Below w.heap.size w w' := by
  have HS := Aside0.mk hS
  clear hS
  have HB := Aside0.mk (Below.refl w.heap.size w)
  have HL := Aside0.mk hl
  have HC := Aside0.mk hc
  have HO := Aside0.mk hlo
  have HMO := Aside0.mk hmo
  clear hl hlo hmo
  have BKS := Aside0.mk hs
  have HMY := Aside0.mk hmy
  clear hs hmy
  go_enter Try.func20, Try.ntmps20
  go_wp2_with (first
    | ((with_reducible refine gate_dst (N := 2) rfl ?_); refine box_event ?hg (N := 2) ?hd (cs := #[.int .u64 x.f0, .int .u64 x.f1, .int .i64 x.f2, .int .i64 x.f3, .bool x.f4, .int .u8 x.f5, .int .u64 x.f6, .bool x.f7, .int .u64 x.f8, .bool x.f9, .bool x.f10, .int .u32 x.f11]) (t := 42) ?hr ?_; (case hd => rfl); (case hg => rfl); (case hr => first | (go_simp; done) | (go_simp; rfl)); intro gI hg w1_I hbox hb; have GGI := Aside0.mk (show w.heap.size ≤ gI from by rw [hg]; exact below_size (by repeat (first | (with_reducible first | exact HB.out | apply below_alloc | apply pw_below_drewN | apply below_drew1) | exact HB.out))); have BKI := Aside0.mk hbox; clear hbox hg; have n0_ := Aside0.mk (below_step (by repeat (first | (with_reducible first | exact HB.out | apply below_alloc | apply pw_below_drewN | apply below_drew1) | exact HB.out)) hb); (first | have n1_ := Aside0.mk (blk_below BKS.out hb) | have n1_ := Aside0.mk (blk_below (blk_drewN BKS.out _) hb) | have n1_ := Aside0.mk (blk_below (blk_drew BKS.out) hb) | have n1_ := Aside0.mk (blk_below (blk_alloc BKS.out _) hb) | have n1_ := Aside0.mk (blk_below (by first | exact BKS.out | ((with_reducible repeat (first | refine blk_drewN ?_ _ | refine blk_drew ?_ | refine blk_alloc ?_ _)); exact BKS.out)) hb)); clear HB BKS; have HB := n0_; have BKS := n1_; clear n0_ n1_ hb))
  refine start_ (n := 10) (S := fun w' => w'.heap[gs]? = some (.cells S 36 (0, 0)) ∧ w'.cell? ⟨gI, 3, none⟩ = some (.int .i64 x.f3) ∧ w'.cell? ⟨gs, 9, none⟩ = some (.int .i64 wm)) (ds := []) #[false, false, false, false, false, false, false, false, false, false] (by kernel_rfl) rfl rfl ⟨BKS.out, (blk_cell BKI.out 3).trans rfl, (blk_cell BKS.out 9).trans HS.out.wm⟩ (fun hHeld => ?_)
  refine pure_ (i := 2) (N := some 6) (v := ?_) (a' := ?_) #[false, false, true, false, false, false, false, false, false, false] rfl rfl (by kernel_rfl) (fun _ _ _ h => h) (Or.inl ⟨by rfl, ?_⟩) ?_ ?_
  rotate_left
  · intro w'
    go_simp
    with_reducible rfl
  rotate_left
  · simp only [Act.put, List.setIfInBounds_toArray, List.set_cons_zero, List.set_cons_succ, i64_w, i32_w]
    rfl
  refine pure_ (i := 5) (N := some 9) (v := ?_) (a' := ?_) #[false, false, true, false, false, true, false, false, false, false] rfl rfl (by kernel_rfl) (fun _ _ _ h => h) (Or.inl ⟨by rfl, ?_⟩) ?_ ?_
  rotate_left
  · intro w'
    go_simp
    with_reducible rfl
  rotate_left
  · simp only [Act.put, List.setIfInBounds_toArray, List.set_cons_zero, List.set_cons_succ, i64_w, i32_w]
    rfl
  refine pure_ (i := 6) (N := some 10) (v := ?_) (a' := ?_) #[false, false, true, false, false, true, true, false, false, false] rfl rfl (by kernel_rfl) (fun _ _ _ h => h) (Or.inl ⟨by rfl, ?_⟩) ?_ ?_
  rotate_left
  · intro w'
    go_simp
    with_reducible rfl
  rotate_left
  · simp only [Act.put, List.setIfInBounds_toArray, List.set_cons_zero, List.set_cons_succ, i64_w, i32_w]
    rfl
  refine take_ (i := 0) (N := some 4) (v := ?_) (a' := ?_) #[true, false, true, false, false, true, true, false, false, false] rfl rfl (by kernel_rfl) (fun _ _ _ h => h) (Or.inl ⟨by rfl, ?_⟩) hHeld ?_ ?_
  rotate_left
  · rintro w' ⟨s0, s1, s2⟩
    refine row36_run (.tmp 1) gs S ?_ ?_ w' s0 HS.out.info
    · rfl
    · rfl
  rotate_left
  · simp only [Act.put, List.setIfInBounds_toArray, List.set_cons_zero, List.set_cons_succ, i64_w, i32_w]
    rfl
  refine take_ (i := 3) (N := some 7) (v := ?_) (a' := ?_) #[true, false, true, true, false, true, true, false, false, false] rfl rfl (by kernel_rfl) (fun _ _ _ h => h) (Or.inl ⟨by rfl, ?_⟩) hHeld ?_ ?_
  rotate_left
  · rintro w' ⟨s0, s1, s2⟩
    go_simp
    with_reducible rfl
  rotate_left
  · simp only [Act.put, List.setIfInBounds_toArray, List.set_cons_zero, List.set_cons_succ, i64_w, i32_w]
    rfl
  refine take_ (i := 7) (N := some 11) (v := ?_) (a' := ?_) #[true, false, true, true, false, true, true, true, false, false] rfl rfl (by kernel_rfl) (fun _ _ _ h => h) (Or.inl ⟨by rfl, ?_⟩) hHeld ?_ ?_
  rotate_left
  · rintro w' ⟨s0, s1, s2⟩
    go_simp
    with_reducible rfl
  rotate_left
  · simp only [Act.put, List.setIfInBounds_toArray, List.set_cons_zero, List.set_cons_succ, i64_w, i32_w]
    rfl
  refine one_ (i := 1) (N := some 5) #[true, true, true, true, false, true, true, true, false, false] rfl rfl (by kernel_rfl) (by decide) (fun K hK => ?_)
  refine goes_ Try.func21 (by kernel_rfl) rfl #[.agg S] (by rfl) rfl rfl (by simp only [List.map_toArray, List.map_cons, List.map_nil]; rfl) ?_
  with_reducible refine (weight.calls S ver wm on st Ai ci li Ao co lo HS.out _ (Kd.C_below HL.out (by repeat (first | (with_reducible first | exact HB.out | apply below_alloc | apply pw_below_drewN | apply below_drew1) | exact HB.out))) HC.out (Kd.C_below HO.out (by repeat (first | (with_reducible first | exact HB.out | apply below_alloc | apply pw_below_drewN | apply below_drew1) | exact HB.out))) HMO.out HMY.out).mono ?_
  rintro e w4 ⟨rfl, hb⟩
  have n0_ := Aside0.mk (below_step (by repeat (first | (with_reducible first | exact HB.out | apply below_alloc | apply pw_below_drewN | apply below_drew1) | exact HB.out)) hb); (first | have n1_ := Aside0.mk (blk_below BKS.out hb) | have n1_ := Aside0.mk (blk_below (blk_drewN BKS.out _) hb) | have n1_ := Aside0.mk (blk_below (blk_drew BKS.out) hb) | have n1_ := Aside0.mk (blk_below (blk_alloc BKS.out _) hb) | have n1_ := Aside0.mk (blk_below (by first | exact BKS.out | ((with_reducible repeat (first | refine blk_drewN ?_ _ | refine blk_drew ?_ | refine blk_alloc ?_ _)); exact BKS.out)) hb)); (first | have n2_ := Aside0.mk (blk_below BKI.out hb) | have n2_ := Aside0.mk (blk_below (blk_drewN BKI.out _) hb) | have n2_ := Aside0.mk (blk_below (blk_drew BKI.out) hb) | have n2_ := Aside0.mk (blk_below (blk_alloc BKI.out _) hb) | have n2_ := Aside0.mk (blk_below (by first | exact BKI.out | ((with_reducible repeat (first | refine blk_drewN ?_ _ | refine blk_drew ?_ | refine blk_alloc ?_ _)); exact BKI.out)) hb)); clear HB BKS BKI; have HB := n0_; have BKS := n1_; have BKI := n2_; clear n0_ n1_ n2_ hb
  refine ⟨_, rfl, ?_⟩
  refine hK.out _ _ ⟨BKS.out, (blk_cell BKI.out 3).trans rfl, (blk_cell BKS.out 9).trans HS.out.wm⟩ (fun hHeld => ?_)
  clear hK K
  refine norm_ (a' := ?_) ?_ ?_
  rotate_left
  · show Act.put _ (some 5) _ = _
    simp only [Act.put, List.setIfInBounds_toArray, List.set_cons_zero, List.set_cons_succ, i64_w, i32_w]
    rfl
  refine pure_ (i := 4) (N := some 8) (v := ?_) (a' := ?_) #[true, true, true, true, true, true, true, true, false, false] rfl rfl (by kernel_rfl) (fun _ _ _ h => h) (Or.inl ⟨by rfl, ?_⟩) ?_ ?_
  rotate_left
  · intro w'
    go_simp
    with_reducible rfl
  rotate_left
  · simp only [Act.put, List.setIfInBounds_toArray, List.set_cons_zero, List.set_cons_succ, i64_w, i32_w]
    rfl
  refine pure_ (i := 8) (N := some 12) (v := ?_) (a' := ?_) #[true, true, true, true, true, true, true, true, true, false] rfl rfl (by kernel_rfl) (fun _ _ _ h => h) (Or.inl ⟨by rfl, ?_⟩) ?_ ?_
  rotate_left
  · intro w'
    go_simp
    with_reducible rfl
  rotate_left
  · simp only [Act.put, List.setIfInBounds_toArray, List.set_cons_zero, List.set_cons_succ, i64_w, i32_w]
    rfl
  refine pure_ (i := 9) (N := some 3) (v := ?_) (a' := ?_) #[true, true, true, true, true, true, true, true, true, true] rfl rfl (by kernel_rfl) (fun _ _ _ h => h) (Or.inl ⟨by rfl, ?_⟩) ?_ ?_
  rotate_left
  · intro w'
    go_simp
    with_reducible rfl
  rotate_left
  · simp only [Act.put, List.setIfInBounds_toArray, List.set_cons_zero, List.set_cons_succ, i64_w, i32_w]
    rfl
  refine done_ (by kernel_rfl) ?_

  all_goals (try go_wp2)
  go_ret
  exact ⟨rfl, by repeat (first | (with_reducible first | exact HB.out | apply below_alloc | apply pw_below_drewN | apply below_drew1) | exact HB.out)⟩
theorem Much2.tells (S : Array Value) (ver wm : Int) (on st : Bool) (Ai : Option Addr) (ci : Nat) (li : List S42) (Ao : Option Addr) (co : Nat) (lo : List S69) (hS : ST S ver wm on st Ai ci li Ao co lo) (gs : Nat) (w : World) (hs : w.heap[gs]? = some (.cells S 36 (0, 0))) (hl : Kd.C k42 w Ai li.length li) (hc : li.length ≤ ci) (hlo : Kd.C k69 w Ao lo.length lo) (hmo : lo.length ≤ 4096) (hmy : mayL li = true) : Tells 20 #[.pointer (some ⟨gs, 0, none⟩)] (pMuch ver wm on st li lo) w :=
  fun W x hW => Much2.calls S ver wm on st Ai ci li Ao co lo hS gs x W (blk_below hs hW) (Kd.C_below hl hW) hc (Kd.C_below hlo hW) hmo hmy

set_option maxHeartbeats 8000000 in
set_option maxRecDepth 100000 in
theorem Draw.calls (S : Array Value) (ver wm : Int) (on st : Bool) (Ai : Option Addr) (ci : Nat) (li : List S42) (Ao : Option Addr) (co : Nat) (lo : List S69) (hS : ST S ver wm on st Ai ci li Ao co lo) (spot : Bool) (w : World) (hl : Kd.C k42 w Ai li.length li) (hc : li.length ≤ ci) (hm : li.length < 9223372036854775807) :
    Calls Try.prog 6 #[.agg S, .bool spot] w fun e w' => e = .returned (.tuple #[.int .u64 (drawR ver wm on st li spot).1, .bool (drawR ver wm on st li spot).2]) ∧ Below w.heap.size w w' := by
  have HS := Aside0.mk hS
  clear hS
  have HB := Aside0.mk (Below.refl w.heap.size w)
  have HL := Aside0.mk hl
  have HC := Aside0.mk hc
  have HM := Aside0.mk hm
  clear hl hm
  unfold drawR
  go_enter Try.func6, Try.ntmps6
  go_wp2_with (first
    | ((with_reducible refine gate_dst (N := 2) rfl ?_); refine box_event ?hg (N := 2) ?hd (cs := S) (t := 36) ?hr ?_; (case hd => rfl); (case hg => rfl); (case hr => first | (go_simp; done) | (go_simp; rfl)); intro gS hg w1_S hbox hb; have GGS := Aside0.mk (show w.heap.size ≤ gS from by rw [hg]; exact below_size (by repeat (first | (with_reducible first | exact HB.out | apply below_alloc | apply pw_below_drewN | apply below_drew1) | exact HB.out))); have BKS := Aside0.mk hbox; clear hbox hg; have n0_ := Aside0.mk (below_step (by repeat (first | (with_reducible first | exact HB.out | apply below_alloc | apply pw_below_drewN | apply below_drew1) | exact HB.out)) hb); clear HB; have HB := n0_; clear n0_ hb)
    | ((with_reducible refine gate_dst (N := 3) rfl ?_); refine box_event ?hg (N := 3) ?hd (cs := #[.bool spot]) (t := 4) ?hr ?_; (case hd => rfl); (case hg => rfl); (case hr => first | (go_simp; done) | (go_simp; rfl)); intro gT hg w1_T hbox hb; have GGT := Aside0.mk (show w.heap.size ≤ gT from by rw [hg]; exact below_size (by repeat (first | (with_reducible first | exact HB.out | apply below_alloc | apply pw_below_drewN | apply below_drew1) | exact HB.out))); have BKT := Aside0.mk hbox; clear hbox hg; have n0_ := Aside0.mk (below_step (by repeat (first | (with_reducible first | exact HB.out | apply below_alloc | apply pw_below_drewN | apply below_drew1) | exact HB.out)) hb); (first | have n1_ := Aside0.mk (blk_below BKS.out hb) | have n1_ := Aside0.mk (blk_below (blk_drewN BKS.out _) hb) | have n1_ := Aside0.mk (blk_below (blk_drew BKS.out) hb) | have n1_ := Aside0.mk (blk_below (blk_alloc BKS.out _) hb) | have n1_ := Aside0.mk (blk_below (by first | exact BKS.out | ((with_reducible repeat (first | refine blk_drewN ?_ _ | refine blk_drew ?_ | refine blk_alloc ?_ _)); exact BKS.out)) hb)); clear HB BKS; have HB := n0_; have BKS := n1_; clear n0_ n1_ hb)
    | ((with_reducible refine gate_dst (N := 6) rfl ?_); refine wpList_load_row rfl 36 (.tmp 2) rfl gS rfl 36 S (0, 0) _ (by first | exact BKS.out | ((with_reducible repeat (first | refine blk_drewN ?_ _ | refine blk_drew ?_ | refine blk_alloc ?_ _)); exact BKS.out)) Try.underlying36 rfl HS.out.info ?_)
    | (go_at_call 13; with_reducible refine (first.calls S ver wm on st Ai ci li Ao co lo HS.out 14 #[.pointer (some ⟨gT, 0, none⟩), .pointer (some ⟨gS, 0, none⟩)] (pDraw ver on st spot) _ (Kd.C_below HL.out (by repeat (first | (with_reducible first | exact HB.out | apply below_alloc | apply pw_below_drewN | apply below_drew1) | exact HB.out))) HC.out HM.out enters14 (Draw1.tells' S ver wm on st Ai ci li Ao co lo HS.out gS gT spot _ (by first | exact BKS.out | ((with_reducible repeat (first | refine blk_drewN ?_ _ | refine blk_drew ?_ | refine blk_alloc ?_ _)); exact BKS.out)) (by first | exact BKT.out | ((with_reducible repeat (first | refine blk_drewN ?_ _ | refine blk_drew ?_ | refine blk_alloc ?_ _)); exact BKT.out)))).mono ?_; rintro e w' ⟨rfl, hb⟩; have n0_ := Aside0.mk (below_step (by repeat (first | (with_reducible first | exact HB.out | apply below_alloc | apply pw_below_drewN | apply below_drew1) | exact HB.out)) hb); (first | have n1_ := Aside0.mk (blk_below BKS.out hb) | have n1_ := Aside0.mk (blk_below (blk_drewN BKS.out _) hb) | have n1_ := Aside0.mk (blk_below (blk_drew BKS.out) hb) | have n1_ := Aside0.mk (blk_below (blk_alloc BKS.out _) hb) | have n1_ := Aside0.mk (blk_below (by first | exact BKS.out | ((with_reducible repeat (first | refine blk_drewN ?_ _ | refine blk_drew ?_ | refine blk_alloc ?_ _)); exact BKS.out)) hb)); (first | have n2_ := Aside0.mk (blk_below BKT.out hb) | have n2_ := Aside0.mk (blk_below (blk_drewN BKT.out _) hb) | have n2_ := Aside0.mk (blk_below (blk_drew BKT.out) hb) | have n2_ := Aside0.mk (blk_below (blk_alloc BKT.out _) hb) | have n2_ := Aside0.mk (blk_below (by first | exact BKT.out | ((with_reducible repeat (first | refine blk_drewN ?_ _ | refine blk_drew ?_ | refine blk_alloc ?_ _)); exact BKT.out)) hb)); clear HB BKS BKT; have HB := n0_; have BKS := n1_; have BKT := n2_; clear n0_ n1_ n2_ hb))
  go_ret2
  exact ⟨rfl, by repeat (first | (with_reducible first | exact HB.out | apply below_alloc | apply pw_below_drewN | apply below_drew1) | exact HB.out)⟩

set_option maxHeartbeats 8000000 in
set_option maxRecDepth 100000 in
theorem Much.calls (S : Array Value) (ver wm : Int) (on st : Bool) (Ai : Option Addr) (ci : Nat) (li : List S42) (Ao : Option Addr) (co : Nat) (lo : List S69) (hS : ST S ver wm on st Ai ci li Ao co lo) (w : World) (hl : Kd.C k42 w Ai li.length li) (hc : li.length ≤ ci) (hlo : Kd.C k69 w Ao lo.length lo) (hmo : lo.length ≤ 4096) (hm : li.length < 9223372036854775807) :
    Calls Try.prog 9 #[.agg S] w fun e w' => e = .returned (.tuple #[.int .u64 (muchR ver wm on st li lo).1, .bool (muchR ver wm on st li lo).2]) ∧ Below w.heap.size w w' := by
  have HS := Aside0.mk hS
  clear hS
  have HB := Aside0.mk (Below.refl w.heap.size w)
  have HL := Aside0.mk hl
  have HC := Aside0.mk hc
  have HO := Aside0.mk hlo
  have HMO := Aside0.mk hmo
  clear hl hlo hmo
  have HM := Aside0.mk hm
  clear hm
  obtain ⟨r, hr⟩ : ∃ r, muchR ver wm on st li lo = r := ⟨_, rfl⟩
  rw [hr]
  obtain ⟨m, hmm⟩ : ∃ m, smay ver wm li = m := ⟨_, rfl⟩
  unfold muchR at hr
  cases m
  · rw [firstR_none hmm, firstR_none hmm, if_neg (by decide)] at hr
    subst hr
    have HMY := Aside0.mk hmm
    clear hmm
    go_enter Try.func9, Try.ntmps9
    go_wp2_with (first
      | ((with_reducible refine gate_dst (N := 1) rfl ?_); refine box_event ?hg (N := 1) ?hd (cs := S) (t := 36) ?hr ?_; (case hd => rfl); (case hg => rfl); (case hr => first | (go_simp; done) | (go_simp; rfl)); intro gS hg w1_S hbox hb; have GGS := Aside0.mk (show w.heap.size ≤ gS from by rw [hg]; exact below_size (by repeat (first | (with_reducible first | exact HB.out | apply below_alloc | apply pw_below_drewN | apply below_drew1) | exact HB.out))); have BKS := Aside0.mk hbox; clear hbox hg; have n0_ := Aside0.mk (below_step (by repeat (first | (with_reducible first | exact HB.out | apply below_alloc | apply pw_below_drewN | apply below_drew1) | exact HB.out)) hb); clear HB; have HB := n0_; clear n0_ hb)
      | ((with_reducible refine gate_dst (N := 7) rfl ?_); refine wpList_load_row rfl 36 (.tmp 1) rfl gS rfl 36 S (0, 0) _ (by first | exact BKS.out | ((with_reducible repeat (first | refine blk_drewN ?_ _ | refine blk_drew ?_ | refine blk_alloc ?_ _)); exact BKS.out)) Try.underlying36 rfl HS.out.info ?_)
      | ((with_reducible refine gate_dst (N := 14) rfl ?_); refine wpList_load_row rfl 36 (.tmp 1) rfl gS rfl 36 S (0, 0) _ (by first | exact BKS.out | ((with_reducible repeat (first | refine blk_drewN ?_ _ | refine blk_drew ?_ | refine blk_alloc ?_ _)); exact BKS.out)) Try.underlying36 rfl HS.out.info ?_)
      | (first | (go_at_call 13; with_reducible refine (first0.calls S ver wm on st Ai ci li Ao co lo HS.out 19 #[.pointer (some ⟨gS, 0, none⟩)] _ (Kd.C_below HL.out (by repeat (first | (with_reducible first | exact HB.out | apply below_alloc | apply pw_below_drewN | apply below_drew1) | exact HB.out))) HC.out HMY.out).mono ?_; rintro e w' ⟨rfl, hb⟩; have n0_ := Aside0.mk (below_step (by repeat (first | (with_reducible first | exact HB.out | apply below_alloc | apply pw_below_drewN | apply below_drew1) | exact HB.out)) hb); (first | have n1_ := Aside0.mk (blk_below BKS.out hb) | have n1_ := Aside0.mk (blk_below (blk_drewN BKS.out _) hb) | have n1_ := Aside0.mk (blk_below (blk_drew BKS.out) hb) | have n1_ := Aside0.mk (blk_below (blk_alloc BKS.out _) hb) | have n1_ := Aside0.mk (blk_below (by first | exact BKS.out | ((with_reducible repeat (first | refine blk_drewN ?_ _ | refine blk_drew ?_ | refine blk_alloc ?_ _)); exact BKS.out)) hb)); clear HB BKS; have HB := n0_; have BKS := n1_; clear n0_ n1_ hb) | (go_at_call 13; with_reducible refine (first0.calls S ver wm on st Ai ci li Ao co lo HS.out 20 #[.pointer (some ⟨gS, 0, none⟩)] _ (Kd.C_below HL.out (by repeat (first | (with_reducible first | exact HB.out | apply below_alloc | apply pw_below_drewN | apply below_drew1) | exact HB.out))) HC.out HMY.out).mono ?_; rintro e w' ⟨rfl, hb⟩; have n0_ := Aside0.mk (below_step (by repeat (first | (with_reducible first | exact HB.out | apply below_alloc | apply pw_below_drewN | apply below_drew1) | exact HB.out)) hb); (first | have n1_ := Aside0.mk (blk_below BKS.out hb) | have n1_ := Aside0.mk (blk_below (blk_drewN BKS.out _) hb) | have n1_ := Aside0.mk (blk_below (blk_drew BKS.out) hb) | have n1_ := Aside0.mk (blk_below (blk_alloc BKS.out _) hb) | have n1_ := Aside0.mk (blk_below (by first | exact BKS.out | ((with_reducible repeat (first | refine blk_drewN ?_ _ | refine blk_drew ?_ | refine blk_alloc ?_ _)); exact BKS.out)) hb)); clear HB BKS; have HB := n0_; have BKS := n1_; clear n0_ n1_ hb)))
    go_ret2
    exact ⟨rfl, by repeat (first | (with_reducible first | exact HB.out | apply below_alloc | apply pw_below_drewN | apply below_drew1) | exact HB.out)⟩
  · have HMY : Aside0 (mayL li = true) := ⟨smay_l hmm⟩
    clear hmm
    obtain ⟨r1, hr1⟩ : ∃ r1, firstR ver wm li (pOld ver on st) = r1 := ⟨_, rfl⟩
    rw [hr1] at hr
    have HR1 := Aside0.mk hr1
    clear hr1
    obtain ⟨id1, is1⟩ := r1
    cases is1
    · replace hr : firstR ver wm li (pMuch ver wm on st li lo) = r := hr
      subst hr
      go_enter Try.func9, Try.ntmps9
      go_wp2_with (first
        | ((with_reducible refine gate_dst (N := 1) rfl ?_); refine box_event ?hg (N := 1) ?hd (cs := S) (t := 36) ?hr ?_; (case hd => rfl); (case hg => rfl); (case hr => first | (go_simp; done) | (go_simp; rfl)); intro gS hg w1_S hbox hb; have GGS := Aside0.mk (show w.heap.size ≤ gS from by rw [hg]; exact below_size (by repeat (first | (with_reducible first | exact HB.out | apply below_alloc | apply pw_below_drewN | apply below_drew1) | exact HB.out))); have BKS := Aside0.mk hbox; clear hbox hg; have n0_ := Aside0.mk (below_step (by repeat (first | (with_reducible first | exact HB.out | apply below_alloc | apply pw_below_drewN | apply below_drew1) | exact HB.out)) hb); clear HB; have HB := n0_; clear n0_ hb)
        | ((with_reducible refine gate_dst (N := 7) rfl ?_); refine wpList_load_row rfl 36 (.tmp 1) rfl gS rfl 36 S (0, 0) _ (by first | exact BKS.out | ((with_reducible repeat (first | refine blk_drewN ?_ _ | refine blk_drew ?_ | refine blk_alloc ?_ _)); exact BKS.out)) Try.underlying36 rfl HS.out.info ?_)
        | ((with_reducible refine gate_dst (N := 14) rfl ?_); refine wpList_load_row rfl 36 (.tmp 1) rfl gS rfl 36 S (0, 0) _ (by first | exact BKS.out | ((with_reducible repeat (first | refine blk_drewN ?_ _ | refine blk_drew ?_ | refine blk_alloc ?_ _)); exact BKS.out)) Try.underlying36 rfl HS.out.info ?_)
        | (go_at_call 13; with_reducible refine (first.calls S ver wm on st Ai ci li Ao co lo HS.out 19 #[.pointer (some ⟨gS, 0, none⟩)] (pOld ver on st) _ (Kd.C_below HL.out (by repeat (first | (with_reducible first | exact HB.out | apply below_alloc | apply pw_below_drewN | apply below_drew1) | exact HB.out))) HC.out HM.out enters19 (Much1.tells' S ver wm on st Ai ci li Ao co lo HS.out gS _ (by first | exact BKS.out | ((with_reducible repeat (first | refine blk_drewN ?_ _ | refine blk_drew ?_ | refine blk_alloc ?_ _)); exact BKS.out)))).mono ?_; rw [HR1.out]; rintro e w' ⟨rfl, hb⟩; have n0_ := Aside0.mk (below_step (by repeat (first | (with_reducible first | exact HB.out | apply below_alloc | apply pw_below_drewN | apply below_drew1) | exact HB.out)) hb); (first | have n1_ := Aside0.mk (blk_below BKS.out hb) | have n1_ := Aside0.mk (blk_below (blk_drewN BKS.out _) hb) | have n1_ := Aside0.mk (blk_below (blk_drew BKS.out) hb) | have n1_ := Aside0.mk (blk_below (blk_alloc BKS.out _) hb) | have n1_ := Aside0.mk (blk_below (by first | exact BKS.out | ((with_reducible repeat (first | refine blk_drewN ?_ _ | refine blk_drew ?_ | refine blk_alloc ?_ _)); exact BKS.out)) hb)); clear HB BKS; have HB := n0_; have BKS := n1_; clear n0_ n1_ hb)
        | (go_at_call 13; with_reducible refine (first.calls S ver wm on st Ai ci li Ao co lo HS.out 20 #[.pointer (some ⟨gS, 0, none⟩)] (pMuch ver wm on st li lo) _ (Kd.C_below HL.out (by repeat (first | (with_reducible first | exact HB.out | apply below_alloc | apply pw_below_drewN | apply below_drew1) | exact HB.out))) HC.out HM.out enters20 (Much2.tells S ver wm on st Ai ci li Ao co lo HS.out gS _ (by first | exact BKS.out | ((with_reducible repeat (first | refine blk_drewN ?_ _ | refine blk_drew ?_ | refine blk_alloc ?_ _)); exact BKS.out)) (Kd.C_below HL.out (by repeat (first | (with_reducible first | exact HB.out | apply below_alloc | apply pw_below_drewN | apply below_drew1) | exact HB.out))) HC.out (Kd.C_below HO.out (by repeat (first | (with_reducible first | exact HB.out | apply below_alloc | apply pw_below_drewN | apply below_drew1) | exact HB.out))) HMO.out HMY.out)).mono ?_; rintro e w' ⟨rfl, hb⟩; have n0_ := Aside0.mk (below_step (by repeat (first | (with_reducible first | exact HB.out | apply below_alloc | apply pw_below_drewN | apply below_drew1) | exact HB.out)) hb); (first | have n1_ := Aside0.mk (blk_below BKS.out hb) | have n1_ := Aside0.mk (blk_below (blk_drewN BKS.out _) hb) | have n1_ := Aside0.mk (blk_below (blk_drew BKS.out) hb) | have n1_ := Aside0.mk (blk_below (blk_alloc BKS.out _) hb) | have n1_ := Aside0.mk (blk_below (by first | exact BKS.out | ((with_reducible repeat (first | refine blk_drewN ?_ _ | refine blk_drew ?_ | refine blk_alloc ?_ _)); exact BKS.out)) hb)); clear HB BKS; have HB := n0_; have BKS := n1_; clear n0_ n1_ hb))
      go_ret2
      exact ⟨rfl, by repeat (first | (with_reducible first | exact HB.out | apply below_alloc | apply pw_below_drewN | apply below_drew1) | exact HB.out)⟩
    · replace hr : (id1, true) = r := hr
      subst hr
      go_enter Try.func9, Try.ntmps9
      go_wp2_with (first
        | ((with_reducible refine gate_dst (N := 1) rfl ?_); refine box_event ?hg (N := 1) ?hd (cs := S) (t := 36) ?hr ?_; (case hd => rfl); (case hg => rfl); (case hr => first | (go_simp; done) | (go_simp; rfl)); intro gS hg w1_S hbox hb; have GGS := Aside0.mk (show w.heap.size ≤ gS from by rw [hg]; exact below_size (by repeat (first | (with_reducible first | exact HB.out | apply below_alloc | apply pw_below_drewN | apply below_drew1) | exact HB.out))); have BKS := Aside0.mk hbox; clear hbox hg; have n0_ := Aside0.mk (below_step (by repeat (first | (with_reducible first | exact HB.out | apply below_alloc | apply pw_below_drewN | apply below_drew1) | exact HB.out)) hb); clear HB; have HB := n0_; clear n0_ hb)
        | ((with_reducible refine gate_dst (N := 7) rfl ?_); refine wpList_load_row rfl 36 (.tmp 1) rfl gS rfl 36 S (0, 0) _ (by first | exact BKS.out | ((with_reducible repeat (first | refine blk_drewN ?_ _ | refine blk_drew ?_ | refine blk_alloc ?_ _)); exact BKS.out)) Try.underlying36 rfl HS.out.info ?_)
        | (go_at_call 13; with_reducible refine (first.calls S ver wm on st Ai ci li Ao co lo HS.out 19 #[.pointer (some ⟨gS, 0, none⟩)] (pOld ver on st) _ (Kd.C_below HL.out (by repeat (first | (with_reducible first | exact HB.out | apply below_alloc | apply pw_below_drewN | apply below_drew1) | exact HB.out))) HC.out HM.out enters19 (Much1.tells' S ver wm on st Ai ci li Ao co lo HS.out gS _ (by first | exact BKS.out | ((with_reducible repeat (first | refine blk_drewN ?_ _ | refine blk_drew ?_ | refine blk_alloc ?_ _)); exact BKS.out)))).mono ?_; rw [HR1.out]; rintro e w' ⟨rfl, hb⟩; have n0_ := Aside0.mk (below_step (by repeat (first | (with_reducible first | exact HB.out | apply below_alloc | apply pw_below_drewN | apply below_drew1) | exact HB.out)) hb); (first | have n1_ := Aside0.mk (blk_below BKS.out hb) | have n1_ := Aside0.mk (blk_below (blk_drewN BKS.out _) hb) | have n1_ := Aside0.mk (blk_below (blk_drew BKS.out) hb) | have n1_ := Aside0.mk (blk_below (blk_alloc BKS.out _) hb) | have n1_ := Aside0.mk (blk_below (by first | exact BKS.out | ((with_reducible repeat (first | refine blk_drewN ?_ _ | refine blk_drew ?_ | refine blk_alloc ?_ _)); exact BKS.out)) hb)); clear HB BKS; have HB := n0_; have BKS := n1_; clear n0_ n1_ hb))
      go_ret2
      exact ⟨rfl, by repeat (first | (with_reducible first | exact HB.out | apply below_alloc | apply pw_below_drewN | apply below_drew1) | exact HB.out)⟩

set_option maxHeartbeats 8000000 in
set_option maxRecDepth 100000 in
theorem great.calls (S : Array Value) (ver wm : Int) (on st : Bool) (Ai : Option Addr) (ci : Nat) (li : List S42) (Ao : Option Addr) (co : Nat) (lo : List S69) (hS : ST S ver wm on st Ai ci li Ao co lo) (w : World) : Calls Try.prog 4 #[.agg S] w fun e w' => e = .returned (.bool (decide (300 < (li.length : Int)) || decide (300 < (lo.length : Int)))) ∧ Below w.heap.size w w' := by
  have HS := Aside0.mk hS
  clear hS
  have HB := Aside0.mk (Below.refl w.heap.size w)
  obtain ⟨b1, h1⟩ : ∃ b, decide (300 < (li.length : Int)) = b := ⟨_, rfl⟩
  obtain ⟨b2, h2⟩ : ∃ b, decide (300 < (lo.length : Int)) = b := ⟨_, rfl⟩
  rw [h1, h2]
  cases b1
  · cases b2
    · have n1 := of_decide_eq_false h1
      have n2 := of_decide_eq_false h2
      go_enter Try.func4, Try.ntmps4
      go_wp2_with (first
        | ((with_reducible refine gate_dst (N := 1) rfl ?_); refine box_event ?hg (N := 1) ?hd (cs := S) (t := 36) ?hr ?_; (case hd => rfl); (case hg => rfl); (case hr => first | (go_simp; done) | (go_simp; rfl)); intro gS hg w1_S hbox hb; have GGS := Aside0.mk (show w.heap.size ≤ gS from by rw [hg]; exact below_size (by repeat (first | (with_reducible first | exact HB.out | apply below_alloc | apply pw_below_drewN | apply below_drew1) | exact HB.out))); have BKS := Aside0.mk hbox; clear hbox hg; have n0_ := Aside0.mk (below_step (by repeat (first | (with_reducible first | exact HB.out | apply below_alloc | apply pw_below_drewN | apply below_drew1) | exact HB.out)) hb); clear HB; have HB := n0_; clear n0_ hb; have s46 := (blk_cell BKS.out 46).trans HS.out.ins; have s47 := (blk_cell BKS.out 47).trans HS.out.ops))
      go_ret
      exact ⟨rfl, by repeat (first | (with_reducible first | exact HB.out | apply below_alloc | apply pw_below_drewN | apply below_drew1) | exact HB.out)⟩
    · have n1 := of_decide_eq_false h1
      have n2 := of_decide_eq_true h2
      go_enter Try.func4, Try.ntmps4
      go_wp2_with (first
        | ((with_reducible refine gate_dst (N := 1) rfl ?_); refine box_event ?hg (N := 1) ?hd (cs := S) (t := 36) ?hr ?_; (case hd => rfl); (case hg => rfl); (case hr => first | (go_simp; done) | (go_simp; rfl)); intro gS hg w1_S hbox hb; have GGS := Aside0.mk (show w.heap.size ≤ gS from by rw [hg]; exact below_size (by repeat (first | (with_reducible first | exact HB.out | apply below_alloc | apply pw_below_drewN | apply below_drew1) | exact HB.out))); have BKS := Aside0.mk hbox; clear hbox hg; have n0_ := Aside0.mk (below_step (by repeat (first | (with_reducible first | exact HB.out | apply below_alloc | apply pw_below_drewN | apply below_drew1) | exact HB.out)) hb); clear HB; have HB := n0_; clear n0_ hb; have s46 := (blk_cell BKS.out 46).trans HS.out.ins; have s47 := (blk_cell BKS.out 47).trans HS.out.ops))
      go_ret
      exact ⟨rfl, by repeat (first | (with_reducible first | exact HB.out | apply below_alloc | apply pw_below_drewN | apply below_drew1) | exact HB.out)⟩
  · have n1 := of_decide_eq_true h1
    go_enter Try.func4, Try.ntmps4
    go_wp2_with (first
      | ((with_reducible refine gate_dst (N := 1) rfl ?_); refine box_event ?hg (N := 1) ?hd (cs := S) (t := 36) ?hr ?_; (case hd => rfl); (case hg => rfl); (case hr => first | (go_simp; done) | (go_simp; rfl)); intro gS hg w1_S hbox hb; have GGS := Aside0.mk (show w.heap.size ≤ gS from by rw [hg]; exact below_size (by repeat (first | (with_reducible first | exact HB.out | apply below_alloc | apply pw_below_drewN | apply below_drew1) | exact HB.out))); have BKS := Aside0.mk hbox; clear hbox hg; have n0_ := Aside0.mk (below_step (by repeat (first | (with_reducible first | exact HB.out | apply below_alloc | apply pw_below_drewN | apply below_drew1) | exact HB.out)) hb); clear HB; have HB := n0_; clear n0_ hb; have s46 := (blk_cell BKS.out 46).trans HS.out.ins; have s47 := (blk_cell BKS.out 47).trans HS.out.ops))
    go_ret
    exact ⟨rfl, by repeat (first | (with_reducible first | exact HB.out | apply below_alloc | apply pw_below_drewN | apply below_drew1) | exact HB.out)⟩

end Go.Proofs.Ytglpedacanjpbaa.GA
