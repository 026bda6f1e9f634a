/- The warm pool. No condition. -/
import Derived.Test.YtglpedacanjpbaaW0
import Derived.Test.YtglpedacanjpbaaW3
import Derived.Laws.CopyOwn
import Derived.ChangeKeysEq
import Derived.Deep.RegionHeld3
import Derived.Deep.MidRow
import Derived.Shelf.Abstract
namespace Go.Proofs.Ytglpedacanjpbaa.GA
open Go.RowKit Go.Shelf Go.Proofs.YtglpedacanjpbaaW.PrintWords Go.Proofs.YtglpedacanjpbaaW.PrintLast Go.Proofs.YtglpedacanjpbaaW.PrintMore
set_option linter.unusedVariables false
set_option linter.unusedSimpArgs false

/-- may a state be asked about -/
def smay (ver wm : Int) (li : List S42) : Bool := decide (0 < ver) && (decide (0 ≤ wm) && (decide (wm ≤ 65536) && mayL li))

set_option maxHeartbeats 8000000 in
set_option maxRecDepth 100000 in
theorem wmay.calls (S : Array Value) (ver wm : Int) (on st : Bool) (Ai : Option Addr) (ci : Nat) (li : List S42) (Ao : Option Addr) (co : Nat) (lo : List S69) (hS : ST S ver wm on st Ai ci li Ao co lo) (w : World) (hl : Kd.C k42 w Ai li.length li) (hc : li.length ≤ ci) :
    Calls Try.prog 22 #[.agg S] w fun e w' => e = .returned (.bool (smay ver wm li)) ∧ Below w.heap.size w w' := by
  have HS := Aside0.mk hS
  clear hS
  have HB := Aside0.mk (Below.refl w.heap.size w)
  have HL := Aside0.mk hl
  have HC := Aside0.mk hc
  clear hl hc
  obtain ⟨r, hr⟩ : ∃ r, smay ver wm li = r := ⟨_, rfl⟩
  rw [hr]
  unfold smay at hr
  by_cases h1 : 0 < ver
  · rw [decide_eq_true h1, Bool.true_and] at hr
    by_cases h2 : 0 ≤ wm
    · rw [decide_eq_true h2, Bool.true_and] at hr
      by_cases h3 : wm ≤ 65536
      · rw [decide_eq_true h3, Bool.true_and] at hr
        subst hr
        have d1 := decide_eq_true h1
        have d2 := decide_eq_true h2
        have d3 := decide_eq_true h3
        go_enter Try.func22, Try.ntmps22
        go_wp2_with (first
          | ((with_reducible refine gate_dst (N := 1) rfl ?_); refine box_event ?hg (N := 1) ?hd (cs := S) (t := 36) ?hr ?_; (case hd => rfl); (case hg => rfl); (case hr => first | (go_simp; done) | (go_simp; rfl)); intro gS hg w1_S hbox hb; have GGS := Aside0.mk (show w.heap.size ≤ gS from by rw [hg]; exact below_size (by repeat (first | (with_reducible first | exact HB.out | apply below_alloc | apply pw_below_drewN | apply below_drew1) | exact HB.out))); have BKS := Aside0.mk hbox; clear hbox hg; have n0_ := Aside0.mk (below_step (by repeat (first | (with_reducible first | exact HB.out | apply below_alloc | apply pw_below_drewN | apply below_drew1) | exact HB.out)) hb); clear HB; have HB := n0_; clear n0_ hb; have s9 := (blk_cell BKS.out 9).trans HS.out.wm; have s40 := (blk_cell BKS.out 40).trans HS.out.ver; have s46 := (blk_cell BKS.out 46).trans HS.out.ins)
          | (go_at_call 28; with_reducible refine (May.calls Ai ci li _ (Kd.C_below HL.out (by repeat (first | (with_reducible first | exact HB.out | apply below_alloc | apply pw_below_drewN | apply below_drew1) | exact HB.out))) HC.out).mono ?_; rintro e w' ⟨rfl, hb⟩; have n0_ := Aside0.mk (below_step (by repeat (first | (with_reducible first | exact HB.out | apply below_alloc | apply pw_below_drewN | apply below_drew1) | exact HB.out)) hb); clear HB; have HB := n0_; clear n0_ hb))
        go_ret
        exact ⟨rfl, by repeat (first | (with_reducible first | exact HB.out | apply below_alloc | apply pw_below_drewN | apply below_drew1) | exact HB.out)⟩
      · rw [decide_eq_false h3, Bool.false_and] at hr
        subst hr
        have d1 := decide_eq_true h1
        have d2 := decide_eq_true h2
        have d3 := decide_eq_false h3
        clear h3
        go_enter Try.func22, Try.ntmps22
        go_wp2_with (first
          | ((with_reducible refine gate_dst (N := 1) rfl ?_); refine box_event ?hg (N := 1) ?hd (cs := S) (t := 36) ?hr ?_; (case hd => rfl); (case hg => rfl); (case hr => first | (go_simp; done) | (go_simp; rfl)); intro gS hg w1_S hbox hb; have GGS := Aside0.mk (show w.heap.size ≤ gS from by rw [hg]; exact below_size (by repeat (first | (with_reducible first | exact HB.out | apply below_alloc | apply pw_below_drewN | apply below_drew1) | exact HB.out))); have BKS := Aside0.mk hbox; clear hbox hg; have n0_ := Aside0.mk (below_step (by repeat (first | (with_reducible first | exact HB.out | apply below_alloc | apply pw_below_drewN | apply below_drew1) | exact HB.out)) hb); clear HB; have HB := n0_; clear n0_ hb; have s9 := (blk_cell BKS.out 9).trans HS.out.wm; have s40 := (blk_cell BKS.out 40).trans HS.out.ver; have s46 := (blk_cell BKS.out 46).trans HS.out.ins))
        go_ret
        exact ⟨rfl, by repeat (first | (with_reducible first | exact HB.out | apply below_alloc | apply pw_below_drewN | apply below_drew1) | exact HB.out)⟩
    · rw [decide_eq_false h2, Bool.false_and] at hr
      subst hr
      have d1 := decide_eq_true h1
      have d2 := decide_eq_false h2
      clear h2
      go_enter Try.func22, Try.ntmps22
      go_wp2_with (first
        | ((with_reducible refine gate_dst (N := 1) rfl ?_); refine box_event ?hg (N := 1) ?hd (cs := S) (t := 36) ?hr ?_; (case hd => rfl); (case hg => rfl); (case hr => first | (go_simp; done) | (go_simp; rfl)); intro gS hg w1_S hbox hb; have GGS := Aside0.mk (show w.heap.size ≤ gS from by rw [hg]; exact below_size (by repeat (first | (with_reducible first | exact HB.out | apply below_alloc | apply pw_below_drewN | apply below_drew1) | exact HB.out))); have BKS := Aside0.mk hbox; clear hbox hg; have n0_ := Aside0.mk (below_step (by repeat (first | (with_reducible first | exact HB.out | apply below_alloc | apply pw_below_drewN | apply below_drew1) | exact HB.out)) hb); clear HB; have HB := n0_; clear n0_ hb; have s9 := (blk_cell BKS.out 9).trans HS.out.wm; have s40 := (blk_cell BKS.out 40).trans HS.out.ver; have s46 := (blk_cell BKS.out 46).trans HS.out.ins))
      go_ret
      exact ⟨rfl, by repeat (first | (with_reducible first | exact HB.out | apply below_alloc | apply pw_below_drewN | apply below_drew1) | exact HB.out)⟩
  · rw [decide_eq_false h1, Bool.false_and] at hr
    subst hr
    have d1 := decide_eq_false h1
    clear h1
    go_enter Try.func22, Try.ntmps22
    go_wp2_with (first
      | ((with_reducible refine gate_dst (N := 1) rfl ?_); refine box_event ?hg (N := 1) ?hd (cs := S) (t := 36) ?hr ?_; (case hd => rfl); (case hg => rfl); (case hr => first | (go_simp; done) | (go_simp; rfl)); intro gS hg w1_S hbox hb; have GGS := Aside0.mk (show w.heap.size ≤ gS from by rw [hg]; exact below_size (by repeat (first | (with_reducible first | exact HB.out | apply below_alloc | apply pw_below_drewN | apply below_drew1) | exact HB.out))); have BKS := Aside0.mk hbox; clear hbox hg; have n0_ := Aside0.mk (below_step (by repeat (first | (with_reducible first | exact HB.out | apply below_alloc | apply pw_below_drewN | apply below_drew1) | exact HB.out)) hb); clear HB; have HB := n0_; clear n0_ hb; have s9 := (blk_cell BKS.out 9).trans HS.out.wm; have s40 := (blk_cell BKS.out 40).trans HS.out.ver; have s46 := (blk_cell BKS.out 46).trans HS.out.ins))
    go_ret
    exact ⟨rfl, by repeat (first | (with_reducible first | exact HB.out | apply below_alloc | apply pw_below_drewN | apply below_drew1) | exact HB.out)⟩

/-- what is answered of the first that is warm, and of which p holds -/
def firstR (ver wm : Int) (li : List S42) (p : S42 → Bool) : Int × Bool :=
  if smay ver wm li = true then (if firstAt (fun x => (x.f5 == 8) && p x) li < li.length then ((rd_T42 li (firstAt (fun x => (x.f5 == 8) && p x) li : Nat)).f0, true) else (0, false)) else (0, false)

set_option maxHeartbeats 8000000 in
set_option maxRecDepth 100000 in
theorem first.calls (S : Array Value) (ver wm : Int) (on st : Bool) (Ai : Option Addr) (ci : Nat) (li : List S42) (Ao : Option Addr) (co : Nat) (lo : List S69) (hS : ST S ver wm on st Ai ci li Ao co lo) (g : Nat) (caps : Array Value) (p : S42 → Bool) (w : World) (hl : Kd.C k42 w Ai li.length li) (hc : li.length ≤ ci) (hm : li.length < 9223372036854775807) (eg : ∀ args w, (callFunc g args).run Try.prog w = .ok (.enter g args) w) (hp : Tells g caps p w) :
    Calls Try.prog 13 #[.agg S, .func (.func g) #[] caps] w fun e w' => e = .returned (.tuple #[.int .u64 (firstR ver wm li p).1, .bool (firstR ver wm li p).2]) ∧ Below w.heap.size w w' := by
  have HS := Aside0.mk hS
  clear hS
  have HB := Aside0.mk (Below.refl w.heap.size w)
  have HL := Aside0.mk hl
  have HC := Aside0.mk hc
  have HM := Aside0.mk hm
  have HP : Aside0 (Tells g caps p w) := Aside0.mk hp
  have EG := Aside0.mk eg
  clear hl hp eg hm
  obtain ⟨r, hr⟩ : ∃ r, firstR ver wm li p = r := ⟨_, rfl⟩
  rw [hr]
  unfold firstR at hr
  obtain ⟨m, hmm⟩ : ∃ m, smay ver wm li = m := ⟨_, rfl⟩
  have HMY := Aside0.mk hmm
  rw [hmm] at hr
  clear hmm
  cases m
  · rw [if_neg (by decide)] at hr
    subst hr
    go_enter Try.func13, Try.ntmps13
    go_wp2_with (first
      | ((with_reducible refine gate_dst (N := 2) rfl ?_); refine box_event ?hg (N := 2) ?hd (cs := S) (t := 36) ?hr ?_; (case hd => rfl); (case hg => rfl); (case hr => first | (go_simp; done) | (go_simp; rfl)); intro gS hg w1_S hbox hb; have GGS := Aside0.mk (show w.heap.size ≤ gS from by rw [hg]; exact below_size (by repeat (first | (with_reducible first | exact HB.out | apply below_alloc | apply pw_below_drewN | apply below_drew1) | exact HB.out))); have BKS := Aside0.mk hbox; clear hbox hg; have n0_ := Aside0.mk (below_step (by repeat (first | (with_reducible first | exact HB.out | apply below_alloc | apply pw_below_drewN | apply below_drew1) | exact HB.out)) hb); clear HB; have HB := n0_; clear n0_ hb)
      | ((with_reducible refine gate_dst (N := 3) rfl ?_); refine box_event ?hg (N := 3) ?hd (cs := #[.func (.func g) #[] caps]) (t := 53) ?hr ?_; (case hd => rfl); (case hg => rfl); (case hr => first | (go_simp; done) | (go_simp; rfl)); intro gF hg w1_F hbox hb; have GGF := Aside0.mk (show w.heap.size ≤ gF from by rw [hg]; exact below_size (by repeat (first | (with_reducible first | exact HB.out | apply below_alloc | apply pw_below_drewN | apply below_drew1) | exact HB.out))); have BKF := Aside0.mk hbox; clear hbox hg; have n0_ := Aside0.mk (below_step (by repeat (first | (with_reducible first | exact HB.out | apply below_alloc | apply pw_below_drewN | apply below_drew1) | exact HB.out)) hb); (first | have n1_ := Aside0.mk (blk_below BKS.out hb) | have n1_ := Aside0.mk (blk_below (blk_drewN BKS.out _) hb) | have n1_ := Aside0.mk (blk_below (blk_drew BKS.out) hb) | have n1_ := Aside0.mk (blk_below (blk_alloc BKS.out _) hb) | have n1_ := Aside0.mk (blk_below (by first | exact BKS.out | ((with_reducible repeat (first | refine blk_drewN ?_ _ | refine blk_drew ?_ | refine blk_alloc ?_ _)); exact BKS.out)) hb)); clear HB BKS; have HB := n0_; have BKS := n1_; clear n0_ n1_ hb)
      | ((with_reducible refine gate_dst (N := 7) rfl ?_); refine wpList_load_row rfl 36 (.tmp 2) rfl gS rfl 36 S (0, 0) _ (by first | exact BKS.out | ((with_reducible repeat (first | refine blk_drewN ?_ _ | refine blk_drew ?_ | refine blk_alloc ?_ _)); exact BKS.out)) Try.underlying36 rfl HS.out.info ?_)
      | (go_at_call 22; with_reducible refine (wmay.calls S ver wm on st Ai ci li Ao co lo HS.out _ (Kd.C_below HL.out (by repeat (first | (with_reducible first | exact HB.out | apply below_alloc | apply pw_below_drewN | apply below_drew1) | exact HB.out))) HC.out).mono ?_; rw [HMY.out]; rintro e w' ⟨rfl, hb⟩; have n0_ := Aside0.mk (below_step (by repeat (first | (with_reducible first | exact HB.out | apply below_alloc | apply pw_below_drewN | apply below_drew1) | exact HB.out)) hb); (first | have n1_ := Aside0.mk (blk_below BKS.out hb) | have n1_ := Aside0.mk (blk_below (blk_drewN BKS.out _) hb) | have n1_ := Aside0.mk (blk_below (blk_drew BKS.out) hb) | have n1_ := Aside0.mk (blk_below (blk_alloc BKS.out _) hb) | have n1_ := Aside0.mk (blk_below (by first | exact BKS.out | ((with_reducible repeat (first | refine blk_drewN ?_ _ | refine blk_drew ?_ | refine blk_alloc ?_ _)); exact BKS.out)) hb)); (first | have n2_ := Aside0.mk (blk_below BKF.out hb) | have n2_ := Aside0.mk (blk_below (blk_drewN BKF.out _) hb) | have n2_ := Aside0.mk (blk_below (blk_drew BKF.out) hb) | have n2_ := Aside0.mk (blk_below (blk_alloc BKF.out _) hb) | have n2_ := Aside0.mk (blk_below (by first | exact BKF.out | ((with_reducible repeat (first | refine blk_drewN ?_ _ | refine blk_drew ?_ | refine blk_alloc ?_ _)); exact BKF.out)) hb)); clear HB BKS BKF; have HB := n0_; have BKS := n1_; have BKF := n2_; clear n0_ n1_ n2_ hb; have s46 := (blk_cell BKS.out 46).trans HS.out.ins))
    go_ret2
    exact ⟨rfl, by repeat (first | (with_reducible first | exact HB.out | apply below_alloc | apply pw_below_drewN | apply below_drew1) | exact HB.out)⟩
  · rw [if_pos rfl] at hr
    by_cases hi : firstAt (fun x => (x.f5 == 8) && p x) li < li.length
    · rw [if_pos hi] at hr
      subst hr
      have HI : Aside0 (firstI (fun x => (x.f5 == 8) && p x) li = ((firstAt (fun x => (x.f5 == 8) && p x) li : Nat) : Int)) := ⟨if_pos hi⟩
      generalize firstAt (fun x => (x.f5 == 8) && p x) li = i at hi HI ⊢
      have i1 : (0 : Int) ≤ (i : Int) := by omega
      have i2 : (i : Int) < (li.length : Int) := by omega
      have i3 : ¬ (i : Int) < 0 := by omega
      have i4 : decide ((i : Int) < 0) = false := decide_eq_false i3
      obtain ⟨ad, e, x0, -⟩ := at_T42 HL.out (i : Int) i1 i2
      cases e
      rw [Int.toNat_natCast] at x0
      have X0 := Aside0.mk x0
      clear x0
      go_enter Try.func13, Try.ntmps13
      go_wp2_with (first
        | ((with_reducible refine gate_dst (N := 2) rfl ?_); refine box_event ?hg (N := 2) ?hd (cs := S) (t := 36) ?hr ?_; (case hd => rfl); (case hg => rfl); (case hr => first | (go_simp; done) | (go_simp; rfl)); intro gS hg w1_S hbox hb; have GGS := Aside0.mk (show w.heap.size ≤ gS from by rw [hg]; exact below_size (by repeat (first | (with_reducible first | exact HB.out | apply below_alloc | apply pw_below_drewN | apply below_drew1) | exact HB.out))); have BKS := Aside0.mk hbox; clear hbox hg; have n0_ := Aside0.mk (below_step (by repeat (first | (with_reducible first | exact HB.out | apply below_alloc | apply pw_below_drewN | apply below_drew1) | exact HB.out)) hb); clear HB; have HB := n0_; clear n0_ hb)
        | ((with_reducible refine gate_dst (N := 3) rfl ?_); refine box_event ?hg (N := 3) ?hd (cs := #[.func (.func g) #[] caps]) (t := 53) ?hr ?_; (case hd => rfl); (case hg => rfl); (case hr => first | (go_simp; done) | (go_simp; rfl)); intro gF hg w1_F hbox hb; have GGF := Aside0.mk (show w.heap.size ≤ gF from by rw [hg]; exact below_size (by repeat (first | (with_reducible first | exact HB.out | apply below_alloc | apply pw_below_drewN | apply below_drew1) | exact HB.out))); have BKF := Aside0.mk hbox; clear hbox hg; have n0_ := Aside0.mk (below_step (by repeat (first | (with_reducible first | exact HB.out | apply below_alloc | apply pw_below_drewN | apply below_drew1) | exact HB.out)) hb); (first | have n1_ := Aside0.mk (blk_below BKS.out hb) | have n1_ := Aside0.mk (blk_below (blk_drewN BKS.out _) hb) | have n1_ := Aside0.mk (blk_below (blk_drew BKS.out) hb) | have n1_ := Aside0.mk (blk_below (blk_alloc BKS.out _) hb) | have n1_ := Aside0.mk (blk_below (by first | exact BKS.out | ((with_reducible repeat (first | refine blk_drewN ?_ _ | refine blk_drew ?_ | refine blk_alloc ?_ _)); exact BKS.out)) hb)); clear HB BKS; have HB := n0_; have BKS := n1_; clear n0_ n1_ hb)
        | ((with_reducible refine gate_dst (N := 7) rfl ?_); refine wpList_load_row rfl 36 (.tmp 2) rfl gS rfl 36 S (0, 0) _ (by first | exact BKS.out | ((with_reducible repeat (first | refine blk_drewN ?_ _ | refine blk_drew ?_ | refine blk_alloc ?_ _)); exact BKS.out)) Try.underlying36 rfl HS.out.info ?_)
        | (go_at_call 22; with_reducible refine (wmay.calls S ver wm on st (some ad) ci li Ao co lo HS.out _ (Kd.C_below HL.out (by repeat (first | (with_reducible first | exact HB.out | apply below_alloc | apply pw_below_drewN | apply below_drew1) | exact HB.out))) HC.out).mono ?_; rw [HMY.out]; rintro e w' ⟨rfl, hb⟩; have n0_ := Aside0.mk (below_step (by repeat (first | (with_reducible first | exact HB.out | apply below_alloc | apply pw_below_drewN | apply below_drew1) | exact HB.out)) hb); (first | have n1_ := Aside0.mk (blk_below BKS.out hb) | have n1_ := Aside0.mk (blk_below (blk_drewN BKS.out _) hb) | have n1_ := Aside0.mk (blk_below (blk_drew BKS.out) hb) | have n1_ := Aside0.mk (blk_below (blk_alloc BKS.out _) hb) | have n1_ := Aside0.mk (blk_below (by first | exact BKS.out | ((with_reducible repeat (first | refine blk_drewN ?_ _ | refine blk_drew ?_ | refine blk_alloc ?_ _)); exact BKS.out)) hb)); (first | have n2_ := Aside0.mk (blk_below BKF.out hb) | have n2_ := Aside0.mk (blk_below (blk_drewN BKF.out _) hb) | have n2_ := Aside0.mk (blk_below (blk_drew BKF.out) hb) | have n2_ := Aside0.mk (blk_below (blk_alloc BKF.out _) hb) | have n2_ := Aside0.mk (blk_below (by first | exact BKF.out | ((with_reducible repeat (first | refine blk_drewN ?_ _ | refine blk_drew ?_ | refine blk_alloc ?_ _)); exact BKF.out)) hb)); clear HB BKS BKF; have HB := n0_; have BKS := n1_; have BKF := n2_; clear n0_ n1_ n2_ hb; have s46 := (blk_cell BKS.out 46).trans HS.out.ins)
        | (go_at_call 23; with_reducible refine (IndexFunc.calls (some ad) ci li 24 #[.pointer (some ⟨gF, 0, none⟩)] (fun x => (x.f5 == 8) && p x) _ (Kd.C_below HL.out (by repeat (first | (with_reducible first | exact HB.out | apply below_alloc | apply pw_below_drewN | apply below_drew1) | exact HB.out))) HC.out HM.out enters24 (first1.tells gF g caps p _ (by first | exact BKF.out | ((with_reducible repeat (first | refine blk_drewN ?_ _ | refine blk_drew ?_ | refine blk_alloc ?_ _)); exact BKF.out)) EG.out (HP.out.below (by repeat (first | (with_reducible first | exact HB.out | apply below_alloc | apply pw_below_drewN | apply below_drew1) | exact HB.out))))).mono ?_; rw [HI.out]; rintro e w' ⟨rfl, hb⟩; have n0_ := Aside0.mk (below_step (by repeat (first | (with_reducible first | exact HB.out | apply below_alloc | apply pw_below_drewN | apply below_drew1) | exact HB.out)) hb); (first | have n1_ := Aside0.mk (blk_below BKS.out hb) | have n1_ := Aside0.mk (blk_below (blk_drewN BKS.out _) hb) | have n1_ := Aside0.mk (blk_below (blk_drew BKS.out) hb) | have n1_ := Aside0.mk (blk_below (blk_alloc BKS.out _) hb) | have n1_ := Aside0.mk (blk_below (by first | exact BKS.out | ((with_reducible repeat (first | refine blk_drewN ?_ _ | refine blk_drew ?_ | refine blk_alloc ?_ _)); exact BKS.out)) hb)); (first | have n2_ := Aside0.mk (blk_below BKF.out hb) | have n2_ := Aside0.mk (blk_below (blk_drewN BKF.out _) hb) | have n2_ := Aside0.mk (blk_below (blk_drew BKF.out) hb) | have n2_ := Aside0.mk (blk_below (blk_alloc BKF.out _) hb) | have n2_ := Aside0.mk (blk_below (by first | exact BKF.out | ((with_reducible repeat (first | refine blk_drewN ?_ _ | refine blk_drew ?_ | refine blk_alloc ?_ _)); exact BKF.out)) hb)); clear HB BKS BKF; have HB := n0_; have BKS := n1_; have BKF := n2_; clear n0_ n1_ n2_ hb; have s46 := (blk_cell BKS.out 46).trans HS.out.ins; have x0 := pw_cell_below HB.out X0.out))
      go_ret2
      exact ⟨rfl, by repeat (first | (with_reducible first | exact HB.out | apply below_alloc | apply pw_below_drewN | apply below_drew1) | exact HB.out)⟩
    · rw [if_neg hi] at hr
      subst hr
      have HI : Aside0 (firstI (fun x => (x.f5 == 8) && p x) li = -1) := ⟨if_neg hi⟩
      clear hi
      go_enter Try.func13, Try.ntmps13
      go_wp2_with (first
        | ((with_reducible refine gate_dst (N := 2) rfl ?_); refine box_event ?hg (N := 2) ?hd (cs := S) (t := 36) ?hr ?_; (case hd => rfl); (case hg => rfl); (case hr => first | (go_simp; done) | (go_simp; rfl)); intro gS hg w1_S hbox hb; have GGS := Aside0.mk (show w.heap.size ≤ gS from by rw [hg]; exact below_size (by repeat (first | (with_reducible first | exact HB.out | apply below_alloc | apply pw_below_drewN | apply below_drew1) | exact HB.out))); have BKS := Aside0.mk hbox; clear hbox hg; have n0_ := Aside0.mk (below_step (by repeat (first | (with_reducible first | exact HB.out | apply below_alloc | apply pw_below_drewN | apply below_drew1) | exact HB.out)) hb); clear HB; have HB := n0_; clear n0_ hb)
        | ((with_reducible refine gate_dst (N := 3) rfl ?_); refine box_event ?hg (N := 3) ?hd (cs := #[.func (.func g) #[] caps]) (t := 53) ?hr ?_; (case hd => rfl); (case hg => rfl); (case hr => first | (go_simp; done) | (go_simp; rfl)); intro gF hg w1_F hbox hb; have GGF := Aside0.mk (show w.heap.size ≤ gF from by rw [hg]; exact below_size (by repeat (first | (with_reducible first | exact HB.out | apply below_alloc | apply pw_below_drewN | apply below_drew1) | exact HB.out))); have BKF := Aside0.mk hbox; clear hbox hg; have n0_ := Aside0.mk (below_step (by repeat (first | (with_reducible first | exact HB.out | apply below_alloc | apply pw_below_drewN | apply below_drew1) | exact HB.out)) hb); (first | have n1_ := Aside0.mk (blk_below BKS.out hb) | have n1_ := Aside0.mk (blk_below (blk_drewN BKS.out _) hb) | have n1_ := Aside0.mk (blk_below (blk_drew BKS.out) hb) | have n1_ := Aside0.mk (blk_below (blk_alloc BKS.out _) hb) | have n1_ := Aside0.mk (blk_below (by first | exact BKS.out | ((with_reducible repeat (first | refine blk_drewN ?_ _ | refine blk_drew ?_ | refine blk_alloc ?_ _)); exact BKS.out)) hb)); clear HB BKS; have HB := n0_; have BKS := n1_; clear n0_ n1_ hb)
        | ((with_reducible refine gate_dst (N := 7) rfl ?_); refine wpList_load_row rfl 36 (.tmp 2) rfl gS rfl 36 S (0, 0) _ (by first | exact BKS.out | ((with_reducible repeat (first | refine blk_drewN ?_ _ | refine blk_drew ?_ | refine blk_alloc ?_ _)); exact BKS.out)) Try.underlying36 rfl HS.out.info ?_)
        | (go_at_call 22; with_reducible refine (wmay.calls S ver wm on st Ai ci li Ao co lo HS.out _ (Kd.C_below HL.out (by repeat (first | (with_reducible first | exact HB.out | apply below_alloc | apply pw_below_drewN | apply below_drew1) | exact HB.out))) HC.out).mono ?_; rw [HMY.out]; rintro e w' ⟨rfl, hb⟩; have n0_ := Aside0.mk (below_step (by repeat (first | (with_reducible first | exact HB.out | apply below_alloc | apply pw_below_drewN | apply below_drew1) | exact HB.out)) hb); (first | have n1_ := Aside0.mk (blk_below BKS.out hb) | have n1_ := Aside0.mk (blk_below (blk_drewN BKS.out _) hb) | have n1_ := Aside0.mk (blk_below (blk_drew BKS.out) hb) | have n1_ := Aside0.mk (blk_below (blk_alloc BKS.out _) hb) | have n1_ := Aside0.mk (blk_below (by first | exact BKS.out | ((with_reducible repeat (first | refine blk_drewN ?_ _ | refine blk_drew ?_ | refine blk_alloc ?_ _)); exact BKS.out)) hb)); (first | have n2_ := Aside0.mk (blk_below BKF.out hb) | have n2_ := Aside0.mk (blk_below (blk_drewN BKF.out _) hb) | have n2_ := Aside0.mk (blk_below (blk_drew BKF.out) hb) | have n2_ := Aside0.mk (blk_below (blk_alloc BKF.out _) hb) | have n2_ := Aside0.mk (blk_below (by first | exact BKF.out | ((with_reducible repeat (first | refine blk_drewN ?_ _ | refine blk_drew ?_ | refine blk_alloc ?_ _)); exact BKF.out)) hb)); clear HB BKS BKF; have HB := n0_; have BKS := n1_; have BKF := n2_; clear n0_ n1_ n2_ hb; have s46 := (blk_cell BKS.out 46).trans HS.out.ins)
        | (go_at_call 23; with_reducible refine (IndexFunc.calls Ai ci li 24 #[.pointer (some ⟨gF, 0, none⟩)] (fun x => (x.f5 == 8) && p x) _ (Kd.C_below HL.out (by repeat (first | (with_reducible first | exact HB.out | apply below_alloc | apply pw_below_drewN | apply below_drew1) | exact HB.out))) HC.out HM.out enters24 (first1.tells gF g caps p _ (by first | exact BKF.out | ((with_reducible repeat (first | refine blk_drewN ?_ _ | refine blk_drew ?_ | refine blk_alloc ?_ _)); exact BKF.out)) EG.out (HP.out.below (by repeat (first | (with_reducible first | exact HB.out | apply below_alloc | apply pw_below_drewN | apply below_drew1) | exact HB.out))))).mono ?_; rw [HI.out]; rintro e w' ⟨rfl, hb⟩; have n0_ := Aside0.mk (below_step (by repeat (first | (with_reducible first | exact HB.out | apply below_alloc | apply pw_below_drewN | apply below_drew1) | exact HB.out)) hb); (first | have n1_ := Aside0.mk (blk_below BKS.out hb) | have n1_ := Aside0.mk (blk_below (blk_drewN BKS.out _) hb) | have n1_ := Aside0.mk (blk_below (blk_drew BKS.out) hb) | have n1_ := Aside0.mk (blk_below (blk_alloc BKS.out _) hb) | have n1_ := Aside0.mk (blk_below (by first | exact BKS.out | ((with_reducible repeat (first | refine blk_drewN ?_ _ | refine blk_drew ?_ | refine blk_alloc ?_ _)); exact BKS.out)) hb)); (first | have n2_ := Aside0.mk (blk_below BKF.out hb) | have n2_ := Aside0.mk (blk_below (blk_drewN BKF.out _) hb) | have n2_ := Aside0.mk (blk_below (blk_drew BKF.out) hb) | have n2_ := Aside0.mk (blk_below (blk_alloc BKF.out _) hb) | have n2_ := Aside0.mk (blk_below (by first | exact BKF.out | ((with_reducible repeat (first | refine blk_drewN ?_ _ | refine blk_drew ?_ | refine blk_alloc ?_ _)); exact BKF.out)) hb)); clear HB BKS BKF; have HB := n0_; have BKS := n1_; have BKF := n2_; clear n0_ n1_ n2_ hb; have s46 := (blk_cell BKS.out 46).trans HS.out.ins))
      go_ret2
      exact ⟨rfl, by repeat (first | (with_reducible first | exact HB.out | apply below_alloc | apply pw_below_drewN | apply below_drew1) | exact HB.out)⟩

end Go.Proofs.Ytglpedacanjpbaa.GA
