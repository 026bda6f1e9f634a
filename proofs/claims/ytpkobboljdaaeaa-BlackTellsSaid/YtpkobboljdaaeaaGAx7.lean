/- Contracts: each call of a Go function answers what the Lean function of its name says; a law of the set follows. No condition but each theorem's own. Written by a program of this session's out of the translation, with the functions proved by hand let in. -/
import Derived.Test.YtpkobboljdaaeaaGAx0
import Derived.Test.YtpkobboljdaaeaaGAx6
namespace Go.Proofs.Ytpkobboljdaaeaa.GA
open Go.RowKit Go.Proofs.YtpkobboljdaaeaaW.PrintWords Go.Proofs.YtpkobboljdaaeaaW.PrintLast Go.Proofs.YtpkobboljdaaeaaW.PrintMore
attribute [local go_sem] max2_int min2_int max_two min_two max_three min_three max_four min_four   -- for this text's walks alone
set_option linter.unusedVariables false
set_option linter.unusedSimpArgs false

/-! ### cohortref14_Opens: function 20 -/
mutual
def cohortref14_Opens.l0 : Nat → List (S31) → Bool → Int → List Int → Int → List (S56) → Int → Int → Bool → Int → Int → Int → Int → Int → Int → Int → Int → Int → Int → Int → Int → Bool → Int → List (S75) → List (S77) → Option (List Int)
  | 0, _, _, _, _, _, _, _, _, _, _, _, _, _, _, _, _, _, _, _, _, _, _, _, _, _ => none
  | k + 1, x1, x2, x3, x9, x10, x159000, x159001, x159002, x159003, x159004, x159005, x159006, x159007, x159008, x159009, x159010, x159011, x159012, x159013, x159014, x159015, x159016, x159017, x159018, x159019 => if x10 < (x159000.length : Int) then (cohortref14_Opens.j1 k x1 x2 x3 x9 x10 (decide (x10 < (x1.length : Int))) x159000 x159001 x159002 x159003 x159004 x159005 x159006 x159007 x159008 x159009 x159010 x159011 x159012 x159013 x159014 x159015 x159016 x159017 x159018 x159019) else (cohortref14_Opens.j1 k x1 x2 x3 x9 x10 false x159000 x159001 x159002 x159003 x159004 x159005 x159006 x159007 x159008 x159009 x159010 x159011 x159012 x159013 x159014 x159015 x159016 x159017 x159018 x159019)
def cohortref14_Opens.j1 : Nat → List (S31) → Bool → Int → List Int → Int → Bool → List (S56) → Int → Int → Bool → Int → Int → Int → Int → Int → Int → Int → Int → Int → Int → Int → Int → Bool → Int → List (S75) → List (S77) → Option (List Int)
  | 0, _, _, _, _, _, _, _, _, _, _, _, _, _, _, _, _, _, _, _, _, _, _, _, _, _, _ => none
  | k + 1, x1, x2, x3, x9, x10, x21, x159000, x159001, x159002, x159003, x159004, x159005, x159006, x159007, x159008, x159009, x159010, x159011, x159012, x159013, x159014, x159015, x159016, x159017, x159018, x159019 => if x21 = true then (if 0 ≤ x10 then (if x10 < (x159000.length : Int) then (if (((rd_T56 x159000 x10).f1) == x2) = true then ((cohortref14_IsOpen.f x1 x10 x3).bind fun t160 => (if t160 = true then (if x9.length < 17592186044416 then (cohortref14_Opens.l0 k x1 x2 x3 (x9 ++ [x10]) (wrap64 (x10 + 1)) x159000 x159001 x159002 x159003 x159004 x159005 x159006 x159007 x159008 x159009 x159010 x159011 x159012 x159013 x159014 x159015 x159016 x159017 x159018 x159019) else (none)) else (cohortref14_Opens.l0 k x1 x2 x3 x9 (wrap64 (x10 + 1)) x159000 x159001 x159002 x159003 x159004 x159005 x159006 x159007 x159008 x159009 x159010 x159011 x159012 x159013 x159014 x159015 x159016 x159017 x159018 x159019))) else (cohortref14_Opens.l0 k x1 x2 x3 x9 (wrap64 (x10 + 1)) x159000 x159001 x159002 x159003 x159004 x159005 x159006 x159007 x159008 x159009 x159010 x159011 x159012 x159013 x159014 x159015 x159016 x159017 x159018 x159019)) else (none)) else (none)) else (some x9)
end
def cohortref14_Opens.f (k : Nat) (l0_0 : List (S56)) (a0_1 : Int) (a0_2 : Int) (a0_3 : Bool) (a0_4 : Int) (a0_5 : Int) (a0_6 : Int) (a0_7 : Int) (a0_8 : Int) (a0_9 : Int) (a0_10 : Int) (a0_11 : Int) (a0_12 : Int) (a0_13 : Int) (a0_14 : Int) (a0_15 : Int) (a0_16 : Bool) (a0_17 : Int) (l0_18 : List (S75)) (l0_19 : List (S77)) (l1 : List (S31)) (a2 : Bool) (a3 : Int) : Option (List Int) := cohortref14_Opens.l0 k l1 a2 a3 ([] : List Int) 0 l0_0 a0_1 a0_2 a0_3 a0_4 a0_5 a0_6 a0_7 a0_8 a0_9 a0_10 a0_11 a0_12 a0_13 a0_14 a0_15 a0_16 a0_17 l0_18 l0_19
theorem cohortref14_Opens.mono_l : ∀ k, (∀ y0 y1 y2 y3 y4 y5 y6 y7 y8 y9 y10 y11 y12 y13 y14 y15 y16 y17 y18 y19 y20 y21 y22 y23 y24, LeO (cohortref14_Opens.l0 k y0 y1 y2 y3 y4 y5 y6 y7 y8 y9 y10 y11 y12 y13 y14 y15 y16 y17 y18 y19 y20 y21 y22 y23 y24) (cohortref14_Opens.l0 (k + 1) y0 y1 y2 y3 y4 y5 y6 y7 y8 y9 y10 y11 y12 y13 y14 y15 y16 y17 y18 y19 y20 y21 y22 y23 y24)) ∧ (∀ y0 y1 y2 y3 y4 y5 y6 y7 y8 y9 y10 y11 y12 y13 y14 y15 y16 y17 y18 y19 y20 y21 y22 y23 y24 y25, LeO (cohortref14_Opens.j1 k y0 y1 y2 y3 y4 y5 y6 y7 y8 y9 y10 y11 y12 y13 y14 y15 y16 y17 y18 y19 y20 y21 y22 y23 y24 y25) (cohortref14_Opens.j1 (k + 1) y0 y1 y2 y3 y4 y5 y6 y7 y8 y9 y10 y11 y12 y13 y14 y15 y16 y17 y18 y19 y20 y21 y22 y23 y24 y25))
  | 0 => ⟨fun _ _ _ _ _ _ _ _ _ _ _ _ _ _ _ _ _ _ _ _ _ _ _ _ _ r h => by simp [cohortref14_Opens.l0] at h, fun _ _ _ _ _ _ _ _ _ _ _ _ _ _ _ _ _ _ _ _ _ _ _ _ _ _ r h => by simp [cohortref14_Opens.j1] at h⟩
  | k + 1 => by
    obtain ⟨ih0, ih1⟩ := cohortref14_Opens.mono_l k
    refine ⟨?_, ?_⟩
    · intro y0 y1 y2 y3 y4 y5 y6 y7 y8 y9 y10 y11 y12 y13 y14 y15 y16 y17 y18 y19 y20 y21 y22 y23 y24
      unfold cohortref14_Opens.l0
      repeat' first
      | (with_reducible exact ih0 _ _ _ _ _ _ _ _ _ _ _ _ _ _ _ _ _ _ _ _ _ _ _ _ _)
      | (with_reducible exact ih1 _ _ _ _ _ _ _ _ _ _ _ _ _ _ _ _ _ _ _ _ _ _ _ _ _ _)
      | (with_reducible exact LeO.refl _)
      | (with_reducible exact LeO.none _)
      | (with_reducible refine LeO.ite ?_ ?_)
      | (with_reducible refine LeO.bind ?_ (fun _ => ?_))
      | exact ih0 _ _ _ _ _ _ _ _ _ _ _ _ _ _ _ _ _ _ _ _ _ _ _ _ _
      | exact ih1 _ _ _ _ _ _ _ _ _ _ _ _ _ _ _ _ _ _ _ _ _ _ _ _ _ _
      | exact LeO.none _
      | refine LeO.ite ?_ ?_
      | refine LeO.bind ?_ (fun _ => ?_)
    · intro y0 y1 y2 y3 y4 y5 y6 y7 y8 y9 y10 y11 y12 y13 y14 y15 y16 y17 y18 y19 y20 y21 y22 y23 y24 y25
      unfold cohortref14_Opens.j1
      repeat' first
      | (with_reducible exact ih0 _ _ _ _ _ _ _ _ _ _ _ _ _ _ _ _ _ _ _ _ _ _ _ _ _)
      | (with_reducible exact ih1 _ _ _ _ _ _ _ _ _ _ _ _ _ _ _ _ _ _ _ _ _ _ _ _ _ _)
      | (with_reducible exact LeO.refl _)
      | (with_reducible exact LeO.none _)
      | (with_reducible refine LeO.ite ?_ ?_)
      | (with_reducible refine LeO.bind ?_ (fun _ => ?_))
      | exact ih0 _ _ _ _ _ _ _ _ _ _ _ _ _ _ _ _ _ _ _ _ _ _ _ _ _
      | exact ih1 _ _ _ _ _ _ _ _ _ _ _ _ _ _ _ _ _ _ _ _ _ _ _ _ _ _
      | exact LeO.none _
      | refine LeO.ite ?_ ?_
      | refine LeO.bind ?_ (fun _ => ?_)
theorem cohortref14_Opens.mono : ∀ a0 a1 a2 a3 a4 a5 a6 a7 a8 a9 a10 a11 a12 a13 a14 a15 a16 a17 a18 a19 a20 a21 a22 k, LeO (cohortref14_Opens.f k a0 a1 a2 a3 a4 a5 a6 a7 a8 a9 a10 a11 a12 a13 a14 a15 a16 a17 a18 a19 a20 a21 a22) (cohortref14_Opens.f (k + 1) a0 a1 a2 a3 a4 a5 a6 a7 a8 a9 a10 a11 a12 a13 a14 a15 a16 a17 a18 a19 a20 a21 a22) := by
  intro a0 a1 a2 a3 a4 a5 a6 a7 a8 a9 a10 a11 a12 a13 a14 a15 a16 a17 a18 a19 a20 a21 a22 k
  obtain ⟨ih0, ih1⟩ := cohortref14_Opens.mono_l k
  unfold cohortref14_Opens.f
  repeat' first
      | (with_reducible exact ih0 _ _ _ _ _ _ _ _ _ _ _ _ _ _ _ _ _ _ _ _ _ _ _ _ _)
      | (with_reducible exact ih1 _ _ _ _ _ _ _ _ _ _ _ _ _ _ _ _ _ _ _ _ _ _ _ _ _ _)
      | (with_reducible exact LeO.refl _)
      | (with_reducible exact LeO.none _)
      | (with_reducible refine LeO.ite ?_ ?_)
      | (with_reducible refine LeO.bind ?_ (fun _ => ?_))
      | exact ih0 _ _ _ _ _ _ _ _ _ _ _ _ _ _ _ _ _ _ _ _ _ _ _ _ _
      | exact ih1 _ _ _ _ _ _ _ _ _ _ _ _ _ _ _ _ _ _ _ _ _ _ _ _ _ _
      | exact LeO.none _
      | refine LeO.ite ?_ ?_
      | refine LeO.bind ?_ (fun _ => ?_)
set_option maxHeartbeats 8000000 in
set_option maxRecDepth 100000 in
theorem cohortref14_Opens.calls (k : Nat) (A0_0 : Option Addr) (c0_0 : Nat) (l0_0 : List (S56)) (a0_1 : Int) (a0_2 : Int) (a0_3 : Bool) (a0_4 : Int) (a0_5 : Int) (a0_6 : Int) (a0_7 : Int) (a0_8 : Int) (a0_9 : Int) (a0_10 : Int) (a0_11 : Int) (a0_12 : Int) (a0_13 : Int) (a0_14 : Int) (a0_15 : Int) (a0_16 : Bool) (a0_17 : Int) (A0_18 : Option Addr) (c0_18 : Nat) (l0_18 : List (S75)) (A0_19 : Option Addr) (c0_19 : Nat) (l0_19 : List (S77)) (A1 : Option Addr) (c1 : Nat) (l1 : List (S31)) (a2 : Bool) (a3 : Int) (r : List Int) (w : World) (hr0_0 : Kd.C k56 w A0_0 l0_0.length l0_0) (hc0_0 : l0_0.length ≤ c0_0) (hr0_18 : Kd.C k75 w A0_18 l0_18.length l0_18) (hc0_18 : l0_18.length ≤ c0_18) (hr0_19 : Kd.C k77 w A0_19 l0_19.length l0_19) (hc0_19 : l0_19.length ≤ c0_19) (hr1 : Kd.C k31 w A1 l1.length l1) (hc1 : l1.length ≤ c1) (h : cohortref14_Opens.f k l0_0 a0_1 a0_2 a0_3 a0_4 a0_5 a0_6 a0_7 a0_8 a0_9 a0_10 a0_11 a0_12 a0_13 a0_14 a0_15 a0_16 a0_17 l0_18 l0_19 l1 a2 a3 = some r) :
    Calls Try.prog 20 #[.agg #[.slice A0_0 l0_0.length c0_0, .int .u8 a0_1, .int .i64 a0_2, .bool a0_3, .int .i64 a0_4, .int .i64 a0_5, .int .i64 a0_6, .int .i64 a0_7, .int .i64 a0_8, .int .i64 a0_9, .int .u64 a0_10, .int .u64 a0_11, .int .u64 a0_12, .int .u64 a0_13, .int .u64 a0_14, .int .u64 a0_15, .bool a0_16, .int .i64 a0_17, .slice A0_18 l0_18.length c0_18, .slice A0_19 l0_19.length c0_19], .slice A1 l1.length c1, .bool a2, .int .u64 a3] w fun e w' => ∃ v0_ : Value, e = .returned (v0_) ∧ Kd.R (Kd.int .i64) 3 w' w.heap.size (fun _ => True) v0_ r ∧ Below w.heap.size w w' := by
  have hu37 := Try.underlying37
  have HR0_0 := Aside0.mk hr0_0
  have HC0_0 := Aside0.mk hc0_0
  clear hr0_0 hc0_0
  have HR0_18 := Aside0.mk hr0_18
  have HC0_18 := Aside0.mk hc0_18
  clear hr0_18 hc0_18
  have HR0_19 := Aside0.mk hr0_19
  have HC0_19 := Aside0.mk hc0_19
  clear hr0_19 hc0_19
  have HR1 := Aside0.mk hr1
  have HC1 := Aside0.mk hc1
  clear hr1 hc1
  have HB := Aside0.mk (Below.refl w.heap.size w)
  have H : (cohortref14_Opens.l0 k l1 a2 a3 ([] : List Int) 0 l0_0 a0_1 a0_2 a0_3 a0_4 a0_5 a0_6 a0_7 a0_8 a0_9 a0_10 a0_11 a0_12 a0_13 a0_14 a0_15 a0_16 a0_17 l0_18 l0_19) = some r := h
  clear h
  have H' := Aside0.mk H
  clear H
  go_enter Try.func20, Try.ntmps20
  go_wp2_with (first | (refine wpList_load_row rfl 37 (.tmp 4) rfl gb158 rfl 37 _ (0, 0) _ BK158.out Try.underlying37 rfl (by kernel_rfl) ?_) | ((with_reducible refine gate_dst (N := 4) rfl ?_); (try (refine gate_guard (by rfl) ?_; dsimp only)); refine box_event ?hg (N := 4) ?hd (cs := #[.slice A0_0 l0_0.length c0_0, .int .u8 a0_1, .int .i64 a0_2, .bool a0_3, .int .i64 a0_4, .int .i64 a0_5, .int .i64 a0_6, .int .i64 a0_7, .int .i64 a0_8, .int .i64 a0_9, .int .u64 a0_10, .int .u64 a0_11, .int .u64 a0_12, .int .u64 a0_13, .int .u64 a0_14, .int .u64 a0_15, .bool a0_16, .int .i64 a0_17, .slice A0_18 l0_18.length c0_18, .slice A0_19 l0_19.length c0_19]) (t := 37) ?hr ?_; (case hd => rfl); (case hg => rfl); (case hr => first | (go_simp; done) | (go_simp; rfl)); intro gb158 hg w5 hbox hb; have n0_ := Aside0.mk (below_step (by repeat (first | (with_reducible first | exact HB.out | apply below_alloc | apply pw_below_drewN | apply below_drew1) | exact HB.out)) hb); have n1_ := Aside0.mk (hbox); have n2_ := Aside0.mk ((by rw [hg]; exact (below_size (by repeat (first | (with_reducible first | exact HB.out | apply below_alloc | apply pw_below_drewN | apply below_drew1) | exact HB.out))) : w.heap.size ≤ gb158)); have n3_ := Aside0.mk ((by rw [hg]; exact (below_size (by repeat (first | (with_reducible first | exact HB.out | apply below_alloc | apply pw_below_drewN | apply below_drew1) | exact HB.out))) : w.heap.size ≤ gb158)); clear HB; have HB := n0_; have BK158 := n1_; have GW158 := n2_; have GE158 := n3_; clear n0_ n1_ n2_ n3_; clear hb hbox hg))
  go_loopg [9, 10] k (fun kq v9 v10 w' => ∃ (x9_1 : List Int) (x10_1 : Int), v10 = .int .i64 x10_1 ∧ Aside0 (cohortref14_Opens.l0 kq l1 a2 a3 x9_1 x10_1 l0_0 a0_1 a0_2 a0_3 a0_4 a0_5 a0_6 a0_7 a0_8 a0_9 a0_10 a0_11 a0_12 a0_13 a0_14 a0_15 a0_16 a0_17 l0_18 l0_19 = some r) ∧ Aside0 (kq ≤ k) ∧ Aside0 (Kd.R (Kd.int .i64) 3 w' w.heap.size (fun _ => True) v9 x9_1) ∧ Aside0 (w'.heap[gb158]? = some (.cells #[(.slice A0_0 l0_0.length c0_0), .int .u8 a0_1, .int .i64 a0_2, .bool a0_3, .int .i64 a0_4, .int .i64 a0_5, .int .i64 a0_6, .int .i64 a0_7, .int .i64 a0_8, .int .i64 a0_9, .int .u64 a0_10, .int .u64 a0_11, .int .u64 a0_12, .int .u64 a0_13, .int .u64 a0_14, .int .u64 a0_15, .bool a0_16, .int .i64 a0_17, (.slice A0_18 l0_18.length c0_18), (.slice A0_19 l0_19.length c0_19)] 37 (0, 0))) ∧ Aside0 (Below w.heap.size w w'))
  case atStart => exact ⟨(([] : List Int)), (0), (by first | rfl | (simp; done) | (simp [*]; done)), H', ⟨Nat.le_refl _⟩, ⟨by first | exact Kd.R_nil _ _ _ _ _ | exact Kd.N_nil _ _ _ _ _ | exact Kd.V_nil _ _ _ _ _ | exact Kd.Q_nil _ _ _ _ _ | exact Kd.S_nil _ _ _ _ _⟩, ⟨by (with_reducible repeat (first | refine blk_drewN ?_ _ | refine blk_drew ?_ | refine blk_alloc ?_ _)); exact BK158.out⟩, ⟨by repeat (first | (with_reducible first | exact HB.out | apply below_alloc | apply pw_below_drewN | apply below_drew1 | refine below_set ?_ GE158.out) | exact HB.out)⟩⟩
  case round =>
    clear H'
    try clear c1
    try clear c2
    try clear p2
    obtain ⟨x9_1, x10_1, rfl, HA, HK1, HO_9, BK158, HB⟩ := hrel
    cases gk with
    | zero => exact absurd HA.out (by simp [cohortref14_Opens.l0])
    | succ k1 =>
      have H := HA.out
      clear HA
      simp only [cohortref14_Opens.l0] at H
      have HC6 := Aside0.mk H
      clear H
      go_upto_region 3 with (fail)
      go_cut [21] (fun v21 wc => ∃ (kq : Nat) (x21_5 : Bool), v21 = .bool x21_5 ∧ Aside0 (cohortref14_Opens.j1 kq l1 a2 a3 x9_1 x10_1 x21_5 l0_0 a0_1 a0_2 a0_3 a0_4 a0_5 a0_6 a0_7 a0_8 a0_9 a0_10 a0_11 a0_12 a0_13 a0_14 a0_15 a0_16 a0_17 l0_18 l0_19 = some r) ∧ Aside0 (kq ≤ k1) ∧ Aside0 (Kd.R (Kd.int .i64) 3 wc w.heap.size (fun _ => True) u9 x9_1) ∧ Aside0 (wc.heap[gb158]? = some (.cells #[(.slice A0_0 l0_0.length c0_0), .int .u8 a0_1, .int .i64 a0_2, .bool a0_3, .int .i64 a0_4, .int .i64 a0_5, .int .i64 a0_6, .int .i64 a0_7, .int .i64 a0_8, .int .i64 a0_9, .int .u64 a0_10, .int .u64 a0_11, .int .u64 a0_12, .int .u64 a0_13, .int .u64 a0_14, .int .u64 a0_15, .bool a0_16, .int .i64 a0_17, (.slice A0_18 l0_18.length c0_18), (.slice A0_19 l0_19.length c0_19)] 37 (0, 0))) ∧ Aside0 (Below w.heap.size w wc))
      case first =>
        have H := HC6.out
        clear HC6
        by_cases c7 : x10_1 < (l0_0.length : Int)
        · rw [if_pos c7] at H
          have c7b0 : decide (x10_1 < (l0_0.length : Int)) = true := decide_eq_true c7
          clear c7
          (first | rw [c7b0] | (simp only [i64_w, i32_w]; rw [c7b0]) | skip)
          have H' := Aside0.mk H
          clear H
          have hcz8_0 : wr.cell? ⟨gb158, 0, none⟩ = some (.slice A0_0 l0_0.length c0_0) := (blk_cell BK158.out 0).trans rfl
          have hcz8_1 : wr.cell? ⟨gb158, 1, none⟩ = some (.int .u8 a0_1) := (blk_cell BK158.out 1).trans rfl
          have hcz8_2 : wr.cell? ⟨gb158, 2, none⟩ = some (.int .i64 a0_2) := (blk_cell BK158.out 2).trans rfl
          have hcz8_3 : wr.cell? ⟨gb158, 3, none⟩ = some (.bool a0_3) := (blk_cell BK158.out 3).trans rfl
          have hcz8_4 : wr.cell? ⟨gb158, 4, none⟩ = some (.int .i64 a0_4) := (blk_cell BK158.out 4).trans rfl
          have hcz8_5 : wr.cell? ⟨gb158, 5, none⟩ = some (.int .i64 a0_5) := (blk_cell BK158.out 5).trans rfl
          have hcz8_6 : wr.cell? ⟨gb158, 6, none⟩ = some (.int .i64 a0_6) := (blk_cell BK158.out 6).trans rfl
          have hcz8_7 : wr.cell? ⟨gb158, 7, none⟩ = some (.int .i64 a0_7) := (blk_cell BK158.out 7).trans rfl
          have hcz8_8 : wr.cell? ⟨gb158, 8, none⟩ = some (.int .i64 a0_8) := (blk_cell BK158.out 8).trans rfl
          have hcz8_9 : wr.cell? ⟨gb158, 9, none⟩ = some (.int .i64 a0_9) := (blk_cell BK158.out 9).trans rfl
          have hcz8_10 : wr.cell? ⟨gb158, 10, none⟩ = some (.int .u64 a0_10) := (blk_cell BK158.out 10).trans rfl
          have hcz8_11 : wr.cell? ⟨gb158, 11, none⟩ = some (.int .u64 a0_11) := (blk_cell BK158.out 11).trans rfl
          have hcz8_12 : wr.cell? ⟨gb158, 12, none⟩ = some (.int .u64 a0_12) := (blk_cell BK158.out 12).trans rfl
          have hcz8_13 : wr.cell? ⟨gb158, 13, none⟩ = some (.int .u64 a0_13) := (blk_cell BK158.out 13).trans rfl
          have hcz8_14 : wr.cell? ⟨gb158, 14, none⟩ = some (.int .u64 a0_14) := (blk_cell BK158.out 14).trans rfl
          have hcz8_15 : wr.cell? ⟨gb158, 15, none⟩ = some (.int .u64 a0_15) := (blk_cell BK158.out 15).trans rfl
          have hcz8_16 : wr.cell? ⟨gb158, 16, none⟩ = some (.bool a0_16) := (blk_cell BK158.out 16).trans rfl
          have hcz8_17 : wr.cell? ⟨gb158, 17, none⟩ = some (.int .i64 a0_17) := (blk_cell BK158.out 17).trans rfl
          have hcz8_18 : wr.cell? ⟨gb158, 18, none⟩ = some (.slice A0_18 l0_18.length c0_18) := (blk_cell BK158.out 18).trans rfl
          have hcz8_19 : wr.cell? ⟨gb158, 19, none⟩ = some (.slice A0_19 l0_19.length c0_19) := (blk_cell BK158.out 19).trans rfl
          have hfz8_0 := blk_frozen BK158.out 0
          have hfz8_1 := blk_frozen BK158.out 1
          have hfz8_2 := blk_frozen BK158.out 2
          have hfz8_3 := blk_frozen BK158.out 3
          have hfz8_4 := blk_frozen BK158.out 4
          have hfz8_5 := blk_frozen BK158.out 5
          have hfz8_6 := blk_frozen BK158.out 6
          have hfz8_7 := blk_frozen BK158.out 7
          have hfz8_8 := blk_frozen BK158.out 8
          have hfz8_9 := blk_frozen BK158.out 9
          have hfz8_10 := blk_frozen BK158.out 10
          have hfz8_11 := blk_frozen BK158.out 11
          have hfz8_12 := blk_frozen BK158.out 12
          have hfz8_13 := blk_frozen BK158.out 13
          have hfz8_14 := blk_frozen BK158.out 14
          have hfz8_15 := blk_frozen BK158.out 15
          have hfz8_16 := blk_frozen BK158.out 16
          have hfz8_17 := blk_frozen BK158.out 17
          have hfz8_18 := blk_frozen BK158.out 18
          have hfz8_19 := blk_frozen BK158.out 19
          go_wp2
          go_meet
          case rel => exact ⟨_, (decide (x10_1 < (l1.length : Int))), (by first | rfl | (simp; done) | (simp [*]; done)), H', ⟨by have := HK1.out; first | omega | exact Nat.le_refl _⟩, ⟨by (with_reducible repeat (first | apply Kd.R_alloc | apply Kd.R_drewN | apply Kd.R_drew)); exact HO_9.out⟩, ⟨by (with_reducible repeat (first | refine blk_drewN ?_ _ | refine blk_drew ?_ | refine blk_alloc ?_ _)); exact BK158.out⟩, ⟨by repeat (first | (with_reducible first | exact HB.out | apply below_alloc | apply pw_below_drewN | apply below_drew1 | refine below_set ?_ GE158.out) | exact HB.out)⟩⟩
        · rw [if_neg c7] at H
          have c7b0 : decide (x10_1 < (l0_0.length : Int)) = false := decide_eq_false c7
          clear c7
          (first | rw [c7b0] | (simp only [i64_w, i32_w]; rw [c7b0]) | skip)
          have H' := Aside0.mk H
          clear H
          have hcz9_0 : wr.cell? ⟨gb158, 0, none⟩ = some (.slice A0_0 l0_0.length c0_0) := (blk_cell BK158.out 0).trans rfl
          have hcz9_1 : wr.cell? ⟨gb158, 1, none⟩ = some (.int .u8 a0_1) := (blk_cell BK158.out 1).trans rfl
          have hcz9_2 : wr.cell? ⟨gb158, 2, none⟩ = some (.int .i64 a0_2) := (blk_cell BK158.out 2).trans rfl
          have hcz9_3 : wr.cell? ⟨gb158, 3, none⟩ = some (.bool a0_3) := (blk_cell BK158.out 3).trans rfl
          have hcz9_4 : wr.cell? ⟨gb158, 4, none⟩ = some (.int .i64 a0_4) := (blk_cell BK158.out 4).trans rfl
          have hcz9_5 : wr.cell? ⟨gb158, 5, none⟩ = some (.int .i64 a0_5) := (blk_cell BK158.out 5).trans rfl
          have hcz9_6 : wr.cell? ⟨gb158, 6, none⟩ = some (.int .i64 a0_6) := (blk_cell BK158.out 6).trans rfl
          have hcz9_7 : wr.cell? ⟨gb158, 7, none⟩ = some (.int .i64 a0_7) := (blk_cell BK158.out 7).trans rfl
          have hcz9_8 : wr.cell? ⟨gb158, 8, none⟩ = some (.int .i64 a0_8) := (blk_cell BK158.out 8).trans rfl
          have hcz9_9 : wr.cell? ⟨gb158, 9, none⟩ = some (.int .i64 a0_9) := (blk_cell BK158.out 9).trans rfl
          have hcz9_10 : wr.cell? ⟨gb158, 10, none⟩ = some (.int .u64 a0_10) := (blk_cell BK158.out 10).trans rfl
          have hcz9_11 : wr.cell? ⟨gb158, 11, none⟩ = some (.int .u64 a0_11) := (blk_cell BK158.out 11).trans rfl
          have hcz9_12 : wr.cell? ⟨gb158, 12, none⟩ = some (.int .u64 a0_12) := (blk_cell BK158.out 12).trans rfl
          have hcz9_13 : wr.cell? ⟨gb158, 13, none⟩ = some (.int .u64 a0_13) := (blk_cell BK158.out 13).trans rfl
          have hcz9_14 : wr.cell? ⟨gb158, 14, none⟩ = some (.int .u64 a0_14) := (blk_cell BK158.out 14).trans rfl
          have hcz9_15 : wr.cell? ⟨gb158, 15, none⟩ = some (.int .u64 a0_15) := (blk_cell BK158.out 15).trans rfl
          have hcz9_16 : wr.cell? ⟨gb158, 16, none⟩ = some (.bool a0_16) := (blk_cell BK158.out 16).trans rfl
          have hcz9_17 : wr.cell? ⟨gb158, 17, none⟩ = some (.int .i64 a0_17) := (blk_cell BK158.out 17).trans rfl
          have hcz9_18 : wr.cell? ⟨gb158, 18, none⟩ = some (.slice A0_18 l0_18.length c0_18) := (blk_cell BK158.out 18).trans rfl
          have hcz9_19 : wr.cell? ⟨gb158, 19, none⟩ = some (.slice A0_19 l0_19.length c0_19) := (blk_cell BK158.out 19).trans rfl
          have hfz9_0 := blk_frozen BK158.out 0
          have hfz9_1 := blk_frozen BK158.out 1
          have hfz9_2 := blk_frozen BK158.out 2
          have hfz9_3 := blk_frozen BK158.out 3
          have hfz9_4 := blk_frozen BK158.out 4
          have hfz9_5 := blk_frozen BK158.out 5
          have hfz9_6 := blk_frozen BK158.out 6
          have hfz9_7 := blk_frozen BK158.out 7
          have hfz9_8 := blk_frozen BK158.out 8
          have hfz9_9 := blk_frozen BK158.out 9
          have hfz9_10 := blk_frozen BK158.out 10
          have hfz9_11 := blk_frozen BK158.out 11
          have hfz9_12 := blk_frozen BK158.out 12
          have hfz9_13 := blk_frozen BK158.out 13
          have hfz9_14 := blk_frozen BK158.out 14
          have hfz9_15 := blk_frozen BK158.out 15
          have hfz9_16 := blk_frozen BK158.out 16
          have hfz9_17 := blk_frozen BK158.out 17
          have hfz9_18 := blk_frozen BK158.out 18
          have hfz9_19 := blk_frozen BK158.out 19
          go_wp2
          go_meet
          case rel => exact ⟨_, (false), (by first | rfl | (simp; done) | (simp [*]; done)), H', ⟨by have := HK1.out; first | omega | exact Nat.le_refl _⟩, ⟨by (with_reducible repeat (first | apply Kd.R_alloc | apply Kd.R_drewN | apply Kd.R_drew)); exact HO_9.out⟩, ⟨by (with_reducible repeat (first | refine blk_drewN ?_ _ | refine blk_drew ?_ | refine blk_alloc ?_ _)); exact BK158.out⟩, ⟨by repeat (first | (with_reducible first | exact HB.out | apply below_alloc | apply pw_below_drewN | apply below_drew1 | refine below_set ?_ GE158.out) | exact HB.out)⟩⟩
      case rest =>
        clear HC6
        try clear c1
        try clear c2
        try clear p2
        try clear c7
        try clear c7b0
        try clear hcz8_0
        try clear hcz8_1
        try clear hcz8_10
        try clear hcz8_11
        try clear hcz8_12
        try clear hcz8_13
        try clear hcz8_14
        try clear hcz8_15
        try clear hcz8_16
        try clear hcz8_17
        try clear hcz8_18
        try clear hcz8_19
        try clear hcz8_2
        try clear hcz8_3
        try clear hcz8_4
        try clear hcz8_5
        try clear hcz8_6
        try clear hcz8_7
        try clear hcz8_8
        try clear hcz8_9
        try clear hcz9_0
        try clear hcz9_1
        try clear hcz9_10
        try clear hcz9_11
        try clear hcz9_12
        try clear hcz9_13
        try clear hcz9_14
        try clear hcz9_15
        try clear hcz9_16
        try clear hcz9_17
        try clear hcz9_18
        try clear hcz9_19
        try clear hcz9_2
        try clear hcz9_3
        try clear hcz9_4
        try clear hcz9_5
        try clear hcz9_6
        try clear hcz9_7
        try clear hcz9_8
        try clear hcz9_9
        try clear hfz8_0
        try clear hfz8_1
        try clear hfz8_10
        try clear hfz8_11
        try clear hfz8_12
        try clear hfz8_13
        try clear hfz8_14
        try clear hfz8_15
        try clear hfz8_16
        try clear hfz8_17
        try clear hfz8_18
        try clear hfz8_19
        try clear hfz8_2
        try clear hfz8_3
        try clear hfz8_4
        try clear hfz8_5
        try clear hfz8_6
        try clear hfz8_7
        try clear hfz8_8
        try clear hfz8_9
        try clear hfz9_0
        try clear hfz9_1
        try clear hfz9_10
        try clear hfz9_11
        try clear hfz9_12
        try clear hfz9_13
        try clear hfz9_14
        try clear hfz9_15
        try clear hfz9_16
        try clear hfz9_17
        try clear hfz9_18
        try clear hfz9_19
        try clear hfz9_2
        try clear hfz9_3
        try clear hfz9_4
        try clear hfz9_5
        try clear hfz9_6
        try clear hfz9_7
        try clear hfz9_8
        try clear hfz9_9
        try clear p2
        obtain ⟨kq, x21_5, rfl, HA, HJ5, HO_9, BK158, HB⟩ := hcut
        cases kq with
        | zero => exact absurd HA.out (by simp [cohortref14_Opens.j1])
        | succ kj5 =>
          have H := HA.out
          clear HA
          simp only [cohortref14_Opens.j1] at H
          by_cases c10 : x21_5 = true
          · subst c10
            have H1 : (if 0 ≤ x10_1 then (if x10_1 < (l0_0.length : Int) then (if (((rd_T56 l0_0 x10_1).f1) == a2) = true then ((cohortref14_IsOpen.f l1 x10_1 a3).bind fun t160 => (if t160 = true then (if x9_1.length < 17592186044416 then (cohortref14_Opens.l0 kj5 l1 a2 a3 (x9_1 ++ [x10_1]) (wrap64 (x10_1 + 1)) l0_0 a0_1 a0_2 a0_3 a0_4 a0_5 a0_6 a0_7 a0_8 a0_9 a0_10 a0_11 a0_12 a0_13 a0_14 a0_15 a0_16 a0_17 l0_18 l0_19) else (none)) else (cohortref14_Opens.l0 kj5 l1 a2 a3 x9_1 (wrap64 (x10_1 + 1)) l0_0 a0_1 a0_2 a0_3 a0_4 a0_5 a0_6 a0_7 a0_8 a0_9 a0_10 a0_11 a0_12 a0_13 a0_14 a0_15 a0_16 a0_17 l0_18 l0_19))) else (cohortref14_Opens.l0 kj5 l1 a2 a3 x9_1 (wrap64 (x10_1 + 1)) l0_0 a0_1 a0_2 a0_3 a0_4 a0_5 a0_6 a0_7 a0_8 a0_9 a0_10 a0_11 a0_12 a0_13 a0_14 a0_15 a0_16 a0_17 l0_18 l0_19)) else (none)) else (none)) = some r := by rw [if_pos rfl] at H; exact H
            clear H
            have H := H1
            clear H1
            by_cases c11 : 0 ≤ x10_1
            · rw [if_pos c11] at H
              have c11b0 : decide (0 ≤ x10_1) = true := decide_eq_true c11
              clear c11
              by_cases c12 : x10_1 < (l0_0.length : Int)
              · rw [if_pos c12] at H
                have c12b0 : decide (x10_1 < (l0_0.length : Int)) = true := decide_eq_true c12
                clear c12
                by_cases c13 : (((rd_T56 l0_0 x10_1).f1) == a2) = true
                · rw [if_pos c13] at H
                  have c13b0 : (((rd_T56 l0_0 x10_1).f1) == a2) = true := c13
                  (try (have c13b1 : decide (((rd_T56 l0_0 x10_1).f1) = a2) = true := by simpa using c13))
                  (try (have c13b2 : (((rd_T56 l0_0 x10_1).f1) == a2) = true := by simpa using c13))
                  clear c13
                  replace H := Option.bind_eq_some_iff.mp H
                  obtain ⟨t160, A140, H⟩ := H
                  replace H : (if t160 = true then (if x9_1.length < 17592186044416 then (cohortref14_Opens.l0 kj5 l1 a2 a3 (x9_1 ++ [x10_1]) (wrap64 (x10_1 + 1)) l0_0 a0_1 a0_2 a0_3 a0_4 a0_5 a0_6 a0_7 a0_8 a0_9 a0_10 a0_11 a0_12 a0_13 a0_14 a0_15 a0_16 a0_17 l0_18 l0_19) else (none)) else (cohortref14_Opens.l0 kj5 l1 a2 a3 x9_1 (wrap64 (x10_1 + 1)) l0_0 a0_1 a0_2 a0_3 a0_4 a0_5 a0_6 a0_7 a0_8 a0_9 a0_10 a0_11 a0_12 a0_13 a0_14 a0_15 a0_16 a0_17 l0_18 l0_19)) = some r := H
                  have A14 := Aside0.mk A140
                  clear A140
                  by_cases c15 : t160 = true
                  · subst c15
                    have H1 : (if x9_1.length < 17592186044416 then (cohortref14_Opens.l0 kj5 l1 a2 a3 (x9_1 ++ [x10_1]) (wrap64 (x10_1 + 1)) l0_0 a0_1 a0_2 a0_3 a0_4 a0_5 a0_6 a0_7 a0_8 a0_9 a0_10 a0_11 a0_12 a0_13 a0_14 a0_15 a0_16 a0_17 l0_18 l0_19) else (none)) = some r := by rw [if_pos rfl] at H; exact H
                    clear H
                    have H := H1
                    clear H1
                    by_cases c16 : x9_1.length < 17592186044416
                    · rw [if_pos c16] at H
                      have LMc16 := Aside0.mk c16
                      clear c16
                      obtain ⟨y161, hy161⟩ : ∃ y_ : List Int, y_ = (x9_1 ++ [x10_1]) := ⟨_, rfl⟩
                      replace H : (cohortref14_Opens.l0 kj5 l1 a2 a3 y161 (wrap64 (x10_1 + 1)) l0_0 a0_1 a0_2 a0_3 a0_4 a0_5 a0_6 a0_7 a0_8 a0_9 a0_10 a0_11 a0_12 a0_13 a0_14 a0_15 a0_16 a0_17 l0_18 l0_19) = some r := by first | (rw [hy161]; with_reducible exact H) | (have H2_ := (Option.bind_some _ _).symm.trans H; rw [hy161]; with_reducible exact H2_) | (have H2_ := (Option.bind_some _ _).symm.trans H; with_reducible exact H2_) | with_reducible exact H | (rw [hy161]; exact H) | exact H
                      have Ny161 := Aside0.mk hy161
                      clear hy161
                      have H' := Aside0.mk H
                      clear H
                      have hcz17_0 : wc.cell? ⟨gb158, 0, none⟩ = some (.slice A0_0 l0_0.length c0_0) := (blk_cell BK158.out 0).trans rfl
                      have hcz17_1 : wc.cell? ⟨gb158, 1, none⟩ = some (.int .u8 a0_1) := (blk_cell BK158.out 1).trans rfl
                      have hcz17_2 : wc.cell? ⟨gb158, 2, none⟩ = some (.int .i64 a0_2) := (blk_cell BK158.out 2).trans rfl
                      have hcz17_3 : wc.cell? ⟨gb158, 3, none⟩ = some (.bool a0_3) := (blk_cell BK158.out 3).trans rfl
                      have hcz17_4 : wc.cell? ⟨gb158, 4, none⟩ = some (.int .i64 a0_4) := (blk_cell BK158.out 4).trans rfl
                      have hcz17_5 : wc.cell? ⟨gb158, 5, none⟩ = some (.int .i64 a0_5) := (blk_cell BK158.out 5).trans rfl
                      have hcz17_6 : wc.cell? ⟨gb158, 6, none⟩ = some (.int .i64 a0_6) := (blk_cell BK158.out 6).trans rfl
                      have hcz17_7 : wc.cell? ⟨gb158, 7, none⟩ = some (.int .i64 a0_7) := (blk_cell BK158.out 7).trans rfl
                      have hcz17_8 : wc.cell? ⟨gb158, 8, none⟩ = some (.int .i64 a0_8) := (blk_cell BK158.out 8).trans rfl
                      have hcz17_9 : wc.cell? ⟨gb158, 9, none⟩ = some (.int .i64 a0_9) := (blk_cell BK158.out 9).trans rfl
                      have hcz17_10 : wc.cell? ⟨gb158, 10, none⟩ = some (.int .u64 a0_10) := (blk_cell BK158.out 10).trans rfl
                      have hcz17_11 : wc.cell? ⟨gb158, 11, none⟩ = some (.int .u64 a0_11) := (blk_cell BK158.out 11).trans rfl
                      have hcz17_12 : wc.cell? ⟨gb158, 12, none⟩ = some (.int .u64 a0_12) := (blk_cell BK158.out 12).trans rfl
                      have hcz17_13 : wc.cell? ⟨gb158, 13, none⟩ = some (.int .u64 a0_13) := (blk_cell BK158.out 13).trans rfl
                      have hcz17_14 : wc.cell? ⟨gb158, 14, none⟩ = some (.int .u64 a0_14) := (blk_cell BK158.out 14).trans rfl
                      have hcz17_15 : wc.cell? ⟨gb158, 15, none⟩ = some (.int .u64 a0_15) := (blk_cell BK158.out 15).trans rfl
                      have hcz17_16 : wc.cell? ⟨gb158, 16, none⟩ = some (.bool a0_16) := (blk_cell BK158.out 16).trans rfl
                      have hcz17_17 : wc.cell? ⟨gb158, 17, none⟩ = some (.int .i64 a0_17) := (blk_cell BK158.out 17).trans rfl
                      have hcz17_18 : wc.cell? ⟨gb158, 18, none⟩ = some (.slice A0_18 l0_18.length c0_18) := (blk_cell BK158.out 18).trans rfl
                      have hcz17_19 : wc.cell? ⟨gb158, 19, none⟩ = some (.slice A0_19 l0_19.length c0_19) := (blk_cell BK158.out 19).trans rfl
                      have hfz17_0 := blk_frozen BK158.out 0
                      have hfz17_1 := blk_frozen BK158.out 1
                      have hfz17_2 := blk_frozen BK158.out 2
                      have hfz17_3 := blk_frozen BK158.out 3
                      have hfz17_4 := blk_frozen BK158.out 4
                      have hfz17_5 := blk_frozen BK158.out 5
                      have hfz17_6 := blk_frozen BK158.out 6
                      have hfz17_7 := blk_frozen BK158.out 7
                      have hfz17_8 := blk_frozen BK158.out 8
                      have hfz17_9 := blk_frozen BK158.out 9
                      have hfz17_10 := blk_frozen BK158.out 10
                      have hfz17_11 := blk_frozen BK158.out 11
                      have hfz17_12 := blk_frozen BK158.out 12
                      have hfz17_13 := blk_frozen BK158.out 13
                      have hfz17_14 := blk_frozen BK158.out 14
                      have hfz17_15 := blk_frozen BK158.out 15
                      have hfz17_16 := blk_frozen BK158.out 16
                      have hfz17_17 := blk_frozen BK158.out 17
                      have hfz17_18 := blk_frozen BK158.out 18
                      have hfz17_19 := blk_frozen BK158.out 19
                      have p159 : 0 ≤ (x10_1 : Int) := of_decide_eq_true (by first | (with_reducible assumption) | assumption)
                      have q159 : x10_1 < (l0_0.length : Int) := of_decide_eq_true (by first | (with_reducible assumption) | assumption)
                      obtain ⟨ad159, e159, hx159_0, hx159_1, hx159_2, hx159_3⟩ := at_T56 HR0_0.out x10_1 p159 q159
                      cases e159
                      replace hx159_0 := (HB.out.cell (World.block_lt_of_cell? w _ hx159_0)).trans hx159_0
                      replace hx159_1 := (HB.out.cell (World.block_lt_of_cell? w _ hx159_1)).trans hx159_1
                      replace hx159_2 := (HB.out.cell (World.block_lt_of_cell? w _ hx159_2)).trans hx159_2
                      replace hx159_3 := (HB.out.cell (World.block_lt_of_cell? w _ hx159_3)).trans hx159_3
                      replace p159 := eq_true p159
                      replace q159 := eq_true q159
                      go_wp2_with (first | (refine wpList_load_row rfl 37 (.tmp 4) rfl gb158 rfl 37 _ (0, 0) _ BK158.out Try.underlying37 rfl (by kernel_rfl) ?_) | (go_at_call 17; (with_reducible refine (cohortref14_IsOpen.calls _ _ l1 x10_1 a3 true _ ?side1 ?side2 A14.out).mono ?_); (case side1 => repeat (first | exact (Kd.C_below HR1.out HB.out) | (with_reducible refine Kd.C_alloc ?_ _) | (with_reducible refine Kd.C_drewN ?_ _) | (with_reducible refine Kd.C_drew ?_))); (case side2 => exact HC1.out); rintro e w' ⟨rfl, ⟨nd, rfl⟩⟩) | ((with_reducible refine gate_builtin (b := .append) (xs := #[.tmp 38, .tmp 40]) rfl ?_); (try (refine gate_guard (by rfl) ?_; dsimp only)); at_builtin; refine Kd.R_append (Kd.int .i64) (w0 := w) w.heap.size rfl (.tmp 38) (.tmp 40) 43 3 (.int .i64 0) 8 rfl Try.underlying43 info3 rfl (by decide) (by omega) u9 x9_1 x10_1 [.int .i64 x10_1] (fun _ => True) (fun _ => False) rfl rfl ?aP (fun _ hk => hk.elim) ?aF ?aO ?aB ?aS ?aL ?_; (case aP => exact rfl); (case aB => exact (by repeat (first | (with_reducible first | exact HB.out | apply below_alloc | apply pw_below_drewN | apply below_drew1 | refine below_set ?_ GE158.out) | exact HB.out))); (case aF => exact (fun _ _ => trivial)); (case aO => exact (by (with_reducible repeat (first | apply Kd.R_alloc | apply Kd.R_drewN | apply Kd.R_drew)); exact HO_9.out)); (case aS => exact (below_size (by repeat (first | (with_reducible first | exact HB.out | apply below_alloc | apply pw_below_drewN | apply below_drew1 | refine below_set ?_ GE158.out) | exact HB.out)))); (case aL => have := LMc16.out; omega); intro v162 w18 ho hb hg hat; rw [← Ny161.out] at ho; have n0_ := Aside0.mk (blk_grown (g := gb158) (o := .cells #[.slice (some ad159) l0_0.length c0_0, .int .u8 a0_1, .int .i64 a0_2, .bool a0_3, .int .i64 a0_4, .int .i64 a0_5, .int .i64 a0_6, .int .i64 a0_7, .int .i64 a0_8, .int .i64 a0_9, .int .u64 a0_10, .int .u64 a0_11, .int .u64 a0_12, .int .u64 a0_13, .int .u64 a0_14, .int .u64 a0_15, .bool a0_16, .int .i64 a0_17, .slice A0_18 l0_18.length c0_18, .slice A0_19 l0_19.length c0_19] 37 (0, 0)) (by (with_reducible repeat (first | refine blk_drewN ?_ _ | refine blk_drew ?_ | refine blk_alloc ?_ _)); exact BK158.out) hg (Kd.R_ne HO_9.out BK158.out (by decide))); have n1_ := Aside0.mk (hb); have n2_ := Aside0.mk (ho); clear BK158; clear HB; clear HO_9; have BK158 := n0_; have HB := n1_; have HO163 := n2_; clear n0_ n1_ n2_; clear ho hb hg hat))
                      go_roundg kj5
                      case measure => have := HK1.out; have := HJ5.out; omega
                      case rel => exact ⟨(y161), (wrap64 (x10_1 + 1)), (by first | rfl | (simp; done) | (simp [*]; done)), H', ⟨by have := HK1.out; have := HJ5.out; omega⟩, ⟨by (with_reducible repeat (first | apply Kd.R_alloc | apply Kd.R_drewN | apply Kd.R_drew)); exact HO163.out⟩, ⟨by (with_reducible repeat (first | refine blk_drewN ?_ _ | refine blk_drew ?_ | refine blk_alloc ?_ _)); exact BK158.out⟩, ⟨by repeat (first | (with_reducible first | exact HB.out | apply below_alloc | apply pw_below_drewN | apply below_drew1 | refine below_set ?_ GE158.out) | exact HB.out)⟩⟩
                    · rw [if_neg c16] at H
                      exact absurd H (by simp)
                  · replace c15 := Bool.eq_false_iff.mpr c15
                    subst c15
                    have H1 : (cohortref14_Opens.l0 kj5 l1 a2 a3 x9_1 (wrap64 (x10_1 + 1)) l0_0 a0_1 a0_2 a0_3 a0_4 a0_5 a0_6 a0_7 a0_8 a0_9 a0_10 a0_11 a0_12 a0_13 a0_14 a0_15 a0_16 a0_17 l0_18 l0_19) = some r := by rw [if_neg (show ¬ (false = true) by decide)] at H; exact H
                    clear H
                    have H := H1
                    clear H1
                    have H' := Aside0.mk H
                    clear H
                    have hcz19_0 : wc.cell? ⟨gb158, 0, none⟩ = some (.slice A0_0 l0_0.length c0_0) := (blk_cell BK158.out 0).trans rfl
                    have hcz19_1 : wc.cell? ⟨gb158, 1, none⟩ = some (.int .u8 a0_1) := (blk_cell BK158.out 1).trans rfl
                    have hcz19_2 : wc.cell? ⟨gb158, 2, none⟩ = some (.int .i64 a0_2) := (blk_cell BK158.out 2).trans rfl
                    have hcz19_3 : wc.cell? ⟨gb158, 3, none⟩ = some (.bool a0_3) := (blk_cell BK158.out 3).trans rfl
                    have hcz19_4 : wc.cell? ⟨gb158, 4, none⟩ = some (.int .i64 a0_4) := (blk_cell BK158.out 4).trans rfl
                    have hcz19_5 : wc.cell? ⟨gb158, 5, none⟩ = some (.int .i64 a0_5) := (blk_cell BK158.out 5).trans rfl
                    have hcz19_6 : wc.cell? ⟨gb158, 6, none⟩ = some (.int .i64 a0_6) := (blk_cell BK158.out 6).trans rfl
                    have hcz19_7 : wc.cell? ⟨gb158, 7, none⟩ = some (.int .i64 a0_7) := (blk_cell BK158.out 7).trans rfl
                    have hcz19_8 : wc.cell? ⟨gb158, 8, none⟩ = some (.int .i64 a0_8) := (blk_cell BK158.out 8).trans rfl
                    have hcz19_9 : wc.cell? ⟨gb158, 9, none⟩ = some (.int .i64 a0_9) := (blk_cell BK158.out 9).trans rfl
                    have hcz19_10 : wc.cell? ⟨gb158, 10, none⟩ = some (.int .u64 a0_10) := (blk_cell BK158.out 10).trans rfl
                    have hcz19_11 : wc.cell? ⟨gb158, 11, none⟩ = some (.int .u64 a0_11) := (blk_cell BK158.out 11).trans rfl
                    have hcz19_12 : wc.cell? ⟨gb158, 12, none⟩ = some (.int .u64 a0_12) := (blk_cell BK158.out 12).trans rfl
                    have hcz19_13 : wc.cell? ⟨gb158, 13, none⟩ = some (.int .u64 a0_13) := (blk_cell BK158.out 13).trans rfl
                    have hcz19_14 : wc.cell? ⟨gb158, 14, none⟩ = some (.int .u64 a0_14) := (blk_cell BK158.out 14).trans rfl
                    have hcz19_15 : wc.cell? ⟨gb158, 15, none⟩ = some (.int .u64 a0_15) := (blk_cell BK158.out 15).trans rfl
                    have hcz19_16 : wc.cell? ⟨gb158, 16, none⟩ = some (.bool a0_16) := (blk_cell BK158.out 16).trans rfl
                    have hcz19_17 : wc.cell? ⟨gb158, 17, none⟩ = some (.int .i64 a0_17) := (blk_cell BK158.out 17).trans rfl
                    have hcz19_18 : wc.cell? ⟨gb158, 18, none⟩ = some (.slice A0_18 l0_18.length c0_18) := (blk_cell BK158.out 18).trans rfl
                    have hcz19_19 : wc.cell? ⟨gb158, 19, none⟩ = some (.slice A0_19 l0_19.length c0_19) := (blk_cell BK158.out 19).trans rfl
                    have hfz19_0 := blk_frozen BK158.out 0
                    have hfz19_1 := blk_frozen BK158.out 1
                    have hfz19_2 := blk_frozen BK158.out 2
                    have hfz19_3 := blk_frozen BK158.out 3
                    have hfz19_4 := blk_frozen BK158.out 4
                    have hfz19_5 := blk_frozen BK158.out 5
                    have hfz19_6 := blk_frozen BK158.out 6
                    have hfz19_7 := blk_frozen BK158.out 7
                    have hfz19_8 := blk_frozen BK158.out 8
                    have hfz19_9 := blk_frozen BK158.out 9
                    have hfz19_10 := blk_frozen BK158.out 10
                    have hfz19_11 := blk_frozen BK158.out 11
                    have hfz19_12 := blk_frozen BK158.out 12
                    have hfz19_13 := blk_frozen BK158.out 13
                    have hfz19_14 := blk_frozen BK158.out 14
                    have hfz19_15 := blk_frozen BK158.out 15
                    have hfz19_16 := blk_frozen BK158.out 16
                    have hfz19_17 := blk_frozen BK158.out 17
                    have hfz19_18 := blk_frozen BK158.out 18
                    have hfz19_19 := blk_frozen BK158.out 19
                    have p159 : 0 ≤ (x10_1 : Int) := of_decide_eq_true (by first | (with_reducible assumption) | assumption)
                    have q159 : x10_1 < (l0_0.length : Int) := of_decide_eq_true (by first | (with_reducible assumption) | assumption)
                    obtain ⟨ad159, e159, hx159_0, hx159_1, hx159_2, hx159_3⟩ := at_T56 HR0_0.out x10_1 p159 q159
                    cases e159
                    replace hx159_0 := (HB.out.cell (World.block_lt_of_cell? w _ hx159_0)).trans hx159_0
                    replace hx159_1 := (HB.out.cell (World.block_lt_of_cell? w _ hx159_1)).trans hx159_1
                    replace hx159_2 := (HB.out.cell (World.block_lt_of_cell? w _ hx159_2)).trans hx159_2
                    replace hx159_3 := (HB.out.cell (World.block_lt_of_cell? w _ hx159_3)).trans hx159_3
                    replace p159 := eq_true p159
                    replace q159 := eq_true q159
                    go_wp2_with (first | (refine wpList_load_row rfl 37 (.tmp 4) rfl gb158 rfl 37 _ (0, 0) _ BK158.out Try.underlying37 rfl (by kernel_rfl) ?_) | (go_at_call 17; (with_reducible refine (cohortref14_IsOpen.calls _ _ l1 x10_1 a3 false _ ?side1 ?side2 A14.out).mono ?_); (case side1 => repeat (first | exact (Kd.C_below HR1.out HB.out) | (with_reducible refine Kd.C_alloc ?_ _) | (with_reducible refine Kd.C_drewN ?_ _) | (with_reducible refine Kd.C_drew ?_))); (case side2 => exact HC1.out); rintro e w' ⟨rfl, ⟨nd, rfl⟩⟩))
                    go_roundg kj5
                    case measure => have := HK1.out; have := HJ5.out; omega
                    case rel => exact ⟨(x9_1), (wrap64 (x10_1 + 1)), (by first | rfl | (simp; done) | (simp [*]; done)), H', ⟨by have := HK1.out; have := HJ5.out; omega⟩, ⟨by (with_reducible repeat (first | apply Kd.R_alloc | apply Kd.R_drewN | apply Kd.R_drew)); exact HO_9.out⟩, ⟨by (with_reducible repeat (first | refine blk_drewN ?_ _ | refine blk_drew ?_ | refine blk_alloc ?_ _)); exact BK158.out⟩, ⟨by repeat (first | (with_reducible first | exact HB.out | apply below_alloc | apply pw_below_drewN | apply below_drew1 | refine below_set ?_ GE158.out) | exact HB.out)⟩⟩
                · rw [if_neg c13] at H
                  have c13b0 : (((rd_T56 l0_0 x10_1).f1) == a2) = false := by simpa using c13
                  (try (have c13b1 : decide (((rd_T56 l0_0 x10_1).f1) = a2) = false := by simpa using c13))
                  (try (have c13b2 : (((rd_T56 l0_0 x10_1).f1) == a2) = false := by simpa using c13))
                  (try (have c13b3 : ¬ (((rd_T56 l0_0 x10_1).f1) = a2) := by simpa using c13))
                  clear c13
                  have H' := Aside0.mk H
                  clear H
                  have hcz20_0 : wc.cell? ⟨gb158, 0, none⟩ = some (.slice A0_0 l0_0.length c0_0) := (blk_cell BK158.out 0).trans rfl
                  have hcz20_1 : wc.cell? ⟨gb158, 1, none⟩ = some (.int .u8 a0_1) := (blk_cell BK158.out 1).trans rfl
                  have hcz20_2 : wc.cell? ⟨gb158, 2, none⟩ = some (.int .i64 a0_2) := (blk_cell BK158.out 2).trans rfl
                  have hcz20_3 : wc.cell? ⟨gb158, 3, none⟩ = some (.bool a0_3) := (blk_cell BK158.out 3).trans rfl
                  have hcz20_4 : wc.cell? ⟨gb158, 4, none⟩ = some (.int .i64 a0_4) := (blk_cell BK158.out 4).trans rfl
                  have hcz20_5 : wc.cell? ⟨gb158, 5, none⟩ = some (.int .i64 a0_5) := (blk_cell BK158.out 5).trans rfl
                  have hcz20_6 : wc.cell? ⟨gb158, 6, none⟩ = some (.int .i64 a0_6) := (blk_cell BK158.out 6).trans rfl
                  have hcz20_7 : wc.cell? ⟨gb158, 7, none⟩ = some (.int .i64 a0_7) := (blk_cell BK158.out 7).trans rfl
                  have hcz20_8 : wc.cell? ⟨gb158, 8, none⟩ = some (.int .i64 a0_8) := (blk_cell BK158.out 8).trans rfl
                  have hcz20_9 : wc.cell? ⟨gb158, 9, none⟩ = some (.int .i64 a0_9) := (blk_cell BK158.out 9).trans rfl
                  have hcz20_10 : wc.cell? ⟨gb158, 10, none⟩ = some (.int .u64 a0_10) := (blk_cell BK158.out 10).trans rfl
                  have hcz20_11 : wc.cell? ⟨gb158, 11, none⟩ = some (.int .u64 a0_11) := (blk_cell BK158.out 11).trans rfl
                  have hcz20_12 : wc.cell? ⟨gb158, 12, none⟩ = some (.int .u64 a0_12) := (blk_cell BK158.out 12).trans rfl
                  have hcz20_13 : wc.cell? ⟨gb158, 13, none⟩ = some (.int .u64 a0_13) := (blk_cell BK158.out 13).trans rfl
                  have hcz20_14 : wc.cell? ⟨gb158, 14, none⟩ = some (.int .u64 a0_14) := (blk_cell BK158.out 14).trans rfl
                  have hcz20_15 : wc.cell? ⟨gb158, 15, none⟩ = some (.int .u64 a0_15) := (blk_cell BK158.out 15).trans rfl
                  have hcz20_16 : wc.cell? ⟨gb158, 16, none⟩ = some (.bool a0_16) := (blk_cell BK158.out 16).trans rfl
                  have hcz20_17 : wc.cell? ⟨gb158, 17, none⟩ = some (.int .i64 a0_17) := (blk_cell BK158.out 17).trans rfl
                  have hcz20_18 : wc.cell? ⟨gb158, 18, none⟩ = some (.slice A0_18 l0_18.length c0_18) := (blk_cell BK158.out 18).trans rfl
                  have hcz20_19 : wc.cell? ⟨gb158, 19, none⟩ = some (.slice A0_19 l0_19.length c0_19) := (blk_cell BK158.out 19).trans rfl
                  have hfz20_0 := blk_frozen BK158.out 0
                  have hfz20_1 := blk_frozen BK158.out 1
                  have hfz20_2 := blk_frozen BK158.out 2
                  have hfz20_3 := blk_frozen BK158.out 3
                  have hfz20_4 := blk_frozen BK158.out 4
                  have hfz20_5 := blk_frozen BK158.out 5
                  have hfz20_6 := blk_frozen BK158.out 6
                  have hfz20_7 := blk_frozen BK158.out 7
                  have hfz20_8 := blk_frozen BK158.out 8
                  have hfz20_9 := blk_frozen BK158.out 9
                  have hfz20_10 := blk_frozen BK158.out 10
                  have hfz20_11 := blk_frozen BK158.out 11
                  have hfz20_12 := blk_frozen BK158.out 12
                  have hfz20_13 := blk_frozen BK158.out 13
                  have hfz20_14 := blk_frozen BK158.out 14
                  have hfz20_15 := blk_frozen BK158.out 15
                  have hfz20_16 := blk_frozen BK158.out 16
                  have hfz20_17 := blk_frozen BK158.out 17
                  have hfz20_18 := blk_frozen BK158.out 18
                  have hfz20_19 := blk_frozen BK158.out 19
                  have p159 : 0 ≤ (x10_1 : Int) := of_decide_eq_true (by first | (with_reducible assumption) | assumption)
                  have q159 : x10_1 < (l0_0.length : Int) := of_decide_eq_true (by first | (with_reducible assumption) | assumption)
                  obtain ⟨ad159, e159, hx159_0, hx159_1, hx159_2, hx159_3⟩ := at_T56 HR0_0.out x10_1 p159 q159
                  cases e159
                  replace hx159_0 := (HB.out.cell (World.block_lt_of_cell? w _ hx159_0)).trans hx159_0
                  replace hx159_1 := (HB.out.cell (World.block_lt_of_cell? w _ hx159_1)).trans hx159_1
                  replace hx159_2 := (HB.out.cell (World.block_lt_of_cell? w _ hx159_2)).trans hx159_2
                  replace hx159_3 := (HB.out.cell (World.block_lt_of_cell? w _ hx159_3)).trans hx159_3
                  replace p159 := eq_true p159
                  replace q159 := eq_true q159
                  go_wp2
                  go_roundg kj5
                  case measure => have := HK1.out; have := HJ5.out; omega
                  case rel => exact ⟨(x9_1), (wrap64 (x10_1 + 1)), (by first | rfl | (simp; done) | (simp [*]; done)), H', ⟨by have := HK1.out; have := HJ5.out; omega⟩, ⟨by (with_reducible repeat (first | apply Kd.R_alloc | apply Kd.R_drewN | apply Kd.R_drew)); exact HO_9.out⟩, ⟨by (with_reducible repeat (first | refine blk_drewN ?_ _ | refine blk_drew ?_ | refine blk_alloc ?_ _)); exact BK158.out⟩, ⟨by repeat (first | (with_reducible first | exact HB.out | apply below_alloc | apply pw_below_drewN | apply below_drew1 | refine below_set ?_ GE158.out) | exact HB.out)⟩⟩
              · rw [if_neg c12] at H
                exact absurd H (by simp)
            · rw [if_neg c11] at H
              exact absurd H (by simp)
          · replace c10 := Bool.eq_false_iff.mpr c10
            subst c10
            have H1 : (some x9_1) = some r := by rw [if_neg (show ¬ (false = true) by decide)] at H; exact H
            clear H
            have H := H1
            clear H1
            obtain rfl := Option.some.inj H
            go_wp2
            go_ret
            exact ⟨_, by first | rfl | (simp [errW_none, errW_some] <;> rfl) | (simp [*, errW_none, errW_some] <;> rfl), by (with_reducible repeat (first | apply Kd.R_alloc | apply Kd.R_drewN | apply Kd.R_drew)); exact HO_9.out, by repeat (first | (with_reducible first | exact HB.out | apply below_alloc | apply pw_below_drewN | apply below_drew1 | refine below_set ?_ GE158.out) | exact HB.out)⟩

/-! ### cohortref14_Class: function 15 -/
set_option maxHeartbeats 8000000 in
set_option maxRecDepth 100000 in
theorem cohortref14_Class.walk (cs : Array Value) (hsz : (Try.prog.info? 37).map (·.size) = some cs.size) (fb : Bool) (Aq : Option Addr) (n cq : Nat) (f : Bool → Option (List Int)) (spot : Bool) (now : Int) (r1 r2 : Bool) (w : World) (hfb : cs[3]? = some (.bool fb))
    (hO : ∀ (s : Bool) (p : List Int) (W : World), f s = some p → Below w.heap.size w W → Calls Try.prog 20 #[.agg cs, .slice Aq n cq, .bool s, .int .u64 now] W fun e w' => ∃ v, e = .returned v ∧ Kd.R (Kd.int .i64) 3 w' W.heap.size (fun _ => True) v p ∧ Below W.heap.size W w')
    (h : ((f spot).bind fun p => if 0 < p.length then some (spot, true) else if spot = true ∧ fb = true then (f false).bind fun p2 => some (false, decide (0 < p2.length)) else some (false, false)) = some (r1, r2)) :
    Calls Try.prog 15 #[.agg cs, .slice Aq n cq, .bool spot, .int .u64 now] w fun e w' => e = .returned (.tuple #[.bool r1, .bool r2]) ∧ Below w.heap.size w w' := by
  have HB := Aside0.mk (Below.refl w.heap.size w)
  have HSZ := Aside0.mk hsz
  have HFB := Aside0.mk hfb
  have HO := Aside0.mk hO
  clear hsz hfb hO
  obtain ⟨p1, h1, h⟩ := Option.bind_eq_some_iff.mp h
  have P1 := Aside0.mk h1
  clear h1
  by_cases hp : 0 < p1.length
  · rw [if_pos hp] at h
    cases h
    have hd := decide_eq_true hp
    clear hp
    go_enter Try.func15, Try.ntmps15
    go_wp2_with (first
            | ((with_reducible refine gate_dst (N := 4) rfl ?_); refine box_event ?hg (N := 4) ?hd (cs := cs) (t := 37) ?hr ?_; (case hd => rfl); (case hg => rfl); (case hr => first | (go_simp; done) | (go_simp; rfl)); intro gc hg w1_c hbox hb; have GGc := Aside0.mk (show w.heap.size ≤ gc from by rw [hg]; exact below_size (by repeat (first | (with_reducible first | exact HB.out | apply below_alloc | apply pw_below_drewN | apply below_drew1) | exact HB.out))); have BKc := Aside0.mk hbox; clear hbox hg; have n0_ := Aside0.mk (below_step (by repeat (first | (with_reducible first | exact HB.out | apply below_alloc | apply pw_below_drewN | apply below_drew1) | exact HB.out)) hb); clear HB; have HB := n0_; clear n0_ hb)
            | ((with_reducible refine gate_dst (N := 10) rfl ?_); refine wpList_load_row rfl 37 (.tmp 4) rfl gc rfl 37 cs (0, 0) _ (by (with_reducible repeat (first | refine blk_drewN ?_ _ | refine blk_drew ?_ | refine blk_alloc ?_ _)); exact BKc.out) Try.underlying37 rfl HSZ.out ?_)
            | (go_at_call 20; with_reducible refine (HO.out spot p1 _ P1.out (by repeat (first | (with_reducible first | exact HB.out | apply below_alloc | apply pw_below_drewN | apply below_drew1) | exact HB.out))).mono ?_; rintro e w' ⟨v, rfl, ho, hb⟩; obtain ⟨A, c, eA⟩ := Kd.R_slice ho; subst eA; clear ho; have n0_ := Aside0.mk (below_step (by repeat (first | (with_reducible first | exact HB.out | apply below_alloc | apply pw_below_drewN | apply below_drew1) | exact HB.out)) hb); have n1_ := Aside0.mk (blk_below (by (with_reducible repeat (first | refine blk_drewN ?_ _ | refine blk_drew ?_ | refine blk_alloc ?_ _)); exact BKc.out) hb); clear HB BKc; have HB := n0_; have BKc := n1_; clear n0_ n1_ hb))
    go_ret2
    exact ⟨rfl, by repeat (first | (with_reducible first | exact HB.out | apply below_alloc | apply pw_below_drewN | apply below_drew1) | exact HB.out)⟩
  · rw [if_neg hp] at h
    have hd := decide_eq_false hp
    clear hp
    cases spot with
    | false =>
      rw [if_neg (by simp)] at h
      cases h
      go_enter Try.func15, Try.ntmps15
      go_wp2_with (first
            | ((with_reducible refine gate_dst (N := 4) rfl ?_); refine box_event ?hg (N := 4) ?hd (cs := cs) (t := 37) ?hr ?_; (case hd => rfl); (case hg => rfl); (case hr => first | (go_simp; done) | (go_simp; rfl)); intro gc hg w1_c hbox hb; have GGc := Aside0.mk (show w.heap.size ≤ gc from by rw [hg]; exact below_size (by repeat (first | (with_reducible first | exact HB.out | apply below_alloc | apply pw_below_drewN | apply below_drew1) | exact HB.out))); have BKc := Aside0.mk hbox; clear hbox hg; have n0_ := Aside0.mk (below_step (by repeat (first | (with_reducible first | exact HB.out | apply below_alloc | apply pw_below_drewN | apply below_drew1) | exact HB.out)) hb); clear HB; have HB := n0_; clear n0_ hb)
            | ((with_reducible refine gate_dst (N := 10) rfl ?_); refine wpList_load_row rfl 37 (.tmp 4) rfl gc rfl 37 cs (0, 0) _ (by (with_reducible repeat (first | refine blk_drewN ?_ _ | refine blk_drew ?_ | refine blk_alloc ?_ _)); exact BKc.out) Try.underlying37 rfl HSZ.out ?_)
            | (go_at_call 20; with_reducible refine (HO.out false p1 _ P1.out (by repeat (first | (with_reducible first | exact HB.out | apply below_alloc | apply pw_below_drewN | apply below_drew1) | exact HB.out))).mono ?_; rintro e w' ⟨v, rfl, ho, hb⟩; obtain ⟨A, c, eA⟩ := Kd.R_slice ho; subst eA; clear ho; have n0_ := Aside0.mk (below_step (by repeat (first | (with_reducible first | exact HB.out | apply below_alloc | apply pw_below_drewN | apply below_drew1) | exact HB.out)) hb); have n1_ := Aside0.mk (blk_below (by (with_reducible repeat (first | refine blk_drewN ?_ _ | refine blk_drew ?_ | refine blk_alloc ?_ _)); exact BKc.out) hb); clear HB BKc; have HB := n0_; have BKc := n1_; clear n0_ n1_ hb))
      go_ret2
      exact ⟨rfl, by repeat (first | (with_reducible first | exact HB.out | apply below_alloc | apply pw_below_drewN | apply below_drew1) | exact HB.out)⟩
    | true =>
      cases fb with
      | false =>
        rw [if_neg (by simp)] at h
        cases h
        go_enter Try.func15, Try.ntmps15
        go_wp2_with (first
            | ((with_reducible refine gate_dst (N := 4) rfl ?_); refine box_event ?hg (N := 4) ?hd (cs := cs) (t := 37) ?hr ?_; (case hd => rfl); (case hg => rfl); (case hr => first | (go_simp; done) | (go_simp; rfl)); intro gc hg w1_c hbox hb; have GGc := Aside0.mk (show w.heap.size ≤ gc from by rw [hg]; exact below_size (by repeat (first | (with_reducible first | exact HB.out | apply below_alloc | apply pw_below_drewN | apply below_drew1) | exact HB.out))); have BKc := Aside0.mk hbox; clear hbox hg; have n0_ := Aside0.mk (below_step (by repeat (first | (with_reducible first | exact HB.out | apply below_alloc | apply pw_below_drewN | apply below_drew1) | exact HB.out)) hb); clear HB; have HB := n0_; clear n0_ hb)
            | ((with_reducible refine gate_dst (N := 10) rfl ?_); refine wpList_load_row rfl 37 (.tmp 4) rfl gc rfl 37 cs (0, 0) _ (by (with_reducible repeat (first | refine blk_drewN ?_ _ | refine blk_drew ?_ | refine blk_alloc ?_ _)); exact BKc.out) Try.underlying37 rfl HSZ.out ?_)
            | (go_at_call 20; with_reducible refine (HO.out true p1 _ P1.out (by repeat (first | (with_reducible first | exact HB.out | apply below_alloc | apply pw_below_drewN | apply below_drew1) | exact HB.out))).mono ?_; rintro e w' ⟨v, rfl, ho, hb⟩; obtain ⟨A, c, eA⟩ := Kd.R_slice ho; subst eA; clear ho; have n0_ := Aside0.mk (below_step (by repeat (first | (with_reducible first | exact HB.out | apply below_alloc | apply pw_below_drewN | apply below_drew1) | exact HB.out)) hb); have n1_ := Aside0.mk (blk_below (by (with_reducible repeat (first | refine blk_drewN ?_ _ | refine blk_drew ?_ | refine blk_alloc ?_ _)); exact BKc.out) hb); clear HB BKc; have HB := n0_; have BKc := n1_; clear n0_ n1_ hb; have hfb : w'.cell? ⟨gc, 3, none⟩ = some (.bool false) := (blk_cell BKc.out 3).trans HFB.out))
        go_ret2
        exact ⟨rfl, by repeat (first | (with_reducible first | exact HB.out | apply below_alloc | apply pw_below_drewN | apply below_drew1) | exact HB.out)⟩
      | true =>
        rw [if_pos ⟨rfl, rfl⟩] at h
        obtain ⟨p2, h2, h⟩ := Option.bind_eq_some_iff.mp h
        have P2 := Aside0.mk h2
        clear h2
        cases h
        go_enter Try.func15, Try.ntmps15
        go_wp2_with (first
            | ((with_reducible refine gate_dst (N := 4) rfl ?_); refine box_event ?hg (N := 4) ?hd (cs := cs) (t := 37) ?hr ?_; (case hd => rfl); (case hg => rfl); (case hr => first | (go_simp; done) | (go_simp; rfl)); intro gc hg w1_c hbox hb; have GGc := Aside0.mk (show w.heap.size ≤ gc from by rw [hg]; exact below_size (by repeat (first | (with_reducible first | exact HB.out | apply below_alloc | apply pw_below_drewN | apply below_drew1) | exact HB.out))); have BKc := Aside0.mk hbox; clear hbox hg; have n0_ := Aside0.mk (below_step (by repeat (first | (with_reducible first | exact HB.out | apply below_alloc | apply pw_below_drewN | apply below_drew1) | exact HB.out)) hb); clear HB; have HB := n0_; clear n0_ hb)
            | ((with_reducible refine gate_dst (N := 10) rfl ?_); refine wpList_load_row rfl 37 (.tmp 4) rfl gc rfl 37 cs (0, 0) _ (by (with_reducible repeat (first | refine blk_drewN ?_ _ | refine blk_drew ?_ | refine blk_alloc ?_ _)); exact BKc.out) Try.underlying37 rfl HSZ.out ?_)
            | (go_at_call 20; with_reducible refine (HO.out true p1 _ P1.out (by repeat (first | (with_reducible first | exact HB.out | apply below_alloc | apply pw_below_drewN | apply below_drew1) | exact HB.out))).mono ?_; rintro e w' ⟨v, rfl, ho, hb⟩; obtain ⟨A, c, eA⟩ := Kd.R_slice ho; subst eA; clear ho; have n0_ := Aside0.mk (below_step (by repeat (first | (with_reducible first | exact HB.out | apply below_alloc | apply pw_below_drewN | apply below_drew1) | exact HB.out)) hb); have n1_ := Aside0.mk (blk_below (by (with_reducible repeat (first | refine blk_drewN ?_ _ | refine blk_drew ?_ | refine blk_alloc ?_ _)); exact BKc.out) hb); clear HB BKc; have HB := n0_; have BKc := n1_; clear n0_ n1_ hb; have hfb : w'.cell? ⟨gc, 3, none⟩ = some (.bool true) := (blk_cell BKc.out 3).trans HFB.out)
            | ((with_reducible refine gate_dst (N := 24) rfl ?_); (refine gate_guard (by rfl) ?_; dsimp only); refine wpList_load_row rfl 37 (.tmp 4) rfl gc rfl 37 cs (0, 0) _ (by (with_reducible repeat (first | refine blk_drewN ?_ _ | refine blk_drew ?_ | refine blk_alloc ?_ _)); exact BKc.out) Try.underlying37 rfl HSZ.out ?_)
            | (go_at_call 20; with_reducible refine (HO.out false p2 _ P2.out (by repeat (first | (with_reducible first | exact HB.out | apply below_alloc | apply pw_below_drewN | apply below_drew1) | exact HB.out))).mono ?_; rintro e w' ⟨v, rfl, ho, hb⟩; obtain ⟨A, c, eA⟩ := Kd.R_slice ho; subst eA; clear ho; have n0_ := Aside0.mk (below_step (by repeat (first | (with_reducible first | exact HB.out | apply below_alloc | apply pw_below_drewN | apply below_drew1) | exact HB.out)) hb); have n1_ := Aside0.mk (blk_below (by (with_reducible repeat (first | refine blk_drewN ?_ _ | refine blk_drew ?_ | refine blk_alloc ?_ _)); exact BKc.out) hb); clear HB BKc; have HB := n0_; have BKc := n1_; clear n0_ n1_ hb))
        go_ret2
        exact ⟨rfl, by repeat (first | (with_reducible first | exact HB.out | apply below_alloc | apply pw_below_drewN | apply below_drew1) | exact HB.out)⟩

theorem cohortref14_Class.sz (A0_0 : Option Addr) (c0_0 : Nat) (l0_0 : List (S56)) (a0_1 : Int) (a0_2 : Int) (a0_3 : Bool) (a0_4 : Int) (a0_5 : Int) (a0_6 : Int) (a0_7 : Int) (a0_8 : Int) (a0_9 : Int) (a0_10 : Int) (a0_11 : Int) (a0_12 : Int) (a0_13 : Int) (a0_14 : Int) (a0_15 : Int) (a0_16 : Bool) (a0_17 : Int) (A0_18 : Option Addr) (c0_18 : Nat) (l0_18 : List (S75)) (A0_19 : Option Addr) (c0_19 : Nat) (l0_19 : List (S77)) : (Try.prog.info? 37).map (·.size) = some (#[.slice A0_0 l0_0.length c0_0, .int .u8 a0_1, .int .i64 a0_2, .bool a0_3, .int .i64 a0_4, .int .i64 a0_5, .int .i64 a0_6, .int .i64 a0_7, .int .i64 a0_8, .int .i64 a0_9, .int .u64 a0_10, .int .u64 a0_11, .int .u64 a0_12, .int .u64 a0_13, .int .u64 a0_14, .int .u64 a0_15, .bool a0_16, .int .i64 a0_17, .slice A0_18 l0_18.length c0_18, .slice A0_19 l0_19.length c0_19] : Array Value).size := by
  have h : (Try.prog.info? 37).map (·.size) = some 20 := by kernel_rfl
  rw [h]; rfl
def cohortref14_Class.f (k : Nat) (l0_0 : List (S56)) (a0_1 : Int) (a0_2 : Int) (a0_3 : Bool) (a0_4 : Int) (a0_5 : Int) (a0_6 : Int) (a0_7 : Int) (a0_8 : Int) (a0_9 : Int) (a0_10 : Int) (a0_11 : Int) (a0_12 : Int) (a0_13 : Int) (a0_14 : Int) (a0_15 : Int) (a0_16 : Bool) (a0_17 : Int) (l0_18 : List (S75)) (l0_19 : List (S77)) (l1 : List S31) (a2 : Bool) (a3 : Int) : Option (Bool × Bool) := (cohortref14_Opens.f k l0_0 a0_1 a0_2 a0_3 a0_4 a0_5 a0_6 a0_7 a0_8 a0_9 a0_10 a0_11 a0_12 a0_13 a0_14 a0_15 a0_16 a0_17 l0_18 l0_19 l1 a2 a3).bind fun p => if 0 < p.length then some (a2, true) else if a2 = true ∧ a0_3 = true then (cohortref14_Opens.f k l0_0 a0_1 a0_2 a0_3 a0_4 a0_5 a0_6 a0_7 a0_8 a0_9 a0_10 a0_11 a0_12 a0_13 a0_14 a0_15 a0_16 a0_17 l0_18 l0_19 l1 false a3).bind fun p2 => some (false, decide (0 < p2.length)) else some (false, false)
theorem cohortref14_Class.calls (k : Nat) (A0_0 : Option Addr) (c0_0 : Nat) (l0_0 : List (S56)) (a0_1 : Int) (a0_2 : Int) (a0_3 : Bool) (a0_4 : Int) (a0_5 : Int) (a0_6 : Int) (a0_7 : Int) (a0_8 : Int) (a0_9 : Int) (a0_10 : Int) (a0_11 : Int) (a0_12 : Int) (a0_13 : Int) (a0_14 : Int) (a0_15 : Int) (a0_16 : Bool) (a0_17 : Int) (A0_18 : Option Addr) (c0_18 : Nat) (l0_18 : List (S75)) (A0_19 : Option Addr) (c0_19 : Nat) (l0_19 : List (S77)) (A1 : Option Addr) (c1 : Nat) (l1 : List S31) (a2 : Bool) (a3 : Int) (r1 : Bool) (r2 : Bool) (w : World) (hr0_0 : Kd.C k56 w A0_0 l0_0.length l0_0) (hc0_0 : l0_0.length ≤ c0_0) (hr0_18 : Kd.C k75 w A0_18 l0_18.length l0_18) (hc0_18 : l0_18.length ≤ c0_18) (hr0_19 : Kd.C k77 w A0_19 l0_19.length l0_19) (hc0_19 : l0_19.length ≤ c0_19) (hr1 : Kd.C k31 w A1 l1.length l1) (hc1 : l1.length ≤ c1) (h : cohortref14_Class.f k l0_0 a0_1 a0_2 a0_3 a0_4 a0_5 a0_6 a0_7 a0_8 a0_9 a0_10 a0_11 a0_12 a0_13 a0_14 a0_15 a0_16 a0_17 l0_18 l0_19 l1 a2 a3 = some (r1, r2)) :
    Calls Try.prog 15 #[.agg #[.slice A0_0 l0_0.length c0_0, .int .u8 a0_1, .int .i64 a0_2, .bool a0_3, .int .i64 a0_4, .int .i64 a0_5, .int .i64 a0_6, .int .i64 a0_7, .int .i64 a0_8, .int .i64 a0_9, .int .u64 a0_10, .int .u64 a0_11, .int .u64 a0_12, .int .u64 a0_13, .int .u64 a0_14, .int .u64 a0_15, .bool a0_16, .int .i64 a0_17, .slice A0_18 l0_18.length c0_18, .slice A0_19 l0_19.length c0_19], .slice A1 l1.length c1, .bool a2, .int .u64 a3] w fun e w' => e = .returned (.tuple #[.bool r1, .bool r2]) ∧ Below w.heap.size w w' :=
  cohortref14_Class.walk #[.slice A0_0 l0_0.length c0_0, .int .u8 a0_1, .int .i64 a0_2, .bool a0_3, .int .i64 a0_4, .int .i64 a0_5, .int .i64 a0_6, .int .i64 a0_7, .int .i64 a0_8, .int .i64 a0_9, .int .u64 a0_10, .int .u64 a0_11, .int .u64 a0_12, .int .u64 a0_13, .int .u64 a0_14, .int .u64 a0_15, .bool a0_16, .int .i64 a0_17, .slice A0_18 l0_18.length c0_18, .slice A0_19 l0_19.length c0_19] (cohortref14_Class.sz A0_0 c0_0 l0_0 a0_1 a0_2 a0_3 a0_4 a0_5 a0_6 a0_7 a0_8 a0_9 a0_10 a0_11 a0_12 a0_13 a0_14 a0_15 a0_16 a0_17 A0_18 c0_18 l0_18 A0_19 c0_19 l0_19) a0_3 A1 l1.length c1 (fun s => cohortref14_Opens.f k l0_0 a0_1 a0_2 a0_3 a0_4 a0_5 a0_6 a0_7 a0_8 a0_9 a0_10 a0_11 a0_12 a0_13 a0_14 a0_15 a0_16 a0_17 l0_18 l0_19 l1 s a3) a2 a3 r1 r2 w rfl (fun s p W hp hW => cohortref14_Opens.calls k A0_0 c0_0 l0_0 a0_1 a0_2 a0_3 a0_4 a0_5 a0_6 a0_7 a0_8 a0_9 a0_10 a0_11 a0_12 a0_13 a0_14 a0_15 a0_16 a0_17 A0_18 c0_18 l0_18 A0_19 c0_19 l0_19 A1 c1 l1 s a3 p W (Kd.C_below hr0_0 hW) hc0_0 (Kd.C_below hr0_18 hW) hc0_18 (Kd.C_below hr0_19 hW) hc0_19 (Kd.C_below hr1 hW) hc1 hp) h

/-! ### cohortref14_Next: function 16 -/
def cohortref14_Next.l0 : Nat → List (S31) → Int → Int → Bool → Int → Option (Int × Bool)
  | 0, _, _, _, _, _ => none
  | k + 1, x0, x1, x6, x7, x8 => if x8 < (x0.length : Int) then (if 0 ≤ x8 then (if ((rd_T31 x0 x8).f2) > x1 then (if x7 = true then (if ((rd_T31 x0 x8).f2) < x6 then (cohortref14_Next.l0 k x0 x1 ((rd_T31 x0 x8).f2) true (wrap64 (x8 + 1))) else (cohortref14_Next.l0 k x0 x1 x6 x7 (wrap64 (x8 + 1)))) else (cohortref14_Next.l0 k x0 x1 ((rd_T31 x0 x8).f2) true (wrap64 (x8 + 1)))) else (cohortref14_Next.l0 k x0 x1 x6 x7 (wrap64 (x8 + 1)))) else (none)) else (some (x6, x7))
def cohortref14_Next.f (k : Nat) (l0 : List (S31)) (a1 : Int) : Option (Int × Bool) := cohortref14_Next.l0 k l0 a1 0 false 0
theorem cohortref14_Next.mono_l : ∀ k, (∀ y0 y1 y2 y3 y4, LeO (cohortref14_Next.l0 k y0 y1 y2 y3 y4) (cohortref14_Next.l0 (k + 1) y0 y1 y2 y3 y4))
  | 0 => fun _ _ _ _ _ r h => by simp [cohortref14_Next.l0] at h
  | k + 1 => by
    have ih0 := cohortref14_Next.mono_l k
    · intro y0 y1 y2 y3 y4
      unfold cohortref14_Next.l0
      repeat' first
      | (with_reducible exact ih0 _ _ _ _ _)
      | (with_reducible exact LeO.refl _)
      | (with_reducible exact LeO.none _)
      | (with_reducible refine LeO.ite ?_ ?_)
      | (with_reducible refine LeO.bind ?_ (fun _ => ?_))
      | exact ih0 _ _ _ _ _
      | exact LeO.none _
      | refine LeO.ite ?_ ?_
      | refine LeO.bind ?_ (fun _ => ?_)
theorem cohortref14_Next.mono : ∀ a0 a1 k, LeO (cohortref14_Next.f k a0 a1) (cohortref14_Next.f (k + 1) a0 a1) := by
  intro a0 a1 k
  have ih0 := cohortref14_Next.mono_l k
  unfold cohortref14_Next.f
  repeat' first
      | (with_reducible exact ih0 _ _ _ _ _)
      | (with_reducible exact LeO.refl _)
      | (with_reducible exact LeO.none _)
      | (with_reducible refine LeO.ite ?_ ?_)
      | (with_reducible refine LeO.bind ?_ (fun _ => ?_))
      | exact ih0 _ _ _ _ _
      | exact LeO.none _
      | refine LeO.ite ?_ ?_
      | refine LeO.bind ?_ (fun _ => ?_)
set_option maxHeartbeats 8000000 in
set_option maxRecDepth 100000 in
theorem cohortref14_Next.calls (k : Nat) (A0 : Option Addr) (c0 : Nat) (l0 : List (S31)) (a1 : Int) (r1 : Int) (r2 : Bool) (w : World) (hr0 : Kd.C k31 w A0 l0.length l0) (hc0 : l0.length ≤ c0) (h : cohortref14_Next.f k l0 a1 = some (r1, r2)) :
    Calls Try.prog 16 #[.slice A0 l0.length c0, .int .u64 a1] w fun e w' => e = .returned (.tuple #[.int .u64 r1, .bool r2]) ∧ Drawn0 w w' := by
  have HR0 := Aside0.mk hr0
  have HC0 := Aside0.mk hc0
  clear hr0 hc0
  have H : (cohortref14_Next.l0 k l0 a1 0 false 0) = some (r1, r2) := h
  clear h
  have H' := Aside0.mk H
  clear H
  go_enter Try.func16, Try.ntmps16
  go_wp2
  go_loopg [6, 7, 8] k (fun kq v6 v7 v8 w' => ∃ (x6_1 : Int) (x7_1 : Bool) (x8_1 : Int), v6 = .int .u64 x6_1 ∧ v7 = .bool x7_1 ∧ v8 = .int .i64 x8_1 ∧ Aside0 (cohortref14_Next.l0 kq l0 a1 x6_1 x7_1 x8_1 = some (r1, r2)) ∧ Aside0 (kq ≤ k) ∧ Drawn0 w w')
  case atStart => exact ⟨(0), (false), (0), (by first | rfl | (simp; done) | (simp [*]; done)), (by first | rfl | (simp; done) | (simp [*]; done)), (by first | rfl | (simp; done) | (simp [*]; done)), H', ⟨Nat.le_refl _⟩, by repeat (first | exact Drawn0.refl _ | apply Drawn0.step)⟩
  case round =>
    clear H'
    try clear c1
    try clear p2
    obtain ⟨x6_1, x7_1, x8_1, rfl, rfl, rfl, HA, HK1, ⟨m1, rfl⟩⟩ := hrel
    cases gk with
    | zero => exact absurd HA.out (by simp [cohortref14_Next.l0])
    | succ k1 =>
      have H := HA.out
      clear HA
      simp only [cohortref14_Next.l0] at H
      by_cases c3 : x8_1 < (l0.length : Int)
      · rw [if_pos c3] at H
        have c3b0 : decide (x8_1 < (l0.length : Int)) = true := decide_eq_true c3
        clear c3
        by_cases c4 : 0 ≤ x8_1
        · rw [if_pos c4] at H
          have c4b0 : decide (0 ≤ x8_1) = true := decide_eq_true c4
          clear c4
          by_cases c5 : ((rd_T31 l0 x8_1).f2) > a1
          · rw [if_pos c5] at H
            have c5b0 : decide (a1 < ((rd_T31 l0 x8_1).f2)) = true := decide_eq_true c5
            clear c5
            by_cases c6 : x7_1 = true
            · subst c6
              have H1 : (if ((rd_T31 l0 x8_1).f2) < x6_1 then (cohortref14_Next.l0 k1 l0 a1 ((rd_T31 l0 x8_1).f2) true (wrap64 (x8_1 + 1))) else (cohortref14_Next.l0 k1 l0 a1 x6_1 true (wrap64 (x8_1 + 1)))) = some (r1, r2) := by rw [if_pos rfl] at H; exact H
              clear H
              have H := H1
              clear H1
              by_cases c7 : ((rd_T31 l0 x8_1).f2) < x6_1
              · rw [if_pos c7] at H
                have c7b0 : decide (((rd_T31 l0 x8_1).f2) < x6_1) = true := decide_eq_true c7
                clear c7
                have H' := Aside0.mk H
                clear H
                have p164 : 0 ≤ (x8_1 : Int) := of_decide_eq_true (by first | (with_reducible assumption) | assumption)
                have q164 : x8_1 < (l0.length : Int) := of_decide_eq_true (by first | (with_reducible assumption) | assumption)
                obtain ⟨ad164, e164, hx164_0, hx164_1, hx164_2⟩ := at_T31 HR0.out x8_1 p164 q164
                cases e164
                replace p164 := eq_true p164
                replace q164 := eq_true q164
                have p165 : 0 ≤ (x8_1 : Int) := of_decide_eq_true (by first | (with_reducible assumption) | assumption)
                have q165 : x8_1 < (l0.length : Int) := of_decide_eq_true (by first | (with_reducible assumption) | assumption)
                obtain ⟨ad165, e165, hx165_0, hx165_1, hx165_2⟩ := at_T31 HR0.out x8_1 p165 q165
                obtain rfl : ad164 = ad165 := (by injection e165)
                replace p165 := eq_true p165
                replace q165 := eq_true q165
                have p166 : 0 ≤ (x8_1 : Int) := of_decide_eq_true (by first | (with_reducible assumption) | assumption)
                have q166 : x8_1 < (l0.length : Int) := of_decide_eq_true (by first | (with_reducible assumption) | assumption)
                obtain ⟨ad166, e166, hx166_0, hx166_1, hx166_2⟩ := at_T31 HR0.out x8_1 p166 q166
                obtain rfl : ad164 = ad166 := (by injection e166)
                replace p166 := eq_true p166
                replace q166 := eq_true q166
                go_wp2
                go_roundg k1
                case measure => have := HK1.out; omega
                case rel => exact ⟨((rd_T31 l0 x8_1).f2), (true), (wrap64 (x8_1 + 1)), (by first | rfl | (simp; done) | (simp [*]; done)), (by first | rfl | (simp; done) | (simp [*]; done)), (by first | rfl | (simp; done) | (simp [*]; done)), H', ⟨by have := HK1.out; omega⟩, by repeat (first | exact Drawn0.refl _ | apply Drawn0.step)⟩
              · rw [if_neg c7] at H
                have c7b0 : decide (((rd_T31 l0 x8_1).f2) < x6_1) = false := decide_eq_false c7
                clear c7
                have H' := Aside0.mk H
                clear H
                have p164 : 0 ≤ (x8_1 : Int) := of_decide_eq_true (by first | (with_reducible assumption) | assumption)
                have q164 : x8_1 < (l0.length : Int) := of_decide_eq_true (by first | (with_reducible assumption) | assumption)
                obtain ⟨ad164, e164, hx164_0, hx164_1, hx164_2⟩ := at_T31 HR0.out x8_1 p164 q164
                cases e164
                replace p164 := eq_true p164
                replace q164 := eq_true q164
                have p165 : 0 ≤ (x8_1 : Int) := of_decide_eq_true (by first | (with_reducible assumption) | assumption)
                have q165 : x8_1 < (l0.length : Int) := of_decide_eq_true (by first | (with_reducible assumption) | assumption)
                obtain ⟨ad165, e165, hx165_0, hx165_1, hx165_2⟩ := at_T31 HR0.out x8_1 p165 q165
                obtain rfl : ad164 = ad165 := (by injection e165)
                replace p165 := eq_true p165
                replace q165 := eq_true q165
                go_wp2
                go_roundg k1
                case measure => have := HK1.out; omega
                case rel => exact ⟨(x6_1), (true), (wrap64 (x8_1 + 1)), (by first | rfl | (simp; done) | (simp [*]; done)), (by first | rfl | (simp; done) | (simp [*]; done)), (by first | rfl | (simp; done) | (simp [*]; done)), H', ⟨by have := HK1.out; omega⟩, by repeat (first | exact Drawn0.refl _ | apply Drawn0.step)⟩
            · replace c6 := Bool.eq_false_iff.mpr c6
              subst c6
              have H1 : (cohortref14_Next.l0 k1 l0 a1 ((rd_T31 l0 x8_1).f2) true (wrap64 (x8_1 + 1))) = some (r1, r2) := by rw [if_neg (show ¬ (false = true) by decide)] at H; exact H
              clear H
              have H := H1
              clear H1
              have H' := Aside0.mk H
              clear H
              have p164 : 0 ≤ (x8_1 : Int) := of_decide_eq_true (by first | (with_reducible assumption) | assumption)
              have q164 : x8_1 < (l0.length : Int) := of_decide_eq_true (by first | (with_reducible assumption) | assumption)
              obtain ⟨ad164, e164, hx164_0, hx164_1, hx164_2⟩ := at_T31 HR0.out x8_1 p164 q164
              cases e164
              replace p164 := eq_true p164
              replace q164 := eq_true q164
              have p167 : 0 ≤ (x8_1 : Int) := of_decide_eq_true (by first | (with_reducible assumption) | assumption)
              have q167 : x8_1 < (l0.length : Int) := of_decide_eq_true (by first | (with_reducible assumption) | assumption)
              obtain ⟨ad167, e167, hx167_0, hx167_1, hx167_2⟩ := at_T31 HR0.out x8_1 p167 q167
              obtain rfl : ad164 = ad167 := (by injection e167)
              replace p167 := eq_true p167
              replace q167 := eq_true q167
              go_wp2
              go_roundg k1
              case measure => have := HK1.out; omega
              case rel => exact ⟨((rd_T31 l0 x8_1).f2), (true), (wrap64 (x8_1 + 1)), (by first | rfl | (simp; done) | (simp [*]; done)), (by first | rfl | (simp; done) | (simp [*]; done)), (by first | rfl | (simp; done) | (simp [*]; done)), H', ⟨by have := HK1.out; omega⟩, by repeat (first | exact Drawn0.refl _ | apply Drawn0.step)⟩
          · rw [if_neg c5] at H
            have c5b0 : decide (a1 < ((rd_T31 l0 x8_1).f2)) = false := decide_eq_false c5
            clear c5
            have H' := Aside0.mk H
            clear H
            have p164 : 0 ≤ (x8_1 : Int) := of_decide_eq_true (by first | (with_reducible assumption) | assumption)
            have q164 : x8_1 < (l0.length : Int) := of_decide_eq_true (by first | (with_reducible assumption) | assumption)
            obtain ⟨ad164, e164, hx164_0, hx164_1, hx164_2⟩ := at_T31 HR0.out x8_1 p164 q164
            cases e164
            replace p164 := eq_true p164
            replace q164 := eq_true q164
            go_wp2
            go_roundg k1
            case measure => have := HK1.out; omega
            case rel => exact ⟨(x6_1), (x7_1), (wrap64 (x8_1 + 1)), (by first | rfl | (simp; done) | (simp [*]; done)), (by first | rfl | (simp; done) | (simp [*]; done)), (by first | rfl | (simp; done) | (simp [*]; done)), H', ⟨by have := HK1.out; omega⟩, by repeat (first | exact Drawn0.refl _ | apply Drawn0.step)⟩
        · rw [if_neg c4] at H
          exact absurd H (by simp)
      · rw [if_neg c3] at H
        have c3b0 : decide (x8_1 < (l0.length : Int)) = false := decide_eq_false c3
        clear c3
        simp only [Option.some.injEq, Prod.mk.injEq] at H
        obtain ⟨rfl, rfl⟩ := H
        go_wp2
        go_ret2
        exact ⟨by first | rfl | (simp; done) | (simp [*]; done), by repeat (first | exact Drawn0.refl _ | apply Drawn0.step)⟩

end Go.Proofs.Ytpkobboljdaaeaa.GA
