/- Contracts: each call of a Go function answers what the Lean function of its name says; a law of the set follows. No condition but each theorem's own. Written by a program of this session's out of the translation, with the functions proved by hand let in. -/
import Derived.Test.YtkmalmdmlkhccaaGAx0
import Derived.Test.YtkmalmdmlkhccaaGAx1
import Derived.Test.YtkmalmdmlkhccaaGAx2
namespace Go.Proofs.Ytkmalmdmlkhccaa.GA
open Go.RowKit Go.Proofs.YtkmalmdmlkhccaaW.PrintWords Go.Proofs.YtkmalmdmlkhccaaW.PrintLast Go.Proofs.YtkmalmdmlkhccaaW.PrintMore
attribute [local go_sem] max2_int min2_int max_two min_two max_three min_three max_four min_four   -- for this text's walks alone
set_option linter.unusedVariables false
set_option linter.unusedSimpArgs false

/-! ### cohortlaw23_SchedOnce: function 3 -/
mutual
def cohortlaw23_SchedOnce.l0 : Nat → Int → Int → List Int → List (S25) → List Int → Int → Int → Option (Bool)
  | 0, _, _, _, _, _, _, _ => none
  | k + 1, x0, x2, x3, x9, x10, x11, x12 => if x12 < (x3.length : Int) then (cohortlaw23_SchedOnce.j1 k x0 x2 x3 x9 x10 x11 x12 (decide (x11 < 300))) else (cohortlaw23_SchedOnce.j1 k x0 x2 x3 x9 x10 x11 x12 false)
def cohortlaw23_SchedOnce.j1 : Nat → Int → Int → List Int → List (S25) → List Int → Int → Int → Bool → Option (Bool)
  | 0, _, _, _, _, _, _, _, _ => none
  | k + 1, x0, x2, x3, x9, x10, x11, x12, x37 => if x37 = true then (if 0 ≤ x12 then (if x12 < (x3.length : Int) then (cohortlaw23_SchedOnce.l1 k x0 x2 x3 x9 x10 (IntKind.u64.wrap ((IntKind.u64.wrap (x11 + 1)) + (IntKind.u64.wrap (Int.tmod (rd x3 x12) 9)))) x12 false (IntKind.u64.wrap (x11 + 1))) else (none)) else (none)) else ((cohortlaw23_lives.f k).bind fun t170 => (some t170))
def cohortlaw23_SchedOnce.l1 : Nat → Int → Int → List Int → List (S25) → List Int → Int → Int → Bool → Int → Option (Bool)
  | 0, _, _, _, _, _, _, _, _, _ => none
  | k + 1, x0, x2, x3, x9, x10, x11, x12, x14, x15 => if x15 ≤ x11 then (if x14 = true then (cohortlaw23_SchedOnce.l1 k x0 x2 x3 x9 x10 x11 x12 true (IntKind.u64.wrap (x15 + 1))) else (if x15 = (IntKind.u64.wrap (x0)) then (cohortlaw23_SchedOnce.l1 k x0 x2 x3 x9 x10 x11 x12 true (IntKind.u64.wrap (x15 + 1))) else (if x15 > (IntKind.u64.wrap (x0)) then (if 0 < (x9.length : Int) then (if ((rd_T25 x9 0).f1) > 0 then (if ((rd_T25 x9 0).f1) = 0 then (none) else (cohortlaw23_SchedOnce.l1 k x0 x2 x3 x9 x10 x11 x12 ((Int.tmod (IntKind.u64.wrap (x15 - (IntKind.u64.wrap (x0)))) ((rd_T25 x9 0).f1)) == 0) (IntKind.u64.wrap (x15 + 1)))) else (cohortlaw23_SchedOnce.l1 k x0 x2 x3 x9 x10 x11 x12 false (IntKind.u64.wrap (x15 + 1)))) else (none)) else (cohortlaw23_SchedOnce.l1 k x0 x2 x3 x9 x10 x11 x12 false (IntKind.u64.wrap (x15 + 1)))))) else ((sched_Due.f k x9 x10 x11).bind fun bt174 => (if (bt174.2.1 != x14) = true then (some false) else (if bt174.2.1 = true then (if bt174.1 = x2 then (if (bt174.2.2.length : Int) = 1 then (if 0 < (bt174.2.2.length : Int) then (if (rd bt174.2.2 0) = 0 then (cohortlaw23_SchedOnce.l0 k x0 x2 x3 x9 bt174.2.2 x11 (wrap64 (x12 + 1))) else (if (rd bt174.2.2 0) ≤ x11 then (some false) else (cohortlaw23_SchedOnce.l0 k x0 x2 x3 x9 bt174.2.2 x11 (wrap64 (x12 + 1))))) else (none)) else (some false)) else (some false)) else (if (bt174.2.2.length : Int) = 1 then (if 0 < (bt174.2.2.length : Int) then (if (rd bt174.2.2 0) = 0 then ((cohortref23_Same.f k bt174.2.2 x10).bind fun t182 => (if t182 = true then (cohortlaw23_SchedOnce.l0 k x0 x2 x3 x9 bt174.2.2 x11 (wrap64 (x12 + 1))) else (some false))) else (if (rd bt174.2.2 0) ≤ x11 then (some false) else ((cohortref23_Same.f k bt174.2.2 x10).bind fun t184 => (if t184 = true then (cohortlaw23_SchedOnce.l0 k x0 x2 x3 x9 bt174.2.2 x11 (wrap64 (x12 + 1))) else (some false))))) else (none)) else (some false)))))
end
def cohortlaw23_SchedOnce.f (k : Nat) (a0 : Int) (a1 : Int) (a2 : Int) (l3 : List Int) : Option (Bool) := (some (([(⟨IntKind.u64.wrap (a0), IntKind.u64.wrap (Int.tmod a1 20), a2⟩ : S25)] : List (S25)) : List (S25))).bind fun y164 => ((sched_Begin.f k y164 0).bind fun t167 => (cohortlaw23_SchedOnce.l0 k a0 a2 l3 y164 t167 0 0))
theorem cohortlaw23_SchedOnce.mono_l : ∀ k, (∀ y0 y1 y2 y3 y4 y5 y6, LeO (cohortlaw23_SchedOnce.l0 k y0 y1 y2 y3 y4 y5 y6) (cohortlaw23_SchedOnce.l0 (k + 1) y0 y1 y2 y3 y4 y5 y6)) ∧ (∀ y0 y1 y2 y3 y4 y5 y6 y7, LeO (cohortlaw23_SchedOnce.j1 k y0 y1 y2 y3 y4 y5 y6 y7) (cohortlaw23_SchedOnce.j1 (k + 1) y0 y1 y2 y3 y4 y5 y6 y7)) ∧ (∀ y0 y1 y2 y3 y4 y5 y6 y7 y8, LeO (cohortlaw23_SchedOnce.l1 k y0 y1 y2 y3 y4 y5 y6 y7 y8) (cohortlaw23_SchedOnce.l1 (k + 1) y0 y1 y2 y3 y4 y5 y6 y7 y8))
  | 0 => ⟨fun _ _ _ _ _ _ _ r h => by simp [cohortlaw23_SchedOnce.l0] at h, fun _ _ _ _ _ _ _ _ r h => by simp [cohortlaw23_SchedOnce.j1] at h, fun _ _ _ _ _ _ _ _ _ r h => by simp [cohortlaw23_SchedOnce.l1] at h⟩
  | k + 1 => by
    obtain ⟨ih0, ih1, ih2⟩ := cohortlaw23_SchedOnce.mono_l k
    refine ⟨?_, ?_, ?_⟩
    · intro y0 y1 y2 y3 y4 y5 y6
      unfold cohortlaw23_SchedOnce.l0
      repeat' first
      | (with_reducible exact ih0 _ _ _ _ _ _ _)
      | (with_reducible exact ih1 _ _ _ _ _ _ _ _)
      | (with_reducible exact ih2 _ _ _ _ _ _ _ _ _)
      | (with_reducible exact cohortlaw23_lives.mono _)
      | (with_reducible exact cohortref23_Same.mono _ _ _)
      | (with_reducible exact sched_Begin.mono _ _ _)
      | (with_reducible exact sched_Due.mono _ _ _ _)
      | (with_reducible exact LeO.refl _)
      | (with_reducible exact LeO.none _)
      | (with_reducible refine LeO.ite ?_ ?_)
      | (with_reducible refine LeO.bind ?_ (fun _ => ?_))
      | exact ih0 _ _ _ _ _ _ _
      | exact ih1 _ _ _ _ _ _ _ _
      | exact ih2 _ _ _ _ _ _ _ _ _
      | exact cohortlaw23_lives.mono _
      | exact cohortref23_Same.mono _ _ _
      | exact sched_Begin.mono _ _ _
      | exact sched_Due.mono _ _ _ _
      | exact LeO.none _
      | refine LeO.ite ?_ ?_
      | refine LeO.bind ?_ (fun _ => ?_)
    · intro y0 y1 y2 y3 y4 y5 y6 y7
      unfold cohortlaw23_SchedOnce.j1
      repeat' first
      | (with_reducible exact ih0 _ _ _ _ _ _ _)
      | (with_reducible exact ih1 _ _ _ _ _ _ _ _)
      | (with_reducible exact ih2 _ _ _ _ _ _ _ _ _)
      | (with_reducible exact cohortlaw23_lives.mono _)
      | (with_reducible exact cohortref23_Same.mono _ _ _)
      | (with_reducible exact sched_Begin.mono _ _ _)
      | (with_reducible exact sched_Due.mono _ _ _ _)
      | (with_reducible exact LeO.refl _)
      | (with_reducible exact LeO.none _)
      | (with_reducible refine LeO.ite ?_ ?_)
      | (with_reducible refine LeO.bind ?_ (fun _ => ?_))
      | exact ih0 _ _ _ _ _ _ _
      | exact ih1 _ _ _ _ _ _ _ _
      | exact ih2 _ _ _ _ _ _ _ _ _
      | exact cohortlaw23_lives.mono _
      | exact cohortref23_Same.mono _ _ _
      | exact sched_Begin.mono _ _ _
      | exact sched_Due.mono _ _ _ _
      | exact LeO.none _
      | refine LeO.ite ?_ ?_
      | refine LeO.bind ?_ (fun _ => ?_)
    · intro y0 y1 y2 y3 y4 y5 y6 y7 y8
      unfold cohortlaw23_SchedOnce.l1
      repeat' first
      | (with_reducible exact ih0 _ _ _ _ _ _ _)
      | (with_reducible exact ih1 _ _ _ _ _ _ _ _)
      | (with_reducible exact ih2 _ _ _ _ _ _ _ _ _)
      | (with_reducible exact cohortlaw23_lives.mono _)
      | (with_reducible exact cohortref23_Same.mono _ _ _)
      | (with_reducible exact sched_Begin.mono _ _ _)
      | (with_reducible exact sched_Due.mono _ _ _ _)
      | (with_reducible exact LeO.refl _)
      | (with_reducible exact LeO.none _)
      | (with_reducible refine LeO.ite ?_ ?_)
      | (with_reducible refine LeO.bind ?_ (fun _ => ?_))
      | exact ih0 _ _ _ _ _ _ _
      | exact ih1 _ _ _ _ _ _ _ _
      | exact ih2 _ _ _ _ _ _ _ _ _
      | exact cohortlaw23_lives.mono _
      | exact cohortref23_Same.mono _ _ _
      | exact sched_Begin.mono _ _ _
      | exact sched_Due.mono _ _ _ _
      | exact LeO.none _
      | refine LeO.ite ?_ ?_
      | refine LeO.bind ?_ (fun _ => ?_)
theorem cohortlaw23_SchedOnce.mono : ∀ a0 a1 a2 a3 k, LeO (cohortlaw23_SchedOnce.f k a0 a1 a2 a3) (cohortlaw23_SchedOnce.f (k + 1) a0 a1 a2 a3) := by
  intro a0 a1 a2 a3 k
  obtain ⟨ih0, ih1, ih2⟩ := cohortlaw23_SchedOnce.mono_l k
  unfold cohortlaw23_SchedOnce.f
  repeat' first
      | (with_reducible exact ih0 _ _ _ _ _ _ _)
      | (with_reducible exact ih1 _ _ _ _ _ _ _ _)
      | (with_reducible exact ih2 _ _ _ _ _ _ _ _ _)
      | (with_reducible exact cohortlaw23_lives.mono _)
      | (with_reducible exact cohortref23_Same.mono _ _ _)
      | (with_reducible exact sched_Begin.mono _ _ _)
      | (with_reducible exact sched_Due.mono _ _ _ _)
      | (with_reducible exact LeO.refl _)
      | (with_reducible exact LeO.none _)
      | (with_reducible refine LeO.ite ?_ ?_)
      | (with_reducible refine LeO.bind ?_ (fun _ => ?_))
      | exact ih0 _ _ _ _ _ _ _
      | exact ih1 _ _ _ _ _ _ _ _
      | exact ih2 _ _ _ _ _ _ _ _ _
      | exact cohortlaw23_lives.mono _
      | exact cohortref23_Same.mono _ _ _
      | exact sched_Begin.mono _ _ _
      | exact sched_Due.mono _ _ _ _
      | exact LeO.none _
      | refine LeO.ite ?_ ?_
      | refine LeO.bind ?_ (fun _ => ?_)
set_option maxHeartbeats 8000000 in
set_option maxRecDepth 100000 in
theorem cohortlaw23_SchedOnce.calls (k : Nat) (a0 : Int) (a1 : Int) (a2 : Int) (A3 : Option Addr) (c3 : Nat) (l3 : List Int) (r : Bool) (w : World) (hr3 : Kd.C (Kd.int .u8) w A3 l3.length l3) (hc3 : l3.length ≤ c3) (h : cohortlaw23_SchedOnce.f k a0 a1 a2 l3 = some r) :
    Calls Try.prog 3 #[.int .u8 a0, .int .u8 a1, .int .i64 a2, .slice A3 l3.length c3] w fun e w' => e = .returned (.bool r) ∧ Below w.heap.size w w' := by
  have hu25 := Try.underlying25
  have HR3 := Aside0.mk hr3
  have HC3 := Aside0.mk hc3
  clear hr3 hc3
  have HB := Aside0.mk (Below.refl w.heap.size w)
  have H : ((some (([(⟨IntKind.u64.wrap (a0), IntKind.u64.wrap (Int.tmod a1 20), a2⟩ : S25)] : List (S25)) : List (S25))).bind fun y164 => ((sched_Begin.f k y164 0).bind fun t167 => (cohortlaw23_SchedOnce.l0 k a0 a2 l3 y164 t167 0 0))) = some r := h
  clear h
  obtain ⟨y164, hy164⟩ : ∃ y_ : List (S25), y_ = (([(⟨IntKind.u64.wrap (a0), IntKind.u64.wrap (Int.tmod a1 20), a2⟩ : S25)] : List (S25))) := ⟨_, rfl⟩
  replace H : ((sched_Begin.f k y164 0).bind fun t167 => (cohortlaw23_SchedOnce.l0 k a0 a2 l3 y164 t167 0 0)) = some r := by first | (rw [hy164]; with_reducible exact H) | (have H2_ := (Option.bind_some _ _).symm.trans H; rw [hy164]; with_reducible exact H2_) | (have H2_ := (Option.bind_some _ _).symm.trans H; with_reducible exact H2_) | with_reducible exact H | (rw [hy164]; exact H) | exact H
  have Ny164 := Aside0.mk hy164
  clear hy164
  replace H := Option.bind_eq_some_iff.mp H
  obtain ⟨t167, A50, H⟩ := H
  replace H : (cohortlaw23_SchedOnce.l0 k a0 a2 l3 y164 t167 0 0) = some r := H
  have A5 := Aside0.mk A50
  clear A50
  have H' := Aside0.mk H
  clear H
  go_enter Try.func3, Try.ntmps3
  go_wp2_with (first | ((with_reducible refine gate_dst (N := 27) rfl ?_); (try (refine gate_guard (by rfl) ?_; dsimp only)); refine Kd.R_lit k25 _ 25 ?hg (N := 27) ?hd (xs := ([(⟨IntKind.u64.wrap (a0), IntKind.u64.wrap (Int.tmod a1 20), a2⟩ : S25)] : List (S25))) (inner := [.int .u64 (IntKind.u64.wrap (a0)), .int .u64 (IntKind.u64.wrap (Int.tmod a1 20)), .int .i64 a2]) (ok := fun _ => True) (okp := fun _ => True) ?hr ?hp (fun _ hk => hk) trivial (Below.refl _ _) (Nat.le_refl _) (by simp) ?_; (case hd => rfl); (case hg => rfl); (case hr => first | (go_simp; done) | (go_simp; rfl)); (case hp => exact (Reps.c3 (show Kd.M k25 _ _ _ (⟨IntKind.u64.wrap (a0), IntKind.u64.wrap (Int.tmod a1 20), a2⟩ : S25) [.int .u64 (IntKind.u64.wrap (a0)), .int .u64 (IntKind.u64.wrap (Int.tmod a1 20)), .int .i64 a2] from (k25_mkM _ _ _ (⟨IntKind.u64.wrap (a0), IntKind.u64.wrap (Int.tmod a1 20), a2⟩ : S25) )) (Reps.none _ _))); intro v165 w6 ho7 hb hg_ hnew_; clear hg_ hnew_; (first | rw [← Ny164.out] at ho7 | (simp only [Int.reduceToNat] at ho7; rw [← Ny164.out] at ho7)); have n0_ := Aside0.mk (Kd.R_lower ho7 (below_size (by repeat (first | (with_reducible first | exact HB.out | apply below_alloc | apply pw_below_drewN | apply below_drew1) | exact HB.out)))); have n1_ := Aside0.mk (below_step (by repeat (first | (with_reducible first | exact HB.out | apply below_alloc | apply pw_below_drewN | apply below_drew1) | exact HB.out)) hb); clear HB; have HO166 := n0_; have HB := n1_; clear n0_ n1_; clear hb ho7; obtain ⟨Ao8, co8, eo8⟩ := Kd.R_slice HO166.out; subst eo8) | ((with_reducible refine gate_callee (f := 5) rfl ?_); refine goesL_ (some 29) rfl rfl Try.func5 (by kernel_rfl) rfl #[.slice Ao8 y164.length co8, .int .u64 0] rfl (by (try simp only [List.map_toArray, List.map_cons, List.map_nil]); first | done | rfl | (simp only [List.length_drop, List.length_take]; rfl)) ?_; (with_reducible refine (sched_Begin.calls k _ _ y164 0 t167 _ ?side1 ?side2 A5.out).mono ?_); (case side1 => repeat (first | exact (Kd.R_reads' HO166.out).2.2 | (with_reducible refine Kd.C_alloc ?_ _) | (with_reducible refine Kd.C_drewN ?_ _) | (with_reducible refine Kd.C_drew ?_))); (case side2 => exact (Kd.R_reads' HO166.out).2.1); rintro e w9 ⟨v168, rfl, ho0, hb⟩; refine ⟨_, rfl, ?_⟩; have n0_ := Aside0.mk (Kd.R_below (by (with_reducible repeat (first | apply Kd.R_alloc | apply Kd.R_drewN | apply Kd.R_drew)); exact HO166.out) hb); have n1_ := Aside0.mk (Kd.R_lower ho0 (below_size (by repeat (first | (with_reducible first | exact HB.out | apply below_alloc | apply pw_below_drewN | apply below_drew1) | exact HB.out)))); have n2_ := Aside0.mk (below_step (by repeat (first | (with_reducible first | exact HB.out | apply below_alloc | apply pw_below_drewN | apply below_drew1) | exact HB.out)) hb); clear HO166; clear HB; have HO166 := n0_; have HO169 := n1_; have HB := n2_; clear n0_ n1_ n2_; (try clear hb); (try clear hb2); (try clear hk); (try clear hi); (try clear ho0)))
  go_loopg [10, 11, 12] k (fun kq v10 v11 v12 w' => ∃ (x10_1 : List Int) (x11_1 : Int) (x12_1 : Int), v11 = .int .u64 x11_1 ∧ v12 = .int .i64 x12_1 ∧ Aside0 (cohortlaw23_SchedOnce.l0 kq a0 a2 l3 y164 x10_1 x11_1 x12_1 = some r) ∧ Aside0 (kq ≤ k) ∧ Aside0 (Kd.R k25 25 w' w.heap.size (fun _ => True) (.slice Ao8 y164.length co8) y164) ∧ Aside0 (Kd.R (Kd.int .u64) 23 w' w.heap.size (fun _ => True) v10 x10_1) ∧ Aside0 (Below w.heap.size w w'))
  case atStart => exact ⟨(t167), (0), (0), (by first | rfl | (simp; done) | (simp [*]; done)), (by first | rfl | (simp; done) | (simp [*]; done)), H', ⟨Nat.le_refl _⟩, ⟨by (with_reducible repeat (first | apply Kd.R_alloc | apply Kd.R_drewN | apply Kd.R_drew)); exact HO166.out⟩, ⟨by (with_reducible repeat (first | apply Kd.R_alloc | apply Kd.R_drewN | apply Kd.R_drew)); exact HO169.out⟩, ⟨by repeat (first | (with_reducible first | exact HB.out | apply below_alloc | apply pw_below_drewN | apply below_drew1) | exact HB.out)⟩⟩
  case round =>
    clear H'
    try clear p2
    try clear c3
    try clear c5
    obtain ⟨x10_1, x11_1, x12_1, rfl, rfl, HA, HK1, HO_9, HO_10, HB⟩ := hrel
    cases gk with
    | zero => exact absurd HA.out (by simp [cohortlaw23_SchedOnce.l0])
    | succ k1 =>
      have H := HA.out
      clear HA
      simp only [cohortlaw23_SchedOnce.l0] at H
      have HC10 := Aside0.mk H
      clear H
      go_upto_region 5 with (fail)
      go_cut [37] (fun v37 wc => ∃ (kq : Nat) (x37_9 : Bool), v37 = .bool x37_9 ∧ Aside0 (cohortlaw23_SchedOnce.j1 kq a0 a2 l3 y164 x10_1 x11_1 x12_1 x37_9 = some r) ∧ Aside0 (kq ≤ k1) ∧ Aside0 (Kd.R k25 25 wc w.heap.size (fun _ => True) (.slice Ao8 y164.length co8) y164) ∧ Aside0 (Kd.R (Kd.int .u64) 23 wc w.heap.size (fun _ => True) u10 x10_1) ∧ Aside0 (Below w.heap.size w wc))
      case first =>
        have H := HC10.out
        clear HC10
        by_cases c11 : x12_1 < (l3.length : Int)
        · rw [if_pos c11] at H
          have c11b0 : decide (x12_1 < (l3.length : Int)) = true := decide_eq_true c11
          clear c11
          (first | rw [c11b0] | (simp only [i64_w, i32_w]; rw [c11b0]) | skip)
          have H' := Aside0.mk H
          clear H
          go_wp2
          go_meet
          case rel => exact ⟨_, (decide (x11_1 < 300)), (by first | rfl | (simp; done) | (simp [*]; done)), H', ⟨by have := HK1.out; first | omega | exact Nat.le_refl _⟩, ⟨by (with_reducible repeat (first | apply Kd.R_alloc | apply Kd.R_drewN | apply Kd.R_drew)); exact HO_9.out⟩, ⟨by (with_reducible repeat (first | apply Kd.R_alloc | apply Kd.R_drewN | apply Kd.R_drew)); exact HO_10.out⟩, ⟨by repeat (first | (with_reducible first | exact HB.out | apply below_alloc | apply pw_below_drewN | apply below_drew1) | exact HB.out)⟩⟩
        · rw [if_neg c11] at H
          have c11b0 : decide (x12_1 < (l3.length : Int)) = false := decide_eq_false c11
          clear c11
          (first | rw [c11b0] | (simp only [i64_w, i32_w]; rw [c11b0]) | skip)
          have H' := Aside0.mk H
          clear H
          go_wp2
          go_meet
          case rel => exact ⟨_, (false), (by first | rfl | (simp; done) | (simp [*]; done)), H', ⟨by have := HK1.out; first | omega | exact Nat.le_refl _⟩, ⟨by (with_reducible repeat (first | apply Kd.R_alloc | apply Kd.R_drewN | apply Kd.R_drew)); exact HO_9.out⟩, ⟨by (with_reducible repeat (first | apply Kd.R_alloc | apply Kd.R_drewN | apply Kd.R_drew)); exact HO_10.out⟩, ⟨by repeat (first | (with_reducible first | exact HB.out | apply below_alloc | apply pw_below_drewN | apply below_drew1) | exact HB.out)⟩⟩
      case rest =>
        clear HC10
        try clear c1
        try clear p2
        try clear c3
        try clear c5
        try clear c11
        try clear c11b0
        try clear p2
        obtain ⟨kq, x37_9, rfl, HA, HJ9, HO_9, HO_10, HB⟩ := hcut
        cases kq with
        | zero => exact absurd HA.out (by simp [cohortlaw23_SchedOnce.j1])
        | succ kj9 =>
          have H := HA.out
          clear HA
          simp only [cohortlaw23_SchedOnce.j1] at H
          by_cases c12 : x37_9 = true
          · subst c12
            have H1 : (if 0 ≤ x12_1 then (if x12_1 < (l3.length : Int) then (cohortlaw23_SchedOnce.l1 kj9 a0 a2 l3 y164 x10_1 (IntKind.u64.wrap ((IntKind.u64.wrap (x11_1 + 1)) + (IntKind.u64.wrap (Int.tmod (rd l3 x12_1) 9)))) x12_1 false (IntKind.u64.wrap (x11_1 + 1))) else (none)) else (none)) = some r := by rw [if_pos rfl] at H; exact H
            clear H
            have H := H1
            clear H1
            by_cases c13 : 0 ≤ x12_1
            · rw [if_pos c13] at H
              have c13b0 : decide (0 ≤ x12_1) = true := decide_eq_true c13
              clear c13
              by_cases c14 : x12_1 < (l3.length : Int)
              · rw [if_pos c14] at H
                have c14b0 : decide (x12_1 < (l3.length : Int)) = true := decide_eq_true c14
                clear c14
                have H' := Aside0.mk H
                clear H
                have p171 : 0 ≤ (x12_1 : Int) := of_decide_eq_true (by first | (with_reducible assumption) | assumption)
                have q171 : x12_1 < (l3.length : Int) := of_decide_eq_true (by first | (with_reducible assumption) | assumption)
                obtain ⟨ad171, e171, hx171_0⟩ := Kd.at_int HR3.out x12_1 p171 q171
                cases e171
                replace hx171_0 := (HB.out.cell (World.block_lt_of_cell? w _ hx171_0)).trans hx171_0
                replace p171 := eq_true p171
                replace q171 := eq_true q171
                go_wp2
                go_loopg [14, 15] kj9 (fun kq v14 v15 w' => ∃ (x14_3 : Bool) (x15_3 : Int), v14 = .bool x14_3 ∧ v15 = .int .u64 x15_3 ∧ Aside0 (cohortlaw23_SchedOnce.l1 kq a0 a2 l3 y164 x10_1 (IntKind.u64.wrap ((IntKind.u64.wrap (x11_1 + 1)) + (IntKind.u64.wrap (Int.tmod (rd l3 x12_1) 9)))) x12_1 x14_3 x15_3 = some r) ∧ Aside0 (kq ≤ kj9) ∧ Aside0 (Kd.R k25 25 w' w.heap.size (fun _ => True) (.slice Ao8 y164.length co8) y164) ∧ Aside0 (Kd.R (Kd.int .u64) 23 w' w.heap.size (fun _ => True) u10 x10_1) ∧ Aside0 (Below w.heap.size w w'))
                case atStart => exact ⟨(false), (IntKind.u64.wrap (x11_1 + 1)), (by first | rfl | (simp; done) | (simp [*]; done)), (by first | rfl | (simp; done) | (simp [*]; done)), H', ⟨Nat.le_refl _⟩, ⟨by (with_reducible repeat (first | apply Kd.R_alloc | apply Kd.R_drewN | apply Kd.R_drew)); exact HO_9.out⟩, ⟨by (with_reducible repeat (first | apply Kd.R_alloc | apply Kd.R_drewN | apply Kd.R_drew)); exact HO_10.out⟩, ⟨by repeat (first | (with_reducible first | exact HB.out | apply below_alloc | apply pw_below_drewN | apply below_drew1) | exact HB.out)⟩⟩
                case round =>
                  clear H'
                  try clear c1
                  try clear p1
                  try clear q1
                  try clear hx1
                  try clear p2
                  try clear c3
                  try clear c5
                  try clear c11
                  try clear c11b0
                  try clear c12
                  try clear c13
                  try clear c13b0
                  try clear c14
                  try clear c14b0
                  try clear hx171_0
                  try clear p171
                  try clear p2
                  try clear q171
                  obtain ⟨x14_3, x15_3, rfl, rfl, HA, HK3, HO_9, HO_10, HB⟩ := hrel
                  cases gk with
                  | zero => exact absurd HA.out (by simp [cohortlaw23_SchedOnce.l1])
                  | succ k3 =>
                    have H := HA.out
                    clear HA
                    simp only [cohortlaw23_SchedOnce.l1] at H
                    by_cases c15 : x15_3 ≤ (IntKind.u64.wrap ((IntKind.u64.wrap (x11_1 + 1)) + (IntKind.u64.wrap (Int.tmod (rd l3 x12_1) 9))))
                    · rw [if_pos c15] at H
                      have c15b0 : decide (x15_3 ≤ (IntKind.u64.wrap ((IntKind.u64.wrap (x11_1 + 1)) + (IntKind.u64.wrap (Int.tmod (rd l3 x12_1) 9))))) = true := decide_eq_true c15
                      clear c15
                      by_cases c16 : x14_3 = true
                      · subst c16
                        have H1 : (cohortlaw23_SchedOnce.l1 k3 a0 a2 l3 y164 x10_1 (IntKind.u64.wrap ((IntKind.u64.wrap (x11_1 + 1)) + (IntKind.u64.wrap (Int.tmod (rd l3 x12_1) 9)))) x12_1 true (IntKind.u64.wrap (x15_3 + 1))) = some r := by rw [if_pos rfl] at H; exact H
                        clear H
                        have H := H1
                        clear H1
                        have H' := Aside0.mk H
                        clear H
                        go_wp2
                        go_roundg k3
                        case measure => have := HK1.out; have := HJ9.out; have := HK3.out; omega
                        case rel => exact ⟨(true), (IntKind.u64.wrap (x15_3 + 1)), (by first | rfl | (simp; done) | (simp [*]; done)), (by first | rfl | (simp; done) | (simp [*]; done)), H', ⟨by have := HK1.out; have := HJ9.out; have := HK3.out; omega⟩, ⟨by (with_reducible repeat (first | apply Kd.R_alloc | apply Kd.R_drewN | apply Kd.R_drew)); exact HO_9.out⟩, ⟨by (with_reducible repeat (first | apply Kd.R_alloc | apply Kd.R_drewN | apply Kd.R_drew)); exact HO_10.out⟩, ⟨by repeat (first | (with_reducible first | exact HB.out | apply below_alloc | apply pw_below_drewN | apply below_drew1) | exact HB.out)⟩⟩
                      · replace c16 := Bool.eq_false_iff.mpr c16
                        subst c16
                        have H1 : (if x15_3 = (IntKind.u64.wrap (a0)) then (cohortlaw23_SchedOnce.l1 k3 a0 a2 l3 y164 x10_1 (IntKind.u64.wrap ((IntKind.u64.wrap (x11_1 + 1)) + (IntKind.u64.wrap (Int.tmod (rd l3 x12_1) 9)))) x12_1 true (IntKind.u64.wrap (x15_3 + 1))) else (if x15_3 > (IntKind.u64.wrap (a0)) then (if 0 < (y164.length : Int) then (if ((rd_T25 y164 0).f1) > 0 then (if ((rd_T25 y164 0).f1) = 0 then (none) else (cohortlaw23_SchedOnce.l1 k3 a0 a2 l3 y164 x10_1 (IntKind.u64.wrap ((IntKind.u64.wrap (x11_1 + 1)) + (IntKind.u64.wrap (Int.tmod (rd l3 x12_1) 9)))) x12_1 ((Int.tmod (IntKind.u64.wrap (x15_3 - (IntKind.u64.wrap (a0)))) ((rd_T25 y164 0).f1)) == 0) (IntKind.u64.wrap (x15_3 + 1)))) else (cohortlaw23_SchedOnce.l1 k3 a0 a2 l3 y164 x10_1 (IntKind.u64.wrap ((IntKind.u64.wrap (x11_1 + 1)) + (IntKind.u64.wrap (Int.tmod (rd l3 x12_1) 9)))) x12_1 false (IntKind.u64.wrap (x15_3 + 1)))) else (none)) else (cohortlaw23_SchedOnce.l1 k3 a0 a2 l3 y164 x10_1 (IntKind.u64.wrap ((IntKind.u64.wrap (x11_1 + 1)) + (IntKind.u64.wrap (Int.tmod (rd l3 x12_1) 9)))) x12_1 false (IntKind.u64.wrap (x15_3 + 1))))) = some r := by rw [if_neg (show ¬ (false = true) by decide)] at H; exact H
                        clear H
                        have H := H1
                        clear H1
                        by_cases c17 : x15_3 = (IntKind.u64.wrap (a0))
                        · rw [if_pos c17] at H
                          have c17b0 : (x15_3 == (IntKind.u64.wrap (a0))) = true := beq_iff_eq.mpr c17
                          have c17b1 : (x15_3 != (IntKind.u64.wrap (a0))) = false := bne_eq_false_iff_eq.mpr c17
                          clear c17
                          have H' := Aside0.mk H
                          clear H
                          go_wp2
                          go_roundg k3
                          case measure => have := HK1.out; have := HJ9.out; have := HK3.out; omega
                          case rel => exact ⟨(true), (IntKind.u64.wrap (x15_3 + 1)), (by first | rfl | (simp; done) | (simp [*]; done)), (by first | rfl | (simp; done) | (simp [*]; done)), H', ⟨by have := HK1.out; have := HJ9.out; have := HK3.out; omega⟩, ⟨by (with_reducible repeat (first | apply Kd.R_alloc | apply Kd.R_drewN | apply Kd.R_drew)); exact HO_9.out⟩, ⟨by (with_reducible repeat (first | apply Kd.R_alloc | apply Kd.R_drewN | apply Kd.R_drew)); exact HO_10.out⟩, ⟨by repeat (first | (with_reducible first | exact HB.out | apply below_alloc | apply pw_below_drewN | apply below_drew1) | exact HB.out)⟩⟩
                        · rw [if_neg c17] at H
                          have c17b0 : (x15_3 == (IntKind.u64.wrap (a0))) = false := beq_eq_false_iff_ne.mpr c17
                          have c17b1 : (x15_3 != (IntKind.u64.wrap (a0))) = true := bne_iff_ne.mpr c17
                          by_cases c18 : x15_3 > (IntKind.u64.wrap (a0))
                          · rw [if_pos c18] at H
                            have c18b0 : decide ((IntKind.u64.wrap (a0)) < x15_3) = true := decide_eq_true c18
                            clear c18
                            by_cases c19 : 0 < (y164.length : Int)
                            · rw [if_pos c19] at H
                              have c19b0 : decide (0 < (y164.length : Int)) = true := decide_eq_true c19
                              have c19b1 : decide (0 < y164.length) = true := decide_eq_true (by omega)
                              clear c19
                              by_cases c20 : ((rd_T25 y164 0).f1) > 0
                              · rw [if_pos c20] at H
                                have c20b0 : decide (0 < ((rd_T25 y164 0).f1)) = true := decide_eq_true c20
                                clear c20
                                by_cases c21 : ((rd_T25 y164 0).f1) = 0
                                · rw [if_pos c21] at H
                                  exact absurd H (by simp)
                                · rw [if_neg c21] at H
                                  have c21b0 : (((rd_T25 y164 0).f1) == 0) = false := beq_eq_false_iff_ne.mpr c21
                                  have c21b1 : (((rd_T25 y164 0).f1) != 0) = true := bne_iff_ne.mpr c21
                                  have H' := Aside0.mk H
                                  clear H
                                  have p172 : 0 ≤ (0 : Int) := (by omega)
                                  have q172 : 0 < (y164.length : Int) := of_decide_eq_true (by first | (with_reducible assumption) | assumption)
                                  obtain ⟨ad172, e172, hx172_0, hx172_1, hx172_2⟩ := at_T25 (Kd.R_reads' HO_9.out).2.2 0 p172 q172
                                  cases e172
                                  have qi172 : (0 < y164.length) = True := eq_true (by omega)
                                  (try rw [show ((0 : Int)).toNat = 0 from rfl] at hx172_0)
                                  (try rw [show 0 * 3 = 0 from rfl] at hx172_0)
                                  (try rw [Addr.add_zero'] at hx172_0)
                                  (try rw [show ((0 : Int)).toNat = 0 from rfl] at hx172_1)
                                  (try rw [show 0 * 3 = 0 from rfl] at hx172_1)
                                  (try rw [Addr.add_zero'] at hx172_1)
                                  (try rw [show ((0 : Int)).toNat = 0 from rfl] at hx172_2)
                                  (try rw [show 0 * 3 = 0 from rfl] at hx172_2)
                                  (try rw [Addr.add_zero'] at hx172_2)
                                  replace p172 := eq_true p172
                                  replace q172 := eq_true q172
                                  have p173 : 0 ≤ (0 : Int) := (by omega)
                                  have q173 : 0 < (y164.length : Int) := of_decide_eq_true (by first | (with_reducible assumption) | assumption)
                                  obtain ⟨ad173, e173, hx173_0, hx173_1, hx173_2⟩ := at_T25 (Kd.R_reads' HO_9.out).2.2 0 p173 q173
                                  obtain rfl : ad172 = ad173 := (by injection e173)
                                  have qi173 : (0 < y164.length) = True := eq_true (by omega)
                                  (try rw [show ((0 : Int)).toNat = 0 from rfl] at hx173_0)
                                  (try rw [show 0 * 3 = 0 from rfl] at hx173_0)
                                  (try rw [Addr.add_zero'] at hx173_0)
                                  (try rw [show ((0 : Int)).toNat = 0 from rfl] at hx173_1)
                                  (try rw [show 0 * 3 = 0 from rfl] at hx173_1)
                                  (try rw [Addr.add_zero'] at hx173_1)
                                  (try rw [show ((0 : Int)).toNat = 0 from rfl] at hx173_2)
                                  (try rw [show 0 * 3 = 0 from rfl] at hx173_2)
                                  (try rw [Addr.add_zero'] at hx173_2)
                                  replace p173 := eq_true p173
                                  replace q173 := eq_true q173
                                  go_wp2
                                  go_roundg k3
                                  case measure => have := HK1.out; have := HJ9.out; have := HK3.out; omega
                                  case rel => exact ⟨(((Int.tmod (IntKind.u64.wrap (x15_3 - (IntKind.u64.wrap (a0)))) ((rd_T25 y164 0).f1)) == 0)), (IntKind.u64.wrap (x15_3 + 1)), (by first | rfl | (simp; done) | (simp [*]; done)), (by first | rfl | (simp; done) | (simp [*]; done)), H', ⟨by have := HK1.out; have := HJ9.out; have := HK3.out; omega⟩, ⟨by (with_reducible repeat (first | apply Kd.R_alloc | apply Kd.R_drewN | apply Kd.R_drew)); exact HO_9.out⟩, ⟨by (with_reducible repeat (first | apply Kd.R_alloc | apply Kd.R_drewN | apply Kd.R_drew)); exact HO_10.out⟩, ⟨by repeat (first | (with_reducible first | exact HB.out | apply below_alloc | apply pw_below_drewN | apply below_drew1) | exact HB.out)⟩⟩
                              · rw [if_neg c20] at H
                                have c20b0 : decide (0 < ((rd_T25 y164 0).f1)) = false := decide_eq_false c20
                                clear c20
                                have H' := Aside0.mk H
                                clear H
                                have p172 : 0 ≤ (0 : Int) := (by omega)
                                have q172 : 0 < (y164.length : Int) := of_decide_eq_true (by first | (with_reducible assumption) | assumption)
                                obtain ⟨ad172, e172, hx172_0, hx172_1, hx172_2⟩ := at_T25 (Kd.R_reads' HO_9.out).2.2 0 p172 q172
                                cases e172
                                have qi172 : (0 < y164.length) = True := eq_true (by omega)
                                (try rw [show ((0 : Int)).toNat = 0 from rfl] at hx172_0)
                                (try rw [show 0 * 3 = 0 from rfl] at hx172_0)
                                (try rw [Addr.add_zero'] at hx172_0)
                                (try rw [show ((0 : Int)).toNat = 0 from rfl] at hx172_1)
                                (try rw [show 0 * 3 = 0 from rfl] at hx172_1)
                                (try rw [Addr.add_zero'] at hx172_1)
                                (try rw [show ((0 : Int)).toNat = 0 from rfl] at hx172_2)
                                (try rw [show 0 * 3 = 0 from rfl] at hx172_2)
                                (try rw [Addr.add_zero'] at hx172_2)
                                replace p172 := eq_true p172
                                replace q172 := eq_true q172
                                go_wp2
                                go_roundg k3
                                case measure => have := HK1.out; have := HJ9.out; have := HK3.out; omega
                                case rel => exact ⟨(false), (IntKind.u64.wrap (x15_3 + 1)), (by first | rfl | (simp; done) | (simp [*]; done)), (by first | rfl | (simp; done) | (simp [*]; done)), H', ⟨by have := HK1.out; have := HJ9.out; have := HK3.out; omega⟩, ⟨by (with_reducible repeat (first | apply Kd.R_alloc | apply Kd.R_drewN | apply Kd.R_drew)); exact HO_9.out⟩, ⟨by (with_reducible repeat (first | apply Kd.R_alloc | apply Kd.R_drewN | apply Kd.R_drew)); exact HO_10.out⟩, ⟨by repeat (first | (with_reducible first | exact HB.out | apply below_alloc | apply pw_below_drewN | apply below_drew1) | exact HB.out)⟩⟩
                            · rw [if_neg c19] at H
                              exact absurd H (by simp)
                          · rw [if_neg c18] at H
                            have c18b0 : decide ((IntKind.u64.wrap (a0)) < x15_3) = false := decide_eq_false c18
                            clear c18
                            have H' := Aside0.mk H
                            clear H
                            go_wp2
                            go_roundg k3
                            case measure => have := HK1.out; have := HJ9.out; have := HK3.out; omega
                            case rel => exact ⟨(false), (IntKind.u64.wrap (x15_3 + 1)), (by first | rfl | (simp; done) | (simp [*]; done)), (by first | rfl | (simp; done) | (simp [*]; done)), H', ⟨by have := HK1.out; have := HJ9.out; have := HK3.out; omega⟩, ⟨by (with_reducible repeat (first | apply Kd.R_alloc | apply Kd.R_drewN | apply Kd.R_drew)); exact HO_9.out⟩, ⟨by (with_reducible repeat (first | apply Kd.R_alloc | apply Kd.R_drewN | apply Kd.R_drew)); exact HO_10.out⟩, ⟨by repeat (first | (with_reducible first | exact HB.out | apply below_alloc | apply pw_below_drewN | apply below_drew1) | exact HB.out)⟩⟩
                    · rw [if_neg c15] at H
                      have c15b0 : decide (x15_3 ≤ (IntKind.u64.wrap ((IntKind.u64.wrap (x11_1 + 1)) + (IntKind.u64.wrap (Int.tmod (rd l3 x12_1) 9))))) = false := decide_eq_false c15
                      clear c15
                      replace H := Option.bind_eq_some_iff.mp H
                      obtain ⟨⟨t174, t175, t176⟩, A220, H⟩ := H
                      replace H : (if (t175 != x14_3) = true then (some false) else (if t175 = true then (if t174 = a2 then (if (t176.length : Int) = 1 then (if 0 < (t176.length : Int) then (if (rd t176 0) = 0 then (cohortlaw23_SchedOnce.l0 k3 a0 a2 l3 y164 t176 (IntKind.u64.wrap ((IntKind.u64.wrap (x11_1 + 1)) + (IntKind.u64.wrap (Int.tmod (rd l3 x12_1) 9)))) (wrap64 (x12_1 + 1))) else (if (rd t176 0) ≤ (IntKind.u64.wrap ((IntKind.u64.wrap (x11_1 + 1)) + (IntKind.u64.wrap (Int.tmod (rd l3 x12_1) 9)))) then (some false) else (cohortlaw23_SchedOnce.l0 k3 a0 a2 l3 y164 t176 (IntKind.u64.wrap ((IntKind.u64.wrap (x11_1 + 1)) + (IntKind.u64.wrap (Int.tmod (rd l3 x12_1) 9)))) (wrap64 (x12_1 + 1))))) else (none)) else (some false)) else (some false)) else (if (t176.length : Int) = 1 then (if 0 < (t176.length : Int) then (if (rd t176 0) = 0 then ((cohortref23_Same.f k3 t176 x10_1).bind fun t182 => (if t182 = true then (cohortlaw23_SchedOnce.l0 k3 a0 a2 l3 y164 t176 (IntKind.u64.wrap ((IntKind.u64.wrap (x11_1 + 1)) + (IntKind.u64.wrap (Int.tmod (rd l3 x12_1) 9)))) (wrap64 (x12_1 + 1))) else (some false))) else (if (rd t176 0) ≤ (IntKind.u64.wrap ((IntKind.u64.wrap (x11_1 + 1)) + (IntKind.u64.wrap (Int.tmod (rd l3 x12_1) 9)))) then (some false) else ((cohortref23_Same.f k3 t176 x10_1).bind fun t184 => (if t184 = true then (cohortlaw23_SchedOnce.l0 k3 a0 a2 l3 y164 t176 (IntKind.u64.wrap ((IntKind.u64.wrap (x11_1 + 1)) + (IntKind.u64.wrap (Int.tmod (rd l3 x12_1) 9)))) (wrap64 (x12_1 + 1))) else (some false))))) else (none)) else (some false)))) = some r := H
                      have A22 := Aside0.mk A220
                      clear A220
                      by_cases c23 : (t175 != x14_3) = true
                      · rw [if_pos c23] at H
                        have c23b0 : (t175 != x14_3) = true := c23
                        (try (have c23b1 : decide (t175 = x14_3) = false := by simpa using c23))
                        (try (have c23b2 : (t175 == x14_3) = false := by simpa using c23))
                        (try (have c23b3 : ¬ (t175 = x14_3) := by simpa using c23))
                        clear c23
                        obtain rfl := Option.some.inj H
                        obtain ⟨Ao24, co24, eo24⟩ := Kd.R_slice HO_10.out
                        subst eo24
                        go_wp2_with (first | ((with_reducible refine gate_callee (f := 6) rfl ?_); refine goesL_ (some 94) rfl rfl Try.func6 (by kernel_rfl) rfl #[.slice Ao8 y164.length co8, .slice Ao24 x10_1.length co24, .int .u64 (IntKind.u64.wrap ((IntKind.u64.wrap (x11_1 + 1)) + (IntKind.u64.wrap (Int.tmod (rd l3 x12_1) 9))))] rfl (by (try simp only [List.map_toArray, List.map_cons, List.map_nil]); first | done | rfl | (simp only [List.length_drop, List.length_take]; rfl)) ?_; (with_reducible refine (sched_Due.calls k3 _ _ y164 _ _ x10_1 (IntKind.u64.wrap ((IntKind.u64.wrap (x11_1 + 1)) + (IntKind.u64.wrap (Int.tmod (rd l3 x12_1) 9)))) t174 t175 t176 _ ?side1 ?side2 ?side3 ?side4 A22.out).mono ?_); (case side1 => repeat (first | exact (Kd.R_reads' HO_9.out).2.2 | (with_reducible refine Kd.C_alloc ?_ _) | (with_reducible refine Kd.C_drewN ?_ _) | (with_reducible refine Kd.C_drew ?_))); (case side2 => exact (Kd.R_reads' HO_9.out).2.1); (case side3 => repeat (first | exact (Kd.R_reads' HO_10.out).2.2 | (with_reducible refine Kd.C_alloc ?_ _) | (with_reducible refine Kd.C_drewN ?_ _) | (with_reducible refine Kd.C_drew ?_))); (case side4 => exact (Kd.R_reads' HO_10.out).2.1); rintro e w25 ⟨v177, rfl, ho0, hb⟩; refine ⟨_, rfl, ?_⟩; have n0_ := Aside0.mk (Kd.R_below (by (with_reducible repeat (first | apply Kd.R_alloc | apply Kd.R_drewN | apply Kd.R_drew)); exact HO_9.out) hb); have n1_ := Aside0.mk (Kd.R_elder' (by (with_reducible repeat (first | apply Kd.R_alloc | apply Kd.R_drewN | apply Kd.R_drew)); exact HO_10.out) (Kd.R_base ho0) hb); have n2_ := Aside0.mk (Kd.R_lower (Kd.R_new' ho0 (Kd.R_lt (by (with_reducible repeat (first | apply Kd.R_alloc | apply Kd.R_drewN | apply Kd.R_drew)); exact HO_10.out))) (below_size (by repeat (first | (with_reducible first | exact HB.out | apply below_alloc | apply pw_below_drewN | apply below_drew1) | exact HB.out)))); have n3_ := Aside0.mk (below_step (by repeat (first | (with_reducible first | exact HB.out | apply below_alloc | apply pw_below_drewN | apply below_drew1) | exact HB.out)) hb); clear HO_9; clear HO_10; clear HB; have HO_9 := n0_; have HO_10 := n1_; have HO178 := n2_; have HB := n3_; clear n0_ n1_ n2_ n3_; (try clear hb); (try clear hb2); (try clear hk); (try clear hi); (try clear ho0)))
                        go_ret
                        exact ⟨by first | rfl | (simp [errW_none, errW_some] <;> rfl) | (simp [*, errW_none, errW_some] <;> rfl), by repeat (first | (with_reducible first | exact HB.out | apply below_alloc | apply pw_below_drewN | apply below_drew1) | exact HB.out)⟩
                      · rw [if_neg c23] at H
                        have c23b0 : (t175 != x14_3) = false := by simpa using c23
                        (try (have c23b1 : decide (t175 = x14_3) = true := by simpa using c23))
                        (try (have c23b2 : (t175 == x14_3) = true := by simpa using c23))
                        clear c23
                        by_cases c26 : t175 = true
                        · subst c26
                          have H1 : (if t174 = a2 then (if (t176.length : Int) = 1 then (if 0 < (t176.length : Int) then (if (rd t176 0) = 0 then (cohortlaw23_SchedOnce.l0 k3 a0 a2 l3 y164 t176 (IntKind.u64.wrap ((IntKind.u64.wrap (x11_1 + 1)) + (IntKind.u64.wrap (Int.tmod (rd l3 x12_1) 9)))) (wrap64 (x12_1 + 1))) else (if (rd t176 0) ≤ (IntKind.u64.wrap ((IntKind.u64.wrap (x11_1 + 1)) + (IntKind.u64.wrap (Int.tmod (rd l3 x12_1) 9)))) then (some false) else (cohortlaw23_SchedOnce.l0 k3 a0 a2 l3 y164 t176 (IntKind.u64.wrap ((IntKind.u64.wrap (x11_1 + 1)) + (IntKind.u64.wrap (Int.tmod (rd l3 x12_1) 9)))) (wrap64 (x12_1 + 1))))) else (none)) else (some false)) else (some false)) = some r := by rw [if_pos rfl] at H; exact H
                          clear H
                          have H := H1
                          clear H1
                          by_cases c27 : t174 = a2
                          · rw [if_pos c27] at H
                            have c27b0 : (t174 == a2) = true := beq_iff_eq.mpr c27
                            have c27b1 : (t174 != a2) = false := bne_eq_false_iff_eq.mpr c27
                            clear c27
                            by_cases c28 : (t176.length : Int) = 1
                            · rw [if_pos c28] at H
                              have c28b0 : ((t176.length : Int) == 1) = true := beq_iff_eq.mpr c28
                              have c28b1 : ((t176.length : Int) != 1) = false := bne_eq_false_iff_eq.mpr c28
                              clear c28
                              by_cases c29 : 0 < (t176.length : Int)
                              · rw [if_pos c29] at H
                                have c29b0 : decide (0 < (t176.length : Int)) = true := decide_eq_true c29
                                have c29b1 : decide (0 < t176.length) = true := decide_eq_true (by omega)
                                clear c29
                                by_cases c30 : (rd t176 0) = 0
                                · rw [if_pos c30] at H
                                  have c30b0 : ((rd t176 0) == 0) = true := beq_iff_eq.mpr c30
                                  have c30b1 : ((rd t176 0) != 0) = false := bne_eq_false_iff_eq.mpr c30
                                  clear c30
                                  have H' := Aside0.mk H
                                  clear H
                                  obtain ⟨Ao31, co31, eo31⟩ := Kd.R_slice HO_10.out
                                  subst eo31
                                  go_wp2_with (first | ((with_reducible refine gate_callee (f := 6) rfl ?_); refine goesL_ (some 94) rfl rfl Try.func6 (by kernel_rfl) rfl #[.slice Ao8 y164.length co8, .slice Ao31 x10_1.length co31, .int .u64 (IntKind.u64.wrap ((IntKind.u64.wrap (x11_1 + 1)) + (IntKind.u64.wrap (Int.tmod (rd l3 x12_1) 9))))] rfl (by (try simp only [List.map_toArray, List.map_cons, List.map_nil]); first | done | rfl | (simp only [List.length_drop, List.length_take]; rfl)) ?_; (with_reducible refine (sched_Due.calls k3 _ _ y164 _ _ x10_1 (IntKind.u64.wrap ((IntKind.u64.wrap (x11_1 + 1)) + (IntKind.u64.wrap (Int.tmod (rd l3 x12_1) 9)))) t174 true t176 _ ?side1 ?side2 ?side3 ?side4 A22.out).mono ?_); (case side1 => repeat (first | exact (Kd.R_reads' HO_9.out).2.2 | (with_reducible refine Kd.C_alloc ?_ _) | (with_reducible refine Kd.C_drewN ?_ _) | (with_reducible refine Kd.C_drew ?_))); (case side2 => exact (Kd.R_reads' HO_9.out).2.1); (case side3 => repeat (first | exact (Kd.R_reads' HO_10.out).2.2 | (with_reducible refine Kd.C_alloc ?_ _) | (with_reducible refine Kd.C_drewN ?_ _) | (with_reducible refine Kd.C_drew ?_))); (case side4 => exact (Kd.R_reads' HO_10.out).2.1); rintro e w32 ⟨v177, rfl, ho0, hb⟩; refine ⟨_, rfl, ?_⟩; have n0_ := Aside0.mk (Kd.R_below (by (with_reducible repeat (first | apply Kd.R_alloc | apply Kd.R_drewN | apply Kd.R_drew)); exact HO_9.out) hb); have n1_ := Aside0.mk (Kd.R_elder' (by (with_reducible repeat (first | apply Kd.R_alloc | apply Kd.R_drewN | apply Kd.R_drew)); exact HO_10.out) (Kd.R_base ho0) hb); have n2_ := Aside0.mk (Kd.R_lower (Kd.R_new' ho0 (Kd.R_lt (by (with_reducible repeat (first | apply Kd.R_alloc | apply Kd.R_drewN | apply Kd.R_drew)); exact HO_10.out))) (below_size (by repeat (first | (with_reducible first | exact HB.out | apply below_alloc | apply pw_below_drewN | apply below_drew1) | exact HB.out)))); have n3_ := Aside0.mk (below_step (by repeat (first | (with_reducible first | exact HB.out | apply below_alloc | apply pw_below_drewN | apply below_drew1) | exact HB.out)) hb); clear HO_9; clear HO_10; clear HB; have HO_9 := n0_; have HO_10 := n1_; have HO178 := n2_; have HB := n3_; clear n0_ n1_ n2_ n3_; (try clear hb); (try clear hb2); (try clear hk); (try clear hi); (try clear ho0); obtain ⟨Ao33, co33, eo33⟩ := Kd.R_slice HO178.out; subst eo33; have p179 : 0 ≤ (0 : Int) := (by omega); have q179 : 0 < (t176.length : Int) := of_decide_eq_true (by first | (with_reducible assumption) | assumption); obtain ⟨ad179, e179, hx179_0⟩ := Kd.at_int (Kd.R_reads' HO178.out).2.2 0 p179 q179; cases e179; have qi179 : (0 < t176.length) = True := eq_true (by omega); (try rw [show ((0 : Int)).toNat = 0 from rfl] at hx179_0); (try rw [Addr.add_zero'] at hx179_0); replace p179 := eq_true p179; replace q179 := eq_true q179))
                                  go_roundg k3
                                  case measure => have := HK1.out; have := HJ9.out; have := HK3.out; omega
                                  case rel => exact ⟨(t176), ((IntKind.u64.wrap ((IntKind.u64.wrap (x11_1 + 1)) + (IntKind.u64.wrap (Int.tmod (rd l3 x12_1) 9))))), (wrap64 (x12_1 + 1)), (by first | rfl | (simp; done) | (simp [*]; done)), (by first | rfl | (simp; done) | (simp [*]; done)), H', ⟨by have := HK1.out; have := HJ9.out; have := HK3.out; omega⟩, ⟨by (with_reducible repeat (first | apply Kd.R_alloc | apply Kd.R_drewN | apply Kd.R_drew)); exact HO_9.out⟩, ⟨by (with_reducible repeat (first | apply Kd.R_alloc | apply Kd.R_drewN | apply Kd.R_drew)); exact Kd.R_mono HO178.out (fun _ hk => trivial)⟩, ⟨by repeat (first | (with_reducible first | exact HB.out | apply below_alloc | apply pw_below_drewN | apply below_drew1) | exact HB.out)⟩⟩
                                · rw [if_neg c30] at H
                                  have c30b0 : ((rd t176 0) == 0) = false := beq_eq_false_iff_ne.mpr c30
                                  have c30b1 : ((rd t176 0) != 0) = true := bne_iff_ne.mpr c30
                                  by_cases c34 : (rd t176 0) ≤ (IntKind.u64.wrap ((IntKind.u64.wrap (x11_1 + 1)) + (IntKind.u64.wrap (Int.tmod (rd l3 x12_1) 9))))
                                  · rw [if_pos c34] at H
                                    have c34b0 : decide ((rd t176 0) ≤ (IntKind.u64.wrap ((IntKind.u64.wrap (x11_1 + 1)) + (IntKind.u64.wrap (Int.tmod (rd l3 x12_1) 9))))) = true := decide_eq_true c34
                                    clear c34
                                    obtain rfl := Option.some.inj H
                                    obtain ⟨Ao35, co35, eo35⟩ := Kd.R_slice HO_10.out
                                    subst eo35
                                    go_wp2_with (first | ((with_reducible refine gate_callee (f := 6) rfl ?_); refine goesL_ (some 94) rfl rfl Try.func6 (by kernel_rfl) rfl #[.slice Ao8 y164.length co8, .slice Ao35 x10_1.length co35, .int .u64 (IntKind.u64.wrap ((IntKind.u64.wrap (x11_1 + 1)) + (IntKind.u64.wrap (Int.tmod (rd l3 x12_1) 9))))] rfl (by (try simp only [List.map_toArray, List.map_cons, List.map_nil]); first | done | rfl | (simp only [List.length_drop, List.length_take]; rfl)) ?_; (with_reducible refine (sched_Due.calls k3 _ _ y164 _ _ x10_1 (IntKind.u64.wrap ((IntKind.u64.wrap (x11_1 + 1)) + (IntKind.u64.wrap (Int.tmod (rd l3 x12_1) 9)))) t174 true t176 _ ?side1 ?side2 ?side3 ?side4 A22.out).mono ?_); (case side1 => repeat (first | exact (Kd.R_reads' HO_9.out).2.2 | (with_reducible refine Kd.C_alloc ?_ _) | (with_reducible refine Kd.C_drewN ?_ _) | (with_reducible refine Kd.C_drew ?_))); (case side2 => exact (Kd.R_reads' HO_9.out).2.1); (case side3 => repeat (first | exact (Kd.R_reads' HO_10.out).2.2 | (with_reducible refine Kd.C_alloc ?_ _) | (with_reducible refine Kd.C_drewN ?_ _) | (with_reducible refine Kd.C_drew ?_))); (case side4 => exact (Kd.R_reads' HO_10.out).2.1); rintro e w36 ⟨v177, rfl, ho0, hb⟩; refine ⟨_, rfl, ?_⟩; have n0_ := Aside0.mk (Kd.R_below (by (with_reducible repeat (first | apply Kd.R_alloc | apply Kd.R_drewN | apply Kd.R_drew)); exact HO_9.out) hb); have n1_ := Aside0.mk (Kd.R_elder' (by (with_reducible repeat (first | apply Kd.R_alloc | apply Kd.R_drewN | apply Kd.R_drew)); exact HO_10.out) (Kd.R_base ho0) hb); have n2_ := Aside0.mk (Kd.R_lower (Kd.R_new' ho0 (Kd.R_lt (by (with_reducible repeat (first | apply Kd.R_alloc | apply Kd.R_drewN | apply Kd.R_drew)); exact HO_10.out))) (below_size (by repeat (first | (with_reducible first | exact HB.out | apply below_alloc | apply pw_below_drewN | apply below_drew1) | exact HB.out)))); have n3_ := Aside0.mk (below_step (by repeat (first | (with_reducible first | exact HB.out | apply below_alloc | apply pw_below_drewN | apply below_drew1) | exact HB.out)) hb); clear HO_9; clear HO_10; clear HB; have HO_9 := n0_; have HO_10 := n1_; have HO178 := n2_; have HB := n3_; clear n0_ n1_ n2_ n3_; (try clear hb); (try clear hb2); (try clear hk); (try clear hi); (try clear ho0); obtain ⟨Ao37, co37, eo37⟩ := Kd.R_slice HO178.out; subst eo37; have p179 : 0 ≤ (0 : Int) := (by omega); have q179 : 0 < (t176.length : Int) := of_decide_eq_true (by first | (with_reducible assumption) | assumption); obtain ⟨ad179, e179, hx179_0⟩ := Kd.at_int (Kd.R_reads' HO178.out).2.2 0 p179 q179; cases e179; have qi179 : (0 < t176.length) = True := eq_true (by omega); (try rw [show ((0 : Int)).toNat = 0 from rfl] at hx179_0); (try rw [Addr.add_zero'] at hx179_0); replace p179 := eq_true p179; replace q179 := eq_true q179; have p180 : 0 ≤ (0 : Int) := (by omega); have q180 : 0 < (t176.length : Int) := of_decide_eq_true (by first | (with_reducible assumption) | assumption); obtain ⟨ad180, e180, hx180_0⟩ := Kd.at_int (Kd.R_reads' HO178.out).2.2 0 p180 q180; obtain rfl : ad179 = ad180 := (by injection e180); have qi180 : (0 < t176.length) = True := eq_true (by omega); (try rw [show ((0 : Int)).toNat = 0 from rfl] at hx180_0); (try rw [Addr.add_zero'] at hx180_0); replace p180 := eq_true p180; replace q180 := eq_true q180))
                                    go_ret
                                    exact ⟨by first | rfl | (simp [errW_none, errW_some] <;> rfl) | (simp [*, errW_none, errW_some] <;> rfl), by repeat (first | (with_reducible first | exact HB.out | apply below_alloc | apply pw_below_drewN | apply below_drew1) | exact HB.out)⟩
                                  · rw [if_neg c34] at H
                                    have c34b0 : decide ((rd t176 0) ≤ (IntKind.u64.wrap ((IntKind.u64.wrap (x11_1 + 1)) + (IntKind.u64.wrap (Int.tmod (rd l3 x12_1) 9))))) = false := decide_eq_false c34
                                    clear c34
                                    have H' := Aside0.mk H
                                    clear H
                                    obtain ⟨Ao38, co38, eo38⟩ := Kd.R_slice HO_10.out
                                    subst eo38
                                    go_wp2_with (first | ((with_reducible refine gate_callee (f := 6) rfl ?_); refine goesL_ (some 94) rfl rfl Try.func6 (by kernel_rfl) rfl #[.slice Ao8 y164.length co8, .slice Ao38 x10_1.length co38, .int .u64 (IntKind.u64.wrap ((IntKind.u64.wrap (x11_1 + 1)) + (IntKind.u64.wrap (Int.tmod (rd l3 x12_1) 9))))] rfl (by (try simp only [List.map_toArray, List.map_cons, List.map_nil]); first | done | rfl | (simp only [List.length_drop, List.length_take]; rfl)) ?_; (with_reducible refine (sched_Due.calls k3 _ _ y164 _ _ x10_1 (IntKind.u64.wrap ((IntKind.u64.wrap (x11_1 + 1)) + (IntKind.u64.wrap (Int.tmod (rd l3 x12_1) 9)))) t174 true t176 _ ?side1 ?side2 ?side3 ?side4 A22.out).mono ?_); (case side1 => repeat (first | exact (Kd.R_reads' HO_9.out).2.2 | (with_reducible refine Kd.C_alloc ?_ _) | (with_reducible refine Kd.C_drewN ?_ _) | (with_reducible refine Kd.C_drew ?_))); (case side2 => exact (Kd.R_reads' HO_9.out).2.1); (case side3 => repeat (first | exact (Kd.R_reads' HO_10.out).2.2 | (with_reducible refine Kd.C_alloc ?_ _) | (with_reducible refine Kd.C_drewN ?_ _) | (with_reducible refine Kd.C_drew ?_))); (case side4 => exact (Kd.R_reads' HO_10.out).2.1); rintro e w39 ⟨v177, rfl, ho0, hb⟩; refine ⟨_, rfl, ?_⟩; have n0_ := Aside0.mk (Kd.R_below (by (with_reducible repeat (first | apply Kd.R_alloc | apply Kd.R_drewN | apply Kd.R_drew)); exact HO_9.out) hb); have n1_ := Aside0.mk (Kd.R_elder' (by (with_reducible repeat (first | apply Kd.R_alloc | apply Kd.R_drewN | apply Kd.R_drew)); exact HO_10.out) (Kd.R_base ho0) hb); have n2_ := Aside0.mk (Kd.R_lower (Kd.R_new' ho0 (Kd.R_lt (by (with_reducible repeat (first | apply Kd.R_alloc | apply Kd.R_drewN | apply Kd.R_drew)); exact HO_10.out))) (below_size (by repeat (first | (with_reducible first | exact HB.out | apply below_alloc | apply pw_below_drewN | apply below_drew1) | exact HB.out)))); have n3_ := Aside0.mk (below_step (by repeat (first | (with_reducible first | exact HB.out | apply below_alloc | apply pw_below_drewN | apply below_drew1) | exact HB.out)) hb); clear HO_9; clear HO_10; clear HB; have HO_9 := n0_; have HO_10 := n1_; have HO178 := n2_; have HB := n3_; clear n0_ n1_ n2_ n3_; (try clear hb); (try clear hb2); (try clear hk); (try clear hi); (try clear ho0); obtain ⟨Ao40, co40, eo40⟩ := Kd.R_slice HO178.out; subst eo40; have p179 : 0 ≤ (0 : Int) := (by omega); have q179 : 0 < (t176.length : Int) := of_decide_eq_true (by first | (with_reducible assumption) | assumption); obtain ⟨ad179, e179, hx179_0⟩ := Kd.at_int (Kd.R_reads' HO178.out).2.2 0 p179 q179; cases e179; have qi179 : (0 < t176.length) = True := eq_true (by omega); (try rw [show ((0 : Int)).toNat = 0 from rfl] at hx179_0); (try rw [Addr.add_zero'] at hx179_0); replace p179 := eq_true p179; replace q179 := eq_true q179; have p180 : 0 ≤ (0 : Int) := (by omega); have q180 : 0 < (t176.length : Int) := of_decide_eq_true (by first | (with_reducible assumption) | assumption); obtain ⟨ad180, e180, hx180_0⟩ := Kd.at_int (Kd.R_reads' HO178.out).2.2 0 p180 q180; obtain rfl : ad179 = ad180 := (by injection e180); have qi180 : (0 < t176.length) = True := eq_true (by omega); (try rw [show ((0 : Int)).toNat = 0 from rfl] at hx180_0); (try rw [Addr.add_zero'] at hx180_0); replace p180 := eq_true p180; replace q180 := eq_true q180))
                                    go_roundg k3
                                    case measure => have := HK1.out; have := HJ9.out; have := HK3.out; omega
                                    case rel => exact ⟨(t176), ((IntKind.u64.wrap ((IntKind.u64.wrap (x11_1 + 1)) + (IntKind.u64.wrap (Int.tmod (rd l3 x12_1) 9))))), (wrap64 (x12_1 + 1)), (by first | rfl | (simp; done) | (simp [*]; done)), (by first | rfl | (simp; done) | (simp [*]; done)), H', ⟨by have := HK1.out; have := HJ9.out; have := HK3.out; omega⟩, ⟨by (with_reducible repeat (first | apply Kd.R_alloc | apply Kd.R_drewN | apply Kd.R_drew)); exact HO_9.out⟩, ⟨by (with_reducible repeat (first | apply Kd.R_alloc | apply Kd.R_drewN | apply Kd.R_drew)); exact Kd.R_mono HO178.out (fun _ hk => trivial)⟩, ⟨by repeat (first | (with_reducible first | exact HB.out | apply below_alloc | apply pw_below_drewN | apply below_drew1) | exact HB.out)⟩⟩
                              · rw [if_neg c29] at H
                                exact absurd H (by simp)
                            · rw [if_neg c28] at H
                              have c28b0 : ((t176.length : Int) == 1) = false := beq_eq_false_iff_ne.mpr c28
                              have c28b1 : ((t176.length : Int) != 1) = true := bne_iff_ne.mpr c28
                              obtain rfl := Option.some.inj H
                              obtain ⟨Ao41, co41, eo41⟩ := Kd.R_slice HO_10.out
                              subst eo41
                              go_wp2_with (first | ((with_reducible refine gate_callee (f := 6) rfl ?_); refine goesL_ (some 94) rfl rfl Try.func6 (by kernel_rfl) rfl #[.slice Ao8 y164.length co8, .slice Ao41 x10_1.length co41, .int .u64 (IntKind.u64.wrap ((IntKind.u64.wrap (x11_1 + 1)) + (IntKind.u64.wrap (Int.tmod (rd l3 x12_1) 9))))] rfl (by (try simp only [List.map_toArray, List.map_cons, List.map_nil]); first | done | rfl | (simp only [List.length_drop, List.length_take]; rfl)) ?_; (with_reducible refine (sched_Due.calls k3 _ _ y164 _ _ x10_1 (IntKind.u64.wrap ((IntKind.u64.wrap (x11_1 + 1)) + (IntKind.u64.wrap (Int.tmod (rd l3 x12_1) 9)))) t174 true t176 _ ?side1 ?side2 ?side3 ?side4 A22.out).mono ?_); (case side1 => repeat (first | exact (Kd.R_reads' HO_9.out).2.2 | (with_reducible refine Kd.C_alloc ?_ _) | (with_reducible refine Kd.C_drewN ?_ _) | (with_reducible refine Kd.C_drew ?_))); (case side2 => exact (Kd.R_reads' HO_9.out).2.1); (case side3 => repeat (first | exact (Kd.R_reads' HO_10.out).2.2 | (with_reducible refine Kd.C_alloc ?_ _) | (with_reducible refine Kd.C_drewN ?_ _) | (with_reducible refine Kd.C_drew ?_))); (case side4 => exact (Kd.R_reads' HO_10.out).2.1); rintro e w42 ⟨v177, rfl, ho0, hb⟩; refine ⟨_, rfl, ?_⟩; have n0_ := Aside0.mk (Kd.R_below (by (with_reducible repeat (first | apply Kd.R_alloc | apply Kd.R_drewN | apply Kd.R_drew)); exact HO_9.out) hb); have n1_ := Aside0.mk (Kd.R_elder' (by (with_reducible repeat (first | apply Kd.R_alloc | apply Kd.R_drewN | apply Kd.R_drew)); exact HO_10.out) (Kd.R_base ho0) hb); have n2_ := Aside0.mk (Kd.R_lower (Kd.R_new' ho0 (Kd.R_lt (by (with_reducible repeat (first | apply Kd.R_alloc | apply Kd.R_drewN | apply Kd.R_drew)); exact HO_10.out))) (below_size (by repeat (first | (with_reducible first | exact HB.out | apply below_alloc | apply pw_below_drewN | apply below_drew1) | exact HB.out)))); have n3_ := Aside0.mk (below_step (by repeat (first | (with_reducible first | exact HB.out | apply below_alloc | apply pw_below_drewN | apply below_drew1) | exact HB.out)) hb); clear HO_9; clear HO_10; clear HB; have HO_9 := n0_; have HO_10 := n1_; have HO178 := n2_; have HB := n3_; clear n0_ n1_ n2_ n3_; (try clear hb); (try clear hb2); (try clear hk); (try clear hi); (try clear ho0); obtain ⟨Ao43, co43, eo43⟩ := Kd.R_slice HO178.out; subst eo43))
                              go_ret
                              exact ⟨by first | rfl | (simp [errW_none, errW_some] <;> rfl) | (simp [*, errW_none, errW_some] <;> rfl), by repeat (first | (with_reducible first | exact HB.out | apply below_alloc | apply pw_below_drewN | apply below_drew1) | exact HB.out)⟩
                          · rw [if_neg c27] at H
                            have c27b0 : (t174 == a2) = false := beq_eq_false_iff_ne.mpr c27
                            have c27b1 : (t174 != a2) = true := bne_iff_ne.mpr c27
                            obtain rfl := Option.some.inj H
                            obtain ⟨Ao44, co44, eo44⟩ := Kd.R_slice HO_10.out
                            subst eo44
                            go_wp2_with (first | ((with_reducible refine gate_callee (f := 6) rfl ?_); refine goesL_ (some 94) rfl rfl Try.func6 (by kernel_rfl) rfl #[.slice Ao8 y164.length co8, .slice Ao44 x10_1.length co44, .int .u64 (IntKind.u64.wrap ((IntKind.u64.wrap (x11_1 + 1)) + (IntKind.u64.wrap (Int.tmod (rd l3 x12_1) 9))))] rfl (by (try simp only [List.map_toArray, List.map_cons, List.map_nil]); first | done | rfl | (simp only [List.length_drop, List.length_take]; rfl)) ?_; (with_reducible refine (sched_Due.calls k3 _ _ y164 _ _ x10_1 (IntKind.u64.wrap ((IntKind.u64.wrap (x11_1 + 1)) + (IntKind.u64.wrap (Int.tmod (rd l3 x12_1) 9)))) t174 true t176 _ ?side1 ?side2 ?side3 ?side4 A22.out).mono ?_); (case side1 => repeat (first | exact (Kd.R_reads' HO_9.out).2.2 | (with_reducible refine Kd.C_alloc ?_ _) | (with_reducible refine Kd.C_drewN ?_ _) | (with_reducible refine Kd.C_drew ?_))); (case side2 => exact (Kd.R_reads' HO_9.out).2.1); (case side3 => repeat (first | exact (Kd.R_reads' HO_10.out).2.2 | (with_reducible refine Kd.C_alloc ?_ _) | (with_reducible refine Kd.C_drewN ?_ _) | (with_reducible refine Kd.C_drew ?_))); (case side4 => exact (Kd.R_reads' HO_10.out).2.1); rintro e w45 ⟨v177, rfl, ho0, hb⟩; refine ⟨_, rfl, ?_⟩; have n0_ := Aside0.mk (Kd.R_below (by (with_reducible repeat (first | apply Kd.R_alloc | apply Kd.R_drewN | apply Kd.R_drew)); exact HO_9.out) hb); have n1_ := Aside0.mk (Kd.R_elder' (by (with_reducible repeat (first | apply Kd.R_alloc | apply Kd.R_drewN | apply Kd.R_drew)); exact HO_10.out) (Kd.R_base ho0) hb); have n2_ := Aside0.mk (Kd.R_lower (Kd.R_new' ho0 (Kd.R_lt (by (with_reducible repeat (first | apply Kd.R_alloc | apply Kd.R_drewN | apply Kd.R_drew)); exact HO_10.out))) (below_size (by repeat (first | (with_reducible first | exact HB.out | apply below_alloc | apply pw_below_drewN | apply below_drew1) | exact HB.out)))); have n3_ := Aside0.mk (below_step (by repeat (first | (with_reducible first | exact HB.out | apply below_alloc | apply pw_below_drewN | apply below_drew1) | exact HB.out)) hb); clear HO_9; clear HO_10; clear HB; have HO_9 := n0_; have HO_10 := n1_; have HO178 := n2_; have HB := n3_; clear n0_ n1_ n2_ n3_; (try clear hb); (try clear hb2); (try clear hk); (try clear hi); (try clear ho0)))
                            go_ret
                            exact ⟨by first | rfl | (simp [errW_none, errW_some] <;> rfl) | (simp [*, errW_none, errW_some] <;> rfl), by repeat (first | (with_reducible first | exact HB.out | apply below_alloc | apply pw_below_drewN | apply below_drew1) | exact HB.out)⟩
                        · replace c26 := Bool.eq_false_iff.mpr c26
                          subst c26
                          have H1 : (if (t176.length : Int) = 1 then (if 0 < (t176.length : Int) then (if (rd t176 0) = 0 then ((cohortref23_Same.f k3 t176 x10_1).bind fun t182 => (if t182 = true then (cohortlaw23_SchedOnce.l0 k3 a0 a2 l3 y164 t176 (IntKind.u64.wrap ((IntKind.u64.wrap (x11_1 + 1)) + (IntKind.u64.wrap (Int.tmod (rd l3 x12_1) 9)))) (wrap64 (x12_1 + 1))) else (some false))) else (if (rd t176 0) ≤ (IntKind.u64.wrap ((IntKind.u64.wrap (x11_1 + 1)) + (IntKind.u64.wrap (Int.tmod (rd l3 x12_1) 9)))) then (some false) else ((cohortref23_Same.f k3 t176 x10_1).bind fun t184 => (if t184 = true then (cohortlaw23_SchedOnce.l0 k3 a0 a2 l3 y164 t176 (IntKind.u64.wrap ((IntKind.u64.wrap (x11_1 + 1)) + (IntKind.u64.wrap (Int.tmod (rd l3 x12_1) 9)))) (wrap64 (x12_1 + 1))) else (some false))))) else (none)) else (some false)) = some r := by rw [if_neg (show ¬ (false = true) by decide)] at H; exact H
                          clear H
                          have H := H1
                          clear H1
                          by_cases c46 : (t176.length : Int) = 1
                          · rw [if_pos c46] at H
                            have c46b0 : ((t176.length : Int) == 1) = true := beq_iff_eq.mpr c46
                            have c46b1 : ((t176.length : Int) != 1) = false := bne_eq_false_iff_eq.mpr c46
                            clear c46
                            by_cases c47 : 0 < (t176.length : Int)
                            · rw [if_pos c47] at H
                              have c47b0 : decide (0 < (t176.length : Int)) = true := decide_eq_true c47
                              have c47b1 : decide (0 < t176.length) = true := decide_eq_true (by omega)
                              clear c47
                              by_cases c48 : (rd t176 0) = 0
                              · rw [if_pos c48] at H
                                have c48b0 : ((rd t176 0) == 0) = true := beq_iff_eq.mpr c48
                                have c48b1 : ((rd t176 0) != 0) = false := bne_eq_false_iff_eq.mpr c48
                                clear c48
                                replace H := Option.bind_eq_some_iff.mp H
                                obtain ⟨t182, A490, H⟩ := H
                                replace H : (if t182 = true then (cohortlaw23_SchedOnce.l0 k3 a0 a2 l3 y164 t176 (IntKind.u64.wrap ((IntKind.u64.wrap (x11_1 + 1)) + (IntKind.u64.wrap (Int.tmod (rd l3 x12_1) 9)))) (wrap64 (x12_1 + 1))) else (some false)) = some r := H
                                have A49 := Aside0.mk A490
                                clear A490
                                by_cases c50 : t182 = true
                                · subst c50
                                  have H1 : (cohortlaw23_SchedOnce.l0 k3 a0 a2 l3 y164 t176 (IntKind.u64.wrap ((IntKind.u64.wrap (x11_1 + 1)) + (IntKind.u64.wrap (Int.tmod (rd l3 x12_1) 9)))) (wrap64 (x12_1 + 1))) = some r := by rw [if_pos rfl] at H; exact H
                                  clear H
                                  have H := H1
                                  clear H1
                                  have H' := Aside0.mk H
                                  clear H
                                  obtain ⟨Ao51, co51, eo51⟩ := Kd.R_slice HO_10.out
                                  subst eo51
                                  go_wp2_with (first | ((with_reducible refine gate_callee (f := 6) rfl ?_); refine goesL_ (some 94) rfl rfl Try.func6 (by kernel_rfl) rfl #[.slice Ao8 y164.length co8, .slice Ao51 x10_1.length co51, .int .u64 (IntKind.u64.wrap ((IntKind.u64.wrap (x11_1 + 1)) + (IntKind.u64.wrap (Int.tmod (rd l3 x12_1) 9))))] rfl (by (try simp only [List.map_toArray, List.map_cons, List.map_nil]); first | done | rfl | (simp only [List.length_drop, List.length_take]; rfl)) ?_; (with_reducible refine (sched_Due.calls k3 _ _ y164 _ _ x10_1 (IntKind.u64.wrap ((IntKind.u64.wrap (x11_1 + 1)) + (IntKind.u64.wrap (Int.tmod (rd l3 x12_1) 9)))) t174 false t176 _ ?side1 ?side2 ?side3 ?side4 A22.out).mono ?_); (case side1 => repeat (first | exact (Kd.R_reads' HO_9.out).2.2 | (with_reducible refine Kd.C_alloc ?_ _) | (with_reducible refine Kd.C_drewN ?_ _) | (with_reducible refine Kd.C_drew ?_))); (case side2 => exact (Kd.R_reads' HO_9.out).2.1); (case side3 => repeat (first | exact (Kd.R_reads' HO_10.out).2.2 | (with_reducible refine Kd.C_alloc ?_ _) | (with_reducible refine Kd.C_drewN ?_ _) | (with_reducible refine Kd.C_drew ?_))); (case side4 => exact (Kd.R_reads' HO_10.out).2.1); rintro e w52 ⟨v177, rfl, ho0, hb⟩; refine ⟨_, rfl, ?_⟩; have n0_ := Aside0.mk (Kd.R_below (by (with_reducible repeat (first | apply Kd.R_alloc | apply Kd.R_drewN | apply Kd.R_drew)); exact HO_9.out) hb); have n1_ := Aside0.mk (Kd.R_elder' (by (with_reducible repeat (first | apply Kd.R_alloc | apply Kd.R_drewN | apply Kd.R_drew)); exact HO_10.out) (Kd.R_base ho0) hb); have n2_ := Aside0.mk (Kd.R_lower (Kd.R_new' ho0 (Kd.R_lt (by (with_reducible repeat (first | apply Kd.R_alloc | apply Kd.R_drewN | apply Kd.R_drew)); exact HO_10.out))) (below_size (by repeat (first | (with_reducible first | exact HB.out | apply below_alloc | apply pw_below_drewN | apply below_drew1) | exact HB.out)))); have n3_ := Aside0.mk (below_step (by repeat (first | (with_reducible first | exact HB.out | apply below_alloc | apply pw_below_drewN | apply below_drew1) | exact HB.out)) hb); clear HO_9; clear HO_10; clear HB; have HO_9 := n0_; have HO_10 := n1_; have HO178 := n2_; have HB := n3_; clear n0_ n1_ n2_ n3_; (try clear hb); (try clear hb2); (try clear hk); (try clear hi); (try clear ho0); obtain ⟨Ao53, co53, eo53⟩ := Kd.R_slice HO178.out; subst eo53; have p181 : 0 ≤ (0 : Int) := (by omega); have q181 : 0 < (t176.length : Int) := of_decide_eq_true (by first | (with_reducible assumption) | assumption); obtain ⟨ad181, e181, hx181_0⟩ := Kd.at_int (Kd.R_reads' HO178.out).2.2 0 p181 q181; cases e181; have qi181 : (0 < t176.length) = True := eq_true (by omega); (try rw [show ((0 : Int)).toNat = 0 from rfl] at hx181_0); (try rw [Addr.add_zero'] at hx181_0); replace p181 := eq_true p181; replace q181 := eq_true q181) | (go_at_call 7; (with_reducible refine (cohortref23_Same.calls k3 _ _ t176 _ _ x10_1 true _ ?side1 ?side2 ?side3 ?side4 A49.out).mono ?_); (case side1 => repeat (first | exact (Kd.R_reads' HO178.out).2.2 | (with_reducible refine Kd.C_alloc ?_ _) | (with_reducible refine Kd.C_drewN ?_ _) | (with_reducible refine Kd.C_drew ?_))); (case side2 => exact (Kd.R_reads' HO178.out).2.1); (case side3 => repeat (first | exact (Kd.R_reads' HO_10.out).2.2 | (with_reducible refine Kd.C_alloc ?_ _) | (with_reducible refine Kd.C_drewN ?_ _) | (with_reducible refine Kd.C_drew ?_))); (case side4 => exact (Kd.R_reads' HO_10.out).2.1); rintro e w' ⟨rfl, ⟨nd, rfl⟩⟩))
                                  go_roundg k3
                                  case measure => have := HK1.out; have := HJ9.out; have := HK3.out; omega
                                  case rel => exact ⟨(t176), ((IntKind.u64.wrap ((IntKind.u64.wrap (x11_1 + 1)) + (IntKind.u64.wrap (Int.tmod (rd l3 x12_1) 9))))), (wrap64 (x12_1 + 1)), (by first | rfl | (simp; done) | (simp [*]; done)), (by first | rfl | (simp; done) | (simp [*]; done)), H', ⟨by have := HK1.out; have := HJ9.out; have := HK3.out; omega⟩, ⟨by (with_reducible repeat (first | apply Kd.R_alloc | apply Kd.R_drewN | apply Kd.R_drew)); exact HO_9.out⟩, ⟨by (with_reducible repeat (first | apply Kd.R_alloc | apply Kd.R_drewN | apply Kd.R_drew)); exact Kd.R_mono HO178.out (fun _ hk => trivial)⟩, ⟨by repeat (first | (with_reducible first | exact HB.out | apply below_alloc | apply pw_below_drewN | apply below_drew1) | exact HB.out)⟩⟩
                                · replace c50 := Bool.eq_false_iff.mpr c50
                                  subst c50
                                  have H1 : (some false) = some r := by rw [if_neg (show ¬ (false = true) by decide)] at H; exact H
                                  clear H
                                  have H := H1
                                  clear H1
                                  obtain rfl := Option.some.inj H
                                  obtain ⟨Ao54, co54, eo54⟩ := Kd.R_slice HO_10.out
                                  subst eo54
                                  go_wp2_with (first | ((with_reducible refine gate_callee (f := 6) rfl ?_); refine goesL_ (some 94) rfl rfl Try.func6 (by kernel_rfl) rfl #[.slice Ao8 y164.length co8, .slice Ao54 x10_1.length co54, .int .u64 (IntKind.u64.wrap ((IntKind.u64.wrap (x11_1 + 1)) + (IntKind.u64.wrap (Int.tmod (rd l3 x12_1) 9))))] rfl (by (try simp only [List.map_toArray, List.map_cons, List.map_nil]); first | done | rfl | (simp only [List.length_drop, List.length_take]; rfl)) ?_; (with_reducible refine (sched_Due.calls k3 _ _ y164 _ _ x10_1 (IntKind.u64.wrap ((IntKind.u64.wrap (x11_1 + 1)) + (IntKind.u64.wrap (Int.tmod (rd l3 x12_1) 9)))) t174 false t176 _ ?side1 ?side2 ?side3 ?side4 A22.out).mono ?_); (case side1 => repeat (first | exact (Kd.R_reads' HO_9.out).2.2 | (with_reducible refine Kd.C_alloc ?_ _) | (with_reducible refine Kd.C_drewN ?_ _) | (with_reducible refine Kd.C_drew ?_))); (case side2 => exact (Kd.R_reads' HO_9.out).2.1); (case side3 => repeat (first | exact (Kd.R_reads' HO_10.out).2.2 | (with_reducible refine Kd.C_alloc ?_ _) | (with_reducible refine Kd.C_drewN ?_ _) | (with_reducible refine Kd.C_drew ?_))); (case side4 => exact (Kd.R_reads' HO_10.out).2.1); rintro e w55 ⟨v177, rfl, ho0, hb⟩; refine ⟨_, rfl, ?_⟩; have n0_ := Aside0.mk (Kd.R_below (by (with_reducible repeat (first | apply Kd.R_alloc | apply Kd.R_drewN | apply Kd.R_drew)); exact HO_9.out) hb); have n1_ := Aside0.mk (Kd.R_elder' (by (with_reducible repeat (first | apply Kd.R_alloc | apply Kd.R_drewN | apply Kd.R_drew)); exact HO_10.out) (Kd.R_base ho0) hb); have n2_ := Aside0.mk (Kd.R_lower (Kd.R_new' ho0 (Kd.R_lt (by (with_reducible repeat (first | apply Kd.R_alloc | apply Kd.R_drewN | apply Kd.R_drew)); exact HO_10.out))) (below_size (by repeat (first | (with_reducible first | exact HB.out | apply below_alloc | apply pw_below_drewN | apply below_drew1) | exact HB.out)))); have n3_ := Aside0.mk (below_step (by repeat (first | (with_reducible first | exact HB.out | apply below_alloc | apply pw_below_drewN | apply below_drew1) | exact HB.out)) hb); clear HO_9; clear HO_10; clear HB; have HO_9 := n0_; have HO_10 := n1_; have HO178 := n2_; have HB := n3_; clear n0_ n1_ n2_ n3_; (try clear hb); (try clear hb2); (try clear hk); (try clear hi); (try clear ho0); obtain ⟨Ao56, co56, eo56⟩ := Kd.R_slice HO178.out; subst eo56; have p181 : 0 ≤ (0 : Int) := (by omega); have q181 : 0 < (t176.length : Int) := of_decide_eq_true (by first | (with_reducible assumption) | assumption); obtain ⟨ad181, e181, hx181_0⟩ := Kd.at_int (Kd.R_reads' HO178.out).2.2 0 p181 q181; cases e181; have qi181 : (0 < t176.length) = True := eq_true (by omega); (try rw [show ((0 : Int)).toNat = 0 from rfl] at hx181_0); (try rw [Addr.add_zero'] at hx181_0); replace p181 := eq_true p181; replace q181 := eq_true q181) | (go_at_call 7; (with_reducible refine (cohortref23_Same.calls k3 _ _ t176 _ _ x10_1 false _ ?side1 ?side2 ?side3 ?side4 A49.out).mono ?_); (case side1 => repeat (first | exact (Kd.R_reads' HO178.out).2.2 | (with_reducible refine Kd.C_alloc ?_ _) | (with_reducible refine Kd.C_drewN ?_ _) | (with_reducible refine Kd.C_drew ?_))); (case side2 => exact (Kd.R_reads' HO178.out).2.1); (case side3 => repeat (first | exact (Kd.R_reads' HO_10.out).2.2 | (with_reducible refine Kd.C_alloc ?_ _) | (with_reducible refine Kd.C_drewN ?_ _) | (with_reducible refine Kd.C_drew ?_))); (case side4 => exact (Kd.R_reads' HO_10.out).2.1); rintro e w' ⟨rfl, ⟨nd, rfl⟩⟩))
                                  go_ret
                                  exact ⟨by first | rfl | (simp [errW_none, errW_some] <;> rfl) | (simp [*, errW_none, errW_some] <;> rfl), by repeat (first | (with_reducible first | exact HB.out | apply below_alloc | apply pw_below_drewN | apply below_drew1) | exact HB.out)⟩
                              · rw [if_neg c48] at H
                                have c48b0 : ((rd t176 0) == 0) = false := beq_eq_false_iff_ne.mpr c48
                                have c48b1 : ((rd t176 0) != 0) = true := bne_iff_ne.mpr c48
                                by_cases c57 : (rd t176 0) ≤ (IntKind.u64.wrap ((IntKind.u64.wrap (x11_1 + 1)) + (IntKind.u64.wrap (Int.tmod (rd l3 x12_1) 9))))
                                · rw [if_pos c57] at H
                                  have c57b0 : decide ((rd t176 0) ≤ (IntKind.u64.wrap ((IntKind.u64.wrap (x11_1 + 1)) + (IntKind.u64.wrap (Int.tmod (rd l3 x12_1) 9))))) = true := decide_eq_true c57
                                  clear c57
                                  obtain rfl := Option.some.inj H
                                  obtain ⟨Ao58, co58, eo58⟩ := Kd.R_slice HO_10.out
                                  subst eo58
                                  go_wp2_with (first | ((with_reducible refine gate_callee (f := 6) rfl ?_); refine goesL_ (some 94) rfl rfl Try.func6 (by kernel_rfl) rfl #[.slice Ao8 y164.length co8, .slice Ao58 x10_1.length co58, .int .u64 (IntKind.u64.wrap ((IntKind.u64.wrap (x11_1 + 1)) + (IntKind.u64.wrap (Int.tmod (rd l3 x12_1) 9))))] rfl (by (try simp only [List.map_toArray, List.map_cons, List.map_nil]); first | done | rfl | (simp only [List.length_drop, List.length_take]; rfl)) ?_; (with_reducible refine (sched_Due.calls k3 _ _ y164 _ _ x10_1 (IntKind.u64.wrap ((IntKind.u64.wrap (x11_1 + 1)) + (IntKind.u64.wrap (Int.tmod (rd l3 x12_1) 9)))) t174 false t176 _ ?side1 ?side2 ?side3 ?side4 A22.out).mono ?_); (case side1 => repeat (first | exact (Kd.R_reads' HO_9.out).2.2 | (with_reducible refine Kd.C_alloc ?_ _) | (with_reducible refine Kd.C_drewN ?_ _) | (with_reducible refine Kd.C_drew ?_))); (case side2 => exact (Kd.R_reads' HO_9.out).2.1); (case side3 => repeat (first | exact (Kd.R_reads' HO_10.out).2.2 | (with_reducible refine Kd.C_alloc ?_ _) | (with_reducible refine Kd.C_drewN ?_ _) | (with_reducible refine Kd.C_drew ?_))); (case side4 => exact (Kd.R_reads' HO_10.out).2.1); rintro e w59 ⟨v177, rfl, ho0, hb⟩; refine ⟨_, rfl, ?_⟩; have n0_ := Aside0.mk (Kd.R_below (by (with_reducible repeat (first | apply Kd.R_alloc | apply Kd.R_drewN | apply Kd.R_drew)); exact HO_9.out) hb); have n1_ := Aside0.mk (Kd.R_elder' (by (with_reducible repeat (first | apply Kd.R_alloc | apply Kd.R_drewN | apply Kd.R_drew)); exact HO_10.out) (Kd.R_base ho0) hb); have n2_ := Aside0.mk (Kd.R_lower (Kd.R_new' ho0 (Kd.R_lt (by (with_reducible repeat (first | apply Kd.R_alloc | apply Kd.R_drewN | apply Kd.R_drew)); exact HO_10.out))) (below_size (by repeat (first | (with_reducible first | exact HB.out | apply below_alloc | apply pw_below_drewN | apply below_drew1) | exact HB.out)))); have n3_ := Aside0.mk (below_step (by repeat (first | (with_reducible first | exact HB.out | apply below_alloc | apply pw_below_drewN | apply below_drew1) | exact HB.out)) hb); clear HO_9; clear HO_10; clear HB; have HO_9 := n0_; have HO_10 := n1_; have HO178 := n2_; have HB := n3_; clear n0_ n1_ n2_ n3_; (try clear hb); (try clear hb2); (try clear hk); (try clear hi); (try clear ho0); obtain ⟨Ao60, co60, eo60⟩ := Kd.R_slice HO178.out; subst eo60; have p181 : 0 ≤ (0 : Int) := (by omega); have q181 : 0 < (t176.length : Int) := of_decide_eq_true (by first | (with_reducible assumption) | assumption); obtain ⟨ad181, e181, hx181_0⟩ := Kd.at_int (Kd.R_reads' HO178.out).2.2 0 p181 q181; cases e181; have qi181 : (0 < t176.length) = True := eq_true (by omega); (try rw [show ((0 : Int)).toNat = 0 from rfl] at hx181_0); (try rw [Addr.add_zero'] at hx181_0); replace p181 := eq_true p181; replace q181 := eq_true q181; have p183 : 0 ≤ (0 : Int) := (by omega); have q183 : 0 < (t176.length : Int) := of_decide_eq_true (by first | (with_reducible assumption) | assumption); obtain ⟨ad183, e183, hx183_0⟩ := Kd.at_int (Kd.R_reads' HO178.out).2.2 0 p183 q183; obtain rfl : ad181 = ad183 := (by injection e183); have qi183 : (0 < t176.length) = True := eq_true (by omega); (try rw [show ((0 : Int)).toNat = 0 from rfl] at hx183_0); (try rw [Addr.add_zero'] at hx183_0); replace p183 := eq_true p183; replace q183 := eq_true q183))
                                  go_ret
                                  exact ⟨by first | rfl | (simp [errW_none, errW_some] <;> rfl) | (simp [*, errW_none, errW_some] <;> rfl), by repeat (first | (with_reducible first | exact HB.out | apply below_alloc | apply pw_below_drewN | apply below_drew1) | exact HB.out)⟩
                                · rw [if_neg c57] at H
                                  have c57b0 : decide ((rd t176 0) ≤ (IntKind.u64.wrap ((IntKind.u64.wrap (x11_1 + 1)) + (IntKind.u64.wrap (Int.tmod (rd l3 x12_1) 9))))) = false := decide_eq_false c57
                                  clear c57
                                  replace H := Option.bind_eq_some_iff.mp H
                                  obtain ⟨t184, A610, H⟩ := H
                                  replace H : (if t184 = true then (cohortlaw23_SchedOnce.l0 k3 a0 a2 l3 y164 t176 (IntKind.u64.wrap ((IntKind.u64.wrap (x11_1 + 1)) + (IntKind.u64.wrap (Int.tmod (rd l3 x12_1) 9)))) (wrap64 (x12_1 + 1))) else (some false)) = some r := H
                                  have A61 := Aside0.mk A610
                                  clear A610
                                  by_cases c62 : t184 = true
                                  · subst c62
                                    have H1 : (cohortlaw23_SchedOnce.l0 k3 a0 a2 l3 y164 t176 (IntKind.u64.wrap ((IntKind.u64.wrap (x11_1 + 1)) + (IntKind.u64.wrap (Int.tmod (rd l3 x12_1) 9)))) (wrap64 (x12_1 + 1))) = some r := by rw [if_pos rfl] at H; exact H
                                    clear H
                                    have H := H1
                                    clear H1
                                    have H' := Aside0.mk H
                                    clear H
                                    obtain ⟨Ao63, co63, eo63⟩ := Kd.R_slice HO_10.out
                                    subst eo63
                                    go_wp2_with (first | ((with_reducible refine gate_callee (f := 6) rfl ?_); refine goesL_ (some 94) rfl rfl Try.func6 (by kernel_rfl) rfl #[.slice Ao8 y164.length co8, .slice Ao63 x10_1.length co63, .int .u64 (IntKind.u64.wrap ((IntKind.u64.wrap (x11_1 + 1)) + (IntKind.u64.wrap (Int.tmod (rd l3 x12_1) 9))))] rfl (by (try simp only [List.map_toArray, List.map_cons, List.map_nil]); first | done | rfl | (simp only [List.length_drop, List.length_take]; rfl)) ?_; (with_reducible refine (sched_Due.calls k3 _ _ y164 _ _ x10_1 (IntKind.u64.wrap ((IntKind.u64.wrap (x11_1 + 1)) + (IntKind.u64.wrap (Int.tmod (rd l3 x12_1) 9)))) t174 false t176 _ ?side1 ?side2 ?side3 ?side4 A22.out).mono ?_); (case side1 => repeat (first | exact (Kd.R_reads' HO_9.out).2.2 | (with_reducible refine Kd.C_alloc ?_ _) | (with_reducible refine Kd.C_drewN ?_ _) | (with_reducible refine Kd.C_drew ?_))); (case side2 => exact (Kd.R_reads' HO_9.out).2.1); (case side3 => repeat (first | exact (Kd.R_reads' HO_10.out).2.2 | (with_reducible refine Kd.C_alloc ?_ _) | (with_reducible refine Kd.C_drewN ?_ _) | (with_reducible refine Kd.C_drew ?_))); (case side4 => exact (Kd.R_reads' HO_10.out).2.1); rintro e w64 ⟨v177, rfl, ho0, hb⟩; refine ⟨_, rfl, ?_⟩; have n0_ := Aside0.mk (Kd.R_below (by (with_reducible repeat (first | apply Kd.R_alloc | apply Kd.R_drewN | apply Kd.R_drew)); exact HO_9.out) hb); have n1_ := Aside0.mk (Kd.R_elder' (by (with_reducible repeat (first | apply Kd.R_alloc | apply Kd.R_drewN | apply Kd.R_drew)); exact HO_10.out) (Kd.R_base ho0) hb); have n2_ := Aside0.mk (Kd.R_lower (Kd.R_new' ho0 (Kd.R_lt (by (with_reducible repeat (first | apply Kd.R_alloc | apply Kd.R_drewN | apply Kd.R_drew)); exact HO_10.out))) (below_size (by repeat (first | (with_reducible first | exact HB.out | apply below_alloc | apply pw_below_drewN | apply below_drew1) | exact HB.out)))); have n3_ := Aside0.mk (below_step (by repeat (first | (with_reducible first | exact HB.out | apply below_alloc | apply pw_below_drewN | apply below_drew1) | exact HB.out)) hb); clear HO_9; clear HO_10; clear HB; have HO_9 := n0_; have HO_10 := n1_; have HO178 := n2_; have HB := n3_; clear n0_ n1_ n2_ n3_; (try clear hb); (try clear hb2); (try clear hk); (try clear hi); (try clear ho0); obtain ⟨Ao65, co65, eo65⟩ := Kd.R_slice HO178.out; subst eo65; have p181 : 0 ≤ (0 : Int) := (by omega); have q181 : 0 < (t176.length : Int) := of_decide_eq_true (by first | (with_reducible assumption) | assumption); obtain ⟨ad181, e181, hx181_0⟩ := Kd.at_int (Kd.R_reads' HO178.out).2.2 0 p181 q181; cases e181; have qi181 : (0 < t176.length) = True := eq_true (by omega); (try rw [show ((0 : Int)).toNat = 0 from rfl] at hx181_0); (try rw [Addr.add_zero'] at hx181_0); replace p181 := eq_true p181; replace q181 := eq_true q181; have p183 : 0 ≤ (0 : Int) := (by omega); have q183 : 0 < (t176.length : Int) := of_decide_eq_true (by first | (with_reducible assumption) | assumption); obtain ⟨ad183, e183, hx183_0⟩ := Kd.at_int (Kd.R_reads' HO178.out).2.2 0 p183 q183; obtain rfl : ad181 = ad183 := (by injection e183); have qi183 : (0 < t176.length) = True := eq_true (by omega); (try rw [show ((0 : Int)).toNat = 0 from rfl] at hx183_0); (try rw [Addr.add_zero'] at hx183_0); replace p183 := eq_true p183; replace q183 := eq_true q183) | (go_at_call 7; (with_reducible refine (cohortref23_Same.calls k3 _ _ t176 _ _ x10_1 true _ ?side1 ?side2 ?side3 ?side4 A61.out).mono ?_); (case side1 => repeat (first | exact (Kd.R_reads' HO178.out).2.2 | (with_reducible refine Kd.C_alloc ?_ _) | (with_reducible refine Kd.C_drewN ?_ _) | (with_reducible refine Kd.C_drew ?_))); (case side2 => exact (Kd.R_reads' HO178.out).2.1); (case side3 => repeat (first | exact (Kd.R_reads' HO_10.out).2.2 | (with_reducible refine Kd.C_alloc ?_ _) | (with_reducible refine Kd.C_drewN ?_ _) | (with_reducible refine Kd.C_drew ?_))); (case side4 => exact (Kd.R_reads' HO_10.out).2.1); rintro e w' ⟨rfl, ⟨nd, rfl⟩⟩))
                                    go_roundg k3
                                    case measure => have := HK1.out; have := HJ9.out; have := HK3.out; omega
                                    case rel => exact ⟨(t176), ((IntKind.u64.wrap ((IntKind.u64.wrap (x11_1 + 1)) + (IntKind.u64.wrap (Int.tmod (rd l3 x12_1) 9))))), (wrap64 (x12_1 + 1)), (by first | rfl | (simp; done) | (simp [*]; done)), (by first | rfl | (simp; done) | (simp [*]; done)), H', ⟨by have := HK1.out; have := HJ9.out; have := HK3.out; omega⟩, ⟨by (with_reducible repeat (first | apply Kd.R_alloc | apply Kd.R_drewN | apply Kd.R_drew)); exact HO_9.out⟩, ⟨by (with_reducible repeat (first | apply Kd.R_alloc | apply Kd.R_drewN | apply Kd.R_drew)); exact Kd.R_mono HO178.out (fun _ hk => trivial)⟩, ⟨by repeat (first | (with_reducible first | exact HB.out | apply below_alloc | apply pw_below_drewN | apply below_drew1) | exact HB.out)⟩⟩
                                  · replace c62 := Bool.eq_false_iff.mpr c62
                                    subst c62
                                    have H1 : (some false) = some r := by rw [if_neg (show ¬ (false = true) by decide)] at H; exact H
                                    clear H
                                    have H := H1
                                    clear H1
                                    obtain rfl := Option.some.inj H
                                    obtain ⟨Ao66, co66, eo66⟩ := Kd.R_slice HO_10.out
                                    subst eo66
                                    go_wp2_with (first | ((with_reducible refine gate_callee (f := 6) rfl ?_); refine goesL_ (some 94) rfl rfl Try.func6 (by kernel_rfl) rfl #[.slice Ao8 y164.length co8, .slice Ao66 x10_1.length co66, .int .u64 (IntKind.u64.wrap ((IntKind.u64.wrap (x11_1 + 1)) + (IntKind.u64.wrap (Int.tmod (rd l3 x12_1) 9))))] rfl (by (try simp only [List.map_toArray, List.map_cons, List.map_nil]); first | done | rfl | (simp only [List.length_drop, List.length_take]; rfl)) ?_; (with_reducible refine (sched_Due.calls k3 _ _ y164 _ _ x10_1 (IntKind.u64.wrap ((IntKind.u64.wrap (x11_1 + 1)) + (IntKind.u64.wrap (Int.tmod (rd l3 x12_1) 9)))) t174 false t176 _ ?side1 ?side2 ?side3 ?side4 A22.out).mono ?_); (case side1 => repeat (first | exact (Kd.R_reads' HO_9.out).2.2 | (with_reducible refine Kd.C_alloc ?_ _) | (with_reducible refine Kd.C_drewN ?_ _) | (with_reducible refine Kd.C_drew ?_))); (case side2 => exact (Kd.R_reads' HO_9.out).2.1); (case side3 => repeat (first | exact (Kd.R_reads' HO_10.out).2.2 | (with_reducible refine Kd.C_alloc ?_ _) | (with_reducible refine Kd.C_drewN ?_ _) | (with_reducible refine Kd.C_drew ?_))); (case side4 => exact (Kd.R_reads' HO_10.out).2.1); rintro e w67 ⟨v177, rfl, ho0, hb⟩; refine ⟨_, rfl, ?_⟩; have n0_ := Aside0.mk (Kd.R_below (by (with_reducible repeat (first | apply Kd.R_alloc | apply Kd.R_drewN | apply Kd.R_drew)); exact HO_9.out) hb); have n1_ := Aside0.mk (Kd.R_elder' (by (with_reducible repeat (first | apply Kd.R_alloc | apply Kd.R_drewN | apply Kd.R_drew)); exact HO_10.out) (Kd.R_base ho0) hb); have n2_ := Aside0.mk (Kd.R_lower (Kd.R_new' ho0 (Kd.R_lt (by (with_reducible repeat (first | apply Kd.R_alloc | apply Kd.R_drewN | apply Kd.R_drew)); exact HO_10.out))) (below_size (by repeat (first | (with_reducible first | exact HB.out | apply below_alloc | apply pw_below_drewN | apply below_drew1) | exact HB.out)))); have n3_ := Aside0.mk (below_step (by repeat (first | (with_reducible first | exact HB.out | apply below_alloc | apply pw_below_drewN | apply below_drew1) | exact HB.out)) hb); clear HO_9; clear HO_10; clear HB; have HO_9 := n0_; have HO_10 := n1_; have HO178 := n2_; have HB := n3_; clear n0_ n1_ n2_ n3_; (try clear hb); (try clear hb2); (try clear hk); (try clear hi); (try clear ho0); obtain ⟨Ao68, co68, eo68⟩ := Kd.R_slice HO178.out; subst eo68; have p181 : 0 ≤ (0 : Int) := (by omega); have q181 : 0 < (t176.length : Int) := of_decide_eq_true (by first | (with_reducible assumption) | assumption); obtain ⟨ad181, e181, hx181_0⟩ := Kd.at_int (Kd.R_reads' HO178.out).2.2 0 p181 q181; cases e181; have qi181 : (0 < t176.length) = True := eq_true (by omega); (try rw [show ((0 : Int)).toNat = 0 from rfl] at hx181_0); (try rw [Addr.add_zero'] at hx181_0); replace p181 := eq_true p181; replace q181 := eq_true q181; have p183 : 0 ≤ (0 : Int) := (by omega); have q183 : 0 < (t176.length : Int) := of_decide_eq_true (by first | (with_reducible assumption) | assumption); obtain ⟨ad183, e183, hx183_0⟩ := Kd.at_int (Kd.R_reads' HO178.out).2.2 0 p183 q183; obtain rfl : ad181 = ad183 := (by injection e183); have qi183 : (0 < t176.length) = True := eq_true (by omega); (try rw [show ((0 : Int)).toNat = 0 from rfl] at hx183_0); (try rw [Addr.add_zero'] at hx183_0); replace p183 := eq_true p183; replace q183 := eq_true q183) | (go_at_call 7; (with_reducible refine (cohortref23_Same.calls k3 _ _ t176 _ _ x10_1 false _ ?side1 ?side2 ?side3 ?side4 A61.out).mono ?_); (case side1 => repeat (first | exact (Kd.R_reads' HO178.out).2.2 | (with_reducible refine Kd.C_alloc ?_ _) | (with_reducible refine Kd.C_drewN ?_ _) | (with_reducible refine Kd.C_drew ?_))); (case side2 => exact (Kd.R_reads' HO178.out).2.1); (case side3 => repeat (first | exact (Kd.R_reads' HO_10.out).2.2 | (with_reducible refine Kd.C_alloc ?_ _) | (with_reducible refine Kd.C_drewN ?_ _) | (with_reducible refine Kd.C_drew ?_))); (case side4 => exact (Kd.R_reads' HO_10.out).2.1); rintro e w' ⟨rfl, ⟨nd, rfl⟩⟩))
                                    go_ret
                                    exact ⟨by first | rfl | (simp [errW_none, errW_some] <;> rfl) | (simp [*, errW_none, errW_some] <;> rfl), by repeat (first | (with_reducible first | exact HB.out | apply below_alloc | apply pw_below_drewN | apply below_drew1) | exact HB.out)⟩
                            · rw [if_neg c47] at H
                              exact absurd H (by simp)
                          · rw [if_neg c46] at H
                            have c46b0 : ((t176.length : Int) == 1) = false := beq_eq_false_iff_ne.mpr c46
                            have c46b1 : ((t176.length : Int) != 1) = true := bne_iff_ne.mpr c46
                            obtain rfl := Option.some.inj H
                            obtain ⟨Ao69, co69, eo69⟩ := Kd.R_slice HO_10.out
                            subst eo69
                            go_wp2_with (first | ((with_reducible refine gate_callee (f := 6) rfl ?_); refine goesL_ (some 94) rfl rfl Try.func6 (by kernel_rfl) rfl #[.slice Ao8 y164.length co8, .slice Ao69 x10_1.length co69, .int .u64 (IntKind.u64.wrap ((IntKind.u64.wrap (x11_1 + 1)) + (IntKind.u64.wrap (Int.tmod (rd l3 x12_1) 9))))] rfl (by (try simp only [List.map_toArray, List.map_cons, List.map_nil]); first | done | rfl | (simp only [List.length_drop, List.length_take]; rfl)) ?_; (with_reducible refine (sched_Due.calls k3 _ _ y164 _ _ x10_1 (IntKind.u64.wrap ((IntKind.u64.wrap (x11_1 + 1)) + (IntKind.u64.wrap (Int.tmod (rd l3 x12_1) 9)))) t174 false t176 _ ?side1 ?side2 ?side3 ?side4 A22.out).mono ?_); (case side1 => repeat (first | exact (Kd.R_reads' HO_9.out).2.2 | (with_reducible refine Kd.C_alloc ?_ _) | (with_reducible refine Kd.C_drewN ?_ _) | (with_reducible refine Kd.C_drew ?_))); (case side2 => exact (Kd.R_reads' HO_9.out).2.1); (case side3 => repeat (first | exact (Kd.R_reads' HO_10.out).2.2 | (with_reducible refine Kd.C_alloc ?_ _) | (with_reducible refine Kd.C_drewN ?_ _) | (with_reducible refine Kd.C_drew ?_))); (case side4 => exact (Kd.R_reads' HO_10.out).2.1); rintro e w70 ⟨v177, rfl, ho0, hb⟩; refine ⟨_, rfl, ?_⟩; have n0_ := Aside0.mk (Kd.R_below (by (with_reducible repeat (first | apply Kd.R_alloc | apply Kd.R_drewN | apply Kd.R_drew)); exact HO_9.out) hb); have n1_ := Aside0.mk (Kd.R_elder' (by (with_reducible repeat (first | apply Kd.R_alloc | apply Kd.R_drewN | apply Kd.R_drew)); exact HO_10.out) (Kd.R_base ho0) hb); have n2_ := Aside0.mk (Kd.R_lower (Kd.R_new' ho0 (Kd.R_lt (by (with_reducible repeat (first | apply Kd.R_alloc | apply Kd.R_drewN | apply Kd.R_drew)); exact HO_10.out))) (below_size (by repeat (first | (with_reducible first | exact HB.out | apply below_alloc | apply pw_below_drewN | apply below_drew1) | exact HB.out)))); have n3_ := Aside0.mk (below_step (by repeat (first | (with_reducible first | exact HB.out | apply below_alloc | apply pw_below_drewN | apply below_drew1) | exact HB.out)) hb); clear HO_9; clear HO_10; clear HB; have HO_9 := n0_; have HO_10 := n1_; have HO178 := n2_; have HB := n3_; clear n0_ n1_ n2_ n3_; (try clear hb); (try clear hb2); (try clear hk); (try clear hi); (try clear ho0); obtain ⟨Ao71, co71, eo71⟩ := Kd.R_slice HO178.out; subst eo71))
                            go_ret
                            exact ⟨by first | rfl | (simp [errW_none, errW_some] <;> rfl) | (simp [*, errW_none, errW_some] <;> rfl), by repeat (first | (with_reducible first | exact HB.out | apply below_alloc | apply pw_below_drewN | apply below_drew1) | exact HB.out)⟩
              · rw [if_neg c14] at H
                exact absurd H (by simp)
            · rw [if_neg c13] at H
              exact absurd H (by simp)
          · replace c12 := Bool.eq_false_iff.mpr c12
            subst c12
            have H1 : ((cohortlaw23_lives.f kj9).bind fun t170 => (some t170)) = some r := by rw [if_neg (show ¬ (false = true) by decide)] at H; exact H
            clear H
            have H := H1
            clear H1
            replace H := Option.bind_eq_some_iff.mp H
            obtain ⟨t170, A720, H⟩ := H
            replace H : (some t170) = some r := H
            have A72 := Aside0.mk A720
            clear A720
            obtain rfl := Option.some.inj H
            go_wp2_with (first | ((with_reducible refine gate_callee (f := 8) rfl ?_); refine goesL_ (some 138) rfl rfl Try.func8 (by kernel_rfl) rfl #[] rfl (by (try simp only [List.map_toArray, List.map_cons, List.map_nil]); first | done | rfl | (simp only [List.length_drop, List.length_take]; rfl)) ?_; (with_reducible refine (cohortlaw23_lives.calls kj9  t170 _ A72.out).mono ?_); rintro e w73 ⟨rfl, hb⟩; refine ⟨_, rfl, ?_⟩; have n0_ := Aside0.mk (Kd.R_below (by (with_reducible repeat (first | apply Kd.R_alloc | apply Kd.R_drewN | apply Kd.R_drew)); exact HO_9.out) hb); have n1_ := Aside0.mk (Kd.R_below (by (with_reducible repeat (first | apply Kd.R_alloc | apply Kd.R_drewN | apply Kd.R_drew)); exact HO_10.out) hb); have n2_ := Aside0.mk (below_step (by repeat (first | (with_reducible first | exact HB.out | apply below_alloc | apply pw_below_drewN | apply below_drew1) | exact HB.out)) hb); clear HO_9; clear HO_10; clear HB; have HO_9 := n0_; have HO_10 := n1_; have HB := n2_; clear n0_ n1_ n2_; (try clear hb); (try clear hb2); (try clear hk); (try clear hi)))
            go_ret
            exact ⟨by first | rfl | (simp [errW_none, errW_some] <;> rfl) | (simp [*, errW_none, errW_some] <;> rfl), by repeat (first | (with_reducible first | exact HB.out | apply below_alloc | apply pw_below_drewN | apply below_drew1) | exact HB.out)⟩

/-- THE ONE PURE STATEMENT of cohortlaw23_SchedOnce: yours. -/
def cohortlaw23_SchedOnce.Pure : Prop := ∀ (a0 : Int) (a1 : Int) (a2 : Int) (l3 : List Int), (Lit.int .u8 a0).wf = true → (Lit.int .u8 a1).wf = true → (Lit.int .i64 a2).wf = true → l3.length ≤ maxLen → l3.length * 1 ≤ 140737488351232 → (∀ x ∈ l3, (Lit.int .u8 x).wf = true) → ∃ k, cohortlaw23_SchedOnce.f k a0 a1 a2 l3 = some true
theorem cohortlaw23_SchedOnce.walk (P : cohortlaw23_SchedOnce.Pure) (a0 : Int) (a1 : Int) (a2 : Int) (a3 : Option Addr) (len3 cap3 : Nat) (z3 : List Int) (w : World) (w0 : (Lit.int .u8 a0).wf = true) (w1 : (Lit.int .u8 a1).wf = true) (w2 : (Lit.int .i64 a2).wf = true) (w3 : (a3 = none ∧ len3 = 0 ∧ cap3 = 0 ∧ z3 = []) ∨ ∃ x, a3 = some x ∧ len3 ≤ cap3 ∧ cap3 ≤ maxLen ∧ z3.length = cap3 ∧ (∀ i, i < z3.length → w.cell? (x.add i) = some (.int .u8 (z3.getD i 0))) ∧ ∀ n ∈ z3, (Lit.int .u8 n).wf = true) (y3 : len3 * 1 ≤ 140737488351232) :
    Calls Try.prog 3 #[.int .u8 a0, .int .u8 a1, .int .i64 a2, .slice a3 len3 cap3] w fun e w' => e = .returned (.bool true) ∧ Below w.heap.size w w' := by
  obtain ⟨l3, rfl, hr3, hm3, hw3, hc3⟩ := ReadsInt.ofRowC w3
  obtain ⟨k, h⟩ := P a0 a1 a2 l3 w0 w1 w2 hm3 y3 hw3
  refine (cohortlaw23_SchedOnce.calls k a0 a1 a2 _ _ l3 true w (Kd.C_of_reads (d := (0 : Int)) (h1 := fun _ => rfl) hr3) hc3 h).mono ?_
  rintro e w' ⟨rfl, hd⟩
  exact ⟨rfl, hd⟩

end Go.Proofs.Ytkmalmdmlkhccaa.GA
