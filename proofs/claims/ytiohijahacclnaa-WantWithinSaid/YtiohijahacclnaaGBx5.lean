/- Contracts: each call of a Go function answers what the Lean function of its name says; a law of the set follows. No condition but each theorem's own. Written by a program of this session's out of the translation, with the functions proved by hand let in. -/
import Derived.Test.YtiohijahacclnaaGBx0
import Derived.Test.YtiohijahacclnaaGBx1
import Derived.Test.YtiohijahacclnaaGBx3
import Derived.Test.YtiohijahacclnaaGBx4
namespace Go.Proofs.Ytiohijahacclnaa.GB
open Go.RowKit Go.Proofs.YtiohijahacclnaaW.PrintWords Go.Proofs.YtiohijahacclnaaW.PrintLast Go.Proofs.YtiohijahacclnaaW.PrintMore
attribute [local go_sem] max2_int min2_int max_two min_two max_three min_three max_four min_four   -- for this text's walks alone
set_option linter.unusedVariables false
set_option linter.unusedSimpArgs false

/-! ### want_Metric: function 7 -/
mutual
def want_Metric.j1 : Nat → Int → Int → Int → Int → Int → List (S95) → Int → Int → Bool → Int → Int → Int → Int → Int → Int → Int → Int → Int → Int → Int → Int → Bool → Int → List (S49) → List (S97) → Option (Int × Int × Int)
  | 0, _, _, _, _, _, _, _, _, _, _, _, _, _, _, _, _, _, _, _, _, _, _, _, _, _ => none
  | k + 1, x1, x3, x4, x10, x11, x120000, x120001, x120002, x120003, x120004, x120005, x120006, x120007, x120008, x120009, x120010, x120011, x120012, x120013, x120014, x120015, x120016, x120017, x120018, x120019 => if (x120018.length : Int) = 0 then ((track_Want.f k x1 x4 x120017).bind fun bt123 => ((num_Clamp.f bt123.1 x120004 x120005).bind fun t125 => (if t125 = x1 then (some (t125, x11, 0)) else (some (t125, IntKind.u64.wrap (x3 + x120015), 0))))) else ((num_Clamp.f x10 x120004 x120005).bind fun t126 => (if t126 = x1 then (some (t126, x11, 0)) else (some (t126, IntKind.u64.wrap (x3 + x120015), 0))))
def want_Metric.j0 : Nat → Int → Int → Int → Int → Int → Bool → List (S95) → Int → Int → Bool → Int → Int → Int → Int → Int → Int → Int → Int → Int → Int → Int → Int → Bool → Int → List (S49) → List (S97) → Option (Int × Int × Int)
  | 0, _, _, _, _, _, _, _, _, _, _, _, _, _, _, _, _, _, _, _, _, _, _, _, _, _, _ => none
  | k + 1, x1, x3, x4, x10, x11, x22, x120000, x120001, x120002, x120003, x120004, x120005, x120006, x120007, x120008, x120009, x120010, x120011, x120012, x120013, x120014, x120015, x120016, x120017, x120018, x120019 => if x22 = true then (some (x10, x11, 0)) else (if (x120018.length : Int) > 0 then ((stair_Want.f k x120018 x1 x4 x120017).bind fun bt121 => (if bt121.2 = 0 then (want_Metric.j1 k x1 x3 x4 bt121.1 x11 x120000 x120001 x120002 x120003 x120004 x120005 x120006 x120007 x120008 x120009 x120010 x120011 x120012 x120013 x120014 x120015 x120016 x120017 x120018 x120019) else (some (0, 0, bt121.2)))) else (want_Metric.j1 k x1 x3 x4 x10 x11 x120000 x120001 x120002 x120003 x120004 x120005 x120006 x120007 x120008 x120009 x120010 x120011 x120012 x120013 x120014 x120015 x120016 x120017 x120018 x120019))
end
def want_Metric.f (k : Nat) (l0_0 : List (S95)) (a0_1 : Int) (a0_2 : Int) (a0_3 : Bool) (a0_4 : Int) (a0_5 : Int) (a0_6 : Int) (a0_7 : Int) (a0_8 : Int) (a0_9 : Int) (a0_10 : Int) (a0_11 : Int) (a0_12 : Int) (a0_13 : Int) (a0_14 : Int) (a0_15 : Int) (a0_16 : Bool) (a0_17 : Int) (l0_18 : List (S49)) (l0_19 : List (S97)) (a1 : Int) (a2 : Int) (a3 : Int) (a4 : Int) : Option (Int × Int × Int) := (want_may.f l0_0 a0_1 a0_2 a0_3 a0_4 a0_5 a0_6 a0_7 a0_8 a0_9 a0_10 a0_11 a0_12 a0_13 a0_14 a0_15 a0_16 a0_17 l0_18 l0_19 a1 a2 a3 a4).bind fun t120 => (if t120 = true then (if a0_17 = 0 then (want_Metric.j0 k a1 a3 a4 a1 a2 true l0_0 a0_1 a0_2 a0_3 a0_4 a0_5 a0_6 a0_7 a0_8 a0_9 a0_10 a0_11 a0_12 a0_13 a0_14 a0_15 a0_16 a0_17 l0_18 l0_19) else (want_Metric.j0 k a1 a3 a4 a1 a2 (decide (a3 < a2)) l0_0 a0_1 a0_2 a0_3 a0_4 a0_5 a0_6 a0_7 a0_8 a0_9 a0_10 a0_11 a0_12 a0_13 a0_14 a0_15 a0_16 a0_17 l0_18 l0_19)) else (some (0, 0, 2)))
theorem want_Metric.mono_l : ∀ k, (∀ y0 y1 y2 y3 y4 y5 y6 y7 y8 y9 y10 y11 y12 y13 y14 y15 y16 y17 y18 y19 y20 y21 y22 y23 y24, LeO (want_Metric.j1 k y0 y1 y2 y3 y4 y5 y6 y7 y8 y9 y10 y11 y12 y13 y14 y15 y16 y17 y18 y19 y20 y21 y22 y23 y24) (want_Metric.j1 (k + 1) y0 y1 y2 y3 y4 y5 y6 y7 y8 y9 y10 y11 y12 y13 y14 y15 y16 y17 y18 y19 y20 y21 y22 y23 y24)) ∧ (∀ y0 y1 y2 y3 y4 y5 y6 y7 y8 y9 y10 y11 y12 y13 y14 y15 y16 y17 y18 y19 y20 y21 y22 y23 y24 y25, LeO (want_Metric.j0 k y0 y1 y2 y3 y4 y5 y6 y7 y8 y9 y10 y11 y12 y13 y14 y15 y16 y17 y18 y19 y20 y21 y22 y23 y24 y25) (want_Metric.j0 (k + 1) y0 y1 y2 y3 y4 y5 y6 y7 y8 y9 y10 y11 y12 y13 y14 y15 y16 y17 y18 y19 y20 y21 y22 y23 y24 y25))
  | 0 => ⟨fun _ _ _ _ _ _ _ _ _ _ _ _ _ _ _ _ _ _ _ _ _ _ _ _ _ r h => by simp [want_Metric.j1] at h, fun _ _ _ _ _ _ _ _ _ _ _ _ _ _ _ _ _ _ _ _ _ _ _ _ _ _ r h => by simp [want_Metric.j0] at h⟩
  | k + 1 => by
    obtain ⟨ih0, ih1⟩ := want_Metric.mono_l k
    refine ⟨?_, ?_⟩
    · intro y0 y1 y2 y3 y4 y5 y6 y7 y8 y9 y10 y11 y12 y13 y14 y15 y16 y17 y18 y19 y20 y21 y22 y23 y24
      unfold want_Metric.j1
      repeat' first
      | (with_reducible exact ih0 _ _ _ _ _ _ _ _ _ _ _ _ _ _ _ _ _ _ _ _ _ _ _ _ _)
      | (with_reducible exact ih1 _ _ _ _ _ _ _ _ _ _ _ _ _ _ _ _ _ _ _ _ _ _ _ _ _ _)
      | (with_reducible exact stair_Want.mono _ _ _ _ _)
      | (with_reducible exact track_Want.mono _ _ _ _)
      | (with_reducible exact LeO.refl _)
      | (with_reducible exact LeO.none _)
      | (with_reducible refine LeO.ite ?_ ?_)
      | (with_reducible refine LeO.bind ?_ (fun _ => ?_))
      | exact ih0 _ _ _ _ _ _ _ _ _ _ _ _ _ _ _ _ _ _ _ _ _ _ _ _ _
      | exact ih1 _ _ _ _ _ _ _ _ _ _ _ _ _ _ _ _ _ _ _ _ _ _ _ _ _ _
      | exact stair_Want.mono _ _ _ _ _
      | exact track_Want.mono _ _ _ _
      | exact LeO.none _
      | refine LeO.ite ?_ ?_
      | refine LeO.bind ?_ (fun _ => ?_)
    · intro y0 y1 y2 y3 y4 y5 y6 y7 y8 y9 y10 y11 y12 y13 y14 y15 y16 y17 y18 y19 y20 y21 y22 y23 y24 y25
      unfold want_Metric.j0
      repeat' first
      | (with_reducible exact ih0 _ _ _ _ _ _ _ _ _ _ _ _ _ _ _ _ _ _ _ _ _ _ _ _ _)
      | (with_reducible exact ih1 _ _ _ _ _ _ _ _ _ _ _ _ _ _ _ _ _ _ _ _ _ _ _ _ _ _)
      | (with_reducible exact stair_Want.mono _ _ _ _ _)
      | (with_reducible exact track_Want.mono _ _ _ _)
      | (with_reducible exact LeO.refl _)
      | (with_reducible exact LeO.none _)
      | (with_reducible refine LeO.ite ?_ ?_)
      | (with_reducible refine LeO.bind ?_ (fun _ => ?_))
      | exact ih0 _ _ _ _ _ _ _ _ _ _ _ _ _ _ _ _ _ _ _ _ _ _ _ _ _
      | exact ih1 _ _ _ _ _ _ _ _ _ _ _ _ _ _ _ _ _ _ _ _ _ _ _ _ _ _
      | exact stair_Want.mono _ _ _ _ _
      | exact track_Want.mono _ _ _ _
      | exact LeO.none _
      | refine LeO.ite ?_ ?_
      | refine LeO.bind ?_ (fun _ => ?_)
theorem want_Metric.mono : ∀ a0 a1 a2 a3 a4 a5 a6 a7 a8 a9 a10 a11 a12 a13 a14 a15 a16 a17 a18 a19 a20 a21 a22 a23 k, LeO (want_Metric.f k a0 a1 a2 a3 a4 a5 a6 a7 a8 a9 a10 a11 a12 a13 a14 a15 a16 a17 a18 a19 a20 a21 a22 a23) (want_Metric.f (k + 1) a0 a1 a2 a3 a4 a5 a6 a7 a8 a9 a10 a11 a12 a13 a14 a15 a16 a17 a18 a19 a20 a21 a22 a23) := by
  intro a0 a1 a2 a3 a4 a5 a6 a7 a8 a9 a10 a11 a12 a13 a14 a15 a16 a17 a18 a19 a20 a21 a22 a23 k
  obtain ⟨ih0, ih1⟩ := want_Metric.mono_l k
  unfold want_Metric.f
  repeat' first
      | (with_reducible exact ih0 _ _ _ _ _ _ _ _ _ _ _ _ _ _ _ _ _ _ _ _ _ _ _ _ _)
      | (with_reducible exact ih1 _ _ _ _ _ _ _ _ _ _ _ _ _ _ _ _ _ _ _ _ _ _ _ _ _ _)
      | (with_reducible exact stair_Want.mono _ _ _ _ _)
      | (with_reducible exact track_Want.mono _ _ _ _)
      | (with_reducible exact LeO.refl _)
      | (with_reducible exact LeO.none _)
      | (with_reducible refine LeO.ite ?_ ?_)
      | (with_reducible refine LeO.bind ?_ (fun _ => ?_))
      | exact ih0 _ _ _ _ _ _ _ _ _ _ _ _ _ _ _ _ _ _ _ _ _ _ _ _ _
      | exact ih1 _ _ _ _ _ _ _ _ _ _ _ _ _ _ _ _ _ _ _ _ _ _ _ _ _ _
      | exact stair_Want.mono _ _ _ _ _
      | exact track_Want.mono _ _ _ _
      | exact LeO.none _
      | refine LeO.ite ?_ ?_
      | refine LeO.bind ?_ (fun _ => ?_)
set_option maxHeartbeats 8000000 in
set_option maxRecDepth 100000 in
theorem want_Metric.calls (k : Nat) (A0_0 : Option Addr) (c0_0 : Nat) (l0_0 : List (S95)) (a0_1 : Int) (a0_2 : Int) (a0_3 : Bool) (a0_4 : Int) (a0_5 : Int) (a0_6 : Int) (a0_7 : Int) (a0_8 : Int) (a0_9 : Int) (a0_10 : Int) (a0_11 : Int) (a0_12 : Int) (a0_13 : Int) (a0_14 : Int) (a0_15 : Int) (a0_16 : Bool) (a0_17 : Int) (A0_18 : Option Addr) (c0_18 : Nat) (l0_18 : List (S49)) (A0_19 : Option Addr) (c0_19 : Nat) (l0_19 : List (S97)) (a1 : Int) (a2 : Int) (a3 : Int) (a4 : Int) (r1 : Int) (r2 : Int) (r3 : Int) (w : World) (hr0_0 : Kd.C k95 w A0_0 l0_0.length l0_0) (hc0_0 : l0_0.length ≤ c0_0) (hr0_18 : Kd.C k49 w A0_18 l0_18.length l0_18) (hc0_18 : l0_18.length ≤ c0_18) (hr0_19 : Kd.C k97 w A0_19 l0_19.length l0_19) (hc0_19 : l0_19.length ≤ c0_19) (h : want_Metric.f k l0_0 a0_1 a0_2 a0_3 a0_4 a0_5 a0_6 a0_7 a0_8 a0_9 a0_10 a0_11 a0_12 a0_13 a0_14 a0_15 a0_16 a0_17 l0_18 l0_19 a1 a2 a3 a4 = some (r1, r2, r3)) :
    Calls Try.prog 7 #[.agg #[.slice A0_0 l0_0.length c0_0, .int .u8 a0_1, .int .i64 a0_2, .bool a0_3, .int .i64 a0_4, .int .i64 a0_5, .int .i64 a0_6, .int .i64 a0_7, .int .i64 a0_8, .int .i64 a0_9, .int .u64 a0_10, .int .u64 a0_11, .int .u64 a0_12, .int .u64 a0_13, .int .u64 a0_14, .int .u64 a0_15, .bool a0_16, .int .i64 a0_17, .slice A0_18 l0_18.length c0_18, .slice A0_19 l0_19.length c0_19], .int .i64 a1, .int .u64 a2, .int .u64 a3, .int .i64 a4] w fun e w' => e = .returned (.tuple #[.int .i64 r1, .int .u64 r2, .int .i64 r3]) ∧ Below w.heap.size w w' := by
  have hu27 := Try.underlying27
  have HR0_0 := Aside0.mk hr0_0
  have HC0_0 := Aside0.mk hc0_0
  clear hr0_0 hc0_0
  have HR0_18 := Aside0.mk hr0_18
  have HC0_18 := Aside0.mk hc0_18
  clear hr0_18 hc0_18
  have HR0_19 := Aside0.mk hr0_19
  have HC0_19 := Aside0.mk hc0_19
  clear hr0_19 hc0_19
  have HB := Aside0.mk (Below.refl w.heap.size w)
  have H : ((want_may.f l0_0 a0_1 a0_2 a0_3 a0_4 a0_5 a0_6 a0_7 a0_8 a0_9 a0_10 a0_11 a0_12 a0_13 a0_14 a0_15 a0_16 a0_17 l0_18 l0_19 a1 a2 a3 a4).bind fun t120 => (if t120 = true then (if a0_17 = 0 then (want_Metric.j0 k a1 a3 a4 a1 a2 true l0_0 a0_1 a0_2 a0_3 a0_4 a0_5 a0_6 a0_7 a0_8 a0_9 a0_10 a0_11 a0_12 a0_13 a0_14 a0_15 a0_16 a0_17 l0_18 l0_19) else (want_Metric.j0 k a1 a3 a4 a1 a2 (decide (a3 < a2)) l0_0 a0_1 a0_2 a0_3 a0_4 a0_5 a0_6 a0_7 a0_8 a0_9 a0_10 a0_11 a0_12 a0_13 a0_14 a0_15 a0_16 a0_17 l0_18 l0_19)) else (some (0, 0, 2)))) = some (r1, r2, r3) := h
  clear h
  replace H := Option.bind_eq_some_iff.mp H
  obtain ⟨t120, A60, H⟩ := H
  replace H : (if t120 = true then (if a0_17 = 0 then (want_Metric.j0 k a1 a3 a4 a1 a2 true l0_0 a0_1 a0_2 a0_3 a0_4 a0_5 a0_6 a0_7 a0_8 a0_9 a0_10 a0_11 a0_12 a0_13 a0_14 a0_15 a0_16 a0_17 l0_18 l0_19) else (want_Metric.j0 k a1 a3 a4 a1 a2 (decide (a3 < a2)) l0_0 a0_1 a0_2 a0_3 a0_4 a0_5 a0_6 a0_7 a0_8 a0_9 a0_10 a0_11 a0_12 a0_13 a0_14 a0_15 a0_16 a0_17 l0_18 l0_19)) else (some (0, 0, 2))) = some (r1, r2, r3) := H
  have A6 := Aside0.mk A60
  clear A60
  by_cases c7 : t120 = true
  · subst c7
    have H1 : (if a0_17 = 0 then (want_Metric.j0 k a1 a3 a4 a1 a2 true l0_0 a0_1 a0_2 a0_3 a0_4 a0_5 a0_6 a0_7 a0_8 a0_9 a0_10 a0_11 a0_12 a0_13 a0_14 a0_15 a0_16 a0_17 l0_18 l0_19) else (want_Metric.j0 k a1 a3 a4 a1 a2 (decide (a3 < a2)) l0_0 a0_1 a0_2 a0_3 a0_4 a0_5 a0_6 a0_7 a0_8 a0_9 a0_10 a0_11 a0_12 a0_13 a0_14 a0_15 a0_16 a0_17 l0_18 l0_19)) = some (r1, r2, r3) := by rw [if_pos rfl] at H; exact H
    clear H
    have H := H1
    clear H1
    have HC8 := Aside0.mk H
    clear H
    go_enter Try.func7, Try.ntmps7
    go_upto_block 3 with (first | (refine wpList_load_row rfl 27 (.tmp 5) rfl gb119 rfl 27 _ (0, 0) _ BK119.out Try.underlying27 rfl (by kernel_rfl) ?_) | ((with_reducible refine gate_dst (N := 5) rfl ?_); refine box_event ?hg (N := 5) ?hd (cs := #[.slice A0_0 l0_0.length c0_0, .int .u8 a0_1, .int .i64 a0_2, .bool a0_3, .int .i64 a0_4, .int .i64 a0_5, .int .i64 a0_6, .int .i64 a0_7, .int .i64 a0_8, .int .i64 a0_9, .int .u64 a0_10, .int .u64 a0_11, .int .u64 a0_12, .int .u64 a0_13, .int .u64 a0_14, .int .u64 a0_15, .bool a0_16, .int .i64 a0_17, .slice A0_18 l0_18.length c0_18, .slice A0_19 l0_19.length c0_19]) (t := 27) ?hr ?_; (case hd => rfl); (case hg => rfl); (case hr => first | (go_simp; done) | (go_simp; rfl)); intro gb119 hg w9 hbox hb; have n0_ := Aside0.mk (below_step (by repeat (first | (with_reducible first | exact HB.out | apply below_alloc | apply pw_below_drewN | apply below_drew1) | exact HB.out)) hb); have n1_ := Aside0.mk (hbox); have n2_ := Aside0.mk ((by rw [hg]; exact (below_size (by repeat (first | (with_reducible first | exact HB.out | apply below_alloc | apply pw_below_drewN | apply below_drew1) | exact HB.out))) : w.heap.size ≤ gb119)); have n3_ := Aside0.mk ((by rw [hg]; exact (below_size (by repeat (first | (with_reducible first | exact HB.out | apply below_alloc | apply pw_below_drewN | apply below_drew1) | exact HB.out))) : w.heap.size ≤ gb119)); clear HB; have HB := n0_; have BK119 := n1_; have GW119 := n2_; have GE119 := n3_; clear n0_ n1_ n2_ n3_; clear hb hbox hg; have hcz10_0 : w9.cell? ⟨gb119, 0, none⟩ = some (.slice A0_0 l0_0.length c0_0) := (blk_cell BK119.out 0).trans rfl; have hcz10_1 : w9.cell? ⟨gb119, 1, none⟩ = some (.int .u8 a0_1) := (blk_cell BK119.out 1).trans rfl; have hcz10_2 : w9.cell? ⟨gb119, 2, none⟩ = some (.int .i64 a0_2) := (blk_cell BK119.out 2).trans rfl; have hcz10_3 : w9.cell? ⟨gb119, 3, none⟩ = some (.bool a0_3) := (blk_cell BK119.out 3).trans rfl; have hcz10_4 : w9.cell? ⟨gb119, 4, none⟩ = some (.int .i64 a0_4) := (blk_cell BK119.out 4).trans rfl; have hcz10_5 : w9.cell? ⟨gb119, 5, none⟩ = some (.int .i64 a0_5) := (blk_cell BK119.out 5).trans rfl; have hcz10_6 : w9.cell? ⟨gb119, 6, none⟩ = some (.int .i64 a0_6) := (blk_cell BK119.out 6).trans rfl; have hcz10_7 : w9.cell? ⟨gb119, 7, none⟩ = some (.int .i64 a0_7) := (blk_cell BK119.out 7).trans rfl; have hcz10_8 : w9.cell? ⟨gb119, 8, none⟩ = some (.int .i64 a0_8) := (blk_cell BK119.out 8).trans rfl; have hcz10_9 : w9.cell? ⟨gb119, 9, none⟩ = some (.int .i64 a0_9) := (blk_cell BK119.out 9).trans rfl; have hcz10_10 : w9.cell? ⟨gb119, 10, none⟩ = some (.int .u64 a0_10) := (blk_cell BK119.out 10).trans rfl; have hcz10_11 : w9.cell? ⟨gb119, 11, none⟩ = some (.int .u64 a0_11) := (blk_cell BK119.out 11).trans rfl; have hcz10_12 : w9.cell? ⟨gb119, 12, none⟩ = some (.int .u64 a0_12) := (blk_cell BK119.out 12).trans rfl; have hcz10_13 : w9.cell? ⟨gb119, 13, none⟩ = some (.int .u64 a0_13) := (blk_cell BK119.out 13).trans rfl; have hcz10_14 : w9.cell? ⟨gb119, 14, none⟩ = some (.int .u64 a0_14) := (blk_cell BK119.out 14).trans rfl; have hcz10_15 : w9.cell? ⟨gb119, 15, none⟩ = some (.int .u64 a0_15) := (blk_cell BK119.out 15).trans rfl; have hcz10_16 : w9.cell? ⟨gb119, 16, none⟩ = some (.bool a0_16) := (blk_cell BK119.out 16).trans rfl; have hcz10_17 : w9.cell? ⟨gb119, 17, none⟩ = some (.int .i64 a0_17) := (blk_cell BK119.out 17).trans rfl; have hcz10_18 : w9.cell? ⟨gb119, 18, none⟩ = some (.slice A0_18 l0_18.length c0_18) := (blk_cell BK119.out 18).trans rfl; have hcz10_19 : w9.cell? ⟨gb119, 19, none⟩ = some (.slice A0_19 l0_19.length c0_19) := (blk_cell BK119.out 19).trans rfl; have hfz10_0 := blk_frozen BK119.out 0; have hfz10_1 := blk_frozen BK119.out 1; have hfz10_2 := blk_frozen BK119.out 2; have hfz10_3 := blk_frozen BK119.out 3; have hfz10_4 := blk_frozen BK119.out 4; have hfz10_5 := blk_frozen BK119.out 5; have hfz10_6 := blk_frozen BK119.out 6; have hfz10_7 := blk_frozen BK119.out 7; have hfz10_8 := blk_frozen BK119.out 8; have hfz10_9 := blk_frozen BK119.out 9; have hfz10_10 := blk_frozen BK119.out 10; have hfz10_11 := blk_frozen BK119.out 11; have hfz10_12 := blk_frozen BK119.out 12; have hfz10_13 := blk_frozen BK119.out 13; have hfz10_14 := blk_frozen BK119.out 14; have hfz10_15 := blk_frozen BK119.out 15; have hfz10_16 := blk_frozen BK119.out 16; have hfz10_17 := blk_frozen BK119.out 17; have hfz10_18 := blk_frozen BK119.out 18; have hfz10_19 := blk_frozen BK119.out 19) | ((with_reducible refine gate_callee (f := 10) rfl ?_); refine goesL_ (some 18) rfl rfl Try.func10 (by kernel_rfl) rfl #[.agg #[.slice A0_0 l0_0.length c0_0, .int .u8 a0_1, .int .i64 a0_2, .bool a0_3, .int .i64 a0_4, .int .i64 a0_5, .int .i64 a0_6, .int .i64 a0_7, .int .i64 a0_8, .int .i64 a0_9, .int .u64 a0_10, .int .u64 a0_11, .int .u64 a0_12, .int .u64 a0_13, .int .u64 a0_14, .int .u64 a0_15, .bool a0_16, .int .i64 a0_17, .slice A0_18 l0_18.length c0_18, .slice A0_19 l0_19.length c0_19], .int .i64 a1, .int .u64 a2, .int .u64 a3, .int .i64 a4] rfl (by (try simp only [List.map_toArray, List.map_cons, List.map_nil]); first | done | rfl | (simp only [List.length_drop, List.length_take]; rfl)) ?_; (with_reducible refine (want_may.calls _ _ l0_0 a0_1 a0_2 a0_3 a0_4 a0_5 a0_6 a0_7 a0_8 a0_9 a0_10 a0_11 a0_12 a0_13 a0_14 a0_15 a0_16 a0_17 _ _ l0_18 _ _ l0_19 a1 a2 a3 a4 true _ ?side1 ?side2 ?side3 ?side4 ?side5 ?side6 A6.out).mono ?_); (case side1 => repeat (first | exact (Kd.C_below HR0_0.out HB.out) | (with_reducible refine Kd.C_alloc ?_ _) | (with_reducible refine Kd.C_drewN ?_ _) | (with_reducible refine Kd.C_drew ?_))); (case side2 => exact HC0_0.out); (case side3 => repeat (first | exact (Kd.C_below HR0_18.out HB.out) | (with_reducible refine Kd.C_alloc ?_ _) | (with_reducible refine Kd.C_drewN ?_ _) | (with_reducible refine Kd.C_drew ?_))); (case side4 => exact HC0_18.out); (case side5 => repeat (first | exact (Kd.C_below HR0_19.out HB.out) | (with_reducible refine Kd.C_alloc ?_ _) | (with_reducible refine Kd.C_drewN ?_ _) | (with_reducible refine Kd.C_drew ?_))); (case side6 => exact HC0_19.out); rintro e w11 ⟨rfl, hb⟩; refine ⟨_, rfl, ?_⟩; have n0_ := Aside0.mk (blk_below (g := gb119) (o := .cells #[.slice A0_0 l0_0.length c0_0, .int .u8 a0_1, .int .i64 a0_2, .bool a0_3, .int .i64 a0_4, .int .i64 a0_5, .int .i64 a0_6, .int .i64 a0_7, .int .i64 a0_8, .int .i64 a0_9, .int .u64 a0_10, .int .u64 a0_11, .int .u64 a0_12, .int .u64 a0_13, .int .u64 a0_14, .int .u64 a0_15, .bool a0_16, .int .i64 a0_17, .slice A0_18 l0_18.length c0_18, .slice A0_19 l0_19.length c0_19] 27 (0, 0)) (by (with_reducible repeat (first | refine blk_drewN ?_ _ | refine blk_drew ?_ | refine blk_alloc ?_ _)); exact BK119.out) hb); have n1_ := Aside0.mk (below_step (by repeat (first | (with_reducible first | exact HB.out | apply below_alloc | apply pw_below_drewN | apply below_drew1 | refine below_set ?_ GE119.out) | exact HB.out)) hb); clear BK119; clear HB; have BK119 := n0_; have HB := n1_; clear n0_ n1_; (try clear hb); (try clear hb2); (try clear hk); (try clear hi)))
    (try simp only [Act.put, List.setIfInBounds_toArray, List.set_cons_zero, List.set_cons_succ])
    go_cut [10, 11] (fun v10 v11 wc => ∃ (kq : Nat) (x10_7 : Int) (x11_7 : Int), v10 = .int .i64 x10_7 ∧ v11 = .int .u64 x11_7 ∧ Aside0 (want_Metric.j1 kq a1 a3 a4 x10_7 x11_7 l0_0 a0_1 a0_2 a0_3 a0_4 a0_5 a0_6 a0_7 a0_8 a0_9 a0_10 a0_11 a0_12 a0_13 a0_14 a0_15 a0_16 a0_17 l0_18 l0_19 = some (r1, r2, r3)) ∧ Aside0 (kq ≤ k) ∧ Aside0 (wc.heap[gb119]? = some (.cells #[(.slice A0_0 l0_0.length c0_0), .int .u8 a0_1, .int .i64 a0_2, .bool a0_3, .int .i64 a0_4, .int .i64 a0_5, .int .i64 a0_6, .int .i64 a0_7, .int .i64 a0_8, .int .i64 a0_9, .int .u64 a0_10, .int .u64 a0_11, .int .u64 a0_12, .int .u64 a0_13, .int .u64 a0_14, .int .u64 a0_15, .bool a0_16, .int .i64 a0_17, (.slice A0_18 l0_18.length c0_18), (.slice A0_19 l0_19.length c0_19)] 27 (0, 0))) ∧ Aside0 (Below w.heap.size w wc))
    case first =>
      have H := HC8.out
      clear HC8
      have HC12 := Aside0.mk H
      clear H
      go_upto_region 4 with (fail)
      go_cut [22] (fun v22 wc => ∃ (kq : Nat) (x22_11 : Bool), v22 = .bool x22_11 ∧ Aside0 (want_Metric.j0 kq a1 a3 a4 a1 a2 x22_11 l0_0 a0_1 a0_2 a0_3 a0_4 a0_5 a0_6 a0_7 a0_8 a0_9 a0_10 a0_11 a0_12 a0_13 a0_14 a0_15 a0_16 a0_17 l0_18 l0_19 = some (r1, r2, r3)) ∧ Aside0 (kq ≤ k) ∧ Aside0 (wc.heap[gb119]? = some (.cells #[(.slice A0_0 l0_0.length c0_0), .int .u8 a0_1, .int .i64 a0_2, .bool a0_3, .int .i64 a0_4, .int .i64 a0_5, .int .i64 a0_6, .int .i64 a0_7, .int .i64 a0_8, .int .i64 a0_9, .int .u64 a0_10, .int .u64 a0_11, .int .u64 a0_12, .int .u64 a0_13, .int .u64 a0_14, .int .u64 a0_15, .bool a0_16, .int .i64 a0_17, (.slice A0_18 l0_18.length c0_18), (.slice A0_19 l0_19.length c0_19)] 27 (0, 0))) ∧ Aside0 (Below w.heap.size w wc))
      case first =>
        have H := HC12.out
        clear HC12
        by_cases c13 : a0_17 = 0
        · rw [if_pos c13] at H
          have c13b0 : (a0_17 == 0) = true := beq_iff_eq.mpr c13
          have c13b1 : (a0_17 != 0) = false := bne_eq_false_iff_eq.mpr c13
          clear c13
          (first | rw [c13b0] | (simp only [i64_w, i32_w]; rw [c13b0]) | skip)
          have H' := Aside0.mk H
          clear H
          have hcz14_0 : w11.cell? ⟨gb119, 0, none⟩ = some (.slice A0_0 l0_0.length c0_0) := (blk_cell BK119.out 0).trans rfl
          have hcz14_1 : w11.cell? ⟨gb119, 1, none⟩ = some (.int .u8 a0_1) := (blk_cell BK119.out 1).trans rfl
          have hcz14_2 : w11.cell? ⟨gb119, 2, none⟩ = some (.int .i64 a0_2) := (blk_cell BK119.out 2).trans rfl
          have hcz14_3 : w11.cell? ⟨gb119, 3, none⟩ = some (.bool a0_3) := (blk_cell BK119.out 3).trans rfl
          have hcz14_4 : w11.cell? ⟨gb119, 4, none⟩ = some (.int .i64 a0_4) := (blk_cell BK119.out 4).trans rfl
          have hcz14_5 : w11.cell? ⟨gb119, 5, none⟩ = some (.int .i64 a0_5) := (blk_cell BK119.out 5).trans rfl
          have hcz14_6 : w11.cell? ⟨gb119, 6, none⟩ = some (.int .i64 a0_6) := (blk_cell BK119.out 6).trans rfl
          have hcz14_7 : w11.cell? ⟨gb119, 7, none⟩ = some (.int .i64 a0_7) := (blk_cell BK119.out 7).trans rfl
          have hcz14_8 : w11.cell? ⟨gb119, 8, none⟩ = some (.int .i64 a0_8) := (blk_cell BK119.out 8).trans rfl
          have hcz14_9 : w11.cell? ⟨gb119, 9, none⟩ = some (.int .i64 a0_9) := (blk_cell BK119.out 9).trans rfl
          have hcz14_10 : w11.cell? ⟨gb119, 10, none⟩ = some (.int .u64 a0_10) := (blk_cell BK119.out 10).trans rfl
          have hcz14_11 : w11.cell? ⟨gb119, 11, none⟩ = some (.int .u64 a0_11) := (blk_cell BK119.out 11).trans rfl
          have hcz14_12 : w11.cell? ⟨gb119, 12, none⟩ = some (.int .u64 a0_12) := (blk_cell BK119.out 12).trans rfl
          have hcz14_13 : w11.cell? ⟨gb119, 13, none⟩ = some (.int .u64 a0_13) := (blk_cell BK119.out 13).trans rfl
          have hcz14_14 : w11.cell? ⟨gb119, 14, none⟩ = some (.int .u64 a0_14) := (blk_cell BK119.out 14).trans rfl
          have hcz14_15 : w11.cell? ⟨gb119, 15, none⟩ = some (.int .u64 a0_15) := (blk_cell BK119.out 15).trans rfl
          have hcz14_16 : w11.cell? ⟨gb119, 16, none⟩ = some (.bool a0_16) := (blk_cell BK119.out 16).trans rfl
          have hcz14_17 : w11.cell? ⟨gb119, 17, none⟩ = some (.int .i64 a0_17) := (blk_cell BK119.out 17).trans rfl
          have hcz14_18 : w11.cell? ⟨gb119, 18, none⟩ = some (.slice A0_18 l0_18.length c0_18) := (blk_cell BK119.out 18).trans rfl
          have hcz14_19 : w11.cell? ⟨gb119, 19, none⟩ = some (.slice A0_19 l0_19.length c0_19) := (blk_cell BK119.out 19).trans rfl
          have hfz14_0 := blk_frozen BK119.out 0
          have hfz14_1 := blk_frozen BK119.out 1
          have hfz14_2 := blk_frozen BK119.out 2
          have hfz14_3 := blk_frozen BK119.out 3
          have hfz14_4 := blk_frozen BK119.out 4
          have hfz14_5 := blk_frozen BK119.out 5
          have hfz14_6 := blk_frozen BK119.out 6
          have hfz14_7 := blk_frozen BK119.out 7
          have hfz14_8 := blk_frozen BK119.out 8
          have hfz14_9 := blk_frozen BK119.out 9
          have hfz14_10 := blk_frozen BK119.out 10
          have hfz14_11 := blk_frozen BK119.out 11
          have hfz14_12 := blk_frozen BK119.out 12
          have hfz14_13 := blk_frozen BK119.out 13
          have hfz14_14 := blk_frozen BK119.out 14
          have hfz14_15 := blk_frozen BK119.out 15
          have hfz14_16 := blk_frozen BK119.out 16
          have hfz14_17 := blk_frozen BK119.out 17
          have hfz14_18 := blk_frozen BK119.out 18
          have hfz14_19 := blk_frozen BK119.out 19
          go_wp2
          go_meet
          case rel => exact ⟨_, (true), (by first | rfl | (simp; done) | (simp [*]; done)), H', ⟨by first | omega | exact Nat.le_refl _⟩, ⟨by (with_reducible repeat (first | refine blk_drewN ?_ _ | refine blk_drew ?_ | refine blk_alloc ?_ _)); exact BK119.out⟩, ⟨by repeat (first | (with_reducible first | exact HB.out | apply below_alloc | apply pw_below_drewN | apply below_drew1 | refine below_set ?_ GE119.out) | exact HB.out)⟩⟩
        · rw [if_neg c13] at H
          have c13b0 : (a0_17 == 0) = false := beq_eq_false_iff_ne.mpr c13
          have c13b1 : (a0_17 != 0) = true := bne_iff_ne.mpr c13
          (first | rw [c13b0] | (simp only [i64_w, i32_w]; rw [c13b0]) | skip)
          have H' := Aside0.mk H
          clear H
          have hcz15_0 : w11.cell? ⟨gb119, 0, none⟩ = some (.slice A0_0 l0_0.length c0_0) := (blk_cell BK119.out 0).trans rfl
          have hcz15_1 : w11.cell? ⟨gb119, 1, none⟩ = some (.int .u8 a0_1) := (blk_cell BK119.out 1).trans rfl
          have hcz15_2 : w11.cell? ⟨gb119, 2, none⟩ = some (.int .i64 a0_2) := (blk_cell BK119.out 2).trans rfl
          have hcz15_3 : w11.cell? ⟨gb119, 3, none⟩ = some (.bool a0_3) := (blk_cell BK119.out 3).trans rfl
          have hcz15_4 : w11.cell? ⟨gb119, 4, none⟩ = some (.int .i64 a0_4) := (blk_cell BK119.out 4).trans rfl
          have hcz15_5 : w11.cell? ⟨gb119, 5, none⟩ = some (.int .i64 a0_5) := (blk_cell BK119.out 5).trans rfl
          have hcz15_6 : w11.cell? ⟨gb119, 6, none⟩ = some (.int .i64 a0_6) := (blk_cell BK119.out 6).trans rfl
          have hcz15_7 : w11.cell? ⟨gb119, 7, none⟩ = some (.int .i64 a0_7) := (blk_cell BK119.out 7).trans rfl
          have hcz15_8 : w11.cell? ⟨gb119, 8, none⟩ = some (.int .i64 a0_8) := (blk_cell BK119.out 8).trans rfl
          have hcz15_9 : w11.cell? ⟨gb119, 9, none⟩ = some (.int .i64 a0_9) := (blk_cell BK119.out 9).trans rfl
          have hcz15_10 : w11.cell? ⟨gb119, 10, none⟩ = some (.int .u64 a0_10) := (blk_cell BK119.out 10).trans rfl
          have hcz15_11 : w11.cell? ⟨gb119, 11, none⟩ = some (.int .u64 a0_11) := (blk_cell BK119.out 11).trans rfl
          have hcz15_12 : w11.cell? ⟨gb119, 12, none⟩ = some (.int .u64 a0_12) := (blk_cell BK119.out 12).trans rfl
          have hcz15_13 : w11.cell? ⟨gb119, 13, none⟩ = some (.int .u64 a0_13) := (blk_cell BK119.out 13).trans rfl
          have hcz15_14 : w11.cell? ⟨gb119, 14, none⟩ = some (.int .u64 a0_14) := (blk_cell BK119.out 14).trans rfl
          have hcz15_15 : w11.cell? ⟨gb119, 15, none⟩ = some (.int .u64 a0_15) := (blk_cell BK119.out 15).trans rfl
          have hcz15_16 : w11.cell? ⟨gb119, 16, none⟩ = some (.bool a0_16) := (blk_cell BK119.out 16).trans rfl
          have hcz15_17 : w11.cell? ⟨gb119, 17, none⟩ = some (.int .i64 a0_17) := (blk_cell BK119.out 17).trans rfl
          have hcz15_18 : w11.cell? ⟨gb119, 18, none⟩ = some (.slice A0_18 l0_18.length c0_18) := (blk_cell BK119.out 18).trans rfl
          have hcz15_19 : w11.cell? ⟨gb119, 19, none⟩ = some (.slice A0_19 l0_19.length c0_19) := (blk_cell BK119.out 19).trans rfl
          have hfz15_0 := blk_frozen BK119.out 0
          have hfz15_1 := blk_frozen BK119.out 1
          have hfz15_2 := blk_frozen BK119.out 2
          have hfz15_3 := blk_frozen BK119.out 3
          have hfz15_4 := blk_frozen BK119.out 4
          have hfz15_5 := blk_frozen BK119.out 5
          have hfz15_6 := blk_frozen BK119.out 6
          have hfz15_7 := blk_frozen BK119.out 7
          have hfz15_8 := blk_frozen BK119.out 8
          have hfz15_9 := blk_frozen BK119.out 9
          have hfz15_10 := blk_frozen BK119.out 10
          have hfz15_11 := blk_frozen BK119.out 11
          have hfz15_12 := blk_frozen BK119.out 12
          have hfz15_13 := blk_frozen BK119.out 13
          have hfz15_14 := blk_frozen BK119.out 14
          have hfz15_15 := blk_frozen BK119.out 15
          have hfz15_16 := blk_frozen BK119.out 16
          have hfz15_17 := blk_frozen BK119.out 17
          have hfz15_18 := blk_frozen BK119.out 18
          have hfz15_19 := blk_frozen BK119.out 19
          go_wp2
          go_meet
          case rel => exact ⟨_, (decide (a3 < a2)), (by first | rfl | (simp; done) | (simp [*]; done)), H', ⟨by first | omega | exact Nat.le_refl _⟩, ⟨by (with_reducible repeat (first | refine blk_drewN ?_ _ | refine blk_drew ?_ | refine blk_alloc ?_ _)); exact BK119.out⟩, ⟨by repeat (first | (with_reducible first | exact HB.out | apply below_alloc | apply pw_below_drewN | apply below_drew1 | refine below_set ?_ GE119.out) | exact HB.out)⟩⟩
      case rest =>
        clear HC12
        try clear c1
        try clear p2
        try clear c7
        try clear c10
        try clear c13
        try clear c13b0
        try clear c13b1
        try clear hcz10_0
        try clear hcz10_1
        try clear hcz10_10
        try clear hcz10_11
        try clear hcz10_12
        try clear hcz10_13
        try clear hcz10_14
        try clear hcz10_15
        try clear hcz10_16
        try clear hcz10_17
        try clear hcz10_18
        try clear hcz10_19
        try clear hcz10_2
        try clear hcz10_3
        try clear hcz10_4
        try clear hcz10_5
        try clear hcz10_6
        try clear hcz10_7
        try clear hcz10_8
        try clear hcz10_9
        try clear hcz14_0
        try clear hcz14_1
        try clear hcz14_10
        try clear hcz14_11
        try clear hcz14_12
        try clear hcz14_13
        try clear hcz14_14
        try clear hcz14_15
        try clear hcz14_16
        try clear hcz14_17
        try clear hcz14_18
        try clear hcz14_19
        try clear hcz14_2
        try clear hcz14_3
        try clear hcz14_4
        try clear hcz14_5
        try clear hcz14_6
        try clear hcz14_7
        try clear hcz14_8
        try clear hcz14_9
        try clear hcz15_0
        try clear hcz15_1
        try clear hcz15_10
        try clear hcz15_11
        try clear hcz15_12
        try clear hcz15_13
        try clear hcz15_14
        try clear hcz15_15
        try clear hcz15_16
        try clear hcz15_17
        try clear hcz15_18
        try clear hcz15_19
        try clear hcz15_2
        try clear hcz15_3
        try clear hcz15_4
        try clear hcz15_5
        try clear hcz15_6
        try clear hcz15_7
        try clear hcz15_8
        try clear hcz15_9
        try clear hfz10_0
        try clear hfz10_1
        try clear hfz10_10
        try clear hfz10_11
        try clear hfz10_12
        try clear hfz10_13
        try clear hfz10_14
        try clear hfz10_15
        try clear hfz10_16
        try clear hfz10_17
        try clear hfz10_18
        try clear hfz10_19
        try clear hfz10_2
        try clear hfz10_3
        try clear hfz10_4
        try clear hfz10_5
        try clear hfz10_6
        try clear hfz10_7
        try clear hfz10_8
        try clear hfz10_9
        try clear hfz14_0
        try clear hfz14_1
        try clear hfz14_10
        try clear hfz14_11
        try clear hfz14_12
        try clear hfz14_13
        try clear hfz14_14
        try clear hfz14_15
        try clear hfz14_16
        try clear hfz14_17
        try clear hfz14_18
        try clear hfz14_19
        try clear hfz14_2
        try clear hfz14_3
        try clear hfz14_4
        try clear hfz14_5
        try clear hfz14_6
        try clear hfz14_7
        try clear hfz14_8
        try clear hfz14_9
        try clear hfz15_0
        try clear hfz15_1
        try clear hfz15_10
        try clear hfz15_11
        try clear hfz15_12
        try clear hfz15_13
        try clear hfz15_14
        try clear hfz15_15
        try clear hfz15_16
        try clear hfz15_17
        try clear hfz15_18
        try clear hfz15_19
        try clear hfz15_2
        try clear hfz15_3
        try clear hfz15_4
        try clear hfz15_5
        try clear hfz15_6
        try clear hfz15_7
        try clear hfz15_8
        try clear hfz15_9
        obtain ⟨kq, x22_11, rfl, HA, HJ11, BK119, HB⟩ := hcut
        cases kq with
        | zero => exact absurd HA.out (by simp [want_Metric.j0])
        | succ kj11 =>
          have H := HA.out
          clear HA
          simp only [want_Metric.j0] at H
          by_cases c16 : x22_11 = true
          · subst c16
            have H1 : (some (a1, a2, 0)) = some (r1, r2, r3) := by rw [if_pos rfl] at H; exact H
            clear H
            have H := H1
            clear H1
            simp only [Option.some.injEq, Prod.mk.injEq] at H
            obtain ⟨rfl, rfl, rfl⟩ := H
            go_wp2
            go_ret3
            exact ⟨by first | rfl | (simp [errW_none, errW_some] <;> rfl) | (simp [*, errW_none, errW_some] <;> rfl), by repeat (first | (with_reducible first | exact HB.out | apply below_alloc | apply pw_below_drewN | apply below_drew1 | refine below_set ?_ GE119.out) | exact HB.out)⟩
          · replace c16 := Bool.eq_false_iff.mpr c16
            subst c16
            have H1 : (if (l0_18.length : Int) > 0 then ((stair_Want.f kj11 l0_18 a1 a4 a0_17).bind fun bt121 => (if bt121.2 = 0 then (want_Metric.j1 kj11 a1 a3 a4 bt121.1 a2 l0_0 a0_1 a0_2 a0_3 a0_4 a0_5 a0_6 a0_7 a0_8 a0_9 a0_10 a0_11 a0_12 a0_13 a0_14 a0_15 a0_16 a0_17 l0_18 l0_19) else (some (0, 0, bt121.2)))) else (want_Metric.j1 kj11 a1 a3 a4 a1 a2 l0_0 a0_1 a0_2 a0_3 a0_4 a0_5 a0_6 a0_7 a0_8 a0_9 a0_10 a0_11 a0_12 a0_13 a0_14 a0_15 a0_16 a0_17 l0_18 l0_19)) = some (r1, r2, r3) := by rw [if_neg (show ¬ (false = true) by decide)] at H; exact H
            clear H
            have H := H1
            clear H1
            by_cases c17 : (l0_18.length : Int) > 0
            · rw [if_pos c17] at H
              have c17b0 : decide (0 < (l0_18.length : Int)) = true := decide_eq_true c17
              have c17b1 : decide (0 < l0_18.length) = true := decide_eq_true (by omega)
              clear c17
              replace H := Option.bind_eq_some_iff.mp H
              obtain ⟨⟨t121, t122⟩, A180, H⟩ := H
              replace H : (if t122 = 0 then (want_Metric.j1 kj11 a1 a3 a4 t121 a2 l0_0 a0_1 a0_2 a0_3 a0_4 a0_5 a0_6 a0_7 a0_8 a0_9 a0_10 a0_11 a0_12 a0_13 a0_14 a0_15 a0_16 a0_17 l0_18 l0_19) else (some (0, 0, t122))) = some (r1, r2, r3) := H
              have A18 := Aside0.mk A180
              clear A180
              by_cases c19 : t122 = 0
              · rw [if_pos c19] at H
                have c19b0 : (t122 == 0) = true := beq_iff_eq.mpr c19
                have c19b1 : (t122 != 0) = false := bne_eq_false_iff_eq.mpr c19
                clear c19
                have H' := Aside0.mk H
                clear H
                have hcz20_0 : wc.cell? ⟨gb119, 0, none⟩ = some (.slice A0_0 l0_0.length c0_0) := (blk_cell BK119.out 0).trans rfl
                have hcz20_1 : wc.cell? ⟨gb119, 1, none⟩ = some (.int .u8 a0_1) := (blk_cell BK119.out 1).trans rfl
                have hcz20_2 : wc.cell? ⟨gb119, 2, none⟩ = some (.int .i64 a0_2) := (blk_cell BK119.out 2).trans rfl
                have hcz20_3 : wc.cell? ⟨gb119, 3, none⟩ = some (.bool a0_3) := (blk_cell BK119.out 3).trans rfl
                have hcz20_4 : wc.cell? ⟨gb119, 4, none⟩ = some (.int .i64 a0_4) := (blk_cell BK119.out 4).trans rfl
                have hcz20_5 : wc.cell? ⟨gb119, 5, none⟩ = some (.int .i64 a0_5) := (blk_cell BK119.out 5).trans rfl
                have hcz20_6 : wc.cell? ⟨gb119, 6, none⟩ = some (.int .i64 a0_6) := (blk_cell BK119.out 6).trans rfl
                have hcz20_7 : wc.cell? ⟨gb119, 7, none⟩ = some (.int .i64 a0_7) := (blk_cell BK119.out 7).trans rfl
                have hcz20_8 : wc.cell? ⟨gb119, 8, none⟩ = some (.int .i64 a0_8) := (blk_cell BK119.out 8).trans rfl
                have hcz20_9 : wc.cell? ⟨gb119, 9, none⟩ = some (.int .i64 a0_9) := (blk_cell BK119.out 9).trans rfl
                have hcz20_10 : wc.cell? ⟨gb119, 10, none⟩ = some (.int .u64 a0_10) := (blk_cell BK119.out 10).trans rfl
                have hcz20_11 : wc.cell? ⟨gb119, 11, none⟩ = some (.int .u64 a0_11) := (blk_cell BK119.out 11).trans rfl
                have hcz20_12 : wc.cell? ⟨gb119, 12, none⟩ = some (.int .u64 a0_12) := (blk_cell BK119.out 12).trans rfl
                have hcz20_13 : wc.cell? ⟨gb119, 13, none⟩ = some (.int .u64 a0_13) := (blk_cell BK119.out 13).trans rfl
                have hcz20_14 : wc.cell? ⟨gb119, 14, none⟩ = some (.int .u64 a0_14) := (blk_cell BK119.out 14).trans rfl
                have hcz20_15 : wc.cell? ⟨gb119, 15, none⟩ = some (.int .u64 a0_15) := (blk_cell BK119.out 15).trans rfl
                have hcz20_16 : wc.cell? ⟨gb119, 16, none⟩ = some (.bool a0_16) := (blk_cell BK119.out 16).trans rfl
                have hcz20_17 : wc.cell? ⟨gb119, 17, none⟩ = some (.int .i64 a0_17) := (blk_cell BK119.out 17).trans rfl
                have hcz20_18 : wc.cell? ⟨gb119, 18, none⟩ = some (.slice A0_18 l0_18.length c0_18) := (blk_cell BK119.out 18).trans rfl
                have hcz20_19 : wc.cell? ⟨gb119, 19, none⟩ = some (.slice A0_19 l0_19.length c0_19) := (blk_cell BK119.out 19).trans rfl
                have hfz20_0 := blk_frozen BK119.out 0
                have hfz20_1 := blk_frozen BK119.out 1
                have hfz20_2 := blk_frozen BK119.out 2
                have hfz20_3 := blk_frozen BK119.out 3
                have hfz20_4 := blk_frozen BK119.out 4
                have hfz20_5 := blk_frozen BK119.out 5
                have hfz20_6 := blk_frozen BK119.out 6
                have hfz20_7 := blk_frozen BK119.out 7
                have hfz20_8 := blk_frozen BK119.out 8
                have hfz20_9 := blk_frozen BK119.out 9
                have hfz20_10 := blk_frozen BK119.out 10
                have hfz20_11 := blk_frozen BK119.out 11
                have hfz20_12 := blk_frozen BK119.out 12
                have hfz20_13 := blk_frozen BK119.out 13
                have hfz20_14 := blk_frozen BK119.out 14
                have hfz20_15 := blk_frozen BK119.out 15
                have hfz20_16 := blk_frozen BK119.out 16
                have hfz20_17 := blk_frozen BK119.out 17
                have hfz20_18 := blk_frozen BK119.out 18
                have hfz20_19 := blk_frozen BK119.out 19
                go_wp2_with (first | (refine wpList_load_row rfl 27 (.tmp 5) rfl gb119 rfl 27 _ (0, 0) _ BK119.out Try.underlying27 rfl (by kernel_rfl) ?_) | ((with_reducible refine gate_callee (f := 11) rfl ?_); refine goesL_ (some 45) rfl rfl Try.func11 (by kernel_rfl) rfl #[.slice A0_18 l0_18.length c0_18, .int .i64 a1, .int .i64 a4, .int .i64 a0_17] rfl (by (try simp only [List.map_toArray, List.map_cons, List.map_nil]); first | done | rfl | (simp only [List.length_drop, List.length_take]; rfl)) ?_; (with_reducible refine (stair_Want.calls kj11 _ _ l0_18 a1 a4 a0_17 t121 t122 _ ?side1 ?side2 A18.out).mono ?_); (case side1 => repeat (first | exact (Kd.C_below HR0_18.out HB.out) | (with_reducible refine Kd.C_alloc ?_ _) | (with_reducible refine Kd.C_drewN ?_ _) | (with_reducible refine Kd.C_drew ?_))); (case side2 => exact HC0_18.out); rintro e w21 ⟨rfl, hb⟩; refine ⟨_, rfl, ?_⟩; have n0_ := Aside0.mk (blk_below (g := gb119) (o := .cells #[.slice A0_0 l0_0.length c0_0, .int .u8 a0_1, .int .i64 a0_2, .bool a0_3, .int .i64 a0_4, .int .i64 a0_5, .int .i64 a0_6, .int .i64 a0_7, .int .i64 a0_8, .int .i64 a0_9, .int .u64 a0_10, .int .u64 a0_11, .int .u64 a0_12, .int .u64 a0_13, .int .u64 a0_14, .int .u64 a0_15, .bool a0_16, .int .i64 a0_17, .slice A0_18 l0_18.length c0_18, .slice A0_19 l0_19.length c0_19] 27 (0, 0)) (by (with_reducible repeat (first | refine blk_drewN ?_ _ | refine blk_drew ?_ | refine blk_alloc ?_ _)); exact BK119.out) hb); have n1_ := Aside0.mk (below_step (by repeat (first | (with_reducible first | exact HB.out | apply below_alloc | apply pw_below_drewN | apply below_drew1 | refine below_set ?_ GE119.out) | exact HB.out)) hb); clear BK119; clear HB; have BK119 := n0_; have HB := n1_; clear n0_ n1_; (try clear hb); (try clear hb2); (try clear hk); (try clear hi)))
                go_meet
                case rel => exact ⟨_, (t121), (a2), (by first | rfl | (simp; done) | (simp [*]; done)), (by first | rfl | (simp; done) | (simp [*]; done)), H', ⟨by have := HJ11.out; first | omega | exact Nat.le_refl _⟩, ⟨by (with_reducible repeat (first | refine blk_drewN ?_ _ | refine blk_drew ?_ | refine blk_alloc ?_ _)); exact BK119.out⟩, ⟨by repeat (first | (with_reducible first | exact HB.out | apply below_alloc | apply pw_below_drewN | apply below_drew1 | refine below_set ?_ GE119.out) | exact HB.out)⟩⟩
              · rw [if_neg c19] at H
                have c19b0 : (t122 == 0) = false := beq_eq_false_iff_ne.mpr c19
                have c19b1 : (t122 != 0) = true := bne_iff_ne.mpr c19
                simp only [Option.some.injEq, Prod.mk.injEq] at H
                obtain ⟨rfl, rfl, rfl⟩ := H
                have hcz22_0 : wc.cell? ⟨gb119, 0, none⟩ = some (.slice A0_0 l0_0.length c0_0) := (blk_cell BK119.out 0).trans rfl
                have hcz22_1 : wc.cell? ⟨gb119, 1, none⟩ = some (.int .u8 a0_1) := (blk_cell BK119.out 1).trans rfl
                have hcz22_2 : wc.cell? ⟨gb119, 2, none⟩ = some (.int .i64 a0_2) := (blk_cell BK119.out 2).trans rfl
                have hcz22_3 : wc.cell? ⟨gb119, 3, none⟩ = some (.bool a0_3) := (blk_cell BK119.out 3).trans rfl
                have hcz22_4 : wc.cell? ⟨gb119, 4, none⟩ = some (.int .i64 a0_4) := (blk_cell BK119.out 4).trans rfl
                have hcz22_5 : wc.cell? ⟨gb119, 5, none⟩ = some (.int .i64 a0_5) := (blk_cell BK119.out 5).trans rfl
                have hcz22_6 : wc.cell? ⟨gb119, 6, none⟩ = some (.int .i64 a0_6) := (blk_cell BK119.out 6).trans rfl
                have hcz22_7 : wc.cell? ⟨gb119, 7, none⟩ = some (.int .i64 a0_7) := (blk_cell BK119.out 7).trans rfl
                have hcz22_8 : wc.cell? ⟨gb119, 8, none⟩ = some (.int .i64 a0_8) := (blk_cell BK119.out 8).trans rfl
                have hcz22_9 : wc.cell? ⟨gb119, 9, none⟩ = some (.int .i64 a0_9) := (blk_cell BK119.out 9).trans rfl
                have hcz22_10 : wc.cell? ⟨gb119, 10, none⟩ = some (.int .u64 a0_10) := (blk_cell BK119.out 10).trans rfl
                have hcz22_11 : wc.cell? ⟨gb119, 11, none⟩ = some (.int .u64 a0_11) := (blk_cell BK119.out 11).trans rfl
                have hcz22_12 : wc.cell? ⟨gb119, 12, none⟩ = some (.int .u64 a0_12) := (blk_cell BK119.out 12).trans rfl
                have hcz22_13 : wc.cell? ⟨gb119, 13, none⟩ = some (.int .u64 a0_13) := (blk_cell BK119.out 13).trans rfl
                have hcz22_14 : wc.cell? ⟨gb119, 14, none⟩ = some (.int .u64 a0_14) := (blk_cell BK119.out 14).trans rfl
                have hcz22_15 : wc.cell? ⟨gb119, 15, none⟩ = some (.int .u64 a0_15) := (blk_cell BK119.out 15).trans rfl
                have hcz22_16 : wc.cell? ⟨gb119, 16, none⟩ = some (.bool a0_16) := (blk_cell BK119.out 16).trans rfl
                have hcz22_17 : wc.cell? ⟨gb119, 17, none⟩ = some (.int .i64 a0_17) := (blk_cell BK119.out 17).trans rfl
                have hcz22_18 : wc.cell? ⟨gb119, 18, none⟩ = some (.slice A0_18 l0_18.length c0_18) := (blk_cell BK119.out 18).trans rfl
                have hcz22_19 : wc.cell? ⟨gb119, 19, none⟩ = some (.slice A0_19 l0_19.length c0_19) := (blk_cell BK119.out 19).trans rfl
                have hfz22_0 := blk_frozen BK119.out 0
                have hfz22_1 := blk_frozen BK119.out 1
                have hfz22_2 := blk_frozen BK119.out 2
                have hfz22_3 := blk_frozen BK119.out 3
                have hfz22_4 := blk_frozen BK119.out 4
                have hfz22_5 := blk_frozen BK119.out 5
                have hfz22_6 := blk_frozen BK119.out 6
                have hfz22_7 := blk_frozen BK119.out 7
                have hfz22_8 := blk_frozen BK119.out 8
                have hfz22_9 := blk_frozen BK119.out 9
                have hfz22_10 := blk_frozen BK119.out 10
                have hfz22_11 := blk_frozen BK119.out 11
                have hfz22_12 := blk_frozen BK119.out 12
                have hfz22_13 := blk_frozen BK119.out 13
                have hfz22_14 := blk_frozen BK119.out 14
                have hfz22_15 := blk_frozen BK119.out 15
                have hfz22_16 := blk_frozen BK119.out 16
                have hfz22_17 := blk_frozen BK119.out 17
                have hfz22_18 := blk_frozen BK119.out 18
                have hfz22_19 := blk_frozen BK119.out 19
                go_wp2_with (first | (refine wpList_load_row rfl 27 (.tmp 5) rfl gb119 rfl 27 _ (0, 0) _ BK119.out Try.underlying27 rfl (by kernel_rfl) ?_) | ((with_reducible refine gate_callee (f := 11) rfl ?_); refine goesL_ (some 45) rfl rfl Try.func11 (by kernel_rfl) rfl #[.slice A0_18 l0_18.length c0_18, .int .i64 a1, .int .i64 a4, .int .i64 a0_17] rfl (by (try simp only [List.map_toArray, List.map_cons, List.map_nil]); first | done | rfl | (simp only [List.length_drop, List.length_take]; rfl)) ?_; (with_reducible refine (stair_Want.calls kj11 _ _ l0_18 a1 a4 a0_17 t121 t122 _ ?side1 ?side2 A18.out).mono ?_); (case side1 => repeat (first | exact (Kd.C_below HR0_18.out HB.out) | (with_reducible refine Kd.C_alloc ?_ _) | (with_reducible refine Kd.C_drewN ?_ _) | (with_reducible refine Kd.C_drew ?_))); (case side2 => exact HC0_18.out); rintro e w23 ⟨rfl, hb⟩; refine ⟨_, rfl, ?_⟩; have n0_ := Aside0.mk (blk_below (g := gb119) (o := .cells #[.slice A0_0 l0_0.length c0_0, .int .u8 a0_1, .int .i64 a0_2, .bool a0_3, .int .i64 a0_4, .int .i64 a0_5, .int .i64 a0_6, .int .i64 a0_7, .int .i64 a0_8, .int .i64 a0_9, .int .u64 a0_10, .int .u64 a0_11, .int .u64 a0_12, .int .u64 a0_13, .int .u64 a0_14, .int .u64 a0_15, .bool a0_16, .int .i64 a0_17, .slice A0_18 l0_18.length c0_18, .slice A0_19 l0_19.length c0_19] 27 (0, 0)) (by (with_reducible repeat (first | refine blk_drewN ?_ _ | refine blk_drew ?_ | refine blk_alloc ?_ _)); exact BK119.out) hb); have n1_ := Aside0.mk (below_step (by repeat (first | (with_reducible first | exact HB.out | apply below_alloc | apply pw_below_drewN | apply below_drew1 | refine below_set ?_ GE119.out) | exact HB.out)) hb); clear BK119; clear HB; have BK119 := n0_; have HB := n1_; clear n0_ n1_; (try clear hb); (try clear hb2); (try clear hk); (try clear hi)))
                go_ret3
                exact ⟨by first | rfl | (simp [errW_none, errW_some] <;> rfl) | (simp [*, errW_none, errW_some] <;> rfl), by repeat (first | (with_reducible first | exact HB.out | apply below_alloc | apply pw_below_drewN | apply below_drew1 | refine below_set ?_ GE119.out) | exact HB.out)⟩
            · rw [if_neg c17] at H
              have c17b0 : decide (0 < (l0_18.length : Int)) = false := decide_eq_false c17
              have c17b1 : decide (0 < l0_18.length) = false := decide_eq_false (by omega)
              clear c17
              have H' := Aside0.mk H
              clear H
              have hcz24_0 : wc.cell? ⟨gb119, 0, none⟩ = some (.slice A0_0 l0_0.length c0_0) := (blk_cell BK119.out 0).trans rfl
              have hcz24_1 : wc.cell? ⟨gb119, 1, none⟩ = some (.int .u8 a0_1) := (blk_cell BK119.out 1).trans rfl
              have hcz24_2 : wc.cell? ⟨gb119, 2, none⟩ = some (.int .i64 a0_2) := (blk_cell BK119.out 2).trans rfl
              have hcz24_3 : wc.cell? ⟨gb119, 3, none⟩ = some (.bool a0_3) := (blk_cell BK119.out 3).trans rfl
              have hcz24_4 : wc.cell? ⟨gb119, 4, none⟩ = some (.int .i64 a0_4) := (blk_cell BK119.out 4).trans rfl
              have hcz24_5 : wc.cell? ⟨gb119, 5, none⟩ = some (.int .i64 a0_5) := (blk_cell BK119.out 5).trans rfl
              have hcz24_6 : wc.cell? ⟨gb119, 6, none⟩ = some (.int .i64 a0_6) := (blk_cell BK119.out 6).trans rfl
              have hcz24_7 : wc.cell? ⟨gb119, 7, none⟩ = some (.int .i64 a0_7) := (blk_cell BK119.out 7).trans rfl
              have hcz24_8 : wc.cell? ⟨gb119, 8, none⟩ = some (.int .i64 a0_8) := (blk_cell BK119.out 8).trans rfl
              have hcz24_9 : wc.cell? ⟨gb119, 9, none⟩ = some (.int .i64 a0_9) := (blk_cell BK119.out 9).trans rfl
              have hcz24_10 : wc.cell? ⟨gb119, 10, none⟩ = some (.int .u64 a0_10) := (blk_cell BK119.out 10).trans rfl
              have hcz24_11 : wc.cell? ⟨gb119, 11, none⟩ = some (.int .u64 a0_11) := (blk_cell BK119.out 11).trans rfl
              have hcz24_12 : wc.cell? ⟨gb119, 12, none⟩ = some (.int .u64 a0_12) := (blk_cell BK119.out 12).trans rfl
              have hcz24_13 : wc.cell? ⟨gb119, 13, none⟩ = some (.int .u64 a0_13) := (blk_cell BK119.out 13).trans rfl
              have hcz24_14 : wc.cell? ⟨gb119, 14, none⟩ = some (.int .u64 a0_14) := (blk_cell BK119.out 14).trans rfl
              have hcz24_15 : wc.cell? ⟨gb119, 15, none⟩ = some (.int .u64 a0_15) := (blk_cell BK119.out 15).trans rfl
              have hcz24_16 : wc.cell? ⟨gb119, 16, none⟩ = some (.bool a0_16) := (blk_cell BK119.out 16).trans rfl
              have hcz24_17 : wc.cell? ⟨gb119, 17, none⟩ = some (.int .i64 a0_17) := (blk_cell BK119.out 17).trans rfl
              have hcz24_18 : wc.cell? ⟨gb119, 18, none⟩ = some (.slice A0_18 l0_18.length c0_18) := (blk_cell BK119.out 18).trans rfl
              have hcz24_19 : wc.cell? ⟨gb119, 19, none⟩ = some (.slice A0_19 l0_19.length c0_19) := (blk_cell BK119.out 19).trans rfl
              have hfz24_0 := blk_frozen BK119.out 0
              have hfz24_1 := blk_frozen BK119.out 1
              have hfz24_2 := blk_frozen BK119.out 2
              have hfz24_3 := blk_frozen BK119.out 3
              have hfz24_4 := blk_frozen BK119.out 4
              have hfz24_5 := blk_frozen BK119.out 5
              have hfz24_6 := blk_frozen BK119.out 6
              have hfz24_7 := blk_frozen BK119.out 7
              have hfz24_8 := blk_frozen BK119.out 8
              have hfz24_9 := blk_frozen BK119.out 9
              have hfz24_10 := blk_frozen BK119.out 10
              have hfz24_11 := blk_frozen BK119.out 11
              have hfz24_12 := blk_frozen BK119.out 12
              have hfz24_13 := blk_frozen BK119.out 13
              have hfz24_14 := blk_frozen BK119.out 14
              have hfz24_15 := blk_frozen BK119.out 15
              have hfz24_16 := blk_frozen BK119.out 16
              have hfz24_17 := blk_frozen BK119.out 17
              have hfz24_18 := blk_frozen BK119.out 18
              have hfz24_19 := blk_frozen BK119.out 19
              go_wp2
              go_meet
              case rel => exact ⟨_, (a1), (a2), (by first | rfl | (simp; done) | (simp [*]; done)), (by first | rfl | (simp; done) | (simp [*]; done)), H', ⟨by have := HJ11.out; first | omega | exact Nat.le_refl _⟩, ⟨by (with_reducible repeat (first | refine blk_drewN ?_ _ | refine blk_drew ?_ | refine blk_alloc ?_ _)); exact BK119.out⟩, ⟨by repeat (first | (with_reducible first | exact HB.out | apply below_alloc | apply pw_below_drewN | apply below_drew1 | refine below_set ?_ GE119.out) | exact HB.out)⟩⟩
    case rest =>
      clear HC8
      try clear c1
      try clear p2
      try clear c7
      try clear c10
      try clear c11
      try clear c13
      try clear c13b0
      try clear c13b1
      try clear c16
      try clear c17
      try clear c17b0
      try clear c17b1
      try clear c19
      try clear c19b0
      try clear c19b1
      try clear hcz10_0
      try clear hcz10_1
      try clear hcz10_10
      try clear hcz10_11
      try clear hcz10_12
      try clear hcz10_13
      try clear hcz10_14
      try clear hcz10_15
      try clear hcz10_16
      try clear hcz10_17
      try clear hcz10_18
      try clear hcz10_19
      try clear hcz10_2
      try clear hcz10_3
      try clear hcz10_4
      try clear hcz10_5
      try clear hcz10_6
      try clear hcz10_7
      try clear hcz10_8
      try clear hcz10_9
      try clear hcz14_0
      try clear hcz14_1
      try clear hcz14_10
      try clear hcz14_11
      try clear hcz14_12
      try clear hcz14_13
      try clear hcz14_14
      try clear hcz14_15
      try clear hcz14_16
      try clear hcz14_17
      try clear hcz14_18
      try clear hcz14_19
      try clear hcz14_2
      try clear hcz14_3
      try clear hcz14_4
      try clear hcz14_5
      try clear hcz14_6
      try clear hcz14_7
      try clear hcz14_8
      try clear hcz14_9
      try clear hcz15_0
      try clear hcz15_1
      try clear hcz15_10
      try clear hcz15_11
      try clear hcz15_12
      try clear hcz15_13
      try clear hcz15_14
      try clear hcz15_15
      try clear hcz15_16
      try clear hcz15_17
      try clear hcz15_18
      try clear hcz15_19
      try clear hcz15_2
      try clear hcz15_3
      try clear hcz15_4
      try clear hcz15_5
      try clear hcz15_6
      try clear hcz15_7
      try clear hcz15_8
      try clear hcz15_9
      try clear hcz20_0
      try clear hcz20_1
      try clear hcz20_10
      try clear hcz20_11
      try clear hcz20_12
      try clear hcz20_13
      try clear hcz20_14
      try clear hcz20_15
      try clear hcz20_16
      try clear hcz20_17
      try clear hcz20_18
      try clear hcz20_19
      try clear hcz20_2
      try clear hcz20_3
      try clear hcz20_4
      try clear hcz20_5
      try clear hcz20_6
      try clear hcz20_7
      try clear hcz20_8
      try clear hcz20_9
      try clear hcz22_0
      try clear hcz22_1
      try clear hcz22_10
      try clear hcz22_11
      try clear hcz22_12
      try clear hcz22_13
      try clear hcz22_14
      try clear hcz22_15
      try clear hcz22_16
      try clear hcz22_17
      try clear hcz22_18
      try clear hcz22_19
      try clear hcz22_2
      try clear hcz22_3
      try clear hcz22_4
      try clear hcz22_5
      try clear hcz22_6
      try clear hcz22_7
      try clear hcz22_8
      try clear hcz22_9
      try clear hcz24_0
      try clear hcz24_1
      try clear hcz24_10
      try clear hcz24_11
      try clear hcz24_12
      try clear hcz24_13
      try clear hcz24_14
      try clear hcz24_15
      try clear hcz24_16
      try clear hcz24_17
      try clear hcz24_18
      try clear hcz24_19
      try clear hcz24_2
      try clear hcz24_3
      try clear hcz24_4
      try clear hcz24_5
      try clear hcz24_6
      try clear hcz24_7
      try clear hcz24_8
      try clear hcz24_9
      try clear hfz10_0
      try clear hfz10_1
      try clear hfz10_10
      try clear hfz10_11
      try clear hfz10_12
      try clear hfz10_13
      try clear hfz10_14
      try clear hfz10_15
      try clear hfz10_16
      try clear hfz10_17
      try clear hfz10_18
      try clear hfz10_19
      try clear hfz10_2
      try clear hfz10_3
      try clear hfz10_4
      try clear hfz10_5
      try clear hfz10_6
      try clear hfz10_7
      try clear hfz10_8
      try clear hfz10_9
      try clear hfz14_0
      try clear hfz14_1
      try clear hfz14_10
      try clear hfz14_11
      try clear hfz14_12
      try clear hfz14_13
      try clear hfz14_14
      try clear hfz14_15
      try clear hfz14_16
      try clear hfz14_17
      try clear hfz14_18
      try clear hfz14_19
      try clear hfz14_2
      try clear hfz14_3
      try clear hfz14_4
      try clear hfz14_5
      try clear hfz14_6
      try clear hfz14_7
      try clear hfz14_8
      try clear hfz14_9
      try clear hfz15_0
      try clear hfz15_1
      try clear hfz15_10
      try clear hfz15_11
      try clear hfz15_12
      try clear hfz15_13
      try clear hfz15_14
      try clear hfz15_15
      try clear hfz15_16
      try clear hfz15_17
      try clear hfz15_18
      try clear hfz15_19
      try clear hfz15_2
      try clear hfz15_3
      try clear hfz15_4
      try clear hfz15_5
      try clear hfz15_6
      try clear hfz15_7
      try clear hfz15_8
      try clear hfz15_9
      try clear hfz20_0
      try clear hfz20_1
      try clear hfz20_10
      try clear hfz20_11
      try clear hfz20_12
      try clear hfz20_13
      try clear hfz20_14
      try clear hfz20_15
      try clear hfz20_16
      try clear hfz20_17
      try clear hfz20_18
      try clear hfz20_19
      try clear hfz20_2
      try clear hfz20_3
      try clear hfz20_4
      try clear hfz20_5
      try clear hfz20_6
      try clear hfz20_7
      try clear hfz20_8
      try clear hfz20_9
      try clear hfz22_0
      try clear hfz22_1
      try clear hfz22_10
      try clear hfz22_11
      try clear hfz22_12
      try clear hfz22_13
      try clear hfz22_14
      try clear hfz22_15
      try clear hfz22_16
      try clear hfz22_17
      try clear hfz22_18
      try clear hfz22_19
      try clear hfz22_2
      try clear hfz22_3
      try clear hfz22_4
      try clear hfz22_5
      try clear hfz22_6
      try clear hfz22_7
      try clear hfz22_8
      try clear hfz22_9
      try clear hfz24_0
      try clear hfz24_1
      try clear hfz24_10
      try clear hfz24_11
      try clear hfz24_12
      try clear hfz24_13
      try clear hfz24_14
      try clear hfz24_15
      try clear hfz24_16
      try clear hfz24_17
      try clear hfz24_18
      try clear hfz24_19
      try clear hfz24_2
      try clear hfz24_3
      try clear hfz24_4
      try clear hfz24_5
      try clear hfz24_6
      try clear hfz24_7
      try clear hfz24_8
      try clear hfz24_9
      try clear p2
      obtain ⟨kq, x10_7, x11_7, rfl, rfl, HA, HJ7, BK119, HB⟩ := hcut
      cases kq with
      | zero => exact absurd HA.out (by simp [want_Metric.j1])
      | succ kj7 =>
        have H := HA.out
        clear HA
        simp only [want_Metric.j1] at H
        by_cases c25 : (l0_18.length : Int) = 0
        · rw [if_pos c25] at H
          have c25b0 : ((l0_18.length : Int) == 0) = true := beq_iff_eq.mpr c25
          have c25b1 : ((l0_18.length : Int) != 0) = false := bne_eq_false_iff_eq.mpr c25
          clear c25
          replace H := Option.bind_eq_some_iff.mp H
          obtain ⟨⟨t123, t124⟩, A260, H⟩ := H
          replace H : ((num_Clamp.f t123 a0_4 a0_5).bind fun t125 => (if t125 = a1 then (some (t125, x11_7, 0)) else (some (t125, IntKind.u64.wrap (a3 + a0_15), 0)))) = some (r1, r2, r3) := H
          have A26 := Aside0.mk A260
          clear A260
          replace H := Option.bind_eq_some_iff.mp H
          obtain ⟨t125, A270, H⟩ := H
          replace H : (if t125 = a1 then (some (t125, x11_7, 0)) else (some (t125, IntKind.u64.wrap (a3 + a0_15), 0))) = some (r1, r2, r3) := H
          have A27 := Aside0.mk A270
          clear A270
          by_cases c28 : t125 = a1
          · rw [if_pos c28] at H
            have c28b0 : (t125 == a1) = true := beq_iff_eq.mpr c28
            have c28b1 : (t125 != a1) = false := bne_eq_false_iff_eq.mpr c28
            clear c28
            simp only [Option.some.injEq, Prod.mk.injEq] at H
            obtain ⟨rfl, rfl, rfl⟩ := H
            have hcz29_0 : wc.cell? ⟨gb119, 0, none⟩ = some (.slice A0_0 l0_0.length c0_0) := (blk_cell BK119.out 0).trans rfl
            have hcz29_1 : wc.cell? ⟨gb119, 1, none⟩ = some (.int .u8 a0_1) := (blk_cell BK119.out 1).trans rfl
            have hcz29_2 : wc.cell? ⟨gb119, 2, none⟩ = some (.int .i64 a0_2) := (blk_cell BK119.out 2).trans rfl
            have hcz29_3 : wc.cell? ⟨gb119, 3, none⟩ = some (.bool a0_3) := (blk_cell BK119.out 3).trans rfl
            have hcz29_4 : wc.cell? ⟨gb119, 4, none⟩ = some (.int .i64 a0_4) := (blk_cell BK119.out 4).trans rfl
            have hcz29_5 : wc.cell? ⟨gb119, 5, none⟩ = some (.int .i64 a0_5) := (blk_cell BK119.out 5).trans rfl
            have hcz29_6 : wc.cell? ⟨gb119, 6, none⟩ = some (.int .i64 a0_6) := (blk_cell BK119.out 6).trans rfl
            have hcz29_7 : wc.cell? ⟨gb119, 7, none⟩ = some (.int .i64 a0_7) := (blk_cell BK119.out 7).trans rfl
            have hcz29_8 : wc.cell? ⟨gb119, 8, none⟩ = some (.int .i64 a0_8) := (blk_cell BK119.out 8).trans rfl
            have hcz29_9 : wc.cell? ⟨gb119, 9, none⟩ = some (.int .i64 a0_9) := (blk_cell BK119.out 9).trans rfl
            have hcz29_10 : wc.cell? ⟨gb119, 10, none⟩ = some (.int .u64 a0_10) := (blk_cell BK119.out 10).trans rfl
            have hcz29_11 : wc.cell? ⟨gb119, 11, none⟩ = some (.int .u64 a0_11) := (blk_cell BK119.out 11).trans rfl
            have hcz29_12 : wc.cell? ⟨gb119, 12, none⟩ = some (.int .u64 a0_12) := (blk_cell BK119.out 12).trans rfl
            have hcz29_13 : wc.cell? ⟨gb119, 13, none⟩ = some (.int .u64 a0_13) := (blk_cell BK119.out 13).trans rfl
            have hcz29_14 : wc.cell? ⟨gb119, 14, none⟩ = some (.int .u64 a0_14) := (blk_cell BK119.out 14).trans rfl
            have hcz29_15 : wc.cell? ⟨gb119, 15, none⟩ = some (.int .u64 a0_15) := (blk_cell BK119.out 15).trans rfl
            have hcz29_16 : wc.cell? ⟨gb119, 16, none⟩ = some (.bool a0_16) := (blk_cell BK119.out 16).trans rfl
            have hcz29_17 : wc.cell? ⟨gb119, 17, none⟩ = some (.int .i64 a0_17) := (blk_cell BK119.out 17).trans rfl
            have hcz29_18 : wc.cell? ⟨gb119, 18, none⟩ = some (.slice A0_18 l0_18.length c0_18) := (blk_cell BK119.out 18).trans rfl
            have hcz29_19 : wc.cell? ⟨gb119, 19, none⟩ = some (.slice A0_19 l0_19.length c0_19) := (blk_cell BK119.out 19).trans rfl
            have hfz29_0 := blk_frozen BK119.out 0
            have hfz29_1 := blk_frozen BK119.out 1
            have hfz29_2 := blk_frozen BK119.out 2
            have hfz29_3 := blk_frozen BK119.out 3
            have hfz29_4 := blk_frozen BK119.out 4
            have hfz29_5 := blk_frozen BK119.out 5
            have hfz29_6 := blk_frozen BK119.out 6
            have hfz29_7 := blk_frozen BK119.out 7
            have hfz29_8 := blk_frozen BK119.out 8
            have hfz29_9 := blk_frozen BK119.out 9
            have hfz29_10 := blk_frozen BK119.out 10
            have hfz29_11 := blk_frozen BK119.out 11
            have hfz29_12 := blk_frozen BK119.out 12
            have hfz29_13 := blk_frozen BK119.out 13
            have hfz29_14 := blk_frozen BK119.out 14
            have hfz29_15 := blk_frozen BK119.out 15
            have hfz29_16 := blk_frozen BK119.out 16
            have hfz29_17 := blk_frozen BK119.out 17
            have hfz29_18 := blk_frozen BK119.out 18
            have hfz29_19 := blk_frozen BK119.out 19
            go_wp2_with (first | (refine wpList_load_row rfl 27 (.tmp 5) rfl gb119 rfl 27 _ (0, 0) _ BK119.out Try.underlying27 rfl (by kernel_rfl) ?_) | ((with_reducible refine gate_callee (f := 12) rfl ?_); refine goesL_ (some 60) rfl rfl Try.func12 (by kernel_rfl) rfl #[.int .i64 a1, .int .i64 a4, .int .i64 a0_17] rfl (by (try simp only [List.map_toArray, List.map_cons, List.map_nil]); first | done | rfl | (simp only [List.length_drop, List.length_take]; rfl)) ?_; (with_reducible refine (track_Want.calls kj7 a1 a4 a0_17 t123 t124 _ A26.out).mono ?_); rintro e w' ⟨rfl, ⟨nd, rfl⟩⟩; refine ⟨_, rfl, ?_⟩) | ((with_reducible refine gate_callee (f := 13) rfl ?_); refine goesL_ (some 68) rfl rfl Try.func13 (by kernel_rfl) rfl #[.int .i64 t123, .int .i64 a0_4, .int .i64 a0_5] rfl (by (try simp only [List.map_toArray, List.map_cons, List.map_nil]); first | done | rfl | (simp only [List.length_drop, List.length_take]; rfl)) ?_; (with_reducible refine (num_Clamp.calls t123 a0_4 a0_5 t125 _ A27.out).mono ?_); rintro e w30 ⟨rfl, hb⟩; refine ⟨_, rfl, ?_⟩; have n0_ := Aside0.mk (blk_below (g := gb119) (o := .cells #[.slice A0_0 l0_0.length c0_0, .int .u8 a0_1, .int .i64 a0_2, .bool a0_3, .int .i64 a0_4, .int .i64 a0_5, .int .i64 a0_6, .int .i64 a0_7, .int .i64 a0_8, .int .i64 a0_9, .int .u64 a0_10, .int .u64 a0_11, .int .u64 a0_12, .int .u64 a0_13, .int .u64 a0_14, .int .u64 a0_15, .bool a0_16, .int .i64 a0_17, .slice A0_18 l0_18.length c0_18, .slice A0_19 l0_19.length c0_19] 27 (0, 0)) (by (with_reducible repeat (first | refine blk_drewN ?_ _ | refine blk_drew ?_ | refine blk_alloc ?_ _)); exact BK119.out) hb); have n1_ := Aside0.mk (below_step (by repeat (first | (with_reducible first | exact HB.out | apply below_alloc | apply pw_below_drewN | apply below_drew1 | refine below_set ?_ GE119.out) | exact HB.out)) hb); clear BK119; clear HB; have BK119 := n0_; have HB := n1_; clear n0_ n1_; (try clear hb); (try clear hb2); (try clear hk); (try clear hi)))
            go_ret3
            exact ⟨by first | rfl | (simp [errW_none, errW_some] <;> rfl) | (simp [*, errW_none, errW_some] <;> rfl), by repeat (first | (with_reducible first | exact HB.out | apply below_alloc | apply pw_below_drewN | apply below_drew1 | refine below_set ?_ GE119.out) | exact HB.out)⟩
          · rw [if_neg c28] at H
            have c28b0 : (t125 == a1) = false := beq_eq_false_iff_ne.mpr c28
            have c28b1 : (t125 != a1) = true := bne_iff_ne.mpr c28
            simp only [Option.some.injEq, Prod.mk.injEq] at H
            obtain ⟨rfl, rfl, rfl⟩ := H
            have hcz31_0 : wc.cell? ⟨gb119, 0, none⟩ = some (.slice A0_0 l0_0.length c0_0) := (blk_cell BK119.out 0).trans rfl
            have hcz31_1 : wc.cell? ⟨gb119, 1, none⟩ = some (.int .u8 a0_1) := (blk_cell BK119.out 1).trans rfl
            have hcz31_2 : wc.cell? ⟨gb119, 2, none⟩ = some (.int .i64 a0_2) := (blk_cell BK119.out 2).trans rfl
            have hcz31_3 : wc.cell? ⟨gb119, 3, none⟩ = some (.bool a0_3) := (blk_cell BK119.out 3).trans rfl
            have hcz31_4 : wc.cell? ⟨gb119, 4, none⟩ = some (.int .i64 a0_4) := (blk_cell BK119.out 4).trans rfl
            have hcz31_5 : wc.cell? ⟨gb119, 5, none⟩ = some (.int .i64 a0_5) := (blk_cell BK119.out 5).trans rfl
            have hcz31_6 : wc.cell? ⟨gb119, 6, none⟩ = some (.int .i64 a0_6) := (blk_cell BK119.out 6).trans rfl
            have hcz31_7 : wc.cell? ⟨gb119, 7, none⟩ = some (.int .i64 a0_7) := (blk_cell BK119.out 7).trans rfl
            have hcz31_8 : wc.cell? ⟨gb119, 8, none⟩ = some (.int .i64 a0_8) := (blk_cell BK119.out 8).trans rfl
            have hcz31_9 : wc.cell? ⟨gb119, 9, none⟩ = some (.int .i64 a0_9) := (blk_cell BK119.out 9).trans rfl
            have hcz31_10 : wc.cell? ⟨gb119, 10, none⟩ = some (.int .u64 a0_10) := (blk_cell BK119.out 10).trans rfl
            have hcz31_11 : wc.cell? ⟨gb119, 11, none⟩ = some (.int .u64 a0_11) := (blk_cell BK119.out 11).trans rfl
            have hcz31_12 : wc.cell? ⟨gb119, 12, none⟩ = some (.int .u64 a0_12) := (blk_cell BK119.out 12).trans rfl
            have hcz31_13 : wc.cell? ⟨gb119, 13, none⟩ = some (.int .u64 a0_13) := (blk_cell BK119.out 13).trans rfl
            have hcz31_14 : wc.cell? ⟨gb119, 14, none⟩ = some (.int .u64 a0_14) := (blk_cell BK119.out 14).trans rfl
            have hcz31_15 : wc.cell? ⟨gb119, 15, none⟩ = some (.int .u64 a0_15) := (blk_cell BK119.out 15).trans rfl
            have hcz31_16 : wc.cell? ⟨gb119, 16, none⟩ = some (.bool a0_16) := (blk_cell BK119.out 16).trans rfl
            have hcz31_17 : wc.cell? ⟨gb119, 17, none⟩ = some (.int .i64 a0_17) := (blk_cell BK119.out 17).trans rfl
            have hcz31_18 : wc.cell? ⟨gb119, 18, none⟩ = some (.slice A0_18 l0_18.length c0_18) := (blk_cell BK119.out 18).trans rfl
            have hcz31_19 : wc.cell? ⟨gb119, 19, none⟩ = some (.slice A0_19 l0_19.length c0_19) := (blk_cell BK119.out 19).trans rfl
            have hfz31_0 := blk_frozen BK119.out 0
            have hfz31_1 := blk_frozen BK119.out 1
            have hfz31_2 := blk_frozen BK119.out 2
            have hfz31_3 := blk_frozen BK119.out 3
            have hfz31_4 := blk_frozen BK119.out 4
            have hfz31_5 := blk_frozen BK119.out 5
            have hfz31_6 := blk_frozen BK119.out 6
            have hfz31_7 := blk_frozen BK119.out 7
            have hfz31_8 := blk_frozen BK119.out 8
            have hfz31_9 := blk_frozen BK119.out 9
            have hfz31_10 := blk_frozen BK119.out 10
            have hfz31_11 := blk_frozen BK119.out 11
            have hfz31_12 := blk_frozen BK119.out 12
            have hfz31_13 := blk_frozen BK119.out 13
            have hfz31_14 := blk_frozen BK119.out 14
            have hfz31_15 := blk_frozen BK119.out 15
            have hfz31_16 := blk_frozen BK119.out 16
            have hfz31_17 := blk_frozen BK119.out 17
            have hfz31_18 := blk_frozen BK119.out 18
            have hfz31_19 := blk_frozen BK119.out 19
            go_wp2_with (first | (refine wpList_load_row rfl 27 (.tmp 5) rfl gb119 rfl 27 _ (0, 0) _ BK119.out Try.underlying27 rfl (by kernel_rfl) ?_) | ((with_reducible refine gate_callee (f := 12) rfl ?_); refine goesL_ (some 60) rfl rfl Try.func12 (by kernel_rfl) rfl #[.int .i64 a1, .int .i64 a4, .int .i64 a0_17] rfl (by (try simp only [List.map_toArray, List.map_cons, List.map_nil]); first | done | rfl | (simp only [List.length_drop, List.length_take]; rfl)) ?_; (with_reducible refine (track_Want.calls kj7 a1 a4 a0_17 t123 t124 _ A26.out).mono ?_); rintro e w' ⟨rfl, ⟨nd, rfl⟩⟩; refine ⟨_, rfl, ?_⟩) | ((with_reducible refine gate_callee (f := 13) rfl ?_); refine goesL_ (some 68) rfl rfl Try.func13 (by kernel_rfl) rfl #[.int .i64 t123, .int .i64 a0_4, .int .i64 a0_5] rfl (by (try simp only [List.map_toArray, List.map_cons, List.map_nil]); first | done | rfl | (simp only [List.length_drop, List.length_take]; rfl)) ?_; (with_reducible refine (num_Clamp.calls t123 a0_4 a0_5 t125 _ A27.out).mono ?_); rintro e w32 ⟨rfl, hb⟩; refine ⟨_, rfl, ?_⟩; have n0_ := Aside0.mk (blk_below (g := gb119) (o := .cells #[.slice A0_0 l0_0.length c0_0, .int .u8 a0_1, .int .i64 a0_2, .bool a0_3, .int .i64 a0_4, .int .i64 a0_5, .int .i64 a0_6, .int .i64 a0_7, .int .i64 a0_8, .int .i64 a0_9, .int .u64 a0_10, .int .u64 a0_11, .int .u64 a0_12, .int .u64 a0_13, .int .u64 a0_14, .int .u64 a0_15, .bool a0_16, .int .i64 a0_17, .slice A0_18 l0_18.length c0_18, .slice A0_19 l0_19.length c0_19] 27 (0, 0)) (by (with_reducible repeat (first | refine blk_drewN ?_ _ | refine blk_drew ?_ | refine blk_alloc ?_ _)); exact BK119.out) hb); have n1_ := Aside0.mk (below_step (by repeat (first | (with_reducible first | exact HB.out | apply below_alloc | apply pw_below_drewN | apply below_drew1 | refine below_set ?_ GE119.out) | exact HB.out)) hb); clear BK119; clear HB; have BK119 := n0_; have HB := n1_; clear n0_ n1_; (try clear hb); (try clear hb2); (try clear hk); (try clear hi); have hcz33_0 : w32.cell? ⟨gb119, 0, none⟩ = some (.slice A0_0 l0_0.length c0_0) := (blk_cell BK119.out 0).trans rfl; have hcz33_1 : w32.cell? ⟨gb119, 1, none⟩ = some (.int .u8 a0_1) := (blk_cell BK119.out 1).trans rfl; have hcz33_2 : w32.cell? ⟨gb119, 2, none⟩ = some (.int .i64 a0_2) := (blk_cell BK119.out 2).trans rfl; have hcz33_3 : w32.cell? ⟨gb119, 3, none⟩ = some (.bool a0_3) := (blk_cell BK119.out 3).trans rfl; have hcz33_4 : w32.cell? ⟨gb119, 4, none⟩ = some (.int .i64 a0_4) := (blk_cell BK119.out 4).trans rfl; have hcz33_5 : w32.cell? ⟨gb119, 5, none⟩ = some (.int .i64 a0_5) := (blk_cell BK119.out 5).trans rfl; have hcz33_6 : w32.cell? ⟨gb119, 6, none⟩ = some (.int .i64 a0_6) := (blk_cell BK119.out 6).trans rfl; have hcz33_7 : w32.cell? ⟨gb119, 7, none⟩ = some (.int .i64 a0_7) := (blk_cell BK119.out 7).trans rfl; have hcz33_8 : w32.cell? ⟨gb119, 8, none⟩ = some (.int .i64 a0_8) := (blk_cell BK119.out 8).trans rfl; have hcz33_9 : w32.cell? ⟨gb119, 9, none⟩ = some (.int .i64 a0_9) := (blk_cell BK119.out 9).trans rfl; have hcz33_10 : w32.cell? ⟨gb119, 10, none⟩ = some (.int .u64 a0_10) := (blk_cell BK119.out 10).trans rfl; have hcz33_11 : w32.cell? ⟨gb119, 11, none⟩ = some (.int .u64 a0_11) := (blk_cell BK119.out 11).trans rfl; have hcz33_12 : w32.cell? ⟨gb119, 12, none⟩ = some (.int .u64 a0_12) := (blk_cell BK119.out 12).trans rfl; have hcz33_13 : w32.cell? ⟨gb119, 13, none⟩ = some (.int .u64 a0_13) := (blk_cell BK119.out 13).trans rfl; have hcz33_14 : w32.cell? ⟨gb119, 14, none⟩ = some (.int .u64 a0_14) := (blk_cell BK119.out 14).trans rfl; have hcz33_15 : w32.cell? ⟨gb119, 15, none⟩ = some (.int .u64 a0_15) := (blk_cell BK119.out 15).trans rfl; have hcz33_16 : w32.cell? ⟨gb119, 16, none⟩ = some (.bool a0_16) := (blk_cell BK119.out 16).trans rfl; have hcz33_17 : w32.cell? ⟨gb119, 17, none⟩ = some (.int .i64 a0_17) := (blk_cell BK119.out 17).trans rfl; have hcz33_18 : w32.cell? ⟨gb119, 18, none⟩ = some (.slice A0_18 l0_18.length c0_18) := (blk_cell BK119.out 18).trans rfl; have hcz33_19 : w32.cell? ⟨gb119, 19, none⟩ = some (.slice A0_19 l0_19.length c0_19) := (blk_cell BK119.out 19).trans rfl; have hfz33_0 := blk_frozen BK119.out 0; have hfz33_1 := blk_frozen BK119.out 1; have hfz33_2 := blk_frozen BK119.out 2; have hfz33_3 := blk_frozen BK119.out 3; have hfz33_4 := blk_frozen BK119.out 4; have hfz33_5 := blk_frozen BK119.out 5; have hfz33_6 := blk_frozen BK119.out 6; have hfz33_7 := blk_frozen BK119.out 7; have hfz33_8 := blk_frozen BK119.out 8; have hfz33_9 := blk_frozen BK119.out 9; have hfz33_10 := blk_frozen BK119.out 10; have hfz33_11 := blk_frozen BK119.out 11; have hfz33_12 := blk_frozen BK119.out 12; have hfz33_13 := blk_frozen BK119.out 13; have hfz33_14 := blk_frozen BK119.out 14; have hfz33_15 := blk_frozen BK119.out 15; have hfz33_16 := blk_frozen BK119.out 16; have hfz33_17 := blk_frozen BK119.out 17; have hfz33_18 := blk_frozen BK119.out 18; have hfz33_19 := blk_frozen BK119.out 19))
            go_ret3
            exact ⟨by first | rfl | (simp [errW_none, errW_some] <;> rfl) | (simp [*, errW_none, errW_some] <;> rfl), by repeat (first | (with_reducible first | exact HB.out | apply below_alloc | apply pw_below_drewN | apply below_drew1 | refine below_set ?_ GE119.out) | exact HB.out)⟩
        · rw [if_neg c25] at H
          have c25b0 : ((l0_18.length : Int) == 0) = false := beq_eq_false_iff_ne.mpr c25
          have c25b1 : ((l0_18.length : Int) != 0) = true := bne_iff_ne.mpr c25
          have c25b2 : ¬ (l0_18 = []) := fun h_ => c25 (by rw [h_]; rfl)
          replace H := Option.bind_eq_some_iff.mp H
          obtain ⟨t126, A340, H⟩ := H
          replace H : (if t126 = a1 then (some (t126, x11_7, 0)) else (some (t126, IntKind.u64.wrap (a3 + a0_15), 0))) = some (r1, r2, r3) := H
          have A34 := Aside0.mk A340
          clear A340
          by_cases c35 : t126 = a1
          · rw [if_pos c35] at H
            have c35b0 : (t126 == a1) = true := beq_iff_eq.mpr c35
            have c35b1 : (t126 != a1) = false := bne_eq_false_iff_eq.mpr c35
            clear c35
            simp only [Option.some.injEq, Prod.mk.injEq] at H
            obtain ⟨rfl, rfl, rfl⟩ := H
            have hcz36_0 : wc.cell? ⟨gb119, 0, none⟩ = some (.slice A0_0 l0_0.length c0_0) := (blk_cell BK119.out 0).trans rfl
            have hcz36_1 : wc.cell? ⟨gb119, 1, none⟩ = some (.int .u8 a0_1) := (blk_cell BK119.out 1).trans rfl
            have hcz36_2 : wc.cell? ⟨gb119, 2, none⟩ = some (.int .i64 a0_2) := (blk_cell BK119.out 2).trans rfl
            have hcz36_3 : wc.cell? ⟨gb119, 3, none⟩ = some (.bool a0_3) := (blk_cell BK119.out 3).trans rfl
            have hcz36_4 : wc.cell? ⟨gb119, 4, none⟩ = some (.int .i64 a0_4) := (blk_cell BK119.out 4).trans rfl
            have hcz36_5 : wc.cell? ⟨gb119, 5, none⟩ = some (.int .i64 a0_5) := (blk_cell BK119.out 5).trans rfl
            have hcz36_6 : wc.cell? ⟨gb119, 6, none⟩ = some (.int .i64 a0_6) := (blk_cell BK119.out 6).trans rfl
            have hcz36_7 : wc.cell? ⟨gb119, 7, none⟩ = some (.int .i64 a0_7) := (blk_cell BK119.out 7).trans rfl
            have hcz36_8 : wc.cell? ⟨gb119, 8, none⟩ = some (.int .i64 a0_8) := (blk_cell BK119.out 8).trans rfl
            have hcz36_9 : wc.cell? ⟨gb119, 9, none⟩ = some (.int .i64 a0_9) := (blk_cell BK119.out 9).trans rfl
            have hcz36_10 : wc.cell? ⟨gb119, 10, none⟩ = some (.int .u64 a0_10) := (blk_cell BK119.out 10).trans rfl
            have hcz36_11 : wc.cell? ⟨gb119, 11, none⟩ = some (.int .u64 a0_11) := (blk_cell BK119.out 11).trans rfl
            have hcz36_12 : wc.cell? ⟨gb119, 12, none⟩ = some (.int .u64 a0_12) := (blk_cell BK119.out 12).trans rfl
            have hcz36_13 : wc.cell? ⟨gb119, 13, none⟩ = some (.int .u64 a0_13) := (blk_cell BK119.out 13).trans rfl
            have hcz36_14 : wc.cell? ⟨gb119, 14, none⟩ = some (.int .u64 a0_14) := (blk_cell BK119.out 14).trans rfl
            have hcz36_15 : wc.cell? ⟨gb119, 15, none⟩ = some (.int .u64 a0_15) := (blk_cell BK119.out 15).trans rfl
            have hcz36_16 : wc.cell? ⟨gb119, 16, none⟩ = some (.bool a0_16) := (blk_cell BK119.out 16).trans rfl
            have hcz36_17 : wc.cell? ⟨gb119, 17, none⟩ = some (.int .i64 a0_17) := (blk_cell BK119.out 17).trans rfl
            have hcz36_18 : wc.cell? ⟨gb119, 18, none⟩ = some (.slice A0_18 l0_18.length c0_18) := (blk_cell BK119.out 18).trans rfl
            have hcz36_19 : wc.cell? ⟨gb119, 19, none⟩ = some (.slice A0_19 l0_19.length c0_19) := (blk_cell BK119.out 19).trans rfl
            have hfz36_0 := blk_frozen BK119.out 0
            have hfz36_1 := blk_frozen BK119.out 1
            have hfz36_2 := blk_frozen BK119.out 2
            have hfz36_3 := blk_frozen BK119.out 3
            have hfz36_4 := blk_frozen BK119.out 4
            have hfz36_5 := blk_frozen BK119.out 5
            have hfz36_6 := blk_frozen BK119.out 6
            have hfz36_7 := blk_frozen BK119.out 7
            have hfz36_8 := blk_frozen BK119.out 8
            have hfz36_9 := blk_frozen BK119.out 9
            have hfz36_10 := blk_frozen BK119.out 10
            have hfz36_11 := blk_frozen BK119.out 11
            have hfz36_12 := blk_frozen BK119.out 12
            have hfz36_13 := blk_frozen BK119.out 13
            have hfz36_14 := blk_frozen BK119.out 14
            have hfz36_15 := blk_frozen BK119.out 15
            have hfz36_16 := blk_frozen BK119.out 16
            have hfz36_17 := blk_frozen BK119.out 17
            have hfz36_18 := blk_frozen BK119.out 18
            have hfz36_19 := blk_frozen BK119.out 19
            go_wp2_with (first | (refine wpList_load_row rfl 27 (.tmp 5) rfl gb119 rfl 27 _ (0, 0) _ BK119.out Try.underlying27 rfl (by kernel_rfl) ?_) | ((with_reducible refine gate_callee (f := 13) rfl ?_); refine goesL_ (some 68) rfl rfl Try.func13 (by kernel_rfl) rfl #[.int .i64 x10_7, .int .i64 a0_4, .int .i64 a0_5] rfl (by (try simp only [List.map_toArray, List.map_cons, List.map_nil]); first | done | rfl | (simp only [List.length_drop, List.length_take]; rfl)) ?_; (with_reducible refine (num_Clamp.calls x10_7 a0_4 a0_5 t126 _ A34.out).mono ?_); rintro e w37 ⟨rfl, hb⟩; refine ⟨_, rfl, ?_⟩; have n0_ := Aside0.mk (blk_below (g := gb119) (o := .cells #[.slice A0_0 l0_0.length c0_0, .int .u8 a0_1, .int .i64 a0_2, .bool a0_3, .int .i64 a0_4, .int .i64 a0_5, .int .i64 a0_6, .int .i64 a0_7, .int .i64 a0_8, .int .i64 a0_9, .int .u64 a0_10, .int .u64 a0_11, .int .u64 a0_12, .int .u64 a0_13, .int .u64 a0_14, .int .u64 a0_15, .bool a0_16, .int .i64 a0_17, .slice A0_18 l0_18.length c0_18, .slice A0_19 l0_19.length c0_19] 27 (0, 0)) (by (with_reducible repeat (first | refine blk_drewN ?_ _ | refine blk_drew ?_ | refine blk_alloc ?_ _)); exact BK119.out) hb); have n1_ := Aside0.mk (below_step (by repeat (first | (with_reducible first | exact HB.out | apply below_alloc | apply pw_below_drewN | apply below_drew1 | refine below_set ?_ GE119.out) | exact HB.out)) hb); clear BK119; clear HB; have BK119 := n0_; have HB := n1_; clear n0_ n1_; (try clear hb); (try clear hb2); (try clear hk); (try clear hi)))
            go_ret3
            exact ⟨by first | rfl | (simp [errW_none, errW_some] <;> rfl) | (simp [*, errW_none, errW_some] <;> rfl), by repeat (first | (with_reducible first | exact HB.out | apply below_alloc | apply pw_below_drewN | apply below_drew1 | refine below_set ?_ GE119.out) | exact HB.out)⟩
          · rw [if_neg c35] at H
            have c35b0 : (t126 == a1) = false := beq_eq_false_iff_ne.mpr c35
            have c35b1 : (t126 != a1) = true := bne_iff_ne.mpr c35
            simp only [Option.some.injEq, Prod.mk.injEq] at H
            obtain ⟨rfl, rfl, rfl⟩ := H
            have hcz38_0 : wc.cell? ⟨gb119, 0, none⟩ = some (.slice A0_0 l0_0.length c0_0) := (blk_cell BK119.out 0).trans rfl
            have hcz38_1 : wc.cell? ⟨gb119, 1, none⟩ = some (.int .u8 a0_1) := (blk_cell BK119.out 1).trans rfl
            have hcz38_2 : wc.cell? ⟨gb119, 2, none⟩ = some (.int .i64 a0_2) := (blk_cell BK119.out 2).trans rfl
            have hcz38_3 : wc.cell? ⟨gb119, 3, none⟩ = some (.bool a0_3) := (blk_cell BK119.out 3).trans rfl
            have hcz38_4 : wc.cell? ⟨gb119, 4, none⟩ = some (.int .i64 a0_4) := (blk_cell BK119.out 4).trans rfl
            have hcz38_5 : wc.cell? ⟨gb119, 5, none⟩ = some (.int .i64 a0_5) := (blk_cell BK119.out 5).trans rfl
            have hcz38_6 : wc.cell? ⟨gb119, 6, none⟩ = some (.int .i64 a0_6) := (blk_cell BK119.out 6).trans rfl
            have hcz38_7 : wc.cell? ⟨gb119, 7, none⟩ = some (.int .i64 a0_7) := (blk_cell BK119.out 7).trans rfl
            have hcz38_8 : wc.cell? ⟨gb119, 8, none⟩ = some (.int .i64 a0_8) := (blk_cell BK119.out 8).trans rfl
            have hcz38_9 : wc.cell? ⟨gb119, 9, none⟩ = some (.int .i64 a0_9) := (blk_cell BK119.out 9).trans rfl
            have hcz38_10 : wc.cell? ⟨gb119, 10, none⟩ = some (.int .u64 a0_10) := (blk_cell BK119.out 10).trans rfl
            have hcz38_11 : wc.cell? ⟨gb119, 11, none⟩ = some (.int .u64 a0_11) := (blk_cell BK119.out 11).trans rfl
            have hcz38_12 : wc.cell? ⟨gb119, 12, none⟩ = some (.int .u64 a0_12) := (blk_cell BK119.out 12).trans rfl
            have hcz38_13 : wc.cell? ⟨gb119, 13, none⟩ = some (.int .u64 a0_13) := (blk_cell BK119.out 13).trans rfl
            have hcz38_14 : wc.cell? ⟨gb119, 14, none⟩ = some (.int .u64 a0_14) := (blk_cell BK119.out 14).trans rfl
            have hcz38_15 : wc.cell? ⟨gb119, 15, none⟩ = some (.int .u64 a0_15) := (blk_cell BK119.out 15).trans rfl
            have hcz38_16 : wc.cell? ⟨gb119, 16, none⟩ = some (.bool a0_16) := (blk_cell BK119.out 16).trans rfl
            have hcz38_17 : wc.cell? ⟨gb119, 17, none⟩ = some (.int .i64 a0_17) := (blk_cell BK119.out 17).trans rfl
            have hcz38_18 : wc.cell? ⟨gb119, 18, none⟩ = some (.slice A0_18 l0_18.length c0_18) := (blk_cell BK119.out 18).trans rfl
            have hcz38_19 : wc.cell? ⟨gb119, 19, none⟩ = some (.slice A0_19 l0_19.length c0_19) := (blk_cell BK119.out 19).trans rfl
            have hfz38_0 := blk_frozen BK119.out 0
            have hfz38_1 := blk_frozen BK119.out 1
            have hfz38_2 := blk_frozen BK119.out 2
            have hfz38_3 := blk_frozen BK119.out 3
            have hfz38_4 := blk_frozen BK119.out 4
            have hfz38_5 := blk_frozen BK119.out 5
            have hfz38_6 := blk_frozen BK119.out 6
            have hfz38_7 := blk_frozen BK119.out 7
            have hfz38_8 := blk_frozen BK119.out 8
            have hfz38_9 := blk_frozen BK119.out 9
            have hfz38_10 := blk_frozen BK119.out 10
            have hfz38_11 := blk_frozen BK119.out 11
            have hfz38_12 := blk_frozen BK119.out 12
            have hfz38_13 := blk_frozen BK119.out 13
            have hfz38_14 := blk_frozen BK119.out 14
            have hfz38_15 := blk_frozen BK119.out 15
            have hfz38_16 := blk_frozen BK119.out 16
            have hfz38_17 := blk_frozen BK119.out 17
            have hfz38_18 := blk_frozen BK119.out 18
            have hfz38_19 := blk_frozen BK119.out 19
            go_wp2_with (first | (refine wpList_load_row rfl 27 (.tmp 5) rfl gb119 rfl 27 _ (0, 0) _ BK119.out Try.underlying27 rfl (by kernel_rfl) ?_) | ((with_reducible refine gate_callee (f := 13) rfl ?_); refine goesL_ (some 68) rfl rfl Try.func13 (by kernel_rfl) rfl #[.int .i64 x10_7, .int .i64 a0_4, .int .i64 a0_5] rfl (by (try simp only [List.map_toArray, List.map_cons, List.map_nil]); first | done | rfl | (simp only [List.length_drop, List.length_take]; rfl)) ?_; (with_reducible refine (num_Clamp.calls x10_7 a0_4 a0_5 t126 _ A34.out).mono ?_); rintro e w39 ⟨rfl, hb⟩; refine ⟨_, rfl, ?_⟩; have n0_ := Aside0.mk (blk_below (g := gb119) (o := .cells #[.slice A0_0 l0_0.length c0_0, .int .u8 a0_1, .int .i64 a0_2, .bool a0_3, .int .i64 a0_4, .int .i64 a0_5, .int .i64 a0_6, .int .i64 a0_7, .int .i64 a0_8, .int .i64 a0_9, .int .u64 a0_10, .int .u64 a0_11, .int .u64 a0_12, .int .u64 a0_13, .int .u64 a0_14, .int .u64 a0_15, .bool a0_16, .int .i64 a0_17, .slice A0_18 l0_18.length c0_18, .slice A0_19 l0_19.length c0_19] 27 (0, 0)) (by (with_reducible repeat (first | refine blk_drewN ?_ _ | refine blk_drew ?_ | refine blk_alloc ?_ _)); exact BK119.out) hb); have n1_ := Aside0.mk (below_step (by repeat (first | (with_reducible first | exact HB.out | apply below_alloc | apply pw_below_drewN | apply below_drew1 | refine below_set ?_ GE119.out) | exact HB.out)) hb); clear BK119; clear HB; have BK119 := n0_; have HB := n1_; clear n0_ n1_; (try clear hb); (try clear hb2); (try clear hk); (try clear hi); have hcz40_0 : w39.cell? ⟨gb119, 0, none⟩ = some (.slice A0_0 l0_0.length c0_0) := (blk_cell BK119.out 0).trans rfl; have hcz40_1 : w39.cell? ⟨gb119, 1, none⟩ = some (.int .u8 a0_1) := (blk_cell BK119.out 1).trans rfl; have hcz40_2 : w39.cell? ⟨gb119, 2, none⟩ = some (.int .i64 a0_2) := (blk_cell BK119.out 2).trans rfl; have hcz40_3 : w39.cell? ⟨gb119, 3, none⟩ = some (.bool a0_3) := (blk_cell BK119.out 3).trans rfl; have hcz40_4 : w39.cell? ⟨gb119, 4, none⟩ = some (.int .i64 a0_4) := (blk_cell BK119.out 4).trans rfl; have hcz40_5 : w39.cell? ⟨gb119, 5, none⟩ = some (.int .i64 a0_5) := (blk_cell BK119.out 5).trans rfl; have hcz40_6 : w39.cell? ⟨gb119, 6, none⟩ = some (.int .i64 a0_6) := (blk_cell BK119.out 6).trans rfl; have hcz40_7 : w39.cell? ⟨gb119, 7, none⟩ = some (.int .i64 a0_7) := (blk_cell BK119.out 7).trans rfl; have hcz40_8 : w39.cell? ⟨gb119, 8, none⟩ = some (.int .i64 a0_8) := (blk_cell BK119.out 8).trans rfl; have hcz40_9 : w39.cell? ⟨gb119, 9, none⟩ = some (.int .i64 a0_9) := (blk_cell BK119.out 9).trans rfl; have hcz40_10 : w39.cell? ⟨gb119, 10, none⟩ = some (.int .u64 a0_10) := (blk_cell BK119.out 10).trans rfl; have hcz40_11 : w39.cell? ⟨gb119, 11, none⟩ = some (.int .u64 a0_11) := (blk_cell BK119.out 11).trans rfl; have hcz40_12 : w39.cell? ⟨gb119, 12, none⟩ = some (.int .u64 a0_12) := (blk_cell BK119.out 12).trans rfl; have hcz40_13 : w39.cell? ⟨gb119, 13, none⟩ = some (.int .u64 a0_13) := (blk_cell BK119.out 13).trans rfl; have hcz40_14 : w39.cell? ⟨gb119, 14, none⟩ = some (.int .u64 a0_14) := (blk_cell BK119.out 14).trans rfl; have hcz40_15 : w39.cell? ⟨gb119, 15, none⟩ = some (.int .u64 a0_15) := (blk_cell BK119.out 15).trans rfl; have hcz40_16 : w39.cell? ⟨gb119, 16, none⟩ = some (.bool a0_16) := (blk_cell BK119.out 16).trans rfl; have hcz40_17 : w39.cell? ⟨gb119, 17, none⟩ = some (.int .i64 a0_17) := (blk_cell BK119.out 17).trans rfl; have hcz40_18 : w39.cell? ⟨gb119, 18, none⟩ = some (.slice A0_18 l0_18.length c0_18) := (blk_cell BK119.out 18).trans rfl; have hcz40_19 : w39.cell? ⟨gb119, 19, none⟩ = some (.slice A0_19 l0_19.length c0_19) := (blk_cell BK119.out 19).trans rfl; have hfz40_0 := blk_frozen BK119.out 0; have hfz40_1 := blk_frozen BK119.out 1; have hfz40_2 := blk_frozen BK119.out 2; have hfz40_3 := blk_frozen BK119.out 3; have hfz40_4 := blk_frozen BK119.out 4; have hfz40_5 := blk_frozen BK119.out 5; have hfz40_6 := blk_frozen BK119.out 6; have hfz40_7 := blk_frozen BK119.out 7; have hfz40_8 := blk_frozen BK119.out 8; have hfz40_9 := blk_frozen BK119.out 9; have hfz40_10 := blk_frozen BK119.out 10; have hfz40_11 := blk_frozen BK119.out 11; have hfz40_12 := blk_frozen BK119.out 12; have hfz40_13 := blk_frozen BK119.out 13; have hfz40_14 := blk_frozen BK119.out 14; have hfz40_15 := blk_frozen BK119.out 15; have hfz40_16 := blk_frozen BK119.out 16; have hfz40_17 := blk_frozen BK119.out 17; have hfz40_18 := blk_frozen BK119.out 18; have hfz40_19 := blk_frozen BK119.out 19))
            go_ret3
            exact ⟨by first | rfl | (simp [errW_none, errW_some] <;> rfl) | (simp [*, errW_none, errW_some] <;> rfl), by repeat (first | (with_reducible first | exact HB.out | apply below_alloc | apply pw_below_drewN | apply below_drew1 | refine below_set ?_ GE119.out) | exact HB.out)⟩
  · replace c7 := Bool.eq_false_iff.mpr c7
    subst c7
    have H1 : (some (0, 0, 2)) = some (r1, r2, r3) := by rw [if_neg (show ¬ (false = true) by decide)] at H; exact H
    clear H
    have H := H1
    clear H1
    simp only [Option.some.injEq, Prod.mk.injEq] at H
    obtain ⟨rfl, rfl, rfl⟩ := H
    go_enter Try.func7, Try.ntmps7
    go_wp2_with (first | (refine wpList_load_row rfl 27 (.tmp 5) rfl gb119 rfl 27 _ (0, 0) _ BK119.out Try.underlying27 rfl (by kernel_rfl) ?_) | ((with_reducible refine gate_dst (N := 5) rfl ?_); refine box_event ?hg (N := 5) ?hd (cs := #[.slice A0_0 l0_0.length c0_0, .int .u8 a0_1, .int .i64 a0_2, .bool a0_3, .int .i64 a0_4, .int .i64 a0_5, .int .i64 a0_6, .int .i64 a0_7, .int .i64 a0_8, .int .i64 a0_9, .int .u64 a0_10, .int .u64 a0_11, .int .u64 a0_12, .int .u64 a0_13, .int .u64 a0_14, .int .u64 a0_15, .bool a0_16, .int .i64 a0_17, .slice A0_18 l0_18.length c0_18, .slice A0_19 l0_19.length c0_19]) (t := 27) ?hr ?_; (case hd => rfl); (case hg => rfl); (case hr => first | (go_simp; done) | (go_simp; rfl)); intro gb119 hg w41 hbox hb; have n0_ := Aside0.mk (below_step (by repeat (first | (with_reducible first | exact HB.out | apply below_alloc | apply pw_below_drewN | apply below_drew1) | exact HB.out)) hb); have n1_ := Aside0.mk (hbox); have n2_ := Aside0.mk ((by rw [hg]; exact (below_size (by repeat (first | (with_reducible first | exact HB.out | apply below_alloc | apply pw_below_drewN | apply below_drew1) | exact HB.out))) : w.heap.size ≤ gb119)); have n3_ := Aside0.mk ((by rw [hg]; exact (below_size (by repeat (first | (with_reducible first | exact HB.out | apply below_alloc | apply pw_below_drewN | apply below_drew1) | exact HB.out))) : w.heap.size ≤ gb119)); clear HB; have HB := n0_; have BK119 := n1_; have GW119 := n2_; have GE119 := n3_; clear n0_ n1_ n2_ n3_; clear hb hbox hg; have hcz42_0 : w41.cell? ⟨gb119, 0, none⟩ = some (.slice A0_0 l0_0.length c0_0) := (blk_cell BK119.out 0).trans rfl; have hcz42_1 : w41.cell? ⟨gb119, 1, none⟩ = some (.int .u8 a0_1) := (blk_cell BK119.out 1).trans rfl; have hcz42_2 : w41.cell? ⟨gb119, 2, none⟩ = some (.int .i64 a0_2) := (blk_cell BK119.out 2).trans rfl; have hcz42_3 : w41.cell? ⟨gb119, 3, none⟩ = some (.bool a0_3) := (blk_cell BK119.out 3).trans rfl; have hcz42_4 : w41.cell? ⟨gb119, 4, none⟩ = some (.int .i64 a0_4) := (blk_cell BK119.out 4).trans rfl; have hcz42_5 : w41.cell? ⟨gb119, 5, none⟩ = some (.int .i64 a0_5) := (blk_cell BK119.out 5).trans rfl; have hcz42_6 : w41.cell? ⟨gb119, 6, none⟩ = some (.int .i64 a0_6) := (blk_cell BK119.out 6).trans rfl; have hcz42_7 : w41.cell? ⟨gb119, 7, none⟩ = some (.int .i64 a0_7) := (blk_cell BK119.out 7).trans rfl; have hcz42_8 : w41.cell? ⟨gb119, 8, none⟩ = some (.int .i64 a0_8) := (blk_cell BK119.out 8).trans rfl; have hcz42_9 : w41.cell? ⟨gb119, 9, none⟩ = some (.int .i64 a0_9) := (blk_cell BK119.out 9).trans rfl; have hcz42_10 : w41.cell? ⟨gb119, 10, none⟩ = some (.int .u64 a0_10) := (blk_cell BK119.out 10).trans rfl; have hcz42_11 : w41.cell? ⟨gb119, 11, none⟩ = some (.int .u64 a0_11) := (blk_cell BK119.out 11).trans rfl; have hcz42_12 : w41.cell? ⟨gb119, 12, none⟩ = some (.int .u64 a0_12) := (blk_cell BK119.out 12).trans rfl; have hcz42_13 : w41.cell? ⟨gb119, 13, none⟩ = some (.int .u64 a0_13) := (blk_cell BK119.out 13).trans rfl; have hcz42_14 : w41.cell? ⟨gb119, 14, none⟩ = some (.int .u64 a0_14) := (blk_cell BK119.out 14).trans rfl; have hcz42_15 : w41.cell? ⟨gb119, 15, none⟩ = some (.int .u64 a0_15) := (blk_cell BK119.out 15).trans rfl; have hcz42_16 : w41.cell? ⟨gb119, 16, none⟩ = some (.bool a0_16) := (blk_cell BK119.out 16).trans rfl; have hcz42_17 : w41.cell? ⟨gb119, 17, none⟩ = some (.int .i64 a0_17) := (blk_cell BK119.out 17).trans rfl; have hcz42_18 : w41.cell? ⟨gb119, 18, none⟩ = some (.slice A0_18 l0_18.length c0_18) := (blk_cell BK119.out 18).trans rfl; have hcz42_19 : w41.cell? ⟨gb119, 19, none⟩ = some (.slice A0_19 l0_19.length c0_19) := (blk_cell BK119.out 19).trans rfl; have hfz42_0 := blk_frozen BK119.out 0; have hfz42_1 := blk_frozen BK119.out 1; have hfz42_2 := blk_frozen BK119.out 2; have hfz42_3 := blk_frozen BK119.out 3; have hfz42_4 := blk_frozen BK119.out 4; have hfz42_5 := blk_frozen BK119.out 5; have hfz42_6 := blk_frozen BK119.out 6; have hfz42_7 := blk_frozen BK119.out 7; have hfz42_8 := blk_frozen BK119.out 8; have hfz42_9 := blk_frozen BK119.out 9; have hfz42_10 := blk_frozen BK119.out 10; have hfz42_11 := blk_frozen BK119.out 11; have hfz42_12 := blk_frozen BK119.out 12; have hfz42_13 := blk_frozen BK119.out 13; have hfz42_14 := blk_frozen BK119.out 14; have hfz42_15 := blk_frozen BK119.out 15; have hfz42_16 := blk_frozen BK119.out 16; have hfz42_17 := blk_frozen BK119.out 17; have hfz42_18 := blk_frozen BK119.out 18; have hfz42_19 := blk_frozen BK119.out 19) | ((with_reducible refine gate_callee (f := 10) rfl ?_); refine goesL_ (some 18) rfl rfl Try.func10 (by kernel_rfl) rfl #[.agg #[.slice A0_0 l0_0.length c0_0, .int .u8 a0_1, .int .i64 a0_2, .bool a0_3, .int .i64 a0_4, .int .i64 a0_5, .int .i64 a0_6, .int .i64 a0_7, .int .i64 a0_8, .int .i64 a0_9, .int .u64 a0_10, .int .u64 a0_11, .int .u64 a0_12, .int .u64 a0_13, .int .u64 a0_14, .int .u64 a0_15, .bool a0_16, .int .i64 a0_17, .slice A0_18 l0_18.length c0_18, .slice A0_19 l0_19.length c0_19], .int .i64 a1, .int .u64 a2, .int .u64 a3, .int .i64 a4] rfl (by (try simp only [List.map_toArray, List.map_cons, List.map_nil]); first | done | rfl | (simp only [List.length_drop, List.length_take]; rfl)) ?_; (with_reducible refine (want_may.calls _ _ l0_0 a0_1 a0_2 a0_3 a0_4 a0_5 a0_6 a0_7 a0_8 a0_9 a0_10 a0_11 a0_12 a0_13 a0_14 a0_15 a0_16 a0_17 _ _ l0_18 _ _ l0_19 a1 a2 a3 a4 false _ ?side1 ?side2 ?side3 ?side4 ?side5 ?side6 A6.out).mono ?_); (case side1 => repeat (first | exact (Kd.C_below HR0_0.out HB.out) | (with_reducible refine Kd.C_alloc ?_ _) | (with_reducible refine Kd.C_drewN ?_ _) | (with_reducible refine Kd.C_drew ?_))); (case side2 => exact HC0_0.out); (case side3 => repeat (first | exact (Kd.C_below HR0_18.out HB.out) | (with_reducible refine Kd.C_alloc ?_ _) | (with_reducible refine Kd.C_drewN ?_ _) | (with_reducible refine Kd.C_drew ?_))); (case side4 => exact HC0_18.out); (case side5 => repeat (first | exact (Kd.C_below HR0_19.out HB.out) | (with_reducible refine Kd.C_alloc ?_ _) | (with_reducible refine Kd.C_drewN ?_ _) | (with_reducible refine Kd.C_drew ?_))); (case side6 => exact HC0_19.out); rintro e w43 ⟨rfl, hb⟩; refine ⟨_, rfl, ?_⟩; have n0_ := Aside0.mk (blk_below (g := gb119) (o := .cells #[.slice A0_0 l0_0.length c0_0, .int .u8 a0_1, .int .i64 a0_2, .bool a0_3, .int .i64 a0_4, .int .i64 a0_5, .int .i64 a0_6, .int .i64 a0_7, .int .i64 a0_8, .int .i64 a0_9, .int .u64 a0_10, .int .u64 a0_11, .int .u64 a0_12, .int .u64 a0_13, .int .u64 a0_14, .int .u64 a0_15, .bool a0_16, .int .i64 a0_17, .slice A0_18 l0_18.length c0_18, .slice A0_19 l0_19.length c0_19] 27 (0, 0)) (by (with_reducible repeat (first | refine blk_drewN ?_ _ | refine blk_drew ?_ | refine blk_alloc ?_ _)); exact BK119.out) hb); have n1_ := Aside0.mk (below_step (by repeat (first | (with_reducible first | exact HB.out | apply below_alloc | apply pw_below_drewN | apply below_drew1 | refine below_set ?_ GE119.out) | exact HB.out)) hb); clear BK119; clear HB; have BK119 := n0_; have HB := n1_; clear n0_ n1_; (try clear hb); (try clear hb2); (try clear hk); (try clear hi)))
    go_ret3
    exact ⟨by first | rfl | (simp [errW_none, errW_some] <;> rfl) | (simp [*, errW_none, errW_some] <;> rfl), by repeat (first | (with_reducible first | exact HB.out | apply below_alloc | apply pw_below_drewN | apply below_drew1 | refine below_set ?_ GE119.out) | exact HB.out)⟩

end Go.Proofs.Ytiohijahacclnaa.GB
