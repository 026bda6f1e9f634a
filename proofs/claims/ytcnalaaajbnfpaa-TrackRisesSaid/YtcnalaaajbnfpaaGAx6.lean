/- Contracts: each call of a Go function answers what the Lean function of its name says; a law of the set follows. No condition but each theorem's own. Written by a program of this session's out of the translation, with the functions proved by hand let in. -/
import Derived.Test.YtcnalaaajbnfpaaGAx0
import Derived.Test.YtcnalaaajbnfpaaGAx5
namespace Go.Proofs.Ytcnalaaajbnfpaa.GA
open Go.RowKit Go.Proofs.YtcnalaaajbnfpaaW.PrintWords Go.Proofs.YtcnalaaajbnfpaaW.PrintLast Go.Proofs.YtcnalaaajbnfpaaW.PrintMore
attribute [local go_sem] max2_int min2_int max_two min_two max_three min_three max_four min_four   -- for this text's walks alone
set_option linter.unusedVariables false
set_option linter.unusedSimpArgs false

/-! ### cohortlaw21_lives: function 13 -/
def cohortlaw21_lives.f (k : Nat)  : Option (Bool) := (track_Want.f k 10 70 50).bind fun bt159 => ((track_Want.f k 3 51 50).bind fun bt161 => ((track_Want.f k 10 70 0).bind fun bt163 => ((track_Want.f k 4611686018427387904 4 1).bind fun bt165 => (if bt159.1 = 14 then (if bt159.2 = 0 then (if bt161.1 = 4 then (if bt161.2 = 0 then (if bt163.2 = 2 then (if bt165.2 = 11 then ((track_Steady.f k 10 46 50).bind fun t167 => (if t167 = true then ((track_Steady.f k 10 45 50).bind fun t168 => (some (!t168))) else (some false))) else (some false)) else (some false)) else (some false)) else (some false)) else (some false)) else (some false)))))
theorem cohortlaw21_lives.mono : ∀ k, LeO (cohortlaw21_lives.f k ) (cohortlaw21_lives.f (k + 1) ) := by
  intro  k
  unfold cohortlaw21_lives.f
  repeat' first
      | (with_reducible exact track_Steady.mono _ _ _ _)
      | (with_reducible exact track_Want.mono _ _ _ _)
      | (with_reducible exact LeO.refl _)
      | (with_reducible exact LeO.none _)
      | (with_reducible refine LeO.ite ?_ ?_)
      | (with_reducible refine LeO.bind ?_ (fun _ => ?_))
      | exact track_Steady.mono _ _ _ _
      | exact track_Want.mono _ _ _ _
      | exact LeO.none _
      | refine LeO.ite ?_ ?_
      | refine LeO.bind ?_ (fun _ => ?_)
set_option maxHeartbeats 8000000 in
set_option maxRecDepth 100000 in
theorem cohortlaw21_lives.calls (k : Nat)  (r : Bool) (w : World) (h : cohortlaw21_lives.f k  = some r) :
    Calls Try.prog 13 #[] w fun e w' => e = .returned (.bool r) ∧ Drawn0 w w' := by
  have H : ((track_Want.f k 10 70 50).bind fun bt159 => ((track_Want.f k 3 51 50).bind fun bt161 => ((track_Want.f k 10 70 0).bind fun bt163 => ((track_Want.f k 4611686018427387904 4 1).bind fun bt165 => (if bt159.1 = 14 then (if bt159.2 = 0 then (if bt161.1 = 4 then (if bt161.2 = 0 then (if bt163.2 = 2 then (if bt165.2 = 11 then ((track_Steady.f k 10 46 50).bind fun t167 => (if t167 = true then ((track_Steady.f k 10 45 50).bind fun t168 => (some (!t168))) else (some false))) else (some false)) else (some false)) else (some false)) else (some false)) else (some false)) else (some false)))))) = some r := h
  clear h
  replace H := Option.bind_eq_some_iff.mp H
  obtain ⟨⟨t159, t160⟩, A10, H⟩ := H
  replace H : ((track_Want.f k 3 51 50).bind fun bt161 => ((track_Want.f k 10 70 0).bind fun bt163 => ((track_Want.f k 4611686018427387904 4 1).bind fun bt165 => (if t159 = 14 then (if t160 = 0 then (if bt161.1 = 4 then (if bt161.2 = 0 then (if bt163.2 = 2 then (if bt165.2 = 11 then ((track_Steady.f k 10 46 50).bind fun t167 => (if t167 = true then ((track_Steady.f k 10 45 50).bind fun t168 => (some (!t168))) else (some false))) else (some false)) else (some false)) else (some false)) else (some false)) else (some false)) else (some false))))) = some r := H
  have A1 := Aside0.mk A10
  clear A10
  replace H := Option.bind_eq_some_iff.mp H
  obtain ⟨⟨t161, t162⟩, A20, H⟩ := H
  replace H : ((track_Want.f k 10 70 0).bind fun bt163 => ((track_Want.f k 4611686018427387904 4 1).bind fun bt165 => (if t159 = 14 then (if t160 = 0 then (if t161 = 4 then (if t162 = 0 then (if bt163.2 = 2 then (if bt165.2 = 11 then ((track_Steady.f k 10 46 50).bind fun t167 => (if t167 = true then ((track_Steady.f k 10 45 50).bind fun t168 => (some (!t168))) else (some false))) else (some false)) else (some false)) else (some false)) else (some false)) else (some false)) else (some false)))) = some r := H
  have A2 := Aside0.mk A20
  clear A20
  replace H := Option.bind_eq_some_iff.mp H
  obtain ⟨⟨t163, t164⟩, A30, H⟩ := H
  replace H : ((track_Want.f k 4611686018427387904 4 1).bind fun bt165 => (if t159 = 14 then (if t160 = 0 then (if t161 = 4 then (if t162 = 0 then (if t164 = 2 then (if bt165.2 = 11 then ((track_Steady.f k 10 46 50).bind fun t167 => (if t167 = true then ((track_Steady.f k 10 45 50).bind fun t168 => (some (!t168))) else (some false))) else (some false)) else (some false)) else (some false)) else (some false)) else (some false)) else (some false))) = some r := H
  have A3 := Aside0.mk A30
  clear A30
  replace H := Option.bind_eq_some_iff.mp H
  obtain ⟨⟨t165, t166⟩, A40, H⟩ := H
  replace H : (if t159 = 14 then (if t160 = 0 then (if t161 = 4 then (if t162 = 0 then (if t164 = 2 then (if t166 = 11 then ((track_Steady.f k 10 46 50).bind fun t167 => (if t167 = true then ((track_Steady.f k 10 45 50).bind fun t168 => (some (!t168))) else (some false))) else (some false)) else (some false)) else (some false)) else (some false)) else (some false)) else (some false)) = some r := H
  have A4 := Aside0.mk A40
  clear A40
  by_cases c5 : t159 = 14
  · rw [if_pos c5] at H
    have c5b0 : (t159 == 14) = true := beq_iff_eq.mpr c5
    have c5b1 : (t159 != 14) = false := bne_eq_false_iff_eq.mpr c5
    clear c5
    by_cases c6 : t160 = 0
    · rw [if_pos c6] at H
      have c6b0 : (t160 == 0) = true := beq_iff_eq.mpr c6
      have c6b1 : (t160 != 0) = false := bne_eq_false_iff_eq.mpr c6
      clear c6
      by_cases c7 : t161 = 4
      · rw [if_pos c7] at H
        have c7b0 : (t161 == 4) = true := beq_iff_eq.mpr c7
        have c7b1 : (t161 != 4) = false := bne_eq_false_iff_eq.mpr c7
        clear c7
        by_cases c8 : t162 = 0
        · rw [if_pos c8] at H
          have c8b0 : (t162 == 0) = true := beq_iff_eq.mpr c8
          have c8b1 : (t162 != 0) = false := bne_eq_false_iff_eq.mpr c8
          clear c8
          by_cases c9 : t164 = 2
          · rw [if_pos c9] at H
            have c9b0 : (t164 == 2) = true := beq_iff_eq.mpr c9
            have c9b1 : (t164 != 2) = false := bne_eq_false_iff_eq.mpr c9
            clear c9
            by_cases c10 : t166 = 11
            · rw [if_pos c10] at H
              have c10b0 : (t166 == 11) = true := beq_iff_eq.mpr c10
              have c10b1 : (t166 != 11) = false := bne_eq_false_iff_eq.mpr c10
              clear c10
              replace H := Option.bind_eq_some_iff.mp H
              obtain ⟨t167, A110, H⟩ := H
              replace H : (if t167 = true then ((track_Steady.f k 10 45 50).bind fun t168 => (some (!t168))) else (some false)) = some r := H
              have A11 := Aside0.mk A110
              clear A110
              by_cases c12 : t167 = true
              · subst c12
                have H1 : ((track_Steady.f k 10 45 50).bind fun t168 => (some (!t168))) = some r := by rw [if_pos rfl] at H; exact H
                clear H
                have H := H1
                clear H1
                replace H := Option.bind_eq_some_iff.mp H
                obtain ⟨t168, A130, H⟩ := H
                replace H : (some (!t168)) = some r := H
                have A13 := Aside0.mk A130
                clear A130
                obtain rfl := Option.some.inj H
                go_enter Try.func13, Try.ntmps13
                go_wp2_with (first | ((with_reducible refine gate_callee (f := 9) rfl ?_); refine goesL_ (some 10) rfl rfl Try.func9 (by kernel_rfl) rfl #[.int .i64 10, .int .i64 70, .int .i64 50] rfl (by (try simp only [List.map_toArray, List.map_cons, List.map_nil]); first | done | rfl | (simp only [List.length_drop, List.length_take]; rfl)) ?_; (with_reducible refine (track_Want.calls k 10 70 50 t159 t160 _ A1.out).mono ?_); rintro e w' ⟨rfl, ⟨nd, rfl⟩⟩; refine ⟨_, rfl, ?_⟩) | ((with_reducible refine gate_callee (f := 9) rfl ?_); refine goesL_ (some 14) rfl rfl Try.func9 (by kernel_rfl) rfl #[.int .i64 3, .int .i64 51, .int .i64 50] rfl (by (try simp only [List.map_toArray, List.map_cons, List.map_nil]); first | done | rfl | (simp only [List.length_drop, List.length_take]; rfl)) ?_; (with_reducible refine (track_Want.calls k 3 51 50 t161 t162 _ A2.out).mono ?_); rintro e w' ⟨rfl, ⟨nd, rfl⟩⟩; refine ⟨_, rfl, ?_⟩) | ((with_reducible refine gate_callee (f := 9) rfl ?_); refine goesL_ (some 18) rfl rfl Try.func9 (by kernel_rfl) rfl #[.int .i64 10, .int .i64 70, .int .i64 0] rfl (by (try simp only [List.map_toArray, List.map_cons, List.map_nil]); first | done | rfl | (simp only [List.length_drop, List.length_take]; rfl)) ?_; (with_reducible refine (track_Want.calls k 10 70 0 t163 t164 _ A3.out).mono ?_); rintro e w' ⟨rfl, ⟨nd, rfl⟩⟩; refine ⟨_, rfl, ?_⟩) | ((with_reducible refine gate_callee (f := 9) rfl ?_); refine goesL_ (some 22) rfl rfl Try.func9 (by kernel_rfl) rfl #[.int .i64 4611686018427387904, .int .i64 4, .int .i64 1] rfl (by (try simp only [List.map_toArray, List.map_cons, List.map_nil]); first | done | rfl | (simp only [List.length_drop, List.length_take]; rfl)) ?_; (with_reducible refine (track_Want.calls k 4611686018427387904 4 1 t165 t166 _ A4.out).mono ?_); rintro e w' ⟨rfl, ⟨nd, rfl⟩⟩; refine ⟨_, rfl, ?_⟩) | (go_at_call 11; (with_reducible refine (track_Steady.calls k 10 46 50 true _ A11.out).mono ?_); rintro e w' ⟨rfl, ⟨nd, rfl⟩⟩) | (go_at_call 11; (with_reducible refine (track_Steady.calls k 10 45 50 t168 _ A13.out).mono ?_); rintro e w' ⟨rfl, ⟨nd, rfl⟩⟩))
                go_ret
                exact ⟨by first | rfl | (simp; done) | (simp [*]; done), by repeat (first | exact Drawn0.refl _ | apply Drawn0.step)⟩
              · replace c12 := Bool.eq_false_iff.mpr c12
                subst c12
                have H1 : (some false) = some r := by rw [if_neg (show ¬ (false = true) by decide)] at H; exact H
                clear H
                have H := H1
                clear H1
                obtain rfl := Option.some.inj H
                go_enter Try.func13, Try.ntmps13
                go_wp2_with (first | ((with_reducible refine gate_callee (f := 9) rfl ?_); refine goesL_ (some 10) rfl rfl Try.func9 (by kernel_rfl) rfl #[.int .i64 10, .int .i64 70, .int .i64 50] rfl (by (try simp only [List.map_toArray, List.map_cons, List.map_nil]); first | done | rfl | (simp only [List.length_drop, List.length_take]; rfl)) ?_; (with_reducible refine (track_Want.calls k 10 70 50 t159 t160 _ A1.out).mono ?_); rintro e w' ⟨rfl, ⟨nd, rfl⟩⟩; refine ⟨_, rfl, ?_⟩) | ((with_reducible refine gate_callee (f := 9) rfl ?_); refine goesL_ (some 14) rfl rfl Try.func9 (by kernel_rfl) rfl #[.int .i64 3, .int .i64 51, .int .i64 50] rfl (by (try simp only [List.map_toArray, List.map_cons, List.map_nil]); first | done | rfl | (simp only [List.length_drop, List.length_take]; rfl)) ?_; (with_reducible refine (track_Want.calls k 3 51 50 t161 t162 _ A2.out).mono ?_); rintro e w' ⟨rfl, ⟨nd, rfl⟩⟩; refine ⟨_, rfl, ?_⟩) | ((with_reducible refine gate_callee (f := 9) rfl ?_); refine goesL_ (some 18) rfl rfl Try.func9 (by kernel_rfl) rfl #[.int .i64 10, .int .i64 70, .int .i64 0] rfl (by (try simp only [List.map_toArray, List.map_cons, List.map_nil]); first | done | rfl | (simp only [List.length_drop, List.length_take]; rfl)) ?_; (with_reducible refine (track_Want.calls k 10 70 0 t163 t164 _ A3.out).mono ?_); rintro e w' ⟨rfl, ⟨nd, rfl⟩⟩; refine ⟨_, rfl, ?_⟩) | ((with_reducible refine gate_callee (f := 9) rfl ?_); refine goesL_ (some 22) rfl rfl Try.func9 (by kernel_rfl) rfl #[.int .i64 4611686018427387904, .int .i64 4, .int .i64 1] rfl (by (try simp only [List.map_toArray, List.map_cons, List.map_nil]); first | done | rfl | (simp only [List.length_drop, List.length_take]; rfl)) ?_; (with_reducible refine (track_Want.calls k 4611686018427387904 4 1 t165 t166 _ A4.out).mono ?_); rintro e w' ⟨rfl, ⟨nd, rfl⟩⟩; refine ⟨_, rfl, ?_⟩) | (go_at_call 11; (with_reducible refine (track_Steady.calls k 10 46 50 false _ A11.out).mono ?_); rintro e w' ⟨rfl, ⟨nd, rfl⟩⟩))
                go_ret
                exact ⟨by first | rfl | (simp; done) | (simp [*]; done), by repeat (first | exact Drawn0.refl _ | apply Drawn0.step)⟩
            · rw [if_neg c10] at H
              have c10b0 : (t166 == 11) = false := beq_eq_false_iff_ne.mpr c10
              have c10b1 : (t166 != 11) = true := bne_iff_ne.mpr c10
              obtain rfl := Option.some.inj H
              go_enter Try.func13, Try.ntmps13
              go_wp2_with (first | ((with_reducible refine gate_callee (f := 9) rfl ?_); refine goesL_ (some 10) rfl rfl Try.func9 (by kernel_rfl) rfl #[.int .i64 10, .int .i64 70, .int .i64 50] rfl (by (try simp only [List.map_toArray, List.map_cons, List.map_nil]); first | done | rfl | (simp only [List.length_drop, List.length_take]; rfl)) ?_; (with_reducible refine (track_Want.calls k 10 70 50 t159 t160 _ A1.out).mono ?_); rintro e w' ⟨rfl, ⟨nd, rfl⟩⟩; refine ⟨_, rfl, ?_⟩) | ((with_reducible refine gate_callee (f := 9) rfl ?_); refine goesL_ (some 14) rfl rfl Try.func9 (by kernel_rfl) rfl #[.int .i64 3, .int .i64 51, .int .i64 50] rfl (by (try simp only [List.map_toArray, List.map_cons, List.map_nil]); first | done | rfl | (simp only [List.length_drop, List.length_take]; rfl)) ?_; (with_reducible refine (track_Want.calls k 3 51 50 t161 t162 _ A2.out).mono ?_); rintro e w' ⟨rfl, ⟨nd, rfl⟩⟩; refine ⟨_, rfl, ?_⟩) | ((with_reducible refine gate_callee (f := 9) rfl ?_); refine goesL_ (some 18) rfl rfl Try.func9 (by kernel_rfl) rfl #[.int .i64 10, .int .i64 70, .int .i64 0] rfl (by (try simp only [List.map_toArray, List.map_cons, List.map_nil]); first | done | rfl | (simp only [List.length_drop, List.length_take]; rfl)) ?_; (with_reducible refine (track_Want.calls k 10 70 0 t163 t164 _ A3.out).mono ?_); rintro e w' ⟨rfl, ⟨nd, rfl⟩⟩; refine ⟨_, rfl, ?_⟩) | ((with_reducible refine gate_callee (f := 9) rfl ?_); refine goesL_ (some 22) rfl rfl Try.func9 (by kernel_rfl) rfl #[.int .i64 4611686018427387904, .int .i64 4, .int .i64 1] rfl (by (try simp only [List.map_toArray, List.map_cons, List.map_nil]); first | done | rfl | (simp only [List.length_drop, List.length_take]; rfl)) ?_; (with_reducible refine (track_Want.calls k 4611686018427387904 4 1 t165 t166 _ A4.out).mono ?_); rintro e w' ⟨rfl, ⟨nd, rfl⟩⟩; refine ⟨_, rfl, ?_⟩))
              go_ret
              exact ⟨by first | rfl | (simp; done) | (simp [*]; done), by repeat (first | exact Drawn0.refl _ | apply Drawn0.step)⟩
          · rw [if_neg c9] at H
            have c9b0 : (t164 == 2) = false := beq_eq_false_iff_ne.mpr c9
            have c9b1 : (t164 != 2) = true := bne_iff_ne.mpr c9
            obtain rfl := Option.some.inj H
            go_enter Try.func13, Try.ntmps13
            go_wp2_with (first | ((with_reducible refine gate_callee (f := 9) rfl ?_); refine goesL_ (some 10) rfl rfl Try.func9 (by kernel_rfl) rfl #[.int .i64 10, .int .i64 70, .int .i64 50] rfl (by (try simp only [List.map_toArray, List.map_cons, List.map_nil]); first | done | rfl | (simp only [List.length_drop, List.length_take]; rfl)) ?_; (with_reducible refine (track_Want.calls k 10 70 50 t159 t160 _ A1.out).mono ?_); rintro e w' ⟨rfl, ⟨nd, rfl⟩⟩; refine ⟨_, rfl, ?_⟩) | ((with_reducible refine gate_callee (f := 9) rfl ?_); refine goesL_ (some 14) rfl rfl Try.func9 (by kernel_rfl) rfl #[.int .i64 3, .int .i64 51, .int .i64 50] rfl (by (try simp only [List.map_toArray, List.map_cons, List.map_nil]); first | done | rfl | (simp only [List.length_drop, List.length_take]; rfl)) ?_; (with_reducible refine (track_Want.calls k 3 51 50 t161 t162 _ A2.out).mono ?_); rintro e w' ⟨rfl, ⟨nd, rfl⟩⟩; refine ⟨_, rfl, ?_⟩) | ((with_reducible refine gate_callee (f := 9) rfl ?_); refine goesL_ (some 18) rfl rfl Try.func9 (by kernel_rfl) rfl #[.int .i64 10, .int .i64 70, .int .i64 0] rfl (by (try simp only [List.map_toArray, List.map_cons, List.map_nil]); first | done | rfl | (simp only [List.length_drop, List.length_take]; rfl)) ?_; (with_reducible refine (track_Want.calls k 10 70 0 t163 t164 _ A3.out).mono ?_); rintro e w' ⟨rfl, ⟨nd, rfl⟩⟩; refine ⟨_, rfl, ?_⟩) | ((with_reducible refine gate_callee (f := 9) rfl ?_); refine goesL_ (some 22) rfl rfl Try.func9 (by kernel_rfl) rfl #[.int .i64 4611686018427387904, .int .i64 4, .int .i64 1] rfl (by (try simp only [List.map_toArray, List.map_cons, List.map_nil]); first | done | rfl | (simp only [List.length_drop, List.length_take]; rfl)) ?_; (with_reducible refine (track_Want.calls k 4611686018427387904 4 1 t165 t166 _ A4.out).mono ?_); rintro e w' ⟨rfl, ⟨nd, rfl⟩⟩; refine ⟨_, rfl, ?_⟩))
            go_ret
            exact ⟨by first | rfl | (simp; done) | (simp [*]; done), by repeat (first | exact Drawn0.refl _ | apply Drawn0.step)⟩
        · rw [if_neg c8] at H
          have c8b0 : (t162 == 0) = false := beq_eq_false_iff_ne.mpr c8
          have c8b1 : (t162 != 0) = true := bne_iff_ne.mpr c8
          obtain rfl := Option.some.inj H
          go_enter Try.func13, Try.ntmps13
          go_wp2_with (first | ((with_reducible refine gate_callee (f := 9) rfl ?_); refine goesL_ (some 10) rfl rfl Try.func9 (by kernel_rfl) rfl #[.int .i64 10, .int .i64 70, .int .i64 50] rfl (by (try simp only [List.map_toArray, List.map_cons, List.map_nil]); first | done | rfl | (simp only [List.length_drop, List.length_take]; rfl)) ?_; (with_reducible refine (track_Want.calls k 10 70 50 t159 t160 _ A1.out).mono ?_); rintro e w' ⟨rfl, ⟨nd, rfl⟩⟩; refine ⟨_, rfl, ?_⟩) | ((with_reducible refine gate_callee (f := 9) rfl ?_); refine goesL_ (some 14) rfl rfl Try.func9 (by kernel_rfl) rfl #[.int .i64 3, .int .i64 51, .int .i64 50] rfl (by (try simp only [List.map_toArray, List.map_cons, List.map_nil]); first | done | rfl | (simp only [List.length_drop, List.length_take]; rfl)) ?_; (with_reducible refine (track_Want.calls k 3 51 50 t161 t162 _ A2.out).mono ?_); rintro e w' ⟨rfl, ⟨nd, rfl⟩⟩; refine ⟨_, rfl, ?_⟩) | ((with_reducible refine gate_callee (f := 9) rfl ?_); refine goesL_ (some 18) rfl rfl Try.func9 (by kernel_rfl) rfl #[.int .i64 10, .int .i64 70, .int .i64 0] rfl (by (try simp only [List.map_toArray, List.map_cons, List.map_nil]); first | done | rfl | (simp only [List.length_drop, List.length_take]; rfl)) ?_; (with_reducible refine (track_Want.calls k 10 70 0 t163 t164 _ A3.out).mono ?_); rintro e w' ⟨rfl, ⟨nd, rfl⟩⟩; refine ⟨_, rfl, ?_⟩) | ((with_reducible refine gate_callee (f := 9) rfl ?_); refine goesL_ (some 22) rfl rfl Try.func9 (by kernel_rfl) rfl #[.int .i64 4611686018427387904, .int .i64 4, .int .i64 1] rfl (by (try simp only [List.map_toArray, List.map_cons, List.map_nil]); first | done | rfl | (simp only [List.length_drop, List.length_take]; rfl)) ?_; (with_reducible refine (track_Want.calls k 4611686018427387904 4 1 t165 t166 _ A4.out).mono ?_); rintro e w' ⟨rfl, ⟨nd, rfl⟩⟩; refine ⟨_, rfl, ?_⟩))
          go_ret
          exact ⟨by first | rfl | (simp; done) | (simp [*]; done), by repeat (first | exact Drawn0.refl _ | apply Drawn0.step)⟩
      · rw [if_neg c7] at H
        have c7b0 : (t161 == 4) = false := beq_eq_false_iff_ne.mpr c7
        have c7b1 : (t161 != 4) = true := bne_iff_ne.mpr c7
        obtain rfl := Option.some.inj H
        go_enter Try.func13, Try.ntmps13
        go_wp2_with (first | ((with_reducible refine gate_callee (f := 9) rfl ?_); refine goesL_ (some 10) rfl rfl Try.func9 (by kernel_rfl) rfl #[.int .i64 10, .int .i64 70, .int .i64 50] rfl (by (try simp only [List.map_toArray, List.map_cons, List.map_nil]); first | done | rfl | (simp only [List.length_drop, List.length_take]; rfl)) ?_; (with_reducible refine (track_Want.calls k 10 70 50 t159 t160 _ A1.out).mono ?_); rintro e w' ⟨rfl, ⟨nd, rfl⟩⟩; refine ⟨_, rfl, ?_⟩) | ((with_reducible refine gate_callee (f := 9) rfl ?_); refine goesL_ (some 14) rfl rfl Try.func9 (by kernel_rfl) rfl #[.int .i64 3, .int .i64 51, .int .i64 50] rfl (by (try simp only [List.map_toArray, List.map_cons, List.map_nil]); first | done | rfl | (simp only [List.length_drop, List.length_take]; rfl)) ?_; (with_reducible refine (track_Want.calls k 3 51 50 t161 t162 _ A2.out).mono ?_); rintro e w' ⟨rfl, ⟨nd, rfl⟩⟩; refine ⟨_, rfl, ?_⟩) | ((with_reducible refine gate_callee (f := 9) rfl ?_); refine goesL_ (some 18) rfl rfl Try.func9 (by kernel_rfl) rfl #[.int .i64 10, .int .i64 70, .int .i64 0] rfl (by (try simp only [List.map_toArray, List.map_cons, List.map_nil]); first | done | rfl | (simp only [List.length_drop, List.length_take]; rfl)) ?_; (with_reducible refine (track_Want.calls k 10 70 0 t163 t164 _ A3.out).mono ?_); rintro e w' ⟨rfl, ⟨nd, rfl⟩⟩; refine ⟨_, rfl, ?_⟩) | ((with_reducible refine gate_callee (f := 9) rfl ?_); refine goesL_ (some 22) rfl rfl Try.func9 (by kernel_rfl) rfl #[.int .i64 4611686018427387904, .int .i64 4, .int .i64 1] rfl (by (try simp only [List.map_toArray, List.map_cons, List.map_nil]); first | done | rfl | (simp only [List.length_drop, List.length_take]; rfl)) ?_; (with_reducible refine (track_Want.calls k 4611686018427387904 4 1 t165 t166 _ A4.out).mono ?_); rintro e w' ⟨rfl, ⟨nd, rfl⟩⟩; refine ⟨_, rfl, ?_⟩))
        go_ret
        exact ⟨by first | rfl | (simp; done) | (simp [*]; done), by repeat (first | exact Drawn0.refl _ | apply Drawn0.step)⟩
    · rw [if_neg c6] at H
      have c6b0 : (t160 == 0) = false := beq_eq_false_iff_ne.mpr c6
      have c6b1 : (t160 != 0) = true := bne_iff_ne.mpr c6
      obtain rfl := Option.some.inj H
      go_enter Try.func13, Try.ntmps13
      go_wp2_with (first | ((with_reducible refine gate_callee (f := 9) rfl ?_); refine goesL_ (some 10) rfl rfl Try.func9 (by kernel_rfl) rfl #[.int .i64 10, .int .i64 70, .int .i64 50] rfl (by (try simp only [List.map_toArray, List.map_cons, List.map_nil]); first | done | rfl | (simp only [List.length_drop, List.length_take]; rfl)) ?_; (with_reducible refine (track_Want.calls k 10 70 50 t159 t160 _ A1.out).mono ?_); rintro e w' ⟨rfl, ⟨nd, rfl⟩⟩; refine ⟨_, rfl, ?_⟩) | ((with_reducible refine gate_callee (f := 9) rfl ?_); refine goesL_ (some 14) rfl rfl Try.func9 (by kernel_rfl) rfl #[.int .i64 3, .int .i64 51, .int .i64 50] rfl (by (try simp only [List.map_toArray, List.map_cons, List.map_nil]); first | done | rfl | (simp only [List.length_drop, List.length_take]; rfl)) ?_; (with_reducible refine (track_Want.calls k 3 51 50 t161 t162 _ A2.out).mono ?_); rintro e w' ⟨rfl, ⟨nd, rfl⟩⟩; refine ⟨_, rfl, ?_⟩) | ((with_reducible refine gate_callee (f := 9) rfl ?_); refine goesL_ (some 18) rfl rfl Try.func9 (by kernel_rfl) rfl #[.int .i64 10, .int .i64 70, .int .i64 0] rfl (by (try simp only [List.map_toArray, List.map_cons, List.map_nil]); first | done | rfl | (simp only [List.length_drop, List.length_take]; rfl)) ?_; (with_reducible refine (track_Want.calls k 10 70 0 t163 t164 _ A3.out).mono ?_); rintro e w' ⟨rfl, ⟨nd, rfl⟩⟩; refine ⟨_, rfl, ?_⟩) | ((with_reducible refine gate_callee (f := 9) rfl ?_); refine goesL_ (some 22) rfl rfl Try.func9 (by kernel_rfl) rfl #[.int .i64 4611686018427387904, .int .i64 4, .int .i64 1] rfl (by (try simp only [List.map_toArray, List.map_cons, List.map_nil]); first | done | rfl | (simp only [List.length_drop, List.length_take]; rfl)) ?_; (with_reducible refine (track_Want.calls k 4611686018427387904 4 1 t165 t166 _ A4.out).mono ?_); rintro e w' ⟨rfl, ⟨nd, rfl⟩⟩; refine ⟨_, rfl, ?_⟩))
      go_ret
      exact ⟨by first | rfl | (simp; done) | (simp [*]; done), by repeat (first | exact Drawn0.refl _ | apply Drawn0.step)⟩
  · rw [if_neg c5] at H
    have c5b0 : (t159 == 14) = false := beq_eq_false_iff_ne.mpr c5
    have c5b1 : (t159 != 14) = true := bne_iff_ne.mpr c5
    obtain rfl := Option.some.inj H
    go_enter Try.func13, Try.ntmps13
    go_wp2_with (first | ((with_reducible refine gate_callee (f := 9) rfl ?_); refine goesL_ (some 10) rfl rfl Try.func9 (by kernel_rfl) rfl #[.int .i64 10, .int .i64 70, .int .i64 50] rfl (by (try simp only [List.map_toArray, List.map_cons, List.map_nil]); first | done | rfl | (simp only [List.length_drop, List.length_take]; rfl)) ?_; (with_reducible refine (track_Want.calls k 10 70 50 t159 t160 _ A1.out).mono ?_); rintro e w' ⟨rfl, ⟨nd, rfl⟩⟩; refine ⟨_, rfl, ?_⟩) | ((with_reducible refine gate_callee (f := 9) rfl ?_); refine goesL_ (some 14) rfl rfl Try.func9 (by kernel_rfl) rfl #[.int .i64 3, .int .i64 51, .int .i64 50] rfl (by (try simp only [List.map_toArray, List.map_cons, List.map_nil]); first | done | rfl | (simp only [List.length_drop, List.length_take]; rfl)) ?_; (with_reducible refine (track_Want.calls k 3 51 50 t161 t162 _ A2.out).mono ?_); rintro e w' ⟨rfl, ⟨nd, rfl⟩⟩; refine ⟨_, rfl, ?_⟩) | ((with_reducible refine gate_callee (f := 9) rfl ?_); refine goesL_ (some 18) rfl rfl Try.func9 (by kernel_rfl) rfl #[.int .i64 10, .int .i64 70, .int .i64 0] rfl (by (try simp only [List.map_toArray, List.map_cons, List.map_nil]); first | done | rfl | (simp only [List.length_drop, List.length_take]; rfl)) ?_; (with_reducible refine (track_Want.calls k 10 70 0 t163 t164 _ A3.out).mono ?_); rintro e w' ⟨rfl, ⟨nd, rfl⟩⟩; refine ⟨_, rfl, ?_⟩) | ((with_reducible refine gate_callee (f := 9) rfl ?_); refine goesL_ (some 22) rfl rfl Try.func9 (by kernel_rfl) rfl #[.int .i64 4611686018427387904, .int .i64 4, .int .i64 1] rfl (by (try simp only [List.map_toArray, List.map_cons, List.map_nil]); first | done | rfl | (simp only [List.length_drop, List.length_take]; rfl)) ?_; (with_reducible refine (track_Want.calls k 4611686018427387904 4 1 t165 t166 _ A4.out).mono ?_); rintro e w' ⟨rfl, ⟨nd, rfl⟩⟩; refine ⟨_, rfl, ?_⟩))
    go_ret
    exact ⟨by first | rfl | (simp; done) | (simp [*]; done), by repeat (first | exact Drawn0.refl _ | apply Drawn0.step)⟩

/-! ### cohortlaw21_TrackTells: function 4 -/
def cohortlaw21_TrackTells.f (k : Nat) (a0 : Int) (a1 : Int) (a2 : Int) : Option (Bool) := (track_Want.f k a0 a1 a2).bind fun bt169 => ((cohortref21_Want.f k a0 a1 a2).bind fun bt171 => (if bt169.1 = bt171.1 then (if bt169.2 = bt171.2 then ((track_Steady.f k a0 a1 a2).bind fun t173 => ((cohortref21_Steady.f k a0 a1 a2).bind fun t174 => (if (t173 == t174) = true then ((cohortlaw21_lives.f k).bind fun t175 => (some t175)) else (some false)))) else (some false)) else (some false)))
theorem cohortlaw21_TrackTells.mono : ∀ a0 a1 a2 k, LeO (cohortlaw21_TrackTells.f k a0 a1 a2) (cohortlaw21_TrackTells.f (k + 1) a0 a1 a2) := by
  intro a0 a1 a2 k
  unfold cohortlaw21_TrackTells.f
  repeat' first
      | (with_reducible exact cohortlaw21_lives.mono _)
      | (with_reducible exact cohortref21_Steady.mono _ _ _ _)
      | (with_reducible exact cohortref21_Want.mono _ _ _ _)
      | (with_reducible exact track_Steady.mono _ _ _ _)
      | (with_reducible exact track_Want.mono _ _ _ _)
      | (with_reducible exact LeO.refl _)
      | (with_reducible exact LeO.none _)
      | (with_reducible refine LeO.ite ?_ ?_)
      | (with_reducible refine LeO.bind ?_ (fun _ => ?_))
      | exact cohortlaw21_lives.mono _
      | exact cohortref21_Steady.mono _ _ _ _
      | exact cohortref21_Want.mono _ _ _ _
      | exact track_Steady.mono _ _ _ _
      | exact track_Want.mono _ _ _ _
      | exact LeO.none _
      | refine LeO.ite ?_ ?_
      | refine LeO.bind ?_ (fun _ => ?_)
set_option maxHeartbeats 8000000 in
set_option maxRecDepth 100000 in
theorem cohortlaw21_TrackTells.calls (k : Nat) (a0 : Int) (a1 : Int) (a2 : Int) (r : Bool) (w : World) (h : cohortlaw21_TrackTells.f k a0 a1 a2 = some r) :
    Calls Try.prog 4 #[.int .i64 a0, .int .i64 a1, .int .i64 a2] w fun e w' => e = .returned (.bool r) ∧ Drawn0 w w' := by
  have H : ((track_Want.f k a0 a1 a2).bind fun bt169 => ((cohortref21_Want.f k a0 a1 a2).bind fun bt171 => (if bt169.1 = bt171.1 then (if bt169.2 = bt171.2 then ((track_Steady.f k a0 a1 a2).bind fun t173 => ((cohortref21_Steady.f k a0 a1 a2).bind fun t174 => (if (t173 == t174) = true then ((cohortlaw21_lives.f k).bind fun t175 => (some t175)) else (some false)))) else (some false)) else (some false)))) = some r := h
  clear h
  replace H := Option.bind_eq_some_iff.mp H
  obtain ⟨⟨t169, t170⟩, A40, H⟩ := H
  replace H : ((cohortref21_Want.f k a0 a1 a2).bind fun bt171 => (if t169 = bt171.1 then (if t170 = bt171.2 then ((track_Steady.f k a0 a1 a2).bind fun t173 => ((cohortref21_Steady.f k a0 a1 a2).bind fun t174 => (if (t173 == t174) = true then ((cohortlaw21_lives.f k).bind fun t175 => (some t175)) else (some false)))) else (some false)) else (some false))) = some r := H
  have A4 := Aside0.mk A40
  clear A40
  replace H := Option.bind_eq_some_iff.mp H
  obtain ⟨⟨t171, t172⟩, A50, H⟩ := H
  replace H : (if t169 = t171 then (if t170 = t172 then ((track_Steady.f k a0 a1 a2).bind fun t173 => ((cohortref21_Steady.f k a0 a1 a2).bind fun t174 => (if (t173 == t174) = true then ((cohortlaw21_lives.f k).bind fun t175 => (some t175)) else (some false)))) else (some false)) else (some false)) = some r := H
  have A5 := Aside0.mk A50
  clear A50
  by_cases c6 : t169 = t171
  · rw [if_pos c6] at H
    have c6b0 : (t169 == t171) = true := beq_iff_eq.mpr c6
    have c6b1 : (t169 != t171) = false := bne_eq_false_iff_eq.mpr c6
    clear c6
    by_cases c7 : t170 = t172
    · rw [if_pos c7] at H
      have c7b0 : (t170 == t172) = true := beq_iff_eq.mpr c7
      have c7b1 : (t170 != t172) = false := bne_eq_false_iff_eq.mpr c7
      clear c7
      replace H := Option.bind_eq_some_iff.mp H
      obtain ⟨t173, A80, H⟩ := H
      replace H : ((cohortref21_Steady.f k a0 a1 a2).bind fun t174 => (if (t173 == t174) = true then ((cohortlaw21_lives.f k).bind fun t175 => (some t175)) else (some false))) = some r := H
      have A8 := Aside0.mk A80
      clear A80
      replace H := Option.bind_eq_some_iff.mp H
      obtain ⟨t174, A90, H⟩ := H
      replace H : (if (t173 == t174) = true then ((cohortlaw21_lives.f k).bind fun t175 => (some t175)) else (some false)) = some r := H
      have A9 := Aside0.mk A90
      clear A90
      by_cases c10 : (t173 == t174) = true
      · rw [if_pos c10] at H
        have c10b0 : (t173 == t174) = true := c10
        (try (have c10b1 : decide (t173 = t174) = true := by simpa using c10))
        (try (have c10b2 : (t173 == t174) = true := by simpa using c10))
        clear c10
        replace H := Option.bind_eq_some_iff.mp H
        obtain ⟨t175, A110, H⟩ := H
        replace H : (some t175) = some r := H
        have A11 := Aside0.mk A110
        clear A110
        obtain rfl := Option.some.inj H
        go_enter Try.func4, Try.ntmps4
        go_wp2_with (first | ((with_reducible refine gate_callee (f := 9) rfl ?_); refine goesL_ (some 15) rfl rfl Try.func9 (by kernel_rfl) rfl #[.int .i64 a0, .int .i64 a1, .int .i64 a2] rfl (by (try simp only [List.map_toArray, List.map_cons, List.map_nil]); first | done | rfl | (simp only [List.length_drop, List.length_take]; rfl)) ?_; (with_reducible refine (track_Want.calls k a0 a1 a2 t169 t170 _ A4.out).mono ?_); rintro e w' ⟨rfl, ⟨nd, rfl⟩⟩; refine ⟨_, rfl, ?_⟩) | ((with_reducible refine gate_callee (f := 10) rfl ?_); refine goesL_ (some 22) rfl rfl Try.func10 (by kernel_rfl) rfl #[.int .i64 a0, .int .i64 a1, .int .i64 a2] rfl (by (try simp only [List.map_toArray, List.map_cons, List.map_nil]); first | done | rfl | (simp only [List.length_drop, List.length_take]; rfl)) ?_; (with_reducible refine (cohortref21_Want.calls k a0 a1 a2 t171 t172 _ A5.out).mono ?_); rintro e w' ⟨rfl, ⟨nd, rfl⟩⟩; refine ⟨_, rfl, ?_⟩) | (go_at_call 11; (with_reducible refine (track_Steady.calls k a0 a1 a2 t173 _ A8.out).mono ?_); rintro e w' ⟨rfl, ⟨nd, rfl⟩⟩) | (go_at_call 12; (with_reducible refine (cohortref21_Steady.calls k a0 a1 a2 t174 _ A9.out).mono ?_); rintro e w' ⟨rfl, ⟨nd, rfl⟩⟩) | (go_at_call 13; (with_reducible refine (cohortlaw21_lives.calls k  t175 _ A11.out).mono ?_); rintro e w' ⟨rfl, ⟨nd, rfl⟩⟩))
        go_ret
        exact ⟨by first | rfl | (simp; done) | (simp [*]; done), by repeat (first | exact Drawn0.refl _ | apply Drawn0.step)⟩
      · rw [if_neg c10] at H
        have c10b0 : (t173 == t174) = false := by simpa using c10
        (try (have c10b1 : decide (t173 = t174) = false := by simpa using c10))
        (try (have c10b2 : (t173 == t174) = false := by simpa using c10))
        (try (have c10b3 : ¬ (t173 = t174) := by simpa using c10))
        clear c10
        obtain rfl := Option.some.inj H
        go_enter Try.func4, Try.ntmps4
        go_wp2_with (first | ((with_reducible refine gate_callee (f := 9) rfl ?_); refine goesL_ (some 15) rfl rfl Try.func9 (by kernel_rfl) rfl #[.int .i64 a0, .int .i64 a1, .int .i64 a2] rfl (by (try simp only [List.map_toArray, List.map_cons, List.map_nil]); first | done | rfl | (simp only [List.length_drop, List.length_take]; rfl)) ?_; (with_reducible refine (track_Want.calls k a0 a1 a2 t169 t170 _ A4.out).mono ?_); rintro e w' ⟨rfl, ⟨nd, rfl⟩⟩; refine ⟨_, rfl, ?_⟩) | ((with_reducible refine gate_callee (f := 10) rfl ?_); refine goesL_ (some 22) rfl rfl Try.func10 (by kernel_rfl) rfl #[.int .i64 a0, .int .i64 a1, .int .i64 a2] rfl (by (try simp only [List.map_toArray, List.map_cons, List.map_nil]); first | done | rfl | (simp only [List.length_drop, List.length_take]; rfl)) ?_; (with_reducible refine (cohortref21_Want.calls k a0 a1 a2 t171 t172 _ A5.out).mono ?_); rintro e w' ⟨rfl, ⟨nd, rfl⟩⟩; refine ⟨_, rfl, ?_⟩) | (go_at_call 11; (with_reducible refine (track_Steady.calls k a0 a1 a2 t173 _ A8.out).mono ?_); rintro e w' ⟨rfl, ⟨nd, rfl⟩⟩) | (go_at_call 12; (with_reducible refine (cohortref21_Steady.calls k a0 a1 a2 t174 _ A9.out).mono ?_); rintro e w' ⟨rfl, ⟨nd, rfl⟩⟩))
        go_ret
        exact ⟨by first | rfl | (simp; done) | (simp [*]; done), by repeat (first | exact Drawn0.refl _ | apply Drawn0.step)⟩
    · rw [if_neg c7] at H
      have c7b0 : (t170 == t172) = false := beq_eq_false_iff_ne.mpr c7
      have c7b1 : (t170 != t172) = true := bne_iff_ne.mpr c7
      obtain rfl := Option.some.inj H
      go_enter Try.func4, Try.ntmps4
      go_wp2_with (first | ((with_reducible refine gate_callee (f := 9) rfl ?_); refine goesL_ (some 15) rfl rfl Try.func9 (by kernel_rfl) rfl #[.int .i64 a0, .int .i64 a1, .int .i64 a2] rfl (by (try simp only [List.map_toArray, List.map_cons, List.map_nil]); first | done | rfl | (simp only [List.length_drop, List.length_take]; rfl)) ?_; (with_reducible refine (track_Want.calls k a0 a1 a2 t169 t170 _ A4.out).mono ?_); rintro e w' ⟨rfl, ⟨nd, rfl⟩⟩; refine ⟨_, rfl, ?_⟩) | ((with_reducible refine gate_callee (f := 10) rfl ?_); refine goesL_ (some 22) rfl rfl Try.func10 (by kernel_rfl) rfl #[.int .i64 a0, .int .i64 a1, .int .i64 a2] rfl (by (try simp only [List.map_toArray, List.map_cons, List.map_nil]); first | done | rfl | (simp only [List.length_drop, List.length_take]; rfl)) ?_; (with_reducible refine (cohortref21_Want.calls k a0 a1 a2 t171 t172 _ A5.out).mono ?_); rintro e w' ⟨rfl, ⟨nd, rfl⟩⟩; refine ⟨_, rfl, ?_⟩))
      go_ret
      exact ⟨by first | rfl | (simp; done) | (simp [*]; done), by repeat (first | exact Drawn0.refl _ | apply Drawn0.step)⟩
  · rw [if_neg c6] at H
    have c6b0 : (t169 == t171) = false := beq_eq_false_iff_ne.mpr c6
    have c6b1 : (t169 != t171) = true := bne_iff_ne.mpr c6
    obtain rfl := Option.some.inj H
    go_enter Try.func4, Try.ntmps4
    go_wp2_with (first | ((with_reducible refine gate_callee (f := 9) rfl ?_); refine goesL_ (some 15) rfl rfl Try.func9 (by kernel_rfl) rfl #[.int .i64 a0, .int .i64 a1, .int .i64 a2] rfl (by (try simp only [List.map_toArray, List.map_cons, List.map_nil]); first | done | rfl | (simp only [List.length_drop, List.length_take]; rfl)) ?_; (with_reducible refine (track_Want.calls k a0 a1 a2 t169 t170 _ A4.out).mono ?_); rintro e w' ⟨rfl, ⟨nd, rfl⟩⟩; refine ⟨_, rfl, ?_⟩) | ((with_reducible refine gate_callee (f := 10) rfl ?_); refine goesL_ (some 22) rfl rfl Try.func10 (by kernel_rfl) rfl #[.int .i64 a0, .int .i64 a1, .int .i64 a2] rfl (by (try simp only [List.map_toArray, List.map_cons, List.map_nil]); first | done | rfl | (simp only [List.length_drop, List.length_take]; rfl)) ?_; (with_reducible refine (cohortref21_Want.calls k a0 a1 a2 t171 t172 _ A5.out).mono ?_); rintro e w' ⟨rfl, ⟨nd, rfl⟩⟩; refine ⟨_, rfl, ?_⟩))
    go_ret
    exact ⟨by first | rfl | (simp; done) | (simp [*]; done), by repeat (first | exact Drawn0.refl _ | apply Drawn0.step)⟩

/-- THE ONE PURE STATEMENT of cohortlaw21_TrackTells: yours. -/
def cohortlaw21_TrackTells.Pure : Prop := ∀ (a0 : Int) (a1 : Int) (a2 : Int), (Lit.int .i64 a0).wf = true → (Lit.int .i64 a1).wf = true → (Lit.int .i64 a2).wf = true → ∃ k, cohortlaw21_TrackTells.f k a0 a1 a2 = some true
theorem cohortlaw21_TrackTells.walk (P : cohortlaw21_TrackTells.Pure) (a0 : Int) (a1 : Int) (a2 : Int) (w : World) (w0 : (Lit.int .i64 a0).wf = true) (w1 : (Lit.int .i64 a1).wf = true) (w2 : (Lit.int .i64 a2).wf = true) :
    Calls Try.prog 4 #[.int .i64 a0, .int .i64 a1, .int .i64 a2] w fun e w' => e = .returned (.bool true) ∧ Below w.heap.size w w' := by
  obtain ⟨k, h⟩ := P a0 a1 a2 w0 w1 w2
  refine (cohortlaw21_TrackTells.calls k a0 a1 a2 true w h).mono ?_
  rintro e w' ⟨rfl, hd⟩
  exact ⟨rfl, hd.below⟩

/-! ### cohortlaw21_TrackSteady: function 5 -/
def cohortlaw21_TrackSteady.f (k : Nat) (a0 : Int) (a1 : Int) (a2 : Int) : Option (Bool) := (track_Want.f k (wrap64 (Int.tmod a0 1073741824)) (wrap64 (1 + (wrap64 (Int.tmod a2 1073741824)))) (wrap64 (1 + (wrap64 (Int.tmod a2 1073741824))))).bind fun bt176 => ((track_Want.f k (wrap64 (Int.tmod a0 1073741824)) (wrap64 (Int.tmod a1 1073741824)) (wrap64 (1 + (wrap64 (Int.tmod a2 1073741824))))).bind fun bt178 => (if bt176.2 = 0 then (if bt178.2 = 0 then (if bt176.1 = (wrap64 (Int.tmod a0 1073741824)) then (if bt178.1 < 0 then (some false) else (if (wrap64 ((wrap64 (Int.tmod a0 1073741824)) * (wrap64 (Int.tmod a1 1073741824)))) ≤ (wrap64 (bt178.1 * (wrap64 (1 + (wrap64 (Int.tmod a2 1073741824)))))) then (if bt178.1 = 0 then ((cohortlaw21_lives.f k).bind fun t180 => (some t180)) else (if (wrap64 ((wrap64 (Int.tmod a0 1073741824)) * (wrap64 (Int.tmod a1 1073741824)))) > (wrap64 ((wrap64 (bt178.1 - 1)) * (wrap64 (1 + (wrap64 (Int.tmod a2 1073741824)))))) then ((cohortlaw21_lives.f k).bind fun t181 => (some t181)) else (some false))) else (some false))) else (some false)) else (some false)) else (some false)))
theorem cohortlaw21_TrackSteady.mono : ∀ a0 a1 a2 k, LeO (cohortlaw21_TrackSteady.f k a0 a1 a2) (cohortlaw21_TrackSteady.f (k + 1) a0 a1 a2) := by
  intro a0 a1 a2 k
  unfold cohortlaw21_TrackSteady.f
  repeat' first
      | (with_reducible exact cohortlaw21_lives.mono _)
      | (with_reducible exact track_Want.mono _ _ _ _)
      | (with_reducible exact LeO.refl _)
      | (with_reducible exact LeO.none _)
      | (with_reducible refine LeO.ite ?_ ?_)
      | (with_reducible refine LeO.bind ?_ (fun _ => ?_))
      | exact cohortlaw21_lives.mono _
      | exact track_Want.mono _ _ _ _
      | exact LeO.none _
      | refine LeO.ite ?_ ?_
      | refine LeO.bind ?_ (fun _ => ?_)
set_option maxHeartbeats 8000000 in
set_option maxRecDepth 100000 in
theorem cohortlaw21_TrackSteady.calls (k : Nat) (a0 : Int) (a1 : Int) (a2 : Int) (r : Bool) (w : World) (h : cohortlaw21_TrackSteady.f k a0 a1 a2 = some r) :
    Calls Try.prog 5 #[.int .u32 a0, .int .u32 a1, .int .u32 a2] w fun e w' => e = .returned (.bool r) ∧ Drawn0 w w' := by
  have H : ((track_Want.f k (wrap64 (Int.tmod a0 1073741824)) (wrap64 (1 + (wrap64 (Int.tmod a2 1073741824)))) (wrap64 (1 + (wrap64 (Int.tmod a2 1073741824))))).bind fun bt176 => ((track_Want.f k (wrap64 (Int.tmod a0 1073741824)) (wrap64 (Int.tmod a1 1073741824)) (wrap64 (1 + (wrap64 (Int.tmod a2 1073741824))))).bind fun bt178 => (if bt176.2 = 0 then (if bt178.2 = 0 then (if bt176.1 = (wrap64 (Int.tmod a0 1073741824)) then (if bt178.1 < 0 then (some false) else (if (wrap64 ((wrap64 (Int.tmod a0 1073741824)) * (wrap64 (Int.tmod a1 1073741824)))) ≤ (wrap64 (bt178.1 * (wrap64 (1 + (wrap64 (Int.tmod a2 1073741824)))))) then (if bt178.1 = 0 then ((cohortlaw21_lives.f k).bind fun t180 => (some t180)) else (if (wrap64 ((wrap64 (Int.tmod a0 1073741824)) * (wrap64 (Int.tmod a1 1073741824)))) > (wrap64 ((wrap64 (bt178.1 - 1)) * (wrap64 (1 + (wrap64 (Int.tmod a2 1073741824)))))) then ((cohortlaw21_lives.f k).bind fun t181 => (some t181)) else (some false))) else (some false))) else (some false)) else (some false)) else (some false)))) = some r := h
  clear h
  replace H := Option.bind_eq_some_iff.mp H
  obtain ⟨⟨t176, t177⟩, A40, H⟩ := H
  replace H : ((track_Want.f k (wrap64 (Int.tmod a0 1073741824)) (wrap64 (Int.tmod a1 1073741824)) (wrap64 (1 + (wrap64 (Int.tmod a2 1073741824))))).bind fun bt178 => (if t177 = 0 then (if bt178.2 = 0 then (if t176 = (wrap64 (Int.tmod a0 1073741824)) then (if bt178.1 < 0 then (some false) else (if (wrap64 ((wrap64 (Int.tmod a0 1073741824)) * (wrap64 (Int.tmod a1 1073741824)))) ≤ (wrap64 (bt178.1 * (wrap64 (1 + (wrap64 (Int.tmod a2 1073741824)))))) then (if bt178.1 = 0 then ((cohortlaw21_lives.f k).bind fun t180 => (some t180)) else (if (wrap64 ((wrap64 (Int.tmod a0 1073741824)) * (wrap64 (Int.tmod a1 1073741824)))) > (wrap64 ((wrap64 (bt178.1 - 1)) * (wrap64 (1 + (wrap64 (Int.tmod a2 1073741824)))))) then ((cohortlaw21_lives.f k).bind fun t181 => (some t181)) else (some false))) else (some false))) else (some false)) else (some false)) else (some false))) = some r := H
  have A4 := Aside0.mk A40
  clear A40
  replace H := Option.bind_eq_some_iff.mp H
  obtain ⟨⟨t178, t179⟩, A50, H⟩ := H
  replace H : (if t177 = 0 then (if t179 = 0 then (if t176 = (wrap64 (Int.tmod a0 1073741824)) then (if t178 < 0 then (some false) else (if (wrap64 ((wrap64 (Int.tmod a0 1073741824)) * (wrap64 (Int.tmod a1 1073741824)))) ≤ (wrap64 (t178 * (wrap64 (1 + (wrap64 (Int.tmod a2 1073741824)))))) then (if t178 = 0 then ((cohortlaw21_lives.f k).bind fun t180 => (some t180)) else (if (wrap64 ((wrap64 (Int.tmod a0 1073741824)) * (wrap64 (Int.tmod a1 1073741824)))) > (wrap64 ((wrap64 (t178 - 1)) * (wrap64 (1 + (wrap64 (Int.tmod a2 1073741824)))))) then ((cohortlaw21_lives.f k).bind fun t181 => (some t181)) else (some false))) else (some false))) else (some false)) else (some false)) else (some false)) = some r := H
  have A5 := Aside0.mk A50
  clear A50
  by_cases c6 : t177 = 0
  · rw [if_pos c6] at H
    have c6b0 : (t177 == 0) = true := beq_iff_eq.mpr c6
    have c6b1 : (t177 != 0) = false := bne_eq_false_iff_eq.mpr c6
    clear c6
    by_cases c7 : t179 = 0
    · rw [if_pos c7] at H
      have c7b0 : (t179 == 0) = true := beq_iff_eq.mpr c7
      have c7b1 : (t179 != 0) = false := bne_eq_false_iff_eq.mpr c7
      clear c7
      by_cases c8 : t176 = (wrap64 (Int.tmod a0 1073741824))
      · rw [if_pos c8] at H
        have c8b0 : (t176 == (wrap64 (Int.tmod a0 1073741824))) = true := beq_iff_eq.mpr c8
        have c8b1 : (t176 != (wrap64 (Int.tmod a0 1073741824))) = false := bne_eq_false_iff_eq.mpr c8
        clear c8
        by_cases c9 : t178 < 0
        · rw [if_pos c9] at H
          have c9b0 : decide (t178 < 0) = true := decide_eq_true c9
          clear c9
          obtain rfl := Option.some.inj H
          go_enter Try.func5, Try.ntmps5
          go_wp2_with (first | ((with_reducible refine gate_callee (f := 9) rfl ?_); refine goesL_ (some 28) rfl rfl Try.func9 (by kernel_rfl) rfl #[.int .i64 (wrap64 (Int.tmod a0 1073741824)), .int .i64 (wrap64 (1 + (wrap64 (Int.tmod a2 1073741824)))), .int .i64 (wrap64 (1 + (wrap64 (Int.tmod a2 1073741824))))] rfl (by (try simp only [List.map_toArray, List.map_cons, List.map_nil]); first | done | rfl | (simp only [List.length_drop, List.length_take]; rfl)) ?_; (with_reducible refine (track_Want.calls k (wrap64 (Int.tmod a0 1073741824)) (wrap64 (1 + (wrap64 (Int.tmod a2 1073741824)))) (wrap64 (1 + (wrap64 (Int.tmod a2 1073741824)))) t176 t177 _ A4.out).mono ?_); rintro e w' ⟨rfl, ⟨nd, rfl⟩⟩; refine ⟨_, rfl, ?_⟩) | ((with_reducible refine gate_callee (f := 9) rfl ?_); refine goesL_ (some 35) rfl rfl Try.func9 (by kernel_rfl) rfl #[.int .i64 (wrap64 (Int.tmod a0 1073741824)), .int .i64 (wrap64 (Int.tmod a1 1073741824)), .int .i64 (wrap64 (1 + (wrap64 (Int.tmod a2 1073741824))))] rfl (by (try simp only [List.map_toArray, List.map_cons, List.map_nil]); first | done | rfl | (simp only [List.length_drop, List.length_take]; rfl)) ?_; (with_reducible refine (track_Want.calls k (wrap64 (Int.tmod a0 1073741824)) (wrap64 (Int.tmod a1 1073741824)) (wrap64 (1 + (wrap64 (Int.tmod a2 1073741824)))) t178 t179 _ A5.out).mono ?_); rintro e w' ⟨rfl, ⟨nd, rfl⟩⟩; refine ⟨_, rfl, ?_⟩))
          go_ret
          exact ⟨by first | rfl | (simp; done) | (simp [*]; done), by repeat (first | exact Drawn0.refl _ | apply Drawn0.step)⟩
        · rw [if_neg c9] at H
          have c9b0 : decide (t178 < 0) = false := decide_eq_false c9
          clear c9
          by_cases c10 : (wrap64 ((wrap64 (Int.tmod a0 1073741824)) * (wrap64 (Int.tmod a1 1073741824)))) ≤ (wrap64 (t178 * (wrap64 (1 + (wrap64 (Int.tmod a2 1073741824))))))
          · rw [if_pos c10] at H
            have c10b0 : decide ((wrap64 ((wrap64 (Int.tmod a0 1073741824)) * (wrap64 (Int.tmod a1 1073741824)))) ≤ (wrap64 (t178 * (wrap64 (1 + (wrap64 (Int.tmod a2 1073741824))))))) = true := decide_eq_true c10
            clear c10
            by_cases c11 : t178 = 0
            · rw [if_pos c11] at H
              have c11b0 : (t178 == 0) = true := beq_iff_eq.mpr c11
              have c11b1 : (t178 != 0) = false := bne_eq_false_iff_eq.mpr c11
              clear c11
              replace H := Option.bind_eq_some_iff.mp H
              obtain ⟨t180, A120, H⟩ := H
              replace H : (some t180) = some r := H
              have A12 := Aside0.mk A120
              clear A120
              obtain rfl := Option.some.inj H
              go_enter Try.func5, Try.ntmps5
              go_wp2_with (first | ((with_reducible refine gate_callee (f := 9) rfl ?_); refine goesL_ (some 28) rfl rfl Try.func9 (by kernel_rfl) rfl #[.int .i64 (wrap64 (Int.tmod a0 1073741824)), .int .i64 (wrap64 (1 + (wrap64 (Int.tmod a2 1073741824)))), .int .i64 (wrap64 (1 + (wrap64 (Int.tmod a2 1073741824))))] rfl (by (try simp only [List.map_toArray, List.map_cons, List.map_nil]); first | done | rfl | (simp only [List.length_drop, List.length_take]; rfl)) ?_; (with_reducible refine (track_Want.calls k (wrap64 (Int.tmod a0 1073741824)) (wrap64 (1 + (wrap64 (Int.tmod a2 1073741824)))) (wrap64 (1 + (wrap64 (Int.tmod a2 1073741824)))) t176 t177 _ A4.out).mono ?_); rintro e w' ⟨rfl, ⟨nd, rfl⟩⟩; refine ⟨_, rfl, ?_⟩) | ((with_reducible refine gate_callee (f := 9) rfl ?_); refine goesL_ (some 35) rfl rfl Try.func9 (by kernel_rfl) rfl #[.int .i64 (wrap64 (Int.tmod a0 1073741824)), .int .i64 (wrap64 (Int.tmod a1 1073741824)), .int .i64 (wrap64 (1 + (wrap64 (Int.tmod a2 1073741824))))] rfl (by (try simp only [List.map_toArray, List.map_cons, List.map_nil]); first | done | rfl | (simp only [List.length_drop, List.length_take]; rfl)) ?_; (with_reducible refine (track_Want.calls k (wrap64 (Int.tmod a0 1073741824)) (wrap64 (Int.tmod a1 1073741824)) (wrap64 (1 + (wrap64 (Int.tmod a2 1073741824)))) t178 t179 _ A5.out).mono ?_); rintro e w' ⟨rfl, ⟨nd, rfl⟩⟩; refine ⟨_, rfl, ?_⟩) | (go_at_call 13; (with_reducible refine (cohortlaw21_lives.calls k  t180 _ A12.out).mono ?_); rintro e w' ⟨rfl, ⟨nd, rfl⟩⟩))
              go_ret
              exact ⟨by first | rfl | (simp; done) | (simp [*]; done), by repeat (first | exact Drawn0.refl _ | apply Drawn0.step)⟩
            · rw [if_neg c11] at H
              have c11b0 : (t178 == 0) = false := beq_eq_false_iff_ne.mpr c11
              have c11b1 : (t178 != 0) = true := bne_iff_ne.mpr c11
              by_cases c13 : (wrap64 ((wrap64 (Int.tmod a0 1073741824)) * (wrap64 (Int.tmod a1 1073741824)))) > (wrap64 ((wrap64 (t178 - 1)) * (wrap64 (1 + (wrap64 (Int.tmod a2 1073741824))))))
              · rw [if_pos c13] at H
                have c13b0 : decide ((wrap64 ((wrap64 (t178 - 1)) * (wrap64 (1 + (wrap64 (Int.tmod a2 1073741824)))))) < (wrap64 ((wrap64 (Int.tmod a0 1073741824)) * (wrap64 (Int.tmod a1 1073741824))))) = true := decide_eq_true c13
                clear c13
                replace H := Option.bind_eq_some_iff.mp H
                obtain ⟨t181, A140, H⟩ := H
                replace H : (some t181) = some r := H
                have A14 := Aside0.mk A140
                clear A140
                obtain rfl := Option.some.inj H
                go_enter Try.func5, Try.ntmps5
                go_wp2_with (first | ((with_reducible refine gate_callee (f := 9) rfl ?_); refine goesL_ (some 28) rfl rfl Try.func9 (by kernel_rfl) rfl #[.int .i64 (wrap64 (Int.tmod a0 1073741824)), .int .i64 (wrap64 (1 + (wrap64 (Int.tmod a2 1073741824)))), .int .i64 (wrap64 (1 + (wrap64 (Int.tmod a2 1073741824))))] rfl (by (try simp only [List.map_toArray, List.map_cons, List.map_nil]); first | done | rfl | (simp only [List.length_drop, List.length_take]; rfl)) ?_; (with_reducible refine (track_Want.calls k (wrap64 (Int.tmod a0 1073741824)) (wrap64 (1 + (wrap64 (Int.tmod a2 1073741824)))) (wrap64 (1 + (wrap64 (Int.tmod a2 1073741824)))) t176 t177 _ A4.out).mono ?_); rintro e w' ⟨rfl, ⟨nd, rfl⟩⟩; refine ⟨_, rfl, ?_⟩) | ((with_reducible refine gate_callee (f := 9) rfl ?_); refine goesL_ (some 35) rfl rfl Try.func9 (by kernel_rfl) rfl #[.int .i64 (wrap64 (Int.tmod a0 1073741824)), .int .i64 (wrap64 (Int.tmod a1 1073741824)), .int .i64 (wrap64 (1 + (wrap64 (Int.tmod a2 1073741824))))] rfl (by (try simp only [List.map_toArray, List.map_cons, List.map_nil]); first | done | rfl | (simp only [List.length_drop, List.length_take]; rfl)) ?_; (with_reducible refine (track_Want.calls k (wrap64 (Int.tmod a0 1073741824)) (wrap64 (Int.tmod a1 1073741824)) (wrap64 (1 + (wrap64 (Int.tmod a2 1073741824)))) t178 t179 _ A5.out).mono ?_); rintro e w' ⟨rfl, ⟨nd, rfl⟩⟩; refine ⟨_, rfl, ?_⟩) | (go_at_call 13; (with_reducible refine (cohortlaw21_lives.calls k  t181 _ A14.out).mono ?_); rintro e w' ⟨rfl, ⟨nd, rfl⟩⟩))
                go_ret
                exact ⟨by first | rfl | (simp; done) | (simp [*]; done), by repeat (first | exact Drawn0.refl _ | apply Drawn0.step)⟩
              · rw [if_neg c13] at H
                have c13b0 : decide ((wrap64 ((wrap64 (t178 - 1)) * (wrap64 (1 + (wrap64 (Int.tmod a2 1073741824)))))) < (wrap64 ((wrap64 (Int.tmod a0 1073741824)) * (wrap64 (Int.tmod a1 1073741824))))) = false := decide_eq_false c13
                clear c13
                obtain rfl := Option.some.inj H
                go_enter Try.func5, Try.ntmps5
                go_wp2_with (first | ((with_reducible refine gate_callee (f := 9) rfl ?_); refine goesL_ (some 28) rfl rfl Try.func9 (by kernel_rfl) rfl #[.int .i64 (wrap64 (Int.tmod a0 1073741824)), .int .i64 (wrap64 (1 + (wrap64 (Int.tmod a2 1073741824)))), .int .i64 (wrap64 (1 + (wrap64 (Int.tmod a2 1073741824))))] rfl (by (try simp only [List.map_toArray, List.map_cons, List.map_nil]); first | done | rfl | (simp only [List.length_drop, List.length_take]; rfl)) ?_; (with_reducible refine (track_Want.calls k (wrap64 (Int.tmod a0 1073741824)) (wrap64 (1 + (wrap64 (Int.tmod a2 1073741824)))) (wrap64 (1 + (wrap64 (Int.tmod a2 1073741824)))) t176 t177 _ A4.out).mono ?_); rintro e w' ⟨rfl, ⟨nd, rfl⟩⟩; refine ⟨_, rfl, ?_⟩) | ((with_reducible refine gate_callee (f := 9) rfl ?_); refine goesL_ (some 35) rfl rfl Try.func9 (by kernel_rfl) rfl #[.int .i64 (wrap64 (Int.tmod a0 1073741824)), .int .i64 (wrap64 (Int.tmod a1 1073741824)), .int .i64 (wrap64 (1 + (wrap64 (Int.tmod a2 1073741824))))] rfl (by (try simp only [List.map_toArray, List.map_cons, List.map_nil]); first | done | rfl | (simp only [List.length_drop, List.length_take]; rfl)) ?_; (with_reducible refine (track_Want.calls k (wrap64 (Int.tmod a0 1073741824)) (wrap64 (Int.tmod a1 1073741824)) (wrap64 (1 + (wrap64 (Int.tmod a2 1073741824)))) t178 t179 _ A5.out).mono ?_); rintro e w' ⟨rfl, ⟨nd, rfl⟩⟩; refine ⟨_, rfl, ?_⟩))
                go_ret
                exact ⟨by first | rfl | (simp; done) | (simp [*]; done), by repeat (first | exact Drawn0.refl _ | apply Drawn0.step)⟩
          · rw [if_neg c10] at H
            have c10b0 : decide ((wrap64 ((wrap64 (Int.tmod a0 1073741824)) * (wrap64 (Int.tmod a1 1073741824)))) ≤ (wrap64 (t178 * (wrap64 (1 + (wrap64 (Int.tmod a2 1073741824))))))) = false := decide_eq_false c10
            clear c10
            obtain rfl := Option.some.inj H
            go_enter Try.func5, Try.ntmps5
            go_wp2_with (first | ((with_reducible refine gate_callee (f := 9) rfl ?_); refine goesL_ (some 28) rfl rfl Try.func9 (by kernel_rfl) rfl #[.int .i64 (wrap64 (Int.tmod a0 1073741824)), .int .i64 (wrap64 (1 + (wrap64 (Int.tmod a2 1073741824)))), .int .i64 (wrap64 (1 + (wrap64 (Int.tmod a2 1073741824))))] rfl (by (try simp only [List.map_toArray, List.map_cons, List.map_nil]); first | done | rfl | (simp only [List.length_drop, List.length_take]; rfl)) ?_; (with_reducible refine (track_Want.calls k (wrap64 (Int.tmod a0 1073741824)) (wrap64 (1 + (wrap64 (Int.tmod a2 1073741824)))) (wrap64 (1 + (wrap64 (Int.tmod a2 1073741824)))) t176 t177 _ A4.out).mono ?_); rintro e w' ⟨rfl, ⟨nd, rfl⟩⟩; refine ⟨_, rfl, ?_⟩) | ((with_reducible refine gate_callee (f := 9) rfl ?_); refine goesL_ (some 35) rfl rfl Try.func9 (by kernel_rfl) rfl #[.int .i64 (wrap64 (Int.tmod a0 1073741824)), .int .i64 (wrap64 (Int.tmod a1 1073741824)), .int .i64 (wrap64 (1 + (wrap64 (Int.tmod a2 1073741824))))] rfl (by (try simp only [List.map_toArray, List.map_cons, List.map_nil]); first | done | rfl | (simp only [List.length_drop, List.length_take]; rfl)) ?_; (with_reducible refine (track_Want.calls k (wrap64 (Int.tmod a0 1073741824)) (wrap64 (Int.tmod a1 1073741824)) (wrap64 (1 + (wrap64 (Int.tmod a2 1073741824)))) t178 t179 _ A5.out).mono ?_); rintro e w' ⟨rfl, ⟨nd, rfl⟩⟩; refine ⟨_, rfl, ?_⟩))
            go_ret
            exact ⟨by first | rfl | (simp; done) | (simp [*]; done), by repeat (first | exact Drawn0.refl _ | apply Drawn0.step)⟩
      · rw [if_neg c8] at H
        have c8b0 : (t176 == (wrap64 (Int.tmod a0 1073741824))) = false := beq_eq_false_iff_ne.mpr c8
        have c8b1 : (t176 != (wrap64 (Int.tmod a0 1073741824))) = true := bne_iff_ne.mpr c8
        obtain rfl := Option.some.inj H
        go_enter Try.func5, Try.ntmps5
        go_wp2_with (first | ((with_reducible refine gate_callee (f := 9) rfl ?_); refine goesL_ (some 28) rfl rfl Try.func9 (by kernel_rfl) rfl #[.int .i64 (wrap64 (Int.tmod a0 1073741824)), .int .i64 (wrap64 (1 + (wrap64 (Int.tmod a2 1073741824)))), .int .i64 (wrap64 (1 + (wrap64 (Int.tmod a2 1073741824))))] rfl (by (try simp only [List.map_toArray, List.map_cons, List.map_nil]); first | done | rfl | (simp only [List.length_drop, List.length_take]; rfl)) ?_; (with_reducible refine (track_Want.calls k (wrap64 (Int.tmod a0 1073741824)) (wrap64 (1 + (wrap64 (Int.tmod a2 1073741824)))) (wrap64 (1 + (wrap64 (Int.tmod a2 1073741824)))) t176 t177 _ A4.out).mono ?_); rintro e w' ⟨rfl, ⟨nd, rfl⟩⟩; refine ⟨_, rfl, ?_⟩) | ((with_reducible refine gate_callee (f := 9) rfl ?_); refine goesL_ (some 35) rfl rfl Try.func9 (by kernel_rfl) rfl #[.int .i64 (wrap64 (Int.tmod a0 1073741824)), .int .i64 (wrap64 (Int.tmod a1 1073741824)), .int .i64 (wrap64 (1 + (wrap64 (Int.tmod a2 1073741824))))] rfl (by (try simp only [List.map_toArray, List.map_cons, List.map_nil]); first | done | rfl | (simp only [List.length_drop, List.length_take]; rfl)) ?_; (with_reducible refine (track_Want.calls k (wrap64 (Int.tmod a0 1073741824)) (wrap64 (Int.tmod a1 1073741824)) (wrap64 (1 + (wrap64 (Int.tmod a2 1073741824)))) t178 t179 _ A5.out).mono ?_); rintro e w' ⟨rfl, ⟨nd, rfl⟩⟩; refine ⟨_, rfl, ?_⟩))
        go_ret
        exact ⟨by first | rfl | (simp; done) | (simp [*]; done), by repeat (first | exact Drawn0.refl _ | apply Drawn0.step)⟩
    · rw [if_neg c7] at H
      have c7b0 : (t179 == 0) = false := beq_eq_false_iff_ne.mpr c7
      have c7b1 : (t179 != 0) = true := bne_iff_ne.mpr c7
      obtain rfl := Option.some.inj H
      go_enter Try.func5, Try.ntmps5
      go_wp2_with (first | ((with_reducible refine gate_callee (f := 9) rfl ?_); refine goesL_ (some 28) rfl rfl Try.func9 (by kernel_rfl) rfl #[.int .i64 (wrap64 (Int.tmod a0 1073741824)), .int .i64 (wrap64 (1 + (wrap64 (Int.tmod a2 1073741824)))), .int .i64 (wrap64 (1 + (wrap64 (Int.tmod a2 1073741824))))] rfl (by (try simp only [List.map_toArray, List.map_cons, List.map_nil]); first | done | rfl | (simp only [List.length_drop, List.length_take]; rfl)) ?_; (with_reducible refine (track_Want.calls k (wrap64 (Int.tmod a0 1073741824)) (wrap64 (1 + (wrap64 (Int.tmod a2 1073741824)))) (wrap64 (1 + (wrap64 (Int.tmod a2 1073741824)))) t176 t177 _ A4.out).mono ?_); rintro e w' ⟨rfl, ⟨nd, rfl⟩⟩; refine ⟨_, rfl, ?_⟩) | ((with_reducible refine gate_callee (f := 9) rfl ?_); refine goesL_ (some 35) rfl rfl Try.func9 (by kernel_rfl) rfl #[.int .i64 (wrap64 (Int.tmod a0 1073741824)), .int .i64 (wrap64 (Int.tmod a1 1073741824)), .int .i64 (wrap64 (1 + (wrap64 (Int.tmod a2 1073741824))))] rfl (by (try simp only [List.map_toArray, List.map_cons, List.map_nil]); first | done | rfl | (simp only [List.length_drop, List.length_take]; rfl)) ?_; (with_reducible refine (track_Want.calls k (wrap64 (Int.tmod a0 1073741824)) (wrap64 (Int.tmod a1 1073741824)) (wrap64 (1 + (wrap64 (Int.tmod a2 1073741824)))) t178 t179 _ A5.out).mono ?_); rintro e w' ⟨rfl, ⟨nd, rfl⟩⟩; refine ⟨_, rfl, ?_⟩))
      go_ret
      exact ⟨by first | rfl | (simp; done) | (simp [*]; done), by repeat (first | exact Drawn0.refl _ | apply Drawn0.step)⟩
  · rw [if_neg c6] at H
    have c6b0 : (t177 == 0) = false := beq_eq_false_iff_ne.mpr c6
    have c6b1 : (t177 != 0) = true := bne_iff_ne.mpr c6
    obtain rfl := Option.some.inj H
    go_enter Try.func5, Try.ntmps5
    go_wp2_with (first | ((with_reducible refine gate_callee (f := 9) rfl ?_); refine goesL_ (some 28) rfl rfl Try.func9 (by kernel_rfl) rfl #[.int .i64 (wrap64 (Int.tmod a0 1073741824)), .int .i64 (wrap64 (1 + (wrap64 (Int.tmod a2 1073741824)))), .int .i64 (wrap64 (1 + (wrap64 (Int.tmod a2 1073741824))))] rfl (by (try simp only [List.map_toArray, List.map_cons, List.map_nil]); first | done | rfl | (simp only [List.length_drop, List.length_take]; rfl)) ?_; (with_reducible refine (track_Want.calls k (wrap64 (Int.tmod a0 1073741824)) (wrap64 (1 + (wrap64 (Int.tmod a2 1073741824)))) (wrap64 (1 + (wrap64 (Int.tmod a2 1073741824)))) t176 t177 _ A4.out).mono ?_); rintro e w' ⟨rfl, ⟨nd, rfl⟩⟩; refine ⟨_, rfl, ?_⟩) | ((with_reducible refine gate_callee (f := 9) rfl ?_); refine goesL_ (some 35) rfl rfl Try.func9 (by kernel_rfl) rfl #[.int .i64 (wrap64 (Int.tmod a0 1073741824)), .int .i64 (wrap64 (Int.tmod a1 1073741824)), .int .i64 (wrap64 (1 + (wrap64 (Int.tmod a2 1073741824))))] rfl (by (try simp only [List.map_toArray, List.map_cons, List.map_nil]); first | done | rfl | (simp only [List.length_drop, List.length_take]; rfl)) ?_; (with_reducible refine (track_Want.calls k (wrap64 (Int.tmod a0 1073741824)) (wrap64 (Int.tmod a1 1073741824)) (wrap64 (1 + (wrap64 (Int.tmod a2 1073741824)))) t178 t179 _ A5.out).mono ?_); rintro e w' ⟨rfl, ⟨nd, rfl⟩⟩; refine ⟨_, rfl, ?_⟩))
    go_ret
    exact ⟨by first | rfl | (simp; done) | (simp [*]; done), by repeat (first | exact Drawn0.refl _ | apply Drawn0.step)⟩

/-- THE ONE PURE STATEMENT of cohortlaw21_TrackSteady: yours. -/
def cohortlaw21_TrackSteady.Pure : Prop := ∀ (a0 : Int) (a1 : Int) (a2 : Int), (Lit.int .u32 a0).wf = true → (Lit.int .u32 a1).wf = true → (Lit.int .u32 a2).wf = true → ∃ k, cohortlaw21_TrackSteady.f k a0 a1 a2 = some true
theorem cohortlaw21_TrackSteady.walk (P : cohortlaw21_TrackSteady.Pure) (a0 : Int) (a1 : Int) (a2 : Int) (w : World) (w0 : (Lit.int .u32 a0).wf = true) (w1 : (Lit.int .u32 a1).wf = true) (w2 : (Lit.int .u32 a2).wf = true) :
    Calls Try.prog 5 #[.int .u32 a0, .int .u32 a1, .int .u32 a2] w fun e w' => e = .returned (.bool true) ∧ Below w.heap.size w w' := by
  obtain ⟨k, h⟩ := P a0 a1 a2 w0 w1 w2
  refine (cohortlaw21_TrackSteady.calls k a0 a1 a2 true w h).mono ?_
  rintro e w' ⟨rfl, hd⟩
  exact ⟨rfl, hd.below⟩

/-! ### cohortlaw21_TrackRises: function 6 -/
def cohortlaw21_TrackRises.f (k : Nat) (a0 : Int) (a1 : Int) (a2 : Int) (a3 : Int) : Option (Bool) := (track_Want.f k (wrap64 (Int.tmod a0 1073741824)) (wrap64 (Int.tmod a1 1073741824)) (wrap64 (1 + (wrap64 (Int.tmod a2 1073741824))))).bind fun bt182 => ((track_Want.f k (wrap64 (Int.tmod a0 1073741824)) (wrap64 ((wrap64 (Int.tmod a1 1073741824)) + (wrap64 (Int.tmod a3 1073741824)))) (wrap64 (1 + (wrap64 (Int.tmod a2 1073741824))))).bind fun bt184 => ((track_Want.f k (wrap64 ((wrap64 (Int.tmod a0 1073741824)) + (wrap64 (Int.tmod a3 1073741824)))) (wrap64 (Int.tmod a1 1073741824)) (wrap64 (1 + (wrap64 (Int.tmod a2 1073741824))))).bind fun bt186 => (if bt182.2 = 0 then (if bt184.2 = 0 then (if bt186.2 = 0 then (if bt182.1 ≤ bt184.1 then (if bt182.1 ≤ bt186.1 then ((cohortlaw21_lives.f k).bind fun t188 => (some t188)) else (some false)) else (some false)) else (some false)) else (some false)) else (some false))))
theorem cohortlaw21_TrackRises.mono : ∀ a0 a1 a2 a3 k, LeO (cohortlaw21_TrackRises.f k a0 a1 a2 a3) (cohortlaw21_TrackRises.f (k + 1) a0 a1 a2 a3) := by
  intro a0 a1 a2 a3 k
  unfold cohortlaw21_TrackRises.f
  repeat' first
      | (with_reducible exact cohortlaw21_lives.mono _)
      | (with_reducible exact track_Want.mono _ _ _ _)
      | (with_reducible exact LeO.refl _)
      | (with_reducible exact LeO.none _)
      | (with_reducible refine LeO.ite ?_ ?_)
      | (with_reducible refine LeO.bind ?_ (fun _ => ?_))
      | exact cohortlaw21_lives.mono _
      | exact track_Want.mono _ _ _ _
      | exact LeO.none _
      | refine LeO.ite ?_ ?_
      | refine LeO.bind ?_ (fun _ => ?_)
set_option maxHeartbeats 8000000 in
set_option maxRecDepth 100000 in
theorem cohortlaw21_TrackRises.calls (k : Nat) (a0 : Int) (a1 : Int) (a2 : Int) (a3 : Int) (r : Bool) (w : World) (h : cohortlaw21_TrackRises.f k a0 a1 a2 a3 = some r) :
    Calls Try.prog 6 #[.int .u32 a0, .int .u32 a1, .int .u32 a2, .int .u32 a3] w fun e w' => e = .returned (.bool r) ∧ Drawn0 w w' := by
  have H : ((track_Want.f k (wrap64 (Int.tmod a0 1073741824)) (wrap64 (Int.tmod a1 1073741824)) (wrap64 (1 + (wrap64 (Int.tmod a2 1073741824))))).bind fun bt182 => ((track_Want.f k (wrap64 (Int.tmod a0 1073741824)) (wrap64 ((wrap64 (Int.tmod a1 1073741824)) + (wrap64 (Int.tmod a3 1073741824)))) (wrap64 (1 + (wrap64 (Int.tmod a2 1073741824))))).bind fun bt184 => ((track_Want.f k (wrap64 ((wrap64 (Int.tmod a0 1073741824)) + (wrap64 (Int.tmod a3 1073741824)))) (wrap64 (Int.tmod a1 1073741824)) (wrap64 (1 + (wrap64 (Int.tmod a2 1073741824))))).bind fun bt186 => (if bt182.2 = 0 then (if bt184.2 = 0 then (if bt186.2 = 0 then (if bt182.1 ≤ bt184.1 then (if bt182.1 ≤ bt186.1 then ((cohortlaw21_lives.f k).bind fun t188 => (some t188)) else (some false)) else (some false)) else (some false)) else (some false)) else (some false))))) = some r := h
  clear h
  replace H := Option.bind_eq_some_iff.mp H
  obtain ⟨⟨t182, t183⟩, A50, H⟩ := H
  replace H : ((track_Want.f k (wrap64 (Int.tmod a0 1073741824)) (wrap64 ((wrap64 (Int.tmod a1 1073741824)) + (wrap64 (Int.tmod a3 1073741824)))) (wrap64 (1 + (wrap64 (Int.tmod a2 1073741824))))).bind fun bt184 => ((track_Want.f k (wrap64 ((wrap64 (Int.tmod a0 1073741824)) + (wrap64 (Int.tmod a3 1073741824)))) (wrap64 (Int.tmod a1 1073741824)) (wrap64 (1 + (wrap64 (Int.tmod a2 1073741824))))).bind fun bt186 => (if t183 = 0 then (if bt184.2 = 0 then (if bt186.2 = 0 then (if t182 ≤ bt184.1 then (if t182 ≤ bt186.1 then ((cohortlaw21_lives.f k).bind fun t188 => (some t188)) else (some false)) else (some false)) else (some false)) else (some false)) else (some false)))) = some r := H
  have A5 := Aside0.mk A50
  clear A50
  replace H := Option.bind_eq_some_iff.mp H
  obtain ⟨⟨t184, t185⟩, A60, H⟩ := H
  replace H : ((track_Want.f k (wrap64 ((wrap64 (Int.tmod a0 1073741824)) + (wrap64 (Int.tmod a3 1073741824)))) (wrap64 (Int.tmod a1 1073741824)) (wrap64 (1 + (wrap64 (Int.tmod a2 1073741824))))).bind fun bt186 => (if t183 = 0 then (if t185 = 0 then (if bt186.2 = 0 then (if t182 ≤ t184 then (if t182 ≤ bt186.1 then ((cohortlaw21_lives.f k).bind fun t188 => (some t188)) else (some false)) else (some false)) else (some false)) else (some false)) else (some false))) = some r := H
  have A6 := Aside0.mk A60
  clear A60
  replace H := Option.bind_eq_some_iff.mp H
  obtain ⟨⟨t186, t187⟩, A70, H⟩ := H
  replace H : (if t183 = 0 then (if t185 = 0 then (if t187 = 0 then (if t182 ≤ t184 then (if t182 ≤ t186 then ((cohortlaw21_lives.f k).bind fun t188 => (some t188)) else (some false)) else (some false)) else (some false)) else (some false)) else (some false)) = some r := H
  have A7 := Aside0.mk A70
  clear A70
  by_cases c8 : t183 = 0
  · rw [if_pos c8] at H
    have c8b0 : (t183 == 0) = true := beq_iff_eq.mpr c8
    have c8b1 : (t183 != 0) = false := bne_eq_false_iff_eq.mpr c8
    clear c8
    by_cases c9 : t185 = 0
    · rw [if_pos c9] at H
      have c9b0 : (t185 == 0) = true := beq_iff_eq.mpr c9
      have c9b1 : (t185 != 0) = false := bne_eq_false_iff_eq.mpr c9
      clear c9
      by_cases c10 : t187 = 0
      · rw [if_pos c10] at H
        have c10b0 : (t187 == 0) = true := beq_iff_eq.mpr c10
        have c10b1 : (t187 != 0) = false := bne_eq_false_iff_eq.mpr c10
        clear c10
        by_cases c11 : t182 ≤ t184
        · rw [if_pos c11] at H
          have c11b0 : decide (t182 ≤ t184) = true := decide_eq_true c11
          clear c11
          by_cases c12 : t182 ≤ t186
          · rw [if_pos c12] at H
            have c12b0 : decide (t182 ≤ t186) = true := decide_eq_true c12
            clear c12
            replace H := Option.bind_eq_some_iff.mp H
            obtain ⟨t188, A130, H⟩ := H
            replace H : (some t188) = some r := H
            have A13 := Aside0.mk A130
            clear A130
            obtain rfl := Option.some.inj H
            go_enter Try.func6, Try.ntmps6
            go_wp2_with (first | ((with_reducible refine gate_callee (f := 9) rfl ?_); refine goesL_ (some 36) rfl rfl Try.func9 (by kernel_rfl) rfl #[.int .i64 (wrap64 (Int.tmod a0 1073741824)), .int .i64 (wrap64 (Int.tmod a1 1073741824)), .int .i64 (wrap64 (1 + (wrap64 (Int.tmod a2 1073741824))))] rfl (by (try simp only [List.map_toArray, List.map_cons, List.map_nil]); first | done | rfl | (simp only [List.length_drop, List.length_take]; rfl)) ?_; (with_reducible refine (track_Want.calls k (wrap64 (Int.tmod a0 1073741824)) (wrap64 (Int.tmod a1 1073741824)) (wrap64 (1 + (wrap64 (Int.tmod a2 1073741824)))) t182 t183 _ A5.out).mono ?_); rintro e w' ⟨rfl, ⟨nd, rfl⟩⟩; refine ⟨_, rfl, ?_⟩) | ((with_reducible refine gate_callee (f := 9) rfl ?_); refine goesL_ (some 45) rfl rfl Try.func9 (by kernel_rfl) rfl #[.int .i64 (wrap64 (Int.tmod a0 1073741824)), .int .i64 (wrap64 ((wrap64 (Int.tmod a1 1073741824)) + (wrap64 (Int.tmod a3 1073741824)))), .int .i64 (wrap64 (1 + (wrap64 (Int.tmod a2 1073741824))))] rfl (by (try simp only [List.map_toArray, List.map_cons, List.map_nil]); first | done | rfl | (simp only [List.length_drop, List.length_take]; rfl)) ?_; (with_reducible refine (track_Want.calls k (wrap64 (Int.tmod a0 1073741824)) (wrap64 ((wrap64 (Int.tmod a1 1073741824)) + (wrap64 (Int.tmod a3 1073741824)))) (wrap64 (1 + (wrap64 (Int.tmod a2 1073741824)))) t184 t185 _ A6.out).mono ?_); rintro e w' ⟨rfl, ⟨nd, rfl⟩⟩; refine ⟨_, rfl, ?_⟩) | ((with_reducible refine gate_callee (f := 9) rfl ?_); refine goesL_ (some 54) rfl rfl Try.func9 (by kernel_rfl) rfl #[.int .i64 (wrap64 ((wrap64 (Int.tmod a0 1073741824)) + (wrap64 (Int.tmod a3 1073741824)))), .int .i64 (wrap64 (Int.tmod a1 1073741824)), .int .i64 (wrap64 (1 + (wrap64 (Int.tmod a2 1073741824))))] rfl (by (try simp only [List.map_toArray, List.map_cons, List.map_nil]); first | done | rfl | (simp only [List.length_drop, List.length_take]; rfl)) ?_; (with_reducible refine (track_Want.calls k (wrap64 ((wrap64 (Int.tmod a0 1073741824)) + (wrap64 (Int.tmod a3 1073741824)))) (wrap64 (Int.tmod a1 1073741824)) (wrap64 (1 + (wrap64 (Int.tmod a2 1073741824)))) t186 t187 _ A7.out).mono ?_); rintro e w' ⟨rfl, ⟨nd, rfl⟩⟩; refine ⟨_, rfl, ?_⟩) | (go_at_call 13; (with_reducible refine (cohortlaw21_lives.calls k  t188 _ A13.out).mono ?_); rintro e w' ⟨rfl, ⟨nd, rfl⟩⟩))
            go_ret
            exact ⟨by first | rfl | (simp; done) | (simp [*]; done), by repeat (first | exact Drawn0.refl _ | apply Drawn0.step)⟩
          · rw [if_neg c12] at H
            have c12b0 : decide (t182 ≤ t186) = false := decide_eq_false c12
            clear c12
            obtain rfl := Option.some.inj H
            go_enter Try.func6, Try.ntmps6
            go_wp2_with (first | ((with_reducible refine gate_callee (f := 9) rfl ?_); refine goesL_ (some 36) rfl rfl Try.func9 (by kernel_rfl) rfl #[.int .i64 (wrap64 (Int.tmod a0 1073741824)), .int .i64 (wrap64 (Int.tmod a1 1073741824)), .int .i64 (wrap64 (1 + (wrap64 (Int.tmod a2 1073741824))))] rfl (by (try simp only [List.map_toArray, List.map_cons, List.map_nil]); first | done | rfl | (simp only [List.length_drop, List.length_take]; rfl)) ?_; (with_reducible refine (track_Want.calls k (wrap64 (Int.tmod a0 1073741824)) (wrap64 (Int.tmod a1 1073741824)) (wrap64 (1 + (wrap64 (Int.tmod a2 1073741824)))) t182 t183 _ A5.out).mono ?_); rintro e w' ⟨rfl, ⟨nd, rfl⟩⟩; refine ⟨_, rfl, ?_⟩) | ((with_reducible refine gate_callee (f := 9) rfl ?_); refine goesL_ (some 45) rfl rfl Try.func9 (by kernel_rfl) rfl #[.int .i64 (wrap64 (Int.tmod a0 1073741824)), .int .i64 (wrap64 ((wrap64 (Int.tmod a1 1073741824)) + (wrap64 (Int.tmod a3 1073741824)))), .int .i64 (wrap64 (1 + (wrap64 (Int.tmod a2 1073741824))))] rfl (by (try simp only [List.map_toArray, List.map_cons, List.map_nil]); first | done | rfl | (simp only [List.length_drop, List.length_take]; rfl)) ?_; (with_reducible refine (track_Want.calls k (wrap64 (Int.tmod a0 1073741824)) (wrap64 ((wrap64 (Int.tmod a1 1073741824)) + (wrap64 (Int.tmod a3 1073741824)))) (wrap64 (1 + (wrap64 (Int.tmod a2 1073741824)))) t184 t185 _ A6.out).mono ?_); rintro e w' ⟨rfl, ⟨nd, rfl⟩⟩; refine ⟨_, rfl, ?_⟩) | ((with_reducible refine gate_callee (f := 9) rfl ?_); refine goesL_ (some 54) rfl rfl Try.func9 (by kernel_rfl) rfl #[.int .i64 (wrap64 ((wrap64 (Int.tmod a0 1073741824)) + (wrap64 (Int.tmod a3 1073741824)))), .int .i64 (wrap64 (Int.tmod a1 1073741824)), .int .i64 (wrap64 (1 + (wrap64 (Int.tmod a2 1073741824))))] rfl (by (try simp only [List.map_toArray, List.map_cons, List.map_nil]); first | done | rfl | (simp only [List.length_drop, List.length_take]; rfl)) ?_; (with_reducible refine (track_Want.calls k (wrap64 ((wrap64 (Int.tmod a0 1073741824)) + (wrap64 (Int.tmod a3 1073741824)))) (wrap64 (Int.tmod a1 1073741824)) (wrap64 (1 + (wrap64 (Int.tmod a2 1073741824)))) t186 t187 _ A7.out).mono ?_); rintro e w' ⟨rfl, ⟨nd, rfl⟩⟩; refine ⟨_, rfl, ?_⟩))
            go_ret
            exact ⟨by first | rfl | (simp; done) | (simp [*]; done), by repeat (first | exact Drawn0.refl _ | apply Drawn0.step)⟩
        · rw [if_neg c11] at H
          have c11b0 : decide (t182 ≤ t184) = false := decide_eq_false c11
          clear c11
          obtain rfl := Option.some.inj H
          go_enter Try.func6, Try.ntmps6
          go_wp2_with (first | ((with_reducible refine gate_callee (f := 9) rfl ?_); refine goesL_ (some 36) rfl rfl Try.func9 (by kernel_rfl) rfl #[.int .i64 (wrap64 (Int.tmod a0 1073741824)), .int .i64 (wrap64 (Int.tmod a1 1073741824)), .int .i64 (wrap64 (1 + (wrap64 (Int.tmod a2 1073741824))))] rfl (by (try simp only [List.map_toArray, List.map_cons, List.map_nil]); first | done | rfl | (simp only [List.length_drop, List.length_take]; rfl)) ?_; (with_reducible refine (track_Want.calls k (wrap64 (Int.tmod a0 1073741824)) (wrap64 (Int.tmod a1 1073741824)) (wrap64 (1 + (wrap64 (Int.tmod a2 1073741824)))) t182 t183 _ A5.out).mono ?_); rintro e w' ⟨rfl, ⟨nd, rfl⟩⟩; refine ⟨_, rfl, ?_⟩) | ((with_reducible refine gate_callee (f := 9) rfl ?_); refine goesL_ (some 45) rfl rfl Try.func9 (by kernel_rfl) rfl #[.int .i64 (wrap64 (Int.tmod a0 1073741824)), .int .i64 (wrap64 ((wrap64 (Int.tmod a1 1073741824)) + (wrap64 (Int.tmod a3 1073741824)))), .int .i64 (wrap64 (1 + (wrap64 (Int.tmod a2 1073741824))))] rfl (by (try simp only [List.map_toArray, List.map_cons, List.map_nil]); first | done | rfl | (simp only [List.length_drop, List.length_take]; rfl)) ?_; (with_reducible refine (track_Want.calls k (wrap64 (Int.tmod a0 1073741824)) (wrap64 ((wrap64 (Int.tmod a1 1073741824)) + (wrap64 (Int.tmod a3 1073741824)))) (wrap64 (1 + (wrap64 (Int.tmod a2 1073741824)))) t184 t185 _ A6.out).mono ?_); rintro e w' ⟨rfl, ⟨nd, rfl⟩⟩; refine ⟨_, rfl, ?_⟩) | ((with_reducible refine gate_callee (f := 9) rfl ?_); refine goesL_ (some 54) rfl rfl Try.func9 (by kernel_rfl) rfl #[.int .i64 (wrap64 ((wrap64 (Int.tmod a0 1073741824)) + (wrap64 (Int.tmod a3 1073741824)))), .int .i64 (wrap64 (Int.tmod a1 1073741824)), .int .i64 (wrap64 (1 + (wrap64 (Int.tmod a2 1073741824))))] rfl (by (try simp only [List.map_toArray, List.map_cons, List.map_nil]); first | done | rfl | (simp only [List.length_drop, List.length_take]; rfl)) ?_; (with_reducible refine (track_Want.calls k (wrap64 ((wrap64 (Int.tmod a0 1073741824)) + (wrap64 (Int.tmod a3 1073741824)))) (wrap64 (Int.tmod a1 1073741824)) (wrap64 (1 + (wrap64 (Int.tmod a2 1073741824)))) t186 t187 _ A7.out).mono ?_); rintro e w' ⟨rfl, ⟨nd, rfl⟩⟩; refine ⟨_, rfl, ?_⟩))
          go_ret
          exact ⟨by first | rfl | (simp; done) | (simp [*]; done), by repeat (first | exact Drawn0.refl _ | apply Drawn0.step)⟩
      · rw [if_neg c10] at H
        have c10b0 : (t187 == 0) = false := beq_eq_false_iff_ne.mpr c10
        have c10b1 : (t187 != 0) = true := bne_iff_ne.mpr c10
        obtain rfl := Option.some.inj H
        go_enter Try.func6, Try.ntmps6
        go_wp2_with (first | ((with_reducible refine gate_callee (f := 9) rfl ?_); refine goesL_ (some 36) rfl rfl Try.func9 (by kernel_rfl) rfl #[.int .i64 (wrap64 (Int.tmod a0 1073741824)), .int .i64 (wrap64 (Int.tmod a1 1073741824)), .int .i64 (wrap64 (1 + (wrap64 (Int.tmod a2 1073741824))))] rfl (by (try simp only [List.map_toArray, List.map_cons, List.map_nil]); first | done | rfl | (simp only [List.length_drop, List.length_take]; rfl)) ?_; (with_reducible refine (track_Want.calls k (wrap64 (Int.tmod a0 1073741824)) (wrap64 (Int.tmod a1 1073741824)) (wrap64 (1 + (wrap64 (Int.tmod a2 1073741824)))) t182 t183 _ A5.out).mono ?_); rintro e w' ⟨rfl, ⟨nd, rfl⟩⟩; refine ⟨_, rfl, ?_⟩) | ((with_reducible refine gate_callee (f := 9) rfl ?_); refine goesL_ (some 45) rfl rfl Try.func9 (by kernel_rfl) rfl #[.int .i64 (wrap64 (Int.tmod a0 1073741824)), .int .i64 (wrap64 ((wrap64 (Int.tmod a1 1073741824)) + (wrap64 (Int.tmod a3 1073741824)))), .int .i64 (wrap64 (1 + (wrap64 (Int.tmod a2 1073741824))))] rfl (by (try simp only [List.map_toArray, List.map_cons, List.map_nil]); first | done | rfl | (simp only [List.length_drop, List.length_take]; rfl)) ?_; (with_reducible refine (track_Want.calls k (wrap64 (Int.tmod a0 1073741824)) (wrap64 ((wrap64 (Int.tmod a1 1073741824)) + (wrap64 (Int.tmod a3 1073741824)))) (wrap64 (1 + (wrap64 (Int.tmod a2 1073741824)))) t184 t185 _ A6.out).mono ?_); rintro e w' ⟨rfl, ⟨nd, rfl⟩⟩; refine ⟨_, rfl, ?_⟩) | ((with_reducible refine gate_callee (f := 9) rfl ?_); refine goesL_ (some 54) rfl rfl Try.func9 (by kernel_rfl) rfl #[.int .i64 (wrap64 ((wrap64 (Int.tmod a0 1073741824)) + (wrap64 (Int.tmod a3 1073741824)))), .int .i64 (wrap64 (Int.tmod a1 1073741824)), .int .i64 (wrap64 (1 + (wrap64 (Int.tmod a2 1073741824))))] rfl (by (try simp only [List.map_toArray, List.map_cons, List.map_nil]); first | done | rfl | (simp only [List.length_drop, List.length_take]; rfl)) ?_; (with_reducible refine (track_Want.calls k (wrap64 ((wrap64 (Int.tmod a0 1073741824)) + (wrap64 (Int.tmod a3 1073741824)))) (wrap64 (Int.tmod a1 1073741824)) (wrap64 (1 + (wrap64 (Int.tmod a2 1073741824)))) t186 t187 _ A7.out).mono ?_); rintro e w' ⟨rfl, ⟨nd, rfl⟩⟩; refine ⟨_, rfl, ?_⟩))
        go_ret
        exact ⟨by first | rfl | (simp; done) | (simp [*]; done), by repeat (first | exact Drawn0.refl _ | apply Drawn0.step)⟩
    · rw [if_neg c9] at H
      have c9b0 : (t185 == 0) = false := beq_eq_false_iff_ne.mpr c9
      have c9b1 : (t185 != 0) = true := bne_iff_ne.mpr c9
      obtain rfl := Option.some.inj H
      go_enter Try.func6, Try.ntmps6
      go_wp2_with (first | ((with_reducible refine gate_callee (f := 9) rfl ?_); refine goesL_ (some 36) rfl rfl Try.func9 (by kernel_rfl) rfl #[.int .i64 (wrap64 (Int.tmod a0 1073741824)), .int .i64 (wrap64 (Int.tmod a1 1073741824)), .int .i64 (wrap64 (1 + (wrap64 (Int.tmod a2 1073741824))))] rfl (by (try simp only [List.map_toArray, List.map_cons, List.map_nil]); first | done | rfl | (simp only [List.length_drop, List.length_take]; rfl)) ?_; (with_reducible refine (track_Want.calls k (wrap64 (Int.tmod a0 1073741824)) (wrap64 (Int.tmod a1 1073741824)) (wrap64 (1 + (wrap64 (Int.tmod a2 1073741824)))) t182 t183 _ A5.out).mono ?_); rintro e w' ⟨rfl, ⟨nd, rfl⟩⟩; refine ⟨_, rfl, ?_⟩) | ((with_reducible refine gate_callee (f := 9) rfl ?_); refine goesL_ (some 45) rfl rfl Try.func9 (by kernel_rfl) rfl #[.int .i64 (wrap64 (Int.tmod a0 1073741824)), .int .i64 (wrap64 ((wrap64 (Int.tmod a1 1073741824)) + (wrap64 (Int.tmod a3 1073741824)))), .int .i64 (wrap64 (1 + (wrap64 (Int.tmod a2 1073741824))))] rfl (by (try simp only [List.map_toArray, List.map_cons, List.map_nil]); first | done | rfl | (simp only [List.length_drop, List.length_take]; rfl)) ?_; (with_reducible refine (track_Want.calls k (wrap64 (Int.tmod a0 1073741824)) (wrap64 ((wrap64 (Int.tmod a1 1073741824)) + (wrap64 (Int.tmod a3 1073741824)))) (wrap64 (1 + (wrap64 (Int.tmod a2 1073741824)))) t184 t185 _ A6.out).mono ?_); rintro e w' ⟨rfl, ⟨nd, rfl⟩⟩; refine ⟨_, rfl, ?_⟩) | ((with_reducible refine gate_callee (f := 9) rfl ?_); refine goesL_ (some 54) rfl rfl Try.func9 (by kernel_rfl) rfl #[.int .i64 (wrap64 ((wrap64 (Int.tmod a0 1073741824)) + (wrap64 (Int.tmod a3 1073741824)))), .int .i64 (wrap64 (Int.tmod a1 1073741824)), .int .i64 (wrap64 (1 + (wrap64 (Int.tmod a2 1073741824))))] rfl (by (try simp only [List.map_toArray, List.map_cons, List.map_nil]); first | done | rfl | (simp only [List.length_drop, List.length_take]; rfl)) ?_; (with_reducible refine (track_Want.calls k (wrap64 ((wrap64 (Int.tmod a0 1073741824)) + (wrap64 (Int.tmod a3 1073741824)))) (wrap64 (Int.tmod a1 1073741824)) (wrap64 (1 + (wrap64 (Int.tmod a2 1073741824)))) t186 t187 _ A7.out).mono ?_); rintro e w' ⟨rfl, ⟨nd, rfl⟩⟩; refine ⟨_, rfl, ?_⟩))
      go_ret
      exact ⟨by first | rfl | (simp; done) | (simp [*]; done), by repeat (first | exact Drawn0.refl _ | apply Drawn0.step)⟩
  · rw [if_neg c8] at H
    have c8b0 : (t183 == 0) = false := beq_eq_false_iff_ne.mpr c8
    have c8b1 : (t183 != 0) = true := bne_iff_ne.mpr c8
    obtain rfl := Option.some.inj H
    go_enter Try.func6, Try.ntmps6
    go_wp2_with (first | ((with_reducible refine gate_callee (f := 9) rfl ?_); refine goesL_ (some 36) rfl rfl Try.func9 (by kernel_rfl) rfl #[.int .i64 (wrap64 (Int.tmod a0 1073741824)), .int .i64 (wrap64 (Int.tmod a1 1073741824)), .int .i64 (wrap64 (1 + (wrap64 (Int.tmod a2 1073741824))))] rfl (by (try simp only [List.map_toArray, List.map_cons, List.map_nil]); first | done | rfl | (simp only [List.length_drop, List.length_take]; rfl)) ?_; (with_reducible refine (track_Want.calls k (wrap64 (Int.tmod a0 1073741824)) (wrap64 (Int.tmod a1 1073741824)) (wrap64 (1 + (wrap64 (Int.tmod a2 1073741824)))) t182 t183 _ A5.out).mono ?_); rintro e w' ⟨rfl, ⟨nd, rfl⟩⟩; refine ⟨_, rfl, ?_⟩) | ((with_reducible refine gate_callee (f := 9) rfl ?_); refine goesL_ (some 45) rfl rfl Try.func9 (by kernel_rfl) rfl #[.int .i64 (wrap64 (Int.tmod a0 1073741824)), .int .i64 (wrap64 ((wrap64 (Int.tmod a1 1073741824)) + (wrap64 (Int.tmod a3 1073741824)))), .int .i64 (wrap64 (1 + (wrap64 (Int.tmod a2 1073741824))))] rfl (by (try simp only [List.map_toArray, List.map_cons, List.map_nil]); first | done | rfl | (simp only [List.length_drop, List.length_take]; rfl)) ?_; (with_reducible refine (track_Want.calls k (wrap64 (Int.tmod a0 1073741824)) (wrap64 ((wrap64 (Int.tmod a1 1073741824)) + (wrap64 (Int.tmod a3 1073741824)))) (wrap64 (1 + (wrap64 (Int.tmod a2 1073741824)))) t184 t185 _ A6.out).mono ?_); rintro e w' ⟨rfl, ⟨nd, rfl⟩⟩; refine ⟨_, rfl, ?_⟩) | ((with_reducible refine gate_callee (f := 9) rfl ?_); refine goesL_ (some 54) rfl rfl Try.func9 (by kernel_rfl) rfl #[.int .i64 (wrap64 ((wrap64 (Int.tmod a0 1073741824)) + (wrap64 (Int.tmod a3 1073741824)))), .int .i64 (wrap64 (Int.tmod a1 1073741824)), .int .i64 (wrap64 (1 + (wrap64 (Int.tmod a2 1073741824))))] rfl (by (try simp only [List.map_toArray, List.map_cons, List.map_nil]); first | done | rfl | (simp only [List.length_drop, List.length_take]; rfl)) ?_; (with_reducible refine (track_Want.calls k (wrap64 ((wrap64 (Int.tmod a0 1073741824)) + (wrap64 (Int.tmod a3 1073741824)))) (wrap64 (Int.tmod a1 1073741824)) (wrap64 (1 + (wrap64 (Int.tmod a2 1073741824)))) t186 t187 _ A7.out).mono ?_); rintro e w' ⟨rfl, ⟨nd, rfl⟩⟩; refine ⟨_, rfl, ?_⟩))
    go_ret
    exact ⟨by first | rfl | (simp; done) | (simp [*]; done), by repeat (first | exact Drawn0.refl _ | apply Drawn0.step)⟩

/-- THE ONE PURE STATEMENT of cohortlaw21_TrackRises: yours. -/
def cohortlaw21_TrackRises.Pure : Prop := ∀ (a0 : Int) (a1 : Int) (a2 : Int) (a3 : Int), (Lit.int .u32 a0).wf = true → (Lit.int .u32 a1).wf = true → (Lit.int .u32 a2).wf = true → (Lit.int .u32 a3).wf = true → ∃ k, cohortlaw21_TrackRises.f k a0 a1 a2 a3 = some true
theorem cohortlaw21_TrackRises.walk (P : cohortlaw21_TrackRises.Pure) (a0 : Int) (a1 : Int) (a2 : Int) (a3 : Int) (w : World) (w0 : (Lit.int .u32 a0).wf = true) (w1 : (Lit.int .u32 a1).wf = true) (w2 : (Lit.int .u32 a2).wf = true) (w3 : (Lit.int .u32 a3).wf = true) :
    Calls Try.prog 6 #[.int .u32 a0, .int .u32 a1, .int .u32 a2, .int .u32 a3] w fun e w' => e = .returned (.bool true) ∧ Below w.heap.size w w' := by
  obtain ⟨k, h⟩ := P a0 a1 a2 a3 w0 w1 w2 w3
  refine (cohortlaw21_TrackRises.calls k a0 a1 a2 a3 true w h).mono ?_
  rintro e w' ⟨rfl, hd⟩
  exact ⟨rfl, hd.below⟩

end Go.Proofs.Ytcnalaaajbnfpaa.GA
