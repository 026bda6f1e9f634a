/- Contracts: each call of a Go function answers what the Lean function of its name says; a law of the set follows. No condition but each theorem's own. Written by a program of this session's out of the translation, with the functions proved by hand let in. -/
import Derived.Test.YtlnfdhcpnbhkdaaGAx0
namespace Go.Proofs.Ytlnfdhcpnbhkdaa.GA
open Go.RowKit Go.Proofs.YtlnfdhcpnbhkdaaW.PrintWords Go.Proofs.YtlnfdhcpnbhkdaaW.PrintLast Go.Proofs.YtlnfdhcpnbhkdaaW.PrintMore
attribute [local go_sem] max2_int min2_int max_two min_two max_three min_three max_four min_four   -- for this text's walks alone
set_option linter.unusedVariables false
set_option linter.unusedSimpArgs false

-- NOT PRINTED: function 12 (disk_Disk_Dark)

-- NOT PRINTED: function 13 (disk_Disk_Steps)

-- NOT PRINTED: function 8 (disk_New)

-- NOT PRINTED: function 26 (disk_Disk_Blocks)

-- NOT PRINTED: function 31 (disk_Disk_known)

-- NOT PRINTED: function 27 (disk_Disk_day)

-- NOT PRINTED: function 9 (disk_Disk_Arm)

-- NOT PRINTED: function 28 (disk_Disk_step)

-- NOT PRINTED: function 10 (disk_Disk_Write)

-- NOT PRINTED: function 11 (disk_Disk_Flush)

/-! ### disk_part: function 32 -/
def disk_part.f (a0 : Int) : Option (Int × Int) := if a0 < 1 then (some (0, 0)) else (if a0 ≥ 64 then (some (0, 64)) else (if (Int.tmod a0 2) = 1 then (some (0, 32)) else (some (32, 64))))
set_option maxHeartbeats 8000000 in
set_option maxRecDepth 100000 in
theorem disk_part.calls (a0 : Int) (r1 : Int) (r2 : Int) (w : World) (h : disk_part.f a0 = some (r1, r2)) :
    Calls Try.prog 32 #[.int .i64 a0] w fun e w' => e = .returned (.tuple #[.int .i64 r1, .int .i64 r2]) ∧ Drawn0 w w' := by
  have H : (if a0 < 1 then (some (0, 0)) else (if a0 ≥ 64 then (some (0, 64)) else (if (Int.tmod a0 2) = 1 then (some (0, 32)) else (some (32, 64))))) = some (r1, r2) := h
  clear h
  by_cases c2 : a0 < 1
  · rw [if_pos c2] at H
    have c2b0 : decide (a0 < 1) = true := decide_eq_true c2
    clear c2
    simp only [Option.some.injEq, Prod.mk.injEq] at H
    obtain ⟨rfl, rfl⟩ := H
    go_enter Try.func32, Try.ntmps32
    go_wp2
    go_ret2
    exact ⟨by first | rfl | (simp; done) | (simp [*]; done), by repeat (first | exact Drawn0.refl _ | apply Drawn0.step)⟩
  · rw [if_neg c2] at H
    have c2b0 : decide (a0 < 1) = false := decide_eq_false c2
    clear c2
    by_cases c3 : a0 ≥ 64
    · rw [if_pos c3] at H
      have c3b0 : decide (64 ≤ a0) = true := decide_eq_true c3
      clear c3
      simp only [Option.some.injEq, Prod.mk.injEq] at H
      obtain ⟨rfl, rfl⟩ := H
      go_enter Try.func32, Try.ntmps32
      go_wp2
      go_ret2
      exact ⟨by first | rfl | (simp; done) | (simp [*]; done), by repeat (first | exact Drawn0.refl _ | apply Drawn0.step)⟩
    · rw [if_neg c3] at H
      have c3b0 : decide (64 ≤ a0) = false := decide_eq_false c3
      clear c3
      by_cases c4 : (Int.tmod a0 2) = 1
      · rw [if_pos c4] at H
        have c4b0 : ((Int.tmod a0 2) == 1) = true := beq_iff_eq.mpr c4
        have c4b1 : ((Int.tmod a0 2) != 1) = false := bne_eq_false_iff_eq.mpr c4
        clear c4
        simp only [Option.some.injEq, Prod.mk.injEq] at H
        obtain ⟨rfl, rfl⟩ := H
        go_enter Try.func32, Try.ntmps32
        go_wp2
        go_ret2
        exact ⟨by first | rfl | (simp; done) | (simp [*]; done), by repeat (first | exact Drawn0.refl _ | apply Drawn0.step)⟩
      · rw [if_neg c4] at H
        have c4b0 : ((Int.tmod a0 2) == 1) = false := beq_eq_false_iff_ne.mpr c4
        have c4b1 : ((Int.tmod a0 2) != 1) = true := bne_iff_ne.mpr c4
        simp only [Option.some.injEq, Prod.mk.injEq] at H
        obtain ⟨rfl, rfl⟩ := H
        go_enter Try.func32, Try.ntmps32
        go_wp2
        go_ret2
        exact ⟨by first | rfl | (simp; done) | (simp [*]; done), by repeat (first | exact Drawn0.refl _ | apply Drawn0.step)⟩

-- NOT PRINTED: function 17 (disk_Disk_Crash)

-- NOT PRINTED: function 19 (disk_Disk_Read)

-- NOT PRINTED: function 24 (cohortlaw06_all)

-- NOT PRINTED: function 14 (cohortlaw06_lives)

-- NOT PRINTED: function 16 (disk_Disk_Loose)

-- NOT PRINTED: function 33 (api_Block)

-- NOT PRINTED: function 34 (disk_ask)

-- NOT PRINTED: function 20 (disk_Disk_Copy)

-- NOT PRINTED: function 18 (disk_Disk_Sure)

-- NOT PRINTED: function 25 (cohortlaw06_answer)

-- NOT PRINTED: function 7 (cohortlaw06_DiskNil)

-- NOT PRINTED: function 3 (cohortlaw06_DiskArm)

-- NOT PRINTED: function 15 (cohortlaw06_puts)

-- NOT PRINTED: function 4 (cohortlaw06_DiskSure)

-- NOT PRINTED: function 5 (cohortlaw06_DiskAll)

-- NOT PRINTED: function 21 (cohortref06_New)

-- NOT PRINTED: function 43 (cohortref06_Disk_has)

-- NOT PRINTED: function 44 (cohortref06_Disk_rings)

-- NOT PRINTED: function 37 (cohortref06_Disk_Write)

-- NOT PRINTED: function 38 (cohortref06_Disk_Read)

-- NOT PRINTED: function 47 (cohortref06_half)

-- NOT PRINTED: function 46 (cohortref06_Torn)

-- NOT PRINTED: function 45 (cohortref06_Disk_hold)

-- NOT PRINTED: function 39 (cohortref06_Disk_Flush)

-- NOT PRINTED: function 40 (cohortref06_Disk_Arm)

-- NOT PRINTED: function 41 (cohortref06_Disk_Crash)

-- NOT PRINTED: function 42 (cohortref06_Disk_Sure)

-- NOT PRINTED: function 35 (cohortlaw06_should)

-- NOT PRINTED: function 22 (cohortlaw06_agree)

-- NOT PRINTED: function 36 (cohortref06_Disk_Blocks)

-- NOT PRINTED: function 23 (cohortlaw06_twins)

-- NOT PRINTED: function 6 (cohortlaw06_DiskPlays)

end Go.Proofs.Ytlnfdhcpnbhkdaa.GA
