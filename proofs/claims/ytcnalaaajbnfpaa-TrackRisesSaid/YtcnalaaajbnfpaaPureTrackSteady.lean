/- The plain law of TrackSteady: of a metric that is the target the capacity is itself; what comes of a metric is the quotient, up. No condition. -/
import Derived.Test.YtcnalaaajbnfpaaGAx6
import Derived.Test.YtcnalaaajbnfpaaTrack
namespace Go.Proofs.Ytcnalaaajbnfpaa.Pure
open Go.RowKit Go.Proofs.Ytcnalaaajbnfpaa.GA Go.Proofs.YtcnalaaajbnfpaaW.PrintWords Go.Proofs.YtcnalaaajbnfpaaW.PrintLast

theorem mod_nat (a : Nat) (ha : a < 4294967296) : wrap64 (Int.tmod (a : Int) 1073741824) = ((a % 1073741824 : Nat) : Int) := by
  rw [Int.tmod_eq_emod_of_nonneg (by omega), wi64 _ (by omega) (by omega)]; omega
theorem one_mod (a : Nat) : wrap64 (1 + ((a % 1073741824 : Nat) : Int)) = ((1 + a % 1073741824 : Nat) : Int) := by
  rw [wi64 _ (by omega) (by omega)]; omega
theorem mul_small (a b : Nat) (ha : a < 2147483648) (hb : b < 2147483649) : a * b < 4611686018427387905 * 1 := by
  have : a * b ≤ 2147483647 * 2147483648 := Nat.mul_le_mul (by omega) (by omega)
  omega

theorem TrackSteady : cohortlaw21_TrackSteady.Pure := by
  intro a0 a1 a2 h0 h1 h2
  have b0 : 0 ≤ a0 ∧ a0 ≤ 4294967295 := by simpa [Lit.wf, IntKind.min, IntKind.max, IntKind.signed, IntKind.bits] using h0
  have b1 : 0 ≤ a1 ∧ a1 ≤ 4294967295 := by simpa [Lit.wf, IntKind.min, IntKind.max, IntKind.signed, IntKind.bits] using h1
  have b2 : 0 ≤ a2 ∧ a2 ≤ 4294967295 := by simpa [Lit.wf, IntKind.min, IntKind.max, IntKind.signed, IntKind.bits] using h2
  obtain ⟨x0, rfl⟩ := Int.eq_ofNat_of_zero_le b0.1
  obtain ⟨x1, rfl⟩ := Int.eq_ofNat_of_zero_le b1.1
  obtain ⟨x2, rfl⟩ := Int.eq_ofNat_of_zero_le b2.1
  suffices h : Ev (fun k => cohortlaw21_TrackSteady.f k (x0 : Int) (x1 : Int) (x2 : Int)) true from h.rounds
  unfold cohortlaw21_TrackSteady.f
  simp only [mod_nat x0 (by omega), mod_nat x1 (by omega), mod_nat x2 (by omega), one_mod x2]
  obtain ⟨d, hd, hdl⟩ : ∃ d, x0 % 1073741824 = d ∧ d < 1073741824 := ⟨_, rfl, Nat.mod_lt _ (by omega)⟩
  obtain ⟨m, hm, hml⟩ : ∃ d, x1 % 1073741824 = d ∧ d < 1073741824 := ⟨_, rfl, Nat.mod_lt _ (by omega)⟩
  obtain ⟨t, ht, htl⟩ : ∃ d, 1 + x2 % 1073741824 = d ∧ d ≤ 1073741824 := ⟨_, rfl, by omega⟩
  have ht1 : 1 ≤ t := by omega
  rw [hd, hm, ht]
  clear hd hm ht h0 h1 h2 b0 b1 b2
  have hdt := mul_small d t (by omega) (by omega)
  have hdm := mul_small d m (by omega) (by omega)
  have w1 := want_ev d t t (by omega) (by omega) (by omega) ht1
  have w2 := want_ev d m t (by omega) (by omega) (by omega) ht1
  unfold wantN at w1 w2
  rw [if_pos (by omega)] at w1 w2
  have hsame : upN (d * t) t = d := by
    unfold upN
    rw [show d * t + t - 1 = (t - 1) + t * d from by rw [Nat.mul_comm t d]; omega, Nat.add_mul_div_left _ _ (by omega), Nat.div_eq_of_lt (by omega)]; omega
  have hlo : d * m ≤ upN (d * m) t * t := by
    unfold upN
    have h1 := Nat.div_add_mod (d * m + t - 1) t
    have h2 := Nat.mod_lt (d * m + t - 1) (show 0 < t by omega)
    rw [Nat.mul_comm] at h1; omega
  have hhi : upN (d * m) t = 0 ∨ (upN (d * m) t - 1) * t < d * m := by
    rcases Nat.eq_zero_or_pos (upN (d * m) t) with h | h
    · exact .inl h
    · right
      unfold upN at h ⊢
      have h1 := Nat.div_add_mod (d * m + t - 1) t
      rw [Nat.mul_comm] at h1
      rw [Nat.sub_mul, Nat.one_mul]
      have : t ≤ (d * m + t - 1) / t * t := Nat.le_mul_of_pos_left _ h
      omega
  have hle : upN (d * m) t ≤ d * m := by
    unfold upN
    rcases Nat.eq_zero_or_pos (d * m) with h | h
    · rw [h, Nat.div_eq_of_lt (by omega)]; omega
    · rw [show d * m + t - 1 = (d * m - 1) + t from by omega, Nat.add_div_right _ (by omega)]
      have := Nat.div_le_self (d * m - 1) t
      omega
  have hnt : upN (d * m) t * t ≤ d * m + t := by
    unfold upN
    have := Nat.div_mul_le_self (d * m + t - 1) t
    omega
  refine Ev.bind w1 (Ev.bind w2 ?_)
  simp only [hsame, if_true]
  generalize upN (d * m) t = n at *
  have e1 : wrap64 ((d : Int) * (m : Int)) = ((d * m : Nat) : Int) := by rw [← Int.natCast_mul]; exact wi64 _ (by omega) (by omega)
  have e2 : wrap64 ((n : Int) * (t : Int)) = ((n * t : Nat) : Int) := by rw [← Int.natCast_mul]; exact wi64 _ (by omega) (by omega)
  simp only [e1, e2, if_neg (show ¬ (n : Int) < 0 from by omega), if_pos (Int.ofNat_le.2 hlo)]
  by_cases h0 : (n : Int) = 0
  · simp only [if_pos h0]; exact lives_true
  · simp only [if_neg h0]
    have h1 := hhi.resolve_left (by omega)
    have e3 : wrap64 ((n : Int) - 1) = ((n - 1 : Nat) : Int) := by rw [wi64 _ (by omega) (by omega)]; omega
    have e4 : wrap64 (((n - 1 : Nat) : Int) * (t : Int)) = (((n - 1) * t : Nat) : Int) := by
      rw [← Int.natCast_mul]
      have h2 : (n - 1) * t < 4611686018427387905 := by omega
      clear hhi h1
      generalize (n - 1) * t = z at *
      exact wi64 _ (by omega) (by omega)
    simp only [e3, e4, if_pos (show ((d * m : Nat) : Int) > (((n - 1) * t : Nat) : Int) from Int.ofNat_lt.2 h1)]
    exact lives_true

end Go.Proofs.Ytcnalaaajbnfpaa.Pure
