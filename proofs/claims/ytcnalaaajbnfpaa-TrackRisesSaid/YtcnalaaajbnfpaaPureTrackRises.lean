/- The plain law of TrackRises: of a greater metric, or capacity, it is not less. No condition. -/
import Derived.Test.YtcnalaaajbnfpaaGAx6
import Derived.Test.YtcnalaaajbnfpaaTrack
import Derived.Test.YtcnalaaajbnfpaaPureTrackSteady
namespace Go.Proofs.Ytcnalaaajbnfpaa.Pure
open Go.RowKit Go.Proofs.Ytcnalaaajbnfpaa.GA Go.Proofs.YtcnalaaajbnfpaaW.PrintWords Go.Proofs.YtcnalaaajbnfpaaW.PrintLast

theorem upN_mono (a b t : Nat) (h : a ≤ b) : upN a t ≤ upN b t := by
  unfold upN; exact Nat.div_le_div_right (by omega)

theorem TrackRises : cohortlaw21_TrackRises.Pure := by
  intro a0 a1 a2 a3 h0 h1 h2 h3
  have b0 : 0 ≤ a0 ∧ a0 ≤ 4294967295 := by simpa [Lit.wf, IntKind.min, IntKind.max, IntKind.signed, IntKind.bits] using h0
  have b1 : 0 ≤ a1 ∧ a1 ≤ 4294967295 := by simpa [Lit.wf, IntKind.min, IntKind.max, IntKind.signed, IntKind.bits] using h1
  have b2 : 0 ≤ a2 ∧ a2 ≤ 4294967295 := by simpa [Lit.wf, IntKind.min, IntKind.max, IntKind.signed, IntKind.bits] using h2
  have b3 : 0 ≤ a3 ∧ a3 ≤ 4294967295 := by simpa [Lit.wf, IntKind.min, IntKind.max, IntKind.signed, IntKind.bits] using h3
  obtain ⟨x0, rfl⟩ := Int.eq_ofNat_of_zero_le b0.1
  obtain ⟨x1, rfl⟩ := Int.eq_ofNat_of_zero_le b1.1
  obtain ⟨x2, rfl⟩ := Int.eq_ofNat_of_zero_le b2.1
  obtain ⟨x3, rfl⟩ := Int.eq_ofNat_of_zero_le b3.1
  suffices h : Ev (fun k => cohortlaw21_TrackRises.f k (x0 : Int) (x1 : Int) (x2 : Int) (x3 : Int)) true from h.rounds
  unfold cohortlaw21_TrackRises.f
  simp only [mod_nat x0 (by omega), mod_nat x1 (by omega), mod_nat x2 (by omega), mod_nat x3 (by omega), one_mod x2]
  obtain ⟨d, hd, hdl⟩ : ∃ d, x0 % 1073741824 = d ∧ d < 1073741824 := ⟨_, rfl, Nat.mod_lt _ (by omega)⟩
  obtain ⟨m, hm, hml⟩ : ∃ d, x1 % 1073741824 = d ∧ d < 1073741824 := ⟨_, rfl, Nat.mod_lt _ (by omega)⟩
  obtain ⟨q, hq, hql⟩ : ∃ d, x3 % 1073741824 = d ∧ d < 1073741824 := ⟨_, rfl, Nat.mod_lt _ (by omega)⟩
  obtain ⟨t, ht, htl⟩ : ∃ d, 1 + x2 % 1073741824 = d ∧ d ≤ 1073741824 := ⟨_, rfl, by omega⟩
  have ht1 : 1 ≤ t := by omega
  rw [hd, hm, ht, hq]
  clear hd hm ht hq h0 h1 h2 h3 b0 b1 b2 b3
  have e1 : wrap64 ((m : Int) + (q : Int)) = ((m + q : Nat) : Int) := by rw [wi64 _ (by omega) (by omega)]; omega
  have e2 : wrap64 ((d : Int) + (q : Int)) = ((d + q : Nat) : Int) := by rw [wi64 _ (by omega) (by omega)]; omega
  rw [e1, e2]
  have w1 := want_ev d m t (by omega) (by omega) (by omega) ht1
  have w2 := want_ev d (m + q) t (by omega) (by omega) (by omega) ht1
  have w3 := want_ev (d + q) m t (by omega) (by omega) (by omega) ht1
  have g1 : d * m < 9223372036854775808 := Nat.lt_of_lt_of_le (mul_small d m (by omega) (by omega)) (by decide)
  have g2 : d * (m + q) < 9223372036854775808 := Nat.lt_of_lt_of_le (mul_small d (m + q) (by omega) (by omega)) (by decide)
  have g3 : (d + q) * m < 9223372036854775808 := Nat.lt_of_lt_of_le (mul_small (d + q) m (by omega) (by omega)) (by decide)
  unfold wantN at w1 w2 w3
  rw [if_pos g1] at w1
  rw [if_pos g2] at w2
  rw [if_pos g3] at w3
  have l1 := upN_mono (d * m) (d * (m + q)) t (Nat.mul_le_mul (Nat.le_refl _) (Nat.le_add_right _ _))
  have l2 := upN_mono (d * m) ((d + q) * m) t (Nat.mul_le_mul (Nat.le_add_right _ _) (Nat.le_refl _))
  refine Ev.bind w1 (Ev.bind w2 (Ev.bind w3 ?_))
  simp only [if_true]
  simp only [if_pos (Int.ofNat_le.2 l1), if_pos (Int.ofNat_le.2 l2)]
  exact lives_true

end Go.Proofs.Ytcnalaaajbnfpaa.Pure
