/- What track's Want comes to, of any numbers: the product by the target, up, or its error; the program's and the document's. No condition but each theorem's own. -/
import Derived.Test.YtcnalaaajbnfpaaGAx6
namespace Go.Proofs.Ytcnalaaajbnfpaa.Pure
open Go.RowKit Go.Proofs.Ytcnalaaajbnfpaa.GA Go.Proofs.YtcnalaaajbnfpaaW.PrintWords Go.Proofs.YtcnalaaajbnfpaaW.PrintLast

theorem w64 (n : Int) (h0 : 0 ≤ n) (h1 : n < 18446744073709551616) : IntKind.u64.wrap n = n := by
  simp [IntKind.wrap, IntKind.bits, IntKind.signed]; omega
theorem wi64 (n : Int) (h0 : 0 ≤ n) (h1 : n < 9223372036854775808) : wrap64 n = n := by
  unfold wrap64; omega
/-- a product of sizes, or its error -/
def mulN (a b : Nat) : Int × Int := if a * b < 9223372036854775808 then (((a * b : Nat) : Int), 0) else (0, 11)

theorem mul_eq (a b : Nat) (ha : a < 9223372036854775808) (hb : b < 9223372036854775808) : num_Mul.f (a : Int) (b : Int) = some (mulN a b) := by
  unfold num_Mul.f mulN
  rw [if_neg (by omega), ← Int.natCast_mul]
  generalize a * b = c
  by_cases h : c < 9223372036854775808
  · rw [if_pos (by omega), if_pos h]
  · rw [if_neg (by omega), if_neg h]

theorem refmul_ev (a b : Nat) (ha : a < 9223372036854775808) (hb : b < 9223372036854775808) : Ev (fun k => cohortref01_Mul.f k (a : Int) (b : Int)) (mulN a b) := by
  unfold cohortref01_Mul.f
  by_cases h0 : (a : Int) = 0
  · have : a = 0 := by omega
    subst this
    simp only [if_pos h0]
    refine Ev.step (fun k => by simp only [cohortref01_Mul.j0, if_true]; rfl) ?_
    simp only [mulN, Nat.zero_mul]
    exact Ev.now _
  · simp only [if_neg h0]
    by_cases h1 : b = 0
    · subst h1
      have hb0 : (((0 : Nat) : Int) == 0) = true := rfl
      rw [hb0]
      refine Ev.step (fun k => by simp only [cohortref01_Mul.j0, if_true]; rfl) ?_
      simp only [mulN, Nat.mul_zero]
      exact Ev.now _
    · have hb1 : ((b : Int) == 0) = false := by simp; omega
      rw [hb1]
      refine Ev.step (fun k => by simp only [cohortref01_Mul.j0, Bool.false_eq_true, if_false]; rw [if_neg (by omega), if_neg (by omega)]) ?_
      refine Ev.step (fun k => by simp only [cohortref01_Mul.j1, Bool.false_eq_true, if_false]; rw [if_neg (by omega)]) ?_
      unfold mulN
      by_cases h2 : a * b < 9223372036854775808
      · rw [if_pos h2]
        have hc : wrap64 ((a : Int) * (b : Int)) = ((a * b : Nat) : Int) := by rw [← Int.natCast_mul]; exact wi64 _ (by omega) (by omega)
        have hq : wrap64 (Int.tdiv ((a * b : Nat) : Int) (b : Int)) = (a : Int) := by
          rw [Int.tdiv_eq_ediv_of_nonneg (by omega), ← Int.natCast_ediv, Nat.mul_div_cancel _ (by omega), wi64 _ (by omega) (by omega)]
        simp only [hc, hq, if_true]
        exact Ev.now _
      · rw [if_neg h2]
        have hne : ¬ wrap64 (Int.tdiv (wrap64 ((a : Int) * (b : Int))) (b : Int)) = (a : Int) := by
          intro he
          obtain ⟨c, hc⟩ : ∃ c, c = wrap64 ((a : Int) * (b : Int)) := ⟨_, rfl⟩
          rw [← hc] at he
          have hcr : -9223372036854775808 ≤ c ∧ c ≤ 9223372036854775807 := by rw [hc]; unfold wrap64; omega
          have hcm : ∃ q : Int, c = (a : Int) * (b : Int) - q * 18446744073709551616 := by
            rw [hc]; unfold wrap64
            exact ⟨((a : Int) * (b : Int) + 9223372036854775808) / 18446744073709551616, by omega⟩
          obtain ⟨q, hq⟩ := hcm
          have hmod := Int.tmod_add_mul_tdiv c (b : Int)
          have hlt : Int.natAbs (Int.tmod c (b : Int)) < b := by
            rw [Int.natAbs_tmod]
            simp only [Int.natAbs_natCast]
            exact Nat.mod_lt _ (by omega)
          have htd : Int.tdiv c (b : Int) = (a : Int) := by
            have hb2 : Int.natAbs (Int.tdiv c (b : Int)) ≤ Int.natAbs c := by
              rw [Int.natAbs_tdiv]; exact Nat.div_le_self _ _
            have hr : wrap64 (Int.tdiv c (b : Int)) = Int.tdiv c (b : Int) ∨ Int.tdiv c (b : Int) = 9223372036854775808 := by
              unfold wrap64; omega
            rcases hr with hr | hr
            · rw [hr] at he; exact he
            · rw [hr] at he
              have : wrap64 9223372036854775808 = -9223372036854775808 := by unfold wrap64; omega
              rw [this] at he; omega
          rw [htd, Int.mul_comm] at hmod
          have hab : (a : Int) * (b : Int) = ((a * b : Nat) : Int) := by rw [Int.natCast_mul]
          rw [hab] at hq hmod
          generalize a * b = p at *
          omega
        simp only [if_neg hne]
        exact Ev.now _

def upN (n t : Nat) : Nat := (n + t - 1) / t

theorem up_eq (n t : Nat) (hn : n < 9223372036854775808) (ht : t < 9223372036854775808) (h1 : 1 ≤ t) : num_Up.f (n : Int) (t : Int) = some (((upN n t : Nat) : Int), 0) := by
  unfold num_Up.f upN
  rw [if_neg (by omega)]
  have hle : (n + t - 1) / t ≤ n := by
    rcases Nat.eq_zero_or_pos n with h | h
    · subst h; rw [Nat.div_eq_of_lt (by omega)]; omega
    · rw [show n + t - 1 = (n - 1) + t from by omega, Nat.add_div_right _ (by omega)]
      have := Nat.div_le_self (n - 1) t
      omega
  by_cases h0 : (n : Int) > 0
  · rw [if_pos h0, if_neg (by omega)]
    have e1 : wrap64 ((n : Int) - 1) = ((n - 1 : Nat) : Int) := by rw [wi64 _ (by omega) (by omega)]; omega
    have e2 : wrap64 (Int.tdiv ((n - 1 : Nat) : Int) (t : Int)) = (((n - 1) / t : Nat) : Int) := by
      rw [Int.tdiv_eq_ediv_of_nonneg (by omega), ← Int.natCast_ediv]
      have := Nat.div_le_self (n - 1) t
      generalize (n - 1) / t = z at *
      rw [wi64 _ (by omega) (by omega)]
    have e3 : (n + t - 1) / t = (n - 1) / t + 1 := by rw [show n + t - 1 = (n - 1) + t from by omega, Nat.add_div_right _ (by omega)]
    rw [e3] at hle ⊢
    rw [e1, e2]
    generalize (n - 1) / t = z at *
    rw [wi64 _ (by omega) (by omega)]; rfl
  · have : n = 0 := by omega
    subst this
    rw [if_neg h0, if_neg (by omega), Nat.div_eq_of_lt (by omega)]
    simp; unfold wrap64; omega

theorem refup_eq (n t : Nat) (hn : n < 9223372036854775808) (ht : t < 9223372036854775808) (h1 : 1 ≤ t) : cohortref01_Up.f (n : Int) (t : Int) = some (((upN n t : Nat) : Int), 0) := by
  unfold cohortref01_Up.f upN
  rw [if_neg (by omega), if_neg (by omega)]
  have e1 : Int.tmod (n : Int) (t : Int) = ((n % t : Nat) : Int) := by rw [Int.tmod_eq_emod_of_nonneg (by omega), Int.natCast_emod]
  have e2 : wrap64 (Int.tdiv (n : Int) (t : Int)) = ((n / t : Nat) : Int) := by
    rw [Int.tdiv_eq_ediv_of_nonneg (by omega), ← Int.natCast_ediv]
    have := Nat.div_le_self n t
    generalize n / t = z at *
    rw [wi64 _ (by omega) (by omega)]
  rw [e1, e2]
  have hle := Nat.div_le_self n t
  have hdm := Nat.div_add_mod n t
  have hml := Nat.mod_lt n (show 0 < t by omega)
  by_cases h : ((n % t : Nat) : Int) > 0
  · rw [if_pos h]
    have e3 : (n + t - 1) / t = n / t + 1 := by
      have : n + t - 1 = (n % t - 1) + t * (n / t + 1) := by rw [Nat.mul_add, Nat.mul_one]; omega
      rw [this, Nat.add_mul_div_left _ _ (by omega), Nat.div_eq_of_lt (by omega)]; omega
    have hlt : n / t < n ∨ t = 1 := by
      rcases (by omega : t = 1 ∨ 2 ≤ t) with h2 | h2
      · exact .inr h2
      · exact .inl (Nat.div_lt_self (by omega) h2)
    rw [e3]
    rcases hlt with h2 | h2
    · generalize n / t = z at *
      rw [wi64 _ (by omega) (by omega)]; rfl
    · subst h2; omega
  · rw [if_neg h]
    have e3 : (n + t - 1) / t = n / t := by
      have : n + t - 1 = (t - 1) + t * (n / t) := by omega
      rw [this, Nat.add_mul_div_left _ _ (by omega), Nat.div_eq_of_lt (by omega)]; omega
    rw [e3]

/-- the capacity, or its error -/
def wantN (d m t : Nat) : Int × Int := if d * m < 9223372036854775808 then (((upN (d * m) t : Nat) : Int), 0) else (0, 11)

theorem want_ev (d m t : Nat) (hd : d < 9223372036854775808) (hm : m < 9223372036854775808) (ht : t < 9223372036854775808) (h1 : 1 ≤ t) : Ev (fun k => track_Want.f k (d : Int) (m : Int) (t : Int)) (wantN d m t) := by
  unfold track_Want.f
  simp only [if_neg (show ¬ (t : Int) < 1 from by omega), if_neg (show ¬ (d : Int) < 0 from by omega), decide_eq_false (show ¬ (m : Int) < 0 from by omega)]
  refine Ev.step (fun k => by simp only [track_Want.j0, Bool.false_eq_true, if_false]; rfl) ?_
  have hw : track_want.f (d : Int) (m : Int) (t : Int) = some (if d * m < 9223372036854775808 then (((upN (d * m) t : Nat) : Int), none) else (0, some 11)) := by
    unfold track_want.f
    rw [mul_eq d m hd hm]
    unfold mulN
    by_cases h : d * m < 9223372036854775808
    · simp only [if_pos h, if_true, up_eq (d * m) t h ht h1, Option.bind_some]
    · simp only [if_neg h, Option.bind_some]
      rw [if_neg (by omega)]
  rw [hw]
  unfold wantN errors_Is.f
  by_cases h : d * m < 9223372036854775808
  · simp only [if_pos h]; exact Ev.now _
  · simp only [if_neg h]; exact Ev.now _

theorem refwant_ev (d m t : Nat) (hd : d < 9223372036854775808) (hm : m < 9223372036854775808) (ht : t < 9223372036854775808) (h1 : 1 ≤ t) : Ev (fun k => cohortref21_Want.f k (d : Int) (m : Int) (t : Int)) (wantN d m t) := by
  unfold cohortref21_Want.f
  simp only [if_neg (show ¬ (t : Int) < 1 from by omega), if_neg (show ¬ (d : Int) < 0 from by omega), decide_eq_false (show ¬ (m : Int) < 0 from by omega)]
  refine Ev.step (fun k => by simp only [cohortref21_Want.j0, Bool.false_eq_true, if_false]; rfl) ?_
  refine Ev.bind (refmul_ev d m hd hm) ?_
  unfold mulN wantN
  by_cases h : d * m < 9223372036854775808
  · simp only [if_pos h, if_true, refup_eq (d * m) t h ht h1, Option.bind_some]
    exact Ev.now _
  · simp only [if_neg h]
    rw [if_neg (by omega)]
    exact Ev.now _

/-- what may not be asked -/
theorem want_arg (d m t : Int) (h : t < 1 ∨ d < 0 ∨ m < 0) : Ev (fun k => track_Want.f k d m t) (0, 2) ∧ Ev (fun k => cohortref21_Want.f k d m t) (0, 2) := by
  have k1 : Ev (fun k => track_Want.j0 k d m t true) (0, 2) := Ev.step (fun k => by simp only [track_Want.j0, if_true]) (Ev.now _)
  have k2 : Ev (fun k => cohortref21_Want.j0 k d m t true) (0, 2) := Ev.step (fun k => by simp only [cohortref21_Want.j0, if_true]) (Ev.now _)
  unfold track_Want.f cohortref21_Want.f
  by_cases h1 : t < 1
  · simp only [if_pos h1]; exact ⟨k1, k2⟩
  · by_cases h2 : d < 0
    · simp only [if_neg h1, if_pos h2]; exact ⟨k1, k2⟩
    · have h3 : m < 0 := by omega
      simp only [if_neg h1, if_neg h2, decide_eq_true h3]; exact ⟨k1, k2⟩

theorem lives_ev : Ev (fun k => cohortlaw21_lives.f k) true := Ev.of (fun k => cohortlaw21_lives.mono k) (k := 12) (by decide +kernel)
theorem lives_true : Ev (fun k => (cohortlaw21_lives.f k).bind fun t => some t) true := Ev.bind lives_ev (Ev.now true)

end Go.Proofs.Ytcnalaaajbnfpaa.Pure
