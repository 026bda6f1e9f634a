/- The plain law of WantSteady: of a metric that is the target nothing changes, without Bands. No condition. -/
import Derived.Test.YtiohijahacclnaaGAx6
namespace Go.Proofs.Ytiohijahacclnaa.Pure
open Go.RowKit Go.Proofs.Ytiohijahacclnaa.GA Go.Proofs.YtiohijahacclnaaW.PrintWords Go.Proofs.YtiohijahacclnaaW.PrintLast

theorem w64 (n : Int) (h0 : 0 ≤ n) (h1 : n < 18446744073709551616) : IntKind.u64.wrap n = n := by
  simp [IntKind.wrap, IntKind.bits, IntKind.signed]; omega
theorem wi64 (n : Int) (h0 : 0 ≤ n) (h1 : n < 9223372036854775808) : wrap64 n = n := by
  unfold wrap64; omega
/-- a product of sizes, or its error -/
def mulN (a b : Nat) : Int × Int := if a * b < 9223372036854775808 then (((a * b : Nat) : Int), 0) else (0, 11)

theorem mul_eq (a b : Nat) (ha : a < 9223372036854775808) (hb : b < 9223372036854775808) : num_Mul.f (a : Int) (b : Int) = some (mulN a b) := by
  unfold num_Mul.f mulN
  rw [if_neg (by omega), ← Int.natCast_mul]
  generalize a * b = c
  by_cases h : c < 9223372036854775808
  · rw [if_pos (by omega), if_pos h]
  · rw [if_neg (by omega), if_neg h]

def upN (n t : Nat) : Nat := (n + t - 1) / t

theorem up_eq (n t : Nat) (hn : n < 9223372036854775808) (ht : t < 9223372036854775808) (h1 : 1 ≤ t) : num_Up.f (n : Int) (t : Int) = some (((upN n t : Nat) : Int), 0) := by
  unfold num_Up.f upN
  rw [if_neg (by omega)]
  have hle : (n + t - 1) / t ≤ n := by
    rcases Nat.eq_zero_or_pos n with h | h
    · subst h; rw [Nat.div_eq_of_lt (by omega)]; omega
    · rw [show n + t - 1 = (n - 1) + t from by omega, Nat.add_div_right _ (by omega)]
      have := Nat.div_le_self (n - 1) t
      omega
  by_cases h0 : (n : Int) > 0
  · rw [if_pos h0, if_neg (by omega)]
    have e1 : wrap64 ((n : Int) - 1) = ((n - 1 : Nat) : Int) := by rw [wi64 _ (by omega) (by omega)]; omega
    have e2 : wrap64 (Int.tdiv ((n - 1 : Nat) : Int) (t : Int)) = (((n - 1) / t : Nat) : Int) := by
      rw [Int.tdiv_eq_ediv_of_nonneg (by omega), ← Int.natCast_ediv]
      have := Nat.div_le_self (n - 1) t
      generalize (n - 1) / t = z at *
      rw [wi64 _ (by omega) (by omega)]
    have e3 : (n + t - 1) / t = (n - 1) / t + 1 := by rw [show n + t - 1 = (n - 1) + t from by omega, Nat.add_div_right _ (by omega)]
    rw [e3] at hle ⊢
    rw [e1, e2]
    generalize (n - 1) / t = z at *
    rw [wi64 _ (by omega) (by omega)]; rfl
  · have : n = 0 := by omega
    subst this
    rw [if_neg h0, if_neg (by omega), Nat.div_eq_of_lt (by omega)]
    simp; unfold wrap64; omega

/-- the capacity, or its error -/
def wantN (d m t : Nat) : Int × Int := if d * m < 9223372036854775808 then (((upN (d * m) t : Nat) : Int), 0) else (0, 11)

theorem want_ev (d m t : Nat) (hd : d < 9223372036854775808) (hm : m < 9223372036854775808) (ht : t < 9223372036854775808) (h1 : 1 ≤ t) : Ev (fun k => track_Want.f k (d : Int) (m : Int) (t : Int)) (wantN d m t) := by
  unfold track_Want.f
  simp only [if_neg (show ¬ (t : Int) < 1 from by omega), if_neg (show ¬ (d : Int) < 0 from by omega), decide_eq_false (show ¬ (m : Int) < 0 from by omega)]
  refine Ev.step (fun k => by simp only [track_Want.j0, Bool.false_eq_true, if_false]; rfl) ?_
  have hw : track_want.f (d : Int) (m : Int) (t : Int) = some (if d * m < 9223372036854775808 then (((upN (d * m) t : Nat) : Int), none) else (0, some 11)) := by
    unfold track_want.f
    rw [mul_eq d m hd hm]
    unfold mulN
    by_cases h : d * m < 9223372036854775808
    · simp only [if_pos h, if_true, up_eq (d * m) t h ht h1, Option.bind_some]
    · simp only [if_neg h, Option.bind_some]
      rw [if_neg (by omega)]
  rw [hw]
  unfold wantN errors_Is.f
  by_cases h : d * m < 9223372036854775808
  · simp only [if_pos h]; exact Ev.now _
  · simp only [if_neg h]; exact Ev.now _

theorem lives_ev : Ev (fun k => cohortlaw24_lives.f k) true := Ev.of (fun k => cohortlaw24_lives.mono k) (k := 24) (by decide +kernel)
theorem lives_true : Ev (fun k => (cohortlaw24_lives.f k).bind fun t => some t) true := Ev.bind lives_ev (Ev.now true)
theorem same_up (d t : Nat) (ht : 1 ≤ t) : upN (d * t) t = d := by
  unfold upN
  rw [show d * t + t - 1 = (t - 1) + t * d from by rw [Nat.mul_comm t d]; omega, Nat.add_mul_div_left _ _ (by omega), Nat.div_eq_of_lt (by omega)]; omega
theorem clamp_in (n lo hi : Int) (h0 : lo ≤ n) (h1 : n ≤ hi) : num_Clamp.f n lo hi = some n := by
  unfold num_Clamp.f mx mn
  congr 1
  split <;> split <;> omega

/-- of a metric that is the target -/
theorem metric_same (lo hi d t u n : Int) (hd : lo ≤ d) (hh : d ≤ hi) (hd1 : 0 ≤ d) (hd2 : d ≤ 65536) (ht : 1 ≤ t) (ht2 : t ≤ 65536) (hu : 0 ≤ u) (hu2 : u < 4294967296) (hn : 0 ≤ n) (hn2 : n < 4294967296) :
    Ev (fun k => cohortlaw24_WantSteady.m k lo hi t d u n) (d, u, 0) := by
  unfold cohortlaw24_WantSteady.m want_Metric.f
  have hm : want_may.f ([] : List (S95)) 0 0 false lo hi 0 0 0 0 0 0 0 0 0 7 false t ([] : List (S49)) ([] : List (S97)) d u n t = some true := by
    unfold want_may.f
    rw [if_pos (by unfold mn; split <;> split <;> omega), if_pos (by unfold mx; split <;> omega), if_pos (by omega), if_pos (by unfold mx; split <;> omega)]
    first | done | rfl
  simp only [hm, Option.bind_some, if_true, if_neg (show ¬ t = 0 from by omega)]
  by_cases hlt : n < u
  · simp only [decide_eq_true hlt]
    exact Ev.step (f := fun _ => some (d, u, 0)) (fun k => by rw [want_Metric.j0, if_pos rfl]) (Ev.now _)
  · simp only [decide_eq_false hlt]
    refine Ev.step (fun k => by rw [want_Metric.j0, if_neg (by simp), if_neg (by simp)]) ?_
    refine Ev.step (fun k => by rw [want_Metric.j1, if_pos (by simp)]) ?_
    obtain ⟨x, rfl⟩ := Int.eq_ofNat_of_zero_le hd1
    obtain ⟨y, rfl⟩ := Int.eq_ofNat_of_zero_le (show 0 ≤ t by omega)
    have hb : x * y ≤ 65536 * 65536 := Nat.mul_le_mul (by omega) (by omega)
    have hw := want_ev x y y (by omega) (by omega) (by omega) (by omega)
    unfold wantN at hw
    rw [if_pos (by omega), same_up x y (by omega)] at hw
    refine Ev.bind hw ?_
    simp only [clamp_in (x : Int) lo hi hd hh, Option.bind_some, if_true]
    exact Ev.now _

theorem WantSteady : cohortlaw24_WantSteady.Pure := by
  intro a0 a1 a2 a3 a4 a5 h0 h1 h2 h3 h4 h5
  have b0 : 0 ≤ a0 ∧ a0 ≤ 65535 := by simpa [Lit.wf, IntKind.min, IntKind.max, IntKind.signed, IntKind.bits] using h0
  have b1 : 0 ≤ a1 ∧ a1 ≤ 65535 := by simpa [Lit.wf, IntKind.min, IntKind.max, IntKind.signed, IntKind.bits] using h1
  have b2 : 0 ≤ a2 ∧ a2 ≤ 65535 := by simpa [Lit.wf, IntKind.min, IntKind.max, IntKind.signed, IntKind.bits] using h2
  have b3 : 0 ≤ a3 ∧ a3 ≤ 65535 := by simpa [Lit.wf, IntKind.min, IntKind.max, IntKind.signed, IntKind.bits] using h3
  have b4 : 0 ≤ a4 ∧ a4 ≤ 4294967295 := by simpa [Lit.wf, IntKind.min, IntKind.max, IntKind.signed, IntKind.bits] using h4
  have b5 : 0 ≤ a5 ∧ a5 ≤ 4294967295 := by simpa [Lit.wf, IntKind.min, IntKind.max, IntKind.signed, IntKind.bits] using h5
  clear h0 h1 h2 h3 h4 h5
  suffices h : Ev (fun k => cohortlaw24_WantSteady.f k a0 a1 a2 a3 a4 a5) true from h.rounds
  unfold cohortlaw24_WantSteady.f
  simp only [if_pos (show (0 ≤ a0 ∧ a0 ≤ 65535 ∧ 0 ≤ a1 ∧ a1 ≤ 65535 ∧ 0 ≤ a2 ∧ a2 ≤ 65535) ∧ 0 ≤ a3 ∧ a3 ≤ 65535 ∧ 0 ≤ a4 ∧ a4 ≤ 4294967295 ∧ 0 ≤ a5 ∧ a5 ≤ 4294967295 from by omega)]
  refine Ev.bind lives_ev ?_
  simp only [if_true]
  have hm : 0 ≤ a1 % 1000 ∧ a1 % 1000 < 1000 := by omega
  generalize a1 % 1000 = m at hm
  have hq : 0 ≤ a3 % (m + 1) ∧ a3 % (m + 1) ≤ m := by
    have h1 := Int.emod_nonneg a3 (show m + 1 ≠ 0 by omega)
    have h2 := Int.emod_lt_of_pos a3 (show 0 < m + 1 by omega)
    omega
  generalize a3 % (m + 1) = q at hq
  by_cases hc : a0 + m > 65536
  · simp only [if_pos hc]; exact Ev.now _
  · simp only [if_neg hc]
    refine Ev.bind (metric_same a0 (a0 + m) (a0 + q) (1 + a2) a4 a5 (by omega) (by omega) (by omega) (by omega) (by omega) (by omega) (by omega) (by omega) (by omega) (by omega)) ?_
    simp only [if_true]
    exact Ev.now _

end Go.Proofs.Ytiohijahacclnaa.Pure
