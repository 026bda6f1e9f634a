/- Plain facts on a plan's ticks: the next tick behind a tick, whether one lies between. No condition. -/
namespace Go.Proofs.Ytkmalmdmlkhccaa.SchedM

/-- a plan's next tick behind a tick; 0 -/
def bh (at_ each now : Nat) : Nat :=
  if now < at_ then at_ else if each = 0 then 0 else
    if at_ + ((now - at_) / each + 1) * each ≤ 1099511627776 then at_ + ((now - at_) / each + 1) * each else 0

/-- is a tick one of the plan's -/
def tick (at_ each t : Nat) : Bool := t == at_ || (decide (at_ < t) && decide (0 < each) && (t - at_) % each == 0)

/-- was there one in the first n behind -/
def dueB (at_ each was : Nat) : Nat → Bool
  | 0 => false
  | n + 1 => dueB at_ each was n || tick at_ each (was + n + 1)

theorem dueB_iff (at_ each was n : Nat) : dueB at_ each was n = true ↔ ∃ t, was < t ∧ t ≤ was + n ∧ tick at_ each t = true := by
  induction n with
  | zero => simp [dueB]; intro t h1 h2; omega
  | succ n ih =>
    simp only [dueB, Bool.or_eq_true, ih]
    constructor
    · rintro (⟨t, h1, h2, h3⟩ | h)
      · exact ⟨t, h1, by omega, h3⟩
      · exact ⟨was + n + 1, by omega, by omega, h⟩
    · rintro ⟨t, h1, h2, h3⟩
      rcases Nat.lt_or_ge t (was + n + 1) with h | h
      · exact .inl ⟨t, h1, by omega, h3⟩
      · have : t = was + n + 1 := by omega
        subst this; exact .inr h3

theorem bh_gt (at_ each now : Nat) (h : bh at_ each now ≠ 0) : now < bh at_ each now := by
  unfold bh at h ⊢
  split
  · assumption
  · split
    · simp_all
    · split
      · rename_i h1 h2 h3
        have := Nat.div_add_mod (now - at_) each
        have h4 := Nat.mod_lt (now - at_) (show 0 < each by omega)
        rw [Nat.add_mul, Nat.one_mul, Nat.mul_comm]
        omega
      · simp_all

theorem bh_le (at_ each now : Nat) (ha : at_ ≤ 1099511627776) : bh at_ each now ≤ 1099511627776 := by
  unfold bh
  split
  · exact ha
  · split
    · omega
    · split <;> omega

/-- the next tick is one -/
theorem tick_bh (at_ each now : Nat) (h : bh at_ each now ≠ 0) : tick at_ each (bh at_ each now) = true := by
  unfold bh at h ⊢
  unfold tick
  split
  · simp
  · split
    · simp_all
    · split
      · rename_i h1 h2 h3
        have e : at_ + ((now - at_) / each + 1) * each - at_ = ((now - at_) / each + 1) * each := by omega
        have hp : 0 < ((now - at_) / each + 1) * each := Nat.mul_pos (Nat.succ_pos _) (by omega)
        rw [e]
        simp
        right
        omega
      · simp_all

/-- no tick lies between -/
theorem bh_first (at_ each was t : Nat) (hw : was < t) (ht : tick at_ each t = true) (hb : t ≤ 1099511627776) : bh at_ each was ≠ 0 ∧ bh at_ each was ≤ t := by
  unfold tick at ht
  unfold bh
  simp only [Bool.or_eq_true, beq_iff_eq, Bool.and_eq_true, decide_eq_true_eq] at ht
  rcases ht with rfl | ⟨⟨h1, h2⟩, h3⟩
  · rw [if_pos hw]; omega
  · split
    · omega
    · rw [if_neg (by omega)]
      obtain ⟨q, hq⟩ := Nat.dvd_of_mod_eq_zero h3
      have hlt : (was - at_) / each < q := by
        rw [Nat.div_lt_iff_lt_mul h2, Nat.mul_comm]; omega
      have hle : ((was - at_) / each + 1) * each ≤ each * q := by
        rw [Nat.mul_comm each]; exact Nat.mul_le_mul_right _ hlt
      have hp : 0 < ((was - at_) / each + 1) * each := Nat.mul_pos (Nat.succ_pos _) (by omega)
      rw [if_pos (by omega)]
      omega

/-- a plan is due just at its ticks -/
theorem due_iff (at_ each was n : Nat) (h : was + n ≤ 1099511627776) : dueB at_ each was n = true ↔ (0 < bh at_ each was ∧ bh at_ each was ≤ was + n) := by
  rw [dueB_iff]
  constructor
  · rintro ⟨t, h1, h2, h3⟩
    have := bh_first at_ each was t h1 h3 (by omega)
    omega
  · rintro ⟨h1, h2⟩
    exact ⟨_, bh_gt _ _ _ (by omega), h2, tick_bh _ _ _ (by omega)⟩

/-- where it was not due the next tick is the same -/
theorem bh_still (at_ each was n : Nat) (ha : at_ ≤ 1099511627776) (hd : ¬ (0 < bh at_ each was ∧ bh at_ each was ≤ was + n)) : bh at_ each (was + n) = bh at_ each was := by
  by_cases h0 : bh at_ each was = 0
  · rw [h0]
    by_cases h1 : bh at_ each (was + n) = 0
    · exact h1
    · have h2 := bh_first at_ each was _ (by have := bh_gt at_ each (was + n) h1; omega) (tick_bh _ _ _ h1) (bh_le _ _ _ ha)
      exact absurd h0 h2.1
  · have h1 : was + n < bh at_ each was := by omega
    have h2 := bh_first at_ each (was + n) _ h1 (tick_bh _ _ _ h0) (bh_le _ _ _ ha)
    have h3 := bh_first at_ each was _ (by have := bh_gt at_ each (was + n) h2.1; omega) (tick_bh at_ each (was + n) h2.1) (bh_le _ _ _ ha)
    omega

end Go.Proofs.Ytkmalmdmlkhccaa.SchedM
