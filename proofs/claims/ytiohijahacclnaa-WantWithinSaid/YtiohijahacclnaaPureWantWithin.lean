/- The plain law of WantWithin: what is wanted is from Min to Max; ahead of the end of a cooldown no metric changes it. No condition. -/
import Derived.Test.YtiohijahacclnaaGBx6
namespace Go.Proofs.Ytiohijahacclnaa.Pure
open Go.RowKit Go.Proofs.Ytiohijahacclnaa.GB Go.Proofs.YtiohijahacclnaaW.PrintWords Go.Proofs.YtiohijahacclnaaW.PrintLast Go.Proofs.YtiohijahacclnaaW.PrintMore
set_option linter.unusedVariables false
set_option linter.unusedSimpArgs false

theorem w64 (n : Int) (h0 : 0 ≤ n) (h1 : n < 18446744073709551616) : IntKind.u64.wrap n = n := by
  simp [IntKind.wrap, IntKind.bits, IntKind.signed]; omega
theorem wi64 (n : Int) (h0 : 0 ≤ n) (h1 : n < 9223372036854775808) : wrap64 n = n := by
  unfold wrap64; omega
/-- a product of sizes, or its error -/
def mulN (a b : Nat) : Int × Int := if a * b < 9223372036854775808 then (((a * b : Nat) : Int), 0) else (0, 11)

theorem mul_eq (a b : Nat) (ha : a < 9223372036854775808) (hb : b < 9223372036854775808) : num_Mul.f (a : Int) (b : Int) = some (mulN a b) := by
  unfold num_Mul.f mulN
  rw [if_neg (by omega), ← Int.natCast_mul]
  generalize a * b = c
  by_cases h : c < 9223372036854775808
  · rw [if_pos (by omega), if_pos h]
  · rw [if_neg (by omega), if_neg h]

def upN (n t : Nat) : Nat := (n + t - 1) / t

theorem up_eq (n t : Nat) (hn : n < 9223372036854775808) (ht : t < 9223372036854775808) (h1 : 1 ≤ t) : num_Up.f (n : Int) (t : Int) = some (((upN n t : Nat) : Int), 0) := by
  unfold num_Up.f upN
  rw [if_neg (by omega)]
  have hle : (n + t - 1) / t ≤ n := by
    rcases Nat.eq_zero_or_pos n with h | h
    · subst h; rw [Nat.div_eq_of_lt (by omega)]; omega
    · rw [show n + t - 1 = (n - 1) + t from by omega, Nat.add_div_right _ (by omega)]
      have := Nat.div_le_self (n - 1) t
      omega
  by_cases h0 : (n : Int) > 0
  · rw [if_pos h0, if_neg (by omega)]
    have e1 : wrap64 ((n : Int) - 1) = ((n - 1 : Nat) : Int) := by rw [wi64 _ (by omega) (by omega)]; omega
    have e2 : wrap64 (Int.tdiv ((n - 1 : Nat) : Int) (t : Int)) = (((n - 1) / t : Nat) : Int) := by
      rw [Int.tdiv_eq_ediv_of_nonneg (by omega), ← Int.natCast_ediv]
      have := Nat.div_le_self (n - 1) t
      generalize (n - 1) / t = z at *
      rw [wi64 _ (by omega) (by omega)]
    have e3 : (n + t - 1) / t = (n - 1) / t + 1 := by rw [show n + t - 1 = (n - 1) + t from by omega, Nat.add_div_right _ (by omega)]
    rw [e3] at hle ⊢
    rw [e1, e2]
    generalize (n - 1) / t = z at *
    rw [wi64 _ (by omega) (by omega)]; rfl
  · have : n = 0 := by omega
    subst this
    rw [if_neg h0, if_neg (by omega), Nat.div_eq_of_lt (by omega)]
    simp; unfold wrap64; omega

/-- the capacity, or its error -/
def wantN (d m t : Nat) : Int × Int := if d * m < 9223372036854775808 then (((upN (d * m) t : Nat) : Int), 0) else (0, 11)

theorem want_ev (d m t : Nat) (hd : d < 9223372036854775808) (hm : m < 9223372036854775808) (ht : t < 9223372036854775808) (h1 : 1 ≤ t) : Ev (fun k => track_Want.f k (d : Int) (m : Int) (t : Int)) (wantN d m t) := by
  unfold track_Want.f
  simp only [if_neg (show ¬ (t : Int) < 1 from by omega), if_neg (show ¬ (d : Int) < 0 from by omega), decide_eq_false (show ¬ (m : Int) < 0 from by omega)]
  refine Ev.step (fun k => by simp only [track_Want.j0, Bool.false_eq_true, if_false]; rfl) ?_
  have hw : track_want.f (d : Int) (m : Int) (t : Int) = some (if d * m < 9223372036854775808 then (((upN (d * m) t : Nat) : Int), none) else (0, some 11)) := by
    unfold track_want.f
    rw [mul_eq d m hd hm]
    unfold mulN
    by_cases h : d * m < 9223372036854775808
    · simp only [if_pos h, if_true, up_eq (d * m) t h ht h1, Option.bind_some]
    · simp only [if_neg h, Option.bind_some]
      rw [if_neg (by omega)]
  rw [hw]
  unfold wantN errors_Is.f
  by_cases h : d * m < 9223372036854775808
  · simp only [if_pos h]; exact Ev.now _
  · simp only [if_neg h]; exact Ev.now _

theorem lives_ev : Ev (fun k => cohortlaw24_lives.f k) true := Ev.of (fun k => cohortlaw24_lives.mono k) (k := 24) (by decide +kernel)
theorem lives_true : Ev (fun k => (cohortlaw24_lives.f k).bind fun t => some t) true := Ev.bind lives_ev (Ev.now true)
theorem wj64 (n : Int) (h0 : -9223372036854775808 ≤ n) (h1 : n < 9223372036854775808) : wrap64 n = n := by
  unfold wrap64; omega
/-- bands that may be: of the limits, rising -/
def Fine (l : List S49) (i : Nat) : Prop := ∀ j, j < i → (-1048576 ≤ (rd_T49 l (j : Int)).f0 ∧ (rd_T49 l (j : Int)).f0 ≤ 1048576 ∧ -65536 ≤ (rd_T49 l (j : Int)).f1 ∧ (rd_T49 l (j : Int)).f1 ≤ 65536) ∧ (0 < j → (rd_T49 l ((j - 1 : Nat) : Int)).f0 < (rd_T49 l (j : Int)).f0)

theorem clamp_eq (n lo hi : Int) (h : lo ≤ hi) : mx lo (mn n hi) = n ↔ lo ≤ n ∧ n ≤ hi := by
  unfold mx mn
  split <;> split <;> omega

theorem may_loop (l : List S49) (hl : l.length ≤ 8) (m : Nat) : ∀ i : Nat, i + m = l.length → Fine l i → ∃ b, Ev (fun k => stair_may.l0 k l l (l.length : Int) (i : Int)) b ∧ (b = true → Fine l l.length) := by
  induction m with
  | zero =>
    intro i hi hf
    have : i = l.length := by omega
    subst this
    exact ⟨true, Ev.step (fun k => by simp only [stair_may.l0]; rw [if_neg (by omega)]) (Ev.now _), fun _ => hf⟩
  | succ m ih =>
    intro i hi hf
    have hwi : wrap64 ((i : Int) + 1) = ((i + 1 : Nat) : Int) := by rw [wj64 _ (by omega) (by omega)]; omega
    have hno : Ev (fun k => stair_may.j1 k l (i : Int) l (l.length : Int) (i : Int) true (rd_T49 l (i : Int)).f0 (rd_T49 l (i : Int)).f1) false := Ev.step (fun k => by simp only [stair_may.j1, if_true]) (Ev.now _)
    have hstep : ∀ b : Bool, Ev (fun k => (num_Clamp.f ((rd_T49 l (i : Int)).f0) (-1048576) 1048576).bind fun t105 => (if t105 = ((rd_T49 l (i : Int)).f0) then ((num_Clamp.f ((rd_T49 l (i : Int)).f1) (-65536) 65536).bind fun t106 => (stair_may.j1 k l (i : Int) l (l.length : Int) (i : Int) (t106 != ((rd_T49 l (i : Int)).f1)) ((rd_T49 l (i : Int)).f0) ((rd_T49 l (i : Int)).f1))) else (stair_may.j1 k l (i : Int) l (l.length : Int) (i : Int) true ((rd_T49 l (i : Int)).f0) ((rd_T49 l (i : Int)).f1)))) b → Ev (fun k => stair_may.l0 k l l (l.length : Int) (i : Int)) b := fun b h =>
      Ev.step (fun k => by simp only [stair_may.l0]; rw [if_pos (by omega), if_pos (by omega), if_pos (by omega)]) h
    unfold num_Clamp.f at hstep
    simp only [Option.bind_some] at hstep
    by_cases c0 : -1048576 ≤ (rd_T49 l (i : Int)).f0 ∧ (rd_T49 l (i : Int)).f0 ≤ 1048576
    · have e0 := (clamp_eq (rd_T49 l (i : Int)).f0 (-1048576) 1048576 (by omega)).2 c0
      simp only [if_pos e0] at hstep
      by_cases c1 : -65536 ≤ (rd_T49 l (i : Int)).f1 ∧ (rd_T49 l (i : Int)).f1 ≤ 65536
      · have e1 := (clamp_eq (rd_T49 l (i : Int)).f1 (-65536) 65536 (by omega)).2 c1
        rw [e1, bne_self_eq_false] at hstep
        by_cases h0 : 0 < i
        · have hw1 : wrap64 ((i : Int) - 1) = ((i - 1 : Nat) : Int) := by rw [wj64 _ (by omega) (by omega)]; omega
          by_cases hge : (rd_T49 l ((i - 1 : Nat) : Int)).f0 ≥ (rd_T49 l (i : Int)).f0
          · refine ⟨false, hstep false (Ev.step (fun k => by simp only [stair_may.j1, Bool.false_eq_true, if_false]; rw [if_pos (by omega), hw1, if_pos (by omega), if_pos (by omega), if_pos hge]) (Ev.now _)), fun h => by cases h⟩
          · obtain ⟨b, hb, hb2⟩ := ih (i + 1) (by omega) (fun j hj => by
              rcases Nat.lt_or_ge j i with h | h
              · exact hf j h
              · have : j = i := by omega
                subst this
                exact ⟨⟨c0.1, c0.2, c1.1, c1.2⟩, fun _ => by omega⟩)
            refine ⟨b, hstep b (Ev.step (fun k => by simp only [stair_may.j1, Bool.false_eq_true, if_false]; rw [if_pos (by omega), hw1, if_pos (by omega), if_pos (by omega), if_neg hge, hwi]) hb), hb2⟩
        · obtain ⟨b, hb, hb2⟩ := ih (i + 1) (by omega) (fun j hj => by
            have : j = i := by omega
            subst this
            exact ⟨⟨c0.1, c0.2, c1.1, c1.2⟩, fun h => absurd h h0⟩)
          refine ⟨b, hstep b (Ev.step (fun k => by simp only [stair_may.j1, Bool.false_eq_true, if_false]; rw [if_neg (by omega), hwi]) hb), hb2⟩
      · have e1 : ¬ mx (-65536) (mn (rd_T49 l (i : Int)).f1 65536) = (rd_T49 l (i : Int)).f1 := fun h => c1 ((clamp_eq _ _ _ (by omega)).1 h)
        rw [bne_iff_ne.2 e1] at hstep
        exact ⟨false, hstep false hno, fun h => by cases h⟩
    · have e0 : ¬ mx (-1048576) (mn (rd_T49 l (i : Int)).f0 1048576) = (rd_T49 l (i : Int)).f0 := fun h => c0 ((clamp_eq _ _ _ (by omega)).1 h)
      simp only [if_neg e0] at hstep
      exact ⟨false, hstep false hno, fun h => by cases h⟩

theorem may_ev (l : List S49) : ∃ b, Ev (fun k => stair_may.f k l) b ∧ (b = true → l.length ≤ 8 ∧ Fine l l.length) := by
  unfold stair_may.f
  by_cases h : (l.length : Int) > 8
  · simp only [if_pos h]
    exact ⟨false, Ev.now _, fun h => by cases h⟩
  · simp only [if_neg h]
    obtain ⟨b, hb, hb2⟩ := may_loop l (by omega) l.length 0 (by omega) (fun j hj => by omega)
    exact ⟨b, hb, fun h => ⟨by omega, hb2 h⟩⟩

theorem getD_rd (l : List S49) (i : Nat) : l.getD i z49 = rd_T49 l (i : Int) := by unfold rd_T49; rw [Int.toNat_natCast]

theorem rise (l : List S49) (hf : Fine l l.length) (b : Nat) : ∀ a, a < b → b < l.length → (rd_T49 l (a : Int)).f0 < (rd_T49 l (b : Int)).f0 := by
  induction b with
  | zero => intro a h; omega
  | succ b ih =>
    intro a ha hb
    have h1 := (hf (b + 1) hb).2 (by omega)
    rw [Nat.add_sub_cancel] at h1
    rcases Nat.lt_or_ge a b with h | h
    · have := ih a h (by omega); omega
    · have : a = b := by omega
      subst this; exact h1

theorem cmp_neg (a b : Int) : stair_cmpI a b < 0 ↔ a < b := by
  unfold stair_cmpI; split <;> (try split) <;> omega
theorem cmp_zero (a b : Int) : stair_cmpI a b = 0 ↔ a = b := by
  unfold stair_cmpI; split <;> (try split) <;> omega

/-- the band that a deviation comes to: the last one that begins at most there -/
theorem band_ev (l : List S49) (dev : Int) (hl : l.length ≤ 8) (hf : Fine l l.length) (hm : Ev (fun k => stair_may.f k l) true) :
    ∃ i b, Ev (fun k => stair_Band.f k l dev) ((i : Int), b) ∧
      (b = true → ∃ n : Nat, i = n ∧ n < l.length ∧ (rd_T49 l (n : Int)).f0 ≤ dev ∧ ∀ j, j < l.length → (rd_T49 l (j : Int)).f0 ≤ dev → j ≤ n) ∧ (b = false → ∀ j, j < l.length → dev < (rd_T49 l (j : Int)).f0) := by
  have hs := stair_bsF_spec (stair_lt dev) z49 l (fun a b hab hb h => by
    rw [getD_rd] at h ⊢
    unfold stair_lt at h ⊢
    rw [decide_eq_true_iff, cmp_neg] at h ⊢
    have := rise l hf b a hab hb; omega) l.length 0 l.length (Nat.le_refl _) (Nat.zero_le _) (by omega) (fun a ha => by omega) (fun a ha hb => by omega)
  have hle : stair_ix l dev ≤ l.length := stair_bsF_le _ _ _ _ _ _ (Nat.zero_le _)
  obtain ⟨n, hn⟩ : ∃ n, n = stair_ix l dev := ⟨_, rfl⟩
  change (∀ a, a < stair_ix l dev → _) ∧ (∀ a, stair_ix l dev ≤ a → _) at hs
  rw [← hn] at hs hle
  have hlo : ∀ a, a < n → (rd_T49 l (a : Int)).f0 < dev := fun a ha => by
    have := hs.1 a ha
    rw [getD_rd] at this; unfold stair_lt at this; rwa [decide_eq_true_iff, cmp_neg] at this
  have hhi : ∀ a, n ≤ a → a < l.length → dev ≤ (rd_T49 l (a : Int)).f0 := fun a ha hal => by
    have := hs.2 a ha hal
    rw [getD_rd] at this; unfold stair_lt at this; rw [decide_eq_false_iff_not, cmp_neg] at this; omega
  cases hh : stair_hit l dev with
  | true =>
    refine ⟨(n : Int), true, ?_, fun _ => ⟨n, rfl, ?_⟩, fun h => by cases h⟩
    · unfold stair_Band.f
      refine Ev.bind hm ?_
      simp only [if_true, hh, ← hn]
      exact Ev.now _
    · unfold stair_hit at hh
      rw [← hn] at hh
      simp only [Bool.and_eq_true, decide_eq_true_eq, beq_iff_eq, cmp_zero] at hh
      refine ⟨hh.1, by omega, fun j hj hjd => ?_⟩
      rcases Nat.lt_or_ge n j with h | h
      · have := rise l hf j n h hj; omega
      · exact h
  | false =>
    have hne : n < l.length → (rd_T49 l (n : Int)).f0 ≠ dev := by
      intro hlt he
      unfold stair_hit at hh
      rw [← hn] at hh
      have : (stair_cmpI (rd_T49 l (n : Int)).f0 dev == 0) = true := by rw [beq_iff_eq, cmp_zero]; exact he
      rw [this, decide_eq_true hlt] at hh
      cases hh
    have hhi2 : ∀ a, n ≤ a → a < l.length → dev < (rd_T49 l (a : Int)).f0 := fun a ha hal => by
      rcases Nat.lt_or_ge n a with h | h
      · have h1 := rise l hf a n h hal
        have h2 := hhi n (Nat.le_refl _) (by omega)
        omega
      · have : a = n := by omega
        subst this
        have h1 := hhi a (Nat.le_refl _) hal
        have h2 := hne hal
        omega
    by_cases h0 : n = 0
    · refine ⟨0, false, ?_, (fun h => by cases h), fun _ j hj => hhi2 j (by omega) hj⟩
      unfold stair_Band.f
      refine Ev.bind hm ?_
      simp only [if_true, hh, ← hn, Bool.false_eq_true, if_false, if_pos (show (n : Int) = 0 from by omega)]
      exact Ev.now _
    · refine ⟨((n - 1 : Nat) : Int), true, ?_, fun _ => ⟨n - 1, rfl, by omega, ?_, fun j hj hjd => ?_⟩, fun h => by cases h⟩
      · unfold stair_Band.f
        refine Ev.bind hm ?_
        simp only [if_true, hh, ← hn, Bool.false_eq_true, if_false, if_neg (show ¬ (n : Int) = 0 from by omega), show (n : Int) - 1 = ((n - 1 : Nat) : Int) from by omega]
        exact Ev.now _
      · have := hlo (n - 1) (by omega); omega
      · rcases Nat.lt_or_ge j n with h | h
        · omega
        · have := hhi2 j h hj; omega


/-- what a stair tells is told -/
theorem swant_ev (l : List S49) (d m t : Int) : ∃ v : Int × Int, Ev (fun k => stair_Want.f k l d m t) v := by
  obtain ⟨b, hb, hb2⟩ := may_ev l
  have hno : Ev (fun k => stair_Want.j0 k l d m t true) (0, 2) := Ev.step (fun k => by simp only [stair_Want.j0, if_true]) (Ev.now _)
  have hany : b = true → ∀ c : Bool, ∃ v : Int × Int, Ev (fun k => stair_Want.j0 k l d m t c) v := by
    intro hbt c
    subst hbt
    obtain ⟨hl, hf⟩ := hb2 rfl
    cases c with
    | true => exact ⟨_, hno⟩
    | false =>
      obtain ⟨i, b, hband, h1, h2⟩ := band_ev l (wrap64 (m - t)) hl hf hb
      cases b with
      | true =>
        obtain ⟨n, rfl, hn, _, _⟩ := h1 rfl
        refine ⟨(mx (wrap64 (d + ((rd_T49 l (n : Int)).f1))) 0, 0), Ev.step (fun k => by simp only [stair_Want.j0, Bool.false_eq_true, if_false]; rfl) (Ev.bind hband ?_)⟩
        simp only [if_true, if_pos (show (0 : Int) ≤ (n : Int) from by omega), if_pos (show (n : Int) < (l.length : Int) from by omega)]
        exact Ev.now _
      | false =>
        refine ⟨(mx d 0, 0), Ev.step (fun k => by simp only [stair_Want.j0, Bool.false_eq_true, if_false]; rfl) (Ev.bind hband ?_)⟩
        simp only [Bool.false_eq_true, if_false]
        exact Ev.now _
  unfold stair_Want.f
  cases b with
  | false => exact ⟨_, Ev.bind hb (by simp only [Bool.false_eq_true, if_false]; exact hno)⟩
  | true =>
    have hany := hany rfl
    by_cases c1 : d < 0
    · exact ⟨_, Ev.bind hb (by simp only [if_true, if_pos c1]; exact hno)⟩
    · by_cases c2 : d > 65536
      · exact ⟨_, Ev.bind hb (by simp only [if_true, if_neg c1, if_pos c2]; exact hno)⟩
      · by_cases c3 : mn m t < 0
        · exact ⟨_, Ev.bind hb (by simp only [if_true, if_neg c1, if_neg c2, if_pos c3]; exact hno)⟩
        · obtain ⟨v, hv⟩ := hany (decide ((mx m t) > 1048576))
          exact ⟨_, Ev.bind hb (by simp only [if_true, if_neg c1, if_neg c2, if_neg c3]; exact hv)⟩

/-- what a metric's answer is to be -/
def Good (x : S27) (d u n : Int) (r : Int × Int × Int) : Prop :=
  (r.2.2 ≠ 0 → r.1 = 0 ∧ r.2.1 = 0) ∧ (r.2.2 = 0 → x.f4 ≤ r.1 ∧ r.1 ≤ x.f5 ∧ ((r.1 = d ∧ r.2.1 = u) ∨ (r.1 ≠ d ∧ ¬ n < u ∧ r.2.1 = (n + x.f15) % 18446744073709551616)))

theorem clamp_good (x : S27) (d u n v : Int) (h5 : x.f4 ≤ x.f5) (hn : ¬ n < u) : Good x d u n (if mx x.f4 (mn v x.f5) = d then (mx x.f4 (mn v x.f5), u, 0) else (mx x.f4 (mn v x.f5), IntKind.u64.wrap (n + x.f15), 0)) := by
  have hb : x.f4 ≤ mx x.f4 (mn v x.f5) ∧ mx x.f4 (mn v x.f5) ≤ x.f5 := by unfold mx mn; split <;> split <;> omega
  by_cases h : mx x.f4 (mn v x.f5) = d
  · rw [if_pos h]; exact ⟨fun h => absurd rfl h, fun _ => ⟨hb.1, hb.2, .inl ⟨h, rfl⟩⟩⟩
  · rw [if_neg h]; exact ⟨fun h => absurd rfl h, fun _ => ⟨hb.1, hb.2, .inr ⟨h, hn, IntKind.wrap_u64 _⟩⟩⟩

theorem metric_ev (x : S27) (d u n m : Int) (h4 : 0 ≤ x.f4) (h5 : x.f4 ≤ x.f5) (h6 : x.f5 ≤ 65536) (hd : x.f4 ≤ d) (hd2 : d ≤ x.f5) : ∃ r, Ev (fun k => ww.m k x d u n m) r ∧ Good x d u n r := by
  unfold ww.m want_Metric.f
  obtain ⟨b, hb⟩ : ∃ b, want_may.f x.f0 x.f1 x.f2 x.f3 x.f4 x.f5 x.f6 x.f7 x.f8 x.f9 x.f10 x.f11 x.f12 x.f13 x.f14 x.f15 x.f16 x.f17 x.f18 x.f19 d u n m = some b ∧ (b = true → mn (mn m x.f17) d ≥ 0 ∧ mx m x.f17 ≤ 1048576) := by
    unfold want_may.f
    split
    · split
      · split
        · split
          · exact ⟨_, rfl, fun _ => ⟨by assumption, by assumption⟩⟩
          · exact ⟨_, rfl, fun h => by cases h⟩
        · exact ⟨_, rfl, fun h => by cases h⟩
      · exact ⟨_, rfl, fun h => by cases h⟩
    · exact ⟨_, rfl, fun h => by cases h⟩
  obtain ⟨hb, hb2⟩ := hb
  simp only [hb, Option.bind_some]
  cases b with
  | false =>
    simp only [Bool.false_eq_true, if_false]
    exact ⟨_, Ev.now _, ⟨fun _ => ⟨rfl, rfl⟩, fun h => absurd h (by decide)⟩⟩
  | true =>
    obtain ⟨hmn, hmx⟩ := hb2 rfl
    have hm0 : 0 ≤ m ∧ 0 ≤ x.f17 ∧ 0 ≤ d := by revert hmn; unfold mn; split <;> split <;> omega
    have hm1 : m ≤ 1048576 ∧ x.f17 ≤ 1048576 := by revert hmx; unfold mx; split <;> omega
    simp only [if_true]
    have hstay : Good x d u n (d, u, 0) := ⟨fun h => absurd rfl h, fun _ => ⟨hd, hd2, .inl ⟨rfl, rfl⟩⟩⟩
    by_cases ht : x.f17 = 0
    · simp only [if_pos ht]
      exact ⟨_, Ev.step (f := fun _ => some (d, u, 0)) (fun k => by rw [want_Metric.j0, if_pos rfl]) (Ev.now _), hstay⟩
    · simp only [if_neg ht]
      by_cases hlt : n < u
      · simp only [decide_eq_true hlt]
        exact ⟨_, Ev.step (f := fun _ => some (d, u, 0)) (fun k => by rw [want_Metric.j0, if_pos rfl]) (Ev.now _), hstay⟩
      · simp only [decide_eq_false hlt]
        by_cases hbands : (x.f18.length : Int) > 0
        · obtain ⟨v, hv⟩ := swant_ev x.f18 d m x.f17
          by_cases he : v.2 = 0
          · refine ⟨_, Ev.step (fun k => by rw [want_Metric.j0, if_neg (by simp), if_pos hbands]) (Ev.bind hv ?_), clamp_good x d u n v.1 h5 hlt⟩
            simp only [if_pos he]
            refine Ev.step (f := fun _ => some (if mx x.f4 (mn v.1 x.f5) = d then (mx x.f4 (mn v.1 x.f5), u, 0) else (mx x.f4 (mn v.1 x.f5), IntKind.u64.wrap (n + x.f15), 0))) (fun k => ?_) (Ev.now _)
            rw [want_Metric.j1, if_neg (by omega)]
            unfold num_Clamp.f
            rw [Option.bind_some]
            split <;> rfl
          · refine ⟨(0, 0, v.2), Ev.step (fun k => by rw [want_Metric.j0, if_neg (by simp), if_pos hbands]) (Ev.bind hv ?_), ⟨fun _ => ⟨rfl, rfl⟩, fun h => absurd h he⟩⟩
            simp only [if_neg he]
            exact Ev.now _
        · obtain ⟨d, rfl⟩ := Int.eq_ofNat_of_zero_le hm0.2.2
          obtain ⟨m, rfl⟩ := Int.eq_ofNat_of_zero_le hm0.1
          obtain ⟨t, htt⟩ := Int.eq_ofNat_of_zero_le hm0.2.1
          have hw := want_ev d m t (by omega) (by omega) (by omega) (by omega)
          rw [← htt] at hw
          refine ⟨_, Ev.step (fun k => by rw [want_Metric.j0, if_neg (by simp), if_neg hbands]) ?_, clamp_good x d u n (wantN d m t).1 h5 hlt⟩
          refine Ev.step (fun k => by rw [want_Metric.j1, if_pos (by omega)]) (Ev.bind hw ?_)
          unfold num_Clamp.f
          simp only [Option.bind_some]
          split <;> exact Ev.now _

theorem loop_ev (x : S27) (l : List Int) (h4 : 0 ≤ x.f4) (h5 : x.f4 ≤ x.f5) (h6 : x.f5 ≤ 65536) (j : Nat) : ∀ (i : Nat) (d u n : Int), x.f4 ≤ d → d ≤ x.f5 → Ev (fun k => ww.l k x l j i d u n) () := by
  induction j with
  | zero => intro i d u n _ _; simp only [ww.l]; exact Ev.now _
  | succ j ih =>
    intro i d u n hd hd2
    obtain ⟨r, hr, hg⟩ := metric_ev x d u n (rd l (i : Int)) h4 h5 h6 hd hd2
    simp only [ww.l]
    refine Ev.bind hr ?_
    by_cases he : r.2.2 = 0
    · have h1 := hg.2 he
      simp only [if_neg (show ¬ (r.2.2 ≠ 0) from fun h => h he), if_pos h1]
      exact ih _ _ _ _ h1.1 h1.2.1
    · have h1 := hg.1 he
      simp only [if_pos (show r.2.2 ≠ 0 from he), if_pos h1]
      exact ih _ _ _ _ hd hd2

theorem all_ev (x : S27) (d u n : Int) (l : List Int) : Ev (fun k => ww.f k x d u n l) true := by
  unfold ww.f
  refine Ev.bind lives_ev ?_
  simp only [if_true]
  by_cases ho : ww.out x d
  · simp only [if_pos ho]; exact Ev.now _
  · simp only [if_neg ho]
    unfold ww.out at ho
    exact Ev.bind (loop_ev x l (by omega) (by omega) (by omega) _ _ _ _ _ (by omega) (by omega)) (Ev.now _)

theorem WantWithin : cohortlaw24_WantWithin.Pure := by
  intro x a1 a2 a3 l _ _ _ _ _ hl _
  obtain ⟨k, hk⟩ := (all_ev x a1 a2 a3 l).rounds
  refine ⟨k, ?_⟩
  unfold cohortlaw24_WantWithin.f
  rw [if_pos (by omega)]
  exact hk

end Go.Proofs.Ytiohijahacclnaa.Pure
