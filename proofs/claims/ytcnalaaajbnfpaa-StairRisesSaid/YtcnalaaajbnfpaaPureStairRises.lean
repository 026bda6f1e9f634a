/- The plain law of StairRises: where the Adds rise, and the first one is not below 0, a greater metric never comes to less. No condition. -/
import Derived.Test.YtcnalaaajbnfpaaGAx4
namespace Go.Proofs.Ytcnalaaajbnfpaa.Pure
open Go.RowKit Go.Proofs.Ytcnalaaajbnfpaa.GA Go.Proofs.YtcnalaaajbnfpaaW.PrintWords Go.Proofs.YtcnalaaajbnfpaaW.PrintLast Go.Proofs.YtcnalaaajbnfpaaW.PrintMore

namespace Stair
theorem wi64 (n : Int) (h0 : -9223372036854775808 ≤ n) (h1 : n < 9223372036854775808) : wrap64 n = n := by
  unfold wrap64; omega

/-- bands that may be: of the limits, rising -/
def Fine (l : List S25) (i : Nat) : Prop := ∀ j, j < i → (-1048576 ≤ (rd_T25 l (j : Int)).f0 ∧ (rd_T25 l (j : Int)).f0 ≤ 1048576 ∧ -65536 ≤ (rd_T25 l (j : Int)).f1 ∧ (rd_T25 l (j : Int)).f1 ≤ 65536) ∧ (0 < j → (rd_T25 l ((j - 1 : Nat) : Int)).f0 < (rd_T25 l (j : Int)).f0)

theorem clamp_eq (n lo hi : Int) (h : lo ≤ hi) : mx lo (mn n hi) = n ↔ lo ≤ n ∧ n ≤ hi := by
  unfold mx mn
  split <;> split <;> omega

theorem may_loop (l : List S25) (hl : l.length ≤ 8) (m : Nat) : ∀ i : Nat, i + m = l.length → Fine l i → ∃ b, Ev (fun k => stair_may.l0 k l l (l.length : Int) (i : Int)) b ∧ (b = true → Fine l l.length) := by
  induction m with
  | zero =>
    intro i hi hf
    have : i = l.length := by omega
    subst this
    exact ⟨true, Ev.step (fun k => by simp only [stair_may.l0]; rw [if_neg (by omega)]) (Ev.now _), fun _ => hf⟩
  | succ m ih =>
    intro i hi hf
    have hwi : wrap64 ((i : Int) + 1) = ((i + 1 : Nat) : Int) := by rw [wi64 _ (by omega) (by omega)]; omega
    have hno : Ev (fun k => stair_may.j1 k l (i : Int) l (l.length : Int) (i : Int) true (rd_T25 l (i : Int)).f0 (rd_T25 l (i : Int)).f1) false := Ev.step (fun k => by simp only [stair_may.j1, if_true]) (Ev.now _)
    have hstep : ∀ b : Bool, Ev (fun k => (num_Clamp.f ((rd_T25 l (i : Int)).f0) (-1048576) 1048576).bind fun t103 => (if t103 = ((rd_T25 l (i : Int)).f0) then ((num_Clamp.f ((rd_T25 l (i : Int)).f1) (-65536) 65536).bind fun t104 => (stair_may.j1 k l (i : Int) l (l.length : Int) (i : Int) (t104 != ((rd_T25 l (i : Int)).f1)) ((rd_T25 l (i : Int)).f0) ((rd_T25 l (i : Int)).f1))) else (stair_may.j1 k l (i : Int) l (l.length : Int) (i : Int) true ((rd_T25 l (i : Int)).f0) ((rd_T25 l (i : Int)).f1)))) b → Ev (fun k => stair_may.l0 k l l (l.length : Int) (i : Int)) b := fun b h =>
      Ev.step (fun k => by simp only [stair_may.l0]; rw [if_pos (by omega), if_pos (by omega), if_pos (by omega)]) h
    unfold num_Clamp.f at hstep
    simp only [Option.bind_some] at hstep
    by_cases c0 : -1048576 ≤ (rd_T25 l (i : Int)).f0 ∧ (rd_T25 l (i : Int)).f0 ≤ 1048576
    · have e0 := (clamp_eq (rd_T25 l (i : Int)).f0 (-1048576) 1048576 (by omega)).2 c0
      simp only [if_pos e0] at hstep
      by_cases c1 : -65536 ≤ (rd_T25 l (i : Int)).f1 ∧ (rd_T25 l (i : Int)).f1 ≤ 65536
      · have e1 := (clamp_eq (rd_T25 l (i : Int)).f1 (-65536) 65536 (by omega)).2 c1
        rw [e1, bne_self_eq_false] at hstep
        by_cases h0 : 0 < i
        · have hw1 : wrap64 ((i : Int) - 1) = ((i - 1 : Nat) : Int) := by rw [wi64 _ (by omega) (by omega)]; omega
          by_cases hge : (rd_T25 l ((i - 1 : Nat) : Int)).f0 ≥ (rd_T25 l (i : Int)).f0
          · refine ⟨false, hstep false (Ev.step (fun k => by simp only [stair_may.j1, Bool.false_eq_true, if_false]; rw [if_pos (by omega), hw1, if_pos (by omega), if_pos (by omega), if_pos hge]) (Ev.now _)), fun h => by cases h⟩
          · obtain ⟨b, hb, hb2⟩ := ih (i + 1) (by omega) (fun j hj => by
              rcases Nat.lt_or_ge j i with h | h
              · exact hf j h
              · have : j = i := by omega
                subst this
                exact ⟨⟨c0.1, c0.2, c1.1, c1.2⟩, fun _ => by omega⟩)
            refine ⟨b, hstep b (Ev.step (fun k => by simp only [stair_may.j1, Bool.false_eq_true, if_false]; rw [if_pos (by omega), hw1, if_pos (by omega), if_pos (by omega), if_neg hge, hwi]) hb), hb2⟩
        · obtain ⟨b, hb, hb2⟩ := ih (i + 1) (by omega) (fun j hj => by
            have : j = i := by omega
            subst this
            exact ⟨⟨c0.1, c0.2, c1.1, c1.2⟩, fun h => absurd h h0⟩)
          refine ⟨b, hstep b (Ev.step (fun k => by simp only [stair_may.j1, Bool.false_eq_true, if_false]; rw [if_neg (by omega), hwi]) hb), hb2⟩
      · have e1 : ¬ mx (-65536) (mn (rd_T25 l (i : Int)).f1 65536) = (rd_T25 l (i : Int)).f1 := fun h => c1 ((clamp_eq _ _ _ (by omega)).1 h)
        rw [bne_iff_ne.2 e1] at hstep
        exact ⟨false, hstep false hno, fun h => by cases h⟩
    · have e0 : ¬ mx (-1048576) (mn (rd_T25 l (i : Int)).f0 1048576) = (rd_T25 l (i : Int)).f0 := fun h => c0 ((clamp_eq _ _ _ (by omega)).1 h)
      simp only [if_neg e0] at hstep
      exact ⟨false, hstep false hno, fun h => by cases h⟩

theorem may_ev (l : List S25) : ∃ b, Ev (fun k => stair_may.f k l) b ∧ (b = true → l.length ≤ 8 ∧ Fine l l.length) := by
  unfold stair_may.f
  by_cases h : (l.length : Int) > 8
  · simp only [if_pos h]
    exact ⟨false, Ev.now _, fun h => by cases h⟩
  · simp only [if_neg h]
    obtain ⟨b, hb, hb2⟩ := may_loop l (by omega) l.length 0 (by omega) (fun j hj => by omega)
    exact ⟨b, hb, fun h => ⟨by omega, hb2 h⟩⟩

theorem getD_rd (l : List S25) (i : Nat) : l.getD i z25 = rd_T25 l (i : Int) := by unfold rd_T25; rw [Int.toNat_natCast]

theorem rise (l : List S25) (hf : Fine l l.length) (b : Nat) : ∀ a, a < b → b < l.length → (rd_T25 l (a : Int)).f0 < (rd_T25 l (b : Int)).f0 := by
  induction b with
  | zero => intro a h; omega
  | succ b ih =>
    intro a ha hb
    have h1 := (hf (b + 1) hb).2 (by omega)
    rw [Nat.add_sub_cancel] at h1
    rcases Nat.lt_or_ge a b with h | h
    · have := ih a h (by omega); omega
    · have : a = b := by omega
      subst this; exact h1

theorem cmp_neg (a b : Int) : stair_cmpI a b < 0 ↔ a < b := by
  unfold stair_cmpI; split <;> (try split) <;> omega
theorem cmp_zero (a b : Int) : stair_cmpI a b = 0 ↔ a = b := by
  unfold stair_cmpI; split <;> (try split) <;> omega

/-- the band that a deviation comes to: the last one that begins at most there -/
theorem band_ev (l : List S25) (dev : Int) (hl : l.length ≤ 8) (hf : Fine l l.length) (hm : Ev (fun k => stair_may.f k l) true) :
    ∃ i b, Ev (fun k => stair_Band.f k l dev) ((i : Int), b) ∧
      (b = true → ∃ n : Nat, i = n ∧ n < l.length ∧ (rd_T25 l (n : Int)).f0 ≤ dev ∧ ∀ j, j < l.length → (rd_T25 l (j : Int)).f0 ≤ dev → j ≤ n) ∧ (b = false → ∀ j, j < l.length → dev < (rd_T25 l (j : Int)).f0) := by
  have hs := stair_bsF_spec (stair_lt dev) z25 l (fun a b hab hb h => by
    rw [getD_rd] at h ⊢
    unfold stair_lt at h ⊢
    rw [decide_eq_true_iff, cmp_neg] at h ⊢
    have := rise l hf b a hab hb; omega) l.length 0 l.length (Nat.le_refl _) (Nat.zero_le _) (by omega) (fun a ha => by omega) (fun a ha hb => by omega)
  have hle : stair_ix l dev ≤ l.length := stair_bsF_le _ _ _ _ _ _ (Nat.zero_le _)
  obtain ⟨n, hn⟩ : ∃ n, n = stair_ix l dev := ⟨_, rfl⟩
  change (∀ a, a < stair_ix l dev → _) ∧ (∀ a, stair_ix l dev ≤ a → _) at hs
  rw [← hn] at hs hle
  have hlo : ∀ a, a < n → (rd_T25 l (a : Int)).f0 < dev := fun a ha => by
    have := hs.1 a ha
    rw [getD_rd] at this; unfold stair_lt at this; rwa [decide_eq_true_iff, cmp_neg] at this
  have hhi : ∀ a, n ≤ a → a < l.length → dev ≤ (rd_T25 l (a : Int)).f0 := fun a ha hal => by
    have := hs.2 a ha hal
    rw [getD_rd] at this; unfold stair_lt at this; rw [decide_eq_false_iff_not, cmp_neg] at this; omega
  cases hh : stair_hit l dev with
  | true =>
    refine ⟨(n : Int), true, ?_, fun _ => ⟨n, rfl, ?_⟩, fun h => by cases h⟩
    · unfold stair_Band.f
      refine Ev.bind hm ?_
      simp only [if_true, hh, ← hn]
      exact Ev.now _
    · unfold stair_hit at hh
      rw [← hn] at hh
      simp only [Bool.and_eq_true, decide_eq_true_eq, beq_iff_eq, cmp_zero] at hh
      refine ⟨hh.1, by omega, fun j hj hjd => ?_⟩
      rcases Nat.lt_or_ge n j with h | h
      · have := rise l hf j n h hj; omega
      · exact h
  | false =>
    have hne : n < l.length → (rd_T25 l (n : Int)).f0 ≠ dev := by
      intro hlt he
      unfold stair_hit at hh
      rw [← hn] at hh
      have : (stair_cmpI (rd_T25 l (n : Int)).f0 dev == 0) = true := by rw [beq_iff_eq, cmp_zero]; exact he
      rw [this, decide_eq_true hlt] at hh
      cases hh
    have hhi2 : ∀ a, n ≤ a → a < l.length → dev < (rd_T25 l (a : Int)).f0 := fun a ha hal => by
      rcases Nat.lt_or_ge n a with h | h
      · have h1 := rise l hf a n h hal
        have h2 := hhi n (Nat.le_refl _) (by omega)
        omega
      · have : a = n := by omega
        subst this
        have h1 := hhi a (Nat.le_refl _) hal
        have h2 := hne hal
        omega
    by_cases h0 : n = 0
    · refine ⟨0, false, ?_, (fun h => by cases h), fun _ j hj => hhi2 j (by omega) hj⟩
      unfold stair_Band.f
      refine Ev.bind hm ?_
      simp only [if_true, hh, ← hn, Bool.false_eq_true, if_false, if_pos (show (n : Int) = 0 from by omega)]
      exact Ev.now _
    · refine ⟨((n - 1 : Nat) : Int), true, ?_, fun _ => ⟨n - 1, rfl, by omega, ?_, fun j hj hjd => ?_⟩, fun h => by cases h⟩
      · unfold stair_Band.f
        refine Ev.bind hm ?_
        simp only [if_true, hh, ← hn, Bool.false_eq_true, if_false, if_neg (show ¬ (n : Int) = 0 from by omega), show (n : Int) - 1 = ((n - 1 : Nat) : Int) from by omega]
        exact Ev.now _
      · have := hlo (n - 1) (by omega); omega
      · rcases Nat.lt_or_ge j n with h | h
        · omega
        · have := hhi2 j h hj; omega

/-- the capacity that a metric asks for -/
theorem want_ev (l : List S25) (d m : Nat) (hd : d ≤ 65535) (hm : m ≤ 131070) (hl : l.length ≤ 8) (hf : Fine l l.length) (hmay : Ev (fun k => stair_may.f k l) true) (ha : ∀ j, j < l.length → 0 ≤ (rd_T25 l (j : Int)).f1) :
    ∃ v : Int, Ev (fun k => stair_Want.f k l (d : Int) (m : Int) 1000) (v, 0) ∧
      ((∃ n : Nat, n < l.length ∧ v = d + (rd_T25 l (n : Int)).f1 ∧ (rd_T25 l (n : Int)).f0 ≤ (m : Int) - 1000 ∧ ∀ j, j < l.length → (rd_T25 l (j : Int)).f0 ≤ (m : Int) - 1000 → j ≤ n) ∨ (v = d ∧ ∀ j, j < l.length → (m : Int) - 1000 < (rd_T25 l (j : Int)).f0)) := by
  obtain ⟨i, b, hb, h1, h2⟩ := band_ev l ((m : Int) - 1000) hl hf hmay
  have hmn : ¬ mn (m : Int) 1000 < 0 := by unfold mn; split <;> omega
  have hmx : decide (mx (m : Int) 1000 > 1048576) = false := by rw [decide_eq_false_iff_not]; unfold mx; split <;> omega
  have hpre : ∀ v : Int × Int, Ev (fun k => stair_Want.j0 k l (d : Int) (m : Int) 1000 false) v → Ev (fun k => stair_Want.f k l (d : Int) (m : Int) 1000) v := fun v h => by
    unfold stair_Want.f
    refine Ev.bind hmay ?_
    simp only [if_true, if_neg (show ¬ (d : Int) < 0 from by omega), if_neg (show ¬ (d : Int) > 65536 from by omega), if_neg hmn, hmx]
    exact h
  have hw : wrap64 ((m : Int) - 1000) = (m : Int) - 1000 := wi64 _ (by omega) (by omega)
  cases b with
  | true =>
    obtain ⟨n, rfl, hn, h3, h4⟩ := h1 rfl
    have hr := (hf n hn).1
    have h0 := ha n hn
    have e1 : wrap64 ((d : Int) + (rd_T25 l (n : Int)).f1) = (d : Int) + (rd_T25 l (n : Int)).f1 := wi64 _ (by omega) (by omega)
    have e2 : mx ((d : Int) + (rd_T25 l (n : Int)).f1) 0 = (d : Int) + (rd_T25 l (n : Int)).f1 := by unfold mx; split <;> omega
    refine ⟨_, hpre _ (Ev.step (fun k => by simp only [stair_Want.j0, Bool.false_eq_true, if_false]; rw [hw]) (Ev.bind hb ?_)), .inl ⟨n, hn, rfl, h3, h4⟩⟩
    simp only [if_true, if_pos (show (0 : Int) ≤ (n : Int) from by omega), if_pos (show (n : Int) < (l.length : Int) from by omega), e1, e2]
    exact Ev.now _
  | false =>
    have e2 : mx (d : Int) 0 = (d : Int) := by unfold mx; split <;> omega
    refine ⟨_, hpre _ (Ev.step (fun k => by simp only [stair_Want.j0, Bool.false_eq_true, if_false]; rw [hw]) (Ev.bind hb ?_)), .inr ⟨rfl, h2 rfl⟩⟩
    simp only [Bool.false_eq_true, if_false, e2]
    exact Ev.now _

theorem lives_ev : Ev (fun k => cohortlaw22_lives.f k) true := Ev.of (fun k => cohortlaw22_lives.mono k) (k := 16) (by decide +kernel)
theorem lives_true : Ev (fun k => (cohortlaw22_lives.f k).bind fun t => some t) true := Ev.bind lives_ev (Ev.now true)

theorem adds (l : List S25) (hr : ∀ j, 0 < j → j < l.length → (rd_T25 l ((j - 1 : Nat) : Int)).f1 ≤ (rd_T25 l (j : Int)).f1) (b : Nat) : ∀ a, a ≤ b → b < l.length → (rd_T25 l (a : Int)).f1 ≤ (rd_T25 l (b : Int)).f1 := by
  induction b with
  | zero => intro a h _; have : a = 0 := by omega
            subst this; exact Int.le_refl _
  | succ b ih =>
    intro a ha hb
    rcases Nat.lt_or_ge b a with h | h
    · have : a = b + 1 := by omega
      subst this; exact Int.le_refl _
    · have h1 := ih a h (by omega)
      have h2 := hr (b + 1) (by omega) hb
      rw [Nat.add_sub_cancel] at h2
      omega

/-- where all Adds rise, from 0 on -/
theorem rises_ev (l : List S25) (d m q : Nat) (hd : d ≤ 65535) (hm : m ≤ 65535) (hq : q ≤ 65535) (hr : ∀ j, 0 < j → j < l.length → (rd_T25 l ((j - 1 : Nat) : Int)).f1 ≤ (rd_T25 l (j : Int)).f1) (h0 : 0 < l.length → 0 ≤ (rd_T25 l 0).f1) :
    Ev (fun k => cohortlaw22_StairRises.j1 k l (d : Int) (m : Int) (q : Int) false) true := by
  have hw : wrap64 ((m : Int) + (q : Int)) = ((m + q : Nat) : Int) := by rw [wi64 _ (by omega) (by omega)]; omega
  refine Ev.step (fun k => by simp only [cohortlaw22_StairRises.j1, Bool.false_eq_true, if_false]; rw [hw]) ?_
  obtain ⟨b, hb, hb2⟩ := may_ev l
  cases b with
  | false =>
    have hno : ∀ x : Nat, Ev (fun k => stair_Want.f k l (d : Int) (x : Int) 1000) (0, 2) := fun x => by
      unfold stair_Want.f
      refine Ev.bind hb ?_
      simp only [Bool.false_eq_true, if_false]
      exact Ev.step (fun k => by simp only [stair_Want.j0, if_true]) (Ev.now _)
    refine Ev.bind (hno m) (Ev.bind (hno (m + q)) ?_)
    rw [show (fun n => if ((0 : Int), (2 : Int)).2 = 0 then cohortlaw22_StairRises.j2 n (d : Int) ((0 : Int), (2 : Int)).1 ((0 : Int), (2 : Int)).2 ((0 : Int), (2 : Int)).1 ((0 : Int), (2 : Int)).2 (((0 : Int), (2 : Int)).2 != 0) else cohortlaw22_StairRises.j2 n (d : Int) ((0 : Int), (2 : Int)).1 ((0 : Int), (2 : Int)).2 ((0 : Int), (2 : Int)).1 ((0 : Int), (2 : Int)).2 true) = fun n => cohortlaw22_StairRises.j2 n (d : Int) 0 2 0 2 true from by funext n; rw [if_neg (by decide)]]
    exact Ev.step (fun k => by simp only [cohortlaw22_StairRises.j2, if_true]) lives_true
  | true =>
    obtain ⟨hl, hf⟩ := hb2 rfl
    have hadd := adds l hr
    have hpos : ∀ j, j < l.length → 0 ≤ (rd_T25 l (j : Int)).f1 := fun j hj => Int.le_trans (h0 (by omega)) (hadd j 0 (by omega) hj)
    obtain ⟨v1, w1, g1⟩ := want_ev l d m hd (by omega) hl hf hb hpos
    obtain ⟨v2, w2, g2⟩ := want_ev l d (m + q) hd (by omega) hl hf hb hpos
    have hge : (d : Int) ≤ v1 := by
      rcases g1 with ⟨n, hn, rfl, _, _⟩ | ⟨rfl, _⟩
      · have := hpos n hn; omega
      · exact Int.le_refl _
    have hle : v1 ≤ v2 := by
      rcases g1 with ⟨n, hn, rfl, h3, _⟩ | ⟨rfl, h3⟩
      · rcases g2 with ⟨n2, hn2, rfl, _, h4⟩ | ⟨rfl, h4⟩
        · have h5 := hadd n2 n (h4 n hn (by omega)) hn2
          omega
        · have := h4 n hn; omega
      · rcases g2 with ⟨n2, hn2, rfl, _, _⟩ | ⟨rfl, _⟩
        · have := hpos n2 hn2; omega
        · exact Int.le_refl _
    refine Ev.bind w1 (Ev.bind w2 ?_)
    simp only [if_true, bne_self_eq_false]
    refine Ev.step (fun k => by simp only [cohortlaw22_StairRises.j2, Bool.false_eq_true, if_false]; rw [if_pos hle, if_pos hge]) lives_true

theorem loop_ev (l : List S25) (hlen : l.length ≤ 9223372036854775807) (d m q : Nat) (hd : d ≤ 65535) (hm : m ≤ 65535) (hq : q ≤ 65535) (n : Nat) : ∀ i : Nat, 1 ≤ i → l.length ≤ i + n → (∀ j, 0 < j → j < i → j < l.length → (rd_T25 l ((j - 1 : Nat) : Int)).f1 ≤ (rd_T25 l (j : Int)).f1) →
    Ev (fun k => cohortlaw22_StairRises.l0 k l (d : Int) (m : Int) (q : Int) (i : Int)) true := by
  have hskip : Ev (fun k => cohortlaw22_StairRises.j1 k l (d : Int) (m : Int) (q : Int) true) true := Ev.step (fun k => by simp only [cohortlaw22_StairRises.j1, if_true]) lives_true
  have hend : ∀ i : Nat, 1 ≤ i → l.length ≤ i → (∀ j, 0 < j → j < i → j < l.length → (rd_T25 l ((j - 1 : Nat) : Int)).f1 ≤ (rd_T25 l (j : Int)).f1) → Ev (fun k => cohortlaw22_StairRises.l0 k l (d : Int) (m : Int) (q : Int) (i : Int)) true := by
    intro i h1 h2 h3
    refine Ev.step (fun k => by simp only [cohortlaw22_StairRises.l0]; rw [if_neg (by omega)]) ?_
    by_cases h4 : (l.length : Int) > 0
    · simp only [if_pos h4]
      by_cases h5 : (rd_T25 l 0).f1 < 0
      · rw [decide_eq_true h5]; exact hskip
      · rw [decide_eq_false h5]
        exact rises_ev l d m q hd hm hq (fun j hj hjl => h3 j hj (by omega) hjl) (fun _ => by omega)
    · simp only [if_neg h4]
      exact rises_ev l d m q hd hm hq (fun j hj hjl => h3 j hj (by omega) hjl) (fun h => by omega)
  induction n with
  | zero => intro i h1 h2 h3; exact hend i h1 (by omega) h3
  | succ n ih =>
    intro i h1 h2 h3
    rcases Nat.lt_or_ge i l.length with h4 | h4
    · have hw1 : wrap64 ((i : Int) - 1) = ((i - 1 : Nat) : Int) := by rw [wi64 _ (by omega) (by omega)]; omega
      have hw2 : wrap64 ((i : Int) + 1) = ((i + 1 : Nat) : Int) := by rw [wi64 _ (by omega) (by omega)]; omega
      refine Ev.step (fun k => by simp only [cohortlaw22_StairRises.l0]; rw [if_pos (by omega), if_pos (by omega), hw1, if_pos (by omega), if_pos (by omega), hw2]) ?_
      by_cases h5 : (rd_T25 l (i : Int)).f1 < (rd_T25 l ((i - 1 : Nat) : Int)).f1
      · simp only [if_pos h5]; exact lives_true
      · simp only [if_neg h5]
        refine ih (i + 1) (by omega) (by omega) (fun j hj hji hjl => ?_)
        rcases Nat.lt_or_ge j i with h | h
        · exact h3 j hj h hjl
        · have : j = i := by omega
          subst this; omega
    · exact hend i h1 h4 h3
end Stair

open Stair in
theorem StairRises : cohortlaw22_StairRises.Pure := by
  intro l a1 a2 a3 ⟨hl, _⟩ h1 h2 h3
  have b1 : 0 ≤ a1 ∧ a1 ≤ 65535 := by simpa [Lit.wf, IntKind.min, IntKind.max, IntKind.signed, IntKind.bits] using h1
  have b2 : 0 ≤ a2 ∧ a2 ≤ 65535 := by simpa [Lit.wf, IntKind.min, IntKind.max, IntKind.signed, IntKind.bits] using h2
  have b3 : 0 ≤ a3 ∧ a3 ≤ 65535 := by simpa [Lit.wf, IntKind.min, IntKind.max, IntKind.signed, IntKind.bits] using h3
  obtain ⟨d, rfl⟩ := Int.eq_ofNat_of_zero_le b1.1
  obtain ⟨m, rfl⟩ := Int.eq_ofNat_of_zero_le b2.1
  obtain ⟨q, rfl⟩ := Int.eq_ofNat_of_zero_le b3.1
  unfold maxLen at hl
  suffices h : Ev (fun k => cohortlaw22_StairRises.f k l (d : Int) (m : Int) (q : Int)) true from h.rounds
  unfold cohortlaw22_StairRises.f
  rw [wi64 _ (by omega) (by omega), wi64 _ (by omega) (by omega), wi64 _ (by omega) (by omega)]
  exact loop_ev l (by omega) d m q (by omega) (by omega) (by omega) l.length 1 (by omega) (by omega) (fun j h4 h5 => by omega)

end Go.Proofs.Ytcnalaaajbnfpaa.Pure
