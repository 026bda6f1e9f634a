/- The plain law of BlackNext: at the next tick more is open than ahead of it, if it was told; between now and that nothing comes to be open. No condition. -/
import Derived.Test.YtpkobboljdaaeaaGAx5
namespace Go.Proofs.Ytpkobboljdaaeaa.Pure
open Go.RowKit Go.Proofs.Ytpkobboljdaaeaa.GA Go.Proofs.YtpkobboljdaaeaaW.PrintWords Go.Proofs.YtpkobboljdaaeaaW.PrintLast Go.Proofs.YtpkobboljdaaeaaW.PrintMore
set_option linter.unusedVariables false
set_option linter.unusedSimpArgs false

namespace Black
theorem wi64 (n : Int) (h0 : -9223372036854775808 ≤ n) (h1 : n < 9223372036854775808) : wrap64 n = n := by
  unfold wrap64; omega
def opn (x : S31) (t : Int) : Bool := if x.f2 ≤ t then decide (x.f0 > 0) else false
theorem isOpen (l : List S31) (i : Nat) (t : Int) (h : i < l.length) : black_IsOpen.f l (i : Int) t = some (opn (rd_T31 l (i : Int)) t) := by
  unfold black_IsOpen.f black_there.f black_open.f opn
  rw [if_pos (by omega), Option.bind_some, if_pos (decide_eq_true (by omega)), if_pos (by omega), if_pos (by omega)]
  split <;> rfl
theorem rd_set_same (l : List S31) (K : Nat) (x : S31) (h : K < l.length) : rd_T31 (l.set K x) (K : Int) = x := by
  unfold rd_T31
  rw [Int.toNat_natCast, List.getD_eq_getElem?_getD, List.getElem?_set_self h, Option.getD_some]
theorem rd_set_other (l : List S31) (K i : Nat) (x : S31) (h : i ≠ K) : rd_T31 (l.set K x) (i : Int) = rd_T31 l (i : Int) := by
  unfold rd_T31
  rw [Int.toNat_natCast, List.getD_eq_getElem?_getD, List.getElem?_set_ne (Ne.symm h), List.getD_eq_getElem?_getD]
theorem lives_ev : Ev (fun _ => (cohortlaw14_lives.f).bind fun t => some t) true := Ev.now _
end Black
open Black

theorem least_le (l : List Int) (n : Nat) : ∀ j : Nat, j ≤ n → slices_Min_uint64_uint64.least l n ≤ rd l (j : Int) := by
  induction n with
  | zero => intro j hj; have : j = 0 := by omega
            subst this; exact Int.le_refl _
  | succ n ih =>
    intro j hj
    simp only [slices_Min_uint64_uint64.least]
    rcases Nat.lt_or_ge n j with h | h
    · have : j = n + 1 := by omega
      subst this
      unfold mn; split <;> omega
    · have := ih j h
      unfold mn; split <;> omega
theorem least_is (l : List Int) (n : Nat) : ∃ j : Nat, j ≤ n ∧ slices_Min_uint64_uint64.least l n = rd l (j : Int) := by
  induction n with
  | zero => exact ⟨0, Nat.le_refl _, rfl⟩
  | succ n ih =>
    obtain ⟨j, hj, h⟩ := ih
    simp only [slices_Min_uint64_uint64.least]
    by_cases hc : slices_Min_uint64_uint64.least l n ≤ rd l ((n + 1 : Nat) : Int)
    · exact ⟨j, by omega, by rw [← h]; unfold mn; split <;> omega⟩
    · exact ⟨n + 1, Nat.le_refl _, by unfold mn; split <;> omega⟩
/-- the ends that are behind now -/
def ends (l : List S31) (a : Int) : Nat → List Int
  | 0 => []
  | i + 1 => if (rd_T31 l (i : Int)).f2 > a then ends l a i ++ [(rd_T31 l (i : Int)).f2] else ends l a i
theorem ends_le (l : List S31) (a : Int) (n : Nat) : (ends l a n).length ≤ n := by
  induction n with
  | zero => simp [ends]
  | succ n ih => unfold ends; split <;> first | (simp only [List.length_append, List.length_cons, List.length_nil]; omega) | omega
theorem ends_mem (l : List S31) (a : Int) (n : Nat) (x : Int) : x ∈ ends l a n ↔ ∃ j : Nat, j < n ∧ (rd_T31 l (j : Int)).f2 = x ∧ x > a := by
  induction n with
  | zero => simp [ends]
  | succ n ih =>
    unfold ends
    by_cases h : (rd_T31 l (n : Int)).f2 > a
    · rw [if_pos h, List.mem_append, List.mem_singleton, ih]
      constructor
      · rintro (⟨j, hj, h1, h2⟩ | rfl)
        · exact ⟨j, by omega, h1, h2⟩
        · exact ⟨n, by omega, rfl, h⟩
      · rintro ⟨j, hj, h1, h2⟩
        rcases Nat.lt_or_ge j n with hn | hn
        · exact .inl ⟨j, hn, h1, h2⟩
        · have : j = n := by omega
          subst this; exact .inr h1.symm
    · rw [if_neg h, ih]
      constructor
      · rintro ⟨j, hj, h1, h2⟩; exact ⟨j, by omega, h1, h2⟩
      · rintro ⟨j, hj, h1, h2⟩
        rcases Nat.lt_or_ge j n with hn | hn
        · exact ⟨j, hn, h1, h2⟩
        · have : j = n := by omega
          subst this; rw [h1] at h; exact absurd h2 h
def nextOf (l : List S31) (a : Int) : Int × Bool := if ((ends l a l.length).length : Int) = 0 then (0, false) else (slices_Min_uint64_uint64.least (ends l a l.length) ((ends l a l.length).length - 1), true)
theorem next_loop (l : List S31) (a : Int) (hl : l.length ≤ 200) (m : Nat) : ∀ i : Nat, i + m = l.length → Ev (fun k => black_Next.l0 k a (ends l a i) l (l.length : Int) (i : Int)) (nextOf l a) := by
  induction m with
  | zero =>
    intro i hi
    have : i = l.length := by omega
    subst this
    refine Ev.step (f := fun _ => some (nextOf l a)) (fun k => ?_) (Ev.now _)
    simp only [black_Next.l0]
    rw [if_neg (by omega)]
    unfold nextOf
    by_cases h : ((ends l a l.length).length : Int) = 0
    · rw [if_pos h, if_pos h]
    · rw [if_neg h, if_neg h]
      unfold slices_Min_uint64_uint64.f
      rw [if_neg (by omega)]; rfl
  | succ m ih =>
    intro i hi
    have hwi : wrap64 ((i : Int) + 1) = ((i + 1 : Nat) : Int) := by rw [wi64 _ (by omega) (by omega)]; omega
    have hle := ends_le l a i
    by_cases h : (rd_T31 l (i : Int)).f2 > a
    · have e : ends l a (i + 1) = ends l a i ++ [(rd_T31 l (i : Int)).f2] := by rw [ends, if_pos h]
      have ih' := ih (i + 1) (by omega)
      rw [e] at ih'
      exact Ev.step (fun k => by simp only [black_Next.l0]; rw [if_pos (by omega), if_pos (by omega), if_pos (by omega), if_pos h, if_pos (by omega), hwi]) ih'
    · have e : ends l a (i + 1) = ends l a i := by rw [ends, if_neg h]
      have ih' := ih (i + 1) (by omega)
      rw [e] at ih'
      exact Ev.step (fun k => by simp only [black_Next.l0]; rw [if_pos (by omega), if_pos (by omega), if_pos (by omega), if_neg h, hwi]) ih'
theorem next_ev (l : List S31) (a : Int) (hl : l.length ≤ 200) : Ev (fun k => black_Next.f k l a) (nextOf l a) := next_loop l a hl l.length 0 (by omega)
theorem next_no (l : List S31) (a : Int) (h : (nextOf l a).2 = false) : (nextOf l a).1 = 0 ∧ ∀ j : Nat, j < l.length → (rd_T31 l (j : Int)).f2 ≤ a := by
  unfold nextOf at h ⊢
  by_cases h0 : ((ends l a l.length).length : Int) = 0
  · rw [if_pos h0]
    refine ⟨rfl, fun j hj => ?_⟩
    have hnil : ends l a l.length = [] := List.length_eq_zero_iff.1 (by omega)
    have := (ends_mem l a l.length (rd_T31 l (j : Int)).f2)
    rw [hnil] at this
    by_cases hc : (rd_T31 l (j : Int)).f2 ≤ a
    · exact hc
    · exact absurd (this.2 ⟨j, hj, rfl, by omega⟩) (by simp)
  · rw [if_neg h0] at h; cases h
theorem rd_mem (l : List Int) (x : Int) (h : x ∈ l) : ∃ j : Nat, j < l.length ∧ rd l (j : Int) = x := by
  obtain ⟨j, hj, rfl⟩ := List.mem_iff_getElem.1 h
  exact ⟨j, hj, by unfold rd; rw [Int.toNat_natCast, List.getD_eq_getElem?_getD, List.getElem?_eq_getElem hj, Option.getD_some]⟩
theorem mem_rd (l : List Int) (j : Nat) (h : j < l.length) : rd l (j : Int) ∈ l := by
  unfold rd; rw [Int.toNat_natCast, List.getD_eq_getElem?_getD, List.getElem?_eq_getElem h, Option.getD_some]; exact List.getElem_mem h
theorem next_yes (l : List S31) (a : Int) (h : (nextOf l a).2 = true) : (nextOf l a).1 > a ∧ ∀ j : Nat, j < l.length → (rd_T31 l (j : Int)).f2 > a → (nextOf l a).1 ≤ (rd_T31 l (j : Int)).f2 := by
  unfold nextOf at h ⊢
  by_cases h0 : ((ends l a l.length).length : Int) = 0
  · rw [if_pos h0] at h; cases h
  · rw [if_neg h0]
    constructor
    · obtain ⟨j, hj, e⟩ := least_is (ends l a l.length) ((ends l a l.length).length - 1)
      obtain ⟨_, _, _, h2⟩ := (ends_mem l a l.length _).1 (mem_rd _ j (by omega))
      rw [e]; exact h2
    · intro j hj hgt
      obtain ⟨i, hi, e⟩ := rd_mem _ _ ((ends_mem l a l.length _).2 ⟨j, hj, rfl, hgt⟩)
      rw [← e]
      exact least_le _ _ i (by omega)

theorem check_loop (l : List S31) (a b : Int) (hl : l.length ≤ 200) (m : Nat) : ∀ i : Nat, i + m = l.length →
    Ev (fun k => cohortlaw14_BlackNext.l0 k l a b (nextOf l a).1 (nextOf l a).2 (i : Int)) true := by
  induction m with
  | zero =>
    intro i hi
    exact Ev.step (fun k => by simp only [cohortlaw14_BlackNext.l0]; rw [if_neg (by omega)]) lives_ev
  | succ m ih =>
    intro i hi
    have hwi : wrap64 ((i : Int) + 1) = ((i + 1 : Nat) : Int) := by rw [wi64 _ (by omega) (by omega)]; omega
    have ih' := ih (i + 1) (by omega)
    -- what stands behind the first test
    have h2 : Ev (fun k => cohortlaw14_BlackNext.j2 k l a b (nextOf l a).1 (nextOf l a).2 (i : Int) false) true := by
      cases hn : (nextOf l a).2 with
      | false =>
        rw [hn] at ih'
        exact Ev.step (fun k => by simp only [cohortlaw14_BlackNext.j2, Bool.false_eq_true, if_false]; rw [hwi]) ih'
      | true =>
        rw [hn] at ih'
        by_cases he : (rd_T31 l (i : Int)).f2 = (nextOf l a).1
        · have h1 := isOpen l i (nextOf l a).1 (by omega)
          have h3 : (opn (rd_T31 l (i : Int)) (nextOf l a).1 != decide ((rd_T31 l (i : Int)).f0 ≥ 1)) = false := by
            unfold opn
            rw [if_pos (by omega), bne_eq_false_iff_eq, decide_eq_decide]
            omega
          exact Ev.step (fun k => by simp only [cohortlaw14_BlackNext.j2, Bool.false_eq_true, if_false, if_true]; rw [if_pos (by omega), if_pos (by omega), if_pos he, h1, Option.bind_some, h3, if_neg (by decide), hwi]) ih'
        · exact Ev.step (fun k => by simp only [cohortlaw14_BlackNext.j2, Bool.false_eq_true, if_false, if_true]; rw [if_pos (by omega), if_pos (by omega), if_neg he, hwi]) ih'
    by_cases hab : b ≥ a
    · have e1 := isOpen l i b (by omega)
      have e2 := isOpen l i a (by omega)
      have hsame : (¬ ((nextOf l a).2 = true ∧ ¬ b < (nextOf l a).1)) → (opn (rd_T31 l (i : Int)) b != opn (rd_T31 l (i : Int)) a) = false := by
        intro hno
        rw [bne_eq_false_iff_eq]
        unfold opn
        by_cases hf : (rd_T31 l (i : Int)).f2 ≤ a
        · rw [if_pos hf, if_pos (by omega)]
        · rw [if_neg hf]
          cases hn : (nextOf l a).2 with
          | false => have := (next_no l a hn).2 i (by omega); omega
          | true =>
            have := (next_yes l a hn).2 i (by omega) (by omega)
            have hb : b < (nextOf l a).1 := by
              by_cases hb : b < (nextOf l a).1
              · exact hb
              · exact absurd ⟨hn, hb⟩ hno
            rw [if_neg (by omega)]
      cases hn : (nextOf l a).2 with
      | false =>
        rw [hn] at h2 hsame
        have hs := hsame (fun h => by cases h.1)
        exact Ev.step (fun k => by simp only [cohortlaw14_BlackNext.l0, Bool.false_eq_true, if_false]; rw [if_pos (by omega), if_pos hab, e1, Option.bind_some, e2, Option.bind_some, hs]) h2
      | true =>
        rw [hn] at h2 hsame
        by_cases hb : b < (nextOf l a).1
        · have hs := hsame (fun h => h.2 hb)
          exact Ev.step (fun k => by simp only [cohortlaw14_BlackNext.l0, if_true]; rw [if_pos (by omega), if_pos hab, if_pos hb, e1, Option.bind_some, e2, Option.bind_some, hs]) h2
        · exact Ev.step (fun k => by simp only [cohortlaw14_BlackNext.l0, if_true]; rw [if_pos (by omega), if_pos hab, if_neg hb]) h2
    · exact Ev.step (fun k => by simp only [cohortlaw14_BlackNext.l0]; rw [if_pos (by omega), if_neg hab]) h2

theorem BlackNext : cohortlaw14_BlackNext.Pure := by
  intro l a b hok h1 h2
  suffices h : Ev (fun k => cohortlaw14_BlackNext.f k l a b) true from h.rounds
  unfold cohortlaw14_BlackNext.f
  by_cases h200 : (l.length : Int) > 200
  · simp only [if_pos h200]; exact lives_ev
  · simp only [if_neg h200]
    refine Ev.bind (next_ev l a (by omega)) ?_
    have hl := check_loop l a b (by omega) l.length 0 (by omega)
    have hgo : Ev (fun k => cohortlaw14_BlackNext.j0 k l a b (nextOf l a).1 (nextOf l a).2 false) true := Ev.step (fun k => by simp only [cohortlaw14_BlackNext.j0, Bool.false_eq_true, if_false]; rfl) hl
    by_cases hn : (nextOf l a).2 = true
    · simp only [if_pos hn]
      have := (next_yes l a hn).1
      simp only [if_neg (show ¬ (nextOf l a).1 ≤ a by omega)]
      exact hgo
    · simp only [if_neg hn]
      have := (next_no l a (by simpa using hn)).1
      rw [show ((nextOf l a).1 != 0) = false from by rw [this]; rfl]
      exact hgo

end Go.Proofs.Ytpkobboljdaaeaa.Pure
