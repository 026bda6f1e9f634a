/- The plain law of BlackWhile: a pool that is refused is not open until its span is over, and is then, if it was told, and not refused for longer; the others are as they were. No condition. -/
import Derived.Test.YtpkobboljdaaeaaGAx4
namespace Go.Proofs.Ytpkobboljdaaeaa.Pure
open Go.RowKit Go.Proofs.Ytpkobboljdaaeaa.GA Go.Proofs.YtpkobboljdaaeaaW.PrintWords Go.Proofs.YtpkobboljdaaeaaW.PrintLast Go.Proofs.YtpkobboljdaaeaaW.PrintMore
set_option linter.unusedVariables false
set_option linter.unusedSimpArgs false

namespace Black
theorem wi64 (n : Int) (h0 : -9223372036854775808 ≤ n) (h1 : n < 9223372036854775808) : wrap64 n = n := by
  unfold wrap64; omega
def opn (x : S31) (t : Int) : Bool := if x.f2 ≤ t then decide (x.f0 > 0) else false
theorem isOpen (l : List S31) (i : Nat) (t : Int) (h : i < l.length) : black_IsOpen.f l (i : Int) t = some (opn (rd_T31 l (i : Int)) t) := by
  unfold black_IsOpen.f black_there.f black_open.f opn
  rw [if_pos (by omega), Option.bind_some, if_pos (decide_eq_true (by omega)), if_pos (by omega), if_pos (by omega)]
  split <;> rfl
theorem rd_set_same (l : List S31) (K : Nat) (x : S31) (h : K < l.length) : rd_T31 (l.set K x) (K : Int) = x := by
  unfold rd_T31
  rw [Int.toNat_natCast, List.getD_eq_getElem?_getD, List.getElem?_set_self h, Option.getD_some]
theorem rd_set_other (l : List S31) (K i : Nat) (x : S31) (h : i ≠ K) : rd_T31 (l.set K x) (i : Int) = rd_T31 l (i : Int) := by
  unfold rd_T31
  rw [Int.toNat_natCast, List.getD_eq_getElem?_getD, List.getElem?_set_ne (Ne.symm h), List.getD_eq_getElem?_getD]
theorem lives_ev : Ev (fun _ => (cohortlaw14_lives.f).bind fun t => some t) true := Ev.now _
end Black
open Black

theorem while_loop (l : List S31) (N S at_ : Int) (K : Nat) (hK : K < l.length) (hl : l.length ≤ 200) (hN : 0 ≤ N) (hN2 : N ≤ 1099511627776) (hS : 0 ≤ S) (hS2 : S ≤ 65536) (m : Nat) : ∀ i : Nat, i + m = l.length →
    Ev (fun k => cohortlaw14_BlackWhile.l0 k l N S at_ (K : Int) (l.set K ⟨(rd_T31 l (K : Int)).f0, (rd_T31 l (K : Int)).f1, mx (rd_T31 l (K : Int)).f2 (N + S)⟩) (i : Int)) true := by
  induction m with
  | zero =>
    intro i hi
    exact Ev.step (fun k => by simp only [cohortlaw14_BlackWhile.l0]; rw [if_neg (by omega)]) lives_ev
  | succ m ih =>
    intro i hi
    have hwi : wrap64 ((i : Int) + 1) = ((i + 1 : Nat) : Int) := by rw [wi64 _ (by omega) (by omega)]; omega
    have hws : IntKind.u64.wrap (N + S) = N + S := by rw [IntKind.wrap_u64]; omega
    have h1 := isOpen l i at_ (by omega)
    have h2 := isOpen (l.set K ⟨(rd_T31 l (K : Int)).f0, (rd_T31 l (K : Int)).f1, mx (rd_T31 l (K : Int)).f2 (N + S)⟩) i at_ (by rw [List.length_set]; omega)
    have ih' := ih (i + 1) (by omega)
    by_cases hk : i = K
    · subst hk
      rw [rd_set_same l i _ hK] at h2
      by_cases hw : opn (rd_T31 l (i : Int)) at_ = true
      · have hne : (opn ⟨(rd_T31 l (i : Int)).f0, (rd_T31 l (i : Int)).f1, mx (rd_T31 l (i : Int)).f2 (N + S)⟩ at_ != decide (at_ ≥ N + S)) = false := by
          unfold opn at hw ⊢
          split at hw
          · simp only [bne_eq_false_iff_eq]
            by_cases hc : at_ ≥ N + S
            · rw [decide_eq_true hc, if_pos (by unfold mx; split <;> omega)]; exact hw
            · rw [decide_eq_false hc, if_neg (by unfold mx; split <;> omega)]
          · cases hw
        exact Ev.step (fun k => by simp only [cohortlaw14_BlackWhile.l0]; rw [if_pos (by omega), h1, Option.bind_some, h2, Option.bind_some, if_pos trivial, if_pos hw, hws, hne, if_neg (by decide), hwi]) ih'
      · have hne : (opn ⟨(rd_T31 l (i : Int)).f0, (rd_T31 l (i : Int)).f1, mx (rd_T31 l (i : Int)).f2 (N + S)⟩ at_ != false) = false := by
          rw [Bool.not_eq_true] at hw
          unfold opn at hw ⊢
          simp only [bne_eq_false_iff_eq]
          split at hw
          · split
            · exact hw
            · rfl
          · rw [if_neg (by unfold mx; split <;> omega)]
        exact Ev.step (fun k => by simp only [cohortlaw14_BlackWhile.l0]; rw [if_pos (by omega), h1, Option.bind_some, h2, Option.bind_some, if_pos trivial, if_neg hw, hne, if_neg (by decide), hwi]) ih'
    · rw [rd_set_other l K i _ hk] at h2
      exact Ev.step (fun k => by simp only [cohortlaw14_BlackWhile.l0]; rw [if_pos (by omega), h1, Option.bind_some, h2, Option.bind_some, if_neg (by omega), bne_self_eq_false, if_neg (by decide), hwi]) ih'

theorem BlackWhile : cohortlaw14_BlackWhile.Pure := by
  intro l a1 a2 a3 a4 hok h1 h2 h3 h4
  have b1 : 0 ≤ a1 ∧ a1 ≤ 255 := by simpa [Lit.wf, IntKind.min, IntKind.max, IntKind.signed, IntKind.bits] using h1
  have b2 : 0 ≤ a2 ∧ a2 ≤ 18446744073709551615 := by simpa [Lit.wf, IntKind.min, IntKind.max, IntKind.signed, IntKind.bits] using h2
  have b3 : 0 ≤ a3 ∧ a3 ≤ 18446744073709551615 := by simpa [Lit.wf, IntKind.min, IntKind.max, IntKind.signed, IntKind.bits] using h3
  suffices h : Ev (fun k => cohortlaw14_BlackWhile.f k l a1 a2 a3 a4) true from h.rounds
  have hyes : Ev (fun k => cohortlaw14_BlackWhile.j0 k l a1 a2 a3 a4 true) true := Ev.step (fun k => by simp only [cohortlaw14_BlackWhile.j0, if_true]) lives_ev
  unfold cohortlaw14_BlackWhile.f
  by_cases h0 : (l.length : Int) = 0
  · simp only [if_pos h0]; exact hyes
  · simp only [if_neg h0]
    by_cases h200 : (l.length : Int) > 200
    · simp only [decide_eq_true h200]; exact hyes
    · simp only [decide_eq_false h200]
      obtain ⟨K, hK⟩ : ∃ K : Nat, Int.tmod (wrap64 a1) (l.length : Int) = (K : Int) ∧ K < l.length := by
        have e : wrap64 a1 = a1 := wi64 _ (by omega) (by omega)
        rw [e, Int.tmod_eq_emod_of_nonneg (by omega)]
        have h1 := Int.emod_nonneg a1 (show (l.length : Int) ≠ 0 by omega)
        have h2 := Int.emod_lt_of_pos a1 (show 0 < (l.length : Int) by omega)
        exact ⟨(a1 % (l.length : Int)).toNat, by omega, by omega⟩
      have e2 : Int.tmod a2 1099511627777 = a2 % 1099511627777 := Int.tmod_eq_emod_of_nonneg (by omega)
      have e3 : Int.tmod a3 65537 = a3 % 65537 := Int.tmod_eq_emod_of_nonneg (by omega)
      have n2 : 0 ≤ a2 % 1099511627777 ∧ a2 % 1099511627777 ≤ 1099511627776 := by omega
      have n3 : 0 ≤ a3 % 65537 ∧ a3 % 65537 ≤ 65536 := by omega
      generalize a2 % 1099511627777 = N at e2 n2
      generalize a3 % 65537 = S at e3 n3
      have hws : IntKind.u64.wrap (N + S) = N + S := by rw [IntKind.wrap_u64]; omega
      have hr : black_Refuse.f l (K : Int) N S = some (l.set K ⟨(rd_T31 l (K : Int)).f0, (rd_T31 l (K : Int)).f1, mx (rd_T31 l (K : Int)).f2 (N + S)⟩) := by
        unfold black_Refuse.f black_anew.f black_there.f
        rw [if_pos (by omega), Option.bind_some, if_pos (by omega), Option.bind_some, if_pos (decide_eq_true (by omega)), if_pos (by omega), if_pos (by omega), if_pos (by omega), if_pos (by omega), hws, Int.toNat_natCast]
      refine Ev.step (fun k => by simp only [cohortlaw14_BlackWhile.j0, Bool.false_eq_true, if_false]; rw [if_neg h0, hK.1, e2, e3, hr, Option.bind_some, if_pos (by rw [List.length_set])]) ?_
      exact while_loop l N S a4 K hK.2 (by omega) n2.1 n2.2 n3.1 n3.2 l.length 0 (by omega)

end Go.Proofs.Ytpkobboljdaaeaa.Pure
