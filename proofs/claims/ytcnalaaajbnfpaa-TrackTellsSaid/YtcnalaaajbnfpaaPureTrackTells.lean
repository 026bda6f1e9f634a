/- The plain law of TrackTells: what the program and the document track, of any three numbers, is one. No condition. -/
import Derived.Test.YtcnalaaajbnfpaaGAx6
import Derived.Test.YtcnalaaajbnfpaaTrack
namespace Go.Proofs.Ytcnalaaajbnfpaa.Pure
open Go.RowKit Go.Proofs.Ytcnalaaajbnfpaa.GA Go.Proofs.YtcnalaaajbnfpaaW.PrintWords Go.Proofs.YtcnalaaajbnfpaaW.PrintLast

theorem tells_of (d m t : Int) (v : Int × Int) (h1 : Ev (fun k => track_Want.f k d m t) v) (h2 : Ev (fun k => cohortref21_Want.f k d m t) v) : Ev (fun k => cohortlaw21_TrackTells.f k d m t) true := by
  obtain ⟨v1, v2⟩ := v
  have hs1 : Ev (fun k => track_Steady.f k d m t) (if v2 = 0 then v1 == d else false) := by
    unfold track_Steady.f
    refine Ev.bind h1 ?_
    by_cases h : v2 = 0
    · simp only [if_pos h]; exact Ev.now _
    · simp only [if_neg h]; exact Ev.now _
  have hs2 : Ev (fun k => cohortref21_Steady.f k d m t) (if v2 = 0 then v1 == d else false) := by
    unfold cohortref21_Steady.f
    refine Ev.bind h2 ?_
    by_cases h : v2 = 0
    · simp only [if_pos h]; exact Ev.now _
    · simp only [if_neg h]; exact Ev.now _
  unfold cohortlaw21_TrackTells.f
  refine Ev.bind h1 (Ev.bind h2 ?_)
  simp only [if_true]
  refine Ev.bind hs1 (Ev.bind hs2 ?_)
  simp only [beq_self_eq_true, if_true]
  exact lives_true

theorem TrackTells : cohortlaw21_TrackTells.Pure := by
  intro d m t hd hm ht
  have bd : -9223372036854775808 ≤ d ∧ d ≤ 9223372036854775807 := by simpa [Lit.wf, IntKind.min, IntKind.max, IntKind.signed, IntKind.bits] using hd
  have bm : -9223372036854775808 ≤ m ∧ m ≤ 9223372036854775807 := by simpa [Lit.wf, IntKind.min, IntKind.max, IntKind.signed, IntKind.bits] using hm
  have bt : -9223372036854775808 ≤ t ∧ t ≤ 9223372036854775807 := by simpa [Lit.wf, IntKind.min, IntKind.max, IntKind.signed, IntKind.bits] using ht
  by_cases h : t < 1 ∨ d < 0 ∨ m < 0
  · obtain ⟨h1, h2⟩ := want_arg d m t h
    exact (tells_of d m t _ h1 h2).rounds
  · obtain ⟨dn, rfl⟩ := Int.eq_ofNat_of_zero_le (show 0 ≤ d by omega)
    obtain ⟨mn, rfl⟩ := Int.eq_ofNat_of_zero_le (show 0 ≤ m by omega)
    obtain ⟨tn, rfl⟩ := Int.eq_ofNat_of_zero_le (show 0 ≤ t by omega)
    exact (tells_of _ _ _ _ (want_ev dn mn tn (by omega) (by omega) (by omega) (by omega)) (refwant_ev dn mn tn (by omega) (by omega) (by omega) (by omega))).rounds

end Go.Proofs.Ytcnalaaajbnfpaa.Pure
