/- The plain law of SchedOnce: of every plan with a tick and a span, a desired capacity and gaps, what Due tells of each stretch of ticks is what is told tick by tick. No condition. -/
import Derived.Test.YtkmalmdmlkhccaaGAx3
import Derived.Test.YtkmalmdmlkhccaaMath
namespace Go.Proofs.Ytkmalmdmlkhccaa.Pure
open Go.RowKit Go.Proofs.Ytkmalmdmlkhccaa.GA Go.Proofs.YtkmalmdmlkhccaaW.PrintWords Go.Proofs.YtkmalmdmlkhccaaW.PrintLast Go.Proofs.Ytkmalmdmlkhccaa.SchedM

theorem w64 (n : Int) (h0 : 0 ≤ n) (h1 : n < 18446744073709551616) : IntKind.u64.wrap n = n := by
  simp [IntKind.wrap, IntKind.bits, IntKind.signed]; omega
theorem wi64 (n : Int) (h0 : 0 ≤ n) (h1 : n < 9223372036854775808) : wrap64 n = n := by
  unfold wrap64; omega

theorem behind_eq (a e n : Nat) (d : Int) (ha : a ≤ 1099511627776) (hn : n ≤ 1099511627776) (he : e ≤ 65536) : sched_behind.f (a : Int) (e : Int) d (n : Int) = some ((bh a e n : Nat) : Int) := by
  unfold sched_behind.f bh
  by_cases h1 : n < a
  · rw [if_pos (by omega), if_pos h1]
  · rw [if_neg (by omega), if_neg h1]
    by_cases h2 : e = 0
    · rw [if_pos (by omega), if_pos h2]; rfl
    · rw [if_neg (by omega), if_neg h2]
      have e1 : IntKind.u64.wrap ((n : Int) - (a : Int)) = ((n - a : Nat) : Int) := by rw [w64 _ (by omega) (by omega)]; omega
      have hq : (n - a) / e ≤ n - a := Nat.div_le_self _ _
      have hm : ((n - a) / e + 1) * e ≤ (n - a) + 65536 := by
        have := Nat.div_mul_le_self (n - a) e
        rw [Nat.add_mul, Nat.one_mul]; omega
      have e2 : IntKind.u64.wrap (Int.tdiv ((n - a : Nat) : Int) (e : Int)) = (((n - a) / e : Nat) : Int) := by
        rw [Int.tdiv_eq_ediv_of_nonneg (by omega), ← Int.natCast_ediv]
        generalize (n - a) / e = q at *
        rw [w64 _ (by omega) (by omega)]
      rw [e1, e2]
      generalize (n - a) / e = q at *
      have e3 : IntKind.u64.wrap ((q : Int) + 1) = ((q + 1 : Nat) : Int) := by rw [w64 _ (by omega) (by omega)]; omega
      have e4 : IntKind.u64.wrap (((q + 1 : Nat) : Int) * (e : Int)) = (((q + 1) * e : Nat) : Int) := by
        rw [← Int.natCast_mul]
        generalize (q + 1) * e = z at *
        rw [w64 _ (by omega) (by omega)]
      rw [e3, e4]
      generalize (q + 1) * e = z at *
      have e5 : IntKind.u64.wrap ((a : Int) + (z : Int)) = ((a + z : Nat) : Int) := by rw [w64 _ (by omega) (by omega)]; omega
      rw [e5]
      by_cases h3 : a + z ≤ 1099511627776
      · rw [if_pos (by omega), if_pos h3]
      · rw [if_neg (by omega), if_neg h3]; rfl

/-- one plan -/
def pl (a e : Nat) (d : Int) : S25 := ⟨(a : Int), (e : Int), d⟩

theorem may_one (a e n : Nat) (d : Int) (ha : a ≤ 1099511627776) (hn : n ≤ 1099511627776) (he : e ≤ 65536) : sched_may.f [pl a e d] (n : Int) = some true := by
  unfold sched_may.f sched_badPlan pl
  simp
  omega

theorem rd_one (x : Int) : rd [x] 0 = x := rfl
theorem rdT_one (p : S25) : rd_T25 [p] 0 = p := rfl

theorem begin_one (a e : Nat) (d : Int) (ha : a ≤ 1099511627776) (he : e ≤ 65536) : Ev (fun k => sched_Begin.f k [pl a e d] 0) [((bh a e 0 : Nat) : Int)] := by
  unfold sched_Begin.f
  have hm := may_one a e 0 d ha (by omega) he
  rw [show ((0 : Nat) : Int) = 0 from rfl] at hm
  rw [hm]
  simp only [Option.bind_some, if_true]
  refine ⟨2, fun k hk => ?_⟩
  obtain ⟨k, rfl⟩ : ∃ m, k = m + 2 := ⟨k - 2, by omega⟩
  have hb := behind_eq a e 0 d ha (by omega) he
  rw [show ((0 : Nat) : Int) = 0 from rfl] at hb
  simp only [sched_Begin.l0, rdT_one, List.length_singleton, List.length_nil]
  rw [if_pos (by omega), if_pos (by omega), if_pos (by omega)]
  simp only [pl] at hb ⊢
  rw [hb]
  simp only [Option.bind_some, List.nil_append]
  rw [if_pos (by omega), wi64 _ (by omega) (by omega), if_neg (by omega)]

theorem due_one (a e n : Nat) (d : Int) (x : Nat) (ha : a ≤ 1099511627776) (hn : n ≤ 1099511627776) (he : e ≤ 65536) :
    Ev (fun k => sched_Due.f k [pl a e d] [(x : Int)] (n : Int)) (if 0 < x ∧ x ≤ n then (d, true, [((bh a e n : Nat) : Int)]) else (0, false, [(x : Int)])) := by
  refine ⟨3, fun k hk => ?_⟩
  obtain ⟨k, rfl⟩ : ∃ m, k = m + 3 := ⟨k - 3, by omega⟩
  have hb := behind_eq a e n d ha hn he
  simp only [sched_Due.f, slices_Clone_uint64_uint64.f, may_one a e n d ha hn he]
  rw [if_pos (by simp)]
  simp only [Option.bind_some, if_true, List.length_singleton, sched_Due.j0]
  rw [if_neg (by simp)]
  simp only [sched_Due.l0, rdT_one, List.length_singleton, rd_one]
  rw [if_pos (by omega), if_pos (by omega), if_pos (by omega), if_pos (by omega)]
  by_cases h1 : 0 < x
  · rw [if_pos (by omega)]
    by_cases h2 : x ≤ n
    · rw [if_pos (by omega), if_pos ⟨h1, h2⟩]
      simp only [pl] at hb ⊢
      rw [hb]
      simp only [Option.bind_some]
      rw [if_pos (by omega), wi64 _ (by omega) (by omega), if_neg (by omega)]
      rfl
    · rw [wi64 (0 + 1) (by omega) (by omega), if_neg (by omega), if_neg (by omega), if_neg (by omega)]
  · rw [wi64 (0 + 1) (by omega) (by omega), if_neg (by omega), if_neg (by omega), if_neg (by omega)]

theorem same_one (x : Int) : Ev (fun k => cohortref23_Same.f k [x] [x]) true := by
  refine ⟨2, fun k hk => ?_⟩
  obtain ⟨k, rfl⟩ : ∃ m, k = m + 2 := ⟨k - 2, by omega⟩
  simp only [cohortref23_Same.f, cohortref23_Same.l0, List.length_singleton, rd_one]
  rw [if_pos trivial, if_pos (by omega), if_pos (by omega), if_pos (by omega), if_pos trivial, wi64 _ (by omega) (by omega), if_neg (by omega)]

theorem lives_ev : Ev (fun k => cohortlaw23_lives.f k) true := Ev.of (fun k => cohortlaw23_lives.mono k) (k := 20) (by decide +kernel)


theorem tick_eq (a e t : Nat) (ha : a ≤ 255) (ht : t ≤ 1000) (h : a < t) (h0 : 0 < e) :
    (Int.tmod (IntKind.u64.wrap ((t : Int) - (a : Int))) (e : Int) == 0) = tick a e t := by
  have e1 : IntKind.u64.wrap ((t : Int) - (a : Int)) = ((t - a : Nat) : Int) := by rw [w64 _ (by omega) (by omega)]; omega
  rw [e1, Int.tmod_eq_emod_of_nonneg (by omega), ← Int.natCast_emod]
  unfold tick
  rw [Bool.eq_iff_iff]
  simp [h, h0, show ¬ t = a from by omega]
  omega

section
variable (a e : Nat) (d : Int) (l3 : List Int) (ha : a ≤ 255) (he : e < 20) (hl : l3.length ≤ 140737488351232)
include ha he hl

/-- the ticks of one stretch -/
theorem inner_ev (i n g : Nat) (hi : i < l3.length) (hn : n < 300) (hg : g ≤ 9) (hg1 : 1 ≤ g)
    (ih : Ev (fun k => cohortlaw23_SchedOnce.l0 k (a : Int) d l3 [pl a e d] [((bh a e (n + g) : Nat) : Int)] ((n + g : Nat) : Int) ((i + 1 : Nat) : Int)) true) (m : Nat) :
    ∀ j, j + m = g → Ev (fun k => cohortlaw23_SchedOnce.l1 k (a : Int) d l3 [pl a e d] [((bh a e n : Nat) : Int)] ((n + g : Nat) : Int) (i : Int) (dueB a e n j) ((n + j + 1 : Nat) : Int)) true := by
  have wa : IntKind.u64.wrap (a : Int) = (a : Int) := w64 _ (by omega) (by omega)
  induction m with
  | zero =>
    intro j hj
    obtain rfl : j = g := by omega
    have hd := due_iff a e n j (by omega)
    have hwi : wrap64 ((i : Int) + 1) = ((i + 1 : Nat) : Int) := by rw [wi64 _ (by omega) (by omega)]; omega
    have h1 := due_one a e (n + j) d (bh a e n) (by omega) (by omega) (by omega)
    refine Ev.step (fun k => by simp only [cohortlaw23_SchedOnce.l1]; rw [if_neg (by omega)]) (Ev.bind h1 ?_)
    by_cases hD : 0 < bh a e n ∧ bh a e n ≤ n + j
    · have hdue : dueB a e n j = true := hd.2 hD
      rw [if_pos hD, hdue]
      simp only [bne_self_eq_false, Bool.false_eq_true, if_false, if_true, List.length_singleton, rd_one, hwi]
      simp only [if_true, show ((1 : Nat) : Int) = 1 from rfl]
      by_cases h0 : ((bh a e (n + j) : Nat) : Int) = 0
      · simp only [if_pos h0]; exact ih
      · have := bh_gt a e (n + j) (by omega)
        simp only [if_neg h0, if_neg (show ¬ ((bh a e (n + j) : Nat) : Int) ≤ ((n + j : Nat) : Int) from by omega)]; exact ih
    · have hdue : dueB a e n j = false := by
        cases hb : dueB a e n j with
        | false => rfl
        | true => exact absurd (hd.1 hb) hD
      have hs := bh_still a e n j (by omega) hD
      rw [if_neg hD, hdue]
      simp only [bne_self_eq_false, Bool.false_eq_true, if_false, List.length_singleton, rd_one, hwi]
      simp only [if_true, show ((1 : Nat) : Int) = 1 from rfl]
      rw [hs] at ih
      have hrest : Ev (fun k => (cohortref23_Same.f k [((bh a e n : Nat) : Int)] [((bh a e n : Nat) : Int)]).bind fun t182 => if t182 = true then cohortlaw23_SchedOnce.l0 k (a : Int) d l3 [pl a e d] [((bh a e n : Nat) : Int)] ((n + j : Nat) : Int) ((i + 1 : Nat) : Int) else some false) true := by
        refine Ev.bind (same_one _) ?_
        simp only [if_true]; exact ih
      by_cases h0 : ((bh a e n : Nat) : Int) = 0
      · simp only [if_pos h0]; exact hrest
      · simp only [if_neg h0, if_neg (show ¬ ((bh a e n : Nat) : Int) ≤ ((n + j : Nat) : Int) from by omega)]; exact hrest
  | succ m ihm =>
    intro j hj
    have h1 := ihm (j + 1) (by omega)
    have hw : IntKind.u64.wrap (((n + j + 1 : Nat) : Int) + 1) = ((n + (j + 1) + 1 : Nat) : Int) := by rw [w64 _ (by omega) (by omega)]; omega
    have ht : dueB a e n (j + 1) = (dueB a e n j || tick a e (n + j + 1)) := rfl
    refine Ev.step (fun k => by simp only [cohortlaw23_SchedOnce.l1]; rw [if_pos (by omega)]) ?_
    rw [wa, hw]
    cases hb : dueB a e n j with
    | true =>
      rw [ht, hb, Bool.true_or] at h1
      simp only [if_true]; exact h1
    | false =>
      rw [ht, hb, Bool.false_or] at h1
      simp only [Bool.false_eq_true, if_false]
      by_cases h2 : n + j + 1 = a
      · have : tick a e (n + j + 1) = true := by simp [tick, h2]
        rw [this] at h1
        simp only [if_pos (show ((n + j + 1 : Nat) : Int) = (a : Int) from by omega)]; exact h1
      · simp only [if_neg (show ¬ ((n + j + 1 : Nat) : Int) = (a : Int) from by omega)]
        by_cases h3 : a < n + j + 1
        · simp only [if_pos (show ((n + j + 1 : Nat) : Int) > (a : Int) from by omega), List.length_singleton, show (0 : Int) < ((1 : Nat) : Int) from by omega, if_true]
          by_cases h4 : 0 < e
          · have h5 : (Int.tmod (IntKind.u64.wrap (((n + j + 1 : Nat) : Int) - (a : Int))) (rd_T25 [pl a e d] 0).f1 == 0) = tick a e (n + j + 1) := tick_eq a e (n + j + 1) ha (by omega) h3 h4
            simp only [if_pos (show (rd_T25 [pl a e d] 0).f1 > 0 from (show (e : Int) > 0 from by omega)), if_neg (show ¬ (rd_T25 [pl a e d] 0).f1 = 0 from (show ¬ (e : Int) = 0 from by omega)), h5]
            exact h1
          · have : tick a e (n + j + 1) = false := by simp [tick, h2, h4]
            rw [this] at h1
            simp only [if_neg (show ¬ (rd_T25 [pl a e d] 0).f1 > 0 from (show ¬ (e : Int) > 0 from by omega))]; exact h1
        · have : tick a e (n + j + 1) = false := by simp [tick, h2, h3]
          rw [this] at h1
          simp only [if_neg (show ¬ ((n + j + 1 : Nat) : Int) > (a : Int) from by omega)]; exact h1

theorem outer_ev (hw : ∀ x ∈ l3, 0 ≤ x ∧ x ≤ 255) (m : Nat) : ∀ i n : Nat, i + m = l3.length → n ≤ 309 → Ev (fun k => cohortlaw23_SchedOnce.l0 k (a : Int) d l3 [pl a e d] [((bh a e n : Nat) : Int)] (n : Int) (i : Int)) true := by
  have hlive : Ev (fun k => (cohortlaw23_lives.f k).bind fun t170 => some t170) true := Ev.bind lives_ev (Ev.now true)
  induction m with
  | zero =>
    intro i n hi hn
    refine Ev.step (fun k => by simp only [cohortlaw23_SchedOnce.l0]; rw [if_neg (by omega)]) ?_
    refine Ev.step (fun k => by simp only [cohortlaw23_SchedOnce.j1, Bool.false_eq_true, if_false]) hlive
  | succ m ih =>
    intro i n hi hn
    refine Ev.step (fun k => by simp only [cohortlaw23_SchedOnce.l0]; rw [if_pos (by omega)]) ?_
    by_cases h3 : n < 300
    · have hd : decide ((n : Int) < 300) = true := by simp; omega
      rw [hd]
      refine Ev.step (fun k => by simp only [cohortlaw23_SchedOnce.j1, if_true]; rw [if_pos (by omega), if_pos (by omega)]) ?_
      have hmem : rd l3 (i : Int) ∈ l3 := by
        unfold rd
        rw [Int.toNat_natCast, List.getD_eq_getElem?_getD, List.getElem?_eq_getElem (by omega : i < l3.length)]
        exact List.getElem_mem _
      obtain ⟨hx0, hx1⟩ := hw _ hmem
      obtain ⟨x, hx⟩ := Int.eq_ofNat_of_zero_le hx0
      rw [hx] at hx1 ⊢
      have e1 : IntKind.u64.wrap ((n : Int) + 1) = ((n + 0 + 1 : Nat) : Int) := by rw [w64 _ (by omega) (by omega)]; omega
      have e2 : IntKind.u64.wrap (Int.tmod (x : Int) 9) = ((x % 9 : Nat) : Int) := by
        rw [Int.tmod_eq_emod_of_nonneg (by omega), w64 _ (by omega) (by omega)]; omega
      have e3 : IntKind.u64.wrap (((n + 0 + 1 : Nat) : Int) + ((x % 9 : Nat) : Int)) = ((n + (1 + x % 9) : Nat) : Int) := by rw [w64 _ (by omega) (by omega)]; omega
      rw [e1, e2, e3]
      have h1 := inner_ev a e d l3 ha he hl i n (1 + x % 9) (by omega) h3 (by omega) (by omega) (ih (i + 1) (n + (1 + x % 9)) (by omega) (by omega)) (1 + x % 9) 0 (by omega)
      exact h1
    · have hd : decide ((n : Int) < 300) = false := by simp; omega
      rw [hd]
      refine Ev.step (fun k => by simp only [cohortlaw23_SchedOnce.j1, Bool.false_eq_true, if_false]) hlive
end

theorem SchedOnce : cohortlaw23_SchedOnce.Pure := by
  intro a0 a1 a2 l3 h0 h1 h2 hm hl hw
  have b0 : 0 ≤ a0 ∧ a0 ≤ 255 := by simpa [Lit.wf, IntKind.min, IntKind.max, IntKind.signed, IntKind.bits] using h0
  have b1 : 0 ≤ a1 ∧ a1 ≤ 255 := by simpa [Lit.wf, IntKind.min, IntKind.max, IntKind.signed, IntKind.bits] using h1
  obtain ⟨a, rfl⟩ := Int.eq_ofNat_of_zero_le b0.1
  obtain ⟨b, rfl⟩ := Int.eq_ofNat_of_zero_le b1.1
  have hw' : ∀ x ∈ l3, 0 ≤ x ∧ x ≤ 255 := fun x hx => by simpa [Lit.wf, IntKind.min, IntKind.max, IntKind.signed, IntKind.bits] using hw x hx
  have e1 : IntKind.u64.wrap (a : Int) = (a : Int) := w64 _ (by omega) (by omega)
  have e2 : IntKind.u64.wrap (Int.tmod (b : Int) 20) = ((b % 20 : Nat) : Int) := by
    rw [Int.tmod_eq_emod_of_nonneg (by omega), w64 _ (by omega) (by omega)]; omega
  have h := Ev.bind (f := fun k t => cohortlaw23_SchedOnce.l0 k (a : Int) a2 l3 [pl a (b % 20) a2] t 0 0) (begin_one a (b % 20) a2 (by omega) (by omega)) (outer_ev a (b % 20) a2 l3 (by omega) (by omega) (by omega) hw' l3.length 0 0 (by omega) (by omega))
  obtain ⟨k, hk⟩ := h.rounds
  refine ⟨k, ?_⟩
  unfold cohortlaw23_SchedOnce.f
  rw [e1, e2]
  exact hk

end Go.Proofs.Ytkmalmdmlkhccaa.Pure
