/- The plain law of SchedBehind: behind Due no next tick is at most now, and Due again changes nothing. No condition. -/
import Derived.Test.YtkmalmdmlkhccaaGAx4
import Derived.Test.YtkmalmdmlkhccaaPureSchedOnce
namespace Go.Proofs.Ytkmalmdmlkhccaa.Pure
open Go.RowKit Go.Proofs.Ytkmalmdmlkhccaa.GA Go.Proofs.YtkmalmdmlkhccaaW.PrintWords Go.Proofs.YtkmalmdmlkhccaaW.PrintLast Go.Proofs.Ytkmalmdmlkhccaa.SchedM

/-- a plan that may be -/
def Good (p : S25) : Prop := ∃ (a e : Nat), p.f0 = a ∧ p.f1 = e ∧ a ≤ 1099511627776 ∧ e ≤ 65536

theorem behind_any (p : S25) (n : Nat) (hp : Good p) (hn : n ≤ 1099511627776) : ∃ x : Nat, sched_behind.f p.f0 p.f1 p.f2 (n : Int) = some (x : Int) ∧ (x = 0 ∨ n < x) := by
  obtain ⟨a, e, h0, h1, ha, he⟩ := hp
  rw [h0, h1]
  refine ⟨_, behind_eq a e n _ ha hn he, ?_⟩
  rcases Nat.eq_zero_or_pos (bh a e n) with h | h
  · exact .inl h
  · exact .inr (bh_gt _ _ _ (by omega))

theorem rdT_mem (l : List S25) (i : Nat) (hi : i < l.length) : rd_T25 l (i : Int) ∈ l := by
  unfold rd_T25
  rw [Int.toNat_natCast, List.getD_eq_getElem?_getD, List.getElem?_eq_getElem hi]
  exact List.getElem_mem _
theorem rd_mem (l : List Int) (i : Nat) (hi : i < l.length) : rd l (i : Int) ∈ l := by
  unfold rd
  rw [Int.toNat_natCast, List.getD_eq_getElem?_getD, List.getElem?_eq_getElem hi]
  exact List.getElem_mem _
theorem rd_set (l : List Int) (i j : Nat) (v : Int) (hi : i < l.length) : rd (l.set i v) (j : Int) = if i = j then v else rd l (j : Int) := by
  unfold rd
  rw [Int.toNat_natCast, List.getD_eq_getElem?_getD, List.getD_eq_getElem?_getD, List.getElem?_set]
  by_cases h : i = j
  · subst h; simp [hi]
  · simp [h]

/-- begin: as many as there are plans -/
theorem begin_len (l : List S25) (n : Nat) (hn : n ≤ 1099511627776) (hl : l.length ≤ 16) (hg : ∀ p ∈ l, Good p) (m : Nat) : ∀ (i : Nat) (out : List Int), i + m = l.length → out.length = i →
    ∃ r : List Int, Ev (fun k => sched_Begin.l0 k (n : Int) out l (l.length : Int) (i : Int)) r ∧ r.length = l.length := by
  induction m with
  | zero =>
    intro i out hi ho
    refine ⟨out, Ev.step (fun k => by simp only [sched_Begin.l0]; rw [if_neg (by omega)]) (Ev.now _), by omega⟩
  | succ m ih =>
    intro i out hi ho
    obtain ⟨x, hx, _⟩ := behind_any _ n (hg _ (rdT_mem l i (by omega))) hn
    obtain ⟨r, hr, hrl⟩ := ih (i + 1) (out ++ [(x : Int)]) (by omega) (by simp [ho])
    have hwi : wrap64 ((i : Int) + 1) = ((i + 1 : Nat) : Int) := by rw [wi64 _ (by omega) (by omega)]; omega
    refine ⟨r, Ev.step (fun k => by simp only [sched_Begin.l0]; rw [if_pos (by omega), if_pos (by omega), if_pos (by omega), hx]) ?_, hrl⟩
    simp only [Option.bind_some, if_pos (show out.length < 17592186044416 from by omega), hwi]
    exact hr

/-- Due, from a place on -/
theorem due_loop (l : List S25) (nx : List Int) (n : Nat) (hn : n ≤ 1099511627776) (hl : l.length ≤ 16) (hx : nx.length = l.length) (hg : ∀ p ∈ l, Good p) (h0 : ∀ x ∈ nx, 0 ≤ x) (m : Nat) :
    ∀ (i : Nat) (d : Int) (b : Bool) (out : List Int), i + m = l.length → out.length = l.length → (∀ j, j < i → rd out (j : Int) = 0 ∨ (n : Int) < rd out (j : Int)) → (∀ j, i ≤ j → rd out (j : Int) = rd nx (j : Int)) →
    ∃ d' b' out', Ev (fun k => sched_Due.l0 k nx (n : Int) d b out l (l.length : Int) (i : Int)) (d', b', out') ∧ out'.length = l.length ∧ ∀ j, j < l.length → rd out' (j : Int) = 0 ∨ (n : Int) < rd out' (j : Int) := by
  induction m with
  | zero =>
    intro i d b out hi ho h1 _
    exact ⟨d, b, out, Ev.step (fun k => by simp only [sched_Due.l0]; rw [if_neg (by omega)]) (Ev.now _), ho, fun j hj => h1 j (by omega)⟩
  | succ m ih =>
    intro i d b out hi ho h1 h2
    have hx0 := h0 _ (rd_mem nx i (by omega))
    have hwi : wrap64 ((i : Int) + 1) = ((i + 1 : Nat) : Int) := by rw [wi64 _ (by omega) (by omega)]; omega
    have hnext : ∀ (d1 : Int) (b1 : Bool) (out1 : List Int), out1.length = l.length → (∀ j, j < i + 1 → rd out1 (j : Int) = 0 ∨ (n : Int) < rd out1 (j : Int)) → (∀ j, i + 1 ≤ j → rd out1 (j : Int) = rd nx (j : Int)) → _ := fun d1 b1 out1 => ih (i + 1) d1 b1 out1 (by omega)
    by_cases hd : 0 < rd nx (i : Int) ∧ rd nx (i : Int) ≤ (n : Int)
    · obtain ⟨x, hx', hx2⟩ := behind_any _ n (hg _ (rdT_mem l i (by omega))) hn
      obtain ⟨d', b', out', hr, hr2⟩ := hnext (rd_T25 l (i : Int)).f2 true (out.set i (x : Int)) (by simpa using ho) (fun j hj => by
        rw [rd_set _ _ _ _ (by omega)]
        split
        · omega
        · exact h1 j (by omega)) (fun j hj => by rw [rd_set _ _ _ _ (by omega), if_neg (by omega)]; exact h2 j (by omega))
      refine ⟨d', b', out', Ev.step (fun k => by
        simp only [sched_Due.l0]
        rw [if_pos (by omega), if_pos (by omega), if_pos (by omega), if_pos (by omega), if_pos hd.1, if_pos hd.2, hx']) ?_, hr2⟩
      simp only [Option.bind_some, if_pos (show (i : Int) < (out.length : Int) from by omega), hwi, Int.toNat_natCast]
      exact hr
    · obtain ⟨d', b', out', hr, hr2⟩ := hnext d b out ho (fun j hj => by
        rcases Nat.lt_or_ge j i with h | h
        · exact h1 j h
        · have : j = i := by omega
          subst this
          rw [h2 j (by omega)]; omega) (fun j hj => h2 j (by omega))
      refine ⟨d', b', out', Ev.step (fun k => by
        simp only [sched_Due.l0]
        rw [if_pos (by omega), if_pos (by omega), if_pos (by omega), if_pos (by omega)]) ?_, hr2⟩
      by_cases hp : rd nx (i : Int) > 0
      · simp only [if_pos hp, if_neg (show ¬ rd nx (i : Int) ≤ (n : Int) from by omega), hwi]; exact hr
      · simp only [if_neg hp, hwi]; exact hr

/-- Due where nothing is due -/
theorem due_still (l : List S25) (nx : List Int) (n : Nat) (hl : l.length ≤ 16) (hx : nx.length = l.length) (h0 : ∀ j, j < l.length → rd nx (j : Int) = 0 ∨ (n : Int) < rd nx (j : Int)) (d : Int) (b : Bool) (m : Nat) :
    ∀ (i : Nat), i + m = l.length → Ev (fun k => sched_Due.l0 k nx (n : Int) d b nx l (l.length : Int) (i : Int)) (d, b, nx) := by
  induction m with
  | zero =>
    intro i hi
    exact Ev.step (fun k => by simp only [sched_Due.l0]; rw [if_neg (by omega)]) (Ev.now _)
  | succ m ih =>
    intro i hi
    have h1 := h0 i (by omega)
    refine Ev.step (fun k => by
        simp only [sched_Due.l0]
        rw [if_pos (by omega), if_pos (by omega), if_pos (by omega), if_pos (by omega)]) ?_
    have hwi : wrap64 ((i : Int) + 1) = ((i + 1 : Nat) : Int) := by rw [wi64 _ (by omega) (by omega)]; omega
    by_cases hp : rd nx (i : Int) > 0
    · simp only [if_pos hp, if_neg (show ¬ rd nx (i : Int) ≤ (n : Int) from by omega), hwi]; exact ih (i + 1) (by omega)
    · simp only [if_neg hp, hwi]; exact ih (i + 1) (by omega)

theorem same_loop (xs : List Int) (hl : xs.length ≤ 16) (m : Nat) : ∀ i : Nat, i + m = xs.length → Ev (fun k => cohortref23_Same.l0 k xs xs (i : Int)) true := by
  induction m with
  | zero => intro i hi; exact Ev.step (fun k => by simp only [cohortref23_Same.l0]; rw [if_neg (by omega)]) (Ev.now _)
  | succ m ih =>
    intro i hi
    refine Ev.step (fun k => by simp only [cohortref23_Same.l0]; rw [if_pos (by omega), if_pos (by omega), if_pos (by omega), if_pos trivial, wi64 _ (by omega) (by omega)]) ?_
    exact ih (i + 1) (by omega)
theorem same_any (xs : List Int) (hl : xs.length ≤ 16) : Ev (fun k => cohortref23_Same.f k xs xs) true := by
  simp only [cohortref23_Same.f, if_true]
  exact same_loop xs hl xs.length 0 (by omega)

theorem lives_true : Ev (fun k => (cohortlaw23_lives.f k).bind fun t => some t) true := Ev.bind lives_ev (Ev.now true)

/-- the loop that looks at what is behind, and what follows -/
theorem look_ev (l : List S25) (nx : List Int) (n : Nat) (hl : l.length ≤ 16) (hx : nx.length = l.length) (h0 : ∀ j, j < l.length → rd nx (j : Int) = 0 ∨ (n : Int) < rd nx (j : Int))
    (hdue : Ev (fun k => sched_Due.f k l nx (n : Int)) (0, false, nx)) (m : Nat) : ∀ i : Nat, i + m = l.length → Ev (fun k => cohortlaw23_SchedBehind.l0 k l (n : Int) nx (i : Int)) true := by
  induction m with
  | zero =>
    intro i hi
    refine Ev.step (fun k => by simp only [cohortlaw23_SchedBehind.l0]; rw [if_neg (by omega)]) (Ev.bind hdue ?_)
    simp only [Bool.false_eq_true, if_false]
    refine Ev.bind (same_any nx (by omega)) ?_
    simp only [if_true]
    exact lives_true
  | succ m ih =>
    intro i hi
    have h1 := h0 i (by omega)
    refine Ev.step (fun k => by
      simp only [cohortlaw23_SchedBehind.l0]
      rw [if_pos (by omega), if_pos (by omega)]) ?_
    have hwi : wrap64 ((i : Int) + 1) = ((i + 1 : Nat) : Int) := by rw [wi64 _ (by omega) (by omega)]; omega
    by_cases hp : rd nx (i : Int) = 0
    · simp only [if_pos hp, hwi]; exact ih (i + 1) (by omega)
    · simp only [if_neg hp, if_neg (show ¬ rd nx (i : Int) ≤ (n : Int) from by omega), hwi]; exact ih (i + 1) (by omega)

theorem may_good (l : List S25) (hw : ∀ y ∈ l, ok25 y) (a : Int) (h : sched_may.f l a = some true) : l.length ≤ 16 ∧ a ≤ 1099511627776 ∧ ∀ p ∈ l, Good p := by
  unfold sched_may.f at h
  simp only [Option.some.injEq, Bool.and_eq_true, decide_eq_true_eq, Bool.not_eq_true', List.any_eq_false] at h
  refine ⟨h.1, h.2.1, fun p hp => ?_⟩
  have h1 := h.2.2 p hp
  have h2 := hw p hp
  unfold ok25 at h2
  simp only [sched_badPlan, Bool.or_eq_true, decide_eq_true_eq, not_or] at h1
  have b0 : 0 ≤ p.f0 ∧ p.f0 ≤ 18446744073709551615 := by simpa [Lit.wf, IntKind.min, IntKind.max, IntKind.signed, IntKind.bits] using h2.1
  have b1 : 0 ≤ p.f1 ∧ p.f1 ≤ 18446744073709551615 := by simpa [Lit.wf, IntKind.min, IntKind.max, IntKind.signed, IntKind.bits] using h2.2.1
  exact ⟨p.f0.toNat, p.f1.toNat, by omega, by omega, by omega, by omega⟩

theorem SchedBehind : cohortlaw23_SchedBehind.Pure := by
  intro l nx a ⟨_, hw⟩ hm hl hnx ha
  have b0 : 0 ≤ a ∧ a ≤ 18446744073709551615 := by simpa [Lit.wf, IntKind.min, IntKind.max, IntKind.signed, IntKind.bits] using ha
  obtain ⟨n, rfl⟩ := Int.eq_ofNat_of_zero_le b0.1
  have hx0 : ∀ x ∈ nx, 0 ≤ x := fun x hx => (show 0 ≤ x ∧ x ≤ 18446744073709551615 by simpa [Lit.wf, IntKind.min, IntKind.max, IntKind.signed, IntKind.bits] using hnx x hx).1
  have hskip : Ev (fun k => cohortlaw23_SchedBehind.j0 k l nx (n : Int) true) true := Ev.step (fun k => by simp only [cohortlaw23_SchedBehind.j0, if_true]) lives_true
  suffices h : Ev (fun k => cohortlaw23_SchedBehind.f k l nx (n : Int)) true from h.rounds
  unfold cohortlaw23_SchedBehind.f
  by_cases h1 : (l.length : Int) > 100
  · simp only [if_pos h1]; exact hskip
  simp only [if_neg h1]
  by_cases h2 : (nx.length : Int) = (l.length : Int)
  · simp only [if_pos h2]
    have hlen : nx.length = l.length := by omega
    cases hmay : sched_may.f l (n : Int) with
    | none => unfold sched_may.f at hmay; cases hmay
    | some b =>
      cases b with
      | true =>
        obtain ⟨hl16, hn, hg⟩ := may_good l hw _ hmay
        obtain ⟨r, hr, hrl⟩ := begin_len l n (by omega) hl16 hg l.length 0 [] (by omega) rfl
        have hb : Ev (fun k => sched_Begin.f k l (n : Int)) r := by
          unfold sched_Begin.f
          rw [hmay]
          simp only [Option.bind_some, if_true]
          exact hr
        refine Ev.bind hb ?_
        rw [hrl, bne_self_eq_false]
        obtain ⟨d', b', out', hd, hol, ho⟩ := due_loop l nx n (by omega) hl16 hlen hg hx0 l.length 0 0 false nx (by omega) hlen (fun j hj => by omega) (fun _ _ => rfl)
        have hdue : ∀ (ys : List Int) (q : Int × Bool × List Int), ys.length = l.length → Ev (fun k => sched_Due.l0 k ys (n : Int) 0 false ys l (l.length : Int) 0) q → Ev (fun k => sched_Due.f k l ys (n : Int)) q := by
          intro ys q hyl hq
          unfold sched_Due.f slices_Clone_uint64_uint64.f
          rw [if_pos (by omega), hmay]
          simp only [Option.bind_some, if_true]
          refine Ev.step (fun k => by simp only [sched_Due.j0]; rw [if_neg (by simp [hyl])]) hq
        refine Ev.step (fun k => by simp only [cohortlaw23_SchedBehind.j0, Bool.false_eq_true, if_false]; rfl) (Ev.bind (hdue nx _ hlen hd) ?_)
        have hst := due_still l out' n hl16 hol ho 0 false l.length 0 (by omega)
        exact look_ev l out' n hl16 hol ho (hdue out' _ hol hst) l.length 0 (by omega)
      | false =>
        have hb : Ev (fun k => sched_Begin.f k l (n : Int)) [] := by
          unfold sched_Begin.f
          rw [hmay]
          simp only [Option.bind_some, Bool.false_eq_true, if_false]
          exact Ev.now _
        refine Ev.bind hb ?_
        cases l with
        | cons p l => exact hskip
        | nil =>
          have : nx = [] := List.length_eq_zero_iff.1 (by simpa using hlen)
          subst this
          have hdue : Ev (fun k => sched_Due.f k [] [] (n : Int)) (0, false, []) := by
            unfold sched_Due.f slices_Clone_uint64_uint64.f
            rw [if_pos (by simp), hmay]
            simp only [Option.bind_some, Bool.false_eq_true, if_false]
            exact Ev.step (fun k => by simp only [sched_Due.j0, if_true]) (Ev.now _)
          refine Ev.step (fun k => by simp only [cohortlaw23_SchedBehind.j0]; rw [if_neg (by simp)]) (Ev.bind hdue ?_)
          exact look_ev [] [] n (by simp) rfl (fun j hj => by simp at hj) hdue 0 0 rfl
  · simp only [if_neg h2]; exact hskip

end Go.Proofs.Ytkmalmdmlkhccaa.Pure
