/- The plain law of BlackTells: which pools are open, what is refused and told, of which market is asked, and when the next one may be open, is the document's. No condition. -/
import Derived.Test.YtpkobboljdaaeaaGAx8
namespace Go.Proofs.Ytpkobboljdaaeaa.Pure
open Go.RowKit Go.Proofs.Ytpkobboljdaaeaa.GA Go.Proofs.YtpkobboljdaaeaaW.PrintWords Go.Proofs.YtpkobboljdaaeaaW.PrintLast Go.Proofs.YtpkobboljdaaeaaW.PrintMore
set_option linter.unusedVariables false
set_option linter.unusedSimpArgs false

namespace Black
theorem wi64 (n : Int) (h0 : -9223372036854775808 ≤ n) (h1 : n < 9223372036854775808) : wrap64 n = n := by
  unfold wrap64; omega
def opn (x : S31) (t : Int) : Bool := if x.f2 ≤ t then decide (x.f0 > 0) else false
theorem isOpen (l : List S31) (i : Nat) (t : Int) (h : i < l.length) : black_IsOpen.f l (i : Int) t = some (opn (rd_T31 l (i : Int)) t) := by
  unfold black_IsOpen.f black_there.f black_open.f opn
  rw [if_pos (by omega), Option.bind_some, if_pos (decide_eq_true (by omega)), if_pos (by omega), if_pos (by omega)]
  split <;> rfl
theorem rd_set_same (l : List S31) (K : Nat) (x : S31) (h : K < l.length) : rd_T31 (l.set K x) (K : Int) = x := by
  unfold rd_T31
  rw [Int.toNat_natCast, List.getD_eq_getElem?_getD, List.getElem?_set_self h, Option.getD_some]
theorem rd_set_other (l : List S31) (K i : Nat) (x : S31) (h : i ≠ K) : rd_T31 (l.set K x) (i : Int) = rd_T31 l (i : Int) := by
  unfold rd_T31
  rw [Int.toNat_natCast, List.getD_eq_getElem?_getD, List.getElem?_set_ne (Ne.symm h), List.getD_eq_getElem?_getD]
theorem lives_ev : Ev (fun _ => (cohortlaw14_lives.f).bind fun t => some t) true := Ev.now _
end Black
open Black

/-- the ends that are behind now -/
def ends (l : List S31) (a : Int) : Nat → List Int
  | 0 => []
  | i + 1 => if (rd_T31 l (i : Int)).f2 > a then ends l a i ++ [(rd_T31 l (i : Int)).f2] else ends l a i
theorem ends_le (l : List S31) (a : Int) (n : Nat) : (ends l a n).length ≤ n := by
  induction n with
  | zero => simp [ends]
  | succ n ih => unfold ends; split <;> first | (simp only [List.length_append, List.length_cons, List.length_nil]; omega) | omega
theorem ends_mem (l : List S31) (a : Int) (n : Nat) (x : Int) : x ∈ ends l a n ↔ ∃ j : Nat, j < n ∧ (rd_T31 l (j : Int)).f2 = x ∧ x > a := by
  induction n with
  | zero => simp [ends]
  | succ n ih =>
    unfold ends
    by_cases h : (rd_T31 l (n : Int)).f2 > a
    · rw [if_pos h, List.mem_append, List.mem_singleton, ih]
      constructor
      · rintro (⟨j, hj, h1, h2⟩ | rfl)
        · exact ⟨j, by omega, h1, h2⟩
        · exact ⟨n, by omega, rfl, h⟩
      · rintro ⟨j, hj, h1, h2⟩
        rcases Nat.lt_or_ge j n with hn | hn
        · exact .inl ⟨j, hn, h1, h2⟩
        · have : j = n := by omega
          subst this; exact .inr h1.symm
    · rw [if_neg h, ih]
      constructor
      · rintro ⟨j, hj, h1, h2⟩; exact ⟨j, by omega, h1, h2⟩
      · rintro ⟨j, hj, h1, h2⟩
        rcases Nat.lt_or_ge j n with hn | hn
        · exact ⟨j, hn, h1, h2⟩
        · have : j = n := by omega
          subst this; rw [h1] at h; exact absurd h2 h
def nextOf (l : List S31) (a : Int) : Int × Bool := if ((ends l a l.length).length : Int) = 0 then (0, false) else (slices_Min_uint64_uint64.least (ends l a l.length) ((ends l a l.length).length - 1), true)
theorem next_loop (l : List S31) (a : Int) (hl : l.length ≤ 200) (m : Nat) : ∀ i : Nat, i + m = l.length → Ev (fun k => black_Next.l0 k a (ends l a i) l (l.length : Int) (i : Int)) (nextOf l a) := by
  induction m with
  | zero =>
    intro i hi
    have : i = l.length := by omega
    subst this
    refine Ev.step (f := fun _ => some (nextOf l a)) (fun k => ?_) (Ev.now _)
    simp only [black_Next.l0]
    rw [if_neg (by omega)]
    unfold nextOf
    by_cases h : ((ends l a l.length).length : Int) = 0
    · rw [if_pos h, if_pos h]
    · rw [if_neg h, if_neg h]
      unfold slices_Min_uint64_uint64.f
      rw [if_neg (by omega)]; rfl
  | succ m ih =>
    intro i hi
    have hwi : wrap64 ((i : Int) + 1) = ((i + 1 : Nat) : Int) := by rw [wi64 _ (by omega) (by omega)]; omega
    have hle := ends_le l a i
    by_cases h : (rd_T31 l (i : Int)).f2 > a
    · have e : ends l a (i + 1) = ends l a i ++ [(rd_T31 l (i : Int)).f2] := by rw [ends, if_pos h]
      have ih' := ih (i + 1) (by omega)
      rw [e] at ih'
      exact Ev.step (fun k => by simp only [black_Next.l0]; rw [if_pos (by omega), if_pos (by omega), if_pos (by omega), if_pos h, if_pos (by omega), hwi]) ih'
    · have e : ends l a (i + 1) = ends l a i := by rw [ends, if_neg h]
      have ih' := ih (i + 1) (by omega)
      rw [e] at ih'
      exact Ev.step (fun k => by simp only [black_Next.l0]; rw [if_pos (by omega), if_pos (by omega), if_pos (by omega), if_neg h, hwi]) ih'
theorem next_ev (l : List S31) (a : Int) (hl : l.length ≤ 200) : Ev (fun k => black_Next.f k l a) (nextOf l a) := next_loop l a hl l.length 0 (by omega)

namespace Tells
theorem quotes_same (l : List S31) (hl : l.length ≤ 200) : Ev (fun k => cohortref00_Quotes.f k l l) true := by
  have hloop : ∀ (m i : Nat), i + m = l.length → Ev (fun k => cohortref00_Quotes.l0 k l l (i : Int)) true := by
    intro m
    induction m with
    | zero => intro i hi; exact Ev.step (f := fun _ => some true) (fun k => by simp only [cohortref00_Quotes.l0]; rw [if_neg (by omega)]) (Ev.now _)
    | succ m ih =>
      intro i hi
      have hwi : wrap64 ((i : Int) + 1) = ((i + 1 : Nat) : Int) := by rw [wi64 _ (by omega) (by omega)]; omega
      exact Ev.step (fun k => by simp only [cohortref00_Quotes.l0]; rw [if_pos (by omega), if_pos (by omega), if_pos (by omega), if_neg (by simp), hwi]) (ih (i + 1) (by omega))
  unfold cohortref00_Quotes.f
  simp only [if_true]
  exact hloop l.length 0 (by omega)
theorem ints_same (l : List Int) (hl : l.length ≤ 200) : Ev (fun k => cohortref00_Ints.f k l l) true := by
  have hloop : ∀ (m i : Nat), i + m = l.length → Ev (fun k => cohortref00_Ints.l0 k l l (i : Int)) true := by
    intro m
    induction m with
    | zero => intro i hi; exact Ev.step (f := fun _ => some true) (fun k => by simp only [cohortref00_Ints.l0]; rw [if_neg (by omega)]) (Ev.now _)
    | succ m ih =>
      intro i hi
      have hwi : wrap64 ((i : Int) + 1) = ((i + 1 : Nat) : Int) := by rw [wi64 _ (by omega) (by omega)]; omega
      exact Ev.step (fun k => by simp only [cohortref00_Ints.l0]; rw [if_pos (by omega), if_pos (by omega), if_pos (by omega), if_pos trivial, hwi]) (ih (i + 1) (by omega))
  unfold cohortref00_Ints.f
  simp only [if_true]
  exact hloop l.length 0 (by omega)
theorem set_same (l : List S31) (K : Nat) (x : S31) (h : K < l.length) (hx : x = rd_T31 l (K : Int)) : l.set K x = l := by
  subst hx
  apply List.ext_getElem?
  intro j
  by_cases hj : K = j
  · subst hj
    rw [List.getElem?_set_self h, List.getElem?_eq_getElem h]
    unfold rd_T31
    rw [Int.toNat_natCast, List.getD_eq_getElem?_getD, List.getElem?_eq_getElem h, Option.getD_some]
  · rw [List.getElem?_set_ne hj]
theorem copied (l : List S31) (hl : l.length ≤ 200) : cohortref14_copied.f l = some l := by
  unfold cohortref14_copied.f
  rw [if_pos (by simp only [List.length_nil]; omega), List.nil_append]
theorem anew (l : List S31) (hl : l.length ≤ 200) : black_anew.f l = some l := by
  unfold black_anew.f
  rw [if_pos (by omega)]

/-- what is refused -/
theorem refuse_ev (l : List S31) (p n s : Int) (hl : l.length ≤ 200) : ∃ a, black_Refuse.f l p n s = some a ∧ Ev (fun k => cohortref14_Refuse.f k l p n s) a ∧ a.length = l.length := by
  unfold black_Refuse.f cohortref14_Refuse.f
  simp only [anew l hl, copied l hl, Option.bind_some]
  have hno : Ev (fun k => cohortref14_Refuse.j0 k p n s l true) l := Ev.step (f := fun _ => some l) (fun k => by simp only [cohortref14_Refuse.j0, if_true]) (Ev.now _)
  unfold black_there.f
  by_cases h1 : p < 0
  · simp only [if_neg (show ¬ p ≥ 0 by omega), if_pos h1, Option.bind_some, Bool.false_eq_true, if_false]
    exact ⟨l, rfl, hno, rfl⟩
  · simp only [if_pos (show p ≥ 0 by omega), if_neg h1, Option.bind_some]
    by_cases h2 : p ≥ (l.length : Int)
    · simp only [decide_eq_false (show ¬ p < (l.length : Int) by omega), if_pos h2, Bool.false_eq_true, if_false]
      exact ⟨l, rfl, hno, rfl⟩
    · simp only [decide_eq_true (show p < (l.length : Int) by omega), if_neg h2, if_true]
      by_cases h3 : n > 1099511627776
      · simp only [if_neg (show ¬ n ≤ 1099511627776 by omega), if_pos h3]
        exact ⟨l, rfl, hno, rfl⟩
      · simp only [if_pos (show n ≤ 1099511627776 by omega), if_neg h3]
        by_cases h4 : s > 65536
        · simp only [if_neg (show ¬ s ≤ 65536 by omega), decide_eq_true h4]
          exact ⟨l, rfl, hno, rfl⟩
        · simp only [if_pos (show s ≤ 65536 by omega), decide_eq_false h4, if_pos (show 0 ≤ p by omega), if_pos (show p < (l.length : Int) by omega)]
          refine ⟨_, rfl, ?_, List.length_set⟩
          by_cases h5 : (IntKind.u64.wrap (n + s)) > ((rd_T31 l p).f2)
          · have e : mx (rd_T31 l p).f2 (IntKind.u64.wrap (n + s)) = IntKind.u64.wrap (n + s) := by unfold mx; split <;> omega
            rw [e]
            exact Ev.step (f := fun _ => some (l.set p.toNat ⟨(rd_T31 l p).f0, (rd_T31 l p).f1, IntKind.u64.wrap (n + s)⟩)) (fun k => by simp only [cohortref14_Refuse.j0, Bool.false_eq_true, if_false]; rw [if_pos (by omega), if_pos (by omega), if_pos h5]) (Ev.now _)
          · have e : mx (rd_T31 l p).f2 (IntKind.u64.wrap (n + s)) = (rd_T31 l p).f2 := by unfold mx; split <;> omega
            rw [e, set_same l p.toNat _ (by omega) (by rw [show ((p.toNat : Nat) : Int) = p by omega])]
            exact Ev.step (f := fun _ => some l) (fun k => by simp only [cohortref14_Refuse.j0, Bool.false_eq_true, if_false]; rw [if_pos (by omega), if_pos (by omega), if_neg h5]) (Ev.now _)
theorem tell_eq (l : List S31) (p a s : Int) (hl : l.length ≤ 200) : ∃ b, black_Tell.f l p a s = some b ∧ cohortref14_Tell.f l p a s = some b ∧ b.length = l.length := by
  unfold black_Tell.f cohortref14_Tell.f black_there.f
  simp only [anew l hl, copied l hl, Option.bind_some]
  by_cases h1 : p < 0
  · rw [if_neg (show ¬ p ≥ 0 by omega), if_pos h1, Option.bind_some, if_neg (by decide)]
    exact ⟨l, rfl, rfl, rfl⟩
  · rw [if_pos (show p ≥ 0 by omega), if_neg h1, Option.bind_some]
    by_cases h2 : p ≥ (l.length : Int)
    · rw [decide_eq_false (show ¬ p < (l.length : Int) by omega), if_pos h2, if_neg (by decide)]
      exact ⟨l, rfl, rfl, rfl⟩
    · rw [decide_eq_true (show p < (l.length : Int) by omega), if_neg h2, if_pos rfl]
      by_cases h3 : a < 1
      · rw [if_neg (show ¬ a ≥ 1 by omega), if_pos h3]
        exact ⟨l, rfl, rfl, rfl⟩
      · rw [if_pos (show a ≥ 1 by omega), if_neg h3]
        by_cases h4 : a > 1073741824
        · rw [if_neg (show ¬ a ≤ 1073741824 by omega), if_pos h4]
          exact ⟨l, rfl, rfl, rfl⟩
        · rw [if_pos (show a ≤ 1073741824 by omega), if_neg h4]
          by_cases h5 : s < 0
          · rw [if_neg (show ¬ s ≥ 0 by omega), if_pos h5]
            exact ⟨l, rfl, rfl, rfl⟩
          · rw [if_pos (show s ≥ 0 by omega), if_neg h5]
            by_cases h6 : s > 65536
            · rw [if_neg (show ¬ s ≤ 65536 by omega), if_pos h6]
              exact ⟨l, rfl, rfl, rfl⟩
            · rw [if_pos (show s ≤ 65536 by omega), if_neg h6, if_pos (show 0 ≤ p by omega), if_pos (show p < (l.length : Int) by omega)]
              exact ⟨_, rfl, rfl, by rw [List.length_set, List.length_set]⟩
theorem open_eq (l : List S31) (p n : Int) : ∃ o, black_IsOpen.f l p n = some o ∧ cohortref14_IsOpen.f l p n = some o := by
  unfold black_IsOpen.f cohortref14_IsOpen.f black_there.f black_open.f
  by_cases h1 : p < 0
  · rw [if_neg (show ¬ p ≥ 0 by omega), if_pos h1, Option.bind_some, if_neg (by decide)]
    exact ⟨_, rfl, rfl⟩
  · rw [if_pos (show p ≥ 0 by omega), if_neg h1, Option.bind_some]
    by_cases h2 : p ≥ (l.length : Int)
    · rw [decide_eq_false (show ¬ p < (l.length : Int) by omega), if_pos h2, if_neg (by decide)]
      exact ⟨_, rfl, rfl⟩
    · rw [decide_eq_true (show p < (l.length : Int) by omega), if_neg h2, if_pos rfl, if_pos (show 0 ≤ p by omega), if_pos (show p < (l.length : Int) by omega), if_pos (show 0 ≤ p by omega), if_pos (show p < (l.length : Int) by omega)]
      by_cases h3 : (rd_T31 l p).f2 ≤ n
      · rw [if_pos h3, if_pos h3]
        refine ⟨_, rfl, ?_⟩
        first | rfl | (congr 1; rw [decide_eq_decide]; omega)
      · rw [if_neg h3, if_neg h3]
        exact ⟨_, rfl, rfl⟩
theorem refOpen (l : List S31) (i : Nat) (n : Int) (h : i < l.length) : cohortref14_IsOpen.f l (i : Int) n = some (black_isOpen (rd_T31 l (i : Int)) n) := by
  unfold cohortref14_IsOpen.f black_isOpen
  rw [if_neg (by omega), if_neg (by omega), if_pos (by omega), if_pos (by omega)]
  by_cases h3 : (rd_T31 l (i : Int)).f2 ≤ n
  · rw [if_pos h3, decide_eq_true h3, Bool.true_and]
    first | rfl | (congr 1; rw [decide_eq_decide]; omega)
  · rw [if_neg h3, decide_eq_false h3, Bool.false_and]

theorem opens_loop (x : S37) (q : List S31) (spot : Bool) (n : Int) (hp : x.f0.length ≤ 200) (hq : q.length ≤ 200) (m : Nat) : ∀ i : Nat, i + m = min x.f0.length q.length →
    Ev (fun k => cohortref14_Opens.l0 k q spot n (black_pick x.f0 q spot n i) (i : Int) x.f0 x.f1 x.f2 x.f3 x.f4 x.f5 x.f6 x.f7 x.f8 x.f9 x.f10 x.f11 x.f12 x.f13 x.f14 x.f15 x.f16 x.f17 x.f18 x.f19) (black_places x.f0 q spot n) := by
  induction m with
  | zero =>
    intro i hi
    have hi' : i = min x.f0.length q.length := by omega
    have hend : ∀ b, b = false → Ev (fun k => cohortref14_Opens.j1 k q spot n (black_pick x.f0 q spot n i) (i : Int) b x.f0 x.f1 x.f2 x.f3 x.f4 x.f5 x.f6 x.f7 x.f8 x.f9 x.f10 x.f11 x.f12 x.f13 x.f14 x.f15 x.f16 x.f17 x.f18 x.f19) (black_places x.f0 q spot n) := by
      intro b hb
      subst hb
      refine Ev.step (f := fun _ => some (black_places x.f0 q spot n)) (fun k => ?_) (Ev.now _)
      rw [cohortref14_Opens.j1, if_neg (by decide)]
      unfold black_places
      rw [hi']
    by_cases h : (i : Int) < (x.f0.length : Int)
    · exact Ev.step (fun k => by rw [cohortref14_Opens.l0, if_pos h]) (hend _ (decide_eq_false (by omega)))
    · exact Ev.step (fun k => by rw [cohortref14_Opens.l0, if_neg h]) (hend _ rfl)
  | succ m ih =>
    intro i hi
    have hwi : wrap64 ((i : Int) + 1) = ((i + 1 : Nat) : Int) := by rw [wi64 _ (by omega) (by omega)]; omega
    have ih' := ih (i + 1) (by omega)
    have hle := black_pick_le x.f0 q spot n i
    have hop := refOpen q i n (by omega)
    have hstep : Ev (fun k => cohortref14_Opens.j1 k q spot n (black_pick x.f0 q spot n i) (i : Int) true x.f0 x.f1 x.f2 x.f3 x.f4 x.f5 x.f6 x.f7 x.f8 x.f9 x.f10 x.f11 x.f12 x.f13 x.f14 x.f15 x.f16 x.f17 x.f18 x.f19) (black_places x.f0 q spot n) := by
      by_cases hf : black_fits spot n (rd_T56 x.f0 i) (rd_T31 q i) = true
      · have e : black_pick x.f0 q spot n (i + 1) = black_pick x.f0 q spot n i ++ [(i : Int)] := by rw [black_pick, if_pos hf]
        rw [e] at ih'
        unfold black_fits at hf
        rw [Bool.and_eq_true] at hf
        refine Ev.step (fun k => ?_) ih'
        rw [cohortref14_Opens.j1, if_pos rfl, if_pos (by omega), if_pos (by omega), if_pos hf.1, hop, Option.bind_some, if_pos hf.2, if_pos (by omega), hwi]
      · have e : black_pick x.f0 q spot n (i + 1) = black_pick x.f0 q spot n i := by rw [black_pick, if_neg hf]
        rw [e] at ih'
        unfold black_fits at hf
        rw [Bool.and_eq_true] at hf
        refine Ev.step (fun k => ?_) ih'
        rw [cohortref14_Opens.j1, if_pos rfl, if_pos (by omega), if_pos (by omega)]
        by_cases h1 : ((rd_T56 x.f0 (i : Int)).f1 == spot) = true
        · rw [if_pos h1, hop, Option.bind_some, if_neg (fun h2 => hf ⟨h1, h2⟩), hwi]
        · rw [if_neg h1, hwi]
    exact Ev.step (fun k => by rw [cohortref14_Opens.l0, if_pos (by omega), decide_eq_true (by omega)]) hstep
theorem opens_ev (x : S37) (q : List S31) (spot : Bool) (n : Int) (hp : x.f0.length ≤ 200) (hq : q.length ≤ 200) :
    Ev (fun k => cohortref14_Opens.f k x.f0 x.f1 x.f2 x.f3 x.f4 x.f5 x.f6 x.f7 x.f8 x.f9 x.f10 x.f11 x.f12 x.f13 x.f14 x.f15 x.f16 x.f17 x.f18 x.f19 q spot n) (black_places x.f0 q spot n) :=
  opens_loop x q spot n hp hq (min x.f0.length q.length) 0 (by omega)
theorem class_ev (x : S37) (q : List S31) (spot : Bool) (n : Int) (hp : x.f0.length ≤ 200) (hq : q.length ≤ 200) :
    Ev (fun k => cohortref14_Class.f k x.f0 x.f1 x.f2 x.f3 x.f4 x.f5 x.f6 x.f7 x.f8 x.f9 x.f10 x.f11 x.f12 x.f13 x.f14 x.f15 x.f16 x.f17 x.f18 x.f19 q spot n) (black_class x.f0 q x.f3 spot n) := by
  unfold cohortref14_Class.f black_class
  refine Ev.bind (opens_ev x q spot n hp hq) ?_
  by_cases h : 0 < (black_places x.f0 q spot n).length
  · simp only [if_pos h]; exact Ev.now _
  · simp only [if_neg h]
    by_cases h2 : spot = true ∧ x.f3 = true
    · simp only [if_pos h2, if_pos h2.1, if_pos h2.2]
      exact Ev.bind (opens_ev x q false n hp hq) (Ev.now _)
    · simp only [if_neg h2]
      have e : (if spot = true then (if x.f3 = true then (false, decide (0 < (black_places x.f0 q false n).length)) else (false, false)) else (false, false)) = ((false, false) : Bool × Bool) := by
        by_cases h3 : spot = true
        · rw [if_pos h3, if_neg (fun h4 => h2 ⟨h3, h4⟩)]
        · rw [if_neg h3]
      rw [e]
      exact Ev.now _

theorem least_pre (l : List Int) (x : Int) (n : Nat) : n < l.length → slices_Min_uint64_uint64.least (l ++ [x]) n = slices_Min_uint64_uint64.least l n := by
  have hr : ∀ j : Nat, j < l.length → rd (l ++ [x]) (j : Int) = rd l (j : Int) := by
    intro j hj
    unfold rd
    rw [Int.toNat_natCast, List.getD_eq_getElem?_getD, List.getElem?_append_left hj, List.getD_eq_getElem?_getD]
  induction n with
  | zero => intro h; exact hr 0 h
  | succ n ih => intro h; simp only [slices_Min_uint64_uint64.least]; rw [ih (by omega), hr (n + 1) h]
/-- the running least of the document's -/
def run (l : List S31) (a : Int) (i : Nat) : Int × Bool := if (ends l a i).length = 0 then (0, false) else (slices_Min_uint64_uint64.least (ends l a i) ((ends l a i).length - 1), true)
theorem run_step (l : List S31) (a : Int) (i : Nat) (h : (rd_T31 l (i : Int)).f2 > a) : run l a (i + 1) = (if (run l a i).2 = true then (if (rd_T31 l (i : Int)).f2 < (run l a i).1 then ((rd_T31 l (i : Int)).f2, true) else run l a i) else ((rd_T31 l (i : Int)).f2, true)) := by
  have e : ends l a (i + 1) = ends l a i ++ [(rd_T31 l (i : Int)).f2] := by rw [ends, if_pos h]
  unfold run
  rw [e]
  have hlast : rd (ends l a i ++ [(rd_T31 l (i : Int)).f2]) (((ends l a i).length : Nat) : Int) = (rd_T31 l (i : Int)).f2 := by
    unfold rd
    rw [Int.toNat_natCast, List.getD_eq_getElem?_getD, List.getElem?_append_right (Nat.le_refl _), Nat.sub_self]; rfl
  rw [if_neg (show ¬ (ends l a i ++ [(rd_T31 l (i : Int)).f2]).length = 0 by simp), show (ends l a i ++ [(rd_T31 l (i : Int)).f2]).length - 1 = (ends l a i).length by simp]
  by_cases h0 : (ends l a i).length = 0
  · rw [if_pos h0, if_neg (by decide)]
    have hnil : ends l a i = [] := List.length_eq_zero_iff.1 h0
    rw [hnil]; rfl
  · rw [if_neg h0, if_pos rfl]
    obtain ⟨n, hn⟩ : ∃ n, (ends l a i).length = n + 1 := ⟨(ends l a i).length - 1, by omega⟩
    rw [hn] at hlast ⊢
    simp only [slices_Min_uint64_uint64.least, hlast]
    rw [least_pre _ _ n (by omega), show n + 1 - 1 = n by omega]
    by_cases h1 : (rd_T31 l (i : Int)).f2 < slices_Min_uint64_uint64.least (ends l a i) n
    · rw [if_pos h1]; congr 1; unfold mn; split <;> omega
    · rw [if_neg h1]; congr 1; unfold mn; split <;> omega
theorem ref_next_loop (l : List S31) (a : Int) (hl : l.length ≤ 200) (m : Nat) : ∀ i : Nat, i + m = l.length → Ev (fun k => cohortref14_Next.l0 k l a (run l a i).1 (run l a i).2 (i : Int)) (nextOf l a) := by
  induction m with
  | zero =>
    intro i hi
    have : i = l.length := by omega
    subst this
    refine Ev.step (f := fun _ => some (nextOf l a)) (fun k => ?_) (Ev.now _)
    rw [cohortref14_Next.l0, if_neg (by omega)]
    unfold nextOf run
    by_cases h : (ends l a l.length).length = 0
    · rw [if_pos h, if_pos (by omega)]
    · rw [if_neg h, if_neg (by omega)]
  | succ m ih =>
    intro i hi
    have hwi : wrap64 ((i : Int) + 1) = ((i + 1 : Nat) : Int) := by rw [wi64 _ (by omega) (by omega)]; omega
    have ih' := ih (i + 1) (by omega)
    by_cases h : (rd_T31 l (i : Int)).f2 > a
    · rw [run_step l a i h] at ih'
      by_cases h1 : (run l a i).2 = true
      · rw [if_pos h1] at ih'
        by_cases h2 : (rd_T31 l (i : Int)).f2 < (run l a i).1
        · rw [if_pos h2] at ih'
          exact Ev.step (fun k => by rw [cohortref14_Next.l0, if_pos (by omega), if_pos (by omega), if_pos h, if_pos h1, if_pos h2, hwi]) ih'
        · rw [if_neg h2] at ih'
          exact Ev.step (fun k => by rw [cohortref14_Next.l0, if_pos (by omega), if_pos (by omega), if_pos h, if_pos h1, if_neg h2, hwi]) ih'
      · rw [if_neg h1] at ih'
        exact Ev.step (fun k => by rw [cohortref14_Next.l0, if_pos (by omega), if_pos (by omega), if_pos h, if_neg h1, hwi]) ih'
    · have e : run l a (i + 1) = run l a i := by unfold run; rw [ends, if_neg h]
      rw [e] at ih'
      exact Ev.step (fun k => by rw [cohortref14_Next.l0, if_pos (by omega), if_pos (by omega), if_neg h, hwi]) ih'
theorem ref_next_ev (l : List S31) (a : Int) (hl : l.length ≤ 200) : Ev (fun k => cohortref14_Next.f k l a) (nextOf l a) := ref_next_loop l a hl l.length 0 (by omega)
end Tells
open Tells

theorem all_ev (x : S37) (q : List S31) (pool now span price score : Int) (spot : Bool) : Ev (fun k => tl.f k x q pool now span price score spot) true := by
  unfold tl.f
  by_cases h : (x.f0.length : Int) > 200 ∨ (q.length : Int) > 200
  · simp only [if_pos h]; exact Ev.now _
  · simp only [if_neg h]
    have hp : x.f0.length ≤ 200 := by omega
    have hq : q.length ≤ 200 := by omega
    obtain ⟨a, ha, ha2, hal⟩ := refuse_ev q pool now span hq
    obtain ⟨b, hb, hb2, hbl⟩ := tell_eq q pool price score hq
    obtain ⟨o, ho, ho2⟩ := open_eq q pool now
    simp only [ha, hb, hb2, ho, ho2, Option.bind_some]
    refine Ev.bind ha2 ?_
    refine Ev.bind (quotes_same a (by omega)) ?_
    refine Ev.bind (quotes_same b (by omega)) ?_
    refine Ev.bind (class_ev x q spot now hp hq) ?_
    refine Ev.bind (next_ev q now hq) ?_
    refine Ev.bind (ref_next_ev q now hq) ?_
    refine Ev.bind (quotes_same q hq) ?_
    refine Ev.bind (opens_ev x q spot now hp hq) ?_
    have hpl : (black_places x.f0 q spot now).length ≤ 200 := by
      unfold black_places
      have := black_pick_le x.f0 q spot now (min x.f0.length q.length)
      omega
    refine Ev.bind (ints_same _ hpl) ?_
    simp only [true_and, if_pos (show a.length ≤ 200 ∧ b.length ≤ 200 from ⟨by omega, by omega⟩)]
    exact Ev.now _

theorem BlackTells : cohortlaw14_BlackTells.Pure := by
  intro x q a2 a3 a4 a5 a6 a7
  intros
  exact (all_ev x q a2 a3 a4 a5 a6 a7).rounds

end Go.Proofs.Ytpkobboljdaaeaa.Pure
