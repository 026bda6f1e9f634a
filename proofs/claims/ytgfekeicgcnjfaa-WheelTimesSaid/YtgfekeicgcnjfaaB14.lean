/- Two wheels. No condition. -/
import Derived.Test.YtgfekeicgcnjfaaB11
import Derived.Test.YtgfekeicgcnjfaaA12
import Derived.Laws.CopyOwn
import Derived.Laws.CopyRow
import Derived.ChangeKeysEq
import Derived.Deep.RegionHeld3
import Derived.Deep.MidRow
import Derived.Shelf.Abstract
import Derived.Lib.Overlaps
import Derived.Lib.AppendZerosOnto
import Derived.Shelf.Spec.SlicesInsertGrow
import Derived.Maps.OwnSet
import Derived.WalkSpells
namespace Go.Proofs.Ytgfekeicgcnjfaa.GA.I
open Go.RowKit Go.Shelf Go.Proofs.YtgfekeicgcnjfaaW.PrintWords Go.Proofs.YtgfekeicgcnjfaaW.PrintLast Go.Proofs.YtgfekeicgcnjfaaW.PrintMore
set_option linter.unusedVariables false
set_option linter.unusedSimpArgs false

/-- what the wheel has behind i sets -/
def TP (l : List Int) (lt_ : Int) (i : Nat) (xs : List S63) (ord : Int) (many : Nat) : Prop :=
  Wp xs ord ∧ (∀ x ∈ xs, ∃ p : Nat, x.f0 = (p : Int) ∧ p < i ∧ l.getD p 0 = x.f1) ∧ (∀ x ∈ xs, ∀ y ∈ xs, x.f2 < y.f2 → x.f0 < y.f0) ∧ 0 ≤ ord ∧ ord ≤ i ∧ xs.length ≤ i ∧ many = (xs.filter fun x => decide (x.f1 ≤ lt_)).length
theorem TP.zero (l : List Int) (lt_ : Int) : TP l lt_ 0 [] 0 0 := ⟨⟨⟨List.Pairwise.nil, (fun x h => nomatch h)⟩, List.Pairwise.nil, (fun x h => nomatch h)⟩, (fun x h => nomatch h), (fun x h => nomatch h), Int.le_refl _, Int.le_refl _, Nat.le_refl _, rfl⟩
theorem TP.skip {l : List Int} {lt_ : Int} {i : Nat} {xs : List S63} {ord : Int} {many : Nat} (h : TP l lt_ i xs ord many) : TP l lt_ (i + 1) xs ord many := by
  obtain ⟨h1, h2, h3, h4, h5, h6, h7⟩ := h
  refine ⟨h1, fun x hx => ?_, h3, h4, by omega, by omega, h7⟩
  obtain ⟨p, e1, e2, e3⟩ := h2 x hx
  exact ⟨p, e1, by omega, e3⟩
theorem filter_ins (xs : List S63) (d : S63) (f : S63 → Bool) : ((ins xs d).filter f).length = (xs.filter f).length + (if f d = true then 1 else 0) := by
  have e : xs = xs.take (ix xs d) ++ xs.drop (ix xs d) := (List.take_append_drop _ _).symm
  have h1 : (xs.filter f).length = ((xs.take (ix xs d)).filter f).length + ((xs.drop (ix xs d)).filter f).length := by
    conv => lhs; rw [e]
    rw [List.filter_append, List.length_append]
  unfold ins
  rw [List.filter_append, List.length_append, h1, List.filter_cons]
  split
  · rw [List.length_cons]; omega
  · omega
theorem TP.miss {l : List Int} {lt_ : Int} {i : Nat} {xs : List S63} {ord : Int} {many : Nat} (h : TP l lt_ i xs ord many) : ∀ x ∈ xs, x.f0 ≠ (i : Int) := fun x hx e => by
  obtain ⟨p, e1, e2, e3⟩ := h.2.1 x hx
  omega
theorem okI (i : Nat) (h : i ≤ 1000000) : okK (i : Int) := by
  unfold okK
  exact WalkArith.wf_i64 (by omega)
theorem TP.next {l : List Int} {lt_ : Int} {i : Nat} {xs : List S63} {ord : Int} {many : Nat} (h : TP l lt_ i xs ord many) (hi : i ≤ 1000000) (a : Int) (ha : l.getD i 0 = a) : TP l lt_ (i + 1) (ins xs ⟨(i : Int), a, ord + 1⟩) (ord + 1) (if a ≤ lt_ then many + 1 else many) := by
  have hm := h.miss
  obtain ⟨h1, h2, h3, h4, h5, h6, h7⟩ := h
  refine ⟨h1.ins rfl (okI i hi) hm, fun x hx => ?_, fun x hx y hy hxy => ?_, by omega, by omega, by rw [ins_len]; omega, ?_⟩
  · rcases (ins_mem xs _ x).1 hx with rfl | hx
    · exact ⟨i, rfl, by omega, ha⟩
    · obtain ⟨p, e1, e2, e3⟩ := h2 x hx
      exact ⟨p, e1, by omega, e3⟩
  · rcases (ins_mem xs _ x).1 hx with rfl | hx
    · rcases (ins_mem xs _ y).1 hy with rfl | hy
      · exact absurd hxy (Int.lt_irrefl _)
      · have := h1.2.2 y hy
        have hxy' : ord + 1 < y.f2 := hxy
        omega
    · rcases (ins_mem xs _ y).1 hy with rfl | hy
      · obtain ⟨p, e1, e2, e3⟩ := h2 x hx
        show x.f0 < (i : Int)
        omega
      · exact h3 x hx y hy hxy
  · rw [filter_ins, ← h7]
    by_cases hal : a ≤ lt_
    · rw [if_pos hal, if_pos (decide_eq_true hal)]
    · rw [if_neg hal, if_neg (by simpa using hal)]
      rfl
theorem srt_le {xs : List S63} (h : xs.Pairwise ltD) : xs.Pairwise fun x y => x.f1 ≤ y.f1 := h.imp (fun {a b} hab => by unfold ltD at hab; omega)
theorem due_filter : ∀ {xs : List S63}, xs.Pairwise ltD → ∀ n : Int, due xs n = xs.filter (fun x => decide (x.f1 ≤ n))
  | [], _, n => rfl
  | x :: xs, h, n => by
    obtain ⟨h1, h2⟩ := List.pairwise_cons.1 h
    by_cases hx : x.f1 ≤ n
    · unfold due
      rw [List.takeWhile_cons_of_pos (by simpa using hx), List.filter_cons_of_pos (by simpa using hx)]
      exact congrArg _ (due_filter h2 n)
    · rw [(due_stop x xs n hx).1, List.filter_cons_of_neg (by simpa using hx)]
      refine (List.filter_eq_nil_iff.2 (fun y hy => ?_)).symm
      have := h1 y hy
      unfold ltD at this
      simp
      omega
theorem due_two (xs : List S63) (a b : Int) (hab : a ≤ b) : due xs b = due xs a ++ due (later xs a) b ∧ later xs b = later (later xs a) b := by
  induction xs with
  | nil => exact ⟨rfl, rfl⟩
  | cons x xs ih =>
    by_cases hx : x.f1 ≤ a
    · have hxb : x.f1 ≤ b := by omega
      unfold due later at *
      rw [List.takeWhile_cons_of_pos (by simpa using hxb), List.takeWhile_cons_of_pos (by simpa using hx), List.dropWhile_cons_of_pos (by simpa using hx), List.dropWhile_cons_of_pos (by simpa using hxb)]
      exact ⟨by rw [ih.1]; rfl, ih.2⟩
    · rw [(due_stop x xs a hx).1, (due_stop x xs a hx).2]
      exact ⟨rfl, rfl⟩
theorem due_sub (xs : List S63) (n : Int) : (due xs n).Sublist xs := List.takeWhile_sublist _
theorem later_sub (xs : List S63) (n : Int) : (later xs n).Sublist xs := List.dropWhile_sublist _
theorem later_gt : ∀ {xs : List S63}, xs.Pairwise ltD → ∀ n : Int, ∀ y ∈ later xs n, n < y.f1
  | [], _, n, y, hy => by cases hy
  | x :: xs, h, n, y, hy => by
    obtain ⟨h1, h2⟩ := List.pairwise_cons.1 h
    by_cases hx : x.f1 ≤ n
    · refine later_gt h2 n y ?_
      unfold later at *
      rwa [List.dropWhile_cons_of_pos (by simpa using hx)] at hy
    · rw [(due_stop x xs n hx).2] at hy
      rcases List.mem_cons.1 hy with rfl | hy
      · omega
      · have := h1 y hy
        unfold ltD at this
        omega
theorem due_le (xs : List S63) (n : Int) : ∀ y ∈ due xs n, y.f1 ≤ n := fun y hy => by
  have := List.all_takeWhile (l := xs) (p := fun x => decide (x.f1 ≤ n))
  rw [List.all_eq_true] at this
  exact of_decide_eq_true (this y hy)
theorem Wp.later {xs : List S63} {ord : Int} (h : Wp xs ord) (n : Int) : Wp (later xs n) ord := by
  have hs := later_sub xs n
  exact ⟨⟨h.1.1.sublist (hs.map _), fun y hy => h.1.2 y (hs.subset hy)⟩, h.2.1.sublist hs, fun y hy => h.2.2 y (hs.subset hy)⟩
/-- what is told, one after another -/
theorem TP.tell {l : List Int} {lt_ nw : Int} {n : Nat} {xs : List S63} {ord : Int} {many : Nat} (h : TP l lt_ n xs ord many) (hnl : nw ≤ lt_) {ks : List Int} (hk : ks = (due xs lt_).map (·.f0)) (i : Nat) (hi : i < ks.length) :
    ∃ p : Nat, ks.getD i 0 = (p : Int) ∧ p < n ∧ l.getD p 0 ≤ lt_ ∧ (i < (due xs nw).length → l.getD p 0 ≤ nw) ∧ ((due xs nw).length ≤ i → nw < l.getD p 0) ∧
      ∀ j, j + 1 = i → ∃ q : Nat, ks.getD j 0 = (q : Int) ∧ q < n ∧ (l.getD q 0 < l.getD p 0 ∨ (l.getD q 0 = l.getD p 0 ∧ q < p)) := by
  subst hk
  rw [List.length_map] at hi
  have hg : ∀ j, j < (due xs lt_).length → ((due xs lt_).map (·.f0)).getD j 0 = ((due xs lt_).getD j z63).f0 := fun j hj => by
    rw [getD_lt _ j hj, List.getD_eq_getElem?_getD, List.getElem?_map, List.getElem?_eq_getElem hj]
    rfl
  have hm : ∀ j (hj : j < (due xs lt_).length), (due xs lt_).getD j z63 ∈ due xs lt_ := fun j hj => by rw [getD_lt _ j hj]; exact List.getElem_mem _
  have hmx := (due_sub xs lt_).subset (hm i hi)
  obtain ⟨p, e1, e2, e3⟩ := h.2.1 _ hmx
  have hle := due_le xs lt_ _ (hm i hi)
  refine ⟨p, by rw [hg i hi]; exact e1, e2, by rw [e3]; exact hle, fun hlt => ?_, fun hge => ?_, fun j hj => ?_⟩
  · have e := (due_two xs nw lt_ hnl).1
    have : (due xs lt_).getD i z63 ∈ due xs nw := by
      rw [e, List.getD_eq_getElem?_getD, List.getElem?_append_left hlt, List.getElem?_eq_getElem hlt]
      exact List.getElem_mem _
    rw [e3]
    exact due_le xs nw _ this
  · have e := (due_two xs nw lt_ hnl).1
    have hl : i - (due xs nw).length < (due (later xs nw) lt_).length := by
      have := congrArg List.length e
      rw [List.length_append] at this
      omega
    have : (due xs lt_).getD i z63 ∈ due (later xs nw) lt_ := by
      rw [e, List.getD_eq_getElem?_getD, List.getElem?_append_right hge, List.getElem?_eq_getElem hl]
      exact List.getElem_mem _
    rw [e3]
    exact later_gt h.1.2.1 nw _ ((due_sub _ _).subset this)
  · have hj' : j < (due xs lt_).length := by omega
    have hmy := (due_sub xs lt_).subset (hm j hj')
    obtain ⟨q, f1, f2, f3⟩ := h.2.1 _ hmy
    have hs := srt_lt (h.1.2.1.sublist (due_sub xs lt_)) (a := j) (b := i) (by omega) hi
    refine ⟨q, by rw [hg j hj']; exact f1, f2, ?_⟩
    rw [f3, e3]
    rcases hs with hs | ⟨hs1, hs2⟩
    · exact .inl hs
    · have := h.2.2.1 _ hmy _ hmx hs2
      exact .inr ⟨hs1, by omega⟩
theorem TP.many {l : List Int} {lt_ : Int} {n : Nat} {xs : List S63} {ord : Int} {many : Nat} (h : TP l lt_ n xs ord many) : (due xs lt_).length = many := by
  rw [due_filter h.1.2.1]
  exact h.2.2.2.2.2.2.symm
/-- two wheels side by side -/
def Two (w : World) (g1 m1 g2 m2 B : Nat) (v1 v2 : Value) (xs ys : List S63) (o1 o2 : Int) : Prop := Whl w g1 m1 B 40 v1 xs o1 ∧ Whl w g2 m2 B 40 v2 ys o2 ∧ g1 ≠ g2 ∧ m1 ≠ m2 ∧ ∀ k, v1.ownBlock = some k → v2.ownBlock ≠ some k
theorem Two.below {w w' : World} {g1 m1 g2 m2 B : Nat} {v1 v2 : Value} {xs ys : List S63} {o1 o2 : Int} (h : Two w g1 m1 g2 m2 B v1 v2 xs ys o1 o2) (hb : Below w.heap.size w w') : Two w' g1 m1 g2 m2 B v1 v2 xs ys o1 o2 := ⟨h.1.below hb, h.2.1.below hb, h.2.2⟩
theorem Two.swap {w : World} {g1 m1 g2 m2 B : Nat} {v1 v2 : Value} {xs ys : List S63} {o1 o2 : Int} (h : Two w g1 m1 g2 m2 B v1 v2 xs ys o1 o2) : Two w g2 m2 g1 m1 B v2 v1 ys xs o2 o1 := ⟨h.2.1, h.1, h.2.2.1.symm, h.2.2.2.1.symm, fun k h1 h2 => h.2.2.2.2 k h2 h1⟩
theorem Two.left {w w' : World} {g1 m1 g2 m2 B : Nat} {v1 v2 v1' : Value} {xs ys xs' : List S63} {o1 o2 o1' : Int} (h : Two w g1 m1 g2 m2 B v1 v2 xs ys o1 o2) (h1 : Whl w' g1 m1 B 40 v1' xs' o1') (hf : Fw w w' g1 m1 v1) (ha : At w v1 v1') : Two w' g1 m1 g2 m2 B v1' v2 xs' ys o1' o2 := by
  obtain ⟨a, b, n1, n2, n3⟩ := h
  have hm2 : m2 ≠ g1 := fun e => by
    subst e
    obtain ⟨es, c, hb, _⟩ := b.mapIs
    rw [a.1] at hb
    cases hb
  have hg2 : g2 ≠ m1 := fun e => by
    subst e
    obtain ⟨es, c, hb, _⟩ := a.mapIs
    rw [b.1] at hb
    cases hb
  have hv2 : ∀ k, v2.ownBlock = some k → k < w.heap.size ∧ k ≠ g1 ∧ k ≠ m1 := fun k hk => by
    obtain ⟨c2, h2⟩ := own_typed b.row k hk
    refine ⟨blk_lt h2, fun e => ?_, fun e => ?_⟩
    · subst e
      have := a.1
      rw [h2] at this
      injection this with this
      injection this with _ this
      cases this
    · subst e
      obtain ⟨es, c, hb, _⟩ := a.mapIs
      rw [h2] at hb
      cases hb
  refine ⟨h1, ⟨(hf g2 b.lt n1.symm hg2 (a.row.not_gt b.1)).trans b.1, b.row.moved (fun k hk => ?_), b.mapIs.kept (hf m2 b.mapIs.lt hm2 n2.symm (a.row.not_map b.mapIs)), b.2.2.2⟩, n1, n2, fun k hk hk2 => ?_⟩
  · obtain ⟨q1, q2, q3⟩ := hv2 k hk
    exact hf k q1 q2 q3 (fun e => n3 k e.symm hk)
  · rcases ha with e | ⟨j, e, hj⟩
    · exact n3 k (e ▸ hk) hk2
    · have := (hv2 k hk2).1
      rw [e] at hk
      injection hk with hk
      omega

theorem Two.setL {w : World} {g1 m1 g2 m2 B : Nat} {v1 v2 : Value} {xs ys : List S63} {o1 o2 : Int} (h : Two w g1 m1 g2 m2 B v1 v2 xs ys o1 o2) (hk : Wp xs o1) (k at_ : Int) (hat : at_ ≤ 1099511627776) (hl : xs.length < 40) (ho0 : 0 ≤ o1) (ho1 : o1 ≤ 1000) (ho : okK k) (hx : ∀ x ∈ xs, x.f0 ≠ k) : Calls Try.prog 7 #[.pointer (some ⟨g1, 0, none⟩), .int .i64 k, .int .u64 at_] w fun e w' => ∃ v1', e = .returned (.int .i64 0) ∧ Two w' g1 m1 g2 m2 B v1' v2 (ins xs ⟨k, at_, o1 + 1⟩) ys (o1 + 1) o2 ∧ Below B w w' ∧ w.heap.size ≤ w'.heap.size := by
  refine (Set.new g1 m1 B 40 v1 xs o1 hk k at_ hat (by omega) (by omega) ho0 (by omega) w h.1 ho hx).mono ?_
  rintro e w' ⟨v', rfl, ht, hb, hf, ha⟩
  exact ⟨v', rfl, h.left ht hf ha, hb, hb.size⟩
theorem Two.setR {w : World} {g1 m1 g2 m2 B : Nat} {v1 v2 : Value} {xs ys : List S63} {o1 o2 : Int} (h : Two w g1 m1 g2 m2 B v1 v2 xs ys o1 o2) (hk : Wp ys o2) (k at_ : Int) (hat : at_ ≤ 1099511627776) (hl : ys.length < 40) (ho0 : 0 ≤ o2) (ho1 : o2 ≤ 1000) (ho : okK k) (hx : ∀ x ∈ ys, x.f0 ≠ k) : Calls Try.prog 7 #[.pointer (some ⟨g2, 0, none⟩), .int .i64 k, .int .u64 at_] w fun e w' => ∃ v2', e = .returned (.int .i64 0) ∧ Two w' g1 m1 g2 m2 B v1 v2' xs (ins ys ⟨k, at_, o2 + 1⟩) o1 (o2 + 1) ∧ Below B w w' ∧ w.heap.size ≤ w'.heap.size := by
  refine (Set.new g2 m2 B 40 v2 ys o2 hk k at_ hat (by omega) (by omega) ho0 (by omega) w h.2.1 ho hx).mono ?_
  rintro e w' ⟨v', rfl, ht, hb, hf, ha⟩
  exact ⟨v', rfl, (h.swap.left ht hf ha).swap, hb, hb.size⟩
theorem Two.argL {w : World} {g1 m1 g2 m2 B : Nat} {v1 v2 : Value} {xs ys : List S63} {o1 o2 : Int} (h : Two w g1 m1 g2 m2 B v1 v2 xs ys o1 o2) (hk : Wp xs o1) (k at_ : Int) (hat : 1099511627776 < at_) (ho : okK k) (hx : ∀ x ∈ xs, x.f0 ≠ k) : Calls Try.prog 7 #[.pointer (some ⟨g1, 0, none⟩), .int .i64 k, .int .u64 at_] w fun e w' => ∃ v1', e = .returned (.int .i64 2) ∧ Two w' g1 m1 g2 m2 B v1' v2 xs ys o1 o2 ∧ Below B w w' ∧ w.heap.size ≤ w'.heap.size := by
  refine (Set.arg_miss g1 m1 B 40 v1 xs o1 hk k at_ hat w h.1 ho hx).mono ?_
  rintro e w' ⟨rfl, hb⟩
  exact ⟨v1, rfl, h.below hb, hb.mono h.1.base, hb.size⟩
theorem Two.argR {w : World} {g1 m1 g2 m2 B : Nat} {v1 v2 : Value} {xs ys : List S63} {o1 o2 : Int} (h : Two w g1 m1 g2 m2 B v1 v2 xs ys o1 o2) (hk : Wp ys o2) (k at_ : Int) (hat : 1099511627776 < at_) (ho : okK k) (hx : ∀ x ∈ ys, x.f0 ≠ k) : Calls Try.prog 7 #[.pointer (some ⟨g2, 0, none⟩), .int .i64 k, .int .u64 at_] w fun e w' => ∃ v2', e = .returned (.int .i64 2) ∧ Two w' g1 m1 g2 m2 B v1 v2' xs ys o1 o2 ∧ Below B w w' ∧ w.heap.size ≤ w'.heap.size := by
  refine (Set.arg_miss g2 m2 B 40 v2 ys o2 hk k at_ hat w h.2.1 ho hx).mono ?_
  rintro e w' ⟨rfl, hb⟩
  exact ⟨v2, rfl, h.below hb, hb.mono h.1.base, hb.size⟩
theorem Two.turnL {w : World} {g1 m1 g2 m2 B : Nat} {v1 v2 : Value} {xs ys : List S63} {o1 o2 : Int} (h : Two w g1 m1 g2 m2 B v1 v2 xs ys o1 o2) (hk : Wp xs o1) (now : Int) : Calls Try.prog 8 #[.pointer (some ⟨g1, 0, none⟩), .int .u64 now] w fun e w' => ∃ A c ks v1', e = .returned (.slice A ks.length c) ∧ ks = (due xs now).map (·.f0) ∧ Kd.R (Kd.int .i64) 3 w' w.heap.size (fun _ => True) (.slice A ks.length c) ks ∧ Two w' g1 m1 g2 m2 B v1' v2 (later xs now) ys o1 o2 ∧ Below B w w' ∧ FrT w w' ∧ w.heap.size ≤ w'.heap.size := by
  refine (Turn.calls g1 m1 B 40 v1 xs o1 hk now w h.1).mono ?_
  rintro e w' ⟨A, c, ks, v', rfl, hks, hr, ht, hb, hf, ha⟩
  exact ⟨A, c, ks, v', rfl, hks, hr, h.left ht hf ha, hb, h.1.frT hf, hb.size⟩
theorem Two.turnR {w : World} {g1 m1 g2 m2 B : Nat} {v1 v2 : Value} {xs ys : List S63} {o1 o2 : Int} (h : Two w g1 m1 g2 m2 B v1 v2 xs ys o1 o2) (hk : Wp ys o2) (now : Int) : Calls Try.prog 8 #[.pointer (some ⟨g2, 0, none⟩), .int .u64 now] w fun e w' => ∃ A c ks v2', e = .returned (.slice A ks.length c) ∧ ks = (due ys now).map (·.f0) ∧ Kd.R (Kd.int .i64) 3 w' w.heap.size (fun _ => True) (.slice A ks.length c) ks ∧ Two w' g1 m1 g2 m2 B v1 v2' xs (later ys now) o1 o2 ∧ Below B w w' ∧ FrT w w' ∧ w.heap.size ≤ w'.heap.size := by
  refine (Turn.calls g2 m2 B 40 v2 ys o2 hk now w h.2.1).mono ?_
  rintro e w' ⟨A, c, ks, v', rfl, hks, hr, ht, hb, hf, ha⟩
  exact ⟨A, c, ks, v', rfl, hks, hr, (h.swap.left ht hf ha).swap, hb, h.2.1.frT hf, hb.size⟩

end Go.Proofs.Ytgfekeicgcnjfaa.GA.I
