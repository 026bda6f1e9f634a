/- The plain law of a cloud. No condition. -/
import Derived.Test.YtfhopjigdkjnoaaK24
import Derived.Laws.CopyOwn
import Derived.Laws.CopyRow
import Derived.ChangeKeysEq
import Derived.Deep.RegionHeld3
import Derived.Deep.MidRow
import Derived.Shelf.Abstract
import Derived.Maps.OwnSet
import Derived.Maps.AppendAt
import Derived.WalkSpells
namespace Go.Proofs.Ytfhopjigdkjnoaa.GA
open Go.RowKit Go.Shelf Go.Proofs.YtfhopjigdkjnoaaW.PrintWords Go.Proofs.YtfhopjigdkjnoaaW.PrintLast Go.Proofs.YtfhopjigdkjnoaaW.PrintMore
set_option linter.unusedVariables false
set_option linter.unusedSimpArgs false

/-- what a request brings about -/
def askS (s : CS) (r : S27) : CS × Option SE :=
  if asksP r = false ∨ s.W.any (fun x => x.f1 == r.f1) = true then (s, none)
  else if r.f0 = 1 then (match s.A.find? (fun y => y.1 == r.f1) with | some y => (s, some y.2) | none => (putS s r, none))
  else if r.f4 ≤ 0 ∨ r.f4 > s.L.length then (s, none)
  else if (at50 s.L (r.f4 - 1).toNat).f3 = 4 then (s, some ⟨15, 0, r.f4, 0, 0, 0, 0⟩) else (putS s r, none)
def kindOf (ak : Int) : Int := if ak = 9 then 2 else if ak = 4 then 3 else 1
def isAns (ak : Int) : Prop := ak = 1 ∨ ak = 2 ∨ ak = 4 ∨ ak = 9
instance (ak : Int) : Decidable (isAns ak) := inferInstanceAs (Decidable (_ ∨ _))
def isHap (ak : Int) : Prop := ak = 3 ∨ ak = 5 ∨ ak = 6 ∨ ak = 7
instance (ak : Int) : Decidable (isHap ak) := inferInstanceAs (Decidable (_ ∨ _))
def at27 (W : List S27) (i : Nat) : S27 := W.getD i z27
theorem at27_eq {W : List S27} {i : Nat} (h : i < W.length) : at27 W i = W[i] := by unfold at27; rw [List.getD_eq_getElem?_getD, List.getElem?_eq_getElem h]; rfl
def ansS (s : CS) (ak : Int) (r : S27) : CS × Option SE :=
  if ak = 1 then (grantS s r, some ⟨10, r.f1, s.L.length + 1, 0, 0, 0, 0⟩) else if ak = 2 then (refuseS s r, some ⟨11, r.f1, 0, 0, 0, 0, 0⟩) else if ak = 4 then (stopS' s (r.f4 - 1).toNat r.f1, some ⟨16, 0, r.f4, 0, 0, 0, 0⟩) else (goneS s (r.f4 - 1).toNat, some ⟨15, 0, (at50 s.L (r.f4 - 1).toNat).f0, 0, 0, 0, 0⟩)
def hapS (s : CS) (ak at_ : Int) (n : Nat) : CS × Option SE :=
  if ak = 3 then (if (at50 s.L n).f3 = 1 then (⟨setSt s.L n 2, s.W, s.A⟩, some ⟨12, 0, (at50 s.L n).f0, 0, 0, 0, 0⟩) else if (at50 s.L n).f3 = 3 ∧ firstAt (isStart (at50 s.L n).f0) s.W < s.W.length then (⟨setSt s.L n 2, s.W.eraseIdx (firstAt (isStart (at50 s.L n).f0) s.W), s.A⟩, some ⟨12, 0, (at50 s.L n).f0, 0, 0, 0, 0⟩) else (s, none))
  else if ak = 5 then (if at_ > 1099511627776 then (s, none) else (noticeS s n at_, some ⟨13, 0, (at50 s.L n).f0, 0, 0, 0, at_⟩))
  else if ak = 6 then (goneS s n, some ⟨15, 0, (at50 s.L n).f0, 0, 0, 0, 0⟩) else (s, some ⟨14, 0, (at50 s.L n).f0, 0, 0, 0, 0⟩)
/-- what an act brings about (what is told of a pool is left open) -/
def actS (s : CS) (ak an at_ : Int) : CS × Option SE :=
  if an < 0 then (s, none) else if ak = 8 then (s, none)
  else if isAns ak then (if an.toNat < s.W.length ∧ (at27 s.W an.toNat).f0 = kindOf ak then ansS s ak (at27 s.W an.toNat) else (s, none))
  else if isHap ak then (if an.toNat < s.L.length ∧ (at50 s.L an.toNat).f3 ≠ 4 then hapS s ak at_ an.toNat else (s, none))
  else (s, none)

structure Ok (s : CS) : Prop where
  ids : ∀ i, i < s.L.length → (at50 s.L i).f0 = (i : Int) + 1
  tok : ∀ i j, i < j → j < s.L.length → (at50 s.L i).f1 ≠ (at50 s.L j).f1
  ans : ∀ i, i < s.L.length → ∃ y ∈ s.A, y.1 = (at50 s.L i).f1
  keys : Keys s.A
  wok : ∀ r ∈ s.W, okK r.f1
  wtok : (s.W.map (·.f1)).Nodup
  wlau : ∀ r ∈ s.W, r.f0 = 1 → ∀ y ∈ s.A, y.1 ≠ r.f1
  wid : ∀ r ∈ s.W, r.f0 ≠ 1 → ∃ i, i < s.L.length ∧ r.f4 = (i : Int) + 1 ∧ (at50 s.L i).f3 ≠ 4
/-- from one state to a later one -/
structure Stp (s t : CS) : Prop where
  le : s.L.length ≤ t.L.length
  le1 : t.L.length ≤ s.L.length + 1
  same : ∀ i, i < s.L.length → (at50 t.L i).f1 = (at50 s.L i).f1 ∧ (at50 t.L i).f2 = (at50 s.L i).f2 ∧ ((at50 s.L i).f3 = 4 → at50 t.L i = at50 s.L i)
  A : ∀ y ∈ s.A, y ∈ t.A
  wl : t.W.length ≤ s.W.length + 1
theorem Stp.refl (s : CS) : Stp s s := ⟨Nat.le_refl _, Nat.le_succ _, fun _ _ => ⟨rfl, rfl, fun _ => rfl⟩, fun _ h => h, Nat.le_succ _⟩
theorem at50_set (L : List S50) (i j : Nat) (x : S50) : at50 (L.set i x) j = if i = j ∧ j < L.length then x else at50 L j := by
  unfold at50
  simp only [List.getD_eq_getElem?_getD, List.getElem?_set]
  by_cases h : i = j
  · subst h
    by_cases h2 : i < L.length
    · simp [h2]
    · simp [h2]
  · simp [h]
theorem at50_app (L : List S50) (g : S50) (j : Nat) : at50 (L ++ [g]) j = if j = L.length then g else at50 L j := by
  unfold at50
  simp only [List.getD_eq_getElem?_getD]
  rcases Nat.lt_trichotomy j L.length with h | h | h
  · rw [List.getElem?_append_left h, if_neg (by omega)]
  · subst h; simp
  · rw [if_neg (by omega), List.getElem?_eq_none (by simp; omega), List.getElem?_eq_none (by omega)]
/-- fewer requests wait -/
theorem Ok.sub {L : List S50} {W W' : List S27} {A : List (Int × SE)} (h : Ok ⟨L, W, A⟩) (hs : W'.Sublist W) : Ok ⟨L, W', A⟩ :=
  ⟨h.ids, h.tok, h.ans, h.keys, fun r hr => h.wok r (hs.subset hr), h.wtok.sublist (hs.map _), fun r hr => h.wlau r (hs.subset hr), fun r hr => h.wid r (hs.subset hr)⟩
/-- an instance changes -/
theorem Ok.put {L : List S50} {W : List S27} {A : List (Int × SE)} (h : Ok ⟨L, W, A⟩) (i : Nat) (x : S50) (h0 : x.f0 = (at50 L i).f0) (h1 : x.f1 = (at50 L i).f1) (h3 : x.f3 = 4 → ∀ r ∈ W, r.f0 ≠ 1 → r.f4 ≠ (i : Int) + 1) : Ok ⟨L.set i x, W, A⟩ := by
  have f0 : ∀ j, (at50 (L.set i x) j).f0 = (at50 L j).f0 := fun j => by
    rw [at50_set]; split
    · rename_i q; rw [h0, q.1]
    · rfl
  have f1 : ∀ j, (at50 (L.set i x) j).f1 = (at50 L j).f1 := fun j => by
    rw [at50_set]; split
    · rename_i q; rw [h1, q.1]
    · rfl
  refine ⟨fun j hj => ?_, fun j k hjk hk => ?_, fun j hj => ?_, h.keys, h.wok, h.wtok, h.wlau, fun r hr hk => ?_⟩
  · rw [List.length_set] at hj; rw [f0]; exact h.ids j hj
  · rw [List.length_set] at hk; rw [f1, f1]; exact h.tok j k hjk hk
  · rw [List.length_set] at hj; rw [f1]; exact h.ans j hj
  · obtain ⟨j, hj, e, hg⟩ := h.wid r hr hk
    refine ⟨j, by rw [List.length_set]; exact hj, e, ?_⟩
    rw [at50_set]; split
    · rename_i q
      intro hx
      exact h3 hx r hr hk (by rw [e, q.1])
    · exact hg
/-- a launch is answered -/
theorem Ok.answer {L : List S50} {W : List S27} {A : List (Int × SE)} (h : Ok ⟨L, W, A⟩) (t : Int) (e : SE) (ht : okK t) (hn : ∀ y ∈ A, y.1 ≠ t) (hw : ∀ r ∈ W, r.f1 ≠ t) : Ok ⟨L, W, (t, e) :: A⟩ := by
  refine ⟨h.ids, h.tok, fun i hi => ?_, ⟨?_, ?_⟩, h.wok, h.wtok, fun r hr hk y hy => ?_, h.wid⟩
  · obtain ⟨y, hy, e⟩ := h.ans i hi; exact ⟨y, List.mem_cons_of_mem _ hy, e⟩
  · rw [List.map_cons, List.nodup_cons]
    refine ⟨fun hm => ?_, h.keys.1⟩
    obtain ⟨y, hy, e⟩ := List.mem_map.1 hm
    exact hn y hy e
  · intro y hy
    rcases List.mem_cons.1 hy with rfl | hy
    · exact ht
    · exact h.keys.2 y hy
  · rcases List.mem_cons.1 hy with rfl | hy
    · exact fun e => hw r hr e.symm
    · exact h.wlau r hr hk y hy
/-- an instance comes to be -/
theorem Ok.grant {L : List S50} {W : List S27} {A : List (Int × SE)} (h : Ok ⟨L, W, A⟩) (g : S50) (h0 : g.f0 = (L.length : Int) + 1) (h1 : ∀ i, i < L.length → (at50 L i).f1 ≠ g.f1) (h2 : ∃ y ∈ A, y.1 = g.f1) : Ok ⟨L ++ [g], W, A⟩ := by
  refine ⟨fun j hj => ?_, fun j k hjk hk => ?_, fun j hj => ?_, h.keys, h.wok, h.wtok, h.wlau, fun r hr hk => ?_⟩
  · simp at hj
    rw [at50_app]; split
    · rename_i q; rw [h0, q]
    · exact h.ids j (show j < L.length from by omega)
  · simp at hk
    rw [at50_app, at50_app, if_neg (by omega)]; split
    · exact h1 j (by omega)
    · exact h.tok j k hjk (show k < L.length from by omega)
  · simp at hj
    rw [at50_app]; split
    · exact h2
    · exact h.ans j (show j < L.length from by omega)
  · obtain ⟨i, hi, e, hg⟩ := h.wid r hr hk
    have hi' : i < L.length := hi
    refine ⟨i, by simp; omega, e, ?_⟩
    rw [at50_app, if_neg (by omega)]; exact hg
/-- a request waits -/
theorem Ok.wait {s : CS} (h : Ok s) (r : S27) (ho : okK r.f1) (hw : s.W.any (fun x => x.f1 == r.f1) = false) (h1 : r.f0 = 1 → ∀ y ∈ s.A, y.1 ≠ r.f1) (h2 : r.f0 ≠ 1 → ∃ i, i < s.L.length ∧ r.f4 = (i : Int) + 1 ∧ (at50 s.L i).f3 ≠ 4) : Ok (putS s r) := by
  have hw' : ∀ x ∈ s.W, x.f1 ≠ r.f1 := fun x hx e => by
    have := List.any_eq_false.1 hw x hx
    simp [e] at this
  have mem : ∀ x ∈ (putS s r).W, x ∈ s.W ∨ x = r := fun x hx => by
    rcases List.mem_append.1 hx with h | h
    · exact .inl h
    · exact .inr (List.mem_singleton.1 h)
  refine ⟨h.ids, h.tok, h.ans, h.keys, fun x hx => ?_, ?_, fun x hx hk => ?_, fun x hx hk => ?_⟩
  · rcases mem x hx with hx | rfl
    · exact h.wok x hx
    · exact ho
  · show ((s.W ++ [r]).map (·.f1)).Nodup
    rw [List.map_append]
    refine List.nodup_append.2 ⟨h.wtok, by simp, fun a ha b hb => ?_⟩
    obtain ⟨x, hx, rfl⟩ := List.mem_map.1 ha
    simp at hb
    rw [hb]
    exact hw' x hx
  · rcases mem x hx with hx | rfl
    · exact h.wlau x hx hk
    · exact h1 hk
  · rcases mem x hx with hx | rfl
    · exact h.wid x hx hk
    · exact h2 hk
theorem find_none {A : List (Int × SE)} {t : Int} (h : A.find? (fun y => y.1 == t) = none) : ∀ y ∈ A, y.1 ≠ t := fun y hy e => by
  have := List.find?_eq_none.1 h y hy
  simp [e] at this
theorem find_some {A : List (Int × SE)} {t : Int} {y : Int × SE} (h : A.find? (fun y => y.1 == t) = some y) : y ∈ A ∧ y.1 = t := ⟨List.mem_of_find?_eq_some h, by have := List.find?_some h; simpa using this⟩
theorem Stp.put (s : CS) (r : S27) : Stp s (putS s r) := ⟨Nat.le_refl _, Nat.le_succ _, fun _ _ => ⟨rfl, rfl, fun _ => rfl⟩, fun _ h => h, by simp [putS]⟩
theorem askS_ok {s : CS} (h : Ok s) (r : S27) (ho : okK r.f1) : Ok (askS s r).1 ∧ Stp s (askS s r).1 := by
  unfold askS
  split
  · exact ⟨h, .refl s⟩
  · rename_i q
    have qw : s.W.any (fun x => x.f1 == r.f1) = false := by
      cases e : s.W.any (fun x => x.f1 == r.f1) with
      | false => rfl
      | true => exact absurd (.inr e) q
    split
    · rename_i h1
      split
      · exact ⟨h, .refl s⟩
      · rename_i hf
        exact ⟨h.wait r ho qw (fun _ => find_none hf) (fun hk => absurd h1 hk), .put s r⟩
    · rename_i h1
      split
      · exact ⟨h, .refl s⟩
      · rename_i h4
        split
        · exact ⟨h, .refl s⟩
        · rename_i h3
          refine ⟨h.wait r ho qw (fun e => absurd e h1) (fun _ => ⟨(r.f4 - 1).toNat, by omega, by omega, h3⟩), .put s r⟩
theorem closeS_sub (s : CS) (t : Int) : (closeS s t).W.Sublist s.W := List.filter_sublist
theorem closeS_free (s : CS) (t : Int) : ∀ r ∈ (closeS s t).W, r.f1 ≠ t := fun r hr e => by
  have := (List.mem_filter.1 hr).2
  simp [isTok, e] at this
theorem Stp.of {s : CS} {L' : List S50} {W' : List S27} {A' : List (Int × SE)} (i : Nat) (x : S50) (hL : L' = s.L.set i x) (h1 : x.f1 = (at50 s.L i).f1) (h2 : x.f2 = (at50 s.L i).f2) (h3 : (at50 s.L i).f3 ≠ 4) (hw : W'.Sublist s.W) (hA : ∀ y ∈ s.A, y ∈ A') : Stp s ⟨L', W', A'⟩ := by
  subst hL
  refine ⟨Nat.le_of_eq (List.length_set ..).symm, by simp, fun j hj => ?_, hA, Nat.le_succ_of_le hw.length_le⟩
  show (at50 (s.L.set i x) j).f1 = _ ∧ (at50 (s.L.set i x) j).f2 = _ ∧ (_ → at50 (s.L.set i x) j = _)
  rw [at50_set]; split
  · rename_i q
    obtain ⟨q, -⟩ := q
    subst q
    exact ⟨h1, h2, fun e => absurd e h3⟩
  · exact ⟨rfl, rfl, fun _ => rfl⟩
theorem setSt_eq (L : List S50) (i : Nat) (u : Int) : setSt L i u = L.set i { at50 L i with f3 := u } := rfl
theorem gone_ok {s : CS} (h : Ok s) (i : Nat) (hi : i < s.L.length) (hg : (at50 s.L i).f3 ≠ 4) : Ok (goneS s i) ∧ Stp s (goneS s i) := by
  have hs : (s.W.filter (fun x => !isOf (at50 s.L i).f0 x)).Sublist s.W := List.filter_sublist
  refine ⟨(Ok.sub (L := s.L) (A := s.A) h hs).put i _ rfl rfl (fun _ r hr hk e => ?_), Stp.of i _ rfl rfl rfl hg hs (fun _ h => h)⟩
  have := (List.mem_filter.1 hr).2
  rw [h.ids i hi] at this
  simp [isOf, hk, e] at this
theorem mem27 {W : List S27} {n : Nat} (hn : n < W.length) : at27 W n ∈ W := by rw [at27_eq hn]; exact List.getElem_mem hn
theorem ansS_ok {s : CS} (h : Ok s) (ak : Int) (r : S27) (hr : r ∈ s.W) (ha : isAns ak) (hk : r.f0 = kindOf ak) : Ok (ansS s ak r).1 ∧ Stp s (ansS s ak r).1 := by
  have lau : r.f0 = 1 → Ok ⟨s.L, (closeS s r.f1).W, s.A⟩ ∧ (∀ y ∈ s.A, y.1 ≠ r.f1) := fun e => ⟨h.sub (closeS_sub s _), h.wlau r hr e⟩
  have ot : r.f0 ≠ 1 → ∃ i, i < s.L.length ∧ r.f4 = (i : Int) + 1 ∧ (r.f4 - 1).toNat = i ∧ (at50 s.L i).f3 ≠ 4 := fun e => by
    obtain ⟨i, hi, e4, hg⟩ := h.wid r hr e
    exact ⟨i, hi, e4, by omega, hg⟩
  unfold ansS
  split
  · rename_i e
    subst e
    obtain ⟨o1, o2⟩ := lau (by rw [hk]; rfl)
    have o3 := o1.answer r.f1 ⟨10, r.f1, s.L.length + 1, 0, 0, 0, 0⟩ (h.wok r hr) o2 (closeS_free s _)
    have o4 := o3.grant ⟨s.L.length + 1, r.f1, r.f2, 1, 0⟩ rfl (fun i hi e => by
      obtain ⟨y, hy, e2⟩ := h.ans i hi
      exact o2 y hy (e2.trans e)) ⟨_, List.mem_cons_self, rfl⟩
    refine ⟨o4, ?_⟩
    refine ⟨by simp [grantS, answerS, closeS], by simp [grantS, answerS, closeS], fun i hi => ?_, fun y hy => List.mem_cons_of_mem _ hy, Nat.le_succ_of_le (closeS_sub s r.f1).length_le⟩
    show (at50 (s.L ++ [_]) i).f1 = _ ∧ (at50 (s.L ++ [_]) i).f2 = _ ∧ (_ → at50 (s.L ++ [_]) i = _)
    rw [at50_app, if_neg (by omega)]
    exact ⟨rfl, rfl, fun _ => rfl⟩
  · split
    · rename_i e
      subst e
      obtain ⟨o1, o2⟩ := lau (by rw [hk]; rfl)
      exact ⟨o1.answer r.f1 ⟨11, r.f1, 0, 0, 0, 0, 0⟩ (h.wok r hr) o2 (closeS_free s _), ⟨Nat.le_refl _, Nat.le_succ _, fun _ _ => ⟨rfl, rfl, fun _ => rfl⟩, fun y hy => List.mem_cons_of_mem _ hy, Nat.le_succ_of_le (closeS_sub s r.f1).length_le⟩⟩
    · split
      · rename_i e
        subst e
        obtain ⟨i, hi, e4, en, hg⟩ := ot (by rw [hk]; decide)
        rw [en]
        exact ⟨(Ok.sub (L := s.L) (A := s.A) h (closeS_sub s r.f1)).put i _ rfl rfl (fun e => by cases (show (3 : Int) = 4 from e)), Stp.of i _ rfl rfl rfl hg (closeS_sub s r.f1) (fun _ h => h)⟩
      · rename_i n1 n2 n4
        obtain ⟨i, hi, e4, en, hg⟩ := ot (by
          rw [hk]
          rcases ha with e | e | e | e
          · exact absurd e n1
          · exact absurd e n2
          · exact absurd e n4
          · subst e; decide)
        rw [en]
        exact gone_ok h i hi hg
theorem hapS_ok {s : CS} (h : Ok s) (ak at_ : Int) (n : Nat) (hn : n < s.L.length) (hg : (at50 s.L n).f3 ≠ 4) : Ok (hapS s ak at_ n).1 ∧ Stp s (hapS s ak at_ n).1 := by
  unfold hapS
  split
  · split
    · exact ⟨Ok.put (L := s.L) (W := s.W) (A := s.A) h n _ rfl rfl (fun e => by cases (show (2 : Int) = 4 from e)), Stp.of n _ rfl rfl rfl hg (List.Sublist.refl _) (fun _ h => h)⟩
    · split
      · have hs : (s.W.eraseIdx (firstAt (isStart (at50 s.L n).f0) s.W)).Sublist s.W := List.eraseIdx_sublist ..
        exact ⟨(Ok.sub (L := s.L) (A := s.A) h hs).put n _ rfl rfl (fun e => by cases (show (2 : Int) = 4 from e)), Stp.of n _ rfl rfl rfl hg hs (fun _ h => h)⟩
      · exact ⟨h, .refl s⟩
  · split
    · split
      · exact ⟨h, .refl s⟩
      · exact ⟨Ok.put (L := s.L) (W := s.W) (A := s.A) h n _ rfl rfl (fun e => absurd e hg), Stp.of n _ rfl rfl rfl hg (List.Sublist.refl _) (fun _ h => h)⟩
    · split
      · exact gone_ok h n hn hg
      · exact ⟨h, .refl s⟩
theorem actS_ok {s : CS} (h : Ok s) (ak an at_ : Int) : Ok (actS s ak an at_).1 ∧ Stp s (actS s ak an at_).1 := by
  unfold actS
  split
  · exact ⟨h, .refl s⟩
  · split
    · exact ⟨h, .refl s⟩
    · split
      · rename_i ha
        split
        · rename_i q
          exact ansS_ok h ak _ (mem27 q.1) ha q.2
        · exact ⟨h, .refl s⟩
      · split
        · split
          · rename_i q
            exact hapS_ok h ak at_ _ q.1 q.2
          · exact ⟨h, .refl s⟩
        · exact ⟨h, .refl s⟩
def emp : CS := ⟨[], [], []⟩
theorem emp_ok : Ok emp := ⟨fun i hi => absurd hi (Nat.not_lt_zero i), fun i j _ hj => absurd hj (Nat.not_lt_zero j), fun i hi => absurd hi (Nat.not_lt_zero i), ⟨List.nodup_nil, fun _ h => by cases h⟩, fun _ h => (by cases h), List.nodup_nil, fun _ h => (by cases h), fun _ h => by cases h⟩

end Go.Proofs.Ytfhopjigdkjnoaa.GA
