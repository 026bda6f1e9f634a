/- Blocks in memory: loads, stores and copies of 64 bytes. No condition. -/
import Derived.Test.YtlnfdhcpnbhkdaaD15
import Derived.Laws.CopyOwn
import Derived.ChangeKeysEq
import Derived.Deep.RegionHeld3
import Derived.Deep.MidRow
namespace Go.Proofs.Ytlnfdhcpnbhkdaa.GA
open Go.RowKit Go.Proofs.YtlnfdhcpnbhkdaaW.PrintWords Go.Proofs.YtlnfdhcpnbhkdaaW.PrintLast Go.Proofs.YtlnfdhcpnbhkdaaW.PrintMore
set_option linter.unusedVariables false
set_option linter.unusedSimpArgs false


theorem Fr.get {w w' : World} (h : Fr w w') {k : Nat} {cs : Array Value} {t : TypeId} (hk : w.heap[k]? = some (.cells cs t (0, 0))) (a : t ≠ 60) (b : t ≠ 29) (d : t ≠ 65) : w'.heap[k]? = some (.cells cs t (0, 0)) := h k cs t hk a b d
theorem Fr.far {w w1 w2 : World} (h : Fr w w1) {g : Nat} (hg : w.heap.size ≤ g) (ho : ∀ k, k ≠ g → w2.heap[k]? = w1.heap[k]?) : Fr w w2 := fun k c t hk a b d => (ho k (fun e => by have := blk_lt hk; omega)).trans (h k c t hk a b d)
theorem Rep.far {B : Nat} {w w' : World} {gd ga gh n : Nat} {bt : Value} {s : DS} (r : Rep B w gd ga gh n bt s) {g t : Nat} {cs : Array Value} (hg : w.heap[g]? = some (.cells cs t (0, 0))) (h1 : 60 ≠ t) (h2 : 29 ≠ t) (h3 : 65 ≠ t) (ho : ∀ k, k ≠ g → w'.heap[k]? = w.heap[k]?) : Rep B w' gd ga gh n bt s where
  d := (ho gd (blk_ne r.d hg h1)).trans r.d
  a := (ho ga (blk_ne r.a hg h2)).trans r.a
  h := (ho gh (blk_ne r.h hg h2)).trans r.h
  b := r.b.move (fun k hk => ho k (r.b.ne hg h3 hk))
  bd := r.bd
  ba := r.ba
  bh := r.bh
  ne := r.ne
  la := r.la
  lh := r.lh
  n0 := r.n0
  ok := r.ok
  al0 := r.al0
  al1 := r.al1
  st0 := r.st0
theorem blk_splice (H : List Int) (n i j : Nat) (f : Nat) (Y : List Int) (hl : H.length = n * 64) (hi : i < n) (hj : j < n) (hY : f + Y.length ≤ 64) (hne : i ≠ j) : blkAt (splice H (i * 64 + f) Y) j = blkAt H j := by
  unfold blkAt splice
  have e1 : (H.take (i * 64 + f)).length = i * 64 + f := by rw [List.length_take]; omega
  apply List.ext_getElem?
  intro q
  rw [List.getElem?_take, List.getElem?_take]
  by_cases hq : q < 64
  · rw [if_pos hq, if_pos hq, List.getElem?_drop, List.getElem?_drop]
    rcases Nat.lt_or_gt_of_ne hne with h | h
    · rw [List.getElem?_append_right (by omega), e1, List.getElem?_append_right (by omega), List.getElem?_drop]
      congr 1
      omega
    · rw [List.getElem?_append_left (by omega), List.getElem?_take_of_lt (by omega)]
  · rw [if_neg hq, if_neg hq]
theorem blk_splice_self (H : List Int) (n i : Nat) (Y : List Int) (hl : H.length = n * 64) (hi : i < n) (hY : Y.length = 64) : blkAt (splice H (i * 64) Y) i = Y := by
  unfold blkAt splice
  have e1 : (H.take (i * 64)).length = i * 64 := by rw [List.length_take]; omega
  rw [List.drop_left' e1, List.take_left' hY]
theorem blk_splice_any (H : List Int) (n i j : Nat) (Y : List Int) (hl : H.length = n * 64) (hi : i < n) (hj : j < n) (hY : Y.length = 64) : blkAt (splice H (i * 64) Y) j = if i = j then Y else blkAt H j := by
  by_cases h : i = j
  · subst h
    rw [if_pos rfl, blk_splice_self H n i Y hl hi hY]
  · rw [if_neg h]
    exact blk_splice H n i j 0 Y hl hi hj (by omega) h
/-- what would be held, were every write held whole -/
def wholeL (H : List Int) (l : List (Int × List Int)) : List Int := l.foldl (fun H x => splice H (x.1.toNat * 64) x.2) H
theorem wholeL_snoc (H : List Int) (l : List (Int × List Int)) (x : Int × List Int) : wholeL H (l ++ [x]) = splice (wholeL H l) (x.1.toNat * 64) x.2 := by
  unfold wholeL
  rw [List.foldl_append]
  rfl
theorem wholeL_len (H : List Int) (n : Nat) (hH : H.length = n * 64) : ∀ l : List (Int × List Int), (∀ x ∈ l, 0 ≤ x.1 ∧ x.1 < n ∧ x.2.length = 64) → (wholeL H l).length = n * 64 := by
  intro l
  induction l generalizing H with
  | nil => exact fun _ => hH
  | cons x l ih =>
    intro h
    have hx := h x (by simp)
    obtain ⟨i, hi⟩ := Int.eq_ofNat_of_zero_le hx.1
    have ht : x.1.toNat = i := by rw [hi]; rfl
    show (wholeL (splice H (x.1.toNat * 64) x.2) l).length = n * 64
    refine ih _ ?_ (fun y hy => h y (by simp [hy]))
    rw [length_splice _ _ _ (by rw [ht, hx.2.2, hH]; have := hx.2.1; omega)]
    exact hH
/-- where nothing is asked, what is held is what was asked; nothing was asked of the one that is let out; what was asked is told -/
structure PI (S but : Int) (X0 : List Int) (k : Nat) (s : DS) (X : List Int) : Prop where
  ni : s.ni = false
  al : s.al = 0
  st : s.st ≤ S + k
  len : s.btw.length ≤ k
  lx : X.length = 8 * 64
  tell : ∀ j : Nat, j < 8 → blkAt s.asked j = blkAt X j
  sync : ∀ j : Nat, j < 64 → (∀ x ∈ s.btw, x.1 ≠ (j : Int)) → blkAt s.held j = blkAt s.asked j
  out : ∀ x ∈ s.btw, x.1 ≠ but
  keep : ∀ j : Nat, j < 8 → (j : Int) = but → blkAt X j = blkAt X0 j
  rep : ∀ j : Nat, j < 64 → blkAt s.asked j = blkAt (wholeL s.held s.btw) j
  base : ∀ j : Nat, j < 8 → blkAt s.held j = blkAt X0 j
theorem PI.next {S but : Int} {X0 : List Int} {k : Nat} {s : DS} {X : List Int} (p : PI S but X0 k s X) : PI S but X0 (k + 1) s X := ⟨p.ni, p.al, by have := p.st; omega, by have := p.len; omega, p.lx, p.tell, p.sync, p.out, p.keep, p.rep, p.base⟩
theorem PI.write {S but : Int} {X0 : List Int} {k : Nat} {s : DS} {X : List Int} (p : PI S but X0 k s X) (la : s.asked.length = 64 * 64) (lh : s.held.length = 64 * 64) (ok : ∀ x ∈ s.btw, 0 ≤ x.1 ∧ x.1 < (64 : Nat) ∧ x.2.length = 64) (j : Nat) (hj : j < 8) (b : List Int) (hb : b.length = 64) (hbut : (j : Int) ≠ but) : PI S but X0 (k + 1) (s.write j b (nextAl s.al)) (splice X (j * 64) b) where
  ni := rfl
  al := by
    show nextAl s.al = 0
    rw [p.al]
    rfl
  st := by
    show s.st + 1 ≤ S + ((k + 1 : Nat) : Int)
    have := p.st
    omega
  len := by
    show (s.btw ++ [((j : Int), b)]).length ≤ k + 1
    rw [List.length_append]
    have := p.len
    show s.btw.length + 1 ≤ k + 1
    omega
  lx := (length_splice _ _ _ (by rw [hb, p.lx]; omega)).trans p.lx
  tell := fun i hi => by
    show blkAt (splice s.asked (j * 64) b) i = _
    rw [blk_splice_any s.asked 64 j i b la (by omega) (by omega) hb, blk_splice_any X 8 j i b p.lx hj hi hb, p.tell i hi]
  sync := fun i hi h => by
    have hji : j ≠ i := fun e => h ((j : Int), b) (by show _ ∈ s.btw ++ [((j : Int), b)]; simp) (by rw [e])
    show blkAt s.held i = blkAt (splice s.asked (j * 64) b) i
    rw [blk_splice_any s.asked 64 j i b la (by omega) hi hb, if_neg hji]
    exact p.sync i hi (fun x hx => h x (by show x ∈ s.btw ++ [((j : Int), b)]; simp [hx]))
  out := fun x hx => by
    have hx' : x ∈ s.btw ++ [((j : Int), b)] := hx
    rcases List.mem_append.1 hx' with h | h
    · exact p.out x h
    · rw [List.mem_singleton.1 h]
      exact hbut
  keep := fun i hi he => by
    rw [blk_splice_any X 8 j i b p.lx hj hi hb, if_neg (fun e => hbut (by rw [e]; exact he))]
    exact p.keep i hi he
  rep := fun i hi => by
    show blkAt (splice s.asked (j * 64) b) i = blkAt (wholeL s.held (s.btw ++ [((j : Int), b)])) i
    rw [wholeL_snoc]
    show _ = blkAt (splice (wholeL s.held s.btw) ((j : Int).toNat * 64) b) i
    rw [Int.toNat_natCast, blk_splice_any s.asked 64 j i b la (by omega) hi hb, blk_splice_any (wholeL s.held s.btw) 64 j i b (wholeL_len s.held 64 lh s.btw ok) (by omega) hi hb, p.rep i hi]
  base := p.base
theorem flush_blk (A H : List Int) (l : List (Int × List Int)) (la : A.length = 64 * 64) (lh : H.length = 64 * 64) (ok : ∀ x ∈ l, 0 ≤ x.1 ∧ x.1 < 64) : ∀ k, k ≤ l.length → (flushTo A H l k).length = 64 * 64 ∧ ∀ j, j < 64 → blkAt (flushTo A H l k) j = blkAt A j ∨ (blkAt (flushTo A H l k) j = blkAt H j ∧ ∀ m, m < k → (l.getD m (0, [])).1 ≠ (j : Int))
  | 0, _ => ⟨lh, fun j hj => .inr ⟨rfl, fun m hm => by omega⟩⟩
  | k + 1, hk => by
    obtain ⟨h1, h2⟩ := flush_blk A H l la lh ok k (by omega)
    have hx : l.getD k (0, []) ∈ l := by
      rw [List.getD_eq_getElem?_getD, List.getElem?_eq_getElem (by omega)]
      exact List.getElem_mem _
    have hok := ok _ hx
    obtain ⟨i, hi⟩ := Int.eq_ofNat_of_zero_le hok.1
    have hi64 : i < 64 := by omega
    have ht : (l.getD k (0, [])).1.toNat = i := by rw [hi]; rfl
    have lb := blkAt_len A i 64 la hi64
    rw [flushTo, ht]
    refine ⟨(length_splice _ _ _ (by rw [lb, h1]; omega)).trans h1, fun j hj => ?_⟩
    rw [blk_splice_any _ 64 i j _ h1 hi64 hj lb]
    by_cases h : i = j
    · subst h
      rw [if_pos rfl]
      exact .inl rfl
    · rw [if_neg h]
      rcases h2 j hj with h3 | ⟨h3, h4⟩
      · exact .inl h3
      · refine .inr ⟨h3, fun m hm => ?_⟩
        by_cases hmk : m = k
        · subst hmk
          rw [hi]
          omega
        · exact h4 m (by omega)
theorem PI.flush {S but : Int} {X0 : List Int} {k : Nat} {s : DS} {X : List Int} (p : PI S but X0 k s X) (la : s.asked.length = 64 * 64) (lh : s.held.length = 64 * 64) (ok : ∀ x ∈ s.btw, 0 ≤ x.1 ∧ x.1 < 64) (hk : k ≤ 40) : (∀ j, j < 64 → blkAt (s.flush (nextAl s.al)).held j = blkAt (s.flush (nextAl s.al)).asked j) ∧ (s.flush (nextAl s.al)).ni = false ∧ (s.flush (nextAl s.al)).al = 0 ∧ (s.flush (nextAl s.al)).st ≤ S + 41 ∧ (∀ j, j < 8 → blkAt (s.flush (nextAl s.al)).asked j = blkAt X j) := by
  refine ⟨fun j hj => ?_, rfl, by show nextAl s.al = 0; rw [p.al]; rfl, by show s.st + 1 ≤ S + 41; have := p.st; omega, p.tell⟩
  show blkAt (flushTo s.asked s.held s.btw s.btw.length) j = blkAt s.asked j
  rcases (flush_blk s.asked s.held s.btw la lh ok s.btw.length (Nat.le_refl _)).2 j hj with h | ⟨h, h2⟩
  · exact h
  · rw [h]
    refine p.sync j hj (fun x hx => ?_)
    obtain ⟨m, hm, rfl⟩ := List.mem_iff_getElem.1 hx
    have := h2 m hm
    rwa [List.getD_eq_getElem?_getD, List.getElem?_eq_getElem hm] at this
theorem crash_blk (H : List Int) (l : List (Int × List Int)) (p : List Int) (lh : H.length = 64 * 64) (ok : ∀ x ∈ l, 0 ≤ x.1 ∧ x.1 < 64 ∧ x.2.length = 64) (j : Nat) (hj : j < 64) (hne : ∀ x ∈ l, x.1 ≠ (j : Int)) : ∀ k, k ≤ l.length → (crashTo H l p k).length = 64 * 64 ∧ blkAt (crashTo H l p k) j = blkAt H j
  | 0, _ => ⟨lh, rfl⟩
  | k + 1, hk => by
    obtain ⟨h1, h2⟩ := crash_blk H l p lh ok j hj hne k (by omega)
    rw [crashTo, crashAt]
    by_cases hp : k < p.length
    · rw [if_pos hp]
      have hx : l.getD k (0, []) ∈ l := by
        rw [List.getD_eq_getElem?_getD, List.getElem?_eq_getElem (by omega)]
        exact List.getElem_mem _
      have hok := ok _ hx
      obtain ⟨i, hi⟩ := Int.eq_ofNat_of_zero_le hok.1
      have hi64 : i < 64 := by omega
      have ht : (l.getD k (0, [])).1.toNat = i := by rw [hi]; rfl
      have hij : i ≠ j := fun e => hne _ hx (by rw [hi, e])
      rw [ht]
      have hlen : (partR (rd p (k : Int))).1 + (((l.getD k (0, [])).2.drop (partR (rd p (k : Int))).1).take ((partR (rd p (k : Int))).2 - (partR (rd p (k : Int))).1)).length ≤ 64 := by
        rw [List.length_take, List.length_drop, hok.2.2]
        rcases part_cases (rd p (k : Int)) with h | h | h | h <;> rw [h] <;> decide
      exact ⟨(length_splice _ _ _ (by rw [h1]; omega)).trans h1, (blk_splice _ 64 i j _ _ h1 hi64 hj hlen hij).trans h2⟩
    · rw [if_neg hp]
      exact ⟨h1, h2⟩
end Go.Proofs.Ytlnfdhcpnbhkdaa.GA
