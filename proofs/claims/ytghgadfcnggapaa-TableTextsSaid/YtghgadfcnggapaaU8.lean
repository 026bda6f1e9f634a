/- What the table of texts holds, plainly. No condition. -/
import Derived.Test.YtghgadfcnggapaaU7
import Derived.Test.YtghgadfcnggapaaT8
import Derived.Sort.Walk0
import Derived.Laws.CopyOwn
import Derived.Laws.CopyRow
import Derived.ChangeKeysEq
import Derived.Deep.RegionHeld3
import Derived.Deep.MidRow
import Derived.Shelf.Abstract
import Derived.Lib.Overlaps
import Derived.Lib.AppendZerosOnto
import Derived.Shelf.Spec.SlicesInsertGrow
namespace Go.Proofs.Ytghgadfcnggapaa.GA.U
open Go.RowKit Go.Shelf Go.Proofs.YtghgadfcnggapaaW.PrintWords Go.Proofs.YtghgadfcnggapaaW.PrintLast Go.Proofs.YtghgadfcnggapaaW.PrintMore
set_option linter.unusedVariables false
set_option linter.unusedSimpArgs false

def ltB (a b : ByteArray) : Prop := a.data.toList < b.data.toList
instance (a b : ByteArray) : Decidable (ltB a b) := inferInstanceAs (Decidable (a.data.toList < b.data.toList))
theorem ltB_irrefl (a : ByteArray) : ¬ ltB a a := List.lt_irrefl _
theorem ltB_trans {a b c : ByteArray} (h : ltB a b) (k : ltB b c) : ltB a c := List.lt_trans h k
theorem toL (a : ByteArray) : a.toList = a.data.toList := ByteArray.toList_eq a
theorem ba_ext {a b : ByteArray} (h : a.data.toList = b.data.toList) : a = b := by
  cases a; cases b
  congr 1
  exact Array.toList_inj.1 h
theorem ltB_conn {a b : ByteArray} (h : ¬ ltB a b) (h' : a ≠ b) : ltB b a := by
  have h1 : b.data.toList ≤ a.data.toList := List.not_lt.1 h
  rcases List.le_iff_lt_or_eq.1 h1 with h2 | h2
  · exact h2
  · exact absurd (ba_ext h2.symm) h'
theorem bl (a b : ByteArray) : Op.bytesLess a.toList b.toList = decide (ltB a b) := by
  rw [bytesLess_eq, toL, toL]
  rfl
theorem be (a b : ByteArray) : (a.toList == b.toList) = decide (a = b) := by
  rw [toL, toL]
  by_cases h : a = b
  · subst h; simp
  · rw [decide_eq_false h]
    exact beq_false_of_ne (fun e => h (ba_ext e))
theorem cmpK_neg (a b : ByteArray) : cmpK a b < 0 ↔ ltB a b := by
  unfold cmpK
  rw [bl, be]
  by_cases h : ltB a b
  · rw [decide_eq_true h, if_pos rfl]
    exact ⟨fun _ => h, fun _ => by decide⟩
  · rw [decide_eq_false h, if_neg (by decide)]
    refine ⟨fun h3 => ?_, fun h3 => absurd h3 h⟩
    by_cases h2 : a = b
    · rw [decide_eq_true h2, if_pos rfl] at h3
      exact absurd h3 (by decide)
    · rw [decide_eq_false h2, if_neg (by decide)] at h3
      exact absurd h3 (by decide)
theorem cmpK_zero (a b : ByteArray) : cmpK a b = 0 ↔ a = b := by
  unfold cmpK
  rw [bl, be]
  by_cases h : ltB a b
  · have : a ≠ b := fun e => by subst e; exact ltB_irrefl _ h
    rw [decide_eq_true h, if_pos rfl]
    exact ⟨fun h3 => absurd h3 (by decide), fun e => absurd e this⟩
  · rw [decide_eq_false h, if_neg (by decide)]
    by_cases h2 : a = b
    · rw [decide_eq_true h2, if_pos rfl]
      exact ⟨fun _ => h2, fun _ => rfl⟩
    · rw [decide_eq_false h2, if_neg (by decide)]
      exact ⟨fun h3 => absurd h3 (by decide), fun e => absurd e h2⟩
def Srt (xs : List S56) : Prop := (xs.map (·.f0)).Pairwise ltB
theorem rd_get (xs : List S56) (i : Nat) : rd_T56 xs (i : Int) = xs.getD i z56 := by
  unfold rd_T56
  rw [Int.toNat_natCast]
theorem getD_lt (xs : List S56) (i : Nat) (h : i < xs.length) : xs.getD i z56 = xs[i] := by
  rw [List.getD_eq_getElem?_getD, List.getElem?_eq_getElem h]
  rfl
theorem Srt.lt {xs : List S56} (h : Srt xs) {a b : Nat} (hab : a < b) (hb : b < xs.length) : ltB (xs.getD a z56).f0 (xs.getD b z56).f0 := by
  have := List.pairwise_iff_getElem.1 h a b (by rw [List.length_map]; omega) (by rw [List.length_map]; exact hb) hab
  rw [List.getElem_map, List.getElem_map] at this
  rw [getD_lt xs a (by omega), getD_lt xs b hb]
  exact this
theorem Srt.inj {xs : List S56} (h : Srt xs) {a b : Nat} (ha : a < xs.length) (hb : b < xs.length) (e : (xs.getD a z56).f0 = (xs.getD b z56).f0) : a = b := by
  rcases Nat.lt_trichotomy a b with h1 | h1 | h1
  · have := h.lt h1 hb
    rw [e] at this
    exact absurd this (ltB_irrefl _)
  · exact h1
  · have := h.lt h1 ha
    rw [e] at this
    exact absurd this (ltB_irrefl _)
theorem ix_spec {xs : List S56} (h : Srt xs) (k : ByteArray) : (∀ a, a < ix xs k → ltB (xs.getD a z56).f0 k) ∧ (∀ a, ix xs k ≤ a → a < xs.length → ¬ ltB (xs.getD a z56).f0 k) := by
  have hd : ∀ x : S56, lt k x = true ↔ ltB x.f0 k := fun x => by unfold lt; rw [decide_eq_true_eq]; exact cmpK_neg _ _
  obtain ⟨h1, h2⟩ := bsF_spec (lt k) z56 xs (fun a b hab hb hl => (hd _).2 (ltB_trans (h.lt hab hb) ((hd _).1 hl))) xs.length 0 xs.length (Nat.le_refl _) (Nat.zero_le _) (by omega) (fun a ha => absurd ha (Nat.not_lt_zero _)) (fun a ha hb => absurd hb (by omega))
  refine ⟨fun a ha => (hd _).1 (h1 a ha), fun a ha hb hl => ?_⟩
  have := h2 a ha hb
  rw [(hd _).2 hl] at this
  cases this
theorem hit_at {xs : List S56} {k : ByteArray} (h : hit xs k = true) : (xs.getD (ix xs k) z56).f0 = k := by
  unfold hit at h
  rw [Bool.and_eq_true, beq_iff_eq, rd_get] at h
  exact (cmpK_zero _ _).1 h.2
theorem hit_of {xs : List S56} (h : Srt xs) {k : ByteArray} {p : Nat} (hp : p < xs.length) (e : (xs.getD p z56).f0 = k) : hit xs k = true ∧ ix xs k = p := by
  obtain ⟨h1, h2⟩ := ix_spec h k
  have hge : ix xs k ≤ p := by
    rcases Nat.lt_or_ge p (ix xs k) with hlt | hge
    · have := h1 p hlt
      rw [e] at this
      exact absurd this (ltB_irrefl _)
    · exact hge
  have hix : ix xs k = p := by
    rcases Nat.lt_or_ge (ix xs k) p with hlt | hge'
    · have := h.lt hlt hp
      rw [e] at this
      exact absurd this (h2 _ (Nat.le_refl _) (by omega))
    · omega
  refine ⟨?_, hix⟩
  unfold hit
  rw [hix, rd_get, e, (cmpK_zero k k).2 rfl, decide_eq_true hp]
  rfl
theorem not_hit {xs : List S56} (h : Srt xs) {k : ByteArray} (hk : hit xs k = false) {x : S56} (hx : x ∈ xs) : x.f0 ≠ k := by
  intro e
  obtain ⟨p, hp, rfl⟩ := List.mem_iff_getElem.1 hx
  rw [← getD_lt xs p hp] at e
  rw [(hit_of h hp e).1] at hk
  cases hk
theorem ins_srt {xs : List S56} (h : Srt xs) {k : ByteArray} (hk : hit xs k = false) (v : Int) : Srt (ins xs (ix xs k) ⟨k, v⟩) := by
  obtain ⟨h1, h2⟩ := ix_spec h k
  have hgt : ∀ b ∈ xs.drop (ix xs k), ltB k b.f0 := fun b hb => by
    obtain ⟨q, hq, rfl⟩ := List.mem_iff_getElem.1 hb
    rw [List.length_drop] at hq
    have hm : xs[ix xs k + q] ∈ xs := List.getElem_mem _
    rw [List.getElem_drop]
    refine ltB_conn ?_ (not_hit h hk hm)
    rw [← getD_lt xs _ (by omega)]
    exact h2 _ (by omega) (by omega)
  have hlt : ∀ a ∈ xs.take (ix xs k), ltB a.f0 k := fun a ha => by
    obtain ⟨q, hq, rfl⟩ := List.mem_iff_getElem.1 ha
    rw [List.length_take] at hq
    rw [List.getElem_take, ← getD_lt xs _ (by omega)]
    exact h1 _ (by omega)
  unfold Srt ins
  rw [List.map_append, List.map_cons, List.pairwise_append, List.pairwise_cons]
  refine ⟨?_, ⟨fun b hb => ?_, ?_⟩, fun a ha b hb => ?_⟩
  · rw [List.map_take]
    exact List.Pairwise.sublist (List.take_sublist _ _) h
  · obtain ⟨y, hy, rfl⟩ := List.mem_map.1 hb
    exact hgt y hy
  · rw [List.map_drop]
    exact List.Pairwise.sublist (List.drop_sublist _ _) h
  · obtain ⟨y, hy, rfl⟩ := List.mem_map.1 ha
    rcases List.mem_cons.1 hb with rfl | hb
    · exact hlt y hy
    · obtain ⟨z, hz, rfl⟩ := List.mem_map.1 hb
      exact ltB_trans (hlt y hy) (hgt z hz)
theorem ins_mem {xs : List S56} {i : Nat} {x y : S56} (h : y ∈ ins xs i x) : y = x ∨ y ∈ xs := by
  unfold ins at h
  rcases List.mem_append.1 h with h | h
  · exact .inr (List.mem_of_mem_take h)
  · rcases List.mem_cons.1 h with h | h
    · exact .inl h
    · exact .inr (List.mem_of_mem_drop h)
theorem upd_srt {xs : List S56} (h : Srt xs) {i : Nat} (hi : i < xs.length) (v : Int) : Srt (upd xs i v) := by
  unfold Srt upd
  have e : (xs.set i ⟨(rd_T56 xs (i : Int)).f0, v⟩).map (·.f0) = xs.map (·.f0) := by
    rw [List.map_set, rd_get, getD_lt xs i hi]
    have : (xs.map (·.f0))[i]'(by rw [List.length_map]; exact hi) = xs[i].f0 := List.getElem_map ..
    show (xs.map (·.f0)).set i xs[i].f0 = _
    rw [← this]
    exact List.set_getElem_self _
  rw [e]
  exact h
theorem upd_mem {xs : List S56} (h : Srt xs) {k : ByteArray} (hk : hit xs k = true) {v : Int} {y : S56} (hy : y ∈ upd xs (ix xs k) v) : y = ⟨k, v⟩ ∨ (y ∈ xs ∧ y.f0 ≠ k) := by
  have hlt := hit_lt hk
  have hat := hit_at hk
  unfold upd at hy
  rw [rd_get, hat] at hy
  obtain ⟨q, hq, rfl⟩ := List.mem_iff_getElem.1 hy
  rw [List.length_set] at hq
  by_cases e : ix xs k = q
  · refine .inl ?_
    rw [List.getElem_set, if_pos e]
  · refine .inr ?_
    rw [List.getElem_set, if_neg e]
    refine ⟨List.getElem_mem _, fun e2 => e ?_⟩
    rw [← getD_lt xs q hq] at e2
    exact h.inj hlt hq (hat.trans e2.symm)
theorem erase_srt {xs : List S56} (h : Srt xs) (i : Nat) : Srt (xs.eraseIdx i) := by
  unfold Srt
  exact List.Pairwise.sublist ((List.eraseIdx_sublist xs i).map _) h
theorem erase_not {xs : List S56} (h : Srt xs) {k : ByteArray} (hk : hit xs k = true) : hit (xs.eraseIdx (ix xs k)) k = false := by
  cases hh : hit (xs.eraseIdx (ix xs k)) k with
  | false => rfl
  | true =>
    have h1 := hit_at hh
    have h2 := hit_lt hh
    rw [getD_lt _ _ h2] at h1
    have hm : (xs.eraseIdx (ix xs k))[ix (xs.eraseIdx (ix xs k)) k] ∈ xs.eraseIdx (ix xs k) := List.getElem_mem _
    obtain ⟨q, hq, hne, e⟩ := List.mem_eraseIdx_iff_getElem.1 hm
    rw [← e] at h1
    have hat := hit_at hk
    rw [← getD_lt xs q hq] at h1
    exact absurd (h.inj hq (hit_lt hk) (h1.trans hat.symm)) hne
/-- each thing is the one that was put last -/
def Good (l : List ByteArray) (i : Nat) (xs : List S56) : Prop := ∀ x ∈ xs, ∃ v : Nat, x.f1 = (v : Int) ∧ v < i ∧ l.getD v ByteArray.empty = x.f0 ∧ ∀ q : Nat, v < q → q < i → l.getD q ByteArray.empty ≠ x.f0
theorem Good.nil_ (l : List ByteArray) (i : Nat) : Good l i [] := fun x hx => by cases hx
theorem Good.next {l : List ByteArray} {i : Nat} {x : S56} (h : ∃ v : Nat, x.f1 = (v : Int) ∧ v < i ∧ l.getD v ByteArray.empty = x.f0 ∧ ∀ q : Nat, v < q → q < i → l.getD q ByteArray.empty ≠ x.f0) (hne : x.f0 ≠ l.getD i ByteArray.empty) :
    ∃ v : Nat, x.f1 = (v : Int) ∧ v < i + 1 ∧ l.getD v ByteArray.empty = x.f0 ∧ ∀ q : Nat, v < q → q < i + 1 → l.getD q ByteArray.empty ≠ x.f0 := by
  obtain ⟨v, h1, h2, h3, h4⟩ := h
  refine ⟨v, h1, by omega, h3, fun q hq hq' => ?_⟩
  by_cases e : q = i
  · subst e
    exact fun e => hne e.symm
  · exact h4 q hq (by omega)
theorem Good.self (l : List ByteArray) (i : Nat) : ∃ v : Nat, ((⟨l.getD i ByteArray.empty, (i : Int)⟩ : S56)).f1 = (v : Int) ∧ v < i + 1 ∧ l.getD v ByteArray.empty = l.getD i ByteArray.empty ∧ ∀ q : Nat, v < q → q < i + 1 → l.getD q ByteArray.empty ≠ l.getD i ByteArray.empty := ⟨i, rfl, by omega, rfl, fun q h1 h2 => absurd h2 (by omega)⟩
theorem Good.ins {l : List ByteArray} {i : Nat} {xs : List S56} (h : Good l i xs) (hs : Srt xs) (hk : hit xs (l.getD i ByteArray.empty) = false) : Good l (i + 1) (ins xs (ix xs (l.getD i ByteArray.empty)) ⟨l.getD i ByteArray.empty, (i : Int)⟩) := by
  intro x hx
  rcases ins_mem hx with rfl | hx
  · exact Good.self l i
  · exact Good.next (h x hx) (not_hit hs hk hx)
theorem Good.upd {l : List ByteArray} {i : Nat} {xs : List S56} (h : Good l i xs) (hs : Srt xs) (hk : hit xs (l.getD i ByteArray.empty) = true) : Good l (i + 1) (upd xs (ix xs (l.getD i ByteArray.empty)) (i : Int)) := by
  intro x hx
  rcases upd_mem hs hk hx with rfl | ⟨hx, hne⟩
  · exact Good.self l i
  · exact Good.next (h x hx) hne
theorem Good.erase {l : List ByteArray} {i : Nat} {xs : List S56} (h : Good l i xs) (j : Nat) : Good l i (xs.eraseIdx j) := fun x hx => h x (List.mem_of_mem_eraseIdx hx)

end Go.Proofs.Ytghgadfcnggapaa.GA.U
