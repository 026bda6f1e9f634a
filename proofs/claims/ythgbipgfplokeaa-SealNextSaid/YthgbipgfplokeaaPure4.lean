/- The plain laws of seal: a torn write of a sealed block. No condition. -/
import Derived.Test.YthgbipgfplokeaaPure3
import Derived.Test.YthgbipgfplokeaaS17
namespace Go.Proofs.Ythgbipgfplokeaa.Pure
open Go.RowKit Go.Proofs.Ythgbipgfplokeaa.GA Go.Proofs.YthgbipgfplokeaaW.PrintWords Go.Proofs.YthgbipgfplokeaaW.PrintLast
open Crc CrcM
set_option linter.unusedSimpArgs false
set_option linter.unusedVariables false
theorem nb_mix (a b : List Int) (s i j : Nat) (h : j < 64) : nb (mixL a b s i) j = if s ≤ j ∧ j < i then nb b j else nb a j := by
  have e : rd (mixL a b s i) (j : Int) = if s ≤ j ∧ j < i then rd b j else rd a j := by
    unfold mixL
    rw [rd, Int.toNat_natCast, List.getD_eq_getElem?_getD, List.getElem?_map, List.getElem?_range h]
    rfl
  unfold nb
  rw [e]
  split <;> rfl
theorem bytes_mix (a b : List Int) (ha : Bytes a) (hb : Bytes b) (s i : Nat) : Bytes (mixL a b s i) := by
  intro x hx
  obtain ⟨j, _, rfl⟩ := List.mem_map.1 hx
  split
  · exact rd_range b hb j
  · exact rd_range a ha j
theorem bytes_torn (a b : List Int) (ha : Bytes a) (hb : Bytes b) (p : Int) : Bytes (tornL a b p) := by
  unfold tornL
  repeat' split
  · exact ha
  · exact hb
  · exact bytes_mix a b ha hb _ _
  · exact bytes_mix a b ha hb _ _
theorem get_ends (z : List Int) (h : val z 4 8 ≠ val z 56 8) : getA z = (0, [], 5) := by
  unfold getA
  rw [if_pos (.inr h)]
/-- a half of each is refused -/
theorem get_torn (x y : List Int) (n o : Nat) (hx : val x 4 8 = n) (hx2 : val x 56 8 = n) (hy : val y 4 8 = o) (hy2 : val y 56 8 = o) (h : n ≠ o) (q : Int) : tornL y x q = y ∨ tornL y x q = x ∨ getA (tornL y x q) = (0, [], 5) := by
  unfold tornL
  split
  · exact .inl rfl
  · split
    · exact .inr (.inl rfl)
    · refine .inr (.inr ?_)
      split
      · apply get_ends
        rw [show val (mixL y x 0 32) 4 8 = val x 4 8 from val_congr _ _ _ _ 8 fun j hj => by rw [nb_mix _ _ _ _ _ (by omega), if_pos (by omega)],
          show val (mixL y x 0 32) 56 8 = val y 56 8 from val_congr _ _ _ _ 8 fun j hj => by rw [nb_mix _ _ _ _ _ (by omega), if_neg (by omega)], hx, hy2]
        exact h
      · apply get_ends
        rw [show val (mixL y x 32 64) 4 8 = val y 4 8 from val_congr _ _ _ _ 8 fun j hj => by rw [nb_mix _ _ _ _ _ (by omega), if_neg (by omega)],
          show val (mixL y x 32 64) 56 8 = val x 56 8 from val_congr _ _ _ _ 8 fun j hj => by rw [nb_mix _ _ _ _ _ (by omega), if_pos (by omega)], hx2, hy]
        exact fun e => h e.symm
theorem torn_ev (x y : List Int) (n o : Int) (bx : Bytes x) (lx : x.length = 64) (yb : Bytes y) (ly : y.length = 64) (l0 : List Int) (gx : getA x = (n, l0, 0)) (gy : (getA y).2.2 = 0 → (getA y).1 = o)
    (N O : Nat) (hx : val x 4 8 = N) (hx2 : val x 56 8 = N) (hy : val y 4 8 = O) (hy2 : val y 56 8 = O) (h : N ≠ O) (q : Int) : ∃ K, ∀ k, K ≤ k → tornOk k n o x y q := by
  obtain ⟨K, e⟩ := get_ev (tornL y x q) (bytes_torn y x yb bx q) (tornL_len y x ly lx q)
  rcases hg : getA (tornL y x q) with ⟨m, l, g⟩
  rw [hg] at e
  refine ⟨K, fun k hk => ⟨m, l, g, e k hk, ?_⟩⟩
  have ht := get_torn x y N O hx hx2 hy hy2 h q
  by_cases c : tornL y x q = x
  · rw [c, gx] at hg
    cases hg
    exact .inl ⟨c, rfl, rfl⟩
  · by_cases c2 : g = 0
    · refine .inr (.inr ⟨c, c2, ?_⟩)
      rcases ht with ht | ht | ht
      · refine ⟨ht, ?_⟩
        rw [ht] at hg
        rw [hg] at gy
        exact gy c2
      · exact absurd ht c
      · rw [hg] at ht
        cases ht
        exact absurd c2 (by decide)
    · exact .inr (.inl ⟨c, c2⟩)
theorem five (P : Nat → Nat → Prop) (h : ∀ i < 5, ∃ K, ∀ k, K ≤ k → P k i) : ∃ K, ∀ k, K ≤ k → ∀ i < 5, P k i := by
  obtain ⟨K0, h0⟩ := h 0 (by decide)
  obtain ⟨K1, h1⟩ := h 1 (by decide)
  obtain ⟨K2, h2⟩ := h 2 (by decide)
  obtain ⟨K3, h3⟩ := h 3 (by decide)
  obtain ⟨K4, h4⟩ := h 4 (by decide)
  refine ⟨K0 + K1 + K2 + K3 + K4, fun k hk i hi => ?_⟩
  rcases (by omega : i = 0 ∨ i = 1 ∨ i = 2 ∨ i = 3 ∨ i = 4) with rfl | rfl | rfl | rfl | rfl
  · exact h0 k (by omega)
  · exact h1 k (by omega)
  · exact h2 k (by omega)
  · exact h3 k (by omega)
  · exact h4 k (by omega)
theorem putA_cases (n : Int) (b : List Int) : (putA n b = (blkOf n b, 0) ∧ n ≠ 0 ∧ b.length ≤ 44) ∨ ((putA n b).1 = zero64 ∧ (putA n b).2 ≠ 0) := by
  by_cases c : n = 0
  · right; unfold putA; rw [if_pos c]; exact ⟨rfl, by decide⟩
  · by_cases c2 : 44 < b.length
    · right; unfold putA; rw [if_neg c, if_pos c2]; exact ⟨rfl, by decide⟩
    · exact .inl ⟨put_blk n b c (by omega), c, by omega⟩
theorem SealTorn (n o : Int) (b b2 : List Int) (p : Int) (h0 : 0 ≤ n) (h1 : n < 18446744073709551616) (g0 : 0 ≤ o) (g1 : o < 18446744073709551616) (hb : Bytes b) (hb2 : Bytes b2) : ∃ k, tornAll k n o b b2 p := by
  obtain ⟨K1, e1⟩ := put_ev n b h0 h1 hb
  obtain ⟨K2, e2⟩ := put_ev o b2 g0 g1 hb2
  have l1 := putA_len n b
  have l2 := putA_len o b2
  rcases putA_cases n b with ⟨c1, c2, c3⟩ | ⟨c1, c2⟩
  · rw [c1] at e1 l1
    have bx := bytes_blk n b hb
    have gx := get_blk n b (by omega) h1 c3
    have v1 := blk_front n b h0 h1
    have v2 := blk_end n b h0 h1 c3
    rcases putA_cases o b2 with ⟨d1, d2, d3⟩ | ⟨d1, d2⟩
    · rw [d1] at e2 l2
      by_cases ho : o = n
      · exact ⟨K1 + K2, blkOf n b, 0, blkOf o b2, 0, l1, l2, e1 _ (by omega), e2 _ (by omega), .inr (.inl ⟨rfl, rfl, ho⟩)⟩
      · obtain ⟨K, h⟩ := five (fun k i => tornOk k n o (blkOf n b) (blkOf o b2) (pk p i)) fun i _ => torn_ev (blkOf n b) (blkOf o b2) n o bx l1 (bytes_blk o b2 hb2) l2 _ gx (fun _ => by rw [get_blk o b2 (by omega) g1 d3])
          n.toNat o.toNat v1 v2 (blk_front o b2 g0 g1) (blk_end o b2 g0 g1 d3) (by omega) (pk p i)
        exact ⟨K + K1 + K2, blkOf n b, 0, blkOf o b2, 0, l1, l2, e1 _ (by omega), e2 _ (by omega), .inr (.inr (.inl ⟨rfl, rfl, ho, h _ (by omega)⟩))⟩
    · have hz : getA zero64 = (0, [], 5) := by decide +kernel
      obtain ⟨K, h⟩ := five (fun k i => tornOk k n o (blkOf n b) zero64 (pk p i)) fun i _ => torn_ev (blkOf n b) zero64 n o bx l1 (bytes_zero 64) rfl _ gx (fun h => by rw [hz] at h; exact absurd h (by decide))
        n.toNat 0 v1 v2 (by decide +kernel) (by decide +kernel) (by omega) (pk p i)
      rcases hp : putA o b2 with ⟨y, r⟩
      rw [hp] at e2 d1 d2 l2
      exact ⟨K + K1 + K2, blkOf n b, 0, y, r, l1, l2, e1 _ (by omega), e2 _ (by omega), .inr (.inr (.inr ⟨rfl, d2, h _ (by omega)⟩))⟩
  · rcases hq : putA n b with ⟨x, s⟩
    rw [hq] at e1 c1 c2 l1
    rcases hp : putA o b2 with ⟨y, r⟩
    rw [hp] at e2 l2
    exact ⟨K1 + K2, x, s, y, r, l1, l2, e1 _ (by omega), e2 _ (by omega), .inl c2⟩
end Go.Proofs.Ythgbipgfplokeaa.Pure
