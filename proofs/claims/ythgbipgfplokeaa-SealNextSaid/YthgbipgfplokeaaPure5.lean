/- The plain laws of seal: a torn write where the next one belongs. No condition. -/
import Derived.Test.YthgbipgfplokeaaPure4
import Derived.Test.YthgbipgfplokeaaS19
namespace Go.Proofs.Ythgbipgfplokeaa.Pure
open Go.RowKit Go.Proofs.Ythgbipgfplokeaa.GA Go.Proofs.YthgbipgfplokeaaW.PrintWords Go.Proofs.YthgbipgfplokeaaW.PrintLast
open Crc CrcM
set_option linter.unusedSimpArgs false
set_option linter.unusedVariables false
theorem next_ev2 (x y : List Int) (hx : Bytes x) (lx : x.length = 64) (hy : Bytes y) (ly : y.length = 64) (h0 : (newA x y).2 = 0) : Ev (fun k => seal_Next.f k x y) (wrap64 (1 - (newA x y).1)) := by
  unfold seal_Next.f
  refine Ev.bind (new_ev x y hx lx hy ly) ?_
  simp only [if_pos h0]
  exact Ev.now _
theorem wrapU (x : Int) (h0 : 0 ≤ x) (h1 : x < 18446744073709551616) : IntKind.u64.wrap x = x := by
  obtain ⟨m, rfl⟩ := Int.eq_ofNat_of_zero_le h0
  exact wrap_u64 m (by omega)
theorem new_ok (x y : List Int) (n m : Int) (l r : List Int) (hx : getA x = (n, l, 0)) (hy : getA y = (m, r, 0)) : newA x y = if m > n then (1, 0) else (0, 0) := by
  unfold newA
  rw [hx, hy]
  by_cases c : m > n
  · rw [if_neg (fun h => h.1 rfl), if_pos (show (0 : Int) = 0 ∧ ((0 : Int) ≠ 0 ∨ m > n) from ⟨rfl, .inr c⟩), if_pos c]
  · rw [if_neg (fun h => h.1 rfl), if_neg (show ¬ ((0 : Int) = 0 ∧ ((0 : Int) ≠ 0 ∨ m > n)) from fun h => h.2.elim (fun h => h rfl) c), if_neg c]
theorem new_left (x y : List Int) (m : Int) (r : List Int) (hx : getA x = (0, [], 5)) (hy : getA y = (m, r, 0)) : newA x y = (1, 0) := by
  unfold newA
  rw [hx, hy]
  rw [if_neg (fun h => h.2 rfl), if_pos (show (0 : Int) = 0 ∧ ((5 : Int) ≠ 0 ∨ m > 0) from ⟨rfl, .inl (by decide)⟩)]
theorem new_right (x y : List Int) (n : Int) (l : List Int) (hx : getA x = (n, l, 0)) (hy : getA y = (0, [], 5)) : newA x y = (0, 0) := by
  unfold newA
  rw [hx, hy]
  rw [if_neg (fun h => h.1 rfl), if_neg (show ¬ ((5 : Int) = 0 ∧ ((0 : Int) ≠ 0 ∨ 0 > n)) from fun h => absurd h.1 (by decide))]
theorem SealNext (n m : Int) (a b c : List Int) (p : Int) (h0 : 0 ≤ n) (h1 : n < 18446744073709551616) (g0 : 0 ≤ m) (g1 : m < 18446744073709551616) (ha : Bytes a) (hb : Bytes b) (hc : Bytes c) : ∃ k, nextAll k n m a b c p := by
  obtain ⟨N, hN⟩ : ∃ N, N = n % 1152921504606846976 + 1 := ⟨_, rfl⟩
  obtain ⟨M, hM⟩ : ∃ M, M = m % 1152921504606846976 + 1 := ⟨_, rfl⟩
  obtain ⟨T, hT⟩ : ∃ T, T = max N M + 1 := ⟨_, rfl⟩
  have eN : IntKind.u64.wrap (Int.tmod n 1152921504606846976 + 1) = N := by rw [Int.tmod_eq_emod_of_nonneg h0, ← hN]; exact wrapU N (by omega) (by omega)
  have eM : IntKind.u64.wrap (Int.tmod m 1152921504606846976 + 1) = M := by rw [Int.tmod_eq_emod_of_nonneg g0, ← hM]; exact wrapU M (by omega) (by omega)
  have n0 : 0 < N ∧ N ≤ 1152921504606846976 := by omega
  have m0 : 0 < M ∧ M ≤ 1152921504606846976 := by omega
  clear hN hM
  have tN : N < T := by have := Int.le_max_left N M; omega
  have tM : M < T := by have := Int.le_max_right N M; omega
  have t1 : T ≤ 1152921504606846977 := by have := Int.max_le.2 ⟨n0.2, m0.2⟩; omega
  have eT : IntKind.u64.wrap (max N M + 1) = T := by rw [← hT]; exact wrapU T (by omega) (by omega)
  clear hT
  obtain ⟨K1, e1⟩ := put_ev N a (by omega) (by omega) ha
  obtain ⟨K2, e2⟩ := put_ev M b (by omega) (by omega) hb
  obtain ⟨K3, e3⟩ := put_ev T c (by omega) (by omega) hc
  have l1 := putA_len N a
  have l2 := putA_len M b
  have l3 := putA_len T c
  have q1 := putA_cases N a
  have q2 := putA_cases M b
  have q3 := putA_cases T c
  have same : ∀ r : (N = M ∨ (N ≠ M ∧ (putA N a).2 ≠ 0) ∨ (N ≠ M ∧ (putA N a).2 = 0 ∧ (putA M b).2 ≠ 0) ∨ (N ≠ M ∧ (putA N a).2 = 0 ∧ (putA M b).2 = 0 ∧ (putA T c).2 ≠ 0)), ∃ k, nextAll k n m a b c p := by
    intro r
    rcases hp1 : putA N a with ⟨X0, r1⟩
    rcases hp2 : putA M b with ⟨X1, r2⟩
    rcases hp3 : putA T c with ⟨X2, r3⟩
    rw [hp1] at e1 l1 r
    rw [hp2] at e2 l2 r
    rw [hp3] at e3 l3 r
    refine ⟨K1 + K2 + K3, N, M, T, X0, r1, X1, r2, X2, r3, eN, eM, eT, l1, l2, l3, e1 _ (by omega), e2 _ (by omega), e3 _ (by omega), ?_⟩
    rcases r with r | r | r | r
    · exact .inl r
    · exact .inr (.inl r)
    · exact .inr (.inr (.inl r))
    · exact .inr (.inr (.inr (.inl r)))
  by_cases hNM : N = M
  · exact same (.inl hNM)
  rcases q1 with ⟨a1, a2, a3⟩ | ⟨a1, a2⟩
  case inr => exact same (.inr (.inl ⟨hNM, a2⟩))
  rcases q2 with ⟨b1, b2, b3⟩ | ⟨b1, b2⟩
  case inr => exact same (.inr (.inr (.inl ⟨hNM, by rw [a1], b2⟩)))
  rcases q3 with ⟨c1, c2, c3⟩ | ⟨c1, c2⟩
  case inr => exact same (.inr (.inr (.inr ⟨hNM, by rw [a1], by rw [b1], c2⟩)))
  clear same
  rw [a1] at e1 l1
  rw [b1] at e2 l2
  rw [c1] at e3 l3
  have bx0 := bytes_blk N a ha
  have bx1 := bytes_blk M b hb
  have bx2 := bytes_blk T c hc
  have gx0 := get_blk N a n0.1 (by omega) a3
  have gx1 := get_blk M b m0.1 (by omega) b3
  have gx2 := get_blk T c (by omega) (by omega) c3
  have hn := new_ok _ _ _ _ _ _ gx0 gx1
  have ne0 : blkOf N a ≠ blkOf T c := fun h => by rw [h, gx2] at gx0; have := congrArg Prod.fst gx0; simp only at this; omega
  have ne1 : blkOf M b ≠ blkOf T c := fun h => by rw [h, gx2] at gx1; have := congrArg Prod.fst gx1; simp only at this; omega
  by_cases hlt : N < M
  · rw [if_pos (show M > N from hlt)] at hn
    obtain ⟨K4, e4⟩ := next_ev2 _ _ bx0 l1 bx1 l2 (by rw [hn])
    rw [hn] at e4
    have e4' : ∀ k, K4 ≤ k → seal_Next.f k (blkOf N a) (blkOf M b) = some 0 := fun k hk => (e4 k hk).trans (congrArg some (by show wrap64 _ = _; rw [wi64 _ (by decide) (by decide)]; rfl))
    have ht := get_torn (blkOf T c) (blkOf N a) T.toNat N.toNat (blk_front T c (by omega) (by omega)) (blk_end T c (by omega) (by omega) c3) (blk_front N a (by omega) (by omega)) (blk_end N a (by omega) (by omega) a3) (by omega) p
    obtain ⟨K5, e5⟩ := new_ev (tornL (blkOf N a) (blkOf T c) p) (blkOf M b) (bytes_torn _ _ bx0 bx2 p) (tornL_len _ _ l1 l3 p) bx1 l2
    have hw : ∃ wh, newA (tornL (blkOf N a) (blkOf T c) p) (blkOf M b) = (wh, 0) ∧ (wh = 0 ↔ tornL (blkOf N a) (blkOf T c) p = blkOf T c) := by
      rcases ht with ht | ht | ht
      · rw [ht]
        exact ⟨1, hn, ⟨fun h => absurd h (by decide), fun h => absurd h ne0⟩⟩
      · rw [ht]
        refine ⟨0, ?_, ⟨fun _ => rfl, fun _ => rfl⟩⟩
        rw [new_ok _ _ _ _ _ _ gx2 gx1, if_neg (by omega)]
      · refine ⟨1, new_left _ _ _ _ ht gx1, ⟨fun h => absurd h (by decide), fun h => ?_⟩⟩
        rw [h, gx2] at ht
        have := congrArg (fun q => q.2.2) ht
        exact absurd (show (0 : Int) = 5 from this) (by decide)
    obtain ⟨wh, w1, w2⟩ := hw
    rw [w1] at e5
    exact ⟨K1 + K2 + K3 + K4 + K5, N, M, T, blkOf N a, 0, blkOf M b, 0, blkOf T c, 0, eN, eM, eT, l1, l2, l3, e1 _ (by omega), e2 _ (by omega), e3 _ (by omega), .inr (.inr (.inr (.inr (.inl ⟨hNM, rfl, rfl, rfl, hlt, e4' _ (by omega), wh, e5 _ (by omega), w2⟩))))⟩
  · rw [if_neg (show ¬ M > N from hlt)] at hn
    obtain ⟨K4, e4⟩ := next_ev2 _ _ bx0 l1 bx1 l2 (by rw [hn])
    rw [hn] at e4
    have e4' : ∀ k, K4 ≤ k → seal_Next.f k (blkOf N a) (blkOf M b) = some 1 := fun k hk => (e4 k hk).trans (congrArg some (by show wrap64 _ = _; rw [wi64 _ (by decide) (by decide)]; rfl))
    have ht := get_torn (blkOf T c) (blkOf M b) T.toNat M.toNat (blk_front T c (by omega) (by omega)) (blk_end T c (by omega) (by omega) c3) (blk_front M b (by omega) (by omega)) (blk_end M b (by omega) (by omega) b3) (by omega) p
    obtain ⟨K5, e5⟩ := new_ev (blkOf N a) (tornL (blkOf M b) (blkOf T c) p) bx0 l1 (bytes_torn _ _ bx1 bx2 p) (tornL_len _ _ l2 l3 p)
    have hw : ∃ wh, newA (blkOf N a) (tornL (blkOf M b) (blkOf T c) p) = (wh, 0) ∧ (wh = 1 ↔ tornL (blkOf M b) (blkOf T c) p = blkOf T c) := by
      rcases ht with ht | ht | ht
      · rw [ht]
        exact ⟨0, hn, ⟨fun h => absurd h (by decide), fun h => absurd h ne1⟩⟩
      · rw [ht]
        refine ⟨1, ?_, ⟨fun _ => rfl, fun _ => rfl⟩⟩
        rw [new_ok _ _ _ _ _ _ gx0 gx2, if_pos (by omega)]
      · refine ⟨0, new_right _ _ _ _ gx0 ht, ⟨fun h => absurd h (by decide), fun h => ?_⟩⟩
        rw [h, gx2] at ht
        have := congrArg (fun q => q.2.2) ht
        exact absurd (show (0 : Int) = 5 from this) (by decide)
    obtain ⟨wh, w1, w2⟩ := hw
    rw [w1] at e5
    exact ⟨K1 + K2 + K3 + K4 + K5, N, M, T, blkOf N a, 0, blkOf M b, 0, blkOf T c, 0, eN, eM, eT, l1, l2, l3, e1 _ (by omega), e2 _ (by omega), e3 _ (by omega), .inr (.inr (.inr (.inr (.inr ⟨hNM, rfl, rfl, rfl, by omega, e4' _ (by omega), wh, e5 _ (by omega), w2⟩))))⟩
end Go.Proofs.Ythgbipgfplokeaa.Pure
