/- The plain laws of seal: what a sealed block tells, and one with a byte changed. No condition. -/
import Derived.Test.YthgbipgfplokeaaPure2
import Derived.Test.YthgbipgfplokeaaS15
namespace Go.Proofs.Ythgbipgfplokeaa.Pure
open Go.RowKit Go.Proofs.Ythgbipgfplokeaa.GA Go.Proofs.YthgbipgfplokeaaW.PrintWords Go.Proofs.YthgbipgfplokeaaW.PrintLast
open Crc CrcM
set_option linter.unusedSimpArgs false
set_option linter.unusedVariables false
theorem nb_app1 (a z : List Int) (j : Nat) (h : j < a.length) : nb (a ++ z) j = nb a j := by unfold nb; rw [rd_app1 a z j h]
theorem nb_app2 (a z : List Int) (j : Nat) : nb (a ++ z) (a.length + j) = nb z j := by unfold nb; rw [rd_app2 a z _ (by omega), show a.length + j - a.length = j by omega]
theorem nb_lit (a : Int) (l : List Int) : nb (a :: l) 0 = a.toNat := rfl
theorem nb_suc (a : Int) (l : List Int) (j : Nat) : nb (a :: l) (j + 1) = nb l j := by
  unfold nb rd
  rw [Int.toNat_natCast, Int.toNat_natCast]
  rfl
theorem val8 (n : Int) (h0 : 0 ≤ n) (h1 : n < 18446744073709551616) : val (bytesOf8 n) 0 8 = n.toNat := by
  obtain ⟨m, rfl⟩ := Int.eq_ofNat_of_zero_le h0
  have e0 : nb (bytesOf8 (m : Int)) 0 = m % 256 := (show nb (bytesOf8 (m : Int)) 0 = ((m : Int) % 256).toNat from rfl).trans (by omega)
  have e1 : nb (bytesOf8 (m : Int)) 1 = m / 256 % 256 := (show nb (bytesOf8 (m : Int)) 1 = ((m : Int) / 256 % 256).toNat from rfl).trans (by omega)
  have e2 : nb (bytesOf8 (m : Int)) 2 = m / 65536 % 256 := (show nb (bytesOf8 (m : Int)) 2 = ((m : Int) / 65536 % 256).toNat from rfl).trans (by omega)
  have e3 : nb (bytesOf8 (m : Int)) 3 = m / 16777216 % 256 := (show nb (bytesOf8 (m : Int)) 3 = ((m : Int) / 16777216 % 256).toNat from rfl).trans (by omega)
  have e4 : nb (bytesOf8 (m : Int)) 4 = m / 4294967296 % 256 := (show nb (bytesOf8 (m : Int)) 4 = ((m : Int) / 4294967296 % 256).toNat from rfl).trans (by omega)
  have e5 : nb (bytesOf8 (m : Int)) 5 = m / 1099511627776 % 256 := (show nb (bytesOf8 (m : Int)) 5 = ((m : Int) / 1099511627776 % 256).toNat from rfl).trans (by omega)
  have e6 : nb (bytesOf8 (m : Int)) 6 = m / 281474976710656 % 256 := (show nb (bytesOf8 (m : Int)) 6 = ((m : Int) / 281474976710656 % 256).toNat from rfl).trans (by omega)
  have e7 : nb (bytesOf8 (m : Int)) 7 = m / 72057594037927936 % 256 := (show nb (bytesOf8 (m : Int)) 7 = ((m : Int) / 72057594037927936 % 256).toNat from rfl).trans (by omega)
  have p : m < 18446744073709551616 := by omega
  simp only [val, Nat.zero_add, Int.toNat_natCast, e0, e1, e2, e3, e4, e5, e6, e7, show (256 : Nat) ^ 0 = 1 from rfl, show (256 : Nat) ^ 1 = 256 from rfl, show (256 : Nat) ^ 2 = 65536 from rfl, show (256 : Nat) ^ 3 = 16777216 from rfl, show (256 : Nat) ^ 4 = 4294967296 from rfl, show (256 : Nat) ^ 5 = 1099511627776 from rfl, show (256 : Nat) ^ 6 = 281474976710656 from rfl, show (256 : Nat) ^ 7 = 72057594037927936 from rfl]
  clear h0 h1 e0 e1 e2 e3 e4 e5 e6 e7
  have d2 : m / 65536 = m / 256 / 256 := by omega
  have d3 : m / 16777216 = m / 65536 / 256 := by omega
  have d4 : m / 4294967296 = m / 16777216 / 256 := by omega
  have d5 : m / 1099511627776 = m / 4294967296 / 256 := by omega
  have d6 : m / 281474976710656 = m / 1099511627776 / 256 := by omega
  have d7 : m / 72057594037927936 = m / 281474976710656 / 256 := by omega
  omega
theorem val4 (n : Int) (h0 : 0 ≤ n) (h1 : n < 4294967296) : val (bytesOf4 n) 0 4 = n.toNat := by
  obtain ⟨m, rfl⟩ := Int.eq_ofNat_of_zero_le h0
  have e0 : nb (bytesOf4 (m : Int)) 0 = m % 256 := (show nb (bytesOf4 (m : Int)) 0 = ((m : Int) % 256).toNat from rfl).trans (by omega)
  have e1 : nb (bytesOf4 (m : Int)) 1 = m / 256 % 256 := (show nb (bytesOf4 (m : Int)) 1 = ((m : Int) / 256 % 256).toNat from rfl).trans (by omega)
  have e2 : nb (bytesOf4 (m : Int)) 2 = m / 65536 % 256 := (show nb (bytesOf4 (m : Int)) 2 = ((m : Int) / 65536 % 256).toNat from rfl).trans (by omega)
  have e3 : nb (bytesOf4 (m : Int)) 3 = m / 16777216 % 256 := (show nb (bytesOf4 (m : Int)) 3 = ((m : Int) / 16777216 % 256).toNat from rfl).trans (by omega)
  have p : m < 4294967296 := by omega
  simp only [val, Nat.zero_add, Int.toNat_natCast, e0, e1, e2, e3, show (256 : Nat) ^ 0 = 1 from rfl, show (256 : Nat) ^ 1 = 256 from rfl, show (256 : Nat) ^ 2 = 65536 from rfl, show (256 : Nat) ^ 3 = 16777216 from rfl]
  clear h0 h1 e0 e1 e2 e3
  have d2 : m / 65536 = m / 256 / 256 := by omega
  have d3 : m / 16777216 = m / 65536 / 256 := by omega
  omega
theorem val_mid (a m z : List Int) (i : Nat) (h : i ≤ m.length) : val (a ++ (m ++ z)) a.length i = val m 0 i := val_congr _ _ _ _ i fun j hj => by
  rw [nb_app2, nb_app1 m z j (by omega), Nat.zero_add]
/-- what a sealed block is -/
def blkOf (n : Int) (b : List Int) : List Int := bytesOf4 (sumOf (sealZ n b)) ++ sealZ n b
theorem blk_drop (n : Int) (b : List Int) : (blkOf n b).drop 4 = sealZ n b := rfl
theorem blk_len (n : Int) (b : List Int) (h : b.length ≤ 44) : (blkOf n b).length = 64 := len_x4 n _ b h
theorem bytes4 (n : Int) : Bytes (bytesOf4 n) := by
  intro x hx
  simp only [bytesOf4, List.mem_cons, List.not_mem_nil, or_false] at hx
  omega
theorem bytes_blk (n : Int) (b : List Int) (hb : Bytes b) : Bytes (blkOf n b) := bytes_append (bytes4 _) (bytesZ n b hb)
theorem put_blk (n : Int) (b : List Int) (h0 : n ≠ 0) (h1 : b.length ≤ 44) : putA n b = (blkOf n b, 0) := by
  unfold putA blkOf
  rw [if_neg h0, if_neg (by omega)]
theorem blk_sum (n : Int) (b : List Int) : val (blkOf n b) 0 4 = (sumOf (sealZ n b)).toNat := by
  have hs := sumOf_range (sealZ n b)
  have := val_mid [] (bytesOf4 (sumOf (sealZ n b))) (sealZ n b) 4 (Nat.le_refl 4)
  exact this.trans (val4 _ hs.1 hs.2)
theorem blk_front (n : Int) (b : List Int) (h0 : 0 ≤ n) (h1 : n < 18446744073709551616) : val (blkOf n b) 4 8 = n.toNat :=
  (val_mid (bytesOf4 (sumOf (sealZ n b))) (bytesOf8 n) (b ++ (List.replicate (44 - b.length) 0 ++ bytesOf8 n)) 8 (Nat.le_refl 8)).trans (val8 n h0 h1)
theorem blk_end (n : Int) (b : List Int) (h0 : 0 ≤ n) (h1 : n < 18446744073709551616) (hb : b.length ≤ 44) : val (blkOf n b) 56 8 = n.toNat := by
  have e : blkOf n b = (bytesOf4 (sumOf (sealZ n b)) ++ bytesOf8 n ++ b ++ List.replicate (44 - b.length) 0) ++ (bytesOf8 n ++ []) := by
    unfold blkOf sealZ
    simp only [List.append_assoc, List.append_nil]
  have hl : (bytesOf4 (sumOf (sealZ n b)) ++ bytesOf8 n ++ b ++ List.replicate (44 - b.length) 0).length = 56 := by
    simp only [List.length_append, List.length_replicate, bytesOf4, bytesOf8, List.length_cons, List.length_nil]
    omega
  have := val_mid (bytesOf4 (sumOf (sealZ n b)) ++ bytesOf8 n ++ b ++ List.replicate (44 - b.length) 0) (bytesOf8 n) [] 8 (Nat.le_refl 8)
  rw [← e, hl] at this
  exact this.trans (val8 n h0 h1)
theorem blk_body (n : Int) (b : List Int) (hb : b.length ≤ 44) : ((blkOf n b).drop 12).take 44 = b ++ List.replicate (44 - b.length) 0 := by
  have e : (blkOf n b).drop 12 = (b ++ List.replicate (44 - b.length) 0) ++ bytesOf8 n := by rw [List.append_assoc]; rfl
  have hl : (b ++ List.replicate (44 - b.length) (0 : Int)).length = 44 := by rw [List.length_append, List.length_replicate]; omega
  rw [e]
  exact List.take_left' hl
theorem get_blk (n : Int) (b : List Int) (h0 : 0 < n) (h1 : n < 18446744073709551616) (hb : b.length ≤ 44) : getA (blkOf n b) = (n, b ++ List.replicate (44 - b.length) 0, 0) := by
  have hs := sumOf_range (sealZ n b)
  unfold getA
  rw [blk_front n b (by omega) h1, blk_end n b (by omega) h1 hb, blk_sum, blk_drop, blk_body n b hb, if_neg (by omega), if_pos (by omega)]
  rw [show ((n.toNat : Nat) : Int) = n by omega]
theorem rd_set_other (l : List Int) (k j : Nat) (v : Int) (h : k ≠ j) : rd (l.set k v) j = rd l j := by
  unfold rd
  rw [Int.toNat_natCast, List.getD_eq_getElem?_getD, List.getD_eq_getElem?_getD, List.getElem?_set_ne h]
theorem rd_set_self (l : List Int) (k : Nat) (v : Int) (h : k < l.length) : rd (l.set k v) k = v := by
  unfold rd
  rw [Int.toNat_natCast, List.getD_eq_getElem?_getD, List.getElem?_set_self h]
  rfl
theorem set_same (l : List Int) (k : Nat) (h : k < l.length) : l.set k (rd l k) = l := by
  unfold rd
  rw [Int.toNat_natCast, List.getD_eq_getElem?_getD, List.getElem?_eq_getElem h]
  exact List.set_getElem_self h
theorem bytes_set (l : List Int) (hb : Bytes l) (k : Nat) (v : Int) (h0 : 0 ≤ v) (h1 : v < 256) : Bytes (l.set k v) := by
  intro x hx
  rcases List.mem_or_eq_of_mem_set hx with h | rfl
  · exact hb x h
  · exact ⟨h0, h1⟩
theorem nats_lt (l : List Int) (hb : Bytes l) : ∀ c ∈ nats l, c < 256 := by
  intro c hc
  obtain ⟨x, hx, rfl⟩ := List.mem_map.1 hc
  have := hb x hx
  omega
/-- a changed byte changes the sum -/
theorem sum_set (Z : List Int) (hb : Bytes Z) (j : Nat) (v : Int) (h0 : 0 ≤ v) (h1 : v < 256) (hj : j < Z.length) (h : sumOf (Z.set j v) = sumOf Z) : v = rd Z j := by
  have e1 : Z.set j v = Z.take j ++ ([v] ++ Z.drop (j + 1)) := List.set_eq_take_append_cons_drop.trans (by rw [if_pos hj]; rfl)
  have e2 : Z = Z.take j ++ ([rd Z j] ++ Z.drop (j + 1)) := by
    have := (List.set_eq_take_append_cons_drop (l := Z) (i := j) (a := rd Z j)).trans (by rw [if_pos hj])
    rw [set_same Z j hj] at this
    exact this
  have hr := rd_range Z hb j
  unfold sumOf at h
  have h' : more r0 (nats (Z.set j v)) = more r0 (nats Z) := BitVec.eq_of_toNat_eq (by omega)
  rw [e1] at h'
  have h2 : more r0 (nats (Z.take j) ++ (nats [v] ++ nats (Z.drop (j + 1)))) = more r0 (nats (Z.take j) ++ (nats [rd Z j] ++ nats (Z.drop (j + 1)))) := by
    have e3 : ∀ u : Int, nats (Z.take j) ++ (nats [u] ++ nats (Z.drop (j + 1))) = nats (Z.take j ++ ([u] ++ Z.drop (j + 1))) := fun u => by unfold nats; rw [List.map_append, List.map_append]
    rw [e3, e3, ← e2]
    exact h'
  have h3 := (mid_inj r0 _ (nats [v]) (nats [rd Z j]) _ rfl (show 1 ≤ 4 by decide) (nats_lt _ (fun x hx => by rw [List.mem_singleton.1 hx]; exact ⟨h0, h1⟩)) (nats_lt _ (fun x hx => by rw [List.mem_singleton.1 hx]; exact hr))).1 h2
  have h4 : v.toNat = (rd Z j).toNat := (List.cons.inj h3).1
  omega
/-- a block of which one byte is another one is refused -/
theorem get_set (x : List Int) (hx : Bytes x) (hl : x.length = 64) (hg : (getA x).2.2 = 0) (k : Nat) (hk : k < 64) (v : Int) (h0 : 0 ≤ v) (h1 : v < 256) : (getA (x.set k v)).2.2 = 0 ↔ v = rd x k := by
  constructor
  · intro h
    have ok : ∀ y : List Int, (getA y).2.2 = 0 → (val y 0 4 : Int) = sumOf (y.drop 4) := by
      intro y hy
      unfold getA at hy
      split at hy
      · exact absurd hy (by decide)
      · split at hy
        · assumption
        · exact absurd hy (by decide)
    have g1 := ok _ hg
    have g2 := ok _ h
    have hbs := bytes_set x hx k v h0 h1
    by_cases c : k < 4
    · have e : (x.set k v).drop 4 = x.drop 4 := List.drop_set_of_lt c
      rw [e, ← g1] at g2
      have h3 := val_inj _ _ hbs hx 0 0 4 (by omega) k c
      rw [Nat.zero_add] at h3
      unfold nb at h3
      rw [rd_set_self x k v (by omega)] at h3
      have := rd_range x hx k
      omega
    · have e : (x.set k v).drop 4 = (x.drop 4).set (k - 4) v := by rw [List.drop_set, if_neg (by omega)]
      have e4 : val (x.set k v) 0 4 = val x 0 4 := val_congr _ _ _ _ 4 fun j hj => by
        unfold nb
        rw [Nat.zero_add, rd_set_other x k j v (by omega)]
      rw [e, e4, g1] at g2
      have h3 := sum_set (x.drop 4) (bytes_drop x hx 4) (k - 4) v h0 h1 (by rw [List.length_drop]; omega) g2.symm
      rw [h3]
      unfold rd
      rw [Int.toNat_natCast, Int.toNat_natCast, List.getD_eq_getElem?_getD, List.getD_eq_getElem?_getD, List.getElem?_drop, show 4 + (k - 4) = k by omega]
  · rintro rfl
    rw [set_same x k (by omega)]
    exact hg
theorem SealBack (n : Int) (b : List Int) (at_ bY : Int) (h0 : 0 ≤ n) (h1 : n < 18446744073709551616) (hb : Bytes b) (ha0 : 0 ≤ at_) (ha1 : at_ < 256) (hy0 : 0 ≤ bY) (hy1 : bY < 256) : ∃ k, backOk k n b at_ bY := by
  by_cases c : n = 0 ∨ 44 < b.length
  · exact ⟨0, .inl c⟩
  · have n0 : 0 < n := by omega
    have hl : b.length ≤ 44 := by omega
    have lx := blk_len n b hl
    have bx := bytes_blk n b hb
    have e1 := put_ev n b h0 h1 hb
    have e2 := get_ev _ bx lx
    rw [put_blk n b (by omega) hl] at e1
    have hg0 : (getA (blkOf n b)).2.2 = 0 := by rw [get_blk n b n0 h1 hl]
    rw [get_blk n b n0 h1 hl] at e2
    have e3 := refget_ev _ bx lx 0 4 (.inl rfl) (by decide)
    have e4 := refof_ev _ (bytes_drop _ bx 4) (by rw [List.length_drop, lx]; decide)
    have hs := sumOf_range (sealZ n b)
    obtain ⟨kk, hk⟩ : ∃ kk : Nat, (kk : Int) = at_ % 64 := ⟨(at_ % 64).toNat, by omega⟩
    have hk' : (kk : Int) = Int.tmod at_ 64 := by rw [Int.tmod_eq_emod_of_nonneg ha0]; exact hk
    have k64 : kk < 64 := by omega
    have hr := rd_range _ bx kk
    obtain ⟨v, hv⟩ : ∃ v, v = Go.bits .xor .u8 (rd (blkOf n b) kk) bY := ⟨_, rfl⟩
    obtain ⟨p, hp⟩ := Int.eq_ofNat_of_zero_le hr.1
    obtain ⟨q, hq⟩ := Int.eq_ofNat_of_zero_le hy0
    have hx : Go.bits .xor .u8 (rd (blkOf n b) kk) bY = ((p ^^^ q : Nat) : Int) := by rw [hp, hq]; exact u8_xor_nat p q (by omega) (by omega)
    rw [hx] at hv
    have hlt : p ^^^ q < 256 := Nat.xor_lt_two_pow (n := 8) (by omega) (by omega)
    have e5 := get_ev _ (bytes_set _ bx kk v (by omega) (by omega)) (by rw [List.length_set]; exact lx)
    have h5 := get_set _ bx lx hg0 kk k64 v (by omega) (by omega)
    rcases hg : getA ((blkOf n b).set kk v) with ⟨n2, l2, r2⟩
    rw [hg] at e5 h5
    obtain ⟨K1, e1⟩ := e1
    obtain ⟨K2, e2⟩ := e2
    obtain ⟨K3, e3⟩ := e3
    obtain ⟨K4, e4⟩ := e4
    obtain ⟨K5, e5⟩ := e5
    have hs4 : (val (blkOf n b) 0 4 : Int) % 4294967296 = sumOf (sealZ n b) := by rw [blk_sum]; omega
    refine ⟨K1 + K2 + K3 + K4 + K5, .inr ⟨blkOf n b, b ++ List.replicate (44 - b.length) 0, (val (blkOf n b) 0 4 : Int), v, n2, l2, r2, kk, n0, hl, e1 _ (by omega), lx, e2 _ (by omega), ?_, e3 _ (by omega), ?_, ?_, hk', k64, hv.trans hx.symm, e5 _ (by omega), ?_⟩⟩
    · rw [List.length_append, List.length_replicate]; omega
    · rw [hs4]; exact e4 _ (by omega)
    · intro i hi
      by_cases c2 : i < b.length
      · rw [if_pos c2, rd_app1 _ _ _ c2]
      · rw [if_neg c2, rd_app2 _ _ _ (by omega)]
        unfold rd
        rw [Int.toNat_natCast, List.getD_eq_getElem?_getD, List.getElem?_replicate, if_pos (by omega)]
        rfl
    · rw [h5, hp, hv]
      constructor
      · intro h
        have h6 : p ^^^ q = p := by omega
        have h7 : q = 0 := by
          have := congrArg (p ^^^ ·) h6
          simpa [← Nat.xor_assoc] using this
        omega
      · intro h
        have : q = 0 := by omega
        rw [this, Nat.xor_zero]
end Go.Proofs.Ythgbipgfplokeaa.Pure
