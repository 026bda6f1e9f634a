/- The plain laws of seal: what is sealed. No condition. -/
import Derived.Test.YthgbipgfplokeaaPure0
import Derived.Test.YthgbipgfplokeaaS12
namespace Go.Proofs.Ythgbipgfplokeaa.Pure
open Go.RowKit Go.Proofs.Ythgbipgfplokeaa.GA Go.Proofs.YthgbipgfplokeaaW.PrintWords Go.Proofs.YthgbipgfplokeaaW.PrintLast
open Crc CrcM
set_option linter.unusedSimpArgs false
set_option linter.unusedVariables false
def lenTab : ByteArray := (⟨#[0, 1, 2, 2, 3, 3, 3, 3, 4, 4, 4, 4, 4, 4, 4, 4, 5, 5, 5, 5, 5, 5, 5, 5, 5, 5, 5, 5, 5, 5, 5, 5, 6, 6, 6, 6, 6, 6, 6, 6, 6, 6, 6, 6, 6, 6, 6, 6, 6, 6, 6, 6, 6, 6, 6, 6, 6, 6, 6, 6, 6, 6, 6, 6, 7, 7, 7, 7, 7, 7, 7, 7, 7, 7, 7, 7, 7, 7, 7, 7, 7, 7, 7, 7, 7, 7, 7, 7, 7, 7, 7, 7, 7, 7, 7, 7, 7, 7, 7, 7, 7, 7, 7, 7, 7, 7, 7, 7, 7, 7, 7, 7, 7, 7, 7, 7, 7, 7, 7, 7, 7, 7, 7, 7, 7, 7, 7, 7, 8, 8, 8, 8, 8, 8, 8, 8, 8, 8, 8, 8, 8, 8, 8, 8, 8, 8, 8, 8, 8, 8, 8, 8, 8, 8, 8, 8, 8, 8, 8, 8, 8, 8, 8, 8, 8, 8, 8, 8, 8, 8, 8, 8, 8, 8, 8, 8, 8, 8, 8, 8, 8, 8, 8, 8, 8, 8, 8, 8, 8, 8, 8, 8, 8, 8, 8, 8, 8, 8, 8, 8, 8, 8, 8, 8, 8, 8, 8, 8, 8, 8, 8, 8, 8, 8, 8, 8, 8, 8, 8, 8, 8, 8, 8, 8, 8, 8, 8, 8, 8, 8, 8, 8, 8, 8, 8, 8, 8, 8, 8, 8, 8, 8, 8, 8, 8, 8, 8, 8, 8, 8, 8, 8, 8, 8, 8, 8]⟩ : ByteArray)
set_option maxRecDepth 100000 in
theorem lenTab_all : ∀ i : Fin lenTab.size, (lenTab[i.1]'i.2).toNat ≤ 8 := by decide +kernel
theorem lenTab_le (x : Int) : 0 ≤ bt lenTab x ∧ bt lenTab x ≤ 8 := by
  refine ⟨(bt_range _ _).1, ?_⟩
  unfold bt
  split
  · rename_i h
    have := lenTab_all ⟨x.toNat, h⟩
    simp only at this
    omega
  · omega
set_option maxRecDepth 100000 in
theorem j0_le (x0 x2 : Int) (h0 : 0 ≤ x0) (h1 : x0 < 4294967296) (h2 : x2 = 0 ∨ x2 = 32) : ∃ L, L ≤ x2 + 32 ∧ ∀ k, bits_Len64.j0 (k + 1) x0 x2 = some L := by
  simp only [bits_Len64.j0]
  rw [show (⟨#[0, 1, 2, 2, 3, 3, 3, 3, 4, 4, 4, 4, 4, 4, 4, 4, 5, 5, 5, 5, 5, 5, 5, 5, 5, 5, 5, 5, 5, 5, 5, 5, 6, 6, 6, 6, 6, 6, 6, 6, 6, 6, 6, 6, 6, 6, 6, 6, 6, 6, 6, 6, 6, 6, 6, 6, 6, 6, 6, 6, 6, 6, 6, 6, 7, 7, 7, 7, 7, 7, 7, 7, 7, 7, 7, 7, 7, 7, 7, 7, 7, 7, 7, 7, 7, 7, 7, 7, 7, 7, 7, 7, 7, 7, 7, 7, 7, 7, 7, 7, 7, 7, 7, 7, 7, 7, 7, 7, 7, 7, 7, 7, 7, 7, 7, 7, 7, 7, 7, 7, 7, 7, 7, 7, 7, 7, 7, 7, 8, 8, 8, 8, 8, 8, 8, 8, 8, 8, 8, 8, 8, 8, 8, 8, 8, 8, 8, 8, 8, 8, 8, 8, 8, 8, 8, 8, 8, 8, 8, 8, 8, 8, 8, 8, 8, 8, 8, 8, 8, 8, 8, 8, 8, 8, 8, 8, 8, 8, 8, 8, 8, 8, 8, 8, 8, 8, 8, 8, 8, 8, 8, 8, 8, 8, 8, 8, 8, 8, 8, 8, 8, 8, 8, 8, 8, 8, 8, 8, 8, 8, 8, 8, 8, 8, 8, 8, 8, 8, 8, 8, 8, 8, 8, 8, 8, 8, 8, 8, 8, 8, 8, 8, 8, 8, 8, 8, 8, 8, 8, 8, 8, 8, 8, 8, 8, 8, 8, 8, 8, 8, 8, 8, 8, 8, 8, 8]⟩ : ByteArray) = lenTab from rfl]
  by_cases c1 : x0 ≥ 65536
  · by_cases c2 : x0 / 65536 ≥ 256
    · have hb := lenTab_le (x0 / 65536 / 256 % 256)
      refine ⟨wrap64 (wrap64 (wrap64 (x2 + 16) + 8) + wrap64 (bt lenTab (x0 / 65536 / 256 % 256))), ?_, fun k => by rw [if_pos c1, if_pos c2, if_pos (by omega), if_pos (by omega)]⟩
      unfold wrap64
      omega
    · have hb := lenTab_le (x0 / 65536 % 256)
      refine ⟨wrap64 (wrap64 (x2 + 16) + wrap64 (bt lenTab (x0 / 65536 % 256))), ?_, fun k => by rw [if_pos c1, if_neg c2, if_pos (by omega), if_pos (by omega)]⟩
      unfold wrap64
      omega
  · by_cases c2 : x0 ≥ 256
    · have hb := lenTab_le (x0 / 256 % 256)
      refine ⟨wrap64 (wrap64 (x2 + 8) + wrap64 (bt lenTab (x0 / 256 % 256))), ?_, fun k => by rw [if_neg c1, if_pos c2, if_pos (by omega), if_pos (by omega)]⟩
      unfold wrap64
      omega
    · have hb := lenTab_le (x0 % 256)
      refine ⟨wrap64 (x2 + wrap64 (bt lenTab (x0 % 256))), ?_, fun k => by rw [if_neg c1, if_neg c2, if_pos (by omega), if_pos (by omega)]⟩
      unfold wrap64
      omega
theorem len64_ev (n : Int) (h0 : 0 ≤ n) (h1 : n < 18446744073709551616) : ∃ L, L ≤ 64 ∧ (n < 4294967296 → L ≤ 32) ∧ Ev (fun k => bits_Len64.f k n) L := by
  unfold bits_Len64.f
  by_cases c : n ≥ 4294967296
  · obtain ⟨L, hL, h⟩ := j0_le (n / 4294967296) 32 (by omega) (by omega) (.inr rfl)
    refine ⟨L, hL, fun _ => by omega, ?_⟩
    simp only [if_pos c]
    exact Ev.step h (Ev.now _)
  · obtain ⟨L, hL, h⟩ := j0_le n 0 (by omega) (by omega) (.inl rfl)
    refine ⟨L, by omega, fun _ => by omega, ?_⟩
    simp only [if_neg c]
    exact Ev.step h (Ev.now _)
theorem u64_wrap (x : Int) (h0 : 0 ≤ x) (h1 : x < 18446744073709551616) : IntKind.u64.wrap (Int.tdiv x 256) = x / 256 := by
  rw [Int.tdiv_eq_ediv_of_nonneg h0]
  have : IntKind.u64.wrap (x / 256) = (x / 256) % 18446744073709551616 := by
    simp [IntKind.wrap, IntKind.bits, IntKind.signed]
  rw [this]
  omega
theorem put_step (s x y : Int) (acc : List Int) (i j : Int) (r : List Int × Int) (h0 : 0 ≤ x) (h1 : x < 18446744073709551616) (hy : x / 256 = y) (hi : i < s) (hj : i + 1 = j) (hs : s ≤ 8) (h2 : 0 ≤ i) (ha : acc.length < 140737488355328)
    (h : Ev (fun k => cohortref01_Put.l0 k y s (acc ++ [x % 256]) j) r) : Ev (fun k => cohortref01_Put.l0 k x s acc i) r := by
  have e1 : Int.tmod x 256 % 256 = x % 256 := by rw [Int.tmod_eq_emod_of_nonneg h0]; omega
  have e2 : wrap64 (i + 1) = j := by rw [wi64 _ (by omega) (by omega), hj]
  exact Ev.step (fun k => by simp only [cohortref01_Put.l0]; rw [if_pos hi, if_pos ha, u64_wrap x h0 h1, hy, e1, e2]) h
theorem put_last (s : Int) (x : Int) (acc : List Int) (h : x ≤ 0) : Ev (fun k => cohortref01_Put.l0 k x s acc s) (acc, 0) :=
  Ev.step (fun k => by simp only [cohortref01_Put.l0]; rw [if_neg (by omega), if_neg (by omega)]) (Ev.now _)
theorem put8_ev (n : Int) (h0 : 0 ≤ n) (h1 : n < 18446744073709551616) : Ev (fun k => cohortref01_Put.f k n 8) (bytesOf8 n, 0) := by
  unfold cohortref01_Put.f
  show Ev (fun k => cohortref01_Put.l0 k n 8 [] 0) _
  refine put_step 8 n (n / 256) _ 0 1 _ (by omega) (by omega) (by omega) (by decide) (by decide) (by decide) (by decide) (by simp only [List.length_append, List.length_cons, List.length_nil]; omega) ?_
  refine put_step 8 (n / 256) (n / 65536) _ 1 2 _ (by omega) (by omega) (by omega) (by decide) (by decide) (by decide) (by decide) (by simp only [List.length_append, List.length_cons, List.length_nil]; omega) ?_
  refine put_step 8 (n / 65536) (n / 16777216) _ 2 3 _ (by omega) (by omega) (by omega) (by decide) (by decide) (by decide) (by decide) (by simp only [List.length_append, List.length_cons, List.length_nil]; omega) ?_
  refine put_step 8 (n / 16777216) (n / 4294967296) _ 3 4 _ (by omega) (by omega) (by omega) (by decide) (by decide) (by decide) (by decide) (by simp only [List.length_append, List.length_cons, List.length_nil]; omega) ?_
  refine put_step 8 (n / 4294967296) (n / 1099511627776) _ 4 5 _ (by omega) (by omega) (by omega) (by decide) (by decide) (by decide) (by decide) (by simp only [List.length_append, List.length_cons, List.length_nil]; omega) ?_
  refine put_step 8 (n / 1099511627776) (n / 281474976710656) _ 5 6 _ (by omega) (by omega) (by omega) (by decide) (by decide) (by decide) (by decide) (by simp only [List.length_append, List.length_cons, List.length_nil]; omega) ?_
  refine put_step 8 (n / 281474976710656) (n / 72057594037927936) _ 6 7 _ (by omega) (by omega) (by omega) (by decide) (by decide) (by decide) (by decide) (by simp only [List.length_append, List.length_cons, List.length_nil]; omega) ?_
  refine put_step 8 (n / 72057594037927936) (n / 18446744073709551616) _ 7 8 _ (by omega) (by omega) (by omega) (by decide) (by decide) (by decide) (by decide) (by simp only [List.length_append, List.length_cons, List.length_nil]; omega) ?_
  exact put_last 8 _ _ (by omega)
theorem put4_ev (n : Int) (h0 : 0 ≤ n) (h1 : n < 4294967296) : Ev (fun k => cohortref01_Put.f k n 4) (bytesOf4 n, 0) := by
  unfold cohortref01_Put.f
  show Ev (fun k => cohortref01_Put.l0 k n 4 [] 0) _
  refine put_step 4 n (n / 256) _ 0 1 _ (by omega) (by omega) (by omega) (by decide) (by decide) (by decide) (by decide) (by simp only [List.length_append, List.length_cons, List.length_nil]; omega) ?_
  refine put_step 4 (n / 256) (n / 65536) _ 1 2 _ (by omega) (by omega) (by omega) (by decide) (by decide) (by decide) (by decide) (by simp only [List.length_append, List.length_cons, List.length_nil]; omega) ?_
  refine put_step 4 (n / 65536) (n / 16777216) _ 2 3 _ (by omega) (by omega) (by omega) (by decide) (by decide) (by decide) (by decide) (by simp only [List.length_append, List.length_cons, List.length_nil]; omega) ?_
  refine put_step 4 (n / 16777216) (n / 4294967296) _ 3 4 _ (by omega) (by omega) (by omega) (by decide) (by decide) (by decide) (by decide) (by simp only [List.length_append, List.length_cons, List.length_nil]; omega) ?_
  exact put_last 4 _ _ (by omega)
theorem behind_ev (n : Int) (b : List Int) (h0 : 0 ≤ n) (h1 : n < 18446744073709551616) (hb : b.length ≤ 44) : Ev (fun k => cohortref07_behind.f k n b) (sealZ n b) := by
  unfold cohortref07_behind.f
  refine Ev.bind (put8_ev n h0 h1) ?_
  have l8 : (bytesOf8 n).length = 8 := rfl
  have ew : wrap64 (44 - (b.length : Int)) = ((44 - b.length : Nat) : Int) := by rw [wi64 _ (by omega) (by omega)]; omega
  simp only [List.nil_append, List.length_nil, l8, ew, Option.bind_some, Int.toNat_natCast]
  rw [if_pos (by omega), if_pos (by omega), if_pos (by omega), if_pos (by rw [List.length_append, l8]; omega), if_pos (by rw [List.length_append, List.length_append, List.length_replicate, l8]; omega)]
  have e : bytesOf8 n ++ b ++ List.replicate (44 - b.length) 0 ++ bytesOf8 n = sealZ n b := by simp only [sealZ, List.append_assoc]
  rw [e]
  exact Ev.now _
theorem bytes8 (n : Int) : Bytes (bytesOf8 n) := by
  intro x hx
  simp only [bytesOf8, List.mem_cons, List.not_mem_nil, or_false] at hx
  omega
theorem bytes_append {a b : List Int} (ha : Bytes a) (hb : Bytes b) : Bytes (a ++ b) := by
  intro x hx
  rcases List.mem_append.1 hx with h | h
  · exact ha x h
  · exact hb x h
theorem bytes_zero (m : Nat) : Bytes (List.replicate m 0) := by
  intro x hx
  have := (List.mem_replicate.1 hx).2
  omega
theorem bytesZ (n : Int) (b : List Int) (hb : Bytes b) : Bytes (sealZ n b) := bytes_append (bytes8 n) (bytes_append hb (bytes_append (bytes_zero _) (bytes8 n)))
/-- the sum of bytes -/
def sumOf (l : List Int) : Int := ((more r0 (nats l)).toNat : Int)
theorem sumOf_range (l : List Int) : 0 ≤ sumOf l ∧ sumOf l < 4294967296 := by
  have := (more r0 (nats l)).isLt
  unfold sumOf
  omega
/-- what Put answers -/
def putA (n : Int) (b : List Int) : List Int × Int := if n = 0 then (zero64, 2) else if 44 < b.length then (zero64, 3) else (bytesOf4 (sumOf (sealZ n b)) ++ sealZ n b, 0)
theorem put_ev (n : Int) (b : List Int) (h0 : 0 ≤ n) (h1 : n < 18446744073709551616) (hb : Bytes b) : Ev (fun k => seal_Put.f k n b) (putA n b) := by
  unfold seal_Put.f putA
  by_cases c0 : n = 0
  · simp only [if_pos c0]
    exact Ev.now _
  · simp only [if_neg c0]
    by_cases c1 : 44 < b.length
    · simp only [if_pos c1]
      exact Ev.now _
    · simp only [if_neg c1]
      obtain ⟨L1, hL1, _, e1⟩ := len64_ev n h0 h1
      refine Ev.bind e1 ?_
      have hr := sumOf_range (sealZ n b)
      refine Ev.bind (a := sumOf (sealZ n b)) (of_ev (sealZ n b) (bytesZ n b hb) (by rw [sealZ_len n b (by omega)]; decide)) ?_
      obtain ⟨L2, _, hL2, e2⟩ := len64_ev (sumOf (sealZ n b)) hr.1 (by omega)
      refine Ev.bind e2 ?_
      simp only [if_pos (show L1 ≤ 64 ∧ L2 ≤ 32 ∧ 0 ≤ sumOf (sealZ n b) ∧ sumOf (sealZ n b) < 4294967296 from ⟨hL1, hL2 hr.2, hr.1, hr.2⟩)]
      exact Ev.now _
theorem refput_ev (n : Int) (b : List Int) (h0 : 0 ≤ n) (h1 : n < 18446744073709551616) (hb : Bytes b) : Ev (fun k => refPut.f k n b) (putA n b) := by
  unfold refPut.f putA
  by_cases c0 : n = 0
  · simp only [if_pos c0, if_pos (show n < 1 by omega)]
    exact Ev.now _
  · simp only [if_neg c0, if_neg (show ¬ n < 1 by omega)]
    by_cases c1 : 44 < b.length
    · simp only [if_pos c1]
      exact Ev.now _
    · simp only [if_neg c1]
      refine Ev.bind (behind_ev n b h0 h1 (by omega)) ?_
      have hr := sumOf_range (sealZ n b)
      refine Ev.bind (a := sumOf (sealZ n b)) (refof_ev (sealZ n b) (bytesZ n b hb) (by rw [sealZ_len n b (by omega)]; decide)) ?_
      refine Ev.bind (put4_ev (sumOf (sealZ n b)) hr.1 hr.2) ?_
      simp only [if_pos (show (sealZ n b).length = 60 ∧ (bytesOf4 (sumOf (sealZ n b))).length = 4 ∧ 0 ≤ sumOf (sealZ n b) ∧ sumOf (sealZ n b) < 4294967296 from ⟨sealZ_len n b (by omega), rfl, hr.1, hr.2⟩)]
      exact Ev.now _
theorem putA_len (n : Int) (b : List Int) : (putA n b).1.length = 64 := by
  unfold putA
  split
  · rfl
  · split
    · rfl
    · exact len_x4 n _ b (by omega)
theorem wide_ev (b : List Int) (hl : b.length < 140737488355000) : cohortref00_Wide.f b = some b := by
  have hc : cohortref00_Copy.f b = some b := by
    unfold cohortref00_Copy.f
    rw [if_pos (by simp; omega)]; rfl
  unfold cohortref00_Wide.f
  simp only [hc, Option.bind_some]
  rw [if_pos (by simp only [List.length_cons, List.length_nil]; omega), if_pos (by omega), if_pos (by simp only [List.length_append, List.length_cons, List.length_nil]; omega)]
  simp
theorem SealPuts (n : Int) (b : List Int) (h0 : 0 ≤ n) (h1 : n < 18446744073709551616) (hb : Bytes b) (hl : b.length < 140737488355000) : ∃ k, sealPuts.f k n b = some true := by
  refine Ev.rounds ?_
  unfold sealPuts.f
  simp only [wide_ev b hl, Option.bind_some]
  refine Ev.bind (put_ev n b h0 h1 hb) ?_
  refine Ev.bind (refput_ev n b h0 h1 hb) ?_
  simp only [putA_len, and_self, if_true]
  exact Ev.now _
end Go.Proofs.Ythgbipgfplokeaa.Pure
