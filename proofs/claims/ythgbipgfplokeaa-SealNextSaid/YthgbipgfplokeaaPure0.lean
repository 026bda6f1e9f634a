/- Sums of bytes, of the program and of the document, as words of 32 bits. No condition. -/
import Derived.Test.YthgbipgfplokeaaGAx2
namespace CrcM

/-- a step, the high bit first -/
def stp (r : BitVec 32) : BitVec 32 := (r <<< 1) ^^^ (bif r.msb then 79764919#32 else 0#32)

theorem xlc (a b c : BitVec 32) : a ^^^ (b ^^^ c) = b ^^^ (a ^^^ c) := by
  rw [← BitVec.xor_assoc, BitVec.xor_comm a b, BitVec.xor_assoc]

theorem stp_xor (a b : BitVec 32) : stp (a ^^^ b) = stp a ^^^ stp b := by
  unfold stp
  rw [BitVec.shiftLeft_xor_distrib, BitVec.msb_xor]
  cases a.msb <;> cases b.msb <;> simp [BitVec.xor_assoc, BitVec.xor_comm, xlc]

theorem stp_zero : stp 0#32 = 0#32 := by decide

theorem stp_eq_zero (r : BitVec 32) (h : stp r = 0#32) : r = 0#32 := by
  unfold stp at h
  cases hm : r.msb with
  | true =>
    rw [hm] at h
    have h0 := congrArg (fun x : BitVec 32 => x.getLsbD 0) h
    simp at h0
  | false =>
    rw [hm] at h
    simp at h
    have hlt := BitVec.msb_eq_false_iff_two_mul_lt.1 hm
    have h1 := congrArg BitVec.toNat h
    simp [BitVec.toNat_shiftLeft, Nat.shiftLeft_eq] at h1
    apply BitVec.eq_of_toNat_eq
    simp
    omega

def stps : Nat → BitVec 32 → BitVec 32
  | 0, r => r
  | n + 1, r => stps n (stp r)

theorem stps_xor (n : Nat) (a b : BitVec 32) : stps n (a ^^^ b) = stps n a ^^^ stps n b := by
  induction n generalizing a b with
  | zero => rfl
  | succ n ih => simp [stps, stp_xor, ih]

theorem stps_eq_zero (n : Nat) (r : BitVec 32) (h : stps n r = 0#32) : r = 0#32 := by
  induction n generalizing r with
  | zero => exact h
  | succ n ih => exact stp_eq_zero r (ih _ h)

theorem stps_zero (n : Nat) : stps n 0#32 = 0#32 := by
  induction n with
  | zero => rfl
  | succ n ih => simp [stps, stp_zero, ih]

theorem stps_add (m n : Nat) (r : BitVec 32) : stps (m + n) r = stps n (stps m r) := by
  induction m generalizing r with
  | zero => simp [stps]
  | succ m ih => rw [Nat.succ_add]; simp [stps, ih]

theorem stp_low (r : BitVec 32) (h : r.toNat < 2 ^ 31) : (stp r).toNat = 2 * r.toNat := by
  have hm : r.msb = false := BitVec.msb_eq_false_iff_two_mul_lt.2 (by omega)
  simp [stp, hm, BitVec.toNat_shiftLeft, Nat.shiftLeft_eq]
  omega

theorem stps_low (n : Nat) (r : BitVec 32) (h : r.toNat * 2 ^ n < 2 ^ 32) : (stps n r).toNat = r.toNat * 2 ^ n := by
  induction n generalizing r with
  | zero => simp [stps]
  | succ n ih =>
    have hp : 1 ≤ 2 ^ n := Nat.one_le_two_pow
    have h1 : r.toNat < 2 ^ 31 := by
      rcases Nat.lt_or_ge r.toNat (2 ^ 31) with h1 | h1
      · exact h1
      · have : 2 ^ 31 * 2 ^ (n + 1) ≤ r.toNat * 2 ^ (n + 1) := Nat.mul_le_mul_right _ h1
        have e : 2 ^ (n + 1) = 2 * 2 ^ n := by rw [Nat.pow_succ]; omega
        rw [e] at this h
        omega
    have h2 := stp_low r h1
    simp only [stps]
    rw [ih (stp r) (by rw [h2]; rw [Nat.pow_succ] at h; rw [Nat.mul_comm 2, Nat.mul_assoc, Nat.mul_comm 2]; exact h), h2, Nat.pow_succ]
    rw [Nat.mul_comm 2, Nat.mul_assoc, Nat.mul_comm 2]

/-- the table of four steps -/
def tab : Nat → BitVec 32
  | 0 => 0x00000000#32 | 1 => 0x04c11db7#32 | 2 => 0x09823b6e#32 | 3 => 0x0d4326d9#32
  | 4 => 0x130476dc#32 | 5 => 0x17c56b6b#32 | 6 => 0x1a864db2#32 | 7 => 0x1e475005#32
  | 8 => 0x2608edb8#32 | 9 => 0x22c9f00f#32 | 10 => 0x2f8ad6d6#32 | 11 => 0x2b4bcb61#32
  | 12 => 0x350c9b64#32 | 13 => 0x31cd86d3#32 | 14 => 0x3c8ea00a#32 | 15 => 0x384fbdbd#32
  | _ => 0#32

theorem tab_ok : ∀ h : Nat, h < 16 → stps 4 (BitVec.ofNat 32 (h * 2 ^ 28)) = tab h := by decide

/-- four steps by the table -/
def nib (r : BitVec 32) : BitVec 32 := (r <<< 4) ^^^ tab (r.toNat / 2 ^ 28)

theorem nib_eq (r : BitVec 32) : nib r = stps 4 r := by
  have hr : r = BitVec.ofNat 32 (r.toNat / 2 ^ 28 * 2 ^ 28) ^^^ BitVec.ofNat 32 (r.toNat % 2 ^ 28) := by
    apply BitVec.eq_of_toNat_eq
    have h1 : r.toNat / 2 ^ 28 * 2 ^ 28 < 2 ^ 32 := by omega
    have h2 : r.toNat % 2 ^ 28 < 2 ^ 32 := by omega
    rw [BitVec.toNat_xor, BitVec.toNat_ofNat, BitVec.toNat_ofNat, Nat.mod_eq_of_lt h1, Nat.mod_eq_of_lt h2]
    apply Nat.eq_of_testBit_eq
    intro i
    rw [Nat.testBit_xor, Nat.testBit_mul_two_pow, Nat.testBit_mod_two_pow, Nat.testBit_div_two_pow]
    rcases Nat.lt_or_ge i 28 with hi | hi
    · simp [hi, show ¬ (28 ≤ i) from by omega]
    · simp [hi, show ¬ (i < 28) from by omega]
  have hl : stps 4 (BitVec.ofNat 32 (r.toNat % 2 ^ 28)) = r <<< 4 := by
    apply BitVec.eq_of_toNat_eq
    rw [stps_low]
    · simp [BitVec.toNat_shiftLeft, Nat.shiftLeft_eq]
      omega
    · simp; omega
  conv => rhs; rw [hr]
  rw [stps_xor, tab_ok _ (by omega), hl, nib, BitVec.xor_comm]

/-- a byte at the top -/
def ext (c : Nat) : BitVec 32 := BitVec.ofNat 32 (c % 256 * 2 ^ 24)

/-- a byte is taken in -/
def tk (r : BitVec 32) (c : Nat) : BitVec 32 := stps 8 (r ^^^ ext c)

theorem tk_nib (r : BitVec 32) (c : Nat) : nib (nib (r ^^^ ext c)) = tk r c := by
  rw [nib_eq, nib_eq, ← stps_add]; rfl

/-- more bytes -/
def more (r : BitVec 32) (l : List Nat) : BitVec 32 := l.foldl tk r

theorem more_append (r : BitVec 32) (a b : List Nat) : more r (a ++ b) = more (more r a) b := by simp [more]
theorem more_nil (r : BitVec 32) : more r [] = r := rfl
theorem more_cons (r : BitVec 32) (a : Nat) (b : List Nat) : more r (a :: b) = more (tk r a) b := rfl

theorem tk_inj (a b : BitVec 32) (c : Nat) (h : tk a c = tk b c) : a = b := by
  unfold tk at h
  have h1 : stps 8 ((a ^^^ ext c) ^^^ (b ^^^ ext c)) = 0#32 := by rw [stps_xor, h, BitVec.xor_self]
  have h2 := stps_eq_zero _ _ h1
  have h3 : (a ^^^ ext c) ^^^ (b ^^^ ext c) = a ^^^ b := by
    rw [BitVec.xor_assoc, xlc (ext c), BitVec.xor_self, BitVec.xor_zero]
  rw [h3] at h2
  exact BitVec.xor_eq_zero_iff.1 h2

theorem more_inj (l : List Nat) : ∀ (a b : BitVec 32), more a l = more b l → a = b := by
  induction l with
  | nil => intro a b h; exact h
  | cons c l ih => intro a b h; exact tk_inj _ _ c (ih _ _ h)

theorem tk_top (r : BitVec 32) (c : Nat) (h : r.toNat / 2 ^ 24 = c % 256) : (tk r c).toNat = r.toNat % 2 ^ 24 * 2 ^ 8 := by
  have hx : (r ^^^ ext c).toNat = r.toNat % 2 ^ 24 := by
    rw [ext, ← h, BitVec.toNat_xor, BitVec.toNat_ofNat, Nat.mod_eq_of_lt (by omega)]
    apply Nat.eq_of_testBit_eq
    intro i
    rw [Nat.testBit_xor, Nat.testBit_mul_two_pow, Nat.testBit_mod_two_pow, Nat.testBit_div_two_pow]
    rcases Nat.lt_or_ge i 24 with hi | hi
    · simp [hi, show ¬ (24 ≤ i) from by omega]
    · simp [hi, show ¬ (i < 24) from by omega]
  unfold tk
  rw [stps_low _ _ (by rw [hx]; omega), hx]

/-- bytes with their sum behind them come to 0 -/
theorem behind (r : BitVec 32) : more r [r.toNat / 2 ^ 24 % 256, r.toNat / 2 ^ 16 % 256, r.toNat / 2 ^ 8 % 256, r.toNat % 256] = 0#32 := by
  have h0 := tk_top r (r.toNat / 2 ^ 24 % 256) (by omega)
  have h1 := tk_top (tk r (r.toNat / 2 ^ 24 % 256)) (r.toNat / 2 ^ 16 % 256) (by rw [h0]; omega)
  have h2 := tk_top (tk (tk r (r.toNat / 2 ^ 24 % 256)) (r.toNat / 2 ^ 16 % 256)) (r.toNat / 2 ^ 8 % 256) (by rw [h1, h0]; omega)
  have h3 := tk_top (tk (tk (tk r (r.toNat / 2 ^ 24 % 256)) (r.toNat / 2 ^ 16 % 256)) (r.toNat / 2 ^ 8 % 256)) (r.toNat % 256) (by rw [h2, h1, h0]; omega)
  apply BitVec.eq_of_toNat_eq
  simp only [more, List.foldl]
  rw [h3, h2, h1, h0]
  simp
  omega

/-- up to four bytes as a word -/
def wd : Nat → List Nat → BitVec 32
  | _, [] => 0#32
  | j, c :: l => BitVec.ofNat 32 (c % 256 * 2 ^ (24 - 8 * j)) ^^^ wd (j + 1) l

theorem ext_low (j c : Nat) (hj : j ≤ 3) : stps (8 * j) (BitVec.ofNat 32 (c % 256 * 2 ^ (24 - 8 * j))) = ext c := by
  apply BitVec.eq_of_toNat_eq
  have hc : c % 256 < 256 := Nat.mod_lt _ (by omega)
  rcases (by omega : j = 0 ∨ j = 1 ∨ j = 2 ∨ j = 3) with rfl | rfl | rfl | rfl
  all_goals
    rw [stps_low]
    · simp [ext]; try omega
    · simp; omega

theorem more_wd (l : List Nat) : ∀ (j : Nat) (r : BitVec 32), j + l.length ≤ 4 → more (stps (8 * j) r) l = stps (8 * (j + l.length)) (r ^^^ wd j l) := by
  induction l with
  | nil => intro j r _; simp [more, wd]
  | cons c l ih =>
    intro j r hj
    simp only [List.length_cons] at hj
    have h1 : tk (stps (8 * j) r) c = stps (8 * (j + 1)) (r ^^^ BitVec.ofNat 32 (c % 256 * 2 ^ (24 - 8 * j))) := by
      rw [tk, ← ext_low j c (by omega), ← stps_xor, Nat.mul_add, stps_add]
    rw [more_cons, h1, ih (j + 1) _ (by omega), BitVec.xor_assoc, List.length_cons, wd, show j + 1 + l.length = j + (l.length + 1) from by omega]

theorem wd_lt (l : List Nat) : ∀ j : Nat, j + l.length ≤ 4 → (wd j l).toNat < 2 ^ (32 - 8 * j) := by
  induction l with
  | nil => intro j _; simp [wd]; exact Nat.two_pow_pos _
  | cons c l ih =>
    intro j hj
    simp only [List.length_cons] at hj
    have h1 := ih (j + 1) (by omega)
    rw [wd, BitVec.toNat_xor]
    refine Nat.xor_lt_two_pow ?_ ?_
    · rw [BitVec.toNat_ofNat]
      refine Nat.lt_of_le_of_lt (Nat.mod_le _ _) ?_
      have hc : c % 256 < 2 ^ 8 := Nat.mod_lt _ (by omega)
      have := Nat.mul_lt_mul_of_pos_right hc (Nat.two_pow_pos (24 - 8 * j))
      rw [← Nat.pow_add] at this
      rwa [show 32 - 8 * j = 8 + (24 - 8 * j) from by omega]
    · exact Nat.lt_of_lt_of_le h1 (Nat.pow_le_pow_right (by omega) (by omega))

theorem wd_top (c : Nat) (l : List Nat) (j : Nat) (hj : j + l.length ≤ 3) : (wd j (c :: l)).toNat / 2 ^ (24 - 8 * j) = c % 256 := by
  have h1 := wd_lt l (j + 1) (by omega)
  rw [show 32 - 8 * (j + 1) = 24 - 8 * j from by omega] at h1
  have hc : c % 256 < 2 ^ 8 := Nat.mod_lt _ (by omega)
  have hm := Nat.mul_lt_mul_of_pos_right hc (Nat.two_pow_pos (24 - 8 * j))
  rw [← Nat.pow_add] at hm
  have hm' : 2 ^ (8 + (24 - 8 * j)) ≤ 2 ^ 32 := Nat.pow_le_pow_right (by omega) (by omega)
  rw [wd, BitVec.toNat_xor, BitVec.toNat_ofNat, Nat.mod_eq_of_lt (by omega), ← Nat.shiftRight_eq_div_pow, Nat.shiftRight_xor_distrib, Nat.shiftRight_eq_div_pow, Nat.shiftRight_eq_div_pow,
    Nat.div_eq_of_lt h1, Nat.mul_div_cancel _ (Nat.two_pow_pos _), Nat.xor_zero]

theorem wd_inj (l : List Nat) : ∀ (m : List Nat) (j : Nat), l.length = m.length → j + l.length ≤ 4 → (∀ c ∈ l, c < 256) → (∀ c ∈ m, c < 256) → wd j l = wd j m → l = m := by
  induction l with
  | nil => intro m j hl _ _ _ _; exact (List.length_eq_zero_iff.1 hl.symm).symm
  | cons c l ih =>
    intro m j hl hj hb hd h
    cases m with
    | nil => simp at hl
    | cons d m =>
      simp only [List.length_cons] at hl hj
      have h1 := wd_top c l j (by omega)
      have h2 := wd_top d m j (by omega)
      rw [h] at h1
      have hc := hb c (by simp)
      have hd' := hd d (by simp)
      have hcd : c = d := by omega
      subst hcd
      simp only [wd] at h
      have h3 := BitVec.xor_right_inj _ |>.1 h
      rw [ih m (j + 1) (by omega) (by omega) (fun x hx => hb x (by simp [hx])) (fun x hx => hd x (by simp [hx])) h3]

/-- a row of up to four bytes: other bytes, another sum -/
theorem row_inj (r : BitVec 32) (l m : List Nat) (hl : l.length = m.length) (h4 : l.length ≤ 4) (hb : ∀ c ∈ l, c < 256) (hd : ∀ c ∈ m, c < 256) (h : more r l = more r m) : l = m := by
  have h1 := more_wd l 0 r (by omega)
  have h2 := more_wd m 0 r (by omega)
  simp only [stps, Nat.zero_add] at h1 h2
  rw [h1, h2, hl] at h
  have h3 : stps (8 * m.length) ((r ^^^ wd 0 l) ^^^ (r ^^^ wd 0 m)) = 0#32 := by rw [stps_xor, h, BitVec.xor_self]
  have h4' := BitVec.xor_eq_zero_iff.1 (stps_eq_zero _ _ h3)
  exact wd_inj l m 0 hl (by omega) hb hd (BitVec.xor_right_inj _ |>.1 h4')

/-- with a row of up to four bytes changed in the midst the sum is the same just if nothing was changed -/
theorem mid_inj (r : BitVec 32) (a l m b : List Nat) (hl : l.length = m.length) (h4 : l.length ≤ 4) (hb : ∀ c ∈ l, c < 256) (hd : ∀ c ∈ m, c < 256) : more r (a ++ (l ++ b)) = more r (a ++ (m ++ b)) ↔ l = m := by
  constructor
  · intro h
    rw [more_append, more_append, more_append, more_append] at h
    exact row_inj _ l m hl h4 hb hd (more_inj b _ _ h)
  · rintro rfl; rfl

end CrcM

namespace Go.Proofs.Ythgbipgfplokeaa.Pure
open Go.RowKit Go.Proofs.Ythgbipgfplokeaa.GA Go.Proofs.YthgbipgfplokeaaW.PrintWords Go.Proofs.YthgbipgfplokeaaW.PrintLast
set_option linter.unusedSimpArgs false
set_option linter.unusedVariables false

namespace Crc
open CrcM
theorem tab_nat (n : Nat) (h : n < 16) : crc_tabI (n : Int) = ((tab n).toNat : Int) := by
  rcases (by omega : n = 0 ∨ n = 1 ∨ n = 2 ∨ n = 3 ∨ n = 4 ∨ n = 5 ∨ n = 6 ∨ n = 7 ∨ n = 8 ∨ n = 9 ∨ n = 10 ∨ n = 11 ∨ n = 12 ∨ n = 13 ∨ n = 14 ∨ n = 15) with rfl | rfl | rfl | rfl | rfl | rfl | rfl | rfl | rfl | rfl | rfl | rfl | rfl | rfl | rfl | rfl <;> rfl
theorem nib_nat (r : BitVec 32) : crc_nibI (r.toNat : Int) = ((nib r).toNat : Int) := by
  have hr := r.isLt
  have e1 : ((r.toNat : Int) * 16) % 4294967296 = ((r.toNat * 16 % 4294967296 : Nat) : Int) := by omega
  have e2 : (r.toNat : Int) / 268435456 = ((r.toNat / 268435456 : Nat) : Int) := by omega
  have e3 := tab_nat (r.toNat / 268435456) (by omega)
  have e4 := (tab (r.toNat / 268435456)).isLt
  unfold crc_nibI
  rw [e1, e2, e3, u32_xor_nat _ _ (Nat.mod_lt _ (by omega)) e4, nib, BitVec.toNat_xor, BitVec.toNat_shiftLeft, Nat.shiftLeft_eq]
theorem tk_nat (r : BitVec 32) (c : Nat) (hc : c < 256) : crc_tkI (r.toNat : Int) (c : Int) = ((tk r c).toNat : Int) := by
  have hr := r.isLt
  have e1 : (((c : Int) % 4294967296) * 16777216) % 4294967296 = ((c * 16777216 : Nat) : Int) := by omega
  have e2 : (r ^^^ ext c).toNat = r.toNat ^^^ (c * 16777216) := by
    rw [BitVec.toNat_xor, ext, BitVec.toNat_ofNat, Nat.mod_eq_of_lt hc, Nat.mod_eq_of_lt (by omega)]
  unfold crc_tkI
  rw [e1, u32_xor_nat _ _ hr (by omega), ← e2, nib_nat, nib_nat, tk_nib]
theorem wi64 (n : Int) (h0 : -9223372036854775808 ≤ n) (h1 : n < 9223372036854775808) : wrap64 n = n := by
  unfold wrap64; omega
/-- bytes -/
def Bytes (l : List Int) : Prop := ∀ x ∈ l, 0 ≤ x ∧ x < 256
def nats (l : List Int) : List Nat := l.map Int.toNat
theorem more_loop (l : List Int) (hb : Bytes l) (hl : l.length < 9223372036854775807) (m : Nat) : ∀ (i : Nat) (r : BitVec 32), i + m = l.length → Ev (fun k => crc_More.l0 k (r.toNat : Int) l (l.length : Int) (i : Int)) ((more r (nats (l.drop i))).toNat : Int) := by
  induction m with
  | zero =>
    intro i r hi
    have : l.drop i = [] := List.drop_eq_nil_of_le (by omega)
    rw [this]
    exact Ev.step (fun k => by simp only [crc_More.l0]; rw [if_neg (by omega)]; rfl) (Ev.now _)
  | succ m ih =>
    intro i r hi
    have hlt : i < l.length := by omega
    have hwi : wrap64 ((i : Int) + 1) = ((i + 1 : Nat) : Int) := by rw [wi64 _ (by omega) (by omega)]; omega
    have hd : l.drop i = l[i] :: l.drop (i + 1) := List.drop_eq_getElem_cons hlt
    have hx := hb l[i] (List.getElem_mem hlt)
    have hrd : rd l (i : Int) = ((l[i].toNat : Nat) : Int) := by
      unfold rd
      rw [Int.toNat_natCast, List.getD_eq_getElem?_getD, List.getElem?_eq_getElem hlt, Option.getD_some]
      omega
    have ht : crc_Take.f (r.toNat : Int) (rd l (i : Int)) = some ((tk r l[i].toNat).toNat : Int) := by
      rw [hrd, crc_Take.f, tk_nat _ _ (by omega)]
    have h := ih (i + 1) (tk r l[i].toNat) (by omega)
    have hn : more r (nats (l.drop i)) = more (tk r l[i].toNat) (nats (l.drop (i + 1))) := by rw [hd]; rfl
    rw [hn]
    exact Ev.step (fun k => by simp only [crc_More.l0]; rw [if_pos (by omega), if_pos (by omega), if_pos (by omega), ht, Option.bind_some, hwi]) h
theorem more_ev (l : List Int) (hb : Bytes l) (hl : l.length < 9223372036854775807) (r : BitVec 32) : Ev (fun k => crc_More.f k (r.toNat : Int) l) ((more r (nats l)).toNat : Int) := by
  have h := more_loop l hb hl l.length 0 r (by omega)
  rw [List.drop_zero] at h
  exact h
def r0 : BitVec 32 := 4294967295#32
theorem of_ev (l : List Int) (hb : Bytes l) (hl : l.length < 9223372036854775807) : Ev (fun k => crc_Of.f k l) ((more r0 (nats l)).toNat : Int) := by
  unfold crc_Of.f
  exact Ev.bind (more_ev l hb hl r0) (Ev.now _)
theorem bytes_of (l : List Int) (h : ∀ x ∈ l, (Lit.int .u8 x).wf = true) : Bytes l := by
  intro x hx
  have := h x hx
  simp [Lit.wf, IntKind.min, IntKind.max, IntKind.signed, IntKind.bits] at this
  omega
theorem refstep_nat (r : BitVec 32) : cohortref03_Step.f (r.toNat : Int) = some ((stp r).toNat : Int) := by
  have hr := r.isLt
  have e1 : (2 * (r.toNat : Int)) % 4294967296 = ((r.toNat * 2 % 4294967296 : Nat) : Int) := by omega
  have e0 : (stp r).toNat = (r.toNat * 2 % 4294967296) ^^^ (bif r.msb then 79764919#32 else 0#32).toNat := by
    unfold stp
    rw [BitVec.toNat_xor, BitVec.toNat_shiftLeft, Nat.shiftLeft_eq]
  have hm : r.msb = decide (2147483648 ≤ r.toNat) := by rw [BitVec.msb_eq_decide]
  unfold cohortref03_Step.f
  rw [e1, e0]
  by_cases h : 2147483648 ≤ r.toNat
  · rw [hm, decide_eq_true h, if_pos (by omega)]
    have e3 : Go.bits .xor .u32 ((r.toNat * 2 % 4294967296 : Nat) : Int) 79764919 = (((r.toNat * 2 % 4294967296) ^^^ 79764919 : Nat) : Int) := u32_xor_nat _ 79764919 (Nat.mod_lt _ (by omega)) (by omega)
    rw [e3]
    rfl
  · rw [hm, decide_eq_false h, if_neg (by omega)]
    show _ = some (((r.toNat * 2 % 4294967296) ^^^ 0 : Nat) : Int)
    rw [Nat.xor_zero]
theorem reftake_loop (m : Nat) : ∀ (i : Nat) (r : BitVec 32), i + m = 8 → Ev (fun k => cohortref03_Take.l0 k (r.toNat : Int) (i : Int)) ((stps m r).toNat : Int) := by
  induction m with
  | zero =>
    intro i r hi
    exact Ev.step (fun k => by simp only [cohortref03_Take.l0]; rw [if_neg (by omega)]; rfl) (Ev.now _)
  | succ m ih =>
    intro i r hi
    have hwi : wrap64 ((i : Int) + 1) = ((i + 1 : Nat) : Int) := by rw [wi64 _ (by omega) (by omega)]; omega
    exact Ev.step (fun k => by simp only [cohortref03_Take.l0]; rw [if_pos (by omega), refstep_nat, Option.bind_some, hwi]) (ih (i + 1) (stp r) (by omega))
theorem reftake_ev (r : BitVec 32) (c : Nat) (hc : c < 256) : Ev (fun k => cohortref03_Take.f k (r.toNat : Int) (c : Int)) ((tk r c).toNat : Int) := by
  have hr := r.isLt
  have e1 : (((c : Int) % 4294967296) * 16777216) % 4294967296 = ((c * 16777216 : Nat) : Int) := by omega
  have e2 : (r ^^^ ext c).toNat = r.toNat ^^^ (c * 16777216) := by
    rw [BitVec.toNat_xor, ext, BitVec.toNat_ofNat, Nat.mod_eq_of_lt hc, Nat.mod_eq_of_lt (by omega)]
  unfold cohortref03_Take.f
  rw [e1, u32_xor_nat _ _ hr (by omega), ← e2]
  exact reftake_loop 8 0 (r ^^^ ext c) rfl
theorem refmore_loop (l : List Int) (hb : Bytes l) (hl : l.length < 9223372036854775807) (m : Nat) : ∀ (i : Nat) (r : BitVec 32), i + m = l.length → Ev (fun k => cohortref03_More.l0 k (r.toNat : Int) l (i : Int)) ((more r (nats (l.drop i))).toNat : Int) := by
  induction m with
  | zero =>
    intro i r hi
    have : l.drop i = [] := List.drop_eq_nil_of_le (by omega)
    rw [this]
    exact Ev.step (fun k => by simp only [cohortref03_More.l0]; rw [if_neg (by omega)]; rfl) (Ev.now _)
  | succ m ih =>
    intro i r hi
    have hlt : i < l.length := by omega
    have hwi : wrap64 ((i : Int) + 1) = ((i + 1 : Nat) : Int) := by rw [wi64 _ (by omega) (by omega)]; omega
    have hd : l.drop i = l[i] :: l.drop (i + 1) := List.drop_eq_getElem_cons hlt
    have hx := hb l[i] (List.getElem_mem hlt)
    have hrd : rd l (i : Int) = ((l[i].toNat : Nat) : Int) := by
      unfold rd
      rw [Int.toNat_natCast, List.getD_eq_getElem?_getD, List.getElem?_eq_getElem hlt, Option.getD_some]
      omega
    have hn : more r (nats (l.drop i)) = more (tk r l[i].toNat) (nats (l.drop (i + 1))) := by rw [hd]; rfl
    rw [hn]
    refine Ev.step (fun k => by simp only [cohortref03_More.l0]; rw [if_pos (by omega), if_pos (by omega), hrd, hwi]) ?_
    exact Ev.bind (reftake_ev r l[i].toNat (by omega)) (ih (i + 1) (tk r l[i].toNat) (by omega))
theorem refmore_ev (l : List Int) (hb : Bytes l) (hl : l.length < 9223372036854775807) (r : BitVec 32) : Ev (fun k => cohortref03_More.f k (r.toNat : Int) l) ((more r (nats l)).toNat : Int) := by
  have h := refmore_loop l hb hl l.length 0 r (by omega)
  rw [List.drop_zero] at h
  exact h
theorem refof_ev (l : List Int) (hb : Bytes l) (hl : l.length < 9223372036854775807) : Ev (fun k => cohortref03_Of.f k l) ((more r0 (nats l)).toNat : Int) := by
  unfold cohortref03_Of.f
  exact Ev.bind (refmore_ev l hb hl r0) (Ev.now _)
theorem u32_word (a : Int) (h : (Lit.int .u32 a).wf = true) : ∃ r : BitVec 32, a = (r.toNat : Int) := by
  have b : 0 ≤ a ∧ a ≤ 4294967295 := by simpa [Lit.wf, IntKind.min, IntKind.max, IntKind.signed, IntKind.bits] using h
  refine ⟨BitVec.ofNat 32 a.toNat, ?_⟩
  rw [BitVec.toNat_ofNat, Nat.mod_eq_of_lt (by omega)]
  omega
end Crc

end Go.Proofs.Ythgbipgfplokeaa.Pure
