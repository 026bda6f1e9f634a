/- The plain laws of seal: what a sealed block says. No condition. -/
import Derived.Test.YthgbipgfplokeaaPure1
import Derived.Test.YthgbipgfplokeaaS14
import Derived.Laws.BitsAllLaws
namespace Go.Proofs.Ythgbipgfplokeaa.Pure
open Go.RowKit Go.Proofs.Ythgbipgfplokeaa.GA Go.Proofs.YthgbipgfplokeaaW.PrintWords Go.Proofs.YthgbipgfplokeaaW.PrintLast
open Crc CrcM
set_option linter.unusedSimpArgs false
set_option linter.unusedVariables false
/-- the byte at a place, as a natural number -/
def nb (l : List Int) (j : Nat) : Nat := (rd l (j : Int)).toNat
/-- the number that i bytes from p on make, the lowest first -/
def val (l : List Int) (p : Nat) : Nat → Nat
  | 0 => 0
  | i + 1 => val l p i + nb l (p + i) * 256 ^ i
theorem rd_range (l : List Int) (hb : Bytes l) (j : Nat) : 0 ≤ rd l (j : Int) ∧ rd l (j : Int) < 256 := by
  unfold rd
  rw [Int.toNat_natCast, List.getD_eq_getElem?_getD]
  by_cases h : j < l.length
  · rw [List.getElem?_eq_getElem h]
    exact hb _ (List.getElem_mem h)
  · rw [List.getElem?_eq_none (by omega)]
    exact ⟨by decide, by decide⟩
theorem nb_eq (l : List Int) (hb : Bytes l) (j : Nat) : rd l (j : Int) = (nb l j : Int) ∧ nb l j < 256 := by
  have := rd_range l hb j
  unfold nb
  omega
theorem val_lt (l : List Int) (hb : Bytes l) (p i : Nat) : val l p i < 256 ^ i := by
  induction i with
  | zero => simp [val]
  | succ i ih =>
    have h1 := (nb_eq l hb (p + i)).2
    have h2 : nb l (p + i) * 256 ^ i ≤ 255 * 256 ^ i := Nat.mul_le_mul_right _ (by omega)
    rw [val, Nat.pow_succ]
    omega
theorem wrap_u64 (n : Nat) (h : n < 18446744073709551616) : IntKind.u64.wrap (n : Int) = (n : Int) := by
  have : IntKind.u64.wrap (n : Int) = (n : Int) % 18446744073709551616 := by
    simp [IntKind.wrap, IntKind.bits, IntKind.signed]
  rw [this]
  omega
theorem pow_le8 (i : Nat) (h : i ≤ 8) : 256 ^ i ≤ 18446744073709551616 := by
  have := Nat.pow_le_pow_right (n := 256) (by decide) h
  have e : (256 : Nat) ^ 8 = 18446744073709551616 := by decide
  omega
theorem gnum_val (l : List Int) (hb : Bytes l) (p : Nat) : ∀ i, i ≤ 8 → gnum l p i = (val l p i : Int)
  | 0, _ => rfl
  | i + 1, hi => by
    have ih := gnum_val l hb p i (by omega)
    obtain ⟨h1, h2⟩ := nb_eq l hb (p + i)
    have h3 := val_lt l hb p i
    have h5 := val_lt l hb p (i + 1)
    rw [val] at h5
    have h4 := pow_le8 (i + 1) hi
    have h6 := pow_le8 i (by omega)
    have e1 : IntKind.u64.wrap (IntKind.u64.wrap (nb l (p + i) : Int) * 256 ^ i) = ((nb l (p + i) * 256 ^ i : Nat) : Int) := by
      rw [wrap_u64 _ (by omega)]
      have e : (nb l (p + i) : Int) * 256 ^ i = ((nb l (p + i) * 256 ^ i : Nat) : Int) := by
        rw [Int.natCast_mul, Int.natCast_pow]; rfl
      rw [e, wrap_u64 _ (by omega)]
    rw [gnum, ih, h1, e1, u64_or_nat _ _ (by omega) (by omega)]
    have e2 : (256 : Nat) ^ i = 2 ^ (8 * i) := by rw [Nat.pow_mul]
    have e3 := Nat.two_pow_add_eq_or_of_lt (i := 8 * i) (b := val l p i) (by rw [← e2]; exact h3) (nb l (p + i))
    rw [← e2] at e3
    have e4 : val l p i ||| nb l (p + i) * 256 ^ i = val l p (i + 1) := by
      rw [val, Nat.or_comm, Nat.mul_comm, ← e3, Nat.add_comm]
    rw [e4]
theorem val_inj (l m : List Int) (hl : Bytes l) (hm : Bytes m) (p q : Nat) : ∀ i, val l p i = val m q i → ∀ j, j < i → nb l (p + j) = nb m (q + j)
  | 0, _, j, hj => by omega
  | i + 1, h, j, hj => by
    have h1 := val_lt l hl p i
    have h2 := val_lt m hm q i
    rw [val, val] at h
    have hp : 0 < 256 ^ i := Nat.pos_of_neZero _
    have h3 : nb l (p + i) = nb m (q + i) := by
      have := congrArg (fun n => n / 256 ^ i) h
      rw [Nat.add_mul_div_right _ _ hp, Nat.add_mul_div_right _ _ hp, Nat.div_eq_of_lt h1, Nat.div_eq_of_lt h2] at this
      omega
    by_cases hji : j = i
    · rw [hji]; exact h3
    · rw [h3] at h
      exact val_inj l m hl hm p q i (by omega) j (by omega)
theorem val_congr (l m : List Int) (p q : Nat) : ∀ i, (∀ j, j < i → nb l (p + j) = nb m (q + j)) → val l p i = val m q i
  | 0, _ => rfl
  | i + 1, h => by rw [val, val, val_congr l m p q i (fun j hj => h j (by omega)), h i (by omega)]
theorem refget_loop (l : List Int) (hb : Bytes l) (hl : l.length < 1000) (p : Nat) : ∀ (j acc : Nat), j ≤ 8 → p + j ≤ l.length → (acc + 1) * 256 ^ j ≤ 18446744073709551616 → Ev (fun k => cohortref01_Get.l0 k l (p : Int) (acc : Int) ((p : Int) + (j : Int) - 1)) (((acc * 256 ^ j + val l p j : Nat) : Int), 0)
  | 0, acc, _, _, _ => Ev.step (fun k => by simp only [cohortref01_Get.l0]; rw [if_neg (by omega)]; simp only [val, Nat.pow_zero, Nat.mul_one, Nat.add_zero]) (Ev.now _)
  | j + 1, acc, hj, hp, ha => by
    obtain ⟨h1, h2⟩ := nb_eq l hb (p + j)
    have hpos : 0 < 256 ^ j := Nat.pos_of_neZero _
    have hs : (acc + 1) * 256 ^ (j + 1) = ((acc + 1) * 256) * 256 ^ j := by rw [Nat.pow_succ, Nat.mul_comm (256 ^ j) 256, Nat.mul_assoc]
    rw [hs] at ha
    have hacc : (acc + 1) * 256 ≤ 18446744073709551616 := Nat.le_trans (Nat.le_mul_of_pos_right _ hpos) ha
    have ex : (p : Int) + ((j + 1 : Nat) : Int) - 1 = ((p + j : Nat) : Int) := by omega
    have e1 : IntKind.u64.wrap ((IntKind.u64.wrap (256 * (acc : Int))) + (IntKind.u64.wrap (rd l ((p + j : Nat) : Int)))) = ((256 * acc + nb l (p + j) : Nat) : Int) := by
      rw [h1, show (256 : Int) * (acc : Int) = ((256 * acc : Nat) : Int) by rw [Int.natCast_mul]; rfl, wrap_u64 _ (by omega), wrap_u64 (nb l (p + j)) (by omega), ← Int.natCast_add, wrap_u64 _ (by omega)]
    have e2 : wrap64 (((p + j : Nat) : Int) - 1) = (p : Int) + (j : Int) - 1 := by rw [wi64 _ (by omega) (by omega)]; omega
    have hle : (256 * acc + nb l (p + j) + 1) * 256 ^ j ≤ 18446744073709551616 := Nat.le_trans (Nat.mul_le_mul_right _ (by omega)) ha
    have ih := refget_loop l hb hl p j (256 * acc + nb l (p + j)) (by omega) (by omega) hle
    have ev : (256 * acc + nb l (p + j)) * 256 ^ j + val l p j = acc * 256 ^ (j + 1) + val l p (j + 1) := by
      rw [val, Nat.pow_succ, Nat.add_mul, Nat.mul_comm (256 ^ j) 256, ← Nat.mul_assoc, Nat.mul_comm acc 256]
      omega
    rw [ev] at ih
    rw [ex]
    exact Ev.step (fun k => by simp only [cohortref01_Get.l0]; rw [if_pos (by omega), if_pos (by omega), if_pos (by omega), e1, e2]) ih
theorem refget_ev (l : List Int) (hb : Bytes l) (hl : l.length = 64) (p i : Nat) (hi : i = 4 ∨ i = 8) (hp : p + i ≤ 64) : Ev (fun k => cohortref01_Get.f k l (p : Int) (i : Int)) ((val l p i : Int), 0) := by
  have hs : cohortref01_size.f (i : Int) = some true := by rcases hi with rfl | rfl <;> rfl
  unfold cohortref01_Get.f
  simp only [hs, Option.bind_some, if_true]
  simp only [if_neg (show ¬ ((p : Int) < 0) by omega), show decide ((p : Int) > (l.length : Int)) = false from decide_eq_false (by omega)]
  have h := refget_loop l hb (by omega) p i 0 (by omega) (by omega) (by rcases hi with rfl | rfl <;> decide)
  rw [Nat.zero_mul, Nat.zero_add] at h
  have e1 : wrap64 ((l.length : Int) - (p : Int)) = (l.length : Int) - (p : Int) := wi64 _ (by omega) (by omega)
  have e0 : wrap64 ((p : Int) + (i : Int)) = (p : Int) + (i : Int) := wi64 _ (by omega) (by omega)
  have e2 : wrap64 (wrap64 ((p : Int) + (i : Int)) - 1) = (p : Int) + (i : Int) - 1 := by rw [e0]; exact wi64 _ (by omega) (by omega)
  exact Ev.step (fun k => by simp only [cohortref01_Get.j0]; rw [if_neg (by decide), e1, if_neg (by omega), e2]; rfl) h
theorem sameB_eq (a b : List Int) (ha : Bytes a) (hb : Bytes b) : sameB a b = decide (a = b) := by
  have hT : ∀ l : List Int, (strOfNums l).toList = l.map fun n => UInt8.ofNat n.toNat := fun l => by rw [ByteArray.toList_eq]; rfl
  unfold sameB
  rw [hT, hT]
  by_cases h : a = b
  · subst h
    simp
  · rw [decide_eq_false h]
    apply Bool.eq_false_iff.2
    intro he
    apply h
    replace he := beq_iff_eq.1 he
    clear h hT
    induction a generalizing b with
    | nil => cases b with
      | nil => rfl
      | cons y b => cases he
    | cons x a ih => cases b with
      | nil => cases he
      | cons y b =>
        simp only [List.map_cons, List.cons.injEq] at he
        have h1 := congrArg UInt8.toNat he.1
        have hx := ha x (by simp)
        have hy := hb y (by simp)
        simp only [UInt8.toNat_ofNat'] at h1
        have h2 : x = y := by omega
        subst h2
        rw [ih b (fun z hz => ha z (by simp [hz])) (fun z hz => hb z (by simp [hz])) he.2]
theorem bytes_drop (l : List Int) (h : Bytes l) (n : Nat) : Bytes (l.drop n) := fun x hx => h x (List.mem_of_mem_drop hx)
theorem bytes_take (l : List Int) (h : Bytes l) (n : Nat) : Bytes (l.take n) := fun x hx => h x (List.mem_of_mem_take hx)
theorem ends_same (l : List Int) (hb : Bytes l) (hl : l.length = 64) : ((l.drop 4).take 8 = (l.drop 56).take 8) ↔ val l 4 8 = val l 56 8 := by
  have hg : ∀ p j, p + j < 64 → ∀ x, ((l.drop p).take 8)[j]? = some x → j < 8 → x = (nb l (p + j) : Int) := by
    intro p j h x hx hj
    rw [List.getElem?_take_of_lt hj, List.getElem?_drop] at hx
    have := (nb_eq l hb (p + j)).1
    unfold rd at this
    rw [Int.toNat_natCast, List.getD_eq_getElem?_getD, hx] at this
    exact this
  have len : ∀ p, p + 8 ≤ 64 → ((l.drop p).take 8).length = 8 := fun p hp => by rw [List.length_take, List.length_drop]; omega
  constructor
  · intro h
    apply val_congr
    intro j hj
    obtain ⟨u, h1⟩ : ∃ u, ((l.drop 4).take 8)[j]? = some u := ⟨_, List.getElem?_eq_getElem (by rw [len 4 (by omega)]; exact hj)⟩
    have h2 := h1
    rw [h] at h2
    have e1 := hg 4 j (by omega) _ h1 hj
    have e2 := hg 56 j (by omega) _ h2 hj
    omega
  · intro h
    have hv := val_inj l l hb hb 4 56 8 h
    apply List.ext_getElem (by rw [len 4 (by omega), len 56 (by omega)])
    intro j h1 h2
    have hj : j < 8 := by rw [len 4 (by omega)] at h1; exact h1
    have e1 := hg 4 j (by omega) _ (List.getElem?_eq_getElem h1) hj
    have e2 := hg 56 j (by omega) _ (List.getElem?_eq_getElem h2) hj
    have := hv j hj
    omega
/-- what Get answers -/
def getA (x : List Int) : Int × List Int × Int :=
  if val x 4 8 = 0 ∨ val x 4 8 ≠ val x 56 8 then (0, [], 5) else if (val x 0 4 : Int) = sumOf (x.drop 4) then ((val x 4 8 : Int), (x.drop 12).take 44, 0) else (0, [], 6)
theorem get_ev (x : List Int) (hb : Bytes x) (hl : x.length = 64) : Ev (fun k => seal_Get.f k x) (getA x) := by
  unfold seal_Get.f getA
  rw [gnum_val x hb 4 8 (by decide), gnum_val x hb 0 4 (by decide), sameB_eq _ _ (bytes_take _ (bytes_drop _ hb _) _) (bytes_take _ (bytes_drop _ hb _) _)]
  have h4 : val x 0 4 < 4294967296 := val_lt x hb 0 4
  have em : (val x 0 4 : Int) % 4294967296 = (val x 0 4 : Int) := by omega
  rw [em]
  by_cases c1 : val x 4 8 = 0
  · simp only [if_pos (show (val x 4 8 : Int) = 0 by omega), if_pos (show val x 4 8 = 0 ∨ val x 4 8 ≠ val x 56 8 from .inl c1)]
    exact Ev.now _
  · simp only [if_neg (show ¬ (val x 4 8 : Int) = 0 by omega)]
    by_cases c2 : val x 4 8 = val x 56 8
    · rw [decide_eq_true ((ends_same x hb hl).2 c2)]
      simp only [if_neg (show ¬ (val x 4 8 = 0 ∨ val x 4 8 ≠ val x 56 8) from fun h => h.elim c1 (fun h => h c2))]
      simp only [if_neg (show ¬ (true = false) by decide)]
      refine Ev.bind (a := sumOf (x.drop 4)) (of_ev _ (bytes_drop _ hb _) (by rw [List.length_drop, hl]; decide)) ?_
      by_cases c3 : (val x 0 4 : Int) = sumOf (x.drop 4)
      · simp only [if_pos c3]; exact Ev.now _
      · simp only [if_neg c3]; exact Ev.now _
    · rw [decide_eq_false (fun h => c2 ((ends_same x hb hl).1 h))]
      simp only [if_pos (show val x 4 8 = 0 ∨ val x 4 8 ≠ val x 56 8 from .inr c2), if_true]
      exact Ev.now _
theorem refget'_ev (x : List Int) (hb : Bytes x) (hl : x.length = 64) : Ev (fun k => refGet.f k x) (getA x) := by
  unfold refGet.f getA
  refine Ev.bind (refget_ev x hb hl 0 4 (.inl rfl) (by decide)) ?_
  refine Ev.bind (refget_ev x hb hl 4 8 (.inr rfl) (by decide)) ?_
  refine Ev.bind (refget_ev x hb hl 56 8 (.inr rfl) (by decide)) ?_
  have hs := sumOf_range (x.drop 4)
  by_cases c2 : val x 4 8 = val x 56 8
  · simp only [if_neg (show ¬ ((val x 4 8 : Int) ≠ (val x 56 8 : Int)) from fun h => h (by omega))]
    by_cases c1 : val x 4 8 = 0
    · simp only [if_pos (show (val x 4 8 : Int) < 1 by omega), if_pos (show val x 4 8 = 0 ∨ val x 4 8 ≠ val x 56 8 from .inl c1)]
      exact Ev.now _
    · simp only [if_neg (show ¬ (val x 4 8 : Int) < 1 by omega), if_neg (show ¬ (val x 4 8 = 0 ∨ val x 4 8 ≠ val x 56 8) from fun h => h.elim c1 (fun h => h c2))]
      refine Ev.bind (a := sumOf (x.drop 4)) (refof_ev _ (bytes_drop _ hb _) (by rw [List.length_drop, hl]; decide)) ?_
      simp only [if_pos hs]
      by_cases c3 : (val x 0 4 : Int) = sumOf (x.drop 4)
      · simp only [if_pos c3, if_neg (show ¬ (sumOf (x.drop 4) ≠ (val x 0 4 : Int)) from fun h => h c3.symm)]; exact Ev.now _
      · simp only [if_neg c3, if_pos (show sumOf (x.drop 4) ≠ (val x 0 4 : Int) from fun h => c3 h.symm)]; exact Ev.now _
  · simp only [if_pos (show (val x 4 8 : Int) ≠ (val x 56 8 : Int) by omega), if_pos (show val x 4 8 = 0 ∨ val x 4 8 ≠ val x 56 8 from .inr c2)]
    exact Ev.now _
/-- which is the newest -/
def newA (x y : List Int) : Int × Int :=
  if (getA x).2.2 ≠ 0 ∧ (getA y).2.2 ≠ 0 then (0, 7) else if (getA y).2.2 = 0 ∧ ((getA x).2.2 ≠ 0 ∨ (getA y).1 > (getA x).1) then (1, 0) else (0, 0)
theorem getA_pos (x : List Int) : ((getA x).2.2 = 0 → 0 < (getA x).1) ∧ ((getA x).2.2 ≠ 0 → (getA x).1 = 0) := by
  unfold getA
  split
  · exact ⟨fun h => absurd h (by decide), fun _ => rfl⟩
  · rename_i h1
    split
    · refine ⟨fun _ => ?_, fun h => absurd rfl h⟩
      have : val x 4 8 ≠ 0 := fun h => h1 (.inl h)
      show (0 : Int) < (val x 4 8 : Int)
      omega
    · exact ⟨fun h => absurd h (by decide), fun _ => rfl⟩
theorem new_ev (x y : List Int) (hx : Bytes x) (lx : x.length = 64) (hy : Bytes y) (ly : y.length = 64) : Ev (fun k => seal_Newest.f k x y) (newA x y) := by
  unfold seal_Newest.f newA
  refine Ev.bind (get_ev x hx lx) ?_
  refine Ev.bind (get_ev y hy ly) ?_
  have px := getA_pos x
  have py := getA_pos y
  generalize getA x = p at *
  generalize getA y = q at *
  by_cases c1 : p.2.2 ≠ 0 ∧ q.2.2 ≠ 0
  · simp only [if_pos c1]; exact Ev.now _
  · simp only [if_neg c1]
    by_cases c2 : q.2.2 = 0 ∧ q.1 > p.1
    · simp only [if_pos c2, if_pos (show q.2.2 = 0 ∧ (p.2.2 ≠ 0 ∨ q.1 > p.1) from ⟨c2.1, .inr c2.2⟩)]; exact Ev.now _
    · have c3 : ¬ (q.2.2 = 0 ∧ (p.2.2 ≠ 0 ∨ q.1 > p.1)) := by
        rintro ⟨h1, h2 | h2⟩
        · have := px.2 h2
          have := py.1 h1
          exact c2 ⟨h1, by omega⟩
        · exact c2 ⟨h1, h2⟩
      simp only [if_neg c2, if_neg c3]; exact Ev.now _
theorem refnew_ev (x y : List Int) (hx : Bytes x) (lx : x.length = 64) (hy : Bytes y) (ly : y.length = 64) : Ev (fun k => refNewest.f k x y) (newA x y) := by
  unfold refNewest.f newA
  refine Ev.bind (refget'_ev x hx lx) ?_
  refine Ev.bind (refget'_ev y hy ly) ?_
  generalize getA x = p
  generalize getA y = q
  by_cases c1 : p.2.2 = 0 <;> by_cases c2 : q.2.2 = 0 <;> by_cases c3 : q.1 > p.1 <;> simp only [c1, c2, c3, ne_eq, not_true_eq_false, not_false_eq_true, if_true, if_false, and_true, true_and, and_false, false_and, or_true, true_or, or_false, false_or, and_self, or_self] <;> exact Ev.now _
theorem next_ev (x y : List Int) (hx : Bytes x) (lx : x.length = 64) (hy : Bytes y) (ly : y.length = 64) : ∃ z, Ev (fun k => seal_Next.f k x y) z ∧ Ev (fun k => refNext.f k x y) z := by
  have h7 : (newA x y).2 ≠ 0 → (newA x y).1 = 0 := by
    unfold newA
    split
    · exact fun _ => rfl
    · split
      · exact fun h => absurd rfl h
      · exact fun h => absurd rfl h
  refine ⟨if (newA x y).2 = 0 then wrap64 (1 - (newA x y).1) else 0, ?_, ?_⟩
  · unfold seal_Next.f
    refine Ev.bind (new_ev x y hx lx hy ly) ?_
    by_cases c : (newA x y).2 = 0
    · simp only [if_pos c]; exact Ev.now _
    · simp only [if_neg c, h7 c]; exact Ev.now _
  · unfold refNext.f
    refine Ev.bind (refnew_ev x y hx lx hy ly) ?_
    by_cases c : (newA x y).2 = 0
    · simp only [if_pos c]; exact Ev.now _
    · simp only [if_neg c]; exact Ev.now _
theorem pair_ev (x y : List Int) (hx : Bytes x) (lx : x.length = 64) (hy : Bytes y) (ly : y.length = 64) : ∃ K, ∀ k, K ≤ k → Pair k x y := by
  obtain ⟨K1, e1⟩ := get_ev x hx lx
  obtain ⟨K2, e2⟩ := refget'_ev x hx lx
  obtain ⟨K3, e3⟩ := new_ev x y hx lx hy ly
  obtain ⟨K4, e4⟩ := refnew_ev x y hx lx hy ly
  obtain ⟨z, ⟨K5, e5⟩, ⟨K6, e6⟩⟩ := next_ev x y hx lx hy ly
  rcases hg : getA x with ⟨n, l, e⟩
  rcases hn : newA x y with ⟨p, q⟩
  rw [hg] at e1 e2
  rw [hn] at e3 e4
  exact ⟨K1 + K2 + K3 + K4 + K5 + K6, fun k hk => ⟨lx, ly, n, l, e, p, q, z, e1 k (by omega), e2 k (by omega), e3 k (by omega), e4 k (by omega), e5 k (by omega), e6 k (by omega)⟩⟩
theorem SealGets (x y : List Int) (hx : Bytes x) (lx : x.length = 64) (hy : Bytes y) (ly : y.length = 64) : ∃ k, Pair k x y ∧ Pair k y x := by
  obtain ⟨K1, e1⟩ := pair_ev x y hx lx hy ly
  obtain ⟨K2, e2⟩ := pair_ev y x hy ly hx lx
  exact ⟨K1 + K2, e1 _ (by omega), e2 _ (by omega)⟩
end Go.Proofs.Ythgbipgfplokeaa.Pure
