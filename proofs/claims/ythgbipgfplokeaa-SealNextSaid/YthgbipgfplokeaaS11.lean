import Derived.Test.YthgbipgfplokeaaS10
import Derived.ChangeKeysEq
namespace Go.Proofs.Ythgbipgfplokeaa.GA
open Go.RowKit Go.Proofs.YthgbipgfplokeaaW.PrintWords Go.Proofs.YthgbipgfplokeaaW.PrintLast Go.Proofs.YthgbipgfplokeaaW.PrintMore
set_option linter.unusedVariables false
set_option linter.unusedSimpArgs false

theorem eqItems_b (d : Nat) (a b : List Int) (ha : a.length = 64) (hb : b.length = 64) (w : World) : ∀ is : List Nat, (∀ i ∈ is, i < 64) →
    (Op.eqItems (d + 1) 5 1 (bcells a) (bcells b) is).run Try.prog w = .ok (is.all fun i => rd a (i : Int) == rd b (i : Int)) w
  | [], _ => by simp [Op.eqItems]
  | i :: is, h => by
    have hi : i < 64 := h i (List.mem_cons_self ..)
    have pa : (part 5 (bcells a) (i * 1)).run Try.prog w = .ok (.int .u8 (rd a (i : Int))) w := run_part_plain w (by kernel_rfl) (by rw [Nat.mul_one]; exact bcells_get a i (by omega))
    have pb : (part 5 (bcells b) (i * 1)).run Try.prog w = .ok (.int .u8 (rd b (i : Int))) w := run_part_plain w (by kernel_rfl) (by rw [Nat.mul_one]; exact bcells_get b i (by omega))
    have ih := eqItems_b d a b ha hb w is (fun j hj => h j (List.mem_cons_of_mem _ hj))
    have pe : (Op.equalIn (d + 1) 5 (.int .u8 (rd a (i : Int))) (.int .u8 (rd b (i : Int)))).run Try.prog w = .ok (rd a (i : Int) == rd b (i : Int)) w := run_equalIn_int (w := w) d 5 .u8 .u8 _ _ Try.underlying5
    simp only [Op.eqItems, Sem.run_bind, pa, pb, pe, Result.andThen_ok, List.all_cons]
    cases hq : (rd a (i : Int) == rd b (i : Int))
    · simp
    · simpa using ih
theorem all_rd (a b : List Int) (ha : a.length = 64) (hb : b.length = 64) : ((List.range 64).all fun i => rd a (i : Int) == rd b (i : Int)) = decide (a = b) := by
  by_cases h : a = b
  · subst h
    simp
  · rw [decide_eq_false h]
    apply Bool.eq_false_iff.2
    intro hall
    apply h
    rw [List.all_eq_true] at hall
    apply List.ext_getElem (by omega)
    intro i h1 h2
    have := hall i (List.mem_range.2 (by omega))
    simp only [beq_iff_eq] at this
    unfold rd at this
    rw [Int.toNat_natCast, List.getD_eq_getElem?_getD, List.getD_eq_getElem?_getD, List.getElem?_eq_getElem h1, List.getElem?_eq_getElem h2] at this
    exact this
theorem eqArr (d : Nat) (a b : List Int) (ha : a.length = 64) (hb : b.length = 64) (w : World) : (Op.equalIn (d + 2) 26 (.agg (bcells a)) (.agg (bcells b))).run Try.prog w = .ok (decide (a = b)) w := by
  obtain ⟨i, hi, _⟩ := info_parts info5
  rw [run_equalIn_array (P := Try.prog) w (d + 1) (n := 64) (e := 5) (bcells a) (bcells b) Try.underlying26 hi, show Try.prog.cellsOf 5 = 1 by kernel_rfl, eqItems_b d a b ha hb w _ (fun i hi => List.mem_range.1 hi), all_rd a b ha hb]
end Go.Proofs.Ythgbipgfplokeaa.GA
