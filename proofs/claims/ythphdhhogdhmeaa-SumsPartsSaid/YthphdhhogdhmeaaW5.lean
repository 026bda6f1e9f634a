/- The launches that are open. No condition. -/
import Derived.Test.YthphdhhogdhmeaaW1
import Derived.Laws.CopyOwn
import Derived.ChangeKeysEq
import Derived.Deep.RegionHeld3
import Derived.Deep.MidRow
import Derived.Shelf.Abstract
import Derived.RangeFuncNested
import Derived.RangeFuncBound
import Derived.RangeFuncLeaves
import Derived.OwnWalkIn
import Derived.TacticsInMore
import Derived.LoopNIn
import Derived.LoopIn
namespace Go.Proofs.Ythphdhhogdhmeaa.GA
open Go.RowKit Go.Shelf Go.Proofs.YthphdhhogdhmeaaW.PrintWords Go.Proofs.YthphdhhogdhmeaaW.PrintLast Go.Proofs.YthphdhhogdhmeaaW.PrintMore
set_option linter.unusedVariables false
set_option linter.unusedSimpArgs false

attribute [local go_sem] Oper.semAt_some
theorem below_alloc' {B : Nat} {w : World} (o : Obj) (h : B ≤ w.heap.size) : Below B w (w.alloc o) := (Below.refl B w).alloc h o
/-- may a launch be asked for so? -/
def isL (x : S33) : Bool := (x.f0.f0 == 1) && (decide (1 ≤ x.f2) && decide (x.f2 ≤ 100))
def lset (l : List S33) : List S33 := l.filter isL
theorem lset_le (l : List S33) : (lset l).length ≤ l.length := List.length_filter_le _ _
theorem rd69_take {l : List S33} {k : Nat} (h : k < l.length) : l.take (k + 1) = l.take k ++ [rd_T33 l (k : Int)] := by
  rw [List.take_add_one, List.getElem?_eq_getElem h]
  unfold rd_T33
  rw [Int.toNat_natCast, List.getD_eq_getElem?_getD, List.getElem?_eq_getElem h]
  rfl
theorem lset_yes {l : List S33} {k : Nat} (h : k < l.length) (hi : isL (rd_T33 l (k : Int)) = true) : lset (l.take (k + 1)) = lset (l.take k) ++ [rd_T33 l (k : Int)] := by
  unfold lset
  rw [rd69_take h, List.filter_append, List.filter_cons, if_pos hi]; rfl
theorem lset_no {l : List S33} {k : Nat} (h : k < l.length) (hi : ¬ isL (rd_T33 l (k : Int)) = true) : lset (l.take (k + 1)) = lset (l.take k) := by
  unfold lset
  rw [rd69_take h, List.filter_append, List.filter_cons, if_neg hi, List.filter_nil, List.append_nil]
theorem lset_len (l : List S33) (k : Nat) : (lset (l.take k)).length ≤ k := Nat.le_trans (lset_le _) (by rw [List.length_take]; omega)

set_option maxHeartbeats 8000000 in
set_option maxRecDepth 100000 in
theorem launches1_in (F : Fence) (n : Nat) (h34 : F.fn 21) (hro : F.round = none) (hn : 1 ≤ n) (l Bs n₀ : Nat) (A : Option Addr) (c : Nat) (lo : List S33) (hm : lo.length ≤ 4096) (J Jx : List S33 → World → Prop)
    (hY : ∀ pre x W, J pre W → pre.length < lo.length → YieldAt F (n - 1) Try.prog l #[.agg #[.int .u8 x.f0.f0, .int .u64 x.f0.f1, .int .i64 x.f0.f2, .bool x.f0.f3, .int .u64 x.f0.f4, .int .u64 x.f1, .int .i64 x.f2, .bool x.f3, .int .u32 x.f4]] W fun e W' =>
      (e = .returned (.bool true) ∧ J (pre ++ [x]) W' ∧ Below n₀ W W') ∨ (e = .returned (.bool false) ∧ Jx (pre ++ [x]) W'))
    (W : World) (hBs : W.cell? ⟨Bs, 0, none⟩ = some (.slice A lo.length c)) (w0 : World) (hw0 : Below n₀ w0 W) (hn0 : n₀ = w0.heap.size) (hl : Kd.C k33 w0 A lo.length lo) (h0 : J [] W) (hJ : AbidesFrom W.heap.size J) :
    CallsIn F n Try.prog 21 #[.func (.yield l) #[] #[], .pointer (some ⟨Bs, 0, none⟩)] W fun e W' => (∃ v, e = .returned v) ∧
      ((∃ ys, ys = lset lo ∧ J ys W') ∨ (∃ pre, True ∧ Jx pre W')) := by
  have HL := Aside0.mk hl
  have HM := Aside0.mk hm
  have HW0 : Aside0 (Below w0.heap.size w0 W) := ⟨by rw [← hn0]; exact hw0⟩
  subst hn0
  clear hl hm hw0
  refine callsIn_of_wp Try.func21 rfl h34 ?_ hro
  simp only [Try.ntmps21, List.size_toArray, List.length_cons, List.length_nil, Nat.reduceAdd, Nat.reduceSub, Array.replicate_succ, Array.replicate_zero, List.push_toArray, List.append_toArray, List.nil_append, List.cons_append]
  gi_wp2
  gi_loopw [3, 8] (fun m i wr => ∃ k : Nat, k ≤ lo.length ∧ i = .int .i64 k ∧ m = .int .i64 ((lset (lo.take k)).length : Nat) ∧ Aside0 (J (lset (lo.take k)) wr) ∧ Aside0 (Below w0.heap.size W wr))
    (fun _ i _ => lo.length - (intOf i).toNat)
  case atStart => exact ⟨0, Nat.zero_le _, rfl, rfl, ⟨h0⟩, ⟨Below.refl _ _⟩⟩
  case round =>
    obtain ⟨k, hk, rfl, rfl, HJ, HB⟩ := hrel
    by_cases hlt : k < lo.length
    · have i1 : (0 : Int) ≤ (k : Int) := by omega
      have i2 : (k : Int) < (lo.length : Int) := by omega
      obtain ⟨ad, e, x0, x1, x2, x3, x4, x5, x6, x7, x8⟩ := at_T33 (Kd.C_below HL.out (HW0.out.trans HB.out)) (k : Int) (by omega) (by omega)
      cases e
      simp only [Int.toNat_natCast] at x0 x1 x2 x3 x4 x5 x6 x7 x8
      by_cases hi : isL (rd_T33 lo (k : Int)) = true
      · have HI := Aside0.mk hi
        unfold isL at hi
        obtain ⟨h1, h2⟩ := Bool.and_eq_true_iff.1 hi
        obtain ⟨h3, h4⟩ := Bool.and_eq_true_iff.1 h2
        have h1' : (rd_T33 lo (k : Int)).f0.f0 = 1 := by simpa using h1
        have h3' := of_decide_eq_true h3
        have h4' := of_decide_eq_true h4
        have d3 : decide ((rd_T33 lo (k : Int)).f2 < 1) = false := decide_eq_false (by omega)
        have d4 : decide (100 < (rd_T33 lo (k : Int)).f2) = false := decide_eq_false (by omega)
        have b1 : ((rd_T33 lo (k : Int)).f0.f0 != 1) = false := by rw [h1']; rfl
        have hle := lset_len lo k
        have hlen : (lset (lo.take k)).length < lo.length := by omega
        have hm := HM.out
        have hj1 : J (lset (lo.take k)) (wr.alloc (.cells #[.int .u8 1, .int .u64 (rd_T33 lo (k : Int)).f0.f1, .int .i64 (rd_T33 lo (k : Int)).f0.f2, .bool (rd_T33 lo (k : Int)).f0.f3, .int .u64 (rd_T33 lo (k : Int)).f0.f4, .int .u64 (rd_T33 lo (k : Int)).f1, .int .i64 (rd_T33 lo (k : Int)).f2, .bool (rd_T33 lo (k : Int)).f3, .int .u32 (rd_T33 lo (k : Int)).f4] 33)) := hJ _ _ _ none HJ.out (World.grownBy_alloc _ _ none) (fun r e => by cases e)
        obtain ⟨fn, tmps, assign, body, hy, hR⟩ := hY (lset (lo.take k)) (rd_T33 lo (k : Int)) (wr.alloc (.cells #[.int .u8 1, .int .u64 (rd_T33 lo (k : Int)).f0.f1, .int .i64 (rd_T33 lo (k : Int)).f0.f2, .bool (rd_T33 lo (k : Int)).f0.f3, .int .u64 (rd_T33 lo (k : Int)).f0.f4, .int .u64 (rd_T33 lo (k : Int)).f1, .int .i64 (rd_T33 lo (k : Int)).f2, .bool (rd_T33 lo (k : Int)).f3, .int .u32 (rd_T33 lo (k : Int)).f4] 33)) hj1 hlen
        rw [h1'] at hy
        have hnext := lset_yes hlt HI.out
        have HN := Aside0.mk hnext
        clear hnext HI hi h1 h2 h3 h4 hY
        have hwr : wrap64 (((lset (lo.take k)).length : Int) + 1) = ((lset (lo.take k)).length : Int) + 1 := wrap_ok (by omega) (by omega)
        have d5 : decide ((4096 : Int) < ((lset (lo.take k)).length : Int) + 1) = false := decide_eq_false (by omega)
        have HLE := Aside0.mk hle
        clear hle hm
        gi_wp2
        refine hR.mono ?_
        rintro e W3 (⟨rfl, hJ3, hk3⟩ | ⟨rfl, hJx3⟩)
        · gi_wp2
          go_roundw
          case rel => exact ⟨k + 1, by omega, by rw [wrap_ok (by omega) (by have := HM.out; omega)]; simp, by rw [HN.out, List.length_append]; simp, ⟨by rw [HN.out]; exact hJ3⟩, ⟨HB.out.trans ((below_alloc' _ (Nat.le_trans HW0.out.size HB.out.size)).trans hk3)⟩⟩
          case measure => rw [wrap_ok (by omega) (by have := HM.out; omega)]; simp [intOf]; omega
        · gi_wp2
          refine bodyPost_ret (results_none rfl _ _ _) rfl ?_
          exact ⟨⟨_, rfl⟩, .inr ⟨_, trivial, hJx3⟩⟩
      · have hnext := lset_no hlt hi
        have HN := Aside0.mk hnext
        have HI := Aside0.mk hi
        clear hnext hi hY
        have hfin : ∀ wr' : World, J (lset (lo.take k)) wr' → Below w0.heap.size W wr' → (∃ k_1 : Nat, k_1 ≤ lo.length ∧ Value.int IntKind.i64 (wrap64 ((k : Int) + 1)) = .int .i64 k_1 ∧ Value.int IntKind.i64 ((lset (lo.take k)).length : Int) = .int .i64 ((lset (lo.take k_1)).length : Nat) ∧ Aside0 (J (lset (lo.take k_1)) wr') ∧ Aside0 (Below w0.heap.size W wr')) := fun wr' h1 h2 => ⟨k + 1, by omega, by rw [wrap_ok (by omega) (by have := HM.out; omega)]; simp, by rw [HN.out], ⟨by rw [HN.out]; exact h1⟩, ⟨h2⟩⟩
        by_cases h1 : (rd_T33 lo (k : Int)).f0.f0 = 1
        · have b1 : ((rd_T33 lo (k : Int)).f0.f0 != 1) = false := by rw [h1]; rfl
          by_cases h2 : (rd_T33 lo (k : Int)).f2 < 1
          · have d2 := decide_eq_true h2
            gi_wp2
            go_roundw
            case rel => exact hfin _ (hJ _ _ _ none HJ.out (World.grownBy_alloc _ _ none) (fun r e => by cases e)) (HB.out.trans (below_alloc' _ (Nat.le_trans HW0.out.size HB.out.size)))
            case measure => rw [wrap_ok (by omega) (by have := HM.out; omega)]; simp [intOf]; omega
          · have d2 := decide_eq_false h2
            have h3 : 100 < (rd_T33 lo (k : Int)).f2 := by
              refine Int.not_le.1 fun h3 => HI.out ?_
              unfold isL
              rw [h1, decide_eq_true h3, decide_eq_true (show 1 ≤ (rd_T33 lo (k : Int)).f2 by omega)]
              rfl
            have d3 := decide_eq_true h3
            gi_wp2
            go_roundw
            case rel => exact hfin _ (hJ _ _ _ none HJ.out (World.grownBy_alloc _ _ none) (fun r e => by cases e)) (HB.out.trans (below_alloc' _ (Nat.le_trans HW0.out.size HB.out.size)))
            case measure => rw [wrap_ok (by omega) (by have := HM.out; omega)]; simp [intOf]; omega
        · have b1 : ((rd_T33 lo (k : Int)).f0.f0 != 1) = true := bne_iff_ne.2 h1
          have b2 : ((rd_T33 lo (k : Int)).f0.f0 == 1) = false := by simpa using h1
          gi_wp2
          go_roundw
          case rel => exact hfin _ (hJ _ _ _ none HJ.out (World.grownBy_alloc _ _ none) (fun r e => by cases e)) (HB.out.trans (below_alloc' _ (Nat.le_trans HW0.out.size HB.out.size)))
          case measure => rw [wrap_ok (by omega) (by have := HM.out; omega)]; simp [intOf]; omega
    · obtain rfl : k = lo.length := by omega
      gi_wp2
      go_end0
      exact ⟨⟨_, rfl⟩, .inl ⟨_, by rw [List.take_length], HJ.out⟩⟩

end Go.Proofs.Ythphdhhogdhmeaa.GA
