/- What the printed contracts of instances come to. No condition. -/
import Derived.Test.YthphdhhogdhmeaaGAx2
import Derived.Laws.CopyOwn
import Derived.ChangeKeysEq
import Derived.Deep.RegionHeld3
import Derived.Deep.MidRow
import Derived.Shelf.Abstract
namespace Go.Proofs.Ythphdhhogdhmeaa.GA
open Go.RowKit Go.Shelf Go.Proofs.YthphdhhogdhmeaaW.PrintWords Go.Proofs.YthphdhhogdhmeaaW.PrintLast Go.Proofs.YthphdhhogdhmeaaW.PrintMore
set_option linter.unusedVariables false
set_option linter.unusedSimpArgs false

theorem wrap_ok {n : Int} (h0 : -9223372036854775808 ≤ n) (h1 : n < 9223372036854775808) : wrap64 n = n := by unfold wrap64; omega
theorem rd_drop {l : List S29} {i : Nat} (h : i < l.length) : l.drop i = rd_T29 l (i : Int) :: l.drop (i + 1) := by
  rw [List.drop_eq_getElem_cons h]
  unfold rd_T29
  rw [Int.toNat_natCast, List.getD_eq_getElem?_getD, List.getElem?_eq_getElem h]
  rfl
def tailB (x : S29) : Bool := x.f7 || (x.f8 == 0)
def c1 (x : S29) : Prop := (1 ≤ x.f5 ∧ x.f5 ≤ 9 ∧ x.f6 ≤ 1099511758848 ∧ x.f8 ≤ 1099511758848)
def c0 (x : S29) : Prop := (0 ≤ x.f2 ∧ x.f2 < 64 ∧ 1 ≤ x.f3 ∧ x.f3 ≤ 100 ∧ 1 ≤ x.f5 ∧ x.f5 ≤ 9 ∧ x.f6 ≤ 1099511758848 ∧ x.f8 ≤ 1099511758848)
def cI (x : S29) : Prop := (1 ≤ x.f0 ∧ x.f0 ≤ 4611686018427387904 ∧ x.f1 ≤ 4611686018427387904 ∧ 0 ≤ x.f2 ∧ x.f2 < 64 ∧ 1 ≤ x.f3 ∧ x.f3 ≤ 100 ∧ 1 ≤ x.f5 ∧ x.f5 ≤ 9 ∧ x.f6 ≤ 1099511758848 ∧ x.f8 ≤ 1099511758848)
instance (x : S29) : Decidable (c1 x) := by unfold c1; infer_instance
instance (x : S29) : Decidable (c0 x) := by unfold c0; infer_instance
instance (x : S29) : Decidable (cI x) := by unfold cI; infer_instance
/-- an instance may be -/
def okI (x : S29) : Bool := decide (cI x) && tailB x
theorem leafF {p : Prop} [Decidable p] {t b : Bool} (h : ¬ p) (hb : b = false) : some b = some (decide p && t) := by rw [decide_eq_false h, hb]; rfl
theorem leafT {p : Prop} [Decidable p] {t b : Bool} (h : p) (hb : b = t) : some b = some (decide p && t) := by rw [decide_eq_true h, hb]; rfl
theorem j1_ev (k : Nat) (b : Bool) (x : S29) : inst_May.j1 (k + 1) b x.f0 x.f1 x.f2 x.f3 x.f4 x.f5 x.f6 x.f7 x.f8 x.f9 x.f10 x.f11 = some (!b && (decide (c1 x) && tailB x)) := by
  rw [inst_May.j1]
  cases b
  · rw [if_neg (by decide), Bool.not_false, Bool.true_and]
    (repeat' split) <;> first | exact leafF (by unfold c1; omega) rfl | exact leafT (by unfold c1; omega) (by unfold tailB; rename_i h7; rw [h7]; rfl) | exact leafT (by unfold c1; omega) (by unfold tailB; rename_i h7; rw [(Bool.not_eq_true _).mp h7]; rfl)
  · rw [if_pos rfl]; rfl
theorem leafN {p q : Prop} [Decidable p] [Decidable q] {t : Bool} {r : Prop} [Decidable r] (h : p ↔ (¬ r ∧ q)) : some (!decide r && (decide q && t)) = some (decide p && t) := by
  rcases Decidable.em r with hr | hr <;> rcases Decidable.em q with hq | hq
  · rw [decide_eq_true hr, decide_eq_false (fun x => (h.1 x).1 hr)]; rfl
  · rw [decide_eq_true hr, decide_eq_false (fun x => (h.1 x).1 hr)]; rfl
  · rw [decide_eq_false hr, decide_eq_true hq, decide_eq_true (h.2 ⟨hr, hq⟩)]; rfl
  · rw [decide_eq_false hr, decide_eq_false hq, decide_eq_false (fun x => hq (h.1 x).2)]; rfl
theorem j0_ev (k : Nat) (b : Bool) (x : S29) : inst_May.j0 (k + 2) b x.f0 x.f1 x.f2 x.f3 x.f4 x.f5 x.f6 x.f7 x.f8 x.f9 x.f10 x.f11 = some (!b && (decide (c0 x) && tailB x)) := by
  rw [inst_May.j0]
  simp only [j1_ev]
  cases b
  · rw [if_neg (by decide), Bool.not_false, Bool.true_and]
    (repeat' split) <;> first | exact leafF (by unfold c0; omega) rfl | exact leafN (by unfold c0 c1; omega)
  · rw [if_pos rfl]; rfl
theorem iMay_ev (k : Nat) (x : S29) : inst_May.f (k + 2) x.f0 x.f1 x.f2 x.f3 x.f4 x.f5 x.f6 x.f7 x.f8 x.f9 x.f10 x.f11 = some (okI x) := by
  unfold inst_May.f okI
  simp only [j0_ev]
  (repeat' split) <;> first | exact leafF (by unfold cI; omega) rfl | exact leafN (by unfold cI c0; omega)
/-- from one on: all may be, and rise -/
def mayFrom : Int → List S29 → Bool
  | _, [] => true
  | last, x :: r => decide (last < x.f0) && (okI x && mayFrom x.f0 r)
def mayL (l : List S29) : Bool := decide (l.length ≤ 4096) && mayFrom 0 l
theorem may_l0 (l : List S29) (hl : l.length ≤ 4096) : ∀ (k i : Nat) (last : Int), i ≤ l.length → l.length - i ≤ k → sums_May.l0 (k + 3) last l (l.length : Int) (i : Int) = some (mayFrom last (l.drop i)) := by
  intro k
  induction k with
  | zero =>
    intro i last hi hk
    obtain rfl : i = l.length := by omega
    rw [sums_May.l0, if_neg (by omega), List.drop_length]; rfl
  | succ k ih =>
    intro i last hi hk
    by_cases hlt : i < l.length
    · rw [sums_May.l0, if_pos (by omega), if_pos (by omega), if_pos (by omega), rd_drop hlt, mayFrom]
      by_cases h1 : (rd_T29 l (i : Int)).f0 ≤ last
      · rw [if_pos h1, decide_eq_false (by omega)]; rfl
      · rw [if_neg h1, iMay_ev (k + 1), decide_eq_true (by omega), Option.bind_some, Bool.true_and]
        cases h2 : okI (rd_T29 l (i : Int))
        · rw [if_neg (by decide)]; rfl
        · rw [if_pos rfl, wrap_ok (by omega) (by omega), show (i : Int) + 1 = ((i + 1 : Nat) : Int) by omega, ih (i + 1) _ (by omega) (by omega)]; rfl
    · obtain rfl : i = l.length := by omega
      rw [sums_May.l0, if_neg (by omega), List.drop_length]; rfl
theorem may_ev (l : List S29) : sums_May.f (l.length + 3) l = some (mayL l) := by
  unfold sums_May.f mayL
  by_cases h : (l.length : Int) > 4096
  · rw [if_pos h, decide_eq_false (by omega)]; rfl
  · rw [if_neg h, decide_eq_true (by omega)]
    exact may_l0 l (by omega) l.length 0 0 (by omega) (by omega)
theorem May.calls (A : Option Addr) (c : Nat) (l : List S29) (w : World) (hl : Kd.C k29 w A l.length l) (hc : l.length ≤ c) : Calls Try.prog 4 #[.slice A l.length c] w fun e w' => e = .returned (.bool (mayL l)) ∧ Below w.heap.size w w' :=
  sums_May.calls (l.length + 3) A c l _ w hl hc (may_ev l)


theorem info42s : (Try.prog.info? 29).map (·.size) = some 12 := by kernel_rfl
end Go.Proofs.Ythphdhhogdhmeaa.GA
