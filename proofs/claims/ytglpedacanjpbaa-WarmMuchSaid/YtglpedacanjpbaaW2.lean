/- The warm pool. No condition. -/
import Derived.Test.YtglpedacanjpbaaW1
import Derived.Laws.CopyOwn
import Derived.ChangeKeysEq
import Derived.Deep.RegionHeld3
import Derived.Deep.MidRow
import Derived.Shelf.Abstract
namespace Go.Proofs.Ytglpedacanjpbaa.GA
open Go.RowKit Go.Shelf Go.Proofs.YtglpedacanjpbaaW.PrintWords Go.Proofs.YtglpedacanjpbaaW.PrintLast Go.Proofs.YtglpedacanjpbaaW.PrintMore
set_option linter.unusedVariables false
set_option linter.unusedSimpArgs false

/-- function g, with what it holds, tells p of an instance, whatever is added to the world -/
def Tells (g : Nat) (caps : Array Value) (p : S42 → Bool) (w : World) : Prop := ∀ (W : World) (x : S42), Below w.heap.size w W → Calls Try.prog g (#[.agg #[.int .u64 x.f0, .int .u64 x.f1, .int .i64 x.f2, .int .i64 x.f3, .bool x.f4, .int .u8 x.f5, .int .u64 x.f6, .bool x.f7, .int .u64 x.f8, .bool x.f9, .bool x.f10, .int .u32 x.f11]] ++ caps) W fun e w' => e = .returned (.bool (p x)) ∧ Below W.heap.size W w'
theorem Tells.below {g : Nat} {caps : Array Value} {p : S42 → Bool} {w w' : World} (h : Tells g caps p w) (hb : Below w.heap.size w w') : Tells g caps p w' := fun W x hW => h W x (hb.trans (hW.mono hb.size))
theorem Tells.at {g : Nat} {caps : Array Value} {p : S42 → Bool} {w : World} (h : Tells g caps p w) (W : World) (x : S42) (hW : Below w.heap.size w W) : Calls Try.prog g (#[.agg #[.int .u64 x.f0, .int .u64 x.f1, .int .i64 x.f2, .int .i64 x.f3, .bool x.f4, .int .u8 x.f5, .int .u64 x.f6, .bool x.f7, .int .u64 x.f8, .bool x.f9, .bool x.f10, .int .u32 x.f11]] ++ caps) W fun e w' => e = .returned (.bool (p x)) ∧ Below W.heap.size W w' := h W x hW
/-- the place of the first that it holds of; at the end: the length -/
def firstAt (p : S42 → Bool) : List S42 → Nat
  | [] => 0
  | x :: r => if p x = true then 0 else firstAt p r + 1
theorem firstAt_le (p : S42 → Bool) : ∀ l : List S42, firstAt p l ≤ l.length
  | [] => Nat.le_refl _
  | x :: r => by unfold firstAt; split <;> simp; have := firstAt_le p r; omega
def firstI (p : S42 → Bool) (l : List S42) : Int := if firstAt p l < l.length then (firstAt p l : Int) else -1

set_option maxHeartbeats 8000000 in
set_option maxRecDepth 100000 in
theorem IndexFunc.calls (A : Option Addr) (c : Nat) (l : List S42) (g : Nat) (caps : Array Value) (p : S42 → Bool) (w : World) (hl : Kd.C k42 w A l.length l) (hc : l.length ≤ c) (hm : l.length < 9223372036854775807) (eg : ∀ args w, (callFunc g args).run Try.prog w = .ok (.enter g args) w) (hp : Tells g caps p w) :
    Calls Try.prog 23 #[.slice A l.length c, .func (.func g) #[] caps] w fun e w' => e = .returned (.int .i64 (firstI p l)) ∧ Below w.heap.size w w' := by
  have HL := Aside0.mk hl
  have HP : Aside0 (Tells g caps p w) := Aside0.mk hp
  have HM := Aside0.mk hm
  clear hl hp hm
  have hu42 := Try.underlying42
  have HB := Aside0.mk (Below.refl w.heap.size w)
  go_enter Try.func23, Try.ntmps23
  go_wp2
  go_loopw [8] (fun v8 w' => ∃ k : Nat, k ≤ l.length ∧ v8 = .int .i64 k ∧ Aside0 (firstAt p l = k + firstAt p (l.drop k)) ∧ Aside0 (Below w.heap.size w w')) (fun v8 _ => l.length - (intOf v8).toNat)
  case atStart => exact ⟨0, Nat.zero_le _, rfl, ⟨by rw [List.drop_zero, Nat.zero_add]⟩, HB⟩
  case round =>
    clear HB
    obtain ⟨k, hk, rfl, HF, HB⟩ := hrel
    by_cases hlt : k < l.length
    · have i1 : (0 : Int) ≤ (k : Int) := by omega
      have i2 : (k : Int) < (l.length : Int) := by omega
      obtain ⟨ad, e, x0, x1, x2, x3, x4, x5, x6, x7, x8, x9, x10, x11⟩ := at_T42 (Kd.C_below HL.out HB.out) (k : Int) (by omega) (by omega)
      cases e
      simp only [Int.toNat_natCast] at x0 x1 x2 x3 x4 x5 x6 x7 x8 x9 x10 x11
      have HD : Aside0 (l.drop k = rd_T42 l (k : Int) :: l.drop (k + 1)) := ⟨rd_drop hlt⟩
      obtain ⟨px, hpx⟩ : ∃ px, p (rd_T42 l (k : Int)) = px := ⟨_, rfl⟩
      have PX := Aside0.mk hpx
      clear hpx
      cases px
      · go_wp2_with (go_at_fn g; with_reducible refine (HP.out.at _ _ HB.out).mono ?_; rw [PX.out]; rintro e w' ⟨rfl, hb⟩; have n0_ := Aside0.mk (below_step (by repeat (first | (with_reducible first | exact HB.out | apply below_alloc | apply pw_below_drewN | apply below_drew1) | exact HB.out)) hb); clear HB; have HB := n0_; clear n0_ hb)
        go_roundw
        case rel => exact ⟨k + 1, by omega, by first | (simp; done) | (rw [wrap_ok (by omega) (by have := HM.out; omega)]; simp), ⟨by rw [HF.out, HD.out, firstAt, if_neg (by rw [PX.out]; decide)]; omega⟩, HB⟩
        case measure => rw [wrap_ok (by omega) (by have := HM.out; omega)]; simp [intOf]; omega
      · go_wp2_with (go_at_fn g; with_reducible refine (HP.out.at _ _ HB.out).mono ?_; rw [PX.out]; rintro e w' ⟨rfl, hb⟩; have n0_ := Aside0.mk (below_step (by repeat (first | (with_reducible first | exact HB.out | apply below_alloc | apply pw_below_drewN | apply below_drew1) | exact HB.out)) hb); clear HB; have HB := n0_; clear n0_ hb)
        go_ret
        exact ⟨by rw [firstI, HF.out, HD.out, firstAt, if_pos PX.out, Nat.add_zero, if_pos hlt]; rfl, HB.out⟩
    · obtain rfl : k = l.length := by omega
      go_wp2
      go_ret
      exact ⟨by rw [firstI, HF.out, List.drop_length, firstAt, Nat.add_zero, if_neg (Nat.lt_irrefl _)]; rfl, HB.out⟩

end Go.Proofs.Ytglpedacanjpbaa.GA
