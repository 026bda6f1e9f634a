/- Functions over requests. No condition. -/
import Derived.Test.YtfhopjigdkjnoaaK1
import Derived.Laws.CopyOwn
import Derived.Laws.CopyRow
import Derived.ChangeKeysEq
import Derived.Deep.RegionHeld3
import Derived.Deep.MidRow
import Derived.Shelf.Abstract
import Derived.Maps.OwnSet
import Derived.Maps.AppendAt
import Derived.WalkSpells
namespace Go.Proofs.Ytfhopjigdkjnoaa.GA
open Go.RowKit Go.Shelf Go.Proofs.YtfhopjigdkjnoaaW.PrintWords Go.Proofs.YtfhopjigdkjnoaaW.PrintLast Go.Proofs.YtfhopjigdkjnoaaW.PrintMore
set_option linter.unusedVariables false
set_option linter.unusedSimpArgs false

theorem wrap_ok {x : Int} (h0 : -9223372036854775808 ≤ x) (h1 : x < 9223372036854775808) : wrap64 x = x := by unfold wrap64; omega
/-- blocks of memory that a function's value looks at -/
def Sees (F : List (Nat × Obj)) (W : World) : Prop := ∀ p ∈ F, W.heap[p.1]? = some p.2
theorem Sees.below {F : List (Nat × Obj)} {w w' : World} (h : Sees F w) (hb : Below w.heap.size w w') : Sees F w' := fun p hp => by
  have h1 := h p hp
  rw [hb.block p.1 (Array.getElem?_eq_some_iff.1 h1).1]
  exact h1
theorem Sees.kept {F : List (Nat × Obj)} {w w' : World} (h : Sees F w) (hk : ∀ p ∈ F, w'.heap[p.1]? = w.heap[p.1]?) : Sees F w' := fun p hp => (hk p hp).trans (h p hp)
/-- function g, with what it holds, tells p of a request -/
def Tells (g : Nat) (caps : Array Value) (p : S27 → Bool) (F : List (Nat × Obj)) : Prop := ∀ (W : World) (x : S27), Sees F W → Calls Try.prog g (#[.agg #[.int .u8 x.f0, .int .u64 x.f1, .int .i64 x.f2, .bool x.f3, .int .u64 x.f4]] ++ caps) W fun e w' => e = .returned (.bool (p x)) ∧ Below W.heap.size W w'
theorem Tells.at {g : Nat} {caps : Array Value} {p : S27 → Bool} {F : List (Nat × Obj)} (h : Tells g caps p F) (W : World) (x : S27) (hW : Sees F W) : Calls Try.prog g (#[.agg #[.int .u8 x.f0, .int .u64 x.f1, .int .i64 x.f2, .bool x.f3, .int .u64 x.f4]] ++ caps) W fun e w' => e = .returned (.bool (p x)) ∧ Below W.heap.size W w' := h W x hW
/-- the place of the first that it holds of; at the end: the length -/
def firstAt (p : S27 → Bool) : List S27 → Nat
  | [] => 0
  | x :: r => if p x = true then 0 else firstAt p r + 1
theorem firstAt_le (p : S27 → Bool) : ∀ l : List S27, firstAt p l ≤ l.length
  | [] => Nat.le_refl _
  | x :: r => by unfold firstAt; split <;> simp; have := firstAt_le p r; omega
def firstI (p : S27 → Bool) (l : List S27) : Int := if firstAt p l < l.length then (firstAt p l : Int) else -1
theorem rd_drop {l : List S27} {k : Nat} (hk : k < l.length) : l.drop k = rd_T27 l (k : Int) :: l.drop (k + 1) := by
  unfold rd_T27
  rw [Int.toNat_natCast, List.drop_eq_getElem_cons hk]
  simp [hk]
theorem enters18 : ∀ args w, (callFunc 18 args).run Try.prog w = .ok (.enter 18 args) w := enters_of Try.func18 (by kernel_rfl) rfl
theorem enters40 : ∀ args w, (callFunc 40 args).run Try.prog w = .ok (.enter 40 args) w := enters_of Try.func40 (by kernel_rfl) rfl
theorem enters43 : ∀ args w, (callFunc 43 args).run Try.prog w = .ok (.enter 43 args) w := enters_of Try.func43 (by kernel_rfl) rfl
theorem enters44 : ∀ args w, (callFunc 44 args).run Try.prog w = .ok (.enter 44 args) w := enters_of Try.func44 (by kernel_rfl) rfl

set_option maxHeartbeats 8000000 in
set_option maxRecDepth 100000 in
theorem IndexFunc.calls (A : Option Addr) (c : Nat) (l : List S27) (g : Nat) (caps : Array Value) (p : S27 → Bool) (F : List (Nat × Obj)) (w : World) (hl : Kd.C k27 w A l.length l) (hc : l.length ≤ c) (hm : l.length < 9223372036854775807) (eg : ∀ args w, (callFunc g args).run Try.prog w = .ok (.enter g args) w) (hp : Tells g caps p F) (hF : Sees F w) :
    Calls Try.prog 27 #[.slice A l.length c, .func (.func g) #[] caps] w fun e w' => e = .returned (.int .i64 (firstI p l)) ∧ Below w.heap.size w w' := by
  have HL := Aside0.mk hl
  have HP : Aside0 (Tells g caps p F) := Aside0.mk hp
  have HF0 : Aside0 (Sees F w) := Aside0.mk hF
  have HM := Aside0.mk hm
  clear hl hp hm hF
  have HB := Aside0.mk (Below.refl w.heap.size w)
  go_enter Try.func27, Try.ntmps27
  go_wp2
  go_loopw [8] (fun v8 w' => ∃ k : Nat, k ≤ l.length ∧ v8 = .int .i64 k ∧ Aside0 (firstAt p l = k + firstAt p (l.drop k)) ∧ Aside0 (Below w.heap.size w w')) (fun v8 _ => l.length - (intOf v8).toNat)
  case atStart => exact ⟨0, Nat.zero_le _, rfl, ⟨by rw [List.drop_zero, Nat.zero_add]⟩, HB⟩
  case round =>
    clear HB
    obtain ⟨k, hk, rfl, HF, HB⟩ := hrel
    by_cases hlt : k < l.length
    · have i1 : (0 : Int) ≤ (k : Int) := by omega
      have i2 : (k : Int) < (l.length : Int) := by omega
      obtain ⟨ad, e, x0, x1, x2, x3, x4⟩ := at_T27 (Kd.C_below HL.out HB.out) (k : Int) (by omega) (by omega)
      cases e
      simp only [Int.toNat_natCast] at x0 x1 x2 x3 x4
      have HD : Aside0 (l.drop k = rd_T27 l (k : Int) :: l.drop (k + 1)) := ⟨rd_drop hlt⟩
      obtain ⟨px, hpx⟩ : ∃ px, p (rd_T27 l (k : Int)) = px := ⟨_, rfl⟩
      have PX := Aside0.mk hpx
      clear hpx
      cases px
      · go_wp2_with (go_at_fn g; with_reducible refine (HP.out.at _ _ (HF0.out.below HB.out)).mono ?_; rw [PX.out]; rintro e w' ⟨rfl, hb⟩; have n0_ := Aside0.mk (below_step (by repeat (first | (with_reducible first | exact HB.out | apply below_alloc | apply pw_below_drewN | apply below_drew1) | exact HB.out)) hb); clear HB; have HB := n0_; clear n0_ hb)
        go_roundw
        case rel => exact ⟨k + 1, by omega, by first | (simp; done) | (rw [wrap_ok (by omega) (by have := HM.out; omega)]; simp), ⟨by rw [HF.out, HD.out, firstAt, if_neg (by rw [PX.out]; decide)]; omega⟩, HB⟩
        case measure => rw [wrap_ok (by omega) (by have := HM.out; omega)]; simp [intOf]; omega
      · go_wp2_with (go_at_fn g; with_reducible refine (HP.out.at _ _ (HF0.out.below HB.out)).mono ?_; rw [PX.out]; rintro e w' ⟨rfl, hb⟩; have n0_ := Aside0.mk (below_step (by repeat (first | (with_reducible first | exact HB.out | apply below_alloc | apply pw_below_drewN | apply below_drew1) | exact HB.out)) hb); clear HB; have HB := n0_; clear n0_ hb)
        go_ret
        exact ⟨by rw [firstI, HF.out, HD.out, firstAt, if_pos PX.out, Nat.add_zero, if_pos hlt]; rfl, HB.out⟩
    · obtain rfl : k = l.length := by omega
      go_wp2
      go_ret
      exact ⟨by rw [firstI, HF.out, List.drop_length, firstAt, Nat.add_zero, if_neg (Nat.lt_irrefl _)]; rfl, HB.out⟩

set_option maxHeartbeats 8000000 in
set_option maxRecDepth 100000 in
theorem ContainsFunc.calls (A : Option Addr) (c : Nat) (l : List S27) (g : Nat) (caps : Array Value) (p : S27 → Bool) (F : List (Nat × Obj)) (w : World) (hl : Kd.C k27 w A l.length l) (hc : l.length ≤ c) (hm : l.length < 9223372036854775807) (eg : ∀ args w, (callFunc g args).run Try.prog w = .ok (.enter g args) w) (hp : Tells g caps p F) (hF : Sees F w) :
    Calls Try.prog 17 #[.slice A l.length c, .func (.func g) #[] caps] w fun e w' => e = .returned (.bool (decide (0 ≤ firstI p l))) ∧ Below w.heap.size w w' := by
  have HB := Aside0.mk (Below.refl w.heap.size w)
  have HL := Aside0.mk hl
  have HP : Aside0 (Tells g caps p F) := Aside0.mk hp
  have HF0 : Aside0 (Sees F w) := Aside0.mk hF
  clear hl hp hF
  go_enter Try.func17, Try.ntmps17
  go_wp2_with (go_at_call 27; with_reducible refine (IndexFunc.calls A c l g caps p F _ (Kd.C_below HL.out (by repeat (first | (with_reducible first | exact HB.out | apply below_alloc | apply pw_below_drewN | apply below_drew1) | exact HB.out))) hc hm eg HP.out (HF0.out.below (by repeat (first | (with_reducible first | exact HB.out | apply below_alloc | apply pw_below_drewN | apply below_drew1) | exact HB.out)))).mono ?_; rintro e w' ⟨rfl, hb⟩; have n0_ := Aside0.mk (below_step (by repeat (first | (with_reducible first | exact HB.out | apply below_alloc | apply pw_below_drewN | apply below_drew1) | exact HB.out)) hb); clear HB; have HB := n0_; clear n0_ hb)
  go_ret
  exact ⟨by first | rfl | simp, by repeat (first | (with_reducible first | exact HB.out | apply below_alloc | apply pw_below_drewN | apply below_drew1) | exact HB.out)⟩
theorem firstAt_all {p : S27 → Bool} {l : List S27} : (decide (0 ≤ firstI p l)) = l.any p := by
  have h : ∀ l : List S27, (firstAt p l < l.length) ↔ l.any p = true := by
    intro l
    induction l with
    | nil => simp [firstAt]
    | cons x r ih =>
      unfold firstAt
      by_cases hx : p x = true
      · simp [hx]
      · rw [if_neg hx, List.length_cons, List.any_cons, Bool.eq_false_iff.2 hx, Bool.false_or, ← ih]
        omega
  unfold firstI
  by_cases h1 : firstAt p l < l.length
  · rw [if_pos h1, (h l).1 h1]
    simp
  · rw [if_neg h1]
    have : l.any p = false := Bool.eq_false_iff.2 fun h2 => h1 ((h l).2 h2)
    rw [this]
    rfl

set_option maxHeartbeats 8000000 in
set_option maxRecDepth 100000 in
theorem Ask1.calls (gc : Nat) (r : S27) (x : S27) (w : World) (hc : w.heap[gc]? = some (.cells #[.int .u8 r.f0, .int .u64 r.f1, .int .i64 r.f2, .bool r.f3, .int .u64 r.f4] 27 (0, 0))) :
    Calls Try.prog 18 #[.agg #[.int .u8 x.f0, .int .u64 x.f1, .int .i64 x.f2, .bool x.f3, .int .u64 x.f4], .pointer (some ⟨gc, 0, none⟩)] w fun e w' => e = .returned (.bool (x.f1 == r.f1)) ∧ Below w.heap.size w w' := by
  have HB := Aside0.mk (Below.refl w.heap.size w)
  have BC := Aside0.mk hc
  clear hc
  go_enter Try.func18, Try.ntmps18
  go_wp2_with ((with_reducible refine gate_dst (N := 2) rfl ?_); refine box_event ?hg (N := 2) ?hd (cs := #[.int .u8 x.f0, .int .u64 x.f1, .int .i64 x.f2, .bool x.f3, .int .u64 x.f4]) (t := 27) ?hr ?_; (case hd => rfl); (case hg => rfl); (case hr => first | (go_simp; done) | (go_simp; rfl)); intro gI hg w1_I hbox hb; have GGI := Aside0.mk (show w.heap.size ≤ gI from by rw [hg]; exact below_size (by repeat (first | (with_reducible first | exact HB.out | apply below_alloc | apply pw_below_drewN | apply below_drew1) | exact HB.out))); have BKI := Aside0.mk hbox; clear hbox hg; have n0_ := Aside0.mk (below_step (by repeat (first | (with_reducible first | exact HB.out | apply below_alloc | apply pw_below_drewN | apply below_drew1) | exact HB.out)) hb); (first | have n1_ := Aside0.mk (blk_below BC.out hb) | have n1_ := Aside0.mk (blk_below (blk_drewN BC.out _) hb) | have n1_ := Aside0.mk (blk_below (blk_drew BC.out) hb) | have n1_ := Aside0.mk (blk_below (blk_alloc BC.out _) hb) | have n1_ := Aside0.mk (blk_below (by first | exact BC.out | ((with_reducible repeat (first | refine blk_drewN ?_ _ | refine blk_drew ?_ | refine blk_alloc ?_ _)); exact BC.out)) hb)); clear HB BC; have HB := n0_; have BC := n1_; clear n0_ n1_ hb; have gI0 : w1_I.cell? ⟨gI, 0, none⟩ = some (.int .u8 x.f0) := (blk_cell BKI.out 0).trans rfl; have gI1 : w1_I.cell? ⟨gI, 1, none⟩ = some (.int .u64 x.f1) := (blk_cell BKI.out 1).trans rfl; have gI2 : w1_I.cell? ⟨gI, 2, none⟩ = some (.int .i64 x.f2) := (blk_cell BKI.out 2).trans rfl; have gI3 : w1_I.cell? ⟨gI, 3, none⟩ = some (.bool x.f3) := (blk_cell BKI.out 3).trans rfl; have gI4 : w1_I.cell? ⟨gI, 4, none⟩ = some (.int .u64 x.f4) := (blk_cell BKI.out 4).trans rfl; have c0 : w1_I.cell? ⟨gc, 1, none⟩ = some (.int .u64 r.f1) := (blk_cell BC.out 1).trans rfl)
  go_ret
  exact ⟨by first | rfl | simp, by repeat (first | (with_reducible first | exact HB.out | apply below_alloc | apply pw_below_drewN | apply below_drew1) | exact HB.out)⟩

theorem Ask1.tells (gc : Nat) (r : S27) : Tells 18 #[.pointer (some ⟨gc, 0, none⟩)] (fun x => x.f1 == r.f1) [(gc, .cells #[.int .u8 r.f0, .int .u64 r.f1, .int .i64 r.f2, .bool r.f3, .int .u64 r.f4] 27 (0, 0))] := fun W x hW => Ask1.calls gc r x W (hW (gc, .cells #[.int .u8 r.f0, .int .u64 r.f1, .int .i64 r.f2, .bool r.f3, .int .u64 r.f4] 27 (0, 0)) (List.mem_cons_self ..))

set_option maxHeartbeats 8000000 in
set_option maxRecDepth 100000 in
theorem close1.calls (gc : Nat) (t : Int) (x : S27) (w : World) (hc : w.heap[gc]? = some (.cells #[.int .u64 t] 22 (0, 0))) :
    Calls Try.prog 43 #[.agg #[.int .u8 x.f0, .int .u64 x.f1, .int .i64 x.f2, .bool x.f3, .int .u64 x.f4], .pointer (some ⟨gc, 0, none⟩)] w fun e w' => e = .returned (.bool (x.f1 == t)) ∧ Below w.heap.size w w' := by
  have HB := Aside0.mk (Below.refl w.heap.size w)
  have BC := Aside0.mk hc
  clear hc
  go_enter Try.func43, Try.ntmps43
  go_wp2_with ((with_reducible refine gate_dst (N := 2) rfl ?_); refine box_event ?hg (N := 2) ?hd (cs := #[.int .u8 x.f0, .int .u64 x.f1, .int .i64 x.f2, .bool x.f3, .int .u64 x.f4]) (t := 27) ?hr ?_; (case hd => rfl); (case hg => rfl); (case hr => first | (go_simp; done) | (go_simp; rfl)); intro gI hg w1_I hbox hb; have GGI := Aside0.mk (show w.heap.size ≤ gI from by rw [hg]; exact below_size (by repeat (first | (with_reducible first | exact HB.out | apply below_alloc | apply pw_below_drewN | apply below_drew1) | exact HB.out))); have BKI := Aside0.mk hbox; clear hbox hg; have n0_ := Aside0.mk (below_step (by repeat (first | (with_reducible first | exact HB.out | apply below_alloc | apply pw_below_drewN | apply below_drew1) | exact HB.out)) hb); (first | have n1_ := Aside0.mk (blk_below BC.out hb) | have n1_ := Aside0.mk (blk_below (blk_drewN BC.out _) hb) | have n1_ := Aside0.mk (blk_below (blk_drew BC.out) hb) | have n1_ := Aside0.mk (blk_below (blk_alloc BC.out _) hb) | have n1_ := Aside0.mk (blk_below (by first | exact BC.out | ((with_reducible repeat (first | refine blk_drewN ?_ _ | refine blk_drew ?_ | refine blk_alloc ?_ _)); exact BC.out)) hb)); clear HB BC; have HB := n0_; have BC := n1_; clear n0_ n1_ hb; have gI0 : w1_I.cell? ⟨gI, 0, none⟩ = some (.int .u8 x.f0) := (blk_cell BKI.out 0).trans rfl; have gI1 : w1_I.cell? ⟨gI, 1, none⟩ = some (.int .u64 x.f1) := (blk_cell BKI.out 1).trans rfl; have gI2 : w1_I.cell? ⟨gI, 2, none⟩ = some (.int .i64 x.f2) := (blk_cell BKI.out 2).trans rfl; have gI3 : w1_I.cell? ⟨gI, 3, none⟩ = some (.bool x.f3) := (blk_cell BKI.out 3).trans rfl; have gI4 : w1_I.cell? ⟨gI, 4, none⟩ = some (.int .u64 x.f4) := (blk_cell BKI.out 4).trans rfl; have c0 : w1_I.cell? ⟨gc, 0, none⟩ = some (.int .u64 t) := (blk_cell BC.out 0).trans rfl)
  go_ret
  exact ⟨by first | rfl | simp, by repeat (first | (with_reducible first | exact HB.out | apply below_alloc | apply pw_below_drewN | apply below_drew1) | exact HB.out)⟩

theorem close1.tells (gc : Nat) (t : Int) : Tells 43 #[.pointer (some ⟨gc, 0, none⟩)] (fun x => x.f1 == t) [(gc, .cells #[.int .u64 t] 22 (0, 0))] := fun W x hW => close1.calls gc t x W (hW (gc, .cells #[.int .u64 t] 22 (0, 0)) (List.mem_cons_self ..))

set_option maxHeartbeats 8000000 in
set_option maxRecDepth 100000 in
theorem gone1.calls (gc gl k : Nat) (cur : Array Value) (id : Int) (x : S27) (w : World) (hc : w.heap[gc]? = some (.cells #[.pointer (some ⟨gl, k, none⟩)] 61 (0, 0))) (hl : w.heap[gl]? = some (.cells cur 50 (0, 0))) (hk : cur[k]? = some (.int .u64 id)) :
    Calls Try.prog 44 #[.agg #[.int .u8 x.f0, .int .u64 x.f1, .int .i64 x.f2, .bool x.f3, .int .u64 x.f4], .pointer (some ⟨gc, 0, none⟩)] w fun e w' => e = .returned (.bool ((x.f0 != 1) && (x.f4 == id))) ∧ Below w.heap.size w w' := by
  have HB := Aside0.mk (Below.refl w.heap.size w)
  have BC := Aside0.mk hc
  clear hc
  have BL := Aside0.mk hl
  clear hl
  obtain ⟨b, hb⟩ : ∃ b, (x.f0 != 1) = b := ⟨_, rfl⟩
  rw [hb]
  cases b
  · rw [Bool.false_and]
    go_enter Try.func44, Try.ntmps44
    go_wp2_with ((with_reducible refine gate_dst (N := 2) rfl ?_); refine box_event ?hg (N := 2) ?hd (cs := #[.int .u8 x.f0, .int .u64 x.f1, .int .i64 x.f2, .bool x.f3, .int .u64 x.f4]) (t := 27) ?hr ?_; (case hd => rfl); (case hg => rfl); (case hr => first | (go_simp; done) | (go_simp; rfl)); intro gI hg w1_I hbox hb; have GGI := Aside0.mk (show w.heap.size ≤ gI from by rw [hg]; exact below_size (by repeat (first | (with_reducible first | exact HB.out | apply below_alloc | apply pw_below_drewN | apply below_drew1) | exact HB.out))); have BKI := Aside0.mk hbox; clear hbox hg; have n0_ := Aside0.mk (below_step (by repeat (first | (with_reducible first | exact HB.out | apply below_alloc | apply pw_below_drewN | apply below_drew1) | exact HB.out)) hb); (first | have n1_ := Aside0.mk (blk_below BC.out hb) | have n1_ := Aside0.mk (blk_below (blk_drewN BC.out _) hb) | have n1_ := Aside0.mk (blk_below (blk_drew BC.out) hb) | have n1_ := Aside0.mk (blk_below (blk_alloc BC.out _) hb) | have n1_ := Aside0.mk (blk_below (by first | exact BC.out | ((with_reducible repeat (first | refine blk_drewN ?_ _ | refine blk_drew ?_ | refine blk_alloc ?_ _)); exact BC.out)) hb)); (first | have n2_ := Aside0.mk (blk_below BL.out hb) | have n2_ := Aside0.mk (blk_below (blk_drewN BL.out _) hb) | have n2_ := Aside0.mk (blk_below (blk_drew BL.out) hb) | have n2_ := Aside0.mk (blk_below (blk_alloc BL.out _) hb) | have n2_ := Aside0.mk (blk_below (by first | exact BL.out | ((with_reducible repeat (first | refine blk_drewN ?_ _ | refine blk_drew ?_ | refine blk_alloc ?_ _)); exact BL.out)) hb)); clear HB BC BL; have HB := n0_; have BC := n1_; have BL := n2_; clear n0_ n1_ n2_ hb; have gI0 : w1_I.cell? ⟨gI, 0, none⟩ = some (.int .u8 x.f0) := (blk_cell BKI.out 0).trans rfl; have gI1 : w1_I.cell? ⟨gI, 1, none⟩ = some (.int .u64 x.f1) := (blk_cell BKI.out 1).trans rfl; have gI2 : w1_I.cell? ⟨gI, 2, none⟩ = some (.int .i64 x.f2) := (blk_cell BKI.out 2).trans rfl; have gI3 : w1_I.cell? ⟨gI, 3, none⟩ = some (.bool x.f3) := (blk_cell BKI.out 3).trans rfl; have gI4 : w1_I.cell? ⟨gI, 4, none⟩ = some (.int .u64 x.f4) := (blk_cell BKI.out 4).trans rfl; have c0 : w1_I.cell? ⟨gc, 0, none⟩ = some (.pointer (some ⟨gl, k, none⟩)) := (blk_cell BC.out 0).trans rfl; have c1 : w1_I.cell? ⟨gl, k, none⟩ = some (.int .u64 id) := (blk_cell BL.out k).trans hk)
    refine start_ (n := 13) (S := fun w' => w'.cell? ⟨gI, 0, none⟩ = some (.int .u8 x.f0) ∧ w'.cell? ⟨gI, 4, none⟩ = some (.int .u64 x.f4) ∧ w'.cell? ⟨gc, 0, none⟩ = some (.pointer (some ⟨gl, k, none⟩)) ∧ w'.cell? ⟨gl, k, none⟩ = some (.int .u64 id)) (ds := []) #[false, false, false, false, false, false, false, false, false, false, false, false, false] (by kernel_rfl) rfl rfl ⟨gI0, gI4, c0, c1⟩ (fun hHeld => ?_)
    refine pure_ (i := 0) (N := some 4) (v := ?_) (a' := ?_) #[true, false, false, false, false, false, false, false, false, false, false, false, false] rfl rfl (by kernel_rfl) (fun _ _ _ h => h) (Or.inl ⟨by rfl, ?_⟩) ?_ ?_
    rotate_left
    · intro w'
      go_simp
      with_reducible rfl
    rotate_left
    · simp only [Act.put, List.setIfInBounds_toArray, List.set_cons_zero, List.set_cons_succ, i64_w, i32_w]
      rfl
    refine take_ (i := 1) (N := some 5) (v := ?_) (a' := ?_) #[true, true, false, false, false, false, false, false, false, false, false, false, false] rfl rfl (by kernel_rfl) (fun _ _ _ h => h) (Or.inl ⟨by rfl, ?_⟩) hHeld ?_ ?_
    rotate_left
    · rintro w' ⟨s0, s1, s2, s3⟩
      go_simp
      with_reducible rfl
    rotate_left
    · simp only [Act.put, List.setIfInBounds_toArray, List.set_cons_zero, List.set_cons_succ, i64_w, i32_w]
      rfl
    refine pure_ (i := 2) (N := some 6) (v := ?_) (a' := ?_) #[true, true, true, false, false, false, false, false, false, false, false, false, false] rfl rfl (by kernel_rfl) (fun _ _ _ h => h) (Or.inl ⟨by rfl, ?_⟩) ?_ ?_
    rotate_left
    · intro w'
      go_simp
      with_reducible rfl
    rotate_left
    · simp only [Act.put, List.setIfInBounds_toArray, List.set_cons_zero, List.set_cons_succ, i64_w, i32_w]
      rfl
    refine pure_ (i := 3) (N := some 7) (v := ?_) (a' := ?_) #[true, true, true, true, false, false, false, false, false, false, false, false, false] rfl rfl (by kernel_rfl) (fun _ _ _ h => h) (Or.inl ⟨by rfl, ?_⟩) ?_ ?_
    rotate_left
    · intro w'
      go_simp
      with_reducible rfl
    rotate_left
    · simp only [Act.put, List.setIfInBounds_toArray, List.set_cons_zero, List.set_cons_succ, i64_w, i32_w]
      rfl
    refine pure_ (i := 4) (N := some 8) (v := undef) (a' := ?_) #[true, true, true, true, true, false, false, false, false, false, false, false, false] rfl rfl (by kernel_rfl) (fun _ _ _ h => h) (Or.inr ⟨by rfl, rfl⟩) ?_ ?_
    rotate_left
    · simp only [Act.put, List.setIfInBounds_toArray, List.set_cons_zero, List.set_cons_succ, i64_w, i32_w]
      rfl
    refine pure_ (i := 5) (N := some 9) (v := undef) (a' := ?_) #[true, true, true, true, true, true, false, false, false, false, false, false, false] rfl rfl (by kernel_rfl) (fun _ _ _ h => h) (Or.inr ⟨by rfl, rfl⟩) ?_ ?_
    rotate_left
    · simp only [Act.put, List.setIfInBounds_toArray, List.set_cons_zero, List.set_cons_succ, i64_w, i32_w]
      rfl
    refine pure_ (i := 6) (N := some 10) (v := undef) (a' := ?_) #[true, true, true, true, true, true, true, false, false, false, false, false, false] rfl rfl (by kernel_rfl) (fun _ _ _ h => h) (Or.inr ⟨by rfl, rfl⟩) ?_ ?_
    rotate_left
    · simp only [Act.put, List.setIfInBounds_toArray, List.set_cons_zero, List.set_cons_succ, i64_w, i32_w]
      rfl
    refine pure_ (i := 7) (N := some 11) (v := undef) (a' := ?_) #[true, true, true, true, true, true, true, true, false, false, false, false, false] rfl rfl (by kernel_rfl) (fun _ _ _ h => h) (Or.inr ⟨by rfl, rfl⟩) ?_ ?_
    rotate_left
    · simp only [Act.put, List.setIfInBounds_toArray, List.set_cons_zero, List.set_cons_succ, i64_w, i32_w]
      rfl
    refine pure_ (i := 8) (N := some 12) (v := undef) (a' := ?_) #[true, true, true, true, true, true, true, true, true, false, false, false, false] rfl rfl (by kernel_rfl) (fun _ _ _ h => h) (Or.inr ⟨by rfl, rfl⟩) ?_ ?_
    rotate_left
    · simp only [Act.put, List.setIfInBounds_toArray, List.set_cons_zero, List.set_cons_succ, i64_w, i32_w]
      rfl
    refine pure_ (i := 9) (N := some 13) (v := undef) (a' := ?_) #[true, true, true, true, true, true, true, true, true, true, false, false, false] rfl rfl (by kernel_rfl) (fun _ _ _ h => h) (Or.inr ⟨by rfl, rfl⟩) ?_ ?_
    rotate_left
    · simp only [Act.put, List.setIfInBounds_toArray, List.set_cons_zero, List.set_cons_succ, i64_w, i32_w]
      rfl
    refine pure_ (i := 10) (N := some 14) (v := undef) (a' := ?_) #[true, true, true, true, true, true, true, true, true, true, true, false, false] rfl rfl (by kernel_rfl) (fun _ _ _ h => h) (Or.inr ⟨by rfl, rfl⟩) ?_ ?_
    rotate_left
    · simp only [Act.put, List.setIfInBounds_toArray, List.set_cons_zero, List.set_cons_succ, i64_w, i32_w]
      rfl
    refine pure_ (i := 11) (N := some 15) (v := ?_) (a' := ?_) #[true, true, true, true, true, true, true, true, true, true, true, true, false] rfl rfl (by kernel_rfl) (fun _ _ _ h => h) (Or.inl ⟨by rfl, ?_⟩) ?_ ?_
    rotate_left
    · intro w'
      go_simp
      with_reducible rfl
    rotate_left
    · simp only [Act.put, List.setIfInBounds_toArray, List.set_cons_zero, List.set_cons_succ, i64_w, i32_w]
      rfl
    refine pure_ (i := 12) (N := some 3) (v := ?_) (a' := ?_) #[true, true, true, true, true, true, true, true, true, true, true, true, true] rfl rfl (by kernel_rfl) (fun _ _ _ h => h) (Or.inl ⟨by rfl, ?_⟩) ?_ ?_
    rotate_left
    · intro w'
      go_simp
      with_reducible rfl
    rotate_left
    · simp only [Act.put, List.setIfInBounds_toArray, List.set_cons_zero, List.set_cons_succ, i64_w, i32_w]
      rfl
    refine done_ (by kernel_rfl) ?_

    go_wp2
    go_ret
    exact ⟨by first | rfl | simp, below_drew1 HB.out⟩
  · rw [Bool.true_and]
    go_enter Try.func44, Try.ntmps44
    go_wp2_with ((with_reducible refine gate_dst (N := 2) rfl ?_); refine box_event ?hg (N := 2) ?hd (cs := #[.int .u8 x.f0, .int .u64 x.f1, .int .i64 x.f2, .bool x.f3, .int .u64 x.f4]) (t := 27) ?hr ?_; (case hd => rfl); (case hg => rfl); (case hr => first | (go_simp; done) | (go_simp; rfl)); intro gI hg w1_I hbox hb; have GGI := Aside0.mk (show w.heap.size ≤ gI from by rw [hg]; exact below_size (by repeat (first | (with_reducible first | exact HB.out | apply below_alloc | apply pw_below_drewN | apply below_drew1) | exact HB.out))); have BKI := Aside0.mk hbox; clear hbox hg; have n0_ := Aside0.mk (below_step (by repeat (first | (with_reducible first | exact HB.out | apply below_alloc | apply pw_below_drewN | apply below_drew1) | exact HB.out)) hb); (first | have n1_ := Aside0.mk (blk_below BC.out hb) | have n1_ := Aside0.mk (blk_below (blk_drewN BC.out _) hb) | have n1_ := Aside0.mk (blk_below (blk_drew BC.out) hb) | have n1_ := Aside0.mk (blk_below (blk_alloc BC.out _) hb) | have n1_ := Aside0.mk (blk_below (by first | exact BC.out | ((with_reducible repeat (first | refine blk_drewN ?_ _ | refine blk_drew ?_ | refine blk_alloc ?_ _)); exact BC.out)) hb)); (first | have n2_ := Aside0.mk (blk_below BL.out hb) | have n2_ := Aside0.mk (blk_below (blk_drewN BL.out _) hb) | have n2_ := Aside0.mk (blk_below (blk_drew BL.out) hb) | have n2_ := Aside0.mk (blk_below (blk_alloc BL.out _) hb) | have n2_ := Aside0.mk (blk_below (by first | exact BL.out | ((with_reducible repeat (first | refine blk_drewN ?_ _ | refine blk_drew ?_ | refine blk_alloc ?_ _)); exact BL.out)) hb)); clear HB BC BL; have HB := n0_; have BC := n1_; have BL := n2_; clear n0_ n1_ n2_ hb; have gI0 : w1_I.cell? ⟨gI, 0, none⟩ = some (.int .u8 x.f0) := (blk_cell BKI.out 0).trans rfl; have gI1 : w1_I.cell? ⟨gI, 1, none⟩ = some (.int .u64 x.f1) := (blk_cell BKI.out 1).trans rfl; have gI2 : w1_I.cell? ⟨gI, 2, none⟩ = some (.int .i64 x.f2) := (blk_cell BKI.out 2).trans rfl; have gI3 : w1_I.cell? ⟨gI, 3, none⟩ = some (.bool x.f3) := (blk_cell BKI.out 3).trans rfl; have gI4 : w1_I.cell? ⟨gI, 4, none⟩ = some (.int .u64 x.f4) := (blk_cell BKI.out 4).trans rfl; have c0 : w1_I.cell? ⟨gc, 0, none⟩ = some (.pointer (some ⟨gl, k, none⟩)) := (blk_cell BC.out 0).trans rfl; have c1 : w1_I.cell? ⟨gl, k, none⟩ = some (.int .u64 id) := (blk_cell BL.out k).trans hk)
    refine start_ (n := 13) (S := fun w' => w'.cell? ⟨gI, 0, none⟩ = some (.int .u8 x.f0) ∧ w'.cell? ⟨gI, 4, none⟩ = some (.int .u64 x.f4) ∧ w'.cell? ⟨gc, 0, none⟩ = some (.pointer (some ⟨gl, k, none⟩)) ∧ w'.cell? ⟨gl, k, none⟩ = some (.int .u64 id)) (ds := []) #[false, false, false, false, false, false, false, false, false, false, false, false, false] (by kernel_rfl) rfl rfl ⟨gI0, gI4, c0, c1⟩ (fun hHeld => ?_)
    refine pure_ (i := 0) (N := some 4) (v := ?_) (a' := ?_) #[true, false, false, false, false, false, false, false, false, false, false, false, false] rfl rfl (by kernel_rfl) (fun _ _ _ h => h) (Or.inl ⟨by rfl, ?_⟩) ?_ ?_
    rotate_left
    · intro w'
      go_simp
      with_reducible rfl
    rotate_left
    · simp only [Act.put, List.setIfInBounds_toArray, List.set_cons_zero, List.set_cons_succ, i64_w, i32_w]
      rfl
    refine take_ (i := 1) (N := some 5) (v := ?_) (a' := ?_) #[true, true, false, false, false, false, false, false, false, false, false, false, false] rfl rfl (by kernel_rfl) (fun _ _ _ h => h) (Or.inl ⟨by rfl, ?_⟩) hHeld ?_ ?_
    rotate_left
    · rintro w' ⟨s0, s1, s2, s3⟩
      go_simp
      with_reducible rfl
    rotate_left
    · simp only [Act.put, List.setIfInBounds_toArray, List.set_cons_zero, List.set_cons_succ, i64_w, i32_w]
      rfl
    refine pure_ (i := 2) (N := some 6) (v := ?_) (a' := ?_) #[true, true, true, false, false, false, false, false, false, false, false, false, false] rfl rfl (by kernel_rfl) (fun _ _ _ h => h) (Or.inl ⟨by rfl, ?_⟩) ?_ ?_
    rotate_left
    · intro w'
      go_simp
      with_reducible rfl
    rotate_left
    · simp only [Act.put, List.setIfInBounds_toArray, List.set_cons_zero, List.set_cons_succ, i64_w, i32_w]
      rfl
    refine pure_ (i := 3) (N := some 7) (v := ?_) (a' := ?_) #[true, true, true, true, false, false, false, false, false, false, false, false, false] rfl rfl (by kernel_rfl) (fun _ _ _ h => h) (Or.inl ⟨by rfl, ?_⟩) ?_ ?_
    rotate_left
    · intro w'
      go_simp
      with_reducible rfl
    rotate_left
    · simp only [Act.put, List.setIfInBounds_toArray, List.set_cons_zero, List.set_cons_succ, i64_w, i32_w]
      rfl
    refine pure_ (i := 4) (N := some 8) (v := ?_) (a' := ?_) #[true, true, true, true, true, false, false, false, false, false, false, false, false] rfl rfl (by kernel_rfl) (fun _ _ _ h => h) (Or.inl ⟨by rfl, ?_⟩) ?_ ?_
    rotate_left
    · intro w'
      go_simp
      with_reducible rfl
    rotate_left
    · simp only [Act.put, List.setIfInBounds_toArray, List.set_cons_zero, List.set_cons_succ, i64_w, i32_w]
      rfl
    refine take_ (i := 5) (N := some 9) (v := ?_) (a' := ?_) #[true, true, true, true, true, true, false, false, false, false, false, false, false] rfl rfl (by kernel_rfl) (fun _ _ _ h => h) (Or.inl ⟨by rfl, ?_⟩) hHeld ?_ ?_
    rotate_left
    · rintro w' ⟨s0, s1, s2, s3⟩
      go_simp
      with_reducible rfl
    rotate_left
    · simp only [Act.put, List.setIfInBounds_toArray, List.set_cons_zero, List.set_cons_succ, i64_w, i32_w]
      rfl
    refine take_ (i := 6) (N := some 10) (v := ?_) (a' := ?_) #[true, true, true, true, true, true, true, false, false, false, false, false, false] rfl rfl (by kernel_rfl) (fun _ _ _ h => h) (Or.inl ⟨by rfl, ?_⟩) hHeld ?_ ?_
    rotate_left
    · rintro w' ⟨s0, s1, s2, s3⟩
      go_simp
      with_reducible rfl
    rotate_left
    · simp only [Act.put, List.setIfInBounds_toArray, List.set_cons_zero, List.set_cons_succ, i64_w, i32_w]
      rfl
    refine pure_ (i := 7) (N := some 11) (v := ?_) (a' := ?_) #[true, true, true, true, true, true, true, true, false, false, false, false, false] rfl rfl (by kernel_rfl) (fun _ _ _ h => h) (Or.inl ⟨by rfl, ?_⟩) ?_ ?_
    rotate_left
    · intro w'
      go_simp
      with_reducible rfl
    rotate_left
    · simp only [Act.put, List.setIfInBounds_toArray, List.set_cons_zero, List.set_cons_succ, i64_w, i32_w]
      rfl
    refine pure_ (i := 8) (N := some 12) (v := ?_) (a' := ?_) #[true, true, true, true, true, true, true, true, true, false, false, false, false] rfl rfl (by kernel_rfl) (fun _ _ _ h => h) (Or.inl ⟨by rfl, ?_⟩) ?_ ?_
    rotate_left
    · intro w'
      go_simp
      with_reducible rfl
    rotate_left
    · simp only [Act.put, List.setIfInBounds_toArray, List.set_cons_zero, List.set_cons_succ, i64_w, i32_w]
      rfl
    refine take_ (i := 9) (N := some 13) (v := ?_) (a' := ?_) #[true, true, true, true, true, true, true, true, true, true, false, false, false] rfl rfl (by kernel_rfl) (fun _ _ _ h => h) (Or.inl ⟨by rfl, ?_⟩) hHeld ?_ ?_
    rotate_left
    · rintro w' ⟨s0, s1, s2, s3⟩
      go_simp
      with_reducible rfl
    rotate_left
    · simp only [Act.put, List.setIfInBounds_toArray, List.set_cons_zero, List.set_cons_succ, i64_w, i32_w]
      rfl
    refine pure_ (i := 10) (N := some 14) (v := ?_) (a' := ?_) #[true, true, true, true, true, true, true, true, true, true, true, false, false] rfl rfl (by kernel_rfl) (fun _ _ _ h => h) (Or.inl ⟨by rfl, ?_⟩) ?_ ?_
    rotate_left
    · intro w'
      go_simp
      with_reducible rfl
    rotate_left
    · simp only [Act.put, List.setIfInBounds_toArray, List.set_cons_zero, List.set_cons_succ, i64_w, i32_w]
      rfl
    refine pure_ (i := 11) (N := some 15) (v := ?_) (a' := ?_) #[true, true, true, true, true, true, true, true, true, true, true, true, false] rfl rfl (by kernel_rfl) (fun _ _ _ h => h) (Or.inl ⟨by rfl, ?_⟩) ?_ ?_
    rotate_left
    · intro w'
      go_simp
      with_reducible rfl
    rotate_left
    · simp only [Act.put, List.setIfInBounds_toArray, List.set_cons_zero, List.set_cons_succ, i64_w, i32_w]
      rfl
    refine pure_ (i := 12) (N := some 3) (v := ?_) (a' := ?_) #[true, true, true, true, true, true, true, true, true, true, true, true, true] rfl rfl (by kernel_rfl) (fun _ _ _ h => h) (Or.inl ⟨by rfl, ?_⟩) ?_ ?_
    rotate_left
    · intro w'
      go_simp
      with_reducible rfl
    rotate_left
    · simp only [Act.put, List.setIfInBounds_toArray, List.set_cons_zero, List.set_cons_succ, i64_w, i32_w]
      rfl
    refine done_ (by kernel_rfl) ?_

    go_wp2
    go_ret
    exact ⟨by first | rfl | simp, below_drew1 HB.out⟩

theorem gone1.tells (gc gl k : Nat) (cur : Array Value) (id : Int) (hk : cur[k]? = some (.int .u64 id)) : Tells 44 #[.pointer (some ⟨gc, 0, none⟩)] (fun x => (x.f0 != 1) && (x.f4 == id)) [(gc, .cells #[.pointer (some ⟨gl, k, none⟩)] 61 (0, 0)), (gl, .cells cur 50 (0, 0))] := fun W x hW => gone1.calls gc gl k cur id x W (hW (gc, .cells #[.pointer (some ⟨gl, k, none⟩)] 61 (0, 0)) (List.mem_cons_self ..)) (hW (gl, .cells cur 50 (0, 0)) (List.mem_cons_of_mem _ (List.mem_cons_self ..))) hk

set_option maxHeartbeats 8000000 in
set_option maxRecDepth 100000 in
theorem ready1.calls (gc gl k : Nat) (cur : Array Value) (id : Int) (x : S27) (w : World) (hc : w.heap[gc]? = some (.cells #[.pointer (some ⟨gl, k, none⟩)] 61 (0, 0))) (hl : w.heap[gl]? = some (.cells cur 50 (0, 0))) (hk : cur[k]? = some (.int .u64 id)) :
    Calls Try.prog 40 #[.agg #[.int .u8 x.f0, .int .u64 x.f1, .int .i64 x.f2, .bool x.f3, .int .u64 x.f4], .pointer (some ⟨gc, 0, none⟩)] w fun e w' => e = .returned (.bool ((x.f0 == 4) && (x.f4 == id))) ∧ Below w.heap.size w w' := by
  have HB := Aside0.mk (Below.refl w.heap.size w)
  have BC := Aside0.mk hc
  clear hc
  have BL := Aside0.mk hl
  clear hl
  obtain ⟨b, hb⟩ : ∃ b, (x.f0 == 4) = b := ⟨_, rfl⟩
  rw [hb]
  cases b
  · rw [Bool.false_and]
    go_enter Try.func40, Try.ntmps40
    go_wp2_with ((with_reducible refine gate_dst (N := 2) rfl ?_); refine box_event ?hg (N := 2) ?hd (cs := #[.int .u8 x.f0, .int .u64 x.f1, .int .i64 x.f2, .bool x.f3, .int .u64 x.f4]) (t := 27) ?hr ?_; (case hd => rfl); (case hg => rfl); (case hr => first | (go_simp; done) | (go_simp; rfl)); intro gI hg w1_I hbox hb; have GGI := Aside0.mk (show w.heap.size ≤ gI from by rw [hg]; exact below_size (by repeat (first | (with_reducible first | exact HB.out | apply below_alloc | apply pw_below_drewN | apply below_drew1) | exact HB.out))); have BKI := Aside0.mk hbox; clear hbox hg; have n0_ := Aside0.mk (below_step (by repeat (first | (with_reducible first | exact HB.out | apply below_alloc | apply pw_below_drewN | apply below_drew1) | exact HB.out)) hb); (first | have n1_ := Aside0.mk (blk_below BC.out hb) | have n1_ := Aside0.mk (blk_below (blk_drewN BC.out _) hb) | have n1_ := Aside0.mk (blk_below (blk_drew BC.out) hb) | have n1_ := Aside0.mk (blk_below (blk_alloc BC.out _) hb) | have n1_ := Aside0.mk (blk_below (by first | exact BC.out | ((with_reducible repeat (first | refine blk_drewN ?_ _ | refine blk_drew ?_ | refine blk_alloc ?_ _)); exact BC.out)) hb)); (first | have n2_ := Aside0.mk (blk_below BL.out hb) | have n2_ := Aside0.mk (blk_below (blk_drewN BL.out _) hb) | have n2_ := Aside0.mk (blk_below (blk_drew BL.out) hb) | have n2_ := Aside0.mk (blk_below (blk_alloc BL.out _) hb) | have n2_ := Aside0.mk (blk_below (by first | exact BL.out | ((with_reducible repeat (first | refine blk_drewN ?_ _ | refine blk_drew ?_ | refine blk_alloc ?_ _)); exact BL.out)) hb)); clear HB BC BL; have HB := n0_; have BC := n1_; have BL := n2_; clear n0_ n1_ n2_ hb; have gI0 : w1_I.cell? ⟨gI, 0, none⟩ = some (.int .u8 x.f0) := (blk_cell BKI.out 0).trans rfl; have gI1 : w1_I.cell? ⟨gI, 1, none⟩ = some (.int .u64 x.f1) := (blk_cell BKI.out 1).trans rfl; have gI2 : w1_I.cell? ⟨gI, 2, none⟩ = some (.int .i64 x.f2) := (blk_cell BKI.out 2).trans rfl; have gI3 : w1_I.cell? ⟨gI, 3, none⟩ = some (.bool x.f3) := (blk_cell BKI.out 3).trans rfl; have gI4 : w1_I.cell? ⟨gI, 4, none⟩ = some (.int .u64 x.f4) := (blk_cell BKI.out 4).trans rfl; have c0 : w1_I.cell? ⟨gc, 0, none⟩ = some (.pointer (some ⟨gl, k, none⟩)) := (blk_cell BC.out 0).trans rfl; have c1 : w1_I.cell? ⟨gl, k, none⟩ = some (.int .u64 id) := (blk_cell BL.out k).trans hk)
    refine start_ (n := 13) (S := fun w' => w'.cell? ⟨gI, 0, none⟩ = some (.int .u8 x.f0) ∧ w'.cell? ⟨gI, 4, none⟩ = some (.int .u64 x.f4) ∧ w'.cell? ⟨gc, 0, none⟩ = some (.pointer (some ⟨gl, k, none⟩)) ∧ w'.cell? ⟨gl, k, none⟩ = some (.int .u64 id)) (ds := []) #[false, false, false, false, false, false, false, false, false, false, false, false, false] (by kernel_rfl) rfl rfl ⟨gI0, gI4, c0, c1⟩ (fun hHeld => ?_)
    refine pure_ (i := 0) (N := some 4) (v := ?_) (a' := ?_) #[true, false, false, false, false, false, false, false, false, false, false, false, false] rfl rfl (by kernel_rfl) (fun _ _ _ h => h) (Or.inl ⟨by rfl, ?_⟩) ?_ ?_
    rotate_left
    · intro w'
      go_simp
      with_reducible rfl
    rotate_left
    · simp only [Act.put, List.setIfInBounds_toArray, List.set_cons_zero, List.set_cons_succ, i64_w, i32_w]
      rfl
    refine take_ (i := 1) (N := some 5) (v := ?_) (a' := ?_) #[true, true, false, false, false, false, false, false, false, false, false, false, false] rfl rfl (by kernel_rfl) (fun _ _ _ h => h) (Or.inl ⟨by rfl, ?_⟩) hHeld ?_ ?_
    rotate_left
    · rintro w' ⟨s0, s1, s2, s3⟩
      go_simp
      with_reducible rfl
    rotate_left
    · simp only [Act.put, List.setIfInBounds_toArray, List.set_cons_zero, List.set_cons_succ, i64_w, i32_w]
      rfl
    refine pure_ (i := 2) (N := some 6) (v := ?_) (a' := ?_) #[true, true, true, false, false, false, false, false, false, false, false, false, false] rfl rfl (by kernel_rfl) (fun _ _ _ h => h) (Or.inl ⟨by rfl, ?_⟩) ?_ ?_
    rotate_left
    · intro w'
      go_simp
      with_reducible rfl
    rotate_left
    · simp only [Act.put, List.setIfInBounds_toArray, List.set_cons_zero, List.set_cons_succ, i64_w, i32_w]
      rfl
    refine pure_ (i := 3) (N := some 7) (v := ?_) (a' := ?_) #[true, true, true, true, false, false, false, false, false, false, false, false, false] rfl rfl (by kernel_rfl) (fun _ _ _ h => h) (Or.inl ⟨by rfl, ?_⟩) ?_ ?_
    rotate_left
    · intro w'
      go_simp
      with_reducible rfl
    rotate_left
    · simp only [Act.put, List.setIfInBounds_toArray, List.set_cons_zero, List.set_cons_succ, i64_w, i32_w]
      rfl
    refine pure_ (i := 4) (N := some 8) (v := undef) (a' := ?_) #[true, true, true, true, true, false, false, false, false, false, false, false, false] rfl rfl (by kernel_rfl) (fun _ _ _ h => h) (Or.inr ⟨by rfl, rfl⟩) ?_ ?_
    rotate_left
    · simp only [Act.put, List.setIfInBounds_toArray, List.set_cons_zero, List.set_cons_succ, i64_w, i32_w]
      rfl
    refine pure_ (i := 5) (N := some 9) (v := undef) (a' := ?_) #[true, true, true, true, true, true, false, false, false, false, false, false, false] rfl rfl (by kernel_rfl) (fun _ _ _ h => h) (Or.inr ⟨by rfl, rfl⟩) ?_ ?_
    rotate_left
    · simp only [Act.put, List.setIfInBounds_toArray, List.set_cons_zero, List.set_cons_succ, i64_w, i32_w]
      rfl
    refine pure_ (i := 6) (N := some 10) (v := undef) (a' := ?_) #[true, true, true, true, true, true, true, false, false, false, false, false, false] rfl rfl (by kernel_rfl) (fun _ _ _ h => h) (Or.inr ⟨by rfl, rfl⟩) ?_ ?_
    rotate_left
    · simp only [Act.put, List.setIfInBounds_toArray, List.set_cons_zero, List.set_cons_succ, i64_w, i32_w]
      rfl
    refine pure_ (i := 7) (N := some 11) (v := undef) (a' := ?_) #[true, true, true, true, true, true, true, true, false, false, false, false, false] rfl rfl (by kernel_rfl) (fun _ _ _ h => h) (Or.inr ⟨by rfl, rfl⟩) ?_ ?_
    rotate_left
    · simp only [Act.put, List.setIfInBounds_toArray, List.set_cons_zero, List.set_cons_succ, i64_w, i32_w]
      rfl
    refine pure_ (i := 8) (N := some 12) (v := undef) (a' := ?_) #[true, true, true, true, true, true, true, true, true, false, false, false, false] rfl rfl (by kernel_rfl) (fun _ _ _ h => h) (Or.inr ⟨by rfl, rfl⟩) ?_ ?_
    rotate_left
    · simp only [Act.put, List.setIfInBounds_toArray, List.set_cons_zero, List.set_cons_succ, i64_w, i32_w]
      rfl
    refine pure_ (i := 9) (N := some 13) (v := undef) (a' := ?_) #[true, true, true, true, true, true, true, true, true, true, false, false, false] rfl rfl (by kernel_rfl) (fun _ _ _ h => h) (Or.inr ⟨by rfl, rfl⟩) ?_ ?_
    rotate_left
    · simp only [Act.put, List.setIfInBounds_toArray, List.set_cons_zero, List.set_cons_succ, i64_w, i32_w]
      rfl
    refine pure_ (i := 10) (N := some 14) (v := undef) (a' := ?_) #[true, true, true, true, true, true, true, true, true, true, true, false, false] rfl rfl (by kernel_rfl) (fun _ _ _ h => h) (Or.inr ⟨by rfl, rfl⟩) ?_ ?_
    rotate_left
    · simp only [Act.put, List.setIfInBounds_toArray, List.set_cons_zero, List.set_cons_succ, i64_w, i32_w]
      rfl
    refine pure_ (i := 11) (N := some 15) (v := ?_) (a' := ?_) #[true, true, true, true, true, true, true, true, true, true, true, true, false] rfl rfl (by kernel_rfl) (fun _ _ _ h => h) (Or.inl ⟨by rfl, ?_⟩) ?_ ?_
    rotate_left
    · intro w'
      go_simp
      with_reducible rfl
    rotate_left
    · simp only [Act.put, List.setIfInBounds_toArray, List.set_cons_zero, List.set_cons_succ, i64_w, i32_w]
      rfl
    refine pure_ (i := 12) (N := some 3) (v := ?_) (a' := ?_) #[true, true, true, true, true, true, true, true, true, true, true, true, true] rfl rfl (by kernel_rfl) (fun _ _ _ h => h) (Or.inl ⟨by rfl, ?_⟩) ?_ ?_
    rotate_left
    · intro w'
      go_simp
      with_reducible rfl
    rotate_left
    · simp only [Act.put, List.setIfInBounds_toArray, List.set_cons_zero, List.set_cons_succ, i64_w, i32_w]
      rfl
    refine done_ (by kernel_rfl) ?_

    go_wp2
    go_ret
    exact ⟨by first | rfl | simp, below_drew1 HB.out⟩
  · rw [Bool.true_and]
    go_enter Try.func40, Try.ntmps40
    go_wp2_with ((with_reducible refine gate_dst (N := 2) rfl ?_); refine box_event ?hg (N := 2) ?hd (cs := #[.int .u8 x.f0, .int .u64 x.f1, .int .i64 x.f2, .bool x.f3, .int .u64 x.f4]) (t := 27) ?hr ?_; (case hd => rfl); (case hg => rfl); (case hr => first | (go_simp; done) | (go_simp; rfl)); intro gI hg w1_I hbox hb; have GGI := Aside0.mk (show w.heap.size ≤ gI from by rw [hg]; exact below_size (by repeat (first | (with_reducible first | exact HB.out | apply below_alloc | apply pw_below_drewN | apply below_drew1) | exact HB.out))); have BKI := Aside0.mk hbox; clear hbox hg; have n0_ := Aside0.mk (below_step (by repeat (first | (with_reducible first | exact HB.out | apply below_alloc | apply pw_below_drewN | apply below_drew1) | exact HB.out)) hb); (first | have n1_ := Aside0.mk (blk_below BC.out hb) | have n1_ := Aside0.mk (blk_below (blk_drewN BC.out _) hb) | have n1_ := Aside0.mk (blk_below (blk_drew BC.out) hb) | have n1_ := Aside0.mk (blk_below (blk_alloc BC.out _) hb) | have n1_ := Aside0.mk (blk_below (by first | exact BC.out | ((with_reducible repeat (first | refine blk_drewN ?_ _ | refine blk_drew ?_ | refine blk_alloc ?_ _)); exact BC.out)) hb)); (first | have n2_ := Aside0.mk (blk_below BL.out hb) | have n2_ := Aside0.mk (blk_below (blk_drewN BL.out _) hb) | have n2_ := Aside0.mk (blk_below (blk_drew BL.out) hb) | have n2_ := Aside0.mk (blk_below (blk_alloc BL.out _) hb) | have n2_ := Aside0.mk (blk_below (by first | exact BL.out | ((with_reducible repeat (first | refine blk_drewN ?_ _ | refine blk_drew ?_ | refine blk_alloc ?_ _)); exact BL.out)) hb)); clear HB BC BL; have HB := n0_; have BC := n1_; have BL := n2_; clear n0_ n1_ n2_ hb; have gI0 : w1_I.cell? ⟨gI, 0, none⟩ = some (.int .u8 x.f0) := (blk_cell BKI.out 0).trans rfl; have gI1 : w1_I.cell? ⟨gI, 1, none⟩ = some (.int .u64 x.f1) := (blk_cell BKI.out 1).trans rfl; have gI2 : w1_I.cell? ⟨gI, 2, none⟩ = some (.int .i64 x.f2) := (blk_cell BKI.out 2).trans rfl; have gI3 : w1_I.cell? ⟨gI, 3, none⟩ = some (.bool x.f3) := (blk_cell BKI.out 3).trans rfl; have gI4 : w1_I.cell? ⟨gI, 4, none⟩ = some (.int .u64 x.f4) := (blk_cell BKI.out 4).trans rfl; have c0 : w1_I.cell? ⟨gc, 0, none⟩ = some (.pointer (some ⟨gl, k, none⟩)) := (blk_cell BC.out 0).trans rfl; have c1 : w1_I.cell? ⟨gl, k, none⟩ = some (.int .u64 id) := (blk_cell BL.out k).trans hk)
    refine start_ (n := 13) (S := fun w' => w'.cell? ⟨gI, 0, none⟩ = some (.int .u8 x.f0) ∧ w'.cell? ⟨gI, 4, none⟩ = some (.int .u64 x.f4) ∧ w'.cell? ⟨gc, 0, none⟩ = some (.pointer (some ⟨gl, k, none⟩)) ∧ w'.cell? ⟨gl, k, none⟩ = some (.int .u64 id)) (ds := []) #[false, false, false, false, false, false, false, false, false, false, false, false, false] (by kernel_rfl) rfl rfl ⟨gI0, gI4, c0, c1⟩ (fun hHeld => ?_)
    refine pure_ (i := 0) (N := some 4) (v := ?_) (a' := ?_) #[true, false, false, false, false, false, false, false, false, false, false, false, false] rfl rfl (by kernel_rfl) (fun _ _ _ h => h) (Or.inl ⟨by rfl, ?_⟩) ?_ ?_
    rotate_left
    · intro w'
      go_simp
      with_reducible rfl
    rotate_left
    · simp only [Act.put, List.setIfInBounds_toArray, List.set_cons_zero, List.set_cons_succ, i64_w, i32_w]
      rfl
    refine take_ (i := 1) (N := some 5) (v := ?_) (a' := ?_) #[true, true, false, false, false, false, false, false, false, false, false, false, false] rfl rfl (by kernel_rfl) (fun _ _ _ h => h) (Or.inl ⟨by rfl, ?_⟩) hHeld ?_ ?_
    rotate_left
    · rintro w' ⟨s0, s1, s2, s3⟩
      go_simp
      with_reducible rfl
    rotate_left
    · simp only [Act.put, List.setIfInBounds_toArray, List.set_cons_zero, List.set_cons_succ, i64_w, i32_w]
      rfl
    refine pure_ (i := 2) (N := some 6) (v := ?_) (a' := ?_) #[true, true, true, false, false, false, false, false, false, false, false, false, false] rfl rfl (by kernel_rfl) (fun _ _ _ h => h) (Or.inl ⟨by rfl, ?_⟩) ?_ ?_
    rotate_left
    · intro w'
      go_simp
      with_reducible rfl
    rotate_left
    · simp only [Act.put, List.setIfInBounds_toArray, List.set_cons_zero, List.set_cons_succ, i64_w, i32_w]
      rfl
    refine pure_ (i := 3) (N := some 7) (v := ?_) (a' := ?_) #[true, true, true, true, false, false, false, false, false, false, false, false, false] rfl rfl (by kernel_rfl) (fun _ _ _ h => h) (Or.inl ⟨by rfl, ?_⟩) ?_ ?_
    rotate_left
    · intro w'
      go_simp
      with_reducible rfl
    rotate_left
    · simp only [Act.put, List.setIfInBounds_toArray, List.set_cons_zero, List.set_cons_succ, i64_w, i32_w]
      rfl
    refine pure_ (i := 4) (N := some 8) (v := ?_) (a' := ?_) #[true, true, true, true, true, false, false, false, false, false, false, false, false] rfl rfl (by kernel_rfl) (fun _ _ _ h => h) (Or.inl ⟨by rfl, ?_⟩) ?_ ?_
    rotate_left
    · intro w'
      go_simp
      with_reducible rfl
    rotate_left
    · simp only [Act.put, List.setIfInBounds_toArray, List.set_cons_zero, List.set_cons_succ, i64_w, i32_w]
      rfl
    refine take_ (i := 5) (N := some 9) (v := ?_) (a' := ?_) #[true, true, true, true, true, true, false, false, false, false, false, false, false] rfl rfl (by kernel_rfl) (fun _ _ _ h => h) (Or.inl ⟨by rfl, ?_⟩) hHeld ?_ ?_
    rotate_left
    · rintro w' ⟨s0, s1, s2, s3⟩
      go_simp
      with_reducible rfl
    rotate_left
    · simp only [Act.put, List.setIfInBounds_toArray, List.set_cons_zero, List.set_cons_succ, i64_w, i32_w]
      rfl
    refine take_ (i := 6) (N := some 10) (v := ?_) (a' := ?_) #[true, true, true, true, true, true, true, false, false, false, false, false, false] rfl rfl (by kernel_rfl) (fun _ _ _ h => h) (Or.inl ⟨by rfl, ?_⟩) hHeld ?_ ?_
    rotate_left
    · rintro w' ⟨s0, s1, s2, s3⟩
      go_simp
      with_reducible rfl
    rotate_left
    · simp only [Act.put, List.setIfInBounds_toArray, List.set_cons_zero, List.set_cons_succ, i64_w, i32_w]
      rfl
    refine pure_ (i := 7) (N := some 11) (v := ?_) (a' := ?_) #[true, true, true, true, true, true, true, true, false, false, false, false, false] rfl rfl (by kernel_rfl) (fun _ _ _ h => h) (Or.inl ⟨by rfl, ?_⟩) ?_ ?_
    rotate_left
    · intro w'
      go_simp
      with_reducible rfl
    rotate_left
    · simp only [Act.put, List.setIfInBounds_toArray, List.set_cons_zero, List.set_cons_succ, i64_w, i32_w]
      rfl
    refine pure_ (i := 8) (N := some 12) (v := ?_) (a' := ?_) #[true, true, true, true, true, true, true, true, true, false, false, false, false] rfl rfl (by kernel_rfl) (fun _ _ _ h => h) (Or.inl ⟨by rfl, ?_⟩) ?_ ?_
    rotate_left
    · intro w'
      go_simp
      with_reducible rfl
    rotate_left
    · simp only [Act.put, List.setIfInBounds_toArray, List.set_cons_zero, List.set_cons_succ, i64_w, i32_w]
      rfl
    refine take_ (i := 9) (N := some 13) (v := ?_) (a' := ?_) #[true, true, true, true, true, true, true, true, true, true, false, false, false] rfl rfl (by kernel_rfl) (fun _ _ _ h => h) (Or.inl ⟨by rfl, ?_⟩) hHeld ?_ ?_
    rotate_left
    · rintro w' ⟨s0, s1, s2, s3⟩
      go_simp
      with_reducible rfl
    rotate_left
    · simp only [Act.put, List.setIfInBounds_toArray, List.set_cons_zero, List.set_cons_succ, i64_w, i32_w]
      rfl
    refine pure_ (i := 10) (N := some 14) (v := ?_) (a' := ?_) #[true, true, true, true, true, true, true, true, true, true, true, false, false] rfl rfl (by kernel_rfl) (fun _ _ _ h => h) (Or.inl ⟨by rfl, ?_⟩) ?_ ?_
    rotate_left
    · intro w'
      go_simp
      with_reducible rfl
    rotate_left
    · simp only [Act.put, List.setIfInBounds_toArray, List.set_cons_zero, List.set_cons_succ, i64_w, i32_w]
      rfl
    refine pure_ (i := 11) (N := some 15) (v := ?_) (a' := ?_) #[true, true, true, true, true, true, true, true, true, true, true, true, false] rfl rfl (by kernel_rfl) (fun _ _ _ h => h) (Or.inl ⟨by rfl, ?_⟩) ?_ ?_
    rotate_left
    · intro w'
      go_simp
      with_reducible rfl
    rotate_left
    · simp only [Act.put, List.setIfInBounds_toArray, List.set_cons_zero, List.set_cons_succ, i64_w, i32_w]
      rfl
    refine pure_ (i := 12) (N := some 3) (v := ?_) (a' := ?_) #[true, true, true, true, true, true, true, true, true, true, true, true, true] rfl rfl (by kernel_rfl) (fun _ _ _ h => h) (Or.inl ⟨by rfl, ?_⟩) ?_ ?_
    rotate_left
    · intro w'
      go_simp
      with_reducible rfl
    rotate_left
    · simp only [Act.put, List.setIfInBounds_toArray, List.set_cons_zero, List.set_cons_succ, i64_w, i32_w]
      rfl
    refine done_ (by kernel_rfl) ?_

    go_wp2
    go_ret
    exact ⟨by first | rfl | simp, below_drew1 HB.out⟩

theorem ready1.tells (gc gl k : Nat) (cur : Array Value) (id : Int) (hk : cur[k]? = some (.int .u64 id)) : Tells 40 #[.pointer (some ⟨gc, 0, none⟩)] (fun x => (x.f0 == 4) && (x.f4 == id)) [(gc, .cells #[.pointer (some ⟨gl, k, none⟩)] 61 (0, 0)), (gl, .cells cur 50 (0, 0))] := fun W x hW => ready1.calls gc gl k cur id x W (hW (gc, .cells #[.pointer (some ⟨gl, k, none⟩)] 61 (0, 0)) (List.mem_cons_self ..)) (hW (gl, .cells cur 50 (0, 0)) (List.mem_cons_of_mem _ (List.mem_cons_self ..))) hk

end Go.Proofs.Ytfhopjigdkjnoaa.GA
