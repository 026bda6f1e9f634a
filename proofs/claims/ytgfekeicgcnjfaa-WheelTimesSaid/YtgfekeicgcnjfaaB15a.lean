/- WheelTimes, walked. No condition. -/
import Derived.Test.YtgfekeicgcnjfaaB15
import Derived.Laws.CopyOwn
import Derived.Laws.CopyRow
import Derived.ChangeKeysEq
import Derived.Deep.RegionHeld3
import Derived.Deep.MidRow
import Derived.Shelf.Abstract
import Derived.Lib.Overlaps
import Derived.Lib.AppendZerosOnto
import Derived.Shelf.Spec.SlicesInsertGrow
import Derived.Maps.OwnSet
import Derived.WalkSpells
namespace Go.Proofs.Ytgfekeicgcnjfaa.GA.I
open Go.RowKit Go.Shelf Go.Proofs.YtgfekeicgcnjfaaW.PrintWords Go.Proofs.YtgfekeicgcnjfaaW.PrintLast Go.Proofs.YtgfekeicgcnjfaaW.PrintMore
open List (setIfInBounds_toArray set_cons_zero set_cons_succ)
set_option linter.unusedVariables false
set_option linter.unusedSimpArgs false

set_option maxHeartbeats 8000000 in
set_option maxRecDepth 100000 in
theorem WheelTimes.calls_a (A : Option Addr) (c : Nat) (l : List Int) (now0 later0 : Int) (w : World) (hr : Kd.C (Kd.int .u64) w A l.length l) (hc : l.length ≤ c) (hl : l.length ≤ 40) : Calls Try.prog 3 #[.slice A l.length c, .int .u64 now0, .int .u64 later0] w fun e w' => e = .returned (.bool true) ∧ Below w.heap.size w w' := by
  have HX := Aside0.mk (Below.refl w.heap.size w)
  have HR := Aside0.mk hr
  clear hr
  go_enter Try.func3, Try.ntmps3
  go_upto_region 2 with (fail)
  generalize hnw : min now0 later0 = nw
  generalize hlt : max now0 later0 = lt_
  have HNL : Aside0 (nw ≤ lt_) := ⟨by omega⟩
  clear hnw hlt
  go_upto_region 6 with (first | (go_at_call 6; with_reducible refine (New.calls 40 w (by decide)).mono ?_; rintro e w1 ⟨rfl, ht, hb, hs⟩; have HT1 := Aside0.mk ht; have HB1 := Aside0.mk hb; have HS1 := Aside0.mk hs; clear ht hb hs HX) | (go_at_call 6; with_reducible refine (New.calls 40 w1 (by decide)).mono ?_; rintro e w2 ⟨rfl, ht, hb, hs⟩; have HT2 := Aside0.mk ht; have HB2 := Aside0.mk hb; have HS2 := Aside0.mk hs; clear ht hb hs))
  have hTW := Two.start HT1.out HS1.out HB2.out HT2.out
  have HB := Aside0.mk (Below.trans HB1.out (HB2.out.mono HB1.out.size))
  have HS := Aside0.mk HB.out.size
  obtain ⟨g1, hg1⟩ : ∃ g, g = w.heap.size + 1 := ⟨_, rfl⟩
  obtain ⟨g2, hg2⟩ : ∃ g, g = w1.heap.size + 1 := ⟨_, rfl⟩
  rw [← hg1, ← hg2] at hTW
  rw [← hg1, ← hg2]
  have HT := Aside0.mk hTW
  clear HT1 HT2 HB1 HB2 HS1 HS2 hg1 hg2 hTW
  obtain ⟨m1, hm1⟩ : ∃ m, m = w.heap.size := ⟨_, rfl⟩
  obtain ⟨m2, hm2⟩ : ∃ m, m = w1.heap.size := ⟨_, rfl⟩
  have HT1 : Aside0 (Two w2 g1 m1 g2 m2 w.heap.size (.slice none 0 0) (.slice none 0 0) [] [] 0 0) := ⟨by rw [hm1, hm2]; exact HT.out⟩
  clear HT hm1 hm2
  have HT := HT1
  clear HT1
  go_wp2
  go_loopw [9, 10] (fun v9 v10 w' => ∃ (i many : Nat) (v1 v2 : Value) (xs : List S63) (ord : Int), v9 = .int .i64 many ∧ v10 = .int .i64 i ∧ i ≤ l.length ∧ many ≤ i ∧ Aside0 (TP l lt_ i xs ord many) ∧ Aside0 (Two w' g1 m1 g2 m2 w.heap.size v1 v2 xs xs ord ord) ∧ Aside0 (Below w.heap.size w w') ∧ Aside0 (w.heap.size ≤ w'.heap.size)) (fun v9 v10 _ => (40 - intOf v10).toNat)
  case atStart => exact ⟨0, 0, _, _, [], 0, rfl, rfl, Nat.zero_le _, Nat.le_refl _, ⟨TP.zero l lt_⟩, HT, HB, HS⟩
  case round =>
    clear HT HB HS
    obtain ⟨i, many, v1, v2, xs, ord, rfl, rfl, hi, hmi, HTP, HT, HB, HS⟩ := hrel
    by_cases hlt : i < l.length
    · have h1 : i < l.length := by omega
      have h2 : i < 40 := by omega
      clear hlt
      obtain ⟨ad, e, -⟩ := Kd.at_int HR.out (i : Int) (by omega) (by omega)
      cases e
      obtain ⟨a, ha⟩ : ∃ k, l.getD i 0 = k := ⟨_, rfl⟩
      have HX0 : Aside0 (∀ W, Below w.heap.size w W → W.cell? (ad.add i) = some (.int .u64 a)) := ⟨fun W hW => by
        obtain ⟨ad', e, x0⟩ := Kd.at_int (Kd.C_below HR.out hW) (i : Int) (by omega) (by omega)
        cases e
        rw [Int.toNat_natCast] at x0
        rw [x0, ← ha]
        unfold rd
        rw [Int.toNat_natCast]⟩
      have HAA := Aside0.mk ha
      have x0 := HX0.out _ HB.out
      have HWP := Aside0.mk HTP.out.1
      have HL : Aside0 (xs.length < 40) := ⟨by have := HTP.out.2.2.2.2.2.1; omega⟩
      have HO0 := Aside0.mk HTP.out.2.2.2.1
      have HO1 : Aside0 (ord ≤ 1000) := ⟨by have := HTP.out.2.2.2.2.1; omega⟩
      have HOK := Aside0.mk (okI i (by omega))
      have HMS := Aside0.mk HTP.out.miss
      clear ha
      by_cases hat : a ≤ 1099511627776
      · have HAT := Aside0.mk hat
        have dat := decide_eq_true hat
        by_cases hal : a ≤ lt_
        · have HAL := Aside0.mk hal
          have dal := decide_eq_true hal
          clear hat hal
          go_wp2_with (first | (go_at_call 7; with_reducible refine (Two.setL HT.out HWP.out (i : Int) a HAT.out HL.out HO0.out HO1.out HOK.out HMS.out).mono ?_; rintro e w' ⟨v1', rfl, ht, hb, hs⟩; clear x0; have n8_ := Aside0.mk (Below.trans HB.out hb); have n7_ := Aside0.mk (Nat.le_trans HS.out hs); clear HT HB HS hb hs; have HT := Aside0.mk ht; have HB := n8_; have HS := n7_; clear ht n8_ n7_; have x0 := HX0.out _ HB.out) | (go_at_call 7; with_reducible refine (Two.setR HT.out HWP.out (i : Int) a HAT.out HL.out HO0.out HO1.out HOK.out HMS.out).mono ?_; rintro e w' ⟨v2', rfl, ht, hb, hs⟩; clear x0; have n8_ := Aside0.mk (Below.trans HB.out hb); have n7_ := Aside0.mk (Nat.le_trans HS.out hs); clear HT HB HS hb hs; have HT := Aside0.mk ht; have HB := n8_; have HS := n7_; clear ht n8_ n7_; have x0 := HX0.out _ HB.out))
          go_roundw
          case rel => exact ⟨i + 1, many + 1, _, _, _, _, by first | rfl | (rw [wrap_ok (by omega) (by omega)]; simp), by first | rfl | (rw [wrap_ok (by omega) (by omega)]; simp), by omega, by omega, ⟨by have := HTP.out.next (by omega) a HAA.out; rw [if_pos HAL.out] at this; exact this⟩, HT, HB, HS⟩
          case measure => (try rw [wrap_ok (by omega) (by omega)]); simp [intOf]; omega
        · have HAL := Aside0.mk hal
          have dal := decide_eq_false hal
          clear hat hal
          go_wp2_with (first | (go_at_call 7; with_reducible refine (Two.setL HT.out HWP.out (i : Int) a HAT.out HL.out HO0.out HO1.out HOK.out HMS.out).mono ?_; rintro e w' ⟨v1', rfl, ht, hb, hs⟩; clear x0; have n8_ := Aside0.mk (Below.trans HB.out hb); have n7_ := Aside0.mk (Nat.le_trans HS.out hs); clear HT HB HS hb hs; have HT := Aside0.mk ht; have HB := n8_; have HS := n7_; clear ht n8_ n7_; have x0 := HX0.out _ HB.out) | (go_at_call 7; with_reducible refine (Two.setR HT.out HWP.out (i : Int) a HAT.out HL.out HO0.out HO1.out HOK.out HMS.out).mono ?_; rintro e w' ⟨v2', rfl, ht, hb, hs⟩; clear x0; have n8_ := Aside0.mk (Below.trans HB.out hb); have n7_ := Aside0.mk (Nat.le_trans HS.out hs); clear HT HB HS hb hs; have HT := Aside0.mk ht; have HB := n8_; have HS := n7_; clear ht n8_ n7_; have x0 := HX0.out _ HB.out))
          go_roundw
          case rel => exact ⟨i + 1, many, _, _, _, _, rfl, by first | rfl | (rw [wrap_ok (by omega) (by omega)]; simp), by omega, by omega, ⟨by have := HTP.out.next (by omega) a HAA.out; rw [if_neg (by have := HAL.out; omega)] at this; exact this⟩, HT, HB, HS⟩
          case measure => (try rw [wrap_ok (by omega) (by omega)]); simp [intOf]; omega
      · have HAT : Aside0 (1099511627776 < a) := ⟨by omega⟩
        have dat := decide_eq_false hat
        clear hat
        go_wp2_with (first | (go_at_call 7; with_reducible refine (Two.argL HT.out HWP.out (i : Int) a HAT.out HOK.out HMS.out).mono ?_; rintro e w' ⟨v1', rfl, ht, hb, hs⟩; clear x0; have n8_ := Aside0.mk (Below.trans HB.out hb); have n7_ := Aside0.mk (Nat.le_trans HS.out hs); clear HT HB HS hb hs; have HT := Aside0.mk ht; have HB := n8_; have HS := n7_; clear ht n8_ n7_; have x0 := HX0.out _ HB.out) | (go_at_call 7; with_reducible refine (Two.argR HT.out HWP.out (i : Int) a HAT.out HOK.out HMS.out).mono ?_; rintro e w' ⟨v2', rfl, ht, hb, hs⟩; clear x0; have n8_ := Aside0.mk (Below.trans HB.out hb); have n7_ := Aside0.mk (Nat.le_trans HS.out hs); clear HT HB HS hb hs; have HT := Aside0.mk ht; have HB := n8_; have HS := n7_; clear ht n8_ n7_; have x0 := HX0.out _ HB.out))
        go_roundw
        case rel => exact ⟨i + 1, many, _, _, _, _, rfl, by first | rfl | (rw [wrap_ok (by omega) (by omega)]; simp), by omega, by omega, ⟨HTP.out.skip⟩, HT, HB, HS⟩
        case measure => (try rw [wrap_ok (by omega) (by omega)]); simp [intOf]; omega
    · obtain rfl : i = l.length := by omega
      clear hlt
      have HWP := Aside0.mk HTP.out.1
      have HWP2 := Aside0.mk (HTP.out.1.later nw)
      have HWPR := HWP
      have HMANY := Aside0.mk HTP.out.many
      have HXS : Aside0 (xs.length ≤ 40) := ⟨by have := HTP.out.2.2.2.2.2.1; omega⟩
      obtain ⟨ks, hks⟩ : ∃ ks, ks = (due xs lt_).map (·.f0) := ⟨_, rfl⟩
      have HKK' := Aside0.mk hks
      have HKK : Aside0 ((due xs lt_).map (·.f0) = ks) := ⟨hks.symm⟩
      have HKS6 : Aside0 (ks.length ≤ 1000) := ⟨by rw [hks, List.length_map]; have := (due_sub xs lt_).length_le; have := HXS.out; omega⟩
      have HSAME := Aside0.mk (Ints.refl_ ks (by have := HKS6.out; omega))
      have hml : many = ks.length := by rw [hks, List.length_map]; exact HMANY.out.symm
      subst hml
      obtain ⟨B3, hB3⟩ : ∃ n, n = wr.heap.size := ⟨_, rfl⟩
      have HB3 : Aside0 (w.heap.size ≤ B3) := ⟨by rw [hB3]; exact HS.out⟩
      clear hks
      go_upto_region 17 with (first | (go_at_call 8; with_reducible refine (Two.turnL HT.out HWP.out nw).mono ?_; rintro e w3 ⟨A1, c1_, ks1, v1', rfl, hk1, hr1, ht, hb, hf, hs⟩; have HS13 := Aside0.mk hs; have HK1 := Aside0.mk hk1; have HR1 := Aside0.mk hr1; clear hk1 hr1 hf; have n8_ := Aside0.mk (Below.trans HB.out hb); have n7_ := Aside0.mk (Nat.le_trans HS.out hs); clear HT HB HS hb hs; have HT := Aside0.mk ht; have HB := n8_; have HS := n7_; clear ht n8_ n7_))
      rw [← hB3] at HR1
      go_upto_region 18 with (first | (go_at_call 8; with_reducible refine (Two.turnL HT.out HWP2.out lt_).mono ?_; rintro e w4 ⟨A2, c2_, ks2, v1'', rfl, hk2, hr2, ht, hb, hf, hs⟩; have HS34 := Aside0.mk hs; have HK2 := Aside0.mk hk2; have HR2 := Aside0.mk hr2; have n1_ := Aside0.mk (R_frame3 HR1.out hf); clear hk2 hr2 hf HR1; have HR1 := n1_; clear n1_; have n8_ := Aside0.mk (Below.trans HB.out hb); have n7_ := Aside0.mk (Nat.le_trans HS.out hs); clear HT HB HS hb hs; have HT := Aside0.mk ht; have HB := n8_; have HS := n7_; clear ht n8_ n7_))
      have HS4 : Aside0 (B3 ≤ w4.heap.size) := ⟨by rw [hB3]; exact Nat.le_trans HS13.out HS34.out⟩
      clear hB3
      have HC2 := Aside0.mk (Kd.R_reads' HR2.out).2.2
      have HK12 : Aside0 (ks1 ++ ks2 = ks) := ⟨by rw [HK1.out, HK2.out, ← List.map_append, ← (due_two xs nw lt_ HNL.out).1]; exact HKK.out⟩
      have HLL : Aside0 ((ks1.length + ks2.length) * 8 ≤ 140737488355328) := ⟨by have h1 := congrArg List.length HK12.out; rw [List.length_append] at h1; have := HKS6.out; omega⟩
      go_upto_region 19 with (first | ((with_reducible refine gate_builtin (b := .append) (xs := #[.tmp 86, .tmp 87]) rfl ?_); at_builtin; refine Kd.R_append_rows (Kd.int .i64) (w0 := w4) B3 rfl (.tmp 86) (.tmp 87) 28 3 (.int .i64 0) 8 rfl Try.underlying28 info3 rfl (by decide) (by omega) (.slice A1 ks1.length c1_) ks1 ks2 _ _ _ (fun _ => True) (fun _ => False) rfl rfl ?aO ?aR (fun _ _ h => h) (fun _ h => h.elim) ?aF ?aB ?aS ?aL ?_; (case aR => exact HC2.out); (case aB => exact Below.refl _ _); (case aF => exact (fun _ _ => trivial)); (case aO => exact HR1.out); (case aS => exact HS4.out); (case aL => exact HLL.out); intro v5 w5 hr5 hb5 hg5 hat5))
      rw [HK12.out] at hr5
      obtain ⟨A5, c5_, rfl⟩ := Kd.R_slice hr5
      have HT5 := Aside0.mk (HT.out.grown HR1.out hg5)
      have HRA := Aside0.mk hr5
      have n8_ := Aside0.mk (Below.trans HB.out (hb5.mono HB3.out))
      have n7_ := Aside0.mk (Nat.le_trans HS.out hb5.size)
      clear HT HB HS hr5 hb5 hg5 hat5 HR1
      have HT := HT5
      have HB := n8_
      have HS := n7_
      clear HT5 n8_ n7_
      go_upto_region 21 with (first | (go_at_call 8; with_reducible refine (Two.turnR HT.out HWPR.out lt_).mono ?_; rintro e w6 ⟨A3, c3_, ks3, v2', rfl, hk3, hr3, ht, hb, hf, hs⟩; rw [HKK.out] at hk3; subst ks3; have HR3 := Aside0.mk hr3; have n1_ := Aside0.mk (R_frame3 HRA.out hf); clear hr3 hf HRA; have HRA := n1_; clear n1_; have n8_ := Aside0.mk (Below.trans HB.out hb); have n7_ := Aside0.mk (Nat.le_trans HS.out hs); clear HT HB HS hb hs; have HT := Aside0.mk ht; have HB := n8_; have HS := n7_; clear ht n8_ n7_) | (go_at_call 9; with_reducible refine (cohortref00_Ints.calls (ks.length + 1) A5 c5_ ks A3 c3_ ks true _ (Kd.R_reads' HRA.out).2.2 (Kd.R_reads' HRA.out).2.1 (Kd.R_reads' HR3.out).2.2 (Kd.R_reads' HR3.out).2.1 HSAME.out).mono ?_; rintro e w' ⟨rfl, nd, rfl⟩))
      obtain ⟨W2, hW2⟩ : ∃ W, W = w6.drewN nd := ⟨_, rfl⟩
      rw [← hW2]
      have hbw : Below w6.heap.size w6 W2 := by rw [hW2]; exact pw_below_drewN (Below.refl _ _) nd
      obtain ⟨zs, hzs⟩ : ∃ z, z = later xs lt_ := ⟨_, rfl⟩
      have HTL : Aside0 (Whl W2 g1 m1 w.heap.size 40 v1'' zs ord) := ⟨by rw [hzs, (due_two xs nw lt_ HNL.out).2]; exact HT.out.1.below hbw⟩
      have HTR : Aside0 (Whl W2 g2 m2 w.heap.size 40 v2' zs ord) := ⟨by rw [hzs]; exact HT.out.2.1.below hbw⟩
      have HB8 := Aside0.mk (Below.trans HB.out (hbw.mono HS.out))
      have HS8 := Aside0.mk (Nat.le_trans HS.out hbw.size)
      have HCK := Aside0.mk (Kd.C_below (Kd.R_reads' HRA.out).2.2 hbw)
      have HCL := Aside0.mk (Kd.C_below HR.out HB8.out)
      have HK1L : Aside0 (ks1.length = (due xs nw).length) := ⟨by rw [HK1.out, List.length_map]⟩
      have HW2 := Aside0.mk (Below.refl W2.heap.size W2)
      clear HB HS HT HRA hW2 hbw hzs
      have HB := HB8
      have HS := HS8
      clear HB8 HS8
      go_wp2
      go_loopw [15] (fun v15 w' => ∃ i : Nat, v15 = .int .i64 i ∧ i ≤ ks.length ∧ Aside0 (Below W2.heap.size W2 w')) (fun v15 _ => (1000001 - intOf v15).toNat)
      case atStart => exact ⟨0, rfl, Nat.zero_le _, HW2⟩
      case round =>
        clear HW2
        obtain ⟨i, rfl, hi, HW2⟩ := hrel
        by_cases hlt : i < ks.length
        · obtain ⟨p, hp, hpn, hpl, hpf, hpg, hprev⟩ := HTP.out.tell HNL.out HKK'.out i hlt
          have hpl1 : p < l.length := by omega
          obtain ⟨ak, e, -⟩ := Kd.at_int HCK.out (i : Int) (by omega) (by omega)
          cases e
          have HXK : Aside0 (∀ W, Below W2.heap.size W2 W → W.cell? (ak.add i) = some (.int .i64 (p : Int))) := ⟨fun W hW => by
            obtain ⟨ad', e, x0⟩ := Kd.at_int (Kd.C_below HCK.out hW) (i : Int) (by omega) (by omega)
            cases e
            rw [Int.toNat_natCast] at x0
            rw [x0, ← hp]
            unfold rd
            rw [Int.toNat_natCast]⟩
          obtain ⟨ad, e, -⟩ := Kd.at_int HCL.out (p : Int) (by omega) (by omega)
          cases e
          obtain ⟨a, ha⟩ : ∃ k, l.getD p 0 = k := ⟨_, rfl⟩
          have HXA : Aside0 (∀ W, Below W2.heap.size W2 W → W.cell? (ad.add p) = some (.int .u64 a)) := ⟨fun W hW => by
            obtain ⟨ad', e, x0⟩ := Kd.at_int (Kd.C_below HCL.out hW) (p : Int) (by omega) (by omega)
            cases e
            rw [Int.toNat_natCast] at x0
            rw [x0, ← ha]
            unfold rd
            rw [Int.toNat_natCast]⟩
          rw [ha] at hpl hpf hpg hprev
          have y0 := HXK.out _ HW2.out
          have y2 := HXA.out _ HW2.out
          have dp0 : decide ((p : Int) < 0) = false := decide_eq_false (by omega)
          have dp1 : decide ((l.length : Int) ≤ (p : Int)) = false := decide_eq_false (by omega)
          have dp2 : decide (l.length ≤ p) = false := decide_eq_false (by omega)
          have dp3 : decide (p < l.length) = true := decide_eq_true (by omega)
          have dp4 : decide (lt_ < a) = false := decide_eq_false (by omega)
          have HPREV := Aside0.mk hprev
          have HLT := Aside0.mk hlt
          clear hprev hpl ha hp
          by_cases hif : i < ks1.length
          · have dif1 : decide ((i : Int) < (ks1.length : Int)) = true := decide_eq_true (by omega)
            have dif2 : decide (i < ks1.length) = true := decide_eq_true hif
            have dif3 : decide ((ks1.length : Int) ≤ (i : Int)) = false := decide_eq_false (by omega)
            have dif4 : decide (ks1.length ≤ i) = false := decide_eq_false (by omega)
            have dan : decide (nw < a) = false := decide_eq_false (by have := hpf (by rw [← HK1L.out]; exact hif); omega)
            have dan2 : decide (a ≤ nw) = true := decide_eq_true (by have := hpf (by rw [← HK1L.out]; exact hif); omega)
            clear hpf hpg hif
            go_upto_region 26 with (fail)
            rcases Nat.eq_zero_or_pos i with h0 | h0
            · have dj : decide ((0 : Int) < (i : Int)) = false := decide_eq_false (by omega)
              have djn : decide (0 < i) = false := decide_eq_false (by omega)
              have dj0 : ¬ (0 < i) := by omega
              clear h0 hlt
              refine start_ (n := 50) (S := fun w' => True) (ds := []) q0 (by kernel_rfl) rfl rfl trivial (fun hHeld => ?_)
              refine with_tabW WheelTimes.tab26 WheelTimes.bits26 (fun HT_ HW_ => ?_)
              refine pure_ (i := 0) (N := some 164) (v := ?_) (a' := ?_) q1 rfl rfl (any_of HT_.out (by kernel_rfl)) (fun _ _ _ h => h) (Or.inl ⟨by rfl, ?_⟩) ?_ ?_
              rotate_left
              · (intro w'; go_simp; with_reducible rfl)
              rotate_left
              · (simp only [Act.put, setIfInBounds_toArray, set_cons_zero, set_cons_succ, i64_w, i32_w]; rfl)
              refine pure_ (i := 1) (N := some 165) (v := ?_) (a' := ?_) q2 rfl rfl (any_of HT_.out (by kernel_rfl)) (fun _ _ _ h => h) (Or.inl ⟨by rfl, ?_⟩) ?_ ?_
              rotate_left
              · (intro w'; go_simp; with_reducible rfl)
              rotate_left
              · (simp only [Act.put, setIfInBounds_toArray, set_cons_zero, set_cons_succ, i64_w, i32_w]; rfl)
              refine pure_ (i := 2) (N := some 166) (v := ?_) (a' := ?_) q3 rfl rfl (any_of HT_.out (by kernel_rfl)) (fun _ _ _ h => h) (Or.inl ⟨by rfl, ?_⟩) ?_ ?_
              rotate_left
              · (intro w'; go_simp; with_reducible rfl)
              rotate_left
              · (simp only [Act.put, setIfInBounds_toArray, set_cons_zero, set_cons_succ, i64_w, i32_w]; rfl)
              refine pure_ (i := 3) (N := some 167) (v := undef) (a' := ?_) q4 rfl rfl (any_of HT_.out (by kernel_rfl)) (fun _ _ _ h => h) (Or.inr ⟨by rfl, rfl⟩) ?_ ?_
              rotate_left
              · (simp only [Act.put, setIfInBounds_toArray, set_cons_zero, set_cons_succ, i64_w, i32_w]; rfl)
              refine pure_ (i := 4) (N := some 168) (v := undef) (a' := ?_) q5 rfl rfl (any_of HT_.out (by kernel_rfl)) (fun _ _ _ h => h) (Or.inr ⟨by rfl, rfl⟩) ?_ ?_
              rotate_left
              · (simp only [Act.put, setIfInBounds_toArray, set_cons_zero, set_cons_succ, i64_w, i32_w]; rfl)
              refine pure_ (i := 5) (N := some 169) (v := undef) (a' := ?_) q6 rfl rfl (any_of HT_.out (by kernel_rfl)) (fun _ _ _ h => h) (Or.inr ⟨by rfl, rfl⟩) ?_ ?_
              rotate_left
              · (simp only [Act.put, setIfInBounds_toArray, set_cons_zero, set_cons_succ, i64_w, i32_w]; rfl)
              refine pure_ (i := 6) (N := some 170) (v := undef) (a' := ?_) q7 rfl rfl (any_of HT_.out (by kernel_rfl)) (fun _ _ _ h => h) (Or.inr ⟨by rfl, rfl⟩) ?_ ?_
              rotate_left
              · (simp only [Act.put, setIfInBounds_toArray, set_cons_zero, set_cons_succ, i64_w, i32_w]; rfl)
              refine pure_ (i := 7) (N := some 171) (v := undef) (a' := ?_) q8 rfl rfl (any_of HT_.out (by kernel_rfl)) (fun _ _ _ h => h) (Or.inr ⟨by rfl, rfl⟩) ?_ ?_
              rotate_left
              · (simp only [Act.put, setIfInBounds_toArray, set_cons_zero, set_cons_succ, i64_w, i32_w]; rfl)
              refine pure_ (i := 8) (N := some 172) (v := undef) (a' := ?_) q9 rfl rfl (any_of HT_.out (by kernel_rfl)) (fun _ _ _ h => h) (Or.inr ⟨by rfl, rfl⟩) ?_ ?_
              rotate_left
              · (simp only [Act.put, setIfInBounds_toArray, set_cons_zero, set_cons_succ, i64_w, i32_w]; rfl)
              refine pure_ (i := 9) (N := some 173) (v := undef) (a' := ?_) q10 rfl rfl (any_of HT_.out (by kernel_rfl)) (fun _ _ _ h => h) (Or.inr ⟨by rfl, rfl⟩) ?_ ?_
              rotate_left
              · (simp only [Act.put, setIfInBounds_toArray, set_cons_zero, set_cons_succ, i64_w, i32_w]; rfl)
              refine pure_ (i := 10) (N := some 174) (v := undef) (a' := ?_) q11 rfl rfl (any_of HT_.out (by kernel_rfl)) (fun _ _ _ h => h) (Or.inr ⟨by rfl, rfl⟩) ?_ ?_
              rotate_left
              · (simp only [Act.put, setIfInBounds_toArray, set_cons_zero, set_cons_succ, i64_w, i32_w]; rfl)
              refine pure_ (i := 11) (N := some 175) (v := undef) (a' := ?_) q12 rfl rfl (any_of HT_.out (by kernel_rfl)) (fun _ _ _ h => h) (Or.inr ⟨by rfl, rfl⟩) ?_ ?_
              rotate_left
              · (simp only [Act.put, setIfInBounds_toArray, set_cons_zero, set_cons_succ, i64_w, i32_w]; rfl)
              refine pure_ (i := 12) (N := some 176) (v := undef) (a' := ?_) q13 rfl rfl (any_of HT_.out (by kernel_rfl)) (fun _ _ _ h => h) (Or.inr ⟨by rfl, rfl⟩) ?_ ?_
              rotate_left
              · (simp only [Act.put, setIfInBounds_toArray, set_cons_zero, set_cons_succ, i64_w, i32_w]; rfl)
              refine pure_ (i := 13) (N := some 177) (v := undef) (a' := ?_) q14 rfl rfl (any_of HT_.out (by kernel_rfl)) (fun _ _ _ h => h) (Or.inr ⟨by rfl, rfl⟩) ?_ ?_
              rotate_left
              · (simp only [Act.put, setIfInBounds_toArray, set_cons_zero, set_cons_succ, i64_w, i32_w]; rfl)
              refine pure_ (i := 14) (N := some 178) (v := undef) (a' := ?_) q15 rfl rfl (any_of HT_.out (by kernel_rfl)) (fun _ _ _ h => h) (Or.inr ⟨by rfl, rfl⟩) ?_ ?_
              rotate_left
              · (simp only [Act.put, setIfInBounds_toArray, set_cons_zero, set_cons_succ, i64_w, i32_w]; rfl)
              refine pure_ (i := 15) (N := some 179) (v := undef) (a' := ?_) q16 rfl rfl (any_of HT_.out (by kernel_rfl)) (fun _ _ _ h => h) (Or.inr ⟨by rfl, rfl⟩) ?_ ?_
              rotate_left
              · (simp only [Act.put, setIfInBounds_toArray, set_cons_zero, set_cons_succ, i64_w, i32_w]; rfl)
              refine pure_ (i := 16) (N := some 180) (v := undef) (a' := ?_) q17 rfl rfl (any_of HT_.out (by kernel_rfl)) (fun _ _ _ h => h) (Or.inr ⟨by rfl, rfl⟩) ?_ ?_
              rotate_left
              · (simp only [Act.put, setIfInBounds_toArray, set_cons_zero, set_cons_succ, i64_w, i32_w]; rfl)
              refine pure_ (i := 17) (N := some 181) (v := undef) (a' := ?_) q18 rfl rfl (any_of HT_.out (by kernel_rfl)) (fun _ _ _ h => h) (Or.inr ⟨by rfl, rfl⟩) ?_ ?_
              rotate_left
              · (simp only [Act.put, setIfInBounds_toArray, set_cons_zero, set_cons_succ, i64_w, i32_w]; rfl)
              refine pure_ (i := 18) (N := some 182) (v := undef) (a' := ?_) q19 rfl rfl (any_of HT_.out (by kernel_rfl)) (fun _ _ _ h => h) (Or.inr ⟨by rfl, rfl⟩) ?_ ?_
              rotate_left
              · (simp only [Act.put, setIfInBounds_toArray, set_cons_zero, set_cons_succ, i64_w, i32_w]; rfl)
              refine pure_ (i := 19) (N := some 183) (v := undef) (a' := ?_) q20 rfl rfl (any_of HT_.out (by kernel_rfl)) (fun _ _ _ h => h) (Or.inr ⟨by rfl, rfl⟩) ?_ ?_
              rotate_left
              · (simp only [Act.put, setIfInBounds_toArray, set_cons_zero, set_cons_succ, i64_w, i32_w]; rfl)
              refine pure_ (i := 20) (N := some 184) (v := undef) (a' := ?_) q21 rfl rfl (any_of HT_.out (by kernel_rfl)) (fun _ _ _ h => h) (Or.inr ⟨by rfl, rfl⟩) ?_ ?_
              rotate_left
              · (simp only [Act.put, setIfInBounds_toArray, set_cons_zero, set_cons_succ, i64_w, i32_w]; rfl)
              refine pure_ (i := 21) (N := some 185) (v := undef) (a' := ?_) q22 rfl rfl (any_of HT_.out (by kernel_rfl)) (fun _ _ _ h => h) (Or.inr ⟨by rfl, rfl⟩) ?_ ?_
              rotate_left
              · (simp only [Act.put, setIfInBounds_toArray, set_cons_zero, set_cons_succ, i64_w, i32_w]; rfl)
              refine pure_ (i := 22) (N := some 186) (v := undef) (a' := ?_) q23 rfl rfl (any_of HT_.out (by kernel_rfl)) (fun _ _ _ h => h) (Or.inr ⟨by rfl, rfl⟩) ?_ ?_
              rotate_left
              · (simp only [Act.put, setIfInBounds_toArray, set_cons_zero, set_cons_succ, i64_w, i32_w]; rfl)
              refine pure_ (i := 23) (N := some 187) (v := undef) (a' := ?_) q24 rfl rfl (any_of HT_.out (by kernel_rfl)) (fun _ _ _ h => h) (Or.inr ⟨by rfl, rfl⟩) ?_ ?_
              rotate_left
              · (simp only [Act.put, setIfInBounds_toArray, set_cons_zero, set_cons_succ, i64_w, i32_w]; rfl)
              refine pure_ (i := 24) (N := some 188) (v := undef) (a' := ?_) q25 rfl rfl (any_of HT_.out (by kernel_rfl)) (fun _ _ _ h => h) (Or.inr ⟨by rfl, rfl⟩) ?_ ?_
              rotate_left
              · (simp only [Act.put, setIfInBounds_toArray, set_cons_zero, set_cons_succ, i64_w, i32_w]; rfl)
              refine pure_ (i := 25) (N := some 189) (v := undef) (a' := ?_) q26 rfl rfl (any_of HT_.out (by kernel_rfl)) (fun _ _ _ h => h) (Or.inr ⟨by rfl, rfl⟩) ?_ ?_
              rotate_left
              · (simp only [Act.put, setIfInBounds_toArray, set_cons_zero, set_cons_succ, i64_w, i32_w]; rfl)
              refine pure_ (i := 26) (N := some 190) (v := undef) (a' := ?_) q27 rfl rfl (any_of HT_.out (by kernel_rfl)) (fun _ _ _ h => h) (Or.inr ⟨by rfl, rfl⟩) ?_ ?_
              rotate_left
              · (simp only [Act.put, setIfInBounds_toArray, set_cons_zero, set_cons_succ, i64_w, i32_w]; rfl)
              refine pure_ (i := 27) (N := some 191) (v := undef) (a' := ?_) q28 rfl rfl (any_of HT_.out (by kernel_rfl)) (fun _ _ _ h => h) (Or.inr ⟨by rfl, rfl⟩) ?_ ?_
              rotate_left
              · (simp only [Act.put, setIfInBounds_toArray, set_cons_zero, set_cons_succ, i64_w, i32_w]; rfl)
              refine pure_ (i := 28) (N := some 192) (v := undef) (a' := ?_) q29 rfl rfl (any_of HT_.out (by kernel_rfl)) (fun _ _ _ h => h) (Or.inr ⟨by rfl, rfl⟩) ?_ ?_
              rotate_left
              · (simp only [Act.put, setIfInBounds_toArray, set_cons_zero, set_cons_succ, i64_w, i32_w]; rfl)
              refine pure_ (i := 29) (N := some 193) (v := undef) (a' := ?_) q30 rfl rfl (any_of HT_.out (by kernel_rfl)) (fun _ _ _ h => h) (Or.inr ⟨by rfl, rfl⟩) ?_ ?_
              rotate_left
              · (simp only [Act.put, setIfInBounds_toArray, set_cons_zero, set_cons_succ, i64_w, i32_w]; rfl)
              refine pure_ (i := 30) (N := some 194) (v := undef) (a' := ?_) q31 rfl rfl (any_of HT_.out (by kernel_rfl)) (fun _ _ _ h => h) (Or.inr ⟨by rfl, rfl⟩) ?_ ?_
              rotate_left
              · (simp only [Act.put, setIfInBounds_toArray, set_cons_zero, set_cons_succ, i64_w, i32_w]; rfl)
              refine pure_ (i := 31) (N := some 195) (v := undef) (a' := ?_) q32 rfl rfl (any_of HT_.out (by kernel_rfl)) (fun _ _ _ h => h) (Or.inr ⟨by rfl, rfl⟩) ?_ ?_
              rotate_left
              · (simp only [Act.put, setIfInBounds_toArray, set_cons_zero, set_cons_succ, i64_w, i32_w]; rfl)
              refine pure_ (i := 32) (N := some 196) (v := undef) (a' := ?_) q33 rfl rfl (any_of HT_.out (by kernel_rfl)) (fun _ _ _ h => h) (Or.inr ⟨by rfl, rfl⟩) ?_ ?_
              rotate_left
              · (simp only [Act.put, setIfInBounds_toArray, set_cons_zero, set_cons_succ, i64_w, i32_w]; rfl)
              refine pure_ (i := 33) (N := some 197) (v := undef) (a' := ?_) q34 rfl rfl (any_of HT_.out (by kernel_rfl)) (fun _ _ _ h => h) (Or.inr ⟨by rfl, rfl⟩) ?_ ?_
              rotate_left
              · (simp only [Act.put, setIfInBounds_toArray, set_cons_zero, set_cons_succ, i64_w, i32_w]; rfl)
              refine pure_ (i := 34) (N := some 198) (v := undef) (a' := ?_) q35 rfl rfl (any_of HT_.out (by kernel_rfl)) (fun _ _ _ h => h) (Or.inr ⟨by rfl, rfl⟩) ?_ ?_
              rotate_left
              · (simp only [Act.put, setIfInBounds_toArray, set_cons_zero, set_cons_succ, i64_w, i32_w]; rfl)
              refine pure_ (i := 35) (N := some 199) (v := undef) (a' := ?_) q36 rfl rfl (any_of HT_.out (by kernel_rfl)) (fun _ _ _ h => h) (Or.inr ⟨by rfl, rfl⟩) ?_ ?_
              rotate_left
              · (simp only [Act.put, setIfInBounds_toArray, set_cons_zero, set_cons_succ, i64_w, i32_w]; rfl)
              refine pure_ (i := 36) (N := some 200) (v := undef) (a' := ?_) q37 rfl rfl (any_of HT_.out (by kernel_rfl)) (fun _ _ _ h => h) (Or.inr ⟨by rfl, rfl⟩) ?_ ?_
              rotate_left
              · (simp only [Act.put, setIfInBounds_toArray, set_cons_zero, set_cons_succ, i64_w, i32_w]; rfl)
              refine pure_ (i := 37) (N := some 201) (v := undef) (a' := ?_) q38 rfl rfl (any_of HT_.out (by kernel_rfl)) (fun _ _ _ h => h) (Or.inr ⟨by rfl, rfl⟩) ?_ ?_
              rotate_left
              · (simp only [Act.put, setIfInBounds_toArray, set_cons_zero, set_cons_succ, i64_w, i32_w]; rfl)
              refine pure_ (i := 38) (N := some 202) (v := undef) (a' := ?_) q39 rfl rfl (any_of HT_.out (by kernel_rfl)) (fun _ _ _ h => h) (Or.inr ⟨by rfl, rfl⟩) ?_ ?_
              rotate_left
              · (simp only [Act.put, setIfInBounds_toArray, set_cons_zero, set_cons_succ, i64_w, i32_w]; rfl)
              refine pure_ (i := 39) (N := some 203) (v := undef) (a' := ?_) q40 rfl rfl (any_of HT_.out (by kernel_rfl)) (fun _ _ _ h => h) (Or.inr ⟨by rfl, rfl⟩) ?_ ?_
              rotate_left
              · (simp only [Act.put, setIfInBounds_toArray, set_cons_zero, set_cons_succ, i64_w, i32_w]; rfl)
              refine pure_ (i := 40) (N := some 204) (v := undef) (a' := ?_) q41 rfl rfl (any_of HT_.out (by kernel_rfl)) (fun _ _ _ h => h) (Or.inr ⟨by rfl, rfl⟩) ?_ ?_
              rotate_left
              · (simp only [Act.put, setIfInBounds_toArray, set_cons_zero, set_cons_succ, i64_w, i32_w]; rfl)
              refine pure_ (i := 41) (N := some 205) (v := undef) (a' := ?_) q42 rfl rfl (any_of HT_.out (by kernel_rfl)) (fun _ _ _ h => h) (Or.inr ⟨by rfl, rfl⟩) ?_ ?_
              rotate_left
              · (simp only [Act.put, setIfInBounds_toArray, set_cons_zero, set_cons_succ, i64_w, i32_w]; rfl)
              refine pure_ (i := 42) (N := some 206) (v := undef) (a' := ?_) q43 rfl rfl (any_of HT_.out (by kernel_rfl)) (fun _ _ _ h => h) (Or.inr ⟨by rfl, rfl⟩) ?_ ?_
              rotate_left
              · (simp only [Act.put, setIfInBounds_toArray, set_cons_zero, set_cons_succ, i64_w, i32_w]; rfl)
              refine pure_ (i := 43) (N := some 207) (v := undef) (a' := ?_) q44 rfl rfl (any_of HT_.out (by kernel_rfl)) (fun _ _ _ h => h) (Or.inr ⟨by rfl, rfl⟩) ?_ ?_
              rotate_left
              · (simp only [Act.put, setIfInBounds_toArray, set_cons_zero, set_cons_succ, i64_w, i32_w]; rfl)
              refine pure_ (i := 44) (N := some 208) (v := undef) (a' := ?_) q45 rfl rfl (any_of HT_.out (by kernel_rfl)) (fun _ _ _ h => h) (Or.inr ⟨by rfl, rfl⟩) ?_ ?_
              rotate_left
              · (simp only [Act.put, setIfInBounds_toArray, set_cons_zero, set_cons_succ, i64_w, i32_w]; rfl)
              refine pure_ (i := 45) (N := some 209) (v := undef) (a' := ?_) q46 rfl rfl (any_of HT_.out (by kernel_rfl)) (fun _ _ _ h => h) (Or.inr ⟨by rfl, rfl⟩) ?_ ?_
              rotate_left
              · (simp only [Act.put, setIfInBounds_toArray, set_cons_zero, set_cons_succ, i64_w, i32_w]; rfl)
              refine pure_ (i := 46) (N := some 210) (v := undef) (a' := ?_) q47 rfl rfl (any_of HT_.out (by kernel_rfl)) (fun _ _ _ h => h) (Or.inr ⟨by rfl, rfl⟩) ?_ ?_
              rotate_left
              · (simp only [Act.put, setIfInBounds_toArray, set_cons_zero, set_cons_succ, i64_w, i32_w]; rfl)
              refine pure_ (i := 47) (N := some 211) (v := undef) (a' := ?_) q48 rfl rfl (any_of HT_.out (by kernel_rfl)) (fun _ _ _ h => h) (Or.inr ⟨by rfl, rfl⟩) ?_ ?_
              rotate_left
              · (simp only [Act.put, setIfInBounds_toArray, set_cons_zero, set_cons_succ, i64_w, i32_w]; rfl)
              refine pure_ (i := 48) (N := some 212) (v := undef) (a' := ?_) q49 rfl rfl (any_of HT_.out (by kernel_rfl)) (fun _ _ _ h => h) (Or.inr ⟨by rfl, rfl⟩) ?_ ?_
              rotate_left
              · (simp only [Act.put, setIfInBounds_toArray, set_cons_zero, set_cons_succ, i64_w, i32_w]; rfl)
              refine pure_ (i := 49) (N := some 213) (v := ?_) (a' := ?_) q50 rfl rfl (any_of HT_.out (by kernel_rfl)) (fun _ _ _ h => h) (Or.inl ⟨by rfl, ?_⟩) ?_ ?_
              rotate_left
              · (intro w'; go_simp; with_reducible rfl)
              rotate_left
              · (simp only [Act.put, setIfInBounds_toArray, set_cons_zero, set_cons_succ, i64_w, i32_w]; rfl)
              refine done_ (done_of HT_.out (by kernel_rfl)) ?_

              go_wp2
              go_roundw
              case rel => exact ⟨i + 1, by first | rfl | (rw [wrap_ok (by omega) (by omega)]; simp), by have := HLT.out; omega, ⟨below_drew1 HW2.out⟩⟩
              case measure => have := HLT.out; have := HKS6.out; (try rw [wrap_ok (by omega) (by omega)]); simp [intOf]; omega
            · have dj : decide ((0 : Int) < (i : Int)) = true := decide_eq_true (by omega)
              have djn : decide (0 < i) = true := decide_eq_true (by omega)
              obtain ⟨j, hj⟩ : ∃ j, j + 1 = i := ⟨i - 1, by omega⟩
              obtain ⟨q, hq, hqn, hqc⟩ := HPREV.out j hj
              have hjq : wrap64 ((i : Int) - 1) = (j : Int) := by have := HLT.out; have := HKS6.out; unfold wrap64; omega
              have hjk : j < ks.length := by omega
              have hql : q < l.length := by omega
              obtain ⟨ak2, e, -⟩ := Kd.at_int HCK.out (j : Int) (by omega) (by omega)
              cases e
              have HXJ : Aside0 (∀ W, Below W2.heap.size W2 W → W.cell? (ak.add j) = some (.int .i64 (q : Int))) := ⟨fun W hW => by
                obtain ⟨ad', e, x0⟩ := Kd.at_int (Kd.C_below HCK.out hW) (j : Int) (by omega) (by omega)
                cases e
                rw [Int.toNat_natCast] at x0
                rw [x0, ← hq]
                unfold rd
                rw [Int.toNat_natCast]⟩
              obtain ⟨ad2, e, -⟩ := Kd.at_int HCL.out (q : Int) (by omega) (by omega)
              cases e
              obtain ⟨b, hb⟩ : ∃ k, l.getD q 0 = k := ⟨_, rfl⟩
              have HXB : Aside0 (∀ W, Below W2.heap.size W2 W → W.cell? (ad.add q) = some (.int .u64 b)) := ⟨fun W hW => by
                obtain ⟨ad', e, x0⟩ := Kd.at_int (Kd.C_below HCL.out hW) (q : Int) (by omega) (by omega)
                cases e
                rw [Int.toNat_natCast] at x0
                rw [x0, ← hb]
                unfold rd
                rw [Int.toNat_natCast]⟩
              rw [hb] at hqc
              have y1 := HXJ.out _ HW2.out
              have y3 := HXB.out _ HW2.out
              clear hq hb hj
              rcases hqc with hba | ⟨hbe, hqp⟩
              · have dba : decide (a < b) = false := decide_eq_false (by omega)
                have dbe : (b == a) = false := beq_false_of_ne (by omega)
                clear hba
                refine start_ (n := 50) (S := fun w' => w'.cell? (ak.add i) = some (.int .i64 p) ∧ w'.cell? (ak.add j) = some (.int .i64 q) ∧ w'.cell? (ad.add p) = some (.int .u64 a) ∧ w'.cell? (ad.add q) = some (.int .u64 b)) (ds := []) q0 (by kernel_rfl) rfl rfl ⟨y0, y1, y2, y3⟩ (fun hHeld => ?_)
                refine with_tabW WheelTimes.tab26 WheelTimes.bits26 (fun HT_ HW_ => ?_)
                refine pure_ (i := 0) (N := some 164) (v := ?_) (a' := ?_) q1 rfl rfl (any_of HT_.out (by kernel_rfl)) (fun _ _ _ h => h) (Or.inl ⟨by rfl, ?_⟩) ?_ ?_
                rotate_left
                · (intro w'; go_simp; with_reducible rfl)
                rotate_left
                · (simp only [Act.put, setIfInBounds_toArray, set_cons_zero, set_cons_succ, i64_w, i32_w]; rfl)
                refine pure_ (i := 1) (N := some 165) (v := ?_) (a' := ?_) q2 rfl rfl (any_of HT_.out (by kernel_rfl)) (fun _ _ _ h => h) (Or.inl ⟨by rfl, ?_⟩) ?_ ?_
                rotate_left
                · (intro w'; go_simp; with_reducible rfl)
                rotate_left
                · (simp only [Act.put, setIfInBounds_toArray, set_cons_zero, set_cons_succ, i64_w, i32_w]; rfl)
                refine pure_ (i := 2) (N := some 166) (v := ?_) (a' := ?_) q3 rfl rfl (any_of HT_.out (by kernel_rfl)) (fun _ _ _ h => h) (Or.inl ⟨by rfl, ?_⟩) ?_ ?_
                rotate_left
                · (intro w'; go_simp; with_reducible rfl)
                rotate_left
                · (simp only [Act.put, setIfInBounds_toArray, set_cons_zero, set_cons_succ, i64_w, i32_w]; rfl)
                refine pure_ (i := 3) (N := some 167) (v := ?_) (a' := ?_) q4 rfl rfl (any_of HT_.out (by kernel_rfl)) (fun _ _ _ h => h) (Or.inl ⟨by rfl, ?_⟩) ?_ ?_
                rotate_left
                · (intro w'; go_simp; with_reducible rfl)
                rotate_left
                · (simp only [Act.put, setIfInBounds_toArray, set_cons_zero, set_cons_succ, i64_w, i32_w]; rfl)
                refine pure_ (i := 4) (N := some 168) (v := ?_) (a' := ?_) q5 rfl rfl (any_of HT_.out (by kernel_rfl)) (fun _ _ _ h => h) (Or.inl ⟨by rfl, ?_⟩) ?_ ?_
                rotate_left
                · (intro w'; go_simp; with_reducible rfl)
                rotate_left
                · (simp only [Act.put, setIfInBounds_toArray, set_cons_zero, set_cons_succ, i64_w, i32_w]; rfl)
                refine pure_ (i := 5) (N := some 169) (v := ?_) (a' := ?_) q6 rfl rfl (any_of HT_.out (by kernel_rfl)) (fun _ _ _ h => h) (Or.inl ⟨by rfl, ?_⟩) ?_ ?_
                rotate_left
                · (intro w'; go_simp; with_reducible rfl)
                rotate_left
                · (simp only [Act.put, setIfInBounds_toArray, set_cons_zero, set_cons_succ, i64_w, i32_w]; rfl)
                refine pure_ (i := 6) (N := some 170) (v := ?_) (a' := ?_) q7 rfl rfl (any_of HT_.out (by kernel_rfl)) (fun _ _ _ h => h) (Or.inl ⟨by rfl, ?_⟩) ?_ ?_
                rotate_left
                · intro w'
                  go_simp
                  rw [i64_w, hjq]
                rotate_left
                · (simp only [Act.put, setIfInBounds_toArray, set_cons_zero, set_cons_succ, i64_w, i32_w]; rfl)
                refine pure_ (i := 7) (N := some 171) (v := ?_) (a' := ?_) q8 rfl rfl (any_of HT_.out (by kernel_rfl)) (fun _ _ _ h => h) (Or.inl ⟨by rfl, ?_⟩) ?_ ?_
                rotate_left
                · (intro w'; go_simp; with_reducible rfl)
                rotate_left
                · (simp only [Act.put, setIfInBounds_toArray, set_cons_zero, set_cons_succ, i64_w, i32_w]; rfl)
                refine pure_ (i := 11) (N := some 175) (v := ?_) (a' := ?_) q51 rfl rfl (any_of HT_.out (by kernel_rfl)) (fun _ _ _ h => h) (Or.inl ⟨by rfl, ?_⟩) ?_ ?_
                rotate_left
                · (intro w'; go_simp; with_reducible rfl)
                rotate_left
                · (simp only [Act.put, setIfInBounds_toArray, set_cons_zero, set_cons_succ, i64_w, i32_w]; rfl)
                refine pure_ (i := 12) (N := some 176) (v := ?_) (a' := ?_) q52 rfl rfl (any_of HT_.out (by kernel_rfl)) (fun _ _ _ h => h) (Or.inl ⟨by rfl, ?_⟩) ?_ ?_
                rotate_left
                · (intro w'; go_simp; with_reducible rfl)
                rotate_left
                · (simp only [Act.put, setIfInBounds_toArray, set_cons_zero, set_cons_succ, i64_w, i32_w]; rfl)
                refine pure_ (i := 13) (N := some 177) (v := ?_) (a' := ?_) q53 rfl rfl (any_of HT_.out (by kernel_rfl)) (fun _ _ _ h => h) (Or.inl ⟨by rfl, ?_⟩) ?_ ?_
                rotate_left
                · (intro w'; go_simp; with_reducible rfl)
                rotate_left
                · (simp only [Act.put, setIfInBounds_toArray, set_cons_zero, set_cons_succ, i64_w, i32_w]; rfl)
                refine pure_ (i := 14) (N := some 178) (v := ?_) (a' := ?_) q54 rfl rfl (any_of HT_.out (by kernel_rfl)) (fun _ _ _ h => h) (Or.inl ⟨by rfl, ?_⟩) ?_ ?_
                rotate_left
                · (intro w'; go_simp; with_reducible rfl)
                rotate_left
                · (simp only [Act.put, setIfInBounds_toArray, set_cons_zero, set_cons_succ, i64_w, i32_w]; rfl)
                refine take_ (i := 8) (N := some 172) (v := ?_) (a' := ?_) q55 rfl rfl (take_ofW HT_.out HW_.out (by kernel_rfl)) (fun _ _ _ h => h) (Or.inl ⟨by rfl, ?_⟩) hHeld ?_ ?_
                rotate_left
                · (rintro w' ⟨s0, s1, s2, s3⟩; go_simp; with_reducible rfl)
                rotate_left
                · (simp only [Act.put, setIfInBounds_toArray, set_cons_zero, set_cons_succ, i64_w, i32_w]; rfl)
                refine pure_ (i := 9) (N := some 173) (v := ?_) (a' := ?_) q56 rfl rfl (any_of HT_.out (by kernel_rfl)) (fun _ _ _ h => h) (Or.inl ⟨by rfl, ?_⟩) ?_ ?_
                rotate_left
                · (intro w'; go_simp; with_reducible rfl)
                rotate_left
                · (simp only [Act.put, setIfInBounds_toArray, set_cons_zero, set_cons_succ, i64_w, i32_w]; rfl)
                refine take_ (i := 10) (N := some 174) (v := ?_) (a' := ?_) q15 rfl rfl (take_ofW HT_.out HW_.out (by kernel_rfl)) (fun _ _ _ h => h) (Or.inl ⟨by rfl, ?_⟩) hHeld ?_ ?_
                rotate_left
                · (rintro w' ⟨s0, s1, s2, s3⟩; go_simp; with_reducible rfl)
                rotate_left
                · (simp only [Act.put, setIfInBounds_toArray, set_cons_zero, set_cons_succ, i64_w, i32_w]; rfl)
                refine take_ (i := 15) (N := some 179) (v := ?_) (a' := ?_) q16 rfl rfl (take_ofW HT_.out HW_.out (by kernel_rfl)) (fun _ _ _ h => h) (Or.inl ⟨by rfl, ?_⟩) hHeld ?_ ?_
                rotate_left
                · (rintro w' ⟨s0, s1, s2, s3⟩; go_simp; with_reducible rfl)
                rotate_left
                · (simp only [Act.put, setIfInBounds_toArray, set_cons_zero, set_cons_succ, i64_w, i32_w]; rfl)
                refine pure_ (i := 16) (N := some 180) (v := ?_) (a' := ?_) q17 rfl rfl (any_of HT_.out (by kernel_rfl)) (fun _ _ _ h => h) (Or.inl ⟨by rfl, ?_⟩) ?_ ?_
                rotate_left
                · (intro w'; go_simp; with_reducible rfl)
                rotate_left
                · (simp only [Act.put, setIfInBounds_toArray, set_cons_zero, set_cons_succ, i64_w, i32_w]; rfl)
                refine take_ (i := 17) (N := some 181) (v := ?_) (a' := ?_) q18 rfl rfl (take_ofW HT_.out HW_.out (by kernel_rfl)) (fun _ _ _ h => h) (Or.inl ⟨by rfl, ?_⟩) hHeld ?_ ?_
                rotate_left
                · (rintro w' ⟨s0, s1, s2, s3⟩; go_simp; with_reducible rfl)
                rotate_left
                · (simp only [Act.put, setIfInBounds_toArray, set_cons_zero, set_cons_succ, i64_w, i32_w]; rfl)
                refine pure_ (i := 18) (N := some 182) (v := ?_) (a' := ?_) q19 rfl rfl (any_of HT_.out (by kernel_rfl)) (fun _ _ _ h => h) (Or.inl ⟨by rfl, ?_⟩) ?_ ?_
                rotate_left
                · (intro w'; go_simp; with_reducible rfl)
                rotate_left
                · (simp only [Act.put, setIfInBounds_toArray, set_cons_zero, set_cons_succ, i64_w, i32_w]; rfl)
                refine pure_ (i := 19) (N := some 183) (v := ?_) (a' := ?_) q20 rfl rfl (any_of HT_.out (by kernel_rfl)) (fun _ _ _ h => h) (Or.inl ⟨by rfl, ?_⟩) ?_ ?_
                rotate_left
                · (intro w'; go_simp; with_reducible rfl)
                rotate_left
                · (simp only [Act.put, setIfInBounds_toArray, set_cons_zero, set_cons_succ, i64_w, i32_w]; rfl)
                refine pure_ (i := 20) (N := some 184) (v := ?_) (a' := ?_) q21 rfl rfl (any_of HT_.out (by kernel_rfl)) (fun _ _ _ h => h) (Or.inl ⟨by rfl, ?_⟩) ?_ ?_
                rotate_left
                · (intro w'; go_simp; with_reducible rfl)
                rotate_left
                · (simp only [Act.put, setIfInBounds_toArray, set_cons_zero, set_cons_succ, i64_w, i32_w]; rfl)
                refine pure_ (i := 21) (N := some 185) (v := ?_) (a' := ?_) q22 rfl rfl (any_of HT_.out (by kernel_rfl)) (fun _ _ _ h => h) (Or.inl ⟨by rfl, ?_⟩) ?_ ?_
                rotate_left
                · (intro w'; go_simp; with_reducible rfl)
                rotate_left
                · (simp only [Act.put, setIfInBounds_toArray, set_cons_zero, set_cons_succ, i64_w, i32_w]; rfl)
                refine pure_ (i := 22) (N := some 186) (v := ?_) (a' := ?_) q23 rfl rfl (any_of HT_.out (by kernel_rfl)) (fun _ _ _ h => h) (Or.inl ⟨by rfl, ?_⟩) ?_ ?_
                rotate_left
                · (intro w'; go_simp; with_reducible rfl)
                rotate_left
                · (simp only [Act.put, setIfInBounds_toArray, set_cons_zero, set_cons_succ, i64_w, i32_w]; rfl)
                refine pure_ (i := 23) (N := some 187) (v := ?_) (a' := ?_) q24 rfl rfl (any_of HT_.out (by kernel_rfl)) (fun _ _ _ h => h) (Or.inl ⟨by rfl, ?_⟩) ?_ ?_
                rotate_left
                · intro w'
                  go_simp
                  rw [i64_w, hjq]
                rotate_left
                · (simp only [Act.put, setIfInBounds_toArray, set_cons_zero, set_cons_succ, i64_w, i32_w]; rfl)
                refine pure_ (i := 24) (N := some 188) (v := ?_) (a' := ?_) q25 rfl rfl (any_of HT_.out (by kernel_rfl)) (fun _ _ _ h => h) (Or.inl ⟨by rfl, ?_⟩) ?_ ?_
                rotate_left
                · (intro w'; go_simp; with_reducible rfl)
                rotate_left
                · (simp only [Act.put, setIfInBounds_toArray, set_cons_zero, set_cons_succ, i64_w, i32_w]; rfl)
                refine pure_ (i := 28) (N := some 192) (v := ?_) (a' := ?_) q57 rfl rfl (any_of HT_.out (by kernel_rfl)) (fun _ _ _ h => h) (Or.inl ⟨by rfl, ?_⟩) ?_ ?_
                rotate_left
                · (intro w'; go_simp; with_reducible rfl)
                rotate_left
                · (simp only [Act.put, setIfInBounds_toArray, set_cons_zero, set_cons_succ, i64_w, i32_w]; rfl)
                refine pure_ (i := 29) (N := some 193) (v := ?_) (a' := ?_) q58 rfl rfl (any_of HT_.out (by kernel_rfl)) (fun _ _ _ h => h) (Or.inl ⟨by rfl, ?_⟩) ?_ ?_
                rotate_left
                · (intro w'; go_simp; with_reducible rfl)
                rotate_left
                · (simp only [Act.put, setIfInBounds_toArray, set_cons_zero, set_cons_succ, i64_w, i32_w]; rfl)
                refine pure_ (i := 30) (N := some 194) (v := ?_) (a' := ?_) q59 rfl rfl (any_of HT_.out (by kernel_rfl)) (fun _ _ _ h => h) (Or.inl ⟨by rfl, ?_⟩) ?_ ?_
                rotate_left
                · (intro w'; go_simp; with_reducible rfl)
                rotate_left
                · (simp only [Act.put, setIfInBounds_toArray, set_cons_zero, set_cons_succ, i64_w, i32_w]; rfl)
                refine pure_ (i := 31) (N := some 195) (v := ?_) (a' := ?_) q60 rfl rfl (any_of HT_.out (by kernel_rfl)) (fun _ _ _ h => h) (Or.inl ⟨by rfl, ?_⟩) ?_ ?_
                rotate_left
                · (intro w'; go_simp; with_reducible rfl)
                rotate_left
                · (simp only [Act.put, setIfInBounds_toArray, set_cons_zero, set_cons_succ, i64_w, i32_w]; rfl)
                refine take_ (i := 25) (N := some 189) (v := ?_) (a' := ?_) q61 rfl rfl (take_ofW HT_.out HW_.out (by kernel_rfl)) (fun _ _ _ h => h) (Or.inl ⟨by rfl, ?_⟩) hHeld ?_ ?_
                rotate_left
                · (rintro w' ⟨s0, s1, s2, s3⟩; go_simp; with_reducible rfl)
                rotate_left
                · (simp only [Act.put, setIfInBounds_toArray, set_cons_zero, set_cons_succ, i64_w, i32_w]; rfl)
                refine pure_ (i := 26) (N := some 190) (v := ?_) (a' := ?_) q62 rfl rfl (any_of HT_.out (by kernel_rfl)) (fun _ _ _ h => h) (Or.inl ⟨by rfl, ?_⟩) ?_ ?_
                rotate_left
                · (intro w'; go_simp; with_reducible rfl)
                rotate_left
                · (simp only [Act.put, setIfInBounds_toArray, set_cons_zero, set_cons_succ, i64_w, i32_w]; rfl)
                refine take_ (i := 27) (N := some 191) (v := ?_) (a' := ?_) q32 rfl rfl (take_ofW HT_.out HW_.out (by kernel_rfl)) (fun _ _ _ h => h) (Or.inl ⟨by rfl, ?_⟩) hHeld ?_ ?_
                rotate_left
                · (rintro w' ⟨s0, s1, s2, s3⟩; go_simp; with_reducible rfl)
                rotate_left
                · (simp only [Act.put, setIfInBounds_toArray, set_cons_zero, set_cons_succ, i64_w, i32_w]; rfl)
                refine take_ (i := 32) (N := some 196) (v := ?_) (a' := ?_) q33 rfl rfl (take_ofW HT_.out HW_.out (by kernel_rfl)) (fun _ _ _ h => h) (Or.inl ⟨by rfl, ?_⟩) hHeld ?_ ?_
                rotate_left
                · (rintro w' ⟨s0, s1, s2, s3⟩; go_simp; with_reducible rfl)
                rotate_left
                · (simp only [Act.put, setIfInBounds_toArray, set_cons_zero, set_cons_succ, i64_w, i32_w]; rfl)
                refine pure_ (i := 33) (N := some 197) (v := ?_) (a' := ?_) q34 rfl rfl (any_of HT_.out (by kernel_rfl)) (fun _ _ _ h => h) (Or.inl ⟨by rfl, ?_⟩) ?_ ?_
                rotate_left
                · (intro w'; go_simp; with_reducible rfl)
                rotate_left
                · (simp only [Act.put, setIfInBounds_toArray, set_cons_zero, set_cons_succ, i64_w, i32_w]; rfl)
                refine take_ (i := 34) (N := some 198) (v := ?_) (a' := ?_) q35 rfl rfl (take_ofW HT_.out HW_.out (by kernel_rfl)) (fun _ _ _ h => h) (Or.inl ⟨by rfl, ?_⟩) hHeld ?_ ?_
                rotate_left
                · (rintro w' ⟨s0, s1, s2, s3⟩; go_simp; with_reducible rfl)
                rotate_left
                · (simp only [Act.put, setIfInBounds_toArray, set_cons_zero, set_cons_succ, i64_w, i32_w]; rfl)
                refine pure_ (i := 35) (N := some 199) (v := ?_) (a' := ?_) q36 rfl rfl (any_of HT_.out (by kernel_rfl)) (fun _ _ _ h => h) (Or.inl ⟨by rfl, ?_⟩) ?_ ?_
                rotate_left
                · (intro w'; go_simp; with_reducible rfl)
                rotate_left
                · (simp only [Act.put, setIfInBounds_toArray, set_cons_zero, set_cons_succ, i64_w, i32_w]; rfl)
                refine pure_ (i := 36) (N := some 200) (v := ?_) (a' := ?_) q37 rfl rfl (any_of HT_.out (by kernel_rfl)) (fun _ _ _ h => h) (Or.inl ⟨by rfl, ?_⟩) ?_ ?_
                rotate_left
                · (intro w'; go_simp; with_reducible rfl)
                rotate_left
                · (simp only [Act.put, setIfInBounds_toArray, set_cons_zero, set_cons_succ, i64_w, i32_w]; rfl)
                refine pure_ (i := 37) (N := some 201) (v := undef) (a' := ?_) q38 rfl rfl (any_of HT_.out (by kernel_rfl)) (fun _ _ _ h => h) (Or.inr ⟨by rfl, rfl⟩) ?_ ?_
                rotate_left
                · (simp only [Act.put, setIfInBounds_toArray, set_cons_zero, set_cons_succ, i64_w, i32_w]; rfl)
                refine pure_ (i := 38) (N := some 202) (v := undef) (a' := ?_) q39 rfl rfl (any_of HT_.out (by kernel_rfl)) (fun _ _ _ h => h) (Or.inr ⟨by rfl, rfl⟩) ?_ ?_
                rotate_left
                · (simp only [Act.put, setIfInBounds_toArray, set_cons_zero, set_cons_succ, i64_w, i32_w]; rfl)
                refine pure_ (i := 39) (N := some 203) (v := undef) (a' := ?_) q40 rfl rfl (any_of HT_.out (by kernel_rfl)) (fun _ _ _ h => h) (Or.inr ⟨by rfl, rfl⟩) ?_ ?_
                rotate_left
                · (simp only [Act.put, setIfInBounds_toArray, set_cons_zero, set_cons_succ, i64_w, i32_w]; rfl)
                refine pure_ (i := 40) (N := some 204) (v := undef) (a' := ?_) q41 rfl rfl (any_of HT_.out (by kernel_rfl)) (fun _ _ _ h => h) (Or.inr ⟨by rfl, rfl⟩) ?_ ?_
                rotate_left
                · (simp only [Act.put, setIfInBounds_toArray, set_cons_zero, set_cons_succ, i64_w, i32_w]; rfl)
                refine pure_ (i := 41) (N := some 205) (v := undef) (a' := ?_) q42 rfl rfl (any_of HT_.out (by kernel_rfl)) (fun _ _ _ h => h) (Or.inr ⟨by rfl, rfl⟩) ?_ ?_
                rotate_left
                · (simp only [Act.put, setIfInBounds_toArray, set_cons_zero, set_cons_succ, i64_w, i32_w]; rfl)
                refine pure_ (i := 42) (N := some 206) (v := undef) (a' := ?_) q43 rfl rfl (any_of HT_.out (by kernel_rfl)) (fun _ _ _ h => h) (Or.inr ⟨by rfl, rfl⟩) ?_ ?_
                rotate_left
                · (simp only [Act.put, setIfInBounds_toArray, set_cons_zero, set_cons_succ, i64_w, i32_w]; rfl)
                refine pure_ (i := 43) (N := some 207) (v := undef) (a' := ?_) q44 rfl rfl (any_of HT_.out (by kernel_rfl)) (fun _ _ _ h => h) (Or.inr ⟨by rfl, rfl⟩) ?_ ?_
                rotate_left
                · (simp only [Act.put, setIfInBounds_toArray, set_cons_zero, set_cons_succ, i64_w, i32_w]; rfl)
                refine pure_ (i := 44) (N := some 208) (v := undef) (a' := ?_) q45 rfl rfl (any_of HT_.out (by kernel_rfl)) (fun _ _ _ h => h) (Or.inr ⟨by rfl, rfl⟩) ?_ ?_
                rotate_left
                · (simp only [Act.put, setIfInBounds_toArray, set_cons_zero, set_cons_succ, i64_w, i32_w]; rfl)
                refine pure_ (i := 45) (N := some 209) (v := undef) (a' := ?_) q46 rfl rfl (any_of HT_.out (by kernel_rfl)) (fun _ _ _ h => h) (Or.inr ⟨by rfl, rfl⟩) ?_ ?_
                rotate_left
                · (simp only [Act.put, setIfInBounds_toArray, set_cons_zero, set_cons_succ, i64_w, i32_w]; rfl)
                refine pure_ (i := 46) (N := some 210) (v := undef) (a' := ?_) q47 rfl rfl (any_of HT_.out (by kernel_rfl)) (fun _ _ _ h => h) (Or.inr ⟨by rfl, rfl⟩) ?_ ?_
                rotate_left
                · (simp only [Act.put, setIfInBounds_toArray, set_cons_zero, set_cons_succ, i64_w, i32_w]; rfl)
                refine pure_ (i := 47) (N := some 211) (v := ?_) (a' := ?_) q48 rfl rfl (any_of HT_.out (by kernel_rfl)) (fun _ _ _ h => h) (Or.inl ⟨by rfl, ?_⟩) ?_ ?_
                rotate_left
                · (intro w'; go_simp; with_reducible rfl)
                rotate_left
                · (simp only [Act.put, setIfInBounds_toArray, set_cons_zero, set_cons_succ, i64_w, i32_w]; rfl)
                refine pure_ (i := 48) (N := some 212) (v := ?_) (a' := ?_) q49 rfl rfl (any_of HT_.out (by kernel_rfl)) (fun _ _ _ h => h) (Or.inl ⟨by rfl, ?_⟩) ?_ ?_
                rotate_left
                · (intro w'; go_simp; with_reducible rfl)
                rotate_left
                · (simp only [Act.put, setIfInBounds_toArray, set_cons_zero, set_cons_succ, i64_w, i32_w]; rfl)
                refine pure_ (i := 49) (N := some 213) (v := ?_) (a' := ?_) q50 rfl rfl (any_of HT_.out (by kernel_rfl)) (fun _ _ _ h => h) (Or.inl ⟨by rfl, ?_⟩) ?_ ?_
                rotate_left
                · (intro w'; go_simp; with_reducible rfl)
                rotate_left
                · (simp only [Act.put, setIfInBounds_toArray, set_cons_zero, set_cons_succ, i64_w, i32_w]; rfl)
                refine done_ (done_of HT_.out (by kernel_rfl)) ?_

                go_wp2
                go_roundw
                case rel => exact ⟨i + 1, by first | rfl | (rw [wrap_ok (by omega) (by omega)]; simp), by have := HLT.out; omega, ⟨below_drew1 HW2.out⟩⟩
                case measure => have := HLT.out; have := HKS6.out; (try rw [wrap_ok (by omega) (by omega)]); simp [intOf]; omega
              · subst a
                have dba : decide (b < b) = false := decide_eq_false (by omega)
                have dqp : decide ((p : Int) ≤ (q : Int)) = false := decide_eq_false (by omega)
                have dqp2 : decide (p ≤ q) = false := decide_eq_false (by omega)
                clear hqp
                refine start_ (n := 50) (S := fun w' => w'.cell? (ak.add i) = some (.int .i64 p) ∧ w'.cell? (ak.add j) = some (.int .i64 q) ∧ w'.cell? (ad.add p) = some (.int .u64 b) ∧ w'.cell? (ad.add q) = some (.int .u64 b)) (ds := []) q0 (by kernel_rfl) rfl rfl ⟨y0, y1, y2, y3⟩ (fun hHeld => ?_)
                refine with_tabW WheelTimes.tab26 WheelTimes.bits26 (fun HT_ HW_ => ?_)
                refine pure_ (i := 0) (N := some 164) (v := ?_) (a' := ?_) q1 rfl rfl (any_of HT_.out (by kernel_rfl)) (fun _ _ _ h => h) (Or.inl ⟨by rfl, ?_⟩) ?_ ?_
                rotate_left
                · (intro w'; go_simp; with_reducible rfl)
                rotate_left
                · (simp only [Act.put, setIfInBounds_toArray, set_cons_zero, set_cons_succ, i64_w, i32_w]; rfl)
                refine pure_ (i := 1) (N := some 165) (v := ?_) (a' := ?_) q2 rfl rfl (any_of HT_.out (by kernel_rfl)) (fun _ _ _ h => h) (Or.inl ⟨by rfl, ?_⟩) ?_ ?_
                rotate_left
                · (intro w'; go_simp; with_reducible rfl)
                rotate_left
                · (simp only [Act.put, setIfInBounds_toArray, set_cons_zero, set_cons_succ, i64_w, i32_w]; rfl)
                refine pure_ (i := 2) (N := some 166) (v := ?_) (a' := ?_) q3 rfl rfl (any_of HT_.out (by kernel_rfl)) (fun _ _ _ h => h) (Or.inl ⟨by rfl, ?_⟩) ?_ ?_
                rotate_left
                · (intro w'; go_simp; with_reducible rfl)
                rotate_left
                · (simp only [Act.put, setIfInBounds_toArray, set_cons_zero, set_cons_succ, i64_w, i32_w]; rfl)
                refine pure_ (i := 3) (N := some 167) (v := ?_) (a' := ?_) q4 rfl rfl (any_of HT_.out (by kernel_rfl)) (fun _ _ _ h => h) (Or.inl ⟨by rfl, ?_⟩) ?_ ?_
                rotate_left
                · (intro w'; go_simp; with_reducible rfl)
                rotate_left
                · (simp only [Act.put, setIfInBounds_toArray, set_cons_zero, set_cons_succ, i64_w, i32_w]; rfl)
                refine pure_ (i := 4) (N := some 168) (v := ?_) (a' := ?_) q5 rfl rfl (any_of HT_.out (by kernel_rfl)) (fun _ _ _ h => h) (Or.inl ⟨by rfl, ?_⟩) ?_ ?_
                rotate_left
                · (intro w'; go_simp; with_reducible rfl)
                rotate_left
                · (simp only [Act.put, setIfInBounds_toArray, set_cons_zero, set_cons_succ, i64_w, i32_w]; rfl)
                refine pure_ (i := 5) (N := some 169) (v := ?_) (a' := ?_) q6 rfl rfl (any_of HT_.out (by kernel_rfl)) (fun _ _ _ h => h) (Or.inl ⟨by rfl, ?_⟩) ?_ ?_
                rotate_left
                · (intro w'; go_simp; with_reducible rfl)
                rotate_left
                · (simp only [Act.put, setIfInBounds_toArray, set_cons_zero, set_cons_succ, i64_w, i32_w]; rfl)
                refine pure_ (i := 6) (N := some 170) (v := ?_) (a' := ?_) q7 rfl rfl (any_of HT_.out (by kernel_rfl)) (fun _ _ _ h => h) (Or.inl ⟨by rfl, ?_⟩) ?_ ?_
                rotate_left
                · intro w'
                  go_simp
                  rw [i64_w, hjq]
                rotate_left
                · (simp only [Act.put, setIfInBounds_toArray, set_cons_zero, set_cons_succ, i64_w, i32_w]; rfl)
                refine pure_ (i := 7) (N := some 171) (v := ?_) (a' := ?_) q8 rfl rfl (any_of HT_.out (by kernel_rfl)) (fun _ _ _ h => h) (Or.inl ⟨by rfl, ?_⟩) ?_ ?_
                rotate_left
                · (intro w'; go_simp; with_reducible rfl)
                rotate_left
                · (simp only [Act.put, setIfInBounds_toArray, set_cons_zero, set_cons_succ, i64_w, i32_w]; rfl)
                refine pure_ (i := 11) (N := some 175) (v := ?_) (a' := ?_) q51 rfl rfl (any_of HT_.out (by kernel_rfl)) (fun _ _ _ h => h) (Or.inl ⟨by rfl, ?_⟩) ?_ ?_
                rotate_left
                · (intro w'; go_simp; with_reducible rfl)
                rotate_left
                · (simp only [Act.put, setIfInBounds_toArray, set_cons_zero, set_cons_succ, i64_w, i32_w]; rfl)
                refine pure_ (i := 12) (N := some 176) (v := ?_) (a' := ?_) q52 rfl rfl (any_of HT_.out (by kernel_rfl)) (fun _ _ _ h => h) (Or.inl ⟨by rfl, ?_⟩) ?_ ?_
                rotate_left
                · (intro w'; go_simp; with_reducible rfl)
                rotate_left
                · (simp only [Act.put, setIfInBounds_toArray, set_cons_zero, set_cons_succ, i64_w, i32_w]; rfl)
                refine pure_ (i := 13) (N := some 177) (v := ?_) (a' := ?_) q53 rfl rfl (any_of HT_.out (by kernel_rfl)) (fun _ _ _ h => h) (Or.inl ⟨by rfl, ?_⟩) ?_ ?_
                rotate_left
                · (intro w'; go_simp; with_reducible rfl)
                rotate_left
                · (simp only [Act.put, setIfInBounds_toArray, set_cons_zero, set_cons_succ, i64_w, i32_w]; rfl)
                refine pure_ (i := 14) (N := some 178) (v := ?_) (a' := ?_) q54 rfl rfl (any_of HT_.out (by kernel_rfl)) (fun _ _ _ h => h) (Or.inl ⟨by rfl, ?_⟩) ?_ ?_
                rotate_left
                · (intro w'; go_simp; with_reducible rfl)
                rotate_left
                · (simp only [Act.put, setIfInBounds_toArray, set_cons_zero, set_cons_succ, i64_w, i32_w]; rfl)
                refine take_ (i := 8) (N := some 172) (v := ?_) (a' := ?_) q55 rfl rfl (take_ofW HT_.out HW_.out (by kernel_rfl)) (fun _ _ _ h => h) (Or.inl ⟨by rfl, ?_⟩) hHeld ?_ ?_
                rotate_left
                · (rintro w' ⟨s0, s1, s2, s3⟩; go_simp; with_reducible rfl)
                rotate_left
                · (simp only [Act.put, setIfInBounds_toArray, set_cons_zero, set_cons_succ, i64_w, i32_w]; rfl)
                refine pure_ (i := 9) (N := some 173) (v := ?_) (a' := ?_) q56 rfl rfl (any_of HT_.out (by kernel_rfl)) (fun _ _ _ h => h) (Or.inl ⟨by rfl, ?_⟩) ?_ ?_
                rotate_left
                · (intro w'; go_simp; with_reducible rfl)
                rotate_left
                · (simp only [Act.put, setIfInBounds_toArray, set_cons_zero, set_cons_succ, i64_w, i32_w]; rfl)
                refine take_ (i := 10) (N := some 174) (v := ?_) (a' := ?_) q15 rfl rfl (take_ofW HT_.out HW_.out (by kernel_rfl)) (fun _ _ _ h => h) (Or.inl ⟨by rfl, ?_⟩) hHeld ?_ ?_
                rotate_left
                · (rintro w' ⟨s0, s1, s2, s3⟩; go_simp; with_reducible rfl)
                rotate_left
                · (simp only [Act.put, setIfInBounds_toArray, set_cons_zero, set_cons_succ, i64_w, i32_w]; rfl)
                refine take_ (i := 15) (N := some 179) (v := ?_) (a' := ?_) q16 rfl rfl (take_ofW HT_.out HW_.out (by kernel_rfl)) (fun _ _ _ h => h) (Or.inl ⟨by rfl, ?_⟩) hHeld ?_ ?_
                rotate_left
                · (rintro w' ⟨s0, s1, s2, s3⟩; go_simp; with_reducible rfl)
                rotate_left
                · (simp only [Act.put, setIfInBounds_toArray, set_cons_zero, set_cons_succ, i64_w, i32_w]; rfl)
                refine pure_ (i := 16) (N := some 180) (v := ?_) (a' := ?_) q17 rfl rfl (any_of HT_.out (by kernel_rfl)) (fun _ _ _ h => h) (Or.inl ⟨by rfl, ?_⟩) ?_ ?_
                rotate_left
                · (intro w'; go_simp; with_reducible rfl)
                rotate_left
                · (simp only [Act.put, setIfInBounds_toArray, set_cons_zero, set_cons_succ, i64_w, i32_w]; rfl)
                refine take_ (i := 17) (N := some 181) (v := ?_) (a' := ?_) q18 rfl rfl (take_ofW HT_.out HW_.out (by kernel_rfl)) (fun _ _ _ h => h) (Or.inl ⟨by rfl, ?_⟩) hHeld ?_ ?_
                rotate_left
                · (rintro w' ⟨s0, s1, s2, s3⟩; go_simp; with_reducible rfl)
                rotate_left
                · (simp only [Act.put, setIfInBounds_toArray, set_cons_zero, set_cons_succ, i64_w, i32_w]; rfl)
                refine pure_ (i := 18) (N := some 182) (v := ?_) (a' := ?_) q19 rfl rfl (any_of HT_.out (by kernel_rfl)) (fun _ _ _ h => h) (Or.inl ⟨by rfl, ?_⟩) ?_ ?_
                rotate_left
                · (intro w'; go_simp; with_reducible rfl)
                rotate_left
                · (simp only [Act.put, setIfInBounds_toArray, set_cons_zero, set_cons_succ, i64_w, i32_w]; rfl)
                refine pure_ (i := 19) (N := some 183) (v := ?_) (a' := ?_) q20 rfl rfl (any_of HT_.out (by kernel_rfl)) (fun _ _ _ h => h) (Or.inl ⟨by rfl, ?_⟩) ?_ ?_
                rotate_left
                · (intro w'; go_simp; with_reducible rfl)
                rotate_left
                · (simp only [Act.put, setIfInBounds_toArray, set_cons_zero, set_cons_succ, i64_w, i32_w]; rfl)
                refine pure_ (i := 20) (N := some 184) (v := ?_) (a' := ?_) q21 rfl rfl (any_of HT_.out (by kernel_rfl)) (fun _ _ _ h => h) (Or.inl ⟨by rfl, ?_⟩) ?_ ?_
                rotate_left
                · (intro w'; go_simp; with_reducible rfl)
                rotate_left
                · (simp only [Act.put, setIfInBounds_toArray, set_cons_zero, set_cons_succ, i64_w, i32_w]; rfl)
                refine pure_ (i := 21) (N := some 185) (v := ?_) (a' := ?_) q22 rfl rfl (any_of HT_.out (by kernel_rfl)) (fun _ _ _ h => h) (Or.inl ⟨by rfl, ?_⟩) ?_ ?_
                rotate_left
                · (intro w'; go_simp; with_reducible rfl)
                rotate_left
                · (simp only [Act.put, setIfInBounds_toArray, set_cons_zero, set_cons_succ, i64_w, i32_w]; rfl)
                refine pure_ (i := 22) (N := some 186) (v := ?_) (a' := ?_) q23 rfl rfl (any_of HT_.out (by kernel_rfl)) (fun _ _ _ h => h) (Or.inl ⟨by rfl, ?_⟩) ?_ ?_
                rotate_left
                · (intro w'; go_simp; with_reducible rfl)
                rotate_left
                · (simp only [Act.put, setIfInBounds_toArray, set_cons_zero, set_cons_succ, i64_w, i32_w]; rfl)
                refine pure_ (i := 23) (N := some 187) (v := ?_) (a' := ?_) q24 rfl rfl (any_of HT_.out (by kernel_rfl)) (fun _ _ _ h => h) (Or.inl ⟨by rfl, ?_⟩) ?_ ?_
                rotate_left
                · intro w'
                  go_simp
                  rw [i64_w, hjq]
                rotate_left
                · (simp only [Act.put, setIfInBounds_toArray, set_cons_zero, set_cons_succ, i64_w, i32_w]; rfl)
                refine pure_ (i := 24) (N := some 188) (v := ?_) (a' := ?_) q25 rfl rfl (any_of HT_.out (by kernel_rfl)) (fun _ _ _ h => h) (Or.inl ⟨by rfl, ?_⟩) ?_ ?_
                rotate_left
                · (intro w'; go_simp; with_reducible rfl)
                rotate_left
                · (simp only [Act.put, setIfInBounds_toArray, set_cons_zero, set_cons_succ, i64_w, i32_w]; rfl)
                refine pure_ (i := 28) (N := some 192) (v := ?_) (a' := ?_) q57 rfl rfl (any_of HT_.out (by kernel_rfl)) (fun _ _ _ h => h) (Or.inl ⟨by rfl, ?_⟩) ?_ ?_
                rotate_left
                · (intro w'; go_simp; with_reducible rfl)
                rotate_left
                · (simp only [Act.put, setIfInBounds_toArray, set_cons_zero, set_cons_succ, i64_w, i32_w]; rfl)
                refine pure_ (i := 29) (N := some 193) (v := ?_) (a' := ?_) q58 rfl rfl (any_of HT_.out (by kernel_rfl)) (fun _ _ _ h => h) (Or.inl ⟨by rfl, ?_⟩) ?_ ?_
                rotate_left
                · (intro w'; go_simp; with_reducible rfl)
                rotate_left
                · (simp only [Act.put, setIfInBounds_toArray, set_cons_zero, set_cons_succ, i64_w, i32_w]; rfl)
                refine pure_ (i := 30) (N := some 194) (v := ?_) (a' := ?_) q59 rfl rfl (any_of HT_.out (by kernel_rfl)) (fun _ _ _ h => h) (Or.inl ⟨by rfl, ?_⟩) ?_ ?_
                rotate_left
                · (intro w'; go_simp; with_reducible rfl)
                rotate_left
                · (simp only [Act.put, setIfInBounds_toArray, set_cons_zero, set_cons_succ, i64_w, i32_w]; rfl)
                refine pure_ (i := 31) (N := some 195) (v := ?_) (a' := ?_) q60 rfl rfl (any_of HT_.out (by kernel_rfl)) (fun _ _ _ h => h) (Or.inl ⟨by rfl, ?_⟩) ?_ ?_
                rotate_left
                · (intro w'; go_simp; with_reducible rfl)
                rotate_left
                · (simp only [Act.put, setIfInBounds_toArray, set_cons_zero, set_cons_succ, i64_w, i32_w]; rfl)
                refine take_ (i := 25) (N := some 189) (v := ?_) (a' := ?_) q61 rfl rfl (take_ofW HT_.out HW_.out (by kernel_rfl)) (fun _ _ _ h => h) (Or.inl ⟨by rfl, ?_⟩) hHeld ?_ ?_
                rotate_left
                · (rintro w' ⟨s0, s1, s2, s3⟩; go_simp; with_reducible rfl)
                rotate_left
                · (simp only [Act.put, setIfInBounds_toArray, set_cons_zero, set_cons_succ, i64_w, i32_w]; rfl)
                refine pure_ (i := 26) (N := some 190) (v := ?_) (a' := ?_) q62 rfl rfl (any_of HT_.out (by kernel_rfl)) (fun _ _ _ h => h) (Or.inl ⟨by rfl, ?_⟩) ?_ ?_
                rotate_left
                · (intro w'; go_simp; with_reducible rfl)
                rotate_left
                · (simp only [Act.put, setIfInBounds_toArray, set_cons_zero, set_cons_succ, i64_w, i32_w]; rfl)
                refine take_ (i := 27) (N := some 191) (v := ?_) (a' := ?_) q32 rfl rfl (take_ofW HT_.out HW_.out (by kernel_rfl)) (fun _ _ _ h => h) (Or.inl ⟨by rfl, ?_⟩) hHeld ?_ ?_
                rotate_left
                · (rintro w' ⟨s0, s1, s2, s3⟩; go_simp; with_reducible rfl)
                rotate_left
                · (simp only [Act.put, setIfInBounds_toArray, set_cons_zero, set_cons_succ, i64_w, i32_w]; rfl)
                refine take_ (i := 32) (N := some 196) (v := ?_) (a' := ?_) q33 rfl rfl (take_ofW HT_.out HW_.out (by kernel_rfl)) (fun _ _ _ h => h) (Or.inl ⟨by rfl, ?_⟩) hHeld ?_ ?_
                rotate_left
                · (rintro w' ⟨s0, s1, s2, s3⟩; go_simp; with_reducible rfl)
                rotate_left
                · (simp only [Act.put, setIfInBounds_toArray, set_cons_zero, set_cons_succ, i64_w, i32_w]; rfl)
                refine pure_ (i := 33) (N := some 197) (v := ?_) (a' := ?_) q34 rfl rfl (any_of HT_.out (by kernel_rfl)) (fun _ _ _ h => h) (Or.inl ⟨by rfl, ?_⟩) ?_ ?_
                rotate_left
                · (intro w'; go_simp; with_reducible rfl)
                rotate_left
                · (simp only [Act.put, setIfInBounds_toArray, set_cons_zero, set_cons_succ, i64_w, i32_w]; rfl)
                refine take_ (i := 34) (N := some 198) (v := ?_) (a' := ?_) q35 rfl rfl (take_ofW HT_.out HW_.out (by kernel_rfl)) (fun _ _ _ h => h) (Or.inl ⟨by rfl, ?_⟩) hHeld ?_ ?_
                rotate_left
                · (rintro w' ⟨s0, s1, s2, s3⟩; go_simp; with_reducible rfl)
                rotate_left
                · (simp only [Act.put, setIfInBounds_toArray, set_cons_zero, set_cons_succ, i64_w, i32_w]; rfl)
                refine pure_ (i := 35) (N := some 199) (v := ?_) (a' := ?_) q36 rfl rfl (any_of HT_.out (by kernel_rfl)) (fun _ _ _ h => h) (Or.inl ⟨by rfl, ?_⟩) ?_ ?_
                rotate_left
                · (intro w'; go_simp; with_reducible rfl)
                rotate_left
                · (simp only [Act.put, setIfInBounds_toArray, set_cons_zero, set_cons_succ, i64_w, i32_w]; rfl)
                refine pure_ (i := 36) (N := some 200) (v := ?_) (a' := ?_) q37 rfl rfl (any_of HT_.out (by kernel_rfl)) (fun _ _ _ h => h) (Or.inl ⟨by rfl, ?_⟩) ?_ ?_
                rotate_left
                · (intro w'; go_simp; with_reducible rfl)
                rotate_left
                · (simp only [Act.put, setIfInBounds_toArray, set_cons_zero, set_cons_succ, i64_w, i32_w]; rfl)
                refine pure_ (i := 37) (N := some 201) (v := ?_) (a' := ?_) q38 rfl rfl (any_of HT_.out (by kernel_rfl)) (fun _ _ _ h => h) (Or.inl ⟨by rfl, ?_⟩) ?_ ?_
                rotate_left
                · (intro w'; go_simp; with_reducible rfl)
                rotate_left
                · (simp only [Act.put, setIfInBounds_toArray, set_cons_zero, set_cons_succ, i64_w, i32_w]; rfl)
                refine pure_ (i := 38) (N := some 202) (v := ?_) (a' := ?_) q39 rfl rfl (any_of HT_.out (by kernel_rfl)) (fun _ _ _ h => h) (Or.inl ⟨by rfl, ?_⟩) ?_ ?_
                rotate_left
                · (intro w'; go_simp; with_reducible rfl)
                rotate_left
                · (simp only [Act.put, setIfInBounds_toArray, set_cons_zero, set_cons_succ, i64_w, i32_w]; rfl)
                refine pure_ (i := 39) (N := some 203) (v := ?_) (a' := ?_) q40 rfl rfl (any_of HT_.out (by kernel_rfl)) (fun _ _ _ h => h) (Or.inl ⟨by rfl, ?_⟩) ?_ ?_
                rotate_left
                · intro w'
                  go_simp
                  rw [i64_w, hjq]
                rotate_left
                · (simp only [Act.put, setIfInBounds_toArray, set_cons_zero, set_cons_succ, i64_w, i32_w]; rfl)
                refine pure_ (i := 40) (N := some 204) (v := ?_) (a' := ?_) q41 rfl rfl (any_of HT_.out (by kernel_rfl)) (fun _ _ _ h => h) (Or.inl ⟨by rfl, ?_⟩) ?_ ?_
                rotate_left
                · (intro w'; go_simp; with_reducible rfl)
                rotate_left
                · (simp only [Act.put, setIfInBounds_toArray, set_cons_zero, set_cons_succ, i64_w, i32_w]; rfl)
                refine pure_ (i := 42) (N := some 206) (v := ?_) (a' := ?_) q63 rfl rfl (any_of HT_.out (by kernel_rfl)) (fun _ _ _ h => h) (Or.inl ⟨by rfl, ?_⟩) ?_ ?_
                rotate_left
                · (intro w'; go_simp; with_reducible rfl)
                rotate_left
                · (simp only [Act.put, setIfInBounds_toArray, set_cons_zero, set_cons_succ, i64_w, i32_w]; rfl)
                refine pure_ (i := 43) (N := some 207) (v := ?_) (a' := ?_) q64 rfl rfl (any_of HT_.out (by kernel_rfl)) (fun _ _ _ h => h) (Or.inl ⟨by rfl, ?_⟩) ?_ ?_
                rotate_left
                · (intro w'; go_simp; with_reducible rfl)
                rotate_left
                · (simp only [Act.put, setIfInBounds_toArray, set_cons_zero, set_cons_succ, i64_w, i32_w]; rfl)
                refine pure_ (i := 44) (N := some 208) (v := ?_) (a' := ?_) q65 rfl rfl (any_of HT_.out (by kernel_rfl)) (fun _ _ _ h => h) (Or.inl ⟨by rfl, ?_⟩) ?_ ?_
                rotate_left
                · (intro w'; go_simp; with_reducible rfl)
                rotate_left
                · (simp only [Act.put, setIfInBounds_toArray, set_cons_zero, set_cons_succ, i64_w, i32_w]; rfl)
                refine take_ (i := 41) (N := some 205) (v := ?_) (a' := ?_) q45 rfl rfl (take_ofW HT_.out HW_.out (by kernel_rfl)) (fun _ _ _ h => h) (Or.inl ⟨by rfl, ?_⟩) hHeld ?_ ?_
                rotate_left
                · (rintro w' ⟨s0, s1, s2, s3⟩; go_simp; with_reducible rfl)
                rotate_left
                · (simp only [Act.put, setIfInBounds_toArray, set_cons_zero, set_cons_succ, i64_w, i32_w]; rfl)
                refine take_ (i := 45) (N := some 209) (v := ?_) (a' := ?_) q46 rfl rfl (take_ofW HT_.out HW_.out (by kernel_rfl)) (fun _ _ _ h => h) (Or.inl ⟨by rfl, ?_⟩) hHeld ?_ ?_
                rotate_left
                · (rintro w' ⟨s0, s1, s2, s3⟩; go_simp; with_reducible rfl)
                rotate_left
                · (simp only [Act.put, setIfInBounds_toArray, set_cons_zero, set_cons_succ, i64_w, i32_w]; rfl)
                refine pure_ (i := 46) (N := some 210) (v := ?_) (a' := ?_) q47 rfl rfl (any_of HT_.out (by kernel_rfl)) (fun _ _ _ h => h) (Or.inl ⟨by rfl, ?_⟩) ?_ ?_
                rotate_left
                · (intro w'; go_simp; with_reducible rfl)
                rotate_left
                · (simp only [Act.put, setIfInBounds_toArray, set_cons_zero, set_cons_succ, i64_w, i32_w]; rfl)
                refine pure_ (i := 47) (N := some 211) (v := ?_) (a' := ?_) q48 rfl rfl (any_of HT_.out (by kernel_rfl)) (fun _ _ _ h => h) (Or.inl ⟨by rfl, ?_⟩) ?_ ?_
                rotate_left
                · (intro w'; go_simp; with_reducible rfl)
                rotate_left
                · (simp only [Act.put, setIfInBounds_toArray, set_cons_zero, set_cons_succ, i64_w, i32_w]; rfl)
                refine pure_ (i := 48) (N := some 212) (v := ?_) (a' := ?_) q49 rfl rfl (any_of HT_.out (by kernel_rfl)) (fun _ _ _ h => h) (Or.inl ⟨by rfl, ?_⟩) ?_ ?_
                rotate_left
                · (intro w'; go_simp; with_reducible rfl)
                rotate_left
                · (simp only [Act.put, setIfInBounds_toArray, set_cons_zero, set_cons_succ, i64_w, i32_w]; rfl)
                refine pure_ (i := 49) (N := some 213) (v := ?_) (a' := ?_) q50 rfl rfl (any_of HT_.out (by kernel_rfl)) (fun _ _ _ h => h) (Or.inl ⟨by rfl, ?_⟩) ?_ ?_
                rotate_left
                · (intro w'; go_simp; with_reducible rfl)
                rotate_left
                · (simp only [Act.put, setIfInBounds_toArray, set_cons_zero, set_cons_succ, i64_w, i32_w]; rfl)
                refine done_ (done_of HT_.out (by kernel_rfl)) ?_

                go_wp2
                go_roundw
                case rel => exact ⟨i + 1, by first | rfl | (rw [wrap_ok (by omega) (by omega)]; simp), by have := HLT.out; omega, ⟨below_drew1 HW2.out⟩⟩
                case measure => have := HLT.out; have := HKS6.out; (try rw [wrap_ok (by omega) (by omega)]); simp [intOf]; omega
          · have dif1 : decide ((i : Int) < (ks1.length : Int)) = false := decide_eq_false (by omega)
            have dif2 : decide (i < ks1.length) = false := decide_eq_false hif
            have dif3 : decide ((ks1.length : Int) ≤ (i : Int)) = true := decide_eq_true (by omega)
            have dif4 : decide (ks1.length ≤ i) = true := decide_eq_true (by omega)
            have dan : decide (nw < a) = true := decide_eq_true (by have := hpg (by rw [← HK1L.out]; omega); omega)
            have dan2 : decide (a ≤ nw) = false := decide_eq_false (by have := hpg (by rw [← HK1L.out]; omega); omega)
            clear hpf hpg hif
            go_upto_region 26 with (fail)
            rcases Nat.eq_zero_or_pos i with h0 | h0
            · have dj : decide ((0 : Int) < (i : Int)) = false := decide_eq_false (by omega)
              have djn : decide (0 < i) = false := decide_eq_false (by omega)
              have dj0 : ¬ (0 < i) := by omega
              clear h0 hlt
              refine start_ (n := 50) (S := fun w' => True) (ds := []) q0 (by kernel_rfl) rfl rfl trivial (fun hHeld => ?_)
              refine with_tabW WheelTimes.tab26 WheelTimes.bits26 (fun HT_ HW_ => ?_)
              refine pure_ (i := 0) (N := some 164) (v := ?_) (a' := ?_) q1 rfl rfl (any_of HT_.out (by kernel_rfl)) (fun _ _ _ h => h) (Or.inl ⟨by rfl, ?_⟩) ?_ ?_
              rotate_left
              · (intro w'; go_simp; with_reducible rfl)
              rotate_left
              · (simp only [Act.put, setIfInBounds_toArray, set_cons_zero, set_cons_succ, i64_w, i32_w]; rfl)
              refine pure_ (i := 1) (N := some 165) (v := ?_) (a' := ?_) q2 rfl rfl (any_of HT_.out (by kernel_rfl)) (fun _ _ _ h => h) (Or.inl ⟨by rfl, ?_⟩) ?_ ?_
              rotate_left
              · (intro w'; go_simp; with_reducible rfl)
              rotate_left
              · (simp only [Act.put, setIfInBounds_toArray, set_cons_zero, set_cons_succ, i64_w, i32_w]; rfl)
              refine pure_ (i := 2) (N := some 166) (v := ?_) (a' := ?_) q3 rfl rfl (any_of HT_.out (by kernel_rfl)) (fun _ _ _ h => h) (Or.inl ⟨by rfl, ?_⟩) ?_ ?_
              rotate_left
              · (intro w'; go_simp; with_reducible rfl)
              rotate_left
              · (simp only [Act.put, setIfInBounds_toArray, set_cons_zero, set_cons_succ, i64_w, i32_w]; rfl)
              refine pure_ (i := 3) (N := some 167) (v := undef) (a' := ?_) q4 rfl rfl (any_of HT_.out (by kernel_rfl)) (fun _ _ _ h => h) (Or.inr ⟨by rfl, rfl⟩) ?_ ?_
              rotate_left
              · (simp only [Act.put, setIfInBounds_toArray, set_cons_zero, set_cons_succ, i64_w, i32_w]; rfl)
              refine pure_ (i := 4) (N := some 168) (v := undef) (a' := ?_) q5 rfl rfl (any_of HT_.out (by kernel_rfl)) (fun _ _ _ h => h) (Or.inr ⟨by rfl, rfl⟩) ?_ ?_
              rotate_left
              · (simp only [Act.put, setIfInBounds_toArray, set_cons_zero, set_cons_succ, i64_w, i32_w]; rfl)
              refine pure_ (i := 5) (N := some 169) (v := undef) (a' := ?_) q6 rfl rfl (any_of HT_.out (by kernel_rfl)) (fun _ _ _ h => h) (Or.inr ⟨by rfl, rfl⟩) ?_ ?_
              rotate_left
              · (simp only [Act.put, setIfInBounds_toArray, set_cons_zero, set_cons_succ, i64_w, i32_w]; rfl)
              refine pure_ (i := 6) (N := some 170) (v := undef) (a' := ?_) q7 rfl rfl (any_of HT_.out (by kernel_rfl)) (fun _ _ _ h => h) (Or.inr ⟨by rfl, rfl⟩) ?_ ?_
              rotate_left
              · (simp only [Act.put, setIfInBounds_toArray, set_cons_zero, set_cons_succ, i64_w, i32_w]; rfl)
              refine pure_ (i := 7) (N := some 171) (v := undef) (a' := ?_) q8 rfl rfl (any_of HT_.out (by kernel_rfl)) (fun _ _ _ h => h) (Or.inr ⟨by rfl, rfl⟩) ?_ ?_
              rotate_left
              · (simp only [Act.put, setIfInBounds_toArray, set_cons_zero, set_cons_succ, i64_w, i32_w]; rfl)
              refine pure_ (i := 8) (N := some 172) (v := undef) (a' := ?_) q9 rfl rfl (any_of HT_.out (by kernel_rfl)) (fun _ _ _ h => h) (Or.inr ⟨by rfl, rfl⟩) ?_ ?_
              rotate_left
              · (simp only [Act.put, setIfInBounds_toArray, set_cons_zero, set_cons_succ, i64_w, i32_w]; rfl)
              refine pure_ (i := 9) (N := some 173) (v := undef) (a' := ?_) q10 rfl rfl (any_of HT_.out (by kernel_rfl)) (fun _ _ _ h => h) (Or.inr ⟨by rfl, rfl⟩) ?_ ?_
              rotate_left
              · (simp only [Act.put, setIfInBounds_toArray, set_cons_zero, set_cons_succ, i64_w, i32_w]; rfl)
              refine pure_ (i := 10) (N := some 174) (v := undef) (a' := ?_) q11 rfl rfl (any_of HT_.out (by kernel_rfl)) (fun _ _ _ h => h) (Or.inr ⟨by rfl, rfl⟩) ?_ ?_
              rotate_left
              · (simp only [Act.put, setIfInBounds_toArray, set_cons_zero, set_cons_succ, i64_w, i32_w]; rfl)
              refine pure_ (i := 11) (N := some 175) (v := undef) (a' := ?_) q12 rfl rfl (any_of HT_.out (by kernel_rfl)) (fun _ _ _ h => h) (Or.inr ⟨by rfl, rfl⟩) ?_ ?_
              rotate_left
              · (simp only [Act.put, setIfInBounds_toArray, set_cons_zero, set_cons_succ, i64_w, i32_w]; rfl)
              refine pure_ (i := 12) (N := some 176) (v := undef) (a' := ?_) q13 rfl rfl (any_of HT_.out (by kernel_rfl)) (fun _ _ _ h => h) (Or.inr ⟨by rfl, rfl⟩) ?_ ?_
              rotate_left
              · (simp only [Act.put, setIfInBounds_toArray, set_cons_zero, set_cons_succ, i64_w, i32_w]; rfl)
              refine pure_ (i := 13) (N := some 177) (v := undef) (a' := ?_) q14 rfl rfl (any_of HT_.out (by kernel_rfl)) (fun _ _ _ h => h) (Or.inr ⟨by rfl, rfl⟩) ?_ ?_
              rotate_left
              · (simp only [Act.put, setIfInBounds_toArray, set_cons_zero, set_cons_succ, i64_w, i32_w]; rfl)
              refine pure_ (i := 14) (N := some 178) (v := undef) (a' := ?_) q15 rfl rfl (any_of HT_.out (by kernel_rfl)) (fun _ _ _ h => h) (Or.inr ⟨by rfl, rfl⟩) ?_ ?_
              rotate_left
              · (simp only [Act.put, setIfInBounds_toArray, set_cons_zero, set_cons_succ, i64_w, i32_w]; rfl)
              refine pure_ (i := 15) (N := some 179) (v := undef) (a' := ?_) q16 rfl rfl (any_of HT_.out (by kernel_rfl)) (fun _ _ _ h => h) (Or.inr ⟨by rfl, rfl⟩) ?_ ?_
              rotate_left
              · (simp only [Act.put, setIfInBounds_toArray, set_cons_zero, set_cons_succ, i64_w, i32_w]; rfl)
              refine pure_ (i := 16) (N := some 180) (v := undef) (a' := ?_) q17 rfl rfl (any_of HT_.out (by kernel_rfl)) (fun _ _ _ h => h) (Or.inr ⟨by rfl, rfl⟩) ?_ ?_
              rotate_left
              · (simp only [Act.put, setIfInBounds_toArray, set_cons_zero, set_cons_succ, i64_w, i32_w]; rfl)
              refine pure_ (i := 17) (N := some 181) (v := undef) (a' := ?_) q18 rfl rfl (any_of HT_.out (by kernel_rfl)) (fun _ _ _ h => h) (Or.inr ⟨by rfl, rfl⟩) ?_ ?_
              rotate_left
              · (simp only [Act.put, setIfInBounds_toArray, set_cons_zero, set_cons_succ, i64_w, i32_w]; rfl)
              refine pure_ (i := 18) (N := some 182) (v := undef) (a' := ?_) q19 rfl rfl (any_of HT_.out (by kernel_rfl)) (fun _ _ _ h => h) (Or.inr ⟨by rfl, rfl⟩) ?_ ?_
              rotate_left
              · (simp only [Act.put, setIfInBounds_toArray, set_cons_zero, set_cons_succ, i64_w, i32_w]; rfl)
              refine pure_ (i := 19) (N := some 183) (v := undef) (a' := ?_) q20 rfl rfl (any_of HT_.out (by kernel_rfl)) (fun _ _ _ h => h) (Or.inr ⟨by rfl, rfl⟩) ?_ ?_
              rotate_left
              · (simp only [Act.put, setIfInBounds_toArray, set_cons_zero, set_cons_succ, i64_w, i32_w]; rfl)
              refine pure_ (i := 20) (N := some 184) (v := undef) (a' := ?_) q21 rfl rfl (any_of HT_.out (by kernel_rfl)) (fun _ _ _ h => h) (Or.inr ⟨by rfl, rfl⟩) ?_ ?_
              rotate_left
              · (simp only [Act.put, setIfInBounds_toArray, set_cons_zero, set_cons_succ, i64_w, i32_w]; rfl)
              refine pure_ (i := 21) (N := some 185) (v := undef) (a' := ?_) q22 rfl rfl (any_of HT_.out (by kernel_rfl)) (fun _ _ _ h => h) (Or.inr ⟨by rfl, rfl⟩) ?_ ?_
              rotate_left
              · (simp only [Act.put, setIfInBounds_toArray, set_cons_zero, set_cons_succ, i64_w, i32_w]; rfl)
              refine pure_ (i := 22) (N := some 186) (v := undef) (a' := ?_) q23 rfl rfl (any_of HT_.out (by kernel_rfl)) (fun _ _ _ h => h) (Or.inr ⟨by rfl, rfl⟩) ?_ ?_
              rotate_left
              · (simp only [Act.put, setIfInBounds_toArray, set_cons_zero, set_cons_succ, i64_w, i32_w]; rfl)
              refine pure_ (i := 23) (N := some 187) (v := undef) (a' := ?_) q24 rfl rfl (any_of HT_.out (by kernel_rfl)) (fun _ _ _ h => h) (Or.inr ⟨by rfl, rfl⟩) ?_ ?_
              rotate_left
              · (simp only [Act.put, setIfInBounds_toArray, set_cons_zero, set_cons_succ, i64_w, i32_w]; rfl)
              refine pure_ (i := 24) (N := some 188) (v := undef) (a' := ?_) q25 rfl rfl (any_of HT_.out (by kernel_rfl)) (fun _ _ _ h => h) (Or.inr ⟨by rfl, rfl⟩) ?_ ?_
              rotate_left
              · (simp only [Act.put, setIfInBounds_toArray, set_cons_zero, set_cons_succ, i64_w, i32_w]; rfl)
              refine pure_ (i := 25) (N := some 189) (v := undef) (a' := ?_) q26 rfl rfl (any_of HT_.out (by kernel_rfl)) (fun _ _ _ h => h) (Or.inr ⟨by rfl, rfl⟩) ?_ ?_
              rotate_left
              · (simp only [Act.put, setIfInBounds_toArray, set_cons_zero, set_cons_succ, i64_w, i32_w]; rfl)
              refine pure_ (i := 26) (N := some 190) (v := undef) (a' := ?_) q27 rfl rfl (any_of HT_.out (by kernel_rfl)) (fun _ _ _ h => h) (Or.inr ⟨by rfl, rfl⟩) ?_ ?_
              rotate_left
              · (simp only [Act.put, setIfInBounds_toArray, set_cons_zero, set_cons_succ, i64_w, i32_w]; rfl)
              refine pure_ (i := 27) (N := some 191) (v := undef) (a' := ?_) q28 rfl rfl (any_of HT_.out (by kernel_rfl)) (fun _ _ _ h => h) (Or.inr ⟨by rfl, rfl⟩) ?_ ?_
              rotate_left
              · (simp only [Act.put, setIfInBounds_toArray, set_cons_zero, set_cons_succ, i64_w, i32_w]; rfl)
              refine pure_ (i := 28) (N := some 192) (v := undef) (a' := ?_) q29 rfl rfl (any_of HT_.out (by kernel_rfl)) (fun _ _ _ h => h) (Or.inr ⟨by rfl, rfl⟩) ?_ ?_
              rotate_left
              · (simp only [Act.put, setIfInBounds_toArray, set_cons_zero, set_cons_succ, i64_w, i32_w]; rfl)
              refine pure_ (i := 29) (N := some 193) (v := undef) (a' := ?_) q30 rfl rfl (any_of HT_.out (by kernel_rfl)) (fun _ _ _ h => h) (Or.inr ⟨by rfl, rfl⟩) ?_ ?_
              rotate_left
              · (simp only [Act.put, setIfInBounds_toArray, set_cons_zero, set_cons_succ, i64_w, i32_w]; rfl)
              refine pure_ (i := 30) (N := some 194) (v := undef) (a' := ?_) q31 rfl rfl (any_of HT_.out (by kernel_rfl)) (fun _ _ _ h => h) (Or.inr ⟨by rfl, rfl⟩) ?_ ?_
              rotate_left
              · (simp only [Act.put, setIfInBounds_toArray, set_cons_zero, set_cons_succ, i64_w, i32_w]; rfl)
              refine pure_ (i := 31) (N := some 195) (v := undef) (a' := ?_) q32 rfl rfl (any_of HT_.out (by kernel_rfl)) (fun _ _ _ h => h) (Or.inr ⟨by rfl, rfl⟩) ?_ ?_
              rotate_left
              · (simp only [Act.put, setIfInBounds_toArray, set_cons_zero, set_cons_succ, i64_w, i32_w]; rfl)
              refine pure_ (i := 32) (N := some 196) (v := undef) (a' := ?_) q33 rfl rfl (any_of HT_.out (by kernel_rfl)) (fun _ _ _ h => h) (Or.inr ⟨by rfl, rfl⟩) ?_ ?_
              rotate_left
              · (simp only [Act.put, setIfInBounds_toArray, set_cons_zero, set_cons_succ, i64_w, i32_w]; rfl)
              refine pure_ (i := 33) (N := some 197) (v := undef) (a' := ?_) q34 rfl rfl (any_of HT_.out (by kernel_rfl)) (fun _ _ _ h => h) (Or.inr ⟨by rfl, rfl⟩) ?_ ?_
              rotate_left
              · (simp only [Act.put, setIfInBounds_toArray, set_cons_zero, set_cons_succ, i64_w, i32_w]; rfl)
              refine pure_ (i := 34) (N := some 198) (v := undef) (a' := ?_) q35 rfl rfl (any_of HT_.out (by kernel_rfl)) (fun _ _ _ h => h) (Or.inr ⟨by rfl, rfl⟩) ?_ ?_
              rotate_left
              · (simp only [Act.put, setIfInBounds_toArray, set_cons_zero, set_cons_succ, i64_w, i32_w]; rfl)
              refine pure_ (i := 35) (N := some 199) (v := undef) (a' := ?_) q36 rfl rfl (any_of HT_.out (by kernel_rfl)) (fun _ _ _ h => h) (Or.inr ⟨by rfl, rfl⟩) ?_ ?_
              rotate_left
              · (simp only [Act.put, setIfInBounds_toArray, set_cons_zero, set_cons_succ, i64_w, i32_w]; rfl)
              refine pure_ (i := 36) (N := some 200) (v := undef) (a' := ?_) q37 rfl rfl (any_of HT_.out (by kernel_rfl)) (fun _ _ _ h => h) (Or.inr ⟨by rfl, rfl⟩) ?_ ?_
              rotate_left
              · (simp only [Act.put, setIfInBounds_toArray, set_cons_zero, set_cons_succ, i64_w, i32_w]; rfl)
              refine pure_ (i := 37) (N := some 201) (v := undef) (a' := ?_) q38 rfl rfl (any_of HT_.out (by kernel_rfl)) (fun _ _ _ h => h) (Or.inr ⟨by rfl, rfl⟩) ?_ ?_
              rotate_left
              · (simp only [Act.put, setIfInBounds_toArray, set_cons_zero, set_cons_succ, i64_w, i32_w]; rfl)
              refine pure_ (i := 38) (N := some 202) (v := undef) (a' := ?_) q39 rfl rfl (any_of HT_.out (by kernel_rfl)) (fun _ _ _ h => h) (Or.inr ⟨by rfl, rfl⟩) ?_ ?_
              rotate_left
              · (simp only [Act.put, setIfInBounds_toArray, set_cons_zero, set_cons_succ, i64_w, i32_w]; rfl)
              refine pure_ (i := 39) (N := some 203) (v := undef) (a' := ?_) q40 rfl rfl (any_of HT_.out (by kernel_rfl)) (fun _ _ _ h => h) (Or.inr ⟨by rfl, rfl⟩) ?_ ?_
              rotate_left
              · (simp only [Act.put, setIfInBounds_toArray, set_cons_zero, set_cons_succ, i64_w, i32_w]; rfl)
              refine pure_ (i := 40) (N := some 204) (v := undef) (a' := ?_) q41 rfl rfl (any_of HT_.out (by kernel_rfl)) (fun _ _ _ h => h) (Or.inr ⟨by rfl, rfl⟩) ?_ ?_
              rotate_left
              · (simp only [Act.put, setIfInBounds_toArray, set_cons_zero, set_cons_succ, i64_w, i32_w]; rfl)
              refine pure_ (i := 41) (N := some 205) (v := undef) (a' := ?_) q42 rfl rfl (any_of HT_.out (by kernel_rfl)) (fun _ _ _ h => h) (Or.inr ⟨by rfl, rfl⟩) ?_ ?_
              rotate_left
              · (simp only [Act.put, setIfInBounds_toArray, set_cons_zero, set_cons_succ, i64_w, i32_w]; rfl)
              refine pure_ (i := 42) (N := some 206) (v := undef) (a' := ?_) q43 rfl rfl (any_of HT_.out (by kernel_rfl)) (fun _ _ _ h => h) (Or.inr ⟨by rfl, rfl⟩) ?_ ?_
              rotate_left
              · (simp only [Act.put, setIfInBounds_toArray, set_cons_zero, set_cons_succ, i64_w, i32_w]; rfl)
              refine pure_ (i := 43) (N := some 207) (v := undef) (a' := ?_) q44 rfl rfl (any_of HT_.out (by kernel_rfl)) (fun _ _ _ h => h) (Or.inr ⟨by rfl, rfl⟩) ?_ ?_
              rotate_left
              · (simp only [Act.put, setIfInBounds_toArray, set_cons_zero, set_cons_succ, i64_w, i32_w]; rfl)
              refine pure_ (i := 44) (N := some 208) (v := undef) (a' := ?_) q45 rfl rfl (any_of HT_.out (by kernel_rfl)) (fun _ _ _ h => h) (Or.inr ⟨by rfl, rfl⟩) ?_ ?_
              rotate_left
              · (simp only [Act.put, setIfInBounds_toArray, set_cons_zero, set_cons_succ, i64_w, i32_w]; rfl)
              refine pure_ (i := 45) (N := some 209) (v := undef) (a' := ?_) q46 rfl rfl (any_of HT_.out (by kernel_rfl)) (fun _ _ _ h => h) (Or.inr ⟨by rfl, rfl⟩) ?_ ?_
              rotate_left
              · (simp only [Act.put, setIfInBounds_toArray, set_cons_zero, set_cons_succ, i64_w, i32_w]; rfl)
              refine pure_ (i := 46) (N := some 210) (v := undef) (a' := ?_) q47 rfl rfl (any_of HT_.out (by kernel_rfl)) (fun _ _ _ h => h) (Or.inr ⟨by rfl, rfl⟩) ?_ ?_
              rotate_left
              · (simp only [Act.put, setIfInBounds_toArray, set_cons_zero, set_cons_succ, i64_w, i32_w]; rfl)
              refine pure_ (i := 47) (N := some 211) (v := undef) (a' := ?_) q48 rfl rfl (any_of HT_.out (by kernel_rfl)) (fun _ _ _ h => h) (Or.inr ⟨by rfl, rfl⟩) ?_ ?_
              rotate_left
              · (simp only [Act.put, setIfInBounds_toArray, set_cons_zero, set_cons_succ, i64_w, i32_w]; rfl)
              refine pure_ (i := 48) (N := some 212) (v := undef) (a' := ?_) q49 rfl rfl (any_of HT_.out (by kernel_rfl)) (fun _ _ _ h => h) (Or.inr ⟨by rfl, rfl⟩) ?_ ?_
              rotate_left
              · (simp only [Act.put, setIfInBounds_toArray, set_cons_zero, set_cons_succ, i64_w, i32_w]; rfl)
              refine pure_ (i := 49) (N := some 213) (v := ?_) (a' := ?_) q50 rfl rfl (any_of HT_.out (by kernel_rfl)) (fun _ _ _ h => h) (Or.inl ⟨by rfl, ?_⟩) ?_ ?_
              rotate_left
              · (intro w'; go_simp; with_reducible rfl)
              rotate_left
              · (simp only [Act.put, setIfInBounds_toArray, set_cons_zero, set_cons_succ, i64_w, i32_w]; rfl)
              refine done_ (done_of HT_.out (by kernel_rfl)) ?_

              go_wp2
              go_roundw
              case rel => exact ⟨i + 1, by first | rfl | (rw [wrap_ok (by omega) (by omega)]; simp), by have := HLT.out; omega, ⟨below_drew1 HW2.out⟩⟩
              case measure => have := HLT.out; have := HKS6.out; (try rw [wrap_ok (by omega) (by omega)]); simp [intOf]; omega
            · have dj : decide ((0 : Int) < (i : Int)) = true := decide_eq_true (by omega)
              have djn : decide (0 < i) = true := decide_eq_true (by omega)
              obtain ⟨j, hj⟩ : ∃ j, j + 1 = i := ⟨i - 1, by omega⟩
              obtain ⟨q, hq, hqn, hqc⟩ := HPREV.out j hj
              have hjq : wrap64 ((i : Int) - 1) = (j : Int) := by have := HLT.out; have := HKS6.out; unfold wrap64; omega
              have hjk : j < ks.length := by omega
              have hql : q < l.length := by omega
              obtain ⟨ak2, e, -⟩ := Kd.at_int HCK.out (j : Int) (by omega) (by omega)
              cases e
              have HXJ : Aside0 (∀ W, Below W2.heap.size W2 W → W.cell? (ak.add j) = some (.int .i64 (q : Int))) := ⟨fun W hW => by
                obtain ⟨ad', e, x0⟩ := Kd.at_int (Kd.C_below HCK.out hW) (j : Int) (by omega) (by omega)
                cases e
                rw [Int.toNat_natCast] at x0
                rw [x0, ← hq]
                unfold rd
                rw [Int.toNat_natCast]⟩
              obtain ⟨ad2, e, -⟩ := Kd.at_int HCL.out (q : Int) (by omega) (by omega)
              cases e
              obtain ⟨b, hb⟩ : ∃ k, l.getD q 0 = k := ⟨_, rfl⟩
              have HXB : Aside0 (∀ W, Below W2.heap.size W2 W → W.cell? (ad.add q) = some (.int .u64 b)) := ⟨fun W hW => by
                obtain ⟨ad', e, x0⟩ := Kd.at_int (Kd.C_below HCL.out hW) (q : Int) (by omega) (by omega)
                cases e
                rw [Int.toNat_natCast] at x0
                rw [x0, ← hb]
                unfold rd
                rw [Int.toNat_natCast]⟩
              rw [hb] at hqc
              have y1 := HXJ.out _ HW2.out
              have y3 := HXB.out _ HW2.out
              clear hq hb hj
              rcases hqc with hba | ⟨hbe, hqp⟩
              · have dba : decide (a < b) = false := decide_eq_false (by omega)
                have dbe : (b == a) = false := beq_false_of_ne (by omega)
                clear hba
                refine start_ (n := 50) (S := fun w' => w'.cell? (ak.add i) = some (.int .i64 p) ∧ w'.cell? (ak.add j) = some (.int .i64 q) ∧ w'.cell? (ad.add p) = some (.int .u64 a) ∧ w'.cell? (ad.add q) = some (.int .u64 b)) (ds := []) q0 (by kernel_rfl) rfl rfl ⟨y0, y1, y2, y3⟩ (fun hHeld => ?_)
                refine with_tabW WheelTimes.tab26 WheelTimes.bits26 (fun HT_ HW_ => ?_)
                refine pure_ (i := 0) (N := some 164) (v := ?_) (a' := ?_) q1 rfl rfl (any_of HT_.out (by kernel_rfl)) (fun _ _ _ h => h) (Or.inl ⟨by rfl, ?_⟩) ?_ ?_
                rotate_left
                · (intro w'; go_simp; with_reducible rfl)
                rotate_left
                · (simp only [Act.put, setIfInBounds_toArray, set_cons_zero, set_cons_succ, i64_w, i32_w]; rfl)
                refine pure_ (i := 1) (N := some 165) (v := ?_) (a' := ?_) q2 rfl rfl (any_of HT_.out (by kernel_rfl)) (fun _ _ _ h => h) (Or.inl ⟨by rfl, ?_⟩) ?_ ?_
                rotate_left
                · (intro w'; go_simp; with_reducible rfl)
                rotate_left
                · (simp only [Act.put, setIfInBounds_toArray, set_cons_zero, set_cons_succ, i64_w, i32_w]; rfl)
                refine pure_ (i := 2) (N := some 166) (v := ?_) (a' := ?_) q3 rfl rfl (any_of HT_.out (by kernel_rfl)) (fun _ _ _ h => h) (Or.inl ⟨by rfl, ?_⟩) ?_ ?_
                rotate_left
                · (intro w'; go_simp; with_reducible rfl)
                rotate_left
                · (simp only [Act.put, setIfInBounds_toArray, set_cons_zero, set_cons_succ, i64_w, i32_w]; rfl)
                refine pure_ (i := 3) (N := some 167) (v := ?_) (a' := ?_) q4 rfl rfl (any_of HT_.out (by kernel_rfl)) (fun _ _ _ h => h) (Or.inl ⟨by rfl, ?_⟩) ?_ ?_
                rotate_left
                · (intro w'; go_simp; with_reducible rfl)
                rotate_left
                · (simp only [Act.put, setIfInBounds_toArray, set_cons_zero, set_cons_succ, i64_w, i32_w]; rfl)
                refine pure_ (i := 4) (N := some 168) (v := ?_) (a' := ?_) q5 rfl rfl (any_of HT_.out (by kernel_rfl)) (fun _ _ _ h => h) (Or.inl ⟨by rfl, ?_⟩) ?_ ?_
                rotate_left
                · (intro w'; go_simp; with_reducible rfl)
                rotate_left
                · (simp only [Act.put, setIfInBounds_toArray, set_cons_zero, set_cons_succ, i64_w, i32_w]; rfl)
                refine pure_ (i := 5) (N := some 169) (v := ?_) (a' := ?_) q6 rfl rfl (any_of HT_.out (by kernel_rfl)) (fun _ _ _ h => h) (Or.inl ⟨by rfl, ?_⟩) ?_ ?_
                rotate_left
                · (intro w'; go_simp; with_reducible rfl)
                rotate_left
                · (simp only [Act.put, setIfInBounds_toArray, set_cons_zero, set_cons_succ, i64_w, i32_w]; rfl)
                refine pure_ (i := 6) (N := some 170) (v := ?_) (a' := ?_) q7 rfl rfl (any_of HT_.out (by kernel_rfl)) (fun _ _ _ h => h) (Or.inl ⟨by rfl, ?_⟩) ?_ ?_
                rotate_left
                · intro w'
                  go_simp
                  rw [i64_w, hjq]
                rotate_left
                · (simp only [Act.put, setIfInBounds_toArray, set_cons_zero, set_cons_succ, i64_w, i32_w]; rfl)
                refine pure_ (i := 7) (N := some 171) (v := ?_) (a' := ?_) q8 rfl rfl (any_of HT_.out (by kernel_rfl)) (fun _ _ _ h => h) (Or.inl ⟨by rfl, ?_⟩) ?_ ?_
                rotate_left
                · (intro w'; go_simp; with_reducible rfl)
                rotate_left
                · (simp only [Act.put, setIfInBounds_toArray, set_cons_zero, set_cons_succ, i64_w, i32_w]; rfl)
                refine pure_ (i := 11) (N := some 175) (v := ?_) (a' := ?_) q51 rfl rfl (any_of HT_.out (by kernel_rfl)) (fun _ _ _ h => h) (Or.inl ⟨by rfl, ?_⟩) ?_ ?_
                rotate_left
                · (intro w'; go_simp; with_reducible rfl)
                rotate_left
                · (simp only [Act.put, setIfInBounds_toArray, set_cons_zero, set_cons_succ, i64_w, i32_w]; rfl)
                refine pure_ (i := 12) (N := some 176) (v := ?_) (a' := ?_) q52 rfl rfl (any_of HT_.out (by kernel_rfl)) (fun _ _ _ h => h) (Or.inl ⟨by rfl, ?_⟩) ?_ ?_
                rotate_left
                · (intro w'; go_simp; with_reducible rfl)
                rotate_left
                · (simp only [Act.put, setIfInBounds_toArray, set_cons_zero, set_cons_succ, i64_w, i32_w]; rfl)
                refine pure_ (i := 13) (N := some 177) (v := ?_) (a' := ?_) q53 rfl rfl (any_of HT_.out (by kernel_rfl)) (fun _ _ _ h => h) (Or.inl ⟨by rfl, ?_⟩) ?_ ?_
                rotate_left
                · (intro w'; go_simp; with_reducible rfl)
                rotate_left
                · (simp only [Act.put, setIfInBounds_toArray, set_cons_zero, set_cons_succ, i64_w, i32_w]; rfl)
                refine pure_ (i := 14) (N := some 178) (v := ?_) (a' := ?_) q54 rfl rfl (any_of HT_.out (by kernel_rfl)) (fun _ _ _ h => h) (Or.inl ⟨by rfl, ?_⟩) ?_ ?_
                rotate_left
                · (intro w'; go_simp; with_reducible rfl)
                rotate_left
                · (simp only [Act.put, setIfInBounds_toArray, set_cons_zero, set_cons_succ, i64_w, i32_w]; rfl)
                refine take_ (i := 8) (N := some 172) (v := ?_) (a' := ?_) q55 rfl rfl (take_ofW HT_.out HW_.out (by kernel_rfl)) (fun _ _ _ h => h) (Or.inl ⟨by rfl, ?_⟩) hHeld ?_ ?_
                rotate_left
                · (rintro w' ⟨s0, s1, s2, s3⟩; go_simp; with_reducible rfl)
                rotate_left
                · (simp only [Act.put, setIfInBounds_toArray, set_cons_zero, set_cons_succ, i64_w, i32_w]; rfl)
                refine pure_ (i := 9) (N := some 173) (v := ?_) (a' := ?_) q56 rfl rfl (any_of HT_.out (by kernel_rfl)) (fun _ _ _ h => h) (Or.inl ⟨by rfl, ?_⟩) ?_ ?_
                rotate_left
                · (intro w'; go_simp; with_reducible rfl)
                rotate_left
                · (simp only [Act.put, setIfInBounds_toArray, set_cons_zero, set_cons_succ, i64_w, i32_w]; rfl)
                refine take_ (i := 10) (N := some 174) (v := ?_) (a' := ?_) q15 rfl rfl (take_ofW HT_.out HW_.out (by kernel_rfl)) (fun _ _ _ h => h) (Or.inl ⟨by rfl, ?_⟩) hHeld ?_ ?_
                rotate_left
                · (rintro w' ⟨s0, s1, s2, s3⟩; go_simp; with_reducible rfl)
                rotate_left
                · (simp only [Act.put, setIfInBounds_toArray, set_cons_zero, set_cons_succ, i64_w, i32_w]; rfl)
                refine take_ (i := 15) (N := some 179) (v := ?_) (a' := ?_) q16 rfl rfl (take_ofW HT_.out HW_.out (by kernel_rfl)) (fun _ _ _ h => h) (Or.inl ⟨by rfl, ?_⟩) hHeld ?_ ?_
                rotate_left
                · (rintro w' ⟨s0, s1, s2, s3⟩; go_simp; with_reducible rfl)
                rotate_left
                · (simp only [Act.put, setIfInBounds_toArray, set_cons_zero, set_cons_succ, i64_w, i32_w]; rfl)
                refine pure_ (i := 16) (N := some 180) (v := ?_) (a' := ?_) q17 rfl rfl (any_of HT_.out (by kernel_rfl)) (fun _ _ _ h => h) (Or.inl ⟨by rfl, ?_⟩) ?_ ?_
                rotate_left
                · (intro w'; go_simp; with_reducible rfl)
                rotate_left
                · (simp only [Act.put, setIfInBounds_toArray, set_cons_zero, set_cons_succ, i64_w, i32_w]; rfl)
                refine take_ (i := 17) (N := some 181) (v := ?_) (a' := ?_) q18 rfl rfl (take_ofW HT_.out HW_.out (by kernel_rfl)) (fun _ _ _ h => h) (Or.inl ⟨by rfl, ?_⟩) hHeld ?_ ?_
                rotate_left
                · (rintro w' ⟨s0, s1, s2, s3⟩; go_simp; with_reducible rfl)
                rotate_left
                · (simp only [Act.put, setIfInBounds_toArray, set_cons_zero, set_cons_succ, i64_w, i32_w]; rfl)
                refine pure_ (i := 18) (N := some 182) (v := ?_) (a' := ?_) q19 rfl rfl (any_of HT_.out (by kernel_rfl)) (fun _ _ _ h => h) (Or.inl ⟨by rfl, ?_⟩) ?_ ?_
                rotate_left
                · (intro w'; go_simp; with_reducible rfl)
                rotate_left
                · (simp only [Act.put, setIfInBounds_toArray, set_cons_zero, set_cons_succ, i64_w, i32_w]; rfl)
                refine pure_ (i := 19) (N := some 183) (v := ?_) (a' := ?_) q20 rfl rfl (any_of HT_.out (by kernel_rfl)) (fun _ _ _ h => h) (Or.inl ⟨by rfl, ?_⟩) ?_ ?_
                rotate_left
                · (intro w'; go_simp; with_reducible rfl)
                rotate_left
                · (simp only [Act.put, setIfInBounds_toArray, set_cons_zero, set_cons_succ, i64_w, i32_w]; rfl)
                refine pure_ (i := 20) (N := some 184) (v := ?_) (a' := ?_) q21 rfl rfl (any_of HT_.out (by kernel_rfl)) (fun _ _ _ h => h) (Or.inl ⟨by rfl, ?_⟩) ?_ ?_
                rotate_left
                · (intro w'; go_simp; with_reducible rfl)
                rotate_left
                · (simp only [Act.put, setIfInBounds_toArray, set_cons_zero, set_cons_succ, i64_w, i32_w]; rfl)
                refine pure_ (i := 21) (N := some 185) (v := ?_) (a' := ?_) q22 rfl rfl (any_of HT_.out (by kernel_rfl)) (fun _ _ _ h => h) (Or.inl ⟨by rfl, ?_⟩) ?_ ?_
                rotate_left
                · (intro w'; go_simp; with_reducible rfl)
                rotate_left
                · (simp only [Act.put, setIfInBounds_toArray, set_cons_zero, set_cons_succ, i64_w, i32_w]; rfl)
                refine pure_ (i := 22) (N := some 186) (v := ?_) (a' := ?_) q23 rfl rfl (any_of HT_.out (by kernel_rfl)) (fun _ _ _ h => h) (Or.inl ⟨by rfl, ?_⟩) ?_ ?_
                rotate_left
                · (intro w'; go_simp; with_reducible rfl)
                rotate_left
                · (simp only [Act.put, setIfInBounds_toArray, set_cons_zero, set_cons_succ, i64_w, i32_w]; rfl)
                refine pure_ (i := 23) (N := some 187) (v := ?_) (a' := ?_) q24 rfl rfl (any_of HT_.out (by kernel_rfl)) (fun _ _ _ h => h) (Or.inl ⟨by rfl, ?_⟩) ?_ ?_
                rotate_left
                · intro w'
                  go_simp
                  rw [i64_w, hjq]
                rotate_left
                · (simp only [Act.put, setIfInBounds_toArray, set_cons_zero, set_cons_succ, i64_w, i32_w]; rfl)
                refine pure_ (i := 24) (N := some 188) (v := ?_) (a' := ?_) q25 rfl rfl (any_of HT_.out (by kernel_rfl)) (fun _ _ _ h => h) (Or.inl ⟨by rfl, ?_⟩) ?_ ?_
                rotate_left
                · (intro w'; go_simp; with_reducible rfl)
                rotate_left
                · (simp only [Act.put, setIfInBounds_toArray, set_cons_zero, set_cons_succ, i64_w, i32_w]; rfl)
                refine pure_ (i := 28) (N := some 192) (v := ?_) (a' := ?_) q57 rfl rfl (any_of HT_.out (by kernel_rfl)) (fun _ _ _ h => h) (Or.inl ⟨by rfl, ?_⟩) ?_ ?_
                rotate_left
                · (intro w'; go_simp; with_reducible rfl)
                rotate_left
                · (simp only [Act.put, setIfInBounds_toArray, set_cons_zero, set_cons_succ, i64_w, i32_w]; rfl)
                refine pure_ (i := 29) (N := some 193) (v := ?_) (a' := ?_) q58 rfl rfl (any_of HT_.out (by kernel_rfl)) (fun _ _ _ h => h) (Or.inl ⟨by rfl, ?_⟩) ?_ ?_
                rotate_left
                · (intro w'; go_simp; with_reducible rfl)
                rotate_left
                · (simp only [Act.put, setIfInBounds_toArray, set_cons_zero, set_cons_succ, i64_w, i32_w]; rfl)
                refine pure_ (i := 30) (N := some 194) (v := ?_) (a' := ?_) q59 rfl rfl (any_of HT_.out (by kernel_rfl)) (fun _ _ _ h => h) (Or.inl ⟨by rfl, ?_⟩) ?_ ?_
                rotate_left
                · (intro w'; go_simp; with_reducible rfl)
                rotate_left
                · (simp only [Act.put, setIfInBounds_toArray, set_cons_zero, set_cons_succ, i64_w, i32_w]; rfl)
                refine pure_ (i := 31) (N := some 195) (v := ?_) (a' := ?_) q60 rfl rfl (any_of HT_.out (by kernel_rfl)) (fun _ _ _ h => h) (Or.inl ⟨by rfl, ?_⟩) ?_ ?_
                rotate_left
                · (intro w'; go_simp; with_reducible rfl)
                rotate_left
                · (simp only [Act.put, setIfInBounds_toArray, set_cons_zero, set_cons_succ, i64_w, i32_w]; rfl)
                refine take_ (i := 25) (N := some 189) (v := ?_) (a' := ?_) q61 rfl rfl (take_ofW HT_.out HW_.out (by kernel_rfl)) (fun _ _ _ h => h) (Or.inl ⟨by rfl, ?_⟩) hHeld ?_ ?_
                rotate_left
                · (rintro w' ⟨s0, s1, s2, s3⟩; go_simp; with_reducible rfl)
                rotate_left
                · (simp only [Act.put, setIfInBounds_toArray, set_cons_zero, set_cons_succ, i64_w, i32_w]; rfl)
                refine pure_ (i := 26) (N := some 190) (v := ?_) (a' := ?_) q62 rfl rfl (any_of HT_.out (by kernel_rfl)) (fun _ _ _ h => h) (Or.inl ⟨by rfl, ?_⟩) ?_ ?_
                rotate_left
                · (intro w'; go_simp; with_reducible rfl)
                rotate_left
                · (simp only [Act.put, setIfInBounds_toArray, set_cons_zero, set_cons_succ, i64_w, i32_w]; rfl)
                refine take_ (i := 27) (N := some 191) (v := ?_) (a' := ?_) q32 rfl rfl (take_ofW HT_.out HW_.out (by kernel_rfl)) (fun _ _ _ h => h) (Or.inl ⟨by rfl, ?_⟩) hHeld ?_ ?_
                rotate_left
                · (rintro w' ⟨s0, s1, s2, s3⟩; go_simp; with_reducible rfl)
                rotate_left
                · (simp only [Act.put, setIfInBounds_toArray, set_cons_zero, set_cons_succ, i64_w, i32_w]; rfl)
                refine take_ (i := 32) (N := some 196) (v := ?_) (a' := ?_) q33 rfl rfl (take_ofW HT_.out HW_.out (by kernel_rfl)) (fun _ _ _ h => h) (Or.inl ⟨by rfl, ?_⟩) hHeld ?_ ?_
                rotate_left
                · (rintro w' ⟨s0, s1, s2, s3⟩; go_simp; with_reducible rfl)
                rotate_left
                · (simp only [Act.put, setIfInBounds_toArray, set_cons_zero, set_cons_succ, i64_w, i32_w]; rfl)
                refine pure_ (i := 33) (N := some 197) (v := ?_) (a' := ?_) q34 rfl rfl (any_of HT_.out (by kernel_rfl)) (fun _ _ _ h => h) (Or.inl ⟨by rfl, ?_⟩) ?_ ?_
                rotate_left
                · (intro w'; go_simp; with_reducible rfl)
                rotate_left
                · (simp only [Act.put, setIfInBounds_toArray, set_cons_zero, set_cons_succ, i64_w, i32_w]; rfl)
                refine take_ (i := 34) (N := some 198) (v := ?_) (a' := ?_) q35 rfl rfl (take_ofW HT_.out HW_.out (by kernel_rfl)) (fun _ _ _ h => h) (Or.inl ⟨by rfl, ?_⟩) hHeld ?_ ?_
                rotate_left
                · (rintro w' ⟨s0, s1, s2, s3⟩; go_simp; with_reducible rfl)
                rotate_left
                · (simp only [Act.put, setIfInBounds_toArray, set_cons_zero, set_cons_succ, i64_w, i32_w]; rfl)
                refine pure_ (i := 35) (N := some 199) (v := ?_) (a' := ?_) q36 rfl rfl (any_of HT_.out (by kernel_rfl)) (fun _ _ _ h => h) (Or.inl ⟨by rfl, ?_⟩) ?_ ?_
                rotate_left
                · (intro w'; go_simp; with_reducible rfl)
                rotate_left
                · (simp only [Act.put, setIfInBounds_toArray, set_cons_zero, set_cons_succ, i64_w, i32_w]; rfl)
                refine pure_ (i := 36) (N := some 200) (v := ?_) (a' := ?_) q37 rfl rfl (any_of HT_.out (by kernel_rfl)) (fun _ _ _ h => h) (Or.inl ⟨by rfl, ?_⟩) ?_ ?_
                rotate_left
                · (intro w'; go_simp; with_reducible rfl)
                rotate_left
                · (simp only [Act.put, setIfInBounds_toArray, set_cons_zero, set_cons_succ, i64_w, i32_w]; rfl)
                refine pure_ (i := 37) (N := some 201) (v := undef) (a' := ?_) q38 rfl rfl (any_of HT_.out (by kernel_rfl)) (fun _ _ _ h => h) (Or.inr ⟨by rfl, rfl⟩) ?_ ?_
                rotate_left
                · (simp only [Act.put, setIfInBounds_toArray, set_cons_zero, set_cons_succ, i64_w, i32_w]; rfl)
                refine pure_ (i := 38) (N := some 202) (v := undef) (a' := ?_) q39 rfl rfl (any_of HT_.out (by kernel_rfl)) (fun _ _ _ h => h) (Or.inr ⟨by rfl, rfl⟩) ?_ ?_
                rotate_left
                · (simp only [Act.put, setIfInBounds_toArray, set_cons_zero, set_cons_succ, i64_w, i32_w]; rfl)
                refine pure_ (i := 39) (N := some 203) (v := undef) (a' := ?_) q40 rfl rfl (any_of HT_.out (by kernel_rfl)) (fun _ _ _ h => h) (Or.inr ⟨by rfl, rfl⟩) ?_ ?_
                rotate_left
                · (simp only [Act.put, setIfInBounds_toArray, set_cons_zero, set_cons_succ, i64_w, i32_w]; rfl)
                refine pure_ (i := 40) (N := some 204) (v := undef) (a' := ?_) q41 rfl rfl (any_of HT_.out (by kernel_rfl)) (fun _ _ _ h => h) (Or.inr ⟨by rfl, rfl⟩) ?_ ?_
                rotate_left
                · (simp only [Act.put, setIfInBounds_toArray, set_cons_zero, set_cons_succ, i64_w, i32_w]; rfl)
                refine pure_ (i := 41) (N := some 205) (v := undef) (a' := ?_) q42 rfl rfl (any_of HT_.out (by kernel_rfl)) (fun _ _ _ h => h) (Or.inr ⟨by rfl, rfl⟩) ?_ ?_
                rotate_left
                · (simp only [Act.put, setIfInBounds_toArray, set_cons_zero, set_cons_succ, i64_w, i32_w]; rfl)
                refine pure_ (i := 42) (N := some 206) (v := undef) (a' := ?_) q43 rfl rfl (any_of HT_.out (by kernel_rfl)) (fun _ _ _ h => h) (Or.inr ⟨by rfl, rfl⟩) ?_ ?_
                rotate_left
                · (simp only [Act.put, setIfInBounds_toArray, set_cons_zero, set_cons_succ, i64_w, i32_w]; rfl)
                refine pure_ (i := 43) (N := some 207) (v := undef) (a' := ?_) q44 rfl rfl (any_of HT_.out (by kernel_rfl)) (fun _ _ _ h => h) (Or.inr ⟨by rfl, rfl⟩) ?_ ?_
                rotate_left
                · (simp only [Act.put, setIfInBounds_toArray, set_cons_zero, set_cons_succ, i64_w, i32_w]; rfl)
                refine pure_ (i := 44) (N := some 208) (v := undef) (a' := ?_) q45 rfl rfl (any_of HT_.out (by kernel_rfl)) (fun _ _ _ h => h) (Or.inr ⟨by rfl, rfl⟩) ?_ ?_
                rotate_left
                · (simp only [Act.put, setIfInBounds_toArray, set_cons_zero, set_cons_succ, i64_w, i32_w]; rfl)
                refine pure_ (i := 45) (N := some 209) (v := undef) (a' := ?_) q46 rfl rfl (any_of HT_.out (by kernel_rfl)) (fun _ _ _ h => h) (Or.inr ⟨by rfl, rfl⟩) ?_ ?_
                rotate_left
                · (simp only [Act.put, setIfInBounds_toArray, set_cons_zero, set_cons_succ, i64_w, i32_w]; rfl)
                refine pure_ (i := 46) (N := some 210) (v := undef) (a' := ?_) q47 rfl rfl (any_of HT_.out (by kernel_rfl)) (fun _ _ _ h => h) (Or.inr ⟨by rfl, rfl⟩) ?_ ?_
                rotate_left
                · (simp only [Act.put, setIfInBounds_toArray, set_cons_zero, set_cons_succ, i64_w, i32_w]; rfl)
                refine pure_ (i := 47) (N := some 211) (v := ?_) (a' := ?_) q48 rfl rfl (any_of HT_.out (by kernel_rfl)) (fun _ _ _ h => h) (Or.inl ⟨by rfl, ?_⟩) ?_ ?_
                rotate_left
                · (intro w'; go_simp; with_reducible rfl)
                rotate_left
                · (simp only [Act.put, setIfInBounds_toArray, set_cons_zero, set_cons_succ, i64_w, i32_w]; rfl)
                refine pure_ (i := 48) (N := some 212) (v := ?_) (a' := ?_) q49 rfl rfl (any_of HT_.out (by kernel_rfl)) (fun _ _ _ h => h) (Or.inl ⟨by rfl, ?_⟩) ?_ ?_
                rotate_left
                · (intro w'; go_simp; with_reducible rfl)
                rotate_left
                · (simp only [Act.put, setIfInBounds_toArray, set_cons_zero, set_cons_succ, i64_w, i32_w]; rfl)
                refine pure_ (i := 49) (N := some 213) (v := ?_) (a' := ?_) q50 rfl rfl (any_of HT_.out (by kernel_rfl)) (fun _ _ _ h => h) (Or.inl ⟨by rfl, ?_⟩) ?_ ?_
                rotate_left
                · (intro w'; go_simp; with_reducible rfl)
                rotate_left
                · (simp only [Act.put, setIfInBounds_toArray, set_cons_zero, set_cons_succ, i64_w, i32_w]; rfl)
                refine done_ (done_of HT_.out (by kernel_rfl)) ?_

                go_wp2
                go_roundw
                case rel => exact ⟨i + 1, by first | rfl | (rw [wrap_ok (by omega) (by omega)]; simp), by have := HLT.out; omega, ⟨below_drew1 HW2.out⟩⟩
                case measure => have := HLT.out; have := HKS6.out; (try rw [wrap_ok (by omega) (by omega)]); simp [intOf]; omega
              · subst a
                have dba : decide (b < b) = false := decide_eq_false (by omega)
                have dqp : decide ((p : Int) ≤ (q : Int)) = false := decide_eq_false (by omega)
                have dqp2 : decide (p ≤ q) = false := decide_eq_false (by omega)
                clear hqp
                refine start_ (n := 50) (S := fun w' => w'.cell? (ak.add i) = some (.int .i64 p) ∧ w'.cell? (ak.add j) = some (.int .i64 q) ∧ w'.cell? (ad.add p) = some (.int .u64 b) ∧ w'.cell? (ad.add q) = some (.int .u64 b)) (ds := []) q0 (by kernel_rfl) rfl rfl ⟨y0, y1, y2, y3⟩ (fun hHeld => ?_)
                refine with_tabW WheelTimes.tab26 WheelTimes.bits26 (fun HT_ HW_ => ?_)
                refine pure_ (i := 0) (N := some 164) (v := ?_) (a' := ?_) q1 rfl rfl (any_of HT_.out (by kernel_rfl)) (fun _ _ _ h => h) (Or.inl ⟨by rfl, ?_⟩) ?_ ?_
                rotate_left
                · (intro w'; go_simp; with_reducible rfl)
                rotate_left
                · (simp only [Act.put, setIfInBounds_toArray, set_cons_zero, set_cons_succ, i64_w, i32_w]; rfl)
                refine pure_ (i := 1) (N := some 165) (v := ?_) (a' := ?_) q2 rfl rfl (any_of HT_.out (by kernel_rfl)) (fun _ _ _ h => h) (Or.inl ⟨by rfl, ?_⟩) ?_ ?_
                rotate_left
                · (intro w'; go_simp; with_reducible rfl)
                rotate_left
                · (simp only [Act.put, setIfInBounds_toArray, set_cons_zero, set_cons_succ, i64_w, i32_w]; rfl)
                refine pure_ (i := 2) (N := some 166) (v := ?_) (a' := ?_) q3 rfl rfl (any_of HT_.out (by kernel_rfl)) (fun _ _ _ h => h) (Or.inl ⟨by rfl, ?_⟩) ?_ ?_
                rotate_left
                · (intro w'; go_simp; with_reducible rfl)
                rotate_left
                · (simp only [Act.put, setIfInBounds_toArray, set_cons_zero, set_cons_succ, i64_w, i32_w]; rfl)
                refine pure_ (i := 3) (N := some 167) (v := ?_) (a' := ?_) q4 rfl rfl (any_of HT_.out (by kernel_rfl)) (fun _ _ _ h => h) (Or.inl ⟨by rfl, ?_⟩) ?_ ?_
                rotate_left
                · (intro w'; go_simp; with_reducible rfl)
                rotate_left
                · (simp only [Act.put, setIfInBounds_toArray, set_cons_zero, set_cons_succ, i64_w, i32_w]; rfl)
                refine pure_ (i := 4) (N := some 168) (v := ?_) (a' := ?_) q5 rfl rfl (any_of HT_.out (by kernel_rfl)) (fun _ _ _ h => h) (Or.inl ⟨by rfl, ?_⟩) ?_ ?_
                rotate_left
                · (intro w'; go_simp; with_reducible rfl)
                rotate_left
                · (simp only [Act.put, setIfInBounds_toArray, set_cons_zero, set_cons_succ, i64_w, i32_w]; rfl)
                refine pure_ (i := 5) (N := some 169) (v := ?_) (a' := ?_) q6 rfl rfl (any_of HT_.out (by kernel_rfl)) (fun _ _ _ h => h) (Or.inl ⟨by rfl, ?_⟩) ?_ ?_
                rotate_left
                · (intro w'; go_simp; with_reducible rfl)
                rotate_left
                · (simp only [Act.put, setIfInBounds_toArray, set_cons_zero, set_cons_succ, i64_w, i32_w]; rfl)
                refine pure_ (i := 6) (N := some 170) (v := ?_) (a' := ?_) q7 rfl rfl (any_of HT_.out (by kernel_rfl)) (fun _ _ _ h => h) (Or.inl ⟨by rfl, ?_⟩) ?_ ?_
                rotate_left
                · intro w'
                  go_simp
                  rw [i64_w, hjq]
                rotate_left
                · (simp only [Act.put, setIfInBounds_toArray, set_cons_zero, set_cons_succ, i64_w, i32_w]; rfl)
                refine pure_ (i := 7) (N := some 171) (v := ?_) (a' := ?_) q8 rfl rfl (any_of HT_.out (by kernel_rfl)) (fun _ _ _ h => h) (Or.inl ⟨by rfl, ?_⟩) ?_ ?_
                rotate_left
                · (intro w'; go_simp; with_reducible rfl)
                rotate_left
                · (simp only [Act.put, setIfInBounds_toArray, set_cons_zero, set_cons_succ, i64_w, i32_w]; rfl)
                refine pure_ (i := 11) (N := some 175) (v := ?_) (a' := ?_) q51 rfl rfl (any_of HT_.out (by kernel_rfl)) (fun _ _ _ h => h) (Or.inl ⟨by rfl, ?_⟩) ?_ ?_
                rotate_left
                · (intro w'; go_simp; with_reducible rfl)
                rotate_left
                · (simp only [Act.put, setIfInBounds_toArray, set_cons_zero, set_cons_succ, i64_w, i32_w]; rfl)
                refine pure_ (i := 12) (N := some 176) (v := ?_) (a' := ?_) q52 rfl rfl (any_of HT_.out (by kernel_rfl)) (fun _ _ _ h => h) (Or.inl ⟨by rfl, ?_⟩) ?_ ?_
                rotate_left
                · (intro w'; go_simp; with_reducible rfl)
                rotate_left
                · (simp only [Act.put, setIfInBounds_toArray, set_cons_zero, set_cons_succ, i64_w, i32_w]; rfl)
                refine pure_ (i := 13) (N := some 177) (v := ?_) (a' := ?_) q53 rfl rfl (any_of HT_.out (by kernel_rfl)) (fun _ _ _ h => h) (Or.inl ⟨by rfl, ?_⟩) ?_ ?_
                rotate_left
                · (intro w'; go_simp; with_reducible rfl)
                rotate_left
                · (simp only [Act.put, setIfInBounds_toArray, set_cons_zero, set_cons_succ, i64_w, i32_w]; rfl)
                refine pure_ (i := 14) (N := some 178) (v := ?_) (a' := ?_) q54 rfl rfl (any_of HT_.out (by kernel_rfl)) (fun _ _ _ h => h) (Or.inl ⟨by rfl, ?_⟩) ?_ ?_
                rotate_left
                · (intro w'; go_simp; with_reducible rfl)
                rotate_left
                · (simp only [Act.put, setIfInBounds_toArray, set_cons_zero, set_cons_succ, i64_w, i32_w]; rfl)
                refine take_ (i := 8) (N := some 172) (v := ?_) (a' := ?_) q55 rfl rfl (take_ofW HT_.out HW_.out (by kernel_rfl)) (fun _ _ _ h => h) (Or.inl ⟨by rfl, ?_⟩) hHeld ?_ ?_
                rotate_left
                · (rintro w' ⟨s0, s1, s2, s3⟩; go_simp; with_reducible rfl)
                rotate_left
                · (simp only [Act.put, setIfInBounds_toArray, set_cons_zero, set_cons_succ, i64_w, i32_w]; rfl)
                refine pure_ (i := 9) (N := some 173) (v := ?_) (a' := ?_) q56 rfl rfl (any_of HT_.out (by kernel_rfl)) (fun _ _ _ h => h) (Or.inl ⟨by rfl, ?_⟩) ?_ ?_
                rotate_left
                · (intro w'; go_simp; with_reducible rfl)
                rotate_left
                · (simp only [Act.put, setIfInBounds_toArray, set_cons_zero, set_cons_succ, i64_w, i32_w]; rfl)
                refine take_ (i := 10) (N := some 174) (v := ?_) (a' := ?_) q15 rfl rfl (take_ofW HT_.out HW_.out (by kernel_rfl)) (fun _ _ _ h => h) (Or.inl ⟨by rfl, ?_⟩) hHeld ?_ ?_
                rotate_left
                · (rintro w' ⟨s0, s1, s2, s3⟩; go_simp; with_reducible rfl)
                rotate_left
                · (simp only [Act.put, setIfInBounds_toArray, set_cons_zero, set_cons_succ, i64_w, i32_w]; rfl)
                refine take_ (i := 15) (N := some 179) (v := ?_) (a' := ?_) q16 rfl rfl (take_ofW HT_.out HW_.out (by kernel_rfl)) (fun _ _ _ h => h) (Or.inl ⟨by rfl, ?_⟩) hHeld ?_ ?_
                rotate_left
                · (rintro w' ⟨s0, s1, s2, s3⟩; go_simp; with_reducible rfl)
                rotate_left
                · (simp only [Act.put, setIfInBounds_toArray, set_cons_zero, set_cons_succ, i64_w, i32_w]; rfl)
                refine pure_ (i := 16) (N := some 180) (v := ?_) (a' := ?_) q17 rfl rfl (any_of HT_.out (by kernel_rfl)) (fun _ _ _ h => h) (Or.inl ⟨by rfl, ?_⟩) ?_ ?_
                rotate_left
                · (intro w'; go_simp; with_reducible rfl)
                rotate_left
                · (simp only [Act.put, setIfInBounds_toArray, set_cons_zero, set_cons_succ, i64_w, i32_w]; rfl)
                refine take_ (i := 17) (N := some 181) (v := ?_) (a' := ?_) q18 rfl rfl (take_ofW HT_.out HW_.out (by kernel_rfl)) (fun _ _ _ h => h) (Or.inl ⟨by rfl, ?_⟩) hHeld ?_ ?_
                rotate_left
                · (rintro w' ⟨s0, s1, s2, s3⟩; go_simp; with_reducible rfl)
                rotate_left
                · (simp only [Act.put, setIfInBounds_toArray, set_cons_zero, set_cons_succ, i64_w, i32_w]; rfl)
                refine pure_ (i := 18) (N := some 182) (v := ?_) (a' := ?_) q19 rfl rfl (any_of HT_.out (by kernel_rfl)) (fun _ _ _ h => h) (Or.inl ⟨by rfl, ?_⟩) ?_ ?_
                rotate_left
                · (intro w'; go_simp; with_reducible rfl)
                rotate_left
                · (simp only [Act.put, setIfInBounds_toArray, set_cons_zero, set_cons_succ, i64_w, i32_w]; rfl)
                refine pure_ (i := 19) (N := some 183) (v := ?_) (a' := ?_) q20 rfl rfl (any_of HT_.out (by kernel_rfl)) (fun _ _ _ h => h) (Or.inl ⟨by rfl, ?_⟩) ?_ ?_
                rotate_left
                · (intro w'; go_simp; with_reducible rfl)
                rotate_left
                · (simp only [Act.put, setIfInBounds_toArray, set_cons_zero, set_cons_succ, i64_w, i32_w]; rfl)
                refine pure_ (i := 20) (N := some 184) (v := ?_) (a' := ?_) q21 rfl rfl (any_of HT_.out (by kernel_rfl)) (fun _ _ _ h => h) (Or.inl ⟨by rfl, ?_⟩) ?_ ?_
                rotate_left
                · (intro w'; go_simp; with_reducible rfl)
                rotate_left
                · (simp only [Act.put, setIfInBounds_toArray, set_cons_zero, set_cons_succ, i64_w, i32_w]; rfl)
                refine pure_ (i := 21) (N := some 185) (v := ?_) (a' := ?_) q22 rfl rfl (any_of HT_.out (by kernel_rfl)) (fun _ _ _ h => h) (Or.inl ⟨by rfl, ?_⟩) ?_ ?_
                rotate_left
                · (intro w'; go_simp; with_reducible rfl)
                rotate_left
                · (simp only [Act.put, setIfInBounds_toArray, set_cons_zero, set_cons_succ, i64_w, i32_w]; rfl)
                refine pure_ (i := 22) (N := some 186) (v := ?_) (a' := ?_) q23 rfl rfl (any_of HT_.out (by kernel_rfl)) (fun _ _ _ h => h) (Or.inl ⟨by rfl, ?_⟩) ?_ ?_
                rotate_left
                · (intro w'; go_simp; with_reducible rfl)
                rotate_left
                · (simp only [Act.put, setIfInBounds_toArray, set_cons_zero, set_cons_succ, i64_w, i32_w]; rfl)
                refine pure_ (i := 23) (N := some 187) (v := ?_) (a' := ?_) q24 rfl rfl (any_of HT_.out (by kernel_rfl)) (fun _ _ _ h => h) (Or.inl ⟨by rfl, ?_⟩) ?_ ?_
                rotate_left
                · intro w'
                  go_simp
                  rw [i64_w, hjq]
                rotate_left
                · (simp only [Act.put, setIfInBounds_toArray, set_cons_zero, set_cons_succ, i64_w, i32_w]; rfl)
                refine pure_ (i := 24) (N := some 188) (v := ?_) (a' := ?_) q25 rfl rfl (any_of HT_.out (by kernel_rfl)) (fun _ _ _ h => h) (Or.inl ⟨by rfl, ?_⟩) ?_ ?_
                rotate_left
                · (intro w'; go_simp; with_reducible rfl)
                rotate_left
                · (simp only [Act.put, setIfInBounds_toArray, set_cons_zero, set_cons_succ, i64_w, i32_w]; rfl)
                refine pure_ (i := 28) (N := some 192) (v := ?_) (a' := ?_) q57 rfl rfl (any_of HT_.out (by kernel_rfl)) (fun _ _ _ h => h) (Or.inl ⟨by rfl, ?_⟩) ?_ ?_
                rotate_left
                · (intro w'; go_simp; with_reducible rfl)
                rotate_left
                · (simp only [Act.put, setIfInBounds_toArray, set_cons_zero, set_cons_succ, i64_w, i32_w]; rfl)
                refine pure_ (i := 29) (N := some 193) (v := ?_) (a' := ?_) q58 rfl rfl (any_of HT_.out (by kernel_rfl)) (fun _ _ _ h => h) (Or.inl ⟨by rfl, ?_⟩) ?_ ?_
                rotate_left
                · (intro w'; go_simp; with_reducible rfl)
                rotate_left
                · (simp only [Act.put, setIfInBounds_toArray, set_cons_zero, set_cons_succ, i64_w, i32_w]; rfl)
                refine pure_ (i := 30) (N := some 194) (v := ?_) (a' := ?_) q59 rfl rfl (any_of HT_.out (by kernel_rfl)) (fun _ _ _ h => h) (Or.inl ⟨by rfl, ?_⟩) ?_ ?_
                rotate_left
                · (intro w'; go_simp; with_reducible rfl)
                rotate_left
                · (simp only [Act.put, setIfInBounds_toArray, set_cons_zero, set_cons_succ, i64_w, i32_w]; rfl)
                refine pure_ (i := 31) (N := some 195) (v := ?_) (a' := ?_) q60 rfl rfl (any_of HT_.out (by kernel_rfl)) (fun _ _ _ h => h) (Or.inl ⟨by rfl, ?_⟩) ?_ ?_
                rotate_left
                · (intro w'; go_simp; with_reducible rfl)
                rotate_left
                · (simp only [Act.put, setIfInBounds_toArray, set_cons_zero, set_cons_succ, i64_w, i32_w]; rfl)
                refine take_ (i := 25) (N := some 189) (v := ?_) (a' := ?_) q61 rfl rfl (take_ofW HT_.out HW_.out (by kernel_rfl)) (fun _ _ _ h => h) (Or.inl ⟨by rfl, ?_⟩) hHeld ?_ ?_
                rotate_left
                · (rintro w' ⟨s0, s1, s2, s3⟩; go_simp; with_reducible rfl)
                rotate_left
                · (simp only [Act.put, setIfInBounds_toArray, set_cons_zero, set_cons_succ, i64_w, i32_w]; rfl)
                refine pure_ (i := 26) (N := some 190) (v := ?_) (a' := ?_) q62 rfl rfl (any_of HT_.out (by kernel_rfl)) (fun _ _ _ h => h) (Or.inl ⟨by rfl, ?_⟩) ?_ ?_
                rotate_left
                · (intro w'; go_simp; with_reducible rfl)
                rotate_left
                · (simp only [Act.put, setIfInBounds_toArray, set_cons_zero, set_cons_succ, i64_w, i32_w]; rfl)
                refine take_ (i := 27) (N := some 191) (v := ?_) (a' := ?_) q32 rfl rfl (take_ofW HT_.out HW_.out (by kernel_rfl)) (fun _ _ _ h => h) (Or.inl ⟨by rfl, ?_⟩) hHeld ?_ ?_
                rotate_left
                · (rintro w' ⟨s0, s1, s2, s3⟩; go_simp; with_reducible rfl)
                rotate_left
                · (simp only [Act.put, setIfInBounds_toArray, set_cons_zero, set_cons_succ, i64_w, i32_w]; rfl)
                refine take_ (i := 32) (N := some 196) (v := ?_) (a' := ?_) q33 rfl rfl (take_ofW HT_.out HW_.out (by kernel_rfl)) (fun _ _ _ h => h) (Or.inl ⟨by rfl, ?_⟩) hHeld ?_ ?_
                rotate_left
                · (rintro w' ⟨s0, s1, s2, s3⟩; go_simp; with_reducible rfl)
                rotate_left
                · (simp only [Act.put, setIfInBounds_toArray, set_cons_zero, set_cons_succ, i64_w, i32_w]; rfl)
                refine pure_ (i := 33) (N := some 197) (v := ?_) (a' := ?_) q34 rfl rfl (any_of HT_.out (by kernel_rfl)) (fun _ _ _ h => h) (Or.inl ⟨by rfl, ?_⟩) ?_ ?_
                rotate_left
                · (intro w'; go_simp; with_reducible rfl)
                rotate_left
                · (simp only [Act.put, setIfInBounds_toArray, set_cons_zero, set_cons_succ, i64_w, i32_w]; rfl)
                refine take_ (i := 34) (N := some 198) (v := ?_) (a' := ?_) q35 rfl rfl (take_ofW HT_.out HW_.out (by kernel_rfl)) (fun _ _ _ h => h) (Or.inl ⟨by rfl, ?_⟩) hHeld ?_ ?_
                rotate_left
                · (rintro w' ⟨s0, s1, s2, s3⟩; go_simp; with_reducible rfl)
                rotate_left
                · (simp only [Act.put, setIfInBounds_toArray, set_cons_zero, set_cons_succ, i64_w, i32_w]; rfl)
                refine pure_ (i := 35) (N := some 199) (v := ?_) (a' := ?_) q36 rfl rfl (any_of HT_.out (by kernel_rfl)) (fun _ _ _ h => h) (Or.inl ⟨by rfl, ?_⟩) ?_ ?_
                rotate_left
                · (intro w'; go_simp; with_reducible rfl)
                rotate_left
                · (simp only [Act.put, setIfInBounds_toArray, set_cons_zero, set_cons_succ, i64_w, i32_w]; rfl)
                refine pure_ (i := 36) (N := some 200) (v := ?_) (a' := ?_) q37 rfl rfl (any_of HT_.out (by kernel_rfl)) (fun _ _ _ h => h) (Or.inl ⟨by rfl, ?_⟩) ?_ ?_
                rotate_left
                · (intro w'; go_simp; with_reducible rfl)
                rotate_left
                · (simp only [Act.put, setIfInBounds_toArray, set_cons_zero, set_cons_succ, i64_w, i32_w]; rfl)
                refine pure_ (i := 37) (N := some 201) (v := ?_) (a' := ?_) q38 rfl rfl (any_of HT_.out (by kernel_rfl)) (fun _ _ _ h => h) (Or.inl ⟨by rfl, ?_⟩) ?_ ?_
                rotate_left
                · (intro w'; go_simp; with_reducible rfl)
                rotate_left
                · (simp only [Act.put, setIfInBounds_toArray, set_cons_zero, set_cons_succ, i64_w, i32_w]; rfl)
                refine pure_ (i := 38) (N := some 202) (v := ?_) (a' := ?_) q39 rfl rfl (any_of HT_.out (by kernel_rfl)) (fun _ _ _ h => h) (Or.inl ⟨by rfl, ?_⟩) ?_ ?_
                rotate_left
                · (intro w'; go_simp; with_reducible rfl)
                rotate_left
                · (simp only [Act.put, setIfInBounds_toArray, set_cons_zero, set_cons_succ, i64_w, i32_w]; rfl)
                refine pure_ (i := 39) (N := some 203) (v := ?_) (a' := ?_) q40 rfl rfl (any_of HT_.out (by kernel_rfl)) (fun _ _ _ h => h) (Or.inl ⟨by rfl, ?_⟩) ?_ ?_
                rotate_left
                · intro w'
                  go_simp
                  rw [i64_w, hjq]
                rotate_left
                · (simp only [Act.put, setIfInBounds_toArray, set_cons_zero, set_cons_succ, i64_w, i32_w]; rfl)
                refine pure_ (i := 40) (N := some 204) (v := ?_) (a' := ?_) q41 rfl rfl (any_of HT_.out (by kernel_rfl)) (fun _ _ _ h => h) (Or.inl ⟨by rfl, ?_⟩) ?_ ?_
                rotate_left
                · (intro w'; go_simp; with_reducible rfl)
                rotate_left
                · (simp only [Act.put, setIfInBounds_toArray, set_cons_zero, set_cons_succ, i64_w, i32_w]; rfl)
                refine pure_ (i := 42) (N := some 206) (v := ?_) (a' := ?_) q63 rfl rfl (any_of HT_.out (by kernel_rfl)) (fun _ _ _ h => h) (Or.inl ⟨by rfl, ?_⟩) ?_ ?_
                rotate_left
                · (intro w'; go_simp; with_reducible rfl)
                rotate_left
                · (simp only [Act.put, setIfInBounds_toArray, set_cons_zero, set_cons_succ, i64_w, i32_w]; rfl)
                refine pure_ (i := 43) (N := some 207) (v := ?_) (a' := ?_) q64 rfl rfl (any_of HT_.out (by kernel_rfl)) (fun _ _ _ h => h) (Or.inl ⟨by rfl, ?_⟩) ?_ ?_
                rotate_left
                · (intro w'; go_simp; with_reducible rfl)
                rotate_left
                · (simp only [Act.put, setIfInBounds_toArray, set_cons_zero, set_cons_succ, i64_w, i32_w]; rfl)
                refine pure_ (i := 44) (N := some 208) (v := ?_) (a' := ?_) q65 rfl rfl (any_of HT_.out (by kernel_rfl)) (fun _ _ _ h => h) (Or.inl ⟨by rfl, ?_⟩) ?_ ?_
                rotate_left
                · (intro w'; go_simp; with_reducible rfl)
                rotate_left
                · (simp only [Act.put, setIfInBounds_toArray, set_cons_zero, set_cons_succ, i64_w, i32_w]; rfl)
                refine take_ (i := 41) (N := some 205) (v := ?_) (a' := ?_) q45 rfl rfl (take_ofW HT_.out HW_.out (by kernel_rfl)) (fun _ _ _ h => h) (Or.inl ⟨by rfl, ?_⟩) hHeld ?_ ?_
                rotate_left
                · (rintro w' ⟨s0, s1, s2, s3⟩; go_simp; with_reducible rfl)
                rotate_left
                · (simp only [Act.put, setIfInBounds_toArray, set_cons_zero, set_cons_succ, i64_w, i32_w]; rfl)
                refine take_ (i := 45) (N := some 209) (v := ?_) (a' := ?_) q46 rfl rfl (take_ofW HT_.out HW_.out (by kernel_rfl)) (fun _ _ _ h => h) (Or.inl ⟨by rfl, ?_⟩) hHeld ?_ ?_
                rotate_left
                · (rintro w' ⟨s0, s1, s2, s3⟩; go_simp; with_reducible rfl)
                rotate_left
                · (simp only [Act.put, setIfInBounds_toArray, set_cons_zero, set_cons_succ, i64_w, i32_w]; rfl)
                refine pure_ (i := 46) (N := some 210) (v := ?_) (a' := ?_) q47 rfl rfl (any_of HT_.out (by kernel_rfl)) (fun _ _ _ h => h) (Or.inl ⟨by rfl, ?_⟩) ?_ ?_
                rotate_left
                · (intro w'; go_simp; with_reducible rfl)
                rotate_left
                · (simp only [Act.put, setIfInBounds_toArray, set_cons_zero, set_cons_succ, i64_w, i32_w]; rfl)
                refine pure_ (i := 47) (N := some 211) (v := ?_) (a' := ?_) q48 rfl rfl (any_of HT_.out (by kernel_rfl)) (fun _ _ _ h => h) (Or.inl ⟨by rfl, ?_⟩) ?_ ?_
                rotate_left
                · (intro w'; go_simp; with_reducible rfl)
                rotate_left
                · (simp only [Act.put, setIfInBounds_toArray, set_cons_zero, set_cons_succ, i64_w, i32_w]; rfl)
                refine pure_ (i := 48) (N := some 212) (v := ?_) (a' := ?_) q49 rfl rfl (any_of HT_.out (by kernel_rfl)) (fun _ _ _ h => h) (Or.inl ⟨by rfl, ?_⟩) ?_ ?_
                rotate_left
                · (intro w'; go_simp; with_reducible rfl)
                rotate_left
                · (simp only [Act.put, setIfInBounds_toArray, set_cons_zero, set_cons_succ, i64_w, i32_w]; rfl)
                refine pure_ (i := 49) (N := some 213) (v := ?_) (a' := ?_) q50 rfl rfl (any_of HT_.out (by kernel_rfl)) (fun _ _ _ h => h) (Or.inl ⟨by rfl, ?_⟩) ?_ ?_
                rotate_left
                · (intro w'; go_simp; with_reducible rfl)
                rotate_left
                · (simp only [Act.put, setIfInBounds_toArray, set_cons_zero, set_cons_succ, i64_w, i32_w]; rfl)
                refine done_ (done_of HT_.out (by kernel_rfl)) ?_

                go_wp2
                go_roundw
                case rel => exact ⟨i + 1, by first | rfl | (rw [wrap_ok (by omega) (by omega)]; simp), by have := HLT.out; omega, ⟨below_drew1 HW2.out⟩⟩
                case measure => have := HLT.out; have := HKS6.out; (try rw [wrap_ok (by omega) (by omega)]); simp [intOf]; omega
        · obtain rfl : i = ks.length := by omega
          clear hlt
          go_wp2_with (first | (go_at_call 10; with_reducible refine (Len.calls g1 m1 w.heap.size 40 _ zs ord _ (HTL.out.below (by repeat (first | (with_reducible first | exact HW2.out | apply below_alloc | apply pw_below_drewN | apply below_drew1) | exact HW2.out)))).mono ?_; rintro e w' ⟨rfl, hb⟩; have n8_ := Aside0.mk (below_step (by repeat (first | (with_reducible first | exact HW2.out | apply below_alloc | apply pw_below_drewN | apply below_drew1) | exact HW2.out)) hb); clear HW2 hb; have HW2 := n8_; clear n8_) | (go_at_call 10; with_reducible refine (Len.calls g2 m2 w.heap.size 40 _ zs ord _ (HTR.out.below (by repeat (first | (with_reducible first | exact HW2.out | apply below_alloc | apply pw_below_drewN | apply below_drew1) | exact HW2.out)))).mono ?_; rintro e w' ⟨rfl, hb⟩; have n8_ := Aside0.mk (below_step (by repeat (first | (with_reducible first | exact HW2.out | apply below_alloc | apply pw_below_drewN | apply below_drew1) | exact HW2.out)) hb); clear HW2 hb; have HW2 := n8_; clear n8_) | (go_at_call 11; with_reducible refine (GA.lives.calls _).mono ?_; rintro e w' ⟨rfl, hb⟩; have n8_ := Aside0.mk (below_step (by repeat (first | (with_reducible first | exact HW2.out | apply below_alloc | apply pw_below_drewN | apply below_drew1) | exact HW2.out)) hb); clear HW2 hb; have HW2 := n8_; clear n8_))
          go_ret
          exact ⟨rfl, Below.trans HB.out (HW2.out.mono HS.out)⟩
end Go.Proofs.Ytgfekeicgcnjfaa.GA.I
