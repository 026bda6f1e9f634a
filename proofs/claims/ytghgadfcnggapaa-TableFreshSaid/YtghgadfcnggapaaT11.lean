/- TableFresh, walked. No condition. -/
import Derived.Test.YtghgadfcnggapaaT10
import Derived.Laws.CopyOwn
import Derived.Laws.CopyRow
import Derived.ChangeKeysEq
import Derived.Deep.RegionHeld3
import Derived.Deep.MidRow
import Derived.Shelf.Abstract
import Derived.Lib.Overlaps
import Derived.Lib.AppendZerosOnto
import Derived.Shelf.Spec.SlicesInsertGrow
namespace Go.Proofs.Ytghgadfcnggapaa.GA
open Go.RowKit Go.Shelf Go.Proofs.YtghgadfcnggapaaW.PrintWords Go.Proofs.YtghgadfcnggapaaW.PrintLast Go.Proofs.YtghgadfcnggapaaW.PrintMore
set_option linter.unusedVariables false
set_option linter.unusedSimpArgs false

theorem Keys.ks (gt : Nat) (B : Nat) (v : Value) (xs : List S64) (ks : List Int) (w : World) (hT : Tab w gt 40 B v xs) (hks : xs.map (·.f0) = ks) : Calls Try.prog 16 #[.pointer (some ⟨gt, 0, none⟩)] w fun e w' => ∃ A c, e = .returned (.slice A ks.length c) ∧ Kd.R (Kd.int .i64) 3 w' w.heap.size (fun _ => True) (.slice A ks.length c) ks ∧ Below w.heap.size w w' := by
  subst hks
  refine (Keys.calls gt 40 B v xs w hT).mono ?_
  rintro e w' ⟨u, rfl, hr, hb⟩
  obtain ⟨A, c, rfl⟩ := Kd.R_slice hr
  exact ⟨A, c, rfl, hr, hb⟩
theorem From.ks (gt : Nat) (B : Nat) (v : Value) (xs : List S64) (k : Int) (w : World) (hT : Tab w gt 40 B v xs) : Calls Try.prog 17 #[.pointer (some ⟨gt, 0, none⟩), .int .i64 k] w fun e w' => ∃ A c, ∃ ks : List Int, e = .returned (.slice A ks.length c) ∧ Kd.R (Kd.int .i64) 3 w' w.heap.size (fun _ => True) (.slice A ks.length c) ks ∧ ks.length ≤ 1000000 ∧ Below w.heap.size w w' := by
  refine (From.calls gt 40 B v xs k w hT).mono ?_
  rintro e w' ⟨u, rfl, hr, hb⟩
  obtain ⟨A, c, rfl⟩ := Kd.R_slice hr
  exact ⟨A, c, _, rfl, hr, by rw [List.length_map, List.length_drop]; have := hT.small; omega, hb⟩

set_option maxHeartbeats 8000000 in
set_option maxRecDepth 100000 in
theorem TableFresh.calls (A : Option Addr) (c : Nat) (l : List Int) (by_ : Int) (w : World) (hr : Kd.C (Kd.int .i64) w A l.length l) (hc : l.length ≤ c) : Calls Try.prog 4 #[.slice A l.length c, .int .i64 by_] w fun e w' => e = .returned (.bool true) ∧ Below w.heap.size w w' := by
  have HX := Aside0.mk (Below.refl w.heap.size w)
  have HR := Aside0.mk hr
  clear hr
  go_enter Try.func4, Try.ntmps4
  go_upto_region 2 with ((go_at_call 14; with_reducible refine (New.calls 40 w (by decide) (by decide)).mono ?_; rintro e w' ⟨rfl, ht, hb, hs⟩; have HT := Aside0.mk ht; have HS := Aside0.mk (Nat.le_of_lt hs); have HB := Aside0.mk hb; clear ht hb hs HX))
  go_wp2
  go_loopw [6] (fun v6 w' => ∃ (i : Nat) (v : Value) (xs : List S64), v6 = .int .i64 i ∧ i ≤ l.length ∧ i ≤ 40 ∧ xs.length ≤ i ∧ Aside0 (Tab w' w.heap.size 40 w.heap.size v xs) ∧ Aside0 (Below w.heap.size w w') ∧ Aside0 (w.heap.size ≤ w'.heap.size)) (fun v6 _ => (40 - intOf v6).toNat)
  case atStart => exact ⟨0, _, [], rfl, Nat.zero_le _, Nat.zero_le _, Nat.le_refl _, HT, HB, HS⟩
  case round =>
    clear HT HB HS
    obtain ⟨i, v, xs, rfl, hi, hi40, hx, HT, HB, HS⟩ := hrel
    by_cases hlt : i < l.length ∧ i < 40
    · obtain ⟨h1, h2⟩ := hlt
      obtain ⟨ad, e, x0⟩ := Kd.at_int (Kd.C_below HR.out HB.out) (i : Int) (by omega) (by omega)
      cases e
      simp only [Int.toNat_natCast] at x0
      go_wp2_with ((go_at_call 15; with_reducible refine (Add.any _ _ _ xs _ _ HT.out (by omega)).mono ?_; rintro e w' ⟨r, v', xs', rfl, ht, hl', hb, hs⟩; have n8_ := Aside0.mk (Below.trans HB.out hb); have n7_ := Aside0.mk (Nat.le_trans HS.out hs); clear HT HB HS hb hs; have HT := Aside0.mk ht; have HB := n8_; have HS := n7_; clear ht n8_ n7_))
      go_roundw
      case rel => exact ⟨i + 1, _, xs', by first | rfl | (rw [wrap_ok (by omega) (by omega)]; simp), by omega, by omega, by omega, HT, HB, HS⟩
      case measure => (try rw [wrap_ok (by omega) (by omega)]); simp [intOf]; omega
    · rcases Nat.lt_or_ge i l.length with h1 | h1
      · obtain rfl : i = 40 := by omega
        clear hlt
        obtain ⟨ks, hks⟩ : ∃ ks, xs.map (·.f0) = ks := ⟨_, rfl⟩
        have hkl : ks.length ≤ 40 := by rw [← hks, List.length_map]; omega
        have HKS := Aside0.mk hks
        have HSAME := Aside0.mk (Ints.refl_ ks (by omega))
        clear hks
        go_upto_region 7 with ((go_at_call 16; with_reducible refine (Keys.ks _ _ _ xs ks _ HT.out HKS.out).mono ?_; rintro e W2 ⟨Aa, ca, rfl, hk, hb⟩; have HA := Aside0.mk hk; have ht := HT.out.below hb; have n8_ := Aside0.mk (Below.trans HB.out (Below.mono hb HS.out)); have n7_ := Aside0.mk (Nat.le_trans HS.out hb.size); clear HT HB HS; have HT := Aside0.mk ht; have HB := n8_; have HS := n7_; clear ht n8_ n7_; have HT2 := HT; have HB2 := HB; have HS2 := HS; have H2 := Aside0.mk (Below.refl W2.heap.size W2); clear hk hb))
        go_upto_region 9 with (first | (go_at_call 16; with_reducible refine (Keys.ks _ _ _ xs ks _ HT.out HKS.out).mono ?_; rintro e W3 ⟨Ab, cb, rfl, hk, hb⟩; have HWb := Aside0.mk (Wr.of hk); have H3 := Aside0.mk hb; clear H2; have ht := HT.out.below hb; have n8_ := Aside0.mk (Below.trans HB.out (Below.mono hb HS.out)); have n7_ := Aside0.mk (Nat.le_trans HS.out hb.size); clear HT HB HS; have HT := Aside0.mk ht; have HB := n8_; have HS := n7_; clear ht n8_ n7_; clear hk hb) | (go_at_call 17; with_reducible refine (From.ks _ _ _ xs by_ _ HT.out).mono ?_; rintro e W4 ⟨Ac, cc, cs, rfl, hk, hcs, hb⟩; have HWc := Aside0.mk (Wr.lower (Wr.of hk) H3.out.size); have m1_ := Aside0.mk (HWb.out.below hb); have m2_ := Aside0.mk (below_step H3.out hb); clear HWb H3; have HWb := m1_; have H2 := m2_; clear m1_ m2_; have ht := HT.out.below hb; have n8_ := Aside0.mk (Below.trans HB.out (Below.mono hb HS.out)); have n7_ := Aside0.mk (Nat.le_trans HS.out hb.size); clear HT HB HS; have HT := Aside0.mk ht; have HB := n8_; have HS := n7_; clear ht n8_ n7_; clear hk hb))
        go_wp2
        go_loopw [10] (fun v10 w' => ∃ j : Nat, v10 = .int .i64 j ∧ j ≤ ks.length ∧ Aside0 (Wr w' W2.heap.size Ab ks.length) ∧ Aside0 (Wr w' W2.heap.size Ac cs.length) ∧ Aside0 (Below W2.heap.size W2 w')) (fun v10 _ => (ks.length - intOf v10).toNat)
        case atStart => exact ⟨0, rfl, Nat.zero_le _, HWb, HWc, H2⟩
        case round =>
          clear HWb HWc H2
          obtain ⟨j, rfl, hj, HWb, HWc, H2⟩ := hrel
          by_cases hlt : j < ks.length
          · obtain ⟨g, cur, rfl, hbg, hg, hn⟩ := HWb.out (by omega)
            have hjs : j < cur.size := by omega
            have y1 := blk_cell hg j
            rw [Array.getElem?_eq_getElem hjs] at y1
            have y2 := blk_frozen hg j
            have S1 := Aside0.mk (HWb.out.set hg j (.int .i64 by_))
            have S2 := Aside0.mk (HWc.out.set hg j (.int .i64 by_))
            have S3 := Aside0.mk (Wr.frame H2.out hg hbg j (.int .i64 by_))
            clear hg HWb HWc H2
            go_wp2
            go_roundw
            case rel => exact ⟨j + 1, by first | rfl | (rw [wrap_ok (by omega) (by omega)]; simp), by omega, S1, S2, S3⟩
            case measure => (try rw [wrap_ok (by omega) (by omega)]); simp [intOf]; omega
          · obtain rfl : j = ks.length := by omega
            go_wp2
            go_loopw [11] (fun v10 w' => ∃ j : Nat, v10 = .int .i64 j ∧ j ≤ cs.length ∧ Aside0 (Wr w' W2.heap.size Ab ks.length) ∧ Aside0 (Wr w' W2.heap.size Ac cs.length) ∧ Aside0 (Below W2.heap.size W2 w')) (fun v10 _ => (cs.length - intOf v10).toNat)
            case atStart => exact ⟨0, rfl, Nat.zero_le _, HWb, HWc, H2⟩
            case round =>
              clear HWb HWc H2
              obtain ⟨j, rfl, hj, HWb, HWc, H2⟩ := hrel
              by_cases hlt : j < cs.length
              · obtain ⟨g, cur, rfl, hbg, hg, hn⟩ := HWc.out (by omega)
                have hjs : j < cur.size := by omega
                have y1 := blk_cell hg j
                rw [Array.getElem?_eq_getElem hjs] at y1
                have y2 := blk_frozen hg j
                have S1 := Aside0.mk (HWb.out.set hg j (.int .i64 by_))
                have S2 := Aside0.mk (HWc.out.set hg j (.int .i64 by_))
                have S3 := Aside0.mk (Wr.frame H2.out hg hbg j (.int .i64 by_))
                clear hg HWb HWc H2
                go_wp2
                go_roundw
                case rel => exact ⟨j + 1, by first | rfl | (rw [wrap_ok (by omega) (by omega)]; simp), by omega, S1, S2, S3⟩
                case measure => (try rw [wrap_ok (by omega) (by omega)]); simp [intOf]; omega
              · obtain rfl : j = cs.length := by omega
                go_wp2_with (first | (go_at_call 16; with_reducible refine (Keys.ks _ _ _ xs ks _ (HT2.out.below H2.out) HKS.out).mono ?_; rintro e W5 ⟨Ad, cd, rfl, hk, hb⟩; have HD := Aside0.mk hk; have m2_ := Aside0.mk (below_step H2.out hb); clear H2; have H2 := m2_; clear m2_; clear hk hb) | (go_at_call 18; with_reducible refine (cohortref00_Ints.calls (ks.length + 1) Ad cd ks Aa ca ks true _ (Kd.R_reads' HD.out).2.2 (Kd.R_reads' HD.out).2.1 (Kd.C_below (Kd.R_reads' HA.out).2.2 H2.out) (Kd.R_reads' HA.out).2.1 HSAME.out).mono ?_; rintro e w' ⟨rfl, nd, rfl⟩) | (go_at_call 13; with_reducible refine (lives.calls _).mono ?_; rintro e w' ⟨rfl, hb⟩))
                go_ret
                have hbb : Below w.heap.size W2 W5 := H2.out.mono HS2.out
                refine ⟨rfl, Below.trans (Below.trans HB2.out hbb) ?_⟩
                exact (below_step (pw_below_drewN (Below.refl _ _) nd) hb).mono (Nat.le_trans HS2.out H2.out.size)
      · obtain rfl : i = l.length := by omega
        clear hlt
        obtain ⟨ks, hks⟩ : ∃ ks, xs.map (·.f0) = ks := ⟨_, rfl⟩
        have hkl : ks.length ≤ 40 := by rw [← hks, List.length_map]; omega
        have HKS := Aside0.mk hks
        have HSAME := Aside0.mk (Ints.refl_ ks (by omega))
        clear hks
        go_upto_region 7 with ((go_at_call 16; with_reducible refine (Keys.ks _ _ _ xs ks _ HT.out HKS.out).mono ?_; rintro e W2 ⟨Aa, ca, rfl, hk, hb⟩; have HA := Aside0.mk hk; have ht := HT.out.below hb; have n8_ := Aside0.mk (Below.trans HB.out (Below.mono hb HS.out)); have n7_ := Aside0.mk (Nat.le_trans HS.out hb.size); clear HT HB HS; have HT := Aside0.mk ht; have HB := n8_; have HS := n7_; clear ht n8_ n7_; have HT2 := HT; have HB2 := HB; have HS2 := HS; have H2 := Aside0.mk (Below.refl W2.heap.size W2); clear hk hb))
        go_upto_region 9 with (first | (go_at_call 16; with_reducible refine (Keys.ks _ _ _ xs ks _ HT.out HKS.out).mono ?_; rintro e W3 ⟨Ab, cb, rfl, hk, hb⟩; have HWb := Aside0.mk (Wr.of hk); have H3 := Aside0.mk hb; clear H2; have ht := HT.out.below hb; have n8_ := Aside0.mk (Below.trans HB.out (Below.mono hb HS.out)); have n7_ := Aside0.mk (Nat.le_trans HS.out hb.size); clear HT HB HS; have HT := Aside0.mk ht; have HB := n8_; have HS := n7_; clear ht n8_ n7_; clear hk hb) | (go_at_call 17; with_reducible refine (From.ks _ _ _ xs by_ _ HT.out).mono ?_; rintro e W4 ⟨Ac, cc, cs, rfl, hk, hcs, hb⟩; have HWc := Aside0.mk (Wr.lower (Wr.of hk) H3.out.size); have m1_ := Aside0.mk (HWb.out.below hb); have m2_ := Aside0.mk (below_step H3.out hb); clear HWb H3; have HWb := m1_; have H2 := m2_; clear m1_ m2_; have ht := HT.out.below hb; have n8_ := Aside0.mk (Below.trans HB.out (Below.mono hb HS.out)); have n7_ := Aside0.mk (Nat.le_trans HS.out hb.size); clear HT HB HS; have HT := Aside0.mk ht; have HB := n8_; have HS := n7_; clear ht n8_ n7_; clear hk hb))
        go_wp2
        go_loopw [10] (fun v10 w' => ∃ j : Nat, v10 = .int .i64 j ∧ j ≤ ks.length ∧ Aside0 (Wr w' W2.heap.size Ab ks.length) ∧ Aside0 (Wr w' W2.heap.size Ac cs.length) ∧ Aside0 (Below W2.heap.size W2 w')) (fun v10 _ => (ks.length - intOf v10).toNat)
        case atStart => exact ⟨0, rfl, Nat.zero_le _, HWb, HWc, H2⟩
        case round =>
          clear HWb HWc H2
          obtain ⟨j, rfl, hj, HWb, HWc, H2⟩ := hrel
          by_cases hlt : j < ks.length
          · obtain ⟨g, cur, rfl, hbg, hg, hn⟩ := HWb.out (by omega)
            have hjs : j < cur.size := by omega
            have y1 := blk_cell hg j
            rw [Array.getElem?_eq_getElem hjs] at y1
            have y2 := blk_frozen hg j
            have S1 := Aside0.mk (HWb.out.set hg j (.int .i64 by_))
            have S2 := Aside0.mk (HWc.out.set hg j (.int .i64 by_))
            have S3 := Aside0.mk (Wr.frame H2.out hg hbg j (.int .i64 by_))
            clear hg HWb HWc H2
            go_wp2
            go_roundw
            case rel => exact ⟨j + 1, by first | rfl | (rw [wrap_ok (by omega) (by omega)]; simp), by omega, S1, S2, S3⟩
            case measure => (try rw [wrap_ok (by omega) (by omega)]); simp [intOf]; omega
          · obtain rfl : j = ks.length := by omega
            go_wp2
            go_loopw [11] (fun v10 w' => ∃ j : Nat, v10 = .int .i64 j ∧ j ≤ cs.length ∧ Aside0 (Wr w' W2.heap.size Ab ks.length) ∧ Aside0 (Wr w' W2.heap.size Ac cs.length) ∧ Aside0 (Below W2.heap.size W2 w')) (fun v10 _ => (cs.length - intOf v10).toNat)
            case atStart => exact ⟨0, rfl, Nat.zero_le _, HWb, HWc, H2⟩
            case round =>
              clear HWb HWc H2
              obtain ⟨j, rfl, hj, HWb, HWc, H2⟩ := hrel
              by_cases hlt : j < cs.length
              · obtain ⟨g, cur, rfl, hbg, hg, hn⟩ := HWc.out (by omega)
                have hjs : j < cur.size := by omega
                have y1 := blk_cell hg j
                rw [Array.getElem?_eq_getElem hjs] at y1
                have y2 := blk_frozen hg j
                have S1 := Aside0.mk (HWb.out.set hg j (.int .i64 by_))
                have S2 := Aside0.mk (HWc.out.set hg j (.int .i64 by_))
                have S3 := Aside0.mk (Wr.frame H2.out hg hbg j (.int .i64 by_))
                clear hg HWb HWc H2
                go_wp2
                go_roundw
                case rel => exact ⟨j + 1, by first | rfl | (rw [wrap_ok (by omega) (by omega)]; simp), by omega, S1, S2, S3⟩
                case measure => (try rw [wrap_ok (by omega) (by omega)]); simp [intOf]; omega
              · obtain rfl : j = cs.length := by omega
                go_wp2_with (first | (go_at_call 16; with_reducible refine (Keys.ks _ _ _ xs ks _ (HT2.out.below H2.out) HKS.out).mono ?_; rintro e W5 ⟨Ad, cd, rfl, hk, hb⟩; have HD := Aside0.mk hk; have m2_ := Aside0.mk (below_step H2.out hb); clear H2; have H2 := m2_; clear m2_; clear hk hb) | (go_at_call 18; with_reducible refine (cohortref00_Ints.calls (ks.length + 1) Ad cd ks Aa ca ks true _ (Kd.R_reads' HD.out).2.2 (Kd.R_reads' HD.out).2.1 (Kd.C_below (Kd.R_reads' HA.out).2.2 H2.out) (Kd.R_reads' HA.out).2.1 HSAME.out).mono ?_; rintro e w' ⟨rfl, nd, rfl⟩) | (go_at_call 13; with_reducible refine (lives.calls _).mono ?_; rintro e w' ⟨rfl, hb⟩))
                go_ret
                have hbb : Below w.heap.size W2 W5 := H2.out.mono HS2.out
                refine ⟨rfl, Below.trans (Below.trans HB2.out hbb) ?_⟩
                exact (below_step (pw_below_drewN (Below.refl _ _) nd) hb).mono (Nat.le_trans HS2.out H2.out.size)

end Go.Proofs.Ytghgadfcnggapaa.GA
