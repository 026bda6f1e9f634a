/- TableTexts, walked. No condition. -/
import Derived.Test.YtghgadfcnggapaaU9
import Derived.Laws.CopyOwn
import Derived.Laws.CopyRow
import Derived.ChangeKeysEq
import Derived.Deep.RegionHeld3
import Derived.Deep.MidRow
import Derived.Shelf.Abstract
import Derived.Lib.Overlaps
import Derived.Lib.AppendZerosOnto
import Derived.Shelf.Spec.SlicesInsertGrow
namespace Go.Proofs.Ytghgadfcnggapaa.GA.U
open Go.RowKit Go.Shelf Go.Proofs.YtghgadfcnggapaaW.PrintWords Go.Proofs.YtghgadfcnggapaaW.PrintLast Go.Proofs.YtghgadfcnggapaaW.PrintMore
set_option linter.unusedVariables false
set_option linter.unusedSimpArgs false

set_option maxHeartbeats 8000000 in
set_option maxRecDepth 100000 in
theorem TableTexts.calls_d (A : Option Addr) (c : Nat) (l : List ByteArray) (A1 : Option Addr) (c1 : Nat) (g : List ByteArray) (w : World) (hr : Kd.C Kd.string w A l.length l) (hc : l.length ≤ c) (hr1 : Kd.C Kd.string w A1 g.length g) (hc1 : g.length ≤ c1) (hl : 60 < l.length) (hg : 60 < g.length) : Calls Try.prog 3 #[.slice A l.length c, .slice A1 g.length c1] w fun e w' => e = .returned (.bool true) ∧ Below w.heap.size w w' := by
  have HX := Aside0.mk (Below.refl w.heap.size w)
  have HR := Aside0.mk hr
  have HR1 := Aside0.mk hr1
  clear hr hr1
  go_enter Try.func3, Try.ntmps3
  go_upto_region 4 with (first | (go_at_call 6; with_reducible refine (New.calls 60 w (by decide) (by decide)).mono ?_; rintro e w' ⟨rfl, ht, hb, hs⟩; have HT := Aside0.mk ht; have HS := Aside0.mk (Nat.le_of_lt hs); have HB := Aside0.mk hb; clear ht hb hs HX))
  go_wp2
  go_loopw [6] (fun v6 w' => ∃ (i : Nat) (v : Value) (xs : List S56), v6 = .int .i64 i ∧ i ≤ 60 ∧ xs.length ≤ i ∧ Aside0 (Srt xs ∧ Good l i xs) ∧ Aside0 (Tab w' w.heap.size 60 w.heap.size v xs) ∧ Aside0 (Below w.heap.size w w') ∧ Aside0 (w.heap.size ≤ w'.heap.size)) (fun v6 _ => (60 - intOf v6).toNat)
  case atStart => exact ⟨0, _, [], rfl, Nat.zero_le _, Nat.le_refl _, ⟨⟨List.Pairwise.nil, Good.nil_ _ _⟩⟩, HT, HB, HS⟩
  case round =>
    clear HT HB HS
    obtain ⟨i, v, xs, rfl, hi, hx, HSG, HT, HB, HS⟩ := hrel
    by_cases hlt : i < 60
    · have h1 : i < l.length := by omega
      have h2 : i < 60 := by omega
      clear hlt
      obtain ⟨ad, e, -⟩ := Kd.at_string (Kd.C_below HR.out HB.out) (i : Int) (by omega) (by omega)
      cases e
      obtain ⟨k, hkk⟩ : ∃ k, l.getD i ByteArray.empty = k := ⟨_, rfl⟩
      have HX0 : Aside0 (∀ W, Below w.heap.size w W → W.cell? (ad.add i) = some (.string k)) := ⟨fun W hW => by
        obtain ⟨ad', e, x0⟩ := Kd.at_string (Kd.C_below HR.out hW) (i : Int) (by omega) (by omega)
        cases e
        rw [Int.toNat_natCast] at x0
        rw [x0, ← hkk]
        rfl⟩
      have HKK := Aside0.mk hkk
      clear hkk
      have x0 := HX0.out _ HB.out
      cases hk : hit xs k with
      | true =>
        have HK := Aside0.mk hk
        clear hk
        go_wp2_with (first | (go_at_call 7; with_reducible refine (Add.twice _ _ _ _ xs k _ _ HT.out HK.out).mono ?_; rintro e w' ⟨rfl, hb⟩; clear x0; have n9_ := Aside0.mk (HT.out.below hb); have n8_ := Aside0.mk (Below.trans HB.out (Below.mono hb HS.out)); have n7_ := Aside0.mk (Nat.le_trans HS.out hb.size); clear HT HB HS hb; have HT := n9_; have HB := n8_; have HS := n7_; clear n9_ n8_ n7_; have x0 := HX0.out _ HB.out) | (go_at_call 8; with_reducible refine (Set.yes _ _ _ _ xs k _ _ HT.out HK.out).mono ?_; rintro e w' ⟨v', rfl, ht, hb, hf, hs⟩; clear x0; have n8_ := Aside0.mk (Below.trans HB.out hb); have n7_ := Aside0.mk (Nat.le_trans HS.out hs); clear HT HB HS hb hs hf; have HT := Aside0.mk ht; have HB := n8_; have HS := n7_; clear ht n8_ n7_; have x0 := HX0.out _ HB.out))
        go_roundw
        case rel =>
          have hk := HK.out
          have hkk := HKK.out
          subst hkk
          exact ⟨i + 1, _, _, by first | rfl | (rw [wrap_ok (by omega) (by omega)]; simp), by omega, by rw [upd_len]; omega, ⟨⟨upd_srt HSG.out.1 (hit_lt hk) _, HSG.out.2.upd HSG.out.1 hk⟩⟩, HT, HB, HS⟩
        case measure => (try rw [wrap_ok (by omega) (by omega)]); simp [intOf]; omega
      | false =>
        have HK := Aside0.mk hk
        have HL : Aside0 ((xs.length : Int) < 60) := ⟨by omega⟩
        clear hk
        go_wp2_with (first | (go_at_call 7; with_reducible refine (Add.ok _ _ _ _ xs k _ _ HT.out HK.out HL.out).mono ?_; rintro e w' ⟨v', rfl, ht, hb, hf, hs⟩; clear x0; have n8_ := Aside0.mk (Below.trans HB.out hb); have n7_ := Aside0.mk (Nat.le_trans HS.out hs); clear HT HB HS hb hs hf; have HT := Aside0.mk ht; have HB := n8_; have HS := n7_; clear ht n8_ n7_; have x0 := HX0.out _ HB.out))
        go_roundw
        case rel =>
          have hk := HK.out
          have hkk := HKK.out
          subst hkk
          exact ⟨i + 1, _, _, by first | rfl | (rw [wrap_ok (by omega) (by omega)]; simp), by omega, by rw [ins_len _ _ _ (ix_le _ _)]; omega, ⟨⟨ins_srt HSG.out.1 hk _, HSG.out.2.ins HSG.out.1 hk⟩⟩, HT, HB, HS⟩
        case measure => (try rw [wrap_ok (by omega) (by omega)]); simp [intOf]; omega
    · obtain rfl : i = 60 := by omega
      clear hlt
      have HX2 : Aside0 (xs.length ≤ 60) := ⟨by omega⟩
      have HG2 := HSG
      clear HSG hx hi
      go_wp2
      go_loopw [8] (fun v8 w' => ∃ (j : Nat) (v : Value) (xs : List S56), v8 = .int .i64 j ∧ j ≤ 60 ∧ Aside0 (xs.length ≤ 60) ∧ Aside0 (Srt xs ∧ Good l 60 xs) ∧ Aside0 (Tab w' w.heap.size 60 w.heap.size v xs) ∧ Aside0 (Below w.heap.size w w') ∧ Aside0 (w.heap.size ≤ w'.heap.size)) (fun v8 _ => (60 - intOf v8).toNat)
      case atStart => exact ⟨0, _, xs, rfl, Nat.zero_le _, HX2, HG2, HT, HB, HS⟩
      case round =>
        clear HT HB HS HG2 HX2
        clear xs v
        obtain ⟨j, v, xs, rfl, hj, HXX, HSG, HT, HB, HS⟩ := hrel
        by_cases hlt : j < 60
        · have h1 : j < g.length := by omega
          have h2 : j < 60 := by omega
          clear hlt
          obtain ⟨ad, e, -⟩ := Kd.at_string (Kd.C_below HR1.out HB.out) (j : Int) (by omega) (by omega)
          cases e
          obtain ⟨k, hkk⟩ : ∃ k, g.getD j ByteArray.empty = k := ⟨_, rfl⟩
          have HX0 : Aside0 (∀ W, Below w.heap.size w W → W.cell? (ad.add j) = some (.string k)) := ⟨fun W hW => by
            obtain ⟨ad', e, x0⟩ := Kd.at_string (Kd.C_below HR1.out hW) (j : Int) (by omega) (by omega)
            cases e
            rw [Int.toNat_natCast] at x0
            rw [x0, ← hkk]
            rfl⟩
          have HKK := Aside0.mk hkk
          clear hkk
          have x0 := HX0.out _ HB.out
          cases hk : hit xs k with
          | true =>
            have HK := Aside0.mk hk
            have HK2 := Aside0.mk (erase_not HSG.out.1 hk)
            have HXX2 : Aside0 ((xs.eraseIdx (ix xs k)).length ≤ 60) := ⟨Nat.le_trans (eraseIdx_small _ _) HXX.out⟩
            have HSG2 : Aside0 (Srt (xs.eraseIdx (ix xs k)) ∧ Good l 60 (xs.eraseIdx (ix xs k))) := ⟨erase_srt HSG.out.1 _, HSG.out.2.erase _⟩
            clear hk
            generalize hys : xs.eraseIdx (ix xs k) = ys at HK2 HXX2 HSG2
            have HYS := Aside0.mk hys
            clear hys
            go_wp2_with (first | (go_at_call 9; with_reducible refine (Get.yes _ _ _ _ xs k _ HT.out HK.out).mono ?_; rintro e w' ⟨rfl, hb⟩; clear x0; have n9_ := Aside0.mk (HT.out.below hb); have n8_ := Aside0.mk (Below.trans HB.out (Below.mono hb HS.out)); have n7_ := Aside0.mk (Nat.le_trans HS.out hb.size); clear HT HB HS hb; have HT := n9_; have HB := n8_; have HS := n7_; clear n9_ n8_ n7_; have x0 := HX0.out _ HB.out) | (go_at_call 9; with_reducible refine (Get.not _ _ _ _ ys k _ HT.out HK2.out).mono ?_; rintro e w' ⟨rfl, hb⟩; clear x0; have n9_ := Aside0.mk (HT.out.below hb); have n8_ := Aside0.mk (Below.trans HB.out (Below.mono hb HS.out)); have n7_ := Aside0.mk (Nat.le_trans HS.out hb.size); clear HT HB HS hb; have HT := n9_; have HB := n8_; have HS := n7_; clear n9_ n8_ n7_; have x0 := HX0.out _ HB.out) | (go_at_call 10; with_reducible refine (Drop.yes _ _ _ _ xs k _ HT.out HK.out).mono ?_; rintro e w' ⟨v', rfl, ht, hb, hf, hs⟩; clear x0; rw [HYS.out] at ht; have n8_ := Aside0.mk (Below.trans HB.out hb); have n7_ := Aside0.mk (Nat.le_trans HS.out hs); clear HT HB HS hb hs hf; have HT := Aside0.mk ht; have HB := n8_; have HS := n7_; clear ht n8_ n7_; have x0 := HX0.out _ HB.out))
            go_roundw
            case rel => exact ⟨j + 1, _, ys, by first | rfl | (rw [wrap_ok (by omega) (by omega)]; simp), by omega, HXX2, HSG2, HT, HB, HS⟩
            case measure => (try rw [wrap_ok (by omega) (by omega)]); simp [intOf]; omega
          | false =>
            have HK := Aside0.mk hk
            clear hk
            go_wp2_with (first | (go_at_call 9; with_reducible refine (Get.not _ _ _ _ xs k _ HT.out HK.out).mono ?_; rintro e w' ⟨rfl, hb⟩; clear x0; have n9_ := Aside0.mk (HT.out.below hb); have n8_ := Aside0.mk (Below.trans HB.out (Below.mono hb HS.out)); have n7_ := Aside0.mk (Nat.le_trans HS.out hb.size); clear HT HB HS hb; have HT := n9_; have HB := n8_; have HS := n7_; clear n9_ n8_ n7_; have x0 := HX0.out _ HB.out) | (go_at_call 10; with_reducible refine (Drop.not _ _ _ _ xs k _ HT.out HK.out).mono ?_; rintro e w' ⟨rfl, hb⟩; clear x0; have n9_ := Aside0.mk (HT.out.below hb); have n8_ := Aside0.mk (Below.trans HB.out (Below.mono hb HS.out)); have n7_ := Aside0.mk (Nat.le_trans HS.out hb.size); clear HT HB HS hb; have HT := n9_; have HB := n8_; have HS := n7_; clear n9_ n8_ n7_; have x0 := HX0.out _ HB.out))
            go_roundw
            case rel => exact ⟨j + 1, _, xs, by first | rfl | (rw [wrap_ok (by omega) (by omega)]; simp), by omega, HXX, HSG, HT, HB, HS⟩
            case measure => (try rw [wrap_ok (by omega) (by omega)]); simp [intOf]; omega
        · obtain rfl : j = 60 := by omega
          clear hlt
          obtain ⟨ks, hks⟩ : ∃ ks, xs.map (·.f0) = ks := ⟨_, rfl⟩
          have hkl : ks.length ≤ 60 := by rw [← hks, List.length_map]; exact HXX.out
          have HXL : Aside0 (xs.length = ks.length) := ⟨by rw [← hks, List.length_map]⟩
          have HKS := Aside0.mk hks
          clear hks
          go_upto_region 23 with ((go_at_call 11; with_reducible refine (Keys.ks _ _ _ xs ks _ HT.out HKS.out).mono ?_; rintro e W2 ⟨Aa, ca, rfl, hk, hb⟩; have HA := Aside0.mk (Kd.R_reads' hk).2; clear hk; have n9_ := Aside0.mk (HT.out.below hb); have n8_ := Aside0.mk (Below.trans HB.out (Below.mono hb HS.out)); have n7_ := Aside0.mk (Nat.le_trans HS.out hb.size); clear HT HB HS hb; have HT := n9_; have HB := n8_; have HS := n7_; clear n9_ n8_ n7_; have HW2 := Aside0.mk (Below.refl W2.heap.size W2)))
          go_wp2
          go_loopw [15] (fun v15 w' => ∃ j : Nat, v15 = .int .i64 j ∧ j ≤ ks.length ∧ Aside0 (Below W2.heap.size W2 w')) (fun v15 _ => (60 - intOf v15).toNat)
          case atStart => exact ⟨0, rfl, Nat.zero_le _, HW2⟩
          case round =>
            clear HW2
            obtain ⟨j, rfl, hj, HW2⟩ := hrel
            by_cases hlt : j < ks.length
            · have hjx : j < xs.length := by have := HXL.out; omega
              obtain ⟨ad, e, -⟩ := Kd.at_string HA.out.2 (j : Int) (by omega) (by omega)
              cases e
              obtain ⟨kj, hkj⟩ : ∃ k, ks.getD j ByteArray.empty = k := ⟨_, rfl⟩
              have HXJ : Aside0 (∀ W, Below W2.heap.size W2 W → W.cell? (ad.add j) = some (.string kj)) := ⟨fun W hW => by
                obtain ⟨ad', e, x0⟩ := Kd.at_string (Kd.C_below HA.out.2 hW) (j : Int) (by omega) (by omega)
                cases e
                rw [Int.toNat_natCast] at x0
                rw [x0, ← hkj]
                rfl⟩
              have hkx := (ks_get HKS.out j hjx).symm.trans hkj
              obtain ⟨hk1, hk2⟩ := hit_of HSG.out.1 hjx hkx
              have HK := Aside0.mk hk1
              have hmem : xs[j] ∈ xs := List.getElem_mem _
              obtain ⟨vv, hv1, hv2, hv3, hv4⟩ := HSG.out.2 _ hmem
              have hgx := getD_lt xs j hjx
              rw [← hgx, hkx] at hv3
              rw [← hgx, hkx] at hv4
              rw [← hgx] at hv1
              have HV : Aside0 ((rd_T56 xs ((ix xs kj : Nat) : Int)).f1 = (vv : Int)) := ⟨by rw [hk2, rd_get]; exact hv1⟩
              have HV4 := Aside0.mk hv4
              have hvl : vv < l.length := by omega
              have HWB := HB
              obtain ⟨al, e, -⟩ := Kd.at_string (Kd.C_below HR.out HWB.out) (vv : Int) (by omega) (by omega)
              cases e
              have HXV : Aside0 (∀ W, Below W2.heap.size W2 W → W.cell? (al.add vv) = some (.string kj)) := ⟨fun W hW => by
                obtain ⟨ad', e, x0⟩ := Kd.at_string (Kd.C_below (Kd.C_below HR.out HWB.out) hW) (vv : Int) (by omega) (by omega)
                cases e
                rw [Int.toNat_natCast] at x0
                rw [x0, ← hv3]
                rfl⟩
              have y0 := HXJ.out _ HW2.out
              clear hv1 hv3 hv4 hk1 hk2 hmem hgx
              rcases Nat.eq_zero_or_pos j with h0 | h0
              · have dj : decide ((0 : Int) < (j : Int)) = false := decide_eq_false (by omega)
                have djn : decide (0 < j) = false := decide_eq_false (by omega)
                have dj0 : ¬ (0 < j) := by omega
                clear hkx hkj h0
                go_upto_region 26 with (fail)
                refine start_ (n := 14) (S := fun w' => True) (ds := []) #[false, false, false, false, false, false, false, false, false, false, false, false, false, false] (by kernel_rfl) rfl rfl trivial (fun hHeld => ?_)
                refine pure_ (i := 0) (N := some 101) (v := ?_) (a' := ?_) #[true, false, false, false, false, false, false, false, false, false, false, false, false, false] rfl rfl (by kernel_rfl) (fun _ _ _ h => h) (Or.inl ⟨by rfl, ?_⟩) ?_ ?_
                rotate_left
                · intro w'
                  go_simp
                  with_reducible rfl
                rotate_left
                · simp only [Act.put, List.setIfInBounds_toArray, List.set_cons_zero, List.set_cons_succ, i64_w, i32_w]
                  rfl
                refine pure_ (i := 1) (N := some 102) (v := ?_) (a' := ?_) #[true, true, false, false, false, false, false, false, false, false, false, false, false, false] rfl rfl (by kernel_rfl) (fun _ _ _ h => h) (Or.inl ⟨by rfl, ?_⟩) ?_ ?_
                rotate_left
                · intro w'
                  go_simp
                  with_reducible rfl
                rotate_left
                · simp only [Act.put, List.setIfInBounds_toArray, List.set_cons_zero, List.set_cons_succ, i64_w, i32_w]
                  rfl
                refine pure_ (i := 2) (N := some 103) (v := ?_) (a' := ?_) #[true, true, true, false, false, false, false, false, false, false, false, false, false, false] rfl rfl (by kernel_rfl) (fun _ _ _ h => h) (Or.inl ⟨by rfl, ?_⟩) ?_ ?_
                rotate_left
                · intro w'
                  go_simp
                  with_reducible rfl
                rotate_left
                · simp only [Act.put, List.setIfInBounds_toArray, List.set_cons_zero, List.set_cons_succ, i64_w, i32_w]
                  rfl
                refine pure_ (i := 3) (N := some 104) (v := undef) (a' := ?_) #[true, true, true, true, false, false, false, false, false, false, false, false, false, false] rfl rfl (by kernel_rfl) (fun _ _ _ h => h) (Or.inr ⟨by rfl, rfl⟩) ?_ ?_
                rotate_left
                · simp only [Act.put, List.setIfInBounds_toArray, List.set_cons_zero, List.set_cons_succ, i64_w, i32_w]
                  rfl
                refine pure_ (i := 4) (N := some 105) (v := undef) (a' := ?_) #[true, true, true, true, true, false, false, false, false, false, false, false, false, false] rfl rfl (by kernel_rfl) (fun _ _ _ h => h) (Or.inr ⟨by rfl, rfl⟩) ?_ ?_
                rotate_left
                · simp only [Act.put, List.setIfInBounds_toArray, List.set_cons_zero, List.set_cons_succ, i64_w, i32_w]
                  rfl
                refine pure_ (i := 5) (N := some 106) (v := undef) (a' := ?_) #[true, true, true, true, true, true, false, false, false, false, false, false, false, false] rfl rfl (by kernel_rfl) (fun _ _ _ h => h) (Or.inr ⟨by rfl, rfl⟩) ?_ ?_
                rotate_left
                · simp only [Act.put, List.setIfInBounds_toArray, List.set_cons_zero, List.set_cons_succ, i64_w, i32_w]
                  rfl
                refine pure_ (i := 6) (N := some 107) (v := undef) (a' := ?_) #[true, true, true, true, true, true, true, false, false, false, false, false, false, false] rfl rfl (by kernel_rfl) (fun _ _ _ h => h) (Or.inr ⟨by rfl, rfl⟩) ?_ ?_
                rotate_left
                · simp only [Act.put, List.setIfInBounds_toArray, List.set_cons_zero, List.set_cons_succ, i64_w, i32_w]
                  rfl
                refine pure_ (i := 7) (N := some 108) (v := undef) (a' := ?_) #[true, true, true, true, true, true, true, true, false, false, false, false, false, false] rfl rfl (by kernel_rfl) (fun _ _ _ h => h) (Or.inr ⟨by rfl, rfl⟩) ?_ ?_
                rotate_left
                · simp only [Act.put, List.setIfInBounds_toArray, List.set_cons_zero, List.set_cons_succ, i64_w, i32_w]
                  rfl
                refine pure_ (i := 8) (N := some 109) (v := undef) (a' := ?_) #[true, true, true, true, true, true, true, true, true, false, false, false, false, false] rfl rfl (by kernel_rfl) (fun _ _ _ h => h) (Or.inr ⟨by rfl, rfl⟩) ?_ ?_
                rotate_left
                · simp only [Act.put, List.setIfInBounds_toArray, List.set_cons_zero, List.set_cons_succ, i64_w, i32_w]
                  rfl
                refine pure_ (i := 9) (N := some 110) (v := undef) (a' := ?_) #[true, true, true, true, true, true, true, true, true, true, false, false, false, false] rfl rfl (by kernel_rfl) (fun _ _ _ h => h) (Or.inr ⟨by rfl, rfl⟩) ?_ ?_
                rotate_left
                · simp only [Act.put, List.setIfInBounds_toArray, List.set_cons_zero, List.set_cons_succ, i64_w, i32_w]
                  rfl
                refine pure_ (i := 10) (N := some 111) (v := undef) (a' := ?_) #[true, true, true, true, true, true, true, true, true, true, true, false, false, false] rfl rfl (by kernel_rfl) (fun _ _ _ h => h) (Or.inr ⟨by rfl, rfl⟩) ?_ ?_
                rotate_left
                · simp only [Act.put, List.setIfInBounds_toArray, List.set_cons_zero, List.set_cons_succ, i64_w, i32_w]
                  rfl
                refine pure_ (i := 11) (N := some 112) (v := undef) (a' := ?_) #[true, true, true, true, true, true, true, true, true, true, true, true, false, false] rfl rfl (by kernel_rfl) (fun _ _ _ h => h) (Or.inr ⟨by rfl, rfl⟩) ?_ ?_
                rotate_left
                · simp only [Act.put, List.setIfInBounds_toArray, List.set_cons_zero, List.set_cons_succ, i64_w, i32_w]
                  rfl
                refine pure_ (i := 12) (N := some 113) (v := undef) (a' := ?_) #[true, true, true, true, true, true, true, true, true, true, true, true, true, false] rfl rfl (by kernel_rfl) (fun _ _ _ h => h) (Or.inr ⟨by rfl, rfl⟩) ?_ ?_
                rotate_left
                · simp only [Act.put, List.setIfInBounds_toArray, List.set_cons_zero, List.set_cons_succ, i64_w, i32_w]
                  rfl
                refine pure_ (i := 13) (N := some 114) (v := ?_) (a' := ?_) #[true, true, true, true, true, true, true, true, true, true, true, true, true, true] rfl rfl (by kernel_rfl) (fun _ _ _ h => h) (Or.inl ⟨by rfl, ?_⟩) ?_ ?_
                rotate_left
                · intro w'
                  go_simp
                  with_reducible rfl
                rotate_left
                · simp only [Act.put, List.setIfInBounds_toArray, List.set_cons_zero, List.set_cons_succ, i64_w, i32_w]
                  rfl
                refine done_ (by kernel_rfl) ?_

                go_upto_region 29 with ((go_at_call 9; with_reducible refine (Get.yes _ _ _ _ xs kj _ (HT.out.below (by repeat (first | (with_reducible first | exact HW2.out | apply below_alloc | apply pw_below_drewN | apply below_drew1) | exact HW2.out))) HK.out).mono ?_; rw [HV.out]; rintro e w' ⟨rfl, hb⟩; have n8_ := Aside0.mk (below_step (by repeat (first | (with_reducible first | exact HW2.out | apply below_alloc | apply pw_below_drewN | apply below_drew1) | exact HW2.out)) hb); clear HW2 hb; have HW2 := n8_; clear n8_))
                have dv0 : decide ((vv : Int) < 0) = false := decide_eq_false (by omega)
                have dv1 : decide ((l.length : Int) ≤ (vv : Int)) = false := decide_eq_false (by omega)
                have dv2 : decide (l.length ≤ vv) = false := decide_eq_false (by omega)
                have dv3 : decide (vv < l.length) = true := decide_eq_true (by omega)
                have dv4 : decide ((vv : Int) < (l.length : Int)) = true := decide_eq_true (by omega)
                have dv5 : ¬ l.length ≤ vv := by omega
                have y0 := HXJ.out _ HW2.out
                have y2 := HXV.out _ HW2.out
                refine start_ (n := 23) (S := fun w' => w'.cell? (ad.add j) = some (.string kj) ∧ w'.cell? (al.add vv) = some (.string kj)) (ds := []) #[false, false, false, false, false, false, false, false, false, false, false, false, false, false, false, false, false, false, false, false, false, false, false] (by kernel_rfl) rfl rfl ⟨y0, y2⟩ (fun hHeld => ?_)
                refine pure_ (i := 0) (N := some 124) (v := ?_) (a' := ?_) #[true, false, false, false, false, false, false, false, false, false, false, false, false, false, false, false, false, false, false, false, false, false, false] rfl rfl (by kernel_rfl) (fun _ _ _ h => h) (Or.inl ⟨by rfl, ?_⟩) ?_ ?_
                rotate_left
                · intro w'
                  go_simp
                  with_reducible rfl
                rotate_left
                · simp only [Act.put, List.setIfInBounds_toArray, List.set_cons_zero, List.set_cons_succ, i64_w, i32_w]
                  rfl
                refine pure_ (i := 1) (N := some 125) (v := ?_) (a' := ?_) #[true, true, false, false, false, false, false, false, false, false, false, false, false, false, false, false, false, false, false, false, false, false, false] rfl rfl (by kernel_rfl) (fun _ _ _ h => h) (Or.inl ⟨by rfl, ?_⟩) ?_ ?_
                rotate_left
                · intro w'
                  go_simp
                  with_reducible rfl
                rotate_left
                · simp only [Act.put, List.setIfInBounds_toArray, List.set_cons_zero, List.set_cons_succ, i64_w, i32_w]
                  rfl
                refine pure_ (i := 2) (N := some 126) (v := ?_) (a' := ?_) #[true, true, true, false, false, false, false, false, false, false, false, false, false, false, false, false, false, false, false, false, false, false, false] rfl rfl (by kernel_rfl) (fun _ _ _ h => h) (Or.inl ⟨by rfl, ?_⟩) ?_ ?_
                rotate_left
                · intro w'
                  go_simp
                  with_reducible rfl
                rotate_left
                · simp only [Act.put, List.setIfInBounds_toArray, List.set_cons_zero, List.set_cons_succ, i64_w, i32_w]
                  rfl
                refine pure_ (i := 3) (N := some 127) (v := ?_) (a' := ?_) #[true, true, true, true, false, false, false, false, false, false, false, false, false, false, false, false, false, false, false, false, false, false, false] rfl rfl (by kernel_rfl) (fun _ _ _ h => h) (Or.inl ⟨by rfl, ?_⟩) ?_ ?_
                rotate_left
                · intro w'
                  go_simp
                  with_reducible rfl
                rotate_left
                · simp only [Act.put, List.setIfInBounds_toArray, List.set_cons_zero, List.set_cons_succ, i64_w, i32_w]
                  rfl
                refine pure_ (i := 4) (N := some 128) (v := ?_) (a' := ?_) #[true, true, true, true, true, false, false, false, false, false, false, false, false, false, false, false, false, false, false, false, false, false, false] rfl rfl (by kernel_rfl) (fun _ _ _ h => h) (Or.inl ⟨by rfl, ?_⟩) ?_ ?_
                rotate_left
                · intro w'
                  go_simp
                  with_reducible rfl
                rotate_left
                · simp only [Act.put, List.setIfInBounds_toArray, List.set_cons_zero, List.set_cons_succ, i64_w, i32_w]
                  rfl
                refine pure_ (i := 5) (N := some 129) (v := ?_) (a' := ?_) #[true, true, true, true, true, true, false, false, false, false, false, false, false, false, false, false, false, false, false, false, false, false, false] rfl rfl (by kernel_rfl) (fun _ _ _ h => h) (Or.inl ⟨by rfl, ?_⟩) ?_ ?_
                rotate_left
                · intro w'
                  go_simp
                  with_reducible rfl
                rotate_left
                · simp only [Act.put, List.setIfInBounds_toArray, List.set_cons_zero, List.set_cons_succ, i64_w, i32_w]
                  rfl
                refine pure_ (i := 6) (N := some 130) (v := ?_) (a' := ?_) #[true, true, true, true, true, true, true, false, false, false, false, false, false, false, false, false, false, false, false, false, false, false, false] rfl rfl (by kernel_rfl) (fun _ _ _ h => h) (Or.inl ⟨by rfl, ?_⟩) ?_ ?_
                rotate_left
                · intro w'
                  go_simp
                  with_reducible rfl
                rotate_left
                · simp only [Act.put, List.setIfInBounds_toArray, List.set_cons_zero, List.set_cons_succ, i64_w, i32_w]
                  rfl
                refine pure_ (i := 7) (N := some 131) (v := ?_) (a' := ?_) #[true, true, true, true, true, true, true, true, false, false, false, false, false, false, false, false, false, false, false, false, false, false, false] rfl rfl (by kernel_rfl) (fun _ _ _ h => h) (Or.inl ⟨by rfl, ?_⟩) ?_ ?_
                rotate_left
                · intro w'
                  go_simp
                  with_reducible rfl
                rotate_left
                · simp only [Act.put, List.setIfInBounds_toArray, List.set_cons_zero, List.set_cons_succ, i64_w, i32_w]
                  rfl
                refine pure_ (i := 8) (N := some 132) (v := ?_) (a' := ?_) #[true, true, true, true, true, true, true, true, true, false, false, false, false, false, false, false, false, false, false, false, false, false, false] rfl rfl (by kernel_rfl) (fun _ _ _ h => h) (Or.inl ⟨by rfl, ?_⟩) ?_ ?_
                rotate_left
                · intro w'
                  go_simp
                  with_reducible rfl
                rotate_left
                · simp only [Act.put, List.setIfInBounds_toArray, List.set_cons_zero, List.set_cons_succ, i64_w, i32_w]
                  rfl
                refine pure_ (i := 9) (N := some 133) (v := ?_) (a' := ?_) #[true, true, true, true, true, true, true, true, true, true, false, false, false, false, false, false, false, false, false, false, false, false, false] rfl rfl (by kernel_rfl) (fun _ _ _ h => h) (Or.inl ⟨by rfl, ?_⟩) ?_ ?_
                rotate_left
                · intro w'
                  go_simp
                  with_reducible rfl
                rotate_left
                · simp only [Act.put, List.setIfInBounds_toArray, List.set_cons_zero, List.set_cons_succ, i64_w, i32_w]
                  rfl
                refine pure_ (i := 10) (N := some 134) (v := ?_) (a' := ?_) #[true, true, true, true, true, true, true, true, true, true, true, false, false, false, false, false, false, false, false, false, false, false, false] rfl rfl (by kernel_rfl) (fun _ _ _ h => h) (Or.inl ⟨by rfl, ?_⟩) ?_ ?_
                rotate_left
                · intro w'
                  go_simp
                  with_reducible rfl
                rotate_left
                · simp only [Act.put, List.setIfInBounds_toArray, List.set_cons_zero, List.set_cons_succ, i64_w, i32_w]
                  rfl
                refine pure_ (i := 11) (N := some 135) (v := ?_) (a' := ?_) #[true, true, true, true, true, true, true, true, true, true, true, true, false, false, false, false, false, false, false, false, false, false, false] rfl rfl (by kernel_rfl) (fun _ _ _ h => h) (Or.inl ⟨by rfl, ?_⟩) ?_ ?_
                rotate_left
                · intro w'
                  go_simp
                  with_reducible rfl
                rotate_left
                · simp only [Act.put, List.setIfInBounds_toArray, List.set_cons_zero, List.set_cons_succ, i64_w, i32_w]
                  rfl
                refine pure_ (i := 12) (N := some 136) (v := ?_) (a' := ?_) #[true, true, true, true, true, true, true, true, true, true, true, true, true, false, false, false, false, false, false, false, false, false, false] rfl rfl (by kernel_rfl) (fun _ _ _ h => h) (Or.inl ⟨by rfl, ?_⟩) ?_ ?_
                rotate_left
                · intro w'
                  go_simp
                  with_reducible rfl
                rotate_left
                · simp only [Act.put, List.setIfInBounds_toArray, List.set_cons_zero, List.set_cons_succ, i64_w, i32_w]
                  rfl
                refine pure_ (i := 13) (N := some 137) (v := ?_) (a' := ?_) #[true, true, true, true, true, true, true, true, true, true, true, true, true, true, false, false, false, false, false, false, false, false, false] rfl rfl (by kernel_rfl) (fun _ _ _ h => h) (Or.inl ⟨by rfl, ?_⟩) ?_ ?_
                rotate_left
                · intro w'
                  go_simp
                  with_reducible rfl
                rotate_left
                · simp only [Act.put, List.setIfInBounds_toArray, List.set_cons_zero, List.set_cons_succ, i64_w, i32_w]
                  rfl
                refine pure_ (i := 14) (N := some 138) (v := ?_) (a' := ?_) #[true, true, true, true, true, true, true, true, true, true, true, true, true, true, true, false, false, false, false, false, false, false, false] rfl rfl (by kernel_rfl) (fun _ _ _ h => h) (Or.inl ⟨by rfl, ?_⟩) ?_ ?_
                rotate_left
                · intro w'
                  go_simp
                  with_reducible rfl
                rotate_left
                · simp only [Act.put, List.setIfInBounds_toArray, List.set_cons_zero, List.set_cons_succ, i64_w, i32_w]
                  rfl
                refine pure_ (i := 15) (N := some 139) (v := ?_) (a' := ?_) #[true, true, true, true, true, true, true, true, true, true, true, true, true, true, true, true, false, false, false, false, false, false, false] rfl rfl (by kernel_rfl) (fun _ _ _ h => h) (Or.inl ⟨by rfl, ?_⟩) ?_ ?_
                rotate_left
                · intro w'
                  go_simp
                  with_reducible rfl
                rotate_left
                · simp only [Act.put, List.setIfInBounds_toArray, List.set_cons_zero, List.set_cons_succ, i64_w, i32_w]
                  rfl
                refine pure_ (i := 17) (N := some 141) (v := ?_) (a' := ?_) #[true, true, true, true, true, true, true, true, true, true, true, true, true, true, true, true, false, true, false, false, false, false, false] rfl rfl (by kernel_rfl) (fun _ _ _ h => h) (Or.inl ⟨by rfl, ?_⟩) ?_ ?_
                rotate_left
                · intro w'
                  go_simp
                  with_reducible rfl
                rotate_left
                · simp only [Act.put, List.setIfInBounds_toArray, List.set_cons_zero, List.set_cons_succ, i64_w, i32_w]
                  rfl
                refine pure_ (i := 18) (N := some 142) (v := ?_) (a' := ?_) #[true, true, true, true, true, true, true, true, true, true, true, true, true, true, true, true, false, true, true, false, false, false, false] rfl rfl (by kernel_rfl) (fun _ _ _ h => h) (Or.inl ⟨by rfl, ?_⟩) ?_ ?_
                rotate_left
                · intro w'
                  go_simp
                  with_reducible rfl
                rotate_left
                · simp only [Act.put, List.setIfInBounds_toArray, List.set_cons_zero, List.set_cons_succ, i64_w, i32_w]
                  rfl
                refine pure_ (i := 19) (N := some 143) (v := ?_) (a' := ?_) #[true, true, true, true, true, true, true, true, true, true, true, true, true, true, true, true, false, true, true, true, false, false, false] rfl rfl (by kernel_rfl) (fun _ _ _ h => h) (Or.inl ⟨by rfl, ?_⟩) ?_ ?_
                rotate_left
                · intro w'
                  go_simp
                  with_reducible rfl
                rotate_left
                · simp only [Act.put, List.setIfInBounds_toArray, List.set_cons_zero, List.set_cons_succ, i64_w, i32_w]
                  rfl
                refine take_ (i := 16) (N := some 140) (v := ?_) (a' := ?_) #[true, true, true, true, true, true, true, true, true, true, true, true, true, true, true, true, true, true, true, true, false, false, false] rfl rfl (by kernel_rfl) (fun _ _ _ h => h) (Or.inl ⟨by rfl, ?_⟩) hHeld ?_ ?_
                rotate_left
                · rintro w' ⟨s0, s1⟩
                  go_simp
                  with_reducible rfl
                rotate_left
                · simp only [Act.put, List.setIfInBounds_toArray, List.set_cons_zero, List.set_cons_succ, i64_w, i32_w]
                  rfl
                refine take_ (i := 20) (N := some 144) (v := ?_) (a' := ?_) #[true, true, true, true, true, true, true, true, true, true, true, true, true, true, true, true, true, true, true, true, true, false, false] rfl rfl (by kernel_rfl) (fun _ _ _ h => h) (Or.inl ⟨by rfl, ?_⟩) hHeld ?_ ?_
                rotate_left
                · rintro w' ⟨s0, s1⟩
                  go_simp
                  with_reducible rfl
                rotate_left
                · simp only [Act.put, List.setIfInBounds_toArray, List.set_cons_zero, List.set_cons_succ, i64_w, i32_w]
                  rfl
                refine pure_ (i := 21) (N := some 145) (v := ?_) (a' := ?_) #[true, true, true, true, true, true, true, true, true, true, true, true, true, true, true, true, true, true, true, true, true, true, false] rfl rfl (by kernel_rfl) (fun _ _ _ h => h) (Or.inl ⟨by rfl, ?_⟩) ?_ ?_
                rotate_left
                · intro w'
                  go_simp
                  with_reducible rfl
                rotate_left
                · simp only [Act.put, List.setIfInBounds_toArray, List.set_cons_zero, List.set_cons_succ, i64_w, i32_w]
                  rfl
                refine pure_ (i := 22) (N := some 146) (v := ?_) (a' := ?_) #[true, true, true, true, true, true, true, true, true, true, true, true, true, true, true, true, true, true, true, true, true, true, true] rfl rfl (by kernel_rfl) (fun _ _ _ h => h) (Or.inl ⟨by rfl, ?_⟩) ?_ ?_
                rotate_left
                · intro w'
                  go_simp
                  with_reducible rfl
                rotate_left
                · simp only [Act.put, List.setIfInBounds_toArray, List.set_cons_zero, List.set_cons_succ, i64_w, i32_w]
                  rfl
                refine done_ (by kernel_rfl) ?_

                go_wp2
                go_loopw [18] (fun v18 w' => ∃ p : Nat, v18 = .int .i64 p ∧ vv < p ∧ p ≤ 60 ∧ Aside0 (Below W2.heap.size W2 w')) (fun v18 _ => (60 - intOf v18).toNat)
                case atStart => exact ⟨vv + 1, by first | rfl | (rw [wrap_ok (by omega) (by omega)]; simp), by omega, by omega, ⟨by repeat (first | (with_reducible first | exact HW2.out | apply below_alloc | apply pw_below_drewN | apply below_drew1) | exact HW2.out)⟩⟩
                case round =>
                  clear HW2 y0 y2
                  obtain ⟨p, rfl, hp1, hp2, HW2⟩ := hrel
                  by_cases hlt2 : p < 60
                  · have h1 : p < l.length := by omega
                    have h2 : p < 60 := by omega
                    obtain ⟨al2, e, -⟩ := Kd.at_string (Kd.C_below HR.out HWB.out) (p : Int) (by omega) (by omega)
                    cases e
                    obtain ⟨kp, hkp⟩ : ∃ k, l.getD p ByteArray.empty = k := ⟨_, rfl⟩
                    have HXP : Aside0 (∀ W, Below W2.heap.size W2 W → W.cell? (al.add p) = some (.string kp)) := ⟨fun W hW => by
                      obtain ⟨ad', e, x0⟩ := Kd.at_string (Kd.C_below (Kd.C_below HR.out HWB.out) hW) (p : Int) (by omega) (by omega)
                      cases e
                      rw [Int.toNat_natCast] at x0
                      rw [x0, ← hkp]
                      rfl⟩
                    have hne : kp ≠ kj := fun e => HV4.out p hp1 hlt2 (hkp.trans e)
                    have y0 := HXJ.out _ HW2.out
                    have hbe : (kp.toList == kj.toList) = false := by rw [be]; exact decide_eq_false hne
                    have y3 := HXP.out _ HW2.out
                    clear hkp
                    go_upto_region 34 with (fail)
                    refine start_ (n := 9) (S := fun w' => w'.cell? (ad.add j) = some (.string kj) ∧ w'.cell? (al.add p) = some (.string kp)) (ds := []) #[false, false, false, false, false, false, false, false, false] (by kernel_rfl) rfl rfl ⟨y0, y3⟩ (fun hHeld => ?_)
                    refine pure_ (i := 0) (N := some 159) (v := ?_) (a' := ?_) #[true, false, false, false, false, false, false, false, false] rfl rfl (by kernel_rfl) (fun _ _ _ h => h) (Or.inl ⟨by rfl, ?_⟩) ?_ ?_
                    rotate_left
                    · intro w'
                      go_simp
                      with_reducible rfl
                    rotate_left
                    · simp only [Act.put, List.setIfInBounds_toArray, List.set_cons_zero, List.set_cons_succ, i64_w, i32_w]
                      rfl
                    refine pure_ (i := 1) (N := some 160) (v := ?_) (a' := ?_) #[true, true, false, false, false, false, false, false, false] rfl rfl (by kernel_rfl) (fun _ _ _ h => h) (Or.inl ⟨by rfl, ?_⟩) ?_ ?_
                    rotate_left
                    · intro w'
                      go_simp
                      with_reducible rfl
                    rotate_left
                    · simp only [Act.put, List.setIfInBounds_toArray, List.set_cons_zero, List.set_cons_succ, i64_w, i32_w]
                      rfl
                    refine pure_ (i := 2) (N := some 161) (v := ?_) (a' := ?_) #[true, true, true, false, false, false, false, false, false] rfl rfl (by kernel_rfl) (fun _ _ _ h => h) (Or.inl ⟨by rfl, ?_⟩) ?_ ?_
                    rotate_left
                    · intro w'
                      go_simp
                      with_reducible rfl
                    rotate_left
                    · simp only [Act.put, List.setIfInBounds_toArray, List.set_cons_zero, List.set_cons_succ, i64_w, i32_w]
                      rfl
                    refine pure_ (i := 4) (N := some 163) (v := ?_) (a' := ?_) #[true, true, true, false, true, false, false, false, false] rfl rfl (by kernel_rfl) (fun _ _ _ h => h) (Or.inl ⟨by rfl, ?_⟩) ?_ ?_
                    rotate_left
                    · intro w'
                      go_simp
                      with_reducible rfl
                    rotate_left
                    · simp only [Act.put, List.setIfInBounds_toArray, List.set_cons_zero, List.set_cons_succ, i64_w, i32_w]
                      rfl
                    refine pure_ (i := 5) (N := some 164) (v := ?_) (a' := ?_) #[true, true, true, false, true, true, false, false, false] rfl rfl (by kernel_rfl) (fun _ _ _ h => h) (Or.inl ⟨by rfl, ?_⟩) ?_ ?_
                    rotate_left
                    · intro w'
                      go_simp
                      with_reducible rfl
                    rotate_left
                    · simp only [Act.put, List.setIfInBounds_toArray, List.set_cons_zero, List.set_cons_succ, i64_w, i32_w]
                      rfl
                    refine pure_ (i := 6) (N := some 165) (v := ?_) (a' := ?_) #[true, true, true, false, true, true, true, false, false] rfl rfl (by kernel_rfl) (fun _ _ _ h => h) (Or.inl ⟨by rfl, ?_⟩) ?_ ?_
                    rotate_left
                    · intro w'
                      go_simp
                      with_reducible rfl
                    rotate_left
                    · simp only [Act.put, List.setIfInBounds_toArray, List.set_cons_zero, List.set_cons_succ, i64_w, i32_w]
                      rfl
                    refine take_ (i := 3) (N := some 162) (v := ?_) (a' := ?_) #[true, true, true, true, true, true, true, false, false] rfl rfl (by kernel_rfl) (fun _ _ _ h => h) (Or.inl ⟨by rfl, ?_⟩) hHeld ?_ ?_
                    rotate_left
                    · rintro w' ⟨s0, s1⟩
                      go_simp
                      with_reducible rfl
                    rotate_left
                    · simp only [Act.put, List.setIfInBounds_toArray, List.set_cons_zero, List.set_cons_succ, i64_w, i32_w]
                      rfl
                    refine take_ (i := 7) (N := some 166) (v := ?_) (a' := ?_) #[true, true, true, true, true, true, true, true, false] rfl rfl (by kernel_rfl) (fun _ _ _ h => h) (Or.inl ⟨by rfl, ?_⟩) hHeld ?_ ?_
                    rotate_left
                    · rintro w' ⟨s0, s1⟩
                      go_simp
                      with_reducible rfl
                    rotate_left
                    · simp only [Act.put, List.setIfInBounds_toArray, List.set_cons_zero, List.set_cons_succ, i64_w, i32_w]
                      rfl
                    refine pure_ (i := 8) (N := some 167) (v := ?_) (a' := ?_) #[true, true, true, true, true, true, true, true, true] rfl rfl (by kernel_rfl) (fun _ _ _ h => h) (Or.inl ⟨by rfl, ?_⟩) ?_ ?_
                    rotate_left
                    · intro w'
                      go_simp
                      with_reducible rfl
                    rotate_left
                    · simp only [Act.put, List.setIfInBounds_toArray, List.set_cons_zero, List.set_cons_succ, i64_w, i32_w]
                      rfl
                    refine done_ (by kernel_rfl) ?_

                    go_wp2
                    go_roundw
                    case rel => exact ⟨p + 1, by first | rfl | (rw [wrap_ok (by omega) (by omega)]; simp), by omega, by omega, ⟨by repeat (first | (with_reducible first | exact HW2.out | apply below_alloc | apply pw_below_drewN | apply below_drew1) | exact HW2.out)⟩⟩
                    case measure => (try rw [wrap_ok (by omega) (by omega)]); simp [intOf]; omega
                  · obtain rfl : p = 60 := by omega
                    clear hlt2
                    go_wp2
                    go_roundw
                    case rel => exact ⟨j + 1, by first | rfl | (rw [wrap_ok (by omega) (by omega)]; simp), by omega, HW2⟩
                    case measure => (try rw [wrap_ok (by omega) (by omega)]); simp [intOf]; omega
              · have dj : decide ((0 : Int) < (j : Int)) = true := decide_eq_true (by omega)
                have djn : decide (0 < j) = true := decide_eq_true (by omega)
                obtain ⟨q, hq⟩ : ∃ q, j = q + 1 := ⟨j - 1, by omega⟩
                have hjq : wrap64 ((j : Int) - 1) = (q : Int) := by unfold wrap64; omega
                have hqx : q < xs.length := by omega
                have hqk : q < ks.length := by omega
                obtain ⟨ad2, e, -⟩ := Kd.at_string HA.out.2 (q : Int) (by omega) (by omega)
                cases e
                obtain ⟨kq, hkq⟩ : ∃ k, ks.getD q ByteArray.empty = k := ⟨_, rfl⟩
                have HXQ : Aside0 (∀ W, Below W2.heap.size W2 W → W.cell? (ad.add q) = some (.string kq)) := ⟨fun W hW => by
                  obtain ⟨ad', e, x0⟩ := Kd.at_string (Kd.C_below HA.out.2 hW) (q : Int) (by omega) (by omega)
                  cases e
                  rw [Int.toNat_natCast] at x0
                  rw [x0, ← hkq]
                  rfl⟩
                have hlt' := HSG.out.1.lt (a := q) (b := j) (by omega) hjx
                rw [hkx, ← ks_get HKS.out q hqx, hkq] at hlt'
                have hb1 : Op.bytesLess kq.toList kj.toList = true := by rw [bl]; exact decide_eq_true hlt'
                have y1 := HXQ.out _ HW2.out
                clear hkx hkj hkq hlt' hq
                go_upto_region 26 with (fail)
                refine start_ (n := 14) (S := fun w' => w'.cell? (ad.add j) = some (.string kj) ∧ w'.cell? (ad.add q) = some (.string kq)) (ds := []) #[false, false, false, false, false, false, false, false, false, false, false, false, false, false] (by kernel_rfl) rfl rfl ⟨y0, y1⟩ (fun hHeld => ?_)
                refine pure_ (i := 0) (N := some 101) (v := ?_) (a' := ?_) #[true, false, false, false, false, false, false, false, false, false, false, false, false, false] rfl rfl (by kernel_rfl) (fun _ _ _ h => h) (Or.inl ⟨by rfl, ?_⟩) ?_ ?_
                rotate_left
                · intro w'
                  go_simp
                  with_reducible rfl
                rotate_left
                · simp only [Act.put, List.setIfInBounds_toArray, List.set_cons_zero, List.set_cons_succ, i64_w, i32_w]
                  rfl
                refine pure_ (i := 1) (N := some 102) (v := ?_) (a' := ?_) #[true, true, false, false, false, false, false, false, false, false, false, false, false, false] rfl rfl (by kernel_rfl) (fun _ _ _ h => h) (Or.inl ⟨by rfl, ?_⟩) ?_ ?_
                rotate_left
                · intro w'
                  go_simp
                  with_reducible rfl
                rotate_left
                · simp only [Act.put, List.setIfInBounds_toArray, List.set_cons_zero, List.set_cons_succ, i64_w, i32_w]
                  rfl
                refine pure_ (i := 2) (N := some 103) (v := ?_) (a' := ?_) #[true, true, true, false, false, false, false, false, false, false, false, false, false, false] rfl rfl (by kernel_rfl) (fun _ _ _ h => h) (Or.inl ⟨by rfl, ?_⟩) ?_ ?_
                rotate_left
                · intro w'
                  go_simp
                  with_reducible rfl
                rotate_left
                · simp only [Act.put, List.setIfInBounds_toArray, List.set_cons_zero, List.set_cons_succ, i64_w, i32_w]
                  rfl
                refine pure_ (i := 3) (N := some 104) (v := ?_) (a' := ?_) #[true, true, true, true, false, false, false, false, false, false, false, false, false, false] rfl rfl (by kernel_rfl) (fun _ _ _ h => h) (Or.inl ⟨by rfl, ?_⟩) ?_ ?_
                rotate_left
                · intro w'
                  go_simp
                  with_reducible rfl
                rotate_left
                · simp only [Act.put, List.setIfInBounds_toArray, List.set_cons_zero, List.set_cons_succ, i64_w, i32_w]
                  rfl
                refine pure_ (i := 4) (N := some 105) (v := ?_) (a' := ?_) #[true, true, true, true, true, false, false, false, false, false, false, false, false, false] rfl rfl (by kernel_rfl) (fun _ _ _ h => h) (Or.inl ⟨by rfl, ?_⟩) ?_ ?_
                rotate_left
                · intro w'
                  go_simp
                  with_reducible rfl
                rotate_left
                · simp only [Act.put, List.setIfInBounds_toArray, List.set_cons_zero, List.set_cons_succ, i64_w, i32_w]
                  rfl
                refine pure_ (i := 5) (N := some 106) (v := ?_) (a' := ?_) #[true, true, true, true, true, true, false, false, false, false, false, false, false, false] rfl rfl (by kernel_rfl) (fun _ _ _ h => h) (Or.inl ⟨by rfl, ?_⟩) ?_ ?_
                rotate_left
                · intro w'
                  go_simp
                  rw [i64_w, hjq]
                rotate_left
                · simp only [Act.put, List.setIfInBounds_toArray, List.set_cons_zero, List.set_cons_succ, i64_w, i32_w]
                  rfl
                refine pure_ (i := 6) (N := some 107) (v := ?_) (a' := ?_) #[true, true, true, true, true, true, true, false, false, false, false, false, false, false] rfl rfl (by kernel_rfl) (fun _ _ _ h => h) (Or.inl ⟨by rfl, ?_⟩) ?_ ?_
                rotate_left
                · intro w'
                  go_simp
                  with_reducible rfl
                rotate_left
                · simp only [Act.put, List.setIfInBounds_toArray, List.set_cons_zero, List.set_cons_succ, i64_w, i32_w]
                  rfl
                refine pure_ (i := 8) (N := some 109) (v := ?_) (a' := ?_) #[true, true, true, true, true, true, true, false, true, false, false, false, false, false] rfl rfl (by kernel_rfl) (fun _ _ _ h => h) (Or.inl ⟨by rfl, ?_⟩) ?_ ?_
                rotate_left
                · intro w'
                  go_simp
                  with_reducible rfl
                rotate_left
                · simp only [Act.put, List.setIfInBounds_toArray, List.set_cons_zero, List.set_cons_succ, i64_w, i32_w]
                  rfl
                refine pure_ (i := 9) (N := some 110) (v := ?_) (a' := ?_) #[true, true, true, true, true, true, true, false, true, true, false, false, false, false] rfl rfl (by kernel_rfl) (fun _ _ _ h => h) (Or.inl ⟨by rfl, ?_⟩) ?_ ?_
                rotate_left
                · intro w'
                  go_simp
                  with_reducible rfl
                rotate_left
                · simp only [Act.put, List.setIfInBounds_toArray, List.set_cons_zero, List.set_cons_succ, i64_w, i32_w]
                  rfl
                refine pure_ (i := 10) (N := some 111) (v := ?_) (a' := ?_) #[true, true, true, true, true, true, true, false, true, true, true, false, false, false] rfl rfl (by kernel_rfl) (fun _ _ _ h => h) (Or.inl ⟨by rfl, ?_⟩) ?_ ?_
                rotate_left
                · intro w'
                  go_simp
                  with_reducible rfl
                rotate_left
                · simp only [Act.put, List.setIfInBounds_toArray, List.set_cons_zero, List.set_cons_succ, i64_w, i32_w]
                  rfl
                refine take_ (i := 7) (N := some 108) (v := ?_) (a' := ?_) #[true, true, true, true, true, true, true, true, true, true, true, false, false, false] rfl rfl (by kernel_rfl) (fun _ _ _ h => h) (Or.inl ⟨by rfl, ?_⟩) hHeld ?_ ?_
                rotate_left
                · rintro w' ⟨s0, s1⟩
                  go_simp
                  with_reducible rfl
                rotate_left
                · simp only [Act.put, List.setIfInBounds_toArray, List.set_cons_zero, List.set_cons_succ, i64_w, i32_w]
                  rfl
                refine take_ (i := 11) (N := some 112) (v := ?_) (a' := ?_) #[true, true, true, true, true, true, true, true, true, true, true, true, false, false] rfl rfl (by kernel_rfl) (fun _ _ _ h => h) (Or.inl ⟨by rfl, ?_⟩) hHeld ?_ ?_
                rotate_left
                · rintro w' ⟨s0, s1⟩
                  go_simp
                  with_reducible rfl
                rotate_left
                · simp only [Act.put, List.setIfInBounds_toArray, List.set_cons_zero, List.set_cons_succ, i64_w, i32_w]
                  rfl
                refine pure_ (i := 12) (N := some 113) (v := ?_) (a' := ?_) #[true, true, true, true, true, true, true, true, true, true, true, true, true, false] rfl rfl (by kernel_rfl) (fun _ _ _ h => h) (Or.inl ⟨by rfl, ?_⟩) ?_ ?_
                rotate_left
                · intro w'
                  go_simp
                  with_reducible rfl
                rotate_left
                · simp only [Act.put, List.setIfInBounds_toArray, List.set_cons_zero, List.set_cons_succ, i64_w, i32_w]
                  rfl
                refine pure_ (i := 13) (N := some 114) (v := ?_) (a' := ?_) #[true, true, true, true, true, true, true, true, true, true, true, true, true, true] rfl rfl (by kernel_rfl) (fun _ _ _ h => h) (Or.inl ⟨by rfl, ?_⟩) ?_ ?_
                rotate_left
                · intro w'
                  go_simp
                  with_reducible rfl
                rotate_left
                · simp only [Act.put, List.setIfInBounds_toArray, List.set_cons_zero, List.set_cons_succ, i64_w, i32_w]
                  rfl
                refine done_ (by kernel_rfl) ?_

                go_upto_region 29 with ((go_at_call 9; with_reducible refine (Get.yes _ _ _ _ xs kj _ (HT.out.below (by repeat (first | (with_reducible first | exact HW2.out | apply below_alloc | apply pw_below_drewN | apply below_drew1) | exact HW2.out))) HK.out).mono ?_; rw [HV.out]; rintro e w' ⟨rfl, hb⟩; have n8_ := Aside0.mk (below_step (by repeat (first | (with_reducible first | exact HW2.out | apply below_alloc | apply pw_below_drewN | apply below_drew1) | exact HW2.out)) hb); clear HW2 hb; have HW2 := n8_; clear n8_))
                have dv0 : decide ((vv : Int) < 0) = false := decide_eq_false (by omega)
                have dv1 : decide ((l.length : Int) ≤ (vv : Int)) = false := decide_eq_false (by omega)
                have dv2 : decide (l.length ≤ vv) = false := decide_eq_false (by omega)
                have dv3 : decide (vv < l.length) = true := decide_eq_true (by omega)
                have dv4 : decide ((vv : Int) < (l.length : Int)) = true := decide_eq_true (by omega)
                have dv5 : ¬ l.length ≤ vv := by omega
                have y0 := HXJ.out _ HW2.out
                have y2 := HXV.out _ HW2.out
                refine start_ (n := 23) (S := fun w' => w'.cell? (ad.add j) = some (.string kj) ∧ w'.cell? (al.add vv) = some (.string kj)) (ds := []) #[false, false, false, false, false, false, false, false, false, false, false, false, false, false, false, false, false, false, false, false, false, false, false] (by kernel_rfl) rfl rfl ⟨y0, y2⟩ (fun hHeld => ?_)
                refine pure_ (i := 0) (N := some 124) (v := ?_) (a' := ?_) #[true, false, false, false, false, false, false, false, false, false, false, false, false, false, false, false, false, false, false, false, false, false, false] rfl rfl (by kernel_rfl) (fun _ _ _ h => h) (Or.inl ⟨by rfl, ?_⟩) ?_ ?_
                rotate_left
                · intro w'
                  go_simp
                  with_reducible rfl
                rotate_left
                · simp only [Act.put, List.setIfInBounds_toArray, List.set_cons_zero, List.set_cons_succ, i64_w, i32_w]
                  rfl
                refine pure_ (i := 1) (N := some 125) (v := ?_) (a' := ?_) #[true, true, false, false, false, false, false, false, false, false, false, false, false, false, false, false, false, false, false, false, false, false, false] rfl rfl (by kernel_rfl) (fun _ _ _ h => h) (Or.inl ⟨by rfl, ?_⟩) ?_ ?_
                rotate_left
                · intro w'
                  go_simp
                  with_reducible rfl
                rotate_left
                · simp only [Act.put, List.setIfInBounds_toArray, List.set_cons_zero, List.set_cons_succ, i64_w, i32_w]
                  rfl
                refine pure_ (i := 2) (N := some 126) (v := ?_) (a' := ?_) #[true, true, true, false, false, false, false, false, false, false, false, false, false, false, false, false, false, false, false, false, false, false, false] rfl rfl (by kernel_rfl) (fun _ _ _ h => h) (Or.inl ⟨by rfl, ?_⟩) ?_ ?_
                rotate_left
                · intro w'
                  go_simp
                  with_reducible rfl
                rotate_left
                · simp only [Act.put, List.setIfInBounds_toArray, List.set_cons_zero, List.set_cons_succ, i64_w, i32_w]
                  rfl
                refine pure_ (i := 3) (N := some 127) (v := ?_) (a' := ?_) #[true, true, true, true, false, false, false, false, false, false, false, false, false, false, false, false, false, false, false, false, false, false, false] rfl rfl (by kernel_rfl) (fun _ _ _ h => h) (Or.inl ⟨by rfl, ?_⟩) ?_ ?_
                rotate_left
                · intro w'
                  go_simp
                  with_reducible rfl
                rotate_left
                · simp only [Act.put, List.setIfInBounds_toArray, List.set_cons_zero, List.set_cons_succ, i64_w, i32_w]
                  rfl
                refine pure_ (i := 4) (N := some 128) (v := ?_) (a' := ?_) #[true, true, true, true, true, false, false, false, false, false, false, false, false, false, false, false, false, false, false, false, false, false, false] rfl rfl (by kernel_rfl) (fun _ _ _ h => h) (Or.inl ⟨by rfl, ?_⟩) ?_ ?_
                rotate_left
                · intro w'
                  go_simp
                  with_reducible rfl
                rotate_left
                · simp only [Act.put, List.setIfInBounds_toArray, List.set_cons_zero, List.set_cons_succ, i64_w, i32_w]
                  rfl
                refine pure_ (i := 5) (N := some 129) (v := ?_) (a' := ?_) #[true, true, true, true, true, true, false, false, false, false, false, false, false, false, false, false, false, false, false, false, false, false, false] rfl rfl (by kernel_rfl) (fun _ _ _ h => h) (Or.inl ⟨by rfl, ?_⟩) ?_ ?_
                rotate_left
                · intro w'
                  go_simp
                  with_reducible rfl
                rotate_left
                · simp only [Act.put, List.setIfInBounds_toArray, List.set_cons_zero, List.set_cons_succ, i64_w, i32_w]
                  rfl
                refine pure_ (i := 6) (N := some 130) (v := ?_) (a' := ?_) #[true, true, true, true, true, true, true, false, false, false, false, false, false, false, false, false, false, false, false, false, false, false, false] rfl rfl (by kernel_rfl) (fun _ _ _ h => h) (Or.inl ⟨by rfl, ?_⟩) ?_ ?_
                rotate_left
                · intro w'
                  go_simp
                  with_reducible rfl
                rotate_left
                · simp only [Act.put, List.setIfInBounds_toArray, List.set_cons_zero, List.set_cons_succ, i64_w, i32_w]
                  rfl
                refine pure_ (i := 7) (N := some 131) (v := ?_) (a' := ?_) #[true, true, true, true, true, true, true, true, false, false, false, false, false, false, false, false, false, false, false, false, false, false, false] rfl rfl (by kernel_rfl) (fun _ _ _ h => h) (Or.inl ⟨by rfl, ?_⟩) ?_ ?_
                rotate_left
                · intro w'
                  go_simp
                  with_reducible rfl
                rotate_left
                · simp only [Act.put, List.setIfInBounds_toArray, List.set_cons_zero, List.set_cons_succ, i64_w, i32_w]
                  rfl
                refine pure_ (i := 8) (N := some 132) (v := ?_) (a' := ?_) #[true, true, true, true, true, true, true, true, true, false, false, false, false, false, false, false, false, false, false, false, false, false, false] rfl rfl (by kernel_rfl) (fun _ _ _ h => h) (Or.inl ⟨by rfl, ?_⟩) ?_ ?_
                rotate_left
                · intro w'
                  go_simp
                  with_reducible rfl
                rotate_left
                · simp only [Act.put, List.setIfInBounds_toArray, List.set_cons_zero, List.set_cons_succ, i64_w, i32_w]
                  rfl
                refine pure_ (i := 9) (N := some 133) (v := ?_) (a' := ?_) #[true, true, true, true, true, true, true, true, true, true, false, false, false, false, false, false, false, false, false, false, false, false, false] rfl rfl (by kernel_rfl) (fun _ _ _ h => h) (Or.inl ⟨by rfl, ?_⟩) ?_ ?_
                rotate_left
                · intro w'
                  go_simp
                  with_reducible rfl
                rotate_left
                · simp only [Act.put, List.setIfInBounds_toArray, List.set_cons_zero, List.set_cons_succ, i64_w, i32_w]
                  rfl
                refine pure_ (i := 10) (N := some 134) (v := ?_) (a' := ?_) #[true, true, true, true, true, true, true, true, true, true, true, false, false, false, false, false, false, false, false, false, false, false, false] rfl rfl (by kernel_rfl) (fun _ _ _ h => h) (Or.inl ⟨by rfl, ?_⟩) ?_ ?_
                rotate_left
                · intro w'
                  go_simp
                  with_reducible rfl
                rotate_left
                · simp only [Act.put, List.setIfInBounds_toArray, List.set_cons_zero, List.set_cons_succ, i64_w, i32_w]
                  rfl
                refine pure_ (i := 11) (N := some 135) (v := ?_) (a' := ?_) #[true, true, true, true, true, true, true, true, true, true, true, true, false, false, false, false, false, false, false, false, false, false, false] rfl rfl (by kernel_rfl) (fun _ _ _ h => h) (Or.inl ⟨by rfl, ?_⟩) ?_ ?_
                rotate_left
                · intro w'
                  go_simp
                  with_reducible rfl
                rotate_left
                · simp only [Act.put, List.setIfInBounds_toArray, List.set_cons_zero, List.set_cons_succ, i64_w, i32_w]
                  rfl
                refine pure_ (i := 12) (N := some 136) (v := ?_) (a' := ?_) #[true, true, true, true, true, true, true, true, true, true, true, true, true, false, false, false, false, false, false, false, false, false, false] rfl rfl (by kernel_rfl) (fun _ _ _ h => h) (Or.inl ⟨by rfl, ?_⟩) ?_ ?_
                rotate_left
                · intro w'
                  go_simp
                  with_reducible rfl
                rotate_left
                · simp only [Act.put, List.setIfInBounds_toArray, List.set_cons_zero, List.set_cons_succ, i64_w, i32_w]
                  rfl
                refine pure_ (i := 13) (N := some 137) (v := ?_) (a' := ?_) #[true, true, true, true, true, true, true, true, true, true, true, true, true, true, false, false, false, false, false, false, false, false, false] rfl rfl (by kernel_rfl) (fun _ _ _ h => h) (Or.inl ⟨by rfl, ?_⟩) ?_ ?_
                rotate_left
                · intro w'
                  go_simp
                  with_reducible rfl
                rotate_left
                · simp only [Act.put, List.setIfInBounds_toArray, List.set_cons_zero, List.set_cons_succ, i64_w, i32_w]
                  rfl
                refine pure_ (i := 14) (N := some 138) (v := ?_) (a' := ?_) #[true, true, true, true, true, true, true, true, true, true, true, true, true, true, true, false, false, false, false, false, false, false, false] rfl rfl (by kernel_rfl) (fun _ _ _ h => h) (Or.inl ⟨by rfl, ?_⟩) ?_ ?_
                rotate_left
                · intro w'
                  go_simp
                  with_reducible rfl
                rotate_left
                · simp only [Act.put, List.setIfInBounds_toArray, List.set_cons_zero, List.set_cons_succ, i64_w, i32_w]
                  rfl
                refine pure_ (i := 15) (N := some 139) (v := ?_) (a' := ?_) #[true, true, true, true, true, true, true, true, true, true, true, true, true, true, true, true, false, false, false, false, false, false, false] rfl rfl (by kernel_rfl) (fun _ _ _ h => h) (Or.inl ⟨by rfl, ?_⟩) ?_ ?_
                rotate_left
                · intro w'
                  go_simp
                  with_reducible rfl
                rotate_left
                · simp only [Act.put, List.setIfInBounds_toArray, List.set_cons_zero, List.set_cons_succ, i64_w, i32_w]
                  rfl
                refine pure_ (i := 17) (N := some 141) (v := ?_) (a' := ?_) #[true, true, true, true, true, true, true, true, true, true, true, true, true, true, true, true, false, true, false, false, false, false, false] rfl rfl (by kernel_rfl) (fun _ _ _ h => h) (Or.inl ⟨by rfl, ?_⟩) ?_ ?_
                rotate_left
                · intro w'
                  go_simp
                  with_reducible rfl
                rotate_left
                · simp only [Act.put, List.setIfInBounds_toArray, List.set_cons_zero, List.set_cons_succ, i64_w, i32_w]
                  rfl
                refine pure_ (i := 18) (N := some 142) (v := ?_) (a' := ?_) #[true, true, true, true, true, true, true, true, true, true, true, true, true, true, true, true, false, true, true, false, false, false, false] rfl rfl (by kernel_rfl) (fun _ _ _ h => h) (Or.inl ⟨by rfl, ?_⟩) ?_ ?_
                rotate_left
                · intro w'
                  go_simp
                  with_reducible rfl
                rotate_left
                · simp only [Act.put, List.setIfInBounds_toArray, List.set_cons_zero, List.set_cons_succ, i64_w, i32_w]
                  rfl
                refine pure_ (i := 19) (N := some 143) (v := ?_) (a' := ?_) #[true, true, true, true, true, true, true, true, true, true, true, true, true, true, true, true, false, true, true, true, false, false, false] rfl rfl (by kernel_rfl) (fun _ _ _ h => h) (Or.inl ⟨by rfl, ?_⟩) ?_ ?_
                rotate_left
                · intro w'
                  go_simp
                  with_reducible rfl
                rotate_left
                · simp only [Act.put, List.setIfInBounds_toArray, List.set_cons_zero, List.set_cons_succ, i64_w, i32_w]
                  rfl
                refine take_ (i := 16) (N := some 140) (v := ?_) (a' := ?_) #[true, true, true, true, true, true, true, true, true, true, true, true, true, true, true, true, true, true, true, true, false, false, false] rfl rfl (by kernel_rfl) (fun _ _ _ h => h) (Or.inl ⟨by rfl, ?_⟩) hHeld ?_ ?_
                rotate_left
                · rintro w' ⟨s0, s1⟩
                  go_simp
                  with_reducible rfl
                rotate_left
                · simp only [Act.put, List.setIfInBounds_toArray, List.set_cons_zero, List.set_cons_succ, i64_w, i32_w]
                  rfl
                refine take_ (i := 20) (N := some 144) (v := ?_) (a' := ?_) #[true, true, true, true, true, true, true, true, true, true, true, true, true, true, true, true, true, true, true, true, true, false, false] rfl rfl (by kernel_rfl) (fun _ _ _ h => h) (Or.inl ⟨by rfl, ?_⟩) hHeld ?_ ?_
                rotate_left
                · rintro w' ⟨s0, s1⟩
                  go_simp
                  with_reducible rfl
                rotate_left
                · simp only [Act.put, List.setIfInBounds_toArray, List.set_cons_zero, List.set_cons_succ, i64_w, i32_w]
                  rfl
                refine pure_ (i := 21) (N := some 145) (v := ?_) (a' := ?_) #[true, true, true, true, true, true, true, true, true, true, true, true, true, true, true, true, true, true, true, true, true, true, false] rfl rfl (by kernel_rfl) (fun _ _ _ h => h) (Or.inl ⟨by rfl, ?_⟩) ?_ ?_
                rotate_left
                · intro w'
                  go_simp
                  with_reducible rfl
                rotate_left
                · simp only [Act.put, List.setIfInBounds_toArray, List.set_cons_zero, List.set_cons_succ, i64_w, i32_w]
                  rfl
                refine pure_ (i := 22) (N := some 146) (v := ?_) (a' := ?_) #[true, true, true, true, true, true, true, true, true, true, true, true, true, true, true, true, true, true, true, true, true, true, true] rfl rfl (by kernel_rfl) (fun _ _ _ h => h) (Or.inl ⟨by rfl, ?_⟩) ?_ ?_
                rotate_left
                · intro w'
                  go_simp
                  with_reducible rfl
                rotate_left
                · simp only [Act.put, List.setIfInBounds_toArray, List.set_cons_zero, List.set_cons_succ, i64_w, i32_w]
                  rfl
                refine done_ (by kernel_rfl) ?_

                go_wp2
                go_loopw [18] (fun v18 w' => ∃ p : Nat, v18 = .int .i64 p ∧ vv < p ∧ p ≤ 60 ∧ Aside0 (Below W2.heap.size W2 w')) (fun v18 _ => (60 - intOf v18).toNat)
                case atStart => exact ⟨vv + 1, by first | rfl | (rw [wrap_ok (by omega) (by omega)]; simp), by omega, by omega, ⟨by repeat (first | (with_reducible first | exact HW2.out | apply below_alloc | apply pw_below_drewN | apply below_drew1) | exact HW2.out)⟩⟩
                case round =>
                  clear HW2 y0 y2
                  obtain ⟨p, rfl, hp1, hp2, HW2⟩ := hrel
                  by_cases hlt2 : p < 60
                  · have h1 : p < l.length := by omega
                    have h2 : p < 60 := by omega
                    obtain ⟨al2, e, -⟩ := Kd.at_string (Kd.C_below HR.out HWB.out) (p : Int) (by omega) (by omega)
                    cases e
                    obtain ⟨kp, hkp⟩ : ∃ k, l.getD p ByteArray.empty = k := ⟨_, rfl⟩
                    have HXP : Aside0 (∀ W, Below W2.heap.size W2 W → W.cell? (al.add p) = some (.string kp)) := ⟨fun W hW => by
                      obtain ⟨ad', e, x0⟩ := Kd.at_string (Kd.C_below (Kd.C_below HR.out HWB.out) hW) (p : Int) (by omega) (by omega)
                      cases e
                      rw [Int.toNat_natCast] at x0
                      rw [x0, ← hkp]
                      rfl⟩
                    have hne : kp ≠ kj := fun e => HV4.out p hp1 hlt2 (hkp.trans e)
                    have y0 := HXJ.out _ HW2.out
                    have hbe : (kp.toList == kj.toList) = false := by rw [be]; exact decide_eq_false hne
                    have y3 := HXP.out _ HW2.out
                    clear hkp
                    go_upto_region 34 with (fail)
                    refine start_ (n := 9) (S := fun w' => w'.cell? (ad.add j) = some (.string kj) ∧ w'.cell? (al.add p) = some (.string kp)) (ds := []) #[false, false, false, false, false, false, false, false, false] (by kernel_rfl) rfl rfl ⟨y0, y3⟩ (fun hHeld => ?_)
                    refine pure_ (i := 0) (N := some 159) (v := ?_) (a' := ?_) #[true, false, false, false, false, false, false, false, false] rfl rfl (by kernel_rfl) (fun _ _ _ h => h) (Or.inl ⟨by rfl, ?_⟩) ?_ ?_
                    rotate_left
                    · intro w'
                      go_simp
                      with_reducible rfl
                    rotate_left
                    · simp only [Act.put, List.setIfInBounds_toArray, List.set_cons_zero, List.set_cons_succ, i64_w, i32_w]
                      rfl
                    refine pure_ (i := 1) (N := some 160) (v := ?_) (a' := ?_) #[true, true, false, false, false, false, false, false, false] rfl rfl (by kernel_rfl) (fun _ _ _ h => h) (Or.inl ⟨by rfl, ?_⟩) ?_ ?_
                    rotate_left
                    · intro w'
                      go_simp
                      with_reducible rfl
                    rotate_left
                    · simp only [Act.put, List.setIfInBounds_toArray, List.set_cons_zero, List.set_cons_succ, i64_w, i32_w]
                      rfl
                    refine pure_ (i := 2) (N := some 161) (v := ?_) (a' := ?_) #[true, true, true, false, false, false, false, false, false] rfl rfl (by kernel_rfl) (fun _ _ _ h => h) (Or.inl ⟨by rfl, ?_⟩) ?_ ?_
                    rotate_left
                    · intro w'
                      go_simp
                      with_reducible rfl
                    rotate_left
                    · simp only [Act.put, List.setIfInBounds_toArray, List.set_cons_zero, List.set_cons_succ, i64_w, i32_w]
                      rfl
                    refine pure_ (i := 4) (N := some 163) (v := ?_) (a' := ?_) #[true, true, true, false, true, false, false, false, false] rfl rfl (by kernel_rfl) (fun _ _ _ h => h) (Or.inl ⟨by rfl, ?_⟩) ?_ ?_
                    rotate_left
                    · intro w'
                      go_simp
                      with_reducible rfl
                    rotate_left
                    · simp only [Act.put, List.setIfInBounds_toArray, List.set_cons_zero, List.set_cons_succ, i64_w, i32_w]
                      rfl
                    refine pure_ (i := 5) (N := some 164) (v := ?_) (a' := ?_) #[true, true, true, false, true, true, false, false, false] rfl rfl (by kernel_rfl) (fun _ _ _ h => h) (Or.inl ⟨by rfl, ?_⟩) ?_ ?_
                    rotate_left
                    · intro w'
                      go_simp
                      with_reducible rfl
                    rotate_left
                    · simp only [Act.put, List.setIfInBounds_toArray, List.set_cons_zero, List.set_cons_succ, i64_w, i32_w]
                      rfl
                    refine pure_ (i := 6) (N := some 165) (v := ?_) (a' := ?_) #[true, true, true, false, true, true, true, false, false] rfl rfl (by kernel_rfl) (fun _ _ _ h => h) (Or.inl ⟨by rfl, ?_⟩) ?_ ?_
                    rotate_left
                    · intro w'
                      go_simp
                      with_reducible rfl
                    rotate_left
                    · simp only [Act.put, List.setIfInBounds_toArray, List.set_cons_zero, List.set_cons_succ, i64_w, i32_w]
                      rfl
                    refine take_ (i := 3) (N := some 162) (v := ?_) (a' := ?_) #[true, true, true, true, true, true, true, false, false] rfl rfl (by kernel_rfl) (fun _ _ _ h => h) (Or.inl ⟨by rfl, ?_⟩) hHeld ?_ ?_
                    rotate_left
                    · rintro w' ⟨s0, s1⟩
                      go_simp
                      with_reducible rfl
                    rotate_left
                    · simp only [Act.put, List.setIfInBounds_toArray, List.set_cons_zero, List.set_cons_succ, i64_w, i32_w]
                      rfl
                    refine take_ (i := 7) (N := some 166) (v := ?_) (a' := ?_) #[true, true, true, true, true, true, true, true, false] rfl rfl (by kernel_rfl) (fun _ _ _ h => h) (Or.inl ⟨by rfl, ?_⟩) hHeld ?_ ?_
                    rotate_left
                    · rintro w' ⟨s0, s1⟩
                      go_simp
                      with_reducible rfl
                    rotate_left
                    · simp only [Act.put, List.setIfInBounds_toArray, List.set_cons_zero, List.set_cons_succ, i64_w, i32_w]
                      rfl
                    refine pure_ (i := 8) (N := some 167) (v := ?_) (a' := ?_) #[true, true, true, true, true, true, true, true, true] rfl rfl (by kernel_rfl) (fun _ _ _ h => h) (Or.inl ⟨by rfl, ?_⟩) ?_ ?_
                    rotate_left
                    · intro w'
                      go_simp
                      with_reducible rfl
                    rotate_left
                    · simp only [Act.put, List.setIfInBounds_toArray, List.set_cons_zero, List.set_cons_succ, i64_w, i32_w]
                      rfl
                    refine done_ (by kernel_rfl) ?_

                    go_wp2
                    go_roundw
                    case rel => exact ⟨p + 1, by first | rfl | (rw [wrap_ok (by omega) (by omega)]; simp), by omega, by omega, ⟨by repeat (first | (with_reducible first | exact HW2.out | apply below_alloc | apply pw_below_drewN | apply below_drew1) | exact HW2.out)⟩⟩
                    case measure => (try rw [wrap_ok (by omega) (by omega)]); simp [intOf]; omega
                  · obtain rfl : p = 60 := by omega
                    clear hlt2
                    go_wp2
                    go_roundw
                    case rel => exact ⟨j + 1, by first | rfl | (rw [wrap_ok (by omega) (by omega)]; simp), by omega, HW2⟩
                    case measure => (try rw [wrap_ok (by omega) (by omega)]); simp [intOf]; omega
            · obtain rfl : j = ks.length := by omega
              clear hlt
              go_wp2_with (first | (go_at_call 12; with_reducible refine (Len.calls _ _ _ _ xs _ (HT.out.below (by repeat (first | (with_reducible first | exact HW2.out | apply below_alloc | apply pw_below_drewN | apply below_drew1) | exact HW2.out)))).mono ?_; rw [HXL.out]; rintro e w' ⟨rfl, hb⟩; have n8_ := Aside0.mk (below_step (by repeat (first | (with_reducible first | exact HW2.out | apply below_alloc | apply pw_below_drewN | apply below_drew1) | exact HW2.out)) hb); clear HW2 hb; have HW2 := n8_; clear n8_) | (go_at_call 13; with_reducible refine (GA.lives.calls _).mono ?_; rintro e w' ⟨rfl, hb⟩; have n8_ := Aside0.mk (below_step (by repeat (first | (with_reducible first | exact HW2.out | apply below_alloc | apply pw_below_drewN | apply below_drew1) | exact HW2.out)) hb); clear HW2 hb; have HW2 := n8_; clear n8_))
              go_ret
              exact ⟨rfl, Below.trans HB.out (HW2.out.mono HS.out)⟩
end Go.Proofs.Ytghgadfcnggapaa.GA.U
