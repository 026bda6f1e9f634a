import Derived.Test.YthgbipgfplokeaaS8
namespace Go.Proofs.Ythgbipgfplokeaa.GA
open Go.RowKit Go.Proofs.YthgbipgfplokeaaW.PrintWords Go.Proofs.YthgbipgfplokeaaW.PrintLast Go.Proofs.YthgbipgfplokeaaW.PrintMore
set_option linter.unusedVariables false
set_option linter.unusedSimpArgs false
set_option maxHeartbeats 8000000 in
set_option maxRecDepth 100000 in
theorem sl.wide (A0 : Option Addr) (c0 : Nat) (l0 : List Int) (r : List Int) (w : World) (hr0 : Kd.C (Kd.int .u8) w A0 l0.length l0) (hc0 : l0.length ≤ c0) (h : cohortref00_Wide.f l0 = some r) :
    Calls Try.prog 8 #[.slice A0 l0.length c0] w fun e w' => ∃ (A : Option Addr) (c : Nat), e = .returned (.slice A r.length c) ∧ r = l0 ∧ l0.length + 3 ≤ c ∧ Kd.C (Kd.int .u8) w' A (l0.length + 3) (l0 ++ [9, 9, 9]) ∧ Below w.heap.size w w' := by
  have HR0 := Aside0.mk hr0
  have HC0 := Aside0.mk hc0
  clear hr0 hc0
  have HB := Aside0.mk (Below.refl w.heap.size w)
  have H : ((cohortref00_Copy.f l0).bind fun t104 => ((some (([9, 9, 9] : List Int) : List Int)).bind fun y107 => (if t104.length + y107.length < 140737488355328 then ((some (t104 ++ y107 : List Int)).bind fun y110 => (if 0 ≤ (l0.length : Int) then (if (l0.length : Int) ≤ (y110.length : Int) then (some (y110.take ((l0.length : Int) : Int).toNat)) else (none)) else (none))) else (none)))) = some r := h
  clear h
  replace H := Option.bind_eq_some_iff.mp H
  obtain ⟨t104, A20, H⟩ := H
  replace H : ((some (([9, 9, 9] : List Int) : List Int)).bind fun y107 => (if t104.length + y107.length < 140737488355328 then ((some (t104 ++ y107 : List Int)).bind fun y110 => (if 0 ≤ (l0.length : Int) then (if (l0.length : Int) ≤ (y110.length : Int) then (some (y110.take ((l0.length : Int) : Int).toNat)) else (none)) else (none))) else (none))) = some r := H
  have A2 := Aside0.mk A20
  clear A20
  obtain ⟨y107, hy107⟩ : ∃ y_ : List Int, y_ = (([9, 9, 9] : List Int)) := ⟨_, rfl⟩
  replace H : (if t104.length + y107.length < 140737488355328 then ((some (t104 ++ y107 : List Int)).bind fun y110 => (if 0 ≤ (l0.length : Int) then (if (l0.length : Int) ≤ (y110.length : Int) then (some (y110.take ((l0.length : Int) : Int).toNat)) else (none)) else (none))) else (none)) = some r := by first | (rw [hy107]; with_reducible exact H) | (have H2_ := (Option.bind_some _ _).symm.trans H; rw [hy107]; with_reducible exact H2_) | (have H2_ := (Option.bind_some _ _).symm.trans H; with_reducible exact H2_) | with_reducible exact H | (rw [hy107]; exact H) | exact H
  have Ny107 := Aside0.mk hy107
  clear hy107
  by_cases c3 : t104.length + y107.length < 140737488355328
  · rw [if_pos c3] at H
    have LMc3 := Aside0.mk c3
    clear c3
    obtain ⟨y110, hy110⟩ : ∃ y_ : List Int, y_ = (t104 ++ y107) := ⟨_, rfl⟩
    replace H : (if 0 ≤ (l0.length : Int) then (if (l0.length : Int) ≤ (y110.length : Int) then (some (y110.take ((l0.length : Int) : Int).toNat)) else (none)) else (none)) = some r := by first | (rw [hy110]; with_reducible exact H) | (have H2_ := (Option.bind_some _ _).symm.trans H; rw [hy110]; with_reducible exact H2_) | (have H2_ := (Option.bind_some _ _).symm.trans H; with_reducible exact H2_) | with_reducible exact H | (rw [hy110]; exact H) | exact H
    have Ny110 := Aside0.mk hy110
    clear hy110
    by_cases c4 : 0 ≤ (l0.length : Int)
    · rw [if_pos c4] at H
      have c4b0 := eq_true c4
      have c4b1 : decide (0 ≤ (l0.length : Int)) = true := decide_eq_true c4
      clear c4
      by_cases c5 : (l0.length : Int) ≤ (y110.length : Int)
      · rw [if_pos c5] at H
        have c5b0 := eq_true c5
        have c5b1 : decide ((l0.length : Int) ≤ (y110.length : Int)) = true := decide_eq_true c5
        clear c5
        obtain ⟨y113, hy113⟩ : ∃ y_ : List Int, y_ = (y110.take ((l0.length : Int) : Int).toNat) := ⟨_, rfl⟩
        replace H : (some y113) = some r := by first | (rw [hy113]; with_reducible exact H) | (have H2_ := (Option.bind_some _ _).symm.trans H; rw [hy113]; with_reducible exact H2_) | (have H2_ := (Option.bind_some _ _).symm.trans H; with_reducible exact H2_) | with_reducible exact H | (rw [hy113]; exact H) | exact H
        have Ny113 := Aside0.mk hy113
        clear hy113
        obtain rfl := Option.some.inj H
        go_enter Try.func8, Try.ntmps8
        go_wp2_with (first | ((with_reducible refine gate_callee (f := 23) rfl ?_); refine goesL_ (some 5) rfl rfl Try.func23 (by kernel_rfl) rfl #[.slice A0 l0.length c0] rfl (by (try simp only [List.map_toArray, List.map_cons, List.map_nil]); first | done | rfl | (simp only [List.length_drop, List.length_take]; rfl)) ?_; (with_reducible refine (cohortref00_Copy.calls _ _ l0 t104 _ ?side1 ?side2 A2.out).mono ?_); (case side1 => repeat (first | exact HR0.out | (with_reducible refine Kd.C_alloc ?_ _) | (with_reducible refine Kd.C_drewN ?_ _) | (with_reducible refine Kd.C_drew ?_))); (case side2 => exact HC0.out); rintro e w6 ⟨v105, rfl, ho0, hb⟩; refine ⟨_, rfl, ?_⟩; have n0_ := Aside0.mk (Kd.R_lower ho0 (below_size (by repeat (first | (with_reducible first | exact HB.out | apply below_alloc | apply pw_below_drewN | apply below_drew1) | exact HB.out)))); have n1_ := Aside0.mk (below_step (by repeat (first | (with_reducible first | exact HB.out | apply below_alloc | apply pw_below_drewN | apply below_drew1) | exact HB.out)) hb); clear HB; have HO106 := n0_; have HB := n1_; clear n0_ n1_; (try clear hb); (try clear hb2); (try clear hk); (try clear hi); (try clear ho0)) | ((with_reducible refine gate_dst (N := 7) rfl ?_); refine Kd.R_lit (Kd.int .u8) _ 5 ?hg (N := 7) ?hd (xs := ([9, 9, 9] : List Int)) (inner := [.int .u8 9, .int .u8 9, .int .u8 9]) (ok := fun _ => True) (okp := fun _ => True) ?hr ?hp (fun _ hk => hk) trivial (Below.refl _ _) (Nat.le_refl _) (by simp) ?_; (case hd => rfl); (case hg => rfl); (case hr => first | (go_simp; done) | (go_simp; rfl)); (case hp => exact (Reps.one (show Kd.M (Kd.int .u8) _ _ _ 9 [.int .u8 9] from rfl) (Reps.one (show Kd.M (Kd.int .u8) _ _ _ 9 [.int .u8 9] from rfl) (Reps.one (show Kd.M (Kd.int .u8) _ _ _ 9 [.int .u8 9] from rfl) (Reps.none _ _))))); intro v108 w7 ho8 hb hg_ hnew_; clear hg_ hnew_; (first | rw [← Ny107.out] at ho8 | (simp only [Int.reduceToNat] at ho8; rw [← Ny107.out] at ho8)); have n0_ := Aside0.mk (Kd.R_elder' (by (with_reducible repeat (first | apply Kd.R_alloc | apply Kd.R_drewN | apply Kd.R_drew)); exact HO106.out) (Kd.R_base ho8) hb); have n1_ := Aside0.mk (Kd.R_lower (Kd.R_new' ho8 (Kd.R_lt (by (with_reducible repeat (first | apply Kd.R_alloc | apply Kd.R_drewN | apply Kd.R_drew)); exact HO106.out))) (below_size (by repeat (first | (with_reducible first | exact HB.out | apply below_alloc | apply pw_below_drewN | apply below_drew1) | exact HB.out)))); have n2_ := Aside0.mk (below_step (by repeat (first | (with_reducible first | exact HB.out | apply below_alloc | apply pw_below_drewN | apply below_drew1) | exact HB.out)) hb); clear HO106; clear HB; have HO106 := n0_; have HO109 := n1_; have HB := n2_; clear n0_ n1_ n2_; clear hb ho8; obtain ⟨Ao10, co10, eo10⟩ := Kd.R_slice HO109.out; subst eo10) | ((with_reducible refine gate_builtin (b := .append) (xs := #[.tmp 6, .tmp 7]) rfl ?_); at_builtin; refine Kd.R_append_rows (Kd.int .u8) (w0 := w) w.heap.size rfl (.tmp 6) (.tmp 7) 23 5 (.int .u8 0) 1 rfl Try.underlying23 info5 rfl (by decide) (by omega) v105 t104 y107 _ _ _ (fun k_ => some k_ ≠ (.slice Ao10 y107.length co10 : Value).ownBlock) (fun _ => False) rfl rfl ?aO ?aR (fun _ _ h => h) (fun _ h => h.elim) ?aF ?aB ?aS ?aL ?_; (case aR => repeat (first | exact (Kd.R_reads' HO109.out).2.2 | (with_reducible refine Kd.C_alloc ?_ _) | (with_reducible refine Kd.C_drewN ?_ _) | (with_reducible refine Kd.C_drew ?_))); (case aB => exact (by repeat (first | (with_reducible first | exact HB.out | apply below_alloc | apply pw_below_drewN | apply below_drew1) | exact HB.out))); (case aF => exact (fun k_ hk => Kd.fresh' (Kd.R_lt (by (with_reducible repeat (first | apply Kd.R_alloc | apply Kd.R_drewN | apply Kd.R_drew)); exact HO109.out)) k_ hk)); (case aO => exact (by (with_reducible repeat (first | apply Kd.R_alloc | apply Kd.R_drewN | apply Kd.R_drew)); exact Kd.R_mono HO106.out (fun _ hk => hk.2))); (case aS => exact (below_size (by repeat (first | (with_reducible first | exact HB.out | apply below_alloc | apply pw_below_drewN | apply below_drew1) | exact HB.out)))); (case aL => have := LMc3.out; omega); intro v111 w9 ho hb hg hat; rw [← Ny110.out] at ho; have n0_ := Aside0.mk (Kd.R_after (ok := (fun _ => True)) (by (with_reducible repeat (first | apply Kd.R_alloc | apply Kd.R_drewN | apply Kd.R_drew)); exact HO109.out) hg hat); have n1_ := Aside0.mk (hb); have n2_ := Aside0.mk (ho); clear HO109; clear HB; clear HO106; have HO109 := n0_; have HB := n1_; have HO112 := n2_; clear n0_ n1_ n2_; clear ho hb hg hat; obtain ⟨Ao11, co11, eo11⟩ := Kd.R_slice HO112.out; subst eo11; have KEEP := Aside0.mk (Kd.R_reads' HO112.out).2; have q12 : ((l0.length : Int) : Int) ≤ ((y110.length : Int) : Int) := of_decide_eq_true (by first | (with_reducible assumption) | assumption); obtain ⟨i012, hi012, _, hsz12, _⟩ := info_parts info5; have hcut12 := cut_to (P := Try.prog) 23 5 .i64 Try.underlying23 hi012 Ao11 y110.length co11 (l0.length : Int) (of_decide_eq_true (by first | (with_reducible assumption) | assumption)) q12 (Kd.R_reads' HO112.out).2.1; have hr12 := Kd.R_take (m := ((l0.length : Int) : Int).toNat) HO112.out (by omega); have hy12 : y113.length = ((l0.length : Int) : Int).toNat := (by rw [Ny113.out, List.length_take]; omega); rw [← Ny113.out] at hr12; rw [← hy12] at hr12 hcut12; clear hy12 hi012 hsz12 HO112; have HO115 := Aside0.mk hr12; clear hr12; replace q12 := eq_true q12))
        have hcp : t104 = l0 := by
          have h1 := A2.out
          unfold cohortref00_Copy.f at h1
          split at h1
          · exact (Option.some.inj h1).symm
          · cases h1
        have hy : y110 = l0 ++ [9, 9, 9] := by rw [Ny110.out, Ny107.out, hcp]
        have hr : y113 = l0 := by rw [Ny113.out, hy]; simp
        have HY := Aside0.mk hy
        have HR := Aside0.mk hr
        have KE : l0.length + 3 ≤ co11 ∧ Kd.C (Kd.int .u8) w9 Ao11 (l0.length + 3) (l0 ++ [9, 9, 9]) := by
          have h1 := KEEP.out
          rw [show y110.length = l0.length + 3 from by rw [hy]; simp, hy] at h1
          exact h1
        clear KEEP
        have KEEP := Aside0.mk KE
        clear hy hr hcp KE
        go_ret
        exact ⟨Ao11, co11, rfl, HR.out, KEEP.out.1, by repeat (first | exact KEEP.out.2 | (with_reducible refine Kd.C_alloc ?_ _) | (with_reducible refine Kd.C_drewN ?_ _) | (with_reducible refine Kd.C_drew ?_)), by repeat (first | (with_reducible first | exact HB.out | apply below_alloc | apply pw_below_drewN | apply below_drew1) | exact HB.out)⟩
      · rw [if_neg c5] at H
        exact absurd H (by simp)
    · rw [if_neg c4] at H
      exact absurd H (by simp)
  · rw [if_neg c3] at H
    exact absurd H (by simp)


theorem sl.pre {w : World} {A : Option Addr} {l : List Int} (h : Kd.C (Kd.int .u8) w A (l.length + 3) (l ++ [9, 9, 9])) : Kd.C (Kd.int .u8) w A l.length l := by
  have h2 := Kd.C_take (m := l.length) (show Kd.C (Kd.int .u8) w A (l ++ [9, 9, 9]).length (l ++ [9, 9, 9]) by simpa using h) (by simp)
  rwa [List.take_left] at h2

set_option maxHeartbeats 4000000 in
set_option maxRecDepth 100000 in
theorem sl.left (A : Option Addr) (c : Nat) (B : Option Addr) (b : Nat) (l : List Int) (w : World) (hA : Kd.C (Kd.int .u8) w A (l.length + 3) (l ++ [9, 9, 9])) (hc : l.length + 3 ≤ c) (hB : Kd.C (Kd.int .u8) w B l.length l) (hb : l.length ≤ b) :
    Calls Try.prog 11 #[.slice A l.length c, .slice B l.length b] w fun e w' => e = .returned (.bool true) ∧ Below w.heap.size w w' := by
  have hmx := Kd.C_max hA
  obtain ⟨ad, hcell⟩ : ∃ ad : Addr, A = some ad ∧ w.cell? (ad.add l.length) = some (.int .u8 9) ∧ w.cell? (ad.add (l.length + 1)) = some (.int .u8 9) ∧ w.cell? (ad.add (l.length + 2)) = some (.int .u8 9) := by
    have h1 := Kd.reads_of_C (d := 0) (show (Kd.scalar (Value.int .u8) (fun _ => rfl)).C w A _ _ from hA)
    obtain ⟨ad, e, hr⟩ := h1.2.2 (by omega)
    refine ⟨ad, e, ?_, ?_, ?_⟩
    · have := hr l.length (by omega); simpa using this
    · have := hr (l.length + 1) (by omega); simpa using this
    · have := hr (l.length + 2) (by omega); simpa using this
  obtain ⟨rfl, h0, h1, h2⟩ := hcell
  have h1b : w.cell? ⟨ad.block, ad.off + (l.length + 1), none⟩ = some (.int .u8 9) := by simpa [Addr.add] using h1
  have h2b : w.cell? ⟨ad.block, ad.off + (l.length + 2), none⟩ = some (.int .u8 9) := by simpa [Addr.add] using h2
  have HA := Aside0.mk hA
  have HB := Aside0.mk hB
  clear hA hB
  have q1 : ¬ ((c : Int) < (l.length : Int) + 3) := by omega
  have q2 : (0 : Int) ≤ (l.length : Int) + 3 := by omega
  have q3 : (l.length : Int) + 3 ≤ (c : Int) := by omega
  have qw : wrap64 ((l.length : Int) + 3) = (l.length : Int) + 3 := by unfold wrap64; omega
  have qw1 : wrap64 ((l.length : Int) + 1) = (l.length : Int) + 1 := by unfold wrap64; omega
  have qw2 : wrap64 ((l.length : Int) + 2) = (l.length : Int) + 2 := by unfold wrap64; omega
  have hsl : ∀ W, (Instr.slice 23 (.slice (some ad) l.length c) none (some (.int .i64 ((l.length : Int) + 3))) (some (.int .i64 ((l.length : Int) + 3)))).run Try.prog W = .ok (.slice (some ad) (l.length + 3) (l.length + 3)) W := by
    intro W
    obtain ⟨i0, hi0, _, _, _⟩ := info_parts info5
    have hel : Try.prog.elem 23 = 5 := by simp [Program.elem, Try.underlying23]
    rw [run_slice_hm W 23 (some ad) l.length c (by rw [hel]; exact Try.underlying23) .i64 .i64 _ _ q2 (Int.le_refl _) q3, hel]
    have e3 : ((l.length : Int) + 3).toNat = l.length + 3 := by omega
    simp [sizeOf, typeInfo, hi0, sliced, Result.andThen, Addr.add, e3]
  have HS := Aside0.mk (show cohortref00_Same.f l l = some true by unfold cohortref00_Same.f; simp)
  go_enter Try.func11, Try.ntmps11
  go_wp2_with (first
    | (go_at_call 15; refine (cohortref00_Same.calls (some ad) c l B b l true _ (sl.pre HA.out) (by omega) HB.out hb HS.out).mono ?_; rintro e w' ⟨rfl, ⟨nd, rfl⟩⟩))
  go_ret
  exact ⟨rfl, pw_below_drewN (Below.refl _ _) _⟩

end Go.Proofs.Ythgbipgfplokeaa.GA
