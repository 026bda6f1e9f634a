/- The search among dues. No condition. -/
import Derived.Test.YtgfekeicgcnjfaaB5
import Derived.Test.YtgfekeicgcnjfaaA4
import Derived.Laws.CopyOwn
import Derived.Laws.CopyRow
import Derived.ChangeKeysEq
import Derived.Deep.RegionHeld3
import Derived.Deep.MidRow
import Derived.Shelf.Abstract
import Derived.Lib.Overlaps
import Derived.Lib.AppendZerosOnto
import Derived.Shelf.Spec.SlicesInsertGrow
import Derived.Maps.OwnSet
import Derived.WalkSpells
namespace Go.Proofs.Ytgfekeicgcnjfaa.GA.I
open Go.RowKit Go.Shelf Go.Proofs.YtgfekeicgcnjfaaW.PrintWords Go.Proofs.YtgfekeicgcnjfaaW.PrintLast Go.Proofs.YtgfekeicgcnjfaaW.PrintMore
set_option linter.unusedVariables false
set_option linter.unusedSimpArgs false

def cmpA (a b : S63) : Int := if a.f1 < b.f1 then -1 else if b.f1 < a.f1 then 1 else if a.f2 < b.f2 then -1 else if b.f2 < a.f2 then 1 else 0
theorem cmp_u (a b : Int) : cmp_Compare_uint64.f a b = some (if a < b then -1 else if b < a then 1 else 0) := by
  unfold cmp_Compare_uint64.f cmp_isNaN_uint64.f
  by_cases h1 : a < b
  · simp [h1]
  · by_cases h2 : b < a <;> simp [h1, h2]
theorem ahead_f (a b : S63) : wheel_ahead_int.f 4 a.f0 a.f1 a.f2 b.f0 b.f1 b.f2 = some (cmpA a b) := by
  unfold wheel_ahead_int.f cmpA
  rw [cmp_u, cmp_u]
  by_cases h1 : a.f1 < b.f1
  · by_cases h2 : a.f2 < b.f2
    · simp [h1, h2, cmp_Or_int.f, cmp_Or_int.l0, rd]
    · by_cases h3 : b.f2 < a.f2 <;> simp [h1, h2, h3, cmp_Or_int.f, cmp_Or_int.l0, rd]
  · by_cases h4 : b.f1 < a.f1
    · by_cases h2 : a.f2 < b.f2
      · simp [h1, h2, h4, cmp_Or_int.f, cmp_Or_int.l0, rd]
      · by_cases h3 : b.f2 < a.f2 <;> simp [h1, h2, h3, h4, cmp_Or_int.f, cmp_Or_int.l0, rd]
    · by_cases h2 : a.f2 < b.f2
      · simp [h1, h2, h4, cmp_Or_int.f, cmp_Or_int.l0, rd, wrap64]
      · by_cases h3 : b.f2 < a.f2 <;> simp [h1, h2, h3, h4, cmp_Or_int.f, cmp_Or_int.l0, rd, wrap64]
theorem ahead.calls (a b : S63) (w : World) : Calls Try.prog 29 #[.agg #[.int .i64 a.f0, .int .u64 a.f1, .int .u64 a.f2], .agg #[.int .i64 b.f0, .int .u64 b.f1, .int .u64 b.f2]] w fun e w' => e = .returned (.int .i64 (cmpA a b)) ∧ Below w.heap.size w w' := wheel_ahead_int.calls 4 a.f0 a.f1 a.f2 b.f0 b.f1 b.f2 _ w (ahead_f a b)
def lt (d p : S63) : Bool := decide (cmpA p d < 0)
def ix (l : List S63) (d : S63) : Nat := bsF (lt d) z63 l l.length 0 l.length
def hit (l : List S63) (d : S63) : Bool := decide (ix l d < l.length) && (cmpA (l.getD (ix l d) z63) d == 0)

set_option maxHeartbeats 8000000 in
set_option maxRecDepth 100000 in
theorem search.calls (A0 : Option Addr) (c0 : Nat) (l0 : List S63) (d : S63) (w : World) (hr0 : Kd.C k63 w A0 l0.length l0) (hc0 : l0.length ≤ c0) (hlen : l0.length ≤ 4611686018427387904) :
    Calls Try.prog 28 #[.slice A0 l0.length c0, .agg #[.int .i64 d.f0, .int .u64 d.f1, .int .u64 d.f2], .func (.func 29) #[] #[]] w fun e w' => e = .returned (.tuple #[.int .i64 (ix l0 d), .bool (hit l0 d)]) ∧ Below w.heap.size w w' := by
  have HR0 := Aside0.mk hr0
  have HB := Aside0.mk (Below.refl w.heap.size w)
  clear hr0
  have hu63 := Try.underlying63
  obtain ⟨R, hR⟩ : ∃ R, R = ix l0 d := ⟨_, rfl⟩
  have HRR := Aside0.mk hR
  have hRl : R ≤ l0.length := by rw [hR]; exact bsF_le _ _ _ _ _ _ (Nat.zero_le _)
  clear hR
  go_enter Try.func28, Try.ntmps28
  go_upto_region 1 with (first | ((with_reducible refine gate_dst (N := 4) rfl ?_); refine box_event ?hg (N := 4) ?hd (cs := #[.int .i64 d.f0, .int .u64 d.f1, .int .u64 d.f2]) (t := 63) ?hr ?_; (case hd => rfl); (case hg => rfl); (case hr => first | (go_simp; done) | (go_simp; rfl)); intro gb hg w1_b hbox hb; have GGb := Aside0.mk (show w.heap.size ≤ gb from by rw [hg]; exact below_size (by repeat (first | (with_reducible first | exact HB.out | apply below_alloc | apply pw_below_drewN | apply below_drew1) | exact HB.out))); have BKb := Aside0.mk hbox; clear hbox hg; have n0_ := Aside0.mk (below_step (by repeat (first | (with_reducible first | exact HB.out | apply below_alloc | apply pw_below_drewN | apply below_drew1) | exact HB.out)) hb); clear HB; have HB := n0_; clear n0_ hb))
  have HB0 := HB
  clear HB
  have HB := Aside0.mk (Below.refl w1_b.heap.size w1_b)
  go_wp2
  go_loopw [9, 10, 11] (fun v9 v10 v11 w' => ∃ i j F : Nat, i ≤ j ∧ j ≤ l0.length ∧ j ≤ i + F ∧ v9 = .int .i64 i ∧ v10 = .int .i64 j ∧ Aside0 (bsF (lt d) z63 l0 F i j = R) ∧ Aside0 (Below w1_b.heap.size w1_b w')) (fun v9 v10 _ _ => (intOf v10).toNat - (intOf v9).toNat)
  case atStart => exact ⟨0, l0.length, l0.length, Nat.zero_le _, Nat.le_refl _, by omega, rfl, rfl, ⟨HRR.out.symm⟩, HB⟩
  case round =>
    clear HB
    obtain ⟨i, j, F, hij, hjl, hF, rfl, rfl, HA, HB⟩ := hrel
    by_cases hlt : i < j
    · obtain ⟨F, rfl⟩ : ∃ G, F = G + 1 := ⟨F - 1, by omega⟩
      obtain ⟨m, hm⟩ : ∃ m : Nat, m = (i + j) / 2 := ⟨_, rfl⟩
      have hml : m < l0.length := by omega
      have hmm : ((i : Int) + (j : Int)) / 2 = (m : Int) := by omega
      obtain ⟨ad, e, -⟩ := at_T63 (Kd.C_below HR0.out HB0.out) (m : Int) (by omega) (by omega)
      cases e
      obtain ⟨p, hp⟩ : ∃ p, p = l0.getD m z63 := ⟨_, rfl⟩
      have HALL : Aside0 (∀ W, Below w1_b.heap.size w1_b W → W.cell? (ad.add (m * 3)) = some (.int .i64 p.f0) ∧ W.cell? ⟨(ad.add (m * 3)).block, (ad.add (m * 3)).off + 1, none⟩ = some (.int .u64 p.f1) ∧ W.cell? ⟨(ad.add (m * 3)).block, (ad.add (m * 3)).off + 2, none⟩ = some (.int .u64 p.f2) ∧ W.cell? ⟨gb, 0, none⟩ = some (.int .i64 d.f0) ∧ W.cell? ⟨gb, 1, none⟩ = some (.int .u64 d.f1) ∧ W.cell? ⟨gb, 2, none⟩ = some (.int .u64 d.f2)) := ⟨fun w' hW => by
        obtain ⟨ad', e, x0, x1, x2⟩ := at_T63 (Kd.C_below HR0.out (Below.trans HB0.out (Below.mono hW (below_size HB0.out)))) (m : Int) (by omega) (by omega)
        cases e
        simp only [Int.toNat_natCast] at x0 x1 x2
        unfold rd_T63 at x0 x1 x2
        rw [Int.toNat_natCast, ← hp] at x0 x1 x2
        have b := blk_below BKb.out hW
        exact ⟨x0, x1, x2, (blk_cell b 0).trans rfl, (blk_cell b 1).trans rfl, (blk_cell b 2).trans rfl⟩⟩
      have hst := HA.out
      unfold bsF at hst
      rw [if_pos hlt, ← hm, ← hp] at hst
      have HM := Aside0.mk hm
      have HMM := Aside0.mk hmm
      have HML := Aside0.mk hml
      clear hm hmm hml
      go_wp2_with fail
      rw [HMM.out]
      have hml := HML.out
      clear hp
      by_cases hpq : cmpA p d < 0
      · have hpl : lt d p = true := decide_eq_true hpq
        have dpq := decide_eq_true hpq
        rw [if_pos hpl] at hst
        have HA2 := Aside0.mk hst
        clear hst hpl HA hpq
        refine start_ (n := 8) (S := fun w' => w'.cell? (ad.add (m * 3)) = some (.int .i64 p.f0) ∧ w'.cell? ⟨(ad.add (m * 3)).block, (ad.add (m * 3)).off + 1, none⟩ = some (.int .u64 p.f1) ∧ w'.cell? ⟨(ad.add (m * 3)).block, (ad.add (m * 3)).off + 2, none⟩ = some (.int .u64 p.f2) ∧ w'.cell? ⟨gb, 0, none⟩ = some (.int .i64 d.f0) ∧ w'.cell? ⟨gb, 1, none⟩ = some (.int .u64 d.f1) ∧ w'.cell? ⟨gb, 2, none⟩ = some (.int .u64 d.f2)) (ds := []) #[false, false, false, false, false, false, false, false] (by kernel_rfl) rfl rfl ⟨(HALL.out _ (below_drew1 HB.out)).1, (HALL.out _ (below_drew1 HB.out)).2.1, (HALL.out _ (below_drew1 HB.out)).2.2.1, (HALL.out _ (below_drew1 HB.out)).2.2.2.1, (HALL.out _ (below_drew1 HB.out)).2.2.2.2.1, (HALL.out _ (below_drew1 HB.out)).2.2.2.2.2⟩ (fun hHeld => ?_)
        refine pure_ (i := 0) (N := some 24) (v := ?_) (a' := ?_) #[true, false, false, false, false, false, false, false] rfl rfl (by kernel_rfl) (fun _ _ _ h => h) (Or.inl ⟨by rfl, ?_⟩) ?_ ?_
        rotate_left
        · intro w'
          go_simp
          with_reducible rfl
        rotate_left
        · simp only [Act.put, List.setIfInBounds_toArray, List.set_cons_zero, List.set_cons_succ, i64_w, i32_w]
          rfl
        refine pure_ (i := 1) (N := some 25) (v := ?_) (a' := ?_) #[true, true, false, false, false, false, false, false] rfl rfl (by kernel_rfl) (fun _ _ _ h => h) (Or.inl ⟨by rfl, ?_⟩) ?_ ?_
        rotate_left
        · intro w'
          go_simp
          with_reducible rfl
        rotate_left
        · simp only [Act.put, List.setIfInBounds_toArray, List.set_cons_zero, List.set_cons_succ, i64_w, i32_w]
          rfl
        refine pure_ (i := 2) (N := some 26) (v := ?_) (a' := ?_) #[true, true, true, false, false, false, false, false] rfl rfl (by kernel_rfl) (fun _ _ _ h => h) (Or.inl ⟨by rfl, ?_⟩) ?_ ?_
        rotate_left
        · intro w'
          go_simp
          with_reducible rfl
        rotate_left
        · simp only [Act.put, List.setIfInBounds_toArray, List.set_cons_zero, List.set_cons_succ, i64_w, i32_w]
          rfl
        refine pure_ (i := 3) (N := some 27) (v := ?_) (a' := ?_) #[true, true, true, true, false, false, false, false] rfl rfl (by kernel_rfl) (fun _ _ _ h => h) (Or.inl ⟨by rfl, ?_⟩) ?_ ?_
        rotate_left
        · intro w'
          go_simp
          with_reducible rfl
        rotate_left
        · simp only [Act.put, List.setIfInBounds_toArray, List.set_cons_zero, List.set_cons_succ, i64_w, i32_w]
          rfl
        refine take_ (i := 4) (N := some 28) (v := ?_) (a' := ?_) #[true, true, true, true, true, false, false, false] rfl rfl (by kernel_rfl) (fun _ _ _ h => h) (Or.inl ⟨by rfl, ?_⟩) hHeld ?_ ?_
        rotate_left
        · rintro w' ⟨s0, s1, s2, s3, s4, s5⟩
          go_simp
          with_reducible rfl
        rotate_left
        · simp only [Act.put, List.setIfInBounds_toArray, List.set_cons_zero, List.set_cons_succ, i64_w, i32_w]
          rfl
        refine take_ (i := 5) (N := some 29) (v := ?_) (a' := ?_) #[true, true, true, true, true, true, false, false] rfl rfl (by kernel_rfl) (fun _ _ _ h => h) (Or.inl ⟨by rfl, ?_⟩) hHeld ?_ ?_
        rotate_left
        · rintro w' ⟨s0, s1, s2, s3, s4, s5⟩
          go_simp
          with_reducible rfl
        rotate_left
        · simp only [Act.put, List.setIfInBounds_toArray, List.set_cons_zero, List.set_cons_succ, i64_w, i32_w]
          rfl
        refine one_ (i := 6) (N := some 30) #[true, true, true, true, true, true, true, false] rfl rfl (by kernel_rfl) (by decide) (fun K hK => ?_)
        refine goesV_ Try.func29 (by kernel_rfl) rfl #[.agg #[.int .i64 p.f0, .int .u64 p.f1, .int .u64 p.f2], .agg #[.int .i64 d.f0, .int .u64 d.f1, .int .u64 d.f2]] (by rfl) rfl rfl rfl (by simp only [List.map_toArray, List.map_cons, List.map_nil]; rfl) ?_
        with_reducible refine (ahead.calls p d _).mono ?_
        rintro e w3 ⟨rfl, hb⟩
        refine ⟨_, rfl, ?_⟩
        refine hK.out _ _ ⟨(HALL.out _ (below_step (below_drew1 HB.out) hb)).1, (HALL.out _ (below_step (below_drew1 HB.out) hb)).2.1, (HALL.out _ (below_step (below_drew1 HB.out) hb)).2.2.1, (HALL.out _ (below_step (below_drew1 HB.out) hb)).2.2.2.1, (HALL.out _ (below_step (below_drew1 HB.out) hb)).2.2.2.2.1, (HALL.out _ (below_step (below_drew1 HB.out) hb)).2.2.2.2.2⟩ (fun hHeld => ?_)
        clear hK K
        refine norm_ (a' := ?_) ?_ ?_
        rotate_left
        · show Act.put _ (some 30) _ = _
          simp only [Act.put, List.setIfInBounds_toArray, List.set_cons_zero, List.set_cons_succ, i64_w, i32_w]
          rfl
        refine pure_ (i := 7) (N := some 31) (v := ?_) (a' := ?_) #[true, true, true, true, true, true, true, true] rfl rfl (by kernel_rfl) (fun _ _ _ h => h) (Or.inl ⟨by rfl, ?_⟩) ?_ ?_
        rotate_left
        · intro w'
          go_simp
          with_reducible rfl
        rotate_left
        · simp only [Act.put, List.setIfInBounds_toArray, List.set_cons_zero, List.set_cons_succ, i64_w, i32_w]
          rfl
        refine done_ (by kernel_rfl) ?_

        have hm := HM.out
        clear HM HMM HML
        go_wp2
        go_roundw
        case rel => exact ⟨m + 1, j, F, by omega, hjl, by omega, by go_num, by go_num, HA2, ⟨below_step (below_drew1 HB.out) hb⟩⟩
        case measure => simp [intOf]; omega
      · have hpl : ¬ lt d p = true := by simpa [lt] using hpq
        have dpq := decide_eq_false hpq
        rw [if_neg hpl] at hst
        have HA2 := Aside0.mk hst
        clear hst hpl HA hpq
        refine start_ (n := 8) (S := fun w' => w'.cell? (ad.add (m * 3)) = some (.int .i64 p.f0) ∧ w'.cell? ⟨(ad.add (m * 3)).block, (ad.add (m * 3)).off + 1, none⟩ = some (.int .u64 p.f1) ∧ w'.cell? ⟨(ad.add (m * 3)).block, (ad.add (m * 3)).off + 2, none⟩ = some (.int .u64 p.f2) ∧ w'.cell? ⟨gb, 0, none⟩ = some (.int .i64 d.f0) ∧ w'.cell? ⟨gb, 1, none⟩ = some (.int .u64 d.f1) ∧ w'.cell? ⟨gb, 2, none⟩ = some (.int .u64 d.f2)) (ds := []) #[false, false, false, false, false, false, false, false] (by kernel_rfl) rfl rfl ⟨(HALL.out _ (below_drew1 HB.out)).1, (HALL.out _ (below_drew1 HB.out)).2.1, (HALL.out _ (below_drew1 HB.out)).2.2.1, (HALL.out _ (below_drew1 HB.out)).2.2.2.1, (HALL.out _ (below_drew1 HB.out)).2.2.2.2.1, (HALL.out _ (below_drew1 HB.out)).2.2.2.2.2⟩ (fun hHeld => ?_)
        refine pure_ (i := 0) (N := some 24) (v := ?_) (a' := ?_) #[true, false, false, false, false, false, false, false] rfl rfl (by kernel_rfl) (fun _ _ _ h => h) (Or.inl ⟨by rfl, ?_⟩) ?_ ?_
        rotate_left
        · intro w'
          go_simp
          with_reducible rfl
        rotate_left
        · simp only [Act.put, List.setIfInBounds_toArray, List.set_cons_zero, List.set_cons_succ, i64_w, i32_w]
          rfl
        refine pure_ (i := 1) (N := some 25) (v := ?_) (a' := ?_) #[true, true, false, false, false, false, false, false] rfl rfl (by kernel_rfl) (fun _ _ _ h => h) (Or.inl ⟨by rfl, ?_⟩) ?_ ?_
        rotate_left
        · intro w'
          go_simp
          with_reducible rfl
        rotate_left
        · simp only [Act.put, List.setIfInBounds_toArray, List.set_cons_zero, List.set_cons_succ, i64_w, i32_w]
          rfl
        refine pure_ (i := 2) (N := some 26) (v := ?_) (a' := ?_) #[true, true, true, false, false, false, false, false] rfl rfl (by kernel_rfl) (fun _ _ _ h => h) (Or.inl ⟨by rfl, ?_⟩) ?_ ?_
        rotate_left
        · intro w'
          go_simp
          with_reducible rfl
        rotate_left
        · simp only [Act.put, List.setIfInBounds_toArray, List.set_cons_zero, List.set_cons_succ, i64_w, i32_w]
          rfl
        refine pure_ (i := 3) (N := some 27) (v := ?_) (a' := ?_) #[true, true, true, true, false, false, false, false] rfl rfl (by kernel_rfl) (fun _ _ _ h => h) (Or.inl ⟨by rfl, ?_⟩) ?_ ?_
        rotate_left
        · intro w'
          go_simp
          with_reducible rfl
        rotate_left
        · simp only [Act.put, List.setIfInBounds_toArray, List.set_cons_zero, List.set_cons_succ, i64_w, i32_w]
          rfl
        refine take_ (i := 4) (N := some 28) (v := ?_) (a' := ?_) #[true, true, true, true, true, false, false, false] rfl rfl (by kernel_rfl) (fun _ _ _ h => h) (Or.inl ⟨by rfl, ?_⟩) hHeld ?_ ?_
        rotate_left
        · rintro w' ⟨s0, s1, s2, s3, s4, s5⟩
          go_simp
          with_reducible rfl
        rotate_left
        · simp only [Act.put, List.setIfInBounds_toArray, List.set_cons_zero, List.set_cons_succ, i64_w, i32_w]
          rfl
        refine take_ (i := 5) (N := some 29) (v := ?_) (a' := ?_) #[true, true, true, true, true, true, false, false] rfl rfl (by kernel_rfl) (fun _ _ _ h => h) (Or.inl ⟨by rfl, ?_⟩) hHeld ?_ ?_
        rotate_left
        · rintro w' ⟨s0, s1, s2, s3, s4, s5⟩
          go_simp
          with_reducible rfl
        rotate_left
        · simp only [Act.put, List.setIfInBounds_toArray, List.set_cons_zero, List.set_cons_succ, i64_w, i32_w]
          rfl
        refine one_ (i := 6) (N := some 30) #[true, true, true, true, true, true, true, false] rfl rfl (by kernel_rfl) (by decide) (fun K hK => ?_)
        refine goesV_ Try.func29 (by kernel_rfl) rfl #[.agg #[.int .i64 p.f0, .int .u64 p.f1, .int .u64 p.f2], .agg #[.int .i64 d.f0, .int .u64 d.f1, .int .u64 d.f2]] (by rfl) rfl rfl rfl (by simp only [List.map_toArray, List.map_cons, List.map_nil]; rfl) ?_
        with_reducible refine (ahead.calls p d _).mono ?_
        rintro e w3 ⟨rfl, hb⟩
        refine ⟨_, rfl, ?_⟩
        refine hK.out _ _ ⟨(HALL.out _ (below_step (below_drew1 HB.out) hb)).1, (HALL.out _ (below_step (below_drew1 HB.out) hb)).2.1, (HALL.out _ (below_step (below_drew1 HB.out) hb)).2.2.1, (HALL.out _ (below_step (below_drew1 HB.out) hb)).2.2.2.1, (HALL.out _ (below_step (below_drew1 HB.out) hb)).2.2.2.2.1, (HALL.out _ (below_step (below_drew1 HB.out) hb)).2.2.2.2.2⟩ (fun hHeld => ?_)
        clear hK K
        refine norm_ (a' := ?_) ?_ ?_
        rotate_left
        · show Act.put _ (some 30) _ = _
          simp only [Act.put, List.setIfInBounds_toArray, List.set_cons_zero, List.set_cons_succ, i64_w, i32_w]
          rfl
        refine pure_ (i := 7) (N := some 31) (v := ?_) (a' := ?_) #[true, true, true, true, true, true, true, true] rfl rfl (by kernel_rfl) (fun _ _ _ h => h) (Or.inl ⟨by rfl, ?_⟩) ?_ ?_
        rotate_left
        · intro w'
          go_simp
          with_reducible rfl
        rotate_left
        · simp only [Act.put, List.setIfInBounds_toArray, List.set_cons_zero, List.set_cons_succ, i64_w, i32_w]
          rfl
        refine done_ (by kernel_rfl) ?_

        have hm := HM.out
        clear HM HMM HML
        go_wp2
        go_roundw
        case rel => exact ⟨i, m, F, by omega, by omega, by omega, by go_num, by go_num, HA2, ⟨below_step (below_drew1 HB.out) hb⟩⟩
        case measure => simp [intOf]; omega
    · have hii : i = j := by omega
      subst hii
      have hRi : i = R := by
        have := HA.out
        cases F with
        | zero => exact this
        | succ F => unfold bsF at this; rw [if_neg hlt] at this; exact this
      clear HA
      subst hRi
      by_cases hin : i < l0.length
      · obtain ⟨ad, e, -⟩ := at_T63 (Kd.C_below HR0.out HB0.out) (i : Int) (by omega) (by omega)
        cases e
        obtain ⟨p, hp⟩ : ∃ p, p = l0.getD i z63 := ⟨_, rfl⟩
        have HALL : Aside0 (∀ W, Below w1_b.heap.size w1_b W → W.cell? (ad.add (i * 3)) = some (.int .i64 p.f0) ∧ W.cell? ⟨(ad.add (i * 3)).block, (ad.add (i * 3)).off + 1, none⟩ = some (.int .u64 p.f1) ∧ W.cell? ⟨(ad.add (i * 3)).block, (ad.add (i * 3)).off + 2, none⟩ = some (.int .u64 p.f2) ∧ W.cell? ⟨gb, 0, none⟩ = some (.int .i64 d.f0) ∧ W.cell? ⟨gb, 1, none⟩ = some (.int .u64 d.f1) ∧ W.cell? ⟨gb, 2, none⟩ = some (.int .u64 d.f2)) := ⟨fun w' hW => by
          obtain ⟨ad', e, x0, x1, x2⟩ := at_T63 (Kd.C_below HR0.out (Below.trans HB0.out (Below.mono hW (below_size HB0.out)))) (i : Int) (by omega) (by omega)
          cases e
          simp only [Int.toNat_natCast] at x0 x1 x2
          unfold rd_T63 at x0 x1 x2
          rw [Int.toNat_natCast, ← hp] at x0 x1 x2
          have b := blk_below BKb.out hW
          exact ⟨x0, x1, x2, (blk_cell b 0).trans rfl, (blk_cell b 1).trans rfl, (blk_cell b 2).trans rfl⟩⟩
        have HH : Aside0 (hit l0 d = (cmpA p d == 0)) := ⟨by unfold hit; rw [← HRR.out, ← hp]; simp [hin]⟩
        have hdn : decide (i < l0.length) = true := decide_eq_true hin
        clear hp hRl
        go_upto_region 8 with (fail)
        refine start_ (n := 16) (S := fun w' => w'.cell? (ad.add (i * 3)) = some (.int .i64 p.f0) ∧ w'.cell? ⟨(ad.add (i * 3)).block, (ad.add (i * 3)).off + 1, none⟩ = some (.int .u64 p.f1) ∧ w'.cell? ⟨(ad.add (i * 3)).block, (ad.add (i * 3)).off + 2, none⟩ = some (.int .u64 p.f2) ∧ w'.cell? ⟨gb, 0, none⟩ = some (.int .i64 d.f0) ∧ w'.cell? ⟨gb, 1, none⟩ = some (.int .u64 d.f1) ∧ w'.cell? ⟨gb, 2, none⟩ = some (.int .u64 d.f2)) (ds := []) #[false, false, false, false, false, false, false, false, false, false, false, false, false, false, false, false] (by kernel_rfl) rfl rfl ⟨(HALL.out _ (below_drew1 HB.out)).1, (HALL.out _ (below_drew1 HB.out)).2.1, (HALL.out _ (below_drew1 HB.out)).2.2.1, (HALL.out _ (below_drew1 HB.out)).2.2.2.1, (HALL.out _ (below_drew1 HB.out)).2.2.2.2.1, (HALL.out _ (below_drew1 HB.out)).2.2.2.2.2⟩ (fun hHeld => ?_)
        refine pure_ (i := 0) (N := some 35) (v := ?_) (a' := ?_) #[true, false, false, false, false, false, false, false, false, false, false, false, false, false, false, false] rfl rfl (by kernel_rfl) (fun _ _ _ h => h) (Or.inl ⟨by rfl, ?_⟩) ?_ ?_
        rotate_left
        · intro w'
          go_simp
          with_reducible rfl
        rotate_left
        · simp only [Act.put, List.setIfInBounds_toArray, List.set_cons_zero, List.set_cons_succ, i64_w, i32_w]
          rfl
        refine pure_ (i := 1) (N := some 36) (v := ?_) (a' := ?_) #[true, true, false, false, false, false, false, false, false, false, false, false, false, false, false, false] rfl rfl (by kernel_rfl) (fun _ _ _ h => h) (Or.inl ⟨by rfl, ?_⟩) ?_ ?_
        rotate_left
        · intro w'
          go_simp
          with_reducible rfl
        rotate_left
        · simp only [Act.put, List.setIfInBounds_toArray, List.set_cons_zero, List.set_cons_succ, i64_w, i32_w]
          rfl
        refine pure_ (i := 2) (N := some 37) (v := ?_) (a' := ?_) #[true, true, true, false, false, false, false, false, false, false, false, false, false, false, false, false] rfl rfl (by kernel_rfl) (fun _ _ _ h => h) (Or.inl ⟨by rfl, ?_⟩) ?_ ?_
        rotate_left
        · intro w'
          go_simp
          with_reducible rfl
        rotate_left
        · simp only [Act.put, List.setIfInBounds_toArray, List.set_cons_zero, List.set_cons_succ, i64_w, i32_w]
          rfl
        refine pure_ (i := 3) (N := some 38) (v := ?_) (a' := ?_) #[true, true, true, true, false, false, false, false, false, false, false, false, false, false, false, false] rfl rfl (by kernel_rfl) (fun _ _ _ h => h) (Or.inl ⟨by rfl, ?_⟩) ?_ ?_
        rotate_left
        · intro w'
          go_simp
          with_reducible rfl
        rotate_left
        · simp only [Act.put, List.setIfInBounds_toArray, List.set_cons_zero, List.set_cons_succ, i64_w, i32_w]
          rfl
        refine pure_ (i := 4) (N := some 39) (v := ?_) (a' := ?_) #[true, true, true, true, true, false, false, false, false, false, false, false, false, false, false, false] rfl rfl (by kernel_rfl) (fun _ _ _ h => h) (Or.inl ⟨by rfl, ?_⟩) ?_ ?_
        rotate_left
        · intro w'
          go_simp
          with_reducible rfl
        rotate_left
        · simp only [Act.put, List.setIfInBounds_toArray, List.set_cons_zero, List.set_cons_succ, i64_w, i32_w]
          rfl
        refine pure_ (i := 5) (N := some 40) (v := ?_) (a' := ?_) #[true, true, true, true, true, true, false, false, false, false, false, false, false, false, false, false] rfl rfl (by kernel_rfl) (fun _ _ _ h => h) (Or.inl ⟨by rfl, ?_⟩) ?_ ?_
        rotate_left
        · intro w'
          go_simp
          with_reducible rfl
        rotate_left
        · simp only [Act.put, List.setIfInBounds_toArray, List.set_cons_zero, List.set_cons_succ, i64_w, i32_w]
          rfl
        refine pure_ (i := 6) (N := some 41) (v := ?_) (a' := ?_) #[true, true, true, true, true, true, true, false, false, false, false, false, false, false, false, false] rfl rfl (by kernel_rfl) (fun _ _ _ h => h) (Or.inl ⟨by rfl, ?_⟩) ?_ ?_
        rotate_left
        · intro w'
          go_simp
          with_reducible rfl
        rotate_left
        · simp only [Act.put, List.setIfInBounds_toArray, List.set_cons_zero, List.set_cons_succ, i64_w, i32_w]
          rfl
        refine pure_ (i := 7) (N := some 42) (v := ?_) (a' := ?_) #[true, true, true, true, true, true, true, true, false, false, false, false, false, false, false, false] rfl rfl (by kernel_rfl) (fun _ _ _ h => h) (Or.inl ⟨by rfl, ?_⟩) ?_ ?_
        rotate_left
        · intro w'
          go_simp
          with_reducible rfl
        rotate_left
        · simp only [Act.put, List.setIfInBounds_toArray, List.set_cons_zero, List.set_cons_succ, i64_w, i32_w]
          rfl
        refine pure_ (i := 8) (N := some 43) (v := ?_) (a' := ?_) #[true, true, true, true, true, true, true, true, true, false, false, false, false, false, false, false] rfl rfl (by kernel_rfl) (fun _ _ _ h => h) (Or.inl ⟨by rfl, ?_⟩) ?_ ?_
        rotate_left
        · intro w'
          go_simp
          with_reducible rfl
        rotate_left
        · simp only [Act.put, List.setIfInBounds_toArray, List.set_cons_zero, List.set_cons_succ, i64_w, i32_w]
          rfl
        refine take_ (i := 9) (N := some 44) (v := ?_) (a' := ?_) #[true, true, true, true, true, true, true, true, true, true, false, false, false, false, false, false] rfl rfl (by kernel_rfl) (fun _ _ _ h => h) (Or.inl ⟨by rfl, ?_⟩) hHeld ?_ ?_
        rotate_left
        · rintro w' ⟨s0, s1, s2, s3, s4, s5⟩
          go_simp
          with_reducible rfl
        rotate_left
        · simp only [Act.put, List.setIfInBounds_toArray, List.set_cons_zero, List.set_cons_succ, i64_w, i32_w]
          rfl
        refine take_ (i := 10) (N := some 45) (v := ?_) (a' := ?_) #[true, true, true, true, true, true, true, true, true, true, true, false, false, false, false, false] rfl rfl (by kernel_rfl) (fun _ _ _ h => h) (Or.inl ⟨by rfl, ?_⟩) hHeld ?_ ?_
        rotate_left
        · rintro w' ⟨s0, s1, s2, s3, s4, s5⟩
          go_simp
          with_reducible rfl
        rotate_left
        · simp only [Act.put, List.setIfInBounds_toArray, List.set_cons_zero, List.set_cons_succ, i64_w, i32_w]
          rfl
        refine one_ (i := 11) (N := some 46) #[true, true, true, true, true, true, true, true, true, true, true, true, false, false, false, false] rfl rfl (by kernel_rfl) (by decide) (fun K hK => ?_)
        refine goesV_ Try.func29 (by kernel_rfl) rfl #[.agg #[.int .i64 p.f0, .int .u64 p.f1, .int .u64 p.f2], .agg #[.int .i64 d.f0, .int .u64 d.f1, .int .u64 d.f2]] (by rfl) rfl rfl rfl (by simp only [List.map_toArray, List.map_cons, List.map_nil]; rfl) ?_
        with_reducible refine (ahead.calls p d _).mono ?_
        rintro e w3 ⟨rfl, hb⟩
        refine ⟨_, rfl, ?_⟩
        refine hK.out _ _ ⟨(HALL.out _ (below_step (below_drew1 HB.out) hb)).1, (HALL.out _ (below_step (below_drew1 HB.out) hb)).2.1, (HALL.out _ (below_step (below_drew1 HB.out) hb)).2.2.1, (HALL.out _ (below_step (below_drew1 HB.out) hb)).2.2.2.1, (HALL.out _ (below_step (below_drew1 HB.out) hb)).2.2.2.2.1, (HALL.out _ (below_step (below_drew1 HB.out) hb)).2.2.2.2.2⟩ (fun hHeld => ?_)
        clear hK K
        refine norm_ (a' := ?_) ?_ ?_
        rotate_left
        · show Act.put _ (some 46) _ = _
          simp only [Act.put, List.setIfInBounds_toArray, List.set_cons_zero, List.set_cons_succ, i64_w, i32_w]
          rfl
        refine pure_ (i := 12) (N := some 47) (v := ?_) (a' := ?_) #[true, true, true, true, true, true, true, true, true, true, true, true, true, false, false, false] rfl rfl (by kernel_rfl) (fun _ _ _ h => h) (Or.inl ⟨by rfl, ?_⟩) ?_ ?_
        rotate_left
        · intro w'
          go_simp
          with_reducible rfl
        rotate_left
        · simp only [Act.put, List.setIfInBounds_toArray, List.set_cons_zero, List.set_cons_succ, i64_w, i32_w]
          rfl
        refine pure_ (i := 13) (N := some 48) (v := ?_) (a' := ?_) #[true, true, true, true, true, true, true, true, true, true, true, true, true, true, false, false] rfl rfl (by kernel_rfl) (fun _ _ _ h => h) (Or.inl ⟨by rfl, ?_⟩) ?_ ?_
        rotate_left
        · intro w'
          go_simp
          with_reducible rfl
        rotate_left
        · simp only [Act.put, List.setIfInBounds_toArray, List.set_cons_zero, List.set_cons_succ, i64_w, i32_w]
          rfl
        refine pure_ (i := 14) (N := some 6) (v := ?_) (a' := ?_) #[true, true, true, true, true, true, true, true, true, true, true, true, true, true, true, false] rfl rfl (by kernel_rfl) (fun _ _ _ h => h) (Or.inl ⟨by rfl, ?_⟩) ?_ ?_
        rotate_left
        · intro w'
          go_simp
          with_reducible rfl
        rotate_left
        · simp only [Act.put, List.setIfInBounds_toArray, List.set_cons_zero, List.set_cons_succ, i64_w, i32_w]
          rfl
        refine pure_ (i := 15) (N := some 7) (v := ?_) (a' := ?_) #[true, true, true, true, true, true, true, true, true, true, true, true, true, true, true, true] rfl rfl (by kernel_rfl) (fun _ _ _ h => h) (Or.inl ⟨by rfl, ?_⟩) ?_ ?_
        rotate_left
        · intro w'
          go_simp
          with_reducible rfl
        rotate_left
        · simp only [Act.put, List.setIfInBounds_toArray, List.set_cons_zero, List.set_cons_succ, i64_w, i32_w]
          rfl
        refine done_ (by kernel_rfl) ?_

        go_wp2
        go_ret2
        exact ⟨by rw [HH.out, ← HRR.out]; rfl, Below.trans HB0.out ((below_step (below_drew1 HB.out) hb).mono (below_size HB0.out))⟩
      · have HH : Aside0 (hit l0 d = false) := ⟨by unfold hit; rw [← HRR.out]; simp [hin]⟩
        have hdd : decide ((i : Int) < (l0.length : Int)) = false := by simp; omega
        have hdn : decide (i < l0.length) = false := decide_eq_false hin
        go_upto_region 8 with (fail)
        refine start_ (n := 16) (S := fun w' => True) (ds := []) #[false, false, false, false, false, false, false, false, false, false, false, false, false, false, false, false] (by kernel_rfl) rfl rfl trivial (fun hHeld => ?_)
        refine pure_ (i := 0) (N := some 35) (v := ?_) (a' := ?_) #[true, false, false, false, false, false, false, false, false, false, false, false, false, false, false, false] rfl rfl (by kernel_rfl) (fun _ _ _ h => h) (Or.inl ⟨by rfl, ?_⟩) ?_ ?_
        rotate_left
        · intro w'
          go_simp
          with_reducible rfl
        rotate_left
        · simp only [Act.put, List.setIfInBounds_toArray, List.set_cons_zero, List.set_cons_succ, i64_w, i32_w]
          rfl
        refine pure_ (i := 1) (N := some 36) (v := ?_) (a' := ?_) #[true, true, false, false, false, false, false, false, false, false, false, false, false, false, false, false] rfl rfl (by kernel_rfl) (fun _ _ _ h => h) (Or.inl ⟨by rfl, ?_⟩) ?_ ?_
        rotate_left
        · intro w'
          go_simp
          with_reducible rfl
        rotate_left
        · simp only [Act.put, List.setIfInBounds_toArray, List.set_cons_zero, List.set_cons_succ, i64_w, i32_w]
          rfl
        refine pure_ (i := 2) (N := some 37) (v := ?_) (a' := ?_) #[true, true, true, false, false, false, false, false, false, false, false, false, false, false, false, false] rfl rfl (by kernel_rfl) (fun _ _ _ h => h) (Or.inl ⟨by rfl, ?_⟩) ?_ ?_
        rotate_left
        · intro w'
          go_simp
          with_reducible rfl
        rotate_left
        · simp only [Act.put, List.setIfInBounds_toArray, List.set_cons_zero, List.set_cons_succ, i64_w, i32_w]
          rfl
        refine pure_ (i := 3) (N := some 38) (v := ?_) (a' := ?_) #[true, true, true, true, false, false, false, false, false, false, false, false, false, false, false, false] rfl rfl (by kernel_rfl) (fun _ _ _ h => h) (Or.inl ⟨by rfl, ?_⟩) ?_ ?_
        rotate_left
        · intro w'
          go_simp
          with_reducible rfl
        rotate_left
        · simp only [Act.put, List.setIfInBounds_toArray, List.set_cons_zero, List.set_cons_succ, i64_w, i32_w]
          rfl
        refine pure_ (i := 4) (N := some 39) (v := ?_) (a' := ?_) #[true, true, true, true, true, false, false, false, false, false, false, false, false, false, false, false] rfl rfl (by kernel_rfl) (fun _ _ _ h => h) (Or.inl ⟨by rfl, ?_⟩) ?_ ?_
        rotate_left
        · intro w'
          go_simp
          with_reducible rfl
        rotate_left
        · simp only [Act.put, List.setIfInBounds_toArray, List.set_cons_zero, List.set_cons_succ, i64_w, i32_w]
          rfl
        refine pure_ (i := 5) (N := some 40) (v := undef) (a' := ?_) #[true, true, true, true, true, true, false, false, false, false, false, false, false, false, false, false] rfl rfl (by kernel_rfl) (fun _ _ _ h => h) (Or.inr ⟨by rfl, rfl⟩) ?_ ?_
        rotate_left
        · simp only [Act.put, List.setIfInBounds_toArray, List.set_cons_zero, List.set_cons_succ, i64_w, i32_w]
          rfl
        refine pure_ (i := 6) (N := some 41) (v := undef) (a' := ?_) #[true, true, true, true, true, true, true, false, false, false, false, false, false, false, false, false] rfl rfl (by kernel_rfl) (fun _ _ _ h => h) (Or.inr ⟨by rfl, rfl⟩) ?_ ?_
        rotate_left
        · simp only [Act.put, List.setIfInBounds_toArray, List.set_cons_zero, List.set_cons_succ, i64_w, i32_w]
          rfl
        refine pure_ (i := 7) (N := some 42) (v := undef) (a' := ?_) #[true, true, true, true, true, true, true, true, false, false, false, false, false, false, false, false] rfl rfl (by kernel_rfl) (fun _ _ _ h => h) (Or.inr ⟨by rfl, rfl⟩) ?_ ?_
        rotate_left
        · simp only [Act.put, List.setIfInBounds_toArray, List.set_cons_zero, List.set_cons_succ, i64_w, i32_w]
          rfl
        refine pure_ (i := 8) (N := some 43) (v := undef) (a' := ?_) #[true, true, true, true, true, true, true, true, true, false, false, false, false, false, false, false] rfl rfl (by kernel_rfl) (fun _ _ _ h => h) (Or.inr ⟨by rfl, rfl⟩) ?_ ?_
        rotate_left
        · simp only [Act.put, List.setIfInBounds_toArray, List.set_cons_zero, List.set_cons_succ, i64_w, i32_w]
          rfl
        refine pure_ (i := 9) (N := some 44) (v := undef) (a' := ?_) #[true, true, true, true, true, true, true, true, true, true, false, false, false, false, false, false] rfl rfl (by kernel_rfl) (fun _ _ _ h => h) (Or.inr ⟨by rfl, rfl⟩) ?_ ?_
        rotate_left
        · simp only [Act.put, List.setIfInBounds_toArray, List.set_cons_zero, List.set_cons_succ, i64_w, i32_w]
          rfl
        refine pure_ (i := 10) (N := some 45) (v := undef) (a' := ?_) #[true, true, true, true, true, true, true, true, true, true, true, false, false, false, false, false] rfl rfl (by kernel_rfl) (fun _ _ _ h => h) (Or.inr ⟨by rfl, rfl⟩) ?_ ?_
        rotate_left
        · simp only [Act.put, List.setIfInBounds_toArray, List.set_cons_zero, List.set_cons_succ, i64_w, i32_w]
          rfl
        refine pure_ (i := 11) (N := some 46) (v := undef) (a' := ?_) #[true, true, true, true, true, true, true, true, true, true, true, true, false, false, false, false] rfl rfl (by kernel_rfl) (fun _ _ _ h => h) (Or.inr ⟨by rfl, rfl⟩) ?_ ?_
        rotate_left
        · simp only [Act.put, List.setIfInBounds_toArray, List.set_cons_zero, List.set_cons_succ, i64_w, i32_w]
          rfl
        refine pure_ (i := 12) (N := some 47) (v := undef) (a' := ?_) #[true, true, true, true, true, true, true, true, true, true, true, true, true, false, false, false] rfl rfl (by kernel_rfl) (fun _ _ _ h => h) (Or.inr ⟨by rfl, rfl⟩) ?_ ?_
        rotate_left
        · simp only [Act.put, List.setIfInBounds_toArray, List.set_cons_zero, List.set_cons_succ, i64_w, i32_w]
          rfl
        refine pure_ (i := 13) (N := some 48) (v := ?_) (a' := ?_) #[true, true, true, true, true, true, true, true, true, true, true, true, true, true, false, false] rfl rfl (by kernel_rfl) (fun _ _ _ h => h) (Or.inl ⟨by rfl, ?_⟩) ?_ ?_
        rotate_left
        · intro w'
          go_simp
          with_reducible rfl
        rotate_left
        · simp only [Act.put, List.setIfInBounds_toArray, List.set_cons_zero, List.set_cons_succ, i64_w, i32_w]
          rfl
        refine pure_ (i := 14) (N := some 6) (v := ?_) (a' := ?_) #[true, true, true, true, true, true, true, true, true, true, true, true, true, true, true, false] rfl rfl (by kernel_rfl) (fun _ _ _ h => h) (Or.inl ⟨by rfl, ?_⟩) ?_ ?_
        rotate_left
        · intro w'
          go_simp
          with_reducible rfl
        rotate_left
        · simp only [Act.put, List.setIfInBounds_toArray, List.set_cons_zero, List.set_cons_succ, i64_w, i32_w]
          rfl
        refine pure_ (i := 15) (N := some 7) (v := ?_) (a' := ?_) #[true, true, true, true, true, true, true, true, true, true, true, true, true, true, true, true] rfl rfl (by kernel_rfl) (fun _ _ _ h => h) (Or.inl ⟨by rfl, ?_⟩) ?_ ?_
        rotate_left
        · intro w'
          go_simp
          with_reducible rfl
        rotate_left
        · simp only [Act.put, List.setIfInBounds_toArray, List.set_cons_zero, List.set_cons_succ, i64_w, i32_w]
          rfl
        refine done_ (by kernel_rfl) ?_

        go_wp2
        go_ret2
        exact ⟨by rw [HH.out, ← HRR.out]; rfl, Below.trans HB0.out ((below_drew1 HB.out).mono (below_size HB0.out))⟩

end Go.Proofs.Ytgfekeicgcnjfaa.GA.I
