/- The walk of CrcRow: up to four bytes of a copy are changed, and the two sums are held against each other. No condition but each theorem's own. -/
import Derived.Test.YtihlnchmgcmdiaaGDx1
import Derived.Deep.RegionHeld3
namespace Go.Proofs.Ytihlnchmgcmdiaa.GD
open Go.RowKit Go.Proofs.YtihlnchmgcmdiaaW.PrintWords Go.Proofs.YtihlnchmgcmdiaaW.PrintLast Go.Proofs.YtihlnchmgcmdiaaW.PrintMore
set_option linter.unusedVariables false
set_option linter.unusedSimpArgs false

/-- the bytes with up to four changed, from the place n on -/
def crc_pt (l : List Int) (n : Nat) (b : List Int) : Nat → List Int
  | 0 => l
  | i + 1 => (crc_pt l n b i).set (n + i) (Go.bits .xor .u8 (rd (crc_pt l n b i) ((n + i : Nat) : Int)) (rd b (i : Int)))
def crc_chg (b : List Int) : Nat → Bool
  | 0 => false
  | i + 1 => crc_chg b i || (rd b (i : Int) != 0)
theorem crc_pt_length (l : List Int) (n : Nat) (b : List Int) (i : Nat) : (crc_pt l n b i).length = l.length := by
  induction i with
  | zero => rfl
  | succ i ih => simp only [crc_pt, List.length_set, ih]
def crc_row.start (l : List Int) (a1 : Int) : Nat := (a1 % ((l.length : Int) + 1)).toNat
/-- how many are changed -/
def crc_row.cnt (l : List Int) (a1 : Int) : Nat := min 4 (l.length - crc_row.start l a1)
def crc_row.f (k : Nat) (l0 : List Int) (a1 : Int) (b : List Int) : Option Bool :=
  (crc_Of.f k (crc_pt l0 (crc_row.start l0 a1) b (crc_row.cnt l0 a1))).bind fun x => (crc_Of.f k l0).bind fun y => (cohortlaw03_lives.f k).bind fun t =>
  if ((x == y) != crc_chg b (crc_row.cnt l0 a1)) = true ∧ t = true then some true else none

theorem crc_small (z : Nat) (h : z < 4611686018427387904) : wrap64 (z : Int) = (z : Int) := by unfold wrap64; omega
set_option maxHeartbeats 8000000 in
set_option maxRecDepth 100000 in
theorem crc_row.calls (k : Nat) (A0 : Option Addr) (c0 : Nat) (l0 : List Int) (a1 b0 b1 b2 b3 : Int) (r : Bool) (w : World) (hr0 : Kd.C (Kd.int .u8) w A0 l0.length l0) (hc0 : l0.length ≤ c0) (h0 : 0 ≤ a1) (h1 : a1 < 18446744073709551616) (hlen : l0.length < 140737488355328) (h : crc_row.f k l0 a1 [b0, b1, b2, b3] = some r) :
    Calls Try.prog 5 #[.slice A0 l0.length c0, .int .u64 a1, .agg #[.int .u8 b0, .int .u8 b1, .int .u8 b2, .int .u8 b3]] w fun e w' => e = .returned (.bool r) ∧ Below w.heap.size w w' := by
  unfold crc_row.f at h
  obtain ⟨x, hx, h⟩ := Option.bind_eq_some_iff.mp h
  obtain ⟨y, hy, h⟩ := Option.bind_eq_some_iff.mp h
  obtain ⟨t, ht, h⟩ := Option.bind_eq_some_iff.mp h
  have hh : ((x == y) != crc_chg [b0, b1, b2, b3] (crc_row.cnt l0 a1)) = true ∧ t = true := by
    by_cases hh : ((x == y) != crc_chg [b0, b1, b2, b3] (crc_row.cnt l0 a1)) = true ∧ t = true
    · exact hh
    · rw [if_neg hh] at h; cases h
  rw [if_pos hh] at h
  cases h
  obtain ⟨hne, rfl⟩ := hh
  obtain ⟨n, hn⟩ : ∃ n, n = crc_row.start l0 a1 := ⟨_, rfl⟩
  obtain ⟨m, hm⟩ : ∃ m, m = crc_row.cnt l0 a1 := ⟨_, rfl⟩
  have hnl : n ≤ l0.length := by rw [hn]; unfold crc_row.start; have := Int.emod_lt_of_pos a1 (show 0 < (l0.length : Int) + 1 by omega); omega
  have hmd : m = min 4 (l0.length - n) := by rw [hm, hn]; rfl
  have hnv : a1 % ((l0.length : Int) + 1) = (n : Int) := by rw [hn]; unfold crc_row.start; have := Int.emod_nonneg a1 (show (l0.length : Int) + 1 ≠ 0 by omega); omega
  rw [← hm, ← hn] at hx
  rw [← hm] at hne
  have X := Aside0.mk hx
  have Y := Aside0.mk hy
  have T := Aside0.mk ht
  have NE := Aside0.mk hne
  have HR := Aside0.mk hr0
  have HC := Aside0.mk hc0
  clear hx hy ht hne hr0 hc0 hn hm
  have hw1 : wrap64 ((l0.length : Int) + 1) = (l0.length : Int) + 1 := by unfold wrap64; omega
  have hw2 : ((l0.length : Int) + 1) % 18446744073709551616 = (l0.length : Int) + 1 := by omega
  have hw3 : wrap64 (n : Int) = (n : Int) := by unfold wrap64; omega
  have hnz : ¬ ((l0.length : Int) + 1 = 0) := by omega
  have HB := Aside0.mk (Below.refl w.heap.size w)
  have hcp : cohortref00_Copy.f l0 = some l0 := by
    unfold cohortref00_Copy.f
    rw [if_pos (by simp; omega)]; rfl
  have CP := Aside0.mk hcp
  clear hcp
  go_enter Try.func5, Try.ntmps5
  go_wp2_with (first
    | ((with_reducible refine gate_dst (N := 5) rfl ?_); refine box_event ?hg (N := 5) ?hd (cs := #[.int .u8 b0, .int .u8 b1, .int .u8 b2, .int .u8 b3]) (t := 35) ?hr ?_; (case hd => rfl); (case hg => rfl); (case hr => first | (go_simp; done) | (go_simp; rfl)); intro gb hg w1 hbox hb; have n0 := Aside0.mk (below_step (by repeat (first | (with_reducible first | exact HB.out | apply below_alloc | apply pw_below_drewN | apply below_drew1) | exact HB.out)) hb); have BK := Aside0.mk hbox; have GB := Aside0.mk (show gb = w.heap.size from hg); have GL := Aside0.mk (blk_lt hbox); clear HB hb hbox hg; have HB := n0; clear n0)
    | (go_at_call 18; with_reducible refine (cohortref00_Copy.calls A0 c0 l0 l0 _ ?s1 HC.out CP.out).mono ?_; (case s1 => exact Kd.C_below HR.out HB.out); rintro e w2 ⟨v, rfl, ho, hb⟩; have n0 := Aside0.mk (below_step (by repeat (first | (with_reducible first | exact HB.out | apply below_alloc | apply pw_below_drewN | apply below_drew1) | exact HB.out)) hb); have n1 := Aside0.mk (blk_below BK.out hb); clear HB BK hb; have HB := n0; have BK := n1; clear n0 n1; have HO := Aside0.mk ho; clear ho; obtain ⟨A, c, eA⟩ := Kd.R_slice HO.out; subst eA))
  clear hnv hw1 hw2 hw3 hnz h0 h1
  have hBW := Aside0.mk (show w.heap.size ≤ w1.heap.size from Nat.le_of_lt (Nat.lt_of_le_of_lt (Nat.le_of_eq GB.out.symm) GL.out))
  generalize hw1e : w1.heap.size = base1 at HO GL hBW
  go_loopw [8, 10] (fun v8 v10 w' => ∃ i : Nat, i ≤ m ∧ v10 = .int .i64 i ∧ v8 = .bool (crc_chg [b0, b1, b2, b3] i) ∧ Aside0 (Kd.R (Kd.int .u8) 5 w' base1 (fun _ => True) (.slice A l0.length c) (crc_pt l0 n [b0, b1, b2, b3] i)) ∧ Aside0 (Below w.heap.size w w') ∧ Aside0 (w'.heap[gb]? = some (.cells #[.int .u8 b0, .int .u8 b1, .int .u8 b2, .int .u8 b3] 35 (0, 0)))) (fun _ v10 _ => 4 - (intOf v10).toNat)
  case atStart => exact ⟨0, by omega, rfl, rfl, HO, HB, BK⟩
  case round =>
    clear HO HB BK
    obtain ⟨i, hi, rfl, rfl, HO, HB, BK⟩ := hrel
    have hm4 : m ≤ 4 := by rw [hmd]; exact Nat.min_le_left _ _
    have hml : m ≤ l0.length - n := by rw [hmd]; exact Nat.min_le_right _ _
    by_cases hlt : i < m
    · have q0 : i < 4 := by omega
      have q1 : n + i < l0.length := by omega
      have q2 : (i : Int) < 4 := by omega
      have q3 : ((n + i : Nat) : Int) < (l0.length : Int) := by omega
      have q4 : (0 : Int) ≤ ((n + i : Nat) : Int) := by omega
      have q5 : (0 : Int) ≤ (n : Int) + (i : Int) := by omega
      have q6 : (n : Int) + (i : Int) < (l0.length : Int) := by omega
      have q7 : ((n : Int) + (i : Int)).toNat = n + i := by omega
      have q8 : (0 : Int) ≤ (i : Int) := by omega
      have hwi : wrap64 ((n : Int) + (i : Int)) = ((n + i : Nat) : Int) := crc_small (n + i) (by clear hmd; omega)
      have hwi1 : wrap64 ((i : Int) + 1) = ((i + 1 : Nat) : Int) := crc_small (i + 1) (by clear hmd hwi; omega)
      obtain ⟨g, hA⟩ : ∃ g, A = some ⟨g, 0, none⟩ := by
        rcases (Kd.own_of_R (show (Kd.scalar (Value.int .u8) (fun _ => rfl)).R 5 wr base1 (fun _ => True) (.slice A l0.length c) (crc_pt l0 n [b0, b1, b2, b3] i) from HO.out)).2 with ⟨_, hz⟩ | ⟨g, cap, cur, hv, _⟩
        · rw [crc_pt_length] at hz; omega
        · injection hv with h1 _ _; exact ⟨g, h1⟩
      subst hA
      obtain ⟨cc, _, hM, hcc, hff⟩ := Kd.R_elem HO.out (0 : Int) ((n + i : Nat) : Int) (by omega) (by omega)
      have hcell : wr.cell? ⟨g, n + i, none⟩ = some (.int .u8 (rd (crc_pt l0 n [b0, b1, b2, b3] i) ((n + i : Nat) : Int))) := by
        have h1 := hcc 0 (.int .u8 (rd (crc_pt l0 n [b0, b1, b2, b3] i) ((n + i : Nat) : Int))) (by rw [show cc = [_] from hM]; rfl)
        rw [Int.toNat_natCast, show (Kd.int .u8).sz = 1 from rfl, Nat.mul_one, Nat.add_zero] at h1
        exact h1
      have hfz : wr.frozen? ⟨g, n + i, none⟩ = false := by
        have h1 := hff 0
        rw [Int.toNat_natCast, show (Kd.int .u8).sz = 1 from rfl, Nat.mul_one, Nat.add_zero] at h1
        exact h1
      clear hcc hff hM
      have HMD := Aside0.mk hmd
      clear hmd hml hm4
      have hby : wr.cell? ⟨gb, i, none⟩ = some (.int .u8 (rd [b0, b1, b2, b3] (i : Int))) := by
        rw [blk_cell BK.out]
        rcases (by omega : i = 0 ∨ i = 1 ∨ i = 2 ∨ i = 3) with rfl | rfl | rfl | rfl <;> rfl
      go_wp2
      refine start_ (n := 16) (S := fun w' => w'.cell? ⟨g, n + i, none⟩ = some (.int .u8 (rd (crc_pt l0 n [b0, b1, b2, b3] i) ((n + i : Nat) : Int))) ∧ w'.cell? ⟨gb, i, none⟩ = some (.int .u8 (rd [b0, b1, b2, b3] (i : Int)))) (ds := [15]) #[false, false, false, false, false, false, false, false, false, false, false, false, false, false, false, false] (by kernel_rfl) rfl rfl ⟨hcell, hby⟩ (fun hHeld => ?_)
      refine pure_ (i := 0) (N := some 32) (v := ?_) (a' := ?_) #[true, false, false, false, false, false, false, false, false, false, false, false, false, false, false, false] rfl rfl (by kernel_rfl) (fun _ _ _ h => h) (Or.inl ⟨by rfl, ?_⟩) ?_ ?_
      rotate_left
      · intro w'
        go_simp
        with_reducible rfl
      rotate_left
      · simp only [Act.put, List.setIfInBounds_toArray, List.set_cons_zero, List.set_cons_succ, i64_w, i32_w]
        rfl
      refine pure_ (i := 1) (N := some 33) (v := ?_) (a' := ?_) #[true, true, false, false, false, false, false, false, false, false, false, false, false, false, false, false] rfl rfl (by kernel_rfl) (fun _ _ _ h => h) (Or.inl ⟨by rfl, ?_⟩) ?_ ?_
      rotate_left
      · intro w'
        go_simp
        with_reducible rfl
      rotate_left
      · simp only [Act.put, List.setIfInBounds_toArray, List.set_cons_zero, List.set_cons_succ, i64_w, i32_w]
        rfl
      refine pure_ (i := 2) (N := some 34) (v := ?_) (a' := ?_) #[true, true, true, false, false, false, false, false, false, false, false, false, false, false, false, false] rfl rfl (by kernel_rfl) (fun _ _ _ h => h) (Or.inl ⟨by rfl, ?_⟩) ?_ ?_
      rotate_left
      · intro w'
        go_simp
        with_reducible rfl
      rotate_left
      · simp only [Act.put, List.setIfInBounds_toArray, List.set_cons_zero, List.set_cons_succ, i64_w, i32_w]
        rfl
      refine pure_ (i := 3) (N := some 35) (v := ?_) (a' := ?_) #[true, true, true, true, false, false, false, false, false, false, false, false, false, false, false, false] rfl rfl (by kernel_rfl) (fun _ _ _ h => h) (Or.inl ⟨by rfl, ?_⟩) ?_ ?_
      rotate_left
      · intro w'
        go_simp
        with_reducible rfl
      rotate_left
      · simp only [Act.put, List.setIfInBounds_toArray, List.set_cons_zero, List.set_cons_succ, i64_w, i32_w]
        rfl
      refine pure_ (i := 4) (N := some 36) (v := ?_) (a' := ?_) #[true, true, true, true, true, false, false, false, false, false, false, false, false, false, false, false] rfl rfl (by kernel_rfl) (fun _ _ _ h => h) (Or.inl ⟨by rfl, ?_⟩) ?_ ?_
      rotate_left
      · intro w'
        go_simp
        with_reducible rfl
      rotate_left
      · simp only [Act.put, List.setIfInBounds_toArray, List.set_cons_zero, List.set_cons_succ, i64_w, i32_w]
        rfl
      refine pure_ (i := 5) (N := some 37) (v := ?_) (a' := ?_) #[true, true, true, true, true, true, false, false, false, false, false, false, false, false, false, false] rfl rfl (by kernel_rfl) (fun _ _ _ h => h) (Or.inl ⟨by rfl, ?_⟩) ?_ ?_
      rotate_left
      · intro w'
        go_simp
        with_reducible rfl
      rotate_left
      · simp only [Act.put, List.setIfInBounds_toArray, List.set_cons_zero, List.set_cons_succ, i64_w, i32_w]
        rfl
      refine pure_ (i := 6) (N := some 38) (v := ?_) (a' := ?_) #[true, true, true, true, true, true, true, false, false, false, false, false, false, false, false, false] rfl rfl (by kernel_rfl) (fun _ _ _ h => h) (Or.inl ⟨by rfl, ?_⟩) ?_ ?_
      rotate_left
      · intro w'
        go_simp
        with_reducible rfl
      rotate_left
      · simp only [Act.put, List.setIfInBounds_toArray, List.set_cons_zero, List.set_cons_succ, i64_w, i32_w]
        rfl
      refine pure_ (i := 7) (N := some 39) (v := ?_) (a' := ?_) #[true, true, true, true, true, true, true, true, false, false, false, false, false, false, false, false] rfl rfl (by kernel_rfl) (fun _ _ _ h => h) (Or.inl ⟨by rfl, ?_⟩) ?_ ?_
      rotate_left
      · intro w'
        go_simp
        with_reducible rfl
      rotate_left
      · simp only [Act.put, List.setIfInBounds_toArray, List.set_cons_zero, List.set_cons_succ, i64_w, i32_w]
        rfl
      refine pure_ (i := 8) (N := some 40) (v := ?_) (a' := ?_) #[true, true, true, true, true, true, true, true, true, false, false, false, false, false, false, false] rfl rfl (by kernel_rfl) (fun _ _ _ h => h) (Or.inl ⟨by rfl, ?_⟩) ?_ ?_
      rotate_left
      · intro w'
        go_simp
        with_reducible rfl
      rotate_left
      · simp only [Act.put, List.setIfInBounds_toArray, List.set_cons_zero, List.set_cons_succ, i64_w, i32_w]
        rfl
      refine pure_ (i := 10) (N := some 42) (v := ?_) (a' := ?_) #[true, true, true, true, true, true, true, true, true, false, true, false, false, false, false, false] rfl rfl (by kernel_rfl) (fun _ _ _ h => h) (Or.inl ⟨by rfl, ?_⟩) ?_ ?_
      rotate_left
      · intro w'
        go_simp
        with_reducible rfl
      rotate_left
      · simp only [Act.put, List.setIfInBounds_toArray, List.set_cons_zero, List.set_cons_succ, i64_w, i32_w]
        rfl
      refine pure_ (i := 11) (N := some 43) (v := ?_) (a' := ?_) #[true, true, true, true, true, true, true, true, true, false, true, true, false, false, false, false] rfl rfl (by kernel_rfl) (fun _ _ _ h => h) (Or.inl ⟨by rfl, ?_⟩) ?_ ?_
      rotate_left
      · intro w'
        go_simp
        with_reducible rfl
      rotate_left
      · simp only [Act.put, List.setIfInBounds_toArray, List.set_cons_zero, List.set_cons_succ, i64_w, i32_w]
        rfl
      refine take_ (i := 9) (N := some 41) (v := ?_) (a' := ?_) #[true, true, true, true, true, true, true, true, true, true, true, true, false, false, false, false] rfl rfl (by kernel_rfl) (fun _ _ _ h => h) (Or.inl ⟨by rfl, ?_⟩) hHeld ?_ ?_
      rotate_left
      · rintro w' ⟨s0, s1⟩
        go_simp
        with_reducible rfl
      rotate_left
      · simp only [Act.put, List.setIfInBounds_toArray, List.set_cons_zero, List.set_cons_succ, i64_w, i32_w]
        rfl
      refine take_ (i := 12) (N := some 44) (v := ?_) (a' := ?_) #[true, true, true, true, true, true, true, true, true, true, true, true, true, false, false, false] rfl rfl (by kernel_rfl) (fun _ _ _ h => h) (Or.inl ⟨by rfl, ?_⟩) hHeld ?_ ?_
      rotate_left
      · rintro w' ⟨s0, s1⟩
        go_simp
        with_reducible rfl
      rotate_left
      · simp only [Act.put, List.setIfInBounds_toArray, List.set_cons_zero, List.set_cons_succ, i64_w, i32_w]
        rfl
      refine pure_ (i := 13) (N := some 45) (v := ?_) (a' := ?_) #[true, true, true, true, true, true, true, true, true, true, true, true, true, true, false, false] rfl rfl (by kernel_rfl) (fun _ _ _ h => h) (Or.inl ⟨by rfl, ?_⟩) ?_ ?_
      rotate_left
      · intro w'
        go_simp
        with_reducible rfl
      rotate_left
      · simp only [Act.put, List.setIfInBounds_toArray, List.set_cons_zero, List.set_cons_succ, i64_w, i32_w]
        rfl
      refine pure_ (i := 14) (N := some 46) (v := ?_) (a' := ?_) #[true, true, true, true, true, true, true, true, true, true, true, true, true, true, true, false] rfl rfl (by kernel_rfl) (fun _ _ _ h => h) (Or.inl ⟨by rfl, ?_⟩) ?_ ?_
      rotate_left
      · intro w'
        go_simp
        with_reducible rfl
      rotate_left
      · simp only [Act.put, List.setIfInBounds_toArray, List.set_cons_zero, List.set_cons_succ, i64_w, i32_w]
        rfl
      refine last_ (i := 15) (N := none) #[true, true, true, true, true, true, true, true, true, true, true, true, true, true, true, true] rfl rfl (by kernel_rfl) (by decide) (fun K hK => ?_)
      refine skip_ (w1 := ?_) (by rfl) rfl ?_ ?_
      rotate_left
      · go_simp
        rfl
      refine hK.out _ _ ?_
      clear hK K
      refine done_ (by kernel_rfl) ?_
      have hgb : base1 ≤ g := by
        rcases (Kd.own_of_R (show (Kd.scalar (Value.int .u8) (fun _ => rfl)).R 5 wr base1 (fun _ => True) (.slice (some ⟨g, 0, none⟩) l0.length c) (crc_pt l0 n [b0, b1, b2, b3] i) from HO.out)).2 with ⟨h0, hz⟩ | ⟨g', cap, cur, hv, hh, _⟩
        · cases h0
        · injection hv with h1 _ _; injection h1 with h1; injection h1 with h1; rw [h1]; exact hh
      have hgn : gb ≠ g := Nat.ne_of_lt (Nat.lt_of_lt_of_le GL.out hgb)
      have HO1 : (Kd.scalar (Value.int .u8) (fun _ => rfl)).R 5 wr base1 (fun _ => True) (.slice (some ⟨g, 0, none⟩) l0.length c) (crc_pt l0 n [b0, b1, b2, b3] i) := HO.out
      have HO2 := (Kd.R_putg HO1 ((n + i : Nat) : Int) (Go.bits .xor .u8 (rd (crc_pt l0 n [b0, b1, b2, b3] i) ((n + i : Nat) : Int)) (rd [b0, b1, b2, b3] (i : Int)))).1
      have HB2 := below_set (j := n + i) (v := (.int .u8 (Go.bits .xor .u8 (rd (crc_pt l0 n [b0, b1, b2, b3] i) ((n + i : Nat) : Int)) (rd [b0, b1, b2, b3] (i : Int))))) HB.out (Nat.le_trans hBW.out hgb)
      have BK2 := blk_far (p := ⟨g, n + i, none⟩) BK.out hgn (.int .u8 (Go.bits .xor .u8 (rd (crc_pt l0 n [b0, b1, b2, b3] i) ((n + i : Nat) : Int)) (rd [b0, b1, b2, b3] (i : Int))))
      rw [Int.toNat_natCast] at HO2
      have en : ((n + i : Nat) : Int) = (n : Int) + (i : Int) := Int.natCast_add n i
      rw [← en]
      generalize hW2 : wr.setCell { block := g, off := n + i } (Value.int IntKind.u8 (Go.bits .xor .u8 (rd (crc_pt l0 n [b0, b1, b2, b3] i) ((n + i : Nat) : Int)) (rd [b0, b1, b2, b3] (i : Int)))) = W2 at HO2 HB2 BK2 ⊢
      have HO3 := Aside0.mk (show Kd.R (Kd.int .u8) 5 W2 base1 (fun _ => True) (.slice (some ⟨g, 0, none⟩) l0.length c) (crc_pt l0 n [b0, b1, b2, b3] (i + 1)) from HO2)
      have HB3 := Aside0.mk HB2
      have BK3 := Aside0.mk BK2
      have hby : W2.cell? ⟨gb, i, none⟩ = some (.int .u8 (rd [b0, b1, b2, b3] (i : Int))) := by
        rw [blk_cell BK2]
        rcases (by omega : i = 0 ∨ i = 1 ∨ i = 2 ∨ i = 3) with rfl | rfl | rfl | rfl <;> rfl
      clear hHeld hW2 HO2 HB2 BK2 HO1 en q1 q3 q4 q5 q6 q7 hwi HO HB BK
      have hch : crc_chg [b0, b1, b2, b3] (i + 1) = (crc_chg [b0, b1, b2, b3] i || (rd [b0, b1, b2, b3] (i : Int) != 0)) := rfl
      have HCH := Aside0.mk hch
      clear hch
      by_cases hcg : crc_chg [b0, b1, b2, b3] i = true
      · rw [hcg] at HCH ⊢
        go_wp2
        exact ⟨⟨i + 1, hlt, by rw [Int.natCast_add]; rfl, by rw [HCH.out]; rfl, HO3, Aside0.mk (below_drew1 HB3.out), BK3⟩, by simp only [intOf]; omega⟩
      · rw [Bool.not_eq_true] at hcg
        rw [hcg] at HCH ⊢
        go_wp2
        exact ⟨⟨i + 1, hlt, by rw [Int.natCast_add]; rfl, by rw [HCH.out]; rfl, HO3, Aside0.mk (below_drew1 HB3.out), BK3⟩, by simp only [intOf]; omega⟩
    · have him : i = m := Nat.le_antisymm hi (Nat.le_of_not_lt hlt)
      subst him
      have hRd := Kd.R_reads' (show (Kd.scalar (Value.int .u8) (fun _ => rfl)).R 5 wr base1 (fun _ => True) (.slice A l0.length c) (crc_pt l0 n [b0, b1, b2, b3] i) from HO.out)
      have hl2 : l0.length = (crc_pt l0 n [b0, b1, b2, b3] i).length := (crc_pt_length _ _ _ _).symm
      have hC2 := Aside0.mk (show Kd.C (Kd.int .u8) wr A (crc_pt l0 n [b0, b1, b2, b3] i).length (crc_pt l0 n [b0, b1, b2, b3] i) from hRd.2.2)
      have hc2 := Aside0.mk (show (crc_pt l0 n [b0, b1, b2, b3] i).length ≤ c by rw [← hl2]; exact hRd.2.1)
      have hWW := Aside0.mk (Below.refl wr.heap.size wr)
      have hne2 : ((x == y) == crc_chg [b0, b1, b2, b3] i) = false := by
        have h1 := NE.out
        cases h2 : ((x == y) == crc_chg [b0, b1, b2, b3] i) with
        | false => rfl
        | true => unfold bne at h1; rw [h2] at h1; exact absurd h1 (by decide)
      have CX := Aside0.mk (show ∀ W : World, Below wr.heap.size wr W → Calls Try.prog 14 #[.slice A l0.length c] W fun e w' => e = .returned (.int .u32 x) ∧ Below W.heap.size W w' from by
        intro W hW
        rw [hl2]
        exact crc_Of.calls k A c _ x W (Kd.C_below hC2.out hW) hc2.out X.out)
      have HL2 := Aside0.mk hl2
      clear hRd hl2 hlt hi hm4 hml
      rcases (by omega : i = 4 ∨ (i < 4 ∧ n + i = l0.length)) with h4 | ⟨h4, hnl2⟩
      · have q2 : ¬ (i : Int) < 4 := by rw [h4]; decide
        have HMD := Aside0.mk hmd
        have H4 := Aside0.mk h4
        clear hmd h4
        go_wp2_with (first
          | (go_at_call 14; (with_reducible refine (CX.out _ (by repeat (first | (with_reducible first | exact hWW.out | apply below_alloc | apply pw_below_drewN | apply below_drew1) | exact hWW.out))).mono ?_); rintro e wA ⟨rfl, hb⟩; have m0 := Aside0.mk (below_step (by repeat (first | (with_reducible first | exact hWW.out | apply below_alloc | apply pw_below_drewN | apply below_drew1) | exact hWW.out)) hb); clear hWW; have hWW := m0; clear m0; have n0 := Aside0.mk (below_step (by repeat (first | (with_reducible first | exact HB.out | apply below_alloc | apply pw_below_drewN | apply below_drew1) | exact HB.out)) hb); clear HB hb; have HB := n0; clear n0)
          | (go_at_call 14; (with_reducible refine (crc_Of.calls k A0 c0 l0 y _ (Kd.C_below HR.out (by repeat (first | (with_reducible first | exact HB.out | apply below_alloc | apply pw_below_drewN | apply below_drew1) | exact HB.out))) HC.out Y.out).mono ?_); rintro e wA ⟨rfl, hb⟩; have m0 := Aside0.mk (below_step (by repeat (first | (with_reducible first | exact hWW.out | apply below_alloc | apply pw_below_drewN | apply below_drew1) | exact hWW.out)) hb); clear hWW; have hWW := m0; clear m0; have n0 := Aside0.mk (below_step (by repeat (first | (with_reducible first | exact HB.out | apply below_alloc | apply pw_below_drewN | apply below_drew1) | exact HB.out)) hb); clear HB hb; have HB := n0; clear n0)
          | (go_at_call 17; (with_reducible refine (cohortlaw03_lives.calls k true _ T.out).mono ?_); rintro e wA ⟨rfl, hb⟩; have m0 := Aside0.mk (below_step (by repeat (first | (with_reducible first | exact hWW.out | apply below_alloc | apply pw_below_drewN | apply below_drew1) | exact hWW.out)) hb); clear hWW; have hWW := m0; clear m0; have n0 := Aside0.mk (below_step (by repeat (first | (with_reducible first | exact HB.out | apply below_alloc | apply pw_below_drewN | apply below_drew1) | exact HB.out)) hb); clear HB hb; have HB := n0; clear n0))
        go_ret
        exact ⟨rfl, by repeat (first | (with_reducible first | exact HB.out | apply below_alloc | apply pw_below_drewN | apply below_drew1) | exact HB.out)⟩
      · have q2 : (i : Int) < 4 := by clear hmd; omega
        have q3 : ¬ (((n + i : Nat) : Int) < (l0.length : Int)) := by clear hmd; omega
        have hwi : wrap64 ((n : Int) + (i : Int)) = ((n + i : Nat) : Int) := crc_small (n + i) (by clear hmd; omega)
        have HMD := Aside0.mk hmd
        have H4 := Aside0.mk h4
        have HN2 := Aside0.mk hnl2
        clear hmd h4 hnl2
        go_wp2_with (first
          | (go_at_call 14; (with_reducible refine (CX.out _ (by repeat (first | (with_reducible first | exact hWW.out | apply below_alloc | apply pw_below_drewN | apply below_drew1) | exact hWW.out))).mono ?_); rintro e wA ⟨rfl, hb⟩; have m0 := Aside0.mk (below_step (by repeat (first | (with_reducible first | exact hWW.out | apply below_alloc | apply pw_below_drewN | apply below_drew1) | exact hWW.out)) hb); clear hWW; have hWW := m0; clear m0; have n0 := Aside0.mk (below_step (by repeat (first | (with_reducible first | exact HB.out | apply below_alloc | apply pw_below_drewN | apply below_drew1) | exact HB.out)) hb); clear HB hb; have HB := n0; clear n0)
          | (go_at_call 14; (with_reducible refine (crc_Of.calls k A0 c0 l0 y _ (Kd.C_below HR.out (by repeat (first | (with_reducible first | exact HB.out | apply below_alloc | apply pw_below_drewN | apply below_drew1) | exact HB.out))) HC.out Y.out).mono ?_); rintro e wA ⟨rfl, hb⟩; have m0 := Aside0.mk (below_step (by repeat (first | (with_reducible first | exact hWW.out | apply below_alloc | apply pw_below_drewN | apply below_drew1) | exact hWW.out)) hb); clear hWW; have hWW := m0; clear m0; have n0 := Aside0.mk (below_step (by repeat (first | (with_reducible first | exact HB.out | apply below_alloc | apply pw_below_drewN | apply below_drew1) | exact HB.out)) hb); clear HB hb; have HB := n0; clear n0)
          | (go_at_call 17; (with_reducible refine (cohortlaw03_lives.calls k true _ T.out).mono ?_); rintro e wA ⟨rfl, hb⟩; have m0 := Aside0.mk (below_step (by repeat (first | (with_reducible first | exact hWW.out | apply below_alloc | apply pw_below_drewN | apply below_drew1) | exact hWW.out)) hb); clear hWW; have hWW := m0; clear m0; have n0 := Aside0.mk (below_step (by repeat (first | (with_reducible first | exact HB.out | apply below_alloc | apply pw_below_drewN | apply below_drew1) | exact HB.out)) hb); clear HB hb; have HB := n0; clear n0))
        go_ret
        exact ⟨rfl, by repeat (first | (with_reducible first | exact HB.out | apply below_alloc | apply pw_below_drewN | apply below_drew1) | exact HB.out)⟩
end Go.Proofs.Ytihlnchmgcmdiaa.GD
