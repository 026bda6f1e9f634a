/- Blocks in memory: loads, stores and copies of 64 bytes. No condition. -/
import Derived.Test.YtlnfdhcpnbhkdaaD9
import Derived.Laws.CopyOwn
import Derived.ChangeKeysEq
import Derived.Deep.RegionHeld3
import Derived.Deep.MidRow
namespace Go.Proofs.Ytlnfdhcpnbhkdaa.GA
open Go.RowKit Go.Proofs.YtlnfdhcpnbhkdaaW.PrintWords Go.Proofs.YtlnfdhcpnbhkdaaW.PrintLast Go.Proofs.YtlnfdhcpnbhkdaaW.PrintMore
set_option linter.unusedVariables false
set_option linter.unusedSimpArgs false


/-- the held bytes behind write k, by its pick -/
def crashAt (l : List (Int × List Int)) (p : List Int) (k : Nat) (H : List Int) : List Int := if k < p.length then splice H ((l.getD k (0, [])).1.toNat * 64 + (partR (rd p k)).1) (((l.getD k (0, [])).2.drop (partR (rd p k)).1).take ((partR (rd p k)).2 - (partR (rd p k)).1)) else H
def crashTo (H : List Int) (l : List (Int × List Int)) (p : List Int) : Nat → List Int
  | 0 => H
  | k + 1 => crashAt l p k (crashTo H l p k)
/-- a disk behind a crash -/
def DS.crash (s : DS) (p : List Int) : DS := { asked := crashTo s.held s.btw p s.btw.length, held := crashTo s.held s.btw p s.btw.length, btw := [], al := 0, st := s.st, ni := false }
theorem part_cases (p : Int) : partR p = (0, 0) ∨ partR p = (0, 64) ∨ partR p = (0, 32) ∨ partR p = (32, 64) := by
  unfold partR
  split
  · exact .inl rfl
  · split
    · exact .inr (.inl rfl)
    · split
      · exact .inr (.inr (.inl rfl))
      · exact .inr (.inr (.inr rfl))
theorem Rep.heldTo {B : Nat} {w w' : World} {gd ga gh n : Nat} {bt : Value} {s : DS} (r : Rep B w gd ga gh n bt s) (H : List Int) (hl : H.length = n * 64) (hh : w'.heap[gh]? = some (.cells (bcells H) 29 (0, 0))) (ho : ∀ k, k ≠ gh → w'.heap[k]? = w.heap[k]?) : Rep B w' gd ga gh n bt { s with held := H } where
  d := (ho gd (fun e => r.dne.2 e.symm)).trans r.d
  a := (ho ga r.ne).trans r.a
  h := hh
  b := r.b.move (fun k hk => ho k (r.b.ne r.h (by decide) hk))
  bd := r.bd
  ba := r.ba
  bh := r.bh
  ne := r.ne
  la := r.la
  lh := hl
  n0 := r.n0
  ok := r.ok
  al0 := r.al0
  al1 := r.al1
  st0 := r.st0
theorem Rep.askedTo {B : Nat} {w w' : World} {gd ga gh n : Nat} {bt : Value} {s : DS} (r : Rep B w gd ga gh n bt s) (A : List Int) (hl : A.length = n * 64) (hh : w'.heap[ga]? = some (.cells (bcells A) 29 (0, 0))) (ho : ∀ k, k ≠ ga → w'.heap[k]? = w.heap[k]?) : Rep B w' gd ga gh n bt { s with asked := A } where
  d := (ho gd (fun e => r.dne.1 e.symm)).trans r.d
  a := hh
  h := (ho gh (fun e => r.ne e.symm)).trans r.h
  b := r.b.move (fun k hk => ho k (r.b.ne r.a (by decide) hk))
  bd := r.bd
  ba := r.ba
  bh := r.bh
  ne := r.ne
  la := hl
  lh := r.lh
  n0 := r.n0
  ok := r.ok
  al0 := r.al0
  al1 := r.al1
  st0 := r.st0
theorem Rep.none {B : Nat} {w w' : World} {gd ga gh n : Nat} {bt : Value} {s : DS} (r : Rep B w gd ga gh n bt s) (al : Int) (ni : Bool) (h0 : 0 ≤ al) (h1 : al < 9223372036854775808) (hd : w'.heap[gd]? = some (.cells (drow (.slice (some ⟨ga, 0, none⟩) n n) (some ⟨gh, 0, none⟩) n n (.slice none 0 0) al s.st ni) 60 (0, 0))) (ho : ∀ k, k ≠ gd → w'.heap[k]? = w.heap[k]?) : Rep B w' gd ga gh n (.slice none 0 0) { s with btw := [], al := al, ni := ni } where
  d := hd
  a := (ho ga r.dne.1).trans r.a
  h := (ho gh r.dne.2).trans r.h
  b := Kd.R_nil _ _ _ _ _
  bd := r.bd
  ba := r.ba
  bh := r.bh
  ne := r.ne
  la := r.la
  lh := r.lh
  n0 := r.n0
  ok := fun x hx => absurd hx (by simp)
  al0 := h0
  al1 := h1
  st0 := r.st0


theorem part_src {w : World} {gz : Nat} {i : Int} {b : List Int} (hz : w.heap[gz]? = some (.cells (askC i b) 65 (0, 0))) (hb : b.length = 64) (f m q : Nat) (hq : q < m) (hfm : f + m ≤ 64) : w.cell? ⟨gz, 1 + f + q, none⟩ = some (.int .u8 (rd ((b.drop f).take m) (q : Int))) := by
  rw [blk_cell hz, show 1 + f + q = 1 + (f + q) by omega, askC_b i b (f + q) (by omega)]
  unfold rd
  rw [Int.toNat_natCast, Int.toNat_natCast, List.getD_eq_getElem?_getD, List.getD_eq_getElem?_getD, List.getElem?_take_of_lt hq, List.getElem?_drop]

set_option maxHeartbeats 16000000 in
set_option maxRecDepth 100000 in
theorem Crash.calls (w : World) (B gd ga gh n : Nat) (bt : Value) (s : DS) (r : Rep B w gd ga gh n bt s) (A : Option Addr) (c : Nat) (p : List Int) (hlb : s.btw.length ≤ 4611686018427387904) (hp : ∀ w', Below B w w' → Fr w w' → Kd.C (Kd.int .i64) w' A p.length p) :
    Calls Try.prog 17 #[.pointer (some ⟨gd, 0, none⟩), .slice A p.length c] w fun e' w' => e' = .returned (.int .i64 0) ∧ Rep B w' gd ga gh n (.slice none 0 0) (s.crash p) ∧ Below B w w' ∧ Fr w w' := by
  have HLB := Aside0.mk hlb
  have HPK := Aside0.mk hp
  obtain ⟨Aq, cq, eq⟩ := Kd.R_slice r.b
  subst eq
  have hg := r.d
  have hn := r.n0
  have x2 : w.cell? ⟨gd, 2, none⟩ = some (.slice Aq s.btw.length cq) := (blk_cell hg 2).trans rfl
  have RR := Aside0.mk r
  have HX := Aside0.mk (Below.refl B w)
  have FR := Aside0.mk (Fr.refl w)
  clear hp r
  go_enter Try.func17, Try.ntmps17
  go_wp2_with (go_at_call 31; with_reducible refine (known.ok _ gd _ _ n n _ s.al s.st s.ni hg 0 hn (Int.le_refl 0) (by omega)).mono ?_; rintro e' w' ⟨rfl, hw⟩; subst w')
  go_loopw [20] (fun v20 w' => ∃ k : Nat, k ≤ s.btw.length ∧ v20 = .int .i64 k ∧ Aside0 (Rep B w' gd ga gh n (.slice Aq s.btw.length cq) { s with held := crashTo s.held s.btw p k }) ∧ Aside0 (Below B w w') ∧ Aside0 (Fr w w')) (fun v20 _ => s.btw.length - (intOf v20).toNat)
  case atStart => exact ⟨0, Nat.zero_le _, rfl, RR, HX, FR⟩
  case round =>
    clear RR HX FR x2 hg
    obtain ⟨k, hk, rfl, RR, HX, FR⟩ := hrel
    by_cases hlt : k < s.btw.length
    · have k1 : (0 : Int) ≤ (k : Int) := Int.natCast_nonneg k
      have k2 : (k : Int) < (s.btw.length : Int) := by omega
      have k3 : wrap64 ((k : Int) + 1) = (k : Int) + 1 := by
        have h1 : s.btw.length ≤ 4611686018427387904 := HLB.out
        unfold wrap64; omega
      obtain ⟨x, hx⟩ : ∃ x, s.btw[k]? = some x := ⟨_, List.getElem?_eq_getElem hlt⟩
      obtain ⟨gq, c', eA, hb64, hrg, cur, hcur⟩ := AskOwn.at RR.out.b k x hx
      have hok := RR.out.ok x (List.mem_of_getElem? hx)
      obtain ⟨xi, xb⟩ := x
      obtain ⟨j, rfl⟩ := Int.eq_ofNat_of_zero_le hok.1
      injection eA with eA _ ec
      subst eA
      subst ec
      have LB := Aside0.mk (show xb.length = 64 from hb64)
      have RG := Aside0.mk (show wr.rangeAt gq (k * 65) (.int .i64 (j : Int) :: encs (Value.int .u8) xb) from hrg)
      have HJ := Aside0.mk (show j < n from by have := hok.2.1; simp only at this; omega)
      have HG := Aside0.mk (show s.btw.getD k (0, []) = ((j : Int), xb) from by rw [List.getD_eq_getElem?_getD, hx]; rfl)
      have j0 : (0 : Int) ≤ (j : Int) := Int.natCast_nonneg j
      have j1 : (j : Int) < (n : Int) := by have := HJ.out; omega
      have HB := Aside0.mk (Below.refl wr.heap.size wr)
      clear hx hb64 hrg hcur hok cur
      by_cases hlp : k < p.length
      · have k4 : (k : Int) < (p.length : Int) := by omega
        go_upto_region 8 with (first
          | ((with_reducible refine gate_dst (N := 24) rfl ?_); refine wpList_load_ask rfl (.tmp 23) rfl gq (k * 65) rfl (j : Int) xb LB.out RG.out ?_)
          | ((with_reducible refine gate_dst (N := 7) rfl ?_); refine box_event ?hg (N := 7) ?hd (cs := askC 0 zero64) (t := 65) ?hr ?_; (case hd => rfl); (case hg => rfl); (case hr => exact alloc65_run rfl _); intro gz hg w1z hbox hb; have Gz := Aside0.mk (show wr.heap.size ≤ gz from by rw [hg]; exact below_size (by repeat (first | (with_reducible first | exact HB.out | apply below_alloc | apply pw_below_drewN | apply below_drew1) | exact HB.out))); have BKz := Aside0.mk hbox; clear hbox hg; have n0_ := Aside0.mk (below_step (by repeat (first | (with_reducible first | exact HB.out | apply below_alloc | apply pw_below_drewN | apply below_drew1) | exact HB.out)) hb); clear HB; have HB := n0_; clear n0_ hb)
          | (refine wpList_store_row rfl 65 (.tmp 7) (.tmp 24) rfl gz (askC (j : Int) xb) rfl (by rfl) 65 (askC 0 zero64) (by (with_reducible repeat (first | refine blk_drewN ?_ _ | refine blk_drew ?_ | refine blk_alloc ?_ _)); exact BKz.out) (ask_size' (j : Int) xb LB.out) (by rw [askC_size _ _ LB.out]; rfl) (askC_all _ _) ?_; have n0 := Aside0.mk (below_setRow (show Below wr.heap.size wr _ from by repeat (first | (with_reducible first | exact HB.out | apply below_alloc | apply pw_below_drewN | apply below_drew1) | exact HB.out)) (show wr.heap.size ≤ gz from Gz.out) (askC (j : Int) xb)); have n1 := Aside0.mk (setRow_heap _ _ _ (askC (j : Int) xb) _ _ (by (with_reducible repeat (first | refine blk_drewN ?_ _ | refine blk_drew ?_ | refine blk_alloc ?_ _)); exact BKz.out)); generalize World.setRow _ _ _ = w3 at n0 n1; clear HB BKz; have HB := n0; have BKz := n1; clear n0 n1))
        have HX3 := Aside0.mk (HX.out.trans (below_of_le RR.out.size HB.out))
        have FR3 := Aside0.mk (FR.out.trans (Fr.below HB.out))
        have R3 := Aside0.mk (RR.out.below HB.out)
        obtain ⟨ap, eap, hpc⟩ := Kd.at_int (HPK.out w3 HX3.out FR3.out) (k : Int) k1 k4
        cases eap
        rw [Int.toNat_natCast] at hpc
        have d1 : w3.cell? ⟨gd, 1, none⟩ = some (.slice (some ⟨gh, 0, none⟩) n n) := (blk_cell R3.out.d 1).trans rfl
        have z0 : w3.cell? ⟨gz, 0, none⟩ = some (.int .i64 (j : Int)) := (blk_cell BKz.out 0).trans rfl
        clear RR HX FR HB
        rcases part_cases (rd p (k : Int)) with hpart | hpart | hpart | hpart
        · skip
          have CP := Aside0.mk (show ∀ W, Calls Try.prog 32 #[.int .i64 (rd p (k : Int))] W fun e' w' => e' = .returned (.tuple #[.int .i64 0, .int .i64 0]) ∧ w' = W from fun W => by have h := part.calls (rd p (k : Int)) W; rw [hpart] at h; exact h)
          have EC := Aside0.mk (show crashTo s.held s.btw p (k + 1) = splice (crashTo s.held s.btw p k) (j * 64 + 0) ((xb.drop 0).take 0) from by rw [crashTo, crashAt, if_pos hlp, HG.out, hpart]; rfl)
          clear hpart
          go_wp2_with (go_at_call 32; with_reducible refine (CP.out _).mono ?_; rintro e' w' ⟨rfl, hw⟩; subst w')
          refine start_ (n := 15) (S := fun w' => w'.cell? ⟨gd, 1, none⟩ = some (.slice (some ⟨gh, 0, none⟩) n n) ∧ w'.cell? ⟨gz, 0, none⟩ = some (.int .i64 (j : Int))) (ds := [14]) #[false, false, false, false, false, false, false, false, false, false, false, false, false, false, false] (by kernel_rfl) rfl rfl ⟨d1, z0⟩ (fun hHeld => ?_)
          refine pure_ (i := 0) (N := some 37) (v := ?_) (a' := ?_) #[true, false, false, false, false, false, false, false, false, false, false, false, false, false, false] rfl rfl (by kernel_rfl) (fun _ _ _ h => h) (Or.inl ⟨by rfl, ?_⟩) ?_ ?_
          rotate_left
          · intro w'
            go_simp
            with_reducible rfl
          rotate_left
          · simp only [Act.put, List.setIfInBounds_toArray, List.set_cons_zero, List.set_cons_succ, i64_w, i32_w]
            rfl
          refine pure_ (i := 1) (N := some 38) (v := ?_) (a' := ?_) #[true, true, false, false, false, false, false, false, false, false, false, false, false, false, false] rfl rfl (by kernel_rfl) (fun _ _ _ h => h) (Or.inl ⟨by rfl, ?_⟩) ?_ ?_
          rotate_left
          · intro w'
            go_simp
            with_reducible rfl
          rotate_left
          · simp only [Act.put, List.setIfInBounds_toArray, List.set_cons_zero, List.set_cons_succ, i64_w, i32_w]
            rfl
          refine pure_ (i := 2) (N := some 39) (v := ?_) (a' := ?_) #[true, true, true, false, false, false, false, false, false, false, false, false, false, false, false] rfl rfl (by kernel_rfl) (fun _ _ _ h => h) (Or.inl ⟨by rfl, ?_⟩) ?_ ?_
          rotate_left
          · intro w'
            go_simp
            with_reducible rfl
          rotate_left
          · simp only [Act.put, List.setIfInBounds_toArray, List.set_cons_zero, List.set_cons_succ, i64_w, i32_w]
            rfl
          refine pure_ (i := 4) (N := some 41) (v := ?_) (a' := ?_) #[true, true, true, false, true, false, false, false, false, false, false, false, false, false, false] rfl rfl (by kernel_rfl) (fun _ _ _ h => h) (Or.inl ⟨by rfl, ?_⟩) ?_ ?_
          rotate_left
          · intro w'
            go_simp
            with_reducible rfl
          rotate_left
          · simp only [Act.put, List.setIfInBounds_toArray, List.set_cons_zero, List.set_cons_succ, i64_w, i32_w]
            rfl
          refine pure_ (i := 7) (N := some 44) (v := ?_) (a' := ?_) #[true, true, true, false, true, false, false, true, false, false, false, false, false, false, false] rfl rfl (by kernel_rfl) (fun _ _ _ h => h) (Or.inl ⟨by rfl, ?_⟩) ?_ ?_
          rotate_left
          · intro w'
            go_simp
            with_reducible rfl
          rotate_left
          · simp only [Act.put, List.setIfInBounds_toArray, List.set_cons_zero, List.set_cons_succ, i64_w, i32_w]
            rfl
          refine pure_ (i := 8) (N := some 45) (v := ?_) (a' := ?_) #[true, true, true, false, true, false, false, true, true, false, false, false, false, false, false] rfl rfl (by kernel_rfl) (fun _ _ _ h => h) (Or.inl ⟨by rfl, ?_⟩) ?_ ?_
          rotate_left
          · intro w'
            go_simp
            with_reducible rfl
          rotate_left
          · simp only [Act.put, List.setIfInBounds_toArray, List.set_cons_zero, List.set_cons_succ, i64_w, i32_w]
            rfl
          refine pure_ (i := 10) (N := some 47) (v := ?_) (a' := ?_) #[true, true, true, false, true, false, false, true, true, false, true, false, false, false, false] rfl rfl (by kernel_rfl) (fun _ _ _ h => h) (Or.inl ⟨by rfl, ?_⟩) ?_ ?_
          rotate_left
          · intro w'
            go_simp
            with_reducible rfl
          rotate_left
          · simp only [Act.put, List.setIfInBounds_toArray, List.set_cons_zero, List.set_cons_succ, i64_w, i32_w]
            rfl
          refine pure_ (i := 11) (N := some 48) (v := ?_) (a' := ?_) #[true, true, true, false, true, false, false, true, true, false, true, true, false, false, false] rfl rfl (by kernel_rfl) (fun _ _ _ h => h) (Or.inl ⟨by rfl, ?_⟩) ?_ ?_
          rotate_left
          · intro w'
            go_simp
            with_reducible rfl
          rotate_left
          · simp only [Act.put, List.setIfInBounds_toArray, List.set_cons_zero, List.set_cons_succ, i64_w, i32_w]
            rfl
          refine pure_ (i := 12) (N := some 49) (v := ?_) (a' := ?_) #[true, true, true, false, true, false, false, true, true, false, true, true, true, false, false] rfl rfl (by kernel_rfl) (fun _ _ _ h => h) (Or.inl ⟨by rfl, ?_⟩) ?_ ?_
          rotate_left
          · intro w'
            go_simp
            with_reducible rfl
          rotate_left
          · simp only [Act.put, List.setIfInBounds_toArray, List.set_cons_zero, List.set_cons_succ, i64_w, i32_w]
            rfl
          refine pure_ (i := 13) (N := some 50) (v := ?_) (a' := ?_) #[true, true, true, false, true, false, false, true, true, false, true, true, true, true, false] rfl rfl (by kernel_rfl) (fun _ _ _ h => h) (Or.inl ⟨by rfl, ?_⟩) ?_ ?_
          rotate_left
          · intro w'
            go_simp
            with_reducible rfl
          rotate_left
          · simp only [Act.put, List.setIfInBounds_toArray, List.set_cons_zero, List.set_cons_succ, i64_w, i32_w]
            rfl
          refine take_ (i := 3) (N := some 40) (v := ?_) (a' := ?_) #[true, true, true, true, true, false, false, true, true, false, true, true, true, true, false] rfl rfl (by kernel_rfl) (fun _ _ _ h => h) (Or.inl ⟨by rfl, ?_⟩) hHeld ?_ ?_
          rotate_left
          · rintro w' ⟨s0, s1⟩
            go_simp
            with_reducible rfl
          rotate_left
          · simp only [Act.put, List.setIfInBounds_toArray, List.set_cons_zero, List.set_cons_succ, i64_w, i32_w]
            rfl
          refine take_ (i := 5) (N := some 42) (v := ?_) (a' := ?_) #[true, true, true, true, true, true, false, true, true, false, true, true, true, true, false] rfl rfl (by kernel_rfl) (fun _ _ _ h => h) (Or.inl ⟨by rfl, ?_⟩) hHeld ?_ ?_
          rotate_left
          · rintro w' ⟨s0, s1⟩
            go_simp
            with_reducible rfl
          rotate_left
          · simp only [Act.put, List.setIfInBounds_toArray, List.set_cons_zero, List.set_cons_succ, i64_w, i32_w]
            rfl
          refine pure_ (i := 6) (N := some 43) (v := ?_) (a' := ?_) #[true, true, true, true, true, true, true, true, true, false, true, true, true, true, false] rfl rfl (by kernel_rfl) (fun _ _ _ h => h) (Or.inl ⟨by rfl, ?_⟩) ?_ ?_
          rotate_left
          · intro w'
            go_simp
            with_reducible rfl
          rotate_left
          · simp only [Act.put, List.setIfInBounds_toArray, List.set_cons_zero, List.set_cons_succ, i64_w, i32_w]
            rfl
          refine pure_ (i := 9) (N := some 46) (v := ?_) (a' := ?_) #[true, true, true, true, true, true, true, true, true, true, true, true, true, true, false] rfl rfl (by kernel_rfl) (fun _ _ _ h => h) (Or.inl ⟨by rfl, ?_⟩) ?_ ?_
          rotate_left
          · intro w'
            go_simp
            with_reducible rfl
          rotate_left
          · simp only [Act.put, List.setIfInBounds_toArray, List.set_cons_zero, List.set_cons_succ, i64_w, i32_w]
            rfl
          refine last_ (i := 14) (N := some 51) #[true, true, true, true, true, true, true, true, true, true, true, true, true, true, true] rfl rfl (by kernel_rfl) (by decide) (fun K hK => ?_)
          refine copyB_ev (by rfl) rfl (.tmp 46) (.tmp 50) rfl gh (j * 64 + 0) 0 64 gz (1 + 0) 0 64 rfl rfl (crashTo s.held s.btw p k) ((xb.drop 0).take 0) 29 R3.out.h (by rw [List.length_take, List.length_drop, LB.out] <;> decide) (fun q hq => ?_) (by rw [List.length_take, List.length_drop, LB.out, R3.out.lh]; have := HJ.out; show j * 64 + 0 + 0 ≤ n * 64; omega) B (below_drew1 HX3.out) R3.out.bh ?_
          · rw [List.length_take, List.length_drop, LB.out] at hq; have hq' : q < 0 := Nat.lt_of_lt_of_le hq (Nat.min_le_left _ _); exact part_src BKz.out LB.out 0 0 q hq' (by decide)
          intro w4 h1 h2 h3; have BH := Aside0.mk h1; have OH := Aside0.mk (show ∀ k, k ≠ gh → w4.heap[k]? = w3.heap[k]? from h2.out); have HX4 := Aside0.mk h3; clear h1 h2 h3
          refine hK.out _ _ ?_
          clear hK K
          refine norm_ (a' := ?_) ?_ ?_
          rotate_left
          · show Act.put _ (some 51) _ = _
            simp only [Act.put, List.setIfInBounds_toArray, List.set_cons_zero, List.set_cons_succ, i64_w, i32_w]
            rfl
          refine done_ (by kernel_rfl) ?_
          
          clear d1 z0 hpc
          go_wp2
          have r4 := R3.out.heldTo (splice (crashTo s.held s.btw p k) (j * 64 + 0) ((xb.drop 0).take 0)) ((length_splice _ _ _ (by rw [List.length_take, List.length_drop, LB.out, R3.out.lh]; have := HJ.out; show j * 64 + 0 + 0 ≤ n * 64; omega)).trans R3.out.lh) BH.out OH.out
          rw [← EC.out] at r4
          exact ⟨⟨k + 1, hlt, by first | rfl | (rw [Int.natCast_add]; rfl), Aside0.mk r4, Aside0.mk HX4.out, Aside0.mk (FR3.out.trans (Fr.but R3.out.h (.inr (.inl rfl)) OH.out))⟩, by show s.btw.length - (k + 1) < s.btw.length - k; omega⟩
        · skip
          have CP := Aside0.mk (show ∀ W, Calls Try.prog 32 #[.int .i64 (rd p (k : Int))] W fun e' w' => e' = .returned (.tuple #[.int .i64 0, .int .i64 64]) ∧ w' = W from fun W => by have h := part.calls (rd p (k : Int)) W; rw [hpart] at h; exact h)
          have EC := Aside0.mk (show crashTo s.held s.btw p (k + 1) = splice (crashTo s.held s.btw p k) (j * 64 + 0) ((xb.drop 0).take 64) from by rw [crashTo, crashAt, if_pos hlp, HG.out, hpart]; rfl)
          clear hpart
          go_wp2_with (go_at_call 32; with_reducible refine (CP.out _).mono ?_; rintro e' w' ⟨rfl, hw⟩; subst w')
          refine start_ (n := 15) (S := fun w' => w'.cell? ⟨gd, 1, none⟩ = some (.slice (some ⟨gh, 0, none⟩) n n) ∧ w'.cell? ⟨gz, 0, none⟩ = some (.int .i64 (j : Int))) (ds := [14]) #[false, false, false, false, false, false, false, false, false, false, false, false, false, false, false] (by kernel_rfl) rfl rfl ⟨d1, z0⟩ (fun hHeld => ?_)
          refine pure_ (i := 0) (N := some 37) (v := ?_) (a' := ?_) #[true, false, false, false, false, false, false, false, false, false, false, false, false, false, false] rfl rfl (by kernel_rfl) (fun _ _ _ h => h) (Or.inl ⟨by rfl, ?_⟩) ?_ ?_
          rotate_left
          · intro w'
            go_simp
            with_reducible rfl
          rotate_left
          · simp only [Act.put, List.setIfInBounds_toArray, List.set_cons_zero, List.set_cons_succ, i64_w, i32_w]
            rfl
          refine pure_ (i := 1) (N := some 38) (v := ?_) (a' := ?_) #[true, true, false, false, false, false, false, false, false, false, false, false, false, false, false] rfl rfl (by kernel_rfl) (fun _ _ _ h => h) (Or.inl ⟨by rfl, ?_⟩) ?_ ?_
          rotate_left
          · intro w'
            go_simp
            with_reducible rfl
          rotate_left
          · simp only [Act.put, List.setIfInBounds_toArray, List.set_cons_zero, List.set_cons_succ, i64_w, i32_w]
            rfl
          refine pure_ (i := 2) (N := some 39) (v := ?_) (a' := ?_) #[true, true, true, false, false, false, false, false, false, false, false, false, false, false, false] rfl rfl (by kernel_rfl) (fun _ _ _ h => h) (Or.inl ⟨by rfl, ?_⟩) ?_ ?_
          rotate_left
          · intro w'
            go_simp
            with_reducible rfl
          rotate_left
          · simp only [Act.put, List.setIfInBounds_toArray, List.set_cons_zero, List.set_cons_succ, i64_w, i32_w]
            rfl
          refine pure_ (i := 4) (N := some 41) (v := ?_) (a' := ?_) #[true, true, true, false, true, false, false, false, false, false, false, false, false, false, false] rfl rfl (by kernel_rfl) (fun _ _ _ h => h) (Or.inl ⟨by rfl, ?_⟩) ?_ ?_
          rotate_left
          · intro w'
            go_simp
            with_reducible rfl
          rotate_left
          · simp only [Act.put, List.setIfInBounds_toArray, List.set_cons_zero, List.set_cons_succ, i64_w, i32_w]
            rfl
          refine pure_ (i := 7) (N := some 44) (v := ?_) (a' := ?_) #[true, true, true, false, true, false, false, true, false, false, false, false, false, false, false] rfl rfl (by kernel_rfl) (fun _ _ _ h => h) (Or.inl ⟨by rfl, ?_⟩) ?_ ?_
          rotate_left
          · intro w'
            go_simp
            with_reducible rfl
          rotate_left
          · simp only [Act.put, List.setIfInBounds_toArray, List.set_cons_zero, List.set_cons_succ, i64_w, i32_w]
            rfl
          refine pure_ (i := 8) (N := some 45) (v := ?_) (a' := ?_) #[true, true, true, false, true, false, false, true, true, false, false, false, false, false, false] rfl rfl (by kernel_rfl) (fun _ _ _ h => h) (Or.inl ⟨by rfl, ?_⟩) ?_ ?_
          rotate_left
          · intro w'
            go_simp
            with_reducible rfl
          rotate_left
          · simp only [Act.put, List.setIfInBounds_toArray, List.set_cons_zero, List.set_cons_succ, i64_w, i32_w]
            rfl
          refine pure_ (i := 10) (N := some 47) (v := ?_) (a' := ?_) #[true, true, true, false, true, false, false, true, true, false, true, false, false, false, false] rfl rfl (by kernel_rfl) (fun _ _ _ h => h) (Or.inl ⟨by rfl, ?_⟩) ?_ ?_
          rotate_left
          · intro w'
            go_simp
            with_reducible rfl
          rotate_left
          · simp only [Act.put, List.setIfInBounds_toArray, List.set_cons_zero, List.set_cons_succ, i64_w, i32_w]
            rfl
          refine pure_ (i := 11) (N := some 48) (v := ?_) (a' := ?_) #[true, true, true, false, true, false, false, true, true, false, true, true, false, false, false] rfl rfl (by kernel_rfl) (fun _ _ _ h => h) (Or.inl ⟨by rfl, ?_⟩) ?_ ?_
          rotate_left
          · intro w'
            go_simp
            with_reducible rfl
          rotate_left
          · simp only [Act.put, List.setIfInBounds_toArray, List.set_cons_zero, List.set_cons_succ, i64_w, i32_w]
            rfl
          refine pure_ (i := 12) (N := some 49) (v := ?_) (a' := ?_) #[true, true, true, false, true, false, false, true, true, false, true, true, true, false, false] rfl rfl (by kernel_rfl) (fun _ _ _ h => h) (Or.inl ⟨by rfl, ?_⟩) ?_ ?_
          rotate_left
          · intro w'
            go_simp
            with_reducible rfl
          rotate_left
          · simp only [Act.put, List.setIfInBounds_toArray, List.set_cons_zero, List.set_cons_succ, i64_w, i32_w]
            rfl
          refine pure_ (i := 13) (N := some 50) (v := ?_) (a' := ?_) #[true, true, true, false, true, false, false, true, true, false, true, true, true, true, false] rfl rfl (by kernel_rfl) (fun _ _ _ h => h) (Or.inl ⟨by rfl, ?_⟩) ?_ ?_
          rotate_left
          · intro w'
            go_simp
            with_reducible rfl
          rotate_left
          · simp only [Act.put, List.setIfInBounds_toArray, List.set_cons_zero, List.set_cons_succ, i64_w, i32_w]
            rfl
          refine take_ (i := 3) (N := some 40) (v := ?_) (a' := ?_) #[true, true, true, true, true, false, false, true, true, false, true, true, true, true, false] rfl rfl (by kernel_rfl) (fun _ _ _ h => h) (Or.inl ⟨by rfl, ?_⟩) hHeld ?_ ?_
          rotate_left
          · rintro w' ⟨s0, s1⟩
            go_simp
            with_reducible rfl
          rotate_left
          · simp only [Act.put, List.setIfInBounds_toArray, List.set_cons_zero, List.set_cons_succ, i64_w, i32_w]
            rfl
          refine take_ (i := 5) (N := some 42) (v := ?_) (a' := ?_) #[true, true, true, true, true, true, false, true, true, false, true, true, true, true, false] rfl rfl (by kernel_rfl) (fun _ _ _ h => h) (Or.inl ⟨by rfl, ?_⟩) hHeld ?_ ?_
          rotate_left
          · rintro w' ⟨s0, s1⟩
            go_simp
            with_reducible rfl
          rotate_left
          · simp only [Act.put, List.setIfInBounds_toArray, List.set_cons_zero, List.set_cons_succ, i64_w, i32_w]
            rfl
          refine pure_ (i := 6) (N := some 43) (v := ?_) (a' := ?_) #[true, true, true, true, true, true, true, true, true, false, true, true, true, true, false] rfl rfl (by kernel_rfl) (fun _ _ _ h => h) (Or.inl ⟨by rfl, ?_⟩) ?_ ?_
          rotate_left
          · intro w'
            go_simp
            with_reducible rfl
          rotate_left
          · simp only [Act.put, List.setIfInBounds_toArray, List.set_cons_zero, List.set_cons_succ, i64_w, i32_w]
            rfl
          refine pure_ (i := 9) (N := some 46) (v := ?_) (a' := ?_) #[true, true, true, true, true, true, true, true, true, true, true, true, true, true, false] rfl rfl (by kernel_rfl) (fun _ _ _ h => h) (Or.inl ⟨by rfl, ?_⟩) ?_ ?_
          rotate_left
          · intro w'
            go_simp
            with_reducible rfl
          rotate_left
          · simp only [Act.put, List.setIfInBounds_toArray, List.set_cons_zero, List.set_cons_succ, i64_w, i32_w]
            rfl
          refine last_ (i := 14) (N := some 51) #[true, true, true, true, true, true, true, true, true, true, true, true, true, true, true] rfl rfl (by kernel_rfl) (by decide) (fun K hK => ?_)
          refine copyB_ev (by rfl) rfl (.tmp 46) (.tmp 50) rfl gh (j * 64 + 0) 64 64 gz (1 + 0) 64 64 rfl rfl (crashTo s.held s.btw p k) ((xb.drop 0).take 64) 29 R3.out.h (by rw [List.length_take, List.length_drop, LB.out] <;> decide) (fun q hq => ?_) (by rw [List.length_take, List.length_drop, LB.out, R3.out.lh]; have := HJ.out; show j * 64 + 0 + 64 ≤ n * 64; omega) B (below_drew1 HX3.out) R3.out.bh ?_
          · rw [List.length_take, List.length_drop, LB.out] at hq; have hq' : q < 64 := Nat.lt_of_lt_of_le hq (Nat.min_le_left _ _); exact part_src BKz.out LB.out 0 64 q hq' (by decide)
          intro w4 h1 h2 h3; have BH := Aside0.mk h1; have OH := Aside0.mk (show ∀ k, k ≠ gh → w4.heap[k]? = w3.heap[k]? from h2.out); have HX4 := Aside0.mk h3; clear h1 h2 h3
          refine hK.out _ _ ?_
          clear hK K
          refine norm_ (a' := ?_) ?_ ?_
          rotate_left
          · show Act.put _ (some 51) _ = _
            simp only [Act.put, List.setIfInBounds_toArray, List.set_cons_zero, List.set_cons_succ, i64_w, i32_w]
            rfl
          refine done_ (by kernel_rfl) ?_
          
          clear d1 z0 hpc
          go_wp2
          have r4 := R3.out.heldTo (splice (crashTo s.held s.btw p k) (j * 64 + 0) ((xb.drop 0).take 64)) ((length_splice _ _ _ (by rw [List.length_take, List.length_drop, LB.out, R3.out.lh]; have := HJ.out; show j * 64 + 0 + 64 ≤ n * 64; omega)).trans R3.out.lh) BH.out OH.out
          rw [← EC.out] at r4
          exact ⟨⟨k + 1, hlt, by first | rfl | (rw [Int.natCast_add]; rfl), Aside0.mk r4, Aside0.mk HX4.out, Aside0.mk (FR3.out.trans (Fr.but R3.out.h (.inr (.inl rfl)) OH.out))⟩, by show s.btw.length - (k + 1) < s.btw.length - k; omega⟩
        · skip
          have CP := Aside0.mk (show ∀ W, Calls Try.prog 32 #[.int .i64 (rd p (k : Int))] W fun e' w' => e' = .returned (.tuple #[.int .i64 0, .int .i64 32]) ∧ w' = W from fun W => by have h := part.calls (rd p (k : Int)) W; rw [hpart] at h; exact h)
          have EC := Aside0.mk (show crashTo s.held s.btw p (k + 1) = splice (crashTo s.held s.btw p k) (j * 64 + 0) ((xb.drop 0).take 32) from by rw [crashTo, crashAt, if_pos hlp, HG.out, hpart]; rfl)
          clear hpart
          go_wp2_with (go_at_call 32; with_reducible refine (CP.out _).mono ?_; rintro e' w' ⟨rfl, hw⟩; subst w')
          refine start_ (n := 15) (S := fun w' => w'.cell? ⟨gd, 1, none⟩ = some (.slice (some ⟨gh, 0, none⟩) n n) ∧ w'.cell? ⟨gz, 0, none⟩ = some (.int .i64 (j : Int))) (ds := [14]) #[false, false, false, false, false, false, false, false, false, false, false, false, false, false, false] (by kernel_rfl) rfl rfl ⟨d1, z0⟩ (fun hHeld => ?_)
          refine pure_ (i := 0) (N := some 37) (v := ?_) (a' := ?_) #[true, false, false, false, false, false, false, false, false, false, false, false, false, false, false] rfl rfl (by kernel_rfl) (fun _ _ _ h => h) (Or.inl ⟨by rfl, ?_⟩) ?_ ?_
          rotate_left
          · intro w'
            go_simp
            with_reducible rfl
          rotate_left
          · simp only [Act.put, List.setIfInBounds_toArray, List.set_cons_zero, List.set_cons_succ, i64_w, i32_w]
            rfl
          refine pure_ (i := 1) (N := some 38) (v := ?_) (a' := ?_) #[true, true, false, false, false, false, false, false, false, false, false, false, false, false, false] rfl rfl (by kernel_rfl) (fun _ _ _ h => h) (Or.inl ⟨by rfl, ?_⟩) ?_ ?_
          rotate_left
          · intro w'
            go_simp
            with_reducible rfl
          rotate_left
          · simp only [Act.put, List.setIfInBounds_toArray, List.set_cons_zero, List.set_cons_succ, i64_w, i32_w]
            rfl
          refine pure_ (i := 2) (N := some 39) (v := ?_) (a' := ?_) #[true, true, true, false, false, false, false, false, false, false, false, false, false, false, false] rfl rfl (by kernel_rfl) (fun _ _ _ h => h) (Or.inl ⟨by rfl, ?_⟩) ?_ ?_
          rotate_left
          · intro w'
            go_simp
            with_reducible rfl
          rotate_left
          · simp only [Act.put, List.setIfInBounds_toArray, List.set_cons_zero, List.set_cons_succ, i64_w, i32_w]
            rfl
          refine pure_ (i := 4) (N := some 41) (v := ?_) (a' := ?_) #[true, true, true, false, true, false, false, false, false, false, false, false, false, false, false] rfl rfl (by kernel_rfl) (fun _ _ _ h => h) (Or.inl ⟨by rfl, ?_⟩) ?_ ?_
          rotate_left
          · intro w'
            go_simp
            with_reducible rfl
          rotate_left
          · simp only [Act.put, List.setIfInBounds_toArray, List.set_cons_zero, List.set_cons_succ, i64_w, i32_w]
            rfl
          refine pure_ (i := 7) (N := some 44) (v := ?_) (a' := ?_) #[true, true, true, false, true, false, false, true, false, false, false, false, false, false, false] rfl rfl (by kernel_rfl) (fun _ _ _ h => h) (Or.inl ⟨by rfl, ?_⟩) ?_ ?_
          rotate_left
          · intro w'
            go_simp
            with_reducible rfl
          rotate_left
          · simp only [Act.put, List.setIfInBounds_toArray, List.set_cons_zero, List.set_cons_succ, i64_w, i32_w]
            rfl
          refine pure_ (i := 8) (N := some 45) (v := ?_) (a' := ?_) #[true, true, true, false, true, false, false, true, true, false, false, false, false, false, false] rfl rfl (by kernel_rfl) (fun _ _ _ h => h) (Or.inl ⟨by rfl, ?_⟩) ?_ ?_
          rotate_left
          · intro w'
            go_simp
            with_reducible rfl
          rotate_left
          · simp only [Act.put, List.setIfInBounds_toArray, List.set_cons_zero, List.set_cons_succ, i64_w, i32_w]
            rfl
          refine pure_ (i := 10) (N := some 47) (v := ?_) (a' := ?_) #[true, true, true, false, true, false, false, true, true, false, true, false, false, false, false] rfl rfl (by kernel_rfl) (fun _ _ _ h => h) (Or.inl ⟨by rfl, ?_⟩) ?_ ?_
          rotate_left
          · intro w'
            go_simp
            with_reducible rfl
          rotate_left
          · simp only [Act.put, List.setIfInBounds_toArray, List.set_cons_zero, List.set_cons_succ, i64_w, i32_w]
            rfl
          refine pure_ (i := 11) (N := some 48) (v := ?_) (a' := ?_) #[true, true, true, false, true, false, false, true, true, false, true, true, false, false, false] rfl rfl (by kernel_rfl) (fun _ _ _ h => h) (Or.inl ⟨by rfl, ?_⟩) ?_ ?_
          rotate_left
          · intro w'
            go_simp
            with_reducible rfl
          rotate_left
          · simp only [Act.put, List.setIfInBounds_toArray, List.set_cons_zero, List.set_cons_succ, i64_w, i32_w]
            rfl
          refine pure_ (i := 12) (N := some 49) (v := ?_) (a' := ?_) #[true, true, true, false, true, false, false, true, true, false, true, true, true, false, false] rfl rfl (by kernel_rfl) (fun _ _ _ h => h) (Or.inl ⟨by rfl, ?_⟩) ?_ ?_
          rotate_left
          · intro w'
            go_simp
            with_reducible rfl
          rotate_left
          · simp only [Act.put, List.setIfInBounds_toArray, List.set_cons_zero, List.set_cons_succ, i64_w, i32_w]
            rfl
          refine pure_ (i := 13) (N := some 50) (v := ?_) (a' := ?_) #[true, true, true, false, true, false, false, true, true, false, true, true, true, true, false] rfl rfl (by kernel_rfl) (fun _ _ _ h => h) (Or.inl ⟨by rfl, ?_⟩) ?_ ?_
          rotate_left
          · intro w'
            go_simp
            with_reducible rfl
          rotate_left
          · simp only [Act.put, List.setIfInBounds_toArray, List.set_cons_zero, List.set_cons_succ, i64_w, i32_w]
            rfl
          refine take_ (i := 3) (N := some 40) (v := ?_) (a' := ?_) #[true, true, true, true, true, false, false, true, true, false, true, true, true, true, false] rfl rfl (by kernel_rfl) (fun _ _ _ h => h) (Or.inl ⟨by rfl, ?_⟩) hHeld ?_ ?_
          rotate_left
          · rintro w' ⟨s0, s1⟩
            go_simp
            with_reducible rfl
          rotate_left
          · simp only [Act.put, List.setIfInBounds_toArray, List.set_cons_zero, List.set_cons_succ, i64_w, i32_w]
            rfl
          refine take_ (i := 5) (N := some 42) (v := ?_) (a' := ?_) #[true, true, true, true, true, true, false, true, true, false, true, true, true, true, false] rfl rfl (by kernel_rfl) (fun _ _ _ h => h) (Or.inl ⟨by rfl, ?_⟩) hHeld ?_ ?_
          rotate_left
          · rintro w' ⟨s0, s1⟩
            go_simp
            with_reducible rfl
          rotate_left
          · simp only [Act.put, List.setIfInBounds_toArray, List.set_cons_zero, List.set_cons_succ, i64_w, i32_w]
            rfl
          refine pure_ (i := 6) (N := some 43) (v := ?_) (a' := ?_) #[true, true, true, true, true, true, true, true, true, false, true, true, true, true, false] rfl rfl (by kernel_rfl) (fun _ _ _ h => h) (Or.inl ⟨by rfl, ?_⟩) ?_ ?_
          rotate_left
          · intro w'
            go_simp
            with_reducible rfl
          rotate_left
          · simp only [Act.put, List.setIfInBounds_toArray, List.set_cons_zero, List.set_cons_succ, i64_w, i32_w]
            rfl
          refine pure_ (i := 9) (N := some 46) (v := ?_) (a' := ?_) #[true, true, true, true, true, true, true, true, true, true, true, true, true, true, false] rfl rfl (by kernel_rfl) (fun _ _ _ h => h) (Or.inl ⟨by rfl, ?_⟩) ?_ ?_
          rotate_left
          · intro w'
            go_simp
            with_reducible rfl
          rotate_left
          · simp only [Act.put, List.setIfInBounds_toArray, List.set_cons_zero, List.set_cons_succ, i64_w, i32_w]
            rfl
          refine last_ (i := 14) (N := some 51) #[true, true, true, true, true, true, true, true, true, true, true, true, true, true, true] rfl rfl (by kernel_rfl) (by decide) (fun K hK => ?_)
          refine copyB_ev (by rfl) rfl (.tmp 46) (.tmp 50) rfl gh (j * 64 + 0) 32 64 gz (1 + 0) 32 64 rfl rfl (crashTo s.held s.btw p k) ((xb.drop 0).take 32) 29 R3.out.h (by rw [List.length_take, List.length_drop, LB.out] <;> decide) (fun q hq => ?_) (by rw [List.length_take, List.length_drop, LB.out, R3.out.lh]; have := HJ.out; show j * 64 + 0 + 32 ≤ n * 64; omega) B (below_drew1 HX3.out) R3.out.bh ?_
          · rw [List.length_take, List.length_drop, LB.out] at hq; have hq' : q < 32 := Nat.lt_of_lt_of_le hq (Nat.min_le_left _ _); exact part_src BKz.out LB.out 0 32 q hq' (by decide)
          intro w4 h1 h2 h3; have BH := Aside0.mk h1; have OH := Aside0.mk (show ∀ k, k ≠ gh → w4.heap[k]? = w3.heap[k]? from h2.out); have HX4 := Aside0.mk h3; clear h1 h2 h3
          refine hK.out _ _ ?_
          clear hK K
          refine norm_ (a' := ?_) ?_ ?_
          rotate_left
          · show Act.put _ (some 51) _ = _
            simp only [Act.put, List.setIfInBounds_toArray, List.set_cons_zero, List.set_cons_succ, i64_w, i32_w]
            rfl
          refine done_ (by kernel_rfl) ?_
          
          clear d1 z0 hpc
          go_wp2
          have r4 := R3.out.heldTo (splice (crashTo s.held s.btw p k) (j * 64 + 0) ((xb.drop 0).take 32)) ((length_splice _ _ _ (by rw [List.length_take, List.length_drop, LB.out, R3.out.lh]; have := HJ.out; show j * 64 + 0 + 32 ≤ n * 64; omega)).trans R3.out.lh) BH.out OH.out
          rw [← EC.out] at r4
          exact ⟨⟨k + 1, hlt, by first | rfl | (rw [Int.natCast_add]; rfl), Aside0.mk r4, Aside0.mk HX4.out, Aside0.mk (FR3.out.trans (Fr.but R3.out.h (.inr (.inl rfl)) OH.out))⟩, by show s.btw.length - (k + 1) < s.btw.length - k; omega⟩
        · skip
          have CP := Aside0.mk (show ∀ W, Calls Try.prog 32 #[.int .i64 (rd p (k : Int))] W fun e' w' => e' = .returned (.tuple #[.int .i64 32, .int .i64 64]) ∧ w' = W from fun W => by have h := part.calls (rd p (k : Int)) W; rw [hpart] at h; exact h)
          have EC := Aside0.mk (show crashTo s.held s.btw p (k + 1) = splice (crashTo s.held s.btw p k) (j * 64 + 32) ((xb.drop 32).take 32) from by rw [crashTo, crashAt, if_pos hlp, HG.out, hpart]; rfl)
          clear hpart
          go_wp2_with (go_at_call 32; with_reducible refine (CP.out _).mono ?_; rintro e' w' ⟨rfl, hw⟩; subst w')
          refine start_ (n := 15) (S := fun w' => w'.cell? ⟨gd, 1, none⟩ = some (.slice (some ⟨gh, 0, none⟩) n n) ∧ w'.cell? ⟨gz, 0, none⟩ = some (.int .i64 (j : Int))) (ds := [14]) #[false, false, false, false, false, false, false, false, false, false, false, false, false, false, false] (by kernel_rfl) rfl rfl ⟨d1, z0⟩ (fun hHeld => ?_)
          refine pure_ (i := 0) (N := some 37) (v := ?_) (a' := ?_) #[true, false, false, false, false, false, false, false, false, false, false, false, false, false, false] rfl rfl (by kernel_rfl) (fun _ _ _ h => h) (Or.inl ⟨by rfl, ?_⟩) ?_ ?_
          rotate_left
          · intro w'
            go_simp
            with_reducible rfl
          rotate_left
          · simp only [Act.put, List.setIfInBounds_toArray, List.set_cons_zero, List.set_cons_succ, i64_w, i32_w]
            rfl
          refine pure_ (i := 1) (N := some 38) (v := ?_) (a' := ?_) #[true, true, false, false, false, false, false, false, false, false, false, false, false, false, false] rfl rfl (by kernel_rfl) (fun _ _ _ h => h) (Or.inl ⟨by rfl, ?_⟩) ?_ ?_
          rotate_left
          · intro w'
            go_simp
            with_reducible rfl
          rotate_left
          · simp only [Act.put, List.setIfInBounds_toArray, List.set_cons_zero, List.set_cons_succ, i64_w, i32_w]
            rfl
          refine pure_ (i := 2) (N := some 39) (v := ?_) (a' := ?_) #[true, true, true, false, false, false, false, false, false, false, false, false, false, false, false] rfl rfl (by kernel_rfl) (fun _ _ _ h => h) (Or.inl ⟨by rfl, ?_⟩) ?_ ?_
          rotate_left
          · intro w'
            go_simp
            with_reducible rfl
          rotate_left
          · simp only [Act.put, List.setIfInBounds_toArray, List.set_cons_zero, List.set_cons_succ, i64_w, i32_w]
            rfl
          refine pure_ (i := 4) (N := some 41) (v := ?_) (a' := ?_) #[true, true, true, false, true, false, false, false, false, false, false, false, false, false, false] rfl rfl (by kernel_rfl) (fun _ _ _ h => h) (Or.inl ⟨by rfl, ?_⟩) ?_ ?_
          rotate_left
          · intro w'
            go_simp
            with_reducible rfl
          rotate_left
          · simp only [Act.put, List.setIfInBounds_toArray, List.set_cons_zero, List.set_cons_succ, i64_w, i32_w]
            rfl
          refine pure_ (i := 7) (N := some 44) (v := ?_) (a' := ?_) #[true, true, true, false, true, false, false, true, false, false, false, false, false, false, false] rfl rfl (by kernel_rfl) (fun _ _ _ h => h) (Or.inl ⟨by rfl, ?_⟩) ?_ ?_
          rotate_left
          · intro w'
            go_simp
            with_reducible rfl
          rotate_left
          · simp only [Act.put, List.setIfInBounds_toArray, List.set_cons_zero, List.set_cons_succ, i64_w, i32_w]
            rfl
          refine pure_ (i := 8) (N := some 45) (v := ?_) (a' := ?_) #[true, true, true, false, true, false, false, true, true, false, false, false, false, false, false] rfl rfl (by kernel_rfl) (fun _ _ _ h => h) (Or.inl ⟨by rfl, ?_⟩) ?_ ?_
          rotate_left
          · intro w'
            go_simp
            with_reducible rfl
          rotate_left
          · simp only [Act.put, List.setIfInBounds_toArray, List.set_cons_zero, List.set_cons_succ, i64_w, i32_w]
            rfl
          refine pure_ (i := 10) (N := some 47) (v := ?_) (a' := ?_) #[true, true, true, false, true, false, false, true, true, false, true, false, false, false, false] rfl rfl (by kernel_rfl) (fun _ _ _ h => h) (Or.inl ⟨by rfl, ?_⟩) ?_ ?_
          rotate_left
          · intro w'
            go_simp
            with_reducible rfl
          rotate_left
          · simp only [Act.put, List.setIfInBounds_toArray, List.set_cons_zero, List.set_cons_succ, i64_w, i32_w]
            rfl
          refine pure_ (i := 11) (N := some 48) (v := ?_) (a' := ?_) #[true, true, true, false, true, false, false, true, true, false, true, true, false, false, false] rfl rfl (by kernel_rfl) (fun _ _ _ h => h) (Or.inl ⟨by rfl, ?_⟩) ?_ ?_
          rotate_left
          · intro w'
            go_simp
            with_reducible rfl
          rotate_left
          · simp only [Act.put, List.setIfInBounds_toArray, List.set_cons_zero, List.set_cons_succ, i64_w, i32_w]
            rfl
          refine pure_ (i := 12) (N := some 49) (v := ?_) (a' := ?_) #[true, true, true, false, true, false, false, true, true, false, true, true, true, false, false] rfl rfl (by kernel_rfl) (fun _ _ _ h => h) (Or.inl ⟨by rfl, ?_⟩) ?_ ?_
          rotate_left
          · intro w'
            go_simp
            with_reducible rfl
          rotate_left
          · simp only [Act.put, List.setIfInBounds_toArray, List.set_cons_zero, List.set_cons_succ, i64_w, i32_w]
            rfl
          refine pure_ (i := 13) (N := some 50) (v := ?_) (a' := ?_) #[true, true, true, false, true, false, false, true, true, false, true, true, true, true, false] rfl rfl (by kernel_rfl) (fun _ _ _ h => h) (Or.inl ⟨by rfl, ?_⟩) ?_ ?_
          rotate_left
          · intro w'
            go_simp
            with_reducible rfl
          rotate_left
          · simp only [Act.put, List.setIfInBounds_toArray, List.set_cons_zero, List.set_cons_succ, i64_w, i32_w]
            rfl
          refine take_ (i := 3) (N := some 40) (v := ?_) (a' := ?_) #[true, true, true, true, true, false, false, true, true, false, true, true, true, true, false] rfl rfl (by kernel_rfl) (fun _ _ _ h => h) (Or.inl ⟨by rfl, ?_⟩) hHeld ?_ ?_
          rotate_left
          · rintro w' ⟨s0, s1⟩
            go_simp
            with_reducible rfl
          rotate_left
          · simp only [Act.put, List.setIfInBounds_toArray, List.set_cons_zero, List.set_cons_succ, i64_w, i32_w]
            rfl
          refine take_ (i := 5) (N := some 42) (v := ?_) (a' := ?_) #[true, true, true, true, true, true, false, true, true, false, true, true, true, true, false] rfl rfl (by kernel_rfl) (fun _ _ _ h => h) (Or.inl ⟨by rfl, ?_⟩) hHeld ?_ ?_
          rotate_left
          · rintro w' ⟨s0, s1⟩
            go_simp
            with_reducible rfl
          rotate_left
          · simp only [Act.put, List.setIfInBounds_toArray, List.set_cons_zero, List.set_cons_succ, i64_w, i32_w]
            rfl
          refine pure_ (i := 6) (N := some 43) (v := ?_) (a' := ?_) #[true, true, true, true, true, true, true, true, true, false, true, true, true, true, false] rfl rfl (by kernel_rfl) (fun _ _ _ h => h) (Or.inl ⟨by rfl, ?_⟩) ?_ ?_
          rotate_left
          · intro w'
            go_simp
            with_reducible rfl
          rotate_left
          · simp only [Act.put, List.setIfInBounds_toArray, List.set_cons_zero, List.set_cons_succ, i64_w, i32_w]
            rfl
          refine pure_ (i := 9) (N := some 46) (v := ?_) (a' := ?_) #[true, true, true, true, true, true, true, true, true, true, true, true, true, true, false] rfl rfl (by kernel_rfl) (fun _ _ _ h => h) (Or.inl ⟨by rfl, ?_⟩) ?_ ?_
          rotate_left
          · intro w'
            go_simp
            with_reducible rfl
          rotate_left
          · simp only [Act.put, List.setIfInBounds_toArray, List.set_cons_zero, List.set_cons_succ, i64_w, i32_w]
            rfl
          refine last_ (i := 14) (N := some 51) #[true, true, true, true, true, true, true, true, true, true, true, true, true, true, true] rfl rfl (by kernel_rfl) (by decide) (fun K hK => ?_)
          refine copyB_ev (by rfl) rfl (.tmp 46) (.tmp 50) rfl gh (j * 64 + 32) 32 32 gz (1 + 32) 32 32 rfl rfl (crashTo s.held s.btw p k) ((xb.drop 32).take 32) 29 R3.out.h (by rw [List.length_take, List.length_drop, LB.out] <;> decide) (fun q hq => ?_) (by rw [List.length_take, List.length_drop, LB.out, R3.out.lh]; have := HJ.out; show j * 64 + 32 + 32 ≤ n * 64; omega) B (below_drew1 HX3.out) R3.out.bh ?_
          · rw [List.length_take, List.length_drop, LB.out] at hq; have hq' : q < 32 := Nat.lt_of_lt_of_le hq (Nat.min_le_left _ _); exact part_src BKz.out LB.out 32 32 q hq' (by decide)
          intro w4 h1 h2 h3; have BH := Aside0.mk h1; have OH := Aside0.mk (show ∀ k, k ≠ gh → w4.heap[k]? = w3.heap[k]? from h2.out); have HX4 := Aside0.mk h3; clear h1 h2 h3
          refine hK.out _ _ ?_
          clear hK K
          refine norm_ (a' := ?_) ?_ ?_
          rotate_left
          · show Act.put _ (some 51) _ = _
            simp only [Act.put, List.setIfInBounds_toArray, List.set_cons_zero, List.set_cons_succ, i64_w, i32_w]
            rfl
          refine done_ (by kernel_rfl) ?_
          
          clear d1 z0 hpc
          go_wp2
          have r4 := R3.out.heldTo (splice (crashTo s.held s.btw p k) (j * 64 + 32) ((xb.drop 32).take 32)) ((length_splice _ _ _ (by rw [List.length_take, List.length_drop, LB.out, R3.out.lh]; have := HJ.out; show j * 64 + 32 + 32 ≤ n * 64; omega)).trans R3.out.lh) BH.out OH.out
          rw [← EC.out] at r4
          exact ⟨⟨k + 1, hlt, by first | rfl | (rw [Int.natCast_add]; rfl), Aside0.mk r4, Aside0.mk HX4.out, Aside0.mk (FR3.out.trans (Fr.but R3.out.h (.inr (.inl rfl)) OH.out))⟩, by show s.btw.length - (k + 1) < s.btw.length - k; omega⟩
      · have k4 : decide ((k : Int) < (p.length : Int)) = false := decide_eq_false (by omega)
        have EC := Aside0.mk (show crashTo s.held s.btw p (k + 1) = crashTo s.held s.btw p k from by rw [crashTo, crashAt, if_neg hlp])
        go_wp2_with (first
          | ((with_reducible refine gate_dst (N := 24) rfl ?_); refine wpList_load_ask rfl (.tmp 23) rfl gq (k * 65) rfl (j : Int) xb LB.out RG.out ?_)
          | ((with_reducible refine gate_dst (N := 7) rfl ?_); refine box_event ?hg (N := 7) ?hd (cs := askC 0 zero64) (t := 65) ?hr ?_; (case hd => rfl); (case hg => rfl); (case hr => exact alloc65_run rfl _); intro gz hg w1z hbox hb; have Gz := Aside0.mk (show wr.heap.size ≤ gz from by rw [hg]; exact below_size (by repeat (first | (with_reducible first | exact HB.out | apply below_alloc | apply pw_below_drewN | apply below_drew1) | exact HB.out))); have BKz := Aside0.mk hbox; clear hbox hg; have n0_ := Aside0.mk (below_step (by repeat (first | (with_reducible first | exact HB.out | apply below_alloc | apply pw_below_drewN | apply below_drew1) | exact HB.out)) hb); clear HB; have HB := n0_; clear n0_ hb)
          | (refine wpList_store_row rfl 65 (.tmp 7) (.tmp 24) rfl gz (askC (j : Int) xb) rfl (by rfl) 65 (askC 0 zero64) (by (with_reducible repeat (first | refine blk_drewN ?_ _ | refine blk_drew ?_ | refine blk_alloc ?_ _)); exact BKz.out) (ask_size' (j : Int) xb LB.out) (by rw [askC_size _ _ LB.out]; rfl) (askC_all _ _) ?_; have n0 := Aside0.mk (below_setRow (show Below wr.heap.size wr _ from by repeat (first | (with_reducible first | exact HB.out | apply below_alloc | apply pw_below_drewN | apply below_drew1) | exact HB.out)) (show wr.heap.size ≤ gz from Gz.out) (askC (j : Int) xb)); have n1 := Aside0.mk (setRow_heap _ _ _ (askC (j : Int) xb) _ _ (by (with_reducible repeat (first | refine blk_drewN ?_ _ | refine blk_drew ?_ | refine blk_alloc ?_ _)); exact BKz.out)); generalize World.setRow _ _ _ = w3 at n0 n1; clear HB BKz; have HB := n0; have BKz := n1; clear n0 n1))
        have r4 := RR.out.below HB.out
        rw [← EC.out] at r4
        exact ⟨⟨k + 1, hlt, by first | rfl | (rw [Int.natCast_add]; rfl), Aside0.mk r4, Aside0.mk (HX.out.trans (below_of_le RR.out.size HB.out)), Aside0.mk (FR.out.trans (Fr.below HB.out))⟩, by show s.btw.length - (k + 1) < s.btw.length - k; omega⟩
    · have hin : k = s.btw.length := by omega
      subst hin
      have d0 : wr.cell? ⟨gd, 0, none⟩ = some (.slice (some ⟨ga, 0, none⟩) n n) := (blk_cell RR.out.d 0).trans rfl
      have d1 : wr.cell? ⟨gd, 1, none⟩ = some (.slice (some ⟨gh, 0, none⟩) n n) := (blk_cell RR.out.d 1).trans rfl
      have dl : decide ((s.btw.length : Int) < (s.btw.length : Int)) = false := decide_eq_false (by omega)
      go_wp2
      refine start_ (n := 9) (S := fun w' => w'.cell? ⟨gd, 0, none⟩ = some (.slice (some ⟨ga, 0, none⟩) n n) ∧ w'.cell? ⟨gd, 1, none⟩ = some (.slice (some ⟨gh, 0, none⟩) n n)) (ds := [8]) #[false, false, false, false, false, false, false, false, false] (by kernel_rfl) rfl rfl ⟨d0, d1⟩ (fun hHeld => ?_)
      refine pure_ (i := 0) (N := some 53) (v := ?_) (a' := ?_) #[true, false, false, false, false, false, false, false, false] rfl rfl (by kernel_rfl) (fun _ _ _ h => h) (Or.inl ⟨by rfl, ?_⟩) ?_ ?_
      rotate_left
      · intro w'
        go_simp
        with_reducible rfl
      rotate_left
      · simp only [Act.put, List.setIfInBounds_toArray, List.set_cons_zero, List.set_cons_succ, i64_w, i32_w]
        rfl
      refine pure_ (i := 1) (N := some 54) (v := ?_) (a' := ?_) #[true, true, false, false, false, false, false, false, false] rfl rfl (by kernel_rfl) (fun _ _ _ h => h) (Or.inl ⟨by rfl, ?_⟩) ?_ ?_
      rotate_left
      · intro w'
        go_simp
        with_reducible rfl
      rotate_left
      · simp only [Act.put, List.setIfInBounds_toArray, List.set_cons_zero, List.set_cons_succ, i64_w, i32_w]
        rfl
      refine pure_ (i := 2) (N := some 55) (v := ?_) (a' := ?_) #[true, true, true, false, false, false, false, false, false] rfl rfl (by kernel_rfl) (fun _ _ _ h => h) (Or.inl ⟨by rfl, ?_⟩) ?_ ?_
      rotate_left
      · intro w'
        go_simp
        with_reducible rfl
      rotate_left
      · simp only [Act.put, List.setIfInBounds_toArray, List.set_cons_zero, List.set_cons_succ, i64_w, i32_w]
        rfl
      refine pure_ (i := 4) (N := some 57) (v := ?_) (a' := ?_) #[true, true, true, false, true, false, false, false, false] rfl rfl (by kernel_rfl) (fun _ _ _ h => h) (Or.inl ⟨by rfl, ?_⟩) ?_ ?_
      rotate_left
      · intro w'
        go_simp
        with_reducible rfl
      rotate_left
      · simp only [Act.put, List.setIfInBounds_toArray, List.set_cons_zero, List.set_cons_succ, i64_w, i32_w]
        rfl
      refine pure_ (i := 5) (N := some 58) (v := ?_) (a' := ?_) #[true, true, true, false, true, true, false, false, false] rfl rfl (by kernel_rfl) (fun _ _ _ h => h) (Or.inl ⟨by rfl, ?_⟩) ?_ ?_
      rotate_left
      · intro w'
        go_simp
        with_reducible rfl
      rotate_left
      · simp only [Act.put, List.setIfInBounds_toArray, List.set_cons_zero, List.set_cons_succ, i64_w, i32_w]
        rfl
      refine pure_ (i := 6) (N := some 59) (v := ?_) (a' := ?_) #[true, true, true, false, true, true, true, false, false] rfl rfl (by kernel_rfl) (fun _ _ _ h => h) (Or.inl ⟨by rfl, ?_⟩) ?_ ?_
      rotate_left
      · intro w'
        go_simp
        with_reducible rfl
      rotate_left
      · simp only [Act.put, List.setIfInBounds_toArray, List.set_cons_zero, List.set_cons_succ, i64_w, i32_w]
        rfl
      refine take_ (i := 3) (N := some 56) (v := ?_) (a' := ?_) #[true, true, true, true, true, true, true, false, false] rfl rfl (by kernel_rfl) (fun _ _ _ h => h) (Or.inl ⟨by rfl, ?_⟩) hHeld ?_ ?_
      rotate_left
      · rintro w' ⟨s0, s1⟩
        go_simp
        with_reducible rfl
      rotate_left
      · simp only [Act.put, List.setIfInBounds_toArray, List.set_cons_zero, List.set_cons_succ, i64_w, i32_w]
        rfl
      refine take_ (i := 7) (N := some 60) (v := ?_) (a' := ?_) #[true, true, true, true, true, true, true, true, false] rfl rfl (by kernel_rfl) (fun _ _ _ h => h) (Or.inl ⟨by rfl, ?_⟩) hHeld ?_ ?_
      rotate_left
      · rintro w' ⟨s0, s1⟩
        go_simp
        with_reducible rfl
      rotate_left
      · simp only [Act.put, List.setIfInBounds_toArray, List.set_cons_zero, List.set_cons_succ, i64_w, i32_w]
        rfl
      refine last_ (i := 8) (N := some 61) #[true, true, true, true, true, true, true, true, true] rfl rfl (by kernel_rfl) (by decide) (fun K hK => ?_)
      refine copyAll_ev (by rfl) rfl (.tmp 56) (.tmp 60) rfl ga gh n rfl rfl _ _ RR.out.a RR.out.h RR.out.la RR.out.lh B (below_drew1 HX.out) RR.out.ba ?_
      intro w5 h1 h2 h3; have BA := Aside0.mk h1; have OA := Aside0.mk (show ∀ k, k ≠ ga → w5.heap[k]? = wr.heap[k]? from h2.out); have HX5 := Aside0.mk h3; clear h1 h2 h3
      refine hK.out _ _ ?_
      clear hK K
      refine norm_ (a' := ?_) ?_ ?_
      rotate_left
      · show Act.put _ (some 61) _ = _
        simp only [Act.put, List.setIfInBounds_toArray, List.set_cons_zero, List.set_cons_succ, i64_w, i32_w]
        rfl
      refine done_ (by kernel_rfl) ?_

      clear d0 d1
      have R5 := Aside0.mk (RR.out.askedTo _ RR.out.lh BA.out OA.out)
      have F5 := Aside0.mk (FR.out.trans (Fr.but RR.out.a (.inr (.inl rfl)) OA.out))
      clear RR BA OA HX FR
      have x2 : w5.cell? ⟨gd, 2, none⟩ = some (.slice Aq s.btw.length cq) := (blk_cell R5.out.d 2).trans rfl
      have x3 : w5.cell? ⟨gd, 3, none⟩ = some (.int .i64 s.al) := (blk_cell R5.out.d 3).trans rfl
      have x5 : w5.cell? ⟨gd, 5, none⟩ = some (.bool s.ni) := (blk_cell R5.out.d 5).trans rfl
      have z2 := blk_frozen R5.out.d 2
      have z3 := blk_frozen R5.out.d 3
      have z5 := blk_frozen R5.out.d 5
      go_wp2
      go_ret
      have e1 := blk_put R5.out.d 2 (.slice none 0 0) (drow_bt _ _ _ _ _ _ _ _ _)
      have e2 := blk_put e1 5 (.bool false) (drow_ni _ _ _ _ _ _ _ _ _)
      have e3 := blk_put e2 3 (.int .i64 0) (drow_al _ _ _ _ _ _ _ _ _)
      have ho : ∀ k, k ≠ gd → (((w5.setCell ⟨gd, 2, none⟩ (.slice none 0 0)).setCell ⟨gd, 5, none⟩ (.bool false)).setCell ⟨gd, 3, none⟩ (.int .i64 0)).heap[k]? = w5.heap[k]? := fun k hk => (heap_setCell_other _ _ k _ hk).trans ((heap_setCell_other _ _ k _ hk).trans (heap_setCell_other _ _ k _ hk))
      exact ⟨rfl, R5.out.none 0 false (by decide) (by decide) e3 ho, ((HX5.out.setCell (show B ≤ gd from R5.out.bd) _).setCell (show B ≤ gd from R5.out.bd) _).setCell (show B ≤ gd from R5.out.bd) _, F5.out.trans (Fr.but R5.out.d (.inl rfl) ho)⟩
end Go.Proofs.Ytlnfdhcpnbhkdaa.GA
