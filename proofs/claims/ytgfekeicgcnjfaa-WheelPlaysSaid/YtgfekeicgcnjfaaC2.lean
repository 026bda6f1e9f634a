/- The document's wheel, read. No condition. -/
import Derived.Test.YtgfekeicgcnjfaaC1
import Derived.Laws.CopyOwn
import Derived.Laws.CopyRow
import Derived.ChangeKeysEq
import Derived.Deep.RegionHeld3
import Derived.Deep.MidRow
import Derived.Shelf.Abstract
import Derived.Lib.Overlaps
import Derived.Lib.AppendZerosOnto
import Derived.Shelf.Spec.SlicesInsertGrow
import Derived.Maps.OwnSet
import Derived.WalkSpells
namespace Go.Proofs.Ytgfekeicgcnjfaa.GA
open Go.RowKit Go.Shelf Go.Proofs.YtgfekeicgcnjfaaW.PrintWords Go.Proofs.YtgfekeicgcnjfaaW.PrintLast Go.Proofs.YtgfekeicgcnjfaaW.PrintMore
set_option linter.unusedVariables false
set_option linter.unusedSimpArgs false

/-- the document's wheel in memory -/
def Rw (w : World) (g B : Nat) (most : Int) (A : Option Addr) (c : Nat) (L : List S80) : Prop := w.heap[g]? = some (.cells #[.int .i64 most, .slice A L.length c] 51 (0, 0)) ∧ Kd.R k80 80 w B (fun _ => True) (.slice A L.length c) L ∧ B ≤ g ∧ L.length ≤ 100000
theorem Rw.below {w w' : World} {g B : Nat} {most : Int} {A : Option Addr} {c : Nat} {L : List S80} (h : Rw w g B most A c L) (hb : Below w.heap.size w w') : Rw w' g B most A c L := ⟨blk_below h.1 hb, Kd.R_below h.2.1 hb, h.2.2⟩
theorem Rw.lt {w : World} {g B : Nat} {most : Int} {A : Option Addr} {c : Nat} {L : List S80} (h : Rw w g B most A c L) : g < w.heap.size := blk_lt h.1
theorem Rw.base {w : World} {g B : Nat} {most : Int} {A : Option Addr} {c : Nat} {L : List S80} (h : Rw w g B most A c L) : B ≤ w.heap.size := Nat.le_trans h.2.2.1 (Nat.le_of_lt h.lt)
theorem Rw.c0 {w : World} {g B : Nat} {most : Int} {A : Option Addr} {c : Nat} {L : List S80} (h : Rw w g B most A c L) : w.cell? ⟨g, 0, none⟩ = some (.int .i64 most) := (blk_cell h.1 0).trans rfl
theorem Rw.c1 {w : World} {g B : Nat} {most : Int} {A : Option Addr} {c : Nat} {L : List S80} (h : Rw w g B most A c L) : w.cell? ⟨g, 1, none⟩ = some (.slice A L.length c) := (blk_cell h.1 1).trans rfl
theorem Rw.f1 {w : World} {g B : Nat} {most : Int} {A : Option Addr} {c : Nat} {L : List S80} (h : Rw w g B most A c L) : w.frozen? ⟨g, 1, none⟩ = false := blk_frozen h.1 1
theorem Rw.C {w : World} {g B : Nat} {most : Int} {A : Option Addr} {c : Nat} {L : List S80} (h : Rw w g B most A c L) : Kd.C k80 w A L.length L := (Kd.R_reads' h.2.1).2.2
theorem Rw.small {w : World} {g B : Nat} {most : Int} {A : Option Addr} {c : Nat} {L : List S80} (h : Rw w g B most A c L) : L.length ≤ 100000 := h.2.2.2
theorem E80 : ∀ q ∈ k80.E, False := fun q hq => by
  revert hq
  simp [k80, Kd.iso, Kd.pair, Kd.string, Kd.int, Kd.scalar]
/-- all but one block of the old ones stays -/
def Fr1 (w w' : World) (g : Nat) : Prop := ∀ k, k < w.heap.size → k ≠ g → w'.heap[k]? = w.heap[k]?
theorem Fr1.of {w w' : World} (g : Nat) (h : Below w.heap.size w w') : Fr1 w w' g := fun k hk _ => h.block k hk
theorem Fr1.trans {a b c : World} {g : Nat} (h : Fr1 a b g) (hs : a.heap.size ≤ b.heap.size) (k : Fr1 b c g) : Fr1 a c g := fun i hi hne => (k i (Nat.lt_of_lt_of_le hi hs) hne).trans (h i hi hne)
theorem R_but {w w' : World} {base g : Nat} {v : Value} {L : List S80} {cs : Array Value} {t : TypeId} (h : Kd.R k80 80 w base (fun _ => True) v L) (hg : w.heap[g]? = some (.cells cs t (0, 0))) (ht : t ≠ 80) (hk : ∀ k, k < w.heap.size → k ≠ g → w'.heap[k]? = w.heap[k]?) : Kd.R k80 80 w' base (fun _ => True) v L := by
  obtain ⟨h0, inner, ho, hr⟩ := h
  refine ⟨h0, inner, own_move ho (fun k hk2 => ?_), hr.imp_ (fun _ _ hp => k80.M_mono (fun k hk => hk.1) (k80.M_move (fun k hk2 => ?_) (k80.M_bound hp)))⟩
  · obtain ⟨cells, hc⟩ := own_typed ho k hk2
    refine hk k (blk_lt hc) (fun e => ?_)
    subst e
    rw [hg] at hc
    injection hc with hc
    injection hc with _ hc
    exact ht hc
  · obtain ⟨_, _, _, q, hq, cells, hc⟩ := hk2
    exact (E80 q hq).elim
theorem Rw.put {w : World} {g B : Nat} {v0 : Value} {most : Int} {A : Option Addr} {c : Nat} {L : List S80} (hh : w.heap[g]? = some (.cells #[.int .i64 most, v0] 51 (0, 0))) (hR : Kd.R k80 80 w B (fun _ => True) (.slice A L.length c) L) (hB : B ≤ g) (hl : L.length ≤ 100000) :
    Rw (w.setCell ⟨g, 1, none⟩ (.slice A L.length c)) g B most A c L ∧ (∀ k, k ≠ g → (w.setCell ⟨g, 1, none⟩ (.slice A L.length c)).heap[k]? = w.heap[k]?) ∧ (∀ w0, Below B w0 w → Below B w0 (w.setCell ⟨g, 1, none⟩ (.slice A L.length c))) ∧ (w.setCell ⟨g, 1, none⟩ (.slice A L.length c)).heap.size = w.heap.size := by
  rw [setCell_eq_setRow w g 1 _ 51 (0, 0) (.slice A L.length c) hh]
  exact ⟨⟨setRow_heap w g _ _ 51 (0, 0) hh, R_but hR hh (by decide) (fun k _ hne => setRow_other w g k _ hne), hB, hl⟩, fun k hk => setRow_other w g k _ hk, fun w0 hb => below_setRow hb hB _, size_setRow _ _ _⟩
theorem bel {a b : ByteArray} (h : a = b) : (a.toList == b.toList) = true := by rw [h]; exact beq_self_eq_true _
theorem bnl {a b : ByteArray} (h : a ≠ b) : (a.toList == b.toList) = false := beq_false_of_ne (fun e => h (ba_eq e))

set_option maxHeartbeats 8000000 in
set_option maxRecDepth 100000 in
theorem without.calls (g B : Nat) (most : Int) (A : Option Addr) (c : Nat) (L : List S80) (x : ByteArray) (b : Bool) (w : World) (hT : Rw w g B most A c L) (hb : decide ((wo L x).length < L.length) = b) : Calls Try.prog 36 #[.pointer (some ⟨g, 0, none⟩), .string x] w fun e w' => ∃ A1 c1_ ks, e = .returned (.tuple #[.slice A1 ks.length c1_, .bool b]) ∧ ks = wo L x ∧ Kd.R k80 80 w' w.heap.size (fun _ => True) (.slice A1 ks.length c1_) ks ∧ Below w.heap.size w w' := by
  have HB := Aside0.mk (Below.refl w.heap.size w)
  have HT := Aside0.mk hT
  clear hT
  have HBB := Aside0.mk hb
  clear hb
  have hsm := HT.out.small
  have HR0 := Aside0.mk (Kd.R_nil k80 80 w w.heap.size (fun _ => True))
  go_enter Try.func36, Try.ntmps36
  go_wp2
  go_loopw [6, 7] (fun v6 v7 w' => ∃ (j : Nat) (ks : List S80) (A1 : Option Addr) (c1_ : Nat), v6 = .slice A1 ks.length c1_ ∧ v7 = .int .i64 j ∧ j ≤ L.length ∧ Aside0 ((L.take j).filter (fun d => decide (d.f0 ≠ x)) = ks) ∧ Aside0 (Kd.R k80 80 w' w.heap.size (fun _ => True) (.slice A1 ks.length c1_) ks) ∧ Aside0 (Below w.heap.size w w')) (fun v6 v7 _ => (100001 - intOf v7).toNat)
  case atStart => exact ⟨0, [], none, 0, rfl, rfl, Nat.zero_le _, ⟨rfl⟩, HR0, HB⟩
  case round =>
    clear HR0 HB
    obtain ⟨j, ks, A1, c1_, rfl, rfl, hj, HK, HR, HB⟩ := hrel
    have c1 := (HT.out.below HB.out).c1
    by_cases hlt : j < L.length
    · have hkl : ks.length ≤ 100000 := by
        rw [← HK.out]
        exact Nat.le_trans (List.length_filter_le _ _) (by rw [List.length_take]; omega)
      have HTF := Aside0.mk (take_filter L (fun d => decide (d.f0 ≠ x)) j hlt)
      have HJ := Aside0.mk hlt
      obtain ⟨ad, e, x0, x1⟩ := at_T80 (HT.out.below HB.out).C (j : Int) (by omega) (by omega)
      cases e
      rw [rd80 L j hlt] at x0 x1
      simp only [Int.toNat_natCast] at x0 x1
      obtain ⟨d, hd⟩ : ∃ d, L[j] = d := ⟨_, rfl⟩
      rw [hd] at x0 x1
      have HD := Aside0.mk hd
      have HLL : Aside0 ((ks.length + 1) * 24 ≤ 140737488355328) := ⟨by omega⟩
      have HSZ := Aside0.mk HB.out.size
      clear hd
      by_cases he : d.f0 = x
      · have hbe := bel he
        have HE := Aside0.mk he
        clear he
        go_wp2
        go_roundw
        case rel =>
          refine ⟨j + 1, ks, A1, c1_, rfl, by first | rfl | (rw [wrap_ok (by omega) (by omega)]; simp), by omega, ⟨?_⟩, HR, HB⟩
          have h := HTF.out
          rw [HD.out, HK.out, if_neg (by simp [HE.out]), List.append_nil] at h
          exact h
        case measure => (try rw [wrap_ok (by omega) (by omega)]); simp [intOf]; omega
      · have hbe := bnl he
        have HE := Aside0.mk he
        clear he
        go_wp2_with (first | ((with_reducible refine gate_builtin (b := .append) (xs := #[.tmp 27, .tmp 35]) rfl ?_); at_builtin; refine Kd.R_append k80 (w0 := wr) w.heap.size rfl (.tmp 27) (.tmp 35) 49 80 (.agg #[(.string ⟨#[]⟩), (.int .u64 0)]) 24 rfl Try.underlying49 info80 rfl (by decide) (by omega) (.slice A1 ks.length c1_) ks d [.string d.f0, .int .u64 d.f1] (fun _ => True) (fun _ => False) rfl (by first | (go_simp; done) | (go_simp; rfl)) ?aP (fun _ hk => hk.elim) ?aF ?aO ?aB ?aS ?aL ?_; (case aP => exact k80_mkM _ _ _ d); (case aF => exact (fun _ _ => trivial)); (case aO => exact HR.out); (case aB => exact Below.refl _ _); (case aS => exact HSZ.out); (case aL => exact HLL.out); intro v8 w8 hr8 hb8 hg8 hat8))
        go_roundw
        case rel =>
          obtain ⟨k8, hk8⟩ : ∃ k, k = ks ++ [d] := ⟨_, rfl⟩
          rw [← hk8] at hr8
          obtain ⟨A8, c8, rfl⟩ := Kd.R_slice hr8
          refine ⟨j + 1, k8, A8, c8, rfl, by first | rfl | (rw [wrap_ok (by omega) (by omega)]; simp), by omega, ⟨?_⟩, ⟨hr8⟩, ⟨Below.trans HB.out (hb8)⟩⟩
          have h := HTF.out
          rw [HD.out, HK.out, if_pos (by simpa using HE.out)] at h
          rw [hk8]
          exact h
        case measure => (try rw [wrap_ok (by omega) (by omega)]); simp [intOf]; omega
    · obtain rfl : j = L.length := by omega
      clear hlt
      have hw : ks = wo L x := by rw [← HK.out, List.take_length]; rfl
      have db : decide (ks.length < L.length) = b := by rw [hw]; exact HBB.out
      have db2 : decide ((ks.length : Int) < (L.length : Int)) = b := by rw [← db]; exact decide_eq_decide.2 (by omega)
      have HW := Aside0.mk hw
      clear hw
      go_upto_region 7 with (fail)
      refine start_ (n := 11) (S := fun w' => w'.cell? ⟨g, 1, none⟩ = some (.slice A L.length c)) (ds := []) #[false, false, false, false, false, false, false, false, false, false, false] (by kernel_rfl) rfl rfl (c1) (fun hHeld => ?_)
      refine pure_ (i := 0) (N := some 37) (v := ?_) (a' := ?_) #[true, false, false, false, false, false, false, false, false, false, false] rfl rfl (by kernel_rfl) (fun _ _ _ h => h) (Or.inl ⟨by rfl, ?_⟩) ?_ ?_
      rotate_left
      · intro w'
        go_simp
        with_reducible rfl
      rotate_left
      · simp only [Act.put, List.setIfInBounds_toArray, List.set_cons_zero, List.set_cons_succ, i64_w, i32_w]
        rfl
      refine pure_ (i := 1) (N := some 38) (v := ?_) (a' := ?_) #[true, true, false, false, false, false, false, false, false, false, false] rfl rfl (by kernel_rfl) (fun _ _ _ h => h) (Or.inl ⟨by rfl, ?_⟩) ?_ ?_
      rotate_left
      · intro w'
        go_simp
        with_reducible rfl
      rotate_left
      · simp only [Act.put, List.setIfInBounds_toArray, List.set_cons_zero, List.set_cons_succ, i64_w, i32_w]
        rfl
      refine pure_ (i := 2) (N := some 39) (v := ?_) (a' := ?_) #[true, true, true, false, false, false, false, false, false, false, false] rfl rfl (by kernel_rfl) (fun _ _ _ h => h) (Or.inl ⟨by rfl, ?_⟩) ?_ ?_
      rotate_left
      · intro w'
        go_simp
        with_reducible rfl
      rotate_left
      · simp only [Act.put, List.setIfInBounds_toArray, List.set_cons_zero, List.set_cons_succ, i64_w, i32_w]
        rfl
      refine pure_ (i := 3) (N := some 40) (v := ?_) (a' := ?_) #[true, true, true, true, false, false, false, false, false, false, false] rfl rfl (by kernel_rfl) (fun _ _ _ h => h) (Or.inl ⟨by rfl, ?_⟩) ?_ ?_
      rotate_left
      · intro w'
        go_simp
        with_reducible rfl
      rotate_left
      · simp only [Act.put, List.setIfInBounds_toArray, List.set_cons_zero, List.set_cons_succ, i64_w, i32_w]
        rfl
      refine pure_ (i := 4) (N := some 41) (v := ?_) (a' := ?_) #[true, true, true, true, true, false, false, false, false, false, false] rfl rfl (by kernel_rfl) (fun _ _ _ h => h) (Or.inl ⟨by rfl, ?_⟩) ?_ ?_
      rotate_left
      · intro w'
        go_simp
        with_reducible rfl
      rotate_left
      · simp only [Act.put, List.setIfInBounds_toArray, List.set_cons_zero, List.set_cons_succ, i64_w, i32_w]
        rfl
      refine pure_ (i := 5) (N := some 42) (v := ?_) (a' := ?_) #[true, true, true, true, true, true, false, false, false, false, false] rfl rfl (by kernel_rfl) (fun _ _ _ h => h) (Or.inl ⟨by rfl, ?_⟩) ?_ ?_
      rotate_left
      · intro w'
        go_simp
        with_reducible rfl
      rotate_left
      · simp only [Act.put, List.setIfInBounds_toArray, List.set_cons_zero, List.set_cons_succ, i64_w, i32_w]
        rfl
      refine pure_ (i := 9) (N := some 4) (v := ?_) (a' := ?_) #[true, true, true, true, true, true, false, false, false, true, false] rfl rfl (by kernel_rfl) (fun _ _ _ h => h) (Or.inl ⟨by rfl, ?_⟩) ?_ ?_
      rotate_left
      · intro w'
        go_simp
        with_reducible rfl
      rotate_left
      · simp only [Act.put, List.setIfInBounds_toArray, List.set_cons_zero, List.set_cons_succ, i64_w, i32_w]
        rfl
      refine take_ (i := 6) (N := some 43) (v := ?_) (a' := ?_) #[true, true, true, true, true, true, true, false, false, true, false] rfl rfl (by kernel_rfl) (fun _ _ _ h => h) (Or.inl ⟨by rfl, ?_⟩) hHeld ?_ ?_
      rotate_left
      · intro w' s0
        go_simp
        with_reducible rfl
      rotate_left
      · simp only [Act.put, List.setIfInBounds_toArray, List.set_cons_zero, List.set_cons_succ, i64_w, i32_w]
        rfl
      refine pure_ (i := 7) (N := some 44) (v := ?_) (a' := ?_) #[true, true, true, true, true, true, true, true, false, true, false] rfl rfl (by kernel_rfl) (fun _ _ _ h => h) (Or.inl ⟨by rfl, ?_⟩) ?_ ?_
      rotate_left
      · intro w'
        go_simp
        with_reducible rfl
      rotate_left
      · simp only [Act.put, List.setIfInBounds_toArray, List.set_cons_zero, List.set_cons_succ, i64_w, i32_w]
        rfl
      refine pure_ (i := 8) (N := some 45) (v := ?_) (a' := ?_) #[true, true, true, true, true, true, true, true, true, true, false] rfl rfl (by kernel_rfl) (fun _ _ _ h => h) (Or.inl ⟨by rfl, ?_⟩) ?_ ?_
      rotate_left
      · intro w'
        go_simp
        with_reducible rfl
      rotate_left
      · simp only [Act.put, List.setIfInBounds_toArray, List.set_cons_zero, List.set_cons_succ, i64_w, i32_w]
        rfl
      refine pure_ (i := 10) (N := some 5) (v := ?_) (a' := ?_) #[true, true, true, true, true, true, true, true, true, true, true] rfl rfl (by kernel_rfl) (fun _ _ _ h => h) (Or.inl ⟨by rfl, ?_⟩) ?_ ?_
      rotate_left
      · intro w'
        go_simp
        with_reducible rfl
      rotate_left
      · simp only [Act.put, List.setIfInBounds_toArray, List.set_cons_zero, List.set_cons_succ, i64_w, i32_w]
        rfl
      refine done_ (by kernel_rfl) ?_

      go_wp2
      go_ret2
      exact ⟨A1, c1_, ks, by first | rfl | (rw [db2]) | (simp [db, db2]), HW.out, HR.out, below_drew1 HB.out⟩

set_option maxHeartbeats 8000000 in
set_option maxRecDepth 100000 in
theorem RNext.calls (g B : Nat) (most : Int) (A : Option Addr) (c : Nat) (L : List S80) (w : World) (hT : Rw w g B most A c L) : Calls Try.prog 24 #[.pointer (some ⟨g, 0, none⟩)] w fun e w' => e = .returned (.tuple #[.int .u64 (nx L).1, .bool (nx L).2]) ∧ Below w.heap.size w w' := by
  have HB := Aside0.mk (Below.refl w.heap.size w)
  have HT := Aside0.mk hT
  clear hT
  have hsm := HT.out.small
  obtain ⟨nv, hnv⟩ : ∃ v, v = (nx L).1 := ⟨_, rfl⟩
  obtain ⟨nb, hnb⟩ : ∃ v, v = (nx L).2 := ⟨_, rfl⟩
  rw [← hnv, ← hnb]
  have HNV := Aside0.mk hnv
  have HNB := Aside0.mk hnb
  clear hnv hnb
  go_enter Try.func24, Try.ntmps24
  go_wp2
  go_loopw [4, 5] (fun v4 v5 w' => ∃ (j : Nat) (m : Int), v4 = .int .u64 m ∧ v5 = .int .i64 j ∧ j ≤ L.length ∧ Aside0 ((j = 0 ∧ m = 0) ∨ (1 ≤ j ∧ least m (L.drop j) = nv ∧ nb = true)) ∧ Aside0 (Below w.heap.size w w')) (fun v4 v5 _ => (100001 - intOf v5).toNat)
  case atStart => exact ⟨0, 0, rfl, rfl, Nat.zero_le _, ⟨.inl ⟨rfl, rfl⟩⟩, HB⟩
  case round =>
    clear HB
    obtain ⟨j, m, rfl, rfl, hj, HK, HB⟩ := hrel
    have c1 := (HT.out.below HB.out).c1
    by_cases hlt : j < L.length
    · have HJ := Aside0.mk hlt
      obtain ⟨ad, e, x0, x1⟩ := at_T80 (HT.out.below HB.out).C (j : Int) (by omega) (by omega)
      cases e
      rw [rd80 L j hlt] at x0 x1
      simp only [Int.toNat_natCast] at x0 x1
      obtain ⟨d, hd⟩ : ∃ d, L[j] = d := ⟨_, rfl⟩
      rw [hd] at x0 x1
      have HD := Aside0.mk hd
      clear hd
      rcases HK.out with ⟨h0, h1⟩ | ⟨h0, h1, h2⟩
      · have dj : ((j : Int) == 0) = true := by subst h0; rfl
        have dj2 : (j == 0) = true := by subst h0; rfl
        have HZ := Aside0.mk h0
        clear h0 h1
        go_wp2
        go_roundw
        case rel =>
          refine ⟨j + 1, d.f1, rfl, by first | rfl | (rw [wrap_ok (by omega) (by omega)]; simp), by omega, ⟨.inr ⟨by omega, ?_, ?_⟩⟩, HB⟩
          · have h0 := HZ.out
            subst h0
            rw [HNV.out]
            cases L with
            | nil => exact absurd HJ.out (Nat.lt_irrefl _)
            | cons y L =>
              have : y = d := HD.out
              rw [this]
              rfl
          · rw [HNB.out]
            cases L with
            | nil => exact absurd HJ.out (Nat.not_lt_zero _)
            | cons y L => rfl
        case measure => (try rw [wrap_ok (by omega) (by omega)]); simp [intOf]; omega
      · have dj : ((j : Int) == 0) = false := beq_false_of_ne (by omega)
        have dj2 : (j == 0) = false := beq_false_of_ne (by omega)
        have HZ := Aside0.mk h0
        have HL := Aside0.mk h1
        have HTb := Aside0.mk h2
        clear h0 h1 h2 HK
        by_cases hm : d.f1 < m
        · have dm := decide_eq_true hm
          have HM := Aside0.mk hm
          clear hm
          go_wp2
          go_roundw
          case rel =>
            refine ⟨j + 1, d.f1, rfl, by first | rfl | (rw [wrap_ok (by omega) (by omega)]; simp), by omega, ⟨.inr ⟨by omega, ?_, HTb.out⟩⟩, HB⟩
            have h := HL.out
            rw [List.drop_eq_getElem_cons HJ.out, HD.out] at h
            unfold least at h
            rw [List.foldl_cons, if_pos HM.out] at h
            exact h
          case measure => (try rw [wrap_ok (by omega) (by omega)]); simp [intOf]; omega
        · have dm := decide_eq_false hm
          have HM := Aside0.mk hm
          clear hm
          go_wp2
          go_roundw
          case rel =>
            refine ⟨j + 1, m, rfl, by first | rfl | (rw [wrap_ok (by omega) (by omega)]; simp), by omega, ⟨.inr ⟨by omega, ?_, HTb.out⟩⟩, HB⟩
            have h := HL.out
            rw [List.drop_eq_getElem_cons HJ.out, HD.out] at h
            unfold least at h
            rw [List.foldl_cons, if_neg (by have := HM.out; omega)] at h
            exact h
          case measure => (try rw [wrap_ok (by omega) (by omega)]); simp [intOf]; omega
    · obtain rfl : j = L.length := by omega
      clear hlt
      have hm : m = nv ∧ decide (0 < L.length) = nb := by
        rcases HK.out with ⟨h0, h1⟩ | ⟨h0, h1, h2⟩
        · have hL := List.eq_nil_of_length_eq_zero h0
          rw [HNV.out, HNB.out, h1, h0, hL]
          exact ⟨rfl, rfl⟩
        · rw [List.drop_length] at h1
          exact ⟨h1, by rw [h2]; exact decide_eq_true (by omega)⟩
      obtain ⟨hm1, db⟩ := hm
      subst hm1
      have db2 : decide ((0 : Int) < (L.length : Int)) = nb := by rw [← db]; exact decide_eq_decide.2 (by omega)
      clear HK HNV
      go_upto_region 7 with (fail)
      refine start_ (n := 9) (S := fun w' => w'.cell? ⟨g, 1, none⟩ = some (.slice A L.length c)) (ds := []) #[false, false, false, false, false, false, false, false, false] (by kernel_rfl) rfl rfl (c1) (fun hHeld => ?_)
      refine pure_ (i := 0) (N := some 37) (v := ?_) (a' := ?_) #[true, false, false, false, false, false, false, false, false] rfl rfl (by kernel_rfl) (fun _ _ _ h => h) (Or.inl ⟨by rfl, ?_⟩) ?_ ?_
      rotate_left
      · intro w'
        go_simp
        with_reducible rfl
      rotate_left
      · simp only [Act.put, List.setIfInBounds_toArray, List.set_cons_zero, List.set_cons_succ, i64_w, i32_w]
        rfl
      refine pure_ (i := 1) (N := some 38) (v := ?_) (a' := ?_) #[true, true, false, false, false, false, false, false, false] rfl rfl (by kernel_rfl) (fun _ _ _ h => h) (Or.inl ⟨by rfl, ?_⟩) ?_ ?_
      rotate_left
      · intro w'
        go_simp
        with_reducible rfl
      rotate_left
      · simp only [Act.put, List.setIfInBounds_toArray, List.set_cons_zero, List.set_cons_succ, i64_w, i32_w]
        rfl
      refine pure_ (i := 2) (N := some 39) (v := ?_) (a' := ?_) #[true, true, true, false, false, false, false, false, false] rfl rfl (by kernel_rfl) (fun _ _ _ h => h) (Or.inl ⟨by rfl, ?_⟩) ?_ ?_
      rotate_left
      · intro w'
        go_simp
        with_reducible rfl
      rotate_left
      · simp only [Act.put, List.setIfInBounds_toArray, List.set_cons_zero, List.set_cons_succ, i64_w, i32_w]
        rfl
      refine pure_ (i := 3) (N := some 40) (v := ?_) (a' := ?_) #[true, true, true, true, false, false, false, false, false] rfl rfl (by kernel_rfl) (fun _ _ _ h => h) (Or.inl ⟨by rfl, ?_⟩) ?_ ?_
      rotate_left
      · intro w'
        go_simp
        with_reducible rfl
      rotate_left
      · simp only [Act.put, List.setIfInBounds_toArray, List.set_cons_zero, List.set_cons_succ, i64_w, i32_w]
        rfl
      refine pure_ (i := 7) (N := some 2) (v := ?_) (a' := ?_) #[true, true, true, true, false, false, false, true, false] rfl rfl (by kernel_rfl) (fun _ _ _ h => h) (Or.inl ⟨by rfl, ?_⟩) ?_ ?_
      rotate_left
      · intro w'
        go_simp
        with_reducible rfl
      rotate_left
      · simp only [Act.put, List.setIfInBounds_toArray, List.set_cons_zero, List.set_cons_succ, i64_w, i32_w]
        rfl
      refine take_ (i := 4) (N := some 41) (v := ?_) (a' := ?_) #[true, true, true, true, true, false, false, true, false] rfl rfl (by kernel_rfl) (fun _ _ _ h => h) (Or.inl ⟨by rfl, ?_⟩) hHeld ?_ ?_
      rotate_left
      · intro w' s0
        go_simp
        with_reducible rfl
      rotate_left
      · simp only [Act.put, List.setIfInBounds_toArray, List.set_cons_zero, List.set_cons_succ, i64_w, i32_w]
        rfl
      refine pure_ (i := 5) (N := some 42) (v := ?_) (a' := ?_) #[true, true, true, true, true, true, false, true, false] rfl rfl (by kernel_rfl) (fun _ _ _ h => h) (Or.inl ⟨by rfl, ?_⟩) ?_ ?_
      rotate_left
      · intro w'
        go_simp
        with_reducible rfl
      rotate_left
      · simp only [Act.put, List.setIfInBounds_toArray, List.set_cons_zero, List.set_cons_succ, i64_w, i32_w]
        rfl
      refine pure_ (i := 6) (N := some 43) (v := ?_) (a' := ?_) #[true, true, true, true, true, true, true, true, false] rfl rfl (by kernel_rfl) (fun _ _ _ h => h) (Or.inl ⟨by rfl, ?_⟩) ?_ ?_
      rotate_left
      · intro w'
        go_simp
        with_reducible rfl
      rotate_left
      · simp only [Act.put, List.setIfInBounds_toArray, List.set_cons_zero, List.set_cons_succ, i64_w, i32_w]
        rfl
      refine pure_ (i := 8) (N := some 3) (v := ?_) (a' := ?_) #[true, true, true, true, true, true, true, true, true] rfl rfl (by kernel_rfl) (fun _ _ _ h => h) (Or.inl ⟨by rfl, ?_⟩) ?_ ?_
      rotate_left
      · intro w'
        go_simp
        with_reducible rfl
      rotate_left
      · simp only [Act.put, List.setIfInBounds_toArray, List.set_cons_zero, List.set_cons_succ, i64_w, i32_w]
        rfl
      refine done_ (by kernel_rfl) ?_

      go_wp2
      go_ret2
      exact ⟨by first | rfl | (rw [db2]) | (simp [db, db2]), below_drew1 HB.out⟩

set_option maxHeartbeats 8000000 in
set_option maxRecDepth 100000 in
theorem RWhen.calls (g B : Nat) (most : Int) (A : Option Addr) (c : Nat) (L : List S80) (x : ByteArray) (w : World) (hT : Rw w g B most A c L) : Calls Try.prog 22 #[.pointer (some ⟨g, 0, none⟩), .string x] w fun e w' => e = .returned (.tuple #[.int .u64 (wh L x).1, .bool (wh L x).2]) ∧ Below w.heap.size w w' := by
  have HB := Aside0.mk (Below.refl w.heap.size w)
  have HT := Aside0.mk hT
  clear hT
  have hsm := HT.out.small
  obtain ⟨nv, hnv⟩ : ∃ v, v = (wh L x).1 := ⟨_, rfl⟩
  obtain ⟨nb, hnb⟩ : ∃ v, v = (wh L x).2 := ⟨_, rfl⟩
  rw [← hnv, ← hnb]
  have HST : Aside0 (wh (L.drop 0) x = (nv, nb)) := ⟨by rw [List.drop_zero, hnv, hnb]⟩
  clear hnv hnb
  go_enter Try.func22, Try.ntmps22
  go_wp2
  go_loopw [6] (fun v6 w' => ∃ (j : Nat), v6 = .int .i64 j ∧ j ≤ L.length ∧ Aside0 (wh (L.drop j) x = (nv, nb)) ∧ Aside0 (Below w.heap.size w w')) (fun v6 _ => (100001 - intOf v6).toNat)
  case atStart => exact ⟨0, rfl, Nat.zero_le _, HST, HB⟩
  case round =>
    clear HB HST
    obtain ⟨j, rfl, hj, HK, HB⟩ := hrel
    have c1 := (HT.out.below HB.out).c1
    by_cases hlt : j < L.length
    · have HJ := Aside0.mk hlt
      obtain ⟨ad, e, x0, x1⟩ := at_T80 (HT.out.below HB.out).C (j : Int) (by omega) (by omega)
      cases e
      rw [rd80 L j hlt] at x0 x1
      simp only [Int.toNat_natCast] at x0 x1
      obtain ⟨d, hd⟩ : ∃ d, L[j] = d := ⟨_, rfl⟩
      rw [hd] at x0 x1
      have HD := Aside0.mk hd
      clear hd
      by_cases he : d.f0 = x
      · have hbe := bel he
        have hv : d.f1 = nv ∧ true = nb := by
          have h := HK.out
          rw [List.drop_eq_getElem_cons HJ.out, HD.out] at h
          unfold wh at h
          rw [List.find?_cons_of_pos (by simpa using he)] at h
          injection h with h1 h2
          exact ⟨h1, h2⟩
        obtain ⟨hv1, hv2⟩ := hv
        subst hv1
        subst hv2
        clear he HK
        go_wp2
        go_ret2
        exact ⟨rfl, HB.out⟩
      · have hbe := bnl he
        have HE := Aside0.mk he
        clear he
        go_wp2
        go_roundw
        case rel =>
          refine ⟨j + 1, by first | rfl | (rw [wrap_ok (by omega) (by omega)]; simp), by omega, ⟨?_⟩, HB⟩
          have h := HK.out
          rw [List.drop_eq_getElem_cons HJ.out, HD.out] at h
          unfold wh at h
          rw [List.find?_cons_of_neg (by simpa using HE.out)] at h
          exact h
        case measure => (try rw [wrap_ok (by omega) (by omega)]); simp [intOf]; omega
    · obtain rfl : j = L.length := by omega
      clear hlt
      have hv : 0 = nv ∧ false = nb := by
        have h := HK.out
        rw [List.drop_length] at h
        injection h with h1 h2
        exact ⟨h1, h2⟩
      obtain ⟨hv1, hv2⟩ := hv
      subst hv1
      subst hv2
      clear HK
      go_wp2
      go_ret2
      exact ⟨rfl, HB.out⟩

end Go.Proofs.Ytgfekeicgcnjfaa.GA
