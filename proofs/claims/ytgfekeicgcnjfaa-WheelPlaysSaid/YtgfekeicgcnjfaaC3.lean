/- The document's wheel, written. No condition. -/
import Derived.Test.YtgfekeicgcnjfaaC2
import Derived.Laws.CopyOwn
import Derived.Laws.CopyRow
import Derived.ChangeKeysEq
import Derived.Deep.RegionHeld3
import Derived.Deep.MidRow
import Derived.Shelf.Abstract
import Derived.Lib.Overlaps
import Derived.Lib.AppendZerosOnto
import Derived.Shelf.Spec.SlicesInsertGrow
import Derived.Maps.OwnSet
import Derived.WalkSpells
namespace Go.Proofs.Ytgfekeicgcnjfaa.GA
open Go.RowKit Go.Shelf Go.Proofs.YtgfekeicgcnjfaaW.PrintWords Go.Proofs.YtgfekeicgcnjfaaW.PrintLast Go.Proofs.YtgfekeicgcnjfaaW.PrintMore
set_option linter.unusedVariables false
set_option linter.unusedSimpArgs false

theorem Rw.gkeep {w w' : World} {g B base : Nat} {most : Int} {A : Option Addr} {c : Nat} {L ks : List S80} {u : Value} (h : Rw w g B most A c L) (hu : Kd.R k80 80 w base (fun _ => True) u ks) (hg : w.grownBy w' u.ownBlock) : w'.heap[g]? = some (.cells #[.int .i64 most, .slice A L.length c] 51 (0, 0)) := by
  refine (hg.block g h.lt (fun e => ?_)).trans h.1
  obtain ⟨_, inner, ho, _⟩ := hu
  obtain ⟨c2, h2⟩ := own_typed ho g e.symm
  have h1 := h.1
  rw [h1] at h2
  injection h2 with h2
  injection h2 with _ h2
  cases h2
theorem Rw.grownS {w w' : World} {g B base : Nat} {most : Int} {A : Option Addr} {c : Nat} {L : List S80} {ks : List ByteArray} {u : Value} (h : Rw w g B most A c L) (hu : Kd.R Kd.string 9 w base (fun _ => True) u ks) (hg : w.grownBy w' u.ownBlock) : Rw w' g B most A c L := by
  obtain ⟨_, inner, ho, _⟩ := hu
  have hne : ∀ k cs q, q ≠ 9 → w.heap[k]? = some (.cells cs q (0, 0)) → some k ≠ u.ownBlock := fun k cs q hq hk e => by
    obtain ⟨c2, h2⟩ := own_typed ho k e.symm
    rw [hk] at h2
    injection h2 with h2
    injection h2 with _ h2
    exact hq h2
  obtain ⟨h1, h2, h3⟩ := h
  refine ⟨(hg.block g (blk_lt h1) (hne g _ _ (by decide) h1)).trans h1, ?_, h3⟩
  obtain ⟨h0, inner2, ho2, hr2⟩ := h2
  refine ⟨h0, inner2, own_move ho2 (fun k hk2 => ?_), hr2.imp_ (fun _ _ hp => k80.M_mono (fun k hk => hk.1) (k80.M_move (fun k hk2 => ?_) (k80.M_bound hp)))⟩
  · obtain ⟨cells, hc⟩ := own_typed ho2 k hk2
    exact hg.block k (blk_lt hc) (hne k _ _ (by decide) hc)
  · obtain ⟨_, _, _, q, hq, cells, hc⟩ := hk2
    exact (E80 q hq).elim
theorem Fr1.grown {w0 w w' : World} {g base : Nat} {u : Value} {e : TypeId} {α : Type} {d : Kd α} {ks : List α} (h : Fr1 w0 w g) (hu : Kd.R d e w base (fun _ => True) u ks) (hb : w0.heap.size ≤ base) (hs : w0.heap.size ≤ w.heap.size) (hg : w.grownBy w' u.ownBlock) : Fr1 w0 w' g := fun k hk hne => by
  refine (hg.block k (Nat.lt_of_lt_of_le hk hs) (fun e => ?_)).trans (h k hk hne)
  have := Kd.R_base hu k e.symm
  omega
theorem RNext.nil_ (g B : Nat) (most : Int) (A : Option Addr) (c : Nat) (w : World) (hT : Rw w g B most A c []) : Calls Try.prog 24 #[.pointer (some ⟨g, 0, none⟩)] w fun e w' => e = .returned (.tuple #[.int .u64 0, .bool false]) ∧ Below w.heap.size w w' := RNext.calls g B most A c [] w hT
theorem RNext.cons_ (g B : Nat) (most : Int) (A : Option Addr) (c : Nat) (L : List S80) (v : Int) (w : World) (hT : Rw w g B most A c L) (hn : nx L = (v, true)) : Calls Try.prog 24 #[.pointer (some ⟨g, 0, none⟩)] w fun e w' => e = .returned (.tuple #[.int .u64 v, .bool true]) ∧ Below w.heap.size w w' := by
  have h := RNext.calls g B most A c L w hT
  rw [hn] at h
  exact h
theorem RWhen.is_ (g B : Nat) (most : Int) (A : Option Addr) (c : Nat) (L : List S80) (x : ByteArray) (v : Int) (b : Bool) (w : World) (hT : Rw w g B most A c L) (hn : wh L x = (v, b)) : Calls Try.prog 22 #[.pointer (some ⟨g, 0, none⟩), .string x] w fun e w' => e = .returned (.tuple #[.int .u64 v, .bool b]) ∧ Below w.heap.size w w' := by
  have h := RWhen.calls g B most A c L x w hT
  rw [hn] at h
  exact h

theorem R_but9 {w w' : World} {base g : Nat} {v : Value} {L : List ByteArray} {cs : Array Value} (h : Kd.R Kd.string 9 w base (fun _ => True) v L) (hg : w.heap[g]? = some (.cells cs 51 (0, 0))) (hk : ∀ k, k < w.heap.size → k ≠ g → w'.heap[k]? = w.heap[k]?) : Kd.R Kd.string 9 w' base (fun _ => True) v L := by
  obtain ⟨h0, inner, ho, hr⟩ := h
  refine ⟨h0, inner, own_move ho (fun k hk2 => ?_), hr.imp_ (fun _ _ hp => Kd.string.M_mono (fun k hk => hk.1) (Kd.string.M_move (fun k hk2 => ?_) (Kd.string.M_bound hp)))⟩
  · obtain ⟨cells, hc⟩ := own_typed ho k hk2
    refine hk k (blk_lt hc) (fun e => ?_)
    subst e
    rw [hg] at hc
    injection hc with hc
    injection hc with _ hc
    cases hc
  · obtain ⟨_, _, _, q, hq, cells, hc⟩ := hk2
    cases hq

set_option maxHeartbeats 8000000 in
set_option maxRecDepth 100000 in
theorem RNew.calls (most : Int) (w : World) (h1 : 1 ≤ most) : Calls Try.prog 13 #[.int .i64 most] w fun e w' => e = .returned (.pointer (some ⟨w.heap.size, 0, none⟩)) ∧ Rw w' w.heap.size w.heap.size most none 0 [] ∧ Below w.heap.size w w' ∧ w.heap.size < w'.heap.size := by
  have d0 : decide (most < 1) = false := decide_eq_false (by omega)
  go_enter Try.func13, Try.ntmps13
  go_wp2
  go_ret
  exact ⟨rfl, ⟨blk_new w _, Kd.R_nil k80 80 _ _ (fun _ => True), Nat.le_refl _, Nat.zero_le _⟩, below_alloc (Below.refl _ _) _, by rw [World.size_alloc]; omega⟩
theorem RNew.none_ (most : Int) (w : World) (h1 : most < 1) : Calls Try.prog 13 #[.int .i64 most] w fun e w' => e = .returned (.pointer none) ∧ Below w.heap.size w w' := by
  have d0 : decide (most < 1) = true := decide_eq_true h1
  have HB := Aside0.mk (Below.refl w.heap.size w)
  go_enter Try.func13, Try.ntmps13
  go_wp2
  go_ret
  exact ⟨rfl, by repeat (first | (with_reducible first | exact HB.out | apply below_alloc | apply pw_below_drewN | apply below_drew1) | exact HB.out)⟩

set_option maxHeartbeats 8000000 in
set_option maxRecDepth 100000 in
theorem RSet.arg (g B : Nat) (most : Int) (A : Option Addr) (c : Nat) (L : List S80) (x : ByteArray) (at_ : Int) (hat : 1099511627776 < at_) (w : World) (hT : Rw w g B most A c L) : Calls Try.prog 15 #[.pointer (some ⟨g, 0, none⟩), .string x, .int .u64 at_] w fun e w' => e = .returned (.int .i64 2) ∧ Below w.heap.size w w' := by
  have hda : decide ((1099511627776 : Int) < at_) = true := decide_eq_true hat
  have HB := Aside0.mk (Below.refl w.heap.size w)
  have HT := Aside0.mk hT
  clear hT
  go_enter Try.func15, Try.ntmps15
  go_wp2
  go_ret
  exact ⟨rfl, by repeat (first | (with_reducible first | exact HB.out | apply below_alloc | apply pw_below_drewN | apply below_drew1) | exact HB.out)⟩

set_option maxHeartbeats 8000000 in
set_option maxRecDepth 100000 in
theorem RSet.full (g B : Nat) (most : Int) (A : Option Addr) (c : Nat) (L : List S80) (x : ByteArray) (at_ : Int) (hat : at_ ≤ 1099511627776) (w : World) (hT : Rw w g B most A c L) (hb : decide ((wo L x).length < L.length) = false) (hf : most ≤ ((wo L x).length : Int)) : Calls Try.prog 15 #[.pointer (some ⟨g, 0, none⟩), .string x, .int .u64 at_] w fun e w' => e = .returned (.int .i64 10) ∧ Below w.heap.size w w' := by
  have hda : decide ((1099511627776 : Int) < at_) = false := decide_eq_false (by omega)
  have HB := Aside0.mk (Below.refl w.heap.size w)
  have HT := Aside0.mk hT
  clear hT
  have HBB := Aside0.mk hb
  clear hb
  go_enter Try.func15, Try.ntmps15
  go_upto_region 4 with (first | (go_at_call 36; with_reducible refine (without.calls g B most A c L x false _ HT.out HBB.out).mono ?_; rintro e w3 ⟨A1, c1_, ks, rfl, hk, hr, hb⟩; have HK := Aside0.mk hk; have HR := Aside0.mk hr; have ht := HT.out.below hb; have n8_ := Aside0.mk (below_step (by repeat (first | (with_reducible first | exact HB.out | apply below_alloc | apply pw_below_drewN | apply below_drew1) | exact HB.out)) hb); clear HT HB hb hk hr; have HT := Aside0.mk ht; have HB := n8_; clear n8_ ht))
  have hdf : decide (most ≤ (ks.length : Int)) = true := decide_eq_true (by rw [HK.out]; exact hf)
  have c0 := HT.out.c0
  clear hf
  go_wp2
  go_ret
  exact ⟨rfl, HB.out⟩

set_option maxHeartbeats 8000000 in
set_option maxRecDepth 100000 in
theorem RSet.again (g B : Nat) (most : Int) (A : Option Addr) (c : Nat) (L : List S80) (x : ByteArray) (at_ : Int) (hat : at_ ≤ 1099511627776) (w : World) (hT : Rw w g B most A c L) (hb : decide ((wo L x).length < L.length) = true)  (hsm : (wo L x).length < 100000) : Calls Try.prog 15 #[.pointer (some ⟨g, 0, none⟩), .string x, .int .u64 at_] w fun e w' => ∃ A' c', e = .returned (.int .i64 0) ∧ Rw w' g B most A' c' (wo L x ++ [⟨x, at_⟩]) ∧ Below B w w' ∧ Fr1 w w' g := by
  have hda : decide ((1099511627776 : Int) < at_) = false := decide_eq_false (by omega)
  have HB := Aside0.mk (Below.refl w.heap.size w)
  have HT := Aside0.mk hT
  clear hT
  have HB0 := Aside0.mk HT.out.base
  have HBB := Aside0.mk hb
  clear hb
  go_enter Try.func15, Try.ntmps15
  go_upto_region 4 with (first | (go_at_call 36; with_reducible refine (without.calls g B most A c L x true _ HT.out HBB.out).mono ?_; rintro e w3 ⟨A1, c1_, ks, rfl, hk, hr, hb⟩; have HK := Aside0.mk hk; have HR := Aside0.mk hr; have ht := HT.out.below hb; have n8_ := Aside0.mk (below_step (by repeat (first | (with_reducible first | exact HB.out | apply below_alloc | apply pw_below_drewN | apply below_drew1) | exact HB.out)) hb); clear HT HB hb hk hr; have HT := Aside0.mk ht; have HB := n8_; clear n8_ ht))
  have c0 := HT.out.c0
  have HSB : Aside0 (B ≤ w3.heap.size) := ⟨Nat.le_trans HB0.out HB.out.size⟩
  have HRB := Aside0.mk (Kd.R_lower HR.out HB0.out)
  have hkl : ks.length ≤ 100000 - 1 := by rw [HK.out]; omega
  have HLL : Aside0 ((ks.length + 1) * 24 ≤ 140737488355328) := ⟨by omega⟩
  obtain ⟨ks8, hks8⟩ : ∃ k, k = ks ++ [(⟨x, at_⟩ : S80)] := ⟨_, rfl⟩
  have HK8 := Aside0.mk hks8
  clear hks8
  go_wp2_with (first | ((with_reducible refine gate_builtin (b := .append) (xs := #[.tmp 29, .tmp 33]) rfl ?_); at_builtin; refine Kd.R_append k80 (w0 := w3) B rfl (.tmp 29) (.tmp 33) 49 80 (.agg #[(.string ⟨#[]⟩), (.int .u64 0)]) 24 rfl Try.underlying49 info80 rfl (by decide) (by omega) (.slice A1 ks.length c1_) ks ⟨x, at_⟩ [.string x, .int .u64 at_] (fun _ => True) (fun _ => False) rfl (by first | (go_simp; done) | (go_simp; rfl)) ?aP (fun _ hk => hk.elim) ?aF ?aO ?aB ?aS ?aL ?_; (case aP => exact k80_mkM _ _ _ (⟨x, at_⟩ : S80)); (case aF => exact (fun _ _ => trivial)); (case aO => exact HRB.out); (case aB => exact Below.refl _ _); (case aS => exact HSB.out); (case aL => exact HLL.out); intro v8 w8 hr8 hb8 hg8 hat8; have hgg := HT.out.gkeep HR.out hg8; have q1 : w8.cell? ⟨g, 1, none⟩ = some _ := (blk_cell hgg 1).trans rfl; have q2 : w8.frozen? ⟨g, 1, none⟩ = false := blk_frozen hgg 1; rw [← HK8.out] at hr8; obtain ⟨A8, c8, rfl⟩ := Kd.R_slice hr8; have h7 := Aside0.mk hr8; have h8 := Aside0.mk hb8; have h9 := Aside0.mk hg8; have h10 := Aside0.mk hgg; clear hr8 hb8 hg8 hat8 hgg))
  go_ret
  obtain ⟨p1, p2, p3, p4⟩ := Rw.put h10.out h7.out HT.out.2.2.1 (by rw [HK8.out, List.length_append]; show _ + 1 ≤ _; omega)
  have e8 : ks8 = wo L x ++ [⟨x, at_⟩] := by rw [HK8.out, HK.out]
  rw [← e8]
  have hb := HB.out
  have P1 : Below B w (w8.setCell ⟨g, 1, none⟩ (.slice A8 ks8.length c8)) := p3 w (Below.trans (hb.mono HB0.out) h8.out)
  have P2 : Fr1 w (w8.setCell ⟨g, 1, none⟩ (.slice A8 ks8.length c8)) g := fun k hk hne => by
    refine (p2 k hne).trans ((h9.out.block k (Nat.lt_of_lt_of_le hk hb.size) (fun e => ?_)).trans (hb.block k hk))
    have := Kd.R_base HR.out k e.symm
    omega
  first
    | exact ⟨A8, c8, rfl, p1, P1, P2⟩
    | exact ⟨rfl, A8, c8, p1, P1, P2⟩


set_option maxHeartbeats 8000000 in
set_option maxRecDepth 100000 in
theorem RSet.new (g B : Nat) (most : Int) (A : Option Addr) (c : Nat) (L : List S80) (x : ByteArray) (at_ : Int) (hat : at_ ≤ 1099511627776) (w : World) (hT : Rw w g B most A c L) (hb : decide ((wo L x).length < L.length) = false) (hf : ((wo L x).length : Int) < most) (hsm : (wo L x).length < 100000) : Calls Try.prog 15 #[.pointer (some ⟨g, 0, none⟩), .string x, .int .u64 at_] w fun e w' => ∃ A' c', e = .returned (.int .i64 0) ∧ Rw w' g B most A' c' (wo L x ++ [⟨x, at_⟩]) ∧ Below B w w' ∧ Fr1 w w' g := by
  have hda : decide ((1099511627776 : Int) < at_) = false := decide_eq_false (by omega)
  have HB := Aside0.mk (Below.refl w.heap.size w)
  have HT := Aside0.mk hT
  clear hT
  have HB0 := Aside0.mk HT.out.base
  have HBB := Aside0.mk hb
  clear hb
  go_enter Try.func15, Try.ntmps15
  go_upto_region 4 with (first | (go_at_call 36; with_reducible refine (without.calls g B most A c L x false _ HT.out HBB.out).mono ?_; rintro e w3 ⟨A1, c1_, ks, rfl, hk, hr, hb⟩; have HK := Aside0.mk hk; have HR := Aside0.mk hr; have ht := HT.out.below hb; have n8_ := Aside0.mk (below_step (by repeat (first | (with_reducible first | exact HB.out | apply below_alloc | apply pw_below_drewN | apply below_drew1) | exact HB.out)) hb); clear HT HB hb hk hr; have HT := Aside0.mk ht; have HB := n8_; clear n8_ ht))
  have c0 := HT.out.c0
  have hdf : decide (most ≤ (ks.length : Int)) = false := decide_eq_false (by rw [HK.out]; omega)
  clear hf
  have HSB : Aside0 (B ≤ w3.heap.size) := ⟨Nat.le_trans HB0.out HB.out.size⟩
  have HRB := Aside0.mk (Kd.R_lower HR.out HB0.out)
  have hkl : ks.length ≤ 100000 - 1 := by rw [HK.out]; omega
  have HLL : Aside0 ((ks.length + 1) * 24 ≤ 140737488355328) := ⟨by omega⟩
  obtain ⟨ks8, hks8⟩ : ∃ k, k = ks ++ [(⟨x, at_⟩ : S80)] := ⟨_, rfl⟩
  have HK8 := Aside0.mk hks8
  clear hks8
  go_wp2_with (first | ((with_reducible refine gate_builtin (b := .append) (xs := #[.tmp 29, .tmp 33]) rfl ?_); at_builtin; refine Kd.R_append k80 (w0 := w3) B rfl (.tmp 29) (.tmp 33) 49 80 (.agg #[(.string ⟨#[]⟩), (.int .u64 0)]) 24 rfl Try.underlying49 info80 rfl (by decide) (by omega) (.slice A1 ks.length c1_) ks ⟨x, at_⟩ [.string x, .int .u64 at_] (fun _ => True) (fun _ => False) rfl (by first | (go_simp; done) | (go_simp; rfl)) ?aP (fun _ hk => hk.elim) ?aF ?aO ?aB ?aS ?aL ?_; (case aP => exact k80_mkM _ _ _ (⟨x, at_⟩ : S80)); (case aF => exact (fun _ _ => trivial)); (case aO => exact HRB.out); (case aB => exact Below.refl _ _); (case aS => exact HSB.out); (case aL => exact HLL.out); intro v8 w8 hr8 hb8 hg8 hat8; have hgg := HT.out.gkeep HR.out hg8; have q1 : w8.cell? ⟨g, 1, none⟩ = some _ := (blk_cell hgg 1).trans rfl; have q2 : w8.frozen? ⟨g, 1, none⟩ = false := blk_frozen hgg 1; rw [← HK8.out] at hr8; obtain ⟨A8, c8, rfl⟩ := Kd.R_slice hr8; have h7 := Aside0.mk hr8; have h8 := Aside0.mk hb8; have h9 := Aside0.mk hg8; have h10 := Aside0.mk hgg; clear hr8 hb8 hg8 hat8 hgg))
  go_ret
  obtain ⟨p1, p2, p3, p4⟩ := Rw.put h10.out h7.out HT.out.2.2.1 (by rw [HK8.out, List.length_append]; show _ + 1 ≤ _; omega)
  have e8 : ks8 = wo L x ++ [⟨x, at_⟩] := by rw [HK8.out, HK.out]
  rw [← e8]
  have hb := HB.out
  have P1 : Below B w (w8.setCell ⟨g, 1, none⟩ (.slice A8 ks8.length c8)) := p3 w (Below.trans (hb.mono HB0.out) h8.out)
  have P2 : Fr1 w (w8.setCell ⟨g, 1, none⟩ (.slice A8 ks8.length c8)) g := fun k hk hne => by
    refine (p2 k hne).trans ((h9.out.block k (Nat.lt_of_lt_of_le hk hb.size) (fun e => ?_)).trans (hb.block k hk))
    have := Kd.R_base HR.out k e.symm
    omega
  first
    | exact ⟨A8, c8, rfl, p1, P1, P2⟩
    | exact ⟨rfl, A8, c8, p1, P1, P2⟩


set_option maxHeartbeats 8000000 in
set_option maxRecDepth 100000 in
theorem RStop.no (g B : Nat) (most : Int) (A : Option Addr) (c : Nat) (L : List S80) (x : ByteArray) (w : World) (hT : Rw w g B most A c L) (hb : decide ((wo L x).length < L.length) = false) : Calls Try.prog 17 #[.pointer (some ⟨g, 0, none⟩), .string x] w fun e w' => e = .returned (.int .i64 7) ∧ Below w.heap.size w w' := by
  have HB := Aside0.mk (Below.refl w.heap.size w)
  have HT := Aside0.mk hT
  clear hT
  have HBB := Aside0.mk hb
  clear hb
  go_enter Try.func17, Try.ntmps17
  go_wp2_with (first
    | (go_at_call 36; with_reducible refine (without.calls g B most A c L x false _ HT.out HBB.out).mono ?_; rintro e w3 ⟨A1, c1_, ks, rfl, hk, hr, hb⟩; have HK := Aside0.mk hk; have HR := Aside0.mk hr; have ht := HT.out.below hb; have n8_ := Aside0.mk (below_step (by repeat (first | (with_reducible first | exact HB.out | apply below_alloc | apply pw_below_drewN | apply below_drew1) | exact HB.out)) hb); clear HT HB hb hk hr; have HT := Aside0.mk ht; have HB := n8_; clear n8_ ht))
  go_ret
  exact ⟨rfl, HB.out⟩

set_option maxHeartbeats 8000000 in
set_option maxRecDepth 100000 in
theorem RStop.yes (g B : Nat) (most : Int) (A : Option Addr) (c : Nat) (L : List S80) (x : ByteArray) (w : World) (hT : Rw w g B most A c L) (hb : decide ((wo L x).length < L.length) = true) : Calls Try.prog 17 #[.pointer (some ⟨g, 0, none⟩), .string x] w fun e w' => ∃ A' c', e = .returned (.int .i64 0) ∧ Rw w' g B most A' c' (wo L x) ∧ Below B w w' ∧ Fr1 w w' g := by
  have HB := Aside0.mk (Below.refl w.heap.size w)
  have HT := Aside0.mk hT
  clear hT
  have HB0 := Aside0.mk HT.out.base
  have HSM := Aside0.mk HT.out.small
  have HBB := Aside0.mk hb
  clear hb
  go_enter Try.func17, Try.ntmps17
  go_upto_region 4 with (first | (go_at_call 36; with_reducible refine (without.calls g B most A c L x true _ HT.out HBB.out).mono ?_; rintro e w3 ⟨A1, c1_, ks, rfl, hk, hr, hb⟩; have HK := Aside0.mk hk; have HR := Aside0.mk hr; have ht := HT.out.below hb; have n8_ := Aside0.mk (below_step (by repeat (first | (with_reducible first | exact HB.out | apply below_alloc | apply pw_below_drewN | apply below_drew1) | exact HB.out)) hb); clear HT HB hb hk hr; have HT := Aside0.mk ht; have HB := n8_; clear n8_ ht))
  have q1 : w3.cell? ⟨g, 1, none⟩ = some (.slice A L.length c) := HT.out.c1
  have q2 := HT.out.f1
  go_wp2
  go_ret
  have hb := HB.out
  obtain ⟨p1, p2, p3, p4⟩ := Rw.put HT.out.1 (Kd.R_lower HR.out HB0.out) HT.out.2.2.1 (by rw [HK.out]; exact Nat.le_trans (List.length_filter_le _ _) HSM.out)
  have P1 := p3 w (hb.mono HB0.out)
  have P2 : Fr1 w (w3.setCell ⟨g, 1, none⟩ (.slice A1 ks.length c1_)) g := fun k hk hne => (p2 k hne).trans (hb.block k hk)
  rw [← HK.out]
  first
    | exact ⟨A1, c1_, rfl, p1, P1, P2⟩
    | exact ⟨rfl, A1, c1_, p1, P1, P2⟩

set_option maxHeartbeats 8000000 in
set_option maxRecDepth 100000 in
theorem RTurn.calls (g B : Nat) (most : Int) (A : Option Addr) (c : Nat) (L : List S80) (xs : List S71) (ord : Int) (hl : Rel xs L) (hw : Wp xs ord) (now : Int) (w : World) (hT : Rw w g B most A c L) : Calls Try.prog 20 #[.pointer (some ⟨g, 0, none⟩), .int .u64 now] w fun e w' => ∃ A5 c5 ks A' c' L', e = .returned (.slice A5 ks.length c5) ∧ ks = (due xs now).map (·.f0) ∧ Kd.R Kd.string 9 w' w.heap.size (fun _ => True) (.slice A5 ks.length c5) ks ∧ Rw w' g B most A' c' L' ∧ Rel (later xs now) L' ∧ Below B w w' ∧ Fr1 w w' g := by
  have HT := Aside0.mk hT
  have HB0 := Aside0.mk hT.base
  have HSM : Aside0 (xs.length ≤ 100000) := ⟨by rw [← hl.len]; exact hT.small⟩
  have HB := Aside0.mk (Below.refl B w)
  have HF : Aside0 (Fr1 w w g) := ⟨fun _ _ _ => rfl⟩
  have HR0 := Aside0.mk (Kd.R_nil Kd.string 9 w w.heap.size (fun _ => True))
  have HWP := Aside0.mk hw
  have HRL := Aside0.mk hl
  have HY : Aside0 ([] ++ xs = xs ∧ (∀ y ∈ ([] : List S71), y.f1 ≤ now) ∧ ([] : List S71).map (·.f0) = []) := ⟨rfl, (fun y hy => nomatch hy), rfl⟩
  clear hT hw hl
  go_enter Try.func20, Try.ntmps20
  go_wp2
  go_loopw [5] (fun v5 w' => ∃ (ys zs : List S71) (ks : List ByteArray) (A5 : Option Addr) (c5 : Nat) (A' : Option Addr) (c' : Nat) (L' : List S80), v5 = .slice A5 ks.length c5 ∧ Aside0 (ys ++ zs = xs ∧ (∀ y ∈ ys, y.f1 ≤ now) ∧ ys.map (·.f0) = ks) ∧ Aside0 (Kd.R Kd.string 9 w' w.heap.size (fun _ => True) (.slice A5 ks.length c5) ks) ∧ Aside0 (Rw w' g B most A' c' L') ∧ Aside0 (Rel zs L') ∧ Aside0 (Wp zs ord) ∧ Aside0 (Below B w w') ∧ Aside0 (Fr1 w w' g)) (fun v5 _ => 100001 - lenV v5)
  case atStart => exact ⟨[], xs, [], none, 0, A, c, L, rfl, HY, HR0, HT, HRL, HWP, HB, HF⟩
  case round =>
    clear HY HR0 HT HRL HWP HB HF
    obtain ⟨ys, zs, ks, A5, c5, A', c', L', rfl, HY, HR5, HT, HRL, HWP, HB, HF⟩ := hrel
    have hkl : ks.length ≤ 100000 - zs.length ∧ zs.length ≤ 100000 := by
      obtain ⟨e1, e2, e3⟩ := HY.out
      have h1 := congrArg List.length e1
      have h2 := congrArg List.length e3
      rw [List.length_append] at h1
      rw [List.length_map] at h2
      have := HSM.out
      omega
    cases zs with
    | nil =>
      obtain rfl := HRL.out.nil_
      clear hkl
      go_wp2_with (first | (go_at_call 24; with_reducible refine (RNext.nil_ g B most A' c' _ HT.out).mono ?_; rintro e w2 ⟨rfl, hb⟩; have HB2 := Aside0.mk hb; clear hb))
      go_ret
      have P1 : ks = (due xs now).map (·.f0) := by
        obtain ⟨e1, e2, e3⟩ := HY.out
        rw [← e1, (due_app ys _ now e2).1, (due_nil now).1, List.append_nil]
        exact e3.symm
      have P2 : later xs now = [] := by
        obtain ⟨e1, e2, e3⟩ := HY.out
        rw [← e1, (due_app ys _ now e2).2, (due_nil now).2]
      have P3 : Rel (later xs now) [] := by rw [P2]; exact HRL.out
      have P4 := HT.out.below HB2.out
      have P5 := Kd.R_below HR5.out HB2.out
      have P6 := Below.trans HB.out (HB2.out.mono HT.out.base)
      have P7 := HF.out.trans HB.out.size (Fr1.of g HB2.out)
      first
        | exact ⟨A5, c5, ks, A', c', [], rfl, P1, P5, P4, P3, P6, P7⟩
        | exact ⟨A5, c5, ks, rfl, P1, P5, A', c', [], P4, P3, P6, P7⟩
    | cons z zs =>
      have HNX := Aside0.mk (HRL.out.next HWP.out)
      by_cases hz : z.f1 ≤ now
      · have dz : decide (now < z.f1) = false := decide_eq_false (by omega)
        have HZ := Aside0.mk hz
        have hlen : ks.length + 1 ≤ 100000 := by rw [List.length_cons] at hkl; omega
        have HLL : Aside0 ((ks.length + 1) * 16 ≤ 140737488355328) := ⟨by omega⟩
        have HKL := Aside0.mk hlen
        obtain ⟨p, hp, hpz, hpj⟩ := HRL.out.first HWP.out
        have HPZ := Aside0.mk hpz
        have HPJ := Aside0.mk hpj
        have HLS := Aside0.mk HT.out.small
        have hls := HT.out.small
        clear hz hlen hkl hpz hpj
        go_upto_region 5 with (first | (go_at_call 24; with_reducible refine (RNext.cons_ g B most A' c' L' z.f1 _ HT.out HNX.out).mono ?_; rintro e w2 ⟨rfl, hb⟩; have HB2 := Aside0.mk hb; clear hb))
        go_wp2
        have HW := Aside0.mk (Below.refl w2.heap.size w2)
        go_loopw [5, 8] (fun v5 v8 w' => ∃ j : Nat, v5 = .slice A5 ks.length c5 ∧ v8 = .int .i64 j ∧ j ≤ p ∧ Aside0 (Below w2.heap.size w2 w')) (fun v5 v8 _ => (100001 - intOf v8).toNat)
        case atStart => exact ⟨0, rfl, rfl, Nat.zero_le _, HW⟩
        case round =>
          clear HW
          obtain ⟨j, rfl, rfl, hj, HW⟩ := hrel
          have HTW := Aside0.mk ((HT.out.below HB2.out).below HW.out)
          have c1 := HTW.out.c1
          have hjl : j < L'.length := by omega
          obtain ⟨ad, e, x0, x1⟩ := at_T80 HTW.out.C (j : Int) (by omega) (by omega)
          cases e
          rw [rd80 L' j hjl] at x0 x1
          simp only [Int.toNat_natCast] at x0 x1
          have hge : L'.getD j z80 = L'[j] := by
            rw [List.getD_eq_getElem?_getD, List.getElem?_eq_getElem hjl]
            rfl
          obtain ⟨d, hd⟩ : ∃ d, L'[j] = d := ⟨_, rfl⟩
          rw [hd] at x0 x1 hge
          clear hd
          by_cases hlt : j < p
          · have hne : (d.f1 == z.f1) = false := beq_false_of_ne (by rw [← hge]; exact HPJ.out j hlt)
            have HJ := Aside0.mk hlt
            clear hge hlt
            go_wp2
            go_roundw
            case rel => exact ⟨j + 1, rfl, by first | rfl | (rw [wrap_ok (by omega) (by omega)]; simp), by have := HJ.out; omega, HW⟩
            case measure => have := HJ.out; have := HLS.out; (try rw [wrap_ok (by omega) (by omega)]); simp [intOf]; omega
          · obtain rfl : j = p := by omega
            have hdz : d = p80 z := by rw [← hge]; exact HPZ.out
            subst hdz
            have hne : ((p80 z).f1 == z.f1) = true := beq_self_eq_true _
            have hne2 : (z.f1 == z.f1) = true := beq_self_eq_true _
            change wr.cell? _ = some (.string z.f0) at x0
            change wr.cell? _ = some (.int .u64 z.f1) at x1
            clear hge hlt
            have n1_ := Aside0.mk (Kd.R_below (Kd.R_below HR5.out HB2.out) HW.out)
            have n2_ := Aside0.mk (Below.trans HB.out ((HB2.out.mono HT.out.base).trans (HW.out.mono (Nat.le_trans HT.out.base HB2.out.size))))
            have n3_ := Aside0.mk (HF.out.trans HB.out.size ((Fr1.of g HB2.out).trans HB2.out.size (Fr1.of g HW.out)))
            clear HR5 HB HF HB2 HW HT
            have HR5 := n1_
            have HB := n2_
            have HF := n3_
            have HT := HTW
            clear n1_ n2_ n3_ HTW
            have HSZ := Aside0.mk HB.out.size
            go_upto_region 10 with (first | ((with_reducible refine gate_builtin (b := .append) (xs := #[.tmp 41, .tmp 50]) rfl ?_); at_builtin; refine Kd.R_append Kd.string (w0 := wr) w.heap.size rfl (.tmp 41) (.tmp 50) 44 9 (.string ⟨#[]⟩) 16 rfl Try.underlying44 info9 rfl (by decide) (by omega) (.slice A5 ks.length c5) ks z.f0 [.string z.f0] (fun _ => True) (fun _ => False) rfl (by first | (go_simp; done) | (go_simp; rfl)) ?aP (fun _ hk => hk.elim) ?aF ?aO ?aB ?aS ?aL ?_; (case aP => exact rfl); (case aF => exact (fun _ _ => trivial)); (case aO => exact HR5.out); (case aB => exact Below.refl _ _); (case aS => exact HSZ.out); (case aL => exact HLL.out); intro v8 w8 hr8 hb8 hg8 hat8))
            have HT8 := Aside0.mk (HT.out.grownS HR5.out hg8)
            have HB8 := Aside0.mk (Below.trans HB.out (hb8.mono HB0.out))
            have HF8 := Aside0.mk (HF.out.grown HR5.out (Nat.le_refl _) HSZ.out hg8)
            have HS8 : Aside0 (w.heap.size ≤ w8.heap.size) := ⟨Nat.le_trans HSZ.out hb8.size⟩
            obtain ⟨ks8, hks8⟩ : ∃ k, k = ks ++ [z.f0] := ⟨_, rfl⟩
            rw [← hks8] at hr8
            obtain ⟨A8, c8, rfl⟩ := Kd.R_slice hr8
            have HK8 := Aside0.mk hks8
            have HR8 := Aside0.mk hr8
            have HBB : Aside0 (decide ((wo L' z.f0).length < L'.length) = true) := ⟨by
              have h1 := (HRL.out.wo_in HWP.out (List.mem_cons_self ..)).len
              rw [h1, HRL.out.len, out_head HWP.out]
              exact decide_eq_true (by rw [List.length_cons]; omega)⟩
            clear hr8 hb8 hg8 hat8 hks8 HT HB HF c1 x0 x1
            have c1 := HT8.out.c1
            obtain ⟨ad', e, x0, x1⟩ := at_T80 HT8.out.C (j : Int) (by omega) (by omega)
            cases e
            rw [rd80 L' j hjl] at x0 x1
            simp only [Int.toNat_natCast] at x0 x1
            have hge2 : L'[j] = p80 z := by
              have := HPZ.out
              rw [List.getD_eq_getElem?_getD, List.getElem?_eq_getElem hjl] at this
              exact this
            rw [hge2] at x0 x1
            change w8.cell? _ = some (.string z.f0) at x0
            change w8.cell? _ = some (.int .u64 z.f1) at x1
            clear hge2
            go_wp2_with (first | (go_at_call 36; with_reducible refine (without.calls g B most _ _ L' z.f0 true _ HT8.out HBB.out).mono ?_; rintro e w3 ⟨A1, c1_, k2, rfl, hk, hr, hb⟩; have HK2 := Aside0.mk hk; have HR2 := Aside0.mk hr; have ht := Aside0.mk (HT8.out.below hb); have q1 : w3.cell? ⟨g, 1, none⟩ = some _ := ht.out.c1; have q2 := ht.out.f1; have hb3 := Aside0.mk hb; clear hb hk hr))
            go_roundw
            case rel =>
              obtain ⟨p1, p2, p3, p4⟩ := Rw.put ht.out.1 (Kd.R_lower HR2.out HT8.out.base) ht.out.2.2.1 (by rw [HK2.out]; exact Nat.le_trans (List.length_filter_le _ _) HLS.out)
              have h1 := HRL.out.wo_in HWP.out (List.mem_cons_self ..)
              rw [out_head HWP.out, ← HK2.out] at h1
              refine ⟨ys ++ [z], zs, ks8, A8, c8, A1, c1_, k2, rfl, ⟨?_⟩, ⟨?_⟩, ⟨p1⟩, ⟨h1⟩, ⟨HWP.out.tail⟩, ⟨p3 w (Below.trans HB8.out (hb3.out.mono HT8.out.base))⟩, ⟨HF8.out.trans HS8.out ((Fr1.of g hb3.out).trans hb3.out.size (fun k _ hne => p2 k hne))⟩⟩
              · obtain ⟨e1, e2, e3⟩ := HY.out
                refine ⟨by rw [← e1, List.append_assoc]; rfl, fun y hy => ?_, by rw [HK8.out, ← e3, List.map_append]; rfl⟩
                rcases List.mem_append.1 hy with hy | hy
                · exact e2 y hy
                · rw [List.mem_singleton] at hy
                  rw [hy]
                  exact HZ.out
              · exact R_but9 (Kd.R_below HR8.out hb3.out) ht.out.1 (fun k _ hne => p2 k hne)
            case measure =>
              have := congrArg List.length HK8.out
              rw [List.length_append] at this
              have := HKL.out
              simp only [lenV, List.length_cons, List.length_nil] at *
              omega
      · have dz : decide (now < z.f1) = true := decide_eq_true (by omega)
        have HZ : Aside0 (¬ z.f1 ≤ now) := ⟨hz⟩
        clear hz hkl
        go_wp2_with (first | (go_at_call 24; with_reducible refine (RNext.cons_ g B most A' c' L' z.f1 _ HT.out HNX.out).mono ?_; rintro e w2 ⟨rfl, hb⟩; have HB2 := Aside0.mk hb; clear hb))
        go_ret
        have P1 : ks = (due xs now).map (·.f0) := by
          obtain ⟨e1, e2, e3⟩ := HY.out
          rw [← e1, (due_app ys _ now e2).1, (due_stop z zs now (by have := HZ.out; omega)).1, List.append_nil]
          exact e3.symm
        have P2 : later xs now = z :: zs := by
          obtain ⟨e1, e2, e3⟩ := HY.out
          rw [← e1, (due_app ys _ now e2).2, (due_stop z zs now (by have := HZ.out; omega)).2]
        have P3 : Rel (later xs now) L' := by rw [P2]; exact HRL.out
        have P4 := HT.out.below HB2.out
        have P5 := Kd.R_below HR5.out HB2.out
        have P6 := Below.trans HB.out (HB2.out.mono HT.out.base)
        have P7 := HF.out.trans HB.out.size (Fr1.of g HB2.out)
        first
          | exact ⟨A5, c5, ks, A', c', L', rfl, P1, P5, P4, P3, P6, P7⟩
          | exact ⟨A5, c5, ks, rfl, P1, P5, A', c', L', P4, P3, P6, P7⟩

end Go.Proofs.Ytgfekeicgcnjfaa.GA
