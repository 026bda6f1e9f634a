/- A wheel made, and turned. No condition. -/
import Derived.Test.YtgfekeicgcnjfaaB10
import Derived.Test.YtgfekeicgcnjfaaA11
import Derived.Laws.CopyOwn
import Derived.Laws.CopyRow
import Derived.ChangeKeysEq
import Derived.Deep.RegionHeld3
import Derived.Deep.MidRow
import Derived.Shelf.Abstract
import Derived.Lib.Overlaps
import Derived.Lib.AppendZerosOnto
import Derived.Shelf.Spec.SlicesInsertGrow
import Derived.Maps.OwnSet
import Derived.WalkSpells
namespace Go.Proofs.Ytgfekeicgcnjfaa.GA.I
open Go.RowKit Go.Shelf Go.Proofs.YtgfekeicgcnjfaaW.PrintWords Go.Proofs.YtgfekeicgcnjfaaW.PrintLast Go.Proofs.YtgfekeicgcnjfaaW.PrintMore
set_option linter.unusedVariables false
set_option linter.unusedSimpArgs false

/-- what is no wheel's own stays -/
def FrT (w w' : World) : Prop := ∀ (k : Nat) (cells : Array Value) (q : Nat), q ≠ 61 → q ≠ 63 → w.heap[k]? = some (.cells cells q (0, 0)) → w'.heap[k]? = w.heap[k]?
theorem FrT.of {w w' : World} (h : Below w.heap.size w w') : FrT w w' := fun k _ _ _ _ hk => h.block k (blk_lt hk)
theorem FrT.trans {a b c : World} (h : FrT a b) (k : FrT b c) : FrT a c := fun i cells q h1 h2 hi => by
  have e := h i cells q h1 h2 hi
  exact (k i cells q h1 h2 (e.trans hi)).trans e
theorem Whl.frT {w w' : World} {gt mb B : Nat} {most : Int} {v : Value} {xs : List S63} {ord : Int} (h : Whl w gt mb B most v xs ord) (hf : Fw w w' gt mb v) : FrT w w' := fun k cells q h1 h2 hk => by
  refine hf k (blk_lt hk) (fun e => ?_) (fun e => ?_) (fun e => ?_)
  · subst e
    have := h.1
    rw [hk] at this
    injection this with this
    injection this with _ this
    exact h1 this
  · subst e
    obtain ⟨es, c, hb, _⟩ := h.mapIs
    rw [hk] at hb
    cases hb
  · obtain ⟨c2, h3⟩ := own_typed h.row k e.symm
    rw [hk] at h3
    injection h3 with h3
    injection h3 with _ h3
    exact h2 h3
theorem R_frame {α : Type} {d : Kd α} {e : Nat} {w w' : World} {base : Nat} {v : Value} {xs : List α} (h : d.R e w base (fun _ => True) v xs) (hf : FrT w w') (he : e ≠ 61 ∧ e ≠ 63) (hE : ∀ q ∈ d.E, q ≠ 61 ∧ q ≠ 63) : d.R e w' base (fun _ => True) v xs := by
  obtain ⟨h0, inner, ho, hr⟩ := h
  refine ⟨h0, inner, own_move ho (fun k hk => ?_), hr.imp_ (fun _ _ hp => d.M_mono (fun k hk => hk.1) (d.M_move (fun k hk => ?_) (d.M_bound hp)))⟩
  · obtain ⟨cells, hc⟩ := own_typed ho k hk
    exact hf k cells e he.1 he.2 hc
  · obtain ⟨_, _, _, q, hq, cells, hc⟩ := hk
    exact hf k cells q (hE q hq).1 (hE q hq).2 hc
theorem Whl.grown {w w1 : World} {gt mb B : Nat} {most : Int} {v u : Value} {xs : List S63} {ord : Int} {base : Nat} {ks : List Int} (h : Whl w gt mb B most v xs ord) (hu : Kd.R (Kd.int .i64) 3 w base (fun _ => True) u ks) (hg : w.grownBy w1 u.ownBlock) : Whl w1 gt mb B most v xs ord := by
  obtain ⟨_, inner, ho, _⟩ := hu
  have hne : ∀ k cs q, q ≠ 3 → w.heap[k]? = some (.cells cs q (0, 0)) → some k ≠ u.ownBlock := fun k cs q hq hk e => by
    obtain ⟨c2, h2⟩ := own_typed ho k e.symm
    rw [hk] at h2
    injection h2 with h2
    injection h2 with _ h2
    exact hq h2
  obtain ⟨h1, h2, h3, h4⟩ := h
  refine ⟨(hg.block gt (blk_lt h1) (hne gt _ _ (by decide) h1)).trans h1, h2.moved (fun k hk => ?_), h3.kept (hg.block mb h3.lt (fun e => ?_)), h4⟩
  · obtain ⟨c2, h5⟩ := own_typed h2 k hk
    exact hg.block k (blk_lt h5) (hne k _ _ (by decide) h5)
  · obtain ⟨c2, h5⟩ := own_typed ho mb e.symm
    obtain ⟨es, c, hb, _⟩ := h3
    rw [hb] at h5
    cases h5
theorem Fw.grown {w w1 : World} {gt mb base : Nat} {v u : Value} {ks : List Int} {w0 : World} (h : Fw w0 w gt mb v) (hu : Kd.R (Kd.int .i64) 3 w base (fun _ => True) u ks) (hb : w0.heap.size ≤ base) (hs : w0.heap.size ≤ w.heap.size) (hg : w.grownBy w1 u.ownBlock) : Fw w0 w1 gt mb v := fun k hk h1 h2 h3 => by
  refine (hg.block k (Nat.lt_of_lt_of_le hk hs) (fun e => ?_)).trans (h k hk h1 h2 h3)
  have := Kd.R_base hu k e.symm
  omega
theorem Fw.trans {w w1 w' : World} {gt mb : Nat} {v v1 : Value} (h : Fw w w1 gt mb v) (hs : w.heap.size ≤ w1.heap.size) (ha : At w v v1) (k : Fw w1 w' gt mb v1) : Fw w w' gt mb v := fun j hj h1 h2 h3 => by
  refine (k j (Nat.lt_of_lt_of_le hj hs) h1 h2 (fun e => ?_)).trans (h j hj h1 h2 h3)
  rcases ha with e2 | ⟨i, e2, hi⟩
  · exact h3 (e.trans e2)
  · rw [e2] at e
    injection e with e
    omega
theorem At.trans {w w1 : World} {v v1 v2 : Value} (h : At w v v1) (hs : w.heap.size ≤ w1.heap.size) (k : At w1 v1 v2) : At w v v2 := by
  rcases k with k | ⟨j, h1, h2⟩
  · rcases h with h | ⟨i, h3, h4⟩
    · exact .inl (k.trans h)
    · exact .inr ⟨i, k.trans h3, h4⟩
  · exact .inr ⟨j, h1, Nat.le_trans hs h2⟩
def due (xs : List S63) (now : Int) : List S63 := xs.takeWhile fun x => decide (x.f1 ≤ now)
def later (xs : List S63) (now : Int) : List S63 := xs.dropWhile fun x => decide (x.f1 ≤ now)
theorem due_app (ys zs : List S63) (now : Int) (h : ∀ y ∈ ys, y.f1 ≤ now) : due (ys ++ zs) now = ys ++ due zs now ∧ later (ys ++ zs) now = later zs now := by
  induction ys with
  | nil => exact ⟨rfl, rfl⟩
  | cons y ys ih =>
    obtain ⟨h1, h2⟩ := ih (fun a ha => h a (List.mem_cons_of_mem _ ha))
    have hy := h y (List.mem_cons_self ..)
    unfold due later at *
    rw [List.cons_append, List.takeWhile_cons_of_pos (by simpa using hy), List.dropWhile_cons_of_pos (by simpa using hy), h1, h2]
    exact ⟨rfl, rfl⟩
theorem due_nil (now : Int) : due [] now = [] ∧ later [] now = [] := ⟨rfl, rfl⟩
theorem due_stop (z : S63) (zs : List S63) (now : Int) (h : ¬ z.f1 ≤ now) : due (z :: zs) now = [] ∧ later (z :: zs) now = z :: zs := by
  unfold due later
  rw [List.takeWhile_cons_of_neg (by simpa using h), List.dropWhile_cons_of_neg (by simpa using h)]
  exact ⟨rfl, rfl⟩
theorem out_head {z : S63} {zs : List S63} {ord : Int} (h : Wp (z :: zs) ord) : out (z :: zs) z = zs := by
  have h0 : ix (z :: zs) z = 0 := by
    rcases Nat.eq_zero_or_pos (ix (z :: zs) z) with h1 | h1
    · exact h1
    · have := (ix_spec h.2.1 z).1 0 h1
      exact absurd this (ltD_irrefl _)
  unfold out
  rw [h0]
  rfl
theorem Wp.tail {z : S63} {zs : List S63} {ord : Int} (h : Wp (z :: zs) ord) : Wp zs ord := by
  have := h.out z
  rwa [out_head h] at this
def lenV : Value → Nat
  | .slice _ n _ => n
  | _ => 0

set_option maxHeartbeats 8000000 in
set_option maxRecDepth 100000 in
theorem New.calls (most : Int) (w : World) (h1 : 1 ≤ most) : Calls Try.prog 6 #[.int .i64 most] w fun e w' => e = .returned (.pointer (some ⟨w.heap.size + 1, 0, none⟩)) ∧ Whl w' (w.heap.size + 1) w.heap.size w.heap.size most (.slice none 0 0) [] 0 ∧ Below w.heap.size w w' ∧ w.heap.size + 1 < w'.heap.size := by
  have d0 : decide (most < 1) = false := decide_eq_false (by omega)
  have hmm := @run_makeMap Try.prog
  go_enter Try.func6, Try.ntmps6
  go_wp2
  go_ret
  have hs : (w.alloc (.map #[] 0)).heap.size = w.heap.size + 1 := World.size_alloc _ _
  have hb1 : Below w.heap.size w (w.alloc (.map #[] 0)) := below_alloc (Below.refl _ _) _
  have hb2 : Below (w.alloc (.map #[] 0)).heap.size (w.alloc (.map #[] 0)) ((w.alloc (.map #[] 0)).alloc (.cells #[.int .i64 most, .slice none 0 0, .map (some w.heap.size), .int .u64 0] 61)) := below_alloc (Below.refl _ _) _
  have hn := blk_new (w.alloc (.map #[] 0)) (.cells #[.int .i64 most, .slice none 0 0, .map (some w.heap.size), .int .u64 0] 61)
  rw [hs] at hn
  exact ⟨rfl, ⟨hn, ⟨rfl, .inl ⟨rfl, rfl⟩⟩, (MapIs.made w).kept (hb2.block _ (by omega)), by omega, Nat.le_refl _, Nat.zero_le _⟩, Below.trans hb1 (hb2.mono (by omega)), by rw [World.size_alloc, hs]; omega⟩
theorem New.none_ (most : Int) (w : World) (h1 : most < 1) : Calls Try.prog 6 #[.int .i64 most] w fun e w' => e = .returned (.pointer none) ∧ Below w.heap.size w w' := by
  have d0 : decide (most < 1) = true := decide_eq_true h1
  have HB := Aside0.mk (Below.refl w.heap.size w)
  go_enter Try.func6, Try.ntmps6
  go_wp2
  go_ret
  exact ⟨rfl, by repeat (first | (with_reducible first | exact HB.out | apply below_alloc | apply pw_below_drewN | apply below_drew1) | exact HB.out)⟩

set_option maxHeartbeats 8000000 in
set_option maxRecDepth 100000 in
theorem Turn.calls (gt mb B : Nat) (most : Int) (v : Value) (xs : List S63) (ord : Int) (hw : Wp xs ord) (now : Int) (w : World) (hT : Whl w gt mb B most v xs ord) : Calls Try.prog 8 #[.pointer (some ⟨gt, 0, none⟩), .int .u64 now] w fun e w' => ∃ A c ks v', e = .returned (.slice A ks.length c) ∧ ks = (due xs now).map (·.f0) ∧ Kd.R (Kd.int .i64) 3 w' w.heap.size (fun _ => True) (.slice A ks.length c) ks ∧ Whl w' gt mb B most v' (later xs now) ord ∧ Below B w w' ∧ Fw w w' gt mb v ∧ At w v v' := by
  have HB := Aside0.mk (Below.refl w.heap.size w)
  have HT := Aside0.mk hT
  clear hT
  have HBB := Aside0.mk HT.out.base
  have HSM := Aside0.mk HT.out.small
  go_enter Try.func8, Try.ntmps8
  go_upto_region 3 with (first | (go_at_call 26; with_reducible refine (noneW.calls gt mb B most v xs ord _ HT.out).mono ?_; rintro e w' ⟨rfl, hb⟩; have n9_ := Aside0.mk (Whl.below (by with_reducible exact HT.out) hb); have n8_ := Aside0.mk (below_step (by repeat (first | (with_reducible first | exact HB.out | apply below_alloc | apply pw_below_drewN | apply below_drew1) | exact HB.out)) hb); clear HT HB hb; have HT := n9_; have HB := n8_; clear n9_ n8_))
  have HF := Aside0.mk (Fw.of gt mb v HB.out)
  have HA : Aside0 (At w v v) := ⟨.inl rfl⟩
  have HB1 := Aside0.mk (HB.out.mono HBB.out)
  have HR0 := Aside0.mk (Kd.R_nil (Kd.int .i64) 3 w' w.heap.size (fun _ => True))
  have HWP := Aside0.mk hw
  have HY : Aside0 ([] ++ xs = xs ∧ (∀ y ∈ ([] : List S63), y.f1 ≤ now) ∧ ([] : List S63).map (·.f0) = []) := ⟨rfl, (fun y hy => nomatch hy), rfl⟩
  clear HB hw
  have HB := HB1
  clear HB1
  go_wp2
  go_loopw [5] (fun v5 w' => ∃ (ys zs : List S63) (ks : List Int) (A : Option Addr) (c : Nat) (v1 : Value), v5 = .slice A ks.length c ∧ Aside0 (ys ++ zs = xs ∧ (∀ y ∈ ys, y.f1 ≤ now) ∧ ys.map (·.f0) = ks) ∧ Aside0 (Kd.R (Kd.int .i64) 3 w' w.heap.size (fun _ => True) (.slice A ks.length c) ks) ∧ Aside0 (Whl w' gt mb B most v1 zs ord) ∧ Aside0 (Wp zs ord) ∧ Aside0 (Below B w w') ∧ Aside0 (Fw w w' gt mb v) ∧ Aside0 (At w v v1)) (fun v5 _ => 1000001 - lenV v5)
  case atStart => exact ⟨[], xs, [], none, 0, v, rfl, HY, HR0, HT, HWP, HB, HF, HA⟩
  case round =>
    clear HY HR0 HT HWP HB HF HA
    obtain ⟨ys, zs, ks, A, c, v1, rfl, HY, HR, HT, HWP, HB, HF, HA⟩ := hrel
    have hkl : ks.length ≤ 1000000 - zs.length ∧ zs.length ≤ 1000000 := by
      obtain ⟨e1, e2, e3⟩ := HY.out
      have h1 := congrArg List.length e1
      have h2 := congrArg List.length e3
      rw [List.length_append] at h1
      rw [List.length_map] at h2
      have := HSM.out
      omega
    obtain ⟨A1, c1_, hv1, hc1, hC⟩ := HT.out.slice
    cases zs with
    | nil =>
      subst hv1
      have c1 := HT.out.c1
      clear hC
      go_wp2
      go_ret
      · have P1 : ks = (due xs now).map (·.f0) := by
            obtain ⟨e1, e2, e3⟩ := HY.out
            rw [← e1, (due_app ys _ now e2).1, (due_nil now).1, List.append_nil]
            exact e3.symm
        have P2 : later xs now = [] := by
            obtain ⟨e1, e2, e3⟩ := HY.out
            rw [← e1, (due_app ys _ now e2).2, (due_nil now).2]
        first
          | exact ⟨A, c, ks, _, rfl, P1, HR.out, (by rw [P2]; exact HT.out), HB.out, HF.out, HA.out⟩
          | exact ⟨A, c, ks, rfl, P1, HR.out, _, (by rw [P2]; exact HT.out), HB.out, HF.out, HA.out⟩
    | cons z zs =>
      subst hv1
      have c1 := HT.out.c1
      obtain ⟨ad, e, x0, x1, x2⟩ := at_T63 hC 0 (by omega) (by rw [List.length_cons]; omega)
      cases e
      rw [show rd_T63 (z :: zs) 0 = z from rfl] at x0 x1 x2
      simp only [Int.toNat_zero, Nat.zero_mul, Go.Addr.add_zero'] at x0 x1 x2
      clear hC
      by_cases hz : z.f1 ≤ now
      · have dz := decide_eq_true hz
        have HZ := Aside0.mk hz
        have hlen : ks.length + 1 ≤ 1000000 := by rw [List.length_cons] at hkl; omega
        have HLL : Aside0 ((ks.length + 1) * 8 ≤ 140737488355328) := ⟨by omega⟩
        have HSZ := Aside0.mk HB.out.size
        have HZM : Aside0 (z ∈ z :: zs) := ⟨List.mem_cons_self ..⟩
        have HOH := Aside0.mk (out_head HWP.out)
        clear hz hlen
        go_upto_region 6 with (first | ((with_reducible refine gate_builtin (b := .append) (xs := #[.tmp 25, .tmp 33]) rfl ?_); at_builtin; refine Kd.R_append (Kd.int .i64) (w0 := wr) w.heap.size rfl (.tmp 25) (.tmp 33) 28 3 (.int .i64 0) 8 rfl Try.underlying28 info3 rfl (by decide) (by omega) (.slice A ks.length c) ks z.f0 [.int .i64 z.f0] (fun _ => True) (fun _ => False) rfl (by first | (go_simp; done) | (go_simp; rfl)) ?aP (fun _ hk => hk.elim) ?aF ?aO ?aB ?aS ?aL ?_; (case aP => exact rfl); (case aF => exact (fun _ _ => trivial)); (case aO => exact HR.out); (case aB => exact Below.refl _ _); (case aS => exact HSZ.out); (case aL => exact HLL.out); intro v8 w8 hr8 hb8 hg8 hat8))
        have HT8 := Aside0.mk (HT.out.grown HR.out hg8)
        have HF8 := Aside0.mk (HF.out.grown HR.out (Nat.le_refl _) HSZ.out hg8)
        have HB8 := Aside0.mk (Below.trans HB.out (hb8.mono HBB.out))
        have HS8 : Aside0 (w.heap.size ≤ w8.heap.size) := ⟨Nat.le_trans HSZ.out hb8.size⟩
        obtain ⟨ks8, hks8⟩ : ∃ k, k = ks ++ [z.f0] := ⟨_, rfl⟩
        rw [← hks8] at hr8
        obtain ⟨A8, c8, rfl⟩ := Kd.R_slice hr8
        have HK8 := Aside0.mk hks8
        have HR8 := Aside0.mk hr8
        clear hr8 hb8 hg8 hat8 hks8 HT HF HB HSZ HR c1 x0 x1 x2
        have HT := HT8
        clear HT8
        obtain ⟨A', c', e, _, hC⟩ := HT.out.slice
        injection e with e1 e2 e3
        subst e1; subst e3
        have c1 := HT.out.c1
        obtain ⟨ad', e, x0, x1, x2⟩ := at_T63 hC 0 (by omega) (by rw [List.length_cons]; omega)
        cases e
        rw [show rd_T63 (z :: zs) 0 = z from rfl] at x0 x1 x2
        simp only [Int.toNat_zero, Nat.zero_mul, Go.Addr.add_zero'] at x0 x1 x2
        clear hC
        go_wp2_with (first | (go_at_call 27; with_reducible refine (drop.calls gt mb B most _ (z :: zs) ord HWP.out z HZM.out _ HT.out).mono ?_; rw [HOH.out]; rintro e w9 ⟨v2, rfl, ht, hb, hf, ha⟩; have h7 := Aside0.mk ht; have h8 := Aside0.mk hb; have h9 := Aside0.mk hf; have h10 := Aside0.mk ha; clear ht hb hf ha))
        go_roundw
        case rel =>
          refine ⟨ys ++ [z], zs, ks8, A8, c8, v2, rfl, ⟨?_⟩, ⟨R_frame HR8.out (HT.out.frT h9.out) ⟨by decide, by decide⟩ (fun q hq => by cases hq)⟩, h7, ⟨HWP.out.tail⟩, ⟨Below.trans HB8.out h8.out⟩, ⟨HF8.out.trans HS8.out HA.out h9.out⟩, ⟨HA.out.trans HS8.out h10.out⟩⟩
          obtain ⟨e1, e2, e3⟩ := HY.out
          refine ⟨by rw [← e1, List.append_assoc]; rfl, fun y hy => ?_, by rw [HK8.out, ← e3, List.map_append]; rfl⟩
          rcases List.mem_append.1 hy with hy | hy
          · exact e2 y hy
          · rw [List.mem_singleton] at hy
            rw [hy]
            exact HZ.out
        case measure =>
          have := congrArg List.length HK8.out
          rw [List.length_append] at this
          simp only [lenV, List.length_cons, List.length_nil] at *
          omega
      · have dz := decide_eq_false hz
        have HZ := Aside0.mk hz
        clear hz
        go_wp2
        go_ret
        have P1 : ks = (due xs now).map (·.f0) := by
            obtain ⟨e1, e2, e3⟩ := HY.out
            rw [← e1, (due_app ys _ now e2).1, (due_stop z zs now (by have := HZ.out; omega)).1, List.append_nil]
            exact e3.symm
        have P2 : later xs now = z :: zs := by
            obtain ⟨e1, e2, e3⟩ := HY.out
            rw [← e1, (due_app ys _ now e2).2, (due_stop z zs now (by have := HZ.out; omega)).2]
        first
          | exact ⟨A, c, ks, _, rfl, P1, HR.out, (by rw [P2]; exact HT.out), HB.out, HF.out, HA.out⟩
          | exact ⟨A, c, ks, rfl, P1, HR.out, _, (by rw [P2]; exact HT.out), HB.out, HF.out, HA.out⟩

end Go.Proofs.Ytgfekeicgcnjfaa.GA.I
