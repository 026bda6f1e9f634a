/- CloudAgain, walked. No condition. -/
import Derived.Test.YtfhopjigdkjnoaaK33
import Derived.Laws.CopyOwn
import Derived.Laws.CopyRow
import Derived.ChangeKeysEq
import Derived.Deep.RegionHeld3
import Derived.Deep.MidRow
import Derived.Shelf.Abstract
import Derived.Maps.OwnSet
import Derived.Maps.AppendAt
import Derived.WalkSpells
import Derived.Deep.DeepCutAuto
import Derived.Deep.LoopGhost
namespace Go.Proofs.Ytfhopjigdkjnoaa.GA
open Go.RowKit Go.Shelf Go.Proofs.YtfhopjigdkjnoaaW.PrintWords Go.Proofs.YtfhopjigdkjnoaaW.PrintLast Go.Proofs.YtfhopjigdkjnoaaW.PrintMore
set_option linter.unusedVariables false
set_option linter.unusedSimpArgs false

theorem Post.take' {w w' : World} {gc mb B : Nat} {vl vw : Value} {s : CS} (h : Post w w' gc mb B vl vw s) : ∃ vl' vw', Cl w' gc mb B vl' vw' s ∧ Nw w vl vl' ∧ Nw w vw vw' ∧ Below B w w' ∧ Fr w w' gc mb vl vw := h
theorem Evs.at_ {w : World} {B : Nat} {v : Value} {e : SE} (h : Evs w B v (some e)) : ∃ g, v = .slice (some ⟨g, 0, none⟩) 1 1 := by
  obtain ⟨g, h1, _⟩ := h
  exact ⟨g, h1⟩
theorem Evs.kind {w : World} {B g : Nat} {e : SE} (h : Evs w B (.slice (some ⟨g, 0, none⟩) 1 1) (some e)) : w.cell? ⟨g, 0, none⟩ = some (.int .u8 e.k) := by
  obtain ⟨g', h1, _, h3⟩ := h
  injection h1 with h1 _ _
  injection h1 with h1
  injection h1 with h1
  subst h1
  exact (blk_cell h3 0).trans rfl
def rL (t p : Int) : S27 := ⟨1, t, p, false, 0⟩
def eF (b : Bool) (t : Int) : SE := if b = true then ⟨11, t, 0, 0, 0, 0, 0⟩ else ⟨10, t, 1, 0, 0, 0, 0⟩
theorem Evs.kindF {w : World} {B g : Nat} {t : Int} (h : Evs w B (.slice (some ⟨g, 0, none⟩) 1 1) (some (eF false t))) : w.cell? ⟨g, 0, none⟩ = some (.int .u8 10) := h.kind
theorem Evs.kindT {w : World} {B g : Nat} {t : Int} (h : Evs w B (.slice (some ⟨g, 0, none⟩) 1 1) (some (eF true t))) : w.cell? ⟨g, 0, none⟩ = some (.int .u8 11) := h.kind
def kd (b : Bool) : Int := if b = true then 2 else 1
def sW (t p : Int) : CS := ⟨[], [rL t p], []⟩
def sF (b : Bool) (t p : Int) : CS := if b = true then ⟨[], [], [(t, eF b t)]⟩ else ⟨[⟨1, t, p, 1, 0⟩], [], [(t, eF b t)]⟩
def MayL (t p : Int) : Prop := 1 ≤ t ∧ t ≤ 4611686018427387904 ∧ 0 ≤ p ∧ p < 64
theorem mayL (a0 a1 : Int) : MayL (1 + a0 % 4611686018427387904) (a1 % 64) := by unfold MayL; omega
theorem MayL.ok {t p : Int} (h : MayL t p) : okK t := by
  unfold okK
  unfold MayL at h
  simp [Lit.wf, IntKind.min, IntKind.max, IntKind.signed, IntKind.bits]
  omega
theorem MayL.asks {t p : Int} (h : MayL t p) : asksP (rL t p) = true := by
  unfold MayL at h
  unfold asksP cloud_asks.f rL
  dsimp only
  rw [if_neg (by omega), if_pos rfl, if_pos (by omega), if_pos (by omega), show decide (p < 64) = true from decide_eq_true (by omega)]
  rfl
theorem ag_ask {t p : Int} (h : MayL t p) : askS emp (rL t p) = (sW t p, none) := by
  unfold askS
  rw [if_neg (by rw [h.asks]; intro q; rcases q with q | q; exact absurd q (by decide); exact absurd (show (false : Bool) = true from q) (by decide)), if_pos (show (rL t p).f0 = 1 from rfl)]
  rfl
theorem ag_act {t p : Int} (b : Bool) : actS (sW t p) (kd b) 0 0 = (sF b t p, some (eF b t)) := by
  have hf : [rL t p].filter (fun x => !isTok t x) = [] := by
    rw [List.filter_cons_of_neg, List.filter_nil]
    simp [isTok, rL]
  cases b
  · show (grantS (sW t p) (rL t p), _) = _
    show ((⟨_, [rL t p].filter (fun x => !isTok t x), _⟩ : CS), _) = _
    rw [hf]
    rfl
  · show (refuseS (sW t p) (rL t p), _) = _
    show ((⟨_, [rL t p].filter (fun x => !isTok t x), _⟩ : CS), _) = _
    rw [hf]
    rfl
theorem ag_okW {t p : Int} (h : MayL t p) : Ok (sW t p) := by have := (askS_ok emp_ok (rL t p) h.ok).1; rwa [ag_ask h] at this
theorem ag_okF {t p : Int} (h : MayL t p) (b : Bool) : Ok (sF b t p) := by have := (actS_ok (ag_okW h) (kd b) 0 0).1; rwa [ag_act] at this
theorem ag_len {t p : Int} (b : Bool) : (sF b t p).L.length ≤ 1 ∧ (sF b t p).W.length ≤ 1 ∧ (t, eF b t) ∈ (sF b t p).A := by
  cases b
  · exact ⟨Nat.le_refl _, Nat.zero_le _, List.mem_cons_self⟩
  · exact ⟨Nat.zero_le _, Nat.zero_le _, List.mem_cons_self⟩
theorem ag_again {s : CS} (hk : Ok s) {t p : Int} (h : MayL t p) {e : SE} (hin : (t, e) ∈ s.A) (hw : s.W.any (fun x => x.f1 == t) = false) : askS s (rL t p) = (s, some e) := by
  unfold askS
  rw [if_neg (by rw [h.asks]; intro q; rcases q with q | q; exact absurd q (by decide); exact absurd (hw.symm.trans q) (by decide)), if_pos (show (rL t p).f0 = 1 from rfl)]
  cases hf : s.A.find? (fun y => y.1 == (rL t p).f1) with
  | none => exact absurd rfl (find_none hf _ hin)
  | some y =>
    obtain ⟨h1, h2⟩ := find_some hf
    have := hk.keys.one h1 hin h2
    subst this
    rfl
theorem AgAsk.calls (t p : Int) (w : World) (gc mb B : Nat) (vl vw : Value) (hC : Cl w gc mb B vl vw emp) (h : MayL t p) : Calls Try.prog 7 #[.pointer (some ⟨gc, 0, none⟩), .agg #[.int .u8 1, .int .u64 t, .int .i64 p, .bool false, .int .u64 0]] w fun e w' => ∃ v, e = .returned v ∧ Lv w w' gc mb B vl vw v none (sW t p) := by
  refine (AskS.calls w gc mb B vl vw emp hC emp_ok (by decide) (by decide) (rL t p) h.ok (Int.le_refl 0)).mono ?_
  rintro e w' ⟨v, h1, h2, h3⟩
  rw [ag_ask h] at h2 h3
  exact ⟨v, h1, Lv.of hC h2 h3⟩
theorem AgAct.calls (b : Bool) (t p : Int) (w : World) (gc mb B : Nat) (vl vw : Value) (hC : Cl w gc mb B vl vw (sW t p)) (h : MayL t p) : Calls Try.prog 8 #[.pointer (some ⟨gc, 0, none⟩), .agg #[.int .u8 (kd b), .int .i64 0, .int .i64 0, .int .i64 0, .int .u64 0]] w fun e w' => ∃ v, e = .returned v ∧ Lv w w' gc mb B vl vw v (some (eF b t)) (sF b t p) := by
  refine (ActS.calls w gc mb B vl vw (sW t p) hC (ag_okW h) (by show 1 ≤ 1000000; omega) (by show 0 < 8192; omega) (kd b) 0 0 0 0 (by cases b <;> rfl)).mono ?_
  rintro e w' ⟨v, h1, h2, h3⟩
  have h2 := h2 (by cases b <;> decide)
  rw [ag_act] at h2 h3
  exact ⟨v, h1, Lv.of hC h2 h3⟩
/-- what the last answer leaves: blocks that are not the cloud's stay -/
def AgPost (w w' : World) (gc mb B : Nat) (vl vw : Value) : Prop := Below B w w' ∧ Fr w w' gc mb vl vw
theorem AgPost.below {w w' : World} {gc mb B : Nat} {vl vw : Value} (h : AgPost w w' gc mb B vl vw) : Below B w w' := h.1
theorem Evs.keptB {w w' : World} {gc mb B B' : Nat} {vl vw v : Value} {s : CS} {o : Option SE} (h : Evs w B' v o) (hC : Cl w gc mb B vl vw s) (f : AgPost w w' gc mb B vl vw) : Evs w' B' v o := h.far hC f.2
theorem Again.calls {a2 : Bool} (t p : Int) (w : World) (gc mb B : Nat) (vl vw : Value) (s : CS) (hC : Cl w gc mb B vl vw s) (hk : Ok s) (hn : s.W.length ≤ 1000000) (hn2 : s.L.length < 8192) (h : MayL t p) (hin : (t, eF a2 t) ∈ s.A) (hw : s.W.any (fun x => x.f1 == t) = false) : Calls Try.prog 7 #[.pointer (some ⟨gc, 0, none⟩), .agg #[.int .u8 1, .int .u64 t, .int .i64 p, .bool false, .int .u64 0]] w fun e w' => ∃ v, e = .returned v ∧ Evs w' B v (some (eF a2 t)) ∧ AgPost w w' gc mb B vl vw := by
  refine (AskS.calls w gc mb B vl vw s hC hk hn (by omega) (rL t p) h.ok (Int.le_refl 0)).mono ?_
  rintro e w' ⟨v, h1, h2, h3⟩
  rw [ag_again hk h hin hw] at h2 h3
  obtain ⟨_, _, _, _, _, h4, h5⟩ := h3
  exact ⟨v, h1, h2.base hC.base, h4, h5⟩
theorem none_of {W : List S27} {t : Int} (h : ∀ j, j < W.length → (at27 W j).f1 ≠ t) : W.any (fun x => x.f1 == t) = false := by
  rw [List.any_eq_false]
  intro x hx
  obtain ⟨j, hj, rfl⟩ := List.mem_iff_getElem.1 hx
  have := h j hj
  rw [at27_eq hj] at this
  simpa using this
theorem ag_run {l : List S34} (hl : ∀ d ∈ l, deedOk d) {t p : Int} (h : MayL t p) (b : Bool) (i : Nat) (hi : i ≤ 60) : Ok (runS (sF b t p) (l.take i)) ∧ (t, eF b t) ∈ (runS (sF b t p) (l.take i)).A ∧ (runS (sF b t p) (l.take i)).L.length < 8192 ∧ (runS (sF b t p) (l.take i)).W.length ≤ 1000 := by
  have h0 := ag_okF h b
  obtain ⟨h1, h2, h3⟩ := ag_len (t := t) (p := p) b
  have h4 := runS_len h0 _ (deeds_take hl i)
  have h5 : (l.take i).length ≤ i := by rw [List.length_take]; omega
  exact ⟨runS_ok h0 _ (deeds_take hl i), runS_A h0 _ (deeds_take hl i) _ h3, by omega, by omega⟩
theorem Cl.putFar {w : World} {gc mb B g k : Nat} {vl vw v : Value} {s : CS} {cs : Array Value} {t : TypeId} (h : Cl w gc mb B vl vw s) (hg : w.heap[g]? = some (.cells cs t (0, 0))) (h1 : t ≠ 56) (h2 : t ≠ 50) (h3 : t ≠ 27) : Cl (w.setCell ⟨g, k, none⟩ v) gc mb B vl vw s := by
  have ne1 : gc ≠ g := fun e => by
    have h4 := h.1
    rw [e, hg] at h4
    injection h4 with h4
    injection h4 with _ h4
    exact h1 h4
  have ne2 : mb ≠ g := fun e => by
    obtain ⟨es, c, h4, _⟩ := h.mapIs
    rw [e, hg] at h4
    injection h4 with h4
    cases h4
  have hne : ∀ k', k' ≠ g → (w.setCell ⟨g, k, none⟩ v).heap[k']? = w.heap[k']? := fun k' hk => heap_setCell_other w _ k' _ hk
  exact ⟨(hne gc ne1).trans h.1, h.rowL.moved fun k' hk => hne k' (fun e => h.rowL.ne hg h2 (by rw [← e, hk])), h.rowW.moved fun k' hk => hne k' (fun e => h.rowW.ne hg h3 (by rw [← e, hk])), h.mapIs.kept (hne mb ne2), h.2.2.2.2⟩
theorem Fb.putFar {w : World} {g g' k : Nat} {vw v : Value} {r : S27} {cs : Array Value} {t : TypeId} (h : Fb w vw g r) (hg : w.heap[g']? = some (.cells cs t (0, 0))) (h3 : t ≠ 27) : Fb (w.setCell ⟨g', k, none⟩ v) vw g r := by
  refine ⟨(heap_setCell_other w _ g _ (fun e => ?_)).trans h.1, h.2⟩
  have h4 := h.1
  have e' : g = g' := e
  rw [e', hg] at h4
  injection h4 with h4
  injection h4 with _ h4
  exact h3 h4
theorem wrap_k' {k : Nat} (h : k < 1000000) : wrap64 ((k : Int) + 1) = (k : Int) + 1 := wrap_ok (by omega) (by omega)
set_option maxHeartbeats 8000000 in
set_option maxRecDepth 100000 in
theorem CloudAgain.calls (a0 a1 : Int) (a2 : Bool) (A : Option Addr) (c : Nat) (l : List S34) (w : World) (h0 : 0 ≤ a0 ∧ a0 < 18446744073709551616) (h1 : 0 ≤ a1 ∧ a1 < 256) (hr : Kd.C k34 w A l.length l) (hc : l.length ≤ c) (hl : ∀ d ∈ l, deedOk d) : Calls Try.prog 3 #[.int .u64 a0, .int .u8 a1, .bool a2, .slice A l.length c] w fun e w' => e = .returned (.bool true) ∧ Below w.heap.size w w' := by
  have HL := Aside0.mk hr
  have HD : Aside0 (∀ d ∈ l, deedOk d) := ⟨hl⟩
  have HAS := Aside0.mk (mayL a0 a1)
  clear hr hl
  go_enter Try.func3, Try.ntmps3
  go_upto_region 2 with (go_at_call 6; with_reducible refine (New.calls _).mono ?_; rintro e w1 ⟨gc, mb, rfl, h1, h2⟩; have HC := Aside0.mk h1; have HB := Aside0.mk h2; clear h1 h2)
  go_upto_region 3 with fail
  have kN := Aside0.mk (blk_new w1 (.cells #[.int .u8 1, .int .u64 (1 + a0 % 4611686018427387904), .int .i64 (a1 % 64), .bool false, .int .u64 0] 27))
  have hb := below_alloc (Below.refl w1.heap.size w1) (.cells #[.int .u8 1, .int .u64 (1 + a0 % 4611686018427387904), .int .i64 (a1 % 64), .bool false, .int .u64 0] 27)
  have k1 := Aside0.mk (HC.out.below hb)
  have k2 := Aside0.mk (HB.out.trans (Below.mono hb HC.out.base))
  obtain ⟨g10, hg10⟩ : ∃ g, g = w1.heap.size := ⟨_, rfl⟩
  rw [← hg10]
  rw [← hg10] at kN
  clear HC HB
  have HC := k1
  have HB := k2
  generalize World.alloc w1 _ = w2 at kN HC HB ⊢
  have FA : Aside0 (Fb w2 (.slice none 0 0) g10 (rL (1 + a0 % 4611686018427387904) (a1 % 64))) := ⟨kN.out, fun e => by simp [Value.ownBlock] at e⟩
  clear hb kN hg10 k1 k2
  have p0 : w2.cell? ⟨g10, 0, none⟩ = some (.int .u8 1) := FA.out.c0
  have p1 : w2.cell? ⟨g10, 1, none⟩ = some (.int .u64 (1 + a0 % 4611686018427387904)) := FA.out.c1
  have p2 : w2.cell? ⟨g10, 2, none⟩ = some (.int .i64 (a1 % 64)) := FA.out.c2
  have p3 : w2.cell? ⟨g10, 3, none⟩ = some (.bool false) := FA.out.c3
  have p4 : w2.cell? ⟨g10, 4, none⟩ = some (.int .u64 0) := FA.out.c4
  go_upto_region 5 with (go_at_call 7; with_reducible refine (AgAsk.calls (1 + a0 % 4611686018427387904) (a1 % 64) _ gc mb _ _ _ HC.out HAS.out).mono ?_; rintro e w3 ⟨v3, rfl, hv⟩; obtain ⟨vl2, vw2, h1, h2, h3, h4, h5⟩ := Lv.take hv; clear hv; have kA := Aside0.mk (FA.out.next HC.out h4 h5); have kB := Aside0.mk (HB.out.trans h3); clear HC HB FA h3 h5; have HC := Aside0.mk h1; have HB := kB; have FA := kA; clear h1 h4 kA kB; obtain rfl := Evs.nil_ h2)
  clear p0 p1 p2 p3 p4
  go_upto_region 6 with fail
  have BK := Aside0.mk (blk_new w3 (.cells #[.int .u8 1, .int .i64 0, .int .i64 0, .int .i64 0, .int .u64 0] 31))
  have hb := below_alloc (Below.refl w3.heap.size w3) (.cells #[.int .u8 1, .int .i64 0, .int .i64 0, .int .i64 0, .int .u64 0] 31)
  have k1 := Aside0.mk (HC.out.below hb)
  have k2 := Aside0.mk (HB.out.trans (Below.mono hb HC.out.base))
  have k3 := Aside0.mk (FA.out.below hb)
  obtain ⟨g11, hg11⟩ : ∃ g, g = w3.heap.size := ⟨_, rfl⟩
  have GG : Aside0 (w.heap.size ≤ g11) := ⟨by rw [hg11]; exact HC.out.base⟩
  rw [← hg11]
  rw [← hg11] at BK
  clear HC HB FA
  have HC := k1
  have HB := k2
  have FA := k3
  generalize World.alloc w3 _ = w4 at BK HC HB FA ⊢
  clear hb hg11 k1 k2 k3
  go_upto_if 31 with fail
  go_cut [8] (fun v8 wc => v8 = .bool false ∧ Aside0 (Cl wc gc mb w.heap.size vl2 vw2 (sW (1 + a0 % 4611686018427387904) (a1 % 64))) ∧ Aside0 (Fb wc vw2 g10 (rL (1 + a0 % 4611686018427387904) (a1 % 64))) ∧ Aside0 (wc.heap[g11]? = some (.cells #[.int .u8 (kd a2), .int .i64 0, .int .i64 0, .int .i64 0, .int .u64 0] 31 (0, 0))) ∧ Aside0 (Below w.heap.size w wc))
  case first =>
    have z0 := blk_frozen BK.out 0
    have c0 : w4.cell? ⟨g11, 0, none⟩ = some (.int .u8 1) := (blk_cell BK.out 0).trans rfl
    cases a2
    · go_wp2
      go_meet
      case rel => exact ⟨rfl, HC, FA, BK, HB⟩
    · go_wp2
      go_meet
      case rel => exact ⟨rfl, ⟨HC.out.putFar BK.out (by decide) (by decide) (by decide)⟩, ⟨FA.out.putFar BK.out (by decide)⟩, ⟨blk_put BK.out 0 _ rfl⟩, ⟨HB.out.setCell (show w.heap.size ≤ g11 from GG.out) _⟩⟩
  case rest =>
    clear HC FA BK HB GG
    obtain ⟨rfl, HC, FA, BK, HB⟩ := hcut
    have y0 : wc.cell? ⟨g11, 0, none⟩ = some (.int .u8 (kd a2)) := (blk_cell BK.out 0).trans rfl
    have y1 : wc.cell? ⟨g11, 1, none⟩ = some (.int .i64 0) := (blk_cell BK.out 1).trans rfl
    have y2 : wc.cell? ⟨g11, 2, none⟩ = some (.int .i64 0) := (blk_cell BK.out 2).trans rfl
    have y3 : wc.cell? ⟨g11, 3, none⟩ = some (.int .i64 0) := (blk_cell BK.out 3).trans rfl
    have y4 : wc.cell? ⟨g11, 4, none⟩ = some (.int .u64 0) := (blk_cell BK.out 4).trans rfl
    go_upto_region 9 with (go_at_call 8; with_reducible refine (AgAct.calls a2 (1 + a0 % 4611686018427387904) (a1 % 64) _ gc mb _ _ _ HC.out HAS.out).mono ?_; rintro e w5 ⟨v5, rfl, hv⟩; obtain ⟨vl2, vw2, h1, h2, h3, h4, h5⟩ := Lv.take hv; clear hv; have kA := Aside0.mk (FA.out.next HC.out h4 h5); have kB := Aside0.mk (HB.out.trans h3); clear HC HB FA h3 h5; have HC := Aside0.mk h1; have HB := kB; have FA := kA; clear h1 h4 kA kB; obtain ⟨g12, e12⟩ := Evs.at_ h2; subst e12; have E12 := Aside0.mk h2; clear h2)
    clear y0 y1 y2 y3 y4 BK
    go_wp2
    go_loopg [13] l.length (fun kq v13 w' => ∃ i : Nat, i + kq = l.length ∧ i ≤ 60 ∧ v13 = .int .i64 i ∧ ∃ vl vw, Aside0 (Cl w' gc mb w.heap.size vl vw (runS (sF a2 (1 + a0 % 4611686018427387904) (a1 % 64)) (l.take i))) ∧ Aside0 (Fb w' vw g10 (rL (1 + a0 % 4611686018427387904) (a1 % 64))) ∧ Aside0 (Evs w' w.heap.size (.slice (some ⟨g12, 0, none⟩) 1 1) (some (eF a2 (1 + a0 % 4611686018427387904)))) ∧ Aside0 (Below w.heap.size w w'))
    case atStart => exact ⟨0, by omega, by omega, rfl, _, _, HC, FA, E12, HB⟩
    case round =>
      clear HC FA E12 HB
      obtain ⟨i, hi, h60, rfl, vl, vw, HC, FA, E12, HB⟩ := hrel
      obtain ⟨hk0, hin, hL, hW⟩ := ag_run HD.out HAS.out a2 i h60
      have HT0 : Aside0 (∀ h : i < l.length, runS (sF a2 (1 + a0 % 4611686018427387904) (a1 % 64)) (l.take (i + 1)) = doS (runS (sF a2 (1 + a0 % 4611686018427387904) (a1 % 64)) (l.take i)) (rd_T34 l (i : Int))) := ⟨fun h => runS_snoc _ l i h⟩
      obtain ⟨s, hs⟩ : ∃ s, s = runS (sF a2 (1 + a0 % 4611686018427387904) (a1 % 64)) (l.take i) := ⟨_, rfl⟩
      rw [← hs] at hk0 hin hL hW HC HT0
      have HK := Aside0.mk hk0
      have HIN := Aside0.mk hin
      have HN1 : Aside0 (s.W.length ≤ 1000000) := ⟨by omega⟩
      have HN2 := Aside0.mk hL
      have hi6 : i < 1000000 := by omega
      clear hs hk0 hin hL hW
      obtain ⟨bb, hbb⟩ : ∃ bb, bb = decide (i < l.length ∧ i < 60) := ⟨_, rfl⟩
      have HBB := Aside0.mk hbb
      clear hbb
      go_upto_region 10 with fail
      go_cut [43] (fun v43 wc => v43 = .bool bb ∧ Aside0 (Cl wc gc mb w.heap.size vl vw s) ∧ Aside0 (Fb wc vw g10 (rL (1 + a0 % 4611686018427387904) (a1 % 64))) ∧ Aside0 (Evs wc w.heap.size (.slice (some ⟨g12, 0, none⟩) 1 1) (some (eF a2 (1 + a0 % 4611686018427387904)))) ∧ Aside0 (Below w.heap.size w wc))
      case first =>
        by_cases hlt : i < l.length
        · have d1 : decide ((i : Int) < (l.length : Int)) = true := decide_eq_true (by omega)
          by_cases h6 : i < 60
          · have d2 : decide ((i : Int) < 60) = true := decide_eq_true (by omega)
            have e0 : bb = true := by rw [HBB.out]; exact decide_eq_true ⟨hlt, h6⟩
            subst e0
            go_wp2
            go_meet
            case rel => exact ⟨rfl, HC, FA, E12, HB⟩
          · have d2 : decide ((i : Int) < 60) = false := decide_eq_false (by omega)
            have e0 : bb = false := by rw [HBB.out]; exact decide_eq_false (fun q => h6 q.2)
            subst e0
            go_wp2
            go_meet
            case rel => exact ⟨rfl, HC, FA, E12, HB⟩
        · have d1 : decide ((i : Int) < (l.length : Int)) = false := decide_eq_false (by omega)
          have e0 : bb = false := by rw [HBB.out]; exact decide_eq_false (fun q => hlt q.1)
          subst e0
          go_wp2
          go_meet
          case rel => exact ⟨rfl, HC, FA, E12, HB⟩
      case rest =>
        clear HC FA E12 HB
        obtain ⟨rfl, HC, FA, E12, HB⟩ := hcut
        cases bb
        · clear HBB HT0
          go_wp2
          have HNO0 : Aside0 (∀ j, j < 0 → (at27 s.W j).f1 ≠ (1 + a0 % 4611686018427387904)) := ⟨fun j hj => absurd hj (Nat.not_lt_zero j)⟩
          go_loopg [14] s.W.length (fun kq v14 w' => ∃ k : Nat, k + kq = s.W.length ∧ v14 = .int .i64 k ∧ Aside0 (∀ j, j < k → (at27 s.W j).f1 ≠ (1 + a0 % 4611686018427387904)) ∧ Aside0 (Cl w' gc mb w.heap.size vl vw s) ∧ Aside0 (Fb w' vw g10 (rL (1 + a0 % 4611686018427387904) (a1 % 64))) ∧ Aside0 (Evs w' w.heap.size (.slice (some ⟨g12, 0, none⟩) 1 1) (some (eF a2 (1 + a0 % 4611686018427387904)))) ∧ Aside0 (Below w.heap.size w w'))
          case atStart => exact ⟨0, by omega, rfl, HNO0, HC, FA, E12, HB⟩
          case round =>
            clear HC FA E12 HB HNO0
            obtain ⟨k, hk, rfl, HNO, HC, FA, E12, HB⟩ := hrel
            by_cases hkl : k < s.W.length
            · have d3 : decide ((k : Int) < (s.W.length : Int)) = true := decide_eq_true (by omega)
              have i1 : (0 : Int) ≤ (k : Int) := by omega
              have i2 : (k : Int) < (s.W.length : Int) := by omega
              have hk6 : k < 1000000 := by have := HN1.out; omega
              obtain ⟨Y, hY0⟩ : ∃ x, x = at27 s.W k := ⟨_, rfl⟩
              have HY := Aside0.mk hY0
              clear hY0
              go_upto_region 18 with (go_at_call 9; with_reducible refine (Waits.calls _ gc mb _ vl vw s HC.out HN1.out).mono ?_; rintro e w6 ⟨v6, rfl, hr, hb⟩; obtain ⟨A6, c6, e6, hc6, -⟩ := hr.slice; subst e6; have k1 := Aside0.mk (HC.out.below hb); have k2 := Aside0.mk (FA.out.below hb); have k4 := Aside0.mk (E12.out.below hb); have k3 := Aside0.mk (HB.out.trans (Below.mono hb HC.out.base)); clear HC FA E12 HB hb; have HC := k1; have FA := k2; have E12 := k4; have HB := k3; clear k1 k2 k3 k4; clear hr)
              go_upto_region 19 with (go_at_call 9; with_reducible refine (Waits.calls _ gc mb _ vl vw s HC.out HN1.out).mono ?_; rintro e w7 ⟨v7, rfl, hr, hb⟩; obtain ⟨A7, c7, e7, hc7, hK7⟩ := hr.slice; subst e7; obtain ⟨ad7, e, x0, x1, x2, x3, x4⟩ := at_T27 hK7 (k : Int) i1 i2; cases e; simp only [Int.toNat_natCast] at x0 x1 x2 x3 x4; rw [rd27, ← HY.out] at x0 x1 x2 x3 x4; have k1 := Aside0.mk (HC.out.below hb); have k2 := Aside0.mk (FA.out.below hb); have k4 := Aside0.mk (E12.out.below hb); have k3 := Aside0.mk (HB.out.trans (Below.mono hb HC.out.base)); clear HC FA E12 HB hb; have HC := k1; have FA := k2; have E12 := k4; have HB := k3; clear k1 k2 k3 k4; clear hr hK7)
              have BK := Aside0.mk (blk_new w7 (.cells #[.int .u8 Y.f0, .int .u64 Y.f1, .int .i64 Y.f2, .bool Y.f3, .int .u64 Y.f4] 27))
              have hb := below_alloc (Below.refl w7.heap.size w7) (.cells #[.int .u8 Y.f0, .int .u64 Y.f1, .int .i64 Y.f2, .bool Y.f3, .int .u64 Y.f4] 27)
              obtain ⟨g15, hg15⟩ : ∃ g, g = w7.heap.size := ⟨_, rfl⟩
              rw [← hg15]
              rw [← hg15] at BK
              generalize World.alloc w7 _ = w7b at BK hb ⊢
              have k1 := Aside0.mk (HC.out.below hb); have k2 := Aside0.mk (FA.out.below hb); have k4 := Aside0.mk (E12.out.below hb); have k3 := Aside0.mk (HB.out.trans (Below.mono hb HC.out.base)); clear HC FA E12 HB hb; have HC := k1; have FA := k2; have E12 := k4; have HB := k3; clear k1 k2 k3 k4
              clear x0 x1 x2 x3 x4 hg15
              have y0 : w7b.cell? ⟨g15, 0, none⟩ = some (.int .u8 Y.f0) := (blk_cell BK.out 0).trans rfl
              have y1 : w7b.cell? ⟨g15, 1, none⟩ = some (.int .u64 Y.f1) := (blk_cell BK.out 1).trans rfl
              have p1 : w7b.cell? ⟨g10, 1, none⟩ = some (.int .u64 (1 + a0 % 4611686018427387904)) := FA.out.c1
              by_cases ht : Y.f1 = (1 + a0 % 4611686018427387904)
              · have f1 : (Y.f1 == (1 + a0 % 4611686018427387904)) = true := beq_iff_eq.2 ht
                have hne : Y.f0 ≠ 1 := fun e => HK.out.wlau Y (by rw [HY.out]; exact mem27 hkl) e _ HIN.out ht.symm
                have f0 : (Y.f0 != 1) = true := by simp [hne]
                clear ht hne
                go_wp2_with (go_at_call 10; with_reducible refine (lives.calls _).mono ?_; rintro e w9 ⟨rfl, hb⟩; have k3 := Aside0.mk (HB.out.trans (Below.mono hb HB.out.size)); clear HB hb; have HB := k3; clear k3)
                go_ret
                exact ⟨rfl, HB.out⟩
              · have f1 : (Y.f1 == (1 + a0 % 4611686018427387904)) = false := beq_false_of_ne ht
                have HNO2 : Aside0 (∀ j, j < k + 1 → (at27 s.W j).f1 ≠ (1 + a0 % 4611686018427387904)) := ⟨fun j hj => by
                  rcases Nat.lt_succ_iff_lt_or_eq.1 hj with h | h
                  · exact HNO.out j h
                  · rw [h, ← HY.out]; exact ht⟩
                clear ht
                go_wp2
                go_roundg (s.W.length - (k + 1))
                case measure => omega
                case rel => exact ⟨k + 1, by omega, (by first | with_reducible rfl | (simp; done) | (rw [wrap_k' (by omega)]; simp; done) | (rw [wrap_k' (by omega)]; rfl)), HNO2, HC, FA, E12, HB⟩
            · have d3 : decide ((k : Int) < (s.W.length : Int)) = false := decide_eq_false (by omega)
              obtain rfl : k = s.W.length := by omega
              have HNO : Aside0 (s.W.any (fun x => x.f1 == (1 + a0 % 4611686018427387904)) = false) := ⟨none_of HNO.out⟩
              go_upto_region 21 with (go_at_call 9; with_reducible refine (Waits.calls _ gc mb _ vl vw s HC.out HN1.out).mono ?_; rintro e w6 ⟨v6, rfl, hr, hb⟩; obtain ⟨A6, c6, e6, hc6, -⟩ := hr.slice; subst e6; have k1 := Aside0.mk (HC.out.below hb); have k2 := Aside0.mk (FA.out.below hb); have k4 := Aside0.mk (E12.out.below hb); have k3 := Aside0.mk (HB.out.trans (Below.mono hb HC.out.base)); clear HC FA E12 HB hb; have HC := k1; have FA := k2; have E12 := k4; have HB := k3; clear k1 k2 k3 k4; clear hr)
              have p0 : w6.cell? ⟨g10, 0, none⟩ = some (.int .u8 1) := FA.out.c0
              have p1 : w6.cell? ⟨g10, 1, none⟩ = some (.int .u64 (1 + a0 % 4611686018427387904)) := FA.out.c1
              have p2 : w6.cell? ⟨g10, 2, none⟩ = some (.int .i64 (a1 % 64)) := FA.out.c2
              have p3 : w6.cell? ⟨g10, 3, none⟩ = some (.bool false) := FA.out.c3
              have p4 : w6.cell? ⟨g10, 4, none⟩ = some (.int .u64 0) := FA.out.c4
              go_upto_region 22 with (go_at_call 7; with_reducible refine (Again.calls (a2 := a2) (1 + a0 % 4611686018427387904) (a1 % 64) _ gc mb _ vl vw s HC.out HK.out HN1.out HN2.out HAS.out HIN.out HNO.out).mono ?_; rintro e w8 ⟨v8, rfl, h2, hb⟩; have k4 := Aside0.mk (E12.out.keptB HC.out hb); have k3 := Aside0.mk (HB.out.trans (AgPost.below hb)); have E16 := Aside0.mk h2; clear HC FA E12 HB hb h2; have E12 := k4; have HB := k3; clear k3 k4)
              clear p0 p1 p2 p3 p4
              cases a2
              · go_wp2_with (first | (go_at_call 11; with_reducible refine (Events.same (.slice (some ⟨g12, 0, none⟩) 1 1) v8 w.heap.size w.heap.size (eF false (1 + a0 % 4611686018427387904)) _ E12.out E16.out).mono ?_; rintro e w9 ⟨rfl, hb⟩; have k4 := Aside0.mk (E12.out.below hb); have k3 := Aside0.mk (HB.out.trans (Below.mono hb HB.out.size)); clear E12 E16 HB hb; have E12 := k4; have HB := k3; clear k3 k4; have z0 : w9.cell? ⟨g12, 0, none⟩ = some (.int .u8 10) := E12.out.kindF) | (go_at_call 10; with_reducible refine (lives.calls _).mono ?_; rintro e w9 ⟨rfl, hb⟩; have k3 := Aside0.mk (HB.out.trans (Below.mono hb HB.out.size)); clear HB hb; have HB := k3; clear k3))
                go_ret
                exact ⟨rfl, HB.out⟩
              · go_wp2_with (first | (go_at_call 11; with_reducible refine (Events.same (.slice (some ⟨g12, 0, none⟩) 1 1) v8 w.heap.size w.heap.size (eF true (1 + a0 % 4611686018427387904)) _ E12.out E16.out).mono ?_; rintro e w9 ⟨rfl, hb⟩; have k4 := Aside0.mk (E12.out.below hb); have k3 := Aside0.mk (HB.out.trans (Below.mono hb HB.out.size)); clear E12 E16 HB hb; have E12 := k4; have HB := k3; clear k3 k4; have z0 : w9.cell? ⟨g12, 0, none⟩ = some (.int .u8 11) := E12.out.kindT) | (go_at_call 10; with_reducible refine (lives.calls _).mono ?_; rintro e w9 ⟨rfl, hb⟩; have k3 := Aside0.mk (HB.out.trans (Below.mono hb HB.out.size)); clear HB hb; have HB := k3; clear k3))
                go_ret
                exact ⟨rfl, HB.out⟩

        · obtain ⟨hlt, h6⟩ := of_decide_eq_true HBB.out.symm
          have i1 : (0 : Int) ≤ (i : Int) := by omega
          have i2 : (i : Int) < (l.length : Int) := by omega
          obtain ⟨ad, e, x0, x1, x2, x3, x4, x5, x6, x7, x8, x9, x10⟩ := at_T34 (Kd.C_below HL.out HB.out) (i : Int) (by omega) (by omega)
          cases e
          simp only [Int.toNat_natCast] at x0 x1 x2 x3 x4 x5 x6 x7 x8 x9 x10
          have HT := Aside0.mk (HT0.out hlt)
          have HD1 := Aside0.mk (deed_at HD.out hlt)
          obtain ⟨dd, hdd⟩ : ∃ dd, dd = rd_T34 l (i : Int) := ⟨_, rfl⟩
          rw [← hdd] at x0 x1 x2 x3 x4 x5 x6 x7 x8 x9 x10 HT HD1
          clear hdd HT0 HBB
          obtain ⟨ak, hak⟩ : ∃ ak, dd.ask = ak := ⟨_, rfl⟩
          rw [hak] at x0
          have HAK := Aside0.mk hak
          clear hak
          cases ak
          · go_wp2_with (go_at_call 8; with_reducible refine (DoAct.calls _ gc mb _ vl vw s dd HC.out HK.out HD1.out HN1.out HN2.out HAK.out).mono ?_; rintro e w2 ⟨v2, rfl, hp⟩; obtain ⟨vl2, vw2, h1, -, h5, h3, h4⟩ := Post.take' hp; clear hp; have kA := Aside0.mk (FA.out.next HC.out h4 h5); have kE := Aside0.mk (E12.out.far HC.out h4); have kB := Aside0.mk (HB.out.trans h3); clear HC HB FA E12 h3 h5 h4; have HC := Aside0.mk h1; have HB := kB; have FA := kA; have E12 := kE; clear h1 kA kB kE)
            go_roundg (l.length - (i + 1))
            case measure => omega
            case rel => exact ⟨i + 1, by omega, by omega, (by first | with_reducible rfl | (simp; done) | (rw [wrap_k' (by omega)]; simp; done) | (rw [wrap_k' (by omega)]; rfl)), vl2, vw2, ⟨by rw [HT.out]; exact HC.out⟩, FA, E12, HB⟩
          · go_wp2_with (go_at_call 7; with_reducible refine (DoAsk.calls _ gc mb _ vl vw s dd HC.out HK.out HD1.out HN1.out HN2.out HAK.out).mono ?_; rintro e w2 ⟨v2, rfl, hp⟩; obtain ⟨vl2, vw2, h1, -, h5, h3, h4⟩ := Post.take' hp; clear hp; have kA := Aside0.mk (FA.out.next HC.out h4 h5); have kE := Aside0.mk (E12.out.far HC.out h4); have kB := Aside0.mk (HB.out.trans h3); clear HC HB FA E12 h3 h5 h4; have HC := Aside0.mk h1; have HB := kB; have FA := kA; have E12 := kE; clear h1 kA kB kE)
            go_roundg (l.length - (i + 1))
            case measure => omega
            case rel => exact ⟨i + 1, by omega, by omega, (by first | with_reducible rfl | (simp; done) | (rw [wrap_k' (by omega)]; simp; done) | (rw [wrap_k' (by omega)]; rfl)), vl2, vw2, ⟨by rw [HT.out]; exact HC.out⟩, FA, E12, HB⟩


end Go.Proofs.Ytfhopjigdkjnoaa.GA
