/- Blocks in memory: loads, stores and copies of 64 bytes. Blocks in memory: loads, stores and copies of 64 bytes. No condition. -/
import Derived.Test.YtlnfdhcpnbhkdaaF5
import Derived.Laws.CopyOwn
import Derived.ChangeKeysEq
import Derived.Deep.RegionHeld3
import Derived.Deep.MidRow
import Derived.Great.Walk
import Derived.Deep.LoopGhost
import Derived.Deep.DeepCutAuto
namespace Go.Proofs.Ytlnfdhcpnbhkdaa.GA.F
section
open Go.RowKit Go.Proofs.YtlnfdhcpnbhkdaaW.PrintWords Go.Proofs.YtlnfdhcpnbhkdaaW.PrintLast Go.Proofs.YtlnfdhcpnbhkdaaW.PrintMore
set_option linter.unusedVariables false
set_option linter.unusedSimpArgs false

theorem info3 : (Try.prog.info? 3).map (fun i => (i.zero, i.size, i.bytes)) = some (some (.int .i64 0), 1, 8) := by kernel_rfl
/-- an int slice of the law's own -/
def IntOwn (B : Nat) (w : World) (v : Value) (l : List Int) : Prop := (Kd.int .i64).R 3 w B (fun _ => True) v l
theorem IntOwn.typed {B : Nat} {w : World} {v : Value} {l : List Int} (h : IntOwn B w v l) {k : Nat} (hk : v.ownBlock = some k) : B ≤ k ∧ k < w.heap.size ∧ ∃ cur, w.heap[k]? = some (.cells cur 3 (0, 0)) := by
  obtain ⟨_, inner, ho, _⟩ := h
  exact ⟨own_base ho k hk, own_lt ho k hk, own_typed ho k hk⟩
theorem IntOwn.move {B : Nat} {w w' : World} {v : Value} {l : List Int} (h : IntOwn B w v l) (hm : ∀ k o, w.heap[k]? = some o → v.ownBlock = some k → w'.heap[k]? = some o) : IntOwn B w' v l := by
  have h1 : (Kd.int .i64).R 3 w B (fun k => v.ownBlock = some k) v l := ⟨fun k hk => hk, h.2⟩
  exact Kd.R_mono (Kd.R_move h1 (fun k hk => by
    obtain ⟨_, _, cur, hc⟩ := IntOwn.typed h hk
    rw [hm k _ hc hk, hc])) (fun _ _ => trivial)

theorem IntOwn.rfx {B : Nat} {w w' : World} {v : Value} {l : List Int} (h : IntOwn B w v l) {C gr gH cH n : Nat} {lt : Value} {s : RS} (r : RRep C w gr gH cH n lt s) (hf : RFx gr gH lt w w') : IntOwn B w' v l := h.move fun k o hk hc => by
  obtain ⟨_, _, cur, hcur⟩ := h.typed hc
  refine hf k o hk (fun e => ?_) (fun e => ?_) (fun e => ?_)
  · rw [e, r.d] at hcur
    injection hcur with hcur
    injection hcur with _ h2 _
    exact absurd h2 (by decide)
  · rw [e, r.h] at hcur
    injection hcur with hcur
    injection hcur with _ h2 _
    exact absurd h2 (by decide)
  · obtain ⟨_, _, cur2, hcur2⟩ := r.l.own e
    rw [hcur2] at hcur
    injection hcur with hcur
    injection hcur with _ h2 _
    exact absurd h2 (by decide)
theorem IntOwn.reads {B : Nat} {w : World} {A : Option Addr} {m c : Nat} {l : List Int} (h : IntOwn B w (.slice A m c) l) : Kd.C (Kd.int .i64) w A l.length l := by
  obtain ⟨A', c', e, _, hK⟩ := Kd.R_reads h
  injection e with e1 e2 e3
  subst e1
  exact hK

set_option maxHeartbeats 8000000 in
set_option maxRecDepth 100000 in
theorem Flush.night (w : World) (B gr gH cH n : Nat) (lt : Value) (s : RS) (r : RRep B w gr gH cH n lt s) (hni : s.ni = true) : Calls Try.prog 39 #[.pointer (some ⟨gr, 0, none⟩)] w fun e w' => e = .returned (.int .i64 9) ∧ w' = w := by
  obtain ⟨-, -, -, -, x4⟩ := r.x
  rw [hni] at x4
  clear hni r
  go_enter Try.func39, Try.ntmps39
  go_wp2
  go_ret
  exact ⟨rfl, rfl⟩

set_option maxHeartbeats 8000000 in
set_option maxRecDepth 100000 in
theorem Flush.ring (w : World) (B gr gH cH n : Nat) (lt : Value) (s : RS) (r : RRep B w gr gH cH n lt s) (hni : s.ni = false) (hal : s.al = 1) : Calls Try.prog 39 #[.pointer (some ⟨gr, 0, none⟩)] w fun e w' => e = .returned (.int .i64 9) ∧ RRep B w' gr gH cH n lt { s with ni := true } ∧ Below B w w' ∧ RFx gr gH lt w w' := by
  have RR := Aside0.mk r
  have NI := Aside0.mk hni
  have HAL := Aside0.mk hal
  obtain ⟨-, -, -, -, x4⟩ := r.x
  rw [hni] at x4
  clear r hni hal
  go_enter Try.func39, Try.ntmps39
  go_wp2_with (first
    | (go_at_call 44; with_reducible refine (rings.yes _ B gr gH cH n lt s RR.out NI.out HAL.out).mono ?_; rintro e' w2 ⟨rfl, h2, h3, h4⟩; have R2 := Aside0.mk h2; have B2 := Aside0.mk h3; have F2 := Aside0.mk h4; clear h2 h3 h4))
  go_ret
  exact ⟨rfl, R2.out, B2.out, F2.out⟩

theorem int_snoc64 {B : Nat} {w : World} {v : Value} {i : Nat} (h : (Kd.int .i64).R 3 w B (fun _ => True) v (List.replicate i 64 ++ [64])) : IntOwn B w v (List.replicate (i + 1) 64) := by
  rw [List.replicate_succ']
  exact h

set_option maxHeartbeats 8000000 in
set_option maxRecDepth 100000 in
theorem Flush.ok (w : World) (B gr gH cH n : Nat) (lt : Value) (s : RS) (r : RRep B w gr gH cH n lt s) (hni : s.ni = false) (hal : s.al ≠ 1) (hst : s.st < 4611686018427387904) (hlb : s.list.length ≤ 1000000) : Calls Try.prog 39 #[.pointer (some ⟨gr, 0, none⟩)] w fun e w' => e = .returned (.int .i64 0) ∧ RRep B w' gr gH cH n (.slice none 0 0) { held := holdTo s.held s.list (List.replicate s.list.length 64) s.list.length, list := [], al := nextAl s.al, st := s.st + 1, ni := false } ∧ Below B w w' ∧ RFx gr gH lt w w' := by
  have HST := Aside0.mk hst
  have HLL0 := Aside0.mk hlb
  have HLB : Aside0 (s.list.length ≤ 4611686018427387904) := ⟨by omega⟩
  clear hst hlb
  have RR := Aside0.mk r
  have NI := Aside0.mk hni
  have HAL := Aside0.mk hal
  obtain ⟨-, -, -, -, x4⟩ := r.x
  rw [hni] at x4
  clear r hni hal
  go_enter Try.func39, Try.ntmps39
  go_upto_region 3 with (go_at_call 44; with_reducible refine (rings.no _ B gr gH cH n lt s RR.out NI.out HAL.out HST.out).mono ?_; rintro e' w2 ⟨rfl, h2, h3, h4⟩; have R2 := Aside0.mk h2; have B2 := Aside0.mk h3; have F2 := Aside0.mk h4; clear h2 h3 h4)
  go_wp2
  have HB := Aside0.mk (Below.refl w2.heap.size w2)
  have IO : Aside0 (IntOwn w2.heap.size w2 (.slice none 0 0) (List.replicate 0 64)) := ⟨Kd.R_nil _ _ _ _ (fun _ => True)⟩
  go_loopw [3, 4] (fun v3 v4 w' => ∃ k : Nat, k ≤ s.list.length ∧ v4 = .int .i64 k ∧ Aside0 (IntOwn w2.heap.size w' v3 (List.replicate k 64)) ∧ Aside0 (Below w2.heap.size w2 w')) (fun _ v4 _ => s.list.length - (intOf v4).toNat)
  case atStart => exact ⟨0, Nat.zero_le _, rfl, IO, HB⟩
  case round =>
    clear IO HB
    obtain ⟨k, hk, rfl, IO, HB⟩ := hrel
    have R3 := Aside0.mk (R2.out.below HB.out)
    obtain ⟨Aq, cq, eq⟩ := Kd.R_slice R3.out.l
    have x1 : wr.cell? ⟨gr, 1, none⟩ = some (.slice Aq s.list.length cq) := by rw [R3.out.x.2.1, eq]
    clear eq
    by_cases hlt : k < s.list.length
    · have k1 : (k : Int) < (s.list.length : Int) := by omega
      have k3 : wrap64 ((k : Int) + 1) = (k : Int) + 1 := wrap_ok (by omega) (by have := HLB.out; omega)
      have HLL : Aside0 (((List.replicate k (64 : Int)).length + 1) * 8 ≤ 140737488355328) := ⟨by have := HLL0.out; rw [List.length_replicate]; omega⟩
      go_wp2_with ((with_reducible refine gate_builtin (b := .append) (xs := #[.tmp 22, .tmp 23]) rfl ?_); at_builtin; refine Kd.R_append (Kd.int .i64) (w0 := w2) w2.heap.size rfl (.tmp 22) (.tmp 23) 37 3 (.int .i64 0) 8 rfl Try.underlying37 info3 rfl (by decide) (by omega) u3 (List.replicate k 64) (64 : Int) [.int .i64 64] (fun _ => True) (fun _ => False) rfl rfl ?aP (fun _ hk => hk.elim) (fun _ _ => trivial) ?aO ?aB ?aS ?aL ?_; (case aP => exact rfl); (case aB => exact HB.out); (case aO => exact IO.out); (case aS => exact (below_size HB.out)); (case aL => exact HLL.out); intro v5 w5 ho hb hg hat; have HO5 := Aside0.mk (int_snoc64 ho); have HB5 := Aside0.mk hb; clear ho hb hg hat)
      exact ⟨⟨k + 1, hlt, by first | rfl | (rw [Int.natCast_add]; rfl) | (rw [k3, Int.natCast_add]; rfl), HO5, HB5⟩, by (try rw [k3]); show s.list.length - ((k : Int) + 1).toNat < s.list.length - ((k : Int)).toNat; omega⟩
    · have hin : k = s.list.length := by omega
      subst hin
      have dl : decide ((s.list.length : Int) < (s.list.length : Int)) = false := decide_eq_false (by omega)
      obtain ⟨A3, c3, e3⟩ := Kd.R_slice IO.out
      rw [List.length_replicate] at e3
      subst e3
      have HP3 : Aside0 (∀ w', Below B wr w' → RFx gr gH lt wr w' → Kd.C (Kd.int .i64) w' A3 (List.replicate s.list.length (64 : Int)).length (List.replicate s.list.length 64)) := ⟨fun w' _ hf => (IO.out.rfx R3.out hf).reads⟩
      have hlr : (List.replicate s.list.length (64 : Int)).length = s.list.length := List.length_replicate
      have LR := Aside0.mk hlr
      clear hlr
      have HH : Aside0 (Calls Try.prog 45 #[.pointer (some ⟨gr, 0, none⟩), .slice A3 s.list.length c3] wr fun e' w' => e' = .returned (.tuple #[]) ∧ RRep B w' gr gH cH n (.slice none 0 0) { held := holdTo s.held s.list (List.replicate s.list.length 64) s.list.length, list := [], al := nextAl s.al, st := s.st + 1, ni := s.ni } ∧ Below B wr w' ∧ RFx gr gH lt wr w') := ⟨by
        have h := hold.calls _ B gr gH cH n lt { s with al := nextAl s.al, st := s.st + 1 } R3.out A3 c3 (List.replicate s.list.length 64) HLB.out HP3.out
        rw [LR.out] at h
        exact h⟩
      go_wp2_with (go_at_call 45; with_reducible refine HH.out.mono ?_; rintro e' w6 ⟨rfl, h2, h3, h4⟩; have R6 := Aside0.mk h2; have B6 := Aside0.mk h3; have F6 := Aside0.mk h4; clear h2 h3 h4)
      go_ret
      have r6 := R6.out
      rw [NI.out] at r6
      exact ⟨rfl, r6, (B2.out.trans (below_of_le R2.out.size HB.out)).trans B6.out, (F2.out.trans (RFx.below _ _ _ HB.out)).trans F6.out⟩
end
section
open Go.RowKit Go.Proofs.YtlnfdhcpnbhkdaaW.PrintWords Go.Proofs.YtlnfdhcpnbhkdaaW.PrintLast Go.Proofs.YtlnfdhcpnbhkdaaW.PrintMore
set_option linter.unusedVariables false
set_option linter.unusedSimpArgs false

/-- a row of i zero blocks, whose array is zero throughout -/
def ZRow (w : World) (B : Nat) (v : Value) (i : Nat) : Prop := (v = .slice none 0 0 ∧ i = 0) ∨ ∃ g c : Nat, v = .slice (some ⟨g, 0, none⟩) i c ∧ B ≤ g ∧ w.heap[g]? = some (.cells (bcells (zerosN c)) 29 (0, 0)) ∧ i ≤ c
theorem ZRow.move {w w' : World} {B : Nat} {v : Value} {i : Nat} (h : ZRow w B v i) (hm : ∀ k, v.ownBlock = some k → w'.heap[k]? = w.heap[k]?) : ZRow w' B v i := by
  rcases h with h | ⟨g, c, h1, h2, h3, h4⟩
  · exact .inl h
  · exact .inr ⟨g, c, h1, h2, (hm g (by rw [h1]; rfl)).trans h3, h4⟩
theorem ZRow.own {w : World} {B : Nat} {v : Value} {i : Nat} (h : ZRow w B v i) {k : Nat} (hk : v.ownBlock = some k) : k < w.heap.size ∧ ∃ cur, w.heap[k]? = some (.cells cur 29 (0, 0)) := by
  rcases h with ⟨h, _⟩ | ⟨g, c, h1, h2, h3, h4⟩
  · rw [h] at hk; cases hk
  · rw [h1] at hk
    have e : g = k := by injection hk
    subst e
    exact ⟨blk_lt h3, _, h3⟩
theorem ZRow.below {w w' : World} {B : Nat} {v : Value} {i : Nat} (h : ZRow w B v i) (hb : Below w.heap.size w w') : ZRow w' B v i := h.move fun k hk => hb.block k (h.own hk).1
theorem ZRow.slice {w : World} {B : Nat} {v : Value} {i : Nat} (h : ZRow w B v i) : ∃ A c, v = .slice A i c := by
  rcases h with ⟨h, h0⟩ | ⟨g, c, h1, _⟩
  · exact ⟨none, 0, by rw [h, h0]⟩
  · exact ⟨_, _, h1⟩
theorem zN_app (a b : Nat) : zerosN a ++ zerosN b = zerosN (a + b) := by
  unfold zerosN
  rw [List.replicate_append_replicate, Nat.add_mul]
theorem zN_one : zero64 = zerosN 1 := rfl
theorem zN_len (a : Nat) : (zerosN a).length = a * 64 := List.length_replicate
theorem zN_splice (c i : Nat) (h : i < c) : splice (zerosN c) (i * 64) zero64 = zerosN c := by
  have e : zerosN c = zerosN i ++ (zerosN 1 ++ zerosN (c - i - 1)) := by rw [zN_app, zN_app, show i + (1 + (c - i - 1)) = c by omega]
  have h1 := splice_mid (zerosN i) (zerosN 1) (zerosN (c - i - 1)) zero64 (by rw [zN_len]; rfl)
  rw [← e, zN_len, zN_one] at h1
  rw [zN_one, h1, ← e]
theorem bc_app (a b : List Int) : (encs (Value.int .u8) a).toArray ++ bcells b = bcells (a ++ b) := by
  unfold bcells encs
  simp
theorem zSlice_run (W : World) : (Instr.buildSlice 57 1 #[(0, .agg (bcells zero64))]).run Try.prog W = .ok (.slice (some ⟨W.heap.size, 0, none⟩) 1 1) (W.alloc (.cells (bcells zero64) 29)) := by kernel_rfl
theorem zS_run {o : Oper} {a : Act} {t : Tmp} (ho : o.op = .buildSlice 57 1 #[(0, .tmp t)]) (hx : a.eval (.tmp t) = .agg (bcells zero64)) (W : World) : (execOp a.eval o).run Try.prog W = .ok (.value (.slice (some ⟨W.heap.size, 0, none⟩) 1 1)) (W.alloc (.cells (bcells zero64) 29 (0, 0))) := by
  unfold execOp
  have hm : #[((0 : Nat), Operand.tmp t)].map (fun (i, x) => (i, a.eval x)) = #[(0, .agg (bcells zero64))] := by
    rw [← hx]
    simp [Act.eval]
  simp only [ho, hm, Sem.run_bind, zSlice_run, Result.andThen_ok, Sem.run_pure]
theorem blk_cells {W : World} {g : Nat} {F : List Int} (hg : W.heap[g]? = some (.cells (bcells F) 29 (0, 0))) : ∀ (j : Nat) (v : Value), (encs (Value.int .u8) F)[j]? = some v → W.cell? ((⟨g, 0, none⟩ : Addr).add j) = some v := fun j v hv => by
  rw [Addr.add_mid, Nat.zero_add, blk_cell hg]
  unfold bcells
  rw [List.getElem?_toArray]
  exact hv
theorem encs_one (F : List Int) : ∀ v ∈ encs (Value.int .u8) F, v.oneCell' = true := fun v hv => by
  obtain ⟨x, _, rfl⟩ := List.mem_map.1 hv
  rfl
theorem appZ_run (W : World) (ty : TypeId) (B : Nat) (hB : B ≤ W.heap.size) (v : Value) (i : Nat) (hz : ZRow W B v i) (hi : i ≤ 16384) (gx : Nat) (hgx : W.heap[gx]? = some (.cells (bcells zero64) 29 (0, 0))) (hne : v.ownBlock ≠ some gx) :
    ∃ v' w1, (Builtin.append_ #[57, 57] ty #[v, .slice (some ⟨gx, 0, none⟩) 1 1]).run Try.prog W = .ok v' w1 ∧ ZRow w1 B v' (i + 1) ∧ (∀ w0, Below B w0 W → Below B w0 w1) ∧ (∀ k o, W.heap[k]? = some o → v.ownBlock ≠ some k → w1.heap[k]? = some o) := by
  have hi0 : (Try.prog.info? 29).map (fun i => (i.zero, i.size, i.bytes)) = some (some (.agg (bcells zero64)), 64, 64) := by kernel_rfl
  obtain ⟨t, hit, ht⟩ := Option.map_eq_some_iff.1 hi0
  simp only [Prod.mk.injEq] at ht
  obtain ⟨tz, tsz, tby⟩ := ht
  have l64 : (encs (Value.int .u8) zero64).length = 1 * t.size := by rw [encs_length, tsz]; rfl
  rcases hz with ⟨rfl, rfl⟩ | ⟨g, c, rfl, hBg, hg, hic⟩
  · have hrun := run_append_nil (P := Try.prog) (w := W) 57 ty 29 t (.agg (bcells zero64)) Try.underlying57 hit tz ⟨gx, 0, none⟩ 1 1 (encs (Value.int .u8) zero64) l64 (blk_cells hgx) (by decide) (by decide) (by rw [tby]; decide)
    have hc := grownCap_ge W 1 0 29
    rw [show (Value.agg (bcells zero64)).cells = bcells zero64 from rfl, E.zeroCells_29, bc_app, zN_one, zN_app, show 1 + (grownCap W 1 0 29 - 1) = grownCap W 1 0 29 by omega] at hrun
    have hb := (below_alloc (Below.refl W.heap.size W).drew (.cells (bcells (zerosN (grownCap W 1 0 29))) 29))
    exact ⟨_, _, hrun, .inr ⟨_, _, rfl, hB, blk_new W.drew _, hc⟩, fun w0 h => h.trans (Below.mono hb hB), fun k o hk _ => blk_below hk hb⟩
  · by_cases hlt : i < c
    · have lz : i * 64 + (encs (Value.int .u8) zero64).length ≤ (zerosN c).length := by
        rw [zN_len, l64, tsz]
        have := Nat.mul_le_mul_right 64 (show i + 1 ≤ c from hlt)
        omega
      have hst := setCells_bc zero64 (i * 64) W (zerosN c) hg (by rw [encs_length] at lz; exact lz)
      have hrun := run_append_room_cells (P := Try.prog) (w := W) 57 ty 29 t Try.underlying57 hit g 0 i c ⟨gx, 0, none⟩ 1 1 (encs (Value.int .u8) zero64) l64 (blk_cells hgx) (encs_one _) (by omega)
        (fun j hj => by rw [tsz, Nat.zero_add, blk_cell hg, bcells_get _ _ (by omega)]; rfl) (fun j hj => blk_frozen hg _)
      rw [tsz, Nat.zero_add] at hrun
      obtain ⟨h1, h2, h3⟩ := hst
      rw [zN_splice c i hlt] at h1
      exact ⟨_, _, hrun, .inr ⟨g, c, rfl, hBg, h1, hlt⟩, fun w0 h => h3 B w0 h hBg, fun k o hk hn => (h2 k (fun e => hn (by rw [e]; rfl))).trans hk⟩
    · obtain rfl : i = c := by omega
      have hrun := run_append_grow (P := Try.prog) (w := W) 57 ty 29 t (.agg (bcells zero64)) Try.underlying57 hit tz ⟨g, 0, none⟩ i i (encs (Value.int .u8) (zerosN i)) (by rw [encs_length, zN_len, tsz]) (blk_cells hg) ⟨gx, 0, none⟩ 1 1 (encs (Value.int .u8) zero64) l64 (blk_cells hgx) (by omega) (by omega) (growslice_fits (by omega) (by rw [tby]; omega))
      have hc := grownCap_ge W (i + 1) i 29
      have e : (encs (Value.int .u8) (zerosN i)).toArray ++ (encs (Value.int .u8) zero64).toArray ++ Builtin.zeroCells (Value.agg (bcells zero64)).cells (grownCap W (i + 1) i 29 - (i + 1)) = bcells (zerosN (grownCap W (i + 1) i 29)) := by
        rw [show (Value.agg (bcells zero64)).cells = bcells zero64 from rfl, E.zeroCells_29, Array.append_assoc, bc_app, bc_app, zN_one, zN_app, zN_app, show i + (1 + (grownCap W (i + 1) i 29 - (i + 1))) = grownCap W (i + 1) i 29 by omega]
      rw [e] at hrun
      have hb := (below_alloc (Below.refl W.heap.size W).drew (.cells (bcells (zerosN (grownCap W (i + 1) i 29))) 29))
      exact ⟨_, _, hrun, .inr ⟨_, _, rfl, hB, blk_new W.drew _, hc⟩, fun w0 h => h.trans (Below.mono hb hB), fun k o hk _ => blk_below hk hb⟩
section
variable {ops : Array Oper} {rest : List Oper} {o : Oper} {a : Act} {Q : Exit → Act → World → Prop}
theorem appZ_event {W w0 : World} (hgd : o.guard = none) (s x : Operand) (ho : o.op = .call { callee := .builtin .append, args := #[s, x], argTypes := #[57, 57] }) (B : Nat) (hB : B ≤ W.heap.size) (v : Value) (i : Nat) (hs : a.eval s = v) (gx : Nat) (hx : a.eval x = .slice (some ⟨gx, 0, none⟩) 1 1) (hz : ZRow W B v i) (hi : i ≤ 16384) (hgx : W.heap[gx]? = some (.cells (bcells zero64) 29 (0, 0))) (hne : v.ownBlock ≠ some gx) (hb : Below B w0 W)
    (h : ∀ v' w1, ZRow w1 B v' (i + 1) → Below B w0 w1 → (∀ k o, W.heap[k]? = some o → v.ownBlock ≠ some k → w1.heap[k]? = some o) → wpList Try.prog ops Q rest (a.put o.dst v') w1) : wpList Try.prog ops Q (o :: rest) a W := by
  obtain ⟨v', w1, hrun, h1, h2, h3⟩ := appZ_run W o.type B hB v i hz hi gx hgx hne
  refine wpList_plain hgd fun K hK => ?_
  unfold Oper.wp
  simp [execOp, ho, resolve, invoke, builtin, hs, hx, hrun, Result.andThen]
  exact hK _ _ (h v' w1 h1 (h2 _ hb) h3)
end
end
end Go.Proofs.Ytlnfdhcpnbhkdaa.GA.F
