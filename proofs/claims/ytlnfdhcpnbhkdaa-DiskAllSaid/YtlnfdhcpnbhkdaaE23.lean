/- Blocks in memory: loads, stores and copies of 64 bytes. No condition. -/
import Derived.Test.YtlnfdhcpnbhkdaaE22
import Derived.Laws.CopyOwn
import Derived.ChangeKeysEq
import Derived.Deep.RegionHeld3
import Derived.Deep.MidRow
import Derived.Great.Walk
namespace Go.Proofs.Ytlnfdhcpnbhkdaa.GA.E
open Go.RowKit Go.Proofs.YtlnfdhcpnbhkdaaW.PrintWords Go.Proofs.YtlnfdhcpnbhkdaaW.PrintLast Go.Proofs.YtlnfdhcpnbhkdaaW.PrintMore
set_option linter.unusedVariables false
set_option linter.unusedSimpArgs false


theorem askBase {B : Nat} {w : World} {bt : Value} {l : List (Int × List Int)} (h : AskOwn B w bt l) {k : Nat} (hk : bt.ownBlock = some k) : B ≤ k ∧ k < w.heap.size ∧ ∃ cur, w.heap[k]? = some (.cells cur 65 (0, 0)) := by
  obtain ⟨_, inner, ho, _⟩ := h
  exact ⟨own_base ho k hk, own_lt ho k hk, own_typed ho k hk⟩
theorem Rep.moved {B : Nat} {w w' : World} {gd ga gh n ca ch : Nat} {bt : Value} {s : DS} (r : Rep B w gd ga gh n ca ch bt s) (h : ∀ k o, w.heap[k]? = some o → k = gd ∨ k = ga ∨ k = gh ∨ bt.ownBlock = some k → w'.heap[k]? = some o) : Rep B w' gd ga gh n ca ch bt s where
  d := h _ _ r.d (.inl rfl)
  a := h _ _ r.a (.inr (.inl rfl))
  h := h _ _ r.h (.inr (.inr (.inl rfl)))
  b := r.b.move (fun k hk => by
    obtain ⟨_, _, cur, hc⟩ := askBase r.b hk
    rw [h k _ hc (.inr (.inr (.inr hk))), hc])
  bd := r.bd
  ba := r.ba
  bh := r.bh
  ne := r.ne
  la := r.la
  lh := r.lh
  n0 := r.n0
  ok := r.ok
  al0 := r.al0
  al1 := r.al1
  st0 := r.st0
theorem Rep.fx {B : Nat} {w w' : World} {gd ga gh n ca ch : Nat} {bt : Value} {s : DS} (r : Rep B w gd ga gh n ca ch bt s) {x y z : Nat} (h : Fx x y z w w') (hx : x < B) (hy : y < B) (hz : z < B) : Rep B w' gd ga gh n ca ch bt s := r.moved fun k o hk hc => by
  have hB : B ≤ k := by
    rcases hc with rfl | rfl | rfl | hc
    · exact r.bd
    · exact r.ba
    · exact r.bh
    · exact (askBase r.b hc).1
  exact h k o hk (by omega) (by omega) (by omega)
theorem Rep.low {B : Nat} {w w' : World} {gd ga gh n ca ch : Nat} {s : DS} (r : Rep B w gd ga gh n ca ch (.slice Option.none 0 0) s) {C : Nat} (h : Below C w w') (hx : gd < C) (hy : ga < C) (hz : gh < C) : Rep B w' gd ga gh n ca ch (.slice Option.none 0 0) s := r.moved fun k o hk hc => by
  refine (h.block k ?_).trans hk
  rcases hc with rfl | rfl | rfl | hc
  · exact hx
  · exact hy
  · exact hz
  · simp [Value.ownBlock] at hc
theorem info3 : (Try.prog.info? 3).map (fun i => (i.zero, i.size, i.bytes)) = some (some (.int .i64 0), 1, 8) := by kernel_rfl
/-- an int slice of the law's own -/
def IntOwn (B : Nat) (w : World) (v : Value) (l : List Int) : Prop := (Kd.int .i64).R 3 w B (fun _ => True) v l
theorem IntOwn.typed {B : Nat} {w : World} {v : Value} {l : List Int} (h : IntOwn B w v l) {k : Nat} (hk : v.ownBlock = some k) : B ≤ k ∧ k < w.heap.size ∧ ∃ cur, w.heap[k]? = some (.cells cur 3 (0, 0)) := by
  obtain ⟨_, inner, ho, _⟩ := h
  exact ⟨own_base ho k hk, own_lt ho k hk, own_typed ho k hk⟩
theorem IntOwn.move {B : Nat} {w w' : World} {v : Value} {l : List Int} (h : IntOwn B w v l) (hm : ∀ k o, w.heap[k]? = some o → v.ownBlock = some k → w'.heap[k]? = some o) : IntOwn B w' v l := by
  have h1 : (Kd.int .i64).R 3 w B (fun k => v.ownBlock = some k) v l := ⟨fun k hk => hk, h.2⟩
  exact Kd.R_mono (Kd.R_move h1 (fun k hk => by
    obtain ⟨_, _, cur, hc⟩ := IntOwn.typed h hk
    rw [hm k _ hc hk, hc])) (fun _ _ => trivial)
theorem IntOwn.fx {B : Nat} {w w' : World} {v : Value} {l : List Int} (h : IntOwn B w v l) {C gd ga gh n ca ch : Nat} {bt : Value} {s : DS} (r : Rep C w gd ga gh n ca ch bt s) (hf : Fx gd ga gh w w') : IntOwn B w' v l := h.move fun k o hk hc => by
  obtain ⟨_, _, cur, hc⟩ := IntOwn.typed h hc
  exact hf k o hk (blk_ne hc r.d (by decide)) (blk_ne hc r.a (by decide)) (blk_ne hc r.h (by decide))
theorem bk_fx {w w' : World} {g : Nat} {cs : Array Value} (hg : w.heap[g]? = some (.cells cs 38 (0, 0))) {C gd ga gh n ca ch : Nat} {bt : Value} {s : DS} (r : Rep C w gd ga gh n ca ch bt s) (hf : Fx gd ga gh w w') : w'.heap[g]? = some (.cells cs 38 (0, 0)) := hf g _ hg (blk_ne hg r.d (by decide)) (blk_ne hg r.a (by decide)) (blk_ne hg r.h (by decide))
theorem Rep.grown {B : Nat} {w w' : World} {gd ga gh n ca ch : Nat} {bt : Value} {s : DS} (r : Rep B w gd ga gh n ca ch bt s) {C : Nat} {v : Value} {l : List Int} (h : IntOwn C w v l) (hg : w.grownBy w' v.ownBlock) : Rep B w' gd ga gh n ca ch bt s := r.moved fun k o hk hc => by
  have hne : some k ≠ v.ownBlock := fun e => by
    obtain ⟨_, _, cur, hcur⟩ := IntOwn.typed h e.symm
    rcases hc with rfl | rfl | rfl | hc
    · exact blk_ne hcur r.d (by decide) rfl
    · exact blk_ne hcur r.a (by decide) rfl
    · exact blk_ne hcur r.h (by decide) rfl
    · obtain ⟨_, _, c2, h2⟩ := askBase r.b hc
      exact blk_ne hcur h2 (by decide) rfl
  exact blk_grown hk hg hne
/-- two rows that don't share a block -/
def Apart (u v : Value) : Prop := ∀ k, u.ownBlock = some k → v.ownBlock ≠ some k
theorem Apart.symm {u v : Value} (h : Apart u v) : Apart v u := fun k hk he => h k he hk
theorem Apart.grown {B : Nat} {w w' : World} {u u' v : Value} {l : List Int} (h : Apart u v) (hv : IntOwn B w v l) (hat : u'.ownBlock = u.ownBlock ∨ ∃ b, u'.ownBlock = some b ∧ w.heap.size ≤ b) : Apart u' v := fun k hk he => by
  rcases hat with hat | ⟨b, hb, hle⟩
  · exact h k (by rw [← hat]; exact hk) he
  · have := (IntOwn.typed hv he).2.1
    rw [hb] at hk
    injection hk with hk
    omega
theorem IntOwn.grown {B : Nat} {w w' : World} {u v : Value} {l : List Int} (hv : IntOwn B w v l) (h : Apart u v) (hg : w.grownBy w' u.ownBlock) : IntOwn B w' v l := hv.move fun k o hk hc => blk_grown hk hg (fun e => h k e.symm hc)
theorem IntOwn.below {B : Nat} {w w' : World} {v : Value} {l : List Int} (h : IntOwn B w v l) (hb : Below w.heap.size w w') : IntOwn B w' v l := Kd.R_below h hb
theorem IntOwn.C {B : Nat} {w : World} {v : Value} {m : Nat} {x : Int} (h : IntOwn B w v (List.replicate m x)) : ∃ A c, v = .slice A m c := by
  obtain ⟨A, c, e⟩ := Kd.R_slice h
  rw [List.length_replicate] at e
  exact ⟨A, c, e⟩


theorem Crash.reps (w : World) (B gd ga gh n ca ch : Nat) (bt : Value) (s : DS) (r : Rep B w gd ga gh n ca ch bt s) (hlb : s.btw.length ≤ 4611686018427387904) (C : Nat) (A : Option Addr) (c m : Nat) (x : Int) (h : IntOwn C w (.slice A m c) (List.replicate m x)) :
    Calls Try.prog 17 #[.pointer (some ⟨gd, 0, none⟩), .slice A m c] w fun e' w' => e' = .returned (.int .i64 0) ∧ Rep B w' gd ga gh n ca ch (.slice none 0 0) (s.crashE n (List.replicate m x)) ∧ Below B w w' ∧ Fx gd ga gh w w' := by
  have h1 := Crash.calls w B gd ga gh n ca ch bt s r A c (List.replicate m x) hlb (fun w' _ hf => by
    have h2 := (Kd.R_reads' (IntOwn.fx h r hf)).2.2
    have h3 : (Kd.int .i64).C w' A (List.replicate m x).length (List.replicate m x) := h2
    exact h3)
  rw [List.length_replicate] at h1
  exact h1
theorem Crash.nil (w : World) (B gd ga gh n ca ch : Nat) (bt : Value) (s : DS) (r : Rep B w gd ga gh n ca ch bt s) (hlb : s.btw.length ≤ 4611686018427387904) :
    Calls Try.prog 17 #[.pointer (some ⟨gd, 0, none⟩), .slice none 0 0] w fun e' w' => e' = .returned (.int .i64 0) ∧ Rep B w' gd ga gh n ca ch (.slice none 0 0) (s.crashE n []) ∧ Below B w w' ∧ Fx gd ga gh w w' :=
  Crash.calls w B gd ga gh n ca ch bt s r none 0 [] hlb (fun w' _ _ => Kd.C_nil _ _)
theorem rd_rep (m : Nat) (x : Int) (k : Nat) (hk : k < m) : k < (List.replicate m x).length ∧ rd (List.replicate m x) (k : Int) = x := by
  constructor
  · rw [List.length_replicate]; exact hk
  · unfold rd
    rw [Int.toNat_natCast, List.getD_eq_getElem?_getD, List.getElem?_replicate, if_pos hk]
    rfl
theorem rd_blk (X : List Int) (j i : Nat) (hi : i < 64) : rd (blkAt X j) (i : Int) = rd X ((j * 64 + i : Nat) : Int) := by
  unfold rd blkAt
  rw [Int.toNat_natCast, Int.toNat_natCast, List.getD_eq_getElem?_getD, List.getD_eq_getElem?_getD, List.getElem?_take_of_lt hi, List.getElem?_drop]
theorem rd_take (a b : List Int) (h : a.take 32 = b.take 32) (i : Nat) (hi : i < 32) : rd a (i : Int) = rd b (i : Int) := by
  unfold rd
  rw [Int.toNat_natCast, List.getD_eq_getElem?_getD, List.getD_eq_getElem?_getD, ← List.getElem?_take_of_lt hi, h, List.getElem?_take_of_lt hi]
theorem rd_drop (a b : List Int) (h : a.drop 32 = b.drop 32) (i : Nat) (hi : 32 ≤ i) : rd a (i : Int) = rd b (i : Int) := by
  unfold rd
  have e : ∀ l : List Int, l[i]? = (l.drop 32)[i - 32]? := fun l => by rw [List.getElem?_drop]; congr 1; omega
  rw [Int.toNat_natCast, List.getD_eq_getElem?_getD, List.getD_eq_getElem?_getD, e a, h, ← e b]
end Go.Proofs.Ytlnfdhcpnbhkdaa.GA.E
