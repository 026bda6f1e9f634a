/- Blocks in memory: loads, stores and copies of 64 bytes. No condition. -/
import Derived.Test.YtlnfdhcpnbhkdaaD3
import Derived.Laws.CopyOwn
import Derived.ChangeKeysEq
import Derived.Deep.RegionHeld3
import Derived.Deep.MidRow
import Derived.Great.BuildSlice
namespace Go.Proofs.Ytlnfdhcpnbhkdaa.GA
open Go.RowKit Go.Proofs.YtlnfdhcpnbhkdaaW.PrintWords Go.Proofs.YtlnfdhcpnbhkdaaW.PrintLast Go.Proofs.YtlnfdhcpnbhkdaaW.PrintMore
set_option linter.unusedVariables false
set_option linter.unusedSimpArgs false


/-- the cells of a write that is not held -/
def askC (i : Int) (b : List Int) : Array Value := (.int .i64 i :: encs (Value.int .u8) b).toArray
theorem askC_size (i : Int) (b : List Int) (hb : b.length = 64) : (askC i b).size = 65 := by unfold askC; rw [List.size_toArray, List.length_cons, encs_length, hb]
theorem fill_step {place : Nat → Option (Nat × Nat)} {cells : Array Value} {i off size : Nat} {v : Value} {rest : List (Nat × Value)} (hp : place i = some (off, size)) (hs : v.cells.size = size) (hf : off + size ≤ cells.size) :
    Instr.fill place cells ((i, v) :: rest) = Instr.fill place ((v.cells.toList.zipIdx 0).foldl (fun cs (x : Value × Nat) => cs.setIfInBounds (off + x.2) x.1) cells) rest := by
  have e : v.cells.zipIdx.foldl (fun cs (x : Value × Nat) => cs.setIfInBounds (off + x.2) x.1) cells = (v.cells.toList.zipIdx 0).foldl (fun cs (x : Value × Nat) => cs.setIfInBounds (off + x.2) x.1) cells := by
    rw [← Array.foldl_toList, Array.toList_zipIdx]
  rw [Instr.fill, hp]
  simp only [hs]
  rw [if_neg (by simp; omega), ← e]
theorem ask_built (i : Int) (b : List Int) (hb : b.length = 64) : Try.prog.built 65 [(0, .int .i64 i), (1, .agg (bcells b))] = some (askC i b) := by
  have hsz : (Try.prog.info? 65).map (fun it => it.zero.map (·.cells.size)) = some (some 65) := by kernel_rfl
  cases hit : Try.prog.info? 65 with
  | none => rw [hit] at hsz; cases hsz
  | some it =>
    cases hz : it.zero with
    | none => rw [hit] at hsz; simp [hz] at hsz
    | some z =>
      have hz65 : z.cells.size = 65 := by rw [hit] at hsz; simpa [hz] using hsz
      unfold Program.built
      rw [hit, Try.underlying65]
      simp only [hz]
      have hp : ∀ fs, Try.prog.underlying 65 = some (.struct fs) → fs.toList.mapM (fun f => (Try.prog.info? f.type).map fun i => (f.offset, i.size)) = some [(0, 1), (1, 64)] := fun fs hf => by
        rw [Try.underlying65] at hf
        injection hf with hf
        injection hf with hf
        subst hf
        kernel_rfl
      rw [hp _ Try.underlying65]
      simp only
      have hc : (Value.agg (bcells b)).cells = bcells b := rfl
      rw [fill_step (off := 0) (size := 1) (by rfl) (by rfl) (by omega), fill_step (off := 1) (size := 64) (by rfl) (by rw [hc, bcells_size, hb]) (by rw [(Great.foldl_set 0 _ 0 z.cells).1]; omega), Instr.fill]
      congr 1
      apply Array.ext_getElem?
      intro k
      have h1 := (Great.foldl_set 1 (Value.agg (bcells b)).cells.toList 0 ((((Value.int .i64 i).cells.toList.zipIdx 0).foldl (fun cs (x : Value × Nat) => cs.setIfInBounds (0 + x.2) x.1) z.cells))).2 k
      have h2 := (Great.foldl_set 0 (Value.int .i64 i).cells.toList 0 z.cells).2 k
      have h3 := (Great.foldl_set 0 (Value.int .i64 i).cells.toList 0 z.cells).1
      rw [h1, h2, h3, hz65, hc]
      have hl : (bcells b).toList.length = 64 := by rw [Array.length_toList, bcells_size, hb]
      have hl1 : (Value.int .i64 i).cells.toList.length = 1 := rfl
      rw [hl, hl1]
      unfold askC
      have hr : (Value.int .i64 i :: encs (Value.int .u8) b).toArray[k]? = (Value.int .i64 i :: encs (Value.int .u8) b)[k]? := by simp
      rw [hr]
      clear h1 h2 h3 hr
      by_cases hk0 : k = 0
      · subst hk0
        rw [if_neg (by omega), if_pos (by omega)]
        rfl
      · obtain ⟨k, rfl⟩ := Nat.exists_eq_succ_of_ne_zero hk0
        rw [List.getElem?_cons_succ]
        by_cases hk : k < 64
        · rw [if_pos (by omega), show k.succ - (1 + 0) = k by omega]
          rfl
        · rw [if_neg (by omega), if_neg (by omega), Array.getElem?_eq_none (by omega), List.getElem?_eq_none (by rw [encs_length]; omega)]
theorem askSlice_run (W : World) (i : Int) (b : List Int) (hb : b.length = 64) : (Instr.buildSlice 58 1 #[(0, .agg (askC i b))]).run Try.prog W = .ok (.slice (some ⟨W.heap.size, 0, none⟩) 1 1) (W.alloc (.cells (askC i b) 65)) := by
  have hsz : (Try.prog.info? 65).map (fun it => (it.size, it.zero.map (·.cells.size))) = some (65, some 65) := by kernel_rfl
  cases hit : Try.prog.info? 65 with
  | none => rw [hit] at hsz; cases hsz
  | some it =>
    cases hz : it.zero with
    | none => rw [hit] at hsz; simp [hz] at hsz
    | some z =>
      have h65 : it.size = 65 := by rw [hit] at hsz; simp [hz] at hsz; exact hsz.1
      refine run_buildSlice W 58 65 1 _ (askC i b) it z Try.underlying58 hit hz (by rw [h65]; decide) (by rw [h65]; decide) ?_
      rw [h65]
      have h := Great.fill_whole (s := 65) (by decide) [Value.agg (askC i b)] ((Array.range (1 * 65)).map (z.cells[· % z.cells.size]!)) (fun v hv => by rw [List.mem_singleton.1 hv]; exact askC_size i b hb) (by simp)
      have e : ([Value.agg (askC i b)].flatMap fun v => v.cells.toList).toArray = askC i b := by
        simp only [List.flatMap_cons, List.flatMap_nil, List.append_nil]
        rfl
      rw [e] at h
      exact h
end Go.Proofs.Ytlnfdhcpnbhkdaa.GA
