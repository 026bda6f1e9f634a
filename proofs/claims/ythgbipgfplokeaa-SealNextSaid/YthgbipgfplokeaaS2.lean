import Derived.Test.YthgbipgfplokeaaS1
namespace Go.Proofs.Ythgbipgfplokeaa.GA
open Go.RowKit Go.Proofs.YthgbipgfplokeaaW.PrintWords Go.Proofs.YthgbipgfplokeaaW.PrintLast Go.Proofs.YthgbipgfplokeaaW.PrintMore
set_option linter.unusedVariables false
set_option linter.unusedSimpArgs false

/-- the first bytes from a place on as a number, the lowest first -/
def gnum (l : List Int) (p : Nat) : Nat → Int
  | 0 => 0
  | i + 1 => Go.bits .or .u64 (gnum l p i) (IntKind.u64.wrap (IntKind.u64.wrap (rd l ((p + i : Nat) : Int)) * 256 ^ i))

set_option maxHeartbeats 8000000 in
set_option maxRecDepth 100000 in
theorem numGet8.calls (g : Nat) (t : TypeId) (l : List Int) (hl : l.length = 64) (w : World) (hb : w.heap[g]? = some (.cells (bcells l) t (0, 0))) :
    Calls Try.prog 29 #[.slice (some ⟨g, 0, none⟩) 64 64, .int .i64 4, .int .i64 8] w fun e w' => e = .returned (.tuple #[.int .u64 (gnum l 4 8), .int .i64 0]) ∧ Drawn0 w w' := by
  have HF := Aside0.mk (show num_fits.f 8 = some true from rfl)
  have c0 : w.cell? ⟨g, 4, none⟩ = some (.int .u8 (rd l 4)) := (blk_cell hb 4).trans (bcells_get l 4 (by omega))
  have c1 : w.cell? ⟨g, 5, none⟩ = some (.int .u8 (rd l 5)) := (blk_cell hb 5).trans (bcells_get l 5 (by omega))
  have c2 : w.cell? ⟨g, 6, none⟩ = some (.int .u8 (rd l 6)) := (blk_cell hb 6).trans (bcells_get l 6 (by omega))
  have c3 : w.cell? ⟨g, 7, none⟩ = some (.int .u8 (rd l 7)) := (blk_cell hb 7).trans (bcells_get l 7 (by omega))
  have c4 : w.cell? ⟨g, 8, none⟩ = some (.int .u8 (rd l 8)) := (blk_cell hb 8).trans (bcells_get l 8 (by omega))
  have c5 : w.cell? ⟨g, 9, none⟩ = some (.int .u8 (rd l 9)) := (blk_cell hb 9).trans (bcells_get l 9 (by omega))
  have c6 : w.cell? ⟨g, 10, none⟩ = some (.int .u8 (rd l 10)) := (blk_cell hb 10).trans (bcells_get l 10 (by omega))
  have c7 : w.cell? ⟨g, 11, none⟩ = some (.int .u8 (rd l 11)) := (blk_cell hb 11).trans (bcells_get l 11 (by omega))
  clear hb
  go_enter Try.func29, Try.ntmps29
  go_wp2_with (first
    | (go_at_call 34; with_reducible refine (num_fits.calls 8 true _ HF.out).mono ?_; rintro e w' ⟨rfl, ⟨n1, rfl⟩⟩))
  go_loop [6, 35] (fun v6 v35 => ∃ i : Nat, i ≤ 8 ∧ v35 = .int .i64 i ∧ v6 = .int .u64 (gnum l 4 i)) (fun _ v35 => 8 - (intOf v35).toNat)
  case atStart => exact ⟨0, by omega, rfl, rfl⟩
  case round =>
    obtain ⟨i, hi, rfl, rfl⟩ := hrel
    rcases (by omega : i = 0 ∨ i = 1 ∨ i = 2 ∨ i = 3 ∨ i = 4 ∨ i = 5 ∨ i = 6 ∨ i = 7 ∨ i = 8) with rfl | rfl | rfl | rfl | rfl | rfl | rfl | rfl | rfl
    · go_wp2
      exact ⟨⟨1, by omega, rfl, by first | rfl | (simp only [gnum]; simp)⟩, by simp only [intOf]; omega⟩
    · go_wp2
      exact ⟨⟨2, by omega, rfl, by first | rfl | (simp only [gnum]; simp)⟩, by simp only [intOf]; omega⟩
    · go_wp2
      exact ⟨⟨3, by omega, rfl, by first | rfl | (simp only [gnum]; simp)⟩, by simp only [intOf]; omega⟩
    · go_wp2
      exact ⟨⟨4, by omega, rfl, by first | rfl | (simp only [gnum]; simp)⟩, by simp only [intOf]; omega⟩
    · go_wp2
      exact ⟨⟨5, by omega, rfl, by first | rfl | (simp only [gnum]; simp)⟩, by simp only [intOf]; omega⟩
    · go_wp2
      exact ⟨⟨6, by omega, rfl, by first | rfl | (simp only [gnum]; simp)⟩, by simp only [intOf]; omega⟩
    · go_wp2
      exact ⟨⟨7, by omega, rfl, by first | rfl | (simp only [gnum]; simp)⟩, by simp only [intOf]; omega⟩
    · go_wp2
      exact ⟨⟨8, by omega, rfl, by first | rfl | (simp only [gnum]; simp)⟩, by simp only [intOf]; omega⟩
    · go_wp2
      go_ret2
      exact ⟨rfl, ⟨_, rfl⟩⟩

set_option maxHeartbeats 8000000 in
set_option maxRecDepth 100000 in
theorem numGet4.calls (g : Nat) (t : TypeId) (l : List Int) (hl : l.length = 64) (w : World) (hb : w.heap[g]? = some (.cells (bcells l) t (0, 0))) :
    Calls Try.prog 29 #[.slice (some ⟨g, 0, none⟩) 64 64, .int .i64 0, .int .i64 4] w fun e w' => e = .returned (.tuple #[.int .u64 (gnum l 0 4), .int .i64 0]) ∧ Drawn0 w w' := by
  have HF := Aside0.mk (show num_fits.f 4 = some true from rfl)
  have c0 : w.cell? ⟨g, 0, none⟩ = some (.int .u8 (rd l 0)) := (blk_cell hb 0).trans (bcells_get l 0 (by omega))
  have c1 : w.cell? ⟨g, 1, none⟩ = some (.int .u8 (rd l 1)) := (blk_cell hb 1).trans (bcells_get l 1 (by omega))
  have c2 : w.cell? ⟨g, 2, none⟩ = some (.int .u8 (rd l 2)) := (blk_cell hb 2).trans (bcells_get l 2 (by omega))
  have c3 : w.cell? ⟨g, 3, none⟩ = some (.int .u8 (rd l 3)) := (blk_cell hb 3).trans (bcells_get l 3 (by omega))
  clear hb
  go_enter Try.func29, Try.ntmps29
  go_wp2_with (first
    | (go_at_call 34; with_reducible refine (num_fits.calls 4 true _ HF.out).mono ?_; rintro e w' ⟨rfl, ⟨n1, rfl⟩⟩))
  go_loop [6, 35] (fun v6 v35 => ∃ i : Nat, i ≤ 4 ∧ v35 = .int .i64 i ∧ v6 = .int .u64 (gnum l 0 i)) (fun _ v35 => 4 - (intOf v35).toNat)
  case atStart => exact ⟨0, by omega, rfl, rfl⟩
  case round =>
    obtain ⟨i, hi, rfl, rfl⟩ := hrel
    rcases (by omega : i = 0 ∨ i = 1 ∨ i = 2 ∨ i = 3 ∨ i = 4) with rfl | rfl | rfl | rfl | rfl
    · go_wp2
      exact ⟨⟨1, by omega, rfl, by first | rfl | (simp only [gnum]; simp)⟩, by simp only [intOf]; omega⟩
    · go_wp2
      exact ⟨⟨2, by omega, rfl, by first | rfl | (simp only [gnum]; simp)⟩, by simp only [intOf]; omega⟩
    · go_wp2
      exact ⟨⟨3, by omega, rfl, by first | rfl | (simp only [gnum]; simp)⟩, by simp only [intOf]; omega⟩
    · go_wp2
      exact ⟨⟨4, by omega, rfl, by first | rfl | (simp only [gnum]; simp)⟩, by simp only [intOf]; omega⟩
    · go_wp2
      go_ret2
      exact ⟨rfl, ⟨_, rfl⟩⟩
end Go.Proofs.Ythgbipgfplokeaa.GA
