/- Contracts: each call of a Go function answers what the Lean function of its name says; a law of the set follows. No condition but each theorem's own. Written by a program of this session's out of the translation, with the functions proved by hand let in. -/
import Derived.Test.YthphdhhogdhmeaaProg
import Derived.Below
import Derived.Deep.Draws
import Derived.Deep.AppendLies
import Derived.Maps.AppendAt
import Derived.OwnWalk
import Derived.Laws.BytesArg
import Derived.Laws.MakeOwn
import Derived.Laws.OwnMore
import Derived.Deep.OwnRows
import Derived.Tactics
import Derived.Lib.ConvBytes
import Derived.Laws.Slices
import Derived.WalkKit
import Derived.KernelRfl
import Derived.RowKit3
import Derived.Deep.LoopGhost
import Derived.Deep.QuietTactic
import Derived.BigQuiet
import Derived.WideLaws
import Derived.Deep.DeepCutAuto
import Derived.Deep.CutBlock
import Derived.Deep.RegionHeld3
import Derived.Laws.Rows
import Derived.Lib.AppendStr
import Derived.ArgAppend
import Derived.Laws.IdiomCopy
import Derived.OrdersHeld
import Derived.Laws.BitsLemmas
import Derived.RowKit
import Derived.Lib.SliceRun
import Derived.LaidEql
import Derived.Stop.Asserts
import Derived.RowKitTokens
import Derived.Laws.BitsAllLaws
import Derived.Lib.SlBytesConst
import Derived.Laws.CopyOwn
import Derived.Test.YthphdhhogdhmeaaWWords
import Derived.Test.YthphdhhogdhmeaaWLast
import Derived.Test.YthphdhhogdhmeaaWTab
import Derived.Test.YthphdhhogdhmeaaWFour
import Derived.Test.YthphdhhogdhmeaaWQPut
import Derived.Test.YthphdhhogdhmeaaWApart
import Derived.Test.YthphdhhogdhmeaaWArr
import Derived.Test.YthphdhhogdhmeaaWZeros
import Derived.Test.YthphdhhogdhmeaaWFoot
import Derived.Test.YthphdhhogdhmeaaWKept
import Derived.Test.YthphdhhogdhmeaaWShare
import Derived.Test.YthphdhhogdhmeaaWN
import Derived.Test.YthphdhhogdhmeaaWFootNe
import Derived.Test.YthphdhhogdhmeaaWAt
import Derived.Test.YthphdhhogdhmeaaWEqStruct
import Derived.Test.YthphdhhogdhmeaaWRepsOne
import Derived.Test.YthphdhhogdhmeaaWInv
import Derived.Test.YthphdhhogdhmeaaWInvWords
import Derived.Test.YthphdhhogdhmeaaWGuard
import Derived.Test.YthphdhhogdhmeaaWNEv
import Derived.Test.YthphdhhogdhmeaaWMore
namespace Go.Proofs.Ythphdhhogdhmeaa.GA
open Go.RowKit Go.Proofs.YthphdhhogdhmeaaW.PrintWords Go.Proofs.YthphdhhogdhmeaaW.PrintLast Go.Proofs.YthphdhhogdhmeaaW.PrintMore
attribute [local go_sem] max2_int min2_int max_two min_two max_three min_three max_four min_four   -- for this text's walks alone
set_option linter.unusedVariables false
set_option linter.unusedSimpArgs false



def errW : Option Int → Value
  | none => .nilIface
  | some c => .iface 0 (.int .i64 c)
theorem errW_none : errW none = .nilIface := rfl
theorem errW_some (c : Int) : errW (some c) = .iface 0 (.int .i64 c) := rfl

theorem info29 : (Try.prog.info? 29).map (fun i => (i.zero, i.size, i.bytes)) = some (some (.agg #[(.int .u64 0), (.int .u64 0), (.int .i64 0), (.int .i64 0), (.bool false), (.int .u8 0), (.int .u64 0), (.bool false), (.int .u64 0), (.bool false), (.bool false), (.int .u32 0)]), 12, 72) := by kernel_rfl
theorem info33 : (Try.prog.info? 33).map (fun i => (i.zero, i.size, i.bytes)) = some (some (.agg #[(.int .u8 0), (.int .u64 0), (.int .i64 0), (.bool false), (.int .u64 0), (.int .u64 0), (.int .i64 0), (.bool false), (.int .u32 0)]), 9, 64) := by kernel_rfl
-- the values' own types
/-! #### struct type 29 -/
structure S29 where
  f0 : Int
  f1 : Int
  f2 : Int
  f3 : Int
  f4 : Bool
  f5 : Int
  f6 : Int
  f7 : Bool
  f8 : Int
  f9 : Bool
  f10 : Bool
  f11 : Int
def z29 : S29 := ⟨(0 : Int), (0 : Int), (0 : Int), (0 : Int), false, (0 : Int), (0 : Int), false, (0 : Int), false, false, (0 : Int)⟩
def k29 : Kd S29 := Kd.iso (Kd.pair (Kd.int .u64) (Kd.pair (Kd.int .u64) (Kd.pair (Kd.int .i64) (Kd.pair (Kd.int .i64) (Kd.pair Kd.bool (Kd.pair (Kd.int .u8) (Kd.pair (Kd.int .u64) (Kd.pair Kd.bool (Kd.pair (Kd.int .u64) (Kd.pair Kd.bool (Kd.pair Kd.bool (Kd.int .u32)))))))))))) (fun x : S29 => (x.f0, x.f1, x.f2, x.f3, x.f4, x.f5, x.f6, x.f7, x.f8, x.f9, x.f10, x.f11))
theorem k29_open {w : World} {x : S29} {cs : List Value} (h : k29.K w x cs) : cs = [.int .u64 x.f0, .int .u64 x.f1, .int .i64 x.f2, .int .i64 x.f3, .bool x.f4, .int .u8 x.f5, .int .u64 x.f6, .bool x.f7, .int .u64 x.f8, .bool x.f9, .bool x.f10, .int .u32 x.f11] := by
  obtain ⟨_, _, rfl, rfl, ⟨_, _, rfl, rfl, ⟨_, _, rfl, rfl, ⟨_, _, rfl, rfl, ⟨_, _, rfl, rfl, ⟨_, _, rfl, rfl, ⟨_, _, rfl, rfl, ⟨_, _, rfl, rfl, ⟨_, _, rfl, rfl, ⟨_, _, rfl, rfl, ⟨_, _, rfl, rfl, rfl⟩⟩⟩⟩⟩⟩⟩⟩⟩⟩⟩ := h
  exact rfl
theorem k29_openM {w : World} {base : Nat} {ok : Nat → Prop} {x : S29} {cs : List Value} (h : k29.M w base ok x cs) : cs = [.int .u64 x.f0, .int .u64 x.f1, .int .i64 x.f2, .int .i64 x.f3, .bool x.f4, .int .u8 x.f5, .int .u64 x.f6, .bool x.f7, .int .u64 x.f8, .bool x.f9, .bool x.f10, .int .u32 x.f11] := by
  obtain ⟨_, _, rfl, rfl, ⟨_, _, rfl, rfl, ⟨_, _, rfl, rfl, ⟨_, _, rfl, rfl, ⟨_, _, rfl, rfl, ⟨_, _, rfl, rfl, ⟨_, _, rfl, rfl, ⟨_, _, rfl, rfl, ⟨_, _, rfl, rfl, ⟨_, _, rfl, rfl, ⟨_, _, rfl, rfl, rfl⟩⟩⟩⟩⟩⟩⟩⟩⟩⟩⟩ := h
  exact rfl
theorem k29_mk (w : World) (x : S29)  : k29.K w x [.int .u64 x.f0, .int .u64 x.f1, .int .i64 x.f2, .int .i64 x.f3, .bool x.f4, .int .u8 x.f5, .int .u64 x.f6, .bool x.f7, .int .u64 x.f8, .bool x.f9, .bool x.f10, .int .u32 x.f11] := ⟨[.int .u64 x.f0], [.int .u64 x.f1, .int .i64 x.f2, .int .i64 x.f3, .bool x.f4, .int .u8 x.f5, .int .u64 x.f6, .bool x.f7, .int .u64 x.f8, .bool x.f9, .bool x.f10, .int .u32 x.f11], rfl, rfl, ⟨[.int .u64 x.f1], [.int .i64 x.f2, .int .i64 x.f3, .bool x.f4, .int .u8 x.f5, .int .u64 x.f6, .bool x.f7, .int .u64 x.f8, .bool x.f9, .bool x.f10, .int .u32 x.f11], rfl, rfl, ⟨[.int .i64 x.f2], [.int .i64 x.f3, .bool x.f4, .int .u8 x.f5, .int .u64 x.f6, .bool x.f7, .int .u64 x.f8, .bool x.f9, .bool x.f10, .int .u32 x.f11], rfl, rfl, ⟨[.int .i64 x.f3], [.bool x.f4, .int .u8 x.f5, .int .u64 x.f6, .bool x.f7, .int .u64 x.f8, .bool x.f9, .bool x.f10, .int .u32 x.f11], rfl, rfl, ⟨[.bool x.f4], [.int .u8 x.f5, .int .u64 x.f6, .bool x.f7, .int .u64 x.f8, .bool x.f9, .bool x.f10, .int .u32 x.f11], rfl, rfl, ⟨[.int .u8 x.f5], [.int .u64 x.f6, .bool x.f7, .int .u64 x.f8, .bool x.f9, .bool x.f10, .int .u32 x.f11], rfl, rfl, ⟨[.int .u64 x.f6], [.bool x.f7, .int .u64 x.f8, .bool x.f9, .bool x.f10, .int .u32 x.f11], rfl, rfl, ⟨[.bool x.f7], [.int .u64 x.f8, .bool x.f9, .bool x.f10, .int .u32 x.f11], rfl, rfl, ⟨[.int .u64 x.f8], [.bool x.f9, .bool x.f10, .int .u32 x.f11], rfl, rfl, ⟨[.bool x.f9], [.bool x.f10, .int .u32 x.f11], rfl, rfl, ⟨[.bool x.f10], [.int .u32 x.f11], rfl, rfl, rfl⟩⟩⟩⟩⟩⟩⟩⟩⟩⟩⟩
theorem k29_mkM (w : World) (base : Nat) (ok : Nat → Prop) (x : S29)  : k29.M w base ok x [.int .u64 x.f0, .int .u64 x.f1, .int .i64 x.f2, .int .i64 x.f3, .bool x.f4, .int .u8 x.f5, .int .u64 x.f6, .bool x.f7, .int .u64 x.f8, .bool x.f9, .bool x.f10, .int .u32 x.f11] := ⟨[.int .u64 x.f0], [.int .u64 x.f1, .int .i64 x.f2, .int .i64 x.f3, .bool x.f4, .int .u8 x.f5, .int .u64 x.f6, .bool x.f7, .int .u64 x.f8, .bool x.f9, .bool x.f10, .int .u32 x.f11], rfl, rfl, ⟨[.int .u64 x.f1], [.int .i64 x.f2, .int .i64 x.f3, .bool x.f4, .int .u8 x.f5, .int .u64 x.f6, .bool x.f7, .int .u64 x.f8, .bool x.f9, .bool x.f10, .int .u32 x.f11], rfl, rfl, ⟨[.int .i64 x.f2], [.int .i64 x.f3, .bool x.f4, .int .u8 x.f5, .int .u64 x.f6, .bool x.f7, .int .u64 x.f8, .bool x.f9, .bool x.f10, .int .u32 x.f11], rfl, rfl, ⟨[.int .i64 x.f3], [.bool x.f4, .int .u8 x.f5, .int .u64 x.f6, .bool x.f7, .int .u64 x.f8, .bool x.f9, .bool x.f10, .int .u32 x.f11], rfl, rfl, ⟨[.bool x.f4], [.int .u8 x.f5, .int .u64 x.f6, .bool x.f7, .int .u64 x.f8, .bool x.f9, .bool x.f10, .int .u32 x.f11], rfl, rfl, ⟨[.int .u8 x.f5], [.int .u64 x.f6, .bool x.f7, .int .u64 x.f8, .bool x.f9, .bool x.f10, .int .u32 x.f11], rfl, rfl, ⟨[.int .u64 x.f6], [.bool x.f7, .int .u64 x.f8, .bool x.f9, .bool x.f10, .int .u32 x.f11], rfl, rfl, ⟨[.bool x.f7], [.int .u64 x.f8, .bool x.f9, .bool x.f10, .int .u32 x.f11], rfl, rfl, ⟨[.int .u64 x.f8], [.bool x.f9, .bool x.f10, .int .u32 x.f11], rfl, rfl, ⟨[.bool x.f9], [.bool x.f10, .int .u32 x.f11], rfl, rfl, ⟨[.bool x.f10], [.int .u32 x.f11], rfl, rfl, rfl⟩⟩⟩⟩⟩⟩⟩⟩⟩⟩⟩
def rd_T29 (xs : List S29) (i : Int) : S29 := xs.getD i.toNat z29
theorem at_T29 {w : World} {A : Option Addr} {n : Nat} {xs : List S29} (h : Kd.C k29 w A n xs) (i : Int) (h0 : 0 ≤ i) (h1 : i < n) : ∃ ad , A = some ad ∧ w.cell? (ad.add (i.toNat * 12)) = some (.int .u64 (rd_T29 xs i).f0) ∧ w.cell? ⟨(ad.add (i.toNat * 12)).block, (ad.add (i.toNat * 12)).off + 1, none⟩ = some (.int .u64 (rd_T29 xs i).f1) ∧ w.cell? ⟨(ad.add (i.toNat * 12)).block, (ad.add (i.toNat * 12)).off + 2, none⟩ = some (.int .i64 (rd_T29 xs i).f2) ∧ w.cell? ⟨(ad.add (i.toNat * 12)).block, (ad.add (i.toNat * 12)).off + 3, none⟩ = some (.int .i64 (rd_T29 xs i).f3) ∧ w.cell? ⟨(ad.add (i.toNat * 12)).block, (ad.add (i.toNat * 12)).off + 4, none⟩ = some (.bool (rd_T29 xs i).f4) ∧ w.cell? ⟨(ad.add (i.toNat * 12)).block, (ad.add (i.toNat * 12)).off + 5, none⟩ = some (.int .u8 (rd_T29 xs i).f5) ∧ w.cell? ⟨(ad.add (i.toNat * 12)).block, (ad.add (i.toNat * 12)).off + 6, none⟩ = some (.int .u64 (rd_T29 xs i).f6) ∧ w.cell? ⟨(ad.add (i.toNat * 12)).block, (ad.add (i.toNat * 12)).off + 7, none⟩ = some (.bool (rd_T29 xs i).f7) ∧ w.cell? ⟨(ad.add (i.toNat * 12)).block, (ad.add (i.toNat * 12)).off + 8, none⟩ = some (.int .u64 (rd_T29 xs i).f8) ∧ w.cell? ⟨(ad.add (i.toNat * 12)).block, (ad.add (i.toNat * 12)).off + 9, none⟩ = some (.bool (rd_T29 xs i).f9) ∧ w.cell? ⟨(ad.add (i.toNat * 12)).block, (ad.add (i.toNat * 12)).off + 10, none⟩ = some (.bool (rd_T29 xs i).f10) ∧ w.cell? ⟨(ad.add (i.toNat * 12)).block, (ad.add (i.toNat * 12)).off + 11, none⟩ = some (.int .u32 (rd_T29 xs i).f11) := by
  obtain ⟨ad, c, e, _, hK, hc0⟩ := Kd.C_get h z29 i h0 h1
  have hc : ∀ j u, c[j]? = some u → w.cell? (ad.add (i.toNat * 12 + j)) = some u := hc0
  obtain rfl := k29_open hK
  exact ⟨ad, e, hc 0 _ rfl, by rw [← add_field _ _ 1 (by omega)]; exact hc 1 _ rfl, by rw [← add_field _ _ 2 (by omega)]; exact hc 2 _ rfl, by rw [← add_field _ _ 3 (by omega)]; exact hc 3 _ rfl, by rw [← add_field _ _ 4 (by omega)]; exact hc 4 _ rfl, by rw [← add_field _ _ 5 (by omega)]; exact hc 5 _ rfl, by rw [← add_field _ _ 6 (by omega)]; exact hc 6 _ rfl, by rw [← add_field _ _ 7 (by omega)]; exact hc 7 _ rfl, by rw [← add_field _ _ 8 (by omega)]; exact hc 8 _ rfl, by rw [← add_field _ _ 9 (by omega)]; exact hc 9 _ rfl, by rw [← add_field _ _ 10 (by omega)]; exact hc 10 _ rfl, by rw [← add_field _ _ 11 (by omega)]; exact hc 11 _ rfl⟩

/-! #### struct type 31 -/
structure S31 where
  f0 : Int
  f1 : Int
  f2 : Int
  f3 : Bool
  f4 : Int
def z31 : S31 := ⟨(0 : Int), (0 : Int), (0 : Int), false, (0 : Int)⟩
def k31 : Kd S31 := Kd.iso (Kd.pair (Kd.int .u8) (Kd.pair (Kd.int .u64) (Kd.pair (Kd.int .i64) (Kd.pair Kd.bool (Kd.int .u64))))) (fun x : S31 => (x.f0, x.f1, x.f2, x.f3, x.f4))
theorem k31_open {w : World} {x : S31} {cs : List Value} (h : k31.K w x cs) : cs = [.int .u8 x.f0, .int .u64 x.f1, .int .i64 x.f2, .bool x.f3, .int .u64 x.f4] := by
  obtain ⟨_, _, rfl, rfl, ⟨_, _, rfl, rfl, ⟨_, _, rfl, rfl, ⟨_, _, rfl, rfl, rfl⟩⟩⟩⟩ := h
  exact rfl
theorem k31_openM {w : World} {base : Nat} {ok : Nat → Prop} {x : S31} {cs : List Value} (h : k31.M w base ok x cs) : cs = [.int .u8 x.f0, .int .u64 x.f1, .int .i64 x.f2, .bool x.f3, .int .u64 x.f4] := by
  obtain ⟨_, _, rfl, rfl, ⟨_, _, rfl, rfl, ⟨_, _, rfl, rfl, ⟨_, _, rfl, rfl, rfl⟩⟩⟩⟩ := h
  exact rfl
theorem k31_mk (w : World) (x : S31)  : k31.K w x [.int .u8 x.f0, .int .u64 x.f1, .int .i64 x.f2, .bool x.f3, .int .u64 x.f4] := ⟨[.int .u8 x.f0], [.int .u64 x.f1, .int .i64 x.f2, .bool x.f3, .int .u64 x.f4], rfl, rfl, ⟨[.int .u64 x.f1], [.int .i64 x.f2, .bool x.f3, .int .u64 x.f4], rfl, rfl, ⟨[.int .i64 x.f2], [.bool x.f3, .int .u64 x.f4], rfl, rfl, ⟨[.bool x.f3], [.int .u64 x.f4], rfl, rfl, rfl⟩⟩⟩⟩
theorem k31_mkM (w : World) (base : Nat) (ok : Nat → Prop) (x : S31)  : k31.M w base ok x [.int .u8 x.f0, .int .u64 x.f1, .int .i64 x.f2, .bool x.f3, .int .u64 x.f4] := ⟨[.int .u8 x.f0], [.int .u64 x.f1, .int .i64 x.f2, .bool x.f3, .int .u64 x.f4], rfl, rfl, ⟨[.int .u64 x.f1], [.int .i64 x.f2, .bool x.f3, .int .u64 x.f4], rfl, rfl, ⟨[.int .i64 x.f2], [.bool x.f3, .int .u64 x.f4], rfl, rfl, ⟨[.bool x.f3], [.int .u64 x.f4], rfl, rfl, rfl⟩⟩⟩⟩
def rd_T31 (xs : List S31) (i : Int) : S31 := xs.getD i.toNat z31
theorem at_T31 {w : World} {A : Option Addr} {n : Nat} {xs : List S31} (h : Kd.C k31 w A n xs) (i : Int) (h0 : 0 ≤ i) (h1 : i < n) : ∃ ad , A = some ad ∧ w.cell? (ad.add (i.toNat * 5)) = some (.int .u8 (rd_T31 xs i).f0) ∧ w.cell? ⟨(ad.add (i.toNat * 5)).block, (ad.add (i.toNat * 5)).off + 1, none⟩ = some (.int .u64 (rd_T31 xs i).f1) ∧ w.cell? ⟨(ad.add (i.toNat * 5)).block, (ad.add (i.toNat * 5)).off + 2, none⟩ = some (.int .i64 (rd_T31 xs i).f2) ∧ w.cell? ⟨(ad.add (i.toNat * 5)).block, (ad.add (i.toNat * 5)).off + 3, none⟩ = some (.bool (rd_T31 xs i).f3) ∧ w.cell? ⟨(ad.add (i.toNat * 5)).block, (ad.add (i.toNat * 5)).off + 4, none⟩ = some (.int .u64 (rd_T31 xs i).f4) := by
  obtain ⟨ad, c, e, _, hK, hc0⟩ := Kd.C_get h z31 i h0 h1
  have hc : ∀ j u, c[j]? = some u → w.cell? (ad.add (i.toNat * 5 + j)) = some u := hc0
  obtain rfl := k31_open hK
  exact ⟨ad, e, hc 0 _ rfl, by rw [← add_field _ _ 1 (by omega)]; exact hc 1 _ rfl, by rw [← add_field _ _ 2 (by omega)]; exact hc 2 _ rfl, by rw [← add_field _ _ 3 (by omega)]; exact hc 3 _ rfl, by rw [← add_field _ _ 4 (by omega)]; exact hc 4 _ rfl⟩

/-! #### struct type 33 -/
structure S33 where
  f0 : S31
  f1 : Int
  f2 : Int
  f3 : Bool
  f4 : Int
def z33 : S33 := ⟨z31, (0 : Int), (0 : Int), false, (0 : Int)⟩
def k33 : Kd S33 := Kd.iso (Kd.pair k31 (Kd.pair (Kd.int .u64) (Kd.pair (Kd.int .i64) (Kd.pair Kd.bool (Kd.int .u32))))) (fun x : S33 => (x.f0, x.f1, x.f2, x.f3, x.f4))
theorem k33_open {w : World} {x : S33} {cs : List Value} (h : k33.K w x cs) : cs = [.int .u8 x.f0.f0, .int .u64 x.f0.f1, .int .i64 x.f0.f2, .bool x.f0.f3, .int .u64 x.f0.f4, .int .u64 x.f1, .int .i64 x.f2, .bool x.f3, .int .u32 x.f4] := by
  obtain ⟨_, _, rfl, s0, ⟨_, _, rfl, rfl, ⟨_, _, rfl, rfl, ⟨_, _, rfl, rfl, rfl⟩⟩⟩⟩ := h
  obtain rfl := k31_open s0
  exact rfl
theorem k33_openM {w : World} {base : Nat} {ok : Nat → Prop} {x : S33} {cs : List Value} (h : k33.M w base ok x cs) : cs = [.int .u8 x.f0.f0, .int .u64 x.f0.f1, .int .i64 x.f0.f2, .bool x.f0.f3, .int .u64 x.f0.f4, .int .u64 x.f1, .int .i64 x.f2, .bool x.f3, .int .u32 x.f4] := by
  obtain ⟨_, _, rfl, s0, ⟨_, _, rfl, rfl, ⟨_, _, rfl, rfl, ⟨_, _, rfl, rfl, rfl⟩⟩⟩⟩ := h
  obtain rfl := k31_openM s0
  exact rfl
theorem k33_mk (w : World) (x : S33)  : k33.K w x [.int .u8 x.f0.f0, .int .u64 x.f0.f1, .int .i64 x.f0.f2, .bool x.f0.f3, .int .u64 x.f0.f4, .int .u64 x.f1, .int .i64 x.f2, .bool x.f3, .int .u32 x.f4] := ⟨[.int .u8 x.f0.f0, .int .u64 x.f0.f1, .int .i64 x.f0.f2, .bool x.f0.f3, .int .u64 x.f0.f4], [.int .u64 x.f1, .int .i64 x.f2, .bool x.f3, .int .u32 x.f4], rfl, (k31_mk w x.f0 ), ⟨[.int .u64 x.f1], [.int .i64 x.f2, .bool x.f3, .int .u32 x.f4], rfl, rfl, ⟨[.int .i64 x.f2], [.bool x.f3, .int .u32 x.f4], rfl, rfl, ⟨[.bool x.f3], [.int .u32 x.f4], rfl, rfl, rfl⟩⟩⟩⟩
theorem k33_mkM (w : World) (base : Nat) (ok : Nat → Prop) (x : S33)  : k33.M w base ok x [.int .u8 x.f0.f0, .int .u64 x.f0.f1, .int .i64 x.f0.f2, .bool x.f0.f3, .int .u64 x.f0.f4, .int .u64 x.f1, .int .i64 x.f2, .bool x.f3, .int .u32 x.f4] := ⟨[.int .u8 x.f0.f0, .int .u64 x.f0.f1, .int .i64 x.f0.f2, .bool x.f0.f3, .int .u64 x.f0.f4], [.int .u64 x.f1, .int .i64 x.f2, .bool x.f3, .int .u32 x.f4], rfl, (k31_mkM w base ok x.f0 ), ⟨[.int .u64 x.f1], [.int .i64 x.f2, .bool x.f3, .int .u32 x.f4], rfl, rfl, ⟨[.int .i64 x.f2], [.bool x.f3, .int .u32 x.f4], rfl, rfl, ⟨[.bool x.f3], [.int .u32 x.f4], rfl, rfl, rfl⟩⟩⟩⟩
def rd_T33 (xs : List S33) (i : Int) : S33 := xs.getD i.toNat z33
theorem at_T33 {w : World} {A : Option Addr} {n : Nat} {xs : List S33} (h : Kd.C k33 w A n xs) (i : Int) (h0 : 0 ≤ i) (h1 : i < n) : ∃ ad , A = some ad ∧ w.cell? (ad.add (i.toNat * 9)) = some (.int .u8 (rd_T33 xs i).f0.f0) ∧ w.cell? ⟨(ad.add (i.toNat * 9)).block, (ad.add (i.toNat * 9)).off + 1, none⟩ = some (.int .u64 (rd_T33 xs i).f0.f1) ∧ w.cell? ⟨(ad.add (i.toNat * 9)).block, (ad.add (i.toNat * 9)).off + 2, none⟩ = some (.int .i64 (rd_T33 xs i).f0.f2) ∧ w.cell? ⟨(ad.add (i.toNat * 9)).block, (ad.add (i.toNat * 9)).off + 3, none⟩ = some (.bool (rd_T33 xs i).f0.f3) ∧ w.cell? ⟨(ad.add (i.toNat * 9)).block, (ad.add (i.toNat * 9)).off + 4, none⟩ = some (.int .u64 (rd_T33 xs i).f0.f4) ∧ w.cell? ⟨(ad.add (i.toNat * 9)).block, (ad.add (i.toNat * 9)).off + 5, none⟩ = some (.int .u64 (rd_T33 xs i).f1) ∧ w.cell? ⟨(ad.add (i.toNat * 9)).block, (ad.add (i.toNat * 9)).off + 6, none⟩ = some (.int .i64 (rd_T33 xs i).f2) ∧ w.cell? ⟨(ad.add (i.toNat * 9)).block, (ad.add (i.toNat * 9)).off + 7, none⟩ = some (.bool (rd_T33 xs i).f3) ∧ w.cell? ⟨(ad.add (i.toNat * 9)).block, (ad.add (i.toNat * 9)).off + 8, none⟩ = some (.int .u32 (rd_T33 xs i).f4) := by
  obtain ⟨ad, c, e, _, hK, hc0⟩ := Kd.C_get h z33 i h0 h1
  have hc : ∀ j u, c[j]? = some u → w.cell? (ad.add (i.toNat * 9 + j)) = some u := hc0
  obtain rfl := k33_open hK
  exact ⟨ad, e, hc 0 _ rfl, by rw [← add_field _ _ 1 (by omega)]; exact hc 1 _ rfl, by rw [← add_field _ _ 2 (by omega)]; exact hc 2 _ rfl, by rw [← add_field _ _ 3 (by omega)]; exact hc 3 _ rfl, by rw [← add_field _ _ 4 (by omega)]; exact hc 4 _ rfl, by rw [← add_field _ _ 5 (by omega)]; exact hc 5 _ rfl, by rw [← add_field _ _ 6 (by omega)]; exact hc 6 _ rfl, by rw [← add_field _ _ 7 (by omega)]; exact hc 7 _ rfl, by rw [← add_field _ _ 8 (by omega)]; exact hc 8 _ rfl⟩

def rd_L8 (xs : List (List S29)) (i : Int) : (List S29) := xs.getD i.toNat ([] : List S29)
theorem at_L8 {w : World} {A : Option Addr} {n : Nat} {xs : List (List S29)} (h : Kd.C (Kd.slice 29 k29) w A n xs) (i : Int) (h0 : 0 ≤ i) (h1 : i < n) : ∃ ad A0 c0, A = some ad ∧ w.cell? (ad.add i.toNat) = some (.slice A0 (rd_L8 xs i).length c0) ∧ (rd_L8 xs i).length ≤ c0 ∧ k29.C w A0 (rd_L8 xs i).length (rd_L8 xs i) := by
  obtain ⟨ad, c, e, _, hK, hc0⟩ := Kd.C_get h ([] : List S29) i h0 h1
  have hc : ∀ j u, c[j]? = some u → w.cell? (ad.add (i.toNat * 1 + j)) = some u := hc0
  obtain ⟨A0, c0, rfl, l0, g0⟩ := hK
  exact ⟨ad, A0, c0, e, by have hq := hc 0 _ rfl; rwa [Nat.mul_one, Nat.add_zero] at hq, l0, g0⟩


end Go.Proofs.Ythphdhhogdhmeaa.GA
