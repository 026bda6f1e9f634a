/- Contracts: each call of a Go function answers what the Lean function of its name says; a law of the set follows. No condition but each theorem's own. Written by a program of this session's out of the translation, with the functions proved by hand let in. -/
import Derived.Test.YtiohijahacclnaaProg
import Derived.Below
import Derived.Deep.Draws
import Derived.Deep.AppendLies
import Derived.Maps.AppendAt
import Derived.OwnWalk
import Derived.Laws.BytesArg
import Derived.Laws.MakeOwn
import Derived.Laws.OwnMore
import Derived.Deep.OwnRows
import Derived.Tactics
import Derived.Lib.ConvBytes
import Derived.Laws.Slices
import Derived.WalkKit
import Derived.KernelRfl
import Derived.RowKit3
import Derived.Deep.LoopGhost
import Derived.Deep.QuietTactic
import Derived.BigQuiet
import Derived.WideLaws
import Derived.Deep.DeepCutAuto
import Derived.Deep.CutBlock
import Derived.Deep.RegionHeld3
import Derived.Laws.Rows
import Derived.Lib.AppendStr
import Derived.ArgAppend
import Derived.Laws.IdiomCopy
import Derived.OrdersHeld
import Derived.Laws.BitsLemmas
import Derived.RowKit
import Derived.Lib.SliceRun
import Derived.LaidEql
import Derived.Stop.Asserts
import Derived.RowKitTokens
import Derived.Laws.BitsAllLaws
import Derived.Lib.SlBytesConst
import Derived.Test.YtiohijahacclnaaWWords
import Derived.Test.YtiohijahacclnaaWLast
import Derived.Test.YtiohijahacclnaaWTab
import Derived.Test.YtiohijahacclnaaWFour
import Derived.Test.YtiohijahacclnaaWQPut
import Derived.Test.YtiohijahacclnaaWApart
import Derived.Test.YtiohijahacclnaaWArr
import Derived.Test.YtiohijahacclnaaWZeros
import Derived.Test.YtiohijahacclnaaWFoot
import Derived.Test.YtiohijahacclnaaWKept
import Derived.Test.YtiohijahacclnaaWShare
import Derived.Test.YtiohijahacclnaaWN
import Derived.Test.YtiohijahacclnaaWFootNe
import Derived.Test.YtiohijahacclnaaWAt
import Derived.Test.YtiohijahacclnaaWEqStruct
import Derived.Test.YtiohijahacclnaaWRepsOne
import Derived.Test.YtiohijahacclnaaWInv
import Derived.Test.YtiohijahacclnaaWInvWords
import Derived.Test.YtiohijahacclnaaWGuard
import Derived.Test.YtiohijahacclnaaWNEv
import Derived.Test.YtiohijahacclnaaWMore
namespace Go.Proofs.Ytiohijahacclnaa.GB
open Go.RowKit Go.Proofs.YtiohijahacclnaaW.PrintWords Go.Proofs.YtiohijahacclnaaW.PrintLast Go.Proofs.YtiohijahacclnaaW.PrintMore
attribute [local go_sem] max2_int min2_int max_two min_two max_three min_three max_four min_four   -- for this text's walks alone
set_option linter.unusedVariables false
set_option linter.unusedSimpArgs false



def errW : Option Int → Value
  | none => .nilIface
  | some c => .iface 31 (.int .i64 c)
theorem errW_none : errW none = .nilIface := rfl
theorem errW_some (c : Int) : errW (some c) = .iface 31 (.int .i64 c) := rfl

-- the values' own types
/-! #### struct type 95 -/
structure S95 where
  f0 : ByteArray
  f1 : Bool
  f2 : Int
  f3 : Int
def z95 : S95 := ⟨(⟨#[]⟩ : ByteArray), false, (0 : Int), (0 : Int)⟩
def k95 : Kd S95 := Kd.iso (Kd.pair Kd.string (Kd.pair Kd.bool (Kd.pair (Kd.int .i64) (Kd.int .i64)))) (fun x : S95 => (x.f0, x.f1, x.f2, x.f3))
theorem k95_open {w : World} {x : S95} {cs : List Value} (h : k95.K w x cs) : cs = [.string x.f0, .bool x.f1, .int .i64 x.f2, .int .i64 x.f3] := by
  obtain ⟨_, _, rfl, rfl, ⟨_, _, rfl, rfl, ⟨_, _, rfl, rfl, rfl⟩⟩⟩ := h
  exact rfl
theorem k95_openM {w : World} {base : Nat} {ok : Nat → Prop} {x : S95} {cs : List Value} (h : k95.M w base ok x cs) : cs = [.string x.f0, .bool x.f1, .int .i64 x.f2, .int .i64 x.f3] := by
  obtain ⟨_, _, rfl, rfl, ⟨_, _, rfl, rfl, ⟨_, _, rfl, rfl, rfl⟩⟩⟩ := h
  exact rfl
theorem k95_mk (w : World) (x : S95)  : k95.K w x [.string x.f0, .bool x.f1, .int .i64 x.f2, .int .i64 x.f3] := ⟨[.string x.f0], [.bool x.f1, .int .i64 x.f2, .int .i64 x.f3], rfl, rfl, ⟨[.bool x.f1], [.int .i64 x.f2, .int .i64 x.f3], rfl, rfl, ⟨[.int .i64 x.f2], [.int .i64 x.f3], rfl, rfl, rfl⟩⟩⟩
theorem k95_mkM (w : World) (base : Nat) (ok : Nat → Prop) (x : S95)  : k95.M w base ok x [.string x.f0, .bool x.f1, .int .i64 x.f2, .int .i64 x.f3] := ⟨[.string x.f0], [.bool x.f1, .int .i64 x.f2, .int .i64 x.f3], rfl, rfl, ⟨[.bool x.f1], [.int .i64 x.f2, .int .i64 x.f3], rfl, rfl, ⟨[.int .i64 x.f2], [.int .i64 x.f3], rfl, rfl, rfl⟩⟩⟩
def rd_T95 (xs : List S95) (i : Int) : S95 := xs.getD i.toNat z95
theorem at_T95 {w : World} {A : Option Addr} {n : Nat} {xs : List S95} (h : Kd.C k95 w A n xs) (i : Int) (h0 : 0 ≤ i) (h1 : i < n) : ∃ ad , A = some ad ∧ w.cell? (ad.add (i.toNat * 4)) = some (.string (rd_T95 xs i).f0) ∧ w.cell? ⟨(ad.add (i.toNat * 4)).block, (ad.add (i.toNat * 4)).off + 1, none⟩ = some (.bool (rd_T95 xs i).f1) ∧ w.cell? ⟨(ad.add (i.toNat * 4)).block, (ad.add (i.toNat * 4)).off + 2, none⟩ = some (.int .i64 (rd_T95 xs i).f2) ∧ w.cell? ⟨(ad.add (i.toNat * 4)).block, (ad.add (i.toNat * 4)).off + 3, none⟩ = some (.int .i64 (rd_T95 xs i).f3) := by
  obtain ⟨ad, c, e, _, hK, hc0⟩ := Kd.C_get h z95 i h0 h1
  have hc : ∀ j u, c[j]? = some u → w.cell? (ad.add (i.toNat * 4 + j)) = some u := hc0
  obtain rfl := k95_open hK
  exact ⟨ad, e, hc 0 _ rfl, by rw [← add_field _ _ 1 (by omega)]; exact hc 1 _ rfl, by rw [← add_field _ _ 2 (by omega)]; exact hc 2 _ rfl, by rw [← add_field _ _ 3 (by omega)]; exact hc 3 _ rfl⟩

/-! #### struct type 49 -/
structure S49 where
  f0 : Int
  f1 : Int
def z49 : S49 := ⟨(0 : Int), (0 : Int)⟩
def k49 : Kd S49 := Kd.iso (Kd.pair (Kd.int .i64) (Kd.int .i64)) (fun x : S49 => (x.f0, x.f1))
theorem k49_open {w : World} {x : S49} {cs : List Value} (h : k49.K w x cs) : cs = [.int .i64 x.f0, .int .i64 x.f1] := by
  obtain ⟨_, _, rfl, rfl, rfl⟩ := h
  exact rfl
theorem k49_openM {w : World} {base : Nat} {ok : Nat → Prop} {x : S49} {cs : List Value} (h : k49.M w base ok x cs) : cs = [.int .i64 x.f0, .int .i64 x.f1] := by
  obtain ⟨_, _, rfl, rfl, rfl⟩ := h
  exact rfl
theorem k49_mk (w : World) (x : S49)  : k49.K w x [.int .i64 x.f0, .int .i64 x.f1] := ⟨[.int .i64 x.f0], [.int .i64 x.f1], rfl, rfl, rfl⟩
theorem k49_mkM (w : World) (base : Nat) (ok : Nat → Prop) (x : S49)  : k49.M w base ok x [.int .i64 x.f0, .int .i64 x.f1] := ⟨[.int .i64 x.f0], [.int .i64 x.f1], rfl, rfl, rfl⟩
def rd_T49 (xs : List S49) (i : Int) : S49 := xs.getD i.toNat z49
theorem at_T49 {w : World} {A : Option Addr} {n : Nat} {xs : List S49} (h : Kd.C k49 w A n xs) (i : Int) (h0 : 0 ≤ i) (h1 : i < n) : ∃ ad , A = some ad ∧ w.cell? (ad.add (i.toNat * 2)) = some (.int .i64 (rd_T49 xs i).f0) ∧ w.cell? ⟨(ad.add (i.toNat * 2)).block, (ad.add (i.toNat * 2)).off + 1, none⟩ = some (.int .i64 (rd_T49 xs i).f1) := by
  obtain ⟨ad, c, e, _, hK, hc0⟩ := Kd.C_get h z49 i h0 h1
  have hc : ∀ j u, c[j]? = some u → w.cell? (ad.add (i.toNat * 2 + j)) = some u := hc0
  obtain rfl := k49_open hK
  exact ⟨ad, e, hc 0 _ rfl, by rw [← add_field _ _ 1 (by omega)]; exact hc 1 _ rfl⟩

/-! #### struct type 97 -/
structure S97 where
  f0 : Int
  f1 : Int
  f2 : Int
def z97 : S97 := ⟨(0 : Int), (0 : Int), (0 : Int)⟩
def k97 : Kd S97 := Kd.iso (Kd.pair (Kd.int .u64) (Kd.pair (Kd.int .u64) (Kd.int .i64))) (fun x : S97 => (x.f0, x.f1, x.f2))
theorem k97_open {w : World} {x : S97} {cs : List Value} (h : k97.K w x cs) : cs = [.int .u64 x.f0, .int .u64 x.f1, .int .i64 x.f2] := by
  obtain ⟨_, _, rfl, rfl, ⟨_, _, rfl, rfl, rfl⟩⟩ := h
  exact rfl
theorem k97_openM {w : World} {base : Nat} {ok : Nat → Prop} {x : S97} {cs : List Value} (h : k97.M w base ok x cs) : cs = [.int .u64 x.f0, .int .u64 x.f1, .int .i64 x.f2] := by
  obtain ⟨_, _, rfl, rfl, ⟨_, _, rfl, rfl, rfl⟩⟩ := h
  exact rfl
theorem k97_mk (w : World) (x : S97)  : k97.K w x [.int .u64 x.f0, .int .u64 x.f1, .int .i64 x.f2] := ⟨[.int .u64 x.f0], [.int .u64 x.f1, .int .i64 x.f2], rfl, rfl, ⟨[.int .u64 x.f1], [.int .i64 x.f2], rfl, rfl, rfl⟩⟩
theorem k97_mkM (w : World) (base : Nat) (ok : Nat → Prop) (x : S97)  : k97.M w base ok x [.int .u64 x.f0, .int .u64 x.f1, .int .i64 x.f2] := ⟨[.int .u64 x.f0], [.int .u64 x.f1, .int .i64 x.f2], rfl, rfl, ⟨[.int .u64 x.f1], [.int .i64 x.f2], rfl, rfl, rfl⟩⟩
def rd_T97 (xs : List S97) (i : Int) : S97 := xs.getD i.toNat z97
theorem at_T97 {w : World} {A : Option Addr} {n : Nat} {xs : List S97} (h : Kd.C k97 w A n xs) (i : Int) (h0 : 0 ≤ i) (h1 : i < n) : ∃ ad , A = some ad ∧ w.cell? (ad.add (i.toNat * 3)) = some (.int .u64 (rd_T97 xs i).f0) ∧ w.cell? ⟨(ad.add (i.toNat * 3)).block, (ad.add (i.toNat * 3)).off + 1, none⟩ = some (.int .u64 (rd_T97 xs i).f1) ∧ w.cell? ⟨(ad.add (i.toNat * 3)).block, (ad.add (i.toNat * 3)).off + 2, none⟩ = some (.int .i64 (rd_T97 xs i).f2) := by
  obtain ⟨ad, c, e, _, hK, hc0⟩ := Kd.C_get h z97 i h0 h1
  have hc : ∀ j u, c[j]? = some u → w.cell? (ad.add (i.toNat * 3 + j)) = some u := hc0
  obtain rfl := k97_open hK
  exact ⟨ad, e, hc 0 _ rfl, by rw [← add_field _ _ 1 (by omega)]; exact hc 1 _ rfl, by rw [← add_field _ _ 2 (by omega)]; exact hc 2 _ rfl⟩

def rd_L7 (xs : List (List S49)) (i : Int) : (List S49) := xs.getD i.toNat ([] : List S49)
theorem at_L7 {w : World} {A : Option Addr} {n : Nat} {xs : List (List S49)} (h : Kd.C (Kd.slice 49 k49) w A n xs) (i : Int) (h0 : 0 ≤ i) (h1 : i < n) : ∃ ad A0 c0, A = some ad ∧ w.cell? (ad.add i.toNat) = some (.slice A0 (rd_L7 xs i).length c0) ∧ (rd_L7 xs i).length ≤ c0 ∧ k49.C w A0 (rd_L7 xs i).length (rd_L7 xs i) := by
  obtain ⟨ad, c, e, _, hK, hc0⟩ := Kd.C_get h ([] : List S49) i h0 h1
  have hc : ∀ j u, c[j]? = some u → w.cell? (ad.add (i.toNat * 1 + j)) = some u := hc0
  obtain ⟨A0, c0, rfl, l0, g0⟩ := hK
  exact ⟨ad, A0, c0, e, by have hq := hc 0 _ rfl; rwa [Nat.mul_one, Nat.add_zero] at hq, l0, g0⟩

def rd_L8 (xs : List (List S95)) (i : Int) : (List S95) := xs.getD i.toNat ([] : List S95)
theorem at_L8 {w : World} {A : Option Addr} {n : Nat} {xs : List (List S95)} (h : Kd.C (Kd.slice 95 k95) w A n xs) (i : Int) (h0 : 0 ≤ i) (h1 : i < n) : ∃ ad A0 c0, A = some ad ∧ w.cell? (ad.add i.toNat) = some (.slice A0 (rd_L8 xs i).length c0) ∧ (rd_L8 xs i).length ≤ c0 ∧ k95.C w A0 (rd_L8 xs i).length (rd_L8 xs i) := by
  obtain ⟨ad, c, e, _, hK, hc0⟩ := Kd.C_get h ([] : List S95) i h0 h1
  have hc : ∀ j u, c[j]? = some u → w.cell? (ad.add (i.toNat * 1 + j)) = some u := hc0
  obtain ⟨A0, c0, rfl, l0, g0⟩ := hK
  exact ⟨ad, A0, c0, e, by have hq := hc 0 _ rfl; rwa [Nat.mul_one, Nat.add_zero] at hq, l0, g0⟩

def rd_L10 (xs : List (List S97)) (i : Int) : (List S97) := xs.getD i.toNat ([] : List S97)
theorem at_L10 {w : World} {A : Option Addr} {n : Nat} {xs : List (List S97)} (h : Kd.C (Kd.slice 97 k97) w A n xs) (i : Int) (h0 : 0 ≤ i) (h1 : i < n) : ∃ ad A0 c0, A = some ad ∧ w.cell? (ad.add i.toNat) = some (.slice A0 (rd_L10 xs i).length c0) ∧ (rd_L10 xs i).length ≤ c0 ∧ k97.C w A0 (rd_L10 xs i).length (rd_L10 xs i) := by
  obtain ⟨ad, c, e, _, hK, hc0⟩ := Kd.C_get h ([] : List S97) i h0 h1
  have hc : ∀ j u, c[j]? = some u → w.cell? (ad.add (i.toNat * 1 + j)) = some u := hc0
  obtain ⟨A0, c0, rfl, l0, g0⟩ := hK
  exact ⟨ad, A0, c0, e, by have hq := hc 0 _ rfl; rwa [Nat.mul_one, Nat.add_zero] at hq, l0, g0⟩

/-! #### struct type 27 -/
structure S27 where
  f0 : (List S95)
  f1 : Int
  f2 : Int
  f3 : Bool
  f4 : Int
  f5 : Int
  f6 : Int
  f7 : Int
  f8 : Int
  f9 : Int
  f10 : Int
  f11 : Int
  f12 : Int
  f13 : Int
  f14 : Int
  f15 : Int
  f16 : Bool
  f17 : Int
  f18 : (List S49)
  f19 : (List S97)
def z27 : S27 := ⟨([] : List S95), (0 : Int), (0 : Int), false, (0 : Int), (0 : Int), (0 : Int), (0 : Int), (0 : Int), (0 : Int), (0 : Int), (0 : Int), (0 : Int), (0 : Int), (0 : Int), (0 : Int), false, (0 : Int), ([] : List S49), ([] : List S97)⟩
def k27 : Kd S27 := Kd.iso (Kd.pair (Kd.slice 95 k95) (Kd.pair (Kd.int .u8) (Kd.pair (Kd.int .i64) (Kd.pair Kd.bool (Kd.pair (Kd.int .i64) (Kd.pair (Kd.int .i64) (Kd.pair (Kd.int .i64) (Kd.pair (Kd.int .i64) (Kd.pair (Kd.int .i64) (Kd.pair (Kd.int .i64) (Kd.pair (Kd.int .u64) (Kd.pair (Kd.int .u64) (Kd.pair (Kd.int .u64) (Kd.pair (Kd.int .u64) (Kd.pair (Kd.int .u64) (Kd.pair (Kd.int .u64) (Kd.pair Kd.bool (Kd.pair (Kd.int .i64) (Kd.pair (Kd.slice 49 k49) (Kd.slice 97 k97)))))))))))))))))))) (fun x : S27 => (x.f0, x.f1, x.f2, x.f3, x.f4, x.f5, x.f6, x.f7, x.f8, x.f9, x.f10, x.f11, x.f12, x.f13, x.f14, x.f15, x.f16, x.f17, x.f18, x.f19))
theorem k27_open {w : World} {x : S27} {cs : List Value} (h : k27.K w x cs) : ∃ A0 c0 A18 c18 A19 c19, cs = [.slice A0 x.f0.length c0, .int .u8 x.f1, .int .i64 x.f2, .bool x.f3, .int .i64 x.f4, .int .i64 x.f5, .int .i64 x.f6, .int .i64 x.f7, .int .i64 x.f8, .int .i64 x.f9, .int .u64 x.f10, .int .u64 x.f11, .int .u64 x.f12, .int .u64 x.f13, .int .u64 x.f14, .int .u64 x.f15, .bool x.f16, .int .i64 x.f17, .slice A18 x.f18.length c18, .slice A19 x.f19.length c19] ∧ x.f0.length ≤ c0 ∧ k95.C w A0 x.f0.length x.f0 ∧ x.f18.length ≤ c18 ∧ k49.C w A18 x.f18.length x.f18 ∧ x.f19.length ≤ c19 ∧ k97.C w A19 x.f19.length x.f19 := by
  obtain ⟨_, _, rfl, ⟨A0, c0, rfl, l0, g0⟩, ⟨_, _, rfl, rfl, ⟨_, _, rfl, rfl, ⟨_, _, rfl, rfl, ⟨_, _, rfl, rfl, ⟨_, _, rfl, rfl, ⟨_, _, rfl, rfl, ⟨_, _, rfl, rfl, ⟨_, _, rfl, rfl, ⟨_, _, rfl, rfl, ⟨_, _, rfl, rfl, ⟨_, _, rfl, rfl, ⟨_, _, rfl, rfl, ⟨_, _, rfl, rfl, ⟨_, _, rfl, rfl, ⟨_, _, rfl, rfl, ⟨_, _, rfl, rfl, ⟨_, _, rfl, rfl, ⟨_, _, rfl, ⟨A18, c18, rfl, l18, g18⟩, ⟨A19, c19, rfl, l19, g19⟩⟩⟩⟩⟩⟩⟩⟩⟩⟩⟩⟩⟩⟩⟩⟩⟩⟩⟩⟩ := h
  exact ⟨A0, c0, A18, c18, A19, c19, rfl, l0, g0, l18, g18, l19, g19⟩
theorem k27_openM {w : World} {base : Nat} {ok : Nat → Prop} {x : S27} {cs : List Value} (h : k27.M w base ok x cs) : ∃ v0 v18 v19, cs = [v0, .int .u8 x.f1, .int .i64 x.f2, .bool x.f3, .int .i64 x.f4, .int .i64 x.f5, .int .i64 x.f6, .int .i64 x.f7, .int .i64 x.f8, .int .i64 x.f9, .int .u64 x.f10, .int .u64 x.f11, .int .u64 x.f12, .int .u64 x.f13, .int .u64 x.f14, .int .u64 x.f15, .bool x.f16, .int .i64 x.f17, v18, v19] ∧ k95.R 95 w base ok v0 x.f0 ∧ k49.R 49 w base ok v18 x.f18 ∧ k97.R 97 w base ok v19 x.f19 := by
  obtain ⟨_, _, rfl, ⟨v0, rfl, g0⟩, ⟨_, _, rfl, rfl, ⟨_, _, rfl, rfl, ⟨_, _, rfl, rfl, ⟨_, _, rfl, rfl, ⟨_, _, rfl, rfl, ⟨_, _, rfl, rfl, ⟨_, _, rfl, rfl, ⟨_, _, rfl, rfl, ⟨_, _, rfl, rfl, ⟨_, _, rfl, rfl, ⟨_, _, rfl, rfl, ⟨_, _, rfl, rfl, ⟨_, _, rfl, rfl, ⟨_, _, rfl, rfl, ⟨_, _, rfl, rfl, ⟨_, _, rfl, rfl, ⟨_, _, rfl, rfl, ⟨_, _, rfl, ⟨v18, rfl, g18⟩, ⟨v19, rfl, g19⟩⟩⟩⟩⟩⟩⟩⟩⟩⟩⟩⟩⟩⟩⟩⟩⟩⟩⟩⟩ := h
  exact ⟨v0, v18, v19, rfl, g0, g18, g19⟩
theorem k27_mk (w : World) (x : S27) {A0 : Option Addr} {c0 : Nat} (l0 : x.f0.length ≤ c0) (g0 : k95.C w A0 x.f0.length x.f0) {A18 : Option Addr} {c18 : Nat} (l18 : x.f18.length ≤ c18) (g18 : k49.C w A18 x.f18.length x.f18) {A19 : Option Addr} {c19 : Nat} (l19 : x.f19.length ≤ c19) (g19 : k97.C w A19 x.f19.length x.f19) : k27.K w x [.slice A0 x.f0.length c0, .int .u8 x.f1, .int .i64 x.f2, .bool x.f3, .int .i64 x.f4, .int .i64 x.f5, .int .i64 x.f6, .int .i64 x.f7, .int .i64 x.f8, .int .i64 x.f9, .int .u64 x.f10, .int .u64 x.f11, .int .u64 x.f12, .int .u64 x.f13, .int .u64 x.f14, .int .u64 x.f15, .bool x.f16, .int .i64 x.f17, .slice A18 x.f18.length c18, .slice A19 x.f19.length c19] := ⟨[.slice A0 x.f0.length c0], [.int .u8 x.f1, .int .i64 x.f2, .bool x.f3, .int .i64 x.f4, .int .i64 x.f5, .int .i64 x.f6, .int .i64 x.f7, .int .i64 x.f8, .int .i64 x.f9, .int .u64 x.f10, .int .u64 x.f11, .int .u64 x.f12, .int .u64 x.f13, .int .u64 x.f14, .int .u64 x.f15, .bool x.f16, .int .i64 x.f17, .slice A18 x.f18.length c18, .slice A19 x.f19.length c19], rfl, ⟨A0, c0, rfl, l0, g0⟩, ⟨[.int .u8 x.f1], [.int .i64 x.f2, .bool x.f3, .int .i64 x.f4, .int .i64 x.f5, .int .i64 x.f6, .int .i64 x.f7, .int .i64 x.f8, .int .i64 x.f9, .int .u64 x.f10, .int .u64 x.f11, .int .u64 x.f12, .int .u64 x.f13, .int .u64 x.f14, .int .u64 x.f15, .bool x.f16, .int .i64 x.f17, .slice A18 x.f18.length c18, .slice A19 x.f19.length c19], rfl, rfl, ⟨[.int .i64 x.f2], [.bool x.f3, .int .i64 x.f4, .int .i64 x.f5, .int .i64 x.f6, .int .i64 x.f7, .int .i64 x.f8, .int .i64 x.f9, .int .u64 x.f10, .int .u64 x.f11, .int .u64 x.f12, .int .u64 x.f13, .int .u64 x.f14, .int .u64 x.f15, .bool x.f16, .int .i64 x.f17, .slice A18 x.f18.length c18, .slice A19 x.f19.length c19], rfl, rfl, ⟨[.bool x.f3], [.int .i64 x.f4, .int .i64 x.f5, .int .i64 x.f6, .int .i64 x.f7, .int .i64 x.f8, .int .i64 x.f9, .int .u64 x.f10, .int .u64 x.f11, .int .u64 x.f12, .int .u64 x.f13, .int .u64 x.f14, .int .u64 x.f15, .bool x.f16, .int .i64 x.f17, .slice A18 x.f18.length c18, .slice A19 x.f19.length c19], rfl, rfl, ⟨[.int .i64 x.f4], [.int .i64 x.f5, .int .i64 x.f6, .int .i64 x.f7, .int .i64 x.f8, .int .i64 x.f9, .int .u64 x.f10, .int .u64 x.f11, .int .u64 x.f12, .int .u64 x.f13, .int .u64 x.f14, .int .u64 x.f15, .bool x.f16, .int .i64 x.f17, .slice A18 x.f18.length c18, .slice A19 x.f19.length c19], rfl, rfl, ⟨[.int .i64 x.f5], [.int .i64 x.f6, .int .i64 x.f7, .int .i64 x.f8, .int .i64 x.f9, .int .u64 x.f10, .int .u64 x.f11, .int .u64 x.f12, .int .u64 x.f13, .int .u64 x.f14, .int .u64 x.f15, .bool x.f16, .int .i64 x.f17, .slice A18 x.f18.length c18, .slice A19 x.f19.length c19], rfl, rfl, ⟨[.int .i64 x.f6], [.int .i64 x.f7, .int .i64 x.f8, .int .i64 x.f9, .int .u64 x.f10, .int .u64 x.f11, .int .u64 x.f12, .int .u64 x.f13, .int .u64 x.f14, .int .u64 x.f15, .bool x.f16, .int .i64 x.f17, .slice A18 x.f18.length c18, .slice A19 x.f19.length c19], rfl, rfl, ⟨[.int .i64 x.f7], [.int .i64 x.f8, .int .i64 x.f9, .int .u64 x.f10, .int .u64 x.f11, .int .u64 x.f12, .int .u64 x.f13, .int .u64 x.f14, .int .u64 x.f15, .bool x.f16, .int .i64 x.f17, .slice A18 x.f18.length c18, .slice A19 x.f19.length c19], rfl, rfl, ⟨[.int .i64 x.f8], [.int .i64 x.f9, .int .u64 x.f10, .int .u64 x.f11, .int .u64 x.f12, .int .u64 x.f13, .int .u64 x.f14, .int .u64 x.f15, .bool x.f16, .int .i64 x.f17, .slice A18 x.f18.length c18, .slice A19 x.f19.length c19], rfl, rfl, ⟨[.int .i64 x.f9], [.int .u64 x.f10, .int .u64 x.f11, .int .u64 x.f12, .int .u64 x.f13, .int .u64 x.f14, .int .u64 x.f15, .bool x.f16, .int .i64 x.f17, .slice A18 x.f18.length c18, .slice A19 x.f19.length c19], rfl, rfl, ⟨[.int .u64 x.f10], [.int .u64 x.f11, .int .u64 x.f12, .int .u64 x.f13, .int .u64 x.f14, .int .u64 x.f15, .bool x.f16, .int .i64 x.f17, .slice A18 x.f18.length c18, .slice A19 x.f19.length c19], rfl, rfl, ⟨[.int .u64 x.f11], [.int .u64 x.f12, .int .u64 x.f13, .int .u64 x.f14, .int .u64 x.f15, .bool x.f16, .int .i64 x.f17, .slice A18 x.f18.length c18, .slice A19 x.f19.length c19], rfl, rfl, ⟨[.int .u64 x.f12], [.int .u64 x.f13, .int .u64 x.f14, .int .u64 x.f15, .bool x.f16, .int .i64 x.f17, .slice A18 x.f18.length c18, .slice A19 x.f19.length c19], rfl, rfl, ⟨[.int .u64 x.f13], [.int .u64 x.f14, .int .u64 x.f15, .bool x.f16, .int .i64 x.f17, .slice A18 x.f18.length c18, .slice A19 x.f19.length c19], rfl, rfl, ⟨[.int .u64 x.f14], [.int .u64 x.f15, .bool x.f16, .int .i64 x.f17, .slice A18 x.f18.length c18, .slice A19 x.f19.length c19], rfl, rfl, ⟨[.int .u64 x.f15], [.bool x.f16, .int .i64 x.f17, .slice A18 x.f18.length c18, .slice A19 x.f19.length c19], rfl, rfl, ⟨[.bool x.f16], [.int .i64 x.f17, .slice A18 x.f18.length c18, .slice A19 x.f19.length c19], rfl, rfl, ⟨[.int .i64 x.f17], [.slice A18 x.f18.length c18, .slice A19 x.f19.length c19], rfl, rfl, ⟨[.slice A18 x.f18.length c18], [.slice A19 x.f19.length c19], rfl, ⟨A18, c18, rfl, l18, g18⟩, ⟨A19, c19, rfl, l19, g19⟩⟩⟩⟩⟩⟩⟩⟩⟩⟩⟩⟩⟩⟩⟩⟩⟩⟩⟩⟩
theorem k27_mkM (w : World) (base : Nat) (ok : Nat → Prop) (x : S27) {v0 : Value} (g0 : k95.R 95 w base ok v0 x.f0) {v18 : Value} (g18 : k49.R 49 w base ok v18 x.f18) {v19 : Value} (g19 : k97.R 97 w base ok v19 x.f19) : k27.M w base ok x [v0, .int .u8 x.f1, .int .i64 x.f2, .bool x.f3, .int .i64 x.f4, .int .i64 x.f5, .int .i64 x.f6, .int .i64 x.f7, .int .i64 x.f8, .int .i64 x.f9, .int .u64 x.f10, .int .u64 x.f11, .int .u64 x.f12, .int .u64 x.f13, .int .u64 x.f14, .int .u64 x.f15, .bool x.f16, .int .i64 x.f17, v18, v19] := ⟨[v0], [.int .u8 x.f1, .int .i64 x.f2, .bool x.f3, .int .i64 x.f4, .int .i64 x.f5, .int .i64 x.f6, .int .i64 x.f7, .int .i64 x.f8, .int .i64 x.f9, .int .u64 x.f10, .int .u64 x.f11, .int .u64 x.f12, .int .u64 x.f13, .int .u64 x.f14, .int .u64 x.f15, .bool x.f16, .int .i64 x.f17, v18, v19], rfl, ⟨v0, rfl, g0⟩, ⟨[.int .u8 x.f1], [.int .i64 x.f2, .bool x.f3, .int .i64 x.f4, .int .i64 x.f5, .int .i64 x.f6, .int .i64 x.f7, .int .i64 x.f8, .int .i64 x.f9, .int .u64 x.f10, .int .u64 x.f11, .int .u64 x.f12, .int .u64 x.f13, .int .u64 x.f14, .int .u64 x.f15, .bool x.f16, .int .i64 x.f17, v18, v19], rfl, rfl, ⟨[.int .i64 x.f2], [.bool x.f3, .int .i64 x.f4, .int .i64 x.f5, .int .i64 x.f6, .int .i64 x.f7, .int .i64 x.f8, .int .i64 x.f9, .int .u64 x.f10, .int .u64 x.f11, .int .u64 x.f12, .int .u64 x.f13, .int .u64 x.f14, .int .u64 x.f15, .bool x.f16, .int .i64 x.f17, v18, v19], rfl, rfl, ⟨[.bool x.f3], [.int .i64 x.f4, .int .i64 x.f5, .int .i64 x.f6, .int .i64 x.f7, .int .i64 x.f8, .int .i64 x.f9, .int .u64 x.f10, .int .u64 x.f11, .int .u64 x.f12, .int .u64 x.f13, .int .u64 x.f14, .int .u64 x.f15, .bool x.f16, .int .i64 x.f17, v18, v19], rfl, rfl, ⟨[.int .i64 x.f4], [.int .i64 x.f5, .int .i64 x.f6, .int .i64 x.f7, .int .i64 x.f8, .int .i64 x.f9, .int .u64 x.f10, .int .u64 x.f11, .int .u64 x.f12, .int .u64 x.f13, .int .u64 x.f14, .int .u64 x.f15, .bool x.f16, .int .i64 x.f17, v18, v19], rfl, rfl, ⟨[.int .i64 x.f5], [.int .i64 x.f6, .int .i64 x.f7, .int .i64 x.f8, .int .i64 x.f9, .int .u64 x.f10, .int .u64 x.f11, .int .u64 x.f12, .int .u64 x.f13, .int .u64 x.f14, .int .u64 x.f15, .bool x.f16, .int .i64 x.f17, v18, v19], rfl, rfl, ⟨[.int .i64 x.f6], [.int .i64 x.f7, .int .i64 x.f8, .int .i64 x.f9, .int .u64 x.f10, .int .u64 x.f11, .int .u64 x.f12, .int .u64 x.f13, .int .u64 x.f14, .int .u64 x.f15, .bool x.f16, .int .i64 x.f17, v18, v19], rfl, rfl, ⟨[.int .i64 x.f7], [.int .i64 x.f8, .int .i64 x.f9, .int .u64 x.f10, .int .u64 x.f11, .int .u64 x.f12, .int .u64 x.f13, .int .u64 x.f14, .int .u64 x.f15, .bool x.f16, .int .i64 x.f17, v18, v19], rfl, rfl, ⟨[.int .i64 x.f8], [.int .i64 x.f9, .int .u64 x.f10, .int .u64 x.f11, .int .u64 x.f12, .int .u64 x.f13, .int .u64 x.f14, .int .u64 x.f15, .bool x.f16, .int .i64 x.f17, v18, v19], rfl, rfl, ⟨[.int .i64 x.f9], [.int .u64 x.f10, .int .u64 x.f11, .int .u64 x.f12, .int .u64 x.f13, .int .u64 x.f14, .int .u64 x.f15, .bool x.f16, .int .i64 x.f17, v18, v19], rfl, rfl, ⟨[.int .u64 x.f10], [.int .u64 x.f11, .int .u64 x.f12, .int .u64 x.f13, .int .u64 x.f14, .int .u64 x.f15, .bool x.f16, .int .i64 x.f17, v18, v19], rfl, rfl, ⟨[.int .u64 x.f11], [.int .u64 x.f12, .int .u64 x.f13, .int .u64 x.f14, .int .u64 x.f15, .bool x.f16, .int .i64 x.f17, v18, v19], rfl, rfl, ⟨[.int .u64 x.f12], [.int .u64 x.f13, .int .u64 x.f14, .int .u64 x.f15, .bool x.f16, .int .i64 x.f17, v18, v19], rfl, rfl, ⟨[.int .u64 x.f13], [.int .u64 x.f14, .int .u64 x.f15, .bool x.f16, .int .i64 x.f17, v18, v19], rfl, rfl, ⟨[.int .u64 x.f14], [.int .u64 x.f15, .bool x.f16, .int .i64 x.f17, v18, v19], rfl, rfl, ⟨[.int .u64 x.f15], [.bool x.f16, .int .i64 x.f17, v18, v19], rfl, rfl, ⟨[.bool x.f16], [.int .i64 x.f17, v18, v19], rfl, rfl, ⟨[.int .i64 x.f17], [v18, v19], rfl, rfl, ⟨[v18], [v19], rfl, ⟨v18, rfl, g18⟩, ⟨v19, rfl, g19⟩⟩⟩⟩⟩⟩⟩⟩⟩⟩⟩⟩⟩⟩⟩⟩⟩⟩⟩⟩
def rd_T27 (xs : List S27) (i : Int) : S27 := xs.getD i.toNat z27
theorem at_T27 {w : World} {A : Option Addr} {n : Nat} {xs : List S27} (h : Kd.C k27 w A n xs) (i : Int) (h0 : 0 ≤ i) (h1 : i < n) : ∃ ad A0 c0 A18 c18 A19 c19, A = some ad ∧ w.cell? (ad.add (i.toNat * 20)) = some (.slice A0 (rd_T27 xs i).f0.length c0) ∧ w.cell? ⟨(ad.add (i.toNat * 20)).block, (ad.add (i.toNat * 20)).off + 1, none⟩ = some (.int .u8 (rd_T27 xs i).f1) ∧ w.cell? ⟨(ad.add (i.toNat * 20)).block, (ad.add (i.toNat * 20)).off + 2, none⟩ = some (.int .i64 (rd_T27 xs i).f2) ∧ w.cell? ⟨(ad.add (i.toNat * 20)).block, (ad.add (i.toNat * 20)).off + 3, none⟩ = some (.bool (rd_T27 xs i).f3) ∧ w.cell? ⟨(ad.add (i.toNat * 20)).block, (ad.add (i.toNat * 20)).off + 4, none⟩ = some (.int .i64 (rd_T27 xs i).f4) ∧ w.cell? ⟨(ad.add (i.toNat * 20)).block, (ad.add (i.toNat * 20)).off + 5, none⟩ = some (.int .i64 (rd_T27 xs i).f5) ∧ w.cell? ⟨(ad.add (i.toNat * 20)).block, (ad.add (i.toNat * 20)).off + 6, none⟩ = some (.int .i64 (rd_T27 xs i).f6) ∧ w.cell? ⟨(ad.add (i.toNat * 20)).block, (ad.add (i.toNat * 20)).off + 7, none⟩ = some (.int .i64 (rd_T27 xs i).f7) ∧ w.cell? ⟨(ad.add (i.toNat * 20)).block, (ad.add (i.toNat * 20)).off + 8, none⟩ = some (.int .i64 (rd_T27 xs i).f8) ∧ w.cell? ⟨(ad.add (i.toNat * 20)).block, (ad.add (i.toNat * 20)).off + 9, none⟩ = some (.int .i64 (rd_T27 xs i).f9) ∧ w.cell? ⟨(ad.add (i.toNat * 20)).block, (ad.add (i.toNat * 20)).off + 10, none⟩ = some (.int .u64 (rd_T27 xs i).f10) ∧ w.cell? ⟨(ad.add (i.toNat * 20)).block, (ad.add (i.toNat * 20)).off + 11, none⟩ = some (.int .u64 (rd_T27 xs i).f11) ∧ w.cell? ⟨(ad.add (i.toNat * 20)).block, (ad.add (i.toNat * 20)).off + 12, none⟩ = some (.int .u64 (rd_T27 xs i).f12) ∧ w.cell? ⟨(ad.add (i.toNat * 20)).block, (ad.add (i.toNat * 20)).off + 13, none⟩ = some (.int .u64 (rd_T27 xs i).f13) ∧ w.cell? ⟨(ad.add (i.toNat * 20)).block, (ad.add (i.toNat * 20)).off + 14, none⟩ = some (.int .u64 (rd_T27 xs i).f14) ∧ w.cell? ⟨(ad.add (i.toNat * 20)).block, (ad.add (i.toNat * 20)).off + 15, none⟩ = some (.int .u64 (rd_T27 xs i).f15) ∧ w.cell? ⟨(ad.add (i.toNat * 20)).block, (ad.add (i.toNat * 20)).off + 16, none⟩ = some (.bool (rd_T27 xs i).f16) ∧ w.cell? ⟨(ad.add (i.toNat * 20)).block, (ad.add (i.toNat * 20)).off + 17, none⟩ = some (.int .i64 (rd_T27 xs i).f17) ∧ w.cell? ⟨(ad.add (i.toNat * 20)).block, (ad.add (i.toNat * 20)).off + 18, none⟩ = some (.slice A18 (rd_T27 xs i).f18.length c18) ∧ w.cell? ⟨(ad.add (i.toNat * 20)).block, (ad.add (i.toNat * 20)).off + 19, none⟩ = some (.slice A19 (rd_T27 xs i).f19.length c19) ∧ (rd_T27 xs i).f0.length ≤ c0 ∧ k95.C w A0 (rd_T27 xs i).f0.length (rd_T27 xs i).f0 ∧ (rd_T27 xs i).f18.length ≤ c18 ∧ k49.C w A18 (rd_T27 xs i).f18.length (rd_T27 xs i).f18 ∧ (rd_T27 xs i).f19.length ≤ c19 ∧ k97.C w A19 (rd_T27 xs i).f19.length (rd_T27 xs i).f19 := by
  obtain ⟨ad, c, e, _, hK, hc0⟩ := Kd.C_get h z27 i h0 h1
  have hc : ∀ j u, c[j]? = some u → w.cell? (ad.add (i.toNat * 20 + j)) = some u := hc0
  obtain ⟨A0, c0, A18, c18, A19, c19, rfl, l0, g0, l18, g18, l19, g19⟩ := k27_open hK
  exact ⟨ad, A0, c0, A18, c18, A19, c19, e, hc 0 _ rfl, by rw [← add_field _ _ 1 (by omega)]; exact hc 1 _ rfl, by rw [← add_field _ _ 2 (by omega)]; exact hc 2 _ rfl, by rw [← add_field _ _ 3 (by omega)]; exact hc 3 _ rfl, by rw [← add_field _ _ 4 (by omega)]; exact hc 4 _ rfl, by rw [← add_field _ _ 5 (by omega)]; exact hc 5 _ rfl, by rw [← add_field _ _ 6 (by omega)]; exact hc 6 _ rfl, by rw [← add_field _ _ 7 (by omega)]; exact hc 7 _ rfl, by rw [← add_field _ _ 8 (by omega)]; exact hc 8 _ rfl, by rw [← add_field _ _ 9 (by omega)]; exact hc 9 _ rfl, by rw [← add_field _ _ 10 (by omega)]; exact hc 10 _ rfl, by rw [← add_field _ _ 11 (by omega)]; exact hc 11 _ rfl, by rw [← add_field _ _ 12 (by omega)]; exact hc 12 _ rfl, by rw [← add_field _ _ 13 (by omega)]; exact hc 13 _ rfl, by rw [← add_field _ _ 14 (by omega)]; exact hc 14 _ rfl, by rw [← add_field _ _ 15 (by omega)]; exact hc 15 _ rfl, by rw [← add_field _ _ 16 (by omega)]; exact hc 16 _ rfl, by rw [← add_field _ _ 17 (by omega)]; exact hc 17 _ rfl, by rw [← add_field _ _ 18 (by omega)]; exact hc 18 _ rfl, by rw [← add_field _ _ 19 (by omega)]; exact hc 19 _ rfl, l0, g0, l18, g18, l19, g19⟩

def rd_L12 (xs : List (List Int)) (i : Int) : (List Int) := xs.getD i.toNat ([] : List Int)
theorem at_L12 {w : World} {A : Option Addr} {n : Nat} {xs : List (List Int)} (h : Kd.C (Kd.slice 2 (Kd.int .i64)) w A n xs) (i : Int) (h0 : 0 ≤ i) (h1 : i < n) : ∃ ad A0 c0, A = some ad ∧ w.cell? (ad.add i.toNat) = some (.slice A0 (rd_L12 xs i).length c0) ∧ (rd_L12 xs i).length ≤ c0 ∧ (Kd.int .i64).C w A0 (rd_L12 xs i).length (rd_L12 xs i) := by
  obtain ⟨ad, c, e, _, hK, hc0⟩ := Kd.C_get h ([] : List Int) i h0 h1
  have hc : ∀ j u, c[j]? = some u → w.cell? (ad.add (i.toNat * 1 + j)) = some u := hc0
  obtain ⟨A0, c0, rfl, l0, g0⟩ := hK
  exact ⟨ad, A0, c0, e, by have hq := hc 0 _ rfl; rwa [Nat.mul_one, Nat.add_zero] at hq, l0, g0⟩

/-- The bounds of what such a struct holds. -/
def ok95 (x : S95) : Prop := x.f0.size ≤ maxLen ∧ (True ∧ ((Lit.int .i64 x.f2).wf = true ∧ ((Lit.int .i64 x.f3).wf = true)))
/-- The bounds of what such a struct holds. -/
def ok49 (x : S49) : Prop := (Lit.int .i64 x.f0).wf = true ∧ ((Lit.int .i64 x.f1).wf = true)
/-- The bounds of what such a struct holds. -/
def ok97 (x : S97) : Prop := (Lit.int .u64 x.f0).wf = true ∧ ((Lit.int .u64 x.f1).wf = true ∧ ((Lit.int .i64 x.f2).wf = true))
/-- The bounds of what such a struct holds. -/
def ok27 (x : S27) : Prop := (x.f0.length ≤ maxLen ∧ ∀ y ∈ x.f0, ok95 y) ∧ ((Lit.int .u8 x.f1).wf = true ∧ ((Lit.int .i64 x.f2).wf = true ∧ (True ∧ ((Lit.int .i64 x.f4).wf = true ∧ ((Lit.int .i64 x.f5).wf = true ∧ ((Lit.int .i64 x.f6).wf = true ∧ ((Lit.int .i64 x.f7).wf = true ∧ ((Lit.int .i64 x.f8).wf = true ∧ ((Lit.int .i64 x.f9).wf = true ∧ ((Lit.int .u64 x.f10).wf = true ∧ ((Lit.int .u64 x.f11).wf = true ∧ ((Lit.int .u64 x.f12).wf = true ∧ ((Lit.int .u64 x.f13).wf = true ∧ ((Lit.int .u64 x.f14).wf = true ∧ ((Lit.int .u64 x.f15).wf = true ∧ (True ∧ ((Lit.int .i64 x.f17).wf = true ∧ ((x.f18.length ≤ maxLen ∧ ∀ y ∈ x.f18, ok49 y) ∧ ((x.f19.length ≤ maxLen ∧ ∀ y ∈ x.f19, ok97 y))))))))))))))))))))
end Go.Proofs.Ytiohijahacclnaa.GB
