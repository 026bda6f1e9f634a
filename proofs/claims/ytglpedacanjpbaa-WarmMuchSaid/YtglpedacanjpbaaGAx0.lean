/- Contracts: each call of a Go function answers what the Lean function of its name says; a law of the set follows. No condition but each theorem's own. Written by a program of this session's out of the translation, with the functions proved by hand let in. -/
import Derived.Test.YtglpedacanjpbaaProg
import Derived.Below
import Derived.Deep.Draws
import Derived.Deep.AppendLies
import Derived.Maps.AppendAt
import Derived.OwnWalk
import Derived.Laws.BytesArg
import Derived.Laws.MakeOwn
import Derived.Laws.OwnMore
import Derived.Deep.OwnRows
import Derived.Tactics
import Derived.Lib.ConvBytes
import Derived.Laws.Slices
import Derived.WalkKit
import Derived.KernelRfl
import Derived.RowKit3
import Derived.Deep.LoopGhost
import Derived.Deep.QuietTactic
import Derived.BigQuiet
import Derived.WideLaws
import Derived.Deep.DeepCutAuto
import Derived.Deep.CutBlock
import Derived.Deep.RegionHeld3
import Derived.Laws.Rows
import Derived.Lib.AppendStr
import Derived.ArgAppend
import Derived.Laws.IdiomCopy
import Derived.OrdersHeld
import Derived.Laws.BitsLemmas
import Derived.RowKit
import Derived.Lib.SliceRun
import Derived.LaidEql
import Derived.Stop.Asserts
import Derived.RowKitTokens
import Derived.Laws.BitsAllLaws
import Derived.Lib.SlBytesConst
import Derived.Laws.CopyOwn
import Derived.Test.YtglpedacanjpbaaWWords
import Derived.Test.YtglpedacanjpbaaWLast
import Derived.Test.YtglpedacanjpbaaWTab
import Derived.Test.YtglpedacanjpbaaWFour
import Derived.Test.YtglpedacanjpbaaWQPut
import Derived.Test.YtglpedacanjpbaaWApart
import Derived.Test.YtglpedacanjpbaaWArr
import Derived.Test.YtglpedacanjpbaaWZeros
import Derived.Test.YtglpedacanjpbaaWFoot
import Derived.Test.YtglpedacanjpbaaWKept
import Derived.Test.YtglpedacanjpbaaWShare
import Derived.Test.YtglpedacanjpbaaWN
import Derived.Test.YtglpedacanjpbaaWFootNe
import Derived.Test.YtglpedacanjpbaaWAt
import Derived.Test.YtglpedacanjpbaaWEqStruct
import Derived.Test.YtglpedacanjpbaaWRepsOne
import Derived.Test.YtglpedacanjpbaaWInv
import Derived.Test.YtglpedacanjpbaaWInvWords
import Derived.Test.YtglpedacanjpbaaWGuard
import Derived.Test.YtglpedacanjpbaaWNEv
import Derived.Test.YtglpedacanjpbaaWMore
namespace Go.Proofs.Ytglpedacanjpbaa.GA
open Go.RowKit Go.Proofs.YtglpedacanjpbaaW.PrintWords Go.Proofs.YtglpedacanjpbaaW.PrintLast Go.Proofs.YtglpedacanjpbaaW.PrintMore
attribute [local go_sem] max2_int min2_int max_two min_two max_three min_three max_four min_four   -- for this text's walks alone
set_option linter.unusedVariables false
set_option linter.unusedSimpArgs false



def errW : Option Int → Value
  | none => .nilIface
  | some c => .iface 0 (.int .i64 c)
theorem errW_none : errW none = .nilIface := rfl
theorem errW_some (c : Int) : errW (some c) = .iface 0 (.int .i64 c) := rfl

theorem info42 : (Try.prog.info? 42).map (fun i => (i.zero, i.size, i.bytes)) = some (some (.agg #[(.int .u64 0), (.int .u64 0), (.int .i64 0), (.int .i64 0), (.bool false), (.int .u8 0), (.int .u64 0), (.bool false), (.int .u64 0), (.bool false), (.bool false), (.int .u32 0)]), 12, 72) := by kernel_rfl
-- the values' own types
/-! #### struct type 87 -/
structure S87 where
  f0 : ByteArray
  f1 : Bool
  f2 : Int
  f3 : Int
def z87 : S87 := ⟨(⟨#[]⟩ : ByteArray), false, (0 : Int), (0 : Int)⟩
def k87 : Kd S87 := Kd.iso (Kd.pair Kd.string (Kd.pair Kd.bool (Kd.pair (Kd.int .i64) (Kd.int .i64)))) (fun x : S87 => (x.f0, x.f1, x.f2, x.f3))
theorem k87_open {w : World} {x : S87} {cs : List Value} (h : k87.K w x cs) : cs = [.string x.f0, .bool x.f1, .int .i64 x.f2, .int .i64 x.f3] := by
  obtain ⟨_, _, rfl, rfl, ⟨_, _, rfl, rfl, ⟨_, _, rfl, rfl, rfl⟩⟩⟩ := h
  exact rfl
theorem k87_openM {w : World} {base : Nat} {ok : Nat → Prop} {x : S87} {cs : List Value} (h : k87.M w base ok x cs) : cs = [.string x.f0, .bool x.f1, .int .i64 x.f2, .int .i64 x.f3] := by
  obtain ⟨_, _, rfl, rfl, ⟨_, _, rfl, rfl, ⟨_, _, rfl, rfl, rfl⟩⟩⟩ := h
  exact rfl
theorem k87_mk (w : World) (x : S87)  : k87.K w x [.string x.f0, .bool x.f1, .int .i64 x.f2, .int .i64 x.f3] := ⟨[.string x.f0], [.bool x.f1, .int .i64 x.f2, .int .i64 x.f3], rfl, rfl, ⟨[.bool x.f1], [.int .i64 x.f2, .int .i64 x.f3], rfl, rfl, ⟨[.int .i64 x.f2], [.int .i64 x.f3], rfl, rfl, rfl⟩⟩⟩
theorem k87_mkM (w : World) (base : Nat) (ok : Nat → Prop) (x : S87)  : k87.M w base ok x [.string x.f0, .bool x.f1, .int .i64 x.f2, .int .i64 x.f3] := ⟨[.string x.f0], [.bool x.f1, .int .i64 x.f2, .int .i64 x.f3], rfl, rfl, ⟨[.bool x.f1], [.int .i64 x.f2, .int .i64 x.f3], rfl, rfl, ⟨[.int .i64 x.f2], [.int .i64 x.f3], rfl, rfl, rfl⟩⟩⟩
def rd_T87 (xs : List S87) (i : Int) : S87 := xs.getD i.toNat z87
theorem at_T87 {w : World} {A : Option Addr} {n : Nat} {xs : List S87} (h : Kd.C k87 w A n xs) (i : Int) (h0 : 0 ≤ i) (h1 : i < n) : ∃ ad , A = some ad ∧ w.cell? (ad.add (i.toNat * 4)) = some (.string (rd_T87 xs i).f0) ∧ w.cell? ⟨(ad.add (i.toNat * 4)).block, (ad.add (i.toNat * 4)).off + 1, none⟩ = some (.bool (rd_T87 xs i).f1) ∧ w.cell? ⟨(ad.add (i.toNat * 4)).block, (ad.add (i.toNat * 4)).off + 2, none⟩ = some (.int .i64 (rd_T87 xs i).f2) ∧ w.cell? ⟨(ad.add (i.toNat * 4)).block, (ad.add (i.toNat * 4)).off + 3, none⟩ = some (.int .i64 (rd_T87 xs i).f3) := by
  obtain ⟨ad, c, e, _, hK, hc0⟩ := Kd.C_get h z87 i h0 h1
  have hc : ∀ j u, c[j]? = some u → w.cell? (ad.add (i.toNat * 4 + j)) = some u := hc0
  obtain rfl := k87_open hK
  exact ⟨ad, e, hc 0 _ rfl, by rw [← add_field _ _ 1 (by omega)]; exact hc 1 _ rfl, by rw [← add_field _ _ 2 (by omega)]; exact hc 2 _ rfl, by rw [← add_field _ _ 3 (by omega)]; exact hc 3 _ rfl⟩

def rd_L4 (xs : List (List S87)) (i : Int) : (List S87) := xs.getD i.toNat ([] : List S87)
theorem at_L4 {w : World} {A : Option Addr} {n : Nat} {xs : List (List S87)} (h : Kd.C (Kd.slice 87 k87) w A n xs) (i : Int) (h0 : 0 ≤ i) (h1 : i < n) : ∃ ad A0 c0, A = some ad ∧ w.cell? (ad.add i.toNat) = some (.slice A0 (rd_L4 xs i).length c0) ∧ (rd_L4 xs i).length ≤ c0 ∧ k87.C w A0 (rd_L4 xs i).length (rd_L4 xs i) := by
  obtain ⟨ad, c, e, _, hK, hc0⟩ := Kd.C_get h ([] : List S87) i h0 h1
  have hc : ∀ j u, c[j]? = some u → w.cell? (ad.add (i.toNat * 1 + j)) = some u := hc0
  obtain ⟨A0, c0, rfl, l0, g0⟩ := hK
  exact ⟨ad, A0, c0, e, by have hq := hc 0 _ rfl; rwa [Nat.mul_one, Nat.add_zero] at hq, l0, g0⟩

/-! #### struct type 89 -/
structure S89 where
  f0 : Int
  f1 : Int
def z89 : S89 := ⟨(0 : Int), (0 : Int)⟩
def k89 : Kd S89 := Kd.iso (Kd.pair (Kd.int .i64) (Kd.int .i64)) (fun x : S89 => (x.f0, x.f1))
theorem k89_open {w : World} {x : S89} {cs : List Value} (h : k89.K w x cs) : cs = [.int .i64 x.f0, .int .i64 x.f1] := by
  obtain ⟨_, _, rfl, rfl, rfl⟩ := h
  exact rfl
theorem k89_openM {w : World} {base : Nat} {ok : Nat → Prop} {x : S89} {cs : List Value} (h : k89.M w base ok x cs) : cs = [.int .i64 x.f0, .int .i64 x.f1] := by
  obtain ⟨_, _, rfl, rfl, rfl⟩ := h
  exact rfl
theorem k89_mk (w : World) (x : S89)  : k89.K w x [.int .i64 x.f0, .int .i64 x.f1] := ⟨[.int .i64 x.f0], [.int .i64 x.f1], rfl, rfl, rfl⟩
theorem k89_mkM (w : World) (base : Nat) (ok : Nat → Prop) (x : S89)  : k89.M w base ok x [.int .i64 x.f0, .int .i64 x.f1] := ⟨[.int .i64 x.f0], [.int .i64 x.f1], rfl, rfl, rfl⟩
def rd_T89 (xs : List S89) (i : Int) : S89 := xs.getD i.toNat z89
theorem at_T89 {w : World} {A : Option Addr} {n : Nat} {xs : List S89} (h : Kd.C k89 w A n xs) (i : Int) (h0 : 0 ≤ i) (h1 : i < n) : ∃ ad , A = some ad ∧ w.cell? (ad.add (i.toNat * 2)) = some (.int .i64 (rd_T89 xs i).f0) ∧ w.cell? ⟨(ad.add (i.toNat * 2)).block, (ad.add (i.toNat * 2)).off + 1, none⟩ = some (.int .i64 (rd_T89 xs i).f1) := by
  obtain ⟨ad, c, e, _, hK, hc0⟩ := Kd.C_get h z89 i h0 h1
  have hc : ∀ j u, c[j]? = some u → w.cell? (ad.add (i.toNat * 2 + j)) = some u := hc0
  obtain rfl := k89_open hK
  exact ⟨ad, e, hc 0 _ rfl, by rw [← add_field _ _ 1 (by omega)]; exact hc 1 _ rfl⟩

def rd_L8 (xs : List (List S89)) (i : Int) : (List S89) := xs.getD i.toNat ([] : List S89)
theorem at_L8 {w : World} {A : Option Addr} {n : Nat} {xs : List (List S89)} (h : Kd.C (Kd.slice 89 k89) w A n xs) (i : Int) (h0 : 0 ≤ i) (h1 : i < n) : ∃ ad A0 c0, A = some ad ∧ w.cell? (ad.add i.toNat) = some (.slice A0 (rd_L8 xs i).length c0) ∧ (rd_L8 xs i).length ≤ c0 ∧ k89.C w A0 (rd_L8 xs i).length (rd_L8 xs i) := by
  obtain ⟨ad, c, e, _, hK, hc0⟩ := Kd.C_get h ([] : List S89) i h0 h1
  have hc : ∀ j u, c[j]? = some u → w.cell? (ad.add (i.toNat * 1 + j)) = some u := hc0
  obtain ⟨A0, c0, rfl, l0, g0⟩ := hK
  exact ⟨ad, A0, c0, e, by have hq := hc 0 _ rfl; rwa [Nat.mul_one, Nat.add_zero] at hq, l0, g0⟩

/-! #### struct type 91 -/
structure S91 where
  f0 : Int
  f1 : Int
  f2 : Int
def z91 : S91 := ⟨(0 : Int), (0 : Int), (0 : Int)⟩
def k91 : Kd S91 := Kd.iso (Kd.pair (Kd.int .u64) (Kd.pair (Kd.int .u64) (Kd.int .i64))) (fun x : S91 => (x.f0, x.f1, x.f2))
theorem k91_open {w : World} {x : S91} {cs : List Value} (h : k91.K w x cs) : cs = [.int .u64 x.f0, .int .u64 x.f1, .int .i64 x.f2] := by
  obtain ⟨_, _, rfl, rfl, ⟨_, _, rfl, rfl, rfl⟩⟩ := h
  exact rfl
theorem k91_openM {w : World} {base : Nat} {ok : Nat → Prop} {x : S91} {cs : List Value} (h : k91.M w base ok x cs) : cs = [.int .u64 x.f0, .int .u64 x.f1, .int .i64 x.f2] := by
  obtain ⟨_, _, rfl, rfl, ⟨_, _, rfl, rfl, rfl⟩⟩ := h
  exact rfl
theorem k91_mk (w : World) (x : S91)  : k91.K w x [.int .u64 x.f0, .int .u64 x.f1, .int .i64 x.f2] := ⟨[.int .u64 x.f0], [.int .u64 x.f1, .int .i64 x.f2], rfl, rfl, ⟨[.int .u64 x.f1], [.int .i64 x.f2], rfl, rfl, rfl⟩⟩
theorem k91_mkM (w : World) (base : Nat) (ok : Nat → Prop) (x : S91)  : k91.M w base ok x [.int .u64 x.f0, .int .u64 x.f1, .int .i64 x.f2] := ⟨[.int .u64 x.f0], [.int .u64 x.f1, .int .i64 x.f2], rfl, rfl, ⟨[.int .u64 x.f1], [.int .i64 x.f2], rfl, rfl, rfl⟩⟩
def rd_T91 (xs : List S91) (i : Int) : S91 := xs.getD i.toNat z91
theorem at_T91 {w : World} {A : Option Addr} {n : Nat} {xs : List S91} (h : Kd.C k91 w A n xs) (i : Int) (h0 : 0 ≤ i) (h1 : i < n) : ∃ ad , A = some ad ∧ w.cell? (ad.add (i.toNat * 3)) = some (.int .u64 (rd_T91 xs i).f0) ∧ w.cell? ⟨(ad.add (i.toNat * 3)).block, (ad.add (i.toNat * 3)).off + 1, none⟩ = some (.int .u64 (rd_T91 xs i).f1) ∧ w.cell? ⟨(ad.add (i.toNat * 3)).block, (ad.add (i.toNat * 3)).off + 2, none⟩ = some (.int .i64 (rd_T91 xs i).f2) := by
  obtain ⟨ad, c, e, _, hK, hc0⟩ := Kd.C_get h z91 i h0 h1
  have hc : ∀ j u, c[j]? = some u → w.cell? (ad.add (i.toNat * 3 + j)) = some u := hc0
  obtain rfl := k91_open hK
  exact ⟨ad, e, hc 0 _ rfl, by rw [← add_field _ _ 1 (by omega)]; exact hc 1 _ rfl, by rw [← add_field _ _ 2 (by omega)]; exact hc 2 _ rfl⟩

def rd_L10 (xs : List (List S91)) (i : Int) : (List S91) := xs.getD i.toNat ([] : List S91)
theorem at_L10 {w : World} {A : Option Addr} {n : Nat} {xs : List (List S91)} (h : Kd.C (Kd.slice 91 k91) w A n xs) (i : Int) (h0 : 0 ≤ i) (h1 : i < n) : ∃ ad A0 c0, A = some ad ∧ w.cell? (ad.add i.toNat) = some (.slice A0 (rd_L10 xs i).length c0) ∧ (rd_L10 xs i).length ≤ c0 ∧ k91.C w A0 (rd_L10 xs i).length (rd_L10 xs i) := by
  obtain ⟨ad, c, e, _, hK, hc0⟩ := Kd.C_get h ([] : List S91) i h0 h1
  have hc : ∀ j u, c[j]? = some u → w.cell? (ad.add (i.toNat * 1 + j)) = some u := hc0
  obtain ⟨A0, c0, rfl, l0, g0⟩ := hK
  exact ⟨ad, A0, c0, e, by have hq := hc 0 _ rfl; rwa [Nat.mul_one, Nat.add_zero] at hq, l0, g0⟩

/-! #### struct type 27 -/
structure S27 where
  f0 : (List S87)
  f1 : Int
  f2 : Int
  f3 : Bool
  f4 : Int
  f5 : Int
  f6 : Int
  f7 : Int
  f8 : Int
  f9 : Int
  f10 : Int
  f11 : Int
  f12 : Int
  f13 : Int
  f14 : Int
  f15 : Int
  f16 : Bool
  f17 : Int
  f18 : (List S89)
  f19 : (List S91)
def z27 : S27 := ⟨([] : List S87), (0 : Int), (0 : Int), false, (0 : Int), (0 : Int), (0 : Int), (0 : Int), (0 : Int), (0 : Int), (0 : Int), (0 : Int), (0 : Int), (0 : Int), (0 : Int), (0 : Int), false, (0 : Int), ([] : List S89), ([] : List S91)⟩
def k27 : Kd S27 := Kd.iso (Kd.pair (Kd.slice 87 k87) (Kd.pair (Kd.int .u8) (Kd.pair (Kd.int .i64) (Kd.pair Kd.bool (Kd.pair (Kd.int .i64) (Kd.pair (Kd.int .i64) (Kd.pair (Kd.int .i64) (Kd.pair (Kd.int .i64) (Kd.pair (Kd.int .i64) (Kd.pair (Kd.int .i64) (Kd.pair (Kd.int .u64) (Kd.pair (Kd.int .u64) (Kd.pair (Kd.int .u64) (Kd.pair (Kd.int .u64) (Kd.pair (Kd.int .u64) (Kd.pair (Kd.int .u64) (Kd.pair Kd.bool (Kd.pair (Kd.int .i64) (Kd.pair (Kd.slice 89 k89) (Kd.slice 91 k91)))))))))))))))))))) (fun x : S27 => (x.f0, x.f1, x.f2, x.f3, x.f4, x.f5, x.f6, x.f7, x.f8, x.f9, x.f10, x.f11, x.f12, x.f13, x.f14, x.f15, x.f16, x.f17, x.f18, x.f19))
theorem k27_open {w : World} {x : S27} {cs : List Value} (h : k27.K w x cs) : ∃ A0 c0 A18 c18 A19 c19, cs = [.slice A0 x.f0.length c0, .int .u8 x.f1, .int .i64 x.f2, .bool x.f3, .int .i64 x.f4, .int .i64 x.f5, .int .i64 x.f6, .int .i64 x.f7, .int .i64 x.f8, .int .i64 x.f9, .int .u64 x.f10, .int .u64 x.f11, .int .u64 x.f12, .int .u64 x.f13, .int .u64 x.f14, .int .u64 x.f15, .bool x.f16, .int .i64 x.f17, .slice A18 x.f18.length c18, .slice A19 x.f19.length c19] ∧ x.f0.length ≤ c0 ∧ k87.C w A0 x.f0.length x.f0 ∧ x.f18.length ≤ c18 ∧ k89.C w A18 x.f18.length x.f18 ∧ x.f19.length ≤ c19 ∧ k91.C w A19 x.f19.length x.f19 := by
  obtain ⟨_, _, rfl, ⟨A0, c0, rfl, l0, g0⟩, ⟨_, _, rfl, rfl, ⟨_, _, rfl, rfl, ⟨_, _, rfl, rfl, ⟨_, _, rfl, rfl, ⟨_, _, rfl, rfl, ⟨_, _, rfl, rfl, ⟨_, _, rfl, rfl, ⟨_, _, rfl, rfl, ⟨_, _, rfl, rfl, ⟨_, _, rfl, rfl, ⟨_, _, rfl, rfl, ⟨_, _, rfl, rfl, ⟨_, _, rfl, rfl, ⟨_, _, rfl, rfl, ⟨_, _, rfl, rfl, ⟨_, _, rfl, rfl, ⟨_, _, rfl, rfl, ⟨_, _, rfl, ⟨A18, c18, rfl, l18, g18⟩, ⟨A19, c19, rfl, l19, g19⟩⟩⟩⟩⟩⟩⟩⟩⟩⟩⟩⟩⟩⟩⟩⟩⟩⟩⟩⟩ := h
  exact ⟨A0, c0, A18, c18, A19, c19, rfl, l0, g0, l18, g18, l19, g19⟩
theorem k27_openM {w : World} {base : Nat} {ok : Nat → Prop} {x : S27} {cs : List Value} (h : k27.M w base ok x cs) : ∃ v0 v18 v19, cs = [v0, .int .u8 x.f1, .int .i64 x.f2, .bool x.f3, .int .i64 x.f4, .int .i64 x.f5, .int .i64 x.f6, .int .i64 x.f7, .int .i64 x.f8, .int .i64 x.f9, .int .u64 x.f10, .int .u64 x.f11, .int .u64 x.f12, .int .u64 x.f13, .int .u64 x.f14, .int .u64 x.f15, .bool x.f16, .int .i64 x.f17, v18, v19] ∧ k87.R 87 w base ok v0 x.f0 ∧ k89.R 89 w base ok v18 x.f18 ∧ k91.R 91 w base ok v19 x.f19 := by
  obtain ⟨_, _, rfl, ⟨v0, rfl, g0⟩, ⟨_, _, rfl, rfl, ⟨_, _, rfl, rfl, ⟨_, _, rfl, rfl, ⟨_, _, rfl, rfl, ⟨_, _, rfl, rfl, ⟨_, _, rfl, rfl, ⟨_, _, rfl, rfl, ⟨_, _, rfl, rfl, ⟨_, _, rfl, rfl, ⟨_, _, rfl, rfl, ⟨_, _, rfl, rfl, ⟨_, _, rfl, rfl, ⟨_, _, rfl, rfl, ⟨_, _, rfl, rfl, ⟨_, _, rfl, rfl, ⟨_, _, rfl, rfl, ⟨_, _, rfl, rfl, ⟨_, _, rfl, ⟨v18, rfl, g18⟩, ⟨v19, rfl, g19⟩⟩⟩⟩⟩⟩⟩⟩⟩⟩⟩⟩⟩⟩⟩⟩⟩⟩⟩⟩ := h
  exact ⟨v0, v18, v19, rfl, g0, g18, g19⟩
theorem k27_mk (w : World) (x : S27) {A0 : Option Addr} {c0 : Nat} (l0 : x.f0.length ≤ c0) (g0 : k87.C w A0 x.f0.length x.f0) {A18 : Option Addr} {c18 : Nat} (l18 : x.f18.length ≤ c18) (g18 : k89.C w A18 x.f18.length x.f18) {A19 : Option Addr} {c19 : Nat} (l19 : x.f19.length ≤ c19) (g19 : k91.C w A19 x.f19.length x.f19) : k27.K w x [.slice A0 x.f0.length c0, .int .u8 x.f1, .int .i64 x.f2, .bool x.f3, .int .i64 x.f4, .int .i64 x.f5, .int .i64 x.f6, .int .i64 x.f7, .int .i64 x.f8, .int .i64 x.f9, .int .u64 x.f10, .int .u64 x.f11, .int .u64 x.f12, .int .u64 x.f13, .int .u64 x.f14, .int .u64 x.f15, .bool x.f16, .int .i64 x.f17, .slice A18 x.f18.length c18, .slice A19 x.f19.length c19] := ⟨[.slice A0 x.f0.length c0], [.int .u8 x.f1, .int .i64 x.f2, .bool x.f3, .int .i64 x.f4, .int .i64 x.f5, .int .i64 x.f6, .int .i64 x.f7, .int .i64 x.f8, .int .i64 x.f9, .int .u64 x.f10, .int .u64 x.f11, .int .u64 x.f12, .int .u64 x.f13, .int .u64 x.f14, .int .u64 x.f15, .bool x.f16, .int .i64 x.f17, .slice A18 x.f18.length c18, .slice A19 x.f19.length c19], rfl, ⟨A0, c0, rfl, l0, g0⟩, ⟨[.int .u8 x.f1], [.int .i64 x.f2, .bool x.f3, .int .i64 x.f4, .int .i64 x.f5, .int .i64 x.f6, .int .i64 x.f7, .int .i64 x.f8, .int .i64 x.f9, .int .u64 x.f10, .int .u64 x.f11, .int .u64 x.f12, .int .u64 x.f13, .int .u64 x.f14, .int .u64 x.f15, .bool x.f16, .int .i64 x.f17, .slice A18 x.f18.length c18, .slice A19 x.f19.length c19], rfl, rfl, ⟨[.int .i64 x.f2], [.bool x.f3, .int .i64 x.f4, .int .i64 x.f5, .int .i64 x.f6, .int .i64 x.f7, .int .i64 x.f8, .int .i64 x.f9, .int .u64 x.f10, .int .u64 x.f11, .int .u64 x.f12, .int .u64 x.f13, .int .u64 x.f14, .int .u64 x.f15, .bool x.f16, .int .i64 x.f17, .slice A18 x.f18.length c18, .slice A19 x.f19.length c19], rfl, rfl, ⟨[.bool x.f3], [.int .i64 x.f4, .int .i64 x.f5, .int .i64 x.f6, .int .i64 x.f7, .int .i64 x.f8, .int .i64 x.f9, .int .u64 x.f10, .int .u64 x.f11, .int .u64 x.f12, .int .u64 x.f13, .int .u64 x.f14, .int .u64 x.f15, .bool x.f16, .int .i64 x.f17, .slice A18 x.f18.length c18, .slice A19 x.f19.length c19], rfl, rfl, ⟨[.int .i64 x.f4], [.int .i64 x.f5, .int .i64 x.f6, .int .i64 x.f7, .int .i64 x.f8, .int .i64 x.f9, .int .u64 x.f10, .int .u64 x.f11, .int .u64 x.f12, .int .u64 x.f13, .int .u64 x.f14, .int .u64 x.f15, .bool x.f16, .int .i64 x.f17, .slice A18 x.f18.length c18, .slice A19 x.f19.length c19], rfl, rfl, ⟨[.int .i64 x.f5], [.int .i64 x.f6, .int .i64 x.f7, .int .i64 x.f8, .int .i64 x.f9, .int .u64 x.f10, .int .u64 x.f11, .int .u64 x.f12, .int .u64 x.f13, .int .u64 x.f14, .int .u64 x.f15, .bool x.f16, .int .i64 x.f17, .slice A18 x.f18.length c18, .slice A19 x.f19.length c19], rfl, rfl, ⟨[.int .i64 x.f6], [.int .i64 x.f7, .int .i64 x.f8, .int .i64 x.f9, .int .u64 x.f10, .int .u64 x.f11, .int .u64 x.f12, .int .u64 x.f13, .int .u64 x.f14, .int .u64 x.f15, .bool x.f16, .int .i64 x.f17, .slice A18 x.f18.length c18, .slice A19 x.f19.length c19], rfl, rfl, ⟨[.int .i64 x.f7], [.int .i64 x.f8, .int .i64 x.f9, .int .u64 x.f10, .int .u64 x.f11, .int .u64 x.f12, .int .u64 x.f13, .int .u64 x.f14, .int .u64 x.f15, .bool x.f16, .int .i64 x.f17, .slice A18 x.f18.length c18, .slice A19 x.f19.length c19], rfl, rfl, ⟨[.int .i64 x.f8], [.int .i64 x.f9, .int .u64 x.f10, .int .u64 x.f11, .int .u64 x.f12, .int .u64 x.f13, .int .u64 x.f14, .int .u64 x.f15, .bool x.f16, .int .i64 x.f17, .slice A18 x.f18.length c18, .slice A19 x.f19.length c19], rfl, rfl, ⟨[.int .i64 x.f9], [.int .u64 x.f10, .int .u64 x.f11, .int .u64 x.f12, .int .u64 x.f13, .int .u64 x.f14, .int .u64 x.f15, .bool x.f16, .int .i64 x.f17, .slice A18 x.f18.length c18, .slice A19 x.f19.length c19], rfl, rfl, ⟨[.int .u64 x.f10], [.int .u64 x.f11, .int .u64 x.f12, .int .u64 x.f13, .int .u64 x.f14, .int .u64 x.f15, .bool x.f16, .int .i64 x.f17, .slice A18 x.f18.length c18, .slice A19 x.f19.length c19], rfl, rfl, ⟨[.int .u64 x.f11], [.int .u64 x.f12, .int .u64 x.f13, .int .u64 x.f14, .int .u64 x.f15, .bool x.f16, .int .i64 x.f17, .slice A18 x.f18.length c18, .slice A19 x.f19.length c19], rfl, rfl, ⟨[.int .u64 x.f12], [.int .u64 x.f13, .int .u64 x.f14, .int .u64 x.f15, .bool x.f16, .int .i64 x.f17, .slice A18 x.f18.length c18, .slice A19 x.f19.length c19], rfl, rfl, ⟨[.int .u64 x.f13], [.int .u64 x.f14, .int .u64 x.f15, .bool x.f16, .int .i64 x.f17, .slice A18 x.f18.length c18, .slice A19 x.f19.length c19], rfl, rfl, ⟨[.int .u64 x.f14], [.int .u64 x.f15, .bool x.f16, .int .i64 x.f17, .slice A18 x.f18.length c18, .slice A19 x.f19.length c19], rfl, rfl, ⟨[.int .u64 x.f15], [.bool x.f16, .int .i64 x.f17, .slice A18 x.f18.length c18, .slice A19 x.f19.length c19], rfl, rfl, ⟨[.bool x.f16], [.int .i64 x.f17, .slice A18 x.f18.length c18, .slice A19 x.f19.length c19], rfl, rfl, ⟨[.int .i64 x.f17], [.slice A18 x.f18.length c18, .slice A19 x.f19.length c19], rfl, rfl, ⟨[.slice A18 x.f18.length c18], [.slice A19 x.f19.length c19], rfl, ⟨A18, c18, rfl, l18, g18⟩, ⟨A19, c19, rfl, l19, g19⟩⟩⟩⟩⟩⟩⟩⟩⟩⟩⟩⟩⟩⟩⟩⟩⟩⟩⟩⟩
theorem k27_mkM (w : World) (base : Nat) (ok : Nat → Prop) (x : S27) {v0 : Value} (g0 : k87.R 87 w base ok v0 x.f0) {v18 : Value} (g18 : k89.R 89 w base ok v18 x.f18) {v19 : Value} (g19 : k91.R 91 w base ok v19 x.f19) : k27.M w base ok x [v0, .int .u8 x.f1, .int .i64 x.f2, .bool x.f3, .int .i64 x.f4, .int .i64 x.f5, .int .i64 x.f6, .int .i64 x.f7, .int .i64 x.f8, .int .i64 x.f9, .int .u64 x.f10, .int .u64 x.f11, .int .u64 x.f12, .int .u64 x.f13, .int .u64 x.f14, .int .u64 x.f15, .bool x.f16, .int .i64 x.f17, v18, v19] := ⟨[v0], [.int .u8 x.f1, .int .i64 x.f2, .bool x.f3, .int .i64 x.f4, .int .i64 x.f5, .int .i64 x.f6, .int .i64 x.f7, .int .i64 x.f8, .int .i64 x.f9, .int .u64 x.f10, .int .u64 x.f11, .int .u64 x.f12, .int .u64 x.f13, .int .u64 x.f14, .int .u64 x.f15, .bool x.f16, .int .i64 x.f17, v18, v19], rfl, ⟨v0, rfl, g0⟩, ⟨[.int .u8 x.f1], [.int .i64 x.f2, .bool x.f3, .int .i64 x.f4, .int .i64 x.f5, .int .i64 x.f6, .int .i64 x.f7, .int .i64 x.f8, .int .i64 x.f9, .int .u64 x.f10, .int .u64 x.f11, .int .u64 x.f12, .int .u64 x.f13, .int .u64 x.f14, .int .u64 x.f15, .bool x.f16, .int .i64 x.f17, v18, v19], rfl, rfl, ⟨[.int .i64 x.f2], [.bool x.f3, .int .i64 x.f4, .int .i64 x.f5, .int .i64 x.f6, .int .i64 x.f7, .int .i64 x.f8, .int .i64 x.f9, .int .u64 x.f10, .int .u64 x.f11, .int .u64 x.f12, .int .u64 x.f13, .int .u64 x.f14, .int .u64 x.f15, .bool x.f16, .int .i64 x.f17, v18, v19], rfl, rfl, ⟨[.bool x.f3], [.int .i64 x.f4, .int .i64 x.f5, .int .i64 x.f6, .int .i64 x.f7, .int .i64 x.f8, .int .i64 x.f9, .int .u64 x.f10, .int .u64 x.f11, .int .u64 x.f12, .int .u64 x.f13, .int .u64 x.f14, .int .u64 x.f15, .bool x.f16, .int .i64 x.f17, v18, v19], rfl, rfl, ⟨[.int .i64 x.f4], [.int .i64 x.f5, .int .i64 x.f6, .int .i64 x.f7, .int .i64 x.f8, .int .i64 x.f9, .int .u64 x.f10, .int .u64 x.f11, .int .u64 x.f12, .int .u64 x.f13, .int .u64 x.f14, .int .u64 x.f15, .bool x.f16, .int .i64 x.f17, v18, v19], rfl, rfl, ⟨[.int .i64 x.f5], [.int .i64 x.f6, .int .i64 x.f7, .int .i64 x.f8, .int .i64 x.f9, .int .u64 x.f10, .int .u64 x.f11, .int .u64 x.f12, .int .u64 x.f13, .int .u64 x.f14, .int .u64 x.f15, .bool x.f16, .int .i64 x.f17, v18, v19], rfl, rfl, ⟨[.int .i64 x.f6], [.int .i64 x.f7, .int .i64 x.f8, .int .i64 x.f9, .int .u64 x.f10, .int .u64 x.f11, .int .u64 x.f12, .int .u64 x.f13, .int .u64 x.f14, .int .u64 x.f15, .bool x.f16, .int .i64 x.f17, v18, v19], rfl, rfl, ⟨[.int .i64 x.f7], [.int .i64 x.f8, .int .i64 x.f9, .int .u64 x.f10, .int .u64 x.f11, .int .u64 x.f12, .int .u64 x.f13, .int .u64 x.f14, .int .u64 x.f15, .bool x.f16, .int .i64 x.f17, v18, v19], rfl, rfl, ⟨[.int .i64 x.f8], [.int .i64 x.f9, .int .u64 x.f10, .int .u64 x.f11, .int .u64 x.f12, .int .u64 x.f13, .int .u64 x.f14, .int .u64 x.f15, .bool x.f16, .int .i64 x.f17, v18, v19], rfl, rfl, ⟨[.int .i64 x.f9], [.int .u64 x.f10, .int .u64 x.f11, .int .u64 x.f12, .int .u64 x.f13, .int .u64 x.f14, .int .u64 x.f15, .bool x.f16, .int .i64 x.f17, v18, v19], rfl, rfl, ⟨[.int .u64 x.f10], [.int .u64 x.f11, .int .u64 x.f12, .int .u64 x.f13, .int .u64 x.f14, .int .u64 x.f15, .bool x.f16, .int .i64 x.f17, v18, v19], rfl, rfl, ⟨[.int .u64 x.f11], [.int .u64 x.f12, .int .u64 x.f13, .int .u64 x.f14, .int .u64 x.f15, .bool x.f16, .int .i64 x.f17, v18, v19], rfl, rfl, ⟨[.int .u64 x.f12], [.int .u64 x.f13, .int .u64 x.f14, .int .u64 x.f15, .bool x.f16, .int .i64 x.f17, v18, v19], rfl, rfl, ⟨[.int .u64 x.f13], [.int .u64 x.f14, .int .u64 x.f15, .bool x.f16, .int .i64 x.f17, v18, v19], rfl, rfl, ⟨[.int .u64 x.f14], [.int .u64 x.f15, .bool x.f16, .int .i64 x.f17, v18, v19], rfl, rfl, ⟨[.int .u64 x.f15], [.bool x.f16, .int .i64 x.f17, v18, v19], rfl, rfl, ⟨[.bool x.f16], [.int .i64 x.f17, v18, v19], rfl, rfl, ⟨[.int .i64 x.f17], [v18, v19], rfl, rfl, ⟨[v18], [v19], rfl, ⟨v18, rfl, g18⟩, ⟨v19, rfl, g19⟩⟩⟩⟩⟩⟩⟩⟩⟩⟩⟩⟩⟩⟩⟩⟩⟩⟩⟩⟩
def rd_T27 (xs : List S27) (i : Int) : S27 := xs.getD i.toNat z27
theorem at_T27 {w : World} {A : Option Addr} {n : Nat} {xs : List S27} (h : Kd.C k27 w A n xs) (i : Int) (h0 : 0 ≤ i) (h1 : i < n) : ∃ ad A0 c0 A18 c18 A19 c19, A = some ad ∧ w.cell? (ad.add (i.toNat * 20)) = some (.slice A0 (rd_T27 xs i).f0.length c0) ∧ w.cell? ⟨(ad.add (i.toNat * 20)).block, (ad.add (i.toNat * 20)).off + 1, none⟩ = some (.int .u8 (rd_T27 xs i).f1) ∧ w.cell? ⟨(ad.add (i.toNat * 20)).block, (ad.add (i.toNat * 20)).off + 2, none⟩ = some (.int .i64 (rd_T27 xs i).f2) ∧ w.cell? ⟨(ad.add (i.toNat * 20)).block, (ad.add (i.toNat * 20)).off + 3, none⟩ = some (.bool (rd_T27 xs i).f3) ∧ w.cell? ⟨(ad.add (i.toNat * 20)).block, (ad.add (i.toNat * 20)).off + 4, none⟩ = some (.int .i64 (rd_T27 xs i).f4) ∧ w.cell? ⟨(ad.add (i.toNat * 20)).block, (ad.add (i.toNat * 20)).off + 5, none⟩ = some (.int .i64 (rd_T27 xs i).f5) ∧ w.cell? ⟨(ad.add (i.toNat * 20)).block, (ad.add (i.toNat * 20)).off + 6, none⟩ = some (.int .i64 (rd_T27 xs i).f6) ∧ w.cell? ⟨(ad.add (i.toNat * 20)).block, (ad.add (i.toNat * 20)).off + 7, none⟩ = some (.int .i64 (rd_T27 xs i).f7) ∧ w.cell? ⟨(ad.add (i.toNat * 20)).block, (ad.add (i.toNat * 20)).off + 8, none⟩ = some (.int .i64 (rd_T27 xs i).f8) ∧ w.cell? ⟨(ad.add (i.toNat * 20)).block, (ad.add (i.toNat * 20)).off + 9, none⟩ = some (.int .i64 (rd_T27 xs i).f9) ∧ w.cell? ⟨(ad.add (i.toNat * 20)).block, (ad.add (i.toNat * 20)).off + 10, none⟩ = some (.int .u64 (rd_T27 xs i).f10) ∧ w.cell? ⟨(ad.add (i.toNat * 20)).block, (ad.add (i.toNat * 20)).off + 11, none⟩ = some (.int .u64 (rd_T27 xs i).f11) ∧ w.cell? ⟨(ad.add (i.toNat * 20)).block, (ad.add (i.toNat * 20)).off + 12, none⟩ = some (.int .u64 (rd_T27 xs i).f12) ∧ w.cell? ⟨(ad.add (i.toNat * 20)).block, (ad.add (i.toNat * 20)).off + 13, none⟩ = some (.int .u64 (rd_T27 xs i).f13) ∧ w.cell? ⟨(ad.add (i.toNat * 20)).block, (ad.add (i.toNat * 20)).off + 14, none⟩ = some (.int .u64 (rd_T27 xs i).f14) ∧ w.cell? ⟨(ad.add (i.toNat * 20)).block, (ad.add (i.toNat * 20)).off + 15, none⟩ = some (.int .u64 (rd_T27 xs i).f15) ∧ w.cell? ⟨(ad.add (i.toNat * 20)).block, (ad.add (i.toNat * 20)).off + 16, none⟩ = some (.bool (rd_T27 xs i).f16) ∧ w.cell? ⟨(ad.add (i.toNat * 20)).block, (ad.add (i.toNat * 20)).off + 17, none⟩ = some (.int .i64 (rd_T27 xs i).f17) ∧ w.cell? ⟨(ad.add (i.toNat * 20)).block, (ad.add (i.toNat * 20)).off + 18, none⟩ = some (.slice A18 (rd_T27 xs i).f18.length c18) ∧ w.cell? ⟨(ad.add (i.toNat * 20)).block, (ad.add (i.toNat * 20)).off + 19, none⟩ = some (.slice A19 (rd_T27 xs i).f19.length c19) ∧ (rd_T27 xs i).f0.length ≤ c0 ∧ k87.C w A0 (rd_T27 xs i).f0.length (rd_T27 xs i).f0 ∧ (rd_T27 xs i).f18.length ≤ c18 ∧ k89.C w A18 (rd_T27 xs i).f18.length (rd_T27 xs i).f18 ∧ (rd_T27 xs i).f19.length ≤ c19 ∧ k91.C w A19 (rd_T27 xs i).f19.length (rd_T27 xs i).f19 := by
  obtain ⟨ad, c, e, _, hK, hc0⟩ := Kd.C_get h z27 i h0 h1
  have hc : ∀ j u, c[j]? = some u → w.cell? (ad.add (i.toNat * 20 + j)) = some u := hc0
  obtain ⟨A0, c0, A18, c18, A19, c19, rfl, l0, g0, l18, g18, l19, g19⟩ := k27_open hK
  exact ⟨ad, A0, c0, A18, c18, A19, c19, e, hc 0 _ rfl, by rw [← add_field _ _ 1 (by omega)]; exact hc 1 _ rfl, by rw [← add_field _ _ 2 (by omega)]; exact hc 2 _ rfl, by rw [← add_field _ _ 3 (by omega)]; exact hc 3 _ rfl, by rw [← add_field _ _ 4 (by omega)]; exact hc 4 _ rfl, by rw [← add_field _ _ 5 (by omega)]; exact hc 5 _ rfl, by rw [← add_field _ _ 6 (by omega)]; exact hc 6 _ rfl, by rw [← add_field _ _ 7 (by omega)]; exact hc 7 _ rfl, by rw [← add_field _ _ 8 (by omega)]; exact hc 8 _ rfl, by rw [← add_field _ _ 9 (by omega)]; exact hc 9 _ rfl, by rw [← add_field _ _ 10 (by omega)]; exact hc 10 _ rfl, by rw [← add_field _ _ 11 (by omega)]; exact hc 11 _ rfl, by rw [← add_field _ _ 12 (by omega)]; exact hc 12 _ rfl, by rw [← add_field _ _ 13 (by omega)]; exact hc 13 _ rfl, by rw [← add_field _ _ 14 (by omega)]; exact hc 14 _ rfl, by rw [← add_field _ _ 15 (by omega)]; exact hc 15 _ rfl, by rw [← add_field _ _ 16 (by omega)]; exact hc 16 _ rfl, by rw [← add_field _ _ 17 (by omega)]; exact hc 17 _ rfl, by rw [← add_field _ _ 18 (by omega)]; exact hc 18 _ rfl, by rw [← add_field _ _ 19 (by omega)]; exact hc 19 _ rfl, l0, g0, l18, g18, l19, g19⟩

/-! #### struct type 93 -/
structure S93 where
  f0 : Int
  f1 : Int
  f2 : Int
def z93 : S93 := ⟨(0 : Int), (0 : Int), (0 : Int)⟩
def k93 : Kd S93 := Kd.iso (Kd.pair (Kd.int .i64) (Kd.pair (Kd.int .i64) (Kd.int .u64))) (fun x : S93 => (x.f0, x.f1, x.f2))
theorem k93_open {w : World} {x : S93} {cs : List Value} (h : k93.K w x cs) : cs = [.int .i64 x.f0, .int .i64 x.f1, .int .u64 x.f2] := by
  obtain ⟨_, _, rfl, rfl, ⟨_, _, rfl, rfl, rfl⟩⟩ := h
  exact rfl
theorem k93_openM {w : World} {base : Nat} {ok : Nat → Prop} {x : S93} {cs : List Value} (h : k93.M w base ok x cs) : cs = [.int .i64 x.f0, .int .i64 x.f1, .int .u64 x.f2] := by
  obtain ⟨_, _, rfl, rfl, ⟨_, _, rfl, rfl, rfl⟩⟩ := h
  exact rfl
theorem k93_mk (w : World) (x : S93)  : k93.K w x [.int .i64 x.f0, .int .i64 x.f1, .int .u64 x.f2] := ⟨[.int .i64 x.f0], [.int .i64 x.f1, .int .u64 x.f2], rfl, rfl, ⟨[.int .i64 x.f1], [.int .u64 x.f2], rfl, rfl, rfl⟩⟩
theorem k93_mkM (w : World) (base : Nat) (ok : Nat → Prop) (x : S93)  : k93.M w base ok x [.int .i64 x.f0, .int .i64 x.f1, .int .u64 x.f2] := ⟨[.int .i64 x.f0], [.int .i64 x.f1, .int .u64 x.f2], rfl, rfl, ⟨[.int .i64 x.f1], [.int .u64 x.f2], rfl, rfl, rfl⟩⟩
def rd_T93 (xs : List S93) (i : Int) : S93 := xs.getD i.toNat z93
theorem at_T93 {w : World} {A : Option Addr} {n : Nat} {xs : List S93} (h : Kd.C k93 w A n xs) (i : Int) (h0 : 0 ≤ i) (h1 : i < n) : ∃ ad , A = some ad ∧ w.cell? (ad.add (i.toNat * 3)) = some (.int .i64 (rd_T93 xs i).f0) ∧ w.cell? ⟨(ad.add (i.toNat * 3)).block, (ad.add (i.toNat * 3)).off + 1, none⟩ = some (.int .i64 (rd_T93 xs i).f1) ∧ w.cell? ⟨(ad.add (i.toNat * 3)).block, (ad.add (i.toNat * 3)).off + 2, none⟩ = some (.int .u64 (rd_T93 xs i).f2) := by
  obtain ⟨ad, c, e, _, hK, hc0⟩ := Kd.C_get h z93 i h0 h1
  have hc : ∀ j u, c[j]? = some u → w.cell? (ad.add (i.toNat * 3 + j)) = some u := hc0
  obtain rfl := k93_open hK
  exact ⟨ad, e, hc 0 _ rfl, by rw [← add_field _ _ 1 (by omega)]; exact hc 1 _ rfl, by rw [← add_field _ _ 2 (by omega)]; exact hc 2 _ rfl⟩

def rd_L14 (xs : List (List S93)) (i : Int) : (List S93) := xs.getD i.toNat ([] : List S93)
theorem at_L14 {w : World} {A : Option Addr} {n : Nat} {xs : List (List S93)} (h : Kd.C (Kd.slice 93 k93) w A n xs) (i : Int) (h0 : 0 ≤ i) (h1 : i < n) : ∃ ad A0 c0, A = some ad ∧ w.cell? (ad.add i.toNat) = some (.slice A0 (rd_L14 xs i).length c0) ∧ (rd_L14 xs i).length ≤ c0 ∧ k93.C w A0 (rd_L14 xs i).length (rd_L14 xs i) := by
  obtain ⟨ad, c, e, _, hK, hc0⟩ := Kd.C_get h ([] : List S93) i h0 h1
  have hc : ∀ j u, c[j]? = some u → w.cell? (ad.add (i.toNat * 1 + j)) = some u := hc0
  obtain ⟨A0, c0, rfl, l0, g0⟩ := hK
  exact ⟨ad, A0, c0, e, by have hq := hc 0 _ rfl; rwa [Nat.mul_one, Nat.add_zero] at hq, l0, g0⟩

/-! #### struct type 42 -/
structure S42 where
  f0 : Int
  f1 : Int
  f2 : Int
  f3 : Int
  f4 : Bool
  f5 : Int
  f6 : Int
  f7 : Bool
  f8 : Int
  f9 : Bool
  f10 : Bool
  f11 : Int
def z42 : S42 := ⟨(0 : Int), (0 : Int), (0 : Int), (0 : Int), false, (0 : Int), (0 : Int), false, (0 : Int), false, false, (0 : Int)⟩
def k42 : Kd S42 := Kd.iso (Kd.pair (Kd.int .u64) (Kd.pair (Kd.int .u64) (Kd.pair (Kd.int .i64) (Kd.pair (Kd.int .i64) (Kd.pair Kd.bool (Kd.pair (Kd.int .u8) (Kd.pair (Kd.int .u64) (Kd.pair Kd.bool (Kd.pair (Kd.int .u64) (Kd.pair Kd.bool (Kd.pair Kd.bool (Kd.int .u32)))))))))))) (fun x : S42 => (x.f0, x.f1, x.f2, x.f3, x.f4, x.f5, x.f6, x.f7, x.f8, x.f9, x.f10, x.f11))
theorem k42_open {w : World} {x : S42} {cs : List Value} (h : k42.K w x cs) : cs = [.int .u64 x.f0, .int .u64 x.f1, .int .i64 x.f2, .int .i64 x.f3, .bool x.f4, .int .u8 x.f5, .int .u64 x.f6, .bool x.f7, .int .u64 x.f8, .bool x.f9, .bool x.f10, .int .u32 x.f11] := by
  obtain ⟨_, _, rfl, rfl, ⟨_, _, rfl, rfl, ⟨_, _, rfl, rfl, ⟨_, _, rfl, rfl, ⟨_, _, rfl, rfl, ⟨_, _, rfl, rfl, ⟨_, _, rfl, rfl, ⟨_, _, rfl, rfl, ⟨_, _, rfl, rfl, ⟨_, _, rfl, rfl, ⟨_, _, rfl, rfl, rfl⟩⟩⟩⟩⟩⟩⟩⟩⟩⟩⟩ := h
  exact rfl
theorem k42_openM {w : World} {base : Nat} {ok : Nat → Prop} {x : S42} {cs : List Value} (h : k42.M w base ok x cs) : cs = [.int .u64 x.f0, .int .u64 x.f1, .int .i64 x.f2, .int .i64 x.f3, .bool x.f4, .int .u8 x.f5, .int .u64 x.f6, .bool x.f7, .int .u64 x.f8, .bool x.f9, .bool x.f10, .int .u32 x.f11] := by
  obtain ⟨_, _, rfl, rfl, ⟨_, _, rfl, rfl, ⟨_, _, rfl, rfl, ⟨_, _, rfl, rfl, ⟨_, _, rfl, rfl, ⟨_, _, rfl, rfl, ⟨_, _, rfl, rfl, ⟨_, _, rfl, rfl, ⟨_, _, rfl, rfl, ⟨_, _, rfl, rfl, ⟨_, _, rfl, rfl, rfl⟩⟩⟩⟩⟩⟩⟩⟩⟩⟩⟩ := h
  exact rfl
theorem k42_mk (w : World) (x : S42)  : k42.K w x [.int .u64 x.f0, .int .u64 x.f1, .int .i64 x.f2, .int .i64 x.f3, .bool x.f4, .int .u8 x.f5, .int .u64 x.f6, .bool x.f7, .int .u64 x.f8, .bool x.f9, .bool x.f10, .int .u32 x.f11] := ⟨[.int .u64 x.f0], [.int .u64 x.f1, .int .i64 x.f2, .int .i64 x.f3, .bool x.f4, .int .u8 x.f5, .int .u64 x.f6, .bool x.f7, .int .u64 x.f8, .bool x.f9, .bool x.f10, .int .u32 x.f11], rfl, rfl, ⟨[.int .u64 x.f1], [.int .i64 x.f2, .int .i64 x.f3, .bool x.f4, .int .u8 x.f5, .int .u64 x.f6, .bool x.f7, .int .u64 x.f8, .bool x.f9, .bool x.f10, .int .u32 x.f11], rfl, rfl, ⟨[.int .i64 x.f2], [.int .i64 x.f3, .bool x.f4, .int .u8 x.f5, .int .u64 x.f6, .bool x.f7, .int .u64 x.f8, .bool x.f9, .bool x.f10, .int .u32 x.f11], rfl, rfl, ⟨[.int .i64 x.f3], [.bool x.f4, .int .u8 x.f5, .int .u64 x.f6, .bool x.f7, .int .u64 x.f8, .bool x.f9, .bool x.f10, .int .u32 x.f11], rfl, rfl, ⟨[.bool x.f4], [.int .u8 x.f5, .int .u64 x.f6, .bool x.f7, .int .u64 x.f8, .bool x.f9, .bool x.f10, .int .u32 x.f11], rfl, rfl, ⟨[.int .u8 x.f5], [.int .u64 x.f6, .bool x.f7, .int .u64 x.f8, .bool x.f9, .bool x.f10, .int .u32 x.f11], rfl, rfl, ⟨[.int .u64 x.f6], [.bool x.f7, .int .u64 x.f8, .bool x.f9, .bool x.f10, .int .u32 x.f11], rfl, rfl, ⟨[.bool x.f7], [.int .u64 x.f8, .bool x.f9, .bool x.f10, .int .u32 x.f11], rfl, rfl, ⟨[.int .u64 x.f8], [.bool x.f9, .bool x.f10, .int .u32 x.f11], rfl, rfl, ⟨[.bool x.f9], [.bool x.f10, .int .u32 x.f11], rfl, rfl, ⟨[.bool x.f10], [.int .u32 x.f11], rfl, rfl, rfl⟩⟩⟩⟩⟩⟩⟩⟩⟩⟩⟩
theorem k42_mkM (w : World) (base : Nat) (ok : Nat → Prop) (x : S42)  : k42.M w base ok x [.int .u64 x.f0, .int .u64 x.f1, .int .i64 x.f2, .int .i64 x.f3, .bool x.f4, .int .u8 x.f5, .int .u64 x.f6, .bool x.f7, .int .u64 x.f8, .bool x.f9, .bool x.f10, .int .u32 x.f11] := ⟨[.int .u64 x.f0], [.int .u64 x.f1, .int .i64 x.f2, .int .i64 x.f3, .bool x.f4, .int .u8 x.f5, .int .u64 x.f6, .bool x.f7, .int .u64 x.f8, .bool x.f9, .bool x.f10, .int .u32 x.f11], rfl, rfl, ⟨[.int .u64 x.f1], [.int .i64 x.f2, .int .i64 x.f3, .bool x.f4, .int .u8 x.f5, .int .u64 x.f6, .bool x.f7, .int .u64 x.f8, .bool x.f9, .bool x.f10, .int .u32 x.f11], rfl, rfl, ⟨[.int .i64 x.f2], [.int .i64 x.f3, .bool x.f4, .int .u8 x.f5, .int .u64 x.f6, .bool x.f7, .int .u64 x.f8, .bool x.f9, .bool x.f10, .int .u32 x.f11], rfl, rfl, ⟨[.int .i64 x.f3], [.bool x.f4, .int .u8 x.f5, .int .u64 x.f6, .bool x.f7, .int .u64 x.f8, .bool x.f9, .bool x.f10, .int .u32 x.f11], rfl, rfl, ⟨[.bool x.f4], [.int .u8 x.f5, .int .u64 x.f6, .bool x.f7, .int .u64 x.f8, .bool x.f9, .bool x.f10, .int .u32 x.f11], rfl, rfl, ⟨[.int .u8 x.f5], [.int .u64 x.f6, .bool x.f7, .int .u64 x.f8, .bool x.f9, .bool x.f10, .int .u32 x.f11], rfl, rfl, ⟨[.int .u64 x.f6], [.bool x.f7, .int .u64 x.f8, .bool x.f9, .bool x.f10, .int .u32 x.f11], rfl, rfl, ⟨[.bool x.f7], [.int .u64 x.f8, .bool x.f9, .bool x.f10, .int .u32 x.f11], rfl, rfl, ⟨[.int .u64 x.f8], [.bool x.f9, .bool x.f10, .int .u32 x.f11], rfl, rfl, ⟨[.bool x.f9], [.bool x.f10, .int .u32 x.f11], rfl, rfl, ⟨[.bool x.f10], [.int .u32 x.f11], rfl, rfl, rfl⟩⟩⟩⟩⟩⟩⟩⟩⟩⟩⟩
def rd_T42 (xs : List S42) (i : Int) : S42 := xs.getD i.toNat z42
theorem at_T42 {w : World} {A : Option Addr} {n : Nat} {xs : List S42} (h : Kd.C k42 w A n xs) (i : Int) (h0 : 0 ≤ i) (h1 : i < n) : ∃ ad , A = some ad ∧ w.cell? (ad.add (i.toNat * 12)) = some (.int .u64 (rd_T42 xs i).f0) ∧ w.cell? ⟨(ad.add (i.toNat * 12)).block, (ad.add (i.toNat * 12)).off + 1, none⟩ = some (.int .u64 (rd_T42 xs i).f1) ∧ w.cell? ⟨(ad.add (i.toNat * 12)).block, (ad.add (i.toNat * 12)).off + 2, none⟩ = some (.int .i64 (rd_T42 xs i).f2) ∧ w.cell? ⟨(ad.add (i.toNat * 12)).block, (ad.add (i.toNat * 12)).off + 3, none⟩ = some (.int .i64 (rd_T42 xs i).f3) ∧ w.cell? ⟨(ad.add (i.toNat * 12)).block, (ad.add (i.toNat * 12)).off + 4, none⟩ = some (.bool (rd_T42 xs i).f4) ∧ w.cell? ⟨(ad.add (i.toNat * 12)).block, (ad.add (i.toNat * 12)).off + 5, none⟩ = some (.int .u8 (rd_T42 xs i).f5) ∧ w.cell? ⟨(ad.add (i.toNat * 12)).block, (ad.add (i.toNat * 12)).off + 6, none⟩ = some (.int .u64 (rd_T42 xs i).f6) ∧ w.cell? ⟨(ad.add (i.toNat * 12)).block, (ad.add (i.toNat * 12)).off + 7, none⟩ = some (.bool (rd_T42 xs i).f7) ∧ w.cell? ⟨(ad.add (i.toNat * 12)).block, (ad.add (i.toNat * 12)).off + 8, none⟩ = some (.int .u64 (rd_T42 xs i).f8) ∧ w.cell? ⟨(ad.add (i.toNat * 12)).block, (ad.add (i.toNat * 12)).off + 9, none⟩ = some (.bool (rd_T42 xs i).f9) ∧ w.cell? ⟨(ad.add (i.toNat * 12)).block, (ad.add (i.toNat * 12)).off + 10, none⟩ = some (.bool (rd_T42 xs i).f10) ∧ w.cell? ⟨(ad.add (i.toNat * 12)).block, (ad.add (i.toNat * 12)).off + 11, none⟩ = some (.int .u32 (rd_T42 xs i).f11) := by
  obtain ⟨ad, c, e, _, hK, hc0⟩ := Kd.C_get h z42 i h0 h1
  have hc : ∀ j u, c[j]? = some u → w.cell? (ad.add (i.toNat * 12 + j)) = some u := hc0
  obtain rfl := k42_open hK
  exact ⟨ad, e, hc 0 _ rfl, by rw [← add_field _ _ 1 (by omega)]; exact hc 1 _ rfl, by rw [← add_field _ _ 2 (by omega)]; exact hc 2 _ rfl, by rw [← add_field _ _ 3 (by omega)]; exact hc 3 _ rfl, by rw [← add_field _ _ 4 (by omega)]; exact hc 4 _ rfl, by rw [← add_field _ _ 5 (by omega)]; exact hc 5 _ rfl, by rw [← add_field _ _ 6 (by omega)]; exact hc 6 _ rfl, by rw [← add_field _ _ 7 (by omega)]; exact hc 7 _ rfl, by rw [← add_field _ _ 8 (by omega)]; exact hc 8 _ rfl, by rw [← add_field _ _ 9 (by omega)]; exact hc 9 _ rfl, by rw [← add_field _ _ 10 (by omega)]; exact hc 10 _ rfl, by rw [← add_field _ _ 11 (by omega)]; exact hc 11 _ rfl⟩

def rd_L16 (xs : List (List S42)) (i : Int) : (List S42) := xs.getD i.toNat ([] : List S42)
theorem at_L16 {w : World} {A : Option Addr} {n : Nat} {xs : List (List S42)} (h : Kd.C (Kd.slice 42 k42) w A n xs) (i : Int) (h0 : 0 ≤ i) (h1 : i < n) : ∃ ad A0 c0, A = some ad ∧ w.cell? (ad.add i.toNat) = some (.slice A0 (rd_L16 xs i).length c0) ∧ (rd_L16 xs i).length ≤ c0 ∧ k42.C w A0 (rd_L16 xs i).length (rd_L16 xs i) := by
  obtain ⟨ad, c, e, _, hK, hc0⟩ := Kd.C_get h ([] : List S42) i h0 h1
  have hc : ∀ j u, c[j]? = some u → w.cell? (ad.add (i.toNat * 1 + j)) = some u := hc0
  obtain ⟨A0, c0, rfl, l0, g0⟩ := hK
  exact ⟨ad, A0, c0, e, by have hq := hc 0 _ rfl; rwa [Nat.mul_one, Nat.add_zero] at hq, l0, g0⟩

/-! #### struct type 67 -/
structure S67 where
  f0 : Int
  f1 : Int
  f2 : Int
  f3 : Bool
  f4 : Int
def z67 : S67 := ⟨(0 : Int), (0 : Int), (0 : Int), false, (0 : Int)⟩
def k67 : Kd S67 := Kd.iso (Kd.pair (Kd.int .u8) (Kd.pair (Kd.int .u64) (Kd.pair (Kd.int .i64) (Kd.pair Kd.bool (Kd.int .u64))))) (fun x : S67 => (x.f0, x.f1, x.f2, x.f3, x.f4))
theorem k67_open {w : World} {x : S67} {cs : List Value} (h : k67.K w x cs) : cs = [.int .u8 x.f0, .int .u64 x.f1, .int .i64 x.f2, .bool x.f3, .int .u64 x.f4] := by
  obtain ⟨_, _, rfl, rfl, ⟨_, _, rfl, rfl, ⟨_, _, rfl, rfl, ⟨_, _, rfl, rfl, rfl⟩⟩⟩⟩ := h
  exact rfl
theorem k67_openM {w : World} {base : Nat} {ok : Nat → Prop} {x : S67} {cs : List Value} (h : k67.M w base ok x cs) : cs = [.int .u8 x.f0, .int .u64 x.f1, .int .i64 x.f2, .bool x.f3, .int .u64 x.f4] := by
  obtain ⟨_, _, rfl, rfl, ⟨_, _, rfl, rfl, ⟨_, _, rfl, rfl, ⟨_, _, rfl, rfl, rfl⟩⟩⟩⟩ := h
  exact rfl
theorem k67_mk (w : World) (x : S67)  : k67.K w x [.int .u8 x.f0, .int .u64 x.f1, .int .i64 x.f2, .bool x.f3, .int .u64 x.f4] := ⟨[.int .u8 x.f0], [.int .u64 x.f1, .int .i64 x.f2, .bool x.f3, .int .u64 x.f4], rfl, rfl, ⟨[.int .u64 x.f1], [.int .i64 x.f2, .bool x.f3, .int .u64 x.f4], rfl, rfl, ⟨[.int .i64 x.f2], [.bool x.f3, .int .u64 x.f4], rfl, rfl, ⟨[.bool x.f3], [.int .u64 x.f4], rfl, rfl, rfl⟩⟩⟩⟩
theorem k67_mkM (w : World) (base : Nat) (ok : Nat → Prop) (x : S67)  : k67.M w base ok x [.int .u8 x.f0, .int .u64 x.f1, .int .i64 x.f2, .bool x.f3, .int .u64 x.f4] := ⟨[.int .u8 x.f0], [.int .u64 x.f1, .int .i64 x.f2, .bool x.f3, .int .u64 x.f4], rfl, rfl, ⟨[.int .u64 x.f1], [.int .i64 x.f2, .bool x.f3, .int .u64 x.f4], rfl, rfl, ⟨[.int .i64 x.f2], [.bool x.f3, .int .u64 x.f4], rfl, rfl, ⟨[.bool x.f3], [.int .u64 x.f4], rfl, rfl, rfl⟩⟩⟩⟩
def rd_T67 (xs : List S67) (i : Int) : S67 := xs.getD i.toNat z67
theorem at_T67 {w : World} {A : Option Addr} {n : Nat} {xs : List S67} (h : Kd.C k67 w A n xs) (i : Int) (h0 : 0 ≤ i) (h1 : i < n) : ∃ ad , A = some ad ∧ w.cell? (ad.add (i.toNat * 5)) = some (.int .u8 (rd_T67 xs i).f0) ∧ w.cell? ⟨(ad.add (i.toNat * 5)).block, (ad.add (i.toNat * 5)).off + 1, none⟩ = some (.int .u64 (rd_T67 xs i).f1) ∧ w.cell? ⟨(ad.add (i.toNat * 5)).block, (ad.add (i.toNat * 5)).off + 2, none⟩ = some (.int .i64 (rd_T67 xs i).f2) ∧ w.cell? ⟨(ad.add (i.toNat * 5)).block, (ad.add (i.toNat * 5)).off + 3, none⟩ = some (.bool (rd_T67 xs i).f3) ∧ w.cell? ⟨(ad.add (i.toNat * 5)).block, (ad.add (i.toNat * 5)).off + 4, none⟩ = some (.int .u64 (rd_T67 xs i).f4) := by
  obtain ⟨ad, c, e, _, hK, hc0⟩ := Kd.C_get h z67 i h0 h1
  have hc : ∀ j u, c[j]? = some u → w.cell? (ad.add (i.toNat * 5 + j)) = some u := hc0
  obtain rfl := k67_open hK
  exact ⟨ad, e, hc 0 _ rfl, by rw [← add_field _ _ 1 (by omega)]; exact hc 1 _ rfl, by rw [← add_field _ _ 2 (by omega)]; exact hc 2 _ rfl, by rw [← add_field _ _ 3 (by omega)]; exact hc 3 _ rfl, by rw [← add_field _ _ 4 (by omega)]; exact hc 4 _ rfl⟩

/-! #### struct type 69 -/
structure S69 where
  f0 : S67
  f1 : Int
  f2 : Int
  f3 : Bool
  f4 : Int
def z69 : S69 := ⟨z67, (0 : Int), (0 : Int), false, (0 : Int)⟩
def k69 : Kd S69 := Kd.iso (Kd.pair k67 (Kd.pair (Kd.int .u64) (Kd.pair (Kd.int .i64) (Kd.pair Kd.bool (Kd.int .u32))))) (fun x : S69 => (x.f0, x.f1, x.f2, x.f3, x.f4))
theorem k69_open {w : World} {x : S69} {cs : List Value} (h : k69.K w x cs) : cs = [.int .u8 x.f0.f0, .int .u64 x.f0.f1, .int .i64 x.f0.f2, .bool x.f0.f3, .int .u64 x.f0.f4, .int .u64 x.f1, .int .i64 x.f2, .bool x.f3, .int .u32 x.f4] := by
  obtain ⟨_, _, rfl, s0, ⟨_, _, rfl, rfl, ⟨_, _, rfl, rfl, ⟨_, _, rfl, rfl, rfl⟩⟩⟩⟩ := h
  obtain rfl := k67_open s0
  exact rfl
theorem k69_openM {w : World} {base : Nat} {ok : Nat → Prop} {x : S69} {cs : List Value} (h : k69.M w base ok x cs) : cs = [.int .u8 x.f0.f0, .int .u64 x.f0.f1, .int .i64 x.f0.f2, .bool x.f0.f3, .int .u64 x.f0.f4, .int .u64 x.f1, .int .i64 x.f2, .bool x.f3, .int .u32 x.f4] := by
  obtain ⟨_, _, rfl, s0, ⟨_, _, rfl, rfl, ⟨_, _, rfl, rfl, ⟨_, _, rfl, rfl, rfl⟩⟩⟩⟩ := h
  obtain rfl := k67_openM s0
  exact rfl
theorem k69_mk (w : World) (x : S69)  : k69.K w x [.int .u8 x.f0.f0, .int .u64 x.f0.f1, .int .i64 x.f0.f2, .bool x.f0.f3, .int .u64 x.f0.f4, .int .u64 x.f1, .int .i64 x.f2, .bool x.f3, .int .u32 x.f4] := ⟨[.int .u8 x.f0.f0, .int .u64 x.f0.f1, .int .i64 x.f0.f2, .bool x.f0.f3, .int .u64 x.f0.f4], [.int .u64 x.f1, .int .i64 x.f2, .bool x.f3, .int .u32 x.f4], rfl, (k67_mk w x.f0 ), ⟨[.int .u64 x.f1], [.int .i64 x.f2, .bool x.f3, .int .u32 x.f4], rfl, rfl, ⟨[.int .i64 x.f2], [.bool x.f3, .int .u32 x.f4], rfl, rfl, ⟨[.bool x.f3], [.int .u32 x.f4], rfl, rfl, rfl⟩⟩⟩⟩
theorem k69_mkM (w : World) (base : Nat) (ok : Nat → Prop) (x : S69)  : k69.M w base ok x [.int .u8 x.f0.f0, .int .u64 x.f0.f1, .int .i64 x.f0.f2, .bool x.f0.f3, .int .u64 x.f0.f4, .int .u64 x.f1, .int .i64 x.f2, .bool x.f3, .int .u32 x.f4] := ⟨[.int .u8 x.f0.f0, .int .u64 x.f0.f1, .int .i64 x.f0.f2, .bool x.f0.f3, .int .u64 x.f0.f4], [.int .u64 x.f1, .int .i64 x.f2, .bool x.f3, .int .u32 x.f4], rfl, (k67_mkM w base ok x.f0 ), ⟨[.int .u64 x.f1], [.int .i64 x.f2, .bool x.f3, .int .u32 x.f4], rfl, rfl, ⟨[.int .i64 x.f2], [.bool x.f3, .int .u32 x.f4], rfl, rfl, ⟨[.bool x.f3], [.int .u32 x.f4], rfl, rfl, rfl⟩⟩⟩⟩
def rd_T69 (xs : List S69) (i : Int) : S69 := xs.getD i.toNat z69
theorem at_T69 {w : World} {A : Option Addr} {n : Nat} {xs : List S69} (h : Kd.C k69 w A n xs) (i : Int) (h0 : 0 ≤ i) (h1 : i < n) : ∃ ad , A = some ad ∧ w.cell? (ad.add (i.toNat * 9)) = some (.int .u8 (rd_T69 xs i).f0.f0) ∧ w.cell? ⟨(ad.add (i.toNat * 9)).block, (ad.add (i.toNat * 9)).off + 1, none⟩ = some (.int .u64 (rd_T69 xs i).f0.f1) ∧ w.cell? ⟨(ad.add (i.toNat * 9)).block, (ad.add (i.toNat * 9)).off + 2, none⟩ = some (.int .i64 (rd_T69 xs i).f0.f2) ∧ w.cell? ⟨(ad.add (i.toNat * 9)).block, (ad.add (i.toNat * 9)).off + 3, none⟩ = some (.bool (rd_T69 xs i).f0.f3) ∧ w.cell? ⟨(ad.add (i.toNat * 9)).block, (ad.add (i.toNat * 9)).off + 4, none⟩ = some (.int .u64 (rd_T69 xs i).f0.f4) ∧ w.cell? ⟨(ad.add (i.toNat * 9)).block, (ad.add (i.toNat * 9)).off + 5, none⟩ = some (.int .u64 (rd_T69 xs i).f1) ∧ w.cell? ⟨(ad.add (i.toNat * 9)).block, (ad.add (i.toNat * 9)).off + 6, none⟩ = some (.int .i64 (rd_T69 xs i).f2) ∧ w.cell? ⟨(ad.add (i.toNat * 9)).block, (ad.add (i.toNat * 9)).off + 7, none⟩ = some (.bool (rd_T69 xs i).f3) ∧ w.cell? ⟨(ad.add (i.toNat * 9)).block, (ad.add (i.toNat * 9)).off + 8, none⟩ = some (.int .u32 (rd_T69 xs i).f4) := by
  obtain ⟨ad, c, e, _, hK, hc0⟩ := Kd.C_get h z69 i h0 h1
  have hc : ∀ j u, c[j]? = some u → w.cell? (ad.add (i.toNat * 9 + j)) = some u := hc0
  obtain rfl := k69_open hK
  exact ⟨ad, e, hc 0 _ rfl, by rw [← add_field _ _ 1 (by omega)]; exact hc 1 _ rfl, by rw [← add_field _ _ 2 (by omega)]; exact hc 2 _ rfl, by rw [← add_field _ _ 3 (by omega)]; exact hc 3 _ rfl, by rw [← add_field _ _ 4 (by omega)]; exact hc 4 _ rfl, by rw [← add_field _ _ 5 (by omega)]; exact hc 5 _ rfl, by rw [← add_field _ _ 6 (by omega)]; exact hc 6 _ rfl, by rw [← add_field _ _ 7 (by omega)]; exact hc 7 _ rfl, by rw [← add_field _ _ 8 (by omega)]; exact hc 8 _ rfl⟩

def rd_L19 (xs : List (List S69)) (i : Int) : (List S69) := xs.getD i.toNat ([] : List S69)
theorem at_L19 {w : World} {A : Option Addr} {n : Nat} {xs : List (List S69)} (h : Kd.C (Kd.slice 69 k69) w A n xs) (i : Int) (h0 : 0 ≤ i) (h1 : i < n) : ∃ ad A0 c0, A = some ad ∧ w.cell? (ad.add i.toNat) = some (.slice A0 (rd_L19 xs i).length c0) ∧ (rd_L19 xs i).length ≤ c0 ∧ k69.C w A0 (rd_L19 xs i).length (rd_L19 xs i) := by
  obtain ⟨ad, c, e, _, hK, hc0⟩ := Kd.C_get h ([] : List S69) i h0 h1
  have hc : ∀ j u, c[j]? = some u → w.cell? (ad.add (i.toNat * 1 + j)) = some u := hc0
  obtain ⟨A0, c0, rfl, l0, g0⟩ := hK
  exact ⟨ad, A0, c0, e, by have hq := hc 0 _ rfl; rwa [Nat.mul_one, Nat.add_zero] at hq, l0, g0⟩

/-! #### struct type 33 -/
structure S33 where
  f0 : Bool
  f1 : Int
  f2 : Int
  f3 : Int
  f4 : Bool
  f5 : Bool
def z33 : S33 := ⟨false, (0 : Int), (0 : Int), (0 : Int), false, false⟩
def k33 : Kd S33 := Kd.iso (Kd.pair Kd.bool (Kd.pair (Kd.int .i64) (Kd.pair (Kd.int .i64) (Kd.pair (Kd.int .i64) (Kd.pair Kd.bool Kd.bool))))) (fun x : S33 => (x.f0, x.f1, x.f2, x.f3, x.f4, x.f5))
theorem k33_open {w : World} {x : S33} {cs : List Value} (h : k33.K w x cs) : cs = [.bool x.f0, .int .i64 x.f1, .int .i64 x.f2, .int .i64 x.f3, .bool x.f4, .bool x.f5] := by
  obtain ⟨_, _, rfl, rfl, ⟨_, _, rfl, rfl, ⟨_, _, rfl, rfl, ⟨_, _, rfl, rfl, ⟨_, _, rfl, rfl, rfl⟩⟩⟩⟩⟩ := h
  exact rfl
theorem k33_openM {w : World} {base : Nat} {ok : Nat → Prop} {x : S33} {cs : List Value} (h : k33.M w base ok x cs) : cs = [.bool x.f0, .int .i64 x.f1, .int .i64 x.f2, .int .i64 x.f3, .bool x.f4, .bool x.f5] := by
  obtain ⟨_, _, rfl, rfl, ⟨_, _, rfl, rfl, ⟨_, _, rfl, rfl, ⟨_, _, rfl, rfl, ⟨_, _, rfl, rfl, rfl⟩⟩⟩⟩⟩ := h
  exact rfl
theorem k33_mk (w : World) (x : S33)  : k33.K w x [.bool x.f0, .int .i64 x.f1, .int .i64 x.f2, .int .i64 x.f3, .bool x.f4, .bool x.f5] := ⟨[.bool x.f0], [.int .i64 x.f1, .int .i64 x.f2, .int .i64 x.f3, .bool x.f4, .bool x.f5], rfl, rfl, ⟨[.int .i64 x.f1], [.int .i64 x.f2, .int .i64 x.f3, .bool x.f4, .bool x.f5], rfl, rfl, ⟨[.int .i64 x.f2], [.int .i64 x.f3, .bool x.f4, .bool x.f5], rfl, rfl, ⟨[.int .i64 x.f3], [.bool x.f4, .bool x.f5], rfl, rfl, ⟨[.bool x.f4], [.bool x.f5], rfl, rfl, rfl⟩⟩⟩⟩⟩
theorem k33_mkM (w : World) (base : Nat) (ok : Nat → Prop) (x : S33)  : k33.M w base ok x [.bool x.f0, .int .i64 x.f1, .int .i64 x.f2, .int .i64 x.f3, .bool x.f4, .bool x.f5] := ⟨[.bool x.f0], [.int .i64 x.f1, .int .i64 x.f2, .int .i64 x.f3, .bool x.f4, .bool x.f5], rfl, rfl, ⟨[.int .i64 x.f1], [.int .i64 x.f2, .int .i64 x.f3, .bool x.f4, .bool x.f5], rfl, rfl, ⟨[.int .i64 x.f2], [.int .i64 x.f3, .bool x.f4, .bool x.f5], rfl, rfl, ⟨[.int .i64 x.f3], [.bool x.f4, .bool x.f5], rfl, rfl, ⟨[.bool x.f4], [.bool x.f5], rfl, rfl, rfl⟩⟩⟩⟩⟩
def rd_T33 (xs : List S33) (i : Int) : S33 := xs.getD i.toNat z33
theorem at_T33 {w : World} {A : Option Addr} {n : Nat} {xs : List S33} (h : Kd.C k33 w A n xs) (i : Int) (h0 : 0 ≤ i) (h1 : i < n) : ∃ ad , A = some ad ∧ w.cell? (ad.add (i.toNat * 6)) = some (.bool (rd_T33 xs i).f0) ∧ w.cell? ⟨(ad.add (i.toNat * 6)).block, (ad.add (i.toNat * 6)).off + 1, none⟩ = some (.int .i64 (rd_T33 xs i).f1) ∧ w.cell? ⟨(ad.add (i.toNat * 6)).block, (ad.add (i.toNat * 6)).off + 2, none⟩ = some (.int .i64 (rd_T33 xs i).f2) ∧ w.cell? ⟨(ad.add (i.toNat * 6)).block, (ad.add (i.toNat * 6)).off + 3, none⟩ = some (.int .i64 (rd_T33 xs i).f3) ∧ w.cell? ⟨(ad.add (i.toNat * 6)).block, (ad.add (i.toNat * 6)).off + 4, none⟩ = some (.bool (rd_T33 xs i).f4) ∧ w.cell? ⟨(ad.add (i.toNat * 6)).block, (ad.add (i.toNat * 6)).off + 5, none⟩ = some (.bool (rd_T33 xs i).f5) := by
  obtain ⟨ad, c, e, _, hK, hc0⟩ := Kd.C_get h z33 i h0 h1
  have hc : ∀ j u, c[j]? = some u → w.cell? (ad.add (i.toNat * 6 + j)) = some u := hc0
  obtain rfl := k33_open hK
  exact ⟨ad, e, hc 0 _ rfl, by rw [← add_field _ _ 1 (by omega)]; exact hc 1 _ rfl, by rw [← add_field _ _ 2 (by omega)]; exact hc 2 _ rfl, by rw [← add_field _ _ 3 (by omega)]; exact hc 3 _ rfl, by rw [← add_field _ _ 4 (by omega)]; exact hc 4 _ rfl, by rw [← add_field _ _ 5 (by omega)]; exact hc 5 _ rfl⟩

def rd_L21 (xs : List (List Int)) (i : Int) : (List Int) := xs.getD i.toNat ([] : List Int)
theorem at_L21 {w : World} {A : Option Addr} {n : Nat} {xs : List (List Int)} (h : Kd.C (Kd.slice 23 (Kd.int .u64)) w A n xs) (i : Int) (h0 : 0 ≤ i) (h1 : i < n) : ∃ ad A0 c0, A = some ad ∧ w.cell? (ad.add i.toNat) = some (.slice A0 (rd_L21 xs i).length c0) ∧ (rd_L21 xs i).length ≤ c0 ∧ (Kd.int .u64).C w A0 (rd_L21 xs i).length (rd_L21 xs i) := by
  obtain ⟨ad, c, e, _, hK, hc0⟩ := Kd.C_get h ([] : List Int) i h0 h1
  have hc : ∀ j u, c[j]? = some u → w.cell? (ad.add (i.toNat * 1 + j)) = some u := hc0
  obtain ⟨A0, c0, rfl, l0, g0⟩ := hK
  exact ⟨ad, A0, c0, e, by have hq := hc 0 _ rfl; rwa [Nat.mul_one, Nat.add_zero] at hq, l0, g0⟩

/-! #### struct type 36 -/
structure S36 where
  f0 : S27
  f1 : S27
  f2 : Int
  f3 : Int
  f4 : Int
  f5 : Int
  f6 : Int
  f7 : (List S93)
  f8 : (List S42)
  f9 : (List S69)
  f10 : S33
  f11 : (List Int)
def z36 : S36 := ⟨z27, z27, (0 : Int), (0 : Int), (0 : Int), (0 : Int), (0 : Int), ([] : List S93), ([] : List S42), ([] : List S69), z33, ([] : List Int)⟩
def k36 : Kd S36 := Kd.iso (Kd.pair k27 (Kd.pair k27 (Kd.pair (Kd.int .u32) (Kd.pair (Kd.int .u64) (Kd.pair (Kd.int .i64) (Kd.pair (Kd.int .u64) (Kd.pair (Kd.int .u64) (Kd.pair (Kd.slice 93 k93) (Kd.pair (Kd.slice 42 k42) (Kd.pair (Kd.slice 69 k69) (Kd.pair k33 (Kd.slice 23 (Kd.int .u64))))))))))))) (fun x : S36 => (x.f0, x.f1, x.f2, x.f3, x.f4, x.f5, x.f6, x.f7, x.f8, x.f9, x.f10, x.f11))
theorem k36_open {w : World} {x : S36} {cs : List Value} (h : k36.K w x cs) : ∃ A0 c0 A18 c18 A19 c19 A20 c20 A38 c38 A39 c39 A45 c45 A46 c46 A47 c47 A54 c54, cs = [.slice A0 x.f0.f0.length c0, .int .u8 x.f0.f1, .int .i64 x.f0.f2, .bool x.f0.f3, .int .i64 x.f0.f4, .int .i64 x.f0.f5, .int .i64 x.f0.f6, .int .i64 x.f0.f7, .int .i64 x.f0.f8, .int .i64 x.f0.f9, .int .u64 x.f0.f10, .int .u64 x.f0.f11, .int .u64 x.f0.f12, .int .u64 x.f0.f13, .int .u64 x.f0.f14, .int .u64 x.f0.f15, .bool x.f0.f16, .int .i64 x.f0.f17, .slice A18 x.f0.f18.length c18, .slice A19 x.f0.f19.length c19, .slice A20 x.f1.f0.length c20, .int .u8 x.f1.f1, .int .i64 x.f1.f2, .bool x.f1.f3, .int .i64 x.f1.f4, .int .i64 x.f1.f5, .int .i64 x.f1.f6, .int .i64 x.f1.f7, .int .i64 x.f1.f8, .int .i64 x.f1.f9, .int .u64 x.f1.f10, .int .u64 x.f1.f11, .int .u64 x.f1.f12, .int .u64 x.f1.f13, .int .u64 x.f1.f14, .int .u64 x.f1.f15, .bool x.f1.f16, .int .i64 x.f1.f17, .slice A38 x.f1.f18.length c38, .slice A39 x.f1.f19.length c39, .int .u32 x.f2, .int .u64 x.f3, .int .i64 x.f4, .int .u64 x.f5, .int .u64 x.f6, .slice A45 x.f7.length c45, .slice A46 x.f8.length c46, .slice A47 x.f9.length c47, .bool x.f10.f0, .int .i64 x.f10.f1, .int .i64 x.f10.f2, .int .i64 x.f10.f3, .bool x.f10.f4, .bool x.f10.f5, .slice A54 x.f11.length c54] ∧ x.f0.f0.length ≤ c0 ∧ k87.C w A0 x.f0.f0.length x.f0.f0 ∧ x.f0.f18.length ≤ c18 ∧ k89.C w A18 x.f0.f18.length x.f0.f18 ∧ x.f0.f19.length ≤ c19 ∧ k91.C w A19 x.f0.f19.length x.f0.f19 ∧ x.f1.f0.length ≤ c20 ∧ k87.C w A20 x.f1.f0.length x.f1.f0 ∧ x.f1.f18.length ≤ c38 ∧ k89.C w A38 x.f1.f18.length x.f1.f18 ∧ x.f1.f19.length ≤ c39 ∧ k91.C w A39 x.f1.f19.length x.f1.f19 ∧ x.f7.length ≤ c45 ∧ k93.C w A45 x.f7.length x.f7 ∧ x.f8.length ≤ c46 ∧ k42.C w A46 x.f8.length x.f8 ∧ x.f9.length ≤ c47 ∧ k69.C w A47 x.f9.length x.f9 ∧ x.f11.length ≤ c54 ∧ (Kd.int .u64).C w A54 x.f11.length x.f11 := by
  obtain ⟨_, _, rfl, s0, ⟨_, _, rfl, s20, ⟨_, _, rfl, rfl, ⟨_, _, rfl, rfl, ⟨_, _, rfl, rfl, ⟨_, _, rfl, rfl, ⟨_, _, rfl, rfl, ⟨_, _, rfl, ⟨A45, c45, rfl, l45, g45⟩, ⟨_, _, rfl, ⟨A46, c46, rfl, l46, g46⟩, ⟨_, _, rfl, ⟨A47, c47, rfl, l47, g47⟩, ⟨_, _, rfl, s48, ⟨A54, c54, rfl, l54, g54⟩⟩⟩⟩⟩⟩⟩⟩⟩⟩⟩⟩ := h
  obtain ⟨A0, c0, A18, c18, A19, c19, rfl, l0, g0, l18, g18, l19, g19⟩ := k27_open s0
  obtain ⟨A20, c20, A38, c38, A39, c39, rfl, l20, g20, l38, g38, l39, g39⟩ := k27_open s20
  obtain rfl := k33_open s48
  exact ⟨A0, c0, A18, c18, A19, c19, A20, c20, A38, c38, A39, c39, A45, c45, A46, c46, A47, c47, A54, c54, rfl, l0, g0, l18, g18, l19, g19, l20, g20, l38, g38, l39, g39, l45, g45, l46, g46, l47, g47, l54, g54⟩
theorem k36_openM {w : World} {base : Nat} {ok : Nat → Prop} {x : S36} {cs : List Value} (h : k36.M w base ok x cs) : ∃ v0 v18 v19 v20 v38 v39 v45 v46 v47 v54, cs = [v0, .int .u8 x.f0.f1, .int .i64 x.f0.f2, .bool x.f0.f3, .int .i64 x.f0.f4, .int .i64 x.f0.f5, .int .i64 x.f0.f6, .int .i64 x.f0.f7, .int .i64 x.f0.f8, .int .i64 x.f0.f9, .int .u64 x.f0.f10, .int .u64 x.f0.f11, .int .u64 x.f0.f12, .int .u64 x.f0.f13, .int .u64 x.f0.f14, .int .u64 x.f0.f15, .bool x.f0.f16, .int .i64 x.f0.f17, v18, v19, v20, .int .u8 x.f1.f1, .int .i64 x.f1.f2, .bool x.f1.f3, .int .i64 x.f1.f4, .int .i64 x.f1.f5, .int .i64 x.f1.f6, .int .i64 x.f1.f7, .int .i64 x.f1.f8, .int .i64 x.f1.f9, .int .u64 x.f1.f10, .int .u64 x.f1.f11, .int .u64 x.f1.f12, .int .u64 x.f1.f13, .int .u64 x.f1.f14, .int .u64 x.f1.f15, .bool x.f1.f16, .int .i64 x.f1.f17, v38, v39, .int .u32 x.f2, .int .u64 x.f3, .int .i64 x.f4, .int .u64 x.f5, .int .u64 x.f6, v45, v46, v47, .bool x.f10.f0, .int .i64 x.f10.f1, .int .i64 x.f10.f2, .int .i64 x.f10.f3, .bool x.f10.f4, .bool x.f10.f5, v54] ∧ k87.R 87 w base ok v0 x.f0.f0 ∧ k89.R 89 w base ok v18 x.f0.f18 ∧ k91.R 91 w base ok v19 x.f0.f19 ∧ k87.R 87 w base ok v20 x.f1.f0 ∧ k89.R 89 w base ok v38 x.f1.f18 ∧ k91.R 91 w base ok v39 x.f1.f19 ∧ k93.R 93 w base ok v45 x.f7 ∧ k42.R 42 w base ok v46 x.f8 ∧ k69.R 69 w base ok v47 x.f9 ∧ (Kd.int .u64).R 23 w base ok v54 x.f11 := by
  obtain ⟨_, _, rfl, s0, ⟨_, _, rfl, s20, ⟨_, _, rfl, rfl, ⟨_, _, rfl, rfl, ⟨_, _, rfl, rfl, ⟨_, _, rfl, rfl, ⟨_, _, rfl, rfl, ⟨_, _, rfl, ⟨v45, rfl, g45⟩, ⟨_, _, rfl, ⟨v46, rfl, g46⟩, ⟨_, _, rfl, ⟨v47, rfl, g47⟩, ⟨_, _, rfl, s48, ⟨v54, rfl, g54⟩⟩⟩⟩⟩⟩⟩⟩⟩⟩⟩⟩ := h
  obtain ⟨v0, v18, v19, rfl, g0, g18, g19⟩ := k27_openM s0
  obtain ⟨v20, v38, v39, rfl, g20, g38, g39⟩ := k27_openM s20
  obtain rfl := k33_openM s48
  exact ⟨v0, v18, v19, v20, v38, v39, v45, v46, v47, v54, rfl, g0, g18, g19, g20, g38, g39, g45, g46, g47, g54⟩
theorem k36_mk (w : World) (x : S36) {A0 : Option Addr} {c0 : Nat} (l0 : x.f0.f0.length ≤ c0) (g0 : k87.C w A0 x.f0.f0.length x.f0.f0) {A18 : Option Addr} {c18 : Nat} (l18 : x.f0.f18.length ≤ c18) (g18 : k89.C w A18 x.f0.f18.length x.f0.f18) {A19 : Option Addr} {c19 : Nat} (l19 : x.f0.f19.length ≤ c19) (g19 : k91.C w A19 x.f0.f19.length x.f0.f19) {A20 : Option Addr} {c20 : Nat} (l20 : x.f1.f0.length ≤ c20) (g20 : k87.C w A20 x.f1.f0.length x.f1.f0) {A38 : Option Addr} {c38 : Nat} (l38 : x.f1.f18.length ≤ c38) (g38 : k89.C w A38 x.f1.f18.length x.f1.f18) {A39 : Option Addr} {c39 : Nat} (l39 : x.f1.f19.length ≤ c39) (g39 : k91.C w A39 x.f1.f19.length x.f1.f19) {A45 : Option Addr} {c45 : Nat} (l45 : x.f7.length ≤ c45) (g45 : k93.C w A45 x.f7.length x.f7) {A46 : Option Addr} {c46 : Nat} (l46 : x.f8.length ≤ c46) (g46 : k42.C w A46 x.f8.length x.f8) {A47 : Option Addr} {c47 : Nat} (l47 : x.f9.length ≤ c47) (g47 : k69.C w A47 x.f9.length x.f9) {A54 : Option Addr} {c54 : Nat} (l54 : x.f11.length ≤ c54) (g54 : (Kd.int .u64).C w A54 x.f11.length x.f11) : k36.K w x [.slice A0 x.f0.f0.length c0, .int .u8 x.f0.f1, .int .i64 x.f0.f2, .bool x.f0.f3, .int .i64 x.f0.f4, .int .i64 x.f0.f5, .int .i64 x.f0.f6, .int .i64 x.f0.f7, .int .i64 x.f0.f8, .int .i64 x.f0.f9, .int .u64 x.f0.f10, .int .u64 x.f0.f11, .int .u64 x.f0.f12, .int .u64 x.f0.f13, .int .u64 x.f0.f14, .int .u64 x.f0.f15, .bool x.f0.f16, .int .i64 x.f0.f17, .slice A18 x.f0.f18.length c18, .slice A19 x.f0.f19.length c19, .slice A20 x.f1.f0.length c20, .int .u8 x.f1.f1, .int .i64 x.f1.f2, .bool x.f1.f3, .int .i64 x.f1.f4, .int .i64 x.f1.f5, .int .i64 x.f1.f6, .int .i64 x.f1.f7, .int .i64 x.f1.f8, .int .i64 x.f1.f9, .int .u64 x.f1.f10, .int .u64 x.f1.f11, .int .u64 x.f1.f12, .int .u64 x.f1.f13, .int .u64 x.f1.f14, .int .u64 x.f1.f15, .bool x.f1.f16, .int .i64 x.f1.f17, .slice A38 x.f1.f18.length c38, .slice A39 x.f1.f19.length c39, .int .u32 x.f2, .int .u64 x.f3, .int .i64 x.f4, .int .u64 x.f5, .int .u64 x.f6, .slice A45 x.f7.length c45, .slice A46 x.f8.length c46, .slice A47 x.f9.length c47, .bool x.f10.f0, .int .i64 x.f10.f1, .int .i64 x.f10.f2, .int .i64 x.f10.f3, .bool x.f10.f4, .bool x.f10.f5, .slice A54 x.f11.length c54] := ⟨[.slice A0 x.f0.f0.length c0, .int .u8 x.f0.f1, .int .i64 x.f0.f2, .bool x.f0.f3, .int .i64 x.f0.f4, .int .i64 x.f0.f5, .int .i64 x.f0.f6, .int .i64 x.f0.f7, .int .i64 x.f0.f8, .int .i64 x.f0.f9, .int .u64 x.f0.f10, .int .u64 x.f0.f11, .int .u64 x.f0.f12, .int .u64 x.f0.f13, .int .u64 x.f0.f14, .int .u64 x.f0.f15, .bool x.f0.f16, .int .i64 x.f0.f17, .slice A18 x.f0.f18.length c18, .slice A19 x.f0.f19.length c19], [.slice A20 x.f1.f0.length c20, .int .u8 x.f1.f1, .int .i64 x.f1.f2, .bool x.f1.f3, .int .i64 x.f1.f4, .int .i64 x.f1.f5, .int .i64 x.f1.f6, .int .i64 x.f1.f7, .int .i64 x.f1.f8, .int .i64 x.f1.f9, .int .u64 x.f1.f10, .int .u64 x.f1.f11, .int .u64 x.f1.f12, .int .u64 x.f1.f13, .int .u64 x.f1.f14, .int .u64 x.f1.f15, .bool x.f1.f16, .int .i64 x.f1.f17, .slice A38 x.f1.f18.length c38, .slice A39 x.f1.f19.length c39, .int .u32 x.f2, .int .u64 x.f3, .int .i64 x.f4, .int .u64 x.f5, .int .u64 x.f6, .slice A45 x.f7.length c45, .slice A46 x.f8.length c46, .slice A47 x.f9.length c47, .bool x.f10.f0, .int .i64 x.f10.f1, .int .i64 x.f10.f2, .int .i64 x.f10.f3, .bool x.f10.f4, .bool x.f10.f5, .slice A54 x.f11.length c54], rfl, (k27_mk w x.f0 l0 g0 l18 g18 l19 g19), ⟨[.slice A20 x.f1.f0.length c20, .int .u8 x.f1.f1, .int .i64 x.f1.f2, .bool x.f1.f3, .int .i64 x.f1.f4, .int .i64 x.f1.f5, .int .i64 x.f1.f6, .int .i64 x.f1.f7, .int .i64 x.f1.f8, .int .i64 x.f1.f9, .int .u64 x.f1.f10, .int .u64 x.f1.f11, .int .u64 x.f1.f12, .int .u64 x.f1.f13, .int .u64 x.f1.f14, .int .u64 x.f1.f15, .bool x.f1.f16, .int .i64 x.f1.f17, .slice A38 x.f1.f18.length c38, .slice A39 x.f1.f19.length c39], [.int .u32 x.f2, .int .u64 x.f3, .int .i64 x.f4, .int .u64 x.f5, .int .u64 x.f6, .slice A45 x.f7.length c45, .slice A46 x.f8.length c46, .slice A47 x.f9.length c47, .bool x.f10.f0, .int .i64 x.f10.f1, .int .i64 x.f10.f2, .int .i64 x.f10.f3, .bool x.f10.f4, .bool x.f10.f5, .slice A54 x.f11.length c54], rfl, (k27_mk w x.f1 l20 g20 l38 g38 l39 g39), ⟨[.int .u32 x.f2], [.int .u64 x.f3, .int .i64 x.f4, .int .u64 x.f5, .int .u64 x.f6, .slice A45 x.f7.length c45, .slice A46 x.f8.length c46, .slice A47 x.f9.length c47, .bool x.f10.f0, .int .i64 x.f10.f1, .int .i64 x.f10.f2, .int .i64 x.f10.f3, .bool x.f10.f4, .bool x.f10.f5, .slice A54 x.f11.length c54], rfl, rfl, ⟨[.int .u64 x.f3], [.int .i64 x.f4, .int .u64 x.f5, .int .u64 x.f6, .slice A45 x.f7.length c45, .slice A46 x.f8.length c46, .slice A47 x.f9.length c47, .bool x.f10.f0, .int .i64 x.f10.f1, .int .i64 x.f10.f2, .int .i64 x.f10.f3, .bool x.f10.f4, .bool x.f10.f5, .slice A54 x.f11.length c54], rfl, rfl, ⟨[.int .i64 x.f4], [.int .u64 x.f5, .int .u64 x.f6, .slice A45 x.f7.length c45, .slice A46 x.f8.length c46, .slice A47 x.f9.length c47, .bool x.f10.f0, .int .i64 x.f10.f1, .int .i64 x.f10.f2, .int .i64 x.f10.f3, .bool x.f10.f4, .bool x.f10.f5, .slice A54 x.f11.length c54], rfl, rfl, ⟨[.int .u64 x.f5], [.int .u64 x.f6, .slice A45 x.f7.length c45, .slice A46 x.f8.length c46, .slice A47 x.f9.length c47, .bool x.f10.f0, .int .i64 x.f10.f1, .int .i64 x.f10.f2, .int .i64 x.f10.f3, .bool x.f10.f4, .bool x.f10.f5, .slice A54 x.f11.length c54], rfl, rfl, ⟨[.int .u64 x.f6], [.slice A45 x.f7.length c45, .slice A46 x.f8.length c46, .slice A47 x.f9.length c47, .bool x.f10.f0, .int .i64 x.f10.f1, .int .i64 x.f10.f2, .int .i64 x.f10.f3, .bool x.f10.f4, .bool x.f10.f5, .slice A54 x.f11.length c54], rfl, rfl, ⟨[.slice A45 x.f7.length c45], [.slice A46 x.f8.length c46, .slice A47 x.f9.length c47, .bool x.f10.f0, .int .i64 x.f10.f1, .int .i64 x.f10.f2, .int .i64 x.f10.f3, .bool x.f10.f4, .bool x.f10.f5, .slice A54 x.f11.length c54], rfl, ⟨A45, c45, rfl, l45, g45⟩, ⟨[.slice A46 x.f8.length c46], [.slice A47 x.f9.length c47, .bool x.f10.f0, .int .i64 x.f10.f1, .int .i64 x.f10.f2, .int .i64 x.f10.f3, .bool x.f10.f4, .bool x.f10.f5, .slice A54 x.f11.length c54], rfl, ⟨A46, c46, rfl, l46, g46⟩, ⟨[.slice A47 x.f9.length c47], [.bool x.f10.f0, .int .i64 x.f10.f1, .int .i64 x.f10.f2, .int .i64 x.f10.f3, .bool x.f10.f4, .bool x.f10.f5, .slice A54 x.f11.length c54], rfl, ⟨A47, c47, rfl, l47, g47⟩, ⟨[.bool x.f10.f0, .int .i64 x.f10.f1, .int .i64 x.f10.f2, .int .i64 x.f10.f3, .bool x.f10.f4, .bool x.f10.f5], [.slice A54 x.f11.length c54], rfl, (k33_mk w x.f10 ), ⟨A54, c54, rfl, l54, g54⟩⟩⟩⟩⟩⟩⟩⟩⟩⟩⟩⟩
theorem k36_mkM (w : World) (base : Nat) (ok : Nat → Prop) (x : S36) {v0 : Value} (g0 : k87.R 87 w base ok v0 x.f0.f0) {v18 : Value} (g18 : k89.R 89 w base ok v18 x.f0.f18) {v19 : Value} (g19 : k91.R 91 w base ok v19 x.f0.f19) {v20 : Value} (g20 : k87.R 87 w base ok v20 x.f1.f0) {v38 : Value} (g38 : k89.R 89 w base ok v38 x.f1.f18) {v39 : Value} (g39 : k91.R 91 w base ok v39 x.f1.f19) {v45 : Value} (g45 : k93.R 93 w base ok v45 x.f7) {v46 : Value} (g46 : k42.R 42 w base ok v46 x.f8) {v47 : Value} (g47 : k69.R 69 w base ok v47 x.f9) {v54 : Value} (g54 : (Kd.int .u64).R 23 w base ok v54 x.f11) : k36.M w base ok x [v0, .int .u8 x.f0.f1, .int .i64 x.f0.f2, .bool x.f0.f3, .int .i64 x.f0.f4, .int .i64 x.f0.f5, .int .i64 x.f0.f6, .int .i64 x.f0.f7, .int .i64 x.f0.f8, .int .i64 x.f0.f9, .int .u64 x.f0.f10, .int .u64 x.f0.f11, .int .u64 x.f0.f12, .int .u64 x.f0.f13, .int .u64 x.f0.f14, .int .u64 x.f0.f15, .bool x.f0.f16, .int .i64 x.f0.f17, v18, v19, v20, .int .u8 x.f1.f1, .int .i64 x.f1.f2, .bool x.f1.f3, .int .i64 x.f1.f4, .int .i64 x.f1.f5, .int .i64 x.f1.f6, .int .i64 x.f1.f7, .int .i64 x.f1.f8, .int .i64 x.f1.f9, .int .u64 x.f1.f10, .int .u64 x.f1.f11, .int .u64 x.f1.f12, .int .u64 x.f1.f13, .int .u64 x.f1.f14, .int .u64 x.f1.f15, .bool x.f1.f16, .int .i64 x.f1.f17, v38, v39, .int .u32 x.f2, .int .u64 x.f3, .int .i64 x.f4, .int .u64 x.f5, .int .u64 x.f6, v45, v46, v47, .bool x.f10.f0, .int .i64 x.f10.f1, .int .i64 x.f10.f2, .int .i64 x.f10.f3, .bool x.f10.f4, .bool x.f10.f5, v54] := ⟨[v0, .int .u8 x.f0.f1, .int .i64 x.f0.f2, .bool x.f0.f3, .int .i64 x.f0.f4, .int .i64 x.f0.f5, .int .i64 x.f0.f6, .int .i64 x.f0.f7, .int .i64 x.f0.f8, .int .i64 x.f0.f9, .int .u64 x.f0.f10, .int .u64 x.f0.f11, .int .u64 x.f0.f12, .int .u64 x.f0.f13, .int .u64 x.f0.f14, .int .u64 x.f0.f15, .bool x.f0.f16, .int .i64 x.f0.f17, v18, v19], [v20, .int .u8 x.f1.f1, .int .i64 x.f1.f2, .bool x.f1.f3, .int .i64 x.f1.f4, .int .i64 x.f1.f5, .int .i64 x.f1.f6, .int .i64 x.f1.f7, .int .i64 x.f1.f8, .int .i64 x.f1.f9, .int .u64 x.f1.f10, .int .u64 x.f1.f11, .int .u64 x.f1.f12, .int .u64 x.f1.f13, .int .u64 x.f1.f14, .int .u64 x.f1.f15, .bool x.f1.f16, .int .i64 x.f1.f17, v38, v39, .int .u32 x.f2, .int .u64 x.f3, .int .i64 x.f4, .int .u64 x.f5, .int .u64 x.f6, v45, v46, v47, .bool x.f10.f0, .int .i64 x.f10.f1, .int .i64 x.f10.f2, .int .i64 x.f10.f3, .bool x.f10.f4, .bool x.f10.f5, v54], rfl, (k27_mkM w base ok x.f0 g0 g18 g19), ⟨[v20, .int .u8 x.f1.f1, .int .i64 x.f1.f2, .bool x.f1.f3, .int .i64 x.f1.f4, .int .i64 x.f1.f5, .int .i64 x.f1.f6, .int .i64 x.f1.f7, .int .i64 x.f1.f8, .int .i64 x.f1.f9, .int .u64 x.f1.f10, .int .u64 x.f1.f11, .int .u64 x.f1.f12, .int .u64 x.f1.f13, .int .u64 x.f1.f14, .int .u64 x.f1.f15, .bool x.f1.f16, .int .i64 x.f1.f17, v38, v39], [.int .u32 x.f2, .int .u64 x.f3, .int .i64 x.f4, .int .u64 x.f5, .int .u64 x.f6, v45, v46, v47, .bool x.f10.f0, .int .i64 x.f10.f1, .int .i64 x.f10.f2, .int .i64 x.f10.f3, .bool x.f10.f4, .bool x.f10.f5, v54], rfl, (k27_mkM w base ok x.f1 g20 g38 g39), ⟨[.int .u32 x.f2], [.int .u64 x.f3, .int .i64 x.f4, .int .u64 x.f5, .int .u64 x.f6, v45, v46, v47, .bool x.f10.f0, .int .i64 x.f10.f1, .int .i64 x.f10.f2, .int .i64 x.f10.f3, .bool x.f10.f4, .bool x.f10.f5, v54], rfl, rfl, ⟨[.int .u64 x.f3], [.int .i64 x.f4, .int .u64 x.f5, .int .u64 x.f6, v45, v46, v47, .bool x.f10.f0, .int .i64 x.f10.f1, .int .i64 x.f10.f2, .int .i64 x.f10.f3, .bool x.f10.f4, .bool x.f10.f5, v54], rfl, rfl, ⟨[.int .i64 x.f4], [.int .u64 x.f5, .int .u64 x.f6, v45, v46, v47, .bool x.f10.f0, .int .i64 x.f10.f1, .int .i64 x.f10.f2, .int .i64 x.f10.f3, .bool x.f10.f4, .bool x.f10.f5, v54], rfl, rfl, ⟨[.int .u64 x.f5], [.int .u64 x.f6, v45, v46, v47, .bool x.f10.f0, .int .i64 x.f10.f1, .int .i64 x.f10.f2, .int .i64 x.f10.f3, .bool x.f10.f4, .bool x.f10.f5, v54], rfl, rfl, ⟨[.int .u64 x.f6], [v45, v46, v47, .bool x.f10.f0, .int .i64 x.f10.f1, .int .i64 x.f10.f2, .int .i64 x.f10.f3, .bool x.f10.f4, .bool x.f10.f5, v54], rfl, rfl, ⟨[v45], [v46, v47, .bool x.f10.f0, .int .i64 x.f10.f1, .int .i64 x.f10.f2, .int .i64 x.f10.f3, .bool x.f10.f4, .bool x.f10.f5, v54], rfl, ⟨v45, rfl, g45⟩, ⟨[v46], [v47, .bool x.f10.f0, .int .i64 x.f10.f1, .int .i64 x.f10.f2, .int .i64 x.f10.f3, .bool x.f10.f4, .bool x.f10.f5, v54], rfl, ⟨v46, rfl, g46⟩, ⟨[v47], [.bool x.f10.f0, .int .i64 x.f10.f1, .int .i64 x.f10.f2, .int .i64 x.f10.f3, .bool x.f10.f4, .bool x.f10.f5, v54], rfl, ⟨v47, rfl, g47⟩, ⟨[.bool x.f10.f0, .int .i64 x.f10.f1, .int .i64 x.f10.f2, .int .i64 x.f10.f3, .bool x.f10.f4, .bool x.f10.f5], [v54], rfl, (k33_mkM w base ok x.f10 ), ⟨v54, rfl, g54⟩⟩⟩⟩⟩⟩⟩⟩⟩⟩⟩⟩
def rd_T36 (xs : List S36) (i : Int) : S36 := xs.getD i.toNat z36
theorem at_T36 {w : World} {A : Option Addr} {n : Nat} {xs : List S36} (h : Kd.C k36 w A n xs) (i : Int) (h0 : 0 ≤ i) (h1 : i < n) : ∃ ad A0 c0 A18 c18 A19 c19 A20 c20 A38 c38 A39 c39 A45 c45 A46 c46 A47 c47 A54 c54, A = some ad ∧ w.cell? (ad.add (i.toNat * 55)) = some (.slice A0 (rd_T36 xs i).f0.f0.length c0) ∧ w.cell? ⟨(ad.add (i.toNat * 55)).block, (ad.add (i.toNat * 55)).off + 1, none⟩ = some (.int .u8 (rd_T36 xs i).f0.f1) ∧ w.cell? ⟨(ad.add (i.toNat * 55)).block, (ad.add (i.toNat * 55)).off + 2, none⟩ = some (.int .i64 (rd_T36 xs i).f0.f2) ∧ w.cell? ⟨(ad.add (i.toNat * 55)).block, (ad.add (i.toNat * 55)).off + 3, none⟩ = some (.bool (rd_T36 xs i).f0.f3) ∧ w.cell? ⟨(ad.add (i.toNat * 55)).block, (ad.add (i.toNat * 55)).off + 4, none⟩ = some (.int .i64 (rd_T36 xs i).f0.f4) ∧ w.cell? ⟨(ad.add (i.toNat * 55)).block, (ad.add (i.toNat * 55)).off + 5, none⟩ = some (.int .i64 (rd_T36 xs i).f0.f5) ∧ w.cell? ⟨(ad.add (i.toNat * 55)).block, (ad.add (i.toNat * 55)).off + 6, none⟩ = some (.int .i64 (rd_T36 xs i).f0.f6) ∧ w.cell? ⟨(ad.add (i.toNat * 55)).block, (ad.add (i.toNat * 55)).off + 7, none⟩ = some (.int .i64 (rd_T36 xs i).f0.f7) ∧ w.cell? ⟨(ad.add (i.toNat * 55)).block, (ad.add (i.toNat * 55)).off + 8, none⟩ = some (.int .i64 (rd_T36 xs i).f0.f8) ∧ w.cell? ⟨(ad.add (i.toNat * 55)).block, (ad.add (i.toNat * 55)).off + 9, none⟩ = some (.int .i64 (rd_T36 xs i).f0.f9) ∧ w.cell? ⟨(ad.add (i.toNat * 55)).block, (ad.add (i.toNat * 55)).off + 10, none⟩ = some (.int .u64 (rd_T36 xs i).f0.f10) ∧ w.cell? ⟨(ad.add (i.toNat * 55)).block, (ad.add (i.toNat * 55)).off + 11, none⟩ = some (.int .u64 (rd_T36 xs i).f0.f11) ∧ w.cell? ⟨(ad.add (i.toNat * 55)).block, (ad.add (i.toNat * 55)).off + 12, none⟩ = some (.int .u64 (rd_T36 xs i).f0.f12) ∧ w.cell? ⟨(ad.add (i.toNat * 55)).block, (ad.add (i.toNat * 55)).off + 13, none⟩ = some (.int .u64 (rd_T36 xs i).f0.f13) ∧ w.cell? ⟨(ad.add (i.toNat * 55)).block, (ad.add (i.toNat * 55)).off + 14, none⟩ = some (.int .u64 (rd_T36 xs i).f0.f14) ∧ w.cell? ⟨(ad.add (i.toNat * 55)).block, (ad.add (i.toNat * 55)).off + 15, none⟩ = some (.int .u64 (rd_T36 xs i).f0.f15) ∧ w.cell? ⟨(ad.add (i.toNat * 55)).block, (ad.add (i.toNat * 55)).off + 16, none⟩ = some (.bool (rd_T36 xs i).f0.f16) ∧ w.cell? ⟨(ad.add (i.toNat * 55)).block, (ad.add (i.toNat * 55)).off + 17, none⟩ = some (.int .i64 (rd_T36 xs i).f0.f17) ∧ w.cell? ⟨(ad.add (i.toNat * 55)).block, (ad.add (i.toNat * 55)).off + 18, none⟩ = some (.slice A18 (rd_T36 xs i).f0.f18.length c18) ∧ w.cell? ⟨(ad.add (i.toNat * 55)).block, (ad.add (i.toNat * 55)).off + 19, none⟩ = some (.slice A19 (rd_T36 xs i).f0.f19.length c19) ∧ w.cell? ⟨(ad.add (i.toNat * 55)).block, (ad.add (i.toNat * 55)).off + 20, none⟩ = some (.slice A20 (rd_T36 xs i).f1.f0.length c20) ∧ w.cell? ⟨(ad.add (i.toNat * 55)).block, (ad.add (i.toNat * 55)).off + 21, none⟩ = some (.int .u8 (rd_T36 xs i).f1.f1) ∧ w.cell? ⟨(ad.add (i.toNat * 55)).block, (ad.add (i.toNat * 55)).off + 22, none⟩ = some (.int .i64 (rd_T36 xs i).f1.f2) ∧ w.cell? ⟨(ad.add (i.toNat * 55)).block, (ad.add (i.toNat * 55)).off + 23, none⟩ = some (.bool (rd_T36 xs i).f1.f3) ∧ w.cell? ⟨(ad.add (i.toNat * 55)).block, (ad.add (i.toNat * 55)).off + 24, none⟩ = some (.int .i64 (rd_T36 xs i).f1.f4) ∧ w.cell? ⟨(ad.add (i.toNat * 55)).block, (ad.add (i.toNat * 55)).off + 25, none⟩ = some (.int .i64 (rd_T36 xs i).f1.f5) ∧ w.cell? ⟨(ad.add (i.toNat * 55)).block, (ad.add (i.toNat * 55)).off + 26, none⟩ = some (.int .i64 (rd_T36 xs i).f1.f6) ∧ w.cell? ⟨(ad.add (i.toNat * 55)).block, (ad.add (i.toNat * 55)).off + 27, none⟩ = some (.int .i64 (rd_T36 xs i).f1.f7) ∧ w.cell? ⟨(ad.add (i.toNat * 55)).block, (ad.add (i.toNat * 55)).off + 28, none⟩ = some (.int .i64 (rd_T36 xs i).f1.f8) ∧ w.cell? ⟨(ad.add (i.toNat * 55)).block, (ad.add (i.toNat * 55)).off + 29, none⟩ = some (.int .i64 (rd_T36 xs i).f1.f9) ∧ w.cell? ⟨(ad.add (i.toNat * 55)).block, (ad.add (i.toNat * 55)).off + 30, none⟩ = some (.int .u64 (rd_T36 xs i).f1.f10) ∧ w.cell? ⟨(ad.add (i.toNat * 55)).block, (ad.add (i.toNat * 55)).off + 31, none⟩ = some (.int .u64 (rd_T36 xs i).f1.f11) ∧ w.cell? ⟨(ad.add (i.toNat * 55)).block, (ad.add (i.toNat * 55)).off + 32, none⟩ = some (.int .u64 (rd_T36 xs i).f1.f12) ∧ w.cell? ⟨(ad.add (i.toNat * 55)).block, (ad.add (i.toNat * 55)).off + 33, none⟩ = some (.int .u64 (rd_T36 xs i).f1.f13) ∧ w.cell? ⟨(ad.add (i.toNat * 55)).block, (ad.add (i.toNat * 55)).off + 34, none⟩ = some (.int .u64 (rd_T36 xs i).f1.f14) ∧ w.cell? ⟨(ad.add (i.toNat * 55)).block, (ad.add (i.toNat * 55)).off + 35, none⟩ = some (.int .u64 (rd_T36 xs i).f1.f15) ∧ w.cell? ⟨(ad.add (i.toNat * 55)).block, (ad.add (i.toNat * 55)).off + 36, none⟩ = some (.bool (rd_T36 xs i).f1.f16) ∧ w.cell? ⟨(ad.add (i.toNat * 55)).block, (ad.add (i.toNat * 55)).off + 37, none⟩ = some (.int .i64 (rd_T36 xs i).f1.f17) ∧ w.cell? ⟨(ad.add (i.toNat * 55)).block, (ad.add (i.toNat * 55)).off + 38, none⟩ = some (.slice A38 (rd_T36 xs i).f1.f18.length c38) ∧ w.cell? ⟨(ad.add (i.toNat * 55)).block, (ad.add (i.toNat * 55)).off + 39, none⟩ = some (.slice A39 (rd_T36 xs i).f1.f19.length c39) ∧ w.cell? ⟨(ad.add (i.toNat * 55)).block, (ad.add (i.toNat * 55)).off + 40, none⟩ = some (.int .u32 (rd_T36 xs i).f2) ∧ w.cell? ⟨(ad.add (i.toNat * 55)).block, (ad.add (i.toNat * 55)).off + 41, none⟩ = some (.int .u64 (rd_T36 xs i).f3) ∧ w.cell? ⟨(ad.add (i.toNat * 55)).block, (ad.add (i.toNat * 55)).off + 42, none⟩ = some (.int .i64 (rd_T36 xs i).f4) ∧ w.cell? ⟨(ad.add (i.toNat * 55)).block, (ad.add (i.toNat * 55)).off + 43, none⟩ = some (.int .u64 (rd_T36 xs i).f5) ∧ w.cell? ⟨(ad.add (i.toNat * 55)).block, (ad.add (i.toNat * 55)).off + 44, none⟩ = some (.int .u64 (rd_T36 xs i).f6) ∧ w.cell? ⟨(ad.add (i.toNat * 55)).block, (ad.add (i.toNat * 55)).off + 45, none⟩ = some (.slice A45 (rd_T36 xs i).f7.length c45) ∧ w.cell? ⟨(ad.add (i.toNat * 55)).block, (ad.add (i.toNat * 55)).off + 46, none⟩ = some (.slice A46 (rd_T36 xs i).f8.length c46) ∧ w.cell? ⟨(ad.add (i.toNat * 55)).block, (ad.add (i.toNat * 55)).off + 47, none⟩ = some (.slice A47 (rd_T36 xs i).f9.length c47) ∧ w.cell? ⟨(ad.add (i.toNat * 55)).block, (ad.add (i.toNat * 55)).off + 48, none⟩ = some (.bool (rd_T36 xs i).f10.f0) ∧ w.cell? ⟨(ad.add (i.toNat * 55)).block, (ad.add (i.toNat * 55)).off + 49, none⟩ = some (.int .i64 (rd_T36 xs i).f10.f1) ∧ w.cell? ⟨(ad.add (i.toNat * 55)).block, (ad.add (i.toNat * 55)).off + 50, none⟩ = some (.int .i64 (rd_T36 xs i).f10.f2) ∧ w.cell? ⟨(ad.add (i.toNat * 55)).block, (ad.add (i.toNat * 55)).off + 51, none⟩ = some (.int .i64 (rd_T36 xs i).f10.f3) ∧ w.cell? ⟨(ad.add (i.toNat * 55)).block, (ad.add (i.toNat * 55)).off + 52, none⟩ = some (.bool (rd_T36 xs i).f10.f4) ∧ w.cell? ⟨(ad.add (i.toNat * 55)).block, (ad.add (i.toNat * 55)).off + 53, none⟩ = some (.bool (rd_T36 xs i).f10.f5) ∧ w.cell? ⟨(ad.add (i.toNat * 55)).block, (ad.add (i.toNat * 55)).off + 54, none⟩ = some (.slice A54 (rd_T36 xs i).f11.length c54) ∧ (rd_T36 xs i).f0.f0.length ≤ c0 ∧ k87.C w A0 (rd_T36 xs i).f0.f0.length (rd_T36 xs i).f0.f0 ∧ (rd_T36 xs i).f0.f18.length ≤ c18 ∧ k89.C w A18 (rd_T36 xs i).f0.f18.length (rd_T36 xs i).f0.f18 ∧ (rd_T36 xs i).f0.f19.length ≤ c19 ∧ k91.C w A19 (rd_T36 xs i).f0.f19.length (rd_T36 xs i).f0.f19 ∧ (rd_T36 xs i).f1.f0.length ≤ c20 ∧ k87.C w A20 (rd_T36 xs i).f1.f0.length (rd_T36 xs i).f1.f0 ∧ (rd_T36 xs i).f1.f18.length ≤ c38 ∧ k89.C w A38 (rd_T36 xs i).f1.f18.length (rd_T36 xs i).f1.f18 ∧ (rd_T36 xs i).f1.f19.length ≤ c39 ∧ k91.C w A39 (rd_T36 xs i).f1.f19.length (rd_T36 xs i).f1.f19 ∧ (rd_T36 xs i).f7.length ≤ c45 ∧ k93.C w A45 (rd_T36 xs i).f7.length (rd_T36 xs i).f7 ∧ (rd_T36 xs i).f8.length ≤ c46 ∧ k42.C w A46 (rd_T36 xs i).f8.length (rd_T36 xs i).f8 ∧ (rd_T36 xs i).f9.length ≤ c47 ∧ k69.C w A47 (rd_T36 xs i).f9.length (rd_T36 xs i).f9 ∧ (rd_T36 xs i).f11.length ≤ c54 ∧ (Kd.int .u64).C w A54 (rd_T36 xs i).f11.length (rd_T36 xs i).f11 := by
  obtain ⟨ad, c, e, _, hK, hc0⟩ := Kd.C_get h z36 i h0 h1
  have hc : ∀ j u, c[j]? = some u → w.cell? (ad.add (i.toNat * 55 + j)) = some u := hc0
  obtain ⟨A0, c0, A18, c18, A19, c19, A20, c20, A38, c38, A39, c39, A45, c45, A46, c46, A47, c47, A54, c54, rfl, l0, g0, l18, g18, l19, g19, l20, g20, l38, g38, l39, g39, l45, g45, l46, g46, l47, g47, l54, g54⟩ := k36_open hK
  exact ⟨ad, A0, c0, A18, c18, A19, c19, A20, c20, A38, c38, A39, c39, A45, c45, A46, c46, A47, c47, A54, c54, e, hc 0 _ rfl, by rw [← add_field _ _ 1 (by omega)]; exact hc 1 _ rfl, by rw [← add_field _ _ 2 (by omega)]; exact hc 2 _ rfl, by rw [← add_field _ _ 3 (by omega)]; exact hc 3 _ rfl, by rw [← add_field _ _ 4 (by omega)]; exact hc 4 _ rfl, by rw [← add_field _ _ 5 (by omega)]; exact hc 5 _ rfl, by rw [← add_field _ _ 6 (by omega)]; exact hc 6 _ rfl, by rw [← add_field _ _ 7 (by omega)]; exact hc 7 _ rfl, by rw [← add_field _ _ 8 (by omega)]; exact hc 8 _ rfl, by rw [← add_field _ _ 9 (by omega)]; exact hc 9 _ rfl, by rw [← add_field _ _ 10 (by omega)]; exact hc 10 _ rfl, by rw [← add_field _ _ 11 (by omega)]; exact hc 11 _ rfl, by rw [← add_field _ _ 12 (by omega)]; exact hc 12 _ rfl, by rw [← add_field _ _ 13 (by omega)]; exact hc 13 _ rfl, by rw [← add_field _ _ 14 (by omega)]; exact hc 14 _ rfl, by rw [← add_field _ _ 15 (by omega)]; exact hc 15 _ rfl, by rw [← add_field _ _ 16 (by omega)]; exact hc 16 _ rfl, by rw [← add_field _ _ 17 (by omega)]; exact hc 17 _ rfl, by rw [← add_field _ _ 18 (by omega)]; exact hc 18 _ rfl, by rw [← add_field _ _ 19 (by omega)]; exact hc 19 _ rfl, by rw [← add_field _ _ 20 (by omega)]; exact hc 20 _ rfl, by rw [← add_field _ _ 21 (by omega)]; exact hc 21 _ rfl, by rw [← add_field _ _ 22 (by omega)]; exact hc 22 _ rfl, by rw [← add_field _ _ 23 (by omega)]; exact hc 23 _ rfl, by rw [← add_field _ _ 24 (by omega)]; exact hc 24 _ rfl, by rw [← add_field _ _ 25 (by omega)]; exact hc 25 _ rfl, by rw [← add_field _ _ 26 (by omega)]; exact hc 26 _ rfl, by rw [← add_field _ _ 27 (by omega)]; exact hc 27 _ rfl, by rw [← add_field _ _ 28 (by omega)]; exact hc 28 _ rfl, by rw [← add_field _ _ 29 (by omega)]; exact hc 29 _ rfl, by rw [← add_field _ _ 30 (by omega)]; exact hc 30 _ rfl, by rw [← add_field _ _ 31 (by omega)]; exact hc 31 _ rfl, by rw [← add_field _ _ 32 (by omega)]; exact hc 32 _ rfl, by rw [← add_field _ _ 33 (by omega)]; exact hc 33 _ rfl, by rw [← add_field _ _ 34 (by omega)]; exact hc 34 _ rfl, by rw [← add_field _ _ 35 (by omega)]; exact hc 35 _ rfl, by rw [← add_field _ _ 36 (by omega)]; exact hc 36 _ rfl, by rw [← add_field _ _ 37 (by omega)]; exact hc 37 _ rfl, by rw [← add_field _ _ 38 (by omega)]; exact hc 38 _ rfl, by rw [← add_field _ _ 39 (by omega)]; exact hc 39 _ rfl, by rw [← add_field _ _ 40 (by omega)]; exact hc 40 _ rfl, by rw [← add_field _ _ 41 (by omega)]; exact hc 41 _ rfl, by rw [← add_field _ _ 42 (by omega)]; exact hc 42 _ rfl, by rw [← add_field _ _ 43 (by omega)]; exact hc 43 _ rfl, by rw [← add_field _ _ 44 (by omega)]; exact hc 44 _ rfl, by rw [← add_field _ _ 45 (by omega)]; exact hc 45 _ rfl, by rw [← add_field _ _ 46 (by omega)]; exact hc 46 _ rfl, by rw [← add_field _ _ 47 (by omega)]; exact hc 47 _ rfl, by rw [← add_field _ _ 48 (by omega)]; exact hc 48 _ rfl, by rw [← add_field _ _ 49 (by omega)]; exact hc 49 _ rfl, by rw [← add_field _ _ 50 (by omega)]; exact hc 50 _ rfl, by rw [← add_field _ _ 51 (by omega)]; exact hc 51 _ rfl, by rw [← add_field _ _ 52 (by omega)]; exact hc 52 _ rfl, by rw [← add_field _ _ 53 (by omega)]; exact hc 53 _ rfl, by rw [← add_field _ _ 54 (by omega)]; exact hc 54 _ rfl, l0, g0, l18, g18, l19, g19, l20, g20, l38, g38, l39, g39, l45, g45, l46, g46, l47, g47, l54, g54⟩

/-! #### struct type 59 -/
structure S59 where
  f0 : Int
  f1 : Int
  f2 : Int
  f3 : Int
  f4 : Int
  f5 : Int
def z59 : S59 := ⟨(0 : Int), (0 : Int), (0 : Int), (0 : Int), (0 : Int), (0 : Int)⟩
def k59 : Kd S59 := Kd.iso (Kd.pair (Kd.int .i64) (Kd.pair (Kd.int .i64) (Kd.pair (Kd.int .i64) (Kd.pair (Kd.int .i64) (Kd.pair (Kd.int .i64) (Kd.int .i64)))))) (fun x : S59 => (x.f0, x.f1, x.f2, x.f3, x.f4, x.f5))
theorem k59_open {w : World} {x : S59} {cs : List Value} (h : k59.K w x cs) : cs = [.int .i64 x.f0, .int .i64 x.f1, .int .i64 x.f2, .int .i64 x.f3, .int .i64 x.f4, .int .i64 x.f5] := by
  obtain ⟨_, _, rfl, rfl, ⟨_, _, rfl, rfl, ⟨_, _, rfl, rfl, ⟨_, _, rfl, rfl, ⟨_, _, rfl, rfl, rfl⟩⟩⟩⟩⟩ := h
  exact rfl
theorem k59_openM {w : World} {base : Nat} {ok : Nat → Prop} {x : S59} {cs : List Value} (h : k59.M w base ok x cs) : cs = [.int .i64 x.f0, .int .i64 x.f1, .int .i64 x.f2, .int .i64 x.f3, .int .i64 x.f4, .int .i64 x.f5] := by
  obtain ⟨_, _, rfl, rfl, ⟨_, _, rfl, rfl, ⟨_, _, rfl, rfl, ⟨_, _, rfl, rfl, ⟨_, _, rfl, rfl, rfl⟩⟩⟩⟩⟩ := h
  exact rfl
theorem k59_mk (w : World) (x : S59)  : k59.K w x [.int .i64 x.f0, .int .i64 x.f1, .int .i64 x.f2, .int .i64 x.f3, .int .i64 x.f4, .int .i64 x.f5] := ⟨[.int .i64 x.f0], [.int .i64 x.f1, .int .i64 x.f2, .int .i64 x.f3, .int .i64 x.f4, .int .i64 x.f5], rfl, rfl, ⟨[.int .i64 x.f1], [.int .i64 x.f2, .int .i64 x.f3, .int .i64 x.f4, .int .i64 x.f5], rfl, rfl, ⟨[.int .i64 x.f2], [.int .i64 x.f3, .int .i64 x.f4, .int .i64 x.f5], rfl, rfl, ⟨[.int .i64 x.f3], [.int .i64 x.f4, .int .i64 x.f5], rfl, rfl, ⟨[.int .i64 x.f4], [.int .i64 x.f5], rfl, rfl, rfl⟩⟩⟩⟩⟩
theorem k59_mkM (w : World) (base : Nat) (ok : Nat → Prop) (x : S59)  : k59.M w base ok x [.int .i64 x.f0, .int .i64 x.f1, .int .i64 x.f2, .int .i64 x.f3, .int .i64 x.f4, .int .i64 x.f5] := ⟨[.int .i64 x.f0], [.int .i64 x.f1, .int .i64 x.f2, .int .i64 x.f3, .int .i64 x.f4, .int .i64 x.f5], rfl, rfl, ⟨[.int .i64 x.f1], [.int .i64 x.f2, .int .i64 x.f3, .int .i64 x.f4, .int .i64 x.f5], rfl, rfl, ⟨[.int .i64 x.f2], [.int .i64 x.f3, .int .i64 x.f4, .int .i64 x.f5], rfl, rfl, ⟨[.int .i64 x.f3], [.int .i64 x.f4, .int .i64 x.f5], rfl, rfl, ⟨[.int .i64 x.f4], [.int .i64 x.f5], rfl, rfl, rfl⟩⟩⟩⟩⟩
def rd_T59 (xs : List S59) (i : Int) : S59 := xs.getD i.toNat z59
theorem at_T59 {w : World} {A : Option Addr} {n : Nat} {xs : List S59} (h : Kd.C k59 w A n xs) (i : Int) (h0 : 0 ≤ i) (h1 : i < n) : ∃ ad , A = some ad ∧ w.cell? (ad.add (i.toNat * 6)) = some (.int .i64 (rd_T59 xs i).f0) ∧ w.cell? ⟨(ad.add (i.toNat * 6)).block, (ad.add (i.toNat * 6)).off + 1, none⟩ = some (.int .i64 (rd_T59 xs i).f1) ∧ w.cell? ⟨(ad.add (i.toNat * 6)).block, (ad.add (i.toNat * 6)).off + 2, none⟩ = some (.int .i64 (rd_T59 xs i).f2) ∧ w.cell? ⟨(ad.add (i.toNat * 6)).block, (ad.add (i.toNat * 6)).off + 3, none⟩ = some (.int .i64 (rd_T59 xs i).f3) ∧ w.cell? ⟨(ad.add (i.toNat * 6)).block, (ad.add (i.toNat * 6)).off + 4, none⟩ = some (.int .i64 (rd_T59 xs i).f4) ∧ w.cell? ⟨(ad.add (i.toNat * 6)).block, (ad.add (i.toNat * 6)).off + 5, none⟩ = some (.int .i64 (rd_T59 xs i).f5) := by
  obtain ⟨ad, c, e, _, hK, hc0⟩ := Kd.C_get h z59 i h0 h1
  have hc : ∀ j u, c[j]? = some u → w.cell? (ad.add (i.toNat * 6 + j)) = some u := hc0
  obtain rfl := k59_open hK
  exact ⟨ad, e, hc 0 _ rfl, by rw [← add_field _ _ 1 (by omega)]; exact hc 1 _ rfl, by rw [← add_field _ _ 2 (by omega)]; exact hc 2 _ rfl, by rw [← add_field _ _ 3 (by omega)]; exact hc 3 _ rfl, by rw [← add_field _ _ 4 (by omega)]; exact hc 4 _ rfl, by rw [← add_field _ _ 5 (by omega)]; exact hc 5 _ rfl⟩

/-- The bounds of what such a struct holds. -/
def ok87 (x : S87) : Prop := x.f0.size ≤ maxLen ∧ (True ∧ ((Lit.int .i64 x.f2).wf = true ∧ ((Lit.int .i64 x.f3).wf = true)))
/-- The bounds of what such a struct holds. -/
def ok89 (x : S89) : Prop := (Lit.int .i64 x.f0).wf = true ∧ ((Lit.int .i64 x.f1).wf = true)
/-- The bounds of what such a struct holds. -/
def ok91 (x : S91) : Prop := (Lit.int .u64 x.f0).wf = true ∧ ((Lit.int .u64 x.f1).wf = true ∧ ((Lit.int .i64 x.f2).wf = true))
/-- The bounds of what such a struct holds. -/
def ok27 (x : S27) : Prop := (x.f0.length ≤ maxLen ∧ ∀ y ∈ x.f0, ok87 y) ∧ ((Lit.int .u8 x.f1).wf = true ∧ ((Lit.int .i64 x.f2).wf = true ∧ (True ∧ ((Lit.int .i64 x.f4).wf = true ∧ ((Lit.int .i64 x.f5).wf = true ∧ ((Lit.int .i64 x.f6).wf = true ∧ ((Lit.int .i64 x.f7).wf = true ∧ ((Lit.int .i64 x.f8).wf = true ∧ ((Lit.int .i64 x.f9).wf = true ∧ ((Lit.int .u64 x.f10).wf = true ∧ ((Lit.int .u64 x.f11).wf = true ∧ ((Lit.int .u64 x.f12).wf = true ∧ ((Lit.int .u64 x.f13).wf = true ∧ ((Lit.int .u64 x.f14).wf = true ∧ ((Lit.int .u64 x.f15).wf = true ∧ (True ∧ ((Lit.int .i64 x.f17).wf = true ∧ ((x.f18.length ≤ maxLen ∧ ∀ y ∈ x.f18, ok89 y) ∧ ((x.f19.length ≤ maxLen ∧ ∀ y ∈ x.f19, ok91 y))))))))))))))))))))
/-- The bounds of what such a struct holds. -/
def ok93 (x : S93) : Prop := (Lit.int .i64 x.f0).wf = true ∧ ((Lit.int .i64 x.f1).wf = true ∧ ((Lit.int .u64 x.f2).wf = true))
/-- The bounds of what such a struct holds. -/
def ok42 (x : S42) : Prop := (Lit.int .u64 x.f0).wf = true ∧ ((Lit.int .u64 x.f1).wf = true ∧ ((Lit.int .i64 x.f2).wf = true ∧ ((Lit.int .i64 x.f3).wf = true ∧ (True ∧ ((Lit.int .u8 x.f5).wf = true ∧ ((Lit.int .u64 x.f6).wf = true ∧ (True ∧ ((Lit.int .u64 x.f8).wf = true ∧ (True ∧ (True ∧ ((Lit.int .u32 x.f11).wf = true)))))))))))
/-- The bounds of what such a struct holds. -/
def ok67 (x : S67) : Prop := (Lit.int .u8 x.f0).wf = true ∧ ((Lit.int .u64 x.f1).wf = true ∧ ((Lit.int .i64 x.f2).wf = true ∧ (True ∧ ((Lit.int .u64 x.f4).wf = true))))
/-- The bounds of what such a struct holds. -/
def ok69 (x : S69) : Prop := ok67 x.f0 ∧ ((Lit.int .u64 x.f1).wf = true ∧ ((Lit.int .i64 x.f2).wf = true ∧ (True ∧ ((Lit.int .u32 x.f4).wf = true))))
/-- The bounds of what such a struct holds. -/
def ok33 (x : S33) : Prop := True ∧ ((Lit.int .i64 x.f1).wf = true ∧ ((Lit.int .i64 x.f2).wf = true ∧ ((Lit.int .i64 x.f3).wf = true ∧ (True ∧ (True)))))
/-- The bounds of what such a struct holds. -/
def ok36 (x : S36) : Prop := ok27 x.f0 ∧ (ok27 x.f1 ∧ ((Lit.int .u32 x.f2).wf = true ∧ ((Lit.int .u64 x.f3).wf = true ∧ ((Lit.int .i64 x.f4).wf = true ∧ ((Lit.int .u64 x.f5).wf = true ∧ ((Lit.int .u64 x.f6).wf = true ∧ ((x.f7.length ≤ maxLen ∧ ∀ y ∈ x.f7, ok93 y) ∧ ((x.f8.length ≤ maxLen ∧ ∀ y ∈ x.f8, ok42 y) ∧ ((x.f9.length ≤ maxLen ∧ ∀ y ∈ x.f9, ok69 y) ∧ (ok33 x.f10 ∧ ((x.f11.length ≤ maxLen ∧ ∀ y ∈ x.f11, (Lit.int .u64 y).wf = true))))))))))))
end Go.Proofs.Ytglpedacanjpbaa.GA
