/- Contracts: each call of a Go function answers what the Lean function of its name says; a law of the set follows. No condition but each theorem's own. Written by a program of this session's out of the translation, with the functions proved by hand let in. -/
import Derived.Test.YtfhopjigdkjnoaaProg
import Derived.Below
import Derived.Deep.Draws
import Derived.Deep.AppendLies
import Derived.Maps.AppendAt
import Derived.OwnWalk
import Derived.Laws.BytesArg
import Derived.Laws.MakeOwn
import Derived.Laws.OwnMore
import Derived.Deep.OwnRows
import Derived.Tactics
import Derived.Lib.ConvBytes
import Derived.Laws.Slices
import Derived.WalkKit
import Derived.KernelRfl
import Derived.RowKit3
import Derived.Deep.LoopGhost
import Derived.Deep.QuietTactic
import Derived.BigQuiet
import Derived.WideLaws
import Derived.Deep.DeepCutAuto
import Derived.Deep.CutBlock
import Derived.Deep.RegionHeld3
import Derived.Laws.Rows
import Derived.Lib.AppendStr
import Derived.ArgAppend
import Derived.Laws.IdiomCopy
import Derived.OrdersHeld
import Derived.Laws.BitsLemmas
import Derived.RowKit
import Derived.Lib.SliceRun
import Derived.LaidEql
import Derived.Stop.Asserts
import Derived.RowKitTokens
import Derived.Laws.BitsAllLaws
import Derived.Lib.SlBytesConst
import Derived.Laws.CopyOwn
import Derived.Test.YtfhopjigdkjnoaaWWords
import Derived.Test.YtfhopjigdkjnoaaWLast
import Derived.Test.YtfhopjigdkjnoaaWTab
import Derived.Test.YtfhopjigdkjnoaaWFour
import Derived.Test.YtfhopjigdkjnoaaWQPut
import Derived.Test.YtfhopjigdkjnoaaWApart
import Derived.Test.YtfhopjigdkjnoaaWArr
import Derived.Test.YtfhopjigdkjnoaaWZeros
import Derived.Test.YtfhopjigdkjnoaaWFoot
import Derived.Test.YtfhopjigdkjnoaaWKept
import Derived.Test.YtfhopjigdkjnoaaWShare
import Derived.Test.YtfhopjigdkjnoaaWN
import Derived.Test.YtfhopjigdkjnoaaWFootNe
import Derived.Test.YtfhopjigdkjnoaaWAt
import Derived.Test.YtfhopjigdkjnoaaWEqStruct
import Derived.Test.YtfhopjigdkjnoaaWRepsOne
import Derived.Test.YtfhopjigdkjnoaaWInv
import Derived.Test.YtfhopjigdkjnoaaWInvWords
import Derived.Test.YtfhopjigdkjnoaaWGuard
import Derived.Test.YtfhopjigdkjnoaaWNEv
import Derived.Test.YtfhopjigdkjnoaaWMore
namespace Go.Proofs.Ytfhopjigdkjnoaa.GA
open Go.RowKit Go.Proofs.YtfhopjigdkjnoaaW.PrintWords Go.Proofs.YtfhopjigdkjnoaaW.PrintLast Go.Proofs.YtfhopjigdkjnoaaW.PrintMore
attribute [local go_sem] max2_int min2_int max_two min_two max_three min_three max_four min_four   -- for this text's walks alone
set_option linter.unusedVariables false
set_option linter.unusedSimpArgs false



def errW : Option Int → Value
  | none => .nilIface
  | some c => .iface 0 (.int .i64 c)
theorem errW_none : errW none = .nilIface := rfl
theorem errW_some (c : Int) : errW (some c) = .iface 0 (.int .i64 c) := rfl

theorem info45 : (Try.prog.info? 45).map (fun i => (i.zero, i.size, i.bytes)) = some (some (.agg #[(.int .u8 0), (.int .u64 0), (.int .u64 0), (.int .i64 0), (.int .i64 0), (.int .i64 0), (.bool false), (.int .u64 0), (.slice none 0 0), (.int .u8 0), (.int .i64 0), (.bool false), (.int .i64 0), (.int .i64 0), (.int .i64 0), (.int .i64 0), (.int .i64 0), (.int .i64 0), (.int .u64 0), (.int .u64 0), (.int .u64 0), (.int .u64 0), (.int .u64 0), (.int .u64 0), (.bool false), (.int .i64 0), (.slice none 0 0), (.slice none 0 0)]), 28, 272) := by kernel_rfl
-- the values' own types
/-! #### struct type 104 -/
structure S104 where
  f0 : ByteArray
  f1 : Bool
  f2 : Int
  f3 : Int
def z104 : S104 := ⟨(⟨#[]⟩ : ByteArray), false, (0 : Int), (0 : Int)⟩
def k104 : Kd S104 := Kd.iso (Kd.pair Kd.string (Kd.pair Kd.bool (Kd.pair (Kd.int .i64) (Kd.int .i64)))) (fun x : S104 => (x.f0, x.f1, x.f2, x.f3))
theorem k104_open {w : World} {x : S104} {cs : List Value} (h : k104.K w x cs) : cs = [.string x.f0, .bool x.f1, .int .i64 x.f2, .int .i64 x.f3] := by
  obtain ⟨_, _, rfl, rfl, ⟨_, _, rfl, rfl, ⟨_, _, rfl, rfl, rfl⟩⟩⟩ := h
  exact rfl
theorem k104_openM {w : World} {base : Nat} {ok : Nat → Prop} {x : S104} {cs : List Value} (h : k104.M w base ok x cs) : cs = [.string x.f0, .bool x.f1, .int .i64 x.f2, .int .i64 x.f3] := by
  obtain ⟨_, _, rfl, rfl, ⟨_, _, rfl, rfl, ⟨_, _, rfl, rfl, rfl⟩⟩⟩ := h
  exact rfl
theorem k104_mk (w : World) (x : S104)  : k104.K w x [.string x.f0, .bool x.f1, .int .i64 x.f2, .int .i64 x.f3] := ⟨[.string x.f0], [.bool x.f1, .int .i64 x.f2, .int .i64 x.f3], rfl, rfl, ⟨[.bool x.f1], [.int .i64 x.f2, .int .i64 x.f3], rfl, rfl, ⟨[.int .i64 x.f2], [.int .i64 x.f3], rfl, rfl, rfl⟩⟩⟩
theorem k104_mkM (w : World) (base : Nat) (ok : Nat → Prop) (x : S104)  : k104.M w base ok x [.string x.f0, .bool x.f1, .int .i64 x.f2, .int .i64 x.f3] := ⟨[.string x.f0], [.bool x.f1, .int .i64 x.f2, .int .i64 x.f3], rfl, rfl, ⟨[.bool x.f1], [.int .i64 x.f2, .int .i64 x.f3], rfl, rfl, ⟨[.int .i64 x.f2], [.int .i64 x.f3], rfl, rfl, rfl⟩⟩⟩
def rd_T104 (xs : List S104) (i : Int) : S104 := xs.getD i.toNat z104
theorem at_T104 {w : World} {A : Option Addr} {n : Nat} {xs : List S104} (h : Kd.C k104 w A n xs) (i : Int) (h0 : 0 ≤ i) (h1 : i < n) : ∃ ad , A = some ad ∧ w.cell? (ad.add (i.toNat * 4)) = some (.string (rd_T104 xs i).f0) ∧ w.cell? ⟨(ad.add (i.toNat * 4)).block, (ad.add (i.toNat * 4)).off + 1, none⟩ = some (.bool (rd_T104 xs i).f1) ∧ w.cell? ⟨(ad.add (i.toNat * 4)).block, (ad.add (i.toNat * 4)).off + 2, none⟩ = some (.int .i64 (rd_T104 xs i).f2) ∧ w.cell? ⟨(ad.add (i.toNat * 4)).block, (ad.add (i.toNat * 4)).off + 3, none⟩ = some (.int .i64 (rd_T104 xs i).f3) := by
  obtain ⟨ad, c, e, _, hK, hc0⟩ := Kd.C_get h z104 i h0 h1
  have hc : ∀ j u, c[j]? = some u → w.cell? (ad.add (i.toNat * 4 + j)) = some u := hc0
  obtain rfl := k104_open hK
  exact ⟨ad, e, hc 0 _ rfl, by rw [← add_field _ _ 1 (by omega)]; exact hc 1 _ rfl, by rw [← add_field _ _ 2 (by omega)]; exact hc 2 _ rfl, by rw [← add_field _ _ 3 (by omega)]; exact hc 3 _ rfl⟩

def rd_L6 (xs : List (List S104)) (i : Int) : (List S104) := xs.getD i.toNat ([] : List S104)
theorem at_L6 {w : World} {A : Option Addr} {n : Nat} {xs : List (List S104)} (h : Kd.C (Kd.slice 104 k104) w A n xs) (i : Int) (h0 : 0 ≤ i) (h1 : i < n) : ∃ ad A0 c0, A = some ad ∧ w.cell? (ad.add i.toNat) = some (.slice A0 (rd_L6 xs i).length c0) ∧ (rd_L6 xs i).length ≤ c0 ∧ k104.C w A0 (rd_L6 xs i).length (rd_L6 xs i) := by
  obtain ⟨ad, c, e, _, hK, hc0⟩ := Kd.C_get h ([] : List S104) i h0 h1
  have hc : ∀ j u, c[j]? = some u → w.cell? (ad.add (i.toNat * 1 + j)) = some u := hc0
  obtain ⟨A0, c0, rfl, l0, g0⟩ := hK
  exact ⟨ad, A0, c0, e, by have hq := hc 0 _ rfl; rwa [Nat.mul_one, Nat.add_zero] at hq, l0, g0⟩

/-! #### struct type 106 -/
structure S106 where
  f0 : Int
  f1 : Int
def z106 : S106 := ⟨(0 : Int), (0 : Int)⟩
def k106 : Kd S106 := Kd.iso (Kd.pair (Kd.int .i64) (Kd.int .i64)) (fun x : S106 => (x.f0, x.f1))
theorem k106_open {w : World} {x : S106} {cs : List Value} (h : k106.K w x cs) : cs = [.int .i64 x.f0, .int .i64 x.f1] := by
  obtain ⟨_, _, rfl, rfl, rfl⟩ := h
  exact rfl
theorem k106_openM {w : World} {base : Nat} {ok : Nat → Prop} {x : S106} {cs : List Value} (h : k106.M w base ok x cs) : cs = [.int .i64 x.f0, .int .i64 x.f1] := by
  obtain ⟨_, _, rfl, rfl, rfl⟩ := h
  exact rfl
theorem k106_mk (w : World) (x : S106)  : k106.K w x [.int .i64 x.f0, .int .i64 x.f1] := ⟨[.int .i64 x.f0], [.int .i64 x.f1], rfl, rfl, rfl⟩
theorem k106_mkM (w : World) (base : Nat) (ok : Nat → Prop) (x : S106)  : k106.M w base ok x [.int .i64 x.f0, .int .i64 x.f1] := ⟨[.int .i64 x.f0], [.int .i64 x.f1], rfl, rfl, rfl⟩
def rd_T106 (xs : List S106) (i : Int) : S106 := xs.getD i.toNat z106
theorem at_T106 {w : World} {A : Option Addr} {n : Nat} {xs : List S106} (h : Kd.C k106 w A n xs) (i : Int) (h0 : 0 ≤ i) (h1 : i < n) : ∃ ad , A = some ad ∧ w.cell? (ad.add (i.toNat * 2)) = some (.int .i64 (rd_T106 xs i).f0) ∧ w.cell? ⟨(ad.add (i.toNat * 2)).block, (ad.add (i.toNat * 2)).off + 1, none⟩ = some (.int .i64 (rd_T106 xs i).f1) := by
  obtain ⟨ad, c, e, _, hK, hc0⟩ := Kd.C_get h z106 i h0 h1
  have hc : ∀ j u, c[j]? = some u → w.cell? (ad.add (i.toNat * 2 + j)) = some u := hc0
  obtain rfl := k106_open hK
  exact ⟨ad, e, hc 0 _ rfl, by rw [← add_field _ _ 1 (by omega)]; exact hc 1 _ rfl⟩

def rd_L8 (xs : List (List S106)) (i : Int) : (List S106) := xs.getD i.toNat ([] : List S106)
theorem at_L8 {w : World} {A : Option Addr} {n : Nat} {xs : List (List S106)} (h : Kd.C (Kd.slice 106 k106) w A n xs) (i : Int) (h0 : 0 ≤ i) (h1 : i < n) : ∃ ad A0 c0, A = some ad ∧ w.cell? (ad.add i.toNat) = some (.slice A0 (rd_L8 xs i).length c0) ∧ (rd_L8 xs i).length ≤ c0 ∧ k106.C w A0 (rd_L8 xs i).length (rd_L8 xs i) := by
  obtain ⟨ad, c, e, _, hK, hc0⟩ := Kd.C_get h ([] : List S106) i h0 h1
  have hc : ∀ j u, c[j]? = some u → w.cell? (ad.add (i.toNat * 1 + j)) = some u := hc0
  obtain ⟨A0, c0, rfl, l0, g0⟩ := hK
  exact ⟨ad, A0, c0, e, by have hq := hc 0 _ rfl; rwa [Nat.mul_one, Nat.add_zero] at hq, l0, g0⟩

/-! #### struct type 108 -/
structure S108 where
  f0 : Int
  f1 : Int
  f2 : Int
def z108 : S108 := ⟨(0 : Int), (0 : Int), (0 : Int)⟩
def k108 : Kd S108 := Kd.iso (Kd.pair (Kd.int .u64) (Kd.pair (Kd.int .u64) (Kd.int .i64))) (fun x : S108 => (x.f0, x.f1, x.f2))
theorem k108_open {w : World} {x : S108} {cs : List Value} (h : k108.K w x cs) : cs = [.int .u64 x.f0, .int .u64 x.f1, .int .i64 x.f2] := by
  obtain ⟨_, _, rfl, rfl, ⟨_, _, rfl, rfl, rfl⟩⟩ := h
  exact rfl
theorem k108_openM {w : World} {base : Nat} {ok : Nat → Prop} {x : S108} {cs : List Value} (h : k108.M w base ok x cs) : cs = [.int .u64 x.f0, .int .u64 x.f1, .int .i64 x.f2] := by
  obtain ⟨_, _, rfl, rfl, ⟨_, _, rfl, rfl, rfl⟩⟩ := h
  exact rfl
theorem k108_mk (w : World) (x : S108)  : k108.K w x [.int .u64 x.f0, .int .u64 x.f1, .int .i64 x.f2] := ⟨[.int .u64 x.f0], [.int .u64 x.f1, .int .i64 x.f2], rfl, rfl, ⟨[.int .u64 x.f1], [.int .i64 x.f2], rfl, rfl, rfl⟩⟩
theorem k108_mkM (w : World) (base : Nat) (ok : Nat → Prop) (x : S108)  : k108.M w base ok x [.int .u64 x.f0, .int .u64 x.f1, .int .i64 x.f2] := ⟨[.int .u64 x.f0], [.int .u64 x.f1, .int .i64 x.f2], rfl, rfl, ⟨[.int .u64 x.f1], [.int .i64 x.f2], rfl, rfl, rfl⟩⟩
def rd_T108 (xs : List S108) (i : Int) : S108 := xs.getD i.toNat z108
theorem at_T108 {w : World} {A : Option Addr} {n : Nat} {xs : List S108} (h : Kd.C k108 w A n xs) (i : Int) (h0 : 0 ≤ i) (h1 : i < n) : ∃ ad , A = some ad ∧ w.cell? (ad.add (i.toNat * 3)) = some (.int .u64 (rd_T108 xs i).f0) ∧ w.cell? ⟨(ad.add (i.toNat * 3)).block, (ad.add (i.toNat * 3)).off + 1, none⟩ = some (.int .u64 (rd_T108 xs i).f1) ∧ w.cell? ⟨(ad.add (i.toNat * 3)).block, (ad.add (i.toNat * 3)).off + 2, none⟩ = some (.int .i64 (rd_T108 xs i).f2) := by
  obtain ⟨ad, c, e, _, hK, hc0⟩ := Kd.C_get h z108 i h0 h1
  have hc : ∀ j u, c[j]? = some u → w.cell? (ad.add (i.toNat * 3 + j)) = some u := hc0
  obtain rfl := k108_open hK
  exact ⟨ad, e, hc 0 _ rfl, by rw [← add_field _ _ 1 (by omega)]; exact hc 1 _ rfl, by rw [← add_field _ _ 2 (by omega)]; exact hc 2 _ rfl⟩

def rd_L10 (xs : List (List S108)) (i : Int) : (List S108) := xs.getD i.toNat ([] : List S108)
theorem at_L10 {w : World} {A : Option Addr} {n : Nat} {xs : List (List S108)} (h : Kd.C (Kd.slice 108 k108) w A n xs) (i : Int) (h0 : 0 ≤ i) (h1 : i < n) : ∃ ad A0 c0, A = some ad ∧ w.cell? (ad.add i.toNat) = some (.slice A0 (rd_L10 xs i).length c0) ∧ (rd_L10 xs i).length ≤ c0 ∧ k108.C w A0 (rd_L10 xs i).length (rd_L10 xs i) := by
  obtain ⟨ad, c, e, _, hK, hc0⟩ := Kd.C_get h ([] : List S108) i h0 h1
  have hc : ∀ j u, c[j]? = some u → w.cell? (ad.add (i.toNat * 1 + j)) = some u := hc0
  obtain ⟨A0, c0, rfl, l0, g0⟩ := hK
  exact ⟨ad, A0, c0, e, by have hq := hc 0 _ rfl; rwa [Nat.mul_one, Nat.add_zero] at hq, l0, g0⟩

/-! #### struct type 43 -/
structure S43 where
  f0 : (List S104)
  f1 : Int
  f2 : Int
  f3 : Bool
  f4 : Int
  f5 : Int
  f6 : Int
  f7 : Int
  f8 : Int
  f9 : Int
  f10 : Int
  f11 : Int
  f12 : Int
  f13 : Int
  f14 : Int
  f15 : Int
  f16 : Bool
  f17 : Int
  f18 : (List S106)
  f19 : (List S108)
def z43 : S43 := ⟨([] : List S104), (0 : Int), (0 : Int), false, (0 : Int), (0 : Int), (0 : Int), (0 : Int), (0 : Int), (0 : Int), (0 : Int), (0 : Int), (0 : Int), (0 : Int), (0 : Int), (0 : Int), false, (0 : Int), ([] : List S106), ([] : List S108)⟩
def k43 : Kd S43 := Kd.iso (Kd.pair (Kd.slice 104 k104) (Kd.pair (Kd.int .u8) (Kd.pair (Kd.int .i64) (Kd.pair Kd.bool (Kd.pair (Kd.int .i64) (Kd.pair (Kd.int .i64) (Kd.pair (Kd.int .i64) (Kd.pair (Kd.int .i64) (Kd.pair (Kd.int .i64) (Kd.pair (Kd.int .i64) (Kd.pair (Kd.int .u64) (Kd.pair (Kd.int .u64) (Kd.pair (Kd.int .u64) (Kd.pair (Kd.int .u64) (Kd.pair (Kd.int .u64) (Kd.pair (Kd.int .u64) (Kd.pair Kd.bool (Kd.pair (Kd.int .i64) (Kd.pair (Kd.slice 106 k106) (Kd.slice 108 k108)))))))))))))))))))) (fun x : S43 => (x.f0, x.f1, x.f2, x.f3, x.f4, x.f5, x.f6, x.f7, x.f8, x.f9, x.f10, x.f11, x.f12, x.f13, x.f14, x.f15, x.f16, x.f17, x.f18, x.f19))
theorem k43_open {w : World} {x : S43} {cs : List Value} (h : k43.K w x cs) : ∃ A0 c0 A18 c18 A19 c19, cs = [.slice A0 x.f0.length c0, .int .u8 x.f1, .int .i64 x.f2, .bool x.f3, .int .i64 x.f4, .int .i64 x.f5, .int .i64 x.f6, .int .i64 x.f7, .int .i64 x.f8, .int .i64 x.f9, .int .u64 x.f10, .int .u64 x.f11, .int .u64 x.f12, .int .u64 x.f13, .int .u64 x.f14, .int .u64 x.f15, .bool x.f16, .int .i64 x.f17, .slice A18 x.f18.length c18, .slice A19 x.f19.length c19] ∧ x.f0.length ≤ c0 ∧ k104.C w A0 x.f0.length x.f0 ∧ x.f18.length ≤ c18 ∧ k106.C w A18 x.f18.length x.f18 ∧ x.f19.length ≤ c19 ∧ k108.C w A19 x.f19.length x.f19 := by
  obtain ⟨_, _, rfl, ⟨A0, c0, rfl, l0, g0⟩, ⟨_, _, rfl, rfl, ⟨_, _, rfl, rfl, ⟨_, _, rfl, rfl, ⟨_, _, rfl, rfl, ⟨_, _, rfl, rfl, ⟨_, _, rfl, rfl, ⟨_, _, rfl, rfl, ⟨_, _, rfl, rfl, ⟨_, _, rfl, rfl, ⟨_, _, rfl, rfl, ⟨_, _, rfl, rfl, ⟨_, _, rfl, rfl, ⟨_, _, rfl, rfl, ⟨_, _, rfl, rfl, ⟨_, _, rfl, rfl, ⟨_, _, rfl, rfl, ⟨_, _, rfl, rfl, ⟨_, _, rfl, ⟨A18, c18, rfl, l18, g18⟩, ⟨A19, c19, rfl, l19, g19⟩⟩⟩⟩⟩⟩⟩⟩⟩⟩⟩⟩⟩⟩⟩⟩⟩⟩⟩⟩ := h
  exact ⟨A0, c0, A18, c18, A19, c19, rfl, l0, g0, l18, g18, l19, g19⟩
theorem k43_openM {w : World} {base : Nat} {ok : Nat → Prop} {x : S43} {cs : List Value} (h : k43.M w base ok x cs) : ∃ v0 v18 v19, cs = [v0, .int .u8 x.f1, .int .i64 x.f2, .bool x.f3, .int .i64 x.f4, .int .i64 x.f5, .int .i64 x.f6, .int .i64 x.f7, .int .i64 x.f8, .int .i64 x.f9, .int .u64 x.f10, .int .u64 x.f11, .int .u64 x.f12, .int .u64 x.f13, .int .u64 x.f14, .int .u64 x.f15, .bool x.f16, .int .i64 x.f17, v18, v19] ∧ k104.R 104 w base ok v0 x.f0 ∧ k106.R 106 w base ok v18 x.f18 ∧ k108.R 108 w base ok v19 x.f19 := by
  obtain ⟨_, _, rfl, ⟨v0, rfl, g0⟩, ⟨_, _, rfl, rfl, ⟨_, _, rfl, rfl, ⟨_, _, rfl, rfl, ⟨_, _, rfl, rfl, ⟨_, _, rfl, rfl, ⟨_, _, rfl, rfl, ⟨_, _, rfl, rfl, ⟨_, _, rfl, rfl, ⟨_, _, rfl, rfl, ⟨_, _, rfl, rfl, ⟨_, _, rfl, rfl, ⟨_, _, rfl, rfl, ⟨_, _, rfl, rfl, ⟨_, _, rfl, rfl, ⟨_, _, rfl, rfl, ⟨_, _, rfl, rfl, ⟨_, _, rfl, rfl, ⟨_, _, rfl, ⟨v18, rfl, g18⟩, ⟨v19, rfl, g19⟩⟩⟩⟩⟩⟩⟩⟩⟩⟩⟩⟩⟩⟩⟩⟩⟩⟩⟩⟩ := h
  exact ⟨v0, v18, v19, rfl, g0, g18, g19⟩
theorem k43_mk (w : World) (x : S43) {A0 : Option Addr} {c0 : Nat} (l0 : x.f0.length ≤ c0) (g0 : k104.C w A0 x.f0.length x.f0) {A18 : Option Addr} {c18 : Nat} (l18 : x.f18.length ≤ c18) (g18 : k106.C w A18 x.f18.length x.f18) {A19 : Option Addr} {c19 : Nat} (l19 : x.f19.length ≤ c19) (g19 : k108.C w A19 x.f19.length x.f19) : k43.K w x [.slice A0 x.f0.length c0, .int .u8 x.f1, .int .i64 x.f2, .bool x.f3, .int .i64 x.f4, .int .i64 x.f5, .int .i64 x.f6, .int .i64 x.f7, .int .i64 x.f8, .int .i64 x.f9, .int .u64 x.f10, .int .u64 x.f11, .int .u64 x.f12, .int .u64 x.f13, .int .u64 x.f14, .int .u64 x.f15, .bool x.f16, .int .i64 x.f17, .slice A18 x.f18.length c18, .slice A19 x.f19.length c19] := ⟨[.slice A0 x.f0.length c0], [.int .u8 x.f1, .int .i64 x.f2, .bool x.f3, .int .i64 x.f4, .int .i64 x.f5, .int .i64 x.f6, .int .i64 x.f7, .int .i64 x.f8, .int .i64 x.f9, .int .u64 x.f10, .int .u64 x.f11, .int .u64 x.f12, .int .u64 x.f13, .int .u64 x.f14, .int .u64 x.f15, .bool x.f16, .int .i64 x.f17, .slice A18 x.f18.length c18, .slice A19 x.f19.length c19], rfl, ⟨A0, c0, rfl, l0, g0⟩, ⟨[.int .u8 x.f1], [.int .i64 x.f2, .bool x.f3, .int .i64 x.f4, .int .i64 x.f5, .int .i64 x.f6, .int .i64 x.f7, .int .i64 x.f8, .int .i64 x.f9, .int .u64 x.f10, .int .u64 x.f11, .int .u64 x.f12, .int .u64 x.f13, .int .u64 x.f14, .int .u64 x.f15, .bool x.f16, .int .i64 x.f17, .slice A18 x.f18.length c18, .slice A19 x.f19.length c19], rfl, rfl, ⟨[.int .i64 x.f2], [.bool x.f3, .int .i64 x.f4, .int .i64 x.f5, .int .i64 x.f6, .int .i64 x.f7, .int .i64 x.f8, .int .i64 x.f9, .int .u64 x.f10, .int .u64 x.f11, .int .u64 x.f12, .int .u64 x.f13, .int .u64 x.f14, .int .u64 x.f15, .bool x.f16, .int .i64 x.f17, .slice A18 x.f18.length c18, .slice A19 x.f19.length c19], rfl, rfl, ⟨[.bool x.f3], [.int .i64 x.f4, .int .i64 x.f5, .int .i64 x.f6, .int .i64 x.f7, .int .i64 x.f8, .int .i64 x.f9, .int .u64 x.f10, .int .u64 x.f11, .int .u64 x.f12, .int .u64 x.f13, .int .u64 x.f14, .int .u64 x.f15, .bool x.f16, .int .i64 x.f17, .slice A18 x.f18.length c18, .slice A19 x.f19.length c19], rfl, rfl, ⟨[.int .i64 x.f4], [.int .i64 x.f5, .int .i64 x.f6, .int .i64 x.f7, .int .i64 x.f8, .int .i64 x.f9, .int .u64 x.f10, .int .u64 x.f11, .int .u64 x.f12, .int .u64 x.f13, .int .u64 x.f14, .int .u64 x.f15, .bool x.f16, .int .i64 x.f17, .slice A18 x.f18.length c18, .slice A19 x.f19.length c19], rfl, rfl, ⟨[.int .i64 x.f5], [.int .i64 x.f6, .int .i64 x.f7, .int .i64 x.f8, .int .i64 x.f9, .int .u64 x.f10, .int .u64 x.f11, .int .u64 x.f12, .int .u64 x.f13, .int .u64 x.f14, .int .u64 x.f15, .bool x.f16, .int .i64 x.f17, .slice A18 x.f18.length c18, .slice A19 x.f19.length c19], rfl, rfl, ⟨[.int .i64 x.f6], [.int .i64 x.f7, .int .i64 x.f8, .int .i64 x.f9, .int .u64 x.f10, .int .u64 x.f11, .int .u64 x.f12, .int .u64 x.f13, .int .u64 x.f14, .int .u64 x.f15, .bool x.f16, .int .i64 x.f17, .slice A18 x.f18.length c18, .slice A19 x.f19.length c19], rfl, rfl, ⟨[.int .i64 x.f7], [.int .i64 x.f8, .int .i64 x.f9, .int .u64 x.f10, .int .u64 x.f11, .int .u64 x.f12, .int .u64 x.f13, .int .u64 x.f14, .int .u64 x.f15, .bool x.f16, .int .i64 x.f17, .slice A18 x.f18.length c18, .slice A19 x.f19.length c19], rfl, rfl, ⟨[.int .i64 x.f8], [.int .i64 x.f9, .int .u64 x.f10, .int .u64 x.f11, .int .u64 x.f12, .int .u64 x.f13, .int .u64 x.f14, .int .u64 x.f15, .bool x.f16, .int .i64 x.f17, .slice A18 x.f18.length c18, .slice A19 x.f19.length c19], rfl, rfl, ⟨[.int .i64 x.f9], [.int .u64 x.f10, .int .u64 x.f11, .int .u64 x.f12, .int .u64 x.f13, .int .u64 x.f14, .int .u64 x.f15, .bool x.f16, .int .i64 x.f17, .slice A18 x.f18.length c18, .slice A19 x.f19.length c19], rfl, rfl, ⟨[.int .u64 x.f10], [.int .u64 x.f11, .int .u64 x.f12, .int .u64 x.f13, .int .u64 x.f14, .int .u64 x.f15, .bool x.f16, .int .i64 x.f17, .slice A18 x.f18.length c18, .slice A19 x.f19.length c19], rfl, rfl, ⟨[.int .u64 x.f11], [.int .u64 x.f12, .int .u64 x.f13, .int .u64 x.f14, .int .u64 x.f15, .bool x.f16, .int .i64 x.f17, .slice A18 x.f18.length c18, .slice A19 x.f19.length c19], rfl, rfl, ⟨[.int .u64 x.f12], [.int .u64 x.f13, .int .u64 x.f14, .int .u64 x.f15, .bool x.f16, .int .i64 x.f17, .slice A18 x.f18.length c18, .slice A19 x.f19.length c19], rfl, rfl, ⟨[.int .u64 x.f13], [.int .u64 x.f14, .int .u64 x.f15, .bool x.f16, .int .i64 x.f17, .slice A18 x.f18.length c18, .slice A19 x.f19.length c19], rfl, rfl, ⟨[.int .u64 x.f14], [.int .u64 x.f15, .bool x.f16, .int .i64 x.f17, .slice A18 x.f18.length c18, .slice A19 x.f19.length c19], rfl, rfl, ⟨[.int .u64 x.f15], [.bool x.f16, .int .i64 x.f17, .slice A18 x.f18.length c18, .slice A19 x.f19.length c19], rfl, rfl, ⟨[.bool x.f16], [.int .i64 x.f17, .slice A18 x.f18.length c18, .slice A19 x.f19.length c19], rfl, rfl, ⟨[.int .i64 x.f17], [.slice A18 x.f18.length c18, .slice A19 x.f19.length c19], rfl, rfl, ⟨[.slice A18 x.f18.length c18], [.slice A19 x.f19.length c19], rfl, ⟨A18, c18, rfl, l18, g18⟩, ⟨A19, c19, rfl, l19, g19⟩⟩⟩⟩⟩⟩⟩⟩⟩⟩⟩⟩⟩⟩⟩⟩⟩⟩⟩⟩
theorem k43_mkM (w : World) (base : Nat) (ok : Nat → Prop) (x : S43) {v0 : Value} (g0 : k104.R 104 w base ok v0 x.f0) {v18 : Value} (g18 : k106.R 106 w base ok v18 x.f18) {v19 : Value} (g19 : k108.R 108 w base ok v19 x.f19) : k43.M w base ok x [v0, .int .u8 x.f1, .int .i64 x.f2, .bool x.f3, .int .i64 x.f4, .int .i64 x.f5, .int .i64 x.f6, .int .i64 x.f7, .int .i64 x.f8, .int .i64 x.f9, .int .u64 x.f10, .int .u64 x.f11, .int .u64 x.f12, .int .u64 x.f13, .int .u64 x.f14, .int .u64 x.f15, .bool x.f16, .int .i64 x.f17, v18, v19] := ⟨[v0], [.int .u8 x.f1, .int .i64 x.f2, .bool x.f3, .int .i64 x.f4, .int .i64 x.f5, .int .i64 x.f6, .int .i64 x.f7, .int .i64 x.f8, .int .i64 x.f9, .int .u64 x.f10, .int .u64 x.f11, .int .u64 x.f12, .int .u64 x.f13, .int .u64 x.f14, .int .u64 x.f15, .bool x.f16, .int .i64 x.f17, v18, v19], rfl, ⟨v0, rfl, g0⟩, ⟨[.int .u8 x.f1], [.int .i64 x.f2, .bool x.f3, .int .i64 x.f4, .int .i64 x.f5, .int .i64 x.f6, .int .i64 x.f7, .int .i64 x.f8, .int .i64 x.f9, .int .u64 x.f10, .int .u64 x.f11, .int .u64 x.f12, .int .u64 x.f13, .int .u64 x.f14, .int .u64 x.f15, .bool x.f16, .int .i64 x.f17, v18, v19], rfl, rfl, ⟨[.int .i64 x.f2], [.bool x.f3, .int .i64 x.f4, .int .i64 x.f5, .int .i64 x.f6, .int .i64 x.f7, .int .i64 x.f8, .int .i64 x.f9, .int .u64 x.f10, .int .u64 x.f11, .int .u64 x.f12, .int .u64 x.f13, .int .u64 x.f14, .int .u64 x.f15, .bool x.f16, .int .i64 x.f17, v18, v19], rfl, rfl, ⟨[.bool x.f3], [.int .i64 x.f4, .int .i64 x.f5, .int .i64 x.f6, .int .i64 x.f7, .int .i64 x.f8, .int .i64 x.f9, .int .u64 x.f10, .int .u64 x.f11, .int .u64 x.f12, .int .u64 x.f13, .int .u64 x.f14, .int .u64 x.f15, .bool x.f16, .int .i64 x.f17, v18, v19], rfl, rfl, ⟨[.int .i64 x.f4], [.int .i64 x.f5, .int .i64 x.f6, .int .i64 x.f7, .int .i64 x.f8, .int .i64 x.f9, .int .u64 x.f10, .int .u64 x.f11, .int .u64 x.f12, .int .u64 x.f13, .int .u64 x.f14, .int .u64 x.f15, .bool x.f16, .int .i64 x.f17, v18, v19], rfl, rfl, ⟨[.int .i64 x.f5], [.int .i64 x.f6, .int .i64 x.f7, .int .i64 x.f8, .int .i64 x.f9, .int .u64 x.f10, .int .u64 x.f11, .int .u64 x.f12, .int .u64 x.f13, .int .u64 x.f14, .int .u64 x.f15, .bool x.f16, .int .i64 x.f17, v18, v19], rfl, rfl, ⟨[.int .i64 x.f6], [.int .i64 x.f7, .int .i64 x.f8, .int .i64 x.f9, .int .u64 x.f10, .int .u64 x.f11, .int .u64 x.f12, .int .u64 x.f13, .int .u64 x.f14, .int .u64 x.f15, .bool x.f16, .int .i64 x.f17, v18, v19], rfl, rfl, ⟨[.int .i64 x.f7], [.int .i64 x.f8, .int .i64 x.f9, .int .u64 x.f10, .int .u64 x.f11, .int .u64 x.f12, .int .u64 x.f13, .int .u64 x.f14, .int .u64 x.f15, .bool x.f16, .int .i64 x.f17, v18, v19], rfl, rfl, ⟨[.int .i64 x.f8], [.int .i64 x.f9, .int .u64 x.f10, .int .u64 x.f11, .int .u64 x.f12, .int .u64 x.f13, .int .u64 x.f14, .int .u64 x.f15, .bool x.f16, .int .i64 x.f17, v18, v19], rfl, rfl, ⟨[.int .i64 x.f9], [.int .u64 x.f10, .int .u64 x.f11, .int .u64 x.f12, .int .u64 x.f13, .int .u64 x.f14, .int .u64 x.f15, .bool x.f16, .int .i64 x.f17, v18, v19], rfl, rfl, ⟨[.int .u64 x.f10], [.int .u64 x.f11, .int .u64 x.f12, .int .u64 x.f13, .int .u64 x.f14, .int .u64 x.f15, .bool x.f16, .int .i64 x.f17, v18, v19], rfl, rfl, ⟨[.int .u64 x.f11], [.int .u64 x.f12, .int .u64 x.f13, .int .u64 x.f14, .int .u64 x.f15, .bool x.f16, .int .i64 x.f17, v18, v19], rfl, rfl, ⟨[.int .u64 x.f12], [.int .u64 x.f13, .int .u64 x.f14, .int .u64 x.f15, .bool x.f16, .int .i64 x.f17, v18, v19], rfl, rfl, ⟨[.int .u64 x.f13], [.int .u64 x.f14, .int .u64 x.f15, .bool x.f16, .int .i64 x.f17, v18, v19], rfl, rfl, ⟨[.int .u64 x.f14], [.int .u64 x.f15, .bool x.f16, .int .i64 x.f17, v18, v19], rfl, rfl, ⟨[.int .u64 x.f15], [.bool x.f16, .int .i64 x.f17, v18, v19], rfl, rfl, ⟨[.bool x.f16], [.int .i64 x.f17, v18, v19], rfl, rfl, ⟨[.int .i64 x.f17], [v18, v19], rfl, rfl, ⟨[v18], [v19], rfl, ⟨v18, rfl, g18⟩, ⟨v19, rfl, g19⟩⟩⟩⟩⟩⟩⟩⟩⟩⟩⟩⟩⟩⟩⟩⟩⟩⟩⟩⟩
def rd_T43 (xs : List S43) (i : Int) : S43 := xs.getD i.toNat z43
theorem at_T43 {w : World} {A : Option Addr} {n : Nat} {xs : List S43} (h : Kd.C k43 w A n xs) (i : Int) (h0 : 0 ≤ i) (h1 : i < n) : ∃ ad A0 c0 A18 c18 A19 c19, A = some ad ∧ w.cell? (ad.add (i.toNat * 20)) = some (.slice A0 (rd_T43 xs i).f0.length c0) ∧ w.cell? ⟨(ad.add (i.toNat * 20)).block, (ad.add (i.toNat * 20)).off + 1, none⟩ = some (.int .u8 (rd_T43 xs i).f1) ∧ w.cell? ⟨(ad.add (i.toNat * 20)).block, (ad.add (i.toNat * 20)).off + 2, none⟩ = some (.int .i64 (rd_T43 xs i).f2) ∧ w.cell? ⟨(ad.add (i.toNat * 20)).block, (ad.add (i.toNat * 20)).off + 3, none⟩ = some (.bool (rd_T43 xs i).f3) ∧ w.cell? ⟨(ad.add (i.toNat * 20)).block, (ad.add (i.toNat * 20)).off + 4, none⟩ = some (.int .i64 (rd_T43 xs i).f4) ∧ w.cell? ⟨(ad.add (i.toNat * 20)).block, (ad.add (i.toNat * 20)).off + 5, none⟩ = some (.int .i64 (rd_T43 xs i).f5) ∧ w.cell? ⟨(ad.add (i.toNat * 20)).block, (ad.add (i.toNat * 20)).off + 6, none⟩ = some (.int .i64 (rd_T43 xs i).f6) ∧ w.cell? ⟨(ad.add (i.toNat * 20)).block, (ad.add (i.toNat * 20)).off + 7, none⟩ = some (.int .i64 (rd_T43 xs i).f7) ∧ w.cell? ⟨(ad.add (i.toNat * 20)).block, (ad.add (i.toNat * 20)).off + 8, none⟩ = some (.int .i64 (rd_T43 xs i).f8) ∧ w.cell? ⟨(ad.add (i.toNat * 20)).block, (ad.add (i.toNat * 20)).off + 9, none⟩ = some (.int .i64 (rd_T43 xs i).f9) ∧ w.cell? ⟨(ad.add (i.toNat * 20)).block, (ad.add (i.toNat * 20)).off + 10, none⟩ = some (.int .u64 (rd_T43 xs i).f10) ∧ w.cell? ⟨(ad.add (i.toNat * 20)).block, (ad.add (i.toNat * 20)).off + 11, none⟩ = some (.int .u64 (rd_T43 xs i).f11) ∧ w.cell? ⟨(ad.add (i.toNat * 20)).block, (ad.add (i.toNat * 20)).off + 12, none⟩ = some (.int .u64 (rd_T43 xs i).f12) ∧ w.cell? ⟨(ad.add (i.toNat * 20)).block, (ad.add (i.toNat * 20)).off + 13, none⟩ = some (.int .u64 (rd_T43 xs i).f13) ∧ w.cell? ⟨(ad.add (i.toNat * 20)).block, (ad.add (i.toNat * 20)).off + 14, none⟩ = some (.int .u64 (rd_T43 xs i).f14) ∧ w.cell? ⟨(ad.add (i.toNat * 20)).block, (ad.add (i.toNat * 20)).off + 15, none⟩ = some (.int .u64 (rd_T43 xs i).f15) ∧ w.cell? ⟨(ad.add (i.toNat * 20)).block, (ad.add (i.toNat * 20)).off + 16, none⟩ = some (.bool (rd_T43 xs i).f16) ∧ w.cell? ⟨(ad.add (i.toNat * 20)).block, (ad.add (i.toNat * 20)).off + 17, none⟩ = some (.int .i64 (rd_T43 xs i).f17) ∧ w.cell? ⟨(ad.add (i.toNat * 20)).block, (ad.add (i.toNat * 20)).off + 18, none⟩ = some (.slice A18 (rd_T43 xs i).f18.length c18) ∧ w.cell? ⟨(ad.add (i.toNat * 20)).block, (ad.add (i.toNat * 20)).off + 19, none⟩ = some (.slice A19 (rd_T43 xs i).f19.length c19) ∧ (rd_T43 xs i).f0.length ≤ c0 ∧ k104.C w A0 (rd_T43 xs i).f0.length (rd_T43 xs i).f0 ∧ (rd_T43 xs i).f18.length ≤ c18 ∧ k106.C w A18 (rd_T43 xs i).f18.length (rd_T43 xs i).f18 ∧ (rd_T43 xs i).f19.length ≤ c19 ∧ k108.C w A19 (rd_T43 xs i).f19.length (rd_T43 xs i).f19 := by
  obtain ⟨ad, c, e, _, hK, hc0⟩ := Kd.C_get h z43 i h0 h1
  have hc : ∀ j u, c[j]? = some u → w.cell? (ad.add (i.toNat * 20 + j)) = some u := hc0
  obtain ⟨A0, c0, A18, c18, A19, c19, rfl, l0, g0, l18, g18, l19, g19⟩ := k43_open hK
  exact ⟨ad, A0, c0, A18, c18, A19, c19, e, hc 0 _ rfl, by rw [← add_field _ _ 1 (by omega)]; exact hc 1 _ rfl, by rw [← add_field _ _ 2 (by omega)]; exact hc 2 _ rfl, by rw [← add_field _ _ 3 (by omega)]; exact hc 3 _ rfl, by rw [← add_field _ _ 4 (by omega)]; exact hc 4 _ rfl, by rw [← add_field _ _ 5 (by omega)]; exact hc 5 _ rfl, by rw [← add_field _ _ 6 (by omega)]; exact hc 6 _ rfl, by rw [← add_field _ _ 7 (by omega)]; exact hc 7 _ rfl, by rw [← add_field _ _ 8 (by omega)]; exact hc 8 _ rfl, by rw [← add_field _ _ 9 (by omega)]; exact hc 9 _ rfl, by rw [← add_field _ _ 10 (by omega)]; exact hc 10 _ rfl, by rw [← add_field _ _ 11 (by omega)]; exact hc 11 _ rfl, by rw [← add_field _ _ 12 (by omega)]; exact hc 12 _ rfl, by rw [← add_field _ _ 13 (by omega)]; exact hc 13 _ rfl, by rw [← add_field _ _ 14 (by omega)]; exact hc 14 _ rfl, by rw [← add_field _ _ 15 (by omega)]; exact hc 15 _ rfl, by rw [← add_field _ _ 16 (by omega)]; exact hc 16 _ rfl, by rw [← add_field _ _ 17 (by omega)]; exact hc 17 _ rfl, by rw [← add_field _ _ 18 (by omega)]; exact hc 18 _ rfl, by rw [← add_field _ _ 19 (by omega)]; exact hc 19 _ rfl, l0, g0, l18, g18, l19, g19⟩

/-! #### struct type 45 -/
structure S45 where
  f0 : Int
  f1 : Int
  f2 : Int
  f3 : Int
  f4 : Int
  f5 : Int
  f6 : Bool
  f7 : Int
  f8 : S43
def z45 : S45 := ⟨(0 : Int), (0 : Int), (0 : Int), (0 : Int), (0 : Int), (0 : Int), false, (0 : Int), z43⟩
def k45 : Kd S45 := Kd.iso (Kd.pair (Kd.int .u8) (Kd.pair (Kd.int .u64) (Kd.pair (Kd.int .u64) (Kd.pair (Kd.int .i64) (Kd.pair (Kd.int .i64) (Kd.pair (Kd.int .i64) (Kd.pair Kd.bool (Kd.pair (Kd.int .u64) k43)))))))) (fun x : S45 => (x.f0, x.f1, x.f2, x.f3, x.f4, x.f5, x.f6, x.f7, x.f8))
theorem k45_open {w : World} {x : S45} {cs : List Value} (h : k45.K w x cs) : ∃ A8 c8 A26 c26 A27 c27, cs = [.int .u8 x.f0, .int .u64 x.f1, .int .u64 x.f2, .int .i64 x.f3, .int .i64 x.f4, .int .i64 x.f5, .bool x.f6, .int .u64 x.f7, .slice A8 x.f8.f0.length c8, .int .u8 x.f8.f1, .int .i64 x.f8.f2, .bool x.f8.f3, .int .i64 x.f8.f4, .int .i64 x.f8.f5, .int .i64 x.f8.f6, .int .i64 x.f8.f7, .int .i64 x.f8.f8, .int .i64 x.f8.f9, .int .u64 x.f8.f10, .int .u64 x.f8.f11, .int .u64 x.f8.f12, .int .u64 x.f8.f13, .int .u64 x.f8.f14, .int .u64 x.f8.f15, .bool x.f8.f16, .int .i64 x.f8.f17, .slice A26 x.f8.f18.length c26, .slice A27 x.f8.f19.length c27] ∧ x.f8.f0.length ≤ c8 ∧ k104.C w A8 x.f8.f0.length x.f8.f0 ∧ x.f8.f18.length ≤ c26 ∧ k106.C w A26 x.f8.f18.length x.f8.f18 ∧ x.f8.f19.length ≤ c27 ∧ k108.C w A27 x.f8.f19.length x.f8.f19 := by
  obtain ⟨_, _, rfl, rfl, ⟨_, _, rfl, rfl, ⟨_, _, rfl, rfl, ⟨_, _, rfl, rfl, ⟨_, _, rfl, rfl, ⟨_, _, rfl, rfl, ⟨_, _, rfl, rfl, ⟨_, _, rfl, rfl, s8⟩⟩⟩⟩⟩⟩⟩⟩ := h
  obtain ⟨A8, c8, A26, c26, A27, c27, rfl, l8, g8, l26, g26, l27, g27⟩ := k43_open s8
  exact ⟨A8, c8, A26, c26, A27, c27, rfl, l8, g8, l26, g26, l27, g27⟩
theorem k45_openM {w : World} {base : Nat} {ok : Nat → Prop} {x : S45} {cs : List Value} (h : k45.M w base ok x cs) : ∃ v8 v26 v27, cs = [.int .u8 x.f0, .int .u64 x.f1, .int .u64 x.f2, .int .i64 x.f3, .int .i64 x.f4, .int .i64 x.f5, .bool x.f6, .int .u64 x.f7, v8, .int .u8 x.f8.f1, .int .i64 x.f8.f2, .bool x.f8.f3, .int .i64 x.f8.f4, .int .i64 x.f8.f5, .int .i64 x.f8.f6, .int .i64 x.f8.f7, .int .i64 x.f8.f8, .int .i64 x.f8.f9, .int .u64 x.f8.f10, .int .u64 x.f8.f11, .int .u64 x.f8.f12, .int .u64 x.f8.f13, .int .u64 x.f8.f14, .int .u64 x.f8.f15, .bool x.f8.f16, .int .i64 x.f8.f17, v26, v27] ∧ k104.R 104 w base ok v8 x.f8.f0 ∧ k106.R 106 w base ok v26 x.f8.f18 ∧ k108.R 108 w base ok v27 x.f8.f19 := by
  obtain ⟨_, _, rfl, rfl, ⟨_, _, rfl, rfl, ⟨_, _, rfl, rfl, ⟨_, _, rfl, rfl, ⟨_, _, rfl, rfl, ⟨_, _, rfl, rfl, ⟨_, _, rfl, rfl, ⟨_, _, rfl, rfl, s8⟩⟩⟩⟩⟩⟩⟩⟩ := h
  obtain ⟨v8, v26, v27, rfl, g8, g26, g27⟩ := k43_openM s8
  exact ⟨v8, v26, v27, rfl, g8, g26, g27⟩
theorem k45_mk (w : World) (x : S45) {A8 : Option Addr} {c8 : Nat} (l8 : x.f8.f0.length ≤ c8) (g8 : k104.C w A8 x.f8.f0.length x.f8.f0) {A26 : Option Addr} {c26 : Nat} (l26 : x.f8.f18.length ≤ c26) (g26 : k106.C w A26 x.f8.f18.length x.f8.f18) {A27 : Option Addr} {c27 : Nat} (l27 : x.f8.f19.length ≤ c27) (g27 : k108.C w A27 x.f8.f19.length x.f8.f19) : k45.K w x [.int .u8 x.f0, .int .u64 x.f1, .int .u64 x.f2, .int .i64 x.f3, .int .i64 x.f4, .int .i64 x.f5, .bool x.f6, .int .u64 x.f7, .slice A8 x.f8.f0.length c8, .int .u8 x.f8.f1, .int .i64 x.f8.f2, .bool x.f8.f3, .int .i64 x.f8.f4, .int .i64 x.f8.f5, .int .i64 x.f8.f6, .int .i64 x.f8.f7, .int .i64 x.f8.f8, .int .i64 x.f8.f9, .int .u64 x.f8.f10, .int .u64 x.f8.f11, .int .u64 x.f8.f12, .int .u64 x.f8.f13, .int .u64 x.f8.f14, .int .u64 x.f8.f15, .bool x.f8.f16, .int .i64 x.f8.f17, .slice A26 x.f8.f18.length c26, .slice A27 x.f8.f19.length c27] := ⟨[.int .u8 x.f0], [.int .u64 x.f1, .int .u64 x.f2, .int .i64 x.f3, .int .i64 x.f4, .int .i64 x.f5, .bool x.f6, .int .u64 x.f7, .slice A8 x.f8.f0.length c8, .int .u8 x.f8.f1, .int .i64 x.f8.f2, .bool x.f8.f3, .int .i64 x.f8.f4, .int .i64 x.f8.f5, .int .i64 x.f8.f6, .int .i64 x.f8.f7, .int .i64 x.f8.f8, .int .i64 x.f8.f9, .int .u64 x.f8.f10, .int .u64 x.f8.f11, .int .u64 x.f8.f12, .int .u64 x.f8.f13, .int .u64 x.f8.f14, .int .u64 x.f8.f15, .bool x.f8.f16, .int .i64 x.f8.f17, .slice A26 x.f8.f18.length c26, .slice A27 x.f8.f19.length c27], rfl, rfl, ⟨[.int .u64 x.f1], [.int .u64 x.f2, .int .i64 x.f3, .int .i64 x.f4, .int .i64 x.f5, .bool x.f6, .int .u64 x.f7, .slice A8 x.f8.f0.length c8, .int .u8 x.f8.f1, .int .i64 x.f8.f2, .bool x.f8.f3, .int .i64 x.f8.f4, .int .i64 x.f8.f5, .int .i64 x.f8.f6, .int .i64 x.f8.f7, .int .i64 x.f8.f8, .int .i64 x.f8.f9, .int .u64 x.f8.f10, .int .u64 x.f8.f11, .int .u64 x.f8.f12, .int .u64 x.f8.f13, .int .u64 x.f8.f14, .int .u64 x.f8.f15, .bool x.f8.f16, .int .i64 x.f8.f17, .slice A26 x.f8.f18.length c26, .slice A27 x.f8.f19.length c27], rfl, rfl, ⟨[.int .u64 x.f2], [.int .i64 x.f3, .int .i64 x.f4, .int .i64 x.f5, .bool x.f6, .int .u64 x.f7, .slice A8 x.f8.f0.length c8, .int .u8 x.f8.f1, .int .i64 x.f8.f2, .bool x.f8.f3, .int .i64 x.f8.f4, .int .i64 x.f8.f5, .int .i64 x.f8.f6, .int .i64 x.f8.f7, .int .i64 x.f8.f8, .int .i64 x.f8.f9, .int .u64 x.f8.f10, .int .u64 x.f8.f11, .int .u64 x.f8.f12, .int .u64 x.f8.f13, .int .u64 x.f8.f14, .int .u64 x.f8.f15, .bool x.f8.f16, .int .i64 x.f8.f17, .slice A26 x.f8.f18.length c26, .slice A27 x.f8.f19.length c27], rfl, rfl, ⟨[.int .i64 x.f3], [.int .i64 x.f4, .int .i64 x.f5, .bool x.f6, .int .u64 x.f7, .slice A8 x.f8.f0.length c8, .int .u8 x.f8.f1, .int .i64 x.f8.f2, .bool x.f8.f3, .int .i64 x.f8.f4, .int .i64 x.f8.f5, .int .i64 x.f8.f6, .int .i64 x.f8.f7, .int .i64 x.f8.f8, .int .i64 x.f8.f9, .int .u64 x.f8.f10, .int .u64 x.f8.f11, .int .u64 x.f8.f12, .int .u64 x.f8.f13, .int .u64 x.f8.f14, .int .u64 x.f8.f15, .bool x.f8.f16, .int .i64 x.f8.f17, .slice A26 x.f8.f18.length c26, .slice A27 x.f8.f19.length c27], rfl, rfl, ⟨[.int .i64 x.f4], [.int .i64 x.f5, .bool x.f6, .int .u64 x.f7, .slice A8 x.f8.f0.length c8, .int .u8 x.f8.f1, .int .i64 x.f8.f2, .bool x.f8.f3, .int .i64 x.f8.f4, .int .i64 x.f8.f5, .int .i64 x.f8.f6, .int .i64 x.f8.f7, .int .i64 x.f8.f8, .int .i64 x.f8.f9, .int .u64 x.f8.f10, .int .u64 x.f8.f11, .int .u64 x.f8.f12, .int .u64 x.f8.f13, .int .u64 x.f8.f14, .int .u64 x.f8.f15, .bool x.f8.f16, .int .i64 x.f8.f17, .slice A26 x.f8.f18.length c26, .slice A27 x.f8.f19.length c27], rfl, rfl, ⟨[.int .i64 x.f5], [.bool x.f6, .int .u64 x.f7, .slice A8 x.f8.f0.length c8, .int .u8 x.f8.f1, .int .i64 x.f8.f2, .bool x.f8.f3, .int .i64 x.f8.f4, .int .i64 x.f8.f5, .int .i64 x.f8.f6, .int .i64 x.f8.f7, .int .i64 x.f8.f8, .int .i64 x.f8.f9, .int .u64 x.f8.f10, .int .u64 x.f8.f11, .int .u64 x.f8.f12, .int .u64 x.f8.f13, .int .u64 x.f8.f14, .int .u64 x.f8.f15, .bool x.f8.f16, .int .i64 x.f8.f17, .slice A26 x.f8.f18.length c26, .slice A27 x.f8.f19.length c27], rfl, rfl, ⟨[.bool x.f6], [.int .u64 x.f7, .slice A8 x.f8.f0.length c8, .int .u8 x.f8.f1, .int .i64 x.f8.f2, .bool x.f8.f3, .int .i64 x.f8.f4, .int .i64 x.f8.f5, .int .i64 x.f8.f6, .int .i64 x.f8.f7, .int .i64 x.f8.f8, .int .i64 x.f8.f9, .int .u64 x.f8.f10, .int .u64 x.f8.f11, .int .u64 x.f8.f12, .int .u64 x.f8.f13, .int .u64 x.f8.f14, .int .u64 x.f8.f15, .bool x.f8.f16, .int .i64 x.f8.f17, .slice A26 x.f8.f18.length c26, .slice A27 x.f8.f19.length c27], rfl, rfl, ⟨[.int .u64 x.f7], [.slice A8 x.f8.f0.length c8, .int .u8 x.f8.f1, .int .i64 x.f8.f2, .bool x.f8.f3, .int .i64 x.f8.f4, .int .i64 x.f8.f5, .int .i64 x.f8.f6, .int .i64 x.f8.f7, .int .i64 x.f8.f8, .int .i64 x.f8.f9, .int .u64 x.f8.f10, .int .u64 x.f8.f11, .int .u64 x.f8.f12, .int .u64 x.f8.f13, .int .u64 x.f8.f14, .int .u64 x.f8.f15, .bool x.f8.f16, .int .i64 x.f8.f17, .slice A26 x.f8.f18.length c26, .slice A27 x.f8.f19.length c27], rfl, rfl, (k43_mk w x.f8 l8 g8 l26 g26 l27 g27)⟩⟩⟩⟩⟩⟩⟩⟩
theorem k45_mkM (w : World) (base : Nat) (ok : Nat → Prop) (x : S45) {v8 : Value} (g8 : k104.R 104 w base ok v8 x.f8.f0) {v26 : Value} (g26 : k106.R 106 w base ok v26 x.f8.f18) {v27 : Value} (g27 : k108.R 108 w base ok v27 x.f8.f19) : k45.M w base ok x [.int .u8 x.f0, .int .u64 x.f1, .int .u64 x.f2, .int .i64 x.f3, .int .i64 x.f4, .int .i64 x.f5, .bool x.f6, .int .u64 x.f7, v8, .int .u8 x.f8.f1, .int .i64 x.f8.f2, .bool x.f8.f3, .int .i64 x.f8.f4, .int .i64 x.f8.f5, .int .i64 x.f8.f6, .int .i64 x.f8.f7, .int .i64 x.f8.f8, .int .i64 x.f8.f9, .int .u64 x.f8.f10, .int .u64 x.f8.f11, .int .u64 x.f8.f12, .int .u64 x.f8.f13, .int .u64 x.f8.f14, .int .u64 x.f8.f15, .bool x.f8.f16, .int .i64 x.f8.f17, v26, v27] := ⟨[.int .u8 x.f0], [.int .u64 x.f1, .int .u64 x.f2, .int .i64 x.f3, .int .i64 x.f4, .int .i64 x.f5, .bool x.f6, .int .u64 x.f7, v8, .int .u8 x.f8.f1, .int .i64 x.f8.f2, .bool x.f8.f3, .int .i64 x.f8.f4, .int .i64 x.f8.f5, .int .i64 x.f8.f6, .int .i64 x.f8.f7, .int .i64 x.f8.f8, .int .i64 x.f8.f9, .int .u64 x.f8.f10, .int .u64 x.f8.f11, .int .u64 x.f8.f12, .int .u64 x.f8.f13, .int .u64 x.f8.f14, .int .u64 x.f8.f15, .bool x.f8.f16, .int .i64 x.f8.f17, v26, v27], rfl, rfl, ⟨[.int .u64 x.f1], [.int .u64 x.f2, .int .i64 x.f3, .int .i64 x.f4, .int .i64 x.f5, .bool x.f6, .int .u64 x.f7, v8, .int .u8 x.f8.f1, .int .i64 x.f8.f2, .bool x.f8.f3, .int .i64 x.f8.f4, .int .i64 x.f8.f5, .int .i64 x.f8.f6, .int .i64 x.f8.f7, .int .i64 x.f8.f8, .int .i64 x.f8.f9, .int .u64 x.f8.f10, .int .u64 x.f8.f11, .int .u64 x.f8.f12, .int .u64 x.f8.f13, .int .u64 x.f8.f14, .int .u64 x.f8.f15, .bool x.f8.f16, .int .i64 x.f8.f17, v26, v27], rfl, rfl, ⟨[.int .u64 x.f2], [.int .i64 x.f3, .int .i64 x.f4, .int .i64 x.f5, .bool x.f6, .int .u64 x.f7, v8, .int .u8 x.f8.f1, .int .i64 x.f8.f2, .bool x.f8.f3, .int .i64 x.f8.f4, .int .i64 x.f8.f5, .int .i64 x.f8.f6, .int .i64 x.f8.f7, .int .i64 x.f8.f8, .int .i64 x.f8.f9, .int .u64 x.f8.f10, .int .u64 x.f8.f11, .int .u64 x.f8.f12, .int .u64 x.f8.f13, .int .u64 x.f8.f14, .int .u64 x.f8.f15, .bool x.f8.f16, .int .i64 x.f8.f17, v26, v27], rfl, rfl, ⟨[.int .i64 x.f3], [.int .i64 x.f4, .int .i64 x.f5, .bool x.f6, .int .u64 x.f7, v8, .int .u8 x.f8.f1, .int .i64 x.f8.f2, .bool x.f8.f3, .int .i64 x.f8.f4, .int .i64 x.f8.f5, .int .i64 x.f8.f6, .int .i64 x.f8.f7, .int .i64 x.f8.f8, .int .i64 x.f8.f9, .int .u64 x.f8.f10, .int .u64 x.f8.f11, .int .u64 x.f8.f12, .int .u64 x.f8.f13, .int .u64 x.f8.f14, .int .u64 x.f8.f15, .bool x.f8.f16, .int .i64 x.f8.f17, v26, v27], rfl, rfl, ⟨[.int .i64 x.f4], [.int .i64 x.f5, .bool x.f6, .int .u64 x.f7, v8, .int .u8 x.f8.f1, .int .i64 x.f8.f2, .bool x.f8.f3, .int .i64 x.f8.f4, .int .i64 x.f8.f5, .int .i64 x.f8.f6, .int .i64 x.f8.f7, .int .i64 x.f8.f8, .int .i64 x.f8.f9, .int .u64 x.f8.f10, .int .u64 x.f8.f11, .int .u64 x.f8.f12, .int .u64 x.f8.f13, .int .u64 x.f8.f14, .int .u64 x.f8.f15, .bool x.f8.f16, .int .i64 x.f8.f17, v26, v27], rfl, rfl, ⟨[.int .i64 x.f5], [.bool x.f6, .int .u64 x.f7, v8, .int .u8 x.f8.f1, .int .i64 x.f8.f2, .bool x.f8.f3, .int .i64 x.f8.f4, .int .i64 x.f8.f5, .int .i64 x.f8.f6, .int .i64 x.f8.f7, .int .i64 x.f8.f8, .int .i64 x.f8.f9, .int .u64 x.f8.f10, .int .u64 x.f8.f11, .int .u64 x.f8.f12, .int .u64 x.f8.f13, .int .u64 x.f8.f14, .int .u64 x.f8.f15, .bool x.f8.f16, .int .i64 x.f8.f17, v26, v27], rfl, rfl, ⟨[.bool x.f6], [.int .u64 x.f7, v8, .int .u8 x.f8.f1, .int .i64 x.f8.f2, .bool x.f8.f3, .int .i64 x.f8.f4, .int .i64 x.f8.f5, .int .i64 x.f8.f6, .int .i64 x.f8.f7, .int .i64 x.f8.f8, .int .i64 x.f8.f9, .int .u64 x.f8.f10, .int .u64 x.f8.f11, .int .u64 x.f8.f12, .int .u64 x.f8.f13, .int .u64 x.f8.f14, .int .u64 x.f8.f15, .bool x.f8.f16, .int .i64 x.f8.f17, v26, v27], rfl, rfl, ⟨[.int .u64 x.f7], [v8, .int .u8 x.f8.f1, .int .i64 x.f8.f2, .bool x.f8.f3, .int .i64 x.f8.f4, .int .i64 x.f8.f5, .int .i64 x.f8.f6, .int .i64 x.f8.f7, .int .i64 x.f8.f8, .int .i64 x.f8.f9, .int .u64 x.f8.f10, .int .u64 x.f8.f11, .int .u64 x.f8.f12, .int .u64 x.f8.f13, .int .u64 x.f8.f14, .int .u64 x.f8.f15, .bool x.f8.f16, .int .i64 x.f8.f17, v26, v27], rfl, rfl, (k43_mkM w base ok x.f8 g8 g26 g27)⟩⟩⟩⟩⟩⟩⟩⟩
def rd_T45 (xs : List S45) (i : Int) : S45 := xs.getD i.toNat z45
theorem at_T45 {w : World} {A : Option Addr} {n : Nat} {xs : List S45} (h : Kd.C k45 w A n xs) (i : Int) (h0 : 0 ≤ i) (h1 : i < n) : ∃ ad A8 c8 A26 c26 A27 c27, A = some ad ∧ w.cell? (ad.add (i.toNat * 28)) = some (.int .u8 (rd_T45 xs i).f0) ∧ w.cell? ⟨(ad.add (i.toNat * 28)).block, (ad.add (i.toNat * 28)).off + 1, none⟩ = some (.int .u64 (rd_T45 xs i).f1) ∧ w.cell? ⟨(ad.add (i.toNat * 28)).block, (ad.add (i.toNat * 28)).off + 2, none⟩ = some (.int .u64 (rd_T45 xs i).f2) ∧ w.cell? ⟨(ad.add (i.toNat * 28)).block, (ad.add (i.toNat * 28)).off + 3, none⟩ = some (.int .i64 (rd_T45 xs i).f3) ∧ w.cell? ⟨(ad.add (i.toNat * 28)).block, (ad.add (i.toNat * 28)).off + 4, none⟩ = some (.int .i64 (rd_T45 xs i).f4) ∧ w.cell? ⟨(ad.add (i.toNat * 28)).block, (ad.add (i.toNat * 28)).off + 5, none⟩ = some (.int .i64 (rd_T45 xs i).f5) ∧ w.cell? ⟨(ad.add (i.toNat * 28)).block, (ad.add (i.toNat * 28)).off + 6, none⟩ = some (.bool (rd_T45 xs i).f6) ∧ w.cell? ⟨(ad.add (i.toNat * 28)).block, (ad.add (i.toNat * 28)).off + 7, none⟩ = some (.int .u64 (rd_T45 xs i).f7) ∧ w.cell? ⟨(ad.add (i.toNat * 28)).block, (ad.add (i.toNat * 28)).off + 8, none⟩ = some (.slice A8 (rd_T45 xs i).f8.f0.length c8) ∧ w.cell? ⟨(ad.add (i.toNat * 28)).block, (ad.add (i.toNat * 28)).off + 9, none⟩ = some (.int .u8 (rd_T45 xs i).f8.f1) ∧ w.cell? ⟨(ad.add (i.toNat * 28)).block, (ad.add (i.toNat * 28)).off + 10, none⟩ = some (.int .i64 (rd_T45 xs i).f8.f2) ∧ w.cell? ⟨(ad.add (i.toNat * 28)).block, (ad.add (i.toNat * 28)).off + 11, none⟩ = some (.bool (rd_T45 xs i).f8.f3) ∧ w.cell? ⟨(ad.add (i.toNat * 28)).block, (ad.add (i.toNat * 28)).off + 12, none⟩ = some (.int .i64 (rd_T45 xs i).f8.f4) ∧ w.cell? ⟨(ad.add (i.toNat * 28)).block, (ad.add (i.toNat * 28)).off + 13, none⟩ = some (.int .i64 (rd_T45 xs i).f8.f5) ∧ w.cell? ⟨(ad.add (i.toNat * 28)).block, (ad.add (i.toNat * 28)).off + 14, none⟩ = some (.int .i64 (rd_T45 xs i).f8.f6) ∧ w.cell? ⟨(ad.add (i.toNat * 28)).block, (ad.add (i.toNat * 28)).off + 15, none⟩ = some (.int .i64 (rd_T45 xs i).f8.f7) ∧ w.cell? ⟨(ad.add (i.toNat * 28)).block, (ad.add (i.toNat * 28)).off + 16, none⟩ = some (.int .i64 (rd_T45 xs i).f8.f8) ∧ w.cell? ⟨(ad.add (i.toNat * 28)).block, (ad.add (i.toNat * 28)).off + 17, none⟩ = some (.int .i64 (rd_T45 xs i).f8.f9) ∧ w.cell? ⟨(ad.add (i.toNat * 28)).block, (ad.add (i.toNat * 28)).off + 18, none⟩ = some (.int .u64 (rd_T45 xs i).f8.f10) ∧ w.cell? ⟨(ad.add (i.toNat * 28)).block, (ad.add (i.toNat * 28)).off + 19, none⟩ = some (.int .u64 (rd_T45 xs i).f8.f11) ∧ w.cell? ⟨(ad.add (i.toNat * 28)).block, (ad.add (i.toNat * 28)).off + 20, none⟩ = some (.int .u64 (rd_T45 xs i).f8.f12) ∧ w.cell? ⟨(ad.add (i.toNat * 28)).block, (ad.add (i.toNat * 28)).off + 21, none⟩ = some (.int .u64 (rd_T45 xs i).f8.f13) ∧ w.cell? ⟨(ad.add (i.toNat * 28)).block, (ad.add (i.toNat * 28)).off + 22, none⟩ = some (.int .u64 (rd_T45 xs i).f8.f14) ∧ w.cell? ⟨(ad.add (i.toNat * 28)).block, (ad.add (i.toNat * 28)).off + 23, none⟩ = some (.int .u64 (rd_T45 xs i).f8.f15) ∧ w.cell? ⟨(ad.add (i.toNat * 28)).block, (ad.add (i.toNat * 28)).off + 24, none⟩ = some (.bool (rd_T45 xs i).f8.f16) ∧ w.cell? ⟨(ad.add (i.toNat * 28)).block, (ad.add (i.toNat * 28)).off + 25, none⟩ = some (.int .i64 (rd_T45 xs i).f8.f17) ∧ w.cell? ⟨(ad.add (i.toNat * 28)).block, (ad.add (i.toNat * 28)).off + 26, none⟩ = some (.slice A26 (rd_T45 xs i).f8.f18.length c26) ∧ w.cell? ⟨(ad.add (i.toNat * 28)).block, (ad.add (i.toNat * 28)).off + 27, none⟩ = some (.slice A27 (rd_T45 xs i).f8.f19.length c27) ∧ (rd_T45 xs i).f8.f0.length ≤ c8 ∧ k104.C w A8 (rd_T45 xs i).f8.f0.length (rd_T45 xs i).f8.f0 ∧ (rd_T45 xs i).f8.f18.length ≤ c26 ∧ k106.C w A26 (rd_T45 xs i).f8.f18.length (rd_T45 xs i).f8.f18 ∧ (rd_T45 xs i).f8.f19.length ≤ c27 ∧ k108.C w A27 (rd_T45 xs i).f8.f19.length (rd_T45 xs i).f8.f19 := by
  obtain ⟨ad, c, e, _, hK, hc0⟩ := Kd.C_get h z45 i h0 h1
  have hc : ∀ j u, c[j]? = some u → w.cell? (ad.add (i.toNat * 28 + j)) = some u := hc0
  obtain ⟨A8, c8, A26, c26, A27, c27, rfl, l8, g8, l26, g26, l27, g27⟩ := k45_open hK
  exact ⟨ad, A8, c8, A26, c26, A27, c27, e, hc 0 _ rfl, by rw [← add_field _ _ 1 (by omega)]; exact hc 1 _ rfl, by rw [← add_field _ _ 2 (by omega)]; exact hc 2 _ rfl, by rw [← add_field _ _ 3 (by omega)]; exact hc 3 _ rfl, by rw [← add_field _ _ 4 (by omega)]; exact hc 4 _ rfl, by rw [← add_field _ _ 5 (by omega)]; exact hc 5 _ rfl, by rw [← add_field _ _ 6 (by omega)]; exact hc 6 _ rfl, by rw [← add_field _ _ 7 (by omega)]; exact hc 7 _ rfl, by rw [← add_field _ _ 8 (by omega)]; exact hc 8 _ rfl, by rw [← add_field _ _ 9 (by omega)]; exact hc 9 _ rfl, by rw [← add_field _ _ 10 (by omega)]; exact hc 10 _ rfl, by rw [← add_field _ _ 11 (by omega)]; exact hc 11 _ rfl, by rw [← add_field _ _ 12 (by omega)]; exact hc 12 _ rfl, by rw [← add_field _ _ 13 (by omega)]; exact hc 13 _ rfl, by rw [← add_field _ _ 14 (by omega)]; exact hc 14 _ rfl, by rw [← add_field _ _ 15 (by omega)]; exact hc 15 _ rfl, by rw [← add_field _ _ 16 (by omega)]; exact hc 16 _ rfl, by rw [← add_field _ _ 17 (by omega)]; exact hc 17 _ rfl, by rw [← add_field _ _ 18 (by omega)]; exact hc 18 _ rfl, by rw [← add_field _ _ 19 (by omega)]; exact hc 19 _ rfl, by rw [← add_field _ _ 20 (by omega)]; exact hc 20 _ rfl, by rw [← add_field _ _ 21 (by omega)]; exact hc 21 _ rfl, by rw [← add_field _ _ 22 (by omega)]; exact hc 22 _ rfl, by rw [← add_field _ _ 23 (by omega)]; exact hc 23 _ rfl, by rw [← add_field _ _ 24 (by omega)]; exact hc 24 _ rfl, by rw [← add_field _ _ 25 (by omega)]; exact hc 25 _ rfl, by rw [← add_field _ _ 26 (by omega)]; exact hc 26 _ rfl, by rw [← add_field _ _ 27 (by omega)]; exact hc 27 _ rfl, l8, g8, l26, g26, l27, g27⟩


end Go.Proofs.Ytfhopjigdkjnoaa.GA
