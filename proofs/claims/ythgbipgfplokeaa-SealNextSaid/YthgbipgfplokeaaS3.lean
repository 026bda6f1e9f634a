import Derived.Test.YthgbipgfplokeaaS2
import Derived.Laws.CopyOwn
namespace Go.Proofs.Ythgbipgfplokeaa.GA
open Go.RowKit Go.Proofs.YthgbipgfplokeaaW.PrintWords Go.Proofs.YthgbipgfplokeaaW.PrintLast Go.Proofs.YthgbipgfplokeaaW.PrintMore
set_option linter.unusedVariables false
set_option linter.unusedSimpArgs false

/-- bytes of a block that is known are read -/
theorem C_block {w : World} {g : Nat} {t : TypeId} {X : List Int} (hb : w.heap[g]? = some (.cells (bcells X) t (0, 0))) (p n : Nat) (h : p + n ≤ X.length) (hm : n ≤ 9223372036854775807) : Kd.C (Kd.int .u8) w (some ⟨g, p, none⟩) n ((X.drop p).take n) := by
  refine Kd.C_of_reads (d := (0 : Int)) (h1 := fun _ => rfl) ⟨by rw [List.length_take, List.length_drop]; omega, hm, fun _ => ⟨⟨g, p, none⟩, rfl, fun j hj => ?_⟩⟩
  have e : (⟨g, p, none⟩ : Addr).add j = ⟨g, p + j, none⟩ := Addr.add_mid g p j
  rw [e, blk_cell hb, bcells_get X (p + j) (by omega)]
  congr 2
  unfold rd
  rw [Int.toNat_natCast, List.getD_eq_getElem?_getD, List.getD_eq_getElem?_getD, List.getElem?_take, if_pos hj, List.getElem?_drop]
theorem bcells_ofSize : (Try.prog.info? 5).map (·.size) = some 1 := by kernel_rfl
section
variable {ops : Array Oper} {rest : List Oper} {o : Oper} {a : Act} {Q : Exit → Act → World → Prop}
/-- bytes copied into a block that is known -/
theorem wpList_bcopy {W w0 : World} (hgd : o.guard = none) (d s : Operand) (ho : o.op = .call { callee := .builtin .copy, args := #[d, s], argTypes := #[23, 23] }) (g off n : Nat) (X xs : List Int) (A : Option Addr) (m c t : Nat)
    (hd : a.eval d = .slice (some ⟨g, off, none⟩) n n) (hs : a.eval s = .slice A m c) (hg : W.heap[g]? = some (.cells (bcells X) t (0, 0))) (hx : Kd.C (Kd.int .u8) W A m xs) (hm : m ≤ n) (hf : off + m ≤ X.length) (B : Nat) (hb : Below B w0 W) (hBg : B ≤ g)
    (h : ∀ w1, Aside0 (w1.heap[g]? = some (.cells (bcells (splice X off xs)) t (0, 0))) → Aside0 (∀ k, k ≠ g → w1.heap[k]? = W.heap[k]?) → Below B w0 w1 → wpList Try.prog ops Q rest (a.put o.dst (goInt m)) w1) : wpList Try.prog ops Q (o :: rest) a W := by
  have hr := Kd.reads_of_C (d := (0 : Int)) (show (Kd.scalar (Value.int .u8) (fun _ => rfl)).C W A m xs from hx)
  have hxm : xs.length = m := hr.1
  by_cases h0 : m = 0
  · subst h0
    have hnil : xs = [] := List.length_eq_zero_iff.1 hxm
    subst hnil
    refine wpList_copy_nothing hgd d s 23 23 ho 5 Try.underlying23 bcells_ofSize _ _ _ _ _ _ hd hs (by simp [Nat.min_def]) ?_
    exact h W ⟨by simpa [splice] using hg⟩ ⟨fun k _ => rfl⟩ hb
  · obtain ⟨ad, rfl, hcell⟩ := hr.2.2 (by omega)
    refine wpList_copy_own hgd d s 23 23 ho 5 Try.underlying23 bcells_ofSize g off n n ad m c hd hs (bcells X) t hg (encs (Value.int .u8) xs) (by rw [encs_length, hxm]; exact (Nat.min_eq_left hm).symm) ?_ (by rw [encs_length, bcells_size]; omega) ?_ ?_
    · intro j v hv
      have hj : j < m := by
        have := (List.getElem?_eq_some_iff.1 hv).1
        rw [encs_length] at this; omega
      have h2 := hcell j hj
      rw [encs_get (d := (0 : Int)) xs j (by omega)] at hv
      rw [h2]; exact hv
    · intro v hv
      unfold encs at hv
      obtain ⟨x, _, rfl⟩ := List.mem_map.1 hv
      rfl
    · have e : ((bcells X).toList.take off ++ (encs (Value.int .u8) xs ++ (bcells X).toList.drop (off + (encs (Value.int .u8) xs).length))).toArray = bcells (splice X off xs) := by
        unfold bcells splice encs
        simp only [List.map_append, List.map_take, List.map_drop, List.length_map]
      rw [e, show (goInt (encs (Value.int .u8) xs).length) = goInt m from by rw [encs_length, hxm]]
      exact h _ ⟨setRow_heap W g _ _ t _ hg⟩ ⟨fun k hk => setRow_other W g k _ hk⟩ (below_setRow hb hBg _)
end
theorem splice_mid {α : Type} (A M C xs : List α) (h : M.length = xs.length) : splice (A ++ (M ++ C)) A.length xs = A ++ (xs ++ C) := by
  unfold splice
  rw [List.take_left, ← List.drop_drop, List.drop_left, ← h, List.drop_left]

/-- what stands behind the sum -/
def sealZ (n : Int) (b : List Int) : List Int := bytesOf8 n ++ (b ++ (List.replicate (44 - b.length) 0 ++ bytesOf8 n))
theorem sealZ_len (n : Int) (b : List Int) (h : b.length ≤ 44) : (sealZ n b).length = 60 := by simp [sealZ, bytesOf8]; omega
def zero64 : List Int := List.replicate 64 0
def seal_Put.f (k : Nat) (n : Int) (b : List Int) : Option (List Int × Int) :=
  if n = 0 then some (zero64, 2) else if 44 < b.length then some (zero64, 3) else
  (bits_Len64.f k n).bind fun L1 => (crc_Of.f k (sealZ n b)).bind fun s => (bits_Len64.f k s).bind fun L2 => if L1 ≤ 64 ∧ L2 ≤ 32 ∧ 0 ≤ s ∧ s < 4294967296 then some (bytesOf4 s ++ sealZ n b, 0) else none
theorem seal_info : (Try.prog.info? 26).map (·.size) = some 64 := by kernel_rfl
theorem put_x1 (n : Int) : splice zero64 4 (bytesOf8 n) = List.replicate 4 0 ++ (bytesOf8 n ++ List.replicate 52 0) := by
  have e : zero64 = List.replicate 4 0 ++ (List.replicate 8 0 ++ List.replicate 52 0) := by decide
  rw [e]; exact splice_mid (List.replicate 4 0) (List.replicate 8 0) (List.replicate 52 0) (bytesOf8 n) rfl
theorem put_x2 (n : Int) (b : List Int) (h : b.length ≤ 44) : splice (List.replicate 4 0 ++ (bytesOf8 n ++ List.replicate 52 0)) 12 b = List.replicate 4 0 ++ (bytesOf8 n ++ (b ++ (List.replicate (44 - b.length) 0 ++ List.replicate 8 0))) := by
  have e : (List.replicate 4 0 ++ (bytesOf8 n ++ List.replicate 52 0) : List Int) = (List.replicate 4 0 ++ bytesOf8 n) ++ (List.replicate b.length 0 ++ (List.replicate (44 - b.length) 0 ++ List.replicate 8 0)) := by
    rw [List.append_assoc, List.replicate_append_replicate, List.replicate_append_replicate, show b.length + (44 - b.length + 8) = 52 by omega]
  rw [e, show 12 = (List.replicate 4 (0 : Int) ++ bytesOf8 n).length from rfl, splice_mid _ _ _ b (by simp), List.append_assoc]
theorem put_x3 (n : Int) (b : List Int) (h : b.length ≤ 44) : splice (List.replicate 4 0 ++ (bytesOf8 n ++ (b ++ (List.replicate (44 - b.length) 0 ++ List.replicate 8 0)))) 56 (bytesOf8 n) = List.replicate 4 0 ++ sealZ n b := by
  have e : (List.replicate 4 0 ++ (bytesOf8 n ++ (b ++ (List.replicate (44 - b.length) 0 ++ List.replicate 8 0))) : List Int) = (List.replicate 4 0 ++ (bytesOf8 n ++ (b ++ List.replicate (44 - b.length) 0))) ++ (List.replicate 8 0 ++ []) := by simp
  have e2 : 56 = (List.replicate 4 (0 : Int) ++ (bytesOf8 n ++ (b ++ List.replicate (44 - b.length) 0))).length := by simp [bytesOf8]; omega
  rw [e]
  refine (congrArg (fun q => splice _ q _) e2).trans ?_
  rw [splice_mid _ _ _ (bytesOf8 n) (by simp [bytesOf8])]
  simp [sealZ]
theorem put_x4 (s : Int) (Z : List Int) : splice (List.replicate 4 0 ++ Z) 0 (bytesOf4 s) = bytesOf4 s ++ Z := splice_mid [] (List.replicate 4 0) Z (bytesOf4 s) rfl
end Go.Proofs.Ythgbipgfplokeaa.GA
