/- The law, walked. No condition. -/
import Derived.Test.YthphdhhogdhmeaaS4
import Derived.Laws.CopyOwn
import Derived.ChangeKeysEq
import Derived.Deep.RegionHeld3
import Derived.Deep.MidRow
import Derived.Shelf.Abstract
namespace Go.Proofs.Ythphdhhogdhmeaa.GA
open Go.RowKit Go.Shelf Go.Proofs.YthphdhhogdhmeaaW.PrintWords Go.Proofs.YthphdhhogdhmeaaW.PrintLast Go.Proofs.YthphdhhogdhmeaaW.PrintMore
set_option linter.unusedVariables false
set_option linter.unusedSimpArgs false

/-- its version is one of 1 to 4 -/
def fixA (x : S29) : S29 := { x with f11 := (1 + x.f11.tmod 4) % 4294967296 }
def fixB (x : S33) : S33 := { x with f4 := (1 + x.f4.tmod 4) % 4294967296 }
def updA (l : List S29) (i : Nat) : List S29 := (l.take i).map fixA ++ l.drop i
def updB (l : List S33) (i : Nat) : List S33 := (l.take i).map fixB ++ l.drop i
theorem updA0 (l : List S29) : updA l 0 = l := rfl
theorem updB0 (l : List S33) : updB l 0 = l := rfl
theorem updA_len (l : List S29) (i : Nat) (h : i ≤ l.length) : (updA l i).length = l.length := by simp [updA]; omega
theorem updB_len (l : List S33) (i : Nat) (h : i ≤ l.length) : (updB l i).length = l.length := by simp [updB]; omega
theorem updA_get (l : List S29) (i : Nat) (h : i < l.length) : (updA l i).getD i z29 = rd_T29 l (i : Int) := by
  unfold updA rd_T29
  rw [Int.toNat_natCast, List.getD_eq_getElem?_getD, List.getD_eq_getElem?_getD, List.getElem?_append_right (by simp; omega)]
  simp [Nat.min_eq_left (Nat.le_of_lt h)]
theorem updB_get (l : List S33) (i : Nat) (h : i < l.length) : (updB l i).getD i z33 = rd_T33 l (i : Int) := by
  unfold updB rd_T33
  rw [Int.toNat_natCast, List.getD_eq_getElem?_getD, List.getD_eq_getElem?_getD, List.getElem?_append_right (by simp; omega)]
  simp [Nat.min_eq_left (Nat.le_of_lt h)]
theorem set_mid {α : Type} (P Q : List α) (x y : α) (n : Nat) (h : P.length = n) : (P ++ x :: Q).set n y = P ++ y :: Q := by subst h; simp
theorem updA_next (l : List S29) (i : Nat) (h : i < l.length) : (updA l i).set i (fixA (rd_T29 l (i : Int))) = updA l (i + 1) := by
  unfold updA
  have e : l.take (i + 1) = l.take i ++ [rd_T29 l (i : Int)] := by
    rw [List.take_add_one, List.getElem?_eq_getElem h]
    unfold rd_T29
    rw [Int.toNat_natCast, List.getD_eq_getElem?_getD, List.getElem?_eq_getElem h]
    rfl
  rw [rd_drop h, set_mid _ _ _ _ _ (by simp; omega), e, List.map_append, List.append_assoc]
  rfl
theorem rd33_drop {l : List S33} {i : Nat} (h : i < l.length) : l.drop i = rd_T33 l (i : Int) :: l.drop (i + 1) := by
  rw [List.drop_eq_getElem_cons h]
  unfold rd_T33
  rw [Int.toNat_natCast, List.getD_eq_getElem?_getD, List.getElem?_eq_getElem h]
  rfl
theorem updB_next (l : List S33) (i : Nat) (h : i < l.length) : (updB l i).set i (fixB (rd_T33 l (i : Int))) = updB l (i + 1) := by
  unfold updB
  have e : l.take (i + 1) = l.take i ++ [rd_T33 l (i : Int)] := by
    rw [List.take_add_one, List.getElem?_eq_getElem h]
    unfold rd_T33
    rw [Int.toNat_natCast, List.getD_eq_getElem?_getD, List.getElem?_eq_getElem h]
    rfl
  rw [rd33_drop h, set_mid _ _ _ _ _ (by simp; omega), e, List.map_append, List.append_assoc]
  rfl

def addS (s t : Sum) : Sum := ⟨wrap64 (s.a0 + t.a0), wrap64 (s.a1 + t.a1), wrap64 (s.a2 + t.a2), wrap64 (s.a3 + t.a3), wrap64 (s.a4 + t.a4), wrap64 (s.a5 + t.a5)⟩
/-- the sums of versions 1 to k, added -/
def allS (a : List S29) (b : List S33) : Nat → Sum
  | 0 => zsum
  | k + 1 => addS (allS a b k) (sumOf a b ((k : Int) + 1))
theorem OfN.calls (Ai : Option Addr) (ci n : Nat) (li : List S29) (Ao : Option Addr) (co m : Nat) (lo : List S33) (v : Int) (w : World) (hn : li.length = n) (hm : lo.length = m) (hl : Kd.C k29 w Ai li.length li) (hc : n ≤ ci) (hlo : Kd.C k33 w Ao lo.length lo) (hmo : m ≤ 4096) (hmy : mayL li = true) :
    Calls Try.prog 6 #[.slice Ai n ci, .slice Ao m co, .int .u32 v] w fun e w' => e = .returned (.agg (sumc (sumOf li lo v))) ∧ Below w.heap.size w w' := by
  subst hn hm
  exact Of.calls Ai ci li Ao co lo v w hl hc hlo hmo hmy
theorem OfN.lit (Ai : Option Addr) (ci n : Nat) (li : List S29) (Ao : Option Addr) (co m : Nat) (lo : List S33) (v : Int) (w : World) (hn : li.length = n) (hm : lo.length = m) (hl : Kd.C k29 w Ai li.length li) (hc : n ≤ ci) (hlo : Kd.C k33 w Ao lo.length lo) (hmo : m ≤ 4096) (hmy : mayL li = true) :
    Calls Try.prog 6 #[.slice Ai n ci, .slice Ao m co, .int .u32 v] w fun e w' => e = .returned (.agg #[.int .i64 (sumOf li lo v).a0, .int .i64 (sumOf li lo v).a1, .int .i64 (sumOf li lo v).a2, .int .i64 (sumOf li lo v).a3, .int .i64 (sumOf li lo v).a4, .int .i64 (sumOf li lo v).a5]) ∧ Below w.heap.size w w' := OfN.calls Ai ci n li Ao co m lo v w hn hm hl hc hlo hmo hmy
theorem size35L {a b c d e f : Value} : (Try.prog.info? 35).map (·.size) = some (#[a, b, c, d, e, f] : Array Value).size := by rw [size35]; rfl
theorem row35_run {o : Oper} {a : Act} (x : Operand) (g : Nat) (cs : Array Value) (ho : o.op = .load 35 x) (hx : a.eval x = .pointer (some ⟨g, 0, none⟩)) (w : World) (hg : w.heap[g]? = some (.cells cs 35 (0, 0))) (hi : (Try.prog.info? 35).map (·.size) = some cs.size) :
    (execOp a.eval o).run Try.prog w = .ok (.value (.agg cs)) w := by
  unfold execOp
  simp only [ho, hx, Instr.loadAt, Instr.sureAddr, Sem.run_bind, Sem.run_pure, Result.andThen_ok, run_loadVar_row w g 35 35 cs (0, 0) _ hg Try.underlying35 rfl hi]

set_option maxHeartbeats 8000000 in
set_option maxRecDepth 100000 in
theorem SumsParts.main (A : Option Addr) (c : Nat) (l : List S29) (Ao : Option Addr) (co : Nat) (lo : List S33) (w : World) (hl : Kd.C k29 w A l.length l) (hc : l.length ≤ c) (hlo : Kd.C k33 w Ao lo.length lo) (hln : l.length ≤ 100) (hon : lo.length ≤ 100) (hmy : mayL l = true) (hma : mayL (updA l l.length) = true) (hall : allS (updA l l.length) (updB lo lo.length) 4 = sumOf (updA l l.length) (updB lo lo.length) 0) (h10 : (sumOf (updA l l.length) (updB lo lo.length) 0).a1 ≤ (sumOf (updA l l.length) (updB lo lo.length) 0).a0) (h32 : (sumOf (updA l l.length) (updB lo lo.length) 0).a3 ≤ (sumOf (updA l l.length) (updB lo lo.length) 0).a2) :
    Calls Try.prog 3 #[.slice A l.length c, .slice Ao lo.length co] w fun e w' => e = .returned (.bool true) ∧ Below w.heap.size w w' := by
  have HB := Aside0.mk (Below.refl w.heap.size w)
  have HL := Aside0.mk hl
  have HC := Aside0.mk hc
  have HO := Aside0.mk hlo
  have HLN := Aside0.mk hln
  have HON := Aside0.mk hon
  clear hl hc hlo
  have HMY := Aside0.mk hmy
  have HMA := Aside0.mk hma
  have HALL := Aside0.mk hall
  have l10 := decide_eq_true h10
  have l32 := decide_eq_true h32
  clear hmy hma hall
  have g1 : decide (100 < (l.length : Int)) = false := decide_eq_false (by omega)
  have g2 : decide (100 < (lo.length : Int)) = false := decide_eq_false (by omega)
  clear hln hon
  go_enter Try.func3, Try.ntmps3
  go_wp2_with (first
    | (go_at_call 4; with_reducible refine (May.calls A c l _ (Kd.C_below HL.out (by repeat (first | (with_reducible first | exact HB.out | apply below_alloc | apply pw_below_drewN | apply below_drew1) | exact HB.out))) HC.out).mono ?_; rw [HMY.out]; rintro e w' ⟨rfl, hb⟩; have n0_ := Aside0.mk (below_step (by repeat (first | (with_reducible first | exact HB.out | apply below_alloc | apply pw_below_drewN | apply below_drew1) | exact HB.out)) hb); clear HB; have HB := n0_; clear n0_ hb)
    | ((with_reducible refine gate_builtin (b := .append) (xs := #[.tmp 26, .tmp 27]) rfl ?_); at_builtin; refine Kd.R_append_rows k29 (w0 := w) w.heap.size rfl (.tmp 26) (.tmp 27) 22 29 (.agg #[.int .u64 0, .int .u64 0, .int .i64 0, .int .i64 0, .bool false, .int .u8 0, .int .u64 0, .bool false, .int .u64 0, .bool false, .bool false, .int .u32 0]) 72 rfl Try.underlying22 info29 rfl (by decide) (by omega) (.slice none 0 0) [] l _ _ _ (fun _ => True) (fun _ => False) rfl rfl ?aO ?aR (fun _ _ h => h) (fun _ h => h.elim) ?aF ?aB ?aS ?aL ?_; (case aR => exact (Kd.C_below HL.out (by repeat (first | (with_reducible first | exact HB.out | apply below_alloc | apply pw_below_drewN | apply below_drew1) | exact HB.out)))); (case aB => exact (by repeat (first | (with_reducible first | exact HB.out | apply below_alloc | apply pw_below_drewN | apply below_drew1) | exact HB.out))); (case aF => exact (fun _ _ => trivial)); (case aO => exact (Kd.R_nil _ _ _ _ (fun _ => True))); (case aS => exact (below_size (by repeat (first | (with_reducible first | exact HB.out | apply below_alloc | apply pw_below_drewN | apply below_drew1) | exact HB.out)))); (case aL => have := HLN.out; simp only [List.length_nil]; omega); intro v_a w_a ho hb hg hat; rw [List.nil_append] at ho; obtain ⟨A_a, c_a, e_a⟩ := Kd.R_slice ho; subst e_a; have n0_ := Aside0.mk hb; have n1_ := Aside0.mk ho; clear HB; have HB := n0_; have Ha := n1_; clear n0_ n1_; clear ho hb hg hat)
    | ((with_reducible refine gate_builtin (b := .append) (xs := #[.tmp 29, .tmp 30]) rfl ?_); at_builtin; refine Kd.R_append_rows k33 (w0 := w) w.heap.size rfl (.tmp 29) (.tmp 30) 23 33 (.agg #[.int .u8 0, .int .u64 0, .int .i64 0, .bool false, .int .u64 0, .int .u64 0, .int .i64 0, .bool false, .int .u32 0]) 64 rfl Try.underlying23 info33 rfl (by decide) (by omega) (.slice none 0 0) [] lo _ _ _ (fun _ => True) (fun _ => False) rfl rfl ?aO ?aR (fun _ _ h => h) (fun _ h => h.elim) ?aF ?aB ?aS ?aL ?_; (case aR => exact (Kd.C_below HO.out (by repeat (first | (with_reducible first | exact HB.out | apply below_alloc | apply pw_below_drewN | apply below_drew1) | exact HB.out)))); (case aB => exact (by repeat (first | (with_reducible first | exact HB.out | apply below_alloc | apply pw_below_drewN | apply below_drew1) | exact HB.out))); (case aF => exact (fun _ _ => trivial)); (case aO => exact (Kd.R_nil _ _ _ _ (fun _ => True))); (case aS => exact (below_size (by repeat (first | (with_reducible first | exact HB.out | apply below_alloc | apply pw_below_drewN | apply below_drew1) | exact HB.out)))); (case aL => have := HON.out; simp only [List.length_nil]; omega); intro v_b w_b ho hb hg hat; rw [List.nil_append] at ho; obtain ⟨A_b, c_b, e_b⟩ := Kd.R_slice ho; subst e_b; have n0_ := Aside0.mk hb; have n1_ := Aside0.mk ho; have n2_ := Aside0.mk (Kd.R_grown Ha.out hg (fun _ _ => by simp [Value.ownBlock])); clear Ha; have Ha := n2_; clear n2_; clear HB; have HB := n0_; have Hb := n1_; clear n0_ n1_; clear ho hb hg hat))
  go_loopw [7] (fun vi w' => ∃ i : Nat, i ≤ l.length ∧ vi = .int .i64 i ∧ Aside0 (Kd.R k29 29 w' w.heap.size (fun _ => True) (.slice A_a l.length c_a) (updA l i)) ∧ Aside0 (Kd.R k33 33 w' w.heap.size (fun _ => True) (.slice A_b lo.length c_b) (lo)) ∧ Aside0 (Below w.heap.size w w')) (fun vi _ => l.length - (intOf vi).toNat)
  case atStart => exact ⟨0, Nat.zero_le _, rfl, by rw [updA0]; exact Ha, Hb, HB⟩
  case round =>
    clear HB Ha Hb
    obtain ⟨i, hi, rfl, Ha, Hb, HB⟩ := hrel
    by_cases hlt : i < l.length
    · have hul : (updA l i).length = l.length := updA_len l i hi
      obtain ⟨g, cap, eg, hgb, -, cells, hcells⟩ := Kd.R_form Ha.out (by rw [hul]; omega)
      obtain ⟨e1, -, e3⟩ : A_a = some ⟨g, 0, none⟩ ∧ l.length = (updA l i).length ∧ c_a = cap := by injection eg with h1 h2 h3; exact ⟨h1, h2, h3⟩
      subst e1
      clear eg e3
      have i1 : (0 : Int) ≤ (i : Int) := by omega
      have i2 : (i : Int) < (l.length : Int) := by omega
      obtain ⟨ce, hcl, hM, hcc, hfr⟩ := Kd.R_elem Ha.out z29 (i : Int) i1 i2
      have hcc0 := hcc
      rw [Int.toNat_natCast] at hM hcc hfr
      rw [updA_get l i hlt] at hM
      obtain rfl := k29_openM hM
      have y0 : wr.cell? ⟨g, i * 12 + 11, none⟩ = some (.int .u32 (rd_T29 l (i : Int)).f11) := hcc 11 _ rfl
      have yf : wr.frozen? ⟨g, i * 12 + 11, none⟩ = false := hfr 11
      go_upto_region 9 with (fail)
      have hseg := Kd.R_seg Ha.out (i : Int) i1 i2 (seg := [.int .u32 ((1 + (rd_T29 l (i : Int)).f11.tmod 4) % 4294967296)]) (j := 11) hcl hcc0 (Nat.le_refl 12) (x' := fixA (rd_T29 l (i : Int))) (okp := fun k => True ∧ k ≠ g) (k29_mkM _ _ _ (fixA (rd_T29 l (i : Int)))) (fun k h => h)
      have hr : Kd.R k29 29 (wr.setCell ⟨g, i * 12 + 11, none⟩ (.int .u32 ((1 + (rd_T29 l (i : Int)).f11.tmod 4) % 4294967296))) w.heap.size (fun _ => True) (.slice (some ⟨g, 0, none⟩) l.length c_a) ((updA l i).set i (fixA (rd_T29 l (i : Int)))) := hseg.1
      rw [updA_next l i hlt] at hr
      have hr2 := Kd.R_set Hb.out hcells (by decide) (i * 12 + 11) (.int .u32 ((1 + (rd_T29 l (i : Int)).f11.tmod 4) % 4294967296))
      have hb2 := HB.out.setCell (p := ⟨g, i * 12 + 11, none⟩) hgb (.int .u32 ((1 + (rd_T29 l (i : Int)).f11.tmod 4) % 4294967296))
      clear hseg hcc hcc0 hfr y0 yf hM hcells
      have hlen : l.length < 9223372036854775807 := by have := HLN.out; omega
      go_wp2
      go_roundw
      case rel => exact ⟨i + 1, by omega, by first | rfl | (rw [wrap_ok (by omega) (by omega)]; simp), ⟨hr⟩, ⟨hr2⟩, ⟨hb2⟩⟩
      case measure => (try rw [wrap_ok (by omega) (by omega)]); simp [intOf]; omega
    · obtain rfl : i = l.length := by omega
      go_wp2
      go_loopw [8] (fun vi w' => ∃ i : Nat, i ≤ lo.length ∧ vi = .int .i64 i ∧ Aside0 (Kd.R k33 33 w' w.heap.size (fun _ => True) (.slice A_b lo.length c_b) (updB lo i)) ∧ Aside0 (Kd.R k29 29 w' w.heap.size (fun _ => True) (.slice A_a l.length c_a) (updA l l.length)) ∧ Aside0 (Below w.heap.size w w')) (fun vi _ => lo.length - (intOf vi).toNat)
      case atStart => exact ⟨0, Nat.zero_le _, rfl, by rw [updB0]; exact Hb, Ha, HB⟩
      case round =>
        clear HB Ha Hb
        obtain ⟨i, hi, rfl, Hb, Ha, HB⟩ := hrel
        by_cases hlt : i < lo.length
        · have hul : (updB lo i).length = lo.length := updB_len lo i hi
          obtain ⟨g, cap, eg, hgb, -, cells, hcells⟩ := Kd.R_form Hb.out (by rw [hul]; omega)
          obtain ⟨e1, -, e3⟩ : A_b = some ⟨g, 0, none⟩ ∧ lo.length = (updB lo i).length ∧ c_b = cap := by injection eg with h1 h2 h3; exact ⟨h1, h2, h3⟩
          subst e1
          clear eg e3
          have i1 : (0 : Int) ≤ (i : Int) := by omega
          have i2 : (i : Int) < (lo.length : Int) := by omega
          obtain ⟨ce, hcl, hM, hcc, hfr⟩ := Kd.R_elem Hb.out z33 (i : Int) i1 i2
          have hcc0 := hcc
          rw [Int.toNat_natCast] at hM hcc hfr
          rw [updB_get lo i hlt] at hM
          obtain rfl := k33_openM hM
          have y0 : wr.cell? ⟨g, i * 9 + 8, none⟩ = some (.int .u32 (rd_T33 lo (i : Int)).f4) := hcc 8 _ rfl
          have yf : wr.frozen? ⟨g, i * 9 + 8, none⟩ = false := hfr 8
          go_upto_region 13 with (fail)
          have hseg := Kd.R_seg Hb.out (i : Int) i1 i2 (seg := [.int .u32 ((1 + (rd_T33 lo (i : Int)).f4.tmod 4) % 4294967296)]) (j := 8) hcl hcc0 (Nat.le_refl 9) (x' := fixB (rd_T33 lo (i : Int))) (okp := fun k => True ∧ k ≠ g) (k33_mkM _ _ _ (fixB (rd_T33 lo (i : Int)))) (fun k h => h)
          have hr : Kd.R k33 33 (wr.setCell ⟨g, i * 9 + 8, none⟩ (.int .u32 ((1 + (rd_T33 lo (i : Int)).f4.tmod 4) % 4294967296))) w.heap.size (fun _ => True) (.slice (some ⟨g, 0, none⟩) lo.length c_b) ((updB lo i).set i (fixB (rd_T33 lo (i : Int)))) := hseg.1
          rw [updB_next lo i hlt] at hr
          have hr2 := Kd.R_set Ha.out hcells (by decide) (i * 9 + 8) (.int .u32 ((1 + (rd_T33 lo (i : Int)).f4.tmod 4) % 4294967296))
          have hb2 := HB.out.setCell (p := ⟨g, i * 9 + 8, none⟩) hgb (.int .u32 ((1 + (rd_T33 lo (i : Int)).f4.tmod 4) % 4294967296))
          clear hseg hcc hcc0 hfr y0 yf hM hcells
          have hlen : lo.length < 9223372036854775807 := by have := HON.out; omega
          go_wp2
          go_roundw
          case rel => exact ⟨i + 1, by omega, by first | rfl | (rw [wrap_ok (by omega) (by omega)]; simp), ⟨hr⟩, ⟨hr2⟩, ⟨hb2⟩⟩
          case measure => (try rw [wrap_ok (by omega) (by omega)]); simp [intOf]; omega
        · obtain rfl : i = lo.length := by omega
          obtain ⟨ea, lca, hca⟩ := Kd.R_reads' Ha.out
          obtain ⟨eb, lcb, hcb⟩ := Kd.R_reads' Hb.out
          have HCA := Aside0.mk hca
          have HCB := Aside0.mk hcb
          have HNA := Aside0.mk ea.symm
          have HNB := Aside0.mk eb.symm
          have HLA := Aside0.mk lca
          have HLB : Aside0 (lo.length ≤ 4096) := ⟨by have := HON.out; omega⟩
          clear ea eb lca lcb hca hcb
          go_wp2
          have hz0 : (wr.alloc (.cells #[.int .i64 0, .int .i64 0, .int .i64 0, .int .i64 0, .int .i64 0, .int .i64 0] 35)).heap[wr.heap.size]? = some (.cells (sumc (allS (updA l l.length) (updB lo lo.length) 0)) 35 (0, 0)) := blk_new wr (.cells #[.int .i64 0, .int .i64 0, .int .i64 0, .int .i64 0, .int .i64 0, .int .i64 0] 35)
          have hbb := below_alloc HB.out (.cells #[.int .i64 0, .int .i64 0, .int .i64 0, .int .i64 0, .int .i64 0, .int .i64 0] 35)
          have hww := below_alloc (Below.refl wr.heap.size wr) (.cells #[.int .i64 0, .int .i64 0, .int .i64 0, .int .i64 0, .int .i64 0, .int .i64 0] 35)
          have hgw := below_size HB.out
          generalize wr.alloc (.cells #[.int .i64 0, .int .i64 0, .int .i64 0, .int .i64 0, .int .i64 0, .int .i64 0] 35) = w4 at hz0 hbb hww ⊢
          generalize hg9 : wr.heap.size = g9 at hz0 ⊢
          have G9 : Aside0 (w.heap.size ≤ g9) := ⟨by rw [← hg9]; exact hgw⟩
          have G9w : Aside0 (wr.heap.size ≤ g9) := ⟨by rw [hg9]; exact Nat.le_refl _⟩
          clear hg9 hgw HB Ha Hb
          have wq' : ∃ wq, wq = wr := ⟨_, rfl⟩
          obtain ⟨wq, hwq⟩ := wq'
          rw [← hwq] at hww G9w HCA HCB
          go_loopw [10] (fun v10 w' => ∃ k : Nat, k ≤ 4 ∧ v10 = .int .u32 ((k : Int) + 1) ∧ Aside0 (w'.heap[g9]? = some (.cells (sumc (allS (updA l l.length) (updB lo lo.length) k)) 35 (0, 0))) ∧ Aside0 (Below w.heap.size w w') ∧ Aside0 (Below wq.heap.size wq w')) (fun v10 _ => 5 - (intOf v10).toNat)
          case atStart => exact ⟨0, by omega, rfl, ⟨hz0⟩, ⟨hbb⟩, ⟨hww⟩⟩
          case round =>
            clear hz0 hbb hww hwq
            obtain ⟨k, hk, rfl, BK9, HB, WW⟩ := hrel
            by_cases hlt : k < 4
            · have k4 : decide ((k : Int) + 1 ≤ 4) = true := decide_eq_true (by omega)
              go_upto_region 20 with (first
                | (go_at_call 6; with_reducible refine (OfN.calls A_a c_a l.length (updA l l.length) A_b c_b lo.length (updB lo lo.length) ((k : Int) + 1) _ HNA.out HNB.out (Kd.C_below HCA.out (by repeat (first | (with_reducible first | exact WW.out | apply below_alloc | apply pw_below_drewN | apply below_drew1) | exact WW.out))) HLA.out (Kd.C_below HCB.out (by repeat (first | (with_reducible first | exact WW.out | apply below_alloc | apply pw_below_drewN | apply below_drew1) | exact WW.out))) HLB.out HMA.out).mono ?_; rintro e w' ⟨rfl, hb⟩; have n0_ := Aside0.mk (below_step (by repeat (first | (with_reducible first | exact HB.out | apply below_alloc | apply pw_below_drewN | apply below_drew1) | exact HB.out)) hb); have n1_ := Aside0.mk (below_step (by repeat (first | (with_reducible first | exact WW.out | apply below_alloc | apply pw_below_drewN | apply below_drew1) | exact WW.out)) hb); (first | have n2_ := Aside0.mk (blk_below BK9.out hb) | have n2_ := Aside0.mk (blk_below (blk_drewN BK9.out _) hb) | have n2_ := Aside0.mk (blk_below (blk_drew BK9.out) hb) | have n2_ := Aside0.mk (blk_below (blk_alloc BK9.out _) hb) | have n2_ := Aside0.mk (blk_below (by first | exact BK9.out | ((with_reducible repeat (first | refine blk_drewN ?_ _ | refine blk_drew ?_ | refine blk_alloc ?_ _)); exact BK9.out)) hb)); clear HB WW BK9; have HB := n0_; have WW := n1_; have BK9 := n2_; clear n0_ n1_ n2_ hb)
                | ((with_reducible refine gate_dst (N := 11) rfl ?_); refine box_event ?hg (N := 11) ?hd (cs := (sumc zsum)) (t := 35) ?hr ?_; (case hd => rfl); (case hg => rfl); (case hr => exact alloc59_run rfl _); intro g11 hg w1_11 hbox hb; have NE9 := Aside0.mk (show g9 ≠ g11 from by rw [hg]; exact Nat.ne_of_lt (blk_lt (by first | exact BK9.out | ((with_reducible repeat (first | refine blk_drewN ?_ _ | refine blk_drew ?_ | refine blk_alloc ?_ _)); exact BK9.out)))); have G11 := Aside0.mk (show w.heap.size ≤ g11 from by rw [hg]; exact below_size (by repeat (first | (with_reducible first | exact HB.out | apply below_alloc | apply pw_below_drewN | apply below_drew1) | exact HB.out))); have G11w := Aside0.mk (show wq.heap.size ≤ g11 from by rw [hg]; exact below_size (by repeat (first | (with_reducible first | exact WW.out | apply below_alloc | apply pw_below_drewN | apply below_drew1) | exact WW.out))); have BK11 := Aside0.mk hbox; clear hbox hg; have n0_ := Aside0.mk (below_step (by repeat (first | (with_reducible first | exact HB.out | apply below_alloc | apply pw_below_drewN | apply below_drew1) | exact HB.out)) hb); have n1_ := Aside0.mk (below_step (by repeat (first | (with_reducible first | exact WW.out | apply below_alloc | apply pw_below_drewN | apply below_drew1) | exact WW.out)) hb); (first | have n2_ := Aside0.mk (blk_below BK9.out hb) | have n2_ := Aside0.mk (blk_below (blk_drewN BK9.out _) hb) | have n2_ := Aside0.mk (blk_below (blk_drew BK9.out) hb) | have n2_ := Aside0.mk (blk_below (blk_alloc BK9.out _) hb) | have n2_ := Aside0.mk (blk_below (by first | exact BK9.out | ((with_reducible repeat (first | refine blk_drewN ?_ _ | refine blk_drew ?_ | refine blk_alloc ?_ _)); exact BK9.out)) hb)); clear HB WW BK9; have HB := n0_; have WW := n1_; have BK9 := n2_; clear n0_ n1_ n2_ hb)
                | (refine wpList_store_row rfl 35 (.tmp 11) (.tmp 73) rfl g11 (sumc (sumOf (updA l l.length) (updB lo lo.length) ((k : Int) + 1))) rfl (by rfl) 35 (sumc zsum) BK11.out info59s rfl (sumc_all _) ?_; have n0 := Aside0.mk (below_setRow HB.out (show w.heap.size ≤ g11 from G11.out) (sumc (sumOf (updA l l.length) (updB lo lo.length) ((k : Int) + 1)))); have n2 := Aside0.mk (below_setRow WW.out (show wq.heap.size ≤ g11 from G11w.out) (sumc (sumOf (updA l l.length) (updB lo lo.length) ((k : Int) + 1)))); have n1 := Aside0.mk (setRow_heap _ _ _ (sumc (sumOf (updA l l.length) (updB lo lo.length) ((k : Int) + 1))) _ _ BK11.out); have n3 := Aside0.mk ((setRow_other _ g11 g9 (sumc (sumOf (updA l l.length) (updB lo lo.length) ((k : Int) + 1))) NE9.out).trans BK9.out); generalize World.setRow _ _ _ = w19 at n0 n1 n2 n3 ⊢; clear HB BK11 BK9 WW; have HB := n0; have BK11 := n1; have WW := n2; have BK9 := n3; clear n0 n1 n2 n3))
              generalize hX : allS (updA l l.length) (updB lo lo.length) k = X at BK9 ⊢
              generalize hS : (sumOf (updA l l.length) (updB lo lo.length) ((k : Int) + 1)) = S at BK11 ⊢
              have xj : w19.cell? ⟨g9, 0, none⟩ = some (.int .i64 X.a0) := (blk_cell BK9.out 0).trans rfl
              have fj := blk_frozen BK9.out 0
              have sj : w19.cell? ⟨g11, 0, none⟩ = some (.int .i64 S.a0) := (blk_cell BK11.out 0).trans rfl
              go_upto_region 21 with (fail)
              have h9 : (w19.setCell ⟨g9, 0, none⟩ (.int .i64 (wrap64 (X.a0 + S.a0)))).heap[g9]? = some (.cells (sumc (⟨wrap64 (X.a0 + S.a0), X.a1, X.a2, X.a3, X.a4, X.a5⟩ : Sum)) 35 (0, 0)) := blk_put BK9.out 0 _ rfl
              have h11 := (heap_setCell_other w19 ⟨g9, 0, none⟩ g11 (.int .i64 (wrap64 (X.a0 + S.a0))) (show g11 ≠ g9 from NE9.out.symm)).trans BK11.out
              have hb := HB.out.setCell (p := ⟨g9, 0, none⟩) (show w.heap.size ≤ g9 from G9.out) (.int .i64 (wrap64 (X.a0 + S.a0)))
              have hww := WW.out.setCell (p := ⟨g9, 0, none⟩) (show wq.heap.size ≤ g9 from G9w.out) (.int .i64 (wrap64 (X.a0 + S.a0)))
              generalize w19.setCell ⟨g9, 0, none⟩ (.int .i64 (wrap64 (X.a0 + S.a0))) = w20 at h9 h11 hb hww ⊢
              clear xj fj sj HB WW BK9 BK11
              have BK9 := Aside0.mk h9
              have BK11 := Aside0.mk h11
              have HB := Aside0.mk hb
              have WW := Aside0.mk hww
              clear h9 h11 hb hww
              have xj : w20.cell? ⟨g9, 1, none⟩ = some (.int .i64 X.a1) := (blk_cell BK9.out 1).trans rfl
              have fj := blk_frozen BK9.out 1
              have sj : w20.cell? ⟨g11, 1, none⟩ = some (.int .i64 S.a1) := (blk_cell BK11.out 1).trans rfl
              go_upto_region 22 with (fail)
              have h9 : (w20.setCell ⟨g9, 1, none⟩ (.int .i64 (wrap64 (X.a1 + S.a1)))).heap[g9]? = some (.cells (sumc (⟨wrap64 (X.a0 + S.a0), wrap64 (X.a1 + S.a1), X.a2, X.a3, X.a4, X.a5⟩ : Sum)) 35 (0, 0)) := blk_put BK9.out 1 _ rfl
              have h11 := (heap_setCell_other w20 ⟨g9, 1, none⟩ g11 (.int .i64 (wrap64 (X.a1 + S.a1))) (show g11 ≠ g9 from NE9.out.symm)).trans BK11.out
              have hb := HB.out.setCell (p := ⟨g9, 1, none⟩) (show w.heap.size ≤ g9 from G9.out) (.int .i64 (wrap64 (X.a1 + S.a1)))
              have hww := WW.out.setCell (p := ⟨g9, 1, none⟩) (show wq.heap.size ≤ g9 from G9w.out) (.int .i64 (wrap64 (X.a1 + S.a1)))
              generalize w20.setCell ⟨g9, 1, none⟩ (.int .i64 (wrap64 (X.a1 + S.a1))) = w21 at h9 h11 hb hww ⊢
              clear xj fj sj HB WW BK9 BK11
              have BK9 := Aside0.mk h9
              have BK11 := Aside0.mk h11
              have HB := Aside0.mk hb
              have WW := Aside0.mk hww
              clear h9 h11 hb hww
              have xj : w21.cell? ⟨g9, 2, none⟩ = some (.int .i64 X.a2) := (blk_cell BK9.out 2).trans rfl
              have fj := blk_frozen BK9.out 2
              have sj : w21.cell? ⟨g11, 2, none⟩ = some (.int .i64 S.a2) := (blk_cell BK11.out 2).trans rfl
              go_upto_region 23 with (fail)
              have h9 : (w21.setCell ⟨g9, 2, none⟩ (.int .i64 (wrap64 (X.a2 + S.a2)))).heap[g9]? = some (.cells (sumc (⟨wrap64 (X.a0 + S.a0), wrap64 (X.a1 + S.a1), wrap64 (X.a2 + S.a2), X.a3, X.a4, X.a5⟩ : Sum)) 35 (0, 0)) := blk_put BK9.out 2 _ rfl
              have h11 := (heap_setCell_other w21 ⟨g9, 2, none⟩ g11 (.int .i64 (wrap64 (X.a2 + S.a2))) (show g11 ≠ g9 from NE9.out.symm)).trans BK11.out
              have hb := HB.out.setCell (p := ⟨g9, 2, none⟩) (show w.heap.size ≤ g9 from G9.out) (.int .i64 (wrap64 (X.a2 + S.a2)))
              have hww := WW.out.setCell (p := ⟨g9, 2, none⟩) (show wq.heap.size ≤ g9 from G9w.out) (.int .i64 (wrap64 (X.a2 + S.a2)))
              generalize w21.setCell ⟨g9, 2, none⟩ (.int .i64 (wrap64 (X.a2 + S.a2))) = w22 at h9 h11 hb hww ⊢
              clear xj fj sj HB WW BK9 BK11
              have BK9 := Aside0.mk h9
              have BK11 := Aside0.mk h11
              have HB := Aside0.mk hb
              have WW := Aside0.mk hww
              clear h9 h11 hb hww
              have xj : w22.cell? ⟨g9, 3, none⟩ = some (.int .i64 X.a3) := (blk_cell BK9.out 3).trans rfl
              have fj := blk_frozen BK9.out 3
              have sj : w22.cell? ⟨g11, 3, none⟩ = some (.int .i64 S.a3) := (blk_cell BK11.out 3).trans rfl
              go_upto_region 24 with (fail)
              have h9 : (w22.setCell ⟨g9, 3, none⟩ (.int .i64 (wrap64 (X.a3 + S.a3)))).heap[g9]? = some (.cells (sumc (⟨wrap64 (X.a0 + S.a0), wrap64 (X.a1 + S.a1), wrap64 (X.a2 + S.a2), wrap64 (X.a3 + S.a3), X.a4, X.a5⟩ : Sum)) 35 (0, 0)) := blk_put BK9.out 3 _ rfl
              have h11 := (heap_setCell_other w22 ⟨g9, 3, none⟩ g11 (.int .i64 (wrap64 (X.a3 + S.a3))) (show g11 ≠ g9 from NE9.out.symm)).trans BK11.out
              have hb := HB.out.setCell (p := ⟨g9, 3, none⟩) (show w.heap.size ≤ g9 from G9.out) (.int .i64 (wrap64 (X.a3 + S.a3)))
              have hww := WW.out.setCell (p := ⟨g9, 3, none⟩) (show wq.heap.size ≤ g9 from G9w.out) (.int .i64 (wrap64 (X.a3 + S.a3)))
              generalize w22.setCell ⟨g9, 3, none⟩ (.int .i64 (wrap64 (X.a3 + S.a3))) = w23 at h9 h11 hb hww ⊢
              clear xj fj sj HB WW BK9 BK11
              have BK9 := Aside0.mk h9
              have BK11 := Aside0.mk h11
              have HB := Aside0.mk hb
              have WW := Aside0.mk hww
              clear h9 h11 hb hww
              have xj : w23.cell? ⟨g9, 4, none⟩ = some (.int .i64 X.a4) := (blk_cell BK9.out 4).trans rfl
              have fj := blk_frozen BK9.out 4
              have sj : w23.cell? ⟨g11, 4, none⟩ = some (.int .i64 S.a4) := (blk_cell BK11.out 4).trans rfl
              go_upto_region 25 with (fail)
              have h9 : (w23.setCell ⟨g9, 4, none⟩ (.int .i64 (wrap64 (X.a4 + S.a4)))).heap[g9]? = some (.cells (sumc (⟨wrap64 (X.a0 + S.a0), wrap64 (X.a1 + S.a1), wrap64 (X.a2 + S.a2), wrap64 (X.a3 + S.a3), wrap64 (X.a4 + S.a4), X.a5⟩ : Sum)) 35 (0, 0)) := blk_put BK9.out 4 _ rfl
              have h11 := (heap_setCell_other w23 ⟨g9, 4, none⟩ g11 (.int .i64 (wrap64 (X.a4 + S.a4))) (show g11 ≠ g9 from NE9.out.symm)).trans BK11.out
              have hb := HB.out.setCell (p := ⟨g9, 4, none⟩) (show w.heap.size ≤ g9 from G9.out) (.int .i64 (wrap64 (X.a4 + S.a4)))
              have hww := WW.out.setCell (p := ⟨g9, 4, none⟩) (show wq.heap.size ≤ g9 from G9w.out) (.int .i64 (wrap64 (X.a4 + S.a4)))
              generalize w23.setCell ⟨g9, 4, none⟩ (.int .i64 (wrap64 (X.a4 + S.a4))) = w24 at h9 h11 hb hww ⊢
              clear xj fj sj HB WW BK9 BK11
              have BK9 := Aside0.mk h9
              have BK11 := Aside0.mk h11
              have HB := Aside0.mk hb
              have WW := Aside0.mk hww
              clear h9 h11 hb hww
              have xj : w24.cell? ⟨g9, 5, none⟩ = some (.int .i64 X.a5) := (blk_cell BK9.out 5).trans rfl
              have fj := blk_frozen BK9.out 5
              have sj : w24.cell? ⟨g11, 5, none⟩ = some (.int .i64 S.a5) := (blk_cell BK11.out 5).trans rfl
              go_upto_region 18 with (fail)
              have h9 : (w24.setCell ⟨g9, 5, none⟩ (.int .i64 (wrap64 (X.a5 + S.a5)))).heap[g9]? = some (.cells (sumc (⟨wrap64 (X.a0 + S.a0), wrap64 (X.a1 + S.a1), wrap64 (X.a2 + S.a2), wrap64 (X.a3 + S.a3), wrap64 (X.a4 + S.a4), wrap64 (X.a5 + S.a5)⟩ : Sum)) 35 (0, 0)) := blk_put BK9.out 5 _ rfl
              have h11 := (heap_setCell_other w24 ⟨g9, 5, none⟩ g11 (.int .i64 (wrap64 (X.a5 + S.a5))) (show g11 ≠ g9 from NE9.out.symm)).trans BK11.out
              have hb := HB.out.setCell (p := ⟨g9, 5, none⟩) (show w.heap.size ≤ g9 from G9.out) (.int .i64 (wrap64 (X.a5 + S.a5)))
              have hww := WW.out.setCell (p := ⟨g9, 5, none⟩) (show wq.heap.size ≤ g9 from G9w.out) (.int .i64 (wrap64 (X.a5 + S.a5)))
              generalize w24.setCell ⟨g9, 5, none⟩ (.int .i64 (wrap64 (X.a5 + S.a5))) = w25 at h9 h11 hb hww ⊢
              clear xj fj sj HB WW BK9 BK11
              have BK9 := Aside0.mk h9
              have BK11 := Aside0.mk h11
              have HB := Aside0.mk hb
              have WW := Aside0.mk hww
              clear h9 h11 hb hww
              go_wp2
              go_roundw
              case rel => exact ⟨k + 1, by omega, by refine congrArg (Value.int IntKind.u32) ?_; push_cast; omega, ⟨by subst hX; subst hS; exact BK9.out⟩, HB, WW⟩
              case measure => simp [intOf]; omega
            · obtain rfl : k = 4 := by omega
              replace BK9 : Aside0 (wr.heap[g9]? = some (.cells #[.int .i64 (sumOf (updA l l.length) (updB lo lo.length) 0).a0, .int .i64 (sumOf (updA l l.length) (updB lo lo.length) 0).a1, .int .i64 (sumOf (updA l l.length) (updB lo lo.length) 0).a2, .int .i64 (sumOf (updA l l.length) (updB lo lo.length) 0).a3, .int .i64 (sumOf (updA l l.length) (updB lo lo.length) 0).a4, .int .i64 (sumOf (updA l l.length) (updB lo lo.length) 0).a5] 35 (0, 0))) := ⟨by have h := BK9.out; rw [HALL.out] at h; exact h⟩
              go_wp2
              refine start_ (n := 23) (S := fun w' => w'.heap[g9]? = some (.cells #[.int .i64 (sumOf (updA l l.length) (updB lo lo.length) 0).a0, .int .i64 (sumOf (updA l l.length) (updB lo lo.length) 0).a1, .int .i64 (sumOf (updA l l.length) (updB lo lo.length) 0).a2, .int .i64 (sumOf (updA l l.length) (updB lo lo.length) 0).a3, .int .i64 (sumOf (updA l l.length) (updB lo lo.length) 0).a4, .int .i64 (sumOf (updA l l.length) (updB lo lo.length) 0).a5] 35 (0, 0)) ∧ w'.cell? ⟨g9, 0, none⟩ = some (.int .i64 (sumOf (updA l l.length) (updB lo lo.length) 0).a0) ∧ w'.cell? ⟨g9, 1, none⟩ = some (.int .i64 (sumOf (updA l l.length) (updB lo lo.length) 0).a1) ∧ w'.cell? ⟨g9, 2, none⟩ = some (.int .i64 (sumOf (updA l l.length) (updB lo lo.length) 0).a2) ∧ w'.cell? ⟨g9, 3, none⟩ = some (.int .i64 (sumOf (updA l l.length) (updB lo lo.length) 0).a3)) (ds := []) #[false, false, false, false, false, false, false, false, false, false, false, false, false, false, false, false, false, false, false, false, false, false, false] (by kernel_rfl) rfl rfl ⟨BK9.out, (blk_cell BK9.out 0).trans rfl, (blk_cell BK9.out 1).trans rfl, (blk_cell BK9.out 2).trans rfl, (blk_cell BK9.out 3).trans rfl⟩ (fun hHeld => ?_)
              refine pure_ (i := 1) (N := some 111) (v := ?_) (a' := ?_) #[false, true, false, false, false, false, false, false, false, false, false, false, false, false, false, false, false, false, false, false, false, false, false] rfl rfl (by kernel_rfl) (fun _ _ _ h => h) (Or.inl ⟨by rfl, ?_⟩) ?_ ?_
              rotate_left
              · intro w'
                go_simp
                with_reducible rfl
              rotate_left
              · simp only [Act.put, List.setIfInBounds_toArray, List.set_cons_zero, List.set_cons_succ, i64_w, i32_w]
                rfl
              refine pure_ (i := 2) (N := some 112) (v := ?_) (a' := ?_) #[false, true, true, false, false, false, false, false, false, false, false, false, false, false, false, false, false, false, false, false, false, false, false] rfl rfl (by kernel_rfl) (fun _ _ _ h => h) (Or.inl ⟨by rfl, ?_⟩) ?_ ?_
              rotate_left
              · intro w'
                go_simp
                with_reducible rfl
              rotate_left
              · simp only [Act.put, List.setIfInBounds_toArray, List.set_cons_zero, List.set_cons_succ, i64_w, i32_w]
                rfl
              refine take_ (i := 0) (N := some 110) (v := ?_) (a' := ?_) #[true, true, true, false, false, false, false, false, false, false, false, false, false, false, false, false, false, false, false, false, false, false, false] rfl rfl (by kernel_rfl) (fun _ _ _ h => h) (Or.inl ⟨by rfl, ?_⟩) hHeld ?_ ?_
              rotate_left
              · rintro w' ⟨s0, s1, s2, s3, s4⟩
                refine row35_run (.tmp 9) g9 #[.int .i64 (sumOf (updA l l.length) (updB lo lo.length) 0).a0, .int .i64 (sumOf (updA l l.length) (updB lo lo.length) 0).a1, .int .i64 (sumOf (updA l l.length) (updB lo lo.length) 0).a2, .int .i64 (sumOf (updA l l.length) (updB lo lo.length) 0).a3, .int .i64 (sumOf (updA l l.length) (updB lo lo.length) 0).a4, .int .i64 (sumOf (updA l l.length) (updB lo lo.length) 0).a5] ?_ ?_ w' s0 size35L
                · rfl
                · rfl
              rotate_left
              · simp only [Act.put, List.setIfInBounds_toArray, List.set_cons_zero, List.set_cons_succ, i64_w, i32_w]
                rfl
              refine one_ (i := 3) (N := some 113) #[true, true, true, true, false, false, false, false, false, false, false, false, false, false, false, false, false, false, false, false, false, false, false] rfl rfl (by kernel_rfl) (by decide) (fun K hK => ?_)
              refine goes_ Try.func6 (by kernel_rfl) rfl #[.slice A_a l.length c_a, .slice A_b lo.length c_b, .int .u32 0] (by rfl) rfl rfl (by simp only [List.map_toArray, List.map_cons, List.map_nil]; rfl) ?_
              with_reducible refine (OfN.lit A_a c_a l.length (updA l l.length) A_b c_b lo.length (updB lo lo.length) 0 _ HNA.out HNB.out (Kd.C_below HCA.out (by repeat (first | (with_reducible first | exact WW.out | apply below_alloc | apply pw_below_drewN | apply below_drew1) | exact WW.out))) HLA.out (Kd.C_below HCB.out (by repeat (first | (with_reducible first | exact WW.out | apply below_alloc | apply pw_below_drewN | apply below_drew1) | exact WW.out))) HLB.out HMA.out).mono ?_
              rintro e w26 ⟨rfl, hb⟩
              have n0_ := Aside0.mk (below_step (by repeat (first | (with_reducible first | exact HB.out | apply below_alloc | apply pw_below_drewN | apply below_drew1) | exact HB.out)) hb); have n1_ := Aside0.mk (below_step (by repeat (first | (with_reducible first | exact WW.out | apply below_alloc | apply pw_below_drewN | apply below_drew1) | exact WW.out)) hb); (first | have n2_ := Aside0.mk (blk_below BK9.out hb) | have n2_ := Aside0.mk (blk_below (blk_drewN BK9.out _) hb) | have n2_ := Aside0.mk (blk_below (blk_drew BK9.out) hb) | have n2_ := Aside0.mk (blk_below (blk_alloc BK9.out _) hb) | have n2_ := Aside0.mk (blk_below (by first | exact BK9.out | ((with_reducible repeat (first | refine blk_drewN ?_ _ | refine blk_drew ?_ | refine blk_alloc ?_ _)); exact BK9.out)) hb)); clear HB WW BK9; have HB := n0_; have WW := n1_; have BK9 := n2_; clear n0_ n1_ n2_ hb
              refine ⟨_, rfl, ?_⟩
              refine hK.out _ _ ⟨BK9.out, (blk_cell BK9.out 0).trans rfl, (blk_cell BK9.out 1).trans rfl, (blk_cell BK9.out 2).trans rfl, (blk_cell BK9.out 3).trans rfl⟩ (fun hHeld => ?_)
              clear hK K
              refine norm_ (a' := ?_) ?_ ?_
              rotate_left
              · show Act.put _ (some 113) _ = _
                simp only [Act.put, List.setIfInBounds_toArray, List.set_cons_zero, List.set_cons_succ, i64_w, i32_w]
                rfl
              refine pure_ (i := 4) (N := some 114) (v := ?_) (a' := ?_) #[true, true, true, true, true, false, false, false, false, false, false, false, false, false, false, false, false, false, false, false, false, false, false] rfl rfl (by kernel_rfl) (fun _ _ _ h => h) (Or.inl ⟨by rfl, ?_⟩) ?_ ?_
              rotate_left
              · intro w'
                go_simp
                with_reducible rfl
              rotate_left
              · simp only [Act.put, List.setIfInBounds_toArray, List.set_cons_zero, List.set_cons_succ, i64_w, i32_w]
                rfl
              refine pure_ (i := 5) (N := some 115) (v := ?_) (a' := ?_) #[true, true, true, true, true, true, false, false, false, false, false, false, false, false, false, false, false, false, false, false, false, false, false] rfl rfl (by kernel_rfl) (fun _ _ _ h => h) (Or.inl ⟨by rfl, ?_⟩) ?_ ?_
              rotate_left
              · intro w'
                go_simp
                with_reducible rfl
              rotate_left
              · simp only [Act.put, List.setIfInBounds_toArray, List.set_cons_zero, List.set_cons_succ, i64_w, i32_w]
                rfl
              refine pure_ (i := 6) (N := some 116) (v := ?_) (a' := ?_) #[true, true, true, true, true, true, true, false, false, false, false, false, false, false, false, false, false, false, false, false, false, false, false] rfl rfl (by kernel_rfl) (fun _ _ _ h => h) (Or.inl ⟨by rfl, ?_⟩) ?_ ?_
              rotate_left
              · intro w'
                go_simp
                with_reducible rfl
              rotate_left
              · simp only [Act.put, List.setIfInBounds_toArray, List.set_cons_zero, List.set_cons_succ, i64_w, i32_w]
                rfl
              refine pure_ (i := 8) (N := some 118) (v := ?_) (a' := ?_) #[true, true, true, true, true, true, true, false, true, false, false, false, false, false, false, false, false, false, false, false, false, false, false] rfl rfl (by kernel_rfl) (fun _ _ _ h => h) (Or.inl ⟨by rfl, ?_⟩) ?_ ?_
              rotate_left
              · intro w'
                go_simp
                with_reducible rfl
              rotate_left
              · simp only [Act.put, List.setIfInBounds_toArray, List.set_cons_zero, List.set_cons_succ, i64_w, i32_w]
                rfl
              refine take_ (i := 7) (N := some 117) (v := ?_) (a' := ?_) #[true, true, true, true, true, true, true, true, true, false, false, false, false, false, false, false, false, false, false, false, false, false, false] rfl rfl (by kernel_rfl) (fun _ _ _ h => h) (Or.inl ⟨by rfl, ?_⟩) hHeld ?_ ?_
              rotate_left
              · rintro w' ⟨s0, s1, s2, s3, s4⟩
                go_simp
                with_reducible rfl
              rotate_left
              · simp only [Act.put, List.setIfInBounds_toArray, List.set_cons_zero, List.set_cons_succ, i64_w, i32_w]
                rfl
              refine take_ (i := 9) (N := some 119) (v := ?_) (a' := ?_) #[true, true, true, true, true, true, true, true, true, true, false, false, false, false, false, false, false, false, false, false, false, false, false] rfl rfl (by kernel_rfl) (fun _ _ _ h => h) (Or.inl ⟨by rfl, ?_⟩) hHeld ?_ ?_
              rotate_left
              · rintro w' ⟨s0, s1, s2, s3, s4⟩
                go_simp
                with_reducible rfl
              rotate_left
              · simp only [Act.put, List.setIfInBounds_toArray, List.set_cons_zero, List.set_cons_succ, i64_w, i32_w]
                rfl
              refine pure_ (i := 10) (N := some 120) (v := ?_) (a' := ?_) #[true, true, true, true, true, true, true, true, true, true, true, false, false, false, false, false, false, false, false, false, false, false, false] rfl rfl (by kernel_rfl) (fun _ _ _ h => h) (Or.inl ⟨by rfl, ?_⟩) ?_ ?_
              rotate_left
              · intro w'
                go_simp
                with_reducible rfl
              rotate_left
              · simp only [Act.put, List.setIfInBounds_toArray, List.set_cons_zero, List.set_cons_succ, i64_w, i32_w]
                rfl
              refine pure_ (i := 11) (N := some 121) (v := ?_) (a' := ?_) #[true, true, true, true, true, true, true, true, true, true, true, true, false, false, false, false, false, false, false, false, false, false, false] rfl rfl (by kernel_rfl) (fun _ _ _ h => h) (Or.inl ⟨by rfl, ?_⟩) ?_ ?_
              rotate_left
              · intro w'
                go_simp
                with_reducible rfl
              rotate_left
              · simp only [Act.put, List.setIfInBounds_toArray, List.set_cons_zero, List.set_cons_succ, i64_w, i32_w]
                rfl
              refine pure_ (i := 12) (N := some 122) (v := ?_) (a' := ?_) #[true, true, true, true, true, true, true, true, true, true, true, true, true, false, false, false, false, false, false, false, false, false, false] rfl rfl (by kernel_rfl) (fun _ _ _ h => h) (Or.inl ⟨by rfl, ?_⟩) ?_ ?_
              rotate_left
              · intro w'
                go_simp
                with_reducible rfl
              rotate_left
              · simp only [Act.put, List.setIfInBounds_toArray, List.set_cons_zero, List.set_cons_succ, i64_w, i32_w]
                rfl
              refine pure_ (i := 13) (N := some 123) (v := ?_) (a' := ?_) #[true, true, true, true, true, true, true, true, true, true, true, true, true, true, false, false, false, false, false, false, false, false, false] rfl rfl (by kernel_rfl) (fun _ _ _ h => h) (Or.inl ⟨by rfl, ?_⟩) ?_ ?_
              rotate_left
              · intro w'
                go_simp
                with_reducible rfl
              rotate_left
              · simp only [Act.put, List.setIfInBounds_toArray, List.set_cons_zero, List.set_cons_succ, i64_w, i32_w]
                rfl
              refine pure_ (i := 15) (N := some 125) (v := ?_) (a' := ?_) #[true, true, true, true, true, true, true, true, true, true, true, true, true, true, false, true, false, false, false, false, false, false, false] rfl rfl (by kernel_rfl) (fun _ _ _ h => h) (Or.inl ⟨by rfl, ?_⟩) ?_ ?_
              rotate_left
              · intro w'
                go_simp
                with_reducible rfl
              rotate_left
              · simp only [Act.put, List.setIfInBounds_toArray, List.set_cons_zero, List.set_cons_succ, i64_w, i32_w]
                rfl
              refine take_ (i := 14) (N := some 124) (v := ?_) (a' := ?_) #[true, true, true, true, true, true, true, true, true, true, true, true, true, true, true, true, false, false, false, false, false, false, false] rfl rfl (by kernel_rfl) (fun _ _ _ h => h) (Or.inl ⟨by rfl, ?_⟩) hHeld ?_ ?_
              rotate_left
              · rintro w' ⟨s0, s1, s2, s3, s4⟩
                go_simp
                with_reducible rfl
              rotate_left
              · simp only [Act.put, List.setIfInBounds_toArray, List.set_cons_zero, List.set_cons_succ, i64_w, i32_w]
                rfl
              refine take_ (i := 16) (N := some 126) (v := ?_) (a' := ?_) #[true, true, true, true, true, true, true, true, true, true, true, true, true, true, true, true, true, false, false, false, false, false, false] rfl rfl (by kernel_rfl) (fun _ _ _ h => h) (Or.inl ⟨by rfl, ?_⟩) hHeld ?_ ?_
              rotate_left
              · rintro w' ⟨s0, s1, s2, s3, s4⟩
                go_simp
                with_reducible rfl
              rotate_left
              · simp only [Act.put, List.setIfInBounds_toArray, List.set_cons_zero, List.set_cons_succ, i64_w, i32_w]
                rfl
              refine pure_ (i := 17) (N := some 127) (v := ?_) (a' := ?_) #[true, true, true, true, true, true, true, true, true, true, true, true, true, true, true, true, true, true, false, false, false, false, false] rfl rfl (by kernel_rfl) (fun _ _ _ h => h) (Or.inl ⟨by rfl, ?_⟩) ?_ ?_
              rotate_left
              · intro w'
                go_simp
                with_reducible rfl
              rotate_left
              · simp only [Act.put, List.setIfInBounds_toArray, List.set_cons_zero, List.set_cons_succ, i64_w, i32_w]
                rfl
              refine pure_ (i := 18) (N := some 128) (v := ?_) (a' := ?_) #[true, true, true, true, true, true, true, true, true, true, true, true, true, true, true, true, true, true, true, false, false, false, false] rfl rfl (by kernel_rfl) (fun _ _ _ h => h) (Or.inl ⟨by rfl, ?_⟩) ?_ ?_
              rotate_left
              · intro w'
                go_simp
                with_reducible rfl
              rotate_left
              · simp only [Act.put, List.setIfInBounds_toArray, List.set_cons_zero, List.set_cons_succ, i64_w, i32_w]
                rfl
              refine pure_ (i := 19) (N := some 129) (v := ?_) (a' := ?_) #[true, true, true, true, true, true, true, true, true, true, true, true, true, true, true, true, true, true, true, true, false, false, false] rfl rfl (by kernel_rfl) (fun _ _ _ h => h) (Or.inl ⟨by rfl, ?_⟩) ?_ ?_
              rotate_left
              · intro w'
                go_simp
                with_reducible rfl
              rotate_left
              · simp only [Act.put, List.setIfInBounds_toArray, List.set_cons_zero, List.set_cons_succ, i64_w, i32_w]
                rfl
              refine one_ (i := 20) (N := some 130) #[true, true, true, true, true, true, true, true, true, true, true, true, true, true, true, true, true, true, true, true, true, false, false] rfl rfl (by kernel_rfl) (by decide) (fun K hK => ?_)
              refine goes_ Try.func5 (by kernel_rfl) rfl #[] (by rfl) rfl rfl (by simp only [List.map_toArray, List.map_nil]) ?_
              with_reducible refine (lives.calls _).mono ?_
              rintro e w27 ⟨rfl, hb⟩
              have n0_ := Aside0.mk (below_step (by repeat (first | (with_reducible first | exact HB.out | apply below_alloc | apply pw_below_drewN | apply below_drew1) | exact HB.out)) hb); have n1_ := Aside0.mk (below_step (by repeat (first | (with_reducible first | exact WW.out | apply below_alloc | apply pw_below_drewN | apply below_drew1) | exact WW.out)) hb); (first | have n2_ := Aside0.mk (blk_below BK9.out hb) | have n2_ := Aside0.mk (blk_below (blk_drewN BK9.out _) hb) | have n2_ := Aside0.mk (blk_below (blk_drew BK9.out) hb) | have n2_ := Aside0.mk (blk_below (blk_alloc BK9.out _) hb) | have n2_ := Aside0.mk (blk_below (by first | exact BK9.out | ((with_reducible repeat (first | refine blk_drewN ?_ _ | refine blk_drew ?_ | refine blk_alloc ?_ _)); exact BK9.out)) hb)); clear HB WW BK9; have HB := n0_; have WW := n1_; have BK9 := n2_; clear n0_ n1_ n2_ hb
              refine ⟨_, rfl, ?_⟩
              refine hK.out _ _ ⟨BK9.out, (blk_cell BK9.out 0).trans rfl, (blk_cell BK9.out 1).trans rfl, (blk_cell BK9.out 2).trans rfl, (blk_cell BK9.out 3).trans rfl⟩ (fun hHeld => ?_)
              clear hK K
              refine norm_ (a' := ?_) ?_ ?_
              rotate_left
              · show Act.put _ (some 130) _ = _
                simp only [Act.put, List.setIfInBounds_toArray, List.set_cons_zero, List.set_cons_succ, i64_w, i32_w]
                rfl
              refine pure_ (i := 21) (N := some 131) (v := ?_) (a' := ?_) #[true, true, true, true, true, true, true, true, true, true, true, true, true, true, true, true, true, true, true, true, true, true, false] rfl rfl (by kernel_rfl) (fun _ _ _ h => h) (Or.inl ⟨by rfl, ?_⟩) ?_ ?_
              rotate_left
              · intro w'
                go_simp
                with_reducible rfl
              rotate_left
              · simp only [Act.put, List.setIfInBounds_toArray, List.set_cons_zero, List.set_cons_succ, i64_w, i32_w]
                rfl
              refine pure_ (i := 22) (N := some 4) (v := ?_) (a' := ?_) #[true, true, true, true, true, true, true, true, true, true, true, true, true, true, true, true, true, true, true, true, true, true, true] rfl rfl (by kernel_rfl) (fun _ _ _ h => h) (Or.inl ⟨by rfl, ?_⟩) ?_ ?_
              rotate_left
              · intro w'
                go_simp
                with_reducible rfl
              rotate_left
              · simp only [Act.put, List.setIfInBounds_toArray, List.set_cons_zero, List.set_cons_succ, i64_w, i32_w]
                rfl
              refine done_ (by kernel_rfl) ?_
              all_goals (try go_wp2)
              go_ret
              exact ⟨rfl, by repeat (first | (with_reducible first | exact HB.out | apply below_alloc | apply pw_below_drewN | apply below_drew1) | exact HB.out)⟩

end Go.Proofs.Ythphdhhogdhmeaa.GA
