/- Contracts: each call of a Go function answers what the Lean function of its name says; a law of the set follows. No condition but each theorem's own. Written by a program of this session's out of the translation, with the functions proved by hand let in. -/
import Derived.Test.YtpkobboljdaaeaaGAx0
import Derived.Test.YtpkobboljdaaeaaGAx2
import Derived.Test.YtpkobboljdaaeaaGAx3
import Derived.Test.YtpkobboljdaaeaaGAx6
import Derived.Test.YtpkobboljdaaeaaGAx7
namespace Go.Proofs.Ytpkobboljdaaeaa.GA
open Go.RowKit Go.Proofs.YtpkobboljdaaeaaW.PrintWords Go.Proofs.YtpkobboljdaaeaaW.PrintLast Go.Proofs.YtpkobboljdaaeaaW.PrintMore
attribute [local go_sem] max2_int min2_int max_two min_two max_three min_three max_four min_four   -- for this text's walks alone
set_option linter.unusedVariables false
set_option linter.unusedSimpArgs false

/-! ### cohortref00_Ints: function 18 -/
def cohortref00_Ints.l0 : Nat → List Int → List Int → Int → Option (Bool)
  | 0, _, _, _ => none
  | k + 1, x0, x1, x5 => if x5 < (x0.length : Int) then (if 0 ≤ x5 then (if x5 < (x1.length : Int) then (if (rd x0 x5) = (rd x1 x5) then (cohortref00_Ints.l0 k x0 x1 (wrap64 (x5 + 1))) else (some false)) else (none)) else (none)) else (some true)
def cohortref00_Ints.f (k : Nat) (l0 : List Int) (l1 : List Int) : Option (Bool) := if (l0.length : Int) = (l1.length : Int) then (cohortref00_Ints.l0 k l0 l1 0) else (some false)
theorem cohortref00_Ints.mono_l : ∀ k, (∀ y0 y1 y2, LeO (cohortref00_Ints.l0 k y0 y1 y2) (cohortref00_Ints.l0 (k + 1) y0 y1 y2))
  | 0 => fun _ _ _ r h => by simp [cohortref00_Ints.l0] at h
  | k + 1 => by
    have ih0 := cohortref00_Ints.mono_l k
    · intro y0 y1 y2
      unfold cohortref00_Ints.l0
      repeat' first
      | (with_reducible exact ih0 _ _ _)
      | (with_reducible exact LeO.refl _)
      | (with_reducible exact LeO.none _)
      | (with_reducible refine LeO.ite ?_ ?_)
      | (with_reducible refine LeO.bind ?_ (fun _ => ?_))
      | exact ih0 _ _ _
      | exact LeO.none _
      | refine LeO.ite ?_ ?_
      | refine LeO.bind ?_ (fun _ => ?_)
theorem cohortref00_Ints.mono : ∀ a0 a1 k, LeO (cohortref00_Ints.f k a0 a1) (cohortref00_Ints.f (k + 1) a0 a1) := by
  intro a0 a1 k
  have ih0 := cohortref00_Ints.mono_l k
  unfold cohortref00_Ints.f
  repeat' first
      | (with_reducible exact ih0 _ _ _)
      | (with_reducible exact LeO.refl _)
      | (with_reducible exact LeO.none _)
      | (with_reducible refine LeO.ite ?_ ?_)
      | (with_reducible refine LeO.bind ?_ (fun _ => ?_))
      | exact ih0 _ _ _
      | exact LeO.none _
      | refine LeO.ite ?_ ?_
      | refine LeO.bind ?_ (fun _ => ?_)
set_option maxHeartbeats 8000000 in
set_option maxRecDepth 100000 in
theorem cohortref00_Ints.calls (k : Nat) (A0 : Option Addr) (c0 : Nat) (l0 : List Int) (A1 : Option Addr) (c1 : Nat) (l1 : List Int) (r : Bool) (w : World) (hr0 : Kd.C (Kd.int .i64) w A0 l0.length l0) (hc0 : l0.length ≤ c0) (hr1 : Kd.C (Kd.int .i64) w A1 l1.length l1) (hc1 : l1.length ≤ c1) (h : cohortref00_Ints.f k l0 l1 = some r) :
    Calls Try.prog 18 #[.slice A0 l0.length c0, .slice A1 l1.length c1] w fun e w' => e = .returned (.bool r) ∧ Drawn0 w w' := by
  have HR0 := Aside0.mk hr0
  have HC0 := Aside0.mk hc0
  clear hr0 hc0
  have HR1 := Aside0.mk hr1
  have HC1 := Aside0.mk hc1
  clear hr1 hc1
  have H : (if (l0.length : Int) = (l1.length : Int) then (cohortref00_Ints.l0 k l0 l1 0) else (some false)) = some r := h
  clear h
  by_cases c3 : (l0.length : Int) = (l1.length : Int)
  · rw [if_pos c3] at H
    have c3b0 : ((l0.length : Int) == (l1.length : Int)) = true := beq_iff_eq.mpr c3
    have c3b1 : ((l0.length : Int) != (l1.length : Int)) = false := bne_eq_false_iff_eq.mpr c3
    have c3b2 : (l0.length == l1.length) = true := by first | simpa using c3 | (simp at c3 ⊢; omega)
    clear c3
    have H' := Aside0.mk H
    clear H
    go_enter Try.func18, Try.ntmps18
    go_wp2
    repeat (go_quiet (fail); try go_wp2)
    go_loopg [5] k (fun kq v5 w' => ∃ (x5_1 : Int), v5 = .int .i64 x5_1 ∧ Aside0 (cohortref00_Ints.l0 kq l0 l1 x5_1 = some r) ∧ Aside0 (kq ≤ k) ∧ Drawn0 w w')
    case atStart => exact ⟨(0), (by first | rfl | (simp; done) | (simp [*]; done)), H', ⟨Nat.le_refl _⟩, by repeat (first | exact Drawn0.refl _ | apply Drawn0.step)⟩
    case round =>
      clear H'
      try clear c1
      try clear p2
      try clear c3
      try clear c3b0
      try clear c3b1
      try clear c3b2
      obtain ⟨x5_1, rfl, HA, HK1, ⟨m1, rfl⟩⟩ := hrel
      cases gk with
      | zero => exact absurd HA.out (by simp [cohortref00_Ints.l0])
      | succ k1 =>
        have H := HA.out
        clear HA
        simp only [cohortref00_Ints.l0] at H
        by_cases c4 : x5_1 < (l0.length : Int)
        · rw [if_pos c4] at H
          have c4b0 : decide (x5_1 < (l0.length : Int)) = true := decide_eq_true c4
          clear c4
          by_cases c5 : 0 ≤ x5_1
          · rw [if_pos c5] at H
            have c5b0 : decide (0 ≤ x5_1) = true := decide_eq_true c5
            clear c5
            by_cases c6 : x5_1 < (l1.length : Int)
            · rw [if_pos c6] at H
              have c6b0 : decide (x5_1 < (l1.length : Int)) = true := decide_eq_true c6
              clear c6
              by_cases c7 : (rd l0 x5_1) = (rd l1 x5_1)
              · rw [if_pos c7] at H
                have c7b0 : ((rd l0 x5_1) == (rd l1 x5_1)) = true := beq_iff_eq.mpr c7
                have c7b1 : ((rd l0 x5_1) != (rd l1 x5_1)) = false := bne_eq_false_iff_eq.mpr c7
                clear c7
                have H' := Aside0.mk H
                clear H
                have p168 : 0 ≤ (x5_1 : Int) := of_decide_eq_true (by first | (with_reducible assumption) | assumption)
                have q168 : x5_1 < (l0.length : Int) := of_decide_eq_true (by first | (with_reducible assumption) | assumption)
                obtain ⟨ad168, e168, hx168_0⟩ := Kd.at_int HR0.out x5_1 p168 q168
                cases e168
                replace p168 := eq_true p168
                replace q168 := eq_true q168
                have p169 : 0 ≤ (x5_1 : Int) := of_decide_eq_true (by first | (with_reducible assumption) | assumption)
                have q169 : x5_1 < (l1.length : Int) := of_decide_eq_true (by first | (with_reducible assumption) | assumption)
                obtain ⟨ad169, e169, hx169_0⟩ := Kd.at_int HR1.out x5_1 p169 q169
                cases e169
                replace p169 := eq_true p169
                replace q169 := eq_true q169
                go_wp2
                repeat (go_quiet (fail); try go_wp2)
                go_roundg k1
                case measure => have := HK1.out; omega
                case rel => exact ⟨(wrap64 (x5_1 + 1)), (by first | rfl | (simp; done) | (simp [*]; done)), H', ⟨by have := HK1.out; omega⟩, by repeat (first | exact Drawn0.refl _ | apply Drawn0.step)⟩
              · rw [if_neg c7] at H
                have c7b0 : ((rd l0 x5_1) == (rd l1 x5_1)) = false := beq_eq_false_iff_ne.mpr c7
                have c7b1 : ((rd l0 x5_1) != (rd l1 x5_1)) = true := bne_iff_ne.mpr c7
                obtain rfl := Option.some.inj H
                have p168 : 0 ≤ (x5_1 : Int) := of_decide_eq_true (by first | (with_reducible assumption) | assumption)
                have q168 : x5_1 < (l0.length : Int) := of_decide_eq_true (by first | (with_reducible assumption) | assumption)
                obtain ⟨ad168, e168, hx168_0⟩ := Kd.at_int HR0.out x5_1 p168 q168
                cases e168
                replace p168 := eq_true p168
                replace q168 := eq_true q168
                have p169 : 0 ≤ (x5_1 : Int) := of_decide_eq_true (by first | (with_reducible assumption) | assumption)
                have q169 : x5_1 < (l1.length : Int) := of_decide_eq_true (by first | (with_reducible assumption) | assumption)
                obtain ⟨ad169, e169, hx169_0⟩ := Kd.at_int HR1.out x5_1 p169 q169
                cases e169
                replace p169 := eq_true p169
                replace q169 := eq_true q169
                go_wp2
                repeat (go_quiet (fail); try go_wp2)
                go_ret
                exact ⟨by first | rfl | (simp; done) | (simp [*]; done), by repeat (first | exact Drawn0.refl _ | apply Drawn0.step)⟩
            · rw [if_neg c6] at H
              exact absurd H (by simp)
          · rw [if_neg c5] at H
            exact absurd H (by simp)
        · rw [if_neg c4] at H
          have c4b0 : decide (x5_1 < (l0.length : Int)) = false := decide_eq_false c4
          clear c4
          obtain rfl := Option.some.inj H
          go_wp2
          repeat (go_quiet (fail); try go_wp2)
          go_ret
          exact ⟨by first | rfl | (simp; done) | (simp [*]; done), by repeat (first | exact Drawn0.refl _ | apply Drawn0.step)⟩
  · rw [if_neg c3] at H
    have c3b0 : ((l0.length : Int) == (l1.length : Int)) = false := beq_eq_false_iff_ne.mpr c3
    have c3b1 : ((l0.length : Int) != (l1.length : Int)) = true := bne_iff_ne.mpr c3
    have c3b2 : (l0.length == l1.length) = false := by first | simpa using c3 | (simp at c3 ⊢; omega)
    obtain rfl := Option.some.inj H
    go_enter Try.func18, Try.ntmps18
    go_wp2
    repeat (go_quiet (fail); try go_wp2)
    go_ret
    exact ⟨by first | rfl | (simp; done) | (simp [*]; done), by repeat (first | exact Drawn0.refl _ | apply Drawn0.step)⟩

/-! ### cohortlaw14_BlackTells: function 5 -/
/-- a Config's cells -/
def tl.V (A0 : Option Addr) (c0 : Nat) (A1 : Option Addr) (c1 : Nat) (A2 : Option Addr) (c2 : Nat) (x : S37) : Array Value := #[.slice A0 x.f0.length c0, .int .u8 x.f1, .int .i64 x.f2, .bool x.f3, .int .i64 x.f4, .int .i64 x.f5, .int .i64 x.f6, .int .i64 x.f7, .int .i64 x.f8, .int .i64 x.f9, .int .u64 x.f10, .int .u64 x.f11, .int .u64 x.f12, .int .u64 x.f13, .int .u64 x.f14, .int .u64 x.f15, .bool x.f16, .int .i64 x.f17, .slice A1 x.f18.length c1, .slice A2 x.f19.length c2]
theorem tl.info (A0 : Option Addr) (c0 : Nat) (A1 : Option Addr) (c1 : Nat) (A2 : Option Addr) (c2 : Nat) (x : S37) : (Try.prog.info? 37).map (·.size) = some (tl.V A0 c0 A1 c1 A2 c2 x).size := by
  have h : (Try.prog.info? 37).map (·.size) = some 20 := by kernel_rfl
  rw [h]; rfl
theorem tl.load_run {o : Oper} {a : Act} (g : Nat) (cs : Array Value) (ho : o.op = .load 37 (.tmp 8)) (hx : a.eval (.tmp 8) = .pointer (some ⟨g, 0, none⟩)) (w : World) (hg : w.heap[g]? = some (.cells cs 37 (0, 0))) (hi : (Try.prog.info? 37).map (·.size) = some cs.size) :
    (execOp a.eval o).run Try.prog w = .ok (.value (.agg cs)) w := by
  unfold execOp
  simp only [ho, hx, Instr.loadAt, Instr.sureAddr, Sem.run_bind, Sem.run_pure, Result.andThen_ok, run_loadVar_row w g 37 37 cs (0, 0) _ hg Try.underlying37 rfl hi]
/-- a row that may be spoiled: its block, behind base -/
def tl.Blk (W : World) (base top : Nat) (A : Option Addr) (n : Nat) : Prop := n = 0 ∨ ∃ (g : Nat) (cur : Array Value), A = some ⟨g, 0, none⟩ ∧ base ≤ g ∧ g < top ∧ W.heap[g]? = some (.cells cur 31 (0, 0)) ∧ n * 3 ≤ cur.size
theorem tl.blk_of {W : World} {base : Nat} {ok : Nat → Prop} {A : Option Addr} {c : Nat} {xs : List S31} {n : Nat} (h : Kd.R k31 31 W base ok (.slice A n c) xs) : tl.Blk W base W.heap.size A n ∧ n = xs.length := by
  obtain ⟨A', c', e, hl, _⟩ := Kd.R_reads h
  have e2 : n = xs.length := by injection e with _ h2 _
  refine ⟨?_, e2⟩
  subst e2
  obtain ⟨_, inner, ⟨hin, ho⟩, _⟩ := h
  rcases ho with ⟨e, hz⟩ | ⟨g, cap, cur, hv, hb, hh, r1, r2, r3, _⟩
  · left
    have : inner.length = xs.length * 3 := hin
    injection e
  · right
    injection hv with h1 h2 h3
    refine ⟨g, cur, h1, hb, blk_lt hh, hh, ?_⟩
    have : cur.size = cap * 3 := r3
    omega
theorem tl.blk_far {W W' : World} {base top : Nat} {A : Option Addr} {n : Nat} (h : tl.Blk W base top A n) (hk : ∀ k, base ≤ k → k < top → k < W.heap.size → W'.heap[k]? = W.heap[k]?) : tl.Blk W' base top A n := by
  rcases h with h | ⟨g, cur, h1, h2, h5, h3, h4⟩
  · exact .inl h
  · exact .inr ⟨g, cur, h1, h2, h5, (hk g h2 h5 (blk_lt h3)).trans h3, h4⟩
theorem tl.wi (z : Nat) (h : z < 4611686018427387904) : wrap64 ((z : Int) + 1) = ((z + 1 : Nat) : Int) := by unfold wrap64; omega
theorem tl.ix {i n s : Nat} (h : i < n) (hs : n * 3 ≤ s) : i * 3 < s ∧ i * 3 + 1 < s ∧ i * 3 + 2 < s := by omega
theorem tl.cell {W : World} {g : Nat} {cur : Array Value} (hh : W.heap[g]? = some (.cells cur 31 (0, 0))) (j : Nat) (hj : j < cur.size) : ∃ u, W.cell? ⟨g, j, none⟩ = some u := ⟨cur[j], by rw [blk_cell hh, Array.getElem?_eq_getElem hj]⟩
theorem tl.wii (i n : Nat) (h : i < n) (hn : n ≤ 200) : wrap64 ((i : Int) + 1) = ((i + 1 : Nat) : Int) := tl.wi i (by omega)
theorem tl.mes {i n : Nat} (h : i < n) (hn : n ≤ 200) : n - (intOf (.int .i64 (wrap64 ((i : Int) + 1)))).toNat < n - (intOf (.int .i64 (i : Int))).toNat := by
  rw [tl.wii i n h hn]
  show n - ((i + 1 : Nat) : Int).toNat < n - ((i : Nat) : Int).toNat
  rw [Int.toNat_natCast, Int.toNat_natCast]
  exact Nat.sub_lt_sub_left h (Nat.lt_succ_self i)
/-- what is kept while rows are spoiled -/
def tl.P (w w1 : World) (la lb lc : Nat) (Aa : Option Addr) (na : Nat) (Ab : Option Addr) (nb : Nat) (gc : Nat) (cs : Array Value) (W : World) : Prop :=
  tl.Blk W la lb Aa na ∧ tl.Blk W lb lc Ab nb ∧ Below w.heap.size w W ∧ Below w1.heap.size w1 W ∧ W.heap[gc]? = some (.cells cs 37 (0, 0))
theorem tl.blk_put {W : World} {lo hi n g j : Nat} {v : Value} (h : tl.Blk W lo hi (some ⟨g, 0, none⟩) n) : tl.Blk (W.setCell ⟨g, j, none⟩ v) lo hi (some ⟨g, 0, none⟩) n := by
  rcases h with h | ⟨g', cur, h1, h2, h5, h3, h4⟩
  · exact .inl h
  · injection h1 with h1
    injection h1 with h1
    subst h1
    refine .inr ⟨g, _, rfl, h2, h5, heap_setCell_same W g j cur 31 v h3, by simpa using h4⟩
theorem tl.put1 {w w1 W : World} {la lb lc na nb gc g j : Nat} {Ab : Option Addr} {cs : Array Value} {v : Value} (h : tl.P w w1 la lb lc (some ⟨g, 0, none⟩) na Ab nb gc cs W) (hg1 : la ≤ g) (hg2 : g < lb) (h1 : w1.heap.size = la) (h0 : w.heap.size ≤ la) (hc : gc < la) :
    tl.P w w1 la lb lc (some ⟨g, 0, none⟩) na Ab nb gc cs (W.setCell ⟨g, j, none⟩ v) :=
  ⟨tl.blk_put h.1, tl.blk_far h.2.1 (fun k hk _ _ => heap_setCell_other W _ k v (by show k ≠ g; omega)), h.2.2.1.setCell (by show w.heap.size ≤ g; omega) _, h.2.2.2.1.setCell (by show w1.heap.size ≤ g; omega) _, (heap_setCell_other W _ gc v (by show gc ≠ g; omega)).trans h.2.2.2.2⟩
theorem tl.put2 {w w1 W : World} {la lb lc na nb gc g j : Nat} {Aa : Option Addr} {cs : Array Value} {v : Value} (h : tl.P w w1 la lb lc Aa na (some ⟨g, 0, none⟩) nb gc cs W) (hg1 : lb ≤ g) (hab : la ≤ lb) (h1 : w1.heap.size = la) (h0 : w.heap.size ≤ la) (hc : gc < la) :
    tl.P w w1 la lb lc Aa na (some ⟨g, 0, none⟩) nb gc cs (W.setCell ⟨g, j, none⟩ v) :=
  ⟨tl.blk_far h.1 (fun k _ hk _ => heap_setCell_other W _ k v (by show k ≠ g; omega)), tl.blk_put h.2.1, h.2.2.1.setCell (by show w.heap.size ≤ g; omega) _, h.2.2.2.1.setCell (by show w1.heap.size ≤ g; omega) _, (heap_setCell_other W _ gc v (by show gc ≠ g; omega)).trans h.2.2.2.2⟩
/-- what the law asks, all of it -/
def tl.f (k : Nat) (x : S37) (q : List S31) (pool now span price score : Int) (spot : Bool) : Option Bool :=
  if (x.f0.length : Int) > 200 ∨ (q.length : Int) > 200 then some true else
  (black_Refuse.f q pool now span).bind fun a => (black_Tell.f q pool price score).bind fun b => (cohortref14_Refuse.f k q pool now span).bind fun a2 => (cohortref00_Quotes.f k a a2).bind fun e1 =>
  (cohortref14_Tell.f q pool price score).bind fun b2 => (cohortref00_Quotes.f k b b2).bind fun e2 => (cohortref14_Class.f k x.f0 x.f1 x.f2 x.f3 x.f4 x.f5 x.f6 x.f7 x.f8 x.f9 x.f10 x.f11 x.f12 x.f13 x.f14 x.f15 x.f16 x.f17 x.f18 x.f19 q spot now).bind fun c2 =>
  (black_Next.f k q now).bind fun n1 => (cohortref14_Next.f k q now).bind fun n2 => (cohortref00_Quotes.f k q q).bind fun e3 => (black_IsOpen.f q pool now).bind fun o1 => (cohortref14_IsOpen.f q pool now).bind fun o2 =>
  (cohortref14_Opens.f k x.f0 x.f1 x.f2 x.f3 x.f4 x.f5 x.f6 x.f7 x.f8 x.f9 x.f10 x.f11 x.f12 x.f13 x.f14 x.f15 x.f16 x.f17 x.f18 x.f19 q spot now).bind fun p2 => (cohortref00_Ints.f k (black_places x.f0 q spot now) p2).bind fun e4 =>
  if e1 = true ∧ e2 = true ∧ e3 = true ∧ e4 = true ∧ c2 = black_class x.f0 q x.f3 spot now ∧ n2 = n1 ∧ o2 = o1 ∧ a.length ≤ 200 ∧ b.length ≤ 200 then some true else none

set_option maxHeartbeats 16000000 in
set_option maxRecDepth 100000 in
theorem tl.calls (k : Nat) (A0 : Option Addr) (c0 : Nat) (A1 : Option Addr) (c1 : Nat) (A2 : Option Addr) (c2 : Nat) (x : S37) (A : Option Addr) (c : Nat) (q : List S31) (pool now span price score : Int) (spot : Bool) (r : Bool) (w : World)
    (h0 : Kd.C k56 w A0 x.f0.length x.f0) (hc0 : x.f0.length ≤ c0) (h1 : Kd.C k75 w A1 x.f18.length x.f18) (hc1 : x.f18.length ≤ c1) (h2 : Kd.C k77 w A2 x.f19.length x.f19) (hc2 : x.f19.length ≤ c2) (hq : Kd.C k31 w A q.length q) (hqc : q.length ≤ c) (h : tl.f k x q pool now span price score spot = some r) :
    Calls Try.prog 5 #[.agg (tl.V A0 c0 A1 c1 A2 c2 x), .slice A q.length c, .int .i64 pool, .int .u64 now, .int .u64 span, .int .i64 price, .int .i64 score, .bool spot] w fun e w' => e = .returned (.bool r) ∧ Below w.heap.size w w' := by
  unfold tl.f at h
  have HB := Aside0.mk (Below.refl w.heap.size w)
  by_cases hg : (x.f0.length : Int) > 200 ∨ (q.length : Int) > 200
  · rw [if_pos hg] at h
    cases h
    by_cases h5 : (x.f0.length : Int) > 200
    · clear hg h0 h1 h2 hq
      go_enter Try.func5, Try.ntmps5
      go_wp2_with (first
            | ((with_reducible refine gate_dst (N := 8) rfl ?_); refine box_event ?hg (N := 8) ?hd (cs := (tl.V A0 c0 A1 c1 A2 c2 x)) (t := 37) ?hr ?_; (case hd => rfl); (case hg => rfl); (case hr => first | (go_simp; done) | (go_simp; rfl)); intro gc hg w1_c hbox hb; have GGc := Aside0.mk (show w.heap.size ≤ gc from by rw [hg]; exact below_size (by repeat (first | (with_reducible first | exact HB.out | apply below_alloc | apply pw_below_drewN | apply below_drew1) | exact HB.out))); have BKc := Aside0.mk hbox; clear hbox hg; have n0_ := Aside0.mk (below_step (by repeat (first | (with_reducible first | exact HB.out | apply below_alloc | apply pw_below_drewN | apply below_drew1) | exact HB.out)) hb); clear HB; have HB := n0_; clear n0_ hb; have k0 : w1_c.cell? ⟨gc, 0, none⟩ = some (.slice A0 x.f0.length c0) := (blk_cell BKc.out 0).trans rfl)
            | (go_at_call 6; with_reducible refine (cohortlaw14_lives.calls true _ rfl).mono ?_; rintro e w' ⟨rfl, hb⟩; have n0_ := Aside0.mk (below_step (by repeat (first | (with_reducible first | exact HB.out | apply below_alloc | apply pw_below_drewN | apply below_drew1) | exact HB.out)) hb); (first | have n1_ := Aside0.mk (blk_below BKc.out hb) | have n1_ := Aside0.mk (blk_below (blk_drewN BKc.out _) hb) | have n1_ := Aside0.mk (blk_below (blk_drew BKc.out) hb) | have n1_ := Aside0.mk (blk_below (blk_alloc BKc.out _) hb) | have n1_ := Aside0.mk (blk_below (by (with_reducible repeat (first | refine blk_drewN ?_ _ | refine blk_drew ?_ | refine blk_alloc ?_ _)); exact BKc.out) hb)); clear HB BKc; have HB := n0_; have BKc := n1_; clear n0_ n1_ hb))
      go_ret
      exact ⟨rfl, by repeat (first | (with_reducible first | exact HB.out | apply below_alloc | apply pw_below_drewN | apply below_drew1) | exact HB.out)⟩
    · have h6 : (q.length : Int) > 200 := by omega
      have hd := decide_eq_false h5
      clear hg h0 h1 h2 hq h5
      go_enter Try.func5, Try.ntmps5
      go_wp2_with (first
            | ((with_reducible refine gate_dst (N := 8) rfl ?_); refine box_event ?hg (N := 8) ?hd (cs := (tl.V A0 c0 A1 c1 A2 c2 x)) (t := 37) ?hr ?_; (case hd => rfl); (case hg => rfl); (case hr => first | (go_simp; done) | (go_simp; rfl)); intro gc hg w1_c hbox hb; have GGc := Aside0.mk (show w.heap.size ≤ gc from by rw [hg]; exact below_size (by repeat (first | (with_reducible first | exact HB.out | apply below_alloc | apply pw_below_drewN | apply below_drew1) | exact HB.out))); have BKc := Aside0.mk hbox; clear hbox hg; have n0_ := Aside0.mk (below_step (by repeat (first | (with_reducible first | exact HB.out | apply below_alloc | apply pw_below_drewN | apply below_drew1) | exact HB.out)) hb); clear HB; have HB := n0_; clear n0_ hb; have k0 : w1_c.cell? ⟨gc, 0, none⟩ = some (.slice A0 x.f0.length c0) := (blk_cell BKc.out 0).trans rfl)
            | (go_at_call 6; with_reducible refine (cohortlaw14_lives.calls true _ rfl).mono ?_; rintro e w' ⟨rfl, hb⟩; have n0_ := Aside0.mk (below_step (by repeat (first | (with_reducible first | exact HB.out | apply below_alloc | apply pw_below_drewN | apply below_drew1) | exact HB.out)) hb); (first | have n1_ := Aside0.mk (blk_below BKc.out hb) | have n1_ := Aside0.mk (blk_below (blk_drewN BKc.out _) hb) | have n1_ := Aside0.mk (blk_below (blk_drew BKc.out) hb) | have n1_ := Aside0.mk (blk_below (blk_alloc BKc.out _) hb) | have n1_ := Aside0.mk (blk_below (by (with_reducible repeat (first | refine blk_drewN ?_ _ | refine blk_drew ?_ | refine blk_alloc ?_ _)); exact BKc.out) hb)); clear HB BKc; have HB := n0_; have BKc := n1_; clear n0_ n1_ hb))
      go_ret
      exact ⟨rfl, by repeat (first | (with_reducible first | exact HB.out | apply below_alloc | apply pw_below_drewN | apply below_drew1) | exact HB.out)⟩
  · rw [if_neg hg] at h
    have hd1 : decide ((x.f0.length : Int) > 200) = false := decide_eq_false (by omega)
    have hd2 : decide ((q.length : Int) > 200) = false := decide_eq_false (by omega)
    have HLL := Aside0.mk (show (([] : List S31).length + q.length) * 24 ≤ 140737488355328 by simp only [List.length_nil]; omega)
    have HQL := Aside0.mk (show q.length < 17592186044416 by omega)
    obtain ⟨a, f1, h⟩ := Option.bind_eq_some_iff.mp h
    obtain ⟨b, f2, h⟩ := Option.bind_eq_some_iff.mp h
    obtain ⟨a2, f3, h⟩ := Option.bind_eq_some_iff.mp h
    obtain ⟨e1, f4, h⟩ := Option.bind_eq_some_iff.mp h
    obtain ⟨b2, f5, h⟩ := Option.bind_eq_some_iff.mp h
    obtain ⟨e2, f6, h⟩ := Option.bind_eq_some_iff.mp h
    obtain ⟨k2, f7, h⟩ := Option.bind_eq_some_iff.mp h
    obtain ⟨n1, f8, h⟩ := Option.bind_eq_some_iff.mp h
    obtain ⟨n2, f9, h⟩ := Option.bind_eq_some_iff.mp h
    obtain ⟨e3, f10, h⟩ := Option.bind_eq_some_iff.mp h
    obtain ⟨o1, f11, h⟩ := Option.bind_eq_some_iff.mp h
    obtain ⟨o2, f12, h⟩ := Option.bind_eq_some_iff.mp h
    obtain ⟨p2, f13, h⟩ := Option.bind_eq_some_iff.mp h
    obtain ⟨e4, f14, h⟩ := Option.bind_eq_some_iff.mp h
    by_cases hh : e1 = true ∧ e2 = true ∧ e3 = true ∧ e4 = true ∧ k2 = black_class x.f0 q x.f3 spot now ∧ n2 = n1 ∧ o2 = o1 ∧ a.length ≤ 200 ∧ b.length ≤ 200
    case neg => rw [if_neg hh] at h; cases h
    rw [if_pos hh] at h
    cases h
    obtain ⟨rfl, rfl, rfl, rfl, rfl, rfl, rfl, hla, hlb⟩ := hh
    have F1 := Aside0.mk f1
    have F2 := Aside0.mk f2
    have F3 := Aside0.mk f3
    have F4 := Aside0.mk f4
    have F5 := Aside0.mk f5
    have F6 := Aside0.mk f6
    have F8 := Aside0.mk f8
    have F9 := Aside0.mk f9
    have F10 := Aside0.mk f10
    have F11 := Aside0.mk f11
    have F12 := Aside0.mk f12
    have F14 := Aside0.mk f14
    have RCL := Aside0.mk (show ∀ W : World, Below w.heap.size w W → Calls Try.prog 15 #[.agg (tl.V A0 c0 A1 c1 A2 c2 x), .slice A q.length c, .bool spot, .int .u64 now] W fun e w' => e = .returned (.tuple #[.bool (black_class x.f0 q x.f3 spot now).1, .bool (black_class x.f0 q x.f3 spot now).2]) ∧ Below W.heap.size W w' from fun W hW =>
      cohortref14_Class.calls k A0 c0 x.f0 x.f1 x.f2 x.f3 x.f4 x.f5 x.f6 x.f7 x.f8 x.f9 x.f10 x.f11 x.f12 x.f13 x.f14 x.f15 x.f16 x.f17 A1 c1 x.f18 A2 c2 x.f19 A c q spot now _ _ W (Kd.C_below h0 hW) hc0 (Kd.C_below h1 hW) hc1 (Kd.C_below h2 hW) hc2 (Kd.C_below hq hW) hqc f7)
    have ROP := Aside0.mk (show ∀ W : World, Below w.heap.size w W → Calls Try.prog 20 #[.agg (tl.V A0 c0 A1 c1 A2 c2 x), .slice A q.length c, .bool spot, .int .u64 now] W fun e w' => ∃ v, e = .returned v ∧ Kd.R (Kd.int .i64) 3 w' W.heap.size (fun _ => True) v p2 ∧ Below W.heap.size W w' from fun W hW =>
      cohortref14_Opens.calls k A0 c0 x.f0 x.f1 x.f2 x.f3 x.f4 x.f5 x.f6 x.f7 x.f8 x.f9 x.f10 x.f11 x.f12 x.f13 x.f14 x.f15 x.f16 x.f17 A1 c1 x.f18 A2 c2 x.f19 A c q spot now p2 W (Kd.C_below h0 hW) hc0 (Kd.C_below h1 hW) hc1 (Kd.C_below h2 hW) hc2 (Kd.C_below hq hW) hqc f13)
    have HQ := Aside0.mk hq
    have HQC := Aside0.mk hqc
    have HP := Aside0.mk h0
    have HPC := Aside0.mk hc0
    have HNA := Aside0.mk hla
    have HNB := Aside0.mk hlb
    clear hg f1 f2 f3 f4 f5 f6 f7 f8 f9 f10 f11 f12 f13 f14 h0 h1 h2 hc0 hc1 hc2 hq hqc hla hlb
    go_enter Try.func5, Try.ntmps5
    go_wp2_with (first
            | ((with_reducible refine gate_dst (N := 8) rfl ?_); refine box_event ?hg (N := 8) ?hd (cs := (tl.V A0 c0 A1 c1 A2 c2 x)) (t := 37) ?hr ?_; (case hd => rfl); (case hg => rfl); (case hr => first | (go_simp; done) | (go_simp; rfl)); intro gc hg w1_c hbox hb; have GGc := Aside0.mk (show w.heap.size ≤ gc from by rw [hg]; exact below_size (by repeat (first | (with_reducible first | exact HB.out | apply below_alloc | apply pw_below_drewN | apply below_drew1) | exact HB.out))); have BKc := Aside0.mk hbox; clear hbox hg; have n0_ := Aside0.mk (below_step (by repeat (first | (with_reducible first | exact HB.out | apply below_alloc | apply pw_below_drewN | apply below_drew1) | exact HB.out)) hb); clear HB; have HB := n0_; clear n0_ hb; have k0 : w1_c.cell? ⟨gc, 0, none⟩ = some (.slice A0 x.f0.length c0) := (blk_cell BKc.out 0).trans rfl)
            | ((with_reducible refine gate_builtin (b := .append) (xs := #[.tmp 40, .tmp 41]) rfl ?_); at_builtin; refine Kd.R_append_rows k31 (w0 := w) w.heap.size rfl (.tmp 40) (.tmp 41) 22 31 (.agg #[(.int .i64 0), (.int .i64 0), (.int .u64 0)]) 24 rfl Try.underlying22 info31 rfl (by decide) (by omega) (.slice none 0 0) ([] : List (S31)) q _ _ _ (fun _ => True) (fun _ => False) rfl rfl ?aO ?aR (fun _ _ h => h) (fun _ h => h.elim) ?aF ?aB ?aS ?aL ?_; (case aR => repeat (first | exact (Kd.C_below HQ.out HB.out) | (with_reducible refine Kd.C_alloc ?_ _) | (with_reducible refine Kd.C_drewN ?_ _) | (with_reducible refine Kd.C_drew ?_))); (case aB => exact (by repeat (first | (with_reducible first | exact HB.out | apply below_alloc | apply pw_below_drewN | apply below_drew1) | exact HB.out))); (case aF => exact (fun _ _ => trivial)); (case aO => exact ((Kd.R_nil _ _ _ _ (fun _ => True)))); (case aS => exact (below_size (by repeat (first | (with_reducible first | exact HB.out | apply below_alloc | apply pw_below_drewN | apply below_drew1) | exact HB.out)))); (case aL => exact HLL.out); intro v144 w1 ho hb hg hat; rw [List.nil_append] at ho; obtain ⟨Ao, co, eA⟩ := Kd.R_slice ho; subst eA; have HOC := Aside0.mk (Kd.R_reads' ho).2.2; have HOL := Aside0.mk (Kd.R_reads' ho).2.1; have n0_ := Aside0.mk hb; have n1_ := Aside0.mk (blk_grown (g := gc) (o := .cells (tl.V A0 c0 A1 c1 A2 c2 x) 37 (0, 0)) (by (with_reducible repeat (first | refine blk_drewN ?_ _ | refine blk_drew ?_ | refine blk_alloc ?_ _)); exact BKc.out) hg (by simp [Value.ownBlock])); have WW := Aside0.mk (Below.refl w1.heap.size w1); clear HB BKc ho hb hg hat; have HB := n0_; have BKc := n1_; clear n0_ n1_; have S0 := Aside0.mk (below_size HB.out); have SC := Aside0.mk (blk_lt BKc.out))
            | (go_at_call 7; with_reducible refine (black_Refuse.calls Ao co q pool now span a _ (Kd.C_below HOC.out (by repeat (first | (with_reducible first | exact WW.out | apply below_alloc | apply pw_below_drewN | apply below_drew1) | exact WW.out))) HOL.out F1.out).mono ?_; rintro e wa ⟨v, rfl, ho, hb⟩; obtain ⟨Aa, ca, eA⟩ := Kd.R_slice ho; subst eA; have HRa := Aside0.mk (Kd.R_reads' ho).2.2; have HLa := Aside0.mk (Kd.R_reads' ho).2.1; have KA := Aside0.mk (tl.blk_of (Kd.R_lower ho (below_size (by repeat (first | (with_reducible first | exact WW.out | apply below_alloc | apply pw_below_drewN | apply below_drew1) | exact WW.out))))).1; have Wa := Aside0.mk (Below.refl wa.heap.size wa); clear ho; have n0_ := Aside0.mk (below_step (by repeat (first | (with_reducible first | exact HB.out | apply below_alloc | apply pw_below_drewN | apply below_drew1) | exact HB.out)) hb); have n1_ := Aside0.mk (below_step (by repeat (first | (with_reducible first | exact WW.out | apply below_alloc | apply pw_below_drewN | apply below_drew1) | exact WW.out)) hb); (first | have n2_ := Aside0.mk (blk_below BKc.out hb) | have n2_ := Aside0.mk (blk_below (blk_drewN BKc.out _) hb) | have n2_ := Aside0.mk (blk_below (blk_drew BKc.out) hb) | have n2_ := Aside0.mk (blk_below (blk_alloc BKc.out _) hb) | have n2_ := Aside0.mk (blk_below (by (with_reducible repeat (first | refine blk_drewN ?_ _ | refine blk_drew ?_ | refine blk_alloc ?_ _)); exact BKc.out) hb)); clear HB WW BKc; have HB := n0_; have WW := n1_; have BKc := n2_; clear n0_ n1_ n2_ hb; have SA := Aside0.mk (below_size WW.out))
            | (go_at_call 10; with_reducible refine (black_Tell.calls Ao co q pool price score b _ (Kd.C_below HOC.out (by repeat (first | (with_reducible first | exact WW.out | apply below_alloc | apply pw_below_drewN | apply below_drew1) | exact WW.out))) HOL.out F2.out).mono ?_; rintro e wb ⟨v, rfl, ho, hb⟩; obtain ⟨Ab, cb, eA⟩ := Kd.R_slice ho; subst eA; have HRb := Aside0.mk (Kd.R_reads' ho).2.2; have HLb := Aside0.mk (Kd.R_reads' ho).2.1; have KB := Aside0.mk (tl.blk_of (Kd.R_lower ho (below_size (by repeat (first | (with_reducible first | exact Wa.out | apply below_alloc | apply pw_below_drewN | apply below_drew1) | exact Wa.out))))).1; have Wb := Aside0.mk (Below.refl wb.heap.size wb); clear ho; have n0_ := Aside0.mk (below_step (by repeat (first | (with_reducible first | exact HB.out | apply below_alloc | apply pw_below_drewN | apply below_drew1) | exact HB.out)) hb); have n1_ := Aside0.mk (below_step (by repeat (first | (with_reducible first | exact WW.out | apply below_alloc | apply pw_below_drewN | apply below_drew1) | exact WW.out)) hb); have n2_ := Aside0.mk (below_step (by repeat (first | (with_reducible first | exact Wa.out | apply below_alloc | apply pw_below_drewN | apply below_drew1) | exact Wa.out)) hb); (first | have n3_ := Aside0.mk (blk_below BKc.out hb) | have n3_ := Aside0.mk (blk_below (blk_drewN BKc.out _) hb) | have n3_ := Aside0.mk (blk_below (blk_drew BKc.out) hb) | have n3_ := Aside0.mk (blk_below (blk_alloc BKc.out _) hb) | have n3_ := Aside0.mk (blk_below (by (with_reducible repeat (first | refine blk_drewN ?_ _ | refine blk_drew ?_ | refine blk_alloc ?_ _)); exact BKc.out) hb)); clear HB WW Wa BKc; have HB := n0_; have WW := n1_; have Wa := n2_; have BKc := n3_; clear n0_ n1_ n2_ n3_ hb)
            | (go_at_call 12; with_reducible refine (cohortref14_Refuse.calls k A c q pool now span a2 _ (Kd.C_below HQ.out (by repeat (first | (with_reducible first | exact HB.out | apply below_alloc | apply pw_below_drewN | apply below_drew1) | exact HB.out))) HQC.out F3.out).mono ?_; rintro e wx ⟨v, rfl, ho, hb⟩; obtain ⟨Ax, cx, eA⟩ := Kd.R_slice ho; subst eA; have HRx := Aside0.mk (Kd.R_reads' ho).2.2; have HLx := Aside0.mk (Kd.R_reads' ho).2.1; have Wx := Aside0.mk (Below.refl wx.heap.size wx); clear ho; have n0_ := Aside0.mk (below_step (by repeat (first | (with_reducible first | exact HB.out | apply below_alloc | apply pw_below_drewN | apply below_drew1) | exact HB.out)) hb); have n1_ := Aside0.mk (below_step (by repeat (first | (with_reducible first | exact WW.out | apply below_alloc | apply pw_below_drewN | apply below_drew1) | exact WW.out)) hb); have n2_ := Aside0.mk (below_step (by repeat (first | (with_reducible first | exact Wa.out | apply below_alloc | apply pw_below_drewN | apply below_drew1) | exact Wa.out)) hb); have n3_ := Aside0.mk (below_step (by repeat (first | (with_reducible first | exact Wb.out | apply below_alloc | apply pw_below_drewN | apply below_drew1) | exact Wb.out)) hb); (first | have n4_ := Aside0.mk (blk_below BKc.out hb) | have n4_ := Aside0.mk (blk_below (blk_drewN BKc.out _) hb) | have n4_ := Aside0.mk (blk_below (blk_drew BKc.out) hb) | have n4_ := Aside0.mk (blk_below (blk_alloc BKc.out _) hb) | have n4_ := Aside0.mk (blk_below (by (with_reducible repeat (first | refine blk_drewN ?_ _ | refine blk_drew ?_ | refine blk_alloc ?_ _)); exact BKc.out) hb)); clear HB WW Wa Wb BKc; have HB := n0_; have WW := n1_; have Wa := n2_; have Wb := n3_; have BKc := n4_; clear n0_ n1_ n2_ n3_ n4_ hb)
            | (go_at_call 11; with_reducible refine (cohortref00_Quotes.calls k Aa ca a Ax cx a2 true _ (Kd.C_below HRa.out (by repeat (first | (with_reducible first | exact Wa.out | apply below_alloc | apply pw_below_drewN | apply below_drew1) | exact Wa.out))) HLa.out (Kd.C_below HRx.out (by repeat (first | (with_reducible first | exact Wx.out | apply below_alloc | apply pw_below_drewN | apply below_drew1) | exact Wx.out))) HLx.out F4.out).mono ?_; rintro e w' ⟨rfl, ⟨nd, rfl⟩⟩)
            | (go_at_call 13; with_reducible refine (cohortref14_Tell.calls A c q pool price score b2 _ (Kd.C_below HQ.out (by repeat (first | (with_reducible first | exact HB.out | apply below_alloc | apply pw_below_drewN | apply below_drew1) | exact HB.out))) HQC.out F5.out).mono ?_; rintro e wy ⟨v, rfl, ho, hb⟩; obtain ⟨Ay, cy, eA⟩ := Kd.R_slice ho; subst eA; have HRy := Aside0.mk (Kd.R_reads' ho).2.2; have HLy := Aside0.mk (Kd.R_reads' ho).2.1; have Wy := Aside0.mk (Below.refl wy.heap.size wy); clear ho; have n0_ := Aside0.mk (below_step (by repeat (first | (with_reducible first | exact HB.out | apply below_alloc | apply pw_below_drewN | apply below_drew1) | exact HB.out)) hb); have n1_ := Aside0.mk (below_step (by repeat (first | (with_reducible first | exact WW.out | apply below_alloc | apply pw_below_drewN | apply below_drew1) | exact WW.out)) hb); have n2_ := Aside0.mk (below_step (by repeat (first | (with_reducible first | exact Wa.out | apply below_alloc | apply pw_below_drewN | apply below_drew1) | exact Wa.out)) hb); have n3_ := Aside0.mk (below_step (by repeat (first | (with_reducible first | exact Wb.out | apply below_alloc | apply pw_below_drewN | apply below_drew1) | exact Wb.out)) hb); (first | have n4_ := Aside0.mk (blk_below BKc.out hb) | have n4_ := Aside0.mk (blk_below (blk_drewN BKc.out _) hb) | have n4_ := Aside0.mk (blk_below (blk_drew BKc.out) hb) | have n4_ := Aside0.mk (blk_below (blk_alloc BKc.out _) hb) | have n4_ := Aside0.mk (blk_below (by (with_reducible repeat (first | refine blk_drewN ?_ _ | refine blk_drew ?_ | refine blk_alloc ?_ _)); exact BKc.out) hb)); clear HB WW Wa Wb BKc; have HB := n0_; have WW := n1_; have Wa := n2_; have Wb := n3_; have BKc := n4_; clear n0_ n1_ n2_ n3_ n4_ hb)
            | (go_at_call 11; with_reducible refine (cohortref00_Quotes.calls k Ab cb b Ay cy b2 true _ (Kd.C_below HRb.out (by repeat (first | (with_reducible first | exact Wb.out | apply below_alloc | apply pw_below_drewN | apply below_drew1) | exact Wb.out))) HLb.out (Kd.C_below HRy.out (by repeat (first | (with_reducible first | exact Wy.out | apply below_alloc | apply pw_below_drewN | apply below_drew1) | exact Wy.out))) HLy.out F6.out).mono ?_; rintro e w' ⟨rfl, ⟨nd, rfl⟩⟩))
    have PP0 : tl.P w w1 w1.heap.size wa.heap.size wb.heap.size Aa a.length Ab b.length gc (tl.V A0 c0 A1 c1 A2 c2 x) wy := ⟨tl.blk_far KA.out (fun k _ _ hk => Wa.out.block k hk), tl.blk_far KB.out (fun k _ _ hk => Wb.out.block k hk), HB.out, WW.out, BKc.out⟩
    have PP := Aside0.mk (show tl.P w w1 w1.heap.size wa.heap.size wb.heap.size Aa a.length Ab b.length gc (tl.V A0 c0 A1 c1 A2 c2 x) (wy.drewN nd) from ⟨PP0.1, PP0.2.1, pw_below_drewN PP0.2.2.1 _, pw_below_drewN PP0.2.2.2.1 _, PP0.2.2.2.2⟩)
    clear PP0 HB WW BKc Wa Wb Wx Wy HRa HRb HRx HRy HLa HLb HLx HLy KA KB
    generalize hLa : w1.heap.size = la at PP SA S0 SC
    generalize hLb : wa.heap.size = lb at PP SA
    generalize hLc : wb.heap.size = lc at PP
    go_loopw [20] (fun v20 w' => ∃ i : Nat, i ≤ a.length ∧ v20 = .int .i64 i ∧ Aside0 (tl.P w w1 la lb lc Aa a.length Ab b.length gc (tl.V A0 c0 A1 c1 A2 c2 x) w')) (fun v20 _ => a.length - (intOf v20).toNat)
    case atStart => exact ⟨0, Nat.zero_le _, rfl, PP⟩
    case round =>
      clear PP
      obtain ⟨i, hi, rfl, PP⟩ := hrel
      by_cases hlt : i < a.length
      · obtain ⟨g, cur, hAg, hg1, hg2, hh, hsz⟩ : ∃ (g : Nat) (cur : Array Value), Aa = some ⟨g, 0, none⟩ ∧ la ≤ g ∧ g < lb ∧ wr.heap[g]? = some (.cells cur 31 (0, 0)) ∧ a.length * 3 ≤ cur.size := by
          rcases PP.out.1 with h | h
          · exact absurd h (Nat.ne_of_gt (Nat.lt_of_le_of_lt (Nat.zero_le _) hlt))
          · exact h
        subst hAg
        have i1 : (0 : Int) ≤ (i : Int) := Int.natCast_nonneg i
        have i2 : (i : Int) < (a.length : Int) := Int.ofNat_lt.2 hlt
        have I3 := Aside0.mk (tl.wii i _ hlt HNA.out)
        have IX := tl.ix hlt hsz
        obtain ⟨u0, x0⟩ := tl.cell hh (i * 3) IX.1
        obtain ⟨u1, x1⟩ := tl.cell hh (i * 3 + 1) IX.2.1
        obtain ⟨u2, x2⟩ := tl.cell hh (i * 3 + 2) IX.2.2
        have z0 := blk_frozen hh (i * 3)
        have z1 := blk_frozen hh (i * 3 + 1)
        have z2 := blk_frozen hh (i * 3 + 2)
        have G1 := Aside0.mk hg1
        have G2 := Aside0.mk hg2
        have PQ := Aside0.mk (fun (j0 j1 j2 : Nat) (y0 y1 y2 : Value) => tl.put1 (j := j2) (v := y2) (tl.put1 (j := j1) (v := y1) (tl.put1 (j := j0) (v := y0) PP.out hg1 hg2 hLa S0.out SC.out) hg1 hg2 hLa S0.out SC.out) hg1 hg2 hLa S0.out SC.out)
        clear hh hsz hg1 hg2 IX
        go_wp2
        exact ⟨⟨i + 1, hlt, by first | rfl | (rw [Int.natCast_add]; rfl) | rw [I3.out], Aside0.mk (PQ.out _ _ _ _ _ _)⟩, tl.mes hlt HNA.out⟩
      · have hin : i = a.length := Nat.le_antisymm hi (Nat.le_of_not_lt hlt)
        subst hin
        clear hlt hi
        go_wp2
        go_loopw [21] (fun v20 w' => ∃ i : Nat, i ≤ b.length ∧ v20 = .int .i64 i ∧ Aside0 (tl.P w w1 la lb lc Aa a.length Ab b.length gc (tl.V A0 c0 A1 c1 A2 c2 x) w')) (fun v20 _ => b.length - (intOf v20).toNat)
        case atStart => exact ⟨0, Nat.zero_le _, rfl, PP⟩
        case round =>
          clear PP
          obtain ⟨i, hi, rfl, PP⟩ := hrel
          by_cases hlt : i < b.length
          · obtain ⟨g, cur, hAg, hg1, hg2, hh, hsz⟩ : ∃ (g : Nat) (cur : Array Value), Ab = some ⟨g, 0, none⟩ ∧ lb ≤ g ∧ g < lc ∧ wr.heap[g]? = some (.cells cur 31 (0, 0)) ∧ b.length * 3 ≤ cur.size := by
              rcases PP.out.2.1 with h | h
              · exact absurd h (Nat.ne_of_gt (Nat.lt_of_le_of_lt (Nat.zero_le _) hlt))
              · exact h
            subst hAg
            have i1 : (0 : Int) ≤ (i : Int) := Int.natCast_nonneg i
            have i2 : (i : Int) < (b.length : Int) := Int.ofNat_lt.2 hlt
            have I3 := Aside0.mk (tl.wii i _ hlt HNB.out)
            have IX := tl.ix hlt hsz
            obtain ⟨u0, x0⟩ := tl.cell hh (i * 3) IX.1
            obtain ⟨u1, x1⟩ := tl.cell hh (i * 3 + 1) IX.2.1
            obtain ⟨u2, x2⟩ := tl.cell hh (i * 3 + 2) IX.2.2
            have z0 := blk_frozen hh (i * 3)
            have z1 := blk_frozen hh (i * 3 + 1)
            have z2 := blk_frozen hh (i * 3 + 2)
            have G1 := Aside0.mk hg1
            have G2 := Aside0.mk hg2
            have PQ := Aside0.mk (fun (j0 j1 j2 : Nat) (y0 y1 y2 : Value) => tl.put2 (j := j2) (v := y2) (tl.put2 (j := j1) (v := y1) (tl.put2 (j := j0) (v := y0) PP.out hg1 SA.out hLa S0.out SC.out) hg1 SA.out hLa S0.out SC.out) hg1 SA.out hLa S0.out SC.out)
            clear hh hsz hg1 hg2 IX
            go_wp2
            exact ⟨⟨i + 1, hlt, by first | rfl | (rw [Int.natCast_add]; rfl) | rw [I3.out], Aside0.mk (PQ.out _ _ _ _ _ _)⟩, tl.mes hlt HNB.out⟩
          · have hin : i = b.length := Nat.le_antisymm hi (Nat.le_of_not_lt hlt)
            subst hin
            clear hlt hi
            have HB := Aside0.mk PP.out.2.2.1
            have WW := Aside0.mk PP.out.2.2.2.1
            have BKc := Aside0.mk PP.out.2.2.2.2
            clear PP
            go_wp2_with (first
            | ((with_reducible refine gate_dst (N := 92) rfl ?_); refine wpList_load_row rfl 37 (.tmp 8) rfl gc rfl 37 (tl.V A0 c0 A1 c1 A2 c2 x) (0, 0) _ (by (with_reducible repeat (first | refine blk_drewN ?_ _ | refine blk_drew ?_ | refine blk_alloc ?_ _)); exact BKc.out) Try.underlying37 rfl (tl.info A0 c0 A1 c1 A2 c2 x) ?_)
            | (go_at_call 14; with_reducible refine (black_Class2.calls (tl.V A0 c0 A1 c1 A2 c2 x) (tl.info A0 c0 A1 c1 A2 c2 x) x.f3 A0 c0 x.f0 Ao co q spot now _ rfl rfl (Kd.C_below HP.out (by repeat (first | (with_reducible first | exact HB.out | apply below_alloc | apply pw_below_drewN | apply below_drew1) | exact HB.out))) HPC.out (Kd.C_below HOC.out (by repeat (first | (with_reducible first | exact WW.out | apply below_alloc | apply pw_below_drewN | apply below_drew1) | exact WW.out))) HOL.out HQL.out).mono ?_; rintro e w' ⟨rfl, hb⟩; have n0_ := Aside0.mk (below_step (by repeat (first | (with_reducible first | exact HB.out | apply below_alloc | apply pw_below_drewN | apply below_drew1) | exact HB.out)) hb); have n1_ := Aside0.mk (below_step (by repeat (first | (with_reducible first | exact WW.out | apply below_alloc | apply pw_below_drewN | apply below_drew1) | exact WW.out)) hb); (first | have n2_ := Aside0.mk (blk_below BKc.out hb) | have n2_ := Aside0.mk (blk_below (blk_drewN BKc.out _) hb) | have n2_ := Aside0.mk (blk_below (blk_drew BKc.out) hb) | have n2_ := Aside0.mk (blk_below (blk_alloc BKc.out _) hb) | have n2_ := Aside0.mk (blk_below (by (with_reducible repeat (first | refine blk_drewN ?_ _ | refine blk_drew ?_ | refine blk_alloc ?_ _)); exact BKc.out) hb)); clear HB WW BKc; have HB := n0_; have WW := n1_; have BKc := n2_; clear n0_ n1_ n2_ hb)
            | ((with_reducible refine gate_dst (N := 100) rfl ?_); refine wpList_load_row rfl 37 (.tmp 8) rfl gc rfl 37 (tl.V A0 c0 A1 c1 A2 c2 x) (0, 0) _ (by (with_reducible repeat (first | refine blk_drewN ?_ _ | refine blk_drew ?_ | refine blk_alloc ?_ _)); exact BKc.out) Try.underlying37 rfl (tl.info A0 c0 A1 c1 A2 c2 x) ?_)
            | (go_at_call 15; with_reducible refine (RCL.out _ (by repeat (first | (with_reducible first | exact HB.out | apply below_alloc | apply pw_below_drewN | apply below_drew1) | exact HB.out))).mono ?_; rintro e w' ⟨rfl, hb⟩; have n0_ := Aside0.mk (below_step (by repeat (first | (with_reducible first | exact HB.out | apply below_alloc | apply pw_below_drewN | apply below_drew1) | exact HB.out)) hb); have n1_ := Aside0.mk (below_step (by repeat (first | (with_reducible first | exact WW.out | apply below_alloc | apply pw_below_drewN | apply below_drew1) | exact WW.out)) hb); (first | have n2_ := Aside0.mk (blk_below BKc.out hb) | have n2_ := Aside0.mk (blk_below (blk_drewN BKc.out _) hb) | have n2_ := Aside0.mk (blk_below (blk_drew BKc.out) hb) | have n2_ := Aside0.mk (blk_below (blk_alloc BKc.out _) hb) | have n2_ := Aside0.mk (blk_below (by (with_reducible repeat (first | refine blk_drewN ?_ _ | refine blk_drew ?_ | refine blk_alloc ?_ _)); exact BKc.out) hb)); clear HB WW BKc; have HB := n0_; have WW := n1_; have BKc := n2_; clear n0_ n1_ n2_ hb)
            | (go_at_call 9; with_reducible refine (black_Next.calls k Ao co q now n2.1 n2.2 _ (Kd.C_below HOC.out (by repeat (first | (with_reducible first | exact WW.out | apply below_alloc | apply pw_below_drewN | apply below_drew1) | exact WW.out))) HOL.out F8.out).mono ?_; rintro e w' ⟨rfl, hb⟩; have n0_ := Aside0.mk (below_step (by repeat (first | (with_reducible first | exact HB.out | apply below_alloc | apply pw_below_drewN | apply below_drew1) | exact HB.out)) hb); have n1_ := Aside0.mk (below_step (by repeat (first | (with_reducible first | exact WW.out | apply below_alloc | apply pw_below_drewN | apply below_drew1) | exact WW.out)) hb); (first | have n2_ := Aside0.mk (blk_below BKc.out hb) | have n2_ := Aside0.mk (blk_below (blk_drewN BKc.out _) hb) | have n2_ := Aside0.mk (blk_below (blk_drew BKc.out) hb) | have n2_ := Aside0.mk (blk_below (blk_alloc BKc.out _) hb) | have n2_ := Aside0.mk (blk_below (by (with_reducible repeat (first | refine blk_drewN ?_ _ | refine blk_drew ?_ | refine blk_alloc ?_ _)); exact BKc.out) hb)); clear HB WW BKc; have HB := n0_; have WW := n1_; have BKc := n2_; clear n0_ n1_ n2_ hb)
            | (go_at_call 16; with_reducible refine (cohortref14_Next.calls k A c q now n2.1 n2.2 _ (Kd.C_below HQ.out (by repeat (first | (with_reducible first | exact HB.out | apply below_alloc | apply pw_below_drewN | apply below_drew1) | exact HB.out))) HQC.out F9.out).mono ?_; rintro e w' ⟨rfl, ⟨nd, rfl⟩⟩))
            refine start_ (n := 51) (S := fun w' => w'.heap[gc]? = some (.cells (tl.V A0 c0 A1 c1 A2 c2 x) 37 (0, 0))) (ds := []) #[false, false, false, false, false, false, false, false, false, false, false, false, false, false, false, false, false, false, false, false, false, false, false, false, false, false, false, false, false, false, false, false, false, false, false, false, false, false, false, false, false, false, false, false, false, false, false, false, false, false, false] (by kernel_rfl) rfl rfl (BKc.out) (fun hHeld => ?_)
            refine pure_ (i := 0) (N := some 119) (v := ?_) (a' := ?_) #[true, false, false, false, false, false, false, false, false, false, false, false, false, false, false, false, false, false, false, false, false, false, false, false, false, false, false, false, false, false, false, false, false, false, false, false, false, false, false, false, false, false, false, false, false, false, false, false, false, false, false] rfl rfl (by kernel_rfl) (fun _ _ _ h => h) (Or.inl ⟨by rfl, ?_⟩) ?_ ?_
            rotate_left
            · intro w'
              go_simp
              with_reducible rfl
            rotate_left
            · simp only [Act.put, List.setIfInBounds_toArray, List.set_cons_zero, List.set_cons_succ, i64_w, i32_w]
              rfl
            refine pure_ (i := 1) (N := some 120) (v := ?_) (a' := ?_) #[true, true, false, false, false, false, false, false, false, false, false, false, false, false, false, false, false, false, false, false, false, false, false, false, false, false, false, false, false, false, false, false, false, false, false, false, false, false, false, false, false, false, false, false, false, false, false, false, false, false, false] rfl rfl (by kernel_rfl) (fun _ _ _ h => h) (Or.inl ⟨by rfl, ?_⟩) ?_ ?_
            rotate_left
            · intro w'
              go_simp
              with_reducible rfl
            rotate_left
            · simp only [Act.put, List.setIfInBounds_toArray, List.set_cons_zero, List.set_cons_succ, i64_w, i32_w]
              rfl
            refine one_ (i := 2) (N := some 121) #[true, true, true, false, false, false, false, false, false, false, false, false, false, false, false, false, false, false, false, false, false, false, false, false, false, false, false, false, false, false, false, false, false, false, false, false, false, false, false, false, false, false, false, false, false, false, false, false, false, false, false] rfl rfl (by kernel_rfl) (by decide) (fun K hK => ?_)
            refine goes_ Try.func11 (by kernel_rfl) rfl #[.slice Ao q.length co, .slice A q.length c] (by rfl) rfl rfl (by simp only [List.map_toArray, List.map_cons, List.map_nil]; rfl) ?_
            with_reducible refine (cohortref00_Quotes.calls k Ao co q A c q true _ (Kd.C_below HOC.out (by repeat (first | (with_reducible first | exact WW.out | apply below_alloc | apply pw_below_drewN | apply below_drew1) | exact WW.out))) HOL.out (Kd.C_below HQ.out (by repeat (first | (with_reducible first | exact HB.out | apply below_alloc | apply pw_below_drewN | apply below_drew1) | exact HB.out))) HQC.out F10.out).mono ?_
            rintro e w3 ⟨rfl, ⟨nd, rfl⟩⟩
            refine ⟨_, rfl, ?_⟩
            refine hK.out _ _ (BKc.out) (fun hHeld => ?_)
            clear hK K
            refine norm_ (a' := ?_) ?_ ?_
            rotate_left
            · show Act.put _ (some 121) _ = _
              simp only [Act.put, List.setIfInBounds_toArray, List.set_cons_zero, List.set_cons_succ, i64_w, i32_w]
              rfl
            refine pure_ (i := 3) (N := some 122) (v := ?_) (a' := ?_) #[true, true, true, true, false, false, false, false, false, false, false, false, false, false, false, false, false, false, false, false, false, false, false, false, false, false, false, false, false, false, false, false, false, false, false, false, false, false, false, false, false, false, false, false, false, false, false, false, false, false, false] rfl rfl (by kernel_rfl) (fun _ _ _ h => h) (Or.inl ⟨by rfl, ?_⟩) ?_ ?_
            rotate_left
            · intro w'
              go_simp
              with_reducible rfl
            rotate_left
            · simp only [Act.put, List.setIfInBounds_toArray, List.set_cons_zero, List.set_cons_succ, i64_w, i32_w]
              rfl
            refine pure_ (i := 4) (N := some 123) (v := ?_) (a' := ?_) #[true, true, true, true, true, false, false, false, false, false, false, false, false, false, false, false, false, false, false, false, false, false, false, false, false, false, false, false, false, false, false, false, false, false, false, false, false, false, false, false, false, false, false, false, false, false, false, false, false, false, false] rfl rfl (by kernel_rfl) (fun _ _ _ h => h) (Or.inl ⟨by rfl, ?_⟩) ?_ ?_
            rotate_left
            · intro w'
              go_simp
              with_reducible rfl
            rotate_left
            · simp only [Act.put, List.setIfInBounds_toArray, List.set_cons_zero, List.set_cons_succ, i64_w, i32_w]
              rfl
            refine pure_ (i := 5) (N := some 124) (v := ?_) (a' := ?_) #[true, true, true, true, true, true, false, false, false, false, false, false, false, false, false, false, false, false, false, false, false, false, false, false, false, false, false, false, false, false, false, false, false, false, false, false, false, false, false, false, false, false, false, false, false, false, false, false, false, false, false] rfl rfl (by kernel_rfl) (fun _ _ _ h => h) (Or.inl ⟨by rfl, ?_⟩) ?_ ?_
            rotate_left
            · intro w'
              go_simp
              with_reducible rfl
            rotate_left
            · simp only [Act.put, List.setIfInBounds_toArray, List.set_cons_zero, List.set_cons_succ, i64_w, i32_w]
              rfl
            refine pure_ (i := 6) (N := some 125) (v := ?_) (a' := ?_) #[true, true, true, true, true, true, true, false, false, false, false, false, false, false, false, false, false, false, false, false, false, false, false, false, false, false, false, false, false, false, false, false, false, false, false, false, false, false, false, false, false, false, false, false, false, false, false, false, false, false, false] rfl rfl (by kernel_rfl) (fun _ _ _ h => h) (Or.inl ⟨by rfl, ?_⟩) ?_ ?_
            rotate_left
            · intro w'
              go_simp
              with_reducible rfl
            rotate_left
            · simp only [Act.put, List.setIfInBounds_toArray, List.set_cons_zero, List.set_cons_succ, i64_w, i32_w]
              rfl
            refine pure_ (i := 8) (N := some 127) (v := ?_) (a' := ?_) #[true, true, true, true, true, true, true, false, true, false, false, false, false, false, false, false, false, false, false, false, false, false, false, false, false, false, false, false, false, false, false, false, false, false, false, false, false, false, false, false, false, false, false, false, false, false, false, false, false, false, false] rfl rfl (by kernel_rfl) (fun _ _ _ h => h) (Or.inl ⟨by rfl, ?_⟩) ?_ ?_
            rotate_left
            · intro w'
              go_simp
              with_reducible rfl
            rotate_left
            · simp only [Act.put, List.setIfInBounds_toArray, List.set_cons_zero, List.set_cons_succ, i64_w, i32_w]
              rfl
            refine pure_ (i := 9) (N := some 128) (v := ?_) (a' := ?_) #[true, true, true, true, true, true, true, false, true, true, false, false, false, false, false, false, false, false, false, false, false, false, false, false, false, false, false, false, false, false, false, false, false, false, false, false, false, false, false, false, false, false, false, false, false, false, false, false, false, false, false] rfl rfl (by kernel_rfl) (fun _ _ _ h => h) (Or.inl ⟨by rfl, ?_⟩) ?_ ?_
            rotate_left
            · intro w'
              go_simp
              with_reducible rfl
            rotate_left
            · simp only [Act.put, List.setIfInBounds_toArray, List.set_cons_zero, List.set_cons_succ, i64_w, i32_w]
              rfl
            refine pure_ (i := 10) (N := some 129) (v := ?_) (a' := ?_) #[true, true, true, true, true, true, true, false, true, true, true, false, false, false, false, false, false, false, false, false, false, false, false, false, false, false, false, false, false, false, false, false, false, false, false, false, false, false, false, false, false, false, false, false, false, false, false, false, false, false, false] rfl rfl (by kernel_rfl) (fun _ _ _ h => h) (Or.inl ⟨by rfl, ?_⟩) ?_ ?_
            rotate_left
            · intro w'
              go_simp
              with_reducible rfl
            rotate_left
            · simp only [Act.put, List.setIfInBounds_toArray, List.set_cons_zero, List.set_cons_succ, i64_w, i32_w]
              rfl
            refine one_ (i := 7) (N := some 126) #[true, true, true, true, true, true, true, true, true, true, true, false, false, false, false, false, false, false, false, false, false, false, false, false, false, false, false, false, false, false, false, false, false, false, false, false, false, false, false, false, false, false, false, false, false, false, false, false, false, false, false] rfl rfl (by kernel_rfl) (by decide) (fun K hK => ?_)
            refine goes_ Try.func8 (by kernel_rfl) rfl #[.slice Ao q.length co, .int .i64 pool, .int .u64 now] (by rfl) rfl rfl (by simp only [List.map_toArray, List.map_cons, List.map_nil]; rfl) ?_
            with_reducible refine (black_IsOpen.calls Ao co q pool now o2 _ (Kd.C_below HOC.out (by repeat (first | (with_reducible first | exact WW.out | apply below_alloc | apply pw_below_drewN | apply below_drew1) | exact WW.out))) HOL.out F11.out).mono ?_
            rintro e w4 ⟨rfl, hb⟩
            have n0_ := Aside0.mk (below_step (by repeat (first | (with_reducible first | exact HB.out | apply below_alloc | apply pw_below_drewN | apply below_drew1) | exact HB.out)) hb); have n1_ := Aside0.mk (below_step (by repeat (first | (with_reducible first | exact WW.out | apply below_alloc | apply pw_below_drewN | apply below_drew1) | exact WW.out)) hb); (first | have n2_ := Aside0.mk (blk_below BKc.out hb) | have n2_ := Aside0.mk (blk_below (blk_drewN BKc.out _) hb) | have n2_ := Aside0.mk (blk_below (blk_drew BKc.out) hb) | have n2_ := Aside0.mk (blk_below (blk_alloc BKc.out _) hb) | have n2_ := Aside0.mk (blk_below (by (with_reducible repeat (first | refine blk_drewN ?_ _ | refine blk_drew ?_ | refine blk_alloc ?_ _)); exact BKc.out) hb)); clear HB WW BKc; have HB := n0_; have WW := n1_; have BKc := n2_; clear n0_ n1_ n2_ hb
            refine ⟨_, rfl, ?_⟩
            refine hK.out _ _ (BKc.out) (fun hHeld => ?_)
            clear hK K
            refine norm_ (a' := ?_) ?_ ?_
            rotate_left
            · show Act.put _ (some 126) _ = _
              simp only [Act.put, List.setIfInBounds_toArray, List.set_cons_zero, List.set_cons_succ, i64_w, i32_w]
              rfl
            refine one_ (i := 11) (N := some 130) #[true, true, true, true, true, true, true, true, true, true, true, true, false, false, false, false, false, false, false, false, false, false, false, false, false, false, false, false, false, false, false, false, false, false, false, false, false, false, false, false, false, false, false, false, false, false, false, false, false, false, false] rfl rfl (by kernel_rfl) (by decide) (fun K hK => ?_)
            refine goes_ Try.func17 (by kernel_rfl) rfl #[.slice A q.length c, .int .i64 pool, .int .u64 now] (by rfl) rfl rfl (by simp only [List.map_toArray, List.map_cons, List.map_nil]; rfl) ?_
            with_reducible refine (cohortref14_IsOpen.calls A c q pool now o2 _ (Kd.C_below HQ.out (by repeat (first | (with_reducible first | exact HB.out | apply below_alloc | apply pw_below_drewN | apply below_drew1) | exact HB.out))) HQC.out F12.out).mono ?_
            rintro e w5 ⟨rfl, ⟨nd, rfl⟩⟩
            refine ⟨_, rfl, ?_⟩
            refine hK.out _ _ (BKc.out) (fun hHeld => ?_)
            clear hK K
            refine norm_ (a' := ?_) ?_ ?_
            rotate_left
            · show Act.put _ (some 130) _ = _
              simp only [Act.put, List.setIfInBounds_toArray, List.set_cons_zero, List.set_cons_succ, i64_w, i32_w]
              rfl
            refine pure_ (i := 12) (N := some 131) (v := ?_) (a' := ?_) #[true, true, true, true, true, true, true, true, true, true, true, true, true, false, false, false, false, false, false, false, false, false, false, false, false, false, false, false, false, false, false, false, false, false, false, false, false, false, false, false, false, false, false, false, false, false, false, false, false, false, false] rfl rfl (by kernel_rfl) (fun _ _ _ h => h) (Or.inl ⟨by rfl, ?_⟩) ?_ ?_
            rotate_left
            · intro w'
              go_simp
              with_reducible rfl
            rotate_left
            · simp only [Act.put, List.setIfInBounds_toArray, List.set_cons_zero, List.set_cons_succ, i64_w, i32_w]
              rfl
            refine pure_ (i := 13) (N := some 132) (v := ?_) (a' := ?_) #[true, true, true, true, true, true, true, true, true, true, true, true, true, true, false, false, false, false, false, false, false, false, false, false, false, false, false, false, false, false, false, false, false, false, false, false, false, false, false, false, false, false, false, false, false, false, false, false, false, false, false] rfl rfl (by kernel_rfl) (fun _ _ _ h => h) (Or.inl ⟨by rfl, ?_⟩) ?_ ?_
            rotate_left
            · intro w'
              go_simp
              with_reducible rfl
            rotate_left
            · simp only [Act.put, List.setIfInBounds_toArray, List.set_cons_zero, List.set_cons_succ, i64_w, i32_w]
              rfl
            refine pure_ (i := 14) (N := some 133) (v := ?_) (a' := ?_) #[true, true, true, true, true, true, true, true, true, true, true, true, true, true, true, false, false, false, false, false, false, false, false, false, false, false, false, false, false, false, false, false, false, false, false, false, false, false, false, false, false, false, false, false, false, false, false, false, false, false, false] rfl rfl (by kernel_rfl) (fun _ _ _ h => h) (Or.inl ⟨by rfl, ?_⟩) ?_ ?_
            rotate_left
            · intro w'
              go_simp
              with_reducible rfl
            rotate_left
            · simp only [Act.put, List.setIfInBounds_toArray, List.set_cons_zero, List.set_cons_succ, i64_w, i32_w]
              rfl
            refine pure_ (i := 16) (N := some 135) (v := ?_) (a' := ?_) #[true, true, true, true, true, true, true, true, true, true, true, true, true, true, true, false, true, false, false, false, false, false, false, false, false, false, false, false, false, false, false, false, false, false, false, false, false, false, false, false, false, false, false, false, false, false, false, false, false, false, false] rfl rfl (by kernel_rfl) (fun _ _ _ h => h) (Or.inl ⟨by rfl, ?_⟩) ?_ ?_
            rotate_left
            · intro w'
              go_simp
              with_reducible rfl
            rotate_left
            · simp only [Act.put, List.setIfInBounds_toArray, List.set_cons_zero, List.set_cons_succ, i64_w, i32_w]
              rfl
            refine pure_ (i := 17) (N := some 136) (v := ?_) (a' := ?_) #[true, true, true, true, true, true, true, true, true, true, true, true, true, true, true, false, true, true, false, false, false, false, false, false, false, false, false, false, false, false, false, false, false, false, false, false, false, false, false, false, false, false, false, false, false, false, false, false, false, false, false] rfl rfl (by kernel_rfl) (fun _ _ _ h => h) (Or.inl ⟨by rfl, ?_⟩) ?_ ?_
            rotate_left
            · intro w'
              go_simp
              with_reducible rfl
            rotate_left
            · simp only [Act.put, List.setIfInBounds_toArray, List.set_cons_zero, List.set_cons_succ, i64_w, i32_w]
              rfl
            refine pure_ (i := 18) (N := some 137) (v := ?_) (a' := ?_) #[true, true, true, true, true, true, true, true, true, true, true, true, true, true, true, false, true, true, true, false, false, false, false, false, false, false, false, false, false, false, false, false, false, false, false, false, false, false, false, false, false, false, false, false, false, false, false, false, false, false, false] rfl rfl (by kernel_rfl) (fun _ _ _ h => h) (Or.inl ⟨by rfl, ?_⟩) ?_ ?_
            rotate_left
            · intro w'
              go_simp
              with_reducible rfl
            rotate_left
            · simp only [Act.put, List.setIfInBounds_toArray, List.set_cons_zero, List.set_cons_succ, i64_w, i32_w]
              rfl
            refine pure_ (i := 21) (N := some 140) (v := ?_) (a' := ?_) #[true, true, true, true, true, true, true, true, true, true, true, true, true, true, true, false, true, true, true, false, false, true, false, false, false, false, false, false, false, false, false, false, false, false, false, false, false, false, false, false, false, false, false, false, false, false, false, false, false, false, false] rfl rfl (by kernel_rfl) (fun _ _ _ h => h) (Or.inl ⟨by rfl, ?_⟩) ?_ ?_
            rotate_left
            · intro w'
              go_simp
              with_reducible rfl
            rotate_left
            · simp only [Act.put, List.setIfInBounds_toArray, List.set_cons_zero, List.set_cons_succ, i64_w, i32_w]
              rfl
            refine pure_ (i := 22) (N := some 141) (v := ?_) (a' := ?_) #[true, true, true, true, true, true, true, true, true, true, true, true, true, true, true, false, true, true, true, false, false, true, true, false, false, false, false, false, false, false, false, false, false, false, false, false, false, false, false, false, false, false, false, false, false, false, false, false, false, false, false] rfl rfl (by kernel_rfl) (fun _ _ _ h => h) (Or.inl ⟨by rfl, ?_⟩) ?_ ?_
            rotate_left
            · intro w'
              go_simp
              with_reducible rfl
            rotate_left
            · simp only [Act.put, List.setIfInBounds_toArray, List.set_cons_zero, List.set_cons_succ, i64_w, i32_w]
              rfl
            refine pure_ (i := 23) (N := some 142) (v := ?_) (a' := ?_) #[true, true, true, true, true, true, true, true, true, true, true, true, true, true, true, false, true, true, true, false, false, true, true, true, false, false, false, false, false, false, false, false, false, false, false, false, false, false, false, false, false, false, false, false, false, false, false, false, false, false, false] rfl rfl (by kernel_rfl) (fun _ _ _ h => h) (Or.inl ⟨by rfl, ?_⟩) ?_ ?_
            rotate_left
            · intro w'
              go_simp
              with_reducible rfl
            rotate_left
            · simp only [Act.put, List.setIfInBounds_toArray, List.set_cons_zero, List.set_cons_succ, i64_w, i32_w]
              rfl
            refine take_ (i := 15) (N := some 134) (v := ?_) (a' := ?_) #[true, true, true, true, true, true, true, true, true, true, true, true, true, true, true, true, true, true, true, false, false, true, true, true, false, false, false, false, false, false, false, false, false, false, false, false, false, false, false, false, false, false, false, false, false, false, false, false, false, false, false] rfl rfl (by kernel_rfl) (fun _ _ _ h => h) (Or.inl ⟨by rfl, ?_⟩) hHeld ?_ ?_
            rotate_left
            · intro w' s0
              refine tl.load_run gc (tl.V A0 c0 A1 c1 A2 c2 x) ?_ ?_ w' s0 (tl.info A0 c0 A1 c1 A2 c2 x)
              · rfl
              · rfl
            rotate_left
            · simp only [Act.put, List.setIfInBounds_toArray, List.set_cons_zero, List.set_cons_succ, i64_w, i32_w]
              rfl
            refine take_ (i := 20) (N := some 139) (v := ?_) (a' := ?_) #[true, true, true, true, true, true, true, true, true, true, true, true, true, true, true, true, true, true, true, false, true, true, true, true, false, false, false, false, false, false, false, false, false, false, false, false, false, false, false, false, false, false, false, false, false, false, false, false, false, false, false] rfl rfl (by kernel_rfl) (fun _ _ _ h => h) (Or.inl ⟨by rfl, ?_⟩) hHeld ?_ ?_
            rotate_left
            · intro w' s0
              refine tl.load_run gc (tl.V A0 c0 A1 c1 A2 c2 x) ?_ ?_ w' s0 (tl.info A0 c0 A1 c1 A2 c2 x)
              · rfl
              · rfl
            rotate_left
            · simp only [Act.put, List.setIfInBounds_toArray, List.set_cons_zero, List.set_cons_succ, i64_w, i32_w]
              rfl
            refine one_ (i := 19) (N := some 138) #[true, true, true, true, true, true, true, true, true, true, true, true, true, true, true, true, true, true, true, true, true, true, true, true, false, false, false, false, false, false, false, false, false, false, false, false, false, false, false, false, false, false, false, false, false, false, false, false, false, false, false] rfl rfl (by kernel_rfl) (by decide) (fun K hK => ?_)
            refine goes_ Try.func19 (by kernel_rfl) rfl #[.agg (tl.V A0 c0 A1 c1 A2 c2 x), .slice Ao q.length co, .bool spot, .int .u64 now] (by rfl) rfl rfl (by simp only [List.map_toArray, List.map_cons, List.map_nil]; rfl) ?_
            with_reducible refine (black_Opens2.calls (tl.V A0 c0 A1 c1 A2 c2 x) (tl.info A0 c0 A1 c1 A2 c2 x) A0 c0 x.f0 Ao co q spot now _ rfl (Kd.C_below HP.out (by repeat (first | (with_reducible first | exact HB.out | apply below_alloc | apply pw_below_drewN | apply below_drew1) | exact HB.out))) HPC.out (Kd.C_below HOC.out (by repeat (first | (with_reducible first | exact WW.out | apply below_alloc | apply pw_below_drewN | apply below_drew1) | exact WW.out))) HOL.out HQL.out).mono ?_
            rintro e w6 ⟨v, rfl, ho, hb⟩
            obtain ⟨A6, c6, eA⟩ := Kd.R_slice ho
            subst eA
            have H6 := Aside0.mk (Kd.R_reads' ho).2.2
            have H6L := Aside0.mk (Kd.R_reads' ho).2.1
            have W6 := Aside0.mk (Below.refl w6.heap.size w6)
            clear ho
            have n0_ := Aside0.mk (below_step (by repeat (first | (with_reducible first | exact HB.out | apply below_alloc | apply pw_below_drewN | apply below_drew1) | exact HB.out)) hb); have n1_ := Aside0.mk (below_step (by repeat (first | (with_reducible first | exact WW.out | apply below_alloc | apply pw_below_drewN | apply below_drew1) | exact WW.out)) hb); (first | have n2_ := Aside0.mk (blk_below BKc.out hb) | have n2_ := Aside0.mk (blk_below (blk_drewN BKc.out _) hb) | have n2_ := Aside0.mk (blk_below (blk_drew BKc.out) hb) | have n2_ := Aside0.mk (blk_below (blk_alloc BKc.out _) hb) | have n2_ := Aside0.mk (blk_below (by (with_reducible repeat (first | refine blk_drewN ?_ _ | refine blk_drew ?_ | refine blk_alloc ?_ _)); exact BKc.out) hb)); clear HB WW BKc; have HB := n0_; have WW := n1_; have BKc := n2_; clear n0_ n1_ n2_ hb
            refine ⟨_, rfl, ?_⟩
            refine hK.out _ _ (BKc.out) (fun hHeld => ?_)
            clear hK K
            refine norm_ (a' := ?_) ?_ ?_
            rotate_left
            · show Act.put _ (some 138) _ = _
              simp only [Act.put, List.setIfInBounds_toArray, List.set_cons_zero, List.set_cons_succ, i64_w, i32_w]
              rfl
            refine one_ (i := 24) (N := some 143) #[true, true, true, true, true, true, true, true, true, true, true, true, true, true, true, true, true, true, true, true, true, true, true, true, true, false, false, false, false, false, false, false, false, false, false, false, false, false, false, false, false, false, false, false, false, false, false, false, false, false, false] rfl rfl (by kernel_rfl) (by decide) (fun K hK => ?_)
            refine goes_ Try.func20 (by kernel_rfl) rfl #[.agg (tl.V A0 c0 A1 c1 A2 c2 x), .slice A q.length c, .bool spot, .int .u64 now] (by rfl) rfl rfl (by simp only [List.map_toArray, List.map_cons, List.map_nil]; rfl) ?_
            with_reducible refine (ROP.out _ (by repeat (first | (with_reducible first | exact HB.out | apply below_alloc | apply pw_below_drewN | apply below_drew1) | exact HB.out))).mono ?_
            rintro e w7 ⟨v, rfl, ho, hb⟩
            obtain ⟨A7, c7, eA⟩ := Kd.R_slice ho
            subst eA
            have H7 := Aside0.mk (Kd.R_reads' ho).2.2
            have H7L := Aside0.mk (Kd.R_reads' ho).2.1
            have W7 := Aside0.mk (Below.refl w7.heap.size w7)
            clear ho
            have n0_ := Aside0.mk (below_step (by repeat (first | (with_reducible first | exact HB.out | apply below_alloc | apply pw_below_drewN | apply below_drew1) | exact HB.out)) hb); have n1_ := Aside0.mk (below_step (by repeat (first | (with_reducible first | exact WW.out | apply below_alloc | apply pw_below_drewN | apply below_drew1) | exact WW.out)) hb); have n2_ := Aside0.mk (below_step (by repeat (first | (with_reducible first | exact W6.out | apply below_alloc | apply pw_below_drewN | apply below_drew1) | exact W6.out)) hb); (first | have n3_ := Aside0.mk (blk_below BKc.out hb) | have n3_ := Aside0.mk (blk_below (blk_drewN BKc.out _) hb) | have n3_ := Aside0.mk (blk_below (blk_drew BKc.out) hb) | have n3_ := Aside0.mk (blk_below (blk_alloc BKc.out _) hb) | have n3_ := Aside0.mk (blk_below (by (with_reducible repeat (first | refine blk_drewN ?_ _ | refine blk_drew ?_ | refine blk_alloc ?_ _)); exact BKc.out) hb)); clear HB WW W6 BKc; have HB := n0_; have WW := n1_; have W6 := n2_; have BKc := n3_; clear n0_ n1_ n2_ n3_ hb
            refine ⟨_, rfl, ?_⟩
            refine hK.out _ _ (BKc.out) (fun hHeld => ?_)
            clear hK K
            refine norm_ (a' := ?_) ?_ ?_
            rotate_left
            · show Act.put _ (some 143) _ = _
              simp only [Act.put, List.setIfInBounds_toArray, List.set_cons_zero, List.set_cons_succ, i64_w, i32_w]
              rfl
            refine one_ (i := 25) (N := some 144) #[true, true, true, true, true, true, true, true, true, true, true, true, true, true, true, true, true, true, true, true, true, true, true, true, true, true, false, false, false, false, false, false, false, false, false, false, false, false, false, false, false, false, false, false, false, false, false, false, false, false, false] rfl rfl (by kernel_rfl) (by decide) (fun K hK => ?_)
            refine goes_ Try.func18 (by kernel_rfl) rfl #[.slice A6 (black_places x.f0 q spot now).length c6, .slice A7 p2.length c7] (by rfl) rfl rfl (by simp only [List.map_toArray, List.map_cons, List.map_nil]; rfl) ?_
            with_reducible refine (cohortref00_Ints.calls k A6 c6 (black_places x.f0 q spot now) A7 c7 p2 true _ (Kd.C_below H6.out (by repeat (first | (with_reducible first | exact W6.out | apply below_alloc | apply pw_below_drewN | apply below_drew1) | exact W6.out))) H6L.out (Kd.C_below H7.out (by repeat (first | (with_reducible first | exact W7.out | apply below_alloc | apply pw_below_drewN | apply below_drew1) | exact W7.out))) H7L.out F14.out).mono ?_
            rintro e w8 ⟨rfl, ⟨nd, rfl⟩⟩
            refine ⟨_, rfl, ?_⟩
            refine hK.out _ _ (BKc.out) (fun hHeld => ?_)
            clear hK K
            refine norm_ (a' := ?_) ?_ ?_
            rotate_left
            · show Act.put _ (some 144) _ = _
              simp only [Act.put, List.setIfInBounds_toArray, List.set_cons_zero, List.set_cons_succ, i64_w, i32_w]
              rfl
            refine pure_ (i := 26) (N := some 145) (v := ?_) (a' := ?_) #[true, true, true, true, true, true, true, true, true, true, true, true, true, true, true, true, true, true, true, true, true, true, true, true, true, true, true, false, false, false, false, false, false, false, false, false, false, false, false, false, false, false, false, false, false, false, false, false, false, false, false] rfl rfl (by kernel_rfl) (fun _ _ _ h => h) (Or.inl ⟨by rfl, ?_⟩) ?_ ?_
            rotate_left
            · intro w'
              go_simp
              with_reducible rfl
            rotate_left
            · simp only [Act.put, List.setIfInBounds_toArray, List.set_cons_zero, List.set_cons_succ, i64_w, i32_w]
              rfl
            refine pure_ (i := 27) (N := some 146) (v := ?_) (a' := ?_) #[true, true, true, true, true, true, true, true, true, true, true, true, true, true, true, true, true, true, true, true, true, true, true, true, true, true, true, true, false, false, false, false, false, false, false, false, false, false, false, false, false, false, false, false, false, false, false, false, false, false, false] rfl rfl (by kernel_rfl) (fun _ _ _ h => h) (Or.inl ⟨by rfl, ?_⟩) ?_ ?_
            rotate_left
            · intro w'
              go_simp
              with_reducible rfl
            rotate_left
            · simp only [Act.put, List.setIfInBounds_toArray, List.set_cons_zero, List.set_cons_succ, i64_w, i32_w]
              rfl
            refine pure_ (i := 28) (N := some 147) (v := ?_) (a' := ?_) #[true, true, true, true, true, true, true, true, true, true, true, true, true, true, true, true, true, true, true, true, true, true, true, true, true, true, true, true, true, false, false, false, false, false, false, false, false, false, false, false, false, false, false, false, false, false, false, false, false, false, false] rfl rfl (by kernel_rfl) (fun _ _ _ h => h) (Or.inl ⟨by rfl, ?_⟩) ?_ ?_
            rotate_left
            · intro w'
              go_simp
              with_reducible rfl
            rotate_left
            · simp only [Act.put, List.setIfInBounds_toArray, List.set_cons_zero, List.set_cons_succ, i64_w, i32_w]
              rfl
            refine pure_ (i := 29) (N := some 148) (v := ?_) (a' := ?_) #[true, true, true, true, true, true, true, true, true, true, true, true, true, true, true, true, true, true, true, true, true, true, true, true, true, true, true, true, true, true, false, false, false, false, false, false, false, false, false, false, false, false, false, false, false, false, false, false, false, false, false] rfl rfl (by kernel_rfl) (fun _ _ _ h => h) (Or.inl ⟨by rfl, ?_⟩) ?_ ?_
            rotate_left
            · intro w'
              go_simp
              with_reducible rfl
            rotate_left
            · simp only [Act.put, List.setIfInBounds_toArray, List.set_cons_zero, List.set_cons_succ, i64_w, i32_w]
              rfl
            refine pure_ (i := 30) (N := some 149) (v := ?_) (a' := ?_) #[true, true, true, true, true, true, true, true, true, true, true, true, true, true, true, true, true, true, true, true, true, true, true, true, true, true, true, true, true, true, true, false, false, false, false, false, false, false, false, false, false, false, false, false, false, false, false, false, false, false, false] rfl rfl (by kernel_rfl) (fun _ _ _ h => h) (Or.inl ⟨by rfl, ?_⟩) ?_ ?_
            rotate_left
            · intro w'
              go_simp
              with_reducible rfl
            rotate_left
            · simp only [Act.put, List.setIfInBounds_toArray, List.set_cons_zero, List.set_cons_succ, i64_w, i32_w]
              rfl
            refine pure_ (i := 31) (N := some 150) (v := ?_) (a' := ?_) #[true, true, true, true, true, true, true, true, true, true, true, true, true, true, true, true, true, true, true, true, true, true, true, true, true, true, true, true, true, true, true, true, false, false, false, false, false, false, false, false, false, false, false, false, false, false, false, false, false, false, false] rfl rfl (by kernel_rfl) (fun _ _ _ h => h) (Or.inl ⟨by rfl, ?_⟩) ?_ ?_
            rotate_left
            · intro w'
              go_simp
              with_reducible rfl
            rotate_left
            · simp only [Act.put, List.setIfInBounds_toArray, List.set_cons_zero, List.set_cons_succ, i64_w, i32_w]
              rfl
            refine pure_ (i := 32) (N := some 151) (v := ?_) (a' := ?_) #[true, true, true, true, true, true, true, true, true, true, true, true, true, true, true, true, true, true, true, true, true, true, true, true, true, true, true, true, true, true, true, true, true, false, false, false, false, false, false, false, false, false, false, false, false, false, false, false, false, false, false] rfl rfl (by kernel_rfl) (fun _ _ _ h => h) (Or.inl ⟨by rfl, ?_⟩) ?_ ?_
            rotate_left
            · intro w'
              go_simp
              with_reducible rfl
            rotate_left
            · simp only [Act.put, List.setIfInBounds_toArray, List.set_cons_zero, List.set_cons_succ, i64_w, i32_w]
              rfl
            refine pure_ (i := 33) (N := some 152) (v := ?_) (a' := ?_) #[true, true, true, true, true, true, true, true, true, true, true, true, true, true, true, true, true, true, true, true, true, true, true, true, true, true, true, true, true, true, true, true, true, true, false, false, false, false, false, false, false, false, false, false, false, false, false, false, false, false, false] rfl rfl (by kernel_rfl) (fun _ _ _ h => h) (Or.inl ⟨by rfl, ?_⟩) ?_ ?_
            rotate_left
            · intro w'
              go_simp
              with_reducible rfl
            rotate_left
            · simp only [Act.put, List.setIfInBounds_toArray, List.set_cons_zero, List.set_cons_succ, i64_w, i32_w]
              rfl
            refine pure_ (i := 34) (N := some 153) (v := ?_) (a' := ?_) #[true, true, true, true, true, true, true, true, true, true, true, true, true, true, true, true, true, true, true, true, true, true, true, true, true, true, true, true, true, true, true, true, true, true, true, false, false, false, false, false, false, false, false, false, false, false, false, false, false, false, false] rfl rfl (by kernel_rfl) (fun _ _ _ h => h) (Or.inl ⟨by rfl, ?_⟩) ?_ ?_
            rotate_left
            · intro w'
              go_simp
              with_reducible rfl
            rotate_left
            · simp only [Act.put, List.setIfInBounds_toArray, List.set_cons_zero, List.set_cons_succ, i64_w, i32_w]
              rfl
            refine pure_ (i := 35) (N := some 154) (v := ?_) (a' := ?_) #[true, true, true, true, true, true, true, true, true, true, true, true, true, true, true, true, true, true, true, true, true, true, true, true, true, true, true, true, true, true, true, true, true, true, true, true, false, false, false, false, false, false, false, false, false, false, false, false, false, false, false] rfl rfl (by kernel_rfl) (fun _ _ _ h => h) (Or.inl ⟨by rfl, ?_⟩) ?_ ?_
            rotate_left
            · intro w'
              go_simp
              with_reducible rfl
            rotate_left
            · simp only [Act.put, List.setIfInBounds_toArray, List.set_cons_zero, List.set_cons_succ, i64_w, i32_w]
              rfl
            refine pure_ (i := 36) (N := some 155) (v := ?_) (a' := ?_) #[true, true, true, true, true, true, true, true, true, true, true, true, true, true, true, true, true, true, true, true, true, true, true, true, true, true, true, true, true, true, true, true, true, true, true, true, true, false, false, false, false, false, false, false, false, false, false, false, false, false, false] rfl rfl (by kernel_rfl) (fun _ _ _ h => h) (Or.inl ⟨by rfl, ?_⟩) ?_ ?_
            rotate_left
            · intro w'
              go_simp
              with_reducible rfl
            rotate_left
            · simp only [Act.put, List.setIfInBounds_toArray, List.set_cons_zero, List.set_cons_succ, i64_w, i32_w]
              rfl
            refine pure_ (i := 37) (N := some 156) (v := ?_) (a' := ?_) #[true, true, true, true, true, true, true, true, true, true, true, true, true, true, true, true, true, true, true, true, true, true, true, true, true, true, true, true, true, true, true, true, true, true, true, true, true, true, false, false, false, false, false, false, false, false, false, false, false, false, false] rfl rfl (by kernel_rfl) (fun _ _ _ h => h) (Or.inl ⟨by rfl, ?_⟩) ?_ ?_
            rotate_left
            · intro w'
              go_simp
              with_reducible rfl
            rotate_left
            · simp only [Act.put, List.setIfInBounds_toArray, List.set_cons_zero, List.set_cons_succ, i64_w, i32_w]
              rfl
            refine pure_ (i := 38) (N := some 157) (v := ?_) (a' := ?_) #[true, true, true, true, true, true, true, true, true, true, true, true, true, true, true, true, true, true, true, true, true, true, true, true, true, true, true, true, true, true, true, true, true, true, true, true, true, true, true, false, false, false, false, false, false, false, false, false, false, false, false] rfl rfl (by kernel_rfl) (fun _ _ _ h => h) (Or.inl ⟨by rfl, ?_⟩) ?_ ?_
            rotate_left
            · intro w'
              go_simp
              with_reducible rfl
            rotate_left
            · simp only [Act.put, List.setIfInBounds_toArray, List.set_cons_zero, List.set_cons_succ, i64_w, i32_w]
              rfl
            refine pure_ (i := 39) (N := some 158) (v := ?_) (a' := ?_) #[true, true, true, true, true, true, true, true, true, true, true, true, true, true, true, true, true, true, true, true, true, true, true, true, true, true, true, true, true, true, true, true, true, true, true, true, true, true, true, true, false, false, false, false, false, false, false, false, false, false, false] rfl rfl (by kernel_rfl) (fun _ _ _ h => h) (Or.inl ⟨by rfl, ?_⟩) ?_ ?_
            rotate_left
            · intro w'
              go_simp
              with_reducible rfl
            rotate_left
            · simp only [Act.put, List.setIfInBounds_toArray, List.set_cons_zero, List.set_cons_succ, i64_w, i32_w]
              rfl
            refine pure_ (i := 40) (N := some 159) (v := ?_) (a' := ?_) #[true, true, true, true, true, true, true, true, true, true, true, true, true, true, true, true, true, true, true, true, true, true, true, true, true, true, true, true, true, true, true, true, true, true, true, true, true, true, true, true, true, false, false, false, false, false, false, false, false, false, false] rfl rfl (by kernel_rfl) (fun _ _ _ h => h) (Or.inl ⟨by rfl, ?_⟩) ?_ ?_
            rotate_left
            · intro w'
              go_simp
              with_reducible rfl
            rotate_left
            · simp only [Act.put, List.setIfInBounds_toArray, List.set_cons_zero, List.set_cons_succ, i64_w, i32_w]
              rfl
            refine pure_ (i := 41) (N := some 160) (v := ?_) (a' := ?_) #[true, true, true, true, true, true, true, true, true, true, true, true, true, true, true, true, true, true, true, true, true, true, true, true, true, true, true, true, true, true, true, true, true, true, true, true, true, true, true, true, true, true, false, false, false, false, false, false, false, false, false] rfl rfl (by kernel_rfl) (fun _ _ _ h => h) (Or.inl ⟨by rfl, ?_⟩) ?_ ?_
            rotate_left
            · intro w'
              go_simp
              with_reducible rfl
            rotate_left
            · simp only [Act.put, List.setIfInBounds_toArray, List.set_cons_zero, List.set_cons_succ, i64_w, i32_w]
              rfl
            refine pure_ (i := 42) (N := some 161) (v := ?_) (a' := ?_) #[true, true, true, true, true, true, true, true, true, true, true, true, true, true, true, true, true, true, true, true, true, true, true, true, true, true, true, true, true, true, true, true, true, true, true, true, true, true, true, true, true, true, true, false, false, false, false, false, false, false, false] rfl rfl (by kernel_rfl) (fun _ _ _ h => h) (Or.inl ⟨by rfl, ?_⟩) ?_ ?_
            rotate_left
            · intro w'
              go_simp
              with_reducible rfl
            rotate_left
            · simp only [Act.put, List.setIfInBounds_toArray, List.set_cons_zero, List.set_cons_succ, i64_w, i32_w]
              rfl
            refine pure_ (i := 43) (N := some 162) (v := ?_) (a' := ?_) #[true, true, true, true, true, true, true, true, true, true, true, true, true, true, true, true, true, true, true, true, true, true, true, true, true, true, true, true, true, true, true, true, true, true, true, true, true, true, true, true, true, true, true, true, false, false, false, false, false, false, false] rfl rfl (by kernel_rfl) (fun _ _ _ h => h) (Or.inl ⟨by rfl, ?_⟩) ?_ ?_
            rotate_left
            · intro w'
              go_simp
              with_reducible rfl
            rotate_left
            · simp only [Act.put, List.setIfInBounds_toArray, List.set_cons_zero, List.set_cons_succ, i64_w, i32_w]
              rfl
            refine pure_ (i := 44) (N := some 163) (v := ?_) (a' := ?_) #[true, true, true, true, true, true, true, true, true, true, true, true, true, true, true, true, true, true, true, true, true, true, true, true, true, true, true, true, true, true, true, true, true, true, true, true, true, true, true, true, true, true, true, true, true, false, false, false, false, false, false] rfl rfl (by kernel_rfl) (fun _ _ _ h => h) (Or.inl ⟨by rfl, ?_⟩) ?_ ?_
            rotate_left
            · intro w'
              go_simp
              with_reducible rfl
            rotate_left
            · simp only [Act.put, List.setIfInBounds_toArray, List.set_cons_zero, List.set_cons_succ, i64_w, i32_w]
              rfl
            refine pure_ (i := 45) (N := some 164) (v := ?_) (a' := ?_) #[true, true, true, true, true, true, true, true, true, true, true, true, true, true, true, true, true, true, true, true, true, true, true, true, true, true, true, true, true, true, true, true, true, true, true, true, true, true, true, true, true, true, true, true, true, true, false, false, false, false, false] rfl rfl (by kernel_rfl) (fun _ _ _ h => h) (Or.inl ⟨by rfl, ?_⟩) ?_ ?_
            rotate_left
            · intro w'
              go_simp
              with_reducible rfl
            rotate_left
            · simp only [Act.put, List.setIfInBounds_toArray, List.set_cons_zero, List.set_cons_succ, i64_w, i32_w]
              rfl
            refine pure_ (i := 46) (N := some 165) (v := ?_) (a' := ?_) #[true, true, true, true, true, true, true, true, true, true, true, true, true, true, true, true, true, true, true, true, true, true, true, true, true, true, true, true, true, true, true, true, true, true, true, true, true, true, true, true, true, true, true, true, true, true, true, false, false, false, false] rfl rfl (by kernel_rfl) (fun _ _ _ h => h) (Or.inl ⟨by rfl, ?_⟩) ?_ ?_
            rotate_left
            · intro w'
              go_simp
              with_reducible rfl
            rotate_left
            · simp only [Act.put, List.setIfInBounds_toArray, List.set_cons_zero, List.set_cons_succ, i64_w, i32_w]
              rfl
            refine pure_ (i := 47) (N := some 166) (v := ?_) (a' := ?_) #[true, true, true, true, true, true, true, true, true, true, true, true, true, true, true, true, true, true, true, true, true, true, true, true, true, true, true, true, true, true, true, true, true, true, true, true, true, true, true, true, true, true, true, true, true, true, true, true, false, false, false] rfl rfl (by kernel_rfl) (fun _ _ _ h => h) (Or.inl ⟨by rfl, ?_⟩) ?_ ?_
            rotate_left
            · intro w'
              go_simp
              with_reducible rfl
            rotate_left
            · simp only [Act.put, List.setIfInBounds_toArray, List.set_cons_zero, List.set_cons_succ, i64_w, i32_w]
              rfl
            refine one_ (i := 48) (N := some 167) #[true, true, true, true, true, true, true, true, true, true, true, true, true, true, true, true, true, true, true, true, true, true, true, true, true, true, true, true, true, true, true, true, true, true, true, true, true, true, true, true, true, true, true, true, true, true, true, true, true, false, false] rfl rfl (by kernel_rfl) (by decide) (fun K hK => ?_)
            refine goes_ Try.func6 (by kernel_rfl) rfl #[] (by rfl) rfl rfl (by simp only [List.map_toArray, List.map_nil]) ?_
            with_reducible refine (cohortlaw14_lives.calls true _ rfl).mono ?_
            rintro e w9 ⟨rfl, hb⟩
            have n0_ := Aside0.mk (below_step (by repeat (first | (with_reducible first | exact HB.out | apply below_alloc | apply pw_below_drewN | apply below_drew1) | exact HB.out)) hb); (first | have n1_ := Aside0.mk (blk_below BKc.out hb) | have n1_ := Aside0.mk (blk_below (blk_drewN BKc.out _) hb) | have n1_ := Aside0.mk (blk_below (blk_drew BKc.out) hb) | have n1_ := Aside0.mk (blk_below (blk_alloc BKc.out _) hb) | have n1_ := Aside0.mk (blk_below (by (with_reducible repeat (first | refine blk_drewN ?_ _ | refine blk_drew ?_ | refine blk_alloc ?_ _)); exact BKc.out) hb)); clear HB BKc; have HB := n0_; have BKc := n1_; clear n0_ n1_ hb
            refine ⟨_, rfl, ?_⟩
            refine hK.out _ _ (BKc.out) (fun hHeld => ?_)
            clear hK K
            refine norm_ (a' := ?_) ?_ ?_
            rotate_left
            · show Act.put _ (some 167) _ = _
              simp only [Act.put, List.setIfInBounds_toArray, List.set_cons_zero, List.set_cons_succ, i64_w, i32_w]
              rfl
            refine pure_ (i := 49) (N := some 168) (v := ?_) (a' := ?_) #[true, true, true, true, true, true, true, true, true, true, true, true, true, true, true, true, true, true, true, true, true, true, true, true, true, true, true, true, true, true, true, true, true, true, true, true, true, true, true, true, true, true, true, true, true, true, true, true, true, true, false] rfl rfl (by kernel_rfl) (fun _ _ _ h => h) (Or.inl ⟨by rfl, ?_⟩) ?_ ?_
            rotate_left
            · intro w'
              go_simp
              with_reducible rfl
            rotate_left
            · simp only [Act.put, List.setIfInBounds_toArray, List.set_cons_zero, List.set_cons_succ, i64_w, i32_w]
              rfl
            refine pure_ (i := 50) (N := some 16) (v := ?_) (a' := ?_) #[true, true, true, true, true, true, true, true, true, true, true, true, true, true, true, true, true, true, true, true, true, true, true, true, true, true, true, true, true, true, true, true, true, true, true, true, true, true, true, true, true, true, true, true, true, true, true, true, true, true, true] rfl rfl (by kernel_rfl) (fun _ _ _ h => h) (Or.inl ⟨by rfl, ?_⟩) ?_ ?_
            rotate_left
            · intro w'
              go_simp
              with_reducible rfl
            rotate_left
            · simp only [Act.put, List.setIfInBounds_toArray, List.set_cons_zero, List.set_cons_succ, i64_w, i32_w]
              rfl
            refine done_ (by kernel_rfl) ?_

            clear hHeld
            go_wp2
            go_ret
            exact ⟨rfl, by repeat (first | (with_reducible first | exact HB.out | apply below_alloc | apply pw_below_drewN | apply below_drew1) | exact HB.out)⟩

def cohortlaw14_BlackTells.f (k : Nat) (l0_0 : List (S56)) (a0_1 : Int) (a0_2 : Int) (a0_3 : Bool) (a0_4 : Int) (a0_5 : Int) (a0_6 : Int) (a0_7 : Int) (a0_8 : Int) (a0_9 : Int) (a0_10 : Int) (a0_11 : Int) (a0_12 : Int) (a0_13 : Int) (a0_14 : Int) (a0_15 : Int) (a0_16 : Bool) (a0_17 : Int) (l0_18 : List (S75)) (l0_19 : List (S77)) (l1 : List S31) (a2 a3 a4 a5 a6 : Int) (a7 : Bool) : Option Bool := tl.f k ⟨l0_0, a0_1, a0_2, a0_3, a0_4, a0_5, a0_6, a0_7, a0_8, a0_9, a0_10, a0_11, a0_12, a0_13, a0_14, a0_15, a0_16, a0_17, l0_18, l0_19⟩ l1 a2 a3 a4 a5 a6 a7
theorem cohortlaw14_BlackTells.calls (k : Nat) (A0_0 : Option Addr) (c0_0 : Nat) (l0_0 : List (S56)) (a0_1 : Int) (a0_2 : Int) (a0_3 : Bool) (a0_4 : Int) (a0_5 : Int) (a0_6 : Int) (a0_7 : Int) (a0_8 : Int) (a0_9 : Int) (a0_10 : Int) (a0_11 : Int) (a0_12 : Int) (a0_13 : Int) (a0_14 : Int) (a0_15 : Int) (a0_16 : Bool) (a0_17 : Int) (A0_18 : Option Addr) (c0_18 : Nat) (l0_18 : List (S75)) (A0_19 : Option Addr) (c0_19 : Nat) (l0_19 : List (S77)) (A1 : Option Addr) (c1 : Nat) (l1 : List S31) (a2 a3 a4 a5 a6 : Int) (a7 : Bool) (r : Bool) (w : World) (hr0_0 : Kd.C k56 w A0_0 l0_0.length l0_0) (hc0_0 : l0_0.length ≤ c0_0) (hr0_18 : Kd.C k75 w A0_18 l0_18.length l0_18) (hc0_18 : l0_18.length ≤ c0_18) (hr0_19 : Kd.C k77 w A0_19 l0_19.length l0_19) (hc0_19 : l0_19.length ≤ c0_19) (hr1 : Kd.C k31 w A1 l1.length l1) (hc1 : l1.length ≤ c1) (h : cohortlaw14_BlackTells.f k l0_0 a0_1 a0_2 a0_3 a0_4 a0_5 a0_6 a0_7 a0_8 a0_9 a0_10 a0_11 a0_12 a0_13 a0_14 a0_15 a0_16 a0_17 l0_18 l0_19 l1 a2 a3 a4 a5 a6 a7 = some r) :
    Calls Try.prog 5 #[.agg #[.slice A0_0 l0_0.length c0_0, .int .u8 a0_1, .int .i64 a0_2, .bool a0_3, .int .i64 a0_4, .int .i64 a0_5, .int .i64 a0_6, .int .i64 a0_7, .int .i64 a0_8, .int .i64 a0_9, .int .u64 a0_10, .int .u64 a0_11, .int .u64 a0_12, .int .u64 a0_13, .int .u64 a0_14, .int .u64 a0_15, .bool a0_16, .int .i64 a0_17, .slice A0_18 l0_18.length c0_18, .slice A0_19 l0_19.length c0_19], .slice A1 l1.length c1, .int .i64 a2, .int .u64 a3, .int .u64 a4, .int .i64 a5, .int .i64 a6, .bool a7] w fun e w' => e = .returned (.bool r) ∧ Below w.heap.size w w' :=
  tl.calls k A0_0 c0_0 A0_18 c0_18 A0_19 c0_19 ⟨l0_0, a0_1, a0_2, a0_3, a0_4, a0_5, a0_6, a0_7, a0_8, a0_9, a0_10, a0_11, a0_12, a0_13, a0_14, a0_15, a0_16, a0_17, l0_18, l0_19⟩ A1 c1 l1 a2 a3 a4 a5 a6 a7 r w hr0_0 hc0_0 hr0_18 hc0_18 hr0_19 hc0_19 hr1 hc1 h

/-- THE ONE PURE STATEMENT of cohortlaw14_BlackTells: to be proved. -/
def cohortlaw14_BlackTells.Pure : Prop := ∀ (x0 : S37) (l1 : List (S31)) (a2 : Int) (a3 : Int) (a4 : Int) (a5 : Int) (a6 : Int) (a7 : Bool), ok37 x0 → (l1.length ≤ maxLen ∧ ∀ y ∈ l1, ok31 y) → (Lit.int .i64 a2).wf = true → (Lit.int .u64 a3).wf = true → (Lit.int .u64 a4).wf = true → (Lit.int .i64 a5).wf = true → (Lit.int .i64 a6).wf = true → ∃ k, cohortlaw14_BlackTells.f k x0.f0 x0.f1 x0.f2 x0.f3 x0.f4 x0.f5 x0.f6 x0.f7 x0.f8 x0.f9 x0.f10 x0.f11 x0.f12 x0.f13 x0.f14 x0.f15 x0.f16 x0.f17 x0.f18 x0.f19 l1 a2 a3 a4 a5 a6 a7 = some true

end Go.Proofs.Ytpkobboljdaaeaa.GA
