import Derived.WalkKit
import Derived.Lib.Hide
import Derived.Deep.Draws
import Derived.Deep.LoopGhost
import Derived.Deep.QuietTactic
import Derived.BigQuiet
import Derived.Deep.RegionHeld3
import Derived.Test.YtdkoioiiacljeaaWWords
import Derived.Test.YtdkoioiiacljeaaWLast
import Derived.Test.YtdkoioiiacljeaaWMore
import Derived.Test.YtdkoioiiacljeaaProg
import Derived.RangeFuncNested
import Derived.RangeFuncBound
import Derived.RangeFuncCalls
import Derived.RangeFuncLeaves
import Derived.Shelf.Abstract
import Derived.Shelf.RegionOpen
import Derived.OwnWalkIn
import Derived.TacticsInMore
import Derived.LoopNIn
import Derived.LoopIn
import Derived.Maps.AppendAt
import Derived.Shelf.SlGeneric
/- Words for the walks of the program's own functions: what is asked of a function value, and small facts on worlds. -/
namespace Go.Proofs.Ytdkoioiiacljeaa.Im
set_option linter.unusedVariables false
set_option linter.unusedSimpArgs false
open Go.RowKit Go.Proofs.YtdkoioiiacljeaaW.PrintWords Go.Proofs.YtdkoioiiacljeaaW.PrintLast Go.Proofs.YtdkoioiiacljeaaW.PrintMore

/-- A function value that says p of whole numbers, in each world that has come of w by growth alone. -/
def FnB (P : Program) (fv : Value) (dom : Int → Prop) (p : Int → Bool) (w : World) : Prop :=
  ∃ g fs lb, fv = .func (.func g) fs lb ∧ (∀ args w, (callFunc g args).run P w = .ok (.enter g args) w) ∧
    ∀ W x, Below w.heap.size w W → dom x → Calls P g (fs ++ #[.int .i64 x] ++ lb) W fun e w' => e = .returned (.bool (p x)) ∧ Below W.heap.size W w'

theorem FnB.later {P : Program} {fv : Value} {dom : Int → Prop} {p : Int → Bool} {w w1 : World} (h : FnB P fv dom p w) (hb : Below w.heap.size w w1) : FnB P fv dom p w1 := by
  obtain ⟨g, fs, lb, he, hg, hc⟩ := h
  exact ⟨g, fs, lb, he, hg, fun W x hW hx => hc W x (hb.trans (hW.mono hb.size)) hx⟩

/-- A function value without arguments. -/
def FnU (P : Program) (fv : Value) (b : Bool) (w : World) : Prop :=
  ∃ g fs lb, fv = .func (.func g) fs lb ∧ (∀ args w, (callFunc g args).run P w = .ok (.enter g args) w) ∧
    ∀ W, Below w.heap.size w W → Calls P g (fs ++ #[] ++ lb) W fun e w' => e = .returned (.bool b) ∧ Below W.heap.size W w'

theorem FnU.later {P : Program} {fv : Value} {b : Bool} {w w1 : World} (h : FnU P fv b w) (hb : Below w.heap.size w w1) : FnU P fv b w1 := by
  obtain ⟨g, fs, lb, he, hg, hc⟩ := h
  exact ⟨g, fs, lb, he, hg, fun W hW => hc W (hb.trans (hW.mono hb.size))⟩

/-- A slice of int64 that is read. -/
abbrev RC (w : World) (A : Option Addr) (n : Nat) (xs : List Int) : Prop := Kd.C (Kd.int .i64) w A n xs
/-- A slice of int64 of the call's own. -/
abbrev RO (w : World) (base : Nat) (v : Value) (xs : List Int) : Prop := Kd.R (Kd.int .i64) 2 w base (fun _ => True) v xs

section
variable {P : Program} {ops : Array Oper} {rest : List Oper} {o : Oper} {a : Act} {Q : Exit → Act → World → Prop}
/-- append(v, y) to a row of the call's own; behind 'at_builtin'. -/
theorem ap64 {w0 W : World} (base : Nat) (hgd : o.guard = none) (s x : Operand) (t : TypeId)
    (ho : o.op = .call { callee := .builtin .append, args := #[s, x], argTypes := #[t, t] }) (ht : P.underlying t = some (.slice 2))
    (hinfo : (P.info? 2).map (fun i => (i.zero, i.size, i.bytes)) = some (some (.int .i64 0), 1, 8)) (v : Value) (xs : List Int) (y : Int)
    (hs : a.eval s = v) (hx : a.eval x = .slice (some ⟨W.heap.size, 0, none⟩) 1 1) (HO : RO W base v xs) (HB : Below base w0 W) (hbase : base ≤ W.heap.size) (hl : xs.length ≤ 17592186044415)
    (h : ∀ v1 w1, RO w1 base v1 (xs ++ [y]) → Below base w0 w1 → W.grownBy w1 v.ownBlock → (v1.ownBlock = v.ownBlock ∨ ∃ b, v1.ownBlock = some b ∧ W.heap.size ≤ b) → wpList P ops Q rest (a.put o.dst v1) w1) :
    wpList P ops Q (o :: rest) a (W.alloc (.cells #[.int .i64 y] 2)) :=
  Kd.R_append (Kd.int .i64) base hgd s x t 2 (.int .i64 0) 8 ho ht hinfo rfl (by decide) (by decide) v xs y [.int .i64 y] (fun _ => True) (fun _ => False) hs hx rfl (fun _ hk => hk.elim) (fun _ _ => trivial) HO HB hbase (by omega) h
end

theorem below_sz {B : Nat} {w w' : World} (h : Below B w w') : w.heap.size ≤ w'.heap.size := h.size
theorem below_in {w w1 w2 : World} (h : Below w.heap.size w w1) (k : Below w1.heap.size w1 w2) : Below w.heap.size w w2 := h.trans (k.mono h.size)

end Go.Proofs.Ytdkoioiiacljeaa.Im

/- The program's small functions: what each computes. -/
namespace Go.Proofs.Ytdkoioiiacljeaa.Im
set_option linter.unusedVariables false
set_option linter.unusedSimpArgs false
open Go.RowKit Go.Proofs.YtdkoioiiacljeaaW.PrintWords Go.Proofs.YtdkoioiiacljeaaW.PrintLast Go.Proofs.YtdkoioiiacljeaaW.PrintMore

def withinB (n lo hi : Int) : Bool := decide (lo ≤ n) && decide (n ≤ hi)

theorem within_c (n lo hi : Int) (w : World) : Calls Try.prog 73 #[.int .i64 n, .int .i64 lo, .int .i64 hi] w fun e w' => e = .returned (.bool (withinB n lo hi)) ∧ w = w' := by
  unfold withinB
  by_cases h : lo ≤ n
  · have h1 : decide (lo ≤ n) = true := decide_eq_true h
    go_enter Try.func73, Try.ntmps73
    go_wp2
    go_ret
    simp [h1]
  · have h1 : decide (lo ≤ n) = false := decide_eq_false h
    go_enter Try.func73, Try.ntmps73
    go_wp2
    go_ret
    simp [h1]

theorem isSize_c (n : Int) (w : World) : Calls Try.prog 119 #[.int .i64 n] w fun e w' => e = .returned (.bool (withinB n 1 6)) ∧ w = w' := by
  go_enter Try.func119, Try.ntmps119
  go_wp2_with (go_at_call 73; refine (within_c _ _ _ _).mono ?_; rintro e w' ⟨rfl, rfl⟩)
  go_ret
  exact ⟨rfl, rfl⟩

theorem isIn_c (f g : Int) (w : World) : Calls Try.prog 95 #[.int .i64 f, .int .i64 g] w fun e w' => e = .returned (.bool (Go.bits .andNot .i64 f g == 0)) ∧ w = w' := by
  go_enter Try.func95, Try.ntmps95
  go_wp2
  go_ret
  exact ⟨rfl, rfl⟩

theorem always_c (w : World) : Calls Try.prog 55 #[] w fun e w' => e = .returned (.bool true) ∧ w = w' := by
  go_enter Try.func55, Try.ntmps55
  go_wp2
  go_ret
  exact ⟨rfl, rfl⟩

theorem less_c (a b : Int) (w : World) : Calls Try.prog 121 #[.int .i64 a, .int .i64 b] w fun e w' => e = .returned (.bool (decide (a < b))) ∧ w = w' := by
  go_enter Try.func121, Try.ntmps121
  go_wp2
  go_ret
  exact ⟨rfl, rfl⟩

/-- The set of all n vertices. -/
def fullZ (n : Int) : Int := 2 ^ n.toNat - 1

theorem full_c (n : Int) (s : Value) (w : World) (h1 : 1 ≤ n) (h6 : n ≤ 6) : Calls Try.prog 58 #[.agg #[.int .i64 n, s]] w fun e w' => e = .returned (.int .i64 (fullZ n)) ∧ Below w.heap.size w w' := by
  have hb := (Below.refl w.heap.size w).alloc (Nat.le_refl _) (.cells #[.int .i64 n, s] 26)
  obtain rfl | rfl | rfl | rfl | rfl | rfl : n = 1 ∨ n = 2 ∨ n = 3 ∨ n = 4 ∨ n = 5 ∨ n = 6 := by omega
  all_goals
    go_enter Try.func58, Try.ntmps58
    go_wp2
    go_ret
    exact ⟨rfl, hb⟩

end Go.Proofs.Ytdkoioiiacljeaa.Im

/- The program's functions on lists of vertices. -/
namespace Go.Proofs.Ytdkoioiiacljeaa.Im
set_option linter.unusedVariables false
set_option linter.unusedSimpArgs false
open Go.RowKit Go.Proofs.YtdkoioiiacljeaaW.PrintWords Go.Proofs.YtdkoioiiacljeaaW.PrintLast Go.Proofs.YtdkoioiiacljeaaW.PrintMore

theorem info64 : (Try.prog.info? 2).map (fun i => (i.zero, i.size, i.bytes)) = some (some (.int .i64 0), 1, 8) := by kernel_rfl

/-- Is v a vertex of f? -/
def bitB (f : Int) (v : Nat) : Bool := Go.bits .and .i64 (f / 2 ^ v) 1 == 1
def vertsUpto (f : Int) (k : Nat) : List Int := ((List.range k).filter (bitB f)).map (fun v : Nat => (v : Int))
def verts (f : Int) : List Int := vertsUpto f 6
theorem vertsUpto_len (f : Int) (k : Nat) : (vertsUpto f k).length ≤ k := by
  unfold vertsUpto
  rw [List.length_map]
  exact Nat.le_trans (List.length_filter_le _ _) (by simp)
theorem vertsUpto_yes {f : Int} {k : Nat} (h : bitB f k = true) : vertsUpto f (k + 1) = vertsUpto f k ++ [(k : Int)] := by
  simp [vertsUpto, List.range_succ, h]
theorem vertsUpto_no {f : Int} {k : Nat} (h : bitB f k = false) : vertsUpto f (k + 1) = vertsUpto f k := by
  simp [vertsUpto, List.range_succ, h]

set_option maxRecDepth 100000 in
set_option maxHeartbeats 2000000 in
theorem vertices_c (f : Int) (w : World) : Calls Try.prog 127 #[.int .i64 f] w fun e w' => ∃ v, e = .returned v ∧ RO w' w.heap.size v (verts f) ∧ Below w.heap.size w w' := by
  go_enter Try.func127, Try.ntmps127
  go_wp2
  go_loopw [3, 4, 5] (fun v _ i wr => ∃ k : Nat, k ≤ 6 ∧ i = .int .i64 k ∧ Aside0 (RO wr w.heap.size v (vertsUpto f k)) ∧ Aside0 (Below w.heap.size w wr)) (fun _ _ i _ => 6 - (intOf i).toNat)
  case atStart => exact ⟨0, by omega, rfl, ⟨Kd.R_nil _ _ _ _ _⟩, ⟨Below.refl _ _⟩⟩
  case round =>
    obtain ⟨k, hk, rfl, hR, hB⟩ := hrel
    by_cases hlt : k < 6
    · all_goals
        go_wp2_with (at_builtin; refine ap64 w.heap.size rfl (.tmp 13) (.tmp 15) 22 rfl Try.underlying22 info64 _ _ _ rfl rfl hR.out hB.out hB.out.size ?hl ?_; (case hl => exact Nat.le_trans (vertsUpto_len f _) (by omega)); intro v1 w1 ho hb hg hat; clear hg hat; have hR1 := Aside0.mk ho; have hB1 := Aside0.mk hb; clear ho hb)
        · go_roundw
          case rel => exact ⟨k + 1, by omega, by go_num, ⟨by rw [vertsUpto_yes (by unfold bitB; assumption)]; exact hR1.out⟩, hB1⟩
          case measure => simp [intOf]; omega
        · go_roundw
          case rel => exact ⟨k + 1, by omega, by go_num, ⟨by rw [vertsUpto_no (by unfold bitB; assumption)]; exact hR.out⟩, hB⟩
          case measure => simp [intOf]; omega
    · obtain rfl : k = 6 := by omega
      go_wp2
      go_ret
      exact ⟨_, rfl, hR.out, hB.out⟩

end Go.Proofs.Ytdkoioiiacljeaa.Im

/- slices.Backward, and the program's borders: a range over a function. -/
namespace Go.Proofs.Ytdkoioiiacljeaa.Im
set_option linter.unusedVariables false
set_option linter.unusedSimpArgs false
open Go.RowKit Go.Shelf Go.Proofs.YtdkoioiiacljeaaW.PrintWords Go.Proofs.YtdkoioiiacljeaaW.PrintLast Go.Proofs.YtdkoioiiacljeaaW.PrintMore

attribute [local go_sem] Oper.semAt_some

/-- What has come when k rounds are over. -/
def upto {α : Type} (f : Nat → α) (k : Nat) : List α := (List.range k).map f
theorem upto_succ {α : Type} (f : Nat → α) (k : Nat) : upto f (k + 1) = upto f k ++ [f k] := by simp [upto, List.range_succ]
theorem upto_length {α : Type} (f : Nat → α) (k : Nat) : (upto f k).length = k := by simp [upto]

/-- The blocks from n₁ to n₂ lie as they lay. -/
def Rng (n₁ n₂ : Nat) (W W' : World) : Prop := ∀ k, n₁ ≤ k → k < n₂ → W'.heap[k]? = W.heap[k]?
theorem Rng.refl (n₁ n₂ : Nat) (W : World) : Rng n₁ n₂ W W := fun _ _ _ => rfl
theorem Rng.trans {n₁ n₂ : Nat} {A B C : World} (h : Rng n₁ n₂ A B) (k : Rng n₁ n₂ B C) : Rng n₁ n₂ A C := fun i h1 h2 => (k i h1 h2).trans (h i h1 h2)
theorem Rng.cell {n₁ n₂ : Nat} {A B : World} (h : Rng n₁ n₂ A B) {p : Addr} (h1 : n₁ ≤ p.block) (h2 : p.block < n₂) : B.cell? p = A.cell? p := World.cell?_of_block (h p.block h1 h2)
theorem Rng.putObj {n₁ n₂ : Nat} {w : World} (hn : n₂ ≤ w.heap.size) (W : World) (l : Nat) (o o' : Obj) (hl : w.heap.size ≤ l) (h : W.heap[l]? = some o) (_ : o.isCells = false) (_ : o.isWalk = false) : Rng n₁ n₂ W (W.putObj l o') :=
  fun k _ h2 => (grownBy_putObj' W l o').block k (by have := (Array.getElem?_eq_some_iff.1 h).1; omega) (by intro e; cases e; omega)

/-- The pairs that slices.Backward gives. -/
def backAt {α : Type} (len : Nat) (e : Nat → α) (j : Nat) : Nat × α := (len - 1 - j, e (len - 1 - j))

set_option maxRecDepth 100000 in
set_option maxHeartbeats 2000000 in
theorem backward1_in {α : Type} (val : α → Int) (F : Fence) (n : Nat) (h7 : F.fn 136) (hro : F.round = none) (hn : 1 ≤ n) (l Bs n₁ n₂ g cap len : Nat) (el : Nat → α) (hreach : len * 8 ≤ 140737488351232) (hB1 : n₁ ≤ Bs) (hB2 : Bs < n₂) (hg1 : n₁ ≤ g) (hg2 : g < n₂) (J Jx : List (Nat × α) → World → Prop)
    (hY : ∀ pre x W, J pre W → pre.length < len → YieldAt F (n - 1) Try.prog l #[.int .i64 (x.1 : Int), .int .i64 (val x.2)] W fun e W' =>
      (e = .returned (.bool true) ∧ J (pre ++ [x]) W' ∧ Rng n₁ n₂ W W') ∨ (e = .returned (.bool false) ∧ Jx (pre ++ [x]) W'))
    (W : World) (hBs : W.cell? ⟨Bs, 0, none⟩ = some (.slice (some ⟨g, 0, none⟩) len cap)) (hc : ∀ j, j < len → W.cell? ⟨g, j, none⟩ = some (.int .i64 (val (el j)))) (h0 : J [] W) :
    CallsIn F n Try.prog 136 #[.func (.yield l) #[] #[], .pointer (some ⟨Bs, 0, none⟩)] W fun e W' => (∃ v, e = .returned v) ∧
      ((∃ ys, ys = upto (backAt len el) len ∧ J ys W') ∨ (∃ pre, (∃ k, k ≤ len ∧ pre = upto (backAt len el) k) ∧ Jx pre W')) := by
  refine callsIn_of_wp Try.func136 rfl h7 ?_ hro
  simp only [Try.ntmps136, List.size_toArray, List.length_cons, List.length_nil, Nat.reduceAdd, Nat.reduceSub, Array.replicate_succ, Array.replicate_zero, List.push_toArray, List.append_toArray, List.nil_append, List.cons_append]
  gi_wp2
  gi_loopw [3] (fun i wr => ∃ k : Nat, k ≤ len ∧ ((k < len ∧ i = .int .i64 ((len - 1 - k : Nat) : Int)) ∨ (k = len ∧ i = .int .i64 (-1))) ∧ J (upto (backAt len el) k) wr ∧ Aside0 (Rng n₁ n₂ W wr))
    (fun i _ => (intOf i + 1).toNat)
  case atStart =>
    refine ⟨0, Nat.zero_le _, ?_, h0, ⟨Rng.refl _ _ _⟩⟩
    rcases Nat.eq_zero_or_pos len with e0 | e0
    · right; exact ⟨e0.symm, by rw [e0]; rfl⟩
    · left; exact ⟨e0, by congr 1; omega⟩
  case round =>
    obtain ⟨k, hk, hi, hJs, hnx⟩ := hrel
    rcases hi with ⟨hlt, rfl⟩ | ⟨rfl, rfl⟩
    · obtain ⟨m, hm⟩ : ∃ m, m = len - 1 - k := ⟨_, rfl⟩
      have hml : m < len := by omega
      have hcx : wr.cell? ⟨g, m, none⟩ = some (.int .i64 (val (el m))) := (hnx.out.cell (p := ⟨g, m, none⟩) hg1 hg2).trans (hc m hml)
      have hbx : wr.cell? ⟨Bs, 0, none⟩ = some (.slice (some ⟨g, 0, none⟩) len cap) := (hnx.out.cell (p := ⟨Bs, 0, none⟩) hB1 hB2).trans hBs
      obtain ⟨y, hyy⟩ : ∃ y, el m = y := ⟨_, rfl⟩
      rw [hyy] at hcx
      obtain ⟨fn, tmps, assign, body, hy, hR⟩ := hY _ (m, y) wr hJs (by rw [upto_length]; exact hlt)
      have HE : Aside0 (backAt len el k = (m, y)) := ⟨by unfold backAt; rw [← hm, hyy]⟩
      clear hyy
      dsimp only at hy
      have HM := Lib.hid hm
      rw [← hm]
      clear hc hBs hm
      gi_wp2
      refine hR.mono ?_
      rintro e' W3 (⟨rfl, hJ3, hk3⟩ | ⟨rfl, hJx3⟩)
      · have hk3' := Aside0.mk hk3
        clear hk3
        gi_wp2
        go_roundw
        case rel =>
          refine ⟨k + 1, by omega, ?_, by rw [upto_succ, HE.out]; exact hJ3, ⟨hnx.out.trans hk3'.out⟩⟩
          have := HM.out
          rcases Nat.eq_zero_or_pos m with e0 | e0
          · right; exact ⟨by omega, by rw [e0]; rfl⟩
          · left; exact ⟨by omega, by congr 1; omega⟩
        case measure => simp [intOf] <;> omega
      · gi_wp2
        refine bodyPost_ret (results_none rfl _ _ _) rfl ?_
        exact ⟨⟨_, rfl⟩, .inr ⟨_, ⟨k + 1, by omega, by rw [upto_succ, HE.out]⟩, hJx3⟩⟩
    · gi_wp2
      go_end0
      exact ⟨⟨_, rfl⟩, .inl ⟨_, rfl, hJs⟩⟩

set_option maxRecDepth 100000 in
set_option maxHeartbeats 1000000 in
theorem backward1_nil_in {α : Type} (F : Fence) (n : Nat) (h7 : F.fn 136) (hro : F.round = none) (l Bs : Nat) (a : Option Addr) (cap : Nat) (J : List α → World → Prop) (W : World) (hBs : W.cell? ⟨Bs, 0, none⟩ = some (.slice a 0 cap)) (h0 : J [] W) :
    CallsIn F n Try.prog 136 #[.func (.yield l) #[] #[], .pointer (some ⟨Bs, 0, none⟩)] W fun e W' => (∃ v, e = .returned v) ∧ J [] W' := by
  refine callsIn_of_wp Try.func136 rfl h7 ?_ hro
  simp only [Try.ntmps136, List.size_toArray, List.length_cons, List.length_nil, Nat.reduceAdd, Nat.reduceSub, Array.replicate_succ, Array.replicate_zero, List.push_toArray, List.append_toArray, List.nil_append, List.cons_append]
  gi_wp2
  gi_loopw [3] (fun i wr => i = .int .i64 (-1) ∧ J [] wr) (fun _ _ => 0)
  case atStart => exact ⟨rfl, h0⟩
  case round =>
    obtain ⟨rfl, hJs⟩ := hrel
    gi_wp2
    go_end0
    exact ⟨⟨_, rfl⟩, hJs⟩

set_option maxHeartbeats 1000000 in
theorem backward_in (F : Fence) (n : Nat) (h5 : F.fn 126) (hro : F.round = none) (a : Option Addr) (len cap : Nat) (w : World) :
    CallsIn F n Try.prog 126 #[.slice a len cap] w fun e w' => e = .returned (.func (.func 136) #[] #[.pointer (some ⟨w.heap.size, 0, none⟩)]) ∧ w' = w.alloc (.cells #[.slice a len cap] 22) := by
  refine callsIn_of_wp Try.func126 rfl h5 ?_ hro
  simp only [Try.ntmps126, List.size_toArray, List.length_cons, List.length_nil, Nat.reduceAdd, Nat.reduceSub, Array.replicate_succ, Array.replicate_zero, List.push_toArray, List.append_toArray, List.nil_append, List.cons_append]
  gi_wp2
  go_ret
  exact ⟨rfl, rfl⟩

theorem ownsRow_ints {w : World} {base : Nat} {v : Value} {zs : List Int} (h : w.ownsRow base 2 1 v zs.length (zs.map (Value.int .i64))) :
    (v = .slice none 0 0 ∧ zs = []) ∨ ∃ g cap, v = .slice (some ⟨g, 0, none⟩) zs.length cap ∧ base ≤ g ∧ g < w.heap.size ∧ ∀ j, j < zs.length → w.cell? ⟨g, j, none⟩ = some (.int .i64 (zs[j]?.getD 0)) := by
  rcases h.2 with ⟨rfl, e⟩ | ⟨g, cap, cur, rfl, hb, hh, _⟩
  · exact .inl ⟨rfl, List.eq_nil_of_length_eq_zero e⟩
  · refine .inr ⟨g, cap, rfl, hb, (Array.getElem?_eq_some_iff.1 hh).1, fun j hj => ?_⟩
    have hcx := h.cells (g := g) rfl j (.int .i64 (zs[j]?.getD 0)) (by simp [List.getElem?_eq_getElem hj])
    have ha : (⟨g, 0, none⟩ : Addr).add j = ⟨g, j, none⟩ := by unfold Addr.add; split <;> simp_all
    rwa [ha] at hcx

theorem backward_stops {α : Type} (val : α → Int) (F : Fence) (n : Nat) (h7 : F.fn 136) (hro : F.round = none) (hn : 1 ≤ n) (Bs n₁ n₂ len : Nat) (sv : Value) (e : Nat → α) (zs : List Int) (hz : zs.length = len) (hez : ∀ j, j < len → val (e j) = zs[j]?.getD 0) (hreach : len * 8 ≤ 140737488351232) (w : World) (hB1 : n₁ ≤ Bs) (hB2 : Bs < n₂) (hn2 : n₂ = w.heap.size)
    (hc : w.cell? ⟨Bs, 0, none⟩ = some sv) (hI : w.ownsRow n₁ 2 1 sv zs.length (zs.map (Value.int .i64))) :
    SeqStopsK F n Try.prog 136 #[.pointer (some ⟨Bs, 0, none⟩)] (fun x : Nat × α => #[Value.int .i64 (x.1 : Int), Value.int .i64 (val x.2)]) (Rng n₁ n₂) (fun ys => ys = upto (backAt len e) len)
      (fun pre => ∃ k, k ≤ len ∧ pre = upto (backAt len e) k) len w := fun l J Jx W hW _ _ hY h0 => by
  have hc' := (hW.cell (p := ⟨Bs, 0, none⟩) (by show Bs < _; omega)).trans hc
  subst hz
  rcases ownsRow_ints hI with ⟨rfl, rfl⟩ | ⟨g, cap, rfl, hg, hgs, hcs⟩
  · exact (backward1_nil_in F n h7 hro l Bs none 0 J W hc' h0).mono fun e W' ⟨he, hj⟩ => ⟨he, .inl ⟨_, rfl, hj⟩⟩
  · exact backward1_in val F n h7 hro hn l Bs n₁ n₂ g cap zs.length e hreach hB1 hB2 hg (by omega) J Jx hY W hc' (fun j hj => (hW.cell (p := ⟨g, j, none⟩) hgs).trans ((hcs j hj).trans (by rw [hez j hj]))) h0

/-- A vertex. -/
abbrev V6 := { v : Int // 0 ≤ v ∧ v ≤ 5 }
def delV (f : Int) (v : Int) : Int := Go.bits .andNot .i64 f (2 ^ v.toNat)
def bordersOf (f : Int) (ys : List (Nat × V6)) : List Int := (ys.map fun y => delV f y.2.1).filter fun r => r != 0
theorem bordersOf_yes {f : Int} (pre : List (Nat × V6)) {x : Nat × V6} (h : (delV f x.2.1 != 0) = true) : bordersOf f (pre ++ [x]) = bordersOf f pre ++ [delV f x.2.1] := by
  simp [bordersOf, bne_iff_ne.1 h]
theorem bordersOf_no {f : Int} (pre : List (Nat × V6)) {x : Nat × V6} (h : (delV f x.2.1 != 0) = false) : bordersOf f (pre ++ [x]) = bordersOf f pre := by
  simp [bordersOf, bne_eq_false_iff_eq.1 h]
theorem bordersOf_len (f : Int) (pre : List (Nat × V6)) : (bordersOf f pre).length ≤ pre.length := by
  unfold bordersOf
  exact Nat.le_trans (List.length_filter_le _ _) (by simp)
theorem verts_mem {f v : Int} (h : v ∈ verts f) : 0 ≤ v ∧ v ≤ 5 := by
  unfold verts vertsUpto at h
  simp only [List.mem_map, List.mem_filter, List.mem_range] at h
  obtain ⟨a, ⟨ha, _⟩, rfl⟩ := h
  omega
/-- Vertex number j of a face. -/
def vertAt (f : Int) (j : Nat) : V6 := ⟨(verts f)[j]?.getD 0, by
  rcases h : (verts f)[j]? with _ | v
  · simp
  · exact verts_mem (f := f) (List.mem_of_getElem? h)⟩
def bordersL (f : Int) : List Int := bordersOf f (upto (backAt (verts f).length (vertAt f)) (verts f).length)
theorem verts_len (f : Int) : (verts f).length ≤ 6 := vertsUpto_len f 6

theorem RO.row {w : World} {base : Nat} {v : Value} {xs : List Int} (h : RO w base v xs) : w.ownsRow base 2 1 v xs.length (xs.map (Value.int .i64)) := by
  obtain ⟨_, inner, ho, hr⟩ := h
  have : inner = xs.map (Value.int .i64) := by
    apply List.ext_getElem
    · have := hr.1; simpa [Kd.int, Kd.scalar] using this
    · intro i h1 h2
      have h3 := hr.2 i (xs[i]'(by simpa using h2)) (List.getElem?_eq_getElem _)
      have h4 : (inner.drop (i * 1)).take 1 = [Value.int .i64 (xs[i]'(by simpa using h2))] := h3
      rw [Nat.mul_one, List.drop_eq_getElem_cons h1, List.take_succ_cons, List.take_zero] at h4
      rw [(List.cons.inj h4).1, List.getElem_map]
  rw [this] at ho
  exact ho

theorem RO.of_row {w : World} {base : Nat} {v : Value} {xs : List Int} (h : w.ownsRow base 2 1 v xs.length (xs.map (Value.int .i64))) : RO w base v xs := by
  refine ⟨fun _ _ => trivial, xs.map (Value.int .i64), h, ⟨by simp [Kd.int, Kd.scalar], fun j p hp => ?_⟩⟩
  obtain ⟨hj, rfl⟩ := List.getElem?_eq_some_iff.1 hp
  show ((xs.map (Value.int .i64)).drop (j * 1)).take 1 = [Value.int .i64 xs[j]]
  rw [Nat.mul_one, List.drop_eq_getElem_cons (by simpa using hj)]
  simp

/-- 'out = append(out, x)', out in a box below the rows: what the round leaves. -/
theorem round_app {Wd w1 : World} {B n₀ n₁ n₂ t e k : Nat} {v v' : Value} {xs ys : List Value} {m : Nat} {tmp : Obj} (hv : Boxed Wd B t v) (hrow : Wd.ownsRow n₂ e 1 v k xs) (hg : (Wd.alloc tmp).grownBy w1 v.ownBlock) (ho : w1.ownsRow n₂ e 1 v' m ys)
    (hB : B < n₁) (hn : n₀ ≤ B) (hs : n₂ ≤ Wd.heap.size) (hte : t ≠ e := by decide) (hn12 : n₁ ≤ n₂ := by omega) :
    Boxed (w1.setCell ⟨B, 0, none⟩ v') B t v' ∧ (w1.setCell ⟨B, 0, none⟩ v').ownsRow n₂ e 1 v' m ys ∧ Rng n₁ n₂ Wd (w1.setCell ⟨B, 0, none⟩ v') ∧ KeepsOthers Wd (w1.setCell ⟨B, 0, none⟩ v') ∧
      (∀ b, b < n₂ → b ≠ B → b < Wd.heap.size → ∀ o, (w1.setCell ⟨B, 0, none⟩ v').cell? ⟨b, o, none⟩ = Wd.cell? ⟨b, o, none⟩) ∧ Below n₀ Wd (w1.setCell ⟨B, 0, none⟩ v') := by
  have hr2 := own_weaken hrow (show n₀ ≤ n₂ by omega)
  have ho2 := own_weaken ho (show n₀ ≤ n₂ by omega)
  obtain ⟨h1, h2, h3, h4, h5⟩ := hv.appended hte hr2 (by omega) hn ho2 hg
  have hb : ∀ b, b < n₂ → b ≠ B → b < Wd.heap.size → (w1.setCell ⟨B, 0, none⟩ v').heap[b]? = Wd.heap[b]? := by
    intro b hb1 hb2 hb3
    rw [Below.heap_setCell _ _ _ _ hb2, hg.block b (by simp; omega) (fun e => by have := own_base hrow b e.symm; omega)]
    exact Below.heap_alloc _ _ _ hb3
  refine ⟨h2, ?_, fun b hb1 hb2 => hb b hb2 (by omega) (by omega), h4, fun b hb1 hb2 hb3 o => World.cell?_of_block (hb b hb1 hb2 hb3), h5⟩
  exact ho.kept (grownBy_setCell' w1 B v') (.inr ((h1.not_row hte ho).symm))

/-- The loop's relation, and what a round leaves. -/
def BI (f : Int) (w wv : World) (pre : List (Nat × V6)) (W : World) : Prop :=
  ((∃ v, Boxed W (w.heap.size + 1) 22 v ∧ W.ownsRow (wv.heap.size + 1) 2 1 v (bordersOf f pre).length ((bordersOf f pre).map (Value.int .i64)) ∧ True) ∧ W.cell? ⟨w.heap.size, 0, none⟩ = some (.int .i64 f) ∧ wv.heap.size + 1 ≤ W.heap.size) ∧ Below w.heap.size w W
theorem body_yes {f : Int} {w wv W Wd w1 : World} {pre : List (Nat × V6)} {x : Nat × V6} {v v' : Value} {tmp : Obj} {B : Nat} (U1 : Boxed Wd (w.heap.size + 1) 22 v) (U2 : Wd.ownsRow (wv.heap.size + 1) 2 1 v (bordersOf f pre).length ((bordersOf f pre).map (Value.int .i64)))
    (X2 : (Wd.alloc tmp).grownBy w1 v.ownBlock) (X1 : w1.ownsRow (wv.heap.size + 1) 2 1 v' ((bordersOf f pre).length + 1) ((bordersOf f pre).map (Value.int .i64) ++ [.int .i64 (delV f x.2.1)])) (U3 : Below w.heap.size w Wd) (U4 : KeepsOthers W Wd)
    (U5 : Rng (w.heap.size + 2) (wv.heap.size + 1) W Wd) (U6 : Wd.cell? ⟨w.heap.size, 0, none⟩ = some (.int .i64 f)) (U8 : wv.heap.size + 1 ≤ Wd.heap.size) (hwv : w.heap.size + 2 ≤ wv.heap.size) (hx : (delV f x.2.1 != 0) = true) :
    KeepsFrom B W (w1.setCell ⟨w.heap.size + 1, 0, none⟩ v') ∧ Rng (w.heap.size + 2) (wv.heap.size + 1) W (w1.setCell ⟨w.heap.size + 1, 0, none⟩ v') ∧ BI f w wv (pre ++ [x]) (w1.setCell ⟨w.heap.size + 1, 0, none⟩ v') := by
  obtain ⟨G1, G2, G3, G4, G5, G6⟩ := round_app (n₀ := w.heap.size) (n₁ := w.heap.size + 2) U1 U2 X2 X1 (by omega) (by omega) U8
  refine ⟨(U4.trans G4).from _, U5.trans G3, ⟨⟨_, G1, ?_, trivial⟩, (G5 w.heap.size (by omega) (by omega) (by omega) 0).trans U6, Nat.le_trans U8 G4.size⟩, U3.trans G6⟩
  rw [bordersOf_yes pre hx]
  simpa using G2
theorem body_no {f : Int} {w wv W Wd : World} {pre : List (Nat × V6)} {x : Nat × V6} {v : Value} {B : Nat} (U1 : Boxed Wd (w.heap.size + 1) 22 v) (U2 : Wd.ownsRow (wv.heap.size + 1) 2 1 v (bordersOf f pre).length ((bordersOf f pre).map (Value.int .i64)))
    (U3 : Below w.heap.size w Wd) (U4 : KeepsOthers W Wd) (U5 : Rng (w.heap.size + 2) (wv.heap.size + 1) W Wd) (U6 : Wd.cell? ⟨w.heap.size, 0, none⟩ = some (.int .i64 f)) (U8 : wv.heap.size + 1 ≤ Wd.heap.size) (hx : (delV f x.2.1 != 0) = false) :
    KeepsFrom B W Wd ∧ Rng (w.heap.size + 2) (wv.heap.size + 1) W Wd ∧ BI f w wv (pre ++ [x]) Wd :=
  ⟨U4.from _, U5, ⟨⟨_, U1, by rw [bordersOf_no pre hx]; exact U2, trivial⟩, U6, U8⟩, U3⟩

set_option maxRecDepth 100000 in
set_option maxHeartbeats 2000000 in
theorem borders_c (f : Int) (w : World) : Calls Try.prog 98 #[.int .i64 f] w fun e w' => ∃ v, e = .returned v ∧ RO w' w.heap.size v (bordersL f) ∧ Below w.heap.size w w' := by
  have h1 : 1 ≤ 5 := by omega
  have f1 : Fence.wide.fn 127 := trivial
  have f2 : Fence.wide.fn 126 := trivial
  obtain ⟨i0, hi, hz0, hz1, hz2⟩ := info_parts info64
  refine (callsIn_wide (n := 5)).1 ?_
  refine callsIn_of_wp_marks Try.func98 rfl trivial ?_ rfl
  simp only [Try.ntmps98, List.size_toArray, List.length_cons, List.length_nil, Nat.reduceAdd, Nat.reduceSub, Array.replicate_succ, Array.replicate_zero, List.push_toArray, List.append_toArray, List.nil_append, List.cons_append]
  have B0 := Boxed.new w 2 (.int .i64 f)
  have B1 := Boxed.new (w.alloc (.cells #[.int .i64 f] 2)) 22 (.slice none 0 0)
  rw [World.size_alloc] at B1
  have hBw : Below w.heap.size w ((w.alloc (.cells #[.int .i64 f] 2)).alloc (.cells #[.slice none 0 0] 22)) := ((Below.refl _ w).alloc (Nat.le_refl _) _).alloc (by simp) _
  have BB0 := Aside0.mk (B0.alloc (.cells #[.slice none 0 0] 22))
  have BB1 := Aside0.mk B1
  have HBw := Aside0.mk hBw
  clear B0 B1 hBw
  gi_wp2_with (first
    | (gi_at_call 127; refine (callsIn_wide.2 (vertices_c _ _)).mono ?_; rintro e wv ⟨v, rfl, hR, hB⟩; have HR := Aside0.mk hR; have HB := Aside0.mk hB; clear hR hB; obtain ⟨Av, cv, rfl⟩ := Kd.R_slice HR.out)
    | (gi_at_call 126; refine (backward_in _ _ trivial rfl _ _ _ _).mono ?_; rintro e w' ⟨rfl, rfl⟩))
  have hsz : w.heap.size + 2 ≤ wv.heap.size := by have := HB.out.size; simpa using this
  have hb2 : ((w.alloc (.cells #[.int .i64 f] 2)).alloc (.cells #[.slice none 0 0] 22)).heap.size = w.heap.size + 2 := by simp
  have BB0v : Boxed (wv.alloc (.cells #[.slice Av (verts f).length cv] 22)) w.heap.size 2 (.int .i64 f) := Boxed.alloc ((HB.out.block w.heap.size (by rw [hb2]; omega)).trans BB0.out) _
  have BB1v : Boxed (wv.alloc (.cells #[.slice Av (verts f).length cv] 22)) (w.heap.size + 1) 22 (.slice none 0 0) := Boxed.alloc ((HB.out.block (w.heap.size + 1) (by rw [hb2]; omega)).trans BB1.out) _
  have bN := Boxed.new wv 22 (.slice Av (verts f).length cv)
  have hB0 : Below w.heap.size w (wv.alloc (.cells #[.slice Av (verts f).length cv] 22)) := (HBw.out.trans (HB.out.mono (by rw [hb2]; omega))).alloc (by omega) _
  have hrow : (wv.alloc (.cells #[.slice Av (verts f).length cv] 22)).ownsRow (w.heap.size + 2) 2 1 (.slice Av (verts f).length cv) (verts f).length ((verts f).map (Value.int .i64)) := by
    have := HR.out.row
    rw [hb2] at this
    exact this.alloc _
  refine wpIn_rangeFunc_ownG rfl h1 (gf := 136) (lb := #[.pointer (some ⟨wv.heap.size, 0, none⟩)]) rfl trivial (enters_of Try.func136 (by kernel_rfl) rfl)
    (backward_stops (fun x : V6 => x.1) Fence.wide (5 - 1) trivial rfl (by omega) wv.heap.size (w.heap.size + 2) (wv.heap.size + 1) (verts f).length _ (vertAt f) (verts f) rfl (fun _ _ => rfl) (by have := verts_len f; omega) _ (by omega) (by omega) (by simp) bN.cell hrow)
    (fun h k => h.trans k) (Rng.putObj (by simp)) (Below.refl _ _) (fun _ => rfl)
    (BI f w wv)
    (fun _ _ _ => False)
    (OwnFrom.and (OwnFrom.and (Own.from (holdsRow_own (wv.heap.size + 1) (w.heap.size + 1) 22 2 1 (fun pre => (bordersOf f pre).length) (fun pre => (bordersOf f pre).map (Value.int .i64)) (fun _ _ => True)) _) (Own.from (fun s A B row hs hg hr => ⟨cell_kept hs.1 hg hr, Nat.le_trans hs.2 hg.size⟩) _)) (ownFrom_below (Nat.le_refl _) (by simp; omega)))
    (fun _ _ _ _ _ hs _ _ => hs)
    ⟨⟨⟨_, BB1v, World.ownsRow_nil _ _ _ _, trivial⟩, BB0v.cell, by simp⟩, hB0⟩
    (fun x => { tmps := #[.int .i64 f, .pointer (some ⟨w.heap.size, 0, none⟩), .slice none 0 0, .pointer (some ⟨w.heap.size + 1, 0, none⟩), undef, .int .i64 x.2.1, undef, .int .i64 f, .slice Av (verts f).length cv, .func (.func 136) #[] #[.pointer (some ⟨wv.heap.size, 0, none⟩)], .int .i64 (x.1 : Int), .int .i64 x.2.1, undef, undef, undef, undef, undef, undef, undef, undef, undef, undef, undef], defers := [] }) ?assign ?body ?done ?stop
  case assign =>
    intro l x W K hK
    gi_wp2
    exact hK
  case body =>
    rintro l pre x W ⟨⟨⟨v, hv, hrow, _⟩, hcf, hsW⟩, hB⟩ hlt
    obtain ⟨xi, xv, hx0, hx5⟩ := x
    obtain ⟨m, rfl⟩ := Int.eq_ofNat_of_zero_le hx0
    have hm5 : m ≤ 5 := by omega
    have hshl : (IntKind.i64.wrap (2 ^ m)) = ((2 ^ m : Nat) : Int) := by
      obtain rfl | rfl | rfl | rfl | rfl | rfl : m = 0 ∨ m = 1 ∨ m = 2 ∨ m = 3 ∨ m = 4 ∨ m = 5 := by omega
      all_goals rfl
    have V1 : Boxed W.drew (w.heap.size + 1) 22 v := hv
    have V2 : W.drew.ownsRow (wv.heap.size + 1) 2 1 v (bordersOf f pre).length ((bordersOf f pre).map (Value.int .i64)) := hrow
    have V3 : Below w.heap.size w W.drew := hB.drew
    have V4 : KeepsOthers W W.drew := KeepsOthers.drew W
    have V5 : Rng (w.heap.size + 2) (wv.heap.size + 1) W W.drew := fun _ _ _ => rfl
    have V8 : wv.heap.size + 1 ≤ W.drew.heap.size := hsW
    have V6 : W.drew.cell? ⟨w.heap.size, 0, none⟩ = some (.int .i64 f) := hcf
    have V7 : W.drew.cell? ⟨w.heap.size + 1, 0, none⟩ = some v := hv.cell
    have hwv : w.heap.size + 2 ≤ wv.heap.size := hsz
    have hpl : (bordersOf f pre).length ≤ 5 := by have := bordersOf_len f pre; have := verts_len f; omega
    have hmx : Try.prog.follows .mixedOrders = true := by kernel_rfl
    have hcf' := hcf
    gi_wp2
    gi_region_o
    all_goals
      generalize W.drew = Wd at V1 V2 V3 V4 V5 V6 V7 V8 ⊢
      have U1 := Aside0.mk V1; have U2 := Aside0.mk V2; have U3 := Aside0.mk V3; have U4 := Aside0.mk V4; have U5 := Aside0.mk V5; have U6 := Aside0.mk V6; have U8 := Aside0.mk V8; 
      clear V1 V2 V3 V4 V5 V6 V8 hv hrow hB hcf hcf' hsW
      gi_wp2_with (gi_at_builtin; refine wpListIn_append_own _ rfl (.tmp 18) (.tmp 20) 22 rfl (wv.heap.size + 1) 2 i0 (.int .i64 0) 1 8 Try.underlying22 hi hz0 hz1 hz2 rfl (by decide) v _ _ rfl (U2.out.alloc _) ⟨Wd.heap.size, 0, none⟩ 1 1 [.int .i64 (delV f (m : Int))] rfl rfl (cell_one_new _ _ _) (by simp [Value.oneCell']) (by simp only [maxLen]; omega) (by omega) ?hsz ?_; (case hsz => have := U8.out; simp; omega); intro v' w1 hown' hgrow hnn; clear hnn; obtain ⟨g', cap', rfl⟩ := ownsRow_succ hown'; have hv1 : Boxed w1 (w.heap.size + 1) 22 v := (U1.out.alloc _).kept hgrow (U1.out.not_row (by decide) U2.out); have hc1 := hv1.cell; have hf1 := hv1.frozen; have X1 := Aside0.mk hown'; have X2 := Aside0.mk hgrow; have X3 := Aside0.mk hv1; clear hown' hgrow hv1 V7)
      · have hx : (delV f (m : Int) != 0) = true := by unfold delV; assumption
        exact body_yes (x := ⟨xi, m, hx0, hx5⟩) U1.out U2.out X2.out X1.out U3.out U4.out U5.out U6.out U8.out hwv hx
      · have hx : (delV f (m : Int) != 0) = false := by unfold delV; assumption
        exact body_no (x := ⟨xi, m, hx0, hx5⟩) U1.out U2.out U3.out U4.out U5.out U6.out U8.out hx
  case done =>
    rintro D ys W hD rfl ⟨⟨⟨v, hv, hrow, _⟩, hcf, hsW⟩, hB⟩ hK
    have hc := hv.cell
    gi_wp2
    refine ⟨by simp, .inl ⟨_, _, rfl, run_takeDeferred hK, ?_⟩⟩
    have hD' : wv.heap.size + 1 ≤ D := by simpa using hD
    exact ⟨_, results_tmp rfl _ _ _, v, rfl, RO.of_row (own_weaken (ownsRow_putObj hrow _ hK rfl) (by omega)), hB.trans (belowK_b (w := w) (Nat.le_refl _) W D _ _ (by omega) hK rfl rfl)⟩
  case stop =>
    rintro D c pre W _ _ h _
    exact h.elim

end Go.Proofs.Ytdkoioiiacljeaa.Im

/- The functions that take a function value. -/
namespace Go.Proofs.Ytdkoioiiacljeaa.Im
set_option linter.unusedVariables false
set_option linter.unusedSimpArgs false
open Go.RowKit Go.Shelf Go.Proofs.YtdkoioiiacljeaaW.PrintWords Go.Proofs.YtdkoioiiacljeaaW.PrintLast Go.Proofs.YtdkoioiiacljeaaW.PrintMore

/-- The place of the first element of which p holds, or -1. -/
def firstI (p : Int → Bool) (xs : List Int) : Int := if xs.any p then (xs.findIdx p : Int) else -1
theorem firstI_hit {p : Int → Bool} {xs : List Int} {k : Nat} {y : Int} (hk : k < xs.length) (hy : xs[k]?.getD 0 = y) (hp : p y = true) (hb : ∀ j, j < k → p (xs[j]?.getD 0) = false) : firstI p xs = (k : Int) := by
  have hxk : xs[k] = y := by rw [List.getElem?_eq_getElem hk] at hy; simpa using hy
  have ha : xs.any p = true := List.any_eq_true.2 ⟨xs[k], List.getElem_mem hk, by rw [hxk]; exact hp⟩
  have hf : xs.findIdx p = k := by
    rw [List.findIdx_eq hk]
    refine ⟨by rw [hxk]; exact hp, fun j hj => ?_⟩
    have := hb j hj
    rw [List.getElem?_eq_getElem (show j < xs.length by omega)] at this
    simpa using this
  rw [firstI, if_pos ha, hf]
theorem firstI_miss {p : Int → Bool} {xs : List Int} (hb : ∀ j, j < xs.length → p (xs[j]?.getD 0) = false) : firstI p xs = -1 := by
  have ha : ¬ xs.any p = true := by
    intro h
    obtain ⟨x, hx, hp⟩ := List.any_eq_true.1 h
    obtain ⟨j, hj, rfl⟩ := List.mem_iff_getElem.1 hx
    have := hb j hj
    rw [List.getElem?_eq_getElem hj] at this
    simp at this
    rw [this] at hp; cases hp
  rw [firstI, if_neg ha]
theorem firstI_nonneg (p : Int → Bool) (xs : List Int) : decide (0 ≤ firstI p xs) = xs.any p := by
  unfold firstI
  split
  · rename_i h; rw [h]; simp
  · rename_i h; rw [Bool.eq_false_iff.2 h]; rfl

theorem RC.at_ {w W : World} {A : Option Addr} {n : Nat} {xs : List Int} (h : RC w A n xs) (hb : Below w.heap.size w W) {k : Nat} (hk : k < n) : ∃ ad, A = some ad ∧ W.cell? (ad.add k) = some (.int .i64 (xs[k]?.getD 0)) := by
  obtain ⟨ad, e, hc⟩ := Kd.at_int (Kd.C_below h hb) k (by omega) (by omega)
  exact ⟨ad, e, by simpa [rd] using hc⟩
theorem RC.len {w : World} {A : Option Addr} {n : Nat} {xs : List Int} (h : RC w A n xs) : xs.length = n ∧ n ≤ 9223372036854775807 := ⟨h.1, h.2.1⟩

set_option maxRecDepth 100000 in
set_option maxHeartbeats 1000000 in
theorem indexFunc_c (A : Option Addr) (n c : Nat) (xs : List Int) (fv : Value) (dom : Int → Prop) (p : Int → Bool) (w : World) (hr : RC w A n xs) (hf : FnB Try.prog fv dom p w) (hd : ∀ x ∈ xs, dom x) :
    Calls Try.prog 123 #[.slice A n c, fv] w fun e w' => e = .returned (.int .i64 (firstI p xs)) ∧ Below w.heap.size w w' := by
  obtain ⟨g, fs, lb, rfl, eg, hcall⟩ := hf
  have hl := hr.len
  have hbig := hl.2
  have HR := Aside0.mk hr
  have HC := Aside0.mk hcall
  have HL := Aside0.mk hl.1
  have HD := Aside0.mk hd
  clear hr hcall hl hd
  go_enter Try.func123, Try.ntmps123
  go_wp2
  go_loopw [5, 8] (fun _ i wr => ∃ k : Nat, k ≤ n ∧ i = .int .i64 k ∧ Aside0 (Below w.heap.size w wr) ∧ Aside0 (∀ j, j < k → p (xs[j]?.getD 0) = false)) (fun _ i _ => n - (intOf i).toNat)
  case atStart => exact ⟨0, by omega, rfl, ⟨Below.refl _ _⟩, ⟨fun j hj => absurd hj (Nat.not_lt_zero _)⟩⟩
  case round =>
    obtain ⟨k, hk, rfl, hB, hA⟩ := hrel
    by_cases hlt : k < n
    · have hltz : (k : Int) < (n : Int) := by omega
      obtain ⟨ad, rfl, hcell⟩ := HR.out.at_ hB.out hlt
      obtain ⟨y, hy⟩ : ∃ y, xs[k]?.getD 0 = y := ⟨_, rfl⟩
      rw [hy] at hcell
      have HY := Aside0.mk hy
      have hdy : dom y := by
        have hkl : k < xs.length := by rw [HL.out]; exact hlt
        rw [List.getElem?_eq_getElem hkl] at hy
        rw [← hy]
        exact HD.out _ (List.getElem_mem hkl)
      have hcy := HC.out wr y hB.out hdy
      clear hy hdy
      have HCY := Aside0.mk hcy
      clear hcy
      cases hq : p y with
      | true =>
        rw [hq] at HCY
        have HQ := Aside0.mk hq
        clear hq
        go_wp2_with (go_at_fn g; refine HCY.out.mono ?_; rintro e w' ⟨rfl, hb⟩; have HB2 := Aside0.mk hb; clear hb)
        go_ret
        refine ⟨?_, below_in hB.out HB2.out⟩
        rw [firstI_hit (by rw [HL.out]; exact hlt) HY.out HQ.out hA.out]; rfl
      | false =>
        rw [hq] at HCY
        have HQ := Aside0.mk hq
        clear hq
        go_wp2_with (go_at_fn g; refine HCY.out.mono ?_; rintro e w' ⟨rfl, hb⟩; have HB2 := Aside0.mk hb; clear hb)
        go_roundw
        case measure => simp [intOf]; omega
        case rel =>
          refine ⟨k + 1, by omega, by go_num, ⟨below_in hB.out HB2.out⟩, ⟨fun j hj => ?_⟩⟩
          rcases Nat.lt_or_ge j k with h | h
          · exact hA.out j h
          · obtain rfl : j = k := by omega
            rw [HY.out]; exact HQ.out
    · obtain rfl : k = n := by omega
      have hltz : ¬ (k : Int) < (k : Int) := by omega
      go_wp2
      go_ret
      refine ⟨?_, hB.out⟩
      rw [firstI_miss (fun j hj => hA.out j (by rw [HL.out] at hj; exact hj))]; rfl

set_option maxRecDepth 100000 in
theorem containsFunc_c (A : Option Addr) (n c : Nat) (xs : List Int) (fv : Value) (dom : Int → Prop) (p : Int → Bool) (w : World) (hr : RC w A n xs) (hf : FnB Try.prog fv dom p w) (hd : ∀ x ∈ xs, dom x) :
    Calls Try.prog 124 #[.slice A n c, fv] w fun e w' => e = .returned (.bool (xs.any p)) ∧ Below w.heap.size w w' := by
  rw [← firstI_nonneg]
  have hc := indexFunc_c A n c xs fv dom p w hr hf hd
  have HC := Aside0.mk hc
  clear hc hr hf hd
  generalize firstI p xs = r at HC ⊢
  go_enter Try.func124, Try.ntmps124
  go_wp2_with (go_at_call 123; refine HC.out.mono ?_; rintro e w' ⟨rfl, hb⟩)
  go_ret
  exact ⟨rfl, hb⟩

end Go.Proofs.Ytdkoioiiacljeaa.Im
