/- Words and lemmas for FnExactCollapseKeeping, part 2: what the row's text comes to. -/
import Derived.WalkKit
import Derived.Lib.Hide
import Derived.Deep.Draws
import Derived.Deep.LoopGhost
import Derived.Deep.QuietTactic
import Derived.BigQuiet
import Derived.Deep.RegionHeld3
import Derived.Test.YtnmhnkpijjmhjaaProg
import Derived.RangeFuncNested
import Derived.RangeFuncBound
import Derived.RangeFuncCalls
import Derived.RangeFuncLeaves
import Derived.Shelf.Abstract
import Derived.Shelf.RegionOpen
import Derived.OwnWalkIn
import Derived.TacticsInMore
import Derived.LoopNIn
import Derived.LoopIn
import Derived.Maps.AppendAt
import Derived.Shelf.SlGeneric
import Derived.Test.YtnmhnkpijjmhjaaRows
import Derived.ProofKit
import Derived.OpenShut
import Derived.ShutString
import Derived.ChangeOld
import Derived.Below
import Derived.SizedLaws
import Derived.Lib.SmallJoins
import Derived.KernelRfl
import Derived.Deep.AppendLies
import Derived.OwnWalk
import Derived.Laws.BytesArg
import Derived.Laws.MakeOwn
import Derived.Laws.OwnMore
import Derived.Deep.OwnRows
import Derived.Tactics
import Derived.Lib.ConvBytes
import Derived.Laws.Slices
import Derived.RowKit3
import Derived.WideLaws
import Derived.Deep.DeepCutAuto
import Derived.Deep.CutBlock
import Derived.Laws.Rows
import Derived.Lib.AppendStr
import Derived.ArgAppend
import Derived.Laws.IdiomCopy
import Derived.OrdersHeld
import Derived.Laws.BitsLemmas
import Derived.RowKit
import Derived.Lib.SliceRun
import Derived.Test.YtnmhnkpijjmhjaaZFnExactCollapseKeepinga
namespace Go.Proofs.Ytnmhnkpijjmhjaa.Im
set_option linter.unusedVariables false
set_option linter.unusedSimpArgs false
open Go.RowKit Go.Proofs.YtnmhnkpijjmhjaaW.PrintWords Go.Proofs.YtnmhnkpijjmhjaaW.PrintLast Go.Proofs.YtnmhnkpijjmhjaaW.PrintMore
/-- A function value that says p of whole numbers, in each world that has come of w by growth alone. -/
def FnB (P : Program) (fv : Value) (dom : Int → Prop) (p : Int → Bool) (w : World) : Prop :=
  ∃ g fs lb, fv = .func (.func g) fs lb ∧ (∀ args w, (callFunc g args).run P w = .ok (.enter g args) w) ∧
    ∀ W x, Below w.heap.size w W → dom x → Calls P g (fs ++ #[.int .i64 x] ++ lb) W fun e w' => e = .returned (.bool (p x)) ∧ Below W.heap.size W w'
theorem FnB.later {P : Program} {fv : Value} {dom : Int → Prop} {p : Int → Bool} {w w1 : World} (h : FnB P fv dom p w) (hb : Below w.heap.size w w1) : FnB P fv dom p w1 := by
  obtain ⟨g, fs, lb, he, hg, hc⟩ := h
  exact ⟨g, fs, lb, he, hg, fun W x hW hx => hc W x (hb.trans (hW.mono hb.size)) hx⟩
/-- A function value without arguments. -/
def FnU (P : Program) (fv : Value) (b : Bool) (w : World) : Prop :=
  ∃ g fs lb, fv = .func (.func g) fs lb ∧ (∀ args w, (callFunc g args).run P w = .ok (.enter g args) w) ∧
    ∀ W, Below w.heap.size w W → Calls P g (fs ++ #[] ++ lb) W fun e w' => e = .returned (.bool b) ∧ Below W.heap.size W w'
theorem FnU.later {P : Program} {fv : Value} {b : Bool} {w w1 : World} (h : FnU P fv b w) (hb : Below w.heap.size w w1) : FnU P fv b w1 := by
  obtain ⟨g, fs, lb, he, hg, hc⟩ := h
  exact ⟨g, fs, lb, he, hg, fun W hW => hc W (hb.trans (hW.mono hb.size))⟩
/-- A slice of int64 that is read. -/
abbrev RC (w : World) (A : Option Addr) (n : Nat) (xs : List Int) : Prop := Kd.C (Kd.int .i64) w A n xs
/-- A slice of int64 of the call's own. -/
abbrev RO (w : World) (base : Nat) (v : Value) (xs : List Int) : Prop := Kd.R (Kd.int .i64) 2 w base (fun _ => True) v xs
section
variable {P : Program} {ops : Array Oper} {rest : List Oper} {o : Oper} {a : Act} {Q : Exit → Act → World → Prop}
/-- append(v, y) to a row of the call's own; behind 'at_builtin'. -/
theorem ap64 {w0 W : World} (base : Nat) (hgd : o.guard = none) (s x : Operand) (t : TypeId)
    (ho : o.op = .call { callee := .builtin .append, args := #[s, x], argTypes := #[t, t] }) (ht : P.underlying t = some (.slice 2))
    (hinfo : (P.info? 2).map (fun i => (i.zero, i.size, i.bytes)) = some (some (.int .i64 0), 1, 8)) (v : Value) (xs : List Int) (y : Int)
    (hs : a.eval s = v) (hx : a.eval x = .slice (some ⟨W.heap.size, 0, none⟩) 1 1) (HO : RO W base v xs) (HB : Below base w0 W) (hbase : base ≤ W.heap.size) (hl : xs.length ≤ 17592186044415)
    (h : ∀ v1 w1, RO w1 base v1 (xs ++ [y]) → Below base w0 w1 → W.grownBy w1 v.ownBlock → (v1.ownBlock = v.ownBlock ∨ ∃ b, v1.ownBlock = some b ∧ W.heap.size ≤ b) → wpList P ops Q rest (a.put o.dst v1) w1) :
    wpList P ops Q (o :: rest) a (W.alloc (.cells #[.int .i64 y] 2)) :=
  Kd.R_append (Kd.int .i64) base hgd s x t 2 (.int .i64 0) 8 ho ht hinfo rfl (by decide) (by decide) v xs y [.int .i64 y] (fun _ => True) (fun _ => False) hs hx rfl (fun _ hk => hk.elim) (fun _ _ => trivial) HO HB hbase (by omega) h
end
theorem below_in {w w1 w2 : World} (h : Below w.heap.size w w1) (k : Below w1.heap.size w1 w2) : Below w.heap.size w w2 := h.trans (k.mono h.size)
end Go.Proofs.Ytnmhnkpijjmhjaa.Im
namespace Go.Proofs.Ytnmhnkpijjmhjaa.Im
set_option linter.unusedVariables false
set_option linter.unusedSimpArgs false
open Go.RowKit Go.Proofs.YtnmhnkpijjmhjaaW.PrintWords Go.Proofs.YtnmhnkpijjmhjaaW.PrintLast Go.Proofs.YtnmhnkpijjmhjaaW.PrintMore
def withinB (n lo hi : Int) : Bool := decide (lo ≤ n) && decide (n ≤ hi)
theorem within_c (n lo hi : Int) (w : World) : Calls Try.prog 110 #[.int .i64 n, .int .i64 lo, .int .i64 hi] w fun e w' => e = .returned (.bool (withinB n lo hi)) ∧ w = w' := by
  unfold withinB
  by_cases h : lo ≤ n
  · have h1 : decide (lo ≤ n) = true := decide_eq_true h
    go_enter Try.func110, Try.ntmps110
    go_wp2
    go_ret
    simp [h1]
  · have h1 : decide (lo ≤ n) = false := decide_eq_false h
    go_enter Try.func110, Try.ntmps110
    go_wp2
    go_ret
    simp [h1]
theorem isSize_c (n : Int) (w : World) : Calls Try.prog 132 #[.int .i64 n] w fun e w' => e = .returned (.bool (withinB n 1 6)) ∧ w = w' := by
  go_enter Try.func132, Try.ntmps132
  go_wp2_with (go_at_call 110; refine (within_c _ _ _ _).mono ?_; rintro e w' ⟨rfl, rfl⟩)
  go_ret
  exact ⟨rfl, rfl⟩
theorem isIn_c (f g : Int) (w : World) : Calls Try.prog 87 #[.int .i64 f, .int .i64 g] w fun e w' => e = .returned (.bool (Go.bits .andNot .i64 f g == 0)) ∧ w = w' := by
  go_enter Try.func87, Try.ntmps87
  go_wp2
  go_ret
  exact ⟨rfl, rfl⟩
theorem less_c (a b : Int) (w : World) : Calls Try.prog 195 #[.int .i64 a, .int .i64 b] w fun e w' => e = .returned (.bool (decide (a < b))) ∧ w = w' := by
  go_enter Try.func195, Try.ntmps195
  go_wp2
  go_ret
  exact ⟨rfl, rfl⟩
/-- The set of all n vertices. -/
def fullZ (n : Int) : Int := 2 ^ n.toNat - 1
theorem full_c (n : Int) (s : Value) (w : World) (h1 : 1 ≤ n) (h6 : n ≤ 6) : Calls Try.prog 133 #[.agg #[.int .i64 n, s]] w fun e w' => e = .returned (.int .i64 (fullZ n)) ∧ Below w.heap.size w w' := by
  have hb := (Below.refl w.heap.size w).alloc (Nat.le_refl _) (.cells #[.int .i64 n, s] 26)
  obtain rfl | rfl | rfl | rfl | rfl | rfl : n = 1 ∨ n = 2 ∨ n = 3 ∨ n = 4 ∨ n = 5 ∨ n = 6 := by omega
  all_goals
    go_enter Try.func133, Try.ntmps133
    go_wp2
    go_ret
    exact ⟨rfl, hb⟩
end Go.Proofs.Ytnmhnkpijjmhjaa.Im
namespace Go.Proofs.Ytnmhnkpijjmhjaa.Im
set_option linter.unusedVariables false
set_option linter.unusedSimpArgs false
open Go.RowKit Go.Proofs.YtnmhnkpijjmhjaaW.PrintWords Go.Proofs.YtnmhnkpijjmhjaaW.PrintLast Go.Proofs.YtnmhnkpijjmhjaaW.PrintMore
theorem info64 : (Try.prog.info? 2).map (fun i => (i.zero, i.size, i.bytes)) = some (some (.int .i64 0), 1, 8) := by kernel_rfl
/-- Is v a vertex of f? -/
def bitB (f : Int) (v : Nat) : Bool := Go.bits .and .i64 (f / 2 ^ v) 1 == 1
def vertsUpto (f : Int) (k : Nat) : List Int := ((List.range k).filter (bitB f)).map (fun v : Nat => (v : Int))
def verts (f : Int) : List Int := vertsUpto f 6
theorem vertsUpto_len (f : Int) (k : Nat) : (vertsUpto f k).length ≤ k := by
  unfold vertsUpto
  rw [List.length_map]
  exact Nat.le_trans (List.length_filter_le _ _) (by simp)
theorem vertsUpto_yes {f : Int} {k : Nat} (h : bitB f k = true) : vertsUpto f (k + 1) = vertsUpto f k ++ [(k : Int)] := by
  simp [vertsUpto, List.range_succ, h]
theorem vertsUpto_no {f : Int} {k : Nat} (h : bitB f k = false) : vertsUpto f (k + 1) = vertsUpto f k := by
  simp [vertsUpto, List.range_succ, h]
set_option maxRecDepth 100000 in
set_option maxHeartbeats 2000000 in
theorem vertices_c (f : Int) (w : World) : Calls Try.prog 194 #[.int .i64 f] w fun e w' => ∃ v, e = .returned v ∧ RO w' w.heap.size v (verts f) ∧ Below w.heap.size w w' := by
  go_enter Try.func194, Try.ntmps194
  go_wp2
  go_loopw [3, 4, 5] (fun v _ i wr => ∃ k : Nat, k ≤ 6 ∧ i = .int .i64 k ∧ Aside0 (RO wr w.heap.size v (vertsUpto f k)) ∧ Aside0 (Below w.heap.size w wr)) (fun _ _ i _ => 6 - (intOf i).toNat)
  case atStart => exact ⟨0, by omega, rfl, ⟨Kd.R_nil _ _ _ _ _⟩, ⟨Below.refl _ _⟩⟩
  case round =>
    obtain ⟨k, hk, rfl, hR, hB⟩ := hrel
    by_cases hlt : k < 6
    · all_goals
        go_wp2_with (at_builtin; refine ap64 w.heap.size rfl (.tmp 13) (.tmp 15) 22 rfl Try.underlying22 info64 _ _ _ rfl rfl hR.out hB.out hB.out.size ?hl ?_; (case hl => exact Nat.le_trans (vertsUpto_len f _) (by omega)); intro v1 w1 ho hb hg hat; clear hg hat; have hR1 := Aside0.mk ho; have hB1 := Aside0.mk hb; clear ho hb)
        · go_roundw
          case rel => exact ⟨k + 1, by omega, by go_num, ⟨by rw [vertsUpto_yes (by unfold bitB; assumption)]; exact hR1.out⟩, hB1⟩
          case measure => simp [intOf]; omega
        · go_roundw
          case rel => exact ⟨k + 1, by omega, by go_num, ⟨by rw [vertsUpto_no (by unfold bitB; assumption)]; exact hR.out⟩, hB⟩
          case measure => simp [intOf]; omega
    · obtain rfl : k = 6 := by omega
      go_wp2
      go_ret
      exact ⟨_, rfl, hR.out, hB.out⟩
end Go.Proofs.Ytnmhnkpijjmhjaa.Im
namespace Go.Proofs.Ytnmhnkpijjmhjaa.Im
set_option linter.unusedVariables false
set_option linter.unusedSimpArgs false
open Go.RowKit Go.Shelf Go.Proofs.YtnmhnkpijjmhjaaW.PrintWords Go.Proofs.YtnmhnkpijjmhjaaW.PrintLast Go.Proofs.YtnmhnkpijjmhjaaW.PrintMore
attribute [local go_sem] Oper.semAt_some
/-- What has come when k rounds are over. -/
def upto {α : Type} (f : Nat → α) (k : Nat) : List α := (List.range k).map f
theorem upto_succ {α : Type} (f : Nat → α) (k : Nat) : upto f (k + 1) = upto f k ++ [f k] := by simp [upto, List.range_succ]
theorem upto_length {α : Type} (f : Nat → α) (k : Nat) : (upto f k).length = k := by simp [upto]
/-- The blocks from n₁ to n₂ lie as they lay. -/
def Rng (n₁ n₂ : Nat) (W W' : World) : Prop := ∀ k, n₁ ≤ k → k < n₂ → W'.heap[k]? = W.heap[k]?
theorem Rng.refl (n₁ n₂ : Nat) (W : World) : Rng n₁ n₂ W W := fun _ _ _ => rfl
theorem Rng.trans {n₁ n₂ : Nat} {A B C : World} (h : Rng n₁ n₂ A B) (k : Rng n₁ n₂ B C) : Rng n₁ n₂ A C := fun i h1 h2 => (k i h1 h2).trans (h i h1 h2)
theorem Rng.cell {n₁ n₂ : Nat} {A B : World} (h : Rng n₁ n₂ A B) {p : Addr} (h1 : n₁ ≤ p.block) (h2 : p.block < n₂) : B.cell? p = A.cell? p := World.cell?_of_block (h p.block h1 h2)
theorem Rng.putObj {n₁ n₂ : Nat} {w : World} (hn : n₂ ≤ w.heap.size) (W : World) (l : Nat) (o o' : Obj) (hl : w.heap.size ≤ l) (h : W.heap[l]? = some o) (_ : o.isCells = false) (_ : o.isWalk = false) : Rng n₁ n₂ W (W.putObj l o') :=
  fun k _ h2 => (grownBy_putObj' W l o').block k (by have := (Array.getElem?_eq_some_iff.1 h).1; omega) (by intro e; cases e; omega)
/-- The pairs that slices.Backward gives. -/
def backAt {α : Type} (len : Nat) (e : Nat → α) (j : Nat) : Nat × α := (len - 1 - j, e (len - 1 - j))
set_option maxRecDepth 100000 in
set_option maxHeartbeats 2000000 in
theorem backward1_in {α : Type} (val : α → Int) (F : Fence) (n : Nat) (h7 : F.fn 219) (hro : F.round = none) (hn : 1 ≤ n) (l Bs n₁ n₂ g cap len : Nat) (el : Nat → α) (hreach : len * 8 ≤ 140737488351232) (hB1 : n₁ ≤ Bs) (hB2 : Bs < n₂) (hg1 : n₁ ≤ g) (hg2 : g < n₂) (J Jx : List (Nat × α) → World → Prop)
    (hY : ∀ pre x W, J pre W → pre.length < len → YieldAt F (n - 1) Try.prog l #[.int .i64 (x.1 : Int), .int .i64 (val x.2)] W fun e W' =>
      (e = .returned (.bool true) ∧ J (pre ++ [x]) W' ∧ Rng n₁ n₂ W W') ∨ (e = .returned (.bool false) ∧ Jx (pre ++ [x]) W'))
    (W : World) (hBs : W.cell? ⟨Bs, 0, none⟩ = some (.slice (some ⟨g, 0, none⟩) len cap)) (hc : ∀ j, j < len → W.cell? ⟨g, j, none⟩ = some (.int .i64 (val (el j)))) (h0 : J [] W) :
    CallsIn F n Try.prog 219 #[.func (.yield l) #[] #[], .pointer (some ⟨Bs, 0, none⟩)] W fun e W' => (∃ v, e = .returned v) ∧
      ((∃ ys, ys = upto (backAt len el) len ∧ J ys W') ∨ (∃ pre, (∃ k, k ≤ len ∧ pre = upto (backAt len el) k) ∧ Jx pre W')) := by
  refine callsIn_of_wp Try.func219 rfl h7 ?_ hro
  simp only [Try.ntmps219, List.size_toArray, List.length_cons, List.length_nil, Nat.reduceAdd, Nat.reduceSub, Array.replicate_succ, Array.replicate_zero, List.push_toArray, List.append_toArray, List.nil_append, List.cons_append]
  gi_wp2
  gi_loopw [3] (fun i wr => ∃ k : Nat, k ≤ len ∧ ((k < len ∧ i = .int .i64 ((len - 1 - k : Nat) : Int)) ∨ (k = len ∧ i = .int .i64 (-1))) ∧ J (upto (backAt len el) k) wr ∧ Aside0 (Rng n₁ n₂ W wr))
    (fun i _ => (intOf i + 1).toNat)
  case atStart =>
    refine ⟨0, Nat.zero_le _, ?_, h0, ⟨Rng.refl _ _ _⟩⟩
    rcases Nat.eq_zero_or_pos len with e0 | e0
    · right; exact ⟨e0.symm, by rw [e0]; rfl⟩
    · left; exact ⟨e0, by congr 1; omega⟩
  case round =>
    obtain ⟨k, hk, hi, hJs, hnx⟩ := hrel
    rcases hi with ⟨hlt, rfl⟩ | ⟨rfl, rfl⟩
    · obtain ⟨m, hm⟩ : ∃ m, m = len - 1 - k := ⟨_, rfl⟩
      have hml : m < len := by omega
      have hcx : wr.cell? ⟨g, m, none⟩ = some (.int .i64 (val (el m))) := (hnx.out.cell (p := ⟨g, m, none⟩) hg1 hg2).trans (hc m hml)
      have hbx : wr.cell? ⟨Bs, 0, none⟩ = some (.slice (some ⟨g, 0, none⟩) len cap) := (hnx.out.cell (p := ⟨Bs, 0, none⟩) hB1 hB2).trans hBs
      obtain ⟨y, hyy⟩ : ∃ y, el m = y := ⟨_, rfl⟩
      rw [hyy] at hcx
      obtain ⟨fn, tmps, assign, body, hy, hR⟩ := hY _ (m, y) wr hJs (by rw [upto_length]; exact hlt)
      have HE : Aside0 (backAt len el k = (m, y)) := ⟨by unfold backAt; rw [← hm, hyy]⟩
      clear hyy
      dsimp only at hy
      have HM := Lib.hid hm
      rw [← hm]
      clear hc hBs hm
      gi_wp2
      refine hR.mono ?_
      rintro e' W3 (⟨rfl, hJ3, hk3⟩ | ⟨rfl, hJx3⟩)
      · have hk3' := Aside0.mk hk3
        clear hk3
        gi_wp2
        go_roundw
        case rel =>
          refine ⟨k + 1, by omega, ?_, by rw [upto_succ, HE.out]; exact hJ3, ⟨hnx.out.trans hk3'.out⟩⟩
          have := HM.out
          rcases Nat.eq_zero_or_pos m with e0 | e0
          · right; exact ⟨by omega, by rw [e0]; rfl⟩
          · left; exact ⟨by omega, by congr 1; omega⟩
        case measure => simp [intOf] <;> omega
      · gi_wp2
        refine bodyPost_ret (results_none rfl _ _ _) rfl ?_
        exact ⟨⟨_, rfl⟩, .inr ⟨_, ⟨k + 1, by omega, by rw [upto_succ, HE.out]⟩, hJx3⟩⟩
    · gi_wp2
      go_end0
      exact ⟨⟨_, rfl⟩, .inl ⟨_, rfl, hJs⟩⟩
set_option maxRecDepth 100000 in
set_option maxHeartbeats 1000000 in
theorem backward1_nil_in {α : Type} (F : Fence) (n : Nat) (h7 : F.fn 219) (hro : F.round = none) (l Bs : Nat) (a : Option Addr) (cap : Nat) (J : List α → World → Prop) (W : World) (hBs : W.cell? ⟨Bs, 0, none⟩ = some (.slice a 0 cap)) (h0 : J [] W) :
    CallsIn F n Try.prog 219 #[.func (.yield l) #[] #[], .pointer (some ⟨Bs, 0, none⟩)] W fun e W' => (∃ v, e = .returned v) ∧ J [] W' := by
  refine callsIn_of_wp Try.func219 rfl h7 ?_ hro
  simp only [Try.ntmps219, List.size_toArray, List.length_cons, List.length_nil, Nat.reduceAdd, Nat.reduceSub, Array.replicate_succ, Array.replicate_zero, List.push_toArray, List.append_toArray, List.nil_append, List.cons_append]
  gi_wp2
  gi_loopw [3] (fun i wr => i = .int .i64 (-1) ∧ J [] wr) (fun _ _ => 0)
  case atStart => exact ⟨rfl, h0⟩
  case round =>
    obtain ⟨rfl, hJs⟩ := hrel
    gi_wp2
    go_end0
    exact ⟨⟨_, rfl⟩, hJs⟩
set_option maxHeartbeats 1000000 in
theorem backward_in (F : Fence) (n : Nat) (h5 : F.fn 193) (hro : F.round = none) (a : Option Addr) (len cap : Nat) (w : World) :
    CallsIn F n Try.prog 193 #[.slice a len cap] w fun e w' => e = .returned (.func (.func 219) #[] #[.pointer (some ⟨w.heap.size, 0, none⟩)]) ∧ w' = w.alloc (.cells #[.slice a len cap] 22) := by
  refine callsIn_of_wp Try.func193 rfl h5 ?_ hro
  simp only [Try.ntmps193, List.size_toArray, List.length_cons, List.length_nil, Nat.reduceAdd, Nat.reduceSub, Array.replicate_succ, Array.replicate_zero, List.push_toArray, List.append_toArray, List.nil_append, List.cons_append]
  gi_wp2
  go_ret
  exact ⟨rfl, rfl⟩
theorem ownsRow_ints {w : World} {base : Nat} {v : Value} {zs : List Int} (h : w.ownsRow base 2 1 v zs.length (zs.map (Value.int .i64))) :
    (v = .slice none 0 0 ∧ zs = []) ∨ ∃ g cap, v = .slice (some ⟨g, 0, none⟩) zs.length cap ∧ base ≤ g ∧ g < w.heap.size ∧ ∀ j, j < zs.length → w.cell? ⟨g, j, none⟩ = some (.int .i64 (zs[j]?.getD 0)) := by
  rcases h.2 with ⟨rfl, e⟩ | ⟨g, cap, cur, rfl, hb, hh, _⟩
  · exact .inl ⟨rfl, List.eq_nil_of_length_eq_zero e⟩
  · refine .inr ⟨g, cap, rfl, hb, (Array.getElem?_eq_some_iff.1 hh).1, fun j hj => ?_⟩
    have hcx := h.cells (g := g) rfl j (.int .i64 (zs[j]?.getD 0)) (by simp [List.getElem?_eq_getElem hj])
    have ha : (⟨g, 0, none⟩ : Addr).add j = ⟨g, j, none⟩ := by unfold Addr.add; split <;> simp_all
    rwa [ha] at hcx
theorem backward_stops {α : Type} (val : α → Int) (F : Fence) (n : Nat) (h7 : F.fn 219) (hro : F.round = none) (hn : 1 ≤ n) (Bs n₁ n₂ len : Nat) (sv : Value) (e : Nat → α) (zs : List Int) (hz : zs.length = len) (hez : ∀ j, j < len → val (e j) = zs[j]?.getD 0) (hreach : len * 8 ≤ 140737488351232) (w : World) (hB1 : n₁ ≤ Bs) (hB2 : Bs < n₂) (hn2 : n₂ = w.heap.size)
    (hc : w.cell? ⟨Bs, 0, none⟩ = some sv) (hI : w.ownsRow n₁ 2 1 sv zs.length (zs.map (Value.int .i64))) :
    SeqStopsK F n Try.prog 219 #[.pointer (some ⟨Bs, 0, none⟩)] (fun x : Nat × α => #[Value.int .i64 (x.1 : Int), Value.int .i64 (val x.2)]) (Rng n₁ n₂) (fun ys => ys = upto (backAt len e) len)
      (fun pre => ∃ k, k ≤ len ∧ pre = upto (backAt len e) k) len w := fun l J Jx W hW _ _ hY h0 => by
  have hc' := (hW.cell (p := ⟨Bs, 0, none⟩) (by show Bs < _; omega)).trans hc
  subst hz
  rcases ownsRow_ints hI with ⟨rfl, rfl⟩ | ⟨g, cap, rfl, hg, hgs, hcs⟩
  · exact (backward1_nil_in F n h7 hro l Bs none 0 J W hc' h0).mono fun e W' ⟨he, hj⟩ => ⟨he, .inl ⟨_, rfl, hj⟩⟩
  · exact backward1_in val F n h7 hro hn l Bs n₁ n₂ g cap zs.length e hreach hB1 hB2 hg (by omega) J Jx hY W hc' (fun j hj => (hW.cell (p := ⟨g, j, none⟩) hgs).trans ((hcs j hj).trans (by rw [hez j hj]))) h0
/-- A vertex. -/
abbrev V6 := { v : Int // 0 ≤ v ∧ v ≤ 5 }
def delV (f : Int) (v : Int) : Int := Go.bits .andNot .i64 f (2 ^ v.toNat)
def bordersOf (f : Int) (ys : List (Nat × V6)) : List Int := (ys.map fun y => delV f y.2.1).filter fun r => r != 0
theorem bordersOf_yes {f : Int} (pre : List (Nat × V6)) {x : Nat × V6} (h : (delV f x.2.1 != 0) = true) : bordersOf f (pre ++ [x]) = bordersOf f pre ++ [delV f x.2.1] := by
  simp [bordersOf, bne_iff_ne.1 h]
theorem bordersOf_no {f : Int} (pre : List (Nat × V6)) {x : Nat × V6} (h : (delV f x.2.1 != 0) = false) : bordersOf f (pre ++ [x]) = bordersOf f pre := by
  simp [bordersOf, bne_eq_false_iff_eq.1 h]
theorem bordersOf_len (f : Int) (pre : List (Nat × V6)) : (bordersOf f pre).length ≤ pre.length := by
  unfold bordersOf
  exact Nat.le_trans (List.length_filter_le _ _) (by simp)
theorem verts_mem {f v : Int} (h : v ∈ verts f) : 0 ≤ v ∧ v ≤ 5 := by
  unfold verts vertsUpto at h
  simp only [List.mem_map, List.mem_filter, List.mem_range] at h
  obtain ⟨a, ⟨ha, _⟩, rfl⟩ := h
  omega
/-- Vertex number j of a face. -/
def vertAt (f : Int) (j : Nat) : V6 := ⟨(verts f)[j]?.getD 0, by
  rcases h : (verts f)[j]? with _ | v
  · simp
  · exact verts_mem (f := f) (List.mem_of_getElem? h)⟩
def bordersL (f : Int) : List Int := bordersOf f (upto (backAt (verts f).length (vertAt f)) (verts f).length)
theorem verts_len (f : Int) : (verts f).length ≤ 6 := vertsUpto_len f 6
theorem RO.row {w : World} {base : Nat} {v : Value} {xs : List Int} (h : RO w base v xs) : w.ownsRow base 2 1 v xs.length (xs.map (Value.int .i64)) := by
  obtain ⟨_, inner, ho, hr⟩ := h
  have : inner = xs.map (Value.int .i64) := by
    apply List.ext_getElem
    · have := hr.1; simpa [Kd.int, Kd.scalar] using this
    · intro i h1 h2
      have h3 := hr.2 i (xs[i]'(by simpa using h2)) (List.getElem?_eq_getElem _)
      have h4 : (inner.drop (i * 1)).take 1 = [Value.int .i64 (xs[i]'(by simpa using h2))] := h3
      rw [Nat.mul_one, List.drop_eq_getElem_cons h1, List.take_succ_cons, List.take_zero] at h4
      rw [(List.cons.inj h4).1, List.getElem_map]
  rw [this] at ho
  exact ho
theorem RO.of_row {w : World} {base : Nat} {v : Value} {xs : List Int} (h : w.ownsRow base 2 1 v xs.length (xs.map (Value.int .i64))) : RO w base v xs := by
  refine ⟨fun _ _ => trivial, xs.map (Value.int .i64), h, ⟨by simp [Kd.int, Kd.scalar], fun j p hp => ?_⟩⟩
  obtain ⟨hj, rfl⟩ := List.getElem?_eq_some_iff.1 hp
  show ((xs.map (Value.int .i64)).drop (j * 1)).take 1 = [Value.int .i64 xs[j]]
  rw [Nat.mul_one, List.drop_eq_getElem_cons (by simpa using hj)]
  simp
/-- 'out = append(out, x)', out in a box below the rows: what the round leaves. -/
theorem round_app {Wd w1 : World} {B n₀ n₁ n₂ t e k : Nat} {v v' : Value} {xs ys : List Value} {m : Nat} {tmp : Obj} (hv : Boxed Wd B t v) (hrow : Wd.ownsRow n₂ e 1 v k xs) (hg : (Wd.alloc tmp).grownBy w1 v.ownBlock) (ho : w1.ownsRow n₂ e 1 v' m ys)
    (hB : B < n₁) (hn : n₀ ≤ B) (hs : n₂ ≤ Wd.heap.size) (hte : t ≠ e := by decide) (hn12 : n₁ ≤ n₂ := by omega) :
    Boxed (w1.setCell ⟨B, 0, none⟩ v') B t v' ∧ (w1.setCell ⟨B, 0, none⟩ v').ownsRow n₂ e 1 v' m ys ∧ Rng n₁ n₂ Wd (w1.setCell ⟨B, 0, none⟩ v') ∧ KeepsOthers Wd (w1.setCell ⟨B, 0, none⟩ v') ∧
      (∀ b, b < n₂ → b ≠ B → b < Wd.heap.size → ∀ o, (w1.setCell ⟨B, 0, none⟩ v').cell? ⟨b, o, none⟩ = Wd.cell? ⟨b, o, none⟩) ∧ Below n₀ Wd (w1.setCell ⟨B, 0, none⟩ v') := by
  have hr2 := own_weaken hrow (show n₀ ≤ n₂ by omega)
  have ho2 := own_weaken ho (show n₀ ≤ n₂ by omega)
  obtain ⟨h1, h2, h3, h4, h5⟩ := hv.appended hte hr2 (by omega) hn ho2 hg
  have hb : ∀ b, b < n₂ → b ≠ B → b < Wd.heap.size → (w1.setCell ⟨B, 0, none⟩ v').heap[b]? = Wd.heap[b]? := by
    intro b hb1 hb2 hb3
    rw [Below.heap_setCell _ _ _ _ hb2, hg.block b (by simp; omega) (fun e => by have := own_base hrow b e.symm; omega)]
    exact Below.heap_alloc _ _ _ hb3
  refine ⟨h2, ?_, fun b hb1 hb2 => hb b hb2 (by omega) (by omega), h4, fun b hb1 hb2 hb3 o => World.cell?_of_block (hb b hb1 hb2 hb3), h5⟩
  exact ho.kept (grownBy_setCell' w1 B v') (.inr ((h1.not_row hte ho).symm))
/-- The loop's relation, and what a round leaves. -/
def BI (f : Int) (w wv : World) (pre : List (Nat × V6)) (W : World) : Prop :=
  ((∃ v, Boxed W (w.heap.size + 1) 22 v ∧ W.ownsRow (wv.heap.size + 1) 2 1 v (bordersOf f pre).length ((bordersOf f pre).map (Value.int .i64)) ∧ True) ∧ W.cell? ⟨w.heap.size, 0, none⟩ = some (.int .i64 f) ∧ wv.heap.size + 1 ≤ W.heap.size) ∧ Below w.heap.size w W
theorem body_yes {f : Int} {w wv W Wd w1 : World} {pre : List (Nat × V6)} {x : Nat × V6} {v v' : Value} {tmp : Obj} {B : Nat} (U1 : Boxed Wd (w.heap.size + 1) 22 v) (U2 : Wd.ownsRow (wv.heap.size + 1) 2 1 v (bordersOf f pre).length ((bordersOf f pre).map (Value.int .i64)))
    (X2 : (Wd.alloc tmp).grownBy w1 v.ownBlock) (X1 : w1.ownsRow (wv.heap.size + 1) 2 1 v' ((bordersOf f pre).length + 1) ((bordersOf f pre).map (Value.int .i64) ++ [.int .i64 (delV f x.2.1)])) (U3 : Below w.heap.size w Wd) (U4 : KeepsOthers W Wd)
    (U5 : Rng (w.heap.size + 2) (wv.heap.size + 1) W Wd) (U6 : Wd.cell? ⟨w.heap.size, 0, none⟩ = some (.int .i64 f)) (U8 : wv.heap.size + 1 ≤ Wd.heap.size) (hwv : w.heap.size + 2 ≤ wv.heap.size) (hx : (delV f x.2.1 != 0) = true) :
    KeepsFrom B W (w1.setCell ⟨w.heap.size + 1, 0, none⟩ v') ∧ Rng (w.heap.size + 2) (wv.heap.size + 1) W (w1.setCell ⟨w.heap.size + 1, 0, none⟩ v') ∧ BI f w wv (pre ++ [x]) (w1.setCell ⟨w.heap.size + 1, 0, none⟩ v') := by
  obtain ⟨G1, G2, G3, G4, G5, G6⟩ := round_app (n₀ := w.heap.size) (n₁ := w.heap.size + 2) U1 U2 X2 X1 (by omega) (by omega) U8
  refine ⟨(U4.trans G4).from _, U5.trans G3, ⟨⟨_, G1, ?_, trivial⟩, (G5 w.heap.size (by omega) (by omega) (by omega) 0).trans U6, Nat.le_trans U8 G4.size⟩, U3.trans G6⟩
  rw [bordersOf_yes pre hx]
  simpa using G2
theorem body_no {f : Int} {w wv W Wd : World} {pre : List (Nat × V6)} {x : Nat × V6} {v : Value} {B : Nat} (U1 : Boxed Wd (w.heap.size + 1) 22 v) (U2 : Wd.ownsRow (wv.heap.size + 1) 2 1 v (bordersOf f pre).length ((bordersOf f pre).map (Value.int .i64)))
    (U3 : Below w.heap.size w Wd) (U4 : KeepsOthers W Wd) (U5 : Rng (w.heap.size + 2) (wv.heap.size + 1) W Wd) (U6 : Wd.cell? ⟨w.heap.size, 0, none⟩ = some (.int .i64 f)) (U8 : wv.heap.size + 1 ≤ Wd.heap.size) (hx : (delV f x.2.1 != 0) = false) :
    KeepsFrom B W Wd ∧ Rng (w.heap.size + 2) (wv.heap.size + 1) W Wd ∧ BI f w wv (pre ++ [x]) Wd :=
  ⟨U4.from _, U5, ⟨⟨_, U1, by rw [bordersOf_no pre hx]; exact U2, trivial⟩, U6, U8⟩, U3⟩
set_option maxRecDepth 100000 in
set_option maxHeartbeats 2000000 in
theorem borders_c (f : Int) (w : World) : Calls Try.prog 135 #[.int .i64 f] w fun e w' => ∃ v, e = .returned v ∧ RO w' w.heap.size v (bordersL f) ∧ Below w.heap.size w w' := by
  have h1 : 1 ≤ 5 := by omega
  have f1 : Fence.wide.fn 194 := trivial
  have f2 : Fence.wide.fn 193 := trivial
  obtain ⟨i0, hi, hz0, hz1, hz2⟩ := info_parts info64
  refine (callsIn_wide (n := 5)).1 ?_
  refine callsIn_of_wp_marks Try.func135 rfl trivial ?_ rfl
  simp only [Try.ntmps135, List.size_toArray, List.length_cons, List.length_nil, Nat.reduceAdd, Nat.reduceSub, Array.replicate_succ, Array.replicate_zero, List.push_toArray, List.append_toArray, List.nil_append, List.cons_append]
  have B0 := Boxed.new w 2 (.int .i64 f)
  have B1 := Boxed.new (w.alloc (.cells #[.int .i64 f] 2)) 22 (.slice none 0 0)
  rw [World.size_alloc] at B1
  have hBw : Below w.heap.size w ((w.alloc (.cells #[.int .i64 f] 2)).alloc (.cells #[.slice none 0 0] 22)) := ((Below.refl _ w).alloc (Nat.le_refl _) _).alloc (by simp) _
  have BB0 := Aside0.mk (B0.alloc (.cells #[.slice none 0 0] 22))
  have BB1 := Aside0.mk B1
  have HBw := Aside0.mk hBw
  clear B0 B1 hBw
  gi_wp2_with (first
    | (gi_at_call 194; refine (callsIn_wide.2 (vertices_c _ _)).mono ?_; rintro e wv ⟨v, rfl, hR, hB⟩; have HR := Aside0.mk hR; have HB := Aside0.mk hB; clear hR hB; obtain ⟨Av, cv, rfl⟩ := Kd.R_slice HR.out)
    | (gi_at_call 193; refine (backward_in _ _ trivial rfl _ _ _ _).mono ?_; rintro e w' ⟨rfl, rfl⟩))
  have hsz : w.heap.size + 2 ≤ wv.heap.size := by have := HB.out.size; simpa using this
  have hb2 : ((w.alloc (.cells #[.int .i64 f] 2)).alloc (.cells #[.slice none 0 0] 22)).heap.size = w.heap.size + 2 := by simp
  have BB0v : Boxed (wv.alloc (.cells #[.slice Av (verts f).length cv] 22)) w.heap.size 2 (.int .i64 f) := Boxed.alloc ((HB.out.block w.heap.size (by rw [hb2]; omega)).trans BB0.out) _
  have BB1v : Boxed (wv.alloc (.cells #[.slice Av (verts f).length cv] 22)) (w.heap.size + 1) 22 (.slice none 0 0) := Boxed.alloc ((HB.out.block (w.heap.size + 1) (by rw [hb2]; omega)).trans BB1.out) _
  have bN := Boxed.new wv 22 (.slice Av (verts f).length cv)
  have hB0 : Below w.heap.size w (wv.alloc (.cells #[.slice Av (verts f).length cv] 22)) := (HBw.out.trans (HB.out.mono (by rw [hb2]; omega))).alloc (by omega) _
  have hrow : (wv.alloc (.cells #[.slice Av (verts f).length cv] 22)).ownsRow (w.heap.size + 2) 2 1 (.slice Av (verts f).length cv) (verts f).length ((verts f).map (Value.int .i64)) := by
    have := HR.out.row
    rw [hb2] at this
    exact this.alloc _
  refine wpIn_rangeFunc_ownG rfl h1 (gf := 219) (lb := #[.pointer (some ⟨wv.heap.size, 0, none⟩)]) rfl trivial (enters_of Try.func219 (by kernel_rfl) rfl)
    (backward_stops (fun x : V6 => x.1) Fence.wide (5 - 1) trivial rfl (by omega) wv.heap.size (w.heap.size + 2) (wv.heap.size + 1) (verts f).length _ (vertAt f) (verts f) rfl (fun _ _ => rfl) (by have := verts_len f; omega) _ (by omega) (by omega) (by simp) bN.cell hrow)
    (fun h k => h.trans k) (Rng.putObj (by simp)) (Below.refl _ _) (fun _ => rfl)
    (BI f w wv)
    (fun _ _ _ => False)
    (OwnFrom.and (OwnFrom.and (Own.from (holdsRow_own (wv.heap.size + 1) (w.heap.size + 1) 22 2 1 (fun pre => (bordersOf f pre).length) (fun pre => (bordersOf f pre).map (Value.int .i64)) (fun _ _ => True)) _) (Own.from (fun s A B row hs hg hr => ⟨cell_kept hs.1 hg hr, Nat.le_trans hs.2 hg.size⟩) _)) (ownFrom_below (Nat.le_refl _) (by simp; omega)))
    (fun _ _ _ _ _ hs _ _ => hs)
    ⟨⟨⟨_, BB1v, World.ownsRow_nil _ _ _ _, trivial⟩, BB0v.cell, by simp⟩, hB0⟩
    (fun x => { tmps := #[.int .i64 f, .pointer (some ⟨w.heap.size, 0, none⟩), .slice none 0 0, .pointer (some ⟨w.heap.size + 1, 0, none⟩), undef, .int .i64 x.2.1, undef, .int .i64 f, .slice Av (verts f).length cv, .func (.func 219) #[] #[.pointer (some ⟨wv.heap.size, 0, none⟩)], .int .i64 (x.1 : Int), .int .i64 x.2.1, undef, undef, undef, undef, undef, undef, undef, undef, undef, undef, undef], defers := [] }) ?assign ?body ?done ?stop
  case assign =>
    intro l x W K hK
    gi_wp2
    exact hK
  case body =>
    rintro l pre x W ⟨⟨⟨v, hv, hrow, _⟩, hcf, hsW⟩, hB⟩ hlt
    obtain ⟨xi, xv, hx0, hx5⟩ := x
    obtain ⟨m, rfl⟩ := Int.eq_ofNat_of_zero_le hx0
    have hm5 : m ≤ 5 := by omega
    have hshl : (IntKind.i64.wrap (2 ^ m)) = ((2 ^ m : Nat) : Int) := by
      obtain rfl | rfl | rfl | rfl | rfl | rfl : m = 0 ∨ m = 1 ∨ m = 2 ∨ m = 3 ∨ m = 4 ∨ m = 5 := by omega
      all_goals rfl
    have V1 : Boxed W.drew (w.heap.size + 1) 22 v := hv
    have V2 : W.drew.ownsRow (wv.heap.size + 1) 2 1 v (bordersOf f pre).length ((bordersOf f pre).map (Value.int .i64)) := hrow
    have V3 : Below w.heap.size w W.drew := hB.drew
    have V4 : KeepsOthers W W.drew := KeepsOthers.drew W
    have V5 : Rng (w.heap.size + 2) (wv.heap.size + 1) W W.drew := fun _ _ _ => rfl
    have V8 : wv.heap.size + 1 ≤ W.drew.heap.size := hsW
    have V6 : W.drew.cell? ⟨w.heap.size, 0, none⟩ = some (.int .i64 f) := hcf
    have V7 : W.drew.cell? ⟨w.heap.size + 1, 0, none⟩ = some v := hv.cell
    have hwv : w.heap.size + 2 ≤ wv.heap.size := hsz
    have hpl : (bordersOf f pre).length ≤ 5 := by have := bordersOf_len f pre; have := verts_len f; omega
    have hmx : Try.prog.follows .mixedOrders = true := by kernel_rfl
    have hcf' := hcf
    gi_wp2
    gi_region_o
    all_goals
      generalize W.drew = Wd at V1 V2 V3 V4 V5 V6 V7 V8 ⊢
      have U1 := Aside0.mk V1; have U2 := Aside0.mk V2; have U3 := Aside0.mk V3; have U4 := Aside0.mk V4; have U5 := Aside0.mk V5; have U6 := Aside0.mk V6; have U8 := Aside0.mk V8; 
      clear V1 V2 V3 V4 V5 V6 V8 hv hrow hB hcf hcf' hsW
      gi_wp2_with (gi_at_builtin; refine wpListIn_append_own _ rfl (.tmp 18) (.tmp 20) 22 rfl (wv.heap.size + 1) 2 i0 (.int .i64 0) 1 8 Try.underlying22 hi hz0 hz1 hz2 rfl (by decide) v _ _ rfl (U2.out.alloc _) ⟨Wd.heap.size, 0, none⟩ 1 1 [.int .i64 (delV f (m : Int))] rfl rfl (cell_one_new _ _ _) (by simp [Value.oneCell']) (by simp only [maxLen]; omega) (by omega) ?hsz ?_; (case hsz => have := U8.out; simp; omega); intro v' w1 hown' hgrow hnn; clear hnn; obtain ⟨g', cap', rfl⟩ := ownsRow_succ hown'; have hv1 : Boxed w1 (w.heap.size + 1) 22 v := (U1.out.alloc _).kept hgrow (U1.out.not_row (by decide) U2.out); have hc1 := hv1.cell; have hf1 := hv1.frozen; have X1 := Aside0.mk hown'; have X2 := Aside0.mk hgrow; have X3 := Aside0.mk hv1; clear hown' hgrow hv1 V7)
      · have hx : (delV f (m : Int) != 0) = true := by unfold delV; assumption
        exact body_yes (x := ⟨xi, m, hx0, hx5⟩) U1.out U2.out X2.out X1.out U3.out U4.out U5.out U6.out U8.out hwv hx
      · have hx : (delV f (m : Int) != 0) = false := by unfold delV; assumption
        exact body_no (x := ⟨xi, m, hx0, hx5⟩) U1.out U2.out U3.out U4.out U5.out U6.out U8.out hx
  case done =>
    rintro D ys W hD rfl ⟨⟨⟨v, hv, hrow, _⟩, hcf, hsW⟩, hB⟩ hK
    have hc := hv.cell
    gi_wp2
    refine ⟨by simp, .inl ⟨_, _, rfl, run_takeDeferred hK, ?_⟩⟩
    have hD' : wv.heap.size + 1 ≤ D := by simpa using hD
    exact ⟨_, results_tmp rfl _ _ _, v, rfl, RO.of_row (own_weaken (ownsRow_putObj hrow _ hK rfl) (by omega)), hB.trans (belowK_b (w := w) (Nat.le_refl _) W D _ _ (by omega) hK rfl rfl)⟩
  case stop =>
    rintro D c pre W _ _ h _
    exact h.elim
end Go.Proofs.Ytnmhnkpijjmhjaa.Im
namespace Go.Proofs.Ytnmhnkpijjmhjaa.Im
set_option linter.unusedVariables false
set_option linter.unusedSimpArgs false
open Go.RowKit Go.Shelf Go.Proofs.YtnmhnkpijjmhjaaW.PrintWords Go.Proofs.YtnmhnkpijjmhjaaW.PrintLast Go.Proofs.YtnmhnkpijjmhjaaW.PrintMore
/-- The place of the first element of which p holds, or -1. -/
def firstI (p : Int → Bool) (xs : List Int) : Int := if xs.any p then (xs.findIdx p : Int) else -1
theorem firstI_hit {p : Int → Bool} {xs : List Int} {k : Nat} {y : Int} (hk : k < xs.length) (hy : xs[k]?.getD 0 = y) (hp : p y = true) (hb : ∀ j, j < k → p (xs[j]?.getD 0) = false) : firstI p xs = (k : Int) := by
  have hxk : xs[k] = y := by rw [List.getElem?_eq_getElem hk] at hy; simpa using hy
  have ha : xs.any p = true := List.any_eq_true.2 ⟨xs[k], List.getElem_mem hk, by rw [hxk]; exact hp⟩
  have hf : xs.findIdx p = k := by
    rw [List.findIdx_eq hk]
    refine ⟨by rw [hxk]; exact hp, fun j hj => ?_⟩
    have := hb j hj
    rw [List.getElem?_eq_getElem (show j < xs.length by omega)] at this
    simpa using this
  rw [firstI, if_pos ha, hf]
theorem firstI_miss {p : Int → Bool} {xs : List Int} (hb : ∀ j, j < xs.length → p (xs[j]?.getD 0) = false) : firstI p xs = -1 := by
  have ha : ¬ xs.any p = true := by
    intro h
    obtain ⟨x, hx, hp⟩ := List.any_eq_true.1 h
    obtain ⟨j, hj, rfl⟩ := List.mem_iff_getElem.1 hx
    have := hb j hj
    rw [List.getElem?_eq_getElem hj] at this
    simp at this
    rw [this] at hp; cases hp
  rw [firstI, if_neg ha]
theorem firstI_nonneg (p : Int → Bool) (xs : List Int) : decide (0 ≤ firstI p xs) = xs.any p := by
  unfold firstI
  split
  · rename_i h; rw [h]; simp
  · rename_i h; rw [Bool.eq_false_iff.2 h]; rfl
theorem RC.at_ {w W : World} {A : Option Addr} {n : Nat} {xs : List Int} (h : RC w A n xs) (hb : Below w.heap.size w W) {k : Nat} (hk : k < n) : ∃ ad, A = some ad ∧ W.cell? (ad.add k) = some (.int .i64 (xs[k]?.getD 0)) := by
  obtain ⟨ad, e, hc⟩ := Kd.at_int (Kd.C_below h hb) k (by omega) (by omega)
  exact ⟨ad, e, by simpa [rd] using hc⟩
theorem RC.len {w : World} {A : Option Addr} {n : Nat} {xs : List Int} (h : RC w A n xs) : xs.length = n ∧ n ≤ 9223372036854775807 := ⟨h.1, h.2.1⟩
set_option maxRecDepth 100000 in
set_option maxHeartbeats 1000000 in
theorem indexFunc_c (A : Option Addr) (n c : Nat) (xs : List Int) (fv : Value) (dom : Int → Prop) (p : Int → Bool) (w : World) (hr : RC w A n xs) (hf : FnB Try.prog fv dom p w) (hd : ∀ x ∈ xs, dom x) :
    Calls Try.prog 156 #[.slice A n c, fv] w fun e w' => e = .returned (.int .i64 (firstI p xs)) ∧ Below w.heap.size w w' := by
  obtain ⟨g, fs, lb, rfl, eg, hcall⟩ := hf
  have hl := hr.len
  have hbig := hl.2
  have HR := Aside0.mk hr
  have HC := Aside0.mk hcall
  have HL := Aside0.mk hl.1
  have HD := Aside0.mk hd
  clear hr hcall hl hd
  go_enter Try.func156, Try.ntmps156
  go_wp2
  go_loopw [5, 8] (fun _ i wr => ∃ k : Nat, k ≤ n ∧ i = .int .i64 k ∧ Aside0 (Below w.heap.size w wr) ∧ Aside0 (∀ j, j < k → p (xs[j]?.getD 0) = false)) (fun _ i _ => n - (intOf i).toNat)
  case atStart => exact ⟨0, by omega, rfl, ⟨Below.refl _ _⟩, ⟨fun j hj => absurd hj (Nat.not_lt_zero _)⟩⟩
  case round =>
    obtain ⟨k, hk, rfl, hB, hA⟩ := hrel
    by_cases hlt : k < n
    · have hltz : (k : Int) < (n : Int) := by omega
      obtain ⟨ad, rfl, hcell⟩ := HR.out.at_ hB.out hlt
      obtain ⟨y, hy⟩ : ∃ y, xs[k]?.getD 0 = y := ⟨_, rfl⟩
      rw [hy] at hcell
      have HY := Aside0.mk hy
      have hdy : dom y := by
        have hkl : k < xs.length := by rw [HL.out]; exact hlt
        rw [List.getElem?_eq_getElem hkl] at hy
        rw [← hy]
        exact HD.out _ (List.getElem_mem hkl)
      have hcy := HC.out wr y hB.out hdy
      clear hy hdy
      have HCY := Aside0.mk hcy
      clear hcy
      cases hq : p y with
      | true =>
        rw [hq] at HCY
        have HQ := Aside0.mk hq
        clear hq
        go_wp2_with (go_at_fn g; refine HCY.out.mono ?_; rintro e w' ⟨rfl, hb⟩; have HB2 := Aside0.mk hb; clear hb)
        go_ret
        refine ⟨?_, below_in hB.out HB2.out⟩
        rw [firstI_hit (by rw [HL.out]; exact hlt) HY.out HQ.out hA.out]; rfl
      | false =>
        rw [hq] at HCY
        have HQ := Aside0.mk hq
        clear hq
        go_wp2_with (go_at_fn g; refine HCY.out.mono ?_; rintro e w' ⟨rfl, hb⟩; have HB2 := Aside0.mk hb; clear hb)
        go_roundw
        case measure => simp [intOf]; omega
        case rel =>
          refine ⟨k + 1, by omega, by go_num, ⟨below_in hB.out HB2.out⟩, ⟨fun j hj => ?_⟩⟩
          rcases Nat.lt_or_ge j k with h | h
          · exact hA.out j h
          · obtain rfl : j = k := by omega
            rw [HY.out]; exact HQ.out
    · obtain rfl : k = n := by omega
      have hltz : ¬ (k : Int) < (k : Int) := by omega
      go_wp2
      go_ret
      refine ⟨?_, hB.out⟩
      rw [firstI_miss (fun j hj => hA.out j (by rw [HL.out] at hj; exact hj))]; rfl
set_option maxRecDepth 100000 in
theorem containsFunc_c (A : Option Addr) (n c : Nat) (xs : List Int) (fv : Value) (dom : Int → Prop) (p : Int → Bool) (w : World) (hr : RC w A n xs) (hf : FnB Try.prog fv dom p w) (hd : ∀ x ∈ xs, dom x) :
    Calls Try.prog 140 #[.slice A n c, fv] w fun e w' => e = .returned (.bool (xs.any p)) ∧ Below w.heap.size w w' := by
  rw [← firstI_nonneg]
  have hc := indexFunc_c A n c xs fv dom p w hr hf hd
  have HC := Aside0.mk hc
  clear hc hr hf hd
  generalize firstI p xs = r at HC ⊢
  go_enter Try.func140, Try.ntmps140
  go_wp2_with (go_at_call 156; refine HC.out.mono ?_; rintro e w' ⟨rfl, hb⟩)
  go_ret
  exact ⟨rfl, hb⟩
end Go.Proofs.Ytnmhnkpijjmhjaa.Im
namespace Go.Proofs.Ytnmhnkpijjmhjaa.Rw
set_option linter.unusedVariables false
set_option linter.unusedSimpArgs false
open Go.ChangeShapes Go.WideShapes Go.ChangeAt Go.RowKit Go.Joins Go.Proofs.YtnmhnkpijjmhjaaW.PrintWords
section
variable {H : Type} {enc : TypeId × Value → H} {w : World}
set_option maxRecDepth 100000 in
theorem read_ints {fuel : Nat} {v : Value} {x : DataW H × List MemPlace} (h : DataW.trod enc Try.prog w 0 (fun _ => true) true fuel 22 [v] = some x) :
    ∃ (A : Option Addr) (cap : Nat) (l : List Int), v = .slice A l.length cap ∧ l.length ≤ cap ∧ l.length ≤ maxLen ∧ Kd.C (Kd.int .i64) w A l.length l ∧ ∀ n ∈ l, (Lit.int .i64 n).wf = true := by
  rcases open_ints Try.underlying22 Try.underlying2 (by kernel_rfl) h with ⟨hcs, _⟩ | ⟨a, len, cap, zs, hcs, _, hl, hm, hz, _, hcell, hwz⟩
  · simp at hcs
    subst hcs
    exact ⟨none, 0, [], rfl, Nat.le_refl _, Nat.zero_le _, Kd.C_nil _ _, fun n hn => by simp at hn⟩
  · simp at hcs
    subst hcs
    have hlen : (zs.take len).length = len := by simp at hz; simp; omega
    refine ⟨some a, cap, zs.take len, by rw [hlen], by omega, by omega, ?_, fun n hn => hwz n (List.mem_of_mem_take hn)⟩
    refine Kd.C_of_reads (d := (0 : Int)) (h1 := fun _ => rfl) ?_
    refine ⟨rfl, by rw [hlen]; simp only [maxLen] at hm; omega, fun _ => ⟨a, rfl, fun j hj => ?_⟩⟩
    rw [hlen] at hj
    simp at hz
    rw [hcell j (by omega)]
    simp [List.getD_eq_getElem?_getD, List.getElem?_take, hj]
set_option maxRecDepth 100000 in
theorem read_cx {b0 : Nat} {v : Value} {d : DataW H} {p : List MemPlace} (hv : Value.okWide Try.prog w .any b0 24 v) (h : DataW.Trod enc Try.prog w 0 (fun _ => true) true 24 v d p) :
    ∃ (a : Int) (A : Option Addr) (cap : Nat) (l : List Int), v = .agg #[.int .i64 a, .slice A l.length cap] ∧ (Lit.int .i64 a).wf = true ∧ l.length ≤ cap ∧ l.length ≤ maxLen ∧ Kd.C (Kd.int .i64) w A l.length l ∧ ∀ n ∈ l, (Lit.int .i64 n).wf = true := by
  obtain ⟨c0, c1, y0, y1, n, rfl, _, _, h0, h1⟩ := open_agg2 Try.underlying24 (by kernel_rfl) (by kernel_rfl) hv h
  obtain ⟨a, e0, _, wa⟩ := DataW.trod_int Try.underlying2 h0
  obtain ⟨A, cap, l, rfl, h2, h3, h4, h5⟩ := read_ints h1
  simp at e0
  subst e0
  exact ⟨a, A, cap, l, rfl, wa, h2, h3, h4, h5⟩
end
end Go.Proofs.Ytnmhnkpijjmhjaa.Rw
namespace Go.Proofs.Ytnmhnkpijjmhjaa.Cw
set_option linter.unusedVariables false
set_option linter.unusedSimpArgs false
open Go.RowKit Go.Proofs.YtnmhnkpijjmhjaaW.PrintWords Go.Proofs.YtnmhnkpijjmhjaaW.PrintLast Go.Proofs.YtnmhnkpijjmhjaaW.PrintMore
/-- What has come up, as the bits of a number. -/
def mB (n m : Nat) : Array Bool := ((List.range n).map (fun i => Nat.testBit m i)).toArray
theorem mB_zero (n : Nat) : Array.replicate n false = mB n 0 := by
  apply Array.ext'
  simp [mB, List.map_const', Array.toList_replicate, Nat.zero_testBit]
section
variable {P : Program} {ops : Array Oper} {Q : Exit → Act → World → Prop} {S : World → Prop} {ds : List Nat} {md : Region.Mode} {T : Bool × List (List Nat × List Nat)} {B : List Nat}
  {n m fuel : Nat} {a a' : Act} {w : World} {oi : Oper} {v : Value} {l : Array Bool}
theorem st_ {id : Nat} (n : Nat) (hS : S w.drew) (h : S w.drew → wpAnyLast P .any ops Q S ds n (mB n 0) a w.drew) (hm : P.follows .mixedOrders = true := by kernel_rfl) (hn : ops.size = n := by rfl) : (Code.region id ops true).wp P Q a w :=
  start_ (n := n) (mB n 0) hm hn (mB_zero n) hS h
/-- An operation that yields. -/
theorem pu_ (i : Nat) (d : Tmp) (m' : Nat) (hT : Aside0 (rtab md ops = T)) (h : wpAnyLast P md ops Q S ds fuel (mB n m') a' w) (hi : ops[i]? = some oi := by rfl) (hN : oi.dst = some d := by rfl)
    (hc : anyT T (mB n m).toList (mB n m').toList i = true := by kernel_rfl) (hQ : ∀ c a w, Q (.panic c) (a.put oi.dst v) w → Q (.panic c) a w := by exact fun _ _ _ h => h)
    (hw : Region.wanted oi (yielded ops a.tmps) = true := by rfl) (hy : ∀ w, (execOp a.eval oi).run P w = .ok (.value v) w := by (intro w'; go_simp; with_reducible rfl))
    (ha : a.put (some d) v = a' := by (simp only [Act.put, List.setIfInBounds_toArray, List.set_cons_zero, List.set_cons_succ, i64_w, i32_w]; rfl)) : wpAnyLast P md ops Q S ds (fuel + 1) (mB n m) a w :=
  pure_ (mB n m') hi hN (any_of hT.out hc) hQ (.inl ⟨hw, hy⟩) ha h
/-- An operation whose guard is off. -/
theorem pn_ (i : Nat) (d : Tmp) (m' : Nat) (hT : Aside0 (rtab md ops = T)) (h : wpAnyLast P md ops Q S ds fuel (mB n m') a' w) (hi : ops[i]? = some oi := by rfl) (hN : oi.dst = some d := by rfl)
    (hc : anyT T (mB n m).toList (mB n m').toList i = true := by kernel_rfl) (hQ : ∀ c a w, Q (.panic c) (a.put oi.dst undef) w → Q (.panic c) a w := by exact fun _ _ _ h => h)
    (hw : Region.wanted oi (yielded ops a.tmps) = false := by rfl)
    (ha : a.put (some d) undef = a' := by (simp only [Act.put, List.setIfInBounds_toArray, List.set_cons_zero, List.set_cons_succ, i64_w, i32_w]; rfl)) : wpAnyLast P md ops Q S ds (fuel + 1) (mB n m) a w :=
  pure_ (mB n m') hi hN (any_of hT.out hc) hQ (.inr ⟨hw, rfl⟩) ha h
/-- A load of what is held. -/
theorem tk_ (i : Nat) (d : Tmp) (m' : Nat) (hT : Aside0 (rtab md ops = T)) (hB : Aside0 (waitsOk T.2 B = true)) (hS : S w) (h : wpAnyLast P md ops Q S ds fuel (mB n m') a' w) (hi : ops[i]? = some oi := by rfl) (hN : oi.dst = some d := by rfl)
    (hc : takeW T B ds (mB n m).toList (mB n m').toList i = true := by kernel_rfl) (hQ : ∀ c a w, Q (.panic c) (a.put oi.dst v) w → Q (.panic c) a w := by exact fun _ _ _ h => h)
    (hw : Region.wanted oi (yielded ops a.tmps) = true := by rfl) (hy : ∀ w, S w → (execOp a.eval oi).run P w = .ok (.value v) w := by (intro w' hs_; go_simp; with_reducible rfl))
    (ha : a.put (some d) v = a' := by (simp only [Act.put, List.setIfInBounds_toArray, List.set_cons_zero, List.set_cons_succ, i64_w, i32_w]; rfl)) : wpAnyLast P md ops Q S ds (fuel + 1) (mB n m) a w :=
  take_ (mB n m') hi hN (take_ofW hT.out hB.out hc) hQ (.inl ⟨hw, hy⟩) hS ha h
/-- The only one that may come up. -/
theorem on_ (i : Nat) (N : Option Tmp) (m' : Nat) (hT : Aside0 (rtab md ops = T))
    (h : ∀ K : Act → World → Prop, Shut (∀ a' w', S w' → (S w' → wpAnyLast P md ops Q S ds fuel (mB n m') a' w') → K a' w') → if Region.wanted oi (yielded ops a.tmps) = true then Oper.wp P oi a w K Q else K (a.put N undef) w)
    (hi : ops[i]? = some oi := by rfl) (hN : oi.dst = N := by rfl) (hc : (readyT T.2 (mB n m).toList == [i] && (mB n m).toList.set i true == (mB n m').toList) = true := by kernel_rfl) (hd : i ∉ ds := by decide) :
    wpAnyLast P md ops Q S ds (fuel + 1) (mB n m) a w := one_ (mB n m') hi hN (one_of hT.out hc) hd h
theorem dn_ {k : Nat} (hT : Aside0 (rtab md ops = T)) (h : Q .normal a w) (hc : (readyT T.2 l.toList == []) = true := by kernel_rfl) : wpAnyLast P md ops Q S ds k l a w := done_ (done_of hT.out hc) h
/-- The act written out. -/
theorem nm_ (h : wpAnyLast P md ops Q S ds fuel l a' w) (ha : a = a' := by (show Act.put _ (some _) _ = _; simp only [Act.put, List.setIfInBounds_toArray, List.set_cons_zero, List.set_cons_succ, i64_w, i32_w]; rfl)) : wpAnyLast P md ops Q S ds fuel l a w := norm_ ha h
/-- A call in a region that draws. -/
theorem ca_ {N : Option Tmp} {K : Act → World → Prop} {f : FuncId} {fn : Func} {az : Array Operand} {ts : Array TypeId} (hf : P.funcs[f]? = some fn) (args : Array Value)
    (h : Calls P f args w fun e w' => ∃ v, e = .returned v ∧ K (a.put N v) w') (hname : (fn.name == "runtime.NumGoroutine") = false := by kernel_rfl) (hb : fn.body.isSome = true := by rfl)
    (hw : Region.wanted oi (yielded ops a.tmps) = true := by rfl) (hN : oi.dst = N := by rfl) (hop : oi.op = .call { callee := .value (.func f), args := az, argTypes := ts } := by rfl)
    (hargs : az.map a.eval = args := by ((try simp only [List.map_toArray, List.map_cons, List.map_nil]); first | done | rfl | (simp only [List.length_drop, List.length_take]; rfl))) : if Region.wanted oi (yielded ops a.tmps) = true then Oper.wp P oi a w K Q else K (a.put N undef) w :=
  goes_ hf hname hb args hw hN hop hargs h
/-- A call in a plain region. -/
theorem cl_ {rest : List Oper} {f : FuncId} {az : Array Operand} {ts : Array TypeId} (N : Option Tmp) {fn : Func} (hf : P.funcs[f]? = some fn) (args : Array Value)
    (h : Calls P f args w fun e w' => ∃ v, e = .returned v ∧ wpList P ops Q rest (a.put N v) w') (hd : oi.dst = N := by rfl) (hg : oi.guard = none := by rfl) (hname : (fn.name == "runtime.NumGoroutine") = false := by kernel_rfl)
    (hb : fn.body.isSome = true := by rfl) (hop : oi.op = .call { callee := .value (.func f), args := az, argTypes := ts } := by rfl)
    (hargs : az.map a.eval = args := by ((try simp only [List.map_toArray, List.map_cons, List.map_nil]); first | done | rfl | (simp only [List.length_drop, List.length_take]; rfl))) : wpList P ops Q (oi :: rest) a w :=
  goesL_ N hd hg hf hname hb args hop hargs h
end
section
variable {w W W' w1 : World} {g : Nat} {o : Obj} {t : TypeId} {cs : Array Value} {b : Addr} {u : Value}
/-- A block's cell. -/
theorem cB (h : Aside0 (w.heap[g]? = some (.cells cs t (0, 0)))) (i : Nat) (hu : cs[i]? = some u := by rfl) : w.cell? ⟨g, i, none⟩ = some u := (blk_cell h.out i).trans hu
theorem zB (h : Aside0 (w.heap[g]? = some (.cells cs t (0, 0)))) (i : Nat) : w.frozen? ⟨g, i, none⟩ = false := blk_frozen h.out i
theorem cH (h : Aside0 (Below w.heap.size w W)) (hx : w.cell? b = some u) : W.cell? b = some u := (h.out.cell (World.block_lt_of_cell? w _ hx)).trans hx
/-- A block, some steps later. -/
theorem pB (h : Aside0 (w.heap[g]? = some o)) (hs : w.heap[g]? = some o → W.heap[g]? = some o := by (intro h_; (with_reducible repeat (first | refine blk_drewN ?_ _ | refine blk_drew ?_ | refine blk_alloc ?_ _)); exact h_)) : W.heap[g]? = some o := hs h.out
theorem sB (h : Aside0 (w.heap[g]? = some o)) (hb : Below W.heap.size W W') (hs : w.heap[g]? = some o → W.heap[g]? = some o := by (intro h_; (with_reducible repeat (first | refine blk_drewN ?_ _ | refine blk_drew ?_ | refine blk_alloc ?_ _)); exact h_)) : Aside0 (W'.heap[g]? = some o) := ⟨blk_below (hs h.out) hb⟩
theorem dB (h : Aside0 (w.heap[g]? = some o)) : Aside0 (w.drew.heap[g]? = some o) := ⟨blk_drew h.out⟩
theorem dH (h : Aside0 (Below w.heap.size w W)) : Aside0 (Below w.heap.size w W.drew) := ⟨below_drew1 h.out⟩
/-- The world, some steps later. -/
theorem pH (h : Aside0 (Below w.heap.size w W)) (hs : Below w.heap.size w W → Below w.heap.size w W' := by (intro h_; repeat (first | (with_reducible first | exact h_ | apply below_alloc | apply pw_below_drewN | apply below_drew1 | refine below_set ?_ (Aside0.out (by assumption))) | exact h_))) : Below w.heap.size w W' := hs h.out
theorem sH (h : Aside0 (Below w.heap.size w W)) (hb : Below W'.heap.size W' w1) (hs : Below w.heap.size w W → Below w.heap.size w W' := by (intro h_; repeat (first | (with_reducible first | exact h_ | apply below_alloc | apply pw_below_drewN | apply below_drew1 | refine below_set ?_ (Aside0.out (by assumption))) | exact h_))) : Aside0 (Below w.heap.size w w1) := ⟨below_step (hs h.out) hb⟩
/-- A new block is none of the old ones. -/
theorem gH (h : Aside0 (Below w.heap.size w W)) (he : g = W'.heap.size) (hs : Below w.heap.size w W → Below w.heap.size w W' := by (intro h_; repeat (first | (with_reducible first | exact h_ | apply below_alloc | apply pw_below_drewN | apply below_drew1 | refine below_set ?_ (Aside0.out (by assumption))) | exact h_))) : Aside0 (w.heap.size ≤ g) := ⟨by rw [he]; exact below_size (hs h.out)⟩
theorem nB {g' : Nat} (h : Aside0 (w.heap[g]? = some o)) (he : g' = W.heap.size) (hs : w.heap[g]? = some o → W.heap[g]? = some o := by (intro h_; (with_reducible repeat (first | refine blk_drewN ?_ _ | refine blk_drew ?_ | refine blk_alloc ?_ _)); exact h_)) : Aside0 (g ≠ g') := ⟨by rw [he]; exact Nat.ne_of_lt (blk_lt (hs h.out))⟩
theorem oB {g' : Nat} (h : Aside0 (w.heap[g]? = some o)) (he : g' = W.heap.size) (hs : w.heap[g]? = some o → W.heap[g]? = some o := by (intro h_; (with_reducible repeat (first | refine blk_drewN ?_ _ | refine blk_drew ?_ | refine blk_alloc ?_ _)); exact h_)) : Aside0 (g' ≠ g) := ⟨by rw [he]; exact Nat.ne_of_gt (blk_lt (hs h.out))⟩
variable {α : Type} {d : Kd α} {e : Nat} {base : Nat} {ok : Nat → Prop} {v : Value} {xs : List α}
/-- A row, some steps later. -/
theorem pR (h : Aside0 (d.R e w base ok v xs)) (hs : d.R e w base ok v xs → d.R e W base ok v xs := by (intro h_; (with_reducible repeat (first | apply Kd.R_alloc | apply Kd.R_drewN | apply Kd.R_drew)); exact h_)) : d.R e W base ok v xs := hs h.out
theorem sR (h : Aside0 (d.R e w base ok v xs)) (hb : Below W.heap.size W W') (hs : d.R e w base ok v xs → d.R e W base ok v xs := by (intro h_; (with_reducible repeat (first | apply Kd.R_alloc | apply Kd.R_drewN | apply Kd.R_drew)); exact h_)) : Aside0 (d.R e W' base ok v xs) := ⟨Kd.R_below (hs h.out) hb⟩
/-- A row that is read, some steps later. -/
theorem pC {A : Option Addr} {k : Nat} (h : d.C w A k xs) (hs : d.C w A k xs → d.C W A k xs := by (intro h_; repeat (first | exact h_ | (with_reducible refine Kd.C_alloc ?_ _) | (with_reducible refine Kd.C_drewN ?_ _) | (with_reducible refine Kd.C_drew ?_)))) : d.C W A k xs := hs h
end
end Go.Proofs.Ytnmhnkpijjmhjaa.Cw
namespace Go.Proofs.Ytnmhnkpijjmhjaa.Kp
set_option linter.unusedVariables false
set_option linter.unusedSimpArgs false
open Go.RowKit Go.Proofs.YtnmhnkpijjmhjaaW.PrintWords Go.Proofs.YtnmhnkpijjmhjaaW.PrintLast Go.Proofs.YtnmhnkpijjmhjaaW.PrintMore
structure S76 where
  f0 : Int
  f1 : Int
def z76 : S76 := ⟨(0 : Int), (0 : Int)⟩
def k76 : Kd S76 := Kd.iso (Kd.pair (Kd.int .i64) (Kd.int .i64)) (fun x : S76 => (x.f0, x.f1))
theorem k76_open {w : World} {x : S76} {cs : List Value} (h : k76.K w x cs) : cs = [.int .i64 x.f0, .int .i64 x.f1] := by
  obtain ⟨_, _, rfl, rfl, rfl⟩ := h
  exact rfl
theorem k76_openM {w : World} {base : Nat} {ok : Nat → Prop} {x : S76} {cs : List Value} (h : k76.M w base ok x cs) : cs = [.int .i64 x.f0, .int .i64 x.f1] := by
  obtain ⟨_, _, rfl, rfl, rfl⟩ := h
  exact rfl
theorem k76_mkM (w : World) (base : Nat) (ok : Nat → Prop) (x : S76)  : k76.M w base ok x [.int .i64 x.f0, .int .i64 x.f1] := ⟨[.int .i64 x.f0], [.int .i64 x.f1], rfl, rfl, rfl⟩
def rd_T76 (xs : List S76) (i : Int) : S76 := xs.getD i.toNat z76
theorem at_T76 {w : World} {A : Option Addr} {n : Nat} {xs : List S76} (h : Kd.C k76 w A n xs) (i : Int) (h0 : 0 ≤ i) (h1 : i < n) : ∃ ad , A = some ad ∧ w.cell? (ad.add (i.toNat * 2)) = some (.int .i64 (rd_T76 xs i).f0) ∧ w.cell? ⟨(ad.add (i.toNat * 2)).block, (ad.add (i.toNat * 2)).off + 1, none⟩ = some (.int .i64 (rd_T76 xs i).f1) := by
  obtain ⟨ad, c, e, _, hK, hc0⟩ := Kd.C_get h z76 i h0 h1
  have hc : ∀ j u, c[j]? = some u → w.cell? (ad.add (i.toNat * 2 + j)) = some u := hc0
  obtain rfl := k76_open hK
  exact ⟨ad, e, hc 0 _ rfl, by rw [← add_field _ _ 1 (by omega)]; exact hc 1 _ rfl⟩
abbrev Pr := S76
end Go.Proofs.Ytnmhnkpijjmhjaa.Kp
namespace Go.Proofs.Ytnmhnkpijjmhjaa.Ext
set_option linter.unusedVariables false
set_option linter.unusedSimpArgs false
open Go.RowKit Go.Proofs.Ytnmhnkpijjmhjaa.Im Go.Proofs.Ytnmhnkpijjmhjaa.Kp Go.Proofs.YtnmhnkpijjmhjaaW.PrintWords Go.Proofs.YtnmhnkpijjmhjaaW.PrintLast Go.Proofs.YtnmhnkpijjmhjaaW.PrintMore
def laws_eqPair.f (a0_0 a0_1 a1_0 a1_1 : Int) : Option Bool := some (decide (a0_0 = a1_0) && decide (a0_1 = a1_1))
def PrAt (w : World) (b : Nat) (x y : Int) : Prop := w.heap[b]? = some (.cells #[.int .i64 x, .int .i64 y] 76 (0, 0))
section
variable {w w1 : World} {b : Nat} {x y : Int}
theorem PrAt.lt (h : PrAt w b x y) : b < w.heap.size := (Array.getElem?_eq_some_iff.1 h).1
theorem PrAt.below (h : PrAt w b x y) (hb : Below w.heap.size w w1) : PrAt w1 b x y := (hb.block b h.lt).trans h
theorem PrAt.alloc (h : PrAt w b x y) (o : Obj) : PrAt (w.alloc o) b x y := h.below (below_alloc (Below.refl _ _) o)
theorem PrAt.c0 (h : PrAt w b x y) : w.cell? ⟨b, 0, none⟩ = some (.int .i64 x) := (cell_of_row w b 0 _ _ _ h).trans rfl
theorem PrAt.c1 (h : PrAt w b x y) : w.cell? ⟨b, 1, none⟩ = some (.int .i64 y) := (cell_of_row w b 1 _ _ _ h).trans rfl
theorem PrAt.fz (h : PrAt w b x y) (j : Nat) : w.frozen? ⟨b, j, none⟩ = false := blk_frozen h j
theorem PrAt.drew (h : PrAt w b x y) : PrAt w.drew b x y := h
theorem PrAt.new (w : World) (x y : Int) : PrAt (w.alloc (.cells #[.int .i64 x, .int .i64 y] 76)) w.heap.size x y := heap_alloc_new w _
end
set_option maxRecDepth 100000 in
theorem laws_eqPair.calls (a0_0 a0_1 a1_0 a1_1 : Int) (r1 : Bool) (w : World) (h : laws_eqPair.f a0_0 a0_1 a1_0 a1_1 = some r1) :
    Calls Try.prog 63 #[.agg #[.int .i64 a0_0, .int .i64 a0_1], .agg #[.int .i64 a1_0, .int .i64 a1_1]] w fun e w' => e = .returned (.bool r1) ∧ Below w.heap.size w w' := by
  obtain rfl := Option.some.inj h
  clear h
  go_enter Try.func63, Try.ntmps63
  go_wp2
  go_loopw [5] (fun i wr => ∃ k : Nat, k ≤ 2 ∧ i = .int .i64 k ∧ Aside0 (Below w.heap.size w wr) ∧ Aside0 (PrAt wr w.heap.size a0_0 a0_1 ∧ PrAt wr (w.heap.size + 1) a1_0 a1_1) ∧ Aside0 (1 ≤ k → a0_0 = a1_0) ∧ Aside0 (2 ≤ k → a0_1 = a1_1)) (fun i _ => 2 - (intOf i).toNat)
  case atStart =>
    refine ⟨0, by omega, rfl, ⟨below_alloc (below_alloc (Below.refl _ _) _) _⟩, ⟨(PrAt.new _ _ _).alloc _, ?_⟩, ⟨fun h => absurd h (by omega)⟩, ⟨fun h => absurd h (by omega)⟩⟩
    simpa using PrAt.new (w.alloc (.cells #[.int .i64 a0_0, .int .i64 a0_1] 76)) a1_0 a1_1
  case round =>
    obtain ⟨k, hk, rfl, hB, hC, hE1, hE2⟩ := hrel
    obtain rfl | rfl | rfl : k = 0 ∨ k = 1 ∨ k = 2 := by omega
    · have h0 := hC.out.1.c0
      have h1 := hC.out.2.c0
      by_cases he : a0_0 = a1_0
      · have hb : (a0_0 != a1_0) = false := by simp [he]
        go_wp2
        go_region
        go_wp2
        go_roundw
        case rel => exact ⟨1, by omega, by go_num, ⟨hB.out.drew⟩, ⟨hC.out.1.drew, hC.out.2.drew⟩, ⟨fun _ => he⟩, ⟨fun h => absurd h (by omega)⟩⟩
        case measure => simp [intOf]
      · have hb : (a0_0 != a1_0) = true := by simp [he]
        go_wp2
        go_region
        go_wp2
        go_ret
        exact ⟨by simp [he], hB.out.drew⟩
    · have h0 := hC.out.1.c1
      have h1 := hC.out.2.c1
      have he0 : a0_0 = a1_0 := hE1.out (by omega)
      by_cases he : a0_1 = a1_1
      · have hb : (a0_1 != a1_1) = false := by simp [he]
        go_wp2
        go_region
        go_wp2
        go_roundw
        case rel => exact ⟨2, by omega, by go_num, ⟨hB.out.drew⟩, ⟨hC.out.1.drew, hC.out.2.drew⟩, ⟨fun _ => he0⟩, ⟨fun _ => he⟩⟩
        case measure => simp [intOf]
      · have hb : (a0_1 != a1_1) = true := by simp [he]
        go_wp2
        go_region
        go_wp2
        go_ret
        exact ⟨by simp [he], hB.out.drew⟩
    · go_wp2
      go_ret
      exact ⟨by simp [hE1.out (by omega), hE2.out (by omega)], hB.out⟩
/-- The pair that mark writes at place i. -/
def markAt (a : Int) (i : Nat) : Pr := ⟨a + 2 * i, a + 2 * i + 1⟩
def markL (n : Nat) (a : Int) : List Pr := (List.range n).map (markAt a)
def okPr (l : List Pr) (a : Int) (i : Nat) : Bool := (l.getD i z76).f0 == a + 2 * i && (l.getD i z76).f1 == a + 2 * i + 1
def heldPr (l : List Pr) (a : Int) : Int := if (List.range l.length).all (okPr l a) then a + 2 * l.length else -1
def laws_heldPairS.f (l0 : List S76) (a1 : Int) : Option Int := if 0 ≤ a1 ∧ a1 ≤ 1073741824 ∧ l0.length ≤ 1099511627776 then some (heldPr l0 a1) else none
theorem heldPr_no {l : List Pr} {a : Int} {i : Nat} (hi : i < l.length) (h : okPr l a i = false) : heldPr l a = -1 := by
  unfold heldPr
  rw [if_neg]
  intro hc
  rw [List.all_eq_true.1 hc i (List.mem_range.2 hi)] at h
  cases h
theorem heldPr_yes {l : List Pr} {a : Int} (h : ∀ i, i < l.length → okPr l a i = true) : heldPr l a = a + 2 * l.length := by
  unfold heldPr
  rw [if_pos (List.all_eq_true.2 (fun i hi => h i (List.mem_range.1 hi)))]
theorem pair_at {w : World} {A : Option Addr} {xs : List Pr} (h : Kd.C k76 w A xs.length xs) (i : Nat) (hi : i < xs.length) : ∃ ad, A = some ad ∧
    w.cell? (ad.add (i * 2)) = some (.int .i64 (xs.getD i z76).f0) ∧ w.cell? ⟨(ad.add (i * 2)).block, (ad.add (i * 2)).off + 1, none⟩ = some (.int .i64 (xs.getD i z76).f1) :=
  at_T76 h (i : Int) (by omega) (by omega)
set_option maxRecDepth 100000 in
theorem laws_heldPairS.calls (A0 : Option Addr) (c0 : Nat) (l0 : List S76) (a1 : Int) (r1 : Int) (w : World) (hr0 : Kd.C k76 w A0 l0.length l0) (hc0 : l0.length ≤ c0) (h : laws_heldPairS.f l0 a1 = some r1) :
    Calls Try.prog 24 #[.slice A0 l0.length c0, .int .i64 a1] w fun e w' => e = .returned (.int .i64 r1) ∧ Below w.heap.size w w' := by
  unfold laws_heldPairS.f at h
  by_cases hb : 0 ≤ a1 ∧ a1 ≤ 1073741824 ∧ l0.length ≤ 1099511627776
  case neg => rw [if_neg hb] at h; cases h
  rw [if_pos hb] at h
  obtain ⟨b0, b1, b2⟩ := hb
  obtain rfl := Option.some.inj h
  clear h
  have HR := Aside0.mk hr0
  clear hr0
  go_enter Try.func24, Try.ntmps24
  go_wp2
  go_loopw [1, 5] (fun c i wr => ∃ k : Nat, k ≤ l0.length ∧ c = .int .i64 (a1 + 2 * k) ∧ i = .int .i64 k ∧ wr = w ∧ Aside0 (∀ j, j < k → okPr l0 a1 j = true)) (fun _ i _ => l0.length - (intOf i).toNat)
  case atStart => exact ⟨0, by omega, by simp, rfl, rfl, ⟨fun j hj => absurd hj (by omega)⟩⟩
  case round =>
    obtain ⟨k, hk, rfl, rfl, rfl, hA⟩ := hrel
    by_cases hlt : k < l0.length
    · obtain ⟨ad, rfl, h0, h1⟩ := pair_at HR.out k hlt
      have H0 := Aside0.mk h0
      have H1 := Aside0.mk h1
      clear h0 h1
      obtain ⟨x, hx⟩ : ∃ x, (l0.getD k z76).f0 = x := ⟨_, rfl⟩
      obtain ⟨y, hy⟩ : ∃ y, (l0.getD k z76).f1 = y := ⟨_, rfl⟩
      rw [hx] at H0
      rw [hy] at H1
      have HX := Aside0.mk hx
      have HY := Aside0.mk hy
      clear hx hy
      go_wp2
      go_loopw [1, 6] (fun c j wq => ∃ m : Nat, m ≤ 2 ∧ c = .int .i64 (a1 + 2 * k + m) ∧ j = .int .i64 m ∧ wq = wr ∧ Aside0 (1 ≤ m → x = a1 + 2 * k) ∧ Aside0 (2 ≤ m → y = a1 + 2 * k + 1)) (fun _ j _ => 2 - (intOf j).toNat)
      case atStart => exact ⟨0, by omega, by simp, rfl, rfl, ⟨fun h => absurd h (by omega)⟩, ⟨fun h => absurd h (by omega)⟩⟩
      case round =>
        obtain ⟨m, hm, rfl, rfl, rfl, hE1, hE2⟩ := hrel
        obtain rfl | rfl | rfl : m = 0 ∨ m = 1 ∨ m = 2 := by omega
        · have h0 := H0.out
          by_cases he : x = a1 + 2 * k
          · have hb : (x != a1 + 2 * k + (0 : Nat)) = false := by simp [he]
            go_wp2
            go_roundw
            case rel => exact ⟨1, by omega, by go_num, rfl, trivial, ⟨fun _ => he⟩, ⟨fun h => absurd h (by omega)⟩⟩
            case measure => simp [intOf]
          · have hb : (x != a1 + 2 * k + (0 : Nat)) = true := by simp [he]
            go_wp2
            go_ret
            exact ⟨by rw [heldPr_no hlt (by rw [okPr, HX.out]; simp [he])]; rfl, Below.refl _ _⟩
        · have h1 := H1.out
          have h0 := H0.out
          by_cases he : y = a1 + 2 * k + 1
          · have hb : (y != a1 + 2 * k + (1 : Nat)) = false := by simp [he]
            go_wp2
            go_roundw
            case rel => exact ⟨2, by omega, by go_num, rfl, trivial, ⟨fun _ => hE1.out (by omega)⟩, ⟨fun _ => he⟩⟩
            case measure => simp [intOf]
          · have hb : (y != a1 + 2 * k + (1 : Nat)) = true := by simp [he]
            go_wp2
            go_ret
            exact ⟨by rw [heldPr_no hlt (by rw [okPr, HX.out, HY.out]; simp [he])]; rfl, Below.refl _ _⟩
        · go_wp2
          go_roundw
          case measure => simp [intOf]; omega
          case rel =>
            refine ⟨k + 1, by omega, by go_num, by go_num, trivial, ⟨fun j hj => ?_⟩⟩
            rcases Nat.lt_or_ge j k with h | h
            · exact hA.out j h
            · obtain rfl : j = k := by omega
              rw [okPr, HX.out, HY.out, hE1.out (by omega), hE2.out (by omega)]
              simp
    · obtain rfl : k = l0.length := by omega
      go_wp2
      go_ret
      exact ⟨by rw [heldPr_yes hA.out]; rfl, Below.refl _ _⟩
section
variable {w : World} {base g cap n : Nat} {ok : Nat → Prop} {xs : List Pr}
theorem pr_form {v : Value} (h : Kd.R k76 76 w base ok v xs) (hp : 0 < xs.length) : ∃ g cap, v = .slice (some ⟨g, 0, none⟩) xs.length cap ∧ base ≤ g ∧ ok g := by
  obtain ⟨g, cap, e, hb, _⟩ := Kd.R_form h hp
  exact ⟨g, cap, e, hb, h.1 g (by rw [e]; rfl)⟩
theorem pr_cells (h : Kd.R k76 76 w base ok (.slice (some ⟨g, 0, none⟩) n cap) xs) {k : Nat} (hk : k < n) :
    w.cell? ⟨g, k * 2, none⟩ = some (.int .i64 (xs.getD k z76).f0) ∧ w.cell? ⟨g, k * 2 + 1, none⟩ = some (.int .i64 (xs.getD k z76).f1) ∧ w.frozen? ⟨g, k * 2, none⟩ = false ∧ w.frozen? ⟨g, k * 2 + 1, none⟩ = false := by
  obtain ⟨c, hcl, hM, hcc, hf⟩ := Kd.R_elem h z76 (k : Int) (by omega) (by omega)
  obtain rfl := k76_openM hM
  exact ⟨hcc 0 _ rfl, hcc 1 _ rfl, hf 0, hf 1⟩
theorem pr_set0 (h : Kd.R k76 76 w base ok (.slice (some ⟨g, 0, none⟩) n cap) xs) {k : Nat} (hk : k < n) (v : Int) :
    Kd.R k76 76 (w.setCell ⟨g, k * 2, none⟩ (.int .i64 v)) base ok (.slice (some ⟨g, 0, none⟩) n cap) (xs.set k ⟨v, (xs.getD k z76).f1⟩) ∧ w.grownBy (w.setCell ⟨g, k * 2, none⟩ (.int .i64 v)) (some g) := by
  obtain ⟨c, hcl, hM, hcc, hf⟩ := Kd.R_elem h z76 (k : Int) (by omega) (by omega)
  obtain rfl := k76_openM hM
  exact Kd.R_seg (j := 0) (seg := [.int .i64 v]) h (k : Int) (by omega) (by omega) hcl hcc (by simp; decide) (okp := fun _ => False) (x' := ⟨v, (xs.getD k z76).f1⟩) (k76_mkM _ _ _ _) (fun _ hk => hk.elim)
theorem pr_set1 (h : Kd.R k76 76 w base ok (.slice (some ⟨g, 0, none⟩) n cap) xs) {k : Nat} (hk : k < n) (v : Int) :
    Kd.R k76 76 (w.setCell ⟨g, k * 2 + 1, none⟩ (.int .i64 v)) base ok (.slice (some ⟨g, 0, none⟩) n cap) (xs.set k ⟨(xs.getD k z76).f0, v⟩) ∧ w.grownBy (w.setCell ⟨g, k * 2 + 1, none⟩ (.int .i64 v)) (some g) := by
  obtain ⟨c, hcl, hM, hcc, hf⟩ := Kd.R_elem h z76 (k : Int) (by omega) (by omega)
  obtain rfl := k76_openM hM
  exact Kd.R_seg (j := 1) (seg := [.int .i64 v]) h (k : Int) (by omega) (by omega) hcl hcc (by simp; decide) (okp := fun _ => False) (x' := ⟨(xs.getD k z76).f0, v⟩) (k76_mkM _ _ _ _) (fun _ hk => hk.elim)
end
def updL (l : List Pr) (a : Int) : Nat → List Pr
  | 0 => l
  | k + 1 => (updL l a k).set k (markAt a k)
theorem updL_len (l : List Pr) (a : Int) (k : Nat) : (updL l a k).length = l.length := by
  induction k with
  | zero => rfl
  | succ k ih => rw [updL, List.length_set, ih]
theorem updL_get (l : List Pr) (a : Int) (k j : Nat) (hj : j < k) (hl : j < l.length) : (updL l a k)[j]? = some (markAt a j) := by
  induction k with
  | zero => omega
  | succ k ih =>
    rw [updL, List.getElem?_set]
    by_cases h : k = j
    · subst h
      rw [if_pos rfl, if_pos (by rw [updL_len]; exact hl)]
    · rw [if_neg h]
      exact ih (by omega)
theorem updL_all (l : List Pr) (a : Int) : updL l a l.length = markL l.length a := by
  apply List.ext_getElem?
  intro j
  by_cases hj : j < l.length
  · rw [updL_get _ _ _ _ hj hj, markL, List.getElem?_map, List.getElem?_range hj]
    rfl
  · rw [List.getElem?_eq_none (by rw [updL_len]; omega), List.getElem?_eq_none (by simp [markL]; omega)]
def updM (l : List Pr) (a : Int) (k : Nat) : Nat → List Pr
  | 0 => updL l a k
  | 1 => (updL l a k).set k ⟨a + 2 * k, ((updL l a k).getD k z76).f1⟩
  | _ => updL l a (k + 1)
def laws_markPairS.f (l0 : List S76) (a1 : Int) : Option (Int × List S76) := if 0 ≤ a1 ∧ a1 ≤ 1073741824 ∧ l0.length ≤ 1099511627776 then some (a1 + 2 * l0.length, markL l0.length a1) else none
set_option maxRecDepth 100000 in
theorem laws_markPairS.calls (P0_ : Nat → Prop) (u9000_ : Value) (l0 : List S76) (a1 : Int) (r1 : Int) (r2 : List S76) (w0 w : World) (hB : Below w0.heap.size w0 w) (ho0 : Kd.R k76 76 w w0.heap.size P0_ u9000_ l0) (h : laws_markPairS.f l0 a1 = some (r1, r2)) :
    Calls Try.prog 22 #[u9000_, .int .i64 a1] w fun e w' => e = .returned (.int .i64 r1) ∧ Kd.R k76 76 w' w0.heap.size (fun k_ => (P0_ k_ ∨ w.heap.size ≤ k_)) u9000_ r2 ∧ Below w0.heap.size w0 w' ∧ Kept w w' (fun k_ => P0_ k_) := by
  unfold laws_markPairS.f at h
  by_cases hb : 0 ≤ a1 ∧ a1 ≤ 1073741824 ∧ l0.length ≤ 1099511627776
  case neg => rw [if_neg hb] at h; cases h
  rw [if_pos hb] at h
  obtain ⟨b0, b1, b2⟩ := hb
  obtain ⟨rfl, rfl⟩ := Prod.mk.inj (Option.some.inj h)
  clear h
  have HR := Aside0.mk ho0
  have HB := Aside0.mk hB
  clear ho0 hB
  obtain ⟨A, cc, rfl⟩ := Kd.R_slice HR.out
  go_enter Try.func22, Try.ntmps22
  go_wp2
  go_loopw [1, 5] (fun c i wr => ∃ k : Nat, k ≤ l0.length ∧ c = .int .i64 (a1 + 2 * k) ∧ i = .int .i64 k ∧ Aside0 (Kd.R k76 76 wr w0.heap.size P0_ (.slice A l0.length cc) (updL l0 a1 k)) ∧ Aside0 (Below w0.heap.size w0 wr) ∧ Aside0 (Kept w wr P0_)) (fun _ i _ => l0.length - (intOf i).toNat)
  case atStart => exact ⟨0, by omega, by simp, rfl, HR, HB, ⟨Kept.refl _ _⟩⟩
  case round =>
    obtain ⟨k, hk, rfl, rfl, HO, HBw, HK⟩ := hrel
    by_cases hlt : k < l0.length
    · obtain ⟨g, cap, hv, hbg, hokg⟩ := pr_form HO.out (by rw [updL_len]; omega)
      obtain ⟨rfl, _, rfl⟩ : A = some ⟨g, 0, none⟩ ∧ _ ∧ cc = cap := by injection hv with e1 e2 e3; exact ⟨e1, e2, e3⟩
      clear hv
      go_wp2
      go_loopw [1, 6] (fun c j wq => ∃ m : Nat, m ≤ 2 ∧ c = .int .i64 (a1 + 2 * k + m) ∧ j = .int .i64 m ∧ Aside0 (Kd.R k76 76 wq w0.heap.size P0_ (.slice (some ⟨g, 0, none⟩) l0.length cc) (updM l0 a1 k m)) ∧ Aside0 (Below w0.heap.size w0 wq) ∧ Aside0 (Kept w wq P0_)) (fun _ j _ => 2 - (intOf j).toNat)
      case atStart => exact ⟨0, by omega, by simp, rfl, HO, HBw, HK⟩
      case round =>
        clear HO HBw HK
        obtain ⟨m, hm, rfl, rfl, HO, HBw, HK⟩ := hrel
        obtain rfl | rfl | rfl : m = 0 ∨ m = 1 ∨ m = 2 := by omega
        · obtain ⟨hc0, hc1, hf0, hf1⟩ := pr_cells HO.out hlt
          obtain ⟨hO2, hg2⟩ := pr_set0 HO.out hlt (a1 + 2 * k)
          have HO2 := Aside0.mk hO2
          have HG2 := Aside0.mk hg2
          clear hO2 hg2
          go_wp2
          go_roundw
          case measure => simp [intOf]
          case rel => exact ⟨1, by omega, by go_num, rfl, HO2, ⟨below_set HBw.out hbg⟩, ⟨Kept.of_grown HG2.out HK.out (fun k_ e_ => .inl (by injection e_ with e_; rw [← e_]; exact hokg))⟩⟩
        · obtain ⟨hc0, hc1, hf0, hf1⟩ := pr_cells HO.out hlt
          obtain ⟨hO2, hg2⟩ := pr_set1 HO.out hlt (a1 + 2 * k + (1 : Nat))
          have HO2 := Aside0.mk hO2
          have HG2 := Aside0.mk hg2
          clear hO2 hg2
          go_wp2
          go_roundw
          case measure => simp [intOf]
          case rel =>
            refine ⟨2, by omega, by go_num, rfl, ⟨?_⟩, ⟨below_set HBw.out hbg⟩, ⟨Kept.of_grown HG2.out HK.out (fun k_ e_ => .inl (by injection e_ with e_; rw [← e_]; exact hokg))⟩⟩
            have h := HO2.out
            have e : (updM l0 a1 k 1).set k ⟨((updM l0 a1 k 1).getD k z76).f0, a1 + 2 * k + (1 : Nat)⟩ = updM l0 a1 k 2 := by
              have hl : k < (updL l0 a1 k).length := by rw [updL_len]; exact hlt
              simp [updM, updL, markAt, hl, List.getD_eq_getElem?_getD]
            rw [e] at h
            exact h
        · go_wp2
          go_roundw
          case measure => simp [intOf]; omega
          case rel => exact ⟨k + 1, by omega, by go_num, by go_num, HO, HBw, HK⟩
    · obtain rfl : k = l0.length := by omega
      go_wp2
      go_ret
      refine ⟨rfl, Kd.R_mono ?_ (fun _ hk => .inl hk), HBw.out, HK.out⟩
      rw [← updL_all]
      exact HO.out
end Go.Proofs.Ytnmhnkpijjmhjaa.Ext
namespace Go.Proofs.Ytnmhnkpijjmhjaa.Ext
set_option linter.unusedVariables false
set_option linter.unusedSimpArgs false
end Go.Proofs.Ytnmhnkpijjmhjaa.Ext
namespace Go.Proofs.Ytnmhnkpijjmhjaa.QS
open Go.Proofs.Ytnmhnkpijjmhjaa.Kp Go.Proofs.Ytnmhnkpijjmhjaa.Ext Go.RowKit Go.Proofs.YtnmhnkpijjmhjaaW.PrintWords Go.Proofs.YtnmhnkpijjmhjaaW.PrintLast Go.Proofs.YtnmhnkpijjmhjaaW.PrintMore
attribute [local go_sem] max2_int min2_int max_two min_two max_three min_three max_four min_four   -- for this text's walks alone
set_option linter.unusedVariables false
set_option linter.unusedSimpArgs false
def errW : Option Int → Value
  | none => .nilIface
  | some c => .iface 0 (.int .i64 c)
theorem errW_none : errW none = .nilIface := rfl
theorem errW_some (c : Int) : errW (some c) = .iface 0 (.int .i64 c) := rfl
theorem info2 : (Try.prog.info? 2).map (fun i => (i.zero, i.size, i.bytes)) = some (some (.int .i64 0), 1, 8) := by kernel_rfl
theorem info76 : (Try.prog.info? 76).map (fun i => (i.zero, i.size, i.bytes)) = some (some (.agg #[(.int .i64 0), (.int .i64 0)]), 2, 16) := by kernel_rfl
structure S75 where
  f0 : Int
  f1 : Int
end Go.Proofs.Ytnmhnkpijjmhjaa.QS
namespace Go.Proofs.Ytnmhnkpijjmhjaa.Im
set_option linter.unusedVariables false
set_option linter.unusedSimpArgs false
open Go.RowKit Go.Shelf Go.Proofs.YtnmhnkpijjmhjaaW.PrintWords Go.Proofs.YtnmhnkpijjmhjaaW.PrintLast Go.Proofs.YtnmhnkpijjmhjaaW.PrintMore
theorem areAll1_f (b : Nat) (fv : Value) (dom : Int → Prop) (p : Int → Bool) (w : World) (hb : Boxed w b 80 fv) (hf : FnB Try.prog fv dom p w) :
    FnB Try.prog (.func (.func 141) #[] #[.pointer (some ⟨b, 0, none⟩)]) dom (fun x => !p x) w := by
  refine ⟨_, _, _, rfl, enters_of Try.func141 (by kernel_rfl) rfl, fun W x hW hx => ?_⟩
  obtain ⟨g, fs, lb, rfl, eg, hcall⟩ := hf
  have hc := hcall W x hW hx
  have HC := Aside0.mk hc
  have hcell : W.cell? ⟨b, 0, none⟩ = some (.func (.func g) fs lb) := (hW.cell (p := ⟨b, 0, none⟩) hb.lt).trans hb.cell
  clear hc hcall hW hx hb
  show Calls Try.prog 141 #[.int .i64 x, .pointer (some ⟨b, 0, none⟩)] W fun e w' => e = .returned (.bool (!p x)) ∧ Below W.heap.size W w'
  generalize p x = r at HC ⊢
  go_enter Try.func141, Try.ntmps141
  go_wp2_with (go_at_fn g; refine HC.out.mono ?_; rintro e w' ⟨rfl, hb⟩)
  go_ret
  exact ⟨rfl, hb⟩
theorem all_not_any (p : Int → Bool) (xs : List Int) : xs.all p = !(xs.any fun x => !p x) := by
  induction xs with
  | nil => rfl
  | cons x xs ih => simp only [List.all_cons, List.any_cons, ih, Bool.not_or, Bool.not_not]
theorem areAll_c (A : Option Addr) (n c : Nat) (xs : List Int) (fv : Value) (dom : Int → Prop) (p : Int → Bool) (w : World) (hr : RC w A n xs) (hf : FnB Try.prog fv dom p w) (hd : ∀ x ∈ xs, dom x) :
    Calls Try.prog 76 #[.slice A n c, fv] w fun e w' => e = .returned (.bool (xs.all p)) ∧ Below w.heap.size w w' := by
  have hb1 : Below w.heap.size w (w.alloc (.cells #[fv] 80)) := (Below.refl _ w).alloc (Nat.le_refl _) _
  have hc := containsFunc_c A n c xs _ dom (fun x => !p x) (w.alloc (.cells #[fv] 80)) (Kd.C_below hr hb1) (areAll1_f w.heap.size fv dom p _ (Boxed.new w _ fv) (hf.later hb1)) hd
  have he := all_not_any p xs
  rw [he]
  have HC := Aside0.mk hc
  have HB := Aside0.mk hb1
  clear hc hr hd he hb1
  obtain ⟨g, fs, lb, rfl, eg, hcall⟩ := hf
  clear hcall eg
  generalize (xs.any fun x => !p x) = r at HC ⊢
  go_enter Try.func76, Try.ntmps76
  go_wp2_with (go_at_call 140; refine HC.out.mono ?_; rintro e w' ⟨rfl, hb⟩)
  go_ret
  exact ⟨rfl, below_in HB.out hb⟩
/-- Strictly ascending. -/
abbrev Asc (xs : List Int) : Prop := xs.Pairwise (· < ·)
theorem Asc.lt {xs : List Int} (h : Asc xs) {i j : Nat} (hij : i < j) (hj : j < xs.length) : xs[i]?.getD 0 < xs[j]?.getD 0 := by
  rw [List.getElem?_eq_getElem (show i < xs.length by omega), List.getElem?_eq_getElem hj]
  exact List.pairwise_iff_getElem.1 h i j (by omega) hj hij
theorem mem_of_at {xs : List Int} {i : Nat} {x : Int} (hi : i < xs.length) (h : xs[i]?.getD 0 = x) : x ∈ xs := by
  rw [List.getElem?_eq_getElem hi] at h
  have h' : xs[i] = x := h
  rw [← h']
  exact List.getElem_mem hi
theorem not_mem_of {xs : List Int} {i : Nat} {x : Int} (_ : Asc xs) (h1 : ∀ k, k < i → xs[k]?.getD 0 < x) (h2 : ∀ k, i ≤ k → k < xs.length → x < xs[k]?.getD 0) : ¬ x ∈ xs := by
  intro hm
  obtain ⟨j, hj, rfl⟩ := List.mem_iff_getElem.1 hm
  rcases Nat.lt_or_ge j i with h | h
  · have := h1 j h; rw [List.getElem?_eq_getElem hj] at this; simp at this
  · have := h2 j h hj; rw [List.getElem?_eq_getElem hj] at this; simp at this
def BSPost (xs : List Int) (x : Int) (w : World) (e : Ending) (w' : World) : Prop := ∃ i : Int, e = .returned (.tuple #[.int .i64 i, .bool (decide (x ∈ xs))]) ∧ w = w'
set_option maxRecDepth 100000 in
set_option maxHeartbeats 1000000 in
theorem bsearch_c (A : Option Addr) (n c : Nat) (xs : List Int) (x : Int) (w : World) (hr : RC w A n xs) (hn : n ≤ 4611686018427387904) (ha : Asc xs) :
    Calls Try.prog 136 #[.slice A n c, .int .i64 x] w (BSPost xs x w) := by
  have hl := hr.len
  have HR := Aside0.mk hr
  have HL := Aside0.mk hl.1
  have HA := Aside0.mk ha
  clear hr hl ha
  go_enter Try.func136, Try.ntmps136
  go_wp2
  go_loop [7, 8] (fun s7 s8 => ∃ i j : Nat, i ≤ j ∧ j ≤ n ∧ s7 = .int .i64 i ∧ s8 = .int .i64 j ∧ Aside0 ((∀ k, k < i → xs[k]?.getD 0 < x) ∧ (∀ k, j ≤ k → k < n → x ≤ xs[k]?.getD 0))) (fun s7 s8 => (intOf s8 - intOf s7).toNat)
  case atStart => exact ⟨0, n, by omega, by omega, rfl, rfl, ⟨fun k hk => absurd hk (Nat.not_lt_zero _), fun k h1 h2 => by omega⟩⟩
  case round =>
    obtain ⟨i, j, hij, hjn, rfl, rfl, hI⟩ := hrel
    by_cases hlt : i < j
    · have hltz : (i : Int) < (j : Int) := by omega
      obtain ⟨h, hh⟩ : ∃ h : Nat, (i + j) / 2 = h := ⟨_, rfl⟩
      have hhn : h < n := by omega
      have hd : ((i : Int) + (j : Int)) / 2 = (h : Int) := by omega
      obtain ⟨ad, rfl, hcell⟩ := HR.out.at_ (Below.refl _ _) hhn
      obtain ⟨y, hy⟩ : ∃ y, xs[h]?.getD 0 = y := ⟨_, rfl⟩
      rw [hy] at hcell
      have HY := Aside0.mk hy
      have HH := Aside0.mk hh
      clear hy hh
      go_wp2_with (go_at_call 195; refine (less_c _ _ _).mono ?_; rintro e w' ⟨rfl, rfl⟩)
      · go_roundw
        case measure => simp [intOf]; omega
        case rel =>
          refine ⟨h + 1, j, by have := HH.out; omega, hjn, by go_num, rfl, ⟨fun k hk => ?_, hI.out.2⟩⟩
          have hyx : y < x := by assumption
          rcases Nat.lt_or_ge k h with h1 | h1
          · have := HA.out.lt h1 (by rw [HL.out]; exact hhn); rw [HY.out] at this; omega
          · obtain rfl : k = h := by omega
            rw [HY.out]; exact hyx
      · go_roundw
        case measure => have := HH.out; simp [intOf]; omega
        case rel =>
          refine ⟨i, h, by have := HH.out; omega, by omega, rfl, rfl, ⟨hI.out.1, fun k h1 h2 => ?_⟩⟩
          have hyx : x ≤ y := by assumption
          rcases Nat.lt_or_ge h k with h3 | h3
          · have := HA.out.lt h3 (by rw [HL.out]; exact h2); rw [HY.out] at this; omega
          · obtain rfl : k = h := by omega
            rw [HY.out]; exact hyx
    · obtain rfl : i = j := by omega
      have hltz : ¬ (i : Int) < (i : Int) := by omega
      by_cases hin : i < n
      · obtain ⟨ad, rfl, hcell⟩ := HR.out.at_ (Below.refl _ _) hin
        obtain ⟨y, hy⟩ : ∃ y, xs[i]?.getD 0 = y := ⟨_, rfl⟩
        rw [hy] at hcell
        have HY := Aside0.mk hy
        clear hy
        have hinz : (i : Int) < (n : Int) := by omega
        by_cases hxy : y = x
        · have hyx : (y == x) = true := by simpa using hxy
          go_wp2
          go_ret2
          refine ⟨(i : Int), ?_, rfl⟩
          rw [decide_eq_true (mem_of_at (by rw [HL.out]; exact hin) (HY.out.trans hxy))]; rfl
        · have hyx : (y == x) = false := by simpa using hxy
          go_wp2
          go_ret2
          refine ⟨(i : Int), ?_, rfl⟩
          rw [decide_eq_false (not_mem_of (i := i) HA.out (fun k hk => hI.out.1 k hk) (fun k h1 h2 => ?_))]; rfl
          have h3 := hI.out.2 i (by omega) hin
          rw [HY.out] at h3
          rcases Nat.lt_or_ge i k with h4 | h4
          · have := HA.out.lt h4 h2; rw [HY.out] at this; omega
          · obtain rfl : k = i := by omega
            rw [HY.out]; omega
      · have hinz : ¬ (i : Int) < (n : Int) := by omega
        go_wp2
        go_ret2
        refine ⟨(i : Int), ?_, rfl⟩
        rw [decide_eq_false (not_mem_of (i := i) HA.out (fun k hk => hI.out.1 k hk) (fun k h1 h2 => by rw [HL.out] at h2; omega))]; rfl
/-- The complex's method 'has'. -/
theorem has_c (m : Int) (A : Option Addr) (n c : Nat) (xs : List Int) (x : Int) (w : World) (hr : RC w A n xs) (hn : n ≤ 4611686018427387904) (ha : Asc xs) :
    Calls Try.prog 68 #[.agg #[.int .i64 m, .slice A n c], .int .i64 x] w fun e w' => e = .returned (.bool (decide (x ∈ xs))) ∧ Below w.heap.size w w' := by
  have hb1 : Below w.heap.size w (w.alloc (.cells #[.int .i64 m, .slice A n c] 26)) := (Below.refl _ w).alloc (Nat.le_refl _) _
  have hc := bsearch_c A n c xs x _ (Kd.C_below hr hb1) hn ha
  have HC := Aside0.mk hc
  have HB := Aside0.mk hb1
  clear hc hr ha hn hb1
  unfold BSPost at HC
  generalize decide (x ∈ xs) = r at HC ⊢
  go_enter Try.func68, Try.ntmps68
  go_wp2_with (go_at_call 136; refine HC.out.mono ?_; rintro e w' ⟨i, rfl, rfl⟩)
  go_ret
  exact ⟨rfl, HB.out⟩
end Go.Proofs.Ytnmhnkpijjmhjaa.Im
namespace Go.Proofs.Ytnmhnkpijjmhjaa.Im
set_option linter.unusedVariables false
set_option linter.unusedSimpArgs false
open Go.RowKit Go.Shelf Go.Proofs.YtnmhnkpijjmhjaaW.PrintWords Go.Proofs.YtnmhnkpijjmhjaaW.PrintLast Go.Proofs.YtnmhnkpijjmhjaaW.PrintMore
/-- A variable of type Complex in block b. -/
def CxAt (w : World) (b : Nat) (n : Int) (A : Option Addr) (len c : Nat) : Prop := w.heap[b]? = some (.cells #[.int .i64 n, .slice A len c] 26 (0, 0))
theorem CxAt.lt {w : World} {b : Nat} {n : Int} {A : Option Addr} {len c : Nat} (h : CxAt w b n A len c) : b < w.heap.size := (Array.getElem?_eq_some_iff.1 h).1
theorem CxAt.below {w w1 : World} {b : Nat} {n : Int} {A : Option Addr} {len c : Nat} (h : CxAt w b n A len c) (hb : Below w.heap.size w w1) : CxAt w1 b n A len c := (hb.block b h.lt).trans h
theorem CxAt.c0 {w : World} {b : Nat} {n : Int} {A : Option Addr} {len c : Nat} (h : CxAt w b n A len c) : w.cell? ⟨b, 0, none⟩ = some (.int .i64 n) := (cell_of_row w b 0 _ _ _ h).trans rfl
theorem CxAt.c1 {w : World} {b : Nat} {n : Int} {A : Option Addr} {len c : Nat} (h : CxAt w b n A len c) : w.cell? ⟨b, 1, none⟩ = some (.slice A len c) := (cell_of_row w b 1 _ _ _ h).trans rfl
theorem CxAt.keep {w w1 : World} {b : Nat} {n : Int} {A : Option Addr} {len c : Nat} (h : CxAt w b n A len c) (hb : Below w.heap.size w w1) : w1.cell? ⟨b, 0, none⟩ = some (.int .i64 n) ∧ w1.cell? ⟨b, 1, none⟩ = some (.slice A len c) := ⟨(h.below hb).c0, (h.below hb).c1⟩
theorem CxAt.fz {w : World} {b : Nat} {n : Int} {A : Option Addr} {len c : Nat} (h : CxAt w b n A len c) : w.frozen? ⟨b, 1, none⟩ = false := blk_frozen h 1
theorem CxAt.fz0 {w : World} {b : Nat} {n : Int} {A : Option Addr} {len c : Nat} (h : CxAt w b n A len c) : w.frozen? ⟨b, 0, none⟩ = false := blk_frozen h 0
theorem CxAt.grown {w w1 : World} {b : Nat} {n : Int} {A : Option Addr} {len c base : Nat} {v : Value} {xs : List Int} (h : CxAt w b n A len c) (hg : w.grownBy w1 v.ownBlock) (hR : RO w base v xs) : CxAt w1 b n A len c :=
  (hg.block b h.lt (Kd.R_ne hR h (by decide))).trans h
theorem CxAt.set {w : World} {b : Nat} {n : Int} {A : Option Addr} {len c : Nat} (h : CxAt w b n A len c) (A' : Option Addr) (len' c' : Nat) : CxAt (w.setCell ⟨b, 1, none⟩ (.slice A' len' c')) b n A' len' c' := by
  unfold CxAt at h ⊢
  simp [World.setCell, Array.getElem?_modify, h]
theorem CxAt.set0 {w : World} {b : Nat} {n : Int} {A : Option Addr} {len c : Nat} (h : CxAt w b n A len c) (n' : Int) : CxAt (w.setCell ⟨b, 0, none⟩ (.int .i64 n')) b n' A len c := by
  unfold CxAt at h ⊢
  simp [World.setCell, Array.getElem?_modify, h]
theorem CxAt.set2 {w : World} {b : Nat} {n : Int} {A : Option Addr} {len c : Nat} (h : CxAt w b n A len c) (n' : Int) (A' : Option Addr) (len' c' : Nat) : CxAt ((w.setCell ⟨b, 0, none⟩ (.int .i64 n')).setCell ⟨b, 1, none⟩ (.slice A' len' c')) b n' A' len' c' := (h.set0 n').set A' len' c'
theorem CxAt.far {w : World} {b : Nat} {n : Int} {A : Option Addr} {len c : Nat} (h : CxAt w b n A len c) {b' o : Nat} (hne : b ≠ b') (u : Value) : CxAt (w.setCell ⟨b', o, none⟩ u) b n A len c := (Below.heap_setCell w ⟨b', o, none⟩ u b hne).trans h
theorem RO.set {w : World} {base : Nat} {v : Value} {xs : List Int} (h : RO w base v xs) {b : Nat} {n : Int} {A : Option Addr} {len c : Nat} (hb : CxAt w b n A len c) (o : Nat) (u : Value) : RO (w.setCell ⟨b, o, none⟩ u) base v xs := Kd.R_set h hb (by decide) o u
theorem undrew {w w1 : World} (h : Below w.drew.heap.size w.drew w1) : Below w.heap.size w w1 := ⟨h.os, h.tape, h.output, h.size, h.block⟩
theorem CxAt.new (w : World) (n : Int) (A : Option Addr) (len c : Nat) : CxAt (w.alloc (.cells #[.int .i64 n, .slice A len c] 26)) w.heap.size n A len c := heap_alloc_new w _
/-- The method value 'k.has'. -/
theorem has_f (m : Int) (A : Option Addr) (n c : Nat) (xs : List Int) (w : World) (hr : RC w A n xs) (hn : n ≤ 4611686018427387904) (ha : Asc xs) :
    FnB Try.prog (.func (.func 68) #[.agg #[.int .i64 m, .slice A n c]] #[]) (fun _ => True) (fun x => decide (x ∈ xs)) w :=
  ⟨_, _, _, rfl, enters_of Try.func68 (by kernel_rfl) rfl, fun W x hW _ => has_c m A n c xs x W (Kd.C_below hr hW) hn ha⟩
set_option maxRecDepth 100000 in
set_option maxHeartbeats 1000000 in
theorem isComplex1_f (b : Nat) (m : Int) (A : Option Addr) (n c : Nat) (xs : List Int) (w : World) (hb : CxAt w b m A n c) (hr : RC w A n xs) (hn : n ≤ 4611686018427387904) (ha : Asc xs) :
    FnB Try.prog (.func (.func 134) #[] #[.pointer (some ⟨b, 0, none⟩)]) (fun _ => True) (fun x => (bordersL x).all fun y => decide (y ∈ xs)) w := by
  refine ⟨_, _, _, rfl, enters_of Try.func134 (by kernel_rfl) rfl, fun W x hW _ => ?_⟩
  have hr' := Kd.C_below hr hW
  have hb' := hb.below hW
  clear hb hr hW
  show Calls Try.prog 134 #[.int .i64 x, .pointer (some ⟨b, 0, none⟩)] W fun e w' => e = .returned (.bool ((bordersL x).all fun y => decide (y ∈ xs))) ∧ Below W.heap.size W w'
  have HR := Aside0.mk hr'
  have HA := Aside0.mk ha
  have HBK := Aside0.mk hb'
  have h0 := hb'.c0
  have h1 := hb'.c1
  go_enter Try.func134, Try.ntmps134
  go_wp2
  go_region_held3 (fun w' : World => w'.cell? ⟨b, 0, none⟩ = some (.int .i64 m) ∧ w'.cell? ⟨b, 1, none⟩ = some (.slice A n c)) (first | exact ⟨h0, h1⟩ | exact HBK.out.keep (by assumption)) (first | (go_at_call 135; refine (borders_c _ _).mono ?_; rintro e w1 ⟨v, rfl, hv, hbv⟩; have hb1 := undrew hbv; obtain ⟨Av, cv, rfl⟩ := Kd.R_slice hv) | (go_at_call 76; refine (areAll_c _ _ _ _ _ _ _ _ (Kd.R_reads' hv).2.2 (has_f m A n c xs _ (Kd.C_below HR.out hb1) hn HA.out) (fun _ _ => trivial)).mono ?_; rintro e w2 ⟨rfl, hb2⟩; have hb3 := below_in hb1 hb2))
  all_goals
    go_wp2
    go_ret
    exact ⟨rfl, hb3⟩
def okAt (n : Int) (xs : List Int) (i : Nat) : Bool := withinB (xs[i]?.getD 0) 1 (fullZ n) && (i == 0 || decide (xs[i - 1]?.getD 0 < xs[i]?.getD 0))
def ascB (n : Int) (xs : List Int) : Bool := (List.range xs.length).all (okAt n xs)
theorem ascB_asc {n : Int} {xs : List Int} (h : ascB n xs = true) : Asc xs := by
  have ha : ∀ i, i < xs.length → okAt n xs i = true := by simpa [ascB] using h
  have step : ∀ i, i + 1 < xs.length → xs[i]?.getD 0 < xs[i + 1]?.getD 0 := by
    intro i hi
    have := ha (i + 1) hi
    simp only [okAt, Bool.and_eq_true, Bool.or_eq_true, decide_eq_true_eq] at this
    rcases this.2 with h | h
    · simp at h
    · simpa using h
  have all : ∀ d i, i + d + 1 < xs.length → xs[i]?.getD 0 < xs[i + d + 1]?.getD 0 := by
    intro d
    induction d with
    | zero => intro i hi; exact step i hi
    | succ d ih => intro i hi; exact Int.lt_trans (ih i (by omega)) (step (i + d + 1) hi)
  refine List.pairwise_iff_getElem.2 fun i j hi hj hij => ?_
  have := all (j - i - 1) i (by omega)
  rw [show i + (j - i - 1) + 1 = j by omega, List.getElem?_eq_getElem hi, List.getElem?_eq_getElem hj] at this
  exact this
theorem ascB_no {n : Int} {xs : List Int} {i : Nat} (hi : i < xs.length) (h : okAt n xs i = false) : ascB n xs = false := by
  rw [Bool.eq_false_iff]
  intro ht
  have ha : ∀ i, i < xs.length → okAt n xs i = true := by simpa [ascB] using ht
  rw [ha i hi] at h
  cases h
theorem ascB_yes {n : Int} {xs : List Int} (h : ∀ i, i < xs.length → okAt n xs i = true) : ascB n xs = true := by simpa [ascB] using h
theorem okAt_next {n : Int} {xs : List Int} {k : Nat} (h : ∀ j, j < k → okAt n xs j = true) (hk : okAt n xs k = true) : ∀ j, j < k + 1 → okAt n xs j = true := fun j hj => by
  rcases Nat.lt_or_ge j k with h1 | h1
  · exact h j h1
  · obtain rfl : j = k := by omega
    exact hk
def closedB (xs : List Int) : Bool := xs.all fun f => (bordersL f).all fun y => decide (y ∈ xs)
/-- IsComplex. -/
def isC (n : Int) (xs : List Int) : Bool := withinB n 1 6 && (ascB n xs && closedB xs)
set_option maxRecDepth 100000 in
set_option maxHeartbeats 2000000 in
theorem isComplex_c (m : Int) (A : Option Addr) (n c : Nat) (xs : List Int) (w : World) (hr : RC w A n xs) (hn : n ≤ 4611686018427387904) :
    Calls Try.prog 65 #[.agg #[.int .i64 m, .slice A n c]] w fun e w' => e = .returned (.bool (isC m xs)) ∧ Below w.heap.size w w' := by
  have hbk := CxAt.new w m A n c
  have hb1 : Below w.heap.size w (w.alloc (.cells #[.int .i64 m, .slice A n c] 26)) := (Below.refl _ w).alloc (Nat.le_refl _) _
  have HBK := Aside0.mk hbk
  have HB1 := Aside0.mk hb1
  have HR := Aside0.mk hr
  have HL := Aside0.mk hr.len.1
  clear hbk hb1 hr
  cases hs : withinB m 1 6 with
  | false =>
    have he : isC m xs = false := by simp [isC, hs]
    have hsz := isSize_c m
    rw [hs] at hsz
    have HS := Lib.hid hsz
    rw [he]
    clear hs he hsz
    go_enter Try.func65, Try.ntmps65
    go_wp2_with (go_at_call 132; refine (HS.out _).mono ?_; rintro e w' ⟨rfl, rfl⟩)
    go_ret
    exact ⟨rfl, HB1.out⟩
  | true =>
    have hsz := isSize_c m
    rw [hs] at hsz
    have HS := Lib.hid hsz
    have hm : 1 ≤ m ∧ m ≤ 6 := by simpa [withinB] using hs
    obtain ⟨hm1, hm6⟩ := hm
    have HE : Aside0 (isC m xs = (ascB m xs && closedB xs)) := ⟨by simp [isC, hs]⟩
    clear hs hsz
    go_enter Try.func65, Try.ntmps65
    go_wp2_with (go_at_call 132; refine (HS.out _).mono ?_; rintro e w' ⟨rfl, rfl⟩)
    go_loopw [3, 4, 12] (fun _ _ i wr => ∃ k : Nat, k ≤ n ∧ i = .int .i64 k ∧ Aside0 (Below w.heap.size w wr) ∧ Aside0 (CxAt wr w.heap.size m A n c) ∧ Aside0 (∀ j, j < k → okAt m xs j = true)) (fun _ _ i _ => n - (intOf i).toNat)
    case atStart => exact ⟨0, by omega, rfl, HB1, HBK, ⟨fun j hj => absurd hj (Nat.not_lt_zero _)⟩⟩
    case round =>
      obtain ⟨k, hk, rfl, hB, hK, hO⟩ := hrel
      by_cases hlt : k < n
      · have hltz : (k : Int) < (n : Int) := by omega
        obtain ⟨ad, rfl, hcell⟩ := HR.out.at_ hB.out hlt
        obtain ⟨y, hy⟩ : ∃ y, xs[k]?.getD 0 = y := ⟨_, rfl⟩
        rw [hy] at hcell
        have HY := Aside0.mk hy
        clear hy
        have k0 := hK.out.c0
        have k1 := hK.out.c1
        have hno : okAt m xs k = false → isC m xs = false := fun h => by rw [HE.out, ascB_no (by rw [HL.out]; exact hlt) h]; rfl
        have HNO := Lib.hid hno
        clear hno
        rcases Nat.eq_zero_or_pos k with hk0 | hk0
        · have hkn : ¬ 0 < k := by omega
          have HK0 := Lib.hid hk0
          clear hk0
          go_wp2_with (first
            | (go_at_call 133; refine (full_c _ _ _ hm1 hm6).mono ?_; rintro e w2 ⟨rfl, hb2⟩; have HB2 := Aside0.mk hb2; have l0 := (hK.out.keep hb2).1; have l1 := (hK.out.keep hb2).2; clear hb2)
            | (go_at_call 110; refine (within_c _ _ _ _).mono ?_; rintro e w3 ⟨rfl, rfl⟩))
          · go_roundw
            case measure => simp [intOf]; omega
            case rel =>
              have hw : withinB y 1 (fullZ m) = true := by assumption
              exact ⟨k + 1, by omega, by go_num, ⟨below_in hB.out HB2.out⟩, ⟨hK.out.below HB2.out⟩, ⟨okAt_next hO.out (by rw [okAt, HY.out, hw, HK0.out]; rfl)⟩⟩
          · have hw : ¬ withinB y 1 (fullZ m) = true := by assumption
            go_ret
            refine ⟨?_, below_in hB.out HB2.out⟩
            rw [HNO.out (by rw [okAt, HY.out, Bool.eq_false_iff.2 hw]; rfl)]; rfl
        · obtain ⟨ad', e', hprev⟩ := HR.out.at_ hB.out (show k - 1 < n by omega)
          cases e'
          obtain ⟨z, hz⟩ : ∃ z, xs[k - 1]?.getD 0 = z := ⟨_, rfl⟩
          rw [hz] at hprev
          have HZ := Aside0.mk hz
          clear hz
          have HK0 : Aside0 ((k == 0) = false) := ⟨by simp; omega⟩
          go_wp2_with (first
            | (go_at_call 133; refine (full_c _ _ _ hm1 hm6).mono ?_; rintro e w2 ⟨rfl, hb2⟩; have HB2 := Aside0.mk hb2; have l0 := (hK.out.keep hb2).1; have l1 := (hK.out.keep hb2).2; have l2 := pw_cell_below hb2 hprev; clear hb2)
            | (go_at_call 110; refine (within_c _ _ _ _).mono ?_; rintro e w3 ⟨rfl, rfl⟩))
          · have hyz : y ≤ z := by assumption
            go_ret
            refine ⟨?_, below_in hB.out HB2.out⟩
            rw [HNO.out (by rw [okAt, HY.out, HZ.out, HK0.out, decide_eq_false (by omega)]; simp)]; rfl
          · go_roundw
            case measure => simp [intOf]; omega
            case rel =>
              have hw : withinB y 1 (fullZ m) = true := by assumption
              have hyz : z < y := by assumption
              exact ⟨k + 1, by omega, by go_num, ⟨below_in hB.out HB2.out⟩, ⟨hK.out.below HB2.out⟩, ⟨okAt_next hO.out (by rw [okAt, HY.out, HZ.out, hw, decide_eq_true hyz]; simp)⟩⟩
          · have hw : ¬ withinB y 1 (fullZ m) = true := by assumption
            go_ret
            refine ⟨?_, below_in hB.out HB2.out⟩
            rw [HNO.out (by rw [okAt, HY.out, Bool.eq_false_iff.2 hw]; rfl)]; rfl
      · obtain rfl : k = n := by omega
        have hltz : ¬ (k : Int) < (k : Int) := by omega
        have hasc : ascB m xs = true := ascB_yes (fun j hj => hO.out j (by rw [HL.out] at hj; exact hj))
        have HE2 : Aside0 (isC m xs = closedB xs) := ⟨by rw [HE.out, hasc]; rfl⟩
        have HAS := Aside0.mk (ascB_asc hasc)
        have k0 := hK.out.c0
        have k1 := hK.out.c1
        clear hasc
        have hc2 := areAll_c A k c xs _ _ _ wr (Kd.C_below HR.out hB.out) (isComplex1_f w.heap.size m A k c xs wr hK.out (Kd.C_below HR.out hB.out) hn HAS.out) (fun _ _ => trivial)
        have HC2 := Aside0.mk hc2
        clear hc2
        go_wp2_with (go_at_call 76; refine HC2.out.mono ?_; rintro e w2 ⟨rfl, hb2⟩)
        go_ret
        exact ⟨by rw [HE2.out]; rfl, below_in hB.out hb2⟩
end Go.Proofs.Ytnmhnkpijjmhjaa.Im
namespace Go.Proofs.Ytnmhnkpijjmhjaa.Im
set_option linter.unusedVariables false
set_option linter.unusedSimpArgs false
open Go.RowKit Go.Shelf Go.Proofs.YtnmhnkpijjmhjaaW.PrintWords Go.Proofs.YtnmhnkpijjmhjaaW.PrintLast Go.Proofs.YtnmhnkpijjmhjaaW.PrintMore
/-- 1, 2, .., k - 1. -/
def nums1 (k : Nat) : List Int := (List.range (k - 1)).map fun i => ((i + 1 : Nat) : Int)
theorem nums1_succ {k : Nat} (h : 1 ≤ k) : nums1 (k + 1) = nums1 k ++ [(k : Int)] := by
  unfold nums1
  rw [show k + 1 - 1 = (k - 1) + 1 by omega, List.range_succ, List.map_append]
  simp only [List.map_cons, List.map_nil, show k - 1 + 1 = k by omega]
theorem nums1_len (k : Nat) : (nums1 k).length = k - 1 := by simp [nums1]
theorem mem_nums1 {k : Nat} {x : Int} : x ∈ nums1 k ↔ 1 ≤ x ∧ x < k := by
  simp only [nums1, List.mem_map, List.mem_range]
  constructor
  · rintro ⟨a, ha, rfl⟩; omega
  · intro h; exact ⟨(x - 1).toNat, by omega, by omega⟩
/-- The sets of n vertices that are as told. -/
def thoseL (n : Int) (p : Int → Bool) : List Int := (nums1 (2 ^ n.toNat)).filter p
def thoseUpto (p : Int → Bool) (k : Nat) : List Int := (nums1 k).filter p
theorem thoseUpto_yes {p : Int → Bool} {k : Nat} (h : 1 ≤ k) (hp : p (k : Int) = true) : thoseUpto p (k + 1) = thoseUpto p k ++ [(k : Int)] := by
  unfold thoseUpto; rw [nums1_succ h, List.filter_append]; simp [hp]
theorem thoseUpto_no {p : Int → Bool} {k : Nat} (h : 1 ≤ k) (hp : p (k : Int) = false) : thoseUpto p (k + 1) = thoseUpto p k := by
  unfold thoseUpto; rw [nums1_succ h, List.filter_append]; simp [hp]
theorem thoseUpto_len (p : Int → Bool) (k : Nat) : (thoseUpto p k).length ≤ k := by
  unfold thoseUpto
  have := List.length_filter_le p (nums1 k)
  rw [nums1_len] at this
  omega
set_option maxRecDepth 100000 in
set_option maxHeartbeats 2000000 in
theorem those_c (n : Int) (fv : Value) (dom : Int → Prop) (p : Int → Bool) (w : World) (hn1 : 1 ≤ n) (hn6 : n ≤ 6) (hf : FnB Try.prog fv dom p w) (hd : ∀ x, 1 ≤ x → x ≤ fullZ n → dom x) :
    Calls Try.prog 85 #[.int .i64 n, fv] w fun e w' => ∃ v, e = .returned (.agg #[.int .i64 n, v]) ∧ RO w' w.heap.size v (thoseL n p) ∧ Below w.heap.size w w' := by
  obtain ⟨g, fs, lb, rfl, eg, hcall⟩ := hf
  obtain ⟨N, hN⟩ : ∃ N : Nat, 2 ^ n.toNat = N := ⟨_, rfl⟩
  have hsh : IntKind.i64.wrap (2 ^ n.toNat) = (N : Int) ∧ 2 ≤ N ∧ N ≤ 64 := by
    rw [← hN]
    obtain rfl | rfl | rfl | rfl | rfl | rfl : n = 1 ∨ n = 2 ∨ n = 3 ∨ n = 4 ∨ n = 5 ∨ n = 6 := by omega
    all_goals exact ⟨rfl, by decide, by decide⟩
  obtain ⟨hsh, hN2, hN64⟩ := hsh
  have e2 : (2 : Int) ^ n.toNat = (N : Int) := by rw [← hN]; simp
  have hd' : ∀ x : Int, 1 ≤ x → x < N → dom x := fun x h1 h2 => hd x h1 (by unfold fullZ; rw [e2]; omega)
  have HD := Aside0.mk hd'
  have HF := Aside0.mk hcall
  have HL : Aside0 (thoseL n p = thoseUpto p N) := ⟨by unfold thoseL thoseUpto; rw [hN]⟩
  clear hcall hd hd' hN e2
  have hbk0 := CxAt.new w 0 none 0 0
  have hbk1 := CxAt.new (w.alloc (.cells #[.int .i64 0, .slice none 0 0] 26)) n none 0 0
  rw [World.size_alloc] at hbk1
  have hb1 : Below w.heap.size w ((w.alloc (.cells #[.int .i64 0, .slice none 0 0] 26)).alloc (.cells #[.int .i64 n, .slice none 0 0] 26)) := ((Below.refl _ w).alloc (Nat.le_refl _) _).alloc (by simp) _
  have HK0 := Aside0.mk (hbk0.below ((Below.refl _ _).alloc (Nat.le_refl _) (.cells #[.int .i64 n, .slice none 0 0] 26)))
  have HK1 := Aside0.mk hbk1
  have HB1 := Aside0.mk hb1
  clear hbk0 hbk1 hb1
  go_enter Try.func85, Try.ntmps85
  go_wp2
  go_loopw [6] (fun i wr => ∃ (k : Nat) (A : Option Addr) (c : Nat), 1 ≤ k ∧ k ≤ N ∧ i = .int .i64 k ∧ Aside0 (CxAt wr (w.heap.size + 1) n A (thoseUpto p k).length c) ∧ Aside0 (RO wr w.heap.size (.slice A (thoseUpto p k).length c) (thoseUpto p k)) ∧ Aside0 (CxAt wr w.heap.size 0 none 0 0) ∧ Aside0 (Below w.heap.size w wr)) (fun i _ => N - (intOf i).toNat)
  case atStart => exact ⟨1, none, 0, by omega, by omega, rfl, HK1, ⟨Kd.R_nil _ _ _ _ _⟩, HK0, HB1⟩
  case round =>
    obtain ⟨k, A, c, hk1, hkN, rfl, K5, R, K4, B⟩ := hrel
    by_cases hlt : k < N
    · have hltz : (k : Int) < (N : Int) := by omega
      have hpk := HF.out wr (k : Int) B.out (HD.out _ (by omega) (by omega))
      have HP := Aside0.mk hpk
      clear hpk
      cases hq : p (k : Int) with
      | false =>
        rw [hq] at HP
        have HQ := Aside0.mk hq
        clear hq
        go_wp2_with (go_at_fn g; refine HP.out.mono ?_; rintro e w2 ⟨rfl, hb2⟩; have HB2 := Aside0.mk hb2; clear hb2)
        go_roundw
        case measure => simp [intOf]; omega
        case rel => exact ⟨k + 1, A, c, by omega, by omega, by go_num, by rw [thoseUpto_no hk1 HQ.out]; exact ⟨K5.out.below HB2.out⟩, by rw [thoseUpto_no hk1 HQ.out]; exact ⟨Kd.R_below R.out HB2.out⟩, ⟨K4.out.below HB2.out⟩, ⟨below_in B.out HB2.out⟩⟩
      | true =>
        rw [hq] at HP
        have HQ := Aside0.mk hq
        clear hq
        have hll : (thoseUpto p k).length ≤ 64 := Nat.le_trans (thoseUpto_len p k) (by omega)
        go_wp2_with (first
          | (go_at_fn g; refine HP.out.mono ?_; rintro e w2 ⟨rfl, hb2⟩; have HB2 := Aside0.mk hb2; have K52 := Aside0.mk (K5.out.below hb2); have R2 := Aside0.mk (Kd.R_below R.out hb2); have K42 := Aside0.mk (K4.out.below hb2); have B2 := Aside0.mk (below_in B.out hb2); have l1 := K52.out.c1; clear hb2)
          | (at_builtin; refine ap64 w.heap.size rfl (.tmp 19) (.tmp 21) 22 rfl Try.underlying22 info64 _ _ _ rfl rfl R2.out B2.out B2.out.size (by omega) ?_; intro v1 w1 ho hb hg hat; clear hat; obtain ⟨A1, c1, rfl⟩ := Kd.R_slice ho; have R3 := Aside0.mk ho; have B3 := Aside0.mk hb; have K53 := Aside0.mk (K52.out.grown hg R2.out); have K43 := Aside0.mk (K42.out.grown hg R2.out); have m1 := K53.out.c1; have m2 := K53.out.fz; clear ho hb hg))
        go_roundw
        case measure => simp [intOf]; omega
        case rel =>
          refine ⟨k + 1, A1, c1, by omega, by omega, by go_num, ?_⟩
          rw [thoseUpto_yes hk1 HQ.out, List.length_append]
          exact ⟨⟨K53.out.set _ _ _⟩, ⟨by have := R3.out.set K53.out 1 (.slice A1 ((thoseUpto p k).length + 1) c1); simpa using this⟩, ⟨K43.out.far (by omega) _⟩, ⟨B3.out.setCell (p := ⟨w.heap.size + 1, 1, none⟩) (by simp) _⟩⟩
    · obtain rfl : k = N := by omega
      have hltz : ¬ (k : Int) < (k : Int) := by omega
      have l0 := K5.out.c0
      have l1 := K5.out.c1
      have m0 := K4.out.c0
      have m1 := K4.out.c1
      have f0 := K4.out.fz0
      have f1 := K4.out.fz
      go_wp2
      have hX := K4.out.set2 n A (thoseUpto p k).length c
      have x0 := hX.c0
      have x1 := hX.c1
      refine bodyPost_ret (v := .agg #[.int .i64 n, .slice A (thoseUpto p k).length c]) (by simp [results, Try.results85, go_sem, x0, x1]) rfl ⟨_, rfl, ?_, ?_⟩
      · rw [HL.out]
        exact (R.out.set K4.out _ _).set (K4.out.set0 _) _ _
      · exact (B.out.setCell (p := ⟨w.heap.size, 0, none⟩) (Nat.le_refl _) _).setCell (p := ⟨w.heap.size, 1, none⟩) (Nat.le_refl _) _
end Go.Proofs.Ytnmhnkpijjmhjaa.Im
namespace Go.Proofs.Ytnmhnkpijjmhjaa.Im
set_option linter.unusedVariables false
set_option linter.unusedSimpArgs false
open Go.RowKit Go.Shelf Go.Proofs.YtnmhnkpijjmhjaaW.PrintWords Go.Proofs.YtnmhnkpijjmhjaaW.PrintLast Go.Proofs.YtnmhnkpijjmhjaaW.PrintMore
theorem isC_of {n : Int} {xs : List Int} (h : isC n xs = true) : (1 ≤ n ∧ n ≤ 6) ∧ ascB n xs = true ∧ closedB xs = true := by
  simpa [isC, withinB, Bool.and_eq_true] using h
end Go.Proofs.Ytnmhnkpijjmhjaa.Im
namespace Go.Proofs.Ytnmhnkpijjmhjaa.Im
set_option linter.unusedVariables false
set_option linter.unusedSimpArgs false
open Go.RowKit Go.Shelf Go.Proofs.YtnmhnkpijjmhjaaW.PrintWords Go.Proofs.YtnmhnkpijjmhjaaW.PrintLast Go.Proofs.YtnmhnkpijjmhjaaW.PrintMore
/-- .. a list. -/
def SlOnly (base : Nat) (w : World) (r1 : List Int) (e : Ending) (w' : World) : Prop := ∃ v : Value, e = .returned v ∧ RO w' base v r1 ∧ Below base w w'
/-- .. a complex. -/
def CxOnly (base : Nat) (w : World) (r1 : Int) (r2 : List Int) (e : Ending) (w' : World) : Prop := ∃ v : Value, e = .returned (.agg #[.int .i64 r1, v]) ∧ RO w' base v r2 ∧ Below base w w'
/-- A field of a complex that was handed back. -/
@[go_sem] theorem field_cx1 (a v : Value) (w : World) : (Instr.field 26 (.agg #[a, v]) 1).run Try.prog w = .ok v w := by simp [Instr.field, asAgg, go_sem]
@[go_sem] theorem field_cx0 (a v : Value) (w : World) : (Instr.field 26 (.agg #[a, v]) 0).run Try.prog w = .ok a w := by simp [Instr.field, asAgg, go_sem]
end Go.Proofs.Ytnmhnkpijjmhjaa.Im
namespace Go.Proofs.Ytnmhnkpijjmhjaa.Im
set_option linter.unusedVariables false
set_option linter.unusedSimpArgs false
open Go.RowKit Go.Shelf Go.Proofs.YtnmhnkpijjmhjaaW.PrintWords Go.Proofs.YtnmhnkpijjmhjaaW.PrintLast Go.Proofs.YtnmhnkpijjmhjaaW.PrintMore
theorem bx_below {w w1 : World} {b : Nat} {t : TypeId} {v : Value} (h : Boxed w b t v) (hb : Below w.heap.size w w1) : Boxed w1 b t v := (hb.block b h.lt).trans h
def partP (xs : List Int) (q : Int → Bool) (x : Int) : Bool := decide (x ∈ xs) && q x
set_option maxRecDepth 100000 in
theorem part1_f (b b2 : Nat) (m : Int) (A : Option Addr) (n c : Nat) (xs : List Int) (fv : Value) (dom : Int → Prop) (q : Int → Bool) (w : World) (hb : CxAt w b m A n c) (hb2 : Boxed w b2 80 fv) (hf : FnB Try.prog fv dom q w) (hr : RC w A n xs) (hn : n ≤ 4611686018427387904) (ha : Asc xs) :
    FnB Try.prog (.func (.func 197) #[] #[.pointer (some ⟨b, 0, none⟩), .pointer (some ⟨b2, 0, none⟩)]) dom (partP xs q) w := by
  refine ⟨_, _, _, rfl, enters_of Try.func197 (by kernel_rfl) rfl, fun W x hW hx => ?_⟩
  obtain ⟨g, fs, lb, rfl, eg, hcall⟩ := hf
  have HC := Aside0.mk (fun W' (h : Below W.heap.size W W') => hcall W' x (below_in hW h) hx)
  have HH := Aside0.mk (has_c m A n c xs x W (Kd.C_below hr hW) hn ha)
  have hb' := hb.below hW
  have h0 := hb'.c0
  have h1 := hb'.c1
  have hcell : W.cell? ⟨b2, 0, none⟩ = some (.func (.func g) fs lb) := (hW.cell (p := ⟨b2, 0, none⟩) hb2.lt).trans hb2.cell
  have HL := Aside0.mk (show b2 < W.heap.size from Nat.lt_of_lt_of_le hb2.lt hW.size)
  clear hcall hb hb' hW hx hb2 ha hr hn
  show Calls Try.prog 197 #[.int .i64 x, .pointer (some ⟨b, 0, none⟩), .pointer (some ⟨b2, 0, none⟩)] W fun e w' => e = .returned (.bool (partP xs q x)) ∧ Below W.heap.size W w'
  have HE : Aside0 (partP xs q x = (decide (x ∈ xs) && q x)) := ⟨rfl⟩
  generalize q x = r at HC HE
  cases m1 : decide (x ∈ xs) with
  | false =>
    rw [m1] at HH
    go_enter Try.func197, Try.ntmps197
    go_wp2_with (go_at_call 68; refine HH.out.mono ?_; rintro e w1 ⟨rfl, hbw⟩)
    go_ret
    exact ⟨by rw [HE.out, m1]; rfl, hbw⟩
  | true =>
    rw [m1] at HH
    go_enter Try.func197, Try.ntmps197
    go_wp2_with (first
      | (go_at_call 68; refine HH.out.mono ?_; rintro e w1 ⟨rfl, hbw⟩; have hcell1 := (hbw.cell (p := ⟨b2, 0, none⟩) HL.out).trans hcell)
      | (go_at_fn g; refine (HC.out _ hbw).mono ?_; rintro e w2 ⟨rfl, hb3⟩; have hbx := below_in hbw hb3))
    go_ret
    exact ⟨by rw [HE.out, m1]; rfl, hbx⟩
def partL (n : Int) (xs : List Int) (q : Int → Bool) : List Int := thoseL n (partP xs q)
set_option maxRecDepth 100000 in
theorem part_c (m : Int) (A : Option Addr) (n c : Nat) (xs : List Int) (fv : Value) (dom : Int → Prop) (q : Int → Bool) (w : World) (hm1 : 1 ≤ m) (hm6 : m ≤ 6) (hf : FnB Try.prog fv dom q w) (hd : ∀ x, 1 ≤ x → x ≤ fullZ m → dom x) (hr : RC w A n xs) (hn : n ≤ 4611686018427387904) (ha : Asc xs) :
    Calls Try.prog 145 #[.agg #[.int .i64 m, .slice A n c], fv] w (CxOnly w.heap.size w m (partL m xs q)) := by
  have hbk0 := CxAt.new w m A n c
  have hbx := Boxed.new (w.alloc (.cells #[.int .i64 m, .slice A n c] 26)) 80 fv
  have hbk2 := CxAt.new ((w.alloc (.cells #[.int .i64 m, .slice A n c] 26)).alloc (.cells #[fv] 80)) 0 none 0 0
  rw [World.size_alloc] at hbx
  rw [World.size_alloc, World.size_alloc] at hbk2
  have hb1 : Below w.heap.size w (((w.alloc (.cells #[.int .i64 m, .slice A n c] 26)).alloc (.cells #[fv] 80)).alloc (.cells #[.int .i64 0, .slice none 0 0] 26)) := (((Below.refl _ w).alloc (Nat.le_refl _) _).alloc (by simp) _).alloc (by simp; omega) _
  have hk0 := (hbk0.below ((Below.refl _ _).alloc (Nat.le_refl _) (.cells #[fv] 80))).below ((Below.refl _ _).alloc (Nat.le_refl _) (.cells #[.int .i64 0, .slice none 0 0] 26))
  have hbx2 := bx_below hbx ((Below.refl _ _).alloc (Nat.le_refl _) (.cells #[.int .i64 0, .slice none 0 0] 26))
  have hc := those_c m _ dom _ _ hm1 hm6 (part1_f w.heap.size (w.heap.size + 1) m A n c xs fv dom q _ hk0 hbx2 (hf.later hb1) (Kd.C_below hr hb1) hn ha) hd
  obtain ⟨g, fs, lb, rfl, eg, hcall⟩ := hf
  have l0 := hk0.c0
  have HC := Aside0.mk hc
  have HB := Aside0.mk hb1
  have HK := Aside0.mk hbk2
  clear hc hb1 hbk2 hk0 hbx hbx2 hbk0 hr hn ha hd hcall eg
  unfold partL
  generalize partP xs q = pq at HC ⊢
  go_enter Try.func145, Try.ntmps145
  go_wp2_with (go_at_call 85; refine HC.out.mono ?_; rintro e w2 ⟨v, rfl, hv, hb2⟩; obtain ⟨A2, c2, rfl⟩ := Kd.R_slice hv; have R2 := Aside0.mk hv; have HB2 := Aside0.mk (below_in HB.out hb2); have K2 := Aside0.mk (HK.out.below hb2); have m0 := K2.out.c0; have m1 := K2.out.c1; have f0 := K2.out.fz0; have f1 := K2.out.fz; clear hv hb2)
  have hX := K2.out.set2 m A2 (thoseL m pq).length c2
  have x0 := hX.c0
  have x1 := hX.c1
  exact bodyPost_ret (v := .agg #[.int .i64 m, .slice A2 (thoseL m pq).length c2]) (by simp [results, Try.results145, go_sem, x0, x1]) rfl ⟨_, rfl, Kd.R_lower ((R2.out.set K2.out _ _).set (K2.out.set0 _) _ _) HB.out.size, (HB2.out.setCell (p := ⟨w.heap.size + 1 + 1, 0, none⟩) (by simp; omega) _).setCell (p := ⟨w.heap.size + 1 + 1, 1, none⟩) (by simp; omega) _⟩
end Go.Proofs.Ytnmhnkpijjmhjaa.Im
namespace Go.Proofs.Ytnmhnkpijjmhjaa.Im
set_option linter.unusedVariables false
set_option linter.unusedSimpArgs false
open Go.RowKit Go.Shelf Go.Proofs.YtnmhnkpijjmhjaaW.PrintWords Go.Proofs.YtnmhnkpijjmhjaaW.PrintLast Go.Proofs.YtnmhnkpijjmhjaaW.PrintMore
section
variable {P : Program} {ops : Array Oper} {rest : List Oper} {o : Oper} {a : Act} {Q : Exit → Act → World → Prop}
/-- append(v, ys...) to a row of the call's own; behind 'at_builtin'. -/
theorem ap64s {w0 W : World} (base : Nat) (hgd : o.guard = none) (s x : Operand) (t : TypeId)
    (ho : o.op = .call { callee := .builtin .append, args := #[s, x], argTypes := #[t, t] }) (ht : P.underlying t = some (.slice 2))
    (hinfo : (P.info? 2).map (fun i => (i.zero, i.size, i.bytes)) = some (some (.int .i64 0), 1, 8)) (v : Value) (xs ys : List Int) (A : Option Addr) (m c : Nat)
    (hs : a.eval s = v) (hx : a.eval x = .slice A m c) (HO : RO W base v xs) (HR : RC W A m ys) (HB : Below base w0 W) (hbase : base ≤ W.heap.size) (hl : xs.length + m ≤ 17592186044415)
    (h : ∀ v1 w1, RO w1 base v1 (xs ++ ys) → Below base w0 w1 → W.grownBy w1 v.ownBlock → (v1.ownBlock = v.ownBlock ∨ ∃ b, v1.ownBlock = some b ∧ W.heap.size ≤ b) → wpList P ops Q rest (a.put o.dst v1) w1) :
    wpList P ops Q (o :: rest) a W :=
  Kd.R_append_rows (Kd.int .i64) base hgd s x t 2 (.int .i64 0) 8 ho ht hinfo rfl (by decide) (by decide) v xs ys A m c (fun _ => True) (fun _ => False) hs hx HO HR (fun _ _ h => h) (fun _ h => h.elim) (fun _ _ => trivial) HB hbase (by omega) h
end
/-- An empty row that was made. -/
theorem RO.made (w : World) (base cap : Nat) (cur : Array Value) (hb : base ≤ w.heap.size) (hm : cap ≤ maxLen) (hs : cur.size = cap * 1) : RO (w.alloc (.cells cur 2)) base (.slice (some ⟨w.heap.size, 0, none⟩) 0 cap) [] :=
  RO.of_row (World.ownsRow_made w cur cap hb hm hs)
set_option maxRecDepth 100000 in
set_option maxHeartbeats 1000000 in
theorem clone_c (A : Option Addr) (n c : Nat) (xs : List Int) (w : World) (hr : RC w A n xs) (hn : n ≤ 1048576) :
    Calls Try.prog 158 #[.slice A n c] w (SlOnly w.heap.size w xs) := by
  have qnil : ∀ (w : World) (a : Option Addr) (n c n' c' : Nat), (binOp .eql 22 (.slice a n c) (.slice none n' c')).run Try.prog w = .ok (.bool a.isNone) w := fun w a n c n' c' => Lib.run_eql_slice_nil w _ _ a n c n' c' Try.underlying22
  cases A with
  | none =>
    have h0 : n = 0 := by
      rcases Nat.eq_zero_or_pos n with h | h
      · exact h
      · obtain ⟨ad, e, _⟩ := hr.2.2 h; cases e
    have hx : xs = [] := List.eq_nil_of_length_eq_zero (by rw [hr.1, h0])
    subst hx
    clear hr
    go_enter Try.func158, Try.ntmps158
    go_wp2
    go_ret
    exact ⟨_, rfl, Kd.R_nil _ _ _ _ _, Below.refl _ _⟩
  | some ad =>
    have hb1 : Below w.heap.size w (w.alloc (.cells #[] 2)) := (Below.refl _ w).alloc (Nat.le_refl _) _
    have HR := Aside0.mk (Kd.C_below hr hb1)
    have HB := Aside0.mk hb1
    have HO := Aside0.mk (RO.made w w.heap.size 0 #[] (Nat.le_refl _) (Nat.zero_le _) rfl)
    clear hr hb1
    go_enter Try.func158, Try.ntmps158
    go_wp2_with (at_builtin; refine ap64s w.heap.size rfl (.tmp 5) (.tmp 6) 22 rfl Try.underlying22 info64 _ _ _ _ _ _ rfl rfl HO.out HR.out HB.out HB.out.size (by simp; omega) ?_; intro v1 w1 ho hb hg hat; clear hat hg; have H1 := Aside0.mk ho; have HB1 := Aside0.mk hb; clear ho hb)
    go_ret
    exact ⟨_, rfl, H1.out, HB1.out⟩
theorem RO.cell {W : World} {base g n cap : Nat} {ys : List Int} (h : RO W base (.slice (some ⟨g, 0, none⟩) n cap) ys) {j : Nat} (hj : j < n) : W.cell? ⟨g, j, none⟩ = some (.int .i64 (ys[j]?.getD 0)) ∧ W.frozen? ⟨g, j, none⟩ = false := by
  have := Kd.R_celln (0 : Int) h (j : Int) (by omega) (by omega)
  simpa [rdOf] using this
theorem RO.put {W : World} {base g n cap : Nat} {ys : List Int} (h : RO W base (.slice (some ⟨g, 0, none⟩) n cap) ys) (j : Nat) (x : Int) : RO (W.setCell ⟨g, j, none⟩ (.int .i64 x)) base (.slice (some ⟨g, 0, none⟩) n cap) (ys.set j x) := by
  have := Kd.R_putn h (j : Int) x
  rw [Int.toNat_natCast] at this
  exact this
theorem RO.zeros {base g n cap : Nat} : ∀ (m k : Nat) (W : World) (ys : List Int), RO W base (.slice (some ⟨g, 0, none⟩) n cap) ys → ∃ zs, zs.take k = ys.take k ∧ RO (W.setCells g k (List.replicate m (.int .i64 0))) base (.slice (some ⟨g, 0, none⟩) n cap) zs
  | 0, k, W, ys, h => ⟨ys, rfl, h⟩
  | m + 1, k, W, ys, h => by
    obtain ⟨zs, hz, hR⟩ := RO.zeros m (k + 1) _ _ (h.put k 0)
    refine ⟨zs, ?_, hR⟩
    have := congrArg (List.take k) hz
    rw [List.take_take, List.take_take, show min k (k + 1) = k by omega] at this
    rw [this, List.take_set_of_le (Nat.le_refl k)]
theorem below_cells {base g : Nat} {w0 : World} (hg : base ≤ g) : ∀ (vs : List Value) (k : Nat) (W : World), Below base w0 W → Below base w0 (W.setCells g k vs)
  | [], _, W, h => h
  | v :: vs, k, W, h => below_cells hg vs (k + 1) _ (h.setCell (p := ⟨g, k, none⟩) hg v)
theorem filter_first {p : Int → Bool} {xs : List Int} {i : Nat} (hb : ∀ j, j < i → p (xs[j]?.getD 0) = false) (hi : i ≤ xs.length) : (xs.take i).filter (fun x => !p x) = xs.take i := by
  refine List.filter_eq_self.2 fun x hx => ?_
  obtain ⟨j, hj, rfl⟩ := List.mem_iff_getElem.1 hx
  rw [List.length_take] at hj
  have := hb j (by omega)
  rw [List.getElem?_eq_getElem (by omega)] at this
  simpa using this
theorem firstI_at {p : Int → Bool} {xs : List Int} (h : xs.any p = true) : ∃ i : Nat, firstI p xs = (i : Int) ∧ i < xs.length ∧ p (xs[i]?.getD 0) = true ∧ ∀ j, j < i → p (xs[j]?.getD 0) = false := by
  have hl : xs.findIdx p < xs.length := List.findIdx_lt_length_of_exists (List.any_eq_true.1 h)
  refine ⟨xs.findIdx p, by unfold firstI; rw [if_pos h], hl, ?_, fun j hj => ?_⟩
  · rw [List.getElem?_eq_getElem hl]
    exact List.findIdx_getElem (w := hl)
  · rw [List.getElem?_eq_getElem (by omega)]
    simpa using List.not_of_lt_findIdx hj
/-- What holds in DeleteFunc's loop: k places are filled, j are read. -/
structure DI (q : Int → Bool) (xs ys : List Int) (k j : Nat) : Prop where
  lt : k < j
  le : j ≤ xs.length
  len : ys.length = xs.length
  done : ys.take k = (xs.take j).filter q
  rest : ∀ m, j ≤ m → ys[m]? = xs[m]?
theorem DI.start {p : Int → Bool} {xs : List Int} {i : Nat} (hi : i < xs.length) (hp : p (xs[i]?.getD 0) = true) (hb : (xs.take i).filter (fun x => !p x) = xs.take i) : DI (fun x => !p x) xs xs i (i + 1) :=
  ⟨by omega, hi, rfl, by
    rw [List.take_add_one, List.filter_append, hb, List.getElem?_eq_getElem hi]
    rw [List.getElem?_eq_getElem hi] at hp
    have hp' : p xs[i] = true := hp
    simp [hp'], fun _ _ => rfl⟩
theorem DI.skip {q : Int → Bool} {xs ys : List Int} {k j : Nat} (h : DI q xs ys k j) (hj : j < xs.length) (hq : q (xs[j]?.getD 0) = false) : DI q xs ys k (j + 1) :=
  ⟨by have := h.lt; omega, hj, h.len, by
    rw [List.take_add_one, List.filter_append, h.done, List.getElem?_eq_getElem hj]
    rw [List.getElem?_eq_getElem hj] at hq
    have hq' : q xs[j] = false := hq
    simp [hq'], fun m hm => h.rest m (by omega)⟩
theorem DI.keep {q : Int → Bool} {xs ys : List Int} {k j : Nat} (h : DI q xs ys k j) (hj : j < xs.length) (hq : q (xs[j]?.getD 0) = true) : DI q xs (ys.set k (xs[j]?.getD 0)) (k + 1) (j + 1) := by
  have hk := h.lt
  have hl := h.len
  refine ⟨by omega, hj, by rw [List.length_set, hl], ?_, fun m hm => ?_⟩
  · rw [List.take_add_one (l := xs), List.filter_append, ← h.done, List.getElem?_eq_getElem hj]
    rw [List.getElem?_eq_getElem hj] at hq
    have hq' : q xs[j] = true := hq
    rw [List.take_add_one, List.take_set_of_le (Nat.le_refl k), List.getElem?_set_self (by omega)]
    simp [hq']
  · rw [List.getElem?_set_ne (by omega)]
    exact h.rest m (by omega)
theorem DI.at_ {q : Int → Bool} {xs ys : List Int} {k j : Nat} (h : DI q xs ys k j) : ys[j]?.getD 0 = xs[j]?.getD 0 := by rw [h.rest j (Nat.le_refl _)]
set_option maxRecDepth 100000 in
set_option maxHeartbeats 4000000 in
theorem deleteFunc_c (w0 : World) (v : Value) (xs : List Int) (fv : Value) (dom : Int → Prop) (p : Int → Bool) (w : World) (HBw : Below w0.heap.size w0 w) (ho : RO w w0.heap.size v xs) (hn : xs.length ≤ 1048576) (hf : FnB Try.prog fv dom p w0) (hd : ∀ x ∈ xs, dom x) :
    Calls Try.prog 96 #[v, fv] w fun e w' => ∃ v', e = .returned v' ∧ RO w' w0.heap.size v' (xs.filter fun x => !p x) ∧ Below w0.heap.size w0 w' := by
  have hfw := hf.later HBw
  obtain ⟨A0, c0, rfl⟩ := Kd.R_slice ho
  have hix := indexFunc_c A0 xs.length c0 xs fv dom p w (Kd.R_reads' ho).2.2 hfw hd
  obtain ⟨g, fs, lb, rfl, eg, hcall⟩ := hf
  clear hfw
  cases hany : xs.any p with
  | false =>
    have he : firstI p xs = -1 := by unfold firstI; rw [hany]; rfl
    have hfl : (xs.filter fun x => !p x) = xs := by
      refine List.filter_eq_self.2 fun x hx => ?_
      have := List.any_eq_false.1 hany x hx
      simpa using this
    rw [he] at hix
    rw [hfl]
    have HI := Aside0.mk hix
    have HO := Aside0.mk ho
    have HB := Aside0.mk HBw
    clear hix ho HBw hcall hany he hfl
    go_enter Try.func96, Try.ntmps96
    go_wp2_with (go_at_call 156; refine HI.out.mono ?_; rintro e w' ⟨rfl, hb⟩)
    go_ret
    exact ⟨_, rfl, Kd.R_below HO.out hb, HB.out.trans (hb.mono HB.out.size)⟩
  | true =>
    obtain ⟨i, hi, hil, hpi, hbi⟩ := firstI_at hany
    rw [hi] at hix
    obtain ⟨gg, cap, hvf, hgb, hgl, _⟩ := Kd.R_form ho (by omega)
    obtain ⟨rfl, rfl⟩ : A0 = some ⟨gg, 0, none⟩ ∧ c0 = cap := by injection hvf with h1 h2 h3; exact ⟨h1, h3⟩
    have hcapn := (Kd.R_reads' ho).2.1
    have HI := Aside0.mk hix
    have HO := Aside0.mk ho
    have HB := Aside0.mk HBw
    have HC := Aside0.mk hcall
    have HD := Aside0.mk hd
    have HP := Aside0.mk hpi
    have HF := Aside0.mk (filter_first hbi (Nat.le_of_lt hil))
    have HG := Aside0.mk hgb
    obtain ⟨n, hnx⟩ : ∃ n, xs.length = n := ⟨_, rfl⟩
    have HN := Aside0.mk hnx
    rw [hnx] at hil hn hcapn ⊢
    rw [hnx] at HI HO
    clear hix ho HBw hcall hany hi hd hpi hbi hvf hgb hgl hnx
    go_enter Try.func96, Try.ntmps96
    go_wp2_with (go_at_call 156; refine HI.out.mono ?_; rintro e w1 ⟨rfl, hb⟩; have HO1 := Aside0.mk (Kd.R_below HO.out hb); have HB1 := Aside0.mk (HB.out.trans (hb.mono HB.out.size)); clear hb)
    have hst := DI.start (p := p) (by rw [HN.out]; exact hil) HP.out HF.out
    have HS := Aside0.mk hst
    clear hst
    go_loopw [5, 6] (fun vk vj wr => ∃ (k j : Nat) (ys : List Int), vk = .int .i64 k ∧ vj = .int .i64 j ∧ k < j ∧ j ≤ n ∧ Aside0 (DI (fun x => !p x) xs ys k j) ∧ Aside0 (RO wr w0.heap.size (.slice (some ⟨gg, 0, none⟩) n c0) ys) ∧ Aside0 (Below w0.heap.size w0 wr)) (fun _ vj _ => n - (intOf vj).toNat)
    case atStart => exact ⟨i, i + 1, xs, rfl, by go_num, by omega, by omega, HS, HO1, HB1⟩
    case round =>
      obtain ⟨k, j, ys, rfl, rfl, hkj, hjn, hD, hO, hBr⟩ := hrel
      by_cases hlt : j < n
      · have hltz : (j : Int) < (n : Int) := by omega
        have hcf := RO.cell hO.out hlt
        have hce := hcf.1
        have hkf := RO.cell hO.out (show k < n by omega)
        have hkc := hkf.1
        have hkz := hkf.2
        have hx := hD.out.at_
        have hjx : j < xs.length := by rw [HN.out]; exact hlt
        obtain ⟨y, hy⟩ : ∃ y, xs[j]?.getD 0 = y := ⟨_, rfl⟩
        rw [hx, hy] at hce
        have hdy : dom y := by
          rw [List.getElem?_eq_getElem hjx] at hy
          rw [← hy]
          exact HD.out _ (List.getElem_mem hjx)
        have hcy := HC.out wr y hBr.out hdy
        have HY := Aside0.mk hy
        have HJ := Aside0.mk hjx
        clear hy hx hdy hcf hkf hjx
        have HCY := Aside0.mk hcy
        clear hcy
        cases hq : p y with
        | true =>
          rw [hq] at HCY
          have HQ := Aside0.mk hq
          clear hq
          go_wp2_with (go_at_fn g; refine HCY.out.mono ?_; rintro e w' ⟨rfl, hb⟩; have HO2 := Aside0.mk (Kd.R_below hO.out hb); have HB2 := Aside0.mk (hBr.out.trans (hb.mono hBr.out.size)); clear hb)
          go_roundw
          case measure => simp [intOf]; omega
          case rel =>
            exact ⟨_, _, _, _, _, _, _, _, _, _, _, _, _, _, _, _, _, _, _, _, _, _, _, ⟨k, j + 1, ys, rfl, by go_num, by omega, by omega, ⟨hD.out.skip HJ.out (by rw [HY.out, HQ.out]; rfl)⟩, HO2, HB2⟩, rfl⟩
        | false =>
          rw [hq] at HCY
          have HQ := Aside0.mk hq
          clear hq
          go_wp2_with (go_at_fn g; refine HCY.out.mono ?_; rintro e w' ⟨rfl, hb⟩; have HO2 := Aside0.mk (Kd.R_below hO.out hb); have HB2 := Aside0.mk (hBr.out.trans (hb.mono hBr.out.size)); have hk2 := RO.cell HO2.out (show k < n by omega); have hkc2 := hk2.1; have hkz2 := hk2.2; clear hb hk2)
          go_roundw
          case measure => simp [intOf]; omega
          case rel => exact ⟨_, _, _, _, _, _, _, _, _, _, _, _, _, _, _, _, _, _, _, _, _, _, _, ⟨k + 1, j + 1, ys.set k y, by go_num, by go_num, by omega, by omega, ⟨by have := hD.out.keep HJ.out (by rw [HY.out, HQ.out]; rfl); rw [HY.out] at this; exact this⟩, ⟨RO.put HO2.out k y⟩, ⟨HB2.out.setCell (p := ⟨gg, k, none⟩) HG.out _⟩⟩, rfl⟩
      · obtain rfl : j = n := by omega
        have hltz : ¬ (j : Int) < (j : Int) := by omega
        have hcl : ∀ ty, (Builtin.clear_ #[22] ty #[.slice (some ⟨gg, k, none⟩) (j - k) (c0 - k)]).run Try.prog wr = .ok (.tuple #[]) (wr.setCells gg k (List.replicate (j - k) (.int .i64 0))) := fun ty =>
          Lib.run_clear_slice wr _ _ ty (.int .i64 0) Try.underlying22 (fun w => by kernel_rfl) rfl rfl gg k _ _ (by omega) (fun m hm => by rw [(RO.cell hO.out (show k + m < j by omega)).1]; rfl) (fun m hm => (RO.cell hO.out (show k + m < j by omega)).2)
        go_wp2
        go_ret
        obtain ⟨zs, hz, hR⟩ := RO.zeros (j - k) k _ _ hO.out
        refine ⟨_, rfl, ?_, below_cells HG.out _ _ _ hBr.out⟩
        have ht := Kd.R_take hR (m := k) (by have := (Kd.R_reads' hR).1; omega)
        rw [hz, hD.out.done, List.take_of_length_le (by rw [HN.out]; exact Nat.le_refl _)] at ht
        exact ht
end Go.Proofs.Ytnmhnkpijjmhjaa.Im
namespace Go.Proofs.Ytnmhnkpijjmhjaa.Im
set_option linter.unusedVariables false
set_option linter.unusedSimpArgs false
open Go.RowKit Go.Shelf Go.Proofs.YtnmhnkpijjmhjaaW.PrintWords Go.Proofs.YtnmhnkpijjmhjaaW.PrintLast Go.Proofs.YtnmhnkpijjmhjaaW.PrintMore
/-- A complex has at most 63 faces. -/
theorem isC_small {n : Int} {xs : List Int} (h : isC n xs = true) : xs.length ≤ 63 := by
  obtain ⟨⟨h1, h6⟩, ha, _⟩ := isC_of h
  have hb : ∀ i, i < xs.length → 1 ≤ xs[i]?.getD 0 ∧ xs[i]?.getD 0 ≤ fullZ n := fun i hi => by
    have := List.all_eq_true.1 ha i (List.mem_range.2 hi)
    simp only [okAt, withinB, Bool.and_eq_true, decide_eq_true_eq] at this
    exact this.1
  have hF : fullZ n ≤ 63 := by
    obtain rfl | rfl | rfl | rfl | rfl | rfl : n = 1 ∨ n = 2 ∨ n = 3 ∨ n = 4 ∨ n = 5 ∨ n = 6 := by omega
    all_goals decide +kernel
  have hs : ∀ i, i < xs.length → ((i : Nat) : Int) + 1 ≤ xs[i]?.getD 0 := by
    intro i
    induction i with
    | zero => intro hi; have := hb 0 hi; omega
    | succ i ih =>
      intro hi
      have h2 := ih (by omega)
      have h3 := (ascB_asc ha).lt (show i < i + 1 by omega) hi
      omega
  rcases Nat.eq_zero_or_pos xs.length with h0 | h0
  · omega
  · have := hs (xs.length - 1) (by omega)
    have := hb (xs.length - 1) (by omega)
    omega
def aroundP (f x : Int) : Bool := f == x || !(Go.bits .andNot .i64 f x == 0)
def aroundL (xs : List Int) (f : Int) : List Int := xs.filter fun x => !aroundP f x
theorem around1_f (b : Nat) (f : Int) (w : World) (hb : Boxed w b 2 (.int .i64 f)) :
    FnB Try.prog (.func (.func 200) #[] #[.pointer (some ⟨b, 0, none⟩)]) (fun _ => True) (aroundP f) w := by
  refine ⟨_, _, _, rfl, enters_of Try.func200 (by kernel_rfl) rfl, fun W x hW hx => ?_⟩
  have hcell : W.cell? ⟨b, 0, none⟩ = some (.int .i64 f) := (hW.cell (p := ⟨b, 0, none⟩) hb.lt).trans hb.cell
  have HC := Aside0.mk (isIn_c f x W)
  have HE : Aside0 (aroundP f x = (f == x || !(Go.bits .andNot .i64 f x == 0))) := ⟨rfl⟩
  clear hW hx hb
  show Calls Try.prog 200 #[.int .i64 x, .pointer (some ⟨b, 0, none⟩)] W fun e w' => e = .returned (.bool (aroundP f x)) ∧ Below W.heap.size W w'
  generalize (Go.bits .andNot .i64 f x == 0) = r at HC HE
  cases h1 : (f == x) with
  | true =>
    go_enter Try.func200, Try.ntmps200
    go_wp2
    go_ret
    exact ⟨by rw [HE.out, h1]; rfl, Below.refl _ _⟩
  | false =>
    go_enter Try.func200, Try.ntmps200
    go_wp2_with (go_at_call 87; refine HC.out.mono ?_; rintro e w1 ⟨rfl, rfl⟩)
    go_ret
    exact ⟨by rw [HE.out, h1]; rfl, Below.refl _ _⟩
set_option maxRecDepth 100000 in
theorem around_c (m : Int) (A : Option Addr) (n c : Nat) (xs : List Int) (f : Int) (w : World) (hr : RC w A n xs) (hi : isC m xs = true) :
    Calls Try.prog 157 #[.agg #[.int .i64 m, .slice A n c], .int .i64 f] w (SlOnly w.heap.size w (aroundL xs f)) := by
  have hl := isC_small hi
  have hbk0 := CxAt.new w m A n c
  have hbx := Boxed.new (w.alloc (.cells #[.int .i64 m, .slice A n c] 26)) 2 (.int .i64 f)
  rw [World.size_alloc] at hbx
  have hb1 : Below w.heap.size w ((w.alloc (.cells #[.int .i64 m, .slice A n c] 26)).alloc (.cells #[.int .i64 f] 2)) := ((Below.refl _ w).alloc (Nat.le_refl _) _).alloc (by simp) _
  have hk0 := hbk0.below ((Below.refl _ _).alloc (Nat.le_refl _) (.cells #[.int .i64 f] 2))
  have hc := clone_c A n c xs _ (Kd.C_below hr hb1) (by have := hr.1; omega)
  have hd := fun v W HB ho => deleteFunc_c ((w.alloc (.cells #[.int .i64 m, .slice A n c] 26)).alloc (.cells #[.int .i64 f] 2)) v xs _ (fun _ => True) _ W HB ho (by omega) (around1_f (w.heap.size + 1) f _ hbx) (fun _ _ => trivial)
  have l1 := hk0.c1
  have HC := Aside0.mk hc
  have HD := Lib.hid hd
  have HB := Aside0.mk hb1
  have HE : Aside0 (aroundL xs f = xs.filter fun x => !aroundP f x) := ⟨rfl⟩
  clear hc hb1 hk0 hbx hbk0 hr hi hl hd
  rw [HE.out]
  go_enter Try.func157, Try.ntmps157
  go_wp2_with (first
    | (go_at_call 158; refine HC.out.mono ?_; rintro e w2 ⟨v, rfl, hv, hb2⟩; have HV := Aside0.mk hv; have HB2 := Aside0.mk hb2; clear hv hb2)
    | (go_at_call 96; refine (HD.out _ _ HB2.out HV.out).mono ?_; rintro e w3 ⟨v3, rfl, hv, hb3⟩; have HV3 := Aside0.mk hv; have HB3 := Aside0.mk hb3; clear hv hb3))
  go_ret
  exact ⟨_, rfl, Kd.R_lower HV3.out HB.out.size, HB.out.trans (HB3.out.mono HB.out.size)⟩
end Go.Proofs.Ytnmhnkpijjmhjaa.Im
namespace Go.Proofs.Ytnmhnkpijjmhjaa.Ext
set_option linter.unusedVariables false
set_option linter.unusedSimpArgs false
open Go.RowKit Go.Proofs.Ytnmhnkpijjmhjaa.Im Go.Proofs.YtnmhnkpijjmhjaaW.PrintWords Go.Proofs.YtnmhnkpijjmhjaaW.PrintLast Go.Proofs.YtnmhnkpijjmhjaaW.PrintMore
def impl_Complex_has.f (a0_0 : Int) (l0_1 : List Int) (a1 : Int) : Option Bool := if l0_1.length ≤ 4611686018427387904 ∧ Asc l0_1 then some (decide (a1 ∈ l0_1)) else none
theorem impl_Complex_has.calls (a0_0 : Int) (A0_1 : Option Addr) (c0_1 : Nat) (l0_1 : List Int) (a1 : Int) (r : Bool) (w : World) (hr0_1 : Kd.C (Kd.int .i64) w A0_1 l0_1.length l0_1) (_hc0_1 : l0_1.length ≤ c0_1) (h : impl_Complex_has.f a0_0 l0_1 a1 = some r) :
    Calls Try.prog 68 #[.agg #[.int .i64 a0_0, .slice A0_1 l0_1.length c0_1], .int .i64 a1] w fun e w' => e = .returned (.bool r) ∧ Below w.heap.size w w' := by
  unfold impl_Complex_has.f at h
  by_cases hl : l0_1.length ≤ 4611686018427387904 ∧ Asc l0_1
  · rw [if_pos hl] at h
    obtain rfl := Option.some.inj h
    exact has_c a0_0 A0_1 l0_1.length c0_1 l0_1 a1 w hr0_1 hl.1 hl.2
  · rw [if_neg hl] at h; cases h
end Go.Proofs.Ytnmhnkpijjmhjaa.Ext
namespace Go.Proofs.Ytnmhnkpijjmhjaa.QI
open Go.Proofs.Ytnmhnkpijjmhjaa.Kp Go.Proofs.Ytnmhnkpijjmhjaa.Ext Go.RowKit Go.Proofs.YtnmhnkpijjmhjaaW.PrintWords Go.Proofs.YtnmhnkpijjmhjaaW.PrintLast Go.Proofs.YtnmhnkpijjmhjaaW.PrintMore
attribute [local go_sem] max2_int min2_int max_two min_two max_three min_three max_four min_four   -- for this text's walks alone
set_option linter.unusedVariables false
set_option linter.unusedSimpArgs false
def errW : Option Int → Value
  | none => .nilIface
  | some c => .iface 0 (.int .i64 c)
theorem errW_none : errW none = .nilIface := rfl
theorem errW_some (c : Int) : errW (some c) = .iface 0 (.int .i64 c) := rfl
end Go.Proofs.Ytnmhnkpijjmhjaa.QI
namespace Go.Proofs.Ytnmhnkpijjmhjaa.QI
open Go.Proofs.Ytnmhnkpijjmhjaa.Kp Go.Proofs.Ytnmhnkpijjmhjaa.Ext Go.RowKit Go.Proofs.YtnmhnkpijjmhjaaW.PrintWords Go.Proofs.YtnmhnkpijjmhjaaW.PrintLast Go.Proofs.YtnmhnkpijjmhjaaW.PrintMore
attribute [local go_sem] max2_int min2_int max_two min_two max_three min_three max_four min_four   -- for this text's walks alone
set_option linter.unusedVariables false
set_option linter.unusedSimpArgs false
end Go.Proofs.Ytnmhnkpijjmhjaa.QI
namespace Go.Proofs.Ytnmhnkpijjmhjaa.Im
set_option linter.unusedVariables false
set_option linter.unusedSimpArgs false
open Go.RowKit Go.Shelf Go.Proofs.Ytnmhnkpijjmhjaa.QI Go.Proofs.Ytnmhnkpijjmhjaa.Ext Go.Proofs.YtnmhnkpijjmhjaaW.PrintWords Go.Proofs.YtnmhnkpijjmhjaaW.PrintLast Go.Proofs.YtnmhnkpijjmhjaaW.PrintMore
theorem isC_63 {n : Int} {l : List Int} (h : isC n l = true) : ∀ x ∈ l, 1 ≤ x ∧ x ≤ 63 := by
  obtain ⟨⟨h1, h6⟩, ha, _⟩ := isC_of h
  intro x hx
  obtain ⟨i, hi, rfl⟩ := List.mem_iff_getElem.1 hx
  have h2 := List.all_eq_true.1 ha i (List.mem_range.2 hi)
  simp only [okAt, List.getElem?_eq_getElem hi, Option.getD_some, withinB, Bool.and_eq_true, decide_eq_true_eq] at h2
  have hF : fullZ n ≤ 63 := by
    obtain rfl | rfl | rfl | rfl | rfl | rfl : n = 1 ∨ n = 2 ∨ n = 3 ∨ n = 4 ∨ n = 5 ∨ n = 6 := by omega
    all_goals decide +kernel
  omega
theorem w64' {x : Int} (h1 : -9223372036854775808 ≤ x) (h2 : x ≤ 9223372036854775807) : wrap64 x = x := by unfold wrap64; omega
theorem rd_at' {l : List Int} {i : Nat} (h : i < l.length) : rd l (i : Int) = l[i] := by simp [rd, List.getD_eq_getElem?_getD, List.getElem?_eq_getElem h]
end Go.Proofs.Ytnmhnkpijjmhjaa.Im
namespace Go.Proofs.Ytnmhnkpijjmhjaa.Im
set_option linter.unusedVariables false
set_option linter.unusedSimpArgs false
open Go.RowKit Go.Shelf Go.Proofs.Ytnmhnkpijjmhjaa.QI Go.Proofs.Ytnmhnkpijjmhjaa.Ext Go.Proofs.YtnmhnkpijjmhjaaW.PrintWords Go.Proofs.YtnmhnkpijjmhjaaW.PrintLast Go.Proofs.YtnmhnkpijjmhjaaW.PrintMore
end Go.Proofs.Ytnmhnkpijjmhjaa.Im
namespace Go.Proofs.Ytnmhnkpijjmhjaa.Im
set_option linter.unusedVariables false
set_option linter.unusedSimpArgs false
open Go.RowKit Go.Proofs.Ytnmhnkpijjmhjaa.Kp Go.Proofs.YtnmhnkpijjmhjaaW.PrintWords Go.Proofs.YtnmhnkpijjmhjaaW.PrintLast Go.Proofs.YtnmhnkpijjmhjaaW.PrintMore
/-- A function value that says p of pairs, in each world that has come of w by growth alone. -/
def FnP (P : Program) (fv : Value) (dom : Pr → Prop) (p : Pr → Bool) (w : World) : Prop :=
  ∃ g fs lb, fv = .func (.func g) fs lb ∧ (∀ args w, (callFunc g args).run P w = .ok (.enter g args) w) ∧
    ∀ W (x : Pr), Below w.heap.size w W → dom x → Calls P g (fs ++ #[.agg #[.int .i64 x.f0, .int .i64 x.f1]] ++ lb) W fun e w' => e = .returned (.bool (p x)) ∧ Below W.heap.size W w'
theorem FnP.later {P : Program} {fv : Value} {dom : Pr → Prop} {p : Pr → Bool} {w w1 : World} (h : FnP P fv dom p w) (hb : Below w.heap.size w w1) : FnP P fv dom p w1 := by
  obtain ⟨g, fs, lb, he, hg, hc⟩ := h
  exact ⟨g, fs, lb, he, hg, fun W x hW hx => hc W x (hb.trans (hW.mono hb.size)) hx⟩
end Go.Proofs.Ytnmhnkpijjmhjaa.Im
namespace Go.Proofs.Ytnmhnkpijjmhjaa.Ext
set_option linter.unusedVariables false
set_option linter.unusedSimpArgs false
open Go.RowKit Go.Proofs.Ytnmhnkpijjmhjaa.Im Go.Proofs.Ytnmhnkpijjmhjaa.Kp Go.Proofs.YtnmhnkpijjmhjaaW.PrintWords Go.Proofs.YtnmhnkpijjmhjaaW.PrintLast Go.Proofs.YtnmhnkpijjmhjaaW.PrintMore
/-- What a function value answers: without arguments (0), of a whole number (1), of a pair (2). -/
structure Pred where
  sort : Nat
  u : Bool
  full : Bool
  pI : Int → Bool
  pP : Pr → Bool
def Pred.int (p : Int → Bool) : Pred := ⟨1, true, true, p, fun _ => true⟩
/-- of faces alone -/
def Pred.face (p : Int → Bool) : Pred := ⟨1, true, false, p, fun _ => true⟩
/-- of which nothing is known -/
def Pred.bad : Pred := ⟨9, true, true, fun _ => true, fun _ => true⟩
def Pred.dom (a : Pred) (x : Int) : Prop := a.full = true ∨ (0 ≤ x ∧ x ≤ 63)
def Pred.facePr (p : Pr → Bool) : Pred := ⟨2, true, false, fun _ => true, p⟩
def Pred.domP (a : Pred) (x : Pr) : Prop := a.full = true ∨ ((0 ≤ x.f0 ∧ x.f0 ≤ 63) ∧ (0 ≤ x.f1 ∧ x.f1 ≤ 63))
def okDom (a : Pred) (l : List Int) : Bool := a.full || l.all fun x => decide (0 ≤ x) && decide (x ≤ 63)
def okDomP (a : Pred) (l : List Pr) : Bool := a.full || l.all fun x => (decide (0 ≤ x.f0) && decide (x.f0 ≤ 63)) && (decide (0 ≤ x.f1) && decide (x.f1 ≤ 63))
theorem okDom_mem {a : Pred} {l : List Int} (h : okDom a l = true) : ∀ x ∈ l, a.dom x := by
  intro x hx
  rcases Bool.or_eq_true _ _ ▸ h with h | h
  · exact .inl h
  · have := List.all_eq_true.1 h x hx
    simp only [Bool.and_eq_true, decide_eq_true_eq] at this
    exact .inr this
theorem okDomP_mem {a : Pred} {l : List Pr} (h : okDomP a l = true) : ∀ x ∈ l, a.domP x := by
  intro x hx
  rcases Bool.or_eq_true _ _ ▸ h with h | h
  · exact .inl h
  · have := List.all_eq_true.1 h x hx
    simp only [Bool.and_eq_true, decide_eq_true_eq] at this
    exact .inr this
def FnOk (F : Value) (a : Pred) (w : World) : Prop :=
  (a.sort = 0 → FnU Try.prog F a.u w) ∧ (a.sort = 1 → FnB Try.prog F a.dom a.pI w) ∧ (a.sort = 2 → FnP Try.prog F a.domP a.pP w)
theorem FnOk.later {F : Value} {a : Pred} {w w1 : World} (h : FnOk F a w) (hb : Below w.heap.size w w1) : FnOk F a w1 :=
  ⟨fun e => (h.1 e).later hb, fun e => (h.2.1 e).later hb, fun e => (h.2.2 e).later hb⟩
theorem FnOk.int {F : Value} {p : Int → Bool} {w : World} (h : FnB Try.prog F (fun _ => True) p w) : FnOk F (Pred.int p) w := ⟨fun e => (by cases e), fun _ => (by
    obtain ⟨g, fs, lb, he, hg, hc⟩ := h
    exact ⟨g, fs, lb, he, hg, fun W x hW _ => hc W x hW trivial⟩), fun e => (by cases e)⟩
theorem FnOk.face {F : Value} {p : Int → Bool} {w : World} (h : FnB Try.prog F (fun x => 0 ≤ x ∧ x ≤ 63) p w) : FnOk F (Pred.face p) w := ⟨fun e => (by cases e), fun _ => (by
    obtain ⟨g, fs, lb, he, hg, hc⟩ := h
    exact ⟨g, fs, lb, he, hg, fun W x hW hx => hc W x hW (hx.resolve_left (fun h_ => by cases h_))⟩), fun e => (by cases e)⟩
theorem FnOk.bad (F : Value) (w : World) : FnOk F Pred.bad w := ⟨fun e => (by cases e), fun e => (by cases e), fun e => (by cases e)⟩
theorem FnOk.facePr {F : Value} {p : Pr → Bool} {w : World} (h : FnP Try.prog F (fun x => (0 ≤ x.f0 ∧ x.f0 ≤ 63) ∧ (0 ≤ x.f1 ∧ x.f1 ≤ 63)) p w) : FnOk F (Pred.facePr p) w := ⟨fun e => (by cases e), fun e => (by cases e), fun _ => (by
    obtain ⟨g, fs, lb, he, hg, hc⟩ := h
    exact ⟨g, fs, lb, he, hg, fun W x hW hx => hc W x hW (hx.resolve_left (fun h_ => by cases h_))⟩)⟩
def Pred.ofI (f : Int → Option Bool) : Pred := if ((List.range 64).all fun x => (f (x : Int)).isSome) = true then Pred.face (fun x => (f x).getD false) else Pred.bad
def Pred.ofP (f : Int → Int → Option Bool) : Pred := if ((List.range 64).all fun x => (List.range 64).all fun y => (f (x : Int) (y : Int)).isSome) = true then Pred.facePr (fun q => (f q.f0 q.f1).getD false) else Pred.bad
theorem ofI_face {f : Int → Option Bool} {p : Int → Bool} (h : ∀ x, 0 ≤ x → x ≤ 63 → f x = some (p x)) : (Pred.ofI f).sort = 1 ∧ (Pred.ofI f).u = true ∧ ∀ x, 0 ≤ x → x ≤ 63 → (Pred.ofI f).pI x = p x := by
  have hc : ((List.range 64).all fun x => (f (x : Int)).isSome) = true := List.all_eq_true.2 fun m hm => by
    have := List.mem_range.1 hm
    rw [h m (by omega) (by omega)]; rfl
  unfold Pred.ofI
  rw [if_pos hc]
  exact ⟨rfl, rfl, fun x h0 h6 => by simp only [Pred.face]; rw [h x h0 h6]; rfl⟩
theorem ofP_face {f : Int → Int → Option Bool} {p : Pr → Bool} (h : ∀ x y, 0 ≤ x → x ≤ 63 → 0 ≤ y → y ≤ 63 → f x y = some (p ⟨x, y⟩)) : (Pred.ofP f).sort = 2 ∧ ∀ q : Pr, 0 ≤ q.f0 → q.f0 ≤ 63 → 0 ≤ q.f1 → q.f1 ≤ 63 → (Pred.ofP f).pP q = p q := by
  have hc : ((List.range 64).all fun x => (List.range 64).all fun y => (f (x : Int) (y : Int)).isSome) = true := List.all_eq_true.2 fun m hm => List.all_eq_true.2 fun m1 hm1 => by
    have := List.mem_range.1 hm
    have := List.mem_range.1 hm1
    rw [h m m1 (by omega) (by omega) (by omega) (by omega)]; rfl
  unfold Pred.ofP
  rw [if_pos hc]
  exact ⟨rfl, fun q h0 h6 h1 h7 => by simp only [Pred.facePr]; rw [h q.f0 q.f1 h0 h6 h1 h7]; rfl⟩
theorem FnOk.ofI {f : Int → Option Bool} {g : FuncId} {fs lb : Array Value} {W : World} (he : ∀ args w, (callFunc g args).run Try.prog w = .ok (.enter g args) w)
    (h : ∀ V x b, Below W.heap.size W V → f x = some b → Calls Try.prog g (fs ++ #[.int .i64 x] ++ lb) V fun e w' => e = .returned (.bool b) ∧ Below V.heap.size V w') : FnOk (.func (.func g) fs lb) (Pred.ofI f) W := by
  unfold Pred.ofI
  split
  · rename_i hc
    refine FnOk.face ⟨g, fs, lb, rfl, he, fun V x hV hx => ?_⟩
    obtain ⟨m, rfl⟩ := Int.eq_ofNat_of_zero_le hx.1
    obtain ⟨b, hr⟩ := Option.isSome_iff_exists.1 (List.all_eq_true.1 hc m (List.mem_range.2 (by omega)))
    have := h V m b hV hr
    simp only [hr, Option.getD_some]
    exact this
  · exact FnOk.bad _ _
theorem FnOk.ofP {f : Int → Int → Option Bool} {g : FuncId} {fs lb : Array Value} {W : World} (he : ∀ args w, (callFunc g args).run Try.prog w = .ok (.enter g args) w)
    (h : ∀ V x y b, Below W.heap.size W V → f x y = some b → Calls Try.prog g (fs ++ #[.agg #[.int .i64 x, .int .i64 y]] ++ lb) V fun e w' => e = .returned (.bool b) ∧ Below V.heap.size V w') : FnOk (.func (.func g) fs lb) (Pred.ofP f) W := by
  unfold Pred.ofP
  split
  · rename_i hc
    refine FnOk.facePr ⟨g, fs, lb, rfl, he, fun V x hV hx => ?_⟩
    obtain ⟨x0, x1⟩ := x
    obtain ⟨⟨a0, a1⟩, b0, b1⟩ := hx
    simp only at a0 a1 b0 b1
    obtain ⟨m, rfl⟩ := Int.eq_ofNat_of_zero_le a0
    obtain ⟨m1, rfl⟩ := Int.eq_ofNat_of_zero_le b0
    obtain ⟨b, hr⟩ := Option.isSome_iff_exists.1 (List.all_eq_true.1 (List.all_eq_true.1 hc m (List.mem_range.2 (by omega))) m1 (List.mem_range.2 (by omega)))
    have := h V m m1 b hV hr
    simp only [hr, Option.getD_some]
    exact this
  · exact FnOk.bad _ _
end Go.Proofs.Ytnmhnkpijjmhjaa.Ext
namespace Go.Proofs.Ytnmhnkpijjmhjaa.Im
set_option linter.unusedVariables false
set_option linter.unusedSimpArgs false
open Go.RowKit Go.Shelf Go.Proofs.Ytnmhnkpijjmhjaa.Kp Go.Proofs.Ytnmhnkpijjmhjaa.Ext Go.Proofs.YtnmhnkpijjmhjaaW.PrintWords Go.Proofs.YtnmhnkpijjmhjaaW.PrintLast Go.Proofs.YtnmhnkpijjmhjaaW.PrintMore
def firstP (p : Pr → Bool) (xs : List Pr) : Int := if xs.any p then (xs.findIdx p : Int) else -1
theorem firstP_hit {p : Pr → Bool} {xs : List Pr} {k : Nat} {y : Pr} (hk : k < xs.length) (hy : xs.getD k z76 = y) (hp : p y = true) (hb : ∀ j, j < k → p (xs.getD j z76) = false) : firstP p xs = (k : Int) := by
  have hxk : xs[k] = y := by rw [List.getD_eq_getElem?_getD, List.getElem?_eq_getElem hk] at hy; simpa using hy
  have ha : xs.any p = true := List.any_eq_true.2 ⟨xs[k], List.getElem_mem hk, by rw [hxk]; exact hp⟩
  have hf : xs.findIdx p = k := by
    rw [List.findIdx_eq hk]
    refine ⟨by rw [hxk]; exact hp, fun j hj => ?_⟩
    have := hb j hj
    rw [List.getD_eq_getElem?_getD, List.getElem?_eq_getElem (show j < xs.length by omega)] at this
    simpa using this
  rw [firstP, if_pos ha, hf]
theorem firstP_miss {p : Pr → Bool} {xs : List Pr} (hb : ∀ j, j < xs.length → p (xs.getD j z76) = false) : firstP p xs = -1 := by
  have ha : ¬ xs.any p = true := by
    intro h
    obtain ⟨x, hx, hp⟩ := List.any_eq_true.1 h
    obtain ⟨j, hj, rfl⟩ := List.mem_iff_getElem.1 hx
    have := hb j hj
    rw [List.getD_eq_getElem?_getD, List.getElem?_eq_getElem hj] at this
    simp at this
    rw [this] at hp; cases hp
  rw [firstP, if_neg ha]
set_option maxRecDepth 100000 in
set_option maxHeartbeats 1000000 in
theorem indexPair_c (A : Option Addr) (c : Nat) (xs : List Pr) (fv : Value) (dom : Pr → Prop) (p : Pr → Bool) (w : World) (hr : Kd.C k76 w A xs.length xs) (hf : FnP Try.prog fv dom p w) (hd : ∀ x ∈ xs, dom x) (hl : xs.length ≤ 1099511627776) :
    Calls Try.prog 131 #[.slice A xs.length c, fv] w fun e w' => e = .returned (.int .i64 (firstP p xs)) ∧ Below w.heap.size w w' := by
  obtain ⟨g, fs, lb, rfl, eg, hcall⟩ := hf
  have HR := Aside0.mk hr
  have HC := Aside0.mk hcall
  have HD := Aside0.mk hd
  clear hr hcall hd
  go_enter Try.func131, Try.ntmps131
  go_wp2
  go_loopw [5, 8] (fun _ i wr => ∃ k : Nat, k ≤ xs.length ∧ i = .int .i64 k ∧ Aside0 (Below w.heap.size w wr) ∧ Aside0 (∀ j, j < k → p (xs.getD j z76) = false)) (fun _ i _ => xs.length - (intOf i).toNat)
  case atStart => exact ⟨0, by omega, rfl, ⟨Below.refl _ _⟩, ⟨fun j hj => absurd hj (Nat.not_lt_zero _)⟩⟩
  case round =>
    obtain ⟨k, hk, rfl, hB, hA⟩ := hrel
    by_cases hlt : k < xs.length
    · have hltz : (k : Int) < (xs.length : Int) := by omega
      obtain ⟨ad, rfl, h0, h1⟩ := pair_at (Kd.C_below HR.out hB.out) k hlt
      obtain ⟨y, hy⟩ : ∃ y, xs.getD k z76 = y := ⟨_, rfl⟩
      rw [hy] at h0 h1
      have HY := Aside0.mk hy
      have hdy : dom y := by
        rw [← hy, List.getD_eq_getElem?_getD, List.getElem?_eq_getElem hlt]
        exact HD.out _ (List.getElem_mem hlt)
      have hcy := HC.out wr y hB.out hdy
      clear hy hdy
      have HCY := Aside0.mk hcy
      clear hcy
      cases hq : p y with
      | true =>
        rw [hq] at HCY
        have HQ := Aside0.mk hq
        clear hq
        go_wp2_with (go_at_fn g; refine HCY.out.mono ?_; rintro e w' ⟨rfl, hb⟩; have HB2 := Aside0.mk hb; clear hb)
        go_ret
        refine ⟨?_, below_in hB.out HB2.out⟩
        rw [firstP_hit hlt HY.out HQ.out hA.out]; rfl
      | false =>
        rw [hq] at HCY
        have HQ := Aside0.mk hq
        clear hq
        go_wp2_with (go_at_fn g; refine HCY.out.mono ?_; rintro e w' ⟨rfl, hb⟩; have HB2 := Aside0.mk hb; clear hb)
        go_roundw
        case measure => simp [intOf]; omega
        case rel =>
          refine ⟨k + 1, by omega, by go_num, ⟨below_in hB.out HB2.out⟩, ⟨fun j hj => ?_⟩⟩
          rcases Nat.lt_or_ge j k with h | h
          · exact hA.out j h
          · obtain rfl : j = k := by omega
            rw [HY.out]; exact HQ.out
    · obtain rfl : k = xs.length := by omega
      have hltz : ¬ (xs.length : Int) < (xs.length : Int) := by omega
      go_wp2
      go_ret
      refine ⟨?_, hB.out⟩
      rw [firstP_miss hA.out]; rfl
end Go.Proofs.Ytnmhnkpijjmhjaa.Im
namespace Go.Proofs.Ytnmhnkpijjmhjaa.Ext
set_option linter.unusedVariables false
set_option linter.unusedSimpArgs false
open Go.RowKit Go.Proofs.Ytnmhnkpijjmhjaa.Im Go.Proofs.Ytnmhnkpijjmhjaa.Kp Go.Proofs.YtnmhnkpijjmhjaaW.PrintWords Go.Proofs.YtnmhnkpijjmhjaaW.PrintLast Go.Proofs.YtnmhnkpijjmhjaaW.PrintMore
end Go.Proofs.Ytnmhnkpijjmhjaa.Ext
namespace Go.Proofs.Ytnmhnkpijjmhjaa.Ext
set_option linter.unusedVariables false
set_option linter.unusedSimpArgs false
open Go.RowKit Go.Proofs.Ytnmhnkpijjmhjaa.Im  Go.Proofs.YtnmhnkpijjmhjaaW.PrintWords Go.Proofs.YtnmhnkpijjmhjaaW.PrintLast Go.Proofs.YtnmhnkpijjmhjaaW.PrintMore
end Go.Proofs.Ytnmhnkpijjmhjaa.Ext
namespace Go.Proofs.Ytnmhnkpijjmhjaa.Ext
set_option linter.unusedVariables false
set_option linter.unusedSimpArgs false
open Go.RowKit Go.Proofs.Ytnmhnkpijjmhjaa.Im  Go.Proofs.YtnmhnkpijjmhjaaW.PrintWords Go.Proofs.YtnmhnkpijjmhjaaW.PrintLast Go.Proofs.YtnmhnkpijjmhjaaW.PrintMore
def impl_Complex_around.f (a0_0 : Int) (l0_1 : List Int) (a1 : Int) : Option (List Int) := if isC a0_0 l0_1 = true then some (aroundL l0_1 a1) else none
theorem impl_Complex_around.calls (a0_0 : Int) (A0_1 : Option Addr) (c0_1 : Nat) (l0_1 : List Int) (a1 : Int) (r : List Int) (w : World) (hr0_1 : Kd.C (Kd.int .i64) w A0_1 l0_1.length l0_1) (_hc0_1 : l0_1.length ≤ c0_1) (h : impl_Complex_around.f a0_0 l0_1 a1 = some r) :
    Calls Try.prog 157 #[.agg #[.int .i64 a0_0, .slice A0_1 l0_1.length c0_1], .int .i64 a1] w fun e w' => ∃ v0_ : Value, e = .returned (v0_) ∧ Kd.R (Kd.int .i64) 2 w' w.heap.size (fun _ => True) v0_ r ∧ Below w.heap.size w w' := by
  unfold impl_Complex_around.f at h
  by_cases hl : isC a0_0 l0_1 = true
  · rw [if_pos hl] at h
    have hd := Option.some.inj h
    rw [← hd]
    exact around_c a0_0 A0_1 l0_1.length c0_1 l0_1 a1 w hr0_1 hl
  · rw [if_neg hl] at h; cases h
end Go.Proofs.Ytnmhnkpijjmhjaa.Ext
namespace Go.Proofs.Ytnmhnkpijjmhjaa.QP
open Go.Proofs.Ytnmhnkpijjmhjaa.Kp Go.Proofs.Ytnmhnkpijjmhjaa.Ext Go.RowKit Go.Proofs.YtnmhnkpijjmhjaaW.PrintWords Go.Proofs.YtnmhnkpijjmhjaaW.PrintLast Go.Proofs.YtnmhnkpijjmhjaaW.PrintMore
attribute [local go_sem] max2_int min2_int max_two min_two max_three min_three max_four min_four   -- for this text's walks alone
set_option linter.unusedVariables false
set_option linter.unusedSimpArgs false
def errW : Option Int → Value
  | none => .nilIface
  | some c => .iface 0 (.int .i64 c)
theorem errW_none : errW none = .nilIface := rfl
theorem errW_some (c : Int) : errW (some c) = .iface 0 (.int .i64 c) := rfl
theorem info76 : (Try.prog.info? 76).map (fun i => (i.zero, i.size, i.bytes)) = some (some (.agg #[(.int .i64 0), (.int .i64 0)]), 2, 16) := by kernel_rfl
end Go.Proofs.Ytnmhnkpijjmhjaa.QP
namespace Go.Proofs.Ytnmhnkpijjmhjaa.QP
open Go.Proofs.Ytnmhnkpijjmhjaa.Kp Go.Proofs.Ytnmhnkpijjmhjaa.Ext Go.RowKit Go.Proofs.YtnmhnkpijjmhjaaW.PrintWords Go.Proofs.YtnmhnkpijjmhjaaW.PrintLast Go.Proofs.YtnmhnkpijjmhjaaW.PrintMore
attribute [local go_sem] max2_int min2_int max_two min_two max_three min_three max_four min_four   -- for this text's walks alone
set_option linter.unusedVariables false
set_option linter.unusedSimpArgs false
def impl_Complex_freePairs.l0 : Nat → List (S76) → List Int → Int → Int → Int → List Int → Option ((List (S76)))
  | 0, _, _, _, _, _, _ => none
  | k + 1, x3, x8, x9, x10, x102000, x102001 => if x10 < x9 then (if 0 ≤ x10 then (if x10 < (x8.length : Int) then ((impl_Complex_around.f x102000 x102001 (rd x8 x10)).bind fun t103 => (if (t103.length : Int) = 1 then (if 0 < (t103.length : Int) then (if x3.length < 8796093022208 then (impl_Complex_freePairs.l0 k (x3 ++ [(⟨rd x8 x10, rd t103 0⟩ : S76)]) x8 x9 (wrap64 (x10 + 1)) x102000 x102001) else (none)) else (none)) else (impl_Complex_freePairs.l0 k x3 x8 x9 (wrap64 (x10 + 1)) x102000 x102001))) else (none)) else (none)) else (some x3)
def impl_Complex_freePairs.f (k : Nat) (a0_0 : Int) (l0_1 : List Int) : Option ((List (S76))) := impl_Complex_freePairs.l0 k ([] : List (S76)) l0_1 (l0_1.length : Int) 0 a0_0 l0_1
set_option maxHeartbeats 8000000 in
set_option maxRecDepth 100000 in
theorem impl_Complex_freePairs.calls (k : Nat) (a0_0 : Int) (A0_1 : Option Addr) (c0_1 : Nat) (l0_1 : List Int) (r : List (S76)) (w : World) (hr0_1 : Kd.C (Kd.int .i64) w A0_1 l0_1.length l0_1) (hc0_1 : l0_1.length ≤ c0_1) (h : impl_Complex_freePairs.f k a0_0 l0_1 = some r) :
    Calls Try.prog 98 #[.agg #[.int .i64 a0_0, .slice A0_1 l0_1.length c0_1]] w fun e w' => ∃ v0_ : Value, e = .returned (v0_) ∧ Kd.R k76 76 w' w.heap.size (fun _ => True) v0_ r ∧ Below w.heap.size w w' := by
  have hu26 := Try.underlying26
  have hu76 := Try.underlying76
  have HR0_1 := Aside0.mk hr0_1
  have HC0_1 := Aside0.mk hc0_1
  clear hr0_1 hc0_1
  have HB := Aside0.mk (Below.refl w.heap.size w)
  have H : (impl_Complex_freePairs.l0 k ([] : List (S76)) l0_1 (l0_1.length : Int) 0 a0_0 l0_1) = some r := h
  clear h
  have H' := Aside0.mk H
  clear H
  go_enter Try.func98, Try.ntmps98
  go_wp2_with (first | ((with_reducible refine gate_dst (N := 1) rfl ?_); refine box_event ?hg (N := 1) ?hd (cs := #[.int .i64 a0_0, .slice A0_1 l0_1.length c0_1]) (t := 26) ?hr ?_; (case hd => rfl); (case hg => rfl); (case hr => first | (go_simp; done) | (go_simp; rfl)); intro gb101 hg w2 hbox hb; have n0_ := Aside0.mk (below_step (by repeat (first | (with_reducible first | exact HB.out | apply below_alloc | apply pw_below_drewN | apply below_drew1) | exact HB.out)) hb); have n1_ := Aside0.mk (hbox); have n2_ := Aside0.mk ((by rw [hg]; exact (below_size (by repeat (first | (with_reducible first | exact HB.out | apply below_alloc | apply pw_below_drewN | apply below_drew1) | exact HB.out))) : w.heap.size ≤ gb101)); have n3_ := Aside0.mk ((by rw [hg]; exact (below_size (by repeat (first | (with_reducible first | exact HB.out | apply below_alloc | apply pw_below_drewN | apply below_drew1) | exact HB.out))) : w.heap.size ≤ gb101)); clear HB; have HB := n0_; have BK101 := n1_; have GW101 := n2_; have GE101 := n3_; clear n0_ n1_ n2_ n3_; clear hb hbox hg; have hcz3_0 : w2.cell? ⟨gb101, 0, none⟩ = some (.int .i64 a0_0) := (blk_cell BK101.out 0).trans rfl; have hcz3_1 : w2.cell? ⟨gb101, 1, none⟩ = some (.slice A0_1 l0_1.length c0_1) := (blk_cell BK101.out 1).trans rfl; have hfz3_0 := blk_frozen BK101.out 0; have hfz3_1 := blk_frozen BK101.out 1))
  go_loopg [3, 10] k (fun kq v3 v10 w' => ∃ (x3_1 : List (S76)) (x10_1 : Int), v10 = .int .i64 x10_1 ∧ Aside0 (impl_Complex_freePairs.l0 kq x3_1 l0_1 (l0_1.length : Int) x10_1 a0_0 l0_1 = some r) ∧ Aside0 (kq ≤ k) ∧ Aside0 (Kd.R k76 76 w' w.heap.size (fun _ => True) v3 x3_1) ∧ Aside0 (w'.heap[gb101]? = some (.cells #[.int .i64 a0_0, (.slice A0_1 l0_1.length c0_1)] 26 (0, 0))) ∧ Aside0 (Below w.heap.size w w'))
  case atStart => exact ⟨(([] : List (S76))), (0), (by first | rfl | (simp; done) | (simp [*]; done)), H', ⟨Nat.le_refl _⟩, ⟨by first | exact Kd.R_nil _ _ _ _ _ | exact Kd.N_nil _ _ _ _ _ | exact Kd.V_nil _ _ _ _ _ | exact Kd.Q_nil _ _ _ _ _ | exact Kd.S_nil _ _ _ _ _⟩, ⟨by (with_reducible repeat (first | refine blk_drewN ?_ _ | refine blk_drew ?_ | refine blk_alloc ?_ _)); exact BK101.out⟩, ⟨by repeat (first | (with_reducible first | exact HB.out | apply below_alloc | apply pw_below_drewN | apply below_drew1 | refine below_set ?_ GE101.out) | exact HB.out)⟩⟩
  case round =>
    clear H'
    try clear p2
    try clear hcz3_0
    try clear hcz3_1
    try clear hfz3_0
    try clear hfz3_1
    obtain ⟨x3_1, x10_1, rfl, HA, HK1, HO_3, BK101, HB⟩ := hrel
    cases gk with
    | zero => exact absurd HA.out (by simp [impl_Complex_freePairs.l0])
    | succ k1 =>
      have H := HA.out
      clear HA
      simp only [impl_Complex_freePairs.l0] at H
      by_cases c4 : x10_1 < (l0_1.length : Int)
      · rw [if_pos c4] at H
        have c4b0 : decide (x10_1 < (l0_1.length : Int)) = true := decide_eq_true c4
        clear c4
        by_cases c5 : 0 ≤ x10_1
        · rw [if_pos c5] at H
          have c5b0 : decide (0 ≤ x10_1) = true := decide_eq_true c5
          clear c5
          by_cases c6 : x10_1 < (l0_1.length : Int)
          · rw [if_pos c6] at H
            have c6b0 : decide (x10_1 < (l0_1.length : Int)) = true := decide_eq_true c6
            clear c6
            replace H := Option.bind_eq_some_iff.mp H
            obtain ⟨t103, A70, H⟩ := H
            replace H : (if (t103.length : Int) = 1 then (if 0 < (t103.length : Int) then (if x3_1.length < 8796093022208 then (impl_Complex_freePairs.l0 k1 (x3_1 ++ [(⟨rd l0_1 x10_1, rd t103 0⟩ : S76)]) l0_1 (l0_1.length : Int) (wrap64 (x10_1 + 1)) a0_0 l0_1) else (none)) else (none)) else (impl_Complex_freePairs.l0 k1 x3_1 l0_1 (l0_1.length : Int) (wrap64 (x10_1 + 1)) a0_0 l0_1)) = some r := H
            have A7 := Aside0.mk A70
            clear A70
            by_cases c8 : (t103.length : Int) = 1
            · rw [if_pos c8] at H
              have c8b0 : ((t103.length : Int) == 1) = true := beq_iff_eq.mpr c8
              have c8b1 : ((t103.length : Int) != 1) = false := bne_eq_false_iff_eq.mpr c8
              clear c8
              by_cases c9 : 0 < (t103.length : Int)
              · rw [if_pos c9] at H
                have c9b0 : decide (0 < (t103.length : Int)) = true := decide_eq_true c9
                have c9b1 : decide (0 < t103.length) = true := decide_eq_true (by omega)
                clear c9
                by_cases c10 : x3_1.length < 8796093022208
                · rw [if_pos c10] at H
                  have LMc10 := Aside0.mk c10
                  clear c10
                  obtain ⟨y107, hy107⟩ : ∃ y_ : List (S76), y_ = (x3_1 ++ [(⟨rd l0_1 x10_1, rd t103 0⟩ : S76)]) := ⟨_, rfl⟩
                  replace H : (impl_Complex_freePairs.l0 k1 y107 l0_1 (l0_1.length : Int) (wrap64 (x10_1 + 1)) a0_0 l0_1) = some r := by first | (rw [hy107]; with_reducible exact H) | (have H2_ := (Option.bind_some _ _).symm.trans H; rw [hy107]; with_reducible exact H2_) | (have H2_ := (Option.bind_some _ _).symm.trans H; with_reducible exact H2_) | with_reducible exact H | (rw [hy107]; exact H) | exact H
                  have Ny107 := Aside0.mk hy107
                  clear hy107
                  have H' := Aside0.mk H
                  clear H
                  have p102 : 0 ≤ (x10_1 : Int) := of_decide_eq_true (by first | (with_reducible assumption) | assumption)
                  have q102 : x10_1 < (l0_1.length : Int) := of_decide_eq_true (by first | (with_reducible assumption) | assumption)
                  obtain ⟨ad102, e102, hx102_0⟩ := Kd.at_int HR0_1.out x10_1 p102 q102
                  cases e102
                  replace hx102_0 := (HB.out.cell (World.block_lt_of_cell? w _ hx102_0)).trans hx102_0
                  replace p102 := eq_true p102
                  replace q102 := eq_true q102
                  have hcz11_0 : wr.cell? ⟨gb101, 0, none⟩ = some (.int .i64 a0_0) := (blk_cell BK101.out 0).trans rfl
                  have hcz11_1 : wr.cell? ⟨gb101, 1, none⟩ = some (.slice (some ad102) l0_1.length c0_1) := (blk_cell BK101.out 1).trans rfl
                  have hfz11_0 := blk_frozen BK101.out 0
                  have hfz11_1 := blk_frozen BK101.out 1
                  go_wp2_with (first | ((with_reducible refine gate_callee (f := 157) rfl ?_); refine goesL_ (some 16) rfl rfl Try.func157 (by kernel_rfl) rfl #[.agg #[.int .i64 a0_0, .slice (some ad102) l0_1.length c0_1], .int .i64 (rd l0_1 x10_1)] rfl (by (try simp only [List.map_toArray, List.map_cons, List.map_nil]); first | done | rfl | (simp only [List.length_drop, List.length_take]; rfl)) ?_; (with_reducible refine (impl_Complex_around.calls a0_0 _ _ l0_1 (rd l0_1 x10_1) t103 _ ?side1 ?side2 A7.out).mono ?_); (case side1 => repeat (first | exact (Kd.C_below HR0_1.out HB.out) | (with_reducible refine Kd.C_alloc ?_ _) | (with_reducible refine Kd.C_drewN ?_ _) | (with_reducible refine Kd.C_drew ?_))); (case side2 => exact HC0_1.out); rintro e w12 ⟨v104, rfl, ho0, hb⟩; refine ⟨_, rfl, ?_⟩; have n0_ := Aside0.mk (Kd.R_below (by (with_reducible repeat (first | apply Kd.R_alloc | apply Kd.R_drewN | apply Kd.R_drew)); exact HO_3.out) hb); have n1_ := Aside0.mk (Kd.R_lower ho0 (below_size (by repeat (first | (with_reducible first | exact HB.out | apply below_alloc | apply pw_below_drewN | apply below_drew1 | refine below_set ?_ GE101.out) | exact HB.out)))); have n2_ := Aside0.mk (blk_below (g := gb101) (o := .cells #[.int .i64 a0_0, .slice (some ad102) l0_1.length c0_1] 26 (0, 0)) (by (with_reducible repeat (first | refine blk_drewN ?_ _ | refine blk_drew ?_ | refine blk_alloc ?_ _)); exact BK101.out) hb); have n3_ := Aside0.mk (below_step (by repeat (first | (with_reducible first | exact HB.out | apply below_alloc | apply pw_below_drewN | apply below_drew1 | refine below_set ?_ GE101.out) | exact HB.out)) hb); clear HO_3; clear BK101; clear HB; have HO_3 := n0_; have HO105 := n1_; have BK101 := n2_; have HB := n3_; clear n0_ n1_ n2_ n3_; (try clear hb); (try clear hb2); (try clear hk); (try clear hi); (try clear ho0); obtain ⟨Ao13, co13, eo13⟩ := Kd.R_slice HO105.out; subst eo13; have p106 : 0 ≤ (0 : Int) := (by omega); have q106 : 0 < (t103.length : Int) := of_decide_eq_true (by first | (with_reducible assumption) | assumption); obtain ⟨ad106, e106, hx106_0⟩ := Kd.at_int (Kd.R_reads' HO105.out).2.2 0 p106 q106; cases e106; have qi106 : (0 < t103.length) = True := eq_true (by omega); (try rw [show ((0 : Int)).toNat = 0 from rfl] at hx106_0); (try rw [Addr.add_zero'] at hx106_0); replace p106 := eq_true p106; replace q106 := eq_true q106) | ((with_reducible refine gate_builtin (b := .append) (xs := #[.tmp 20, .tmp 26]) rfl ?_); at_builtin; refine Kd.R_append k76 (w0 := w) w.heap.size rfl (.tmp 20) (.tmp 26) 27 76 (.agg #[(.int .i64 0), (.int .i64 0)]) 16 rfl Try.underlying27 info76 rfl (by decide) (by omega) u3 x3_1 (⟨rd l0_1 x10_1, rd t103 0⟩ : S76) [.int .i64 (rd l0_1 x10_1), .int .i64 (rd t103 0)] (fun _ => True) (fun _ => False) rfl rfl ?aP (fun _ hk => hk.elim) ?aF ?aO ?aB ?aS ?aL ?_; (case aP => exact k76_mkM _ _ _ (⟨rd l0_1 x10_1, rd t103 0⟩ : S76)); (case aB => exact (by repeat (first | (with_reducible first | exact HB.out | apply below_alloc | apply pw_below_drewN | apply below_drew1 | refine below_set ?_ GE101.out) | exact HB.out))); (case aF => exact (fun _ _ => trivial)); (case aO => exact (by (with_reducible repeat (first | apply Kd.R_alloc | apply Kd.R_drewN | apply Kd.R_drew)); exact HO_3.out)); (case aS => exact (below_size (by repeat (first | (with_reducible first | exact HB.out | apply below_alloc | apply pw_below_drewN | apply below_drew1 | refine below_set ?_ GE101.out) | exact HB.out)))); (case aL => have := LMc10.out; omega); intro v108 w14 ho hb hg hat; rw [← Ny107.out] at ho; have n0_ := Aside0.mk (blk_grown (g := gb101) (o := .cells #[.int .i64 a0_0, .slice (some ad102) l0_1.length c0_1] 26 (0, 0)) (by (with_reducible repeat (first | refine blk_drewN ?_ _ | refine blk_drew ?_ | refine blk_alloc ?_ _)); exact BK101.out) hg (Kd.R_ne HO_3.out BK101.out (by decide))); have n1_ := Aside0.mk (Kd.R_over' (by (with_reducible repeat (first | apply Kd.R_alloc | apply Kd.R_drewN | apply Kd.R_drew)); exact HO105.out) (Kd.R_typed (by (with_reducible repeat (first | apply Kd.R_alloc | apply Kd.R_drewN | apply Kd.R_drew)); exact HO_3.out)) (by decide) hg); have n2_ := Aside0.mk (hb); have n3_ := Aside0.mk (ho); clear BK101; clear HO105; clear HB; clear HO_3; have BK101 := n0_; have HO105 := n1_; have HB := n2_; have HO109 := n3_; clear n0_ n1_ n2_ n3_; clear ho hb hg hat))
                  go_roundg k1
                  case measure => have := HK1.out; omega
                  case rel => exact ⟨(y107), (wrap64 (x10_1 + 1)), (by first | rfl | (simp; done) | (simp [*]; done)), H', ⟨by have := HK1.out; omega⟩, ⟨by (with_reducible repeat (first | apply Kd.R_alloc | apply Kd.R_drewN | apply Kd.R_drew)); exact HO109.out⟩, ⟨by (with_reducible repeat (first | refine blk_drewN ?_ _ | refine blk_drew ?_ | refine blk_alloc ?_ _)); exact BK101.out⟩, ⟨by repeat (first | (with_reducible first | exact HB.out | apply below_alloc | apply pw_below_drewN | apply below_drew1 | refine below_set ?_ GE101.out) | exact HB.out)⟩⟩
                · rw [if_neg c10] at H
                  exact absurd H (by simp)
              · rw [if_neg c9] at H
                exact absurd H (by simp)
            · rw [if_neg c8] at H
              have c8b0 : ((t103.length : Int) == 1) = false := beq_eq_false_iff_ne.mpr c8
              have c8b1 : ((t103.length : Int) != 1) = true := bne_iff_ne.mpr c8
              have H' := Aside0.mk H
              clear H
              have p102 : 0 ≤ (x10_1 : Int) := of_decide_eq_true (by first | (with_reducible assumption) | assumption)
              have q102 : x10_1 < (l0_1.length : Int) := of_decide_eq_true (by first | (with_reducible assumption) | assumption)
              obtain ⟨ad102, e102, hx102_0⟩ := Kd.at_int HR0_1.out x10_1 p102 q102
              cases e102
              replace hx102_0 := (HB.out.cell (World.block_lt_of_cell? w _ hx102_0)).trans hx102_0
              replace p102 := eq_true p102
              replace q102 := eq_true q102
              have hcz15_0 : wr.cell? ⟨gb101, 0, none⟩ = some (.int .i64 a0_0) := (blk_cell BK101.out 0).trans rfl
              have hcz15_1 : wr.cell? ⟨gb101, 1, none⟩ = some (.slice (some ad102) l0_1.length c0_1) := (blk_cell BK101.out 1).trans rfl
              have hfz15_0 := blk_frozen BK101.out 0
              have hfz15_1 := blk_frozen BK101.out 1
              go_wp2_with (first | ((with_reducible refine gate_callee (f := 157) rfl ?_); refine goesL_ (some 16) rfl rfl Try.func157 (by kernel_rfl) rfl #[.agg #[.int .i64 a0_0, .slice (some ad102) l0_1.length c0_1], .int .i64 (rd l0_1 x10_1)] rfl (by (try simp only [List.map_toArray, List.map_cons, List.map_nil]); first | done | rfl | (simp only [List.length_drop, List.length_take]; rfl)) ?_; (with_reducible refine (impl_Complex_around.calls a0_0 _ _ l0_1 (rd l0_1 x10_1) t103 _ ?side1 ?side2 A7.out).mono ?_); (case side1 => repeat (first | exact (Kd.C_below HR0_1.out HB.out) | (with_reducible refine Kd.C_alloc ?_ _) | (with_reducible refine Kd.C_drewN ?_ _) | (with_reducible refine Kd.C_drew ?_))); (case side2 => exact HC0_1.out); rintro e w16 ⟨v104, rfl, ho0, hb⟩; refine ⟨_, rfl, ?_⟩; have n0_ := Aside0.mk (Kd.R_below (by (with_reducible repeat (first | apply Kd.R_alloc | apply Kd.R_drewN | apply Kd.R_drew)); exact HO_3.out) hb); have n1_ := Aside0.mk (Kd.R_lower ho0 (below_size (by repeat (first | (with_reducible first | exact HB.out | apply below_alloc | apply pw_below_drewN | apply below_drew1 | refine below_set ?_ GE101.out) | exact HB.out)))); have n2_ := Aside0.mk (blk_below (g := gb101) (o := .cells #[.int .i64 a0_0, .slice (some ad102) l0_1.length c0_1] 26 (0, 0)) (by (with_reducible repeat (first | refine blk_drewN ?_ _ | refine blk_drew ?_ | refine blk_alloc ?_ _)); exact BK101.out) hb); have n3_ := Aside0.mk (below_step (by repeat (first | (with_reducible first | exact HB.out | apply below_alloc | apply pw_below_drewN | apply below_drew1 | refine below_set ?_ GE101.out) | exact HB.out)) hb); clear HO_3; clear BK101; clear HB; have HO_3 := n0_; have HO105 := n1_; have BK101 := n2_; have HB := n3_; clear n0_ n1_ n2_ n3_; (try clear hb); (try clear hb2); (try clear hk); (try clear hi); (try clear ho0); obtain ⟨Ao17, co17, eo17⟩ := Kd.R_slice HO105.out; subst eo17))
              go_roundg k1
              case measure => have := HK1.out; omega
              case rel => exact ⟨(x3_1), (wrap64 (x10_1 + 1)), (by first | rfl | (simp; done) | (simp [*]; done)), H', ⟨by have := HK1.out; omega⟩, ⟨by (with_reducible repeat (first | apply Kd.R_alloc | apply Kd.R_drewN | apply Kd.R_drew)); exact HO_3.out⟩, ⟨by (with_reducible repeat (first | refine blk_drewN ?_ _ | refine blk_drew ?_ | refine blk_alloc ?_ _)); exact BK101.out⟩, ⟨by repeat (first | (with_reducible first | exact HB.out | apply below_alloc | apply pw_below_drewN | apply below_drew1 | refine below_set ?_ GE101.out) | exact HB.out)⟩⟩
          · rw [if_neg c6] at H
            exact absurd H (by simp)
        · rw [if_neg c5] at H
          exact absurd H (by simp)
      · rw [if_neg c4] at H
        have c4b0 : decide (x10_1 < (l0_1.length : Int)) = false := decide_eq_false c4
        clear c4
        obtain rfl := Option.some.inj H
        go_wp2
        go_ret
        exact ⟨_, by first | rfl | (simp [errW_none, errW_some] <;> rfl) | (simp [*, errW_none, errW_some] <;> rfl), by (with_reducible repeat (first | apply Kd.R_alloc | apply Kd.R_drewN | apply Kd.R_drew)); exact HO_3.out, by repeat (first | (with_reducible first | exact HB.out | apply below_alloc | apply pw_below_drewN | apply below_drew1 | refine below_set ?_ GE101.out) | exact HB.out)⟩
end Go.Proofs.Ytnmhnkpijjmhjaa.QP
namespace Go.Proofs.Ytnmhnkpijjmhjaa.Im
set_option linter.unusedVariables false
set_option linter.unusedSimpArgs false
open Go.RowKit Go.Shelf Go.Proofs.Ytnmhnkpijjmhjaa.Kp Go.Proofs.Ytnmhnkpijjmhjaa.Ext Go.Proofs.YtnmhnkpijjmhjaaW.PrintWords Go.Proofs.YtnmhnkpijjmhjaaW.PrintLast Go.Proofs.YtnmhnkpijjmhjaaW.PrintMore
/-- The free pair of a face, if it is free. -/
def onePr (xs : List Int) (f : Int) : Option Pr := if ((aroundL xs f).length : Int) = 1 then some ⟨f, rd (aroundL xs f) 0⟩ else none
def freeL (xs : List Int) : List Pr := xs.filterMap (onePr xs)
theorem freeP_loop (n : Int) (l : List Int) (hi : isC n l = true) : ∀ d (i : Nat) (acc : List Pr), l.length - i = d → i ≤ l.length → acc.length ≤ i →
    Ev (fun k => QP.impl_Complex_freePairs.l0 k acc l (l.length : Int) i n l) (acc ++ (l.drop i).filterMap (onePr l)) := by
  have hs := isC_small hi
  intro d
  induction d with
  | zero =>
    intro i acc hd hil ha
    rw [List.drop_eq_nil_of_le (by omega), List.filterMap_nil, List.append_nil]
    refine Ev.step (f := fun k => some acc) (fun k => ?_) (Ev.now _)
    simp only [QP.impl_Complex_freePairs.l0]; rw [if_neg (by omega)]
  | succ d ih =>
    intro i acc hd hil ha
    have hi' : i < l.length := by omega
    have hw : wrap64 ((i : Int) + 1) = ((i + 1 : Nat) : Int) := by rw [w64' (by omega) (by omega)]; omega
    rw [List.drop_eq_getElem_cons hi']
    have har : impl_Complex_around.f n l l[i] = some (aroundL l l[i]) := by unfold impl_Complex_around.f; rw [if_pos hi]
    by_cases h1 : ((aroundL l l[i]).length : Int) = 1
    · have he : onePr l l[i] = some ⟨l[i], rd (aroundL l l[i]) 0⟩ := by rw [onePr, if_pos h1]
      rw [List.filterMap_cons_some he]
      have := ih (i + 1) (acc ++ [⟨l[i], rd (aroundL l l[i]) 0⟩]) (by omega) (by omega) (by simp; omega)
      rw [List.append_assoc] at this
      refine Ev.step (fun k => ?_) this
      simp only [QP.impl_Complex_freePairs.l0]
      rw [if_pos (by omega), if_pos (by omega), if_pos (by omega), rd_at' hi', har, Option.bind_some, if_pos h1, if_pos (by omega), if_pos (by omega), hw]
    · have he : onePr l l[i] = none := by rw [onePr, if_neg h1]
      rw [List.filterMap_cons_none he]
      refine Ev.step (fun k => ?_) (ih (i + 1) acc (by omega) (by omega) (by omega))
      simp only [QP.impl_Complex_freePairs.l0]
      rw [if_pos (by omega), if_pos (by omega), if_pos (by omega), rd_at' hi', har, Option.bind_some, if_neg h1, hw]
theorem ev_freePairs {n : Int} {l : List Int} (hi : isC n l = true) : Ev (fun k => QP.impl_Complex_freePairs.f k n l) (freeL l) := by
  have := freeP_loop n l hi _ 0 [] rfl (Nat.zero_le _) (Nat.zero_le _)
  rw [List.drop_zero, List.nil_append] at this
  exact this
theorem freePairs_c (m : Int) (A : Option Addr) (c : Nat) (xs : List Int) (w : World) (hr : RC w A xs.length xs) (hc : xs.length ≤ c) (hi : isC m xs = true) :
    Calls Try.prog 98 #[.agg #[.int .i64 m, .slice A xs.length c]] w fun e w' => ∃ v, e = .returned v ∧ Kd.R k76 76 w' w.heap.size (fun _ => True) v (freeL xs) ∧ Below w.heap.size w w' := by
  obtain ⟨k, hk⟩ := (ev_freePairs hi).rounds
  exact QP.impl_Complex_freePairs.calls k m A c xs _ w hr hc hk
end Go.Proofs.Ytnmhnkpijjmhjaa.Im
namespace Go.Proofs.Ytnmhnkpijjmhjaa.Im
set_option linter.unusedVariables false
set_option linter.unusedSimpArgs false
open Go.RowKit Go.Shelf Go.Proofs.YtnmhnkpijjmhjaaW.PrintWords Go.Proofs.YtnmhnkpijjmhjaaW.PrintLast Go.Proofs.YtnmhnkpijjmhjaaW.PrintMore
set_option maxRecDepth 100000 in
set_option maxHeartbeats 1000000 in
theorem index_c (A : Option Addr) (n c : Nat) (xs : List Int) (y : Int) (w : World) (hr : RC w A n xs) :
    Calls Try.prog 199 #[.slice A n c, .int .i64 y] w fun e w' => e = .returned (.int .i64 (firstI (fun x => y == x) xs)) ∧ Below w.heap.size w w' := by
  have hl := hr.len
  have hbig := hl.2
  have HR := Aside0.mk hr
  have HL := Aside0.mk hl.1
  clear hr hl
  go_enter Try.func199, Try.ntmps199
  go_wp2
  go_loopw [5, 8] (fun _ i wr => ∃ k : Nat, k ≤ n ∧ i = .int .i64 k ∧ Aside0 (Below w.heap.size w wr) ∧ Aside0 (∀ j, j < k → (y == (xs[j]?.getD 0)) = false)) (fun _ i _ => n - (intOf i).toNat)
  case atStart => exact ⟨0, by omega, rfl, ⟨Below.refl _ _⟩, ⟨fun j hj => absurd hj (Nat.not_lt_zero _)⟩⟩
  case round =>
    obtain ⟨k, hk, rfl, hB, hA⟩ := hrel
    by_cases hlt : k < n
    · have hltz : (k : Int) < (n : Int) := by omega
      obtain ⟨ad, rfl, hcell⟩ := HR.out.at_ hB.out hlt
      obtain ⟨z, hz⟩ : ∃ z, xs[k]?.getD 0 = z := ⟨_, rfl⟩
      rw [hz] at hcell
      have HY := Aside0.mk hz
      clear hz
      cases hq : (y == z) with
      | true =>
        have HQ := Aside0.mk hq
        go_wp2
        go_ret
        refine ⟨?_, hB.out⟩
        rw [firstI_hit (p := fun x => y == x) (by rw [HL.out]; exact hlt) HY.out HQ.out hA.out]; rfl
      | false =>
        have HQ := Aside0.mk hq
        go_wp2
        go_roundw
        case measure => simp [intOf]; omega
        case rel =>
          refine ⟨k + 1, by omega, by go_num, hB, ⟨fun j hj => ?_⟩⟩
          rcases Nat.lt_or_ge j k with h | h
          · exact hA.out j h
          · obtain rfl : j = k := by omega
            rw [HY.out]; exact HQ.out
    · obtain rfl : k = n := by omega
      have hltz : ¬ (k : Int) < (k : Int) := by omega
      go_wp2
      go_ret
      refine ⟨?_, hB.out⟩
      rw [firstI_miss (p := fun x => y == x) (fun j hj => hA.out j (by rw [HL.out] at hj; exact hj))]; rfl
theorem contains_c (A : Option Addr) (n c : Nat) (xs : List Int) (y : Int) (w : World) (hr : RC w A n xs) :
    Calls Try.prog 152 #[.slice A n c, .int .i64 y] w fun e w' => e = .returned (.bool (xs.any fun x => y == x)) ∧ Below w.heap.size w w' := by
  rw [← firstI_nonneg]
  have hc := index_c A n c xs y w hr
  have HC := Aside0.mk hc
  clear hc hr
  generalize firstI (fun x => y == x) xs = r at HC ⊢
  go_enter Try.func152, Try.ntmps152
  go_wp2_with (go_at_call 199; refine HC.out.mono ?_; rintro e w' ⟨rfl, hb⟩)
  go_ret
  exact ⟨rfl, hb⟩
def offP (ys : List Int) (x : Int) : Bool := !(ys.any fun z => x == z)
theorem less1_f (b : Nat) (A : Option Addr) (n c : Nat) (ys : List Int) (w : World) (hb : Boxed w b 22 (.slice A n c)) (hr : RC w A n ys) :
    FnB Try.prog (.func (.func 151) #[] #[.pointer (some ⟨b, 0, none⟩)]) (fun _ => True) (offP ys) w := by
  refine ⟨_, _, _, rfl, enters_of Try.func151 (by kernel_rfl) rfl, fun W x hW hx => ?_⟩
  have hcell : W.cell? ⟨b, 0, none⟩ = some (.slice A n c) := (hW.cell (p := ⟨b, 0, none⟩) hb.lt).trans hb.cell
  have HC := Aside0.mk (contains_c A n c ys x W (Kd.C_below hr hW))
  have HE : Aside0 (offP ys x = !(ys.any fun z => x == z)) := ⟨rfl⟩
  clear hW hx hb hr
  show Calls Try.prog 151 #[.int .i64 x, .pointer (some ⟨b, 0, none⟩)] W fun e w' => e = .returned (.bool (offP ys x)) ∧ Below W.heap.size W w'
  generalize (ys.any fun z => x == z) = r at HC HE
  go_enter Try.func151, Try.ntmps151
  go_wp2_with (go_at_call 152; refine HC.out.mono ?_; rintro e w1 ⟨rfl, hb⟩)
  go_ret
  exact ⟨by rw [HE.out]; rfl, hb⟩
set_option maxRecDepth 100000 in
theorem less_cx (m : Int) (A A2 : Option Addr) (n n2 c c2 : Nat) (xs ys : List Int) (w : World) (hr : RC w A n xs) (hn : n ≤ 4611686018427387904) (hi : isC m xs = true) (hr2 : RC w A2 n2 ys) :
    Calls Try.prog 90 #[.agg #[.int .i64 m, .slice A n c], .slice A2 n2 c2] w (CxOnly w.heap.size w m (partL m xs (offP ys))) := by
  have hbk0 := CxAt.new w m A n c
  have hbx := Boxed.new (w.alloc (.cells #[.int .i64 m, .slice A n c] 26)) 22 (.slice A2 n2 c2)
  have hbk2 := CxAt.new ((w.alloc (.cells #[.int .i64 m, .slice A n c] 26)).alloc (.cells #[.slice A2 n2 c2] 22)) 0 none 0 0
  rw [World.size_alloc] at hbx
  rw [World.size_alloc, World.size_alloc] at hbk2
  have hb1 : Below w.heap.size w (((w.alloc (.cells #[.int .i64 m, .slice A n c] 26)).alloc (.cells #[.slice A2 n2 c2] 22)).alloc (.cells #[.int .i64 0, .slice none 0 0] 26)) := (((Below.refl _ w).alloc (Nat.le_refl _) _).alloc (by simp) _).alloc (by simp; omega) _
  have hk0 := (hbk0.below ((Below.refl _ _).alloc (Nat.le_refl _) (.cells #[.slice A2 n2 c2] 22))).below ((Below.refl _ _).alloc (Nat.le_refl _) (.cells #[.int .i64 0, .slice none 0 0] 26))
  have hbx2 := bx_below hbx ((Below.refl _ _).alloc (Nat.le_refl _) (.cells #[.int .i64 0, .slice none 0 0] 26))
  obtain ⟨⟨hm1, hm6⟩, hasc, _⟩ := isC_of hi
  have hc := part_c m A n c xs _ (fun _ => True) _ _ hm1 hm6 (less1_f (w.heap.size + 1) A2 n2 c2 ys _ hbx2 (Kd.C_below hr2 hb1)) (fun _ _ _ => trivial) (Kd.C_below hr hb1) hn (ascB_asc hasc)
  have l0 := hk0.c0
  have l1 := hk0.c1
  have HC := Aside0.mk hc
  have HB := Aside0.mk hb1
  have HK := Aside0.mk hbk2
  clear hc hb1 hbk2 hk0 hbx hbx2 hbk0 hr hn hi hasc hr2
  generalize partL m xs (offP ys) = zs at HC ⊢
  go_enter Try.func90, Try.ntmps90
  go_wp2_with (go_at_call 145; refine HC.out.mono ?_; rintro e w2 ⟨v, rfl, hv, hb2⟩; obtain ⟨A3, c3, rfl⟩ := Kd.R_slice hv; have R2 := Aside0.mk hv; have HB2 := Aside0.mk (below_in HB.out hb2); have K2 := Aside0.mk (HK.out.below hb2); have m0 := K2.out.c0; have m1 := K2.out.c1; have f0 := K2.out.fz0; have f1 := K2.out.fz; clear hv hb2)
  have hX := K2.out.set2 m A3 zs.length c3
  have x0 := hX.c0
  have x1 := hX.c1
  exact bodyPost_ret (v := .agg #[.int .i64 m, .slice A3 zs.length c3]) (by simp [results, Try.results90, go_sem, x0, x1]) rfl ⟨_, rfl, Kd.R_lower ((R2.out.set K2.out _ _).set (K2.out.set0 _) _ _) HB.out.size, (HB2.out.setCell (p := ⟨w.heap.size + 1 + 1, 0, none⟩) (by simp; omega) _).setCell (p := ⟨w.heap.size + 1 + 1, 1, none⟩) (by simp; omega) _⟩
theorem cell_far {w : World} {p : Addr} {b : Nat} (hne : p.block ≠ b) (o : Nat) (u : Value) : (w.setCell ⟨b, o, none⟩ u).cell? p = w.cell? p := World.cell?_of_block (Below.heap_setCell w ⟨b, o, none⟩ u p.block hne)
end Go.Proofs.Ytnmhnkpijjmhjaa.Im
namespace Go.Proofs.Ytnmhnkpijjmhjaa.Im
set_option linter.unusedVariables false
set_option linter.unusedSimpArgs false
open Go.RowKit Go.Proofs.YtnmhnkpijjmhjaaW.PrintWords Go.Proofs.YtnmhnkpijjmhjaaW.PrintLast Go.Proofs.YtnmhnkpijjmhjaaW.PrintMore
theorem fullZ_le {n : Int} (h1 : 1 ≤ n) (h6 : n ≤ 6) : 1 ≤ fullZ n ∧ fullZ n ≤ 63 := by
  obtain rfl | rfl | rfl | rfl | rfl | rfl : n = 1 ∨ n = 2 ∨ n = 3 ∨ n = 4 ∨ n = 5 ∨ n = 6 := by omega
  all_goals exact ⟨by decide, by decide⟩
theorem full_nat {n : Int} (h1 : 1 ≤ n) (h6 : n ≤ 6) : fullZ n = ((2 ^ n.toNat - 1 : Nat) : Int) := by
  obtain rfl | rfl | rfl | rfl | rfl | rfl : n = 1 ∨ n = 2 ∨ n = 3 ∨ n = 4 ∨ n = 5 ∨ n = 6 := by omega
  all_goals decide +kernel
theorem thoseL_len {n : Int} (h1 : 1 ≤ n) (h6 : n ≤ 6) (p : Int → Bool) : (thoseL n p).length ≤ 64 := by
  refine Nat.le_trans (thoseUpto_len p (2 ^ n.toNat)) ?_
  obtain rfl | rfl | rfl | rfl | rfl | rfl : n = 1 ∨ n = 2 ∨ n = 3 ∨ n = 4 ∨ n = 5 ∨ n = 6 := by omega
  all_goals decide
/-- The faces of a complex are numbers from 1 to full. -/
theorem isC_range {n : Int} {l : List Int} (h : isC n l = true) : ∀ x ∈ l, 1 ≤ x ∧ x ≤ fullZ n := by
  obtain ⟨_, ha, _⟩ := isC_of h
  intro x hx
  obtain ⟨i, hi, rfl⟩ := List.mem_iff_getElem.1 hx
  have h1 := List.all_eq_true.1 ha i (List.mem_range.2 hi)
  simp only [okAt, List.getElem?_eq_getElem hi, Option.getD_some, withinB, Bool.and_eq_true, decide_eq_true_eq] at h1
  exact h1.1
theorem asc_pair {l : List Int} (ha : Asc l) : l.Pairwise (· < ·) := by
  rw [List.pairwise_iff_getElem]
  intro i j hi hj hij
  have := ha.lt hij hj
  simpa [List.getElem?_eq_getElem hi, List.getElem?_eq_getElem hj] using this
/-- The faces of a complex are those of the numbers 1, 2, .. that lie in it: the list is ascending. -/
theorem isC_those {n : Int} {l : List Int} (h : isC n l = true) : l = thoseL n fun x => decide (x ∈ l) := by
  obtain ⟨⟨h1, h6⟩, ha, _⟩ := isC_of h
  have hr := isC_range h
  have hk := full_nat h1 h6
  have hasc : l.Pairwise (· < ·) := by
    rw [List.pairwise_iff_getElem]
    intro i j hi hj hij
    have := (ascB_asc ha).lt hij hj
    simpa [List.getElem?_eq_getElem hi, List.getElem?_eq_getElem hj] using this
  have hasc2 : (thoseL n fun x => decide (x ∈ l)).Pairwise (· < ·) := by
    unfold thoseL nums1
    refine List.Pairwise.filter _ ?_
    rw [List.pairwise_map]
    exact List.pairwise_lt_range.imp (fun h => by omega)
  refine List.Perm.eq_of_pairwise (le := (· < ·)) (fun a b _ _ h1 h2 => by omega) hasc hasc2 ?_
  refine (List.perm_ext_iff_of_nodup (hasc.imp (fun h => by omega)) (hasc2.imp (fun h => by omega))).2 fun x => ?_
  unfold thoseL
  rw [List.mem_filter, mem_nums1]
  constructor
  · intro hx
    have := hr x hx
    exact ⟨⟨this.1, by omega⟩, by simpa using hx⟩
  · intro hx; simpa using hx.2
theorem isC_len {n : Int} {l : List Int} (h : isC n l = true) : l.length ≤ 64 := by
  obtain ⟨⟨h1, h6⟩, _, _⟩ := isC_of h
  rw [isC_those h]
  exact thoseL_len h1 h6 _
theorem partL_eq {n : Int} {l : List Int} (h : isC n l = true) (q : Int → Bool) : partL n l q = l.filter q := by
  have hl := isC_those h
  have : partL n l q = (thoseL n fun x => decide (x ∈ l)).filter q := by
    unfold partL thoseL
    rw [List.filter_filter]
    refine List.filter_congr fun x _ => ?_
    rw [Bool.and_comm]; rfl
  rw [this, ← hl]
def outP (c : Int) (x : Int) : Bool := Go.bits .and .i64 x c != c
theorem partL_congr {n : Int} {l : List Int} (h : isC n l = true) {q r : Int → Bool} (hq : ∀ x ∈ l, q x = r x) : partL n l q = partL n l r := by
  rw [partL_eq h, partL_eq h]
  exact List.filter_congr hq
theorem up_all : ((List.range 64).all fun v => (List.range 64).all fun x => (!aroundP (v : Int) (x : Int)) == (Go.bits .and .i64 (x : Int) (v : Int) == (v : Int) && (x : Int) != (v : Int))) = true := by decide +kernel
def upP (v x : Int) : Bool := Go.bits .and .i64 x v == v && x != v
theorem up_eq {v x : Int} (hv : 0 ≤ v ∧ v ≤ 63) (hx : 0 ≤ x ∧ x ≤ 63) : (!aroundP v x) = upP v x := by
  obtain ⟨a, rfl⟩ := Int.eq_ofNat_of_zero_le hv.1
  obtain ⟨b, rfl⟩ := Int.eq_ofNat_of_zero_le hx.1
  have h2 := List.all_eq_true.1 (List.all_eq_true.1 up_all a (List.mem_range.2 (by omega))) b (List.mem_range.2 (by omega))
  exact eq_of_beq h2
theorem around_up {n v : Int} {l : List Int} (h : isC n l = true) (hv : v ∈ l) : aroundL l v = l.filter (upP v) := by
  obtain ⟨⟨h1, h6⟩, _, _⟩ := isC_of h
  have hF := fullZ_le h1 h6
  have hr := isC_range h
  refine List.filter_congr fun x hx => up_eq ?_ ?_
  · have := hr v hv; omega
  · have := hr x hx; omega
theorem self_all : ((List.range 64).all fun v => Go.bits .and .i64 (v : Int) (v : Int) == (v : Int)) = true := by decide +kernel
theorem pair_off {n v y : Int} {l : List Int} (hi : isC n l = true) (hv : v ∈ l) (h : aroundL l v = [y]) : partL n l (outP v) = partL n l (offP [v, y]) := by
  obtain ⟨⟨h1, h6⟩, _, _⟩ := isC_of hi
  have hF := fullZ_le h1 h6
  have hr := isC_range hi
  have hu := around_up hi hv
  rw [h] at hu
  refine partL_congr hi fun x hx => ?_
  have hy : y ∈ l.filter (upP v) := by rw [← hu]; simp
  have hyu := (List.mem_filter.1 hy).2
  by_cases hxv : x = v
  · subst hxv
    have hx2 := hr x hx
    obtain ⟨a, rfl⟩ := Int.eq_ofNat_of_zero_le (show 0 ≤ x by omega)
    have h3 := eq_of_beq (List.all_eq_true.1 self_all a (List.mem_range.2 (by omega)))
    simp [outP, offP, h3]
  · by_cases hxy : x = y
    · subst hxy
      simp only [upP, Bool.and_eq_true] at hyu
      have h3 := eq_of_beq hyu.1
      simp [outP, offP, h3]
    · have h4 : offP [v, y] x = true := by simp [offP, hxv, hxy]
      rw [h4]
      cases h5 : outP v x with
      | true => rfl
      | false =>
        exfalso
        have h6 : Go.bits .and .i64 x v = v := by simpa [outP] using h5
        have : x ∈ l.filter (upP v) := List.mem_filter.2 ⟨hx, by simp [upP, h6, hxv]⟩
        rw [← hu] at this
        simp [hxy] at this
theorem all_congr_mem {p q : Int → Bool} : ∀ {l : List Int}, (∀ x ∈ l, p x = q x) → l.all p = l.all q
  | [], _ => rfl
  | x :: l, h => by rw [List.all_cons, List.all_cons, h x (by simp), all_congr_mem (fun y hy => h y (by simp [hy]))]
/-- A part of a complex that has, with a face, all faces that border it, is a complex. -/
theorem isC_filter {n : Int} {l : List Int} (h : isC n l = true) (q : Int → Bool) (hq : ∀ x ∈ l, q x = true → ∀ y ∈ bordersL x, q y = true) : isC n (l.filter q) = true := by
  obtain ⟨h16, ha, hc⟩ := isC_of h
  have hr := isC_range h
  have hp : (l.filter q).Pairwise (· < ·) := List.Pairwise.filter _ (asc_pair (ascB_asc ha))
  have hc' := List.all_eq_true.1 hc
  rw [isC, Bool.and_eq_true, Bool.and_eq_true]
  refine ⟨by simp [withinB, h16.1, h16.2], List.all_eq_true.2 fun i hi => ?_, List.all_eq_true.2 fun x hx => List.all_eq_true.2 fun y hy => ?_⟩
  · have hi := List.mem_range.1 hi
    have hg : (l.filter q)[i]?.getD 0 = (l.filter q)[i] := by rw [List.getElem?_eq_getElem hi]; rfl
    have hm := hr _ (List.mem_filter.1 (List.getElem_mem hi)).1
    rw [okAt, hg, Bool.and_eq_true]
    refine ⟨by simp [withinB, hm.1, hm.2], ?_⟩
    rcases Nat.eq_zero_or_pos i with hz | hz
    · subst hz; rfl
    · rw [List.pairwise_iff_getElem] at hp
      have h1 := hp (i - 1) i (by omega) hi (by omega)
      rw [List.getElem?_eq_getElem (show i - 1 < (l.filter q).length by omega)]
      simp [h1]
  · obtain ⟨hxl, hxq⟩ := List.mem_filter.1 hx
    have := List.all_eq_true.1 (hc' x hxl) y hy
    exact decide_eq_true (List.mem_filter.2 ⟨of_decide_eq_true this, hq x hxl hxq y hy⟩)
theorem outP_all : ((List.range 64).all fun c => (List.range 64).all fun x => !(outP (c : Int) (x : Int)) || (bordersL (x : Int)).all fun y => outP (c : Int) y) = true := by decide +kernel
theorem isC_out {n c : Int} {l : List Int} (h : isC n l = true) (h0 : 0 ≤ c) (h6 : c ≤ 63) : isC n (partL n l (outP c)) = true := by
  rw [partL_eq h]
  obtain ⟨⟨h1, h2⟩, _, _⟩ := isC_of h
  have hF := fullZ_le h1 h2
  refine isC_filter h _ fun x hx hq y hy => ?_
  have hr := isC_range h x hx
  obtain ⟨a, rfl⟩ := Int.eq_ofNat_of_zero_le h0
  obtain ⟨b, rfl⟩ := Int.eq_ofNat_of_zero_le (show 0 ≤ x by omega)
  have h3 := List.all_eq_true.1 (List.all_eq_true.1 outP_all a (List.mem_range.2 (by omega))) b (List.mem_range.2 (by omega))
  rw [hq, Bool.not_true, Bool.false_or] at h3
  exact List.all_eq_true.1 h3 y hy
end Go.Proofs.Ytnmhnkpijjmhjaa.Im
namespace Go.Proofs.Ytnmhnkpijjmhjaa.Im
set_option linter.unusedVariables false
set_option linter.unusedSimpArgs false
open Go.RowKit Go.Shelf Go.Proofs.Ytnmhnkpijjmhjaa.Ext Go.Proofs.YtnmhnkpijjmhjaaW.PrintWords Go.Proofs.YtnmhnkpijjmhjaaW.PrintLast Go.Proofs.YtnmhnkpijjmhjaaW.PrintMore
theorem RO.ok {W : World} {base : Nat} {v : Value} {xs : List Int} {ok : Nat → Prop} (h : RO W base v xs) (hk : ∀ k, v.ownBlock = some k → ok k) : Kd.R (Kd.int .i64) 2 W base ok v xs :=
  Kd.R_mono (Kd.R_tight rfl h) (fun k e => hk k e.symm)
end Go.Proofs.Ytnmhnkpijjmhjaa.Im
namespace Go.Proofs.Ytnmhnkpijjmhjaa.Ext
set_option linter.unusedVariables false
set_option linter.unusedSimpArgs false
open Go.RowKit Go.Proofs.Ytnmhnkpijjmhjaa.Im Go.Proofs.Ytnmhnkpijjmhjaa.Kp Go.Proofs.YtnmhnkpijjmhjaaW.PrintWords Go.Proofs.YtnmhnkpijjmhjaaW.PrintLast Go.Proofs.YtnmhnkpijjmhjaaW.PrintMore
def impl_areAll_int64.f (l0 : List Int) (a1 : Pred) : Option (Bool) := if l0.length ≤ 1099511627776 ∧ a1.sort = 1 ∧ okDom a1 l0 = true then some (l0.all a1.pI) else none
theorem impl_areAll_int64.calls (A0 : Option Addr) (c0 : Nat) (l0 : List Int) (F1 : Value) (a1 : Pred) (r : Bool) (w : World) (hr0 : Kd.C (Kd.int .i64) w A0 l0.length l0) (_hc0 : l0.length ≤ c0) (hq1 : FnOk F1 a1 w) (h : impl_areAll_int64.f l0 a1 = some r) :
    Calls Try.prog 76 #[.slice A0 l0.length c0, F1] w fun e w' => e = .returned (.bool r) ∧ Below w.heap.size w w' := by
  unfold impl_areAll_int64.f at h
  by_cases hl : l0.length ≤ 1099511627776 ∧ a1.sort = 1 ∧ okDom a1 l0 = true
  · rw [if_pos hl] at h
    have hd := Option.some.inj h
    rw [← hd]
    exact areAll_c A0 l0.length c0 l0 F1 a1.dom a1.pI w hr0 (hq1.2.1 hl.2.1) (okDom_mem hl.2.2)
  · rw [if_neg hl] at h; cases h
def impl_IsComplex.f (a0_0 : Int) (l0_1 : List Int) : Option (Bool) := if l0_1.length ≤ 4611686018427387904 then some (isC a0_0 l0_1) else none
theorem impl_IsComplex.calls (a0_0 : Int) (A0_1 : Option Addr) (c0_1 : Nat) (l0_1 : List Int) (r : Bool) (w : World) (hr0_1 : Kd.C (Kd.int .i64) w A0_1 l0_1.length l0_1) (_hc0_1 : l0_1.length ≤ c0_1) (h : impl_IsComplex.f a0_0 l0_1 = some r) :
    Calls Try.prog 65 #[.agg #[.int .i64 a0_0, .slice A0_1 l0_1.length c0_1]] w fun e w' => e = .returned (.bool r) ∧ Below w.heap.size w w' := by
  unfold impl_IsComplex.f at h
  by_cases hl : l0_1.length ≤ 4611686018427387904
  · rw [if_pos hl] at h
    have hd := Option.some.inj h
    rw [← hd]
    exact isComplex_c a0_0 A0_1 l0_1.length c0_1 l0_1 w hr0_1 hl
  · rw [if_neg hl] at h; cases h
def impl_Complex_less.f (a0_0 : Int) (l0_1 : List Int) (l1 : List Int) : Option (Int × List Int) := if isC a0_0 l0_1 = true then some ((a0_0, partL a0_0 l0_1 (offP l1))) else none
theorem impl_Complex_less.calls (a0_0 : Int) (A0_1 : Option Addr) (c0_1 : Nat) (l0_1 : List Int) (A1 : Option Addr) (c1 : Nat) (l1 : List Int) (r1 : Int) (r2 : List Int) (w : World) (hr0_1 : Kd.C (Kd.int .i64) w A0_1 l0_1.length l0_1) (_hc0_1 : l0_1.length ≤ c0_1) (hr1 : Kd.C (Kd.int .i64) w A1 l1.length l1) (_hc1 : l1.length ≤ c1) (h : impl_Complex_less.f a0_0 l0_1 l1 = some (r1, r2)) :
    Calls Try.prog 90 #[.agg #[.int .i64 a0_0, .slice A0_1 l0_1.length c0_1], .slice A1 l1.length c1] w fun e w' => ∃ v1_ : Value, e = .returned (.agg #[.int .i64 r1, v1_]) ∧ Kd.R (Kd.int .i64) 2 w' w.heap.size (fun _ => True) v1_ r2 ∧ Below w.heap.size w w' := by
  unfold impl_Complex_less.f at h
  by_cases hl : isC a0_0 l0_1 = true
  · rw [if_pos hl] at h
    have hd := Option.some.inj h
    obtain ⟨rfl, rfl⟩ := Prod.mk.inj hd
    exact less_cx a0_0 A0_1 A1 l0_1.length l1.length c0_1 c1 l0_1 l1 w hr0_1 (by have := isC_small hl; omega) hl hr1
  · rw [if_neg hl] at h; cases h
def slices_IndexFunc_impl_Pair_impl_Pair.f (l0 : List S76) (a1 : Pred) : Option (Int) := if l0.length ≤ 1099511627776 ∧ a1.sort = 2 ∧ okDomP a1 l0 = true then some (firstP a1.pP l0) else none
theorem slices_IndexFunc_impl_Pair_impl_Pair.calls (A0 : Option Addr) (c0 : Nat) (l0 : List S76) (F1 : Value) (a1 : Pred) (r : Int) (w : World) (hr0 : Kd.C k76 w A0 l0.length l0) (_hc0 : l0.length ≤ c0) (hq1 : FnOk F1 a1 w) (h : slices_IndexFunc_impl_Pair_impl_Pair.f l0 a1 = some r) :
    Calls Try.prog 131 #[.slice A0 l0.length c0, F1] w fun e w' => e = .returned (.int .i64 r) ∧ Below w.heap.size w w' := by
  unfold slices_IndexFunc_impl_Pair_impl_Pair.f at h
  by_cases hl : l0.length ≤ 1099511627776 ∧ a1.sort = 2 ∧ okDomP a1 l0 = true
  · rw [if_pos hl] at h
    have hd := Option.some.inj h
    rw [← hd]
    exact indexPair_c A0 c0 l0 F1 a1.domP a1.pP w hr0 (hq1.2.2 hl.2.1) (okDomP_mem hl.2.2) hl.1
  · rw [if_neg hl] at h; cases h
end Go.Proofs.Ytnmhnkpijjmhjaa.Ext
namespace Go.Proofs.Ytnmhnkpijjmhjaa.Ext
set_option linter.unusedVariables false
set_option linter.unusedSimpArgs false
open Go.RowKit Go.Proofs.Ytnmhnkpijjmhjaa.Im Go.Proofs.Ytnmhnkpijjmhjaa.Kp Go.Proofs.YtnmhnkpijjmhjaaW.PrintWords Go.Proofs.YtnmhnkpijjmhjaaW.PrintLast Go.Proofs.YtnmhnkpijjmhjaaW.PrintMore
def impl_Complex_freePairs.f (a0_0 : Int) (l0_1 : List Int) : Option (List S76) := if isC a0_0 l0_1 = true then some (freeL l0_1) else none
theorem impl_Complex_freePairs.calls (a0_0 : Int) (A0_1 : Option Addr) (c0_1 : Nat) (l0_1 : List Int) (r : List S76) (w : World) (hr0_1 : Kd.C (Kd.int .i64) w A0_1 l0_1.length l0_1) (_hc0_1 : l0_1.length ≤ c0_1) (h : impl_Complex_freePairs.f a0_0 l0_1 = some r) :
    Calls Try.prog 98 #[.agg #[.int .i64 a0_0, .slice A0_1 l0_1.length c0_1]] w fun e w' => ∃ v0_ : Value, e = .returned (v0_) ∧ Kd.R k76 76 w' w.heap.size (fun _ => True) v0_ r ∧ Below w.heap.size w w' := by
  unfold impl_Complex_freePairs.f at h
  by_cases hl : isC a0_0 l0_1 = true
  · rw [if_pos hl] at h
    have hd := Option.some.inj h
    rw [← hd]
    exact freePairs_c a0_0 A0_1 c0_1 l0_1 w hr0_1 _hc0_1 hl
  · rw [if_neg hl] at h; cases h
end Go.Proofs.Ytnmhnkpijjmhjaa.Ext
