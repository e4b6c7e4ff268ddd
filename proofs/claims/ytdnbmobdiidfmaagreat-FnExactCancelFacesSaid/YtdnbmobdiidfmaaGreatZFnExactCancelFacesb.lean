/- Words and lemmas for FnExactCancelFaces, part 2: what the row's text comes to. -/
import Derived.WalkKit
import Derived.Lib.Hide
import Derived.Deep.Draws
import Derived.Deep.LoopGhost
import Derived.Deep.QuietTactic
import Derived.BigQuiet
import Derived.Deep.RegionHeld3
import Derived.Test.YtdnbmobdiidfmaaGreatProg
import Derived.RangeFuncNested
import Derived.RangeFuncBound
import Derived.RangeFuncCalls
import Derived.RangeFuncLeaves
import Derived.Shelf.Abstract
import Derived.Shelf.RegionOpen
import Derived.OwnWalkIn
import Derived.TacticsInMore
import Derived.LoopNIn
import Derived.LoopIn
import Derived.Maps.AppendAt
import Derived.Shelf.SlGeneric
import Derived.Test.YtdnbmobdiidfmaaGreatRows
import Derived.ProofKit
import Derived.OpenShut
import Derived.ShutString
import Derived.ChangeOld
import Derived.Below
import Derived.SizedLaws
import Derived.Lib.SmallJoins
import Derived.KernelRfl
import Derived.Deep.AppendLies
import Derived.OwnWalk
import Derived.Laws.BytesArg
import Derived.Laws.MakeOwn
import Derived.Laws.OwnMore
import Derived.Deep.OwnRows
import Derived.Tactics
import Derived.Lib.ConvBytes
import Derived.Laws.Slices
import Derived.RowKit3
import Derived.WideLaws
import Derived.Deep.DeepCutAuto
import Derived.Deep.CutBlock
import Derived.Laws.Rows
import Derived.Lib.AppendStr
import Derived.ArgAppend
import Derived.Laws.IdiomCopy
import Derived.OrdersHeld
import Derived.Laws.BitsLemmas
import Derived.RowKit
import Derived.Lib.SliceRun
import Derived.MapKept
import Derived.Carry
import Derived.Laws.CopyOwn
import Derived.Lib.AppendZerosOnto
import Derived.Lib.Overlaps
import Derived.Test.YtdnbmobdiidfmaaGreatZFnExactCancelFacesa
set_option linter.unusedVariables false
set_option linter.unusedSimpArgs false
namespace Go.Proofs.YtdnbmobdiidfmaaGreat.Im
open Go.RowKit YtdnbmobdiidfmaaGreatW.PrintWords YtdnbmobdiidfmaaGreatW.PrintLast YtdnbmobdiidfmaaGreatW.PrintMore
def FnB (P : Program) (fv : Value) (dom : Int → Prop) (p : Int → Bool) (w : World) : Prop :=
  ∃ g fs lb, fv = .func (.func g) fs lb ∧ (∀ args w, (callFunc g args).run P w = .ok (.enter g args) w) ∧
    ∀ W x, Below w.heap.size w W → dom x → Calls P g (fs ++ #[.int .i64 x] ++ lb) W fun e w' => e = .returned (.bool (p x)) ∧ Below W.heap.size W w'
theorem FnB.later {P : Program} {fv : Value} {dom : Int → Prop} {p : Int → Bool} {w w1 : World} (h : FnB P fv dom p w) (hb : Below w.heap.size w w1) : FnB P fv dom p w1 := by
  obtain ⟨g, fs, lb, he, hg, hc⟩ := h
  exact ⟨g, fs, lb, he, hg, fun W x hW hx => hc W x (hb.trans (hW.mono hb.size)) hx⟩
def FnU (P : Program) (fv : Value) (b : Bool) (w : World) : Prop :=
  ∃ g fs lb, fv = .func (.func g) fs lb ∧ (∀ args w, (callFunc g args).run P w = .ok (.enter g args) w) ∧
    ∀ W, Below w.heap.size w W → Calls P g (fs ++ #[] ++ lb) W fun e w' => e = .returned (.bool b) ∧ Below W.heap.size W w'
theorem FnU.later {P : Program} {fv : Value} {b : Bool} {w w1 : World} (h : FnU P fv b w) (hb : Below w.heap.size w w1) : FnU P fv b w1 := by
  obtain ⟨g, fs, lb, he, hg, hc⟩ := h
  exact ⟨g, fs, lb, he, hg, fun W hW => hc W (hb.trans (hW.mono hb.size))⟩
abbrev RC (w : World) (A : Option Addr) (n : Nat) (xs : List Int) : Prop := Kd.C (Kd.int .i64) w A n xs
abbrev RO (w : World) (base : Nat) (v : Value) (xs : List Int) : Prop := Kd.R (Kd.int .i64) 2 w base (fun _ => True) v xs
section
variable {P : Program} {ops : Array Oper} {rest : List Oper} {o : Oper} {a : Act} {Q : Exit → Act → World → Prop}
theorem ap64 {w0 W : World} (base : Nat) (hgd : o.guard = none) (s x : Operand) (t : TypeId)
    (ho : o.op = .call { callee := .builtin .append, args := #[s, x], argTypes := #[t, t] }) (ht : P.underlying t = some (.slice 2))
    (hinfo : (P.info? 2).map (fun i => (i.zero, i.size, i.bytes)) = some (some (.int .i64 0), 1, 8)) (v : Value) (xs : List Int) (y : Int)
    (hs : a.eval s = v) (hx : a.eval x = .slice (some ⟨W.heap.size, 0, none⟩) 1 1) (HO : RO W base v xs) (HB : Below base w0 W) (hbase : base ≤ W.heap.size) (hl : xs.length ≤ 17592186044415)
    (h : ∀ v1 w1, RO w1 base v1 (xs ++ [y]) → Below base w0 w1 → W.grownBy w1 v.ownBlock → (v1.ownBlock = v.ownBlock ∨ ∃ b, v1.ownBlock = some b ∧ W.heap.size ≤ b) → wpList P ops Q rest (a.put o.dst v1) w1) :
    wpList P ops Q (o :: rest) a (W.alloc (.cells #[.int .i64 y] 2)) :=
  Kd.R_append (Kd.int .i64) base hgd s x t 2 (.int .i64 0) 8 ho ht hinfo rfl (by decide) (by decide) v xs y [.int .i64 y] (fun _ => True) (fun _ => False) hs hx rfl (fun _ hk => hk.elim) (fun _ _ => trivial) HO HB hbase (by omega) h
end
theorem below_in {w w1 w2 : World} (h : Below w.heap.size w w1) (k : Below w1.heap.size w1 w2) : Below w.heap.size w w2 := h.trans (k.mono h.size)
def withinB (n lo hi : Int) : Bool := decide (lo ≤ n) && decide (n ≤ hi)
theorem within_c (n lo hi : Int) (w : World) : Calls Tryz.prog 101 #[.int .i64 n, .int .i64 lo, .int .i64 hi] w fun e w' => e = .returned (.bool (withinB n lo hi)) ∧ w = w' := by
  unfold withinB
  by_cases h : lo ≤ n
  · have h1 : decide (lo ≤ n) = true := decide_eq_true h
    go_enter Tryz.func101, Tryz.ntmps101
    go_wp2
    go_ret
    simp [h1]
  · have h1 : decide (lo ≤ n) = false := decide_eq_false h
    go_enter Tryz.func101, Tryz.ntmps101
    go_wp2
    go_ret
    simp [h1]
theorem isSize_c (n : Int) (w : World) : Calls Tryz.prog 100 #[.int .i64 n] w fun e w' => e = .returned (.bool (withinB n 1 6)) ∧ w = w' := by
  go_enter Tryz.func100, Tryz.ntmps100
  go_wp2_with (go_at_call 101; refine (within_c _ _ _ _).mono ?_; rintro e w' ⟨rfl, rfl⟩)
  go_ret
  exact ⟨rfl, rfl⟩
theorem isIn_c (f g : Int) (w : World) : Calls Tryz.prog 106 #[.int .i64 f, .int .i64 g] w fun e w' => e = .returned (.bool (Go.bits .andNot .i64 f g == 0)) ∧ w = w' := by
  go_enter Tryz.func106, Tryz.ntmps106
  go_wp2
  go_ret
  exact ⟨rfl, rfl⟩
theorem less_c (a b : Int) (w : World) : Calls Tryz.prog 112 #[.int .i64 a, .int .i64 b] w fun e w' => e = .returned (.bool (decide (a < b))) ∧ w = w' := by
  go_enter Tryz.func112, Tryz.ntmps112
  go_wp2
  go_ret
  exact ⟨rfl, rfl⟩
def fullZ (n : Int) : Int := 2 ^ n.toNat - 1
theorem full_c (n : Int) (s : Value) (w : World) (h1 : 1 ≤ n) (h6 : n ≤ 6) : Calls Tryz.prog 102 #[.agg #[.int .i64 n, s]] w fun e w' => e = .returned (.int .i64 (fullZ n)) ∧ Below w.heap.size w w' := by
  have hb := (Below.refl w.heap.size w).alloc (Nat.le_refl _) (.cells #[.int .i64 n, s] 31)
  obtain rfl | rfl | rfl | rfl | rfl | rfl : n = 1 ∨ n = 2 ∨ n = 3 ∨ n = 4 ∨ n = 5 ∨ n = 6 := by omega
  all_goals
    go_enter Tryz.func102, Tryz.ntmps102
    go_wp2
    go_ret
    exact ⟨rfl, hb⟩
theorem info64 : (Tryz.prog.info? 2).map (fun i => (i.zero, i.size, i.bytes)) = some (some (.int .i64 0), 1, 8) := by kernel_rfl
def bitB (f : Int) (v : Nat) : Bool := Go.bits .and .i64 (f / 2 ^ v) 1 == 1
def vertsUpto (f : Int) (k : Nat) : List Int := ((List.range k).filter (bitB f)).map (fun v : Nat => (v : Int))
def verts (f : Int) : List Int := vertsUpto f 6
theorem vertsUpto_len (f : Int) (k : Nat) : (vertsUpto f k).length ≤ k := by
  unfold vertsUpto
  rw [List.length_map]
  exact Nat.le_trans (List.length_filter_le _ _) (by simp)
theorem vertsUpto_yes {f : Int} {k : Nat} (h : bitB f k = true) : vertsUpto f (k + 1) = vertsUpto f k ++ [(k : Int)] := by
  simp [vertsUpto, List.range_succ, h]
theorem vertsUpto_no {f : Int} {k : Nat} (h : bitB f k = false) : vertsUpto f (k + 1) = vertsUpto f k := by
  simp [vertsUpto, List.range_succ, h]
set_option maxRecDepth 100000 in
set_option maxHeartbeats 2000000 in
theorem vertices_c (f : Int) (w : World) : Calls Tryz.prog 50 #[.int .i64 f] w fun e w' => ∃ v, e = .returned v ∧ RO w' w.heap.size v (verts f) ∧ Below w.heap.size w w' := by
  go_enter Tryz.func50, Tryz.ntmps50
  go_wp2
  go_loopw [3, 4, 5] (fun v _ i wr => ∃ k : Nat, k ≤ 6 ∧ i = .int .i64 k ∧ Aside0 (RO wr w.heap.size v (vertsUpto f k)) ∧ Aside0 (Below w.heap.size w wr)) (fun _ _ i _ => 6 - (intOf i).toNat)
  case atStart => exact ⟨0, by omega, rfl, ⟨Kd.R_nil _ _ _ _ _⟩, ⟨Below.refl _ _⟩⟩
  case round =>
    obtain ⟨k, hk, rfl, hR, hB⟩ := hrel
    by_cases hlt : k < 6
    · all_goals
        go_wp2_with (at_builtin; refine ap64 w.heap.size rfl (.tmp 13) (.tmp 15) 22 rfl Tryz.underlying22 info64 _ _ _ rfl rfl hR.out hB.out hB.out.size ?hl ?_; (case hl => exact Nat.le_trans (vertsUpto_len f _) (by omega)); intro v1 w1 ho hb hg hat; clear hg hat; have hR1 := Aside0.mk ho; have hB1 := Aside0.mk hb; clear ho hb)
        · go_roundw
          case rel => exact ⟨k + 1, by omega, by go_num, ⟨by rw [vertsUpto_yes (by unfold bitB; assumption)]; exact hR1.out⟩, hB1⟩
          case measure => simp [intOf]; omega
        · go_roundw
          case rel => exact ⟨k + 1, by omega, by go_num, ⟨by rw [vertsUpto_no (by unfold bitB; assumption)]; exact hR.out⟩, hB⟩
          case measure => simp [intOf]; omega
    · obtain rfl : k = 6 := by omega
      go_wp2
      go_ret
      exact ⟨_, rfl, hR.out, hB.out⟩
end Go.Proofs.YtdnbmobdiidfmaaGreat.Im
namespace Go.Proofs.YtdnbmobdiidfmaaGreat.Im
open Go.RowKit Go.Shelf YtdnbmobdiidfmaaGreatW.PrintWords YtdnbmobdiidfmaaGreatW.PrintLast YtdnbmobdiidfmaaGreatW.PrintMore
attribute [local go_sem] Oper.semAt_some
def upto {α : Type} (f : Nat → α) (k : Nat) : List α := (List.range k).map f
theorem upto_succ {α : Type} (f : Nat → α) (k : Nat) : upto f (k + 1) = upto f k ++ [f k] := by simp [upto, List.range_succ]
theorem upto_length {α : Type} (f : Nat → α) (k : Nat) : (upto f k).length = k := by simp [upto]
def Rng (n₁ n₂ : Nat) (W W' : World) : Prop := ∀ k, n₁ ≤ k → k < n₂ → W'.heap[k]? = W.heap[k]?
theorem Rng.refl (n₁ n₂ : Nat) (W : World) : Rng n₁ n₂ W W := fun _ _ _ => rfl
theorem Rng.trans {n₁ n₂ : Nat} {A B C : World} (h : Rng n₁ n₂ A B) (k : Rng n₁ n₂ B C) : Rng n₁ n₂ A C := fun i h1 h2 => (k i h1 h2).trans (h i h1 h2)
theorem Rng.cell {n₁ n₂ : Nat} {A B : World} (h : Rng n₁ n₂ A B) {p : Addr} (h1 : n₁ ≤ p.block) (h2 : p.block < n₂) : B.cell? p = A.cell? p := World.cell?_of_block (h p.block h1 h2)
theorem Rng.putObj {n₁ n₂ : Nat} {w : World} (hn : n₂ ≤ w.heap.size) (W : World) (l : Nat) (o o' : Obj) (hl : w.heap.size ≤ l) (h : W.heap[l]? = some o) (_ : o.isCells = false) (_ : o.isWalk = false) : Rng n₁ n₂ W (W.putObj l o') :=
  fun k _ h2 => (grownBy_putObj' W l o').block k (by have := (Array.getElem?_eq_some_iff.1 h).1; omega) (by intro e; cases e; omega)
def backAt {α : Type} (len : Nat) (e : Nat → α) (j : Nat) : Nat × α := (len - 1 - j, e (len - 1 - j))
set_option maxRecDepth 100000 in
set_option maxHeartbeats 2000000 in
theorem backward1_in {α : Type} (val : α → Int) (F : Fence) (n : Nat) (h7 : F.fn 67) (hro : F.round = none) (hn : 1 ≤ n) (l Bs n₁ n₂ g cap len : Nat) (el : Nat → α) (hreach : len * 8 ≤ 140737488351232) (hB1 : n₁ ≤ Bs) (hB2 : Bs < n₂) (hg1 : n₁ ≤ g) (hg2 : g < n₂) (J Jx : List (Nat × α) → World → Prop)
    (hY : ∀ pre x W, J pre W → pre.length < len → YieldAt F (n - 1) Tryz.prog l #[.int .i64 (x.1 : Int), .int .i64 (val x.2)] W fun e W' =>
      (e = .returned (.bool true) ∧ J (pre ++ [x]) W' ∧ Rng n₁ n₂ W W') ∨ (e = .returned (.bool false) ∧ Jx (pre ++ [x]) W'))
    (W : World) (hBs : W.cell? ⟨Bs, 0, none⟩ = some (.slice (some ⟨g, 0, none⟩) len cap)) (hc : ∀ j, j < len → W.cell? ⟨g, j, none⟩ = some (.int .i64 (val (el j)))) (h0 : J [] W) :
    CallsIn F n Tryz.prog 67 #[.func (.yield l) #[] #[], .pointer (some ⟨Bs, 0, none⟩)] W fun e W' => (∃ v, e = .returned v) ∧
      ((∃ ys, ys = upto (backAt len el) len ∧ J ys W') ∨ (∃ pre, (∃ k, k ≤ len ∧ pre = upto (backAt len el) k) ∧ Jx pre W')) := by
  refine callsIn_of_wp Tryz.func67 rfl h7 ?_ hro
  simp only [Tryz.ntmps67, List.size_toArray, List.length_cons, List.length_nil, Nat.reduceAdd, Nat.reduceSub, Array.replicate_succ, Array.replicate_zero, List.push_toArray, List.append_toArray, List.nil_append, List.cons_append]
  gi_wp2
  gi_loopw [3] (fun i wr => ∃ k : Nat, k ≤ len ∧ ((k < len ∧ i = .int .i64 ((len - 1 - k : Nat) : Int)) ∨ (k = len ∧ i = .int .i64 (-1))) ∧ J (upto (backAt len el) k) wr ∧ Aside0 (Rng n₁ n₂ W wr))
    (fun i _ => (intOf i + 1).toNat)
  case atStart =>
    refine ⟨0, Nat.zero_le _, ?_, h0, ⟨Rng.refl _ _ _⟩⟩
    rcases Nat.eq_zero_or_pos len with e0 | e0
    · right; exact ⟨e0.symm, by rw [e0]; rfl⟩
    · left; exact ⟨e0, by congr 1; omega⟩
  case round =>
    obtain ⟨k, hk, hi, hJs, hnx⟩ := hrel
    rcases hi with ⟨hlt, rfl⟩ | ⟨rfl, rfl⟩
    · obtain ⟨m, hm⟩ : ∃ m, m = len - 1 - k := ⟨_, rfl⟩
      have hml : m < len := by omega
      have hcx : wr.cell? ⟨g, m, none⟩ = some (.int .i64 (val (el m))) := (hnx.out.cell (p := ⟨g, m, none⟩) hg1 hg2).trans (hc m hml)
      have hbx : wr.cell? ⟨Bs, 0, none⟩ = some (.slice (some ⟨g, 0, none⟩) len cap) := (hnx.out.cell (p := ⟨Bs, 0, none⟩) hB1 hB2).trans hBs
      obtain ⟨y, hyy⟩ : ∃ y, el m = y := ⟨_, rfl⟩
      rw [hyy] at hcx
      obtain ⟨fn, tmps, assign, body, hy, hR⟩ := hY _ (m, y) wr hJs (by rw [upto_length]; exact hlt)
      have HE : Aside0 (backAt len el k = (m, y)) := ⟨by unfold backAt; rw [← hm, hyy]⟩
      clear hyy
      dsimp only at hy
      have HM := Lib.hid hm
      rw [← hm]
      clear hc hBs hm
      gi_wp2
      refine hR.mono ?_
      rintro e' W3 (⟨rfl, hJ3, hk3⟩ | ⟨rfl, hJx3⟩)
      · have hk3' := Aside0.mk hk3
        clear hk3
        gi_wp2
        go_roundw
        case rel =>
          refine ⟨k + 1, by omega, ?_, by rw [upto_succ, HE.out]; exact hJ3, ⟨hnx.out.trans hk3'.out⟩⟩
          have := HM.out
          rcases Nat.eq_zero_or_pos m with e0 | e0
          · right; exact ⟨by omega, by rw [e0]; rfl⟩
          · left; exact ⟨by omega, by congr 1; omega⟩
        case measure => simp [intOf] <;> omega
      · gi_wp2
        refine bodyPost_ret (results_none rfl _ _ _) rfl ?_
        exact ⟨⟨_, rfl⟩, .inr ⟨_, ⟨k + 1, by omega, by rw [upto_succ, HE.out]⟩, hJx3⟩⟩
    · gi_wp2
      go_end0
      exact ⟨⟨_, rfl⟩, .inl ⟨_, rfl, hJs⟩⟩
set_option maxRecDepth 100000 in
set_option maxHeartbeats 1000000 in
theorem backward1_nil_in {α : Type} (F : Fence) (n : Nat) (h7 : F.fn 67) (hro : F.round = none) (l Bs : Nat) (a : Option Addr) (cap : Nat) (J : List α → World → Prop) (W : World) (hBs : W.cell? ⟨Bs, 0, none⟩ = some (.slice a 0 cap)) (h0 : J [] W) :
    CallsIn F n Tryz.prog 67 #[.func (.yield l) #[] #[], .pointer (some ⟨Bs, 0, none⟩)] W fun e W' => (∃ v, e = .returned v) ∧ J [] W' := by
  refine callsIn_of_wp Tryz.func67 rfl h7 ?_ hro
  simp only [Tryz.ntmps67, List.size_toArray, List.length_cons, List.length_nil, Nat.reduceAdd, Nat.reduceSub, Array.replicate_succ, Array.replicate_zero, List.push_toArray, List.append_toArray, List.nil_append, List.cons_append]
  gi_wp2
  gi_loopw [3] (fun i wr => i = .int .i64 (-1) ∧ J [] wr) (fun _ _ => 0)
  case atStart => exact ⟨rfl, h0⟩
  case round =>
    obtain ⟨rfl, hJs⟩ := hrel
    gi_wp2
    go_end0
    exact ⟨⟨_, rfl⟩, hJs⟩
set_option maxHeartbeats 1000000 in
theorem backward_in (F : Fence) (n : Nat) (h5 : F.fn 49) (hro : F.round = none) (a : Option Addr) (len cap : Nat) (w : World) :
    CallsIn F n Tryz.prog 49 #[.slice a len cap] w fun e w' => e = .returned (.func (.func 67) #[] #[.pointer (some ⟨w.heap.size, 0, none⟩)]) ∧ w' = w.alloc (.cells #[.slice a len cap] 22) := by
  refine callsIn_of_wp Tryz.func49 rfl h5 ?_ hro
  simp only [Tryz.ntmps49, List.size_toArray, List.length_cons, List.length_nil, Nat.reduceAdd, Nat.reduceSub, Array.replicate_succ, Array.replicate_zero, List.push_toArray, List.append_toArray, List.nil_append, List.cons_append]
  gi_wp2
  go_ret
  exact ⟨rfl, rfl⟩
theorem ownsRow_ints {w : World} {base : Nat} {v : Value} {zs : List Int} (h : w.ownsRow base 2 1 v zs.length (zs.map (Value.int .i64))) :
    (v = .slice none 0 0 ∧ zs = []) ∨ ∃ g cap, v = .slice (some ⟨g, 0, none⟩) zs.length cap ∧ base ≤ g ∧ g < w.heap.size ∧ ∀ j, j < zs.length → w.cell? ⟨g, j, none⟩ = some (.int .i64 (zs[j]?.getD 0)) := by
  rcases h.2 with ⟨rfl, e⟩ | ⟨g, cap, cur, rfl, hb, hh, _⟩
  · exact .inl ⟨rfl, List.eq_nil_of_length_eq_zero e⟩
  · refine .inr ⟨g, cap, rfl, hb, (Array.getElem?_eq_some_iff.1 hh).1, fun j hj => ?_⟩
    have hcx := h.cells (g := g) rfl j (.int .i64 (zs[j]?.getD 0)) (by simp [List.getElem?_eq_getElem hj])
    have ha : (⟨g, 0, none⟩ : Addr).add j = ⟨g, j, none⟩ := by unfold Addr.add; split <;> simp_all
    rwa [ha] at hcx
theorem backward_stops {α : Type} (val : α → Int) (F : Fence) (n : Nat) (h7 : F.fn 67) (hro : F.round = none) (hn : 1 ≤ n) (Bs n₁ n₂ len : Nat) (sv : Value) (e : Nat → α) (zs : List Int) (hz : zs.length = len) (hez : ∀ j, j < len → val (e j) = zs[j]?.getD 0) (hreach : len * 8 ≤ 140737488351232) (w : World) (hB1 : n₁ ≤ Bs) (hB2 : Bs < n₂) (hn2 : n₂ = w.heap.size)
    (hc : w.cell? ⟨Bs, 0, none⟩ = some sv) (hI : w.ownsRow n₁ 2 1 sv zs.length (zs.map (Value.int .i64))) :
    SeqStopsK F n Tryz.prog 67 #[.pointer (some ⟨Bs, 0, none⟩)] (fun x : Nat × α => #[Value.int .i64 (x.1 : Int), Value.int .i64 (val x.2)]) (Rng n₁ n₂) (fun ys => ys = upto (backAt len e) len)
      (fun pre => ∃ k, k ≤ len ∧ pre = upto (backAt len e) k) len w := fun l J Jx W hW _ _ hY h0 => by
  have hc' := (hW.cell (p := ⟨Bs, 0, none⟩) (by show Bs < _; omega)).trans hc
  subst hz
  rcases ownsRow_ints hI with ⟨rfl, rfl⟩ | ⟨g, cap, rfl, hg, hgs, hcs⟩
  · exact (backward1_nil_in F n h7 hro l Bs none 0 J W hc' h0).mono fun e W' ⟨he, hj⟩ => ⟨he, .inl ⟨_, rfl, hj⟩⟩
  · exact backward1_in val F n h7 hro hn l Bs n₁ n₂ g cap zs.length e hreach hB1 hB2 hg (by omega) J Jx hY W hc' (fun j hj => (hW.cell (p := ⟨g, j, none⟩) hgs).trans ((hcs j hj).trans (by rw [hez j hj]))) h0
abbrev V6 := { v : Int // 0 ≤ v ∧ v ≤ 5 }
def delV (f : Int) (v : Int) : Int := Go.bits .andNot .i64 f (2 ^ v.toNat)
def bordersOf (f : Int) (ys : List (Nat × V6)) : List Int := (ys.map fun y => delV f y.2.1).filter fun r => r != 0
theorem bordersOf_yes {f : Int} (pre : List (Nat × V6)) {x : Nat × V6} (h : (delV f x.2.1 != 0) = true) : bordersOf f (pre ++ [x]) = bordersOf f pre ++ [delV f x.2.1] := by
  simp [bordersOf, bne_iff_ne.1 h]
theorem bordersOf_no {f : Int} (pre : List (Nat × V6)) {x : Nat × V6} (h : (delV f x.2.1 != 0) = false) : bordersOf f (pre ++ [x]) = bordersOf f pre := by
  simp [bordersOf, bne_eq_false_iff_eq.1 h]
theorem bordersOf_len (f : Int) (pre : List (Nat × V6)) : (bordersOf f pre).length ≤ pre.length := by
  unfold bordersOf
  exact Nat.le_trans (List.length_filter_le _ _) (by simp)
theorem verts_mem {f v : Int} (h : v ∈ verts f) : 0 ≤ v ∧ v ≤ 5 := by
  unfold verts vertsUpto at h
  simp only [List.mem_map, List.mem_filter, List.mem_range] at h
  obtain ⟨a, ⟨ha, _⟩, rfl⟩ := h
  omega
def vertAt (f : Int) (j : Nat) : V6 := ⟨(verts f)[j]?.getD 0, by
  rcases h : (verts f)[j]? with _ | v
  · simp
  · exact verts_mem (f := f) (List.mem_of_getElem? h)⟩
def bordersL (f : Int) : List Int := bordersOf f (upto (backAt (verts f).length (vertAt f)) (verts f).length)
theorem verts_len (f : Int) : (verts f).length ≤ 6 := vertsUpto_len f 6
theorem RO.row {w : World} {base : Nat} {v : Value} {xs : List Int} (h : RO w base v xs) : w.ownsRow base 2 1 v xs.length (xs.map (Value.int .i64)) := by
  obtain ⟨_, inner, ho, hr⟩ := h
  have : inner = xs.map (Value.int .i64) := by
    apply List.ext_getElem
    · have := hr.1; simpa [Kd.int, Kd.scalar] using this
    · intro i h1 h2
      have h3 := hr.2 i (xs[i]'(by simpa using h2)) (List.getElem?_eq_getElem _)
      have h4 : (inner.drop (i * 1)).take 1 = [Value.int .i64 (xs[i]'(by simpa using h2))] := h3
      rw [Nat.mul_one, List.drop_eq_getElem_cons h1, List.take_succ_cons, List.take_zero] at h4
      rw [(List.cons.inj h4).1, List.getElem_map]
  rw [this] at ho
  exact ho
theorem RO.of_row {w : World} {base : Nat} {v : Value} {xs : List Int} (h : w.ownsRow base 2 1 v xs.length (xs.map (Value.int .i64))) : RO w base v xs := by
  refine ⟨fun _ _ => trivial, xs.map (Value.int .i64), h, ⟨by simp [Kd.int, Kd.scalar], fun j p hp => ?_⟩⟩
  obtain ⟨hj, rfl⟩ := List.getElem?_eq_some_iff.1 hp
  show ((xs.map (Value.int .i64)).drop (j * 1)).take 1 = [Value.int .i64 xs[j]]
  rw [Nat.mul_one, List.drop_eq_getElem_cons (by simpa using hj)]
  simp
theorem round_app {Wd w1 : World} {B n₀ n₁ n₂ t e k : Nat} {v v' : Value} {xs ys : List Value} {m : Nat} {tmp : Obj} (hv : Boxed Wd B t v) (hrow : Wd.ownsRow n₂ e 1 v k xs) (hg : (Wd.alloc tmp).grownBy w1 v.ownBlock) (ho : w1.ownsRow n₂ e 1 v' m ys)
    (hB : B < n₁) (hn : n₀ ≤ B) (hs : n₂ ≤ Wd.heap.size) (hte : t ≠ e := by decide) (hn12 : n₁ ≤ n₂ := by omega) :
    Boxed (w1.setCell ⟨B, 0, none⟩ v') B t v' ∧ (w1.setCell ⟨B, 0, none⟩ v').ownsRow n₂ e 1 v' m ys ∧ Rng n₁ n₂ Wd (w1.setCell ⟨B, 0, none⟩ v') ∧ KeepsOthers Wd (w1.setCell ⟨B, 0, none⟩ v') ∧
      (∀ b, b < n₂ → b ≠ B → b < Wd.heap.size → ∀ o, (w1.setCell ⟨B, 0, none⟩ v').cell? ⟨b, o, none⟩ = Wd.cell? ⟨b, o, none⟩) ∧ Below n₀ Wd (w1.setCell ⟨B, 0, none⟩ v') := by
  have hr2 := own_weaken hrow (show n₀ ≤ n₂ by omega)
  have ho2 := own_weaken ho (show n₀ ≤ n₂ by omega)
  obtain ⟨h1, h2, h3, h4, h5⟩ := hv.appended hte hr2 (by omega) hn ho2 hg
  have hb : ∀ b, b < n₂ → b ≠ B → b < Wd.heap.size → (w1.setCell ⟨B, 0, none⟩ v').heap[b]? = Wd.heap[b]? := by
    intro b hb1 hb2 hb3
    rw [Below.heap_setCell _ _ _ _ hb2, hg.block b (by simp; omega) (fun e => by have := own_base hrow b e.symm; omega)]
    exact Below.heap_alloc _ _ _ hb3
  refine ⟨h2, ?_, fun b hb1 hb2 => hb b hb2 (by omega) (by omega), h4, fun b hb1 hb2 hb3 o => World.cell?_of_block (hb b hb1 hb2 hb3), h5⟩
  exact ho.kept (grownBy_setCell' w1 B v') (.inr ((h1.not_row hte ho).symm))
def BI (f : Int) (w wv : World) (pre : List (Nat × V6)) (W : World) : Prop :=
  ((∃ v, Boxed W (w.heap.size + 1) 22 v ∧ W.ownsRow (wv.heap.size + 1) 2 1 v (bordersOf f pre).length ((bordersOf f pre).map (Value.int .i64)) ∧ True) ∧ W.cell? ⟨w.heap.size, 0, none⟩ = some (.int .i64 f) ∧ wv.heap.size + 1 ≤ W.heap.size) ∧ Below w.heap.size w W
theorem body_yes {f : Int} {w wv W Wd w1 : World} {pre : List (Nat × V6)} {x : Nat × V6} {v v' : Value} {tmp : Obj} {B : Nat} (U1 : Boxed Wd (w.heap.size + 1) 22 v) (U2 : Wd.ownsRow (wv.heap.size + 1) 2 1 v (bordersOf f pre).length ((bordersOf f pre).map (Value.int .i64)))
    (X2 : (Wd.alloc tmp).grownBy w1 v.ownBlock) (X1 : w1.ownsRow (wv.heap.size + 1) 2 1 v' ((bordersOf f pre).length + 1) ((bordersOf f pre).map (Value.int .i64) ++ [.int .i64 (delV f x.2.1)])) (U3 : Below w.heap.size w Wd) (U4 : KeepsOthers W Wd)
    (U5 : Rng (w.heap.size + 2) (wv.heap.size + 1) W Wd) (U6 : Wd.cell? ⟨w.heap.size, 0, none⟩ = some (.int .i64 f)) (U8 : wv.heap.size + 1 ≤ Wd.heap.size) (hwv : w.heap.size + 2 ≤ wv.heap.size) (hx : (delV f x.2.1 != 0) = true) :
    KeepsFrom B W (w1.setCell ⟨w.heap.size + 1, 0, none⟩ v') ∧ Rng (w.heap.size + 2) (wv.heap.size + 1) W (w1.setCell ⟨w.heap.size + 1, 0, none⟩ v') ∧ BI f w wv (pre ++ [x]) (w1.setCell ⟨w.heap.size + 1, 0, none⟩ v') := by
  obtain ⟨G1, G2, G3, G4, G5, G6⟩ := round_app (n₀ := w.heap.size) (n₁ := w.heap.size + 2) U1 U2 X2 X1 (by omega) (by omega) U8
  refine ⟨(U4.trans G4).from _, U5.trans G3, ⟨⟨_, G1, ?_, trivial⟩, (G5 w.heap.size (by omega) (by omega) (by omega) 0).trans U6, Nat.le_trans U8 G4.size⟩, U3.trans G6⟩
  rw [bordersOf_yes pre hx]
  simpa using G2
theorem body_no {f : Int} {w wv W Wd : World} {pre : List (Nat × V6)} {x : Nat × V6} {v : Value} {B : Nat} (U1 : Boxed Wd (w.heap.size + 1) 22 v) (U2 : Wd.ownsRow (wv.heap.size + 1) 2 1 v (bordersOf f pre).length ((bordersOf f pre).map (Value.int .i64)))
    (U3 : Below w.heap.size w Wd) (U4 : KeepsOthers W Wd) (U5 : Rng (w.heap.size + 2) (wv.heap.size + 1) W Wd) (U6 : Wd.cell? ⟨w.heap.size, 0, none⟩ = some (.int .i64 f)) (U8 : wv.heap.size + 1 ≤ Wd.heap.size) (hx : (delV f x.2.1 != 0) = false) :
    KeepsFrom B W Wd ∧ Rng (w.heap.size + 2) (wv.heap.size + 1) W Wd ∧ BI f w wv (pre ++ [x]) Wd :=
  ⟨U4.from _, U5, ⟨⟨_, U1, by rw [bordersOf_no pre hx]; exact U2, trivial⟩, U6, U8⟩, U3⟩
set_option maxRecDepth 100000 in
set_option maxHeartbeats 2000000 in
theorem borders_c (f : Int) (w : World) : Calls Tryz.prog 27 #[.int .i64 f] w fun e w' => ∃ v, e = .returned v ∧ RO w' w.heap.size v (bordersL f) ∧ Below w.heap.size w w' := by
  have h1 : 1 ≤ 5 := by omega
  have f1 : Fence.wide.fn 50 := trivial
  have f2 : Fence.wide.fn 49 := trivial
  obtain ⟨i0, hi, hz0, hz1, hz2⟩ := info_parts info64
  refine (callsIn_wide (n := 5)).1 ?_
  refine callsIn_of_wp_marks Tryz.func27 rfl trivial ?_ rfl
  simp only [Tryz.ntmps27, List.size_toArray, List.length_cons, List.length_nil, Nat.reduceAdd, Nat.reduceSub, Array.replicate_succ, Array.replicate_zero, List.push_toArray, List.append_toArray, List.nil_append, List.cons_append]
  have B0 := Boxed.new w 2 (.int .i64 f)
  have B1 := Boxed.new (w.alloc (.cells #[.int .i64 f] 2)) 22 (.slice none 0 0)
  rw [World.size_alloc] at B1
  have hBw : Below w.heap.size w ((w.alloc (.cells #[.int .i64 f] 2)).alloc (.cells #[.slice none 0 0] 22)) := ((Below.refl _ w).alloc (Nat.le_refl _) _).alloc (by simp) _
  have BB0 := Aside0.mk (B0.alloc (.cells #[.slice none 0 0] 22))
  have BB1 := Aside0.mk B1
  have HBw := Aside0.mk hBw
  clear B0 B1 hBw
  gi_wp2_with (first
    | (gi_at_call 50; refine (callsIn_wide.2 (vertices_c _ _)).mono ?_; rintro e wv ⟨v, rfl, hR, hB⟩; have HR := Aside0.mk hR; have HB := Aside0.mk hB; clear hR hB; obtain ⟨Av, cv, rfl⟩ := Kd.R_slice HR.out)
    | (gi_at_call 49; refine (backward_in _ _ trivial rfl _ _ _ _).mono ?_; rintro e w' ⟨rfl, rfl⟩))
  have hsz : w.heap.size + 2 ≤ wv.heap.size := by have := HB.out.size; simpa using this
  have hb2 : ((w.alloc (.cells #[.int .i64 f] 2)).alloc (.cells #[.slice none 0 0] 22)).heap.size = w.heap.size + 2 := by simp
  have BB0v : Boxed (wv.alloc (.cells #[.slice Av (verts f).length cv] 22)) w.heap.size 2 (.int .i64 f) := Boxed.alloc ((HB.out.block w.heap.size (by rw [hb2]; omega)).trans BB0.out) _
  have BB1v : Boxed (wv.alloc (.cells #[.slice Av (verts f).length cv] 22)) (w.heap.size + 1) 22 (.slice none 0 0) := Boxed.alloc ((HB.out.block (w.heap.size + 1) (by rw [hb2]; omega)).trans BB1.out) _
  have bN := Boxed.new wv 22 (.slice Av (verts f).length cv)
  have hB0 : Below w.heap.size w (wv.alloc (.cells #[.slice Av (verts f).length cv] 22)) := (HBw.out.trans (HB.out.mono (by rw [hb2]; omega))).alloc (by omega) _
  have hrow : (wv.alloc (.cells #[.slice Av (verts f).length cv] 22)).ownsRow (w.heap.size + 2) 2 1 (.slice Av (verts f).length cv) (verts f).length ((verts f).map (Value.int .i64)) := by
    have := HR.out.row
    rw [hb2] at this
    exact this.alloc _
  refine wpIn_rangeFunc_ownG rfl h1 (gf := 67) (lb := #[.pointer (some ⟨wv.heap.size, 0, none⟩)]) rfl trivial (enters_of Tryz.func67 (by kernel_rfl) rfl)
    (backward_stops (fun x : V6 => x.1) Fence.wide (5 - 1) trivial rfl (by omega) wv.heap.size (w.heap.size + 2) (wv.heap.size + 1) (verts f).length _ (vertAt f) (verts f) rfl (fun _ _ => rfl) (by have := verts_len f; omega) _ (by omega) (by omega) (by simp) bN.cell hrow)
    (fun h k => h.trans k) (Rng.putObj (by simp)) (Below.refl _ _) (fun _ => rfl)
    (BI f w wv)
    (fun _ _ _ => False)
    (OwnFrom.and (OwnFrom.and (Own.from (holdsRow_own (wv.heap.size + 1) (w.heap.size + 1) 22 2 1 (fun pre => (bordersOf f pre).length) (fun pre => (bordersOf f pre).map (Value.int .i64)) (fun _ _ => True)) _) (Own.from (fun s A B row hs hg hr => ⟨cell_kept hs.1 hg hr, Nat.le_trans hs.2 hg.size⟩) _)) (ownFrom_below (Nat.le_refl _) (by simp; omega)))
    (fun _ _ _ _ _ hs _ _ => hs)
    ⟨⟨⟨_, BB1v, World.ownsRow_nil _ _ _ _, trivial⟩, BB0v.cell, by simp⟩, hB0⟩
    (fun x => { tmps := #[.int .i64 f, .pointer (some ⟨w.heap.size, 0, none⟩), .slice none 0 0, .pointer (some ⟨w.heap.size + 1, 0, none⟩), undef, .int .i64 x.2.1, undef, .int .i64 f, .slice Av (verts f).length cv, .func (.func 67) #[] #[.pointer (some ⟨wv.heap.size, 0, none⟩)], .int .i64 (x.1 : Int), .int .i64 x.2.1, undef, undef, undef, undef, undef, undef, undef, undef, undef, undef, undef], defers := [] }) ?assign ?body ?done ?stop
  case assign =>
    intro l x W K hK
    gi_wp2
    exact hK
  case body =>
    rintro l pre x W ⟨⟨⟨v, hv, hrow, _⟩, hcf, hsW⟩, hB⟩ hlt
    obtain ⟨xi, xv, hx0, hx5⟩ := x
    obtain ⟨m, rfl⟩ := Int.eq_ofNat_of_zero_le hx0
    have hm5 : m ≤ 5 := by omega
    have hshl : (IntKind.i64.wrap (2 ^ m)) = ((2 ^ m : Nat) : Int) := by
      obtain rfl | rfl | rfl | rfl | rfl | rfl : m = 0 ∨ m = 1 ∨ m = 2 ∨ m = 3 ∨ m = 4 ∨ m = 5 := by omega
      all_goals rfl
    have V1 : Boxed W.drew (w.heap.size + 1) 22 v := hv
    have V2 : W.drew.ownsRow (wv.heap.size + 1) 2 1 v (bordersOf f pre).length ((bordersOf f pre).map (Value.int .i64)) := hrow
    have V3 : Below w.heap.size w W.drew := hB.drew
    have V4 : KeepsOthers W W.drew := KeepsOthers.drew W
    have V5 : Rng (w.heap.size + 2) (wv.heap.size + 1) W W.drew := fun _ _ _ => rfl
    have V8 : wv.heap.size + 1 ≤ W.drew.heap.size := hsW
    have V6 : W.drew.cell? ⟨w.heap.size, 0, none⟩ = some (.int .i64 f) := hcf
    have V7 : W.drew.cell? ⟨w.heap.size + 1, 0, none⟩ = some v := hv.cell
    have hwv : w.heap.size + 2 ≤ wv.heap.size := hsz
    have hpl : (bordersOf f pre).length ≤ 5 := by have := bordersOf_len f pre; have := verts_len f; omega
    have hmx : Tryz.prog.follows .mixedOrders = true := by kernel_rfl
    have hcf' := hcf
    gi_wp2
    gi_region_o
    all_goals
      generalize W.drew = Wd at V1 V2 V3 V4 V5 V6 V7 V8 ⊢
      have U1 := Aside0.mk V1; have U2 := Aside0.mk V2; have U3 := Aside0.mk V3; have U4 := Aside0.mk V4; have U5 := Aside0.mk V5; have U6 := Aside0.mk V6; have U8 := Aside0.mk V8; 
      clear V1 V2 V3 V4 V5 V6 V8 hv hrow hB hcf hcf' hsW
      gi_wp2_with (gi_at_builtin; refine wpListIn_append_own _ rfl (.tmp 18) (.tmp 20) 22 rfl (wv.heap.size + 1) 2 i0 (.int .i64 0) 1 8 Tryz.underlying22 hi hz0 hz1 hz2 rfl (by decide) v _ _ rfl (U2.out.alloc _) ⟨Wd.heap.size, 0, none⟩ 1 1 [.int .i64 (delV f (m : Int))] rfl rfl (cell_one_new _ _ _) (by simp [Value.oneCell']) (by simp only [maxLen]; omega) (by omega) ?hsz ?_; (case hsz => have := U8.out; simp; omega); intro v' w1 hown' hgrow hnn; clear hnn; obtain ⟨g', cap', rfl⟩ := ownsRow_succ hown'; have hv1 : Boxed w1 (w.heap.size + 1) 22 v := (U1.out.alloc _).kept hgrow (U1.out.not_row (by decide) U2.out); have hc1 := hv1.cell; have hf1 := hv1.frozen; have X1 := Aside0.mk hown'; have X2 := Aside0.mk hgrow; have X3 := Aside0.mk hv1; clear hown' hgrow hv1 V7)
      · have hx : (delV f (m : Int) != 0) = true := by unfold delV; assumption
        exact body_yes (x := ⟨xi, m, hx0, hx5⟩) U1.out U2.out X2.out X1.out U3.out U4.out U5.out U6.out U8.out hwv hx
      · have hx : (delV f (m : Int) != 0) = false := by unfold delV; assumption
        exact body_no (x := ⟨xi, m, hx0, hx5⟩) U1.out U2.out U3.out U4.out U5.out U6.out U8.out hx
  case done =>
    rintro D ys W hD rfl ⟨⟨⟨v, hv, hrow, _⟩, hcf, hsW⟩, hB⟩ hK
    have hc := hv.cell
    gi_wp2
    refine ⟨by simp, .inl ⟨_, _, rfl, run_takeDeferred hK, ?_⟩⟩
    have hD' : wv.heap.size + 1 ≤ D := by simpa using hD
    exact ⟨_, results_tmp rfl _ _ _, v, rfl, RO.of_row (own_weaken (ownsRow_putObj hrow _ hK rfl) (by omega)), hB.trans (belowK_b (w := w) (Nat.le_refl _) W D _ _ (by omega) hK rfl rfl)⟩
  case stop =>
    rintro D c pre W _ _ h _
    exact h.elim
end Go.Proofs.YtdnbmobdiidfmaaGreat.Im
namespace Go.Proofs.YtdnbmobdiidfmaaGreat.Im
open Go.RowKit Go.Shelf YtdnbmobdiidfmaaGreatW.PrintWords YtdnbmobdiidfmaaGreatW.PrintLast YtdnbmobdiidfmaaGreatW.PrintMore
def firstI (p : Int → Bool) (xs : List Int) : Int := if xs.any p then (xs.findIdx p : Int) else -1
theorem firstI_hit {p : Int → Bool} {xs : List Int} {k : Nat} {y : Int} (hk : k < xs.length) (hy : xs[k]?.getD 0 = y) (hp : p y = true) (hb : ∀ j, j < k → p (xs[j]?.getD 0) = false) : firstI p xs = (k : Int) := by
  have hxk : xs[k] = y := by rw [List.getElem?_eq_getElem hk] at hy; simpa using hy
  have ha : xs.any p = true := List.any_eq_true.2 ⟨xs[k], List.getElem_mem hk, by rw [hxk]; exact hp⟩
  have hf : xs.findIdx p = k := by
    rw [List.findIdx_eq hk]
    refine ⟨by rw [hxk]; exact hp, fun j hj => ?_⟩
    have := hb j hj
    rw [List.getElem?_eq_getElem (show j < xs.length by omega)] at this
    simpa using this
  rw [firstI, if_pos ha, hf]
theorem firstI_miss {p : Int → Bool} {xs : List Int} (hb : ∀ j, j < xs.length → p (xs[j]?.getD 0) = false) : firstI p xs = -1 := by
  have ha : ¬ xs.any p = true := by
    intro h
    obtain ⟨x, hx, hp⟩ := List.any_eq_true.1 h
    obtain ⟨j, hj, rfl⟩ := List.mem_iff_getElem.1 hx
    have := hb j hj
    rw [List.getElem?_eq_getElem hj] at this
    simp at this
    rw [this] at hp; cases hp
  rw [firstI, if_neg ha]
theorem firstI_nonneg (p : Int → Bool) (xs : List Int) : decide (0 ≤ firstI p xs) = xs.any p := by
  unfold firstI
  split
  · rename_i h; rw [h]; simp
  · rename_i h; rw [Bool.eq_false_iff.2 h]; rfl
theorem RC.at_ {w W : World} {A : Option Addr} {n : Nat} {xs : List Int} (h : RC w A n xs) (hb : Below w.heap.size w W) {k : Nat} (hk : k < n) : ∃ ad, A = some ad ∧ W.cell? (ad.add k) = some (.int .i64 (xs[k]?.getD 0)) := by
  obtain ⟨ad, e, hc⟩ := Kd.at_int (Kd.C_below h hb) k (by omega) (by omega)
  exact ⟨ad, e, by simpa [rd] using hc⟩
theorem RC.len {w : World} {A : Option Addr} {n : Nat} {xs : List Int} (h : RC w A n xs) : xs.length = n ∧ n ≤ 9223372036854775807 := ⟨h.1, h.2.1⟩
set_option maxRecDepth 100000 in
set_option maxHeartbeats 1000000 in
theorem indexFunc_c (A : Option Addr) (n c : Nat) (xs : List Int) (fv : Value) (dom : Int → Prop) (p : Int → Bool) (w : World) (hr : RC w A n xs) (hf : FnB Tryz.prog fv dom p w) (hd : ∀ x ∈ xs, dom x) :
    Calls Tryz.prog 26 #[.slice A n c, fv] w fun e w' => e = .returned (.int .i64 (firstI p xs)) ∧ Below w.heap.size w w' := by
  obtain ⟨g, fs, lb, rfl, eg, hcall⟩ := hf
  have hl := hr.len
  have hbig := hl.2
  have HR := Aside0.mk hr
  have HC := Aside0.mk hcall
  have HL := Aside0.mk hl.1
  have HD := Aside0.mk hd
  clear hr hcall hl hd
  go_enter Tryz.func26, Tryz.ntmps26
  go_wp2
  go_loopw [5, 8] (fun _ i wr => ∃ k : Nat, k ≤ n ∧ i = .int .i64 k ∧ Aside0 (Below w.heap.size w wr) ∧ Aside0 (∀ j, j < k → p (xs[j]?.getD 0) = false)) (fun _ i _ => n - (intOf i).toNat)
  case atStart => exact ⟨0, by omega, rfl, ⟨Below.refl _ _⟩, ⟨fun j hj => absurd hj (Nat.not_lt_zero _)⟩⟩
  case round =>
    obtain ⟨k, hk, rfl, hB, hA⟩ := hrel
    by_cases hlt : k < n
    · have hltz : (k : Int) < (n : Int) := by omega
      obtain ⟨ad, rfl, hcell⟩ := HR.out.at_ hB.out hlt
      obtain ⟨y, hy⟩ : ∃ y, xs[k]?.getD 0 = y := ⟨_, rfl⟩
      rw [hy] at hcell
      have HY := Aside0.mk hy
      have hdy : dom y := by
        have hkl : k < xs.length := by rw [HL.out]; exact hlt
        rw [List.getElem?_eq_getElem hkl] at hy
        rw [← hy]
        exact HD.out _ (List.getElem_mem hkl)
      have hcy := HC.out wr y hB.out hdy
      clear hy hdy
      have HCY := Aside0.mk hcy
      clear hcy
      cases hq : p y with
      | true =>
        rw [hq] at HCY
        have HQ := Aside0.mk hq
        clear hq
        go_wp2_with (go_at_fn g; refine HCY.out.mono ?_; rintro e w' ⟨rfl, hb⟩; have HB2 := Aside0.mk hb; clear hb)
        go_ret
        refine ⟨?_, below_in hB.out HB2.out⟩
        rw [firstI_hit (by rw [HL.out]; exact hlt) HY.out HQ.out hA.out]; rfl
      | false =>
        rw [hq] at HCY
        have HQ := Aside0.mk hq
        clear hq
        go_wp2_with (go_at_fn g; refine HCY.out.mono ?_; rintro e w' ⟨rfl, hb⟩; have HB2 := Aside0.mk hb; clear hb)
        go_roundw
        case measure => simp [intOf]; omega
        case rel =>
          refine ⟨k + 1, by omega, by go_num, ⟨below_in hB.out HB2.out⟩, ⟨fun j hj => ?_⟩⟩
          rcases Nat.lt_or_ge j k with h | h
          · exact hA.out j h
          · obtain rfl : j = k := by omega
            rw [HY.out]; exact HQ.out
    · obtain rfl : k = n := by omega
      have hltz : ¬ (k : Int) < (k : Int) := by omega
      go_wp2
      go_ret
      refine ⟨?_, hB.out⟩
      rw [firstI_miss (fun j hj => hA.out j (by rw [HL.out] at hj; exact hj))]; rfl
set_option maxRecDepth 100000 in
theorem containsFunc_c (A : Option Addr) (n c : Nat) (xs : List Int) (fv : Value) (dom : Int → Prop) (p : Int → Bool) (w : World) (hr : RC w A n xs) (hf : FnB Tryz.prog fv dom p w) (hd : ∀ x ∈ xs, dom x) :
    Calls Tryz.prog 109 #[.slice A n c, fv] w fun e w' => e = .returned (.bool (xs.any p)) ∧ Below w.heap.size w w' := by
  rw [← firstI_nonneg]
  have hc := indexFunc_c A n c xs fv dom p w hr hf hd
  have HC := Aside0.mk hc
  clear hc hr hf hd
  generalize firstI p xs = r at HC ⊢
  go_enter Tryz.func109, Tryz.ntmps109
  go_wp2_with (go_at_call 26; refine HC.out.mono ?_; rintro e w' ⟨rfl, hb⟩)
  go_ret
  exact ⟨rfl, hb⟩
end Go.Proofs.YtdnbmobdiidfmaaGreat.Im
namespace Go.Proofs.YtdnbmobdiidfmaaGreat.Rw
open Go.ChangeShapes Go.WideShapes Go.ChangeAt Go.RowKit Go.Joins YtdnbmobdiidfmaaGreatW.PrintWords
section
variable {H : Type} {enc : TypeId × Value → H} {w : World}
set_option maxRecDepth 100000 in
theorem read_ints {fuel : Nat} {v : Value} {x : DataW H × List MemPlace} (h : DataW.trod enc Tryz.prog w 0 (fun _ => true) true fuel 22 [v] = some x) :
    ∃ (A : Option Addr) (cap : Nat) (l : List Int), v = .slice A l.length cap ∧ l.length ≤ cap ∧ l.length ≤ maxLen ∧ Kd.C (Kd.int .i64) w A l.length l ∧ ∀ n ∈ l, (Lit.int .i64 n).wf = true := by
  rcases open_ints Tryz.underlying22 Tryz.underlying2 (by kernel_rfl) h with ⟨hcs, _⟩ | ⟨a, len, cap, zs, hcs, _, hl, hm, hz, _, hcell, hwz⟩
  · simp at hcs
    subst hcs
    exact ⟨none, 0, [], rfl, Nat.le_refl _, Nat.zero_le _, Kd.C_nil _ _, fun n hn => by simp at hn⟩
  · simp at hcs
    subst hcs
    have hlen : (zs.take len).length = len := by simp at hz; simp; omega
    refine ⟨some a, cap, zs.take len, by rw [hlen], by omega, by omega, ?_, fun n hn => hwz n (List.mem_of_mem_take hn)⟩
    refine Kd.C_of_reads (d := (0 : Int)) (h1 := fun _ => rfl) ?_
    refine ⟨rfl, by rw [hlen]; simp only [maxLen] at hm; omega, fun _ => ⟨a, rfl, fun j hj => ?_⟩⟩
    rw [hlen] at hj
    simp at hz
    rw [hcell j (by omega)]
    simp [List.getD_eq_getElem?_getD, List.getElem?_take, hj]
set_option maxRecDepth 100000 in
theorem read_cx {b0 : Nat} {v : Value} {d : DataW H} {p : List MemPlace} (hv : Value.okWide Tryz.prog w .any b0 24 v) (h : DataW.Trod enc Tryz.prog w 0 (fun _ => true) true 24 v d p) :
    ∃ (a : Int) (A : Option Addr) (cap : Nat) (l : List Int), v = .agg #[.int .i64 a, .slice A l.length cap] ∧ (Lit.int .i64 a).wf = true ∧ l.length ≤ cap ∧ l.length ≤ maxLen ∧ Kd.C (Kd.int .i64) w A l.length l ∧ ∀ n ∈ l, (Lit.int .i64 n).wf = true := by
  obtain ⟨c0, c1, y0, y1, n, rfl, _, _, h0, h1⟩ := open_agg2 Tryz.underlying24 (by kernel_rfl) (by kernel_rfl) hv h
  obtain ⟨a, e0, _, wa⟩ := DataW.trod_int Tryz.underlying2 h0
  obtain ⟨A, cap, l, rfl, h2, h3, h4, h5⟩ := read_ints h1
  simp at e0
  subst e0
  exact ⟨a, A, cap, l, rfl, wa, h2, h3, h4, h5⟩
end
end Go.Proofs.YtdnbmobdiidfmaaGreat.Rw
namespace Go.Proofs.YtdnbmobdiidfmaaGreat.Kp
open Go.RowKit YtdnbmobdiidfmaaGreatW.PrintWords YtdnbmobdiidfmaaGreatW.PrintLast YtdnbmobdiidfmaaGreatW.PrintMore
structure S45 where
  f0 : Int
  f1 : Int
def z45 : S45 := ⟨(0 : Int), (0 : Int)⟩
def k45 : Kd S45 := Kd.iso (Kd.pair (Kd.int .i64) (Kd.int .i64)) (fun x : S45 => (x.f0, x.f1))
theorem k45_heap : Kd.Heap k45 := Kd.heap_iso _ (Kd.heap_pair (Kd.heap_int .i64) (Kd.heap_int .i64))
theorem k45_open {w : World} {x : S45} {cs : List Value} (h : k45.K w x cs) : cs = [.int .i64 x.f0, .int .i64 x.f1] := by
  obtain ⟨_, _, rfl, rfl, rfl⟩ := h
  exact rfl
theorem k45_openM {w : World} {base : Nat} {ok : Nat → Prop} {x : S45} {cs : List Value} (h : k45.M w base ok x cs) : cs = [.int .i64 x.f0, .int .i64 x.f1] := by
  obtain ⟨_, _, rfl, rfl, rfl⟩ := h
  exact rfl
theorem k45_mk (w : World) (x : S45)  : k45.K w x [.int .i64 x.f0, .int .i64 x.f1] := ⟨[.int .i64 x.f0], [.int .i64 x.f1], rfl, rfl, rfl⟩
theorem k45_mkM (w : World) (base : Nat) (ok : Nat → Prop) (x : S45)  : k45.M w base ok x [.int .i64 x.f0, .int .i64 x.f1] := ⟨[.int .i64 x.f0], [.int .i64 x.f1], rfl, rfl, rfl⟩
def rd_T45 (xs : List S45) (i : Int) : S45 := xs.getD i.toNat z45
theorem at_T45 {w : World} {A : Option Addr} {n : Nat} {xs : List S45} (h : Kd.C k45 w A n xs) (i : Int) (h0 : 0 ≤ i) (h1 : i < n) : ∃ ad , A = some ad ∧ w.cell? (ad.add (i.toNat * 2)) = some (.int .i64 (rd_T45 xs i).f0) ∧ w.cell? ⟨(ad.add (i.toNat * 2)).block, (ad.add (i.toNat * 2)).off + 1, none⟩ = some (.int .i64 (rd_T45 xs i).f1) := by
  obtain ⟨ad, c, e, _, hK, hc0⟩ := Kd.C_get h z45 i h0 h1
  have hc : ∀ j u, c[j]? = some u → w.cell? (ad.add (i.toNat * 2 + j)) = some u := hc0
  obtain rfl := k45_open hK
  exact ⟨ad, e, hc 0 _ rfl, by rw [← add_field _ _ 1 (by omega)]; exact hc 1 _ rfl⟩
abbrev Pr := S45
structure S44 where
  f0 : Int
  f1 : Int
def z44 : S44 := ⟨(0 : Int), (0 : Int)⟩
def k44 : Kd S44 := Kd.iso (Kd.pair (Kd.int .i64) (Kd.int .i64)) (fun x : S44 => (x.f0, x.f1))
theorem k44_open {w : World} {x : S44} {cs : List Value} (h : k44.K w x cs) : cs = [.int .i64 x.f0, .int .i64 x.f1] := by
  obtain ⟨_, _, rfl, rfl, rfl⟩ := h
  exact rfl
theorem k44_mk (w : World) (x : S44)  : k44.K w x [.int .i64 x.f0, .int .i64 x.f1] := ⟨[.int .i64 x.f0], [.int .i64 x.f1], rfl, rfl, rfl⟩
def rd_T44 (xs : List S44) (i : Int) : S44 := xs.getD i.toNat z44
theorem at_T44 {w : World} {A : Option Addr} {n : Nat} {xs : List S44} (h : Kd.C k44 w A n xs) (i : Int) (h0 : 0 ≤ i) (h1 : i < n) : ∃ ad , A = some ad ∧ w.cell? (ad.add (i.toNat * 2)) = some (.int .i64 (rd_T44 xs i).f0) ∧ w.cell? ⟨(ad.add (i.toNat * 2)).block, (ad.add (i.toNat * 2)).off + 1, none⟩ = some (.int .i64 (rd_T44 xs i).f1) := by
  obtain ⟨ad, c, e, _, hK, hc0⟩ := Kd.C_get h z44 i h0 h1
  have hc : ∀ j u, c[j]? = some u → w.cell? (ad.add (i.toNat * 2 + j)) = some u := hc0
  obtain rfl := k44_open hK
  exact ⟨ad, e, hc 0 _ rfl, by rw [← add_field _ _ 1 (by omega)]; exact hc 1 _ rfl⟩
end Go.Proofs.YtdnbmobdiidfmaaGreat.Kp
namespace Go.Proofs.YtdnbmobdiidfmaaGreat.Rw
open Go.ChangeShapes Go.WideShapes Go.ChangeAt Go.RowKit Go.Joins Kp YtdnbmobdiidfmaaGreatW.PrintWords
theorem add_add (a : Addr) (m j : Nat) : (a.add m).add j = a.add (m + j) := by
  unfold Addr.add
  by_cases hm : m = 0
  · subst hm
    by_cases hj : j = 0
    · subst hj; simp
    · simp [hj]
  · by_cases hj : j = 0
    · subst hj; simp [hm]
    · simp [hm, hj, Nat.add_assoc]
section
variable {H : Type} {enc : TypeId × Value → H} {w : World}
def numAt (w : World) (a : Addr) : Int := match w.cell? a with
  | some (.int _ n) => n
  | _ => 0
set_option maxRecDepth 100000 in
theorem read_prs {fuel : Nat} {v : Value} {x : DataW H × List MemPlace} (h : DataW.trod enc Tryz.prog w 0 (fun _ => true) true fuel 25 [v] = some x) :
    ∃ (A : Option Addr) (cap : Nat) (l : List S44), v = .slice A l.length cap ∧ l.length ≤ cap ∧ l.length ≤ maxLen ∧ Kd.C k44 w A l.length l ∧ ∀ q ∈ l, (Lit.int .i64 q.f0).wf = true ∧ (Lit.int .i64 q.f1).wf = true := by
  rcases DataW.trod_slice Tryz.underlying25 h with ⟨hcs, _⟩ | ⟨a, len, cap, elems, rest, n, _, hcs, _, _, hl, hm, hlen, hel, _, _⟩
  · simp at hcs
    subst hcs
    exact ⟨none, 0, [], rfl, Nat.le_refl _, Nat.zero_le _, Kd.C_nil _ _, fun n hn => by simp at hn⟩
  · simp at hcs
    subst hcs
    have h2 : Tryz.prog.cellsOf 44 = 2 := by kernel_rfl
    have h1 : Tryz.prog.cellsOf 2 = 1 := by kernel_rfl
    have each : ∀ i, i < len → ∃ u y : Int, w.cell? (a.add (i * 2)) = some (.int .i64 u) ∧ w.cell? (a.add (i * 2 + 1)) = some (.int .i64 y) ∧ (Lit.int .i64 u).wf = true ∧ (Lit.int .i64 y).wf = true := by
      intro i hi
      have h3 := hel i hi
      rw [List.getElem?_eq_getElem (by omega), h2, Option.bind_eq_some_iff] at h3
      obtain ⟨cs, hc, ht⟩ := h3
      obtain ⟨_, hcl, hcc⟩ := World.cells?_some hc
      obtain ⟨xs, m, _, _, _, hxl, hx⟩ := DataW.trod_array Tryz.underlying44 ht
      have g0 := hx 0 (by omega)
      have g1 := hx 1 (by omega)
      rw [h1, List.getElem?_eq_getElem (by omega)] at g0 g1
      obtain ⟨u, e0, _, w0⟩ := DataW.trod_int Tryz.underlying2 g0
      obtain ⟨y, e1, _, w1⟩ := DataW.trod_int Tryz.underlying2 g1
      match cs, hcl with
      | [c0, c1], _ =>
        simp at e0 e1
        subst e0 e1
        have k0 := hcc 0 (by omega)
        have k1 := hcc 1 (by omega)
        rw [add_add] at k0 k1
        exact ⟨u, y, by simpa using k0, by simpa using k1, w0, w1⟩
    have hlen' : ((List.range len).map fun i => (⟨numAt w (a.add (i * 2)), numAt w (a.add (i * 2 + 1))⟩ : S44)).length = len := by simp
    refine ⟨some a, cap, (List.range len).map fun i => ⟨numAt w (a.add (i * 2)), numAt w (a.add (i * 2 + 1))⟩, by rw [hlen'], by omega, by omega, ⟨rfl, by rw [hlen']; simp only [maxLen] at hm; omega, fun _ => ⟨a, rfl, fun j p hj => ?_⟩⟩, fun q hq => ?_⟩
    · have hjl : j < len := by have := (List.getElem?_eq_some_iff.1 hj).1; omega
      obtain ⟨u, y, c0, c1, _, _⟩ := each j hjl
      rw [List.getElem?_map, List.getElem?_range hjl, Option.map_some] at hj
      obtain rfl := Option.some.inj hj
      have n0 : numAt w (a.add (j * 2)) = u := by unfold numAt; rw [c0]
      have n1 : numAt w (a.add (j * 2 + 1)) = y := by unfold numAt; rw [c1]
      refine ⟨[.int .i64 u, .int .i64 y], rfl, ?_, fun i v hv => ?_⟩
      · simp only [n0, n1]
        exact k44_mk w ⟨u, y⟩
      · show w.cell? (a.add (j * 2 + i)) = some v
        match i with
        | 0 => obtain rfl := Option.some.inj hv; exact c0
        | 1 => obtain rfl := Option.some.inj hv; exact c1
        | _ + 2 => simp at hv
    · obtain ⟨i, hi, rfl⟩ := List.mem_map.1 hq
      obtain ⟨u, y, c0, c1, w0, w1⟩ := each i (List.mem_range.1 hi)
      simp only [numAt, c0, c1]
      exact ⟨w0, w1⟩
end
end Go.Proofs.YtdnbmobdiidfmaaGreat.Rw
namespace Go.Proofs.YtdnbmobdiidfmaaGreat.Cw
open Go.RowKit YtdnbmobdiidfmaaGreatW.PrintWords YtdnbmobdiidfmaaGreatW.PrintLast YtdnbmobdiidfmaaGreatW.PrintMore
def mB (n m : Nat) : Array Bool := ((List.range n).map (fun i => Nat.testBit m i)).toArray
theorem mB_zero (n : Nat) : Array.replicate n false = mB n 0 := by
  apply Array.ext'
  simp [mB, List.map_const', Array.toList_replicate, Nat.zero_testBit]
section
variable {P : Program} {ops : Array Oper} {Q : Exit → Act → World → Prop} {S : World → Prop} {ds : List Nat} {md : Region.Mode} {T : Bool × List (List Nat × List Nat)} {B : List Nat}
  {n m fuel : Nat} {a a' : Act} {w : World} {oi : Oper} {v : Value} {l : Array Bool}
theorem st_ {id : Nat} (n : Nat) (hS : S w.drew) (h : S w.drew → wpAnyLast P .any ops Q S ds n (mB n 0) a w.drew) (hm : P.follows .mixedOrders = true := by kernel_rfl) (hn : ops.size = n := by rfl) : (Code.region id ops true).wp P Q a w :=
  start_ (n := n) (mB n 0) hm hn (mB_zero n) hS h
theorem pu_ (i : Nat) (d : Tmp) (m' : Nat) (hT : Aside0 (rtab md ops = T)) (h : wpAnyLast P md ops Q S ds fuel (mB n m') a' w) (hi : ops[i]? = some oi := by rfl) (hN : oi.dst = some d := by rfl)
    (hc : anyT T (mB n m).toList (mB n m').toList i = true := by kernel_rfl) (hQ : ∀ c a w, Q (.panic c) (a.put oi.dst v) w → Q (.panic c) a w := by exact fun _ _ _ h => h)
    (hw : Region.wanted oi (yielded ops a.tmps) = true := by rfl) (hy : ∀ w, (execOp a.eval oi).run P w = .ok (.value v) w := by (intro w'; go_simp; with_reducible rfl))
    (ha : a.put (some d) v = a' := by (simp only [Act.put, List.setIfInBounds_toArray, List.set_cons_zero, List.set_cons_succ, i64_w, i32_w]; rfl)) : wpAnyLast P md ops Q S ds (fuel + 1) (mB n m) a w :=
  pure_ (mB n m') hi hN (any_of hT.out hc) hQ (.inl ⟨hw, hy⟩) ha h
theorem pd_ (i : Nat) (d : Tmp) (m' : Nat) (hT : Aside0 (rtab md ops = T)) (h : wpAnyLast P md ops Q S ds fuel (mB n m') a' w) (hi : ops[i]? = some oi := by rfl) (hN : oi.dst = some d := by rfl)
    (hc : anyT T (mB n m).toList (mB n m').toList i = true := by kernel_rfl) (hQ : ∀ c a w, Q (.panic c) (a.put oi.dst v) w → Q (.panic c) a w := by exact fun _ _ _ h => h)
    (hw : Region.wanted oi (yielded ops a.tmps) = true := by rfl) (hy : ∀ w, (execOp a.eval oi).run P w = .ok (.value v) w := by (intro w'; go_simp; (first | done | with_reducible rfl | rfl)))
    (ha : a.put (some d) v = a' := by (simp only [Act.put, List.setIfInBounds_toArray, List.set_cons_zero, List.set_cons_succ, i64_w, i32_w]; rfl)) : wpAnyLast P md ops Q S ds (fuel + 1) (mB n m) a w :=
  pure_ (mB n m') hi hN (any_of hT.out hc) hQ (.inl ⟨hw, hy⟩) ha h
theorem pn_ (i : Nat) (d : Tmp) (m' : Nat) (hT : Aside0 (rtab md ops = T)) (h : wpAnyLast P md ops Q S ds fuel (mB n m') a' w) (hi : ops[i]? = some oi := by rfl) (hN : oi.dst = some d := by rfl)
    (hc : anyT T (mB n m).toList (mB n m').toList i = true := by kernel_rfl) (hQ : ∀ c a w, Q (.panic c) (a.put oi.dst undef) w → Q (.panic c) a w := by exact fun _ _ _ h => h)
    (hw : Region.wanted oi (yielded ops a.tmps) = false := by rfl)
    (ha : a.put (some d) undef = a' := by (simp only [Act.put, List.setIfInBounds_toArray, List.set_cons_zero, List.set_cons_succ, i64_w, i32_w]; rfl)) : wpAnyLast P md ops Q S ds (fuel + 1) (mB n m) a w :=
  pure_ (mB n m') hi hN (any_of hT.out hc) hQ (.inr ⟨hw, rfl⟩) ha h
theorem tk_ (i : Nat) (d : Tmp) (m' : Nat) (hT : Aside0 (rtab md ops = T)) (hB : Aside0 (waitsOk T.2 B = true)) (hS : S w) (h : wpAnyLast P md ops Q S ds fuel (mB n m') a' w) (hi : ops[i]? = some oi := by rfl) (hN : oi.dst = some d := by rfl)
    (hc : takeW T B ds (mB n m).toList (mB n m').toList i = true := by kernel_rfl) (hQ : ∀ c a w, Q (.panic c) (a.put oi.dst v) w → Q (.panic c) a w := by exact fun _ _ _ h => h)
    (hw : Region.wanted oi (yielded ops a.tmps) = true := by rfl) (hy : ∀ w, S w → (execOp a.eval oi).run P w = .ok (.value v) w := by (intro w' hs_; go_simp; with_reducible rfl))
    (ha : a.put (some d) v = a' := by (simp only [Act.put, List.setIfInBounds_toArray, List.set_cons_zero, List.set_cons_succ, i64_w, i32_w]; rfl)) : wpAnyLast P md ops Q S ds (fuel + 1) (mB n m) a w :=
  take_ (mB n m') hi hN (take_ofW hT.out hB.out hc) hQ (.inl ⟨hw, hy⟩) hS ha h
theorem on_ (i : Nat) (N : Option Tmp) (m' : Nat) (hT : Aside0 (rtab md ops = T))
    (h : ∀ K : Act → World → Prop, Shut (∀ a' w', S w' → (S w' → wpAnyLast P md ops Q S ds fuel (mB n m') a' w') → K a' w') → if Region.wanted oi (yielded ops a.tmps) = true then Oper.wp P oi a w K Q else K (a.put N undef) w)
    (hi : ops[i]? = some oi := by rfl) (hN : oi.dst = N := by rfl) (hc : (readyT T.2 (mB n m).toList == [i] && (mB n m).toList.set i true == (mB n m').toList) = true := by kernel_rfl) (hd : i ∉ ds := by decide) :
    wpAnyLast P md ops Q S ds (fuel + 1) (mB n m) a w := one_ (mB n m') hi hN (one_of hT.out hc) hd h
theorem dn_ {k : Nat} (hT : Aside0 (rtab md ops = T)) (h : Q .normal a w) (hc : (readyT T.2 l.toList == []) = true := by kernel_rfl) : wpAnyLast P md ops Q S ds k l a w := done_ (done_of hT.out hc) h
theorem nm_ (h : wpAnyLast P md ops Q S ds fuel l a' w) (ha : a = a' := by (show Act.put _ (some _) _ = _; simp only [Act.put, List.setIfInBounds_toArray, List.set_cons_zero, List.set_cons_succ, i64_w, i32_w]; rfl)) : wpAnyLast P md ops Q S ds fuel l a w := norm_ ha h
theorem ca_ {N : Option Tmp} {K : Act → World → Prop} {f : FuncId} {fn : Func} {az : Array Operand} {ts : Array TypeId} (hf : P.funcs[f]? = some fn) (args : Array Value)
    (h : Calls P f args w fun e w' => ∃ v, e = .returned v ∧ K (a.put N v) w') (hname : (fn.name == "runtime.NumGoroutine") = false := by kernel_rfl) (hb : fn.body.isSome = true := by rfl)
    (hw : Region.wanted oi (yielded ops a.tmps) = true := by rfl) (hN : oi.dst = N := by rfl) (hop : oi.op = .call { callee := .value (.func f), args := az, argTypes := ts } := by rfl)
    (hargs : az.map a.eval = args := by ((try simp only [List.map_toArray, List.map_cons, List.map_nil]); first | done | rfl | (simp only [List.length_drop, List.length_take]; rfl))) : if Region.wanted oi (yielded ops a.tmps) = true then Oper.wp P oi a w K Q else K (a.put N undef) w :=
  goes_ hf hname hb args hw hN hop hargs h
theorem cl_ {rest : List Oper} {f : FuncId} {az : Array Operand} {ts : Array TypeId} (N : Option Tmp) {fn : Func} (hf : P.funcs[f]? = some fn) (args : Array Value)
    (h : Calls P f args w fun e w' => ∃ v, e = .returned v ∧ wpList P ops Q rest (a.put N v) w') (hd : oi.dst = N := by rfl) (hg : oi.guard = none := by rfl) (hname : (fn.name == "runtime.NumGoroutine") = false := by kernel_rfl)
    (hb : fn.body.isSome = true := by rfl) (hop : oi.op = .call { callee := .value (.func f), args := az, argTypes := ts } := by rfl)
    (hargs : az.map a.eval = args := by ((try simp only [List.map_toArray, List.map_cons, List.map_nil]); first | done | rfl | (simp only [List.length_drop, List.length_take]; rfl))) : wpList P ops Q (oi :: rest) a w :=
  goesL_ N hd hg hf hname hb args hop hargs h
end
section
variable {w W W' w1 : World} {g : Nat} {o : Obj} {t : TypeId} {cs : Array Value} {b : Addr} {u : Value}
theorem cB (h : Aside0 (w.heap[g]? = some (.cells cs t (0, 0)))) (i : Nat) (hu : cs[i]? = some u := by rfl) : w.cell? ⟨g, i, none⟩ = some u := (blk_cell h.out i).trans hu
theorem zB (h : Aside0 (w.heap[g]? = some (.cells cs t (0, 0)))) (i : Nat) : w.frozen? ⟨g, i, none⟩ = false := blk_frozen h.out i
theorem cH (h : Aside0 (Below w.heap.size w W)) (hx : w.cell? b = some u) : W.cell? b = some u := (h.out.cell (World.block_lt_of_cell? w _ hx)).trans hx
theorem pB (h : Aside0 (w.heap[g]? = some o)) (hs : w.heap[g]? = some o → W.heap[g]? = some o := by (intro h_; (with_reducible repeat (first | refine blk_drewN ?_ _ | refine blk_drew ?_ | refine blk_alloc ?_ _)); exact h_)) : W.heap[g]? = some o := hs h.out
theorem sB (h : Aside0 (w.heap[g]? = some o)) (hb : Below W.heap.size W W') (hs : w.heap[g]? = some o → W.heap[g]? = some o := by (intro h_; (with_reducible repeat (first | refine blk_drewN ?_ _ | refine blk_drew ?_ | refine blk_alloc ?_ _)); exact h_)) : Aside0 (W'.heap[g]? = some o) := ⟨blk_below (hs h.out) hb⟩
theorem dB (h : Aside0 (w.heap[g]? = some o)) : Aside0 (w.drew.heap[g]? = some o) := ⟨blk_drew h.out⟩
theorem dH (h : Aside0 (Below w.heap.size w W)) : Aside0 (Below w.heap.size w W.drew) := ⟨below_drew1 h.out⟩
theorem pH (h : Aside0 (Below w.heap.size w W)) (hs : Below w.heap.size w W → Below w.heap.size w W' := by (intro h_; repeat (first | (with_reducible first | exact h_ | apply below_alloc | apply pw_below_drewN | apply below_drew1 | refine below_set ?_ (Aside0.out (by assumption))) | exact h_))) : Below w.heap.size w W' := hs h.out
theorem sH (h : Aside0 (Below w.heap.size w W)) (hb : Below W'.heap.size W' w1) (hs : Below w.heap.size w W → Below w.heap.size w W' := by (intro h_; repeat (first | (with_reducible first | exact h_ | apply below_alloc | apply pw_below_drewN | apply below_drew1 | refine below_set ?_ (Aside0.out (by assumption))) | exact h_))) : Aside0 (Below w.heap.size w w1) := ⟨below_step (hs h.out) hb⟩
theorem gH (h : Aside0 (Below w.heap.size w W)) (he : g = W'.heap.size) (hs : Below w.heap.size w W → Below w.heap.size w W' := by (intro h_; repeat (first | (with_reducible first | exact h_ | apply below_alloc | apply pw_below_drewN | apply below_drew1 | refine below_set ?_ (Aside0.out (by assumption))) | exact h_))) : Aside0 (w.heap.size ≤ g) := ⟨by rw [he]; exact below_size (hs h.out)⟩
theorem nB {g' : Nat} (h : Aside0 (w.heap[g]? = some o)) (he : g' = W.heap.size) (hs : w.heap[g]? = some o → W.heap[g]? = some o := by (intro h_; (with_reducible repeat (first | refine blk_drewN ?_ _ | refine blk_drew ?_ | refine blk_alloc ?_ _)); exact h_)) : Aside0 (g ≠ g') := ⟨by rw [he]; exact Nat.ne_of_lt (blk_lt (hs h.out))⟩
theorem oB {g' : Nat} (h : Aside0 (w.heap[g]? = some o)) (he : g' = W.heap.size) (hs : w.heap[g]? = some o → W.heap[g]? = some o := by (intro h_; (with_reducible repeat (first | refine blk_drewN ?_ _ | refine blk_drew ?_ | refine blk_alloc ?_ _)); exact h_)) : Aside0 (g' ≠ g) := ⟨by rw [he]; exact Nat.ne_of_gt (blk_lt (hs h.out))⟩
variable {α : Type} {d : Kd α} {e : Nat} {base : Nat} {ok : Nat → Prop} {v : Value} {xs : List α}
theorem pR (h : Aside0 (d.R e w base ok v xs)) (hs : d.R e w base ok v xs → d.R e W base ok v xs := by (intro h_; (with_reducible repeat (first | apply Kd.R_alloc | apply Kd.R_drewN | apply Kd.R_drew)); exact h_)) : d.R e W base ok v xs := hs h.out
theorem sR (h : Aside0 (d.R e w base ok v xs)) (hb : Below W.heap.size W W') (hs : d.R e w base ok v xs → d.R e W base ok v xs := by (intro h_; (with_reducible repeat (first | apply Kd.R_alloc | apply Kd.R_drewN | apply Kd.R_drew)); exact h_)) : Aside0 (d.R e W' base ok v xs) := ⟨Kd.R_below (hs h.out) hb⟩
theorem pC {A : Option Addr} {k : Nat} (h : d.C w A k xs) (hs : d.C w A k xs → d.C W A k xs := by (intro h_; repeat (first | exact h_ | (with_reducible refine Kd.C_alloc ?_ _) | (with_reducible refine Kd.C_drewN ?_ _) | (with_reducible refine Kd.C_drew ?_)))) : d.C W A k xs := hs h
end
end Go.Proofs.YtdnbmobdiidfmaaGreat.Cw
namespace Go.Proofs.YtdnbmobdiidfmaaGreat.Ext
open Go.RowKit Im Kp YtdnbmobdiidfmaaGreatW.PrintWords YtdnbmobdiidfmaaGreatW.PrintLast YtdnbmobdiidfmaaGreatW.PrintMore
def laws_eqPair.f (a0_0 a0_1 a1_0 a1_1 : Int) : Option Bool := some (decide (a0_0 = a1_0) && decide (a0_1 = a1_1))
def PrAt (w : World) (b : Nat) (x y : Int) : Prop := w.heap[b]? = some (.cells #[.int .i64 x, .int .i64 y] 45 (0, 0))
section
variable {w w1 : World} {b : Nat} {x y : Int}
theorem PrAt.lt (h : PrAt w b x y) : b < w.heap.size := (Array.getElem?_eq_some_iff.1 h).1
theorem PrAt.below (h : PrAt w b x y) (hb : Below w.heap.size w w1) : PrAt w1 b x y := (hb.block b h.lt).trans h
theorem PrAt.alloc (h : PrAt w b x y) (o : Obj) : PrAt (w.alloc o) b x y := h.below (below_alloc (Below.refl _ _) o)
theorem PrAt.c0 (h : PrAt w b x y) : w.cell? ⟨b, 0, none⟩ = some (.int .i64 x) := (cell_of_row w b 0 _ _ _ h).trans rfl
theorem PrAt.c1 (h : PrAt w b x y) : w.cell? ⟨b, 1, none⟩ = some (.int .i64 y) := (cell_of_row w b 1 _ _ _ h).trans rfl
theorem PrAt.fz (h : PrAt w b x y) (j : Nat) : w.frozen? ⟨b, j, none⟩ = false := blk_frozen h j
theorem PrAt.drew (h : PrAt w b x y) : PrAt w.drew b x y := h
theorem PrAt.new (w : World) (x y : Int) : PrAt (w.alloc (.cells #[.int .i64 x, .int .i64 y] 45)) w.heap.size x y := heap_alloc_new w _
end
set_option maxRecDepth 100000 in
theorem laws_eqPair.calls (a0_0 a0_1 a1_0 a1_1 : Int) (r1 : Bool) (w : World) (h : laws_eqPair.f a0_0 a0_1 a1_0 a1_1 = some r1) :
    Calls Tryz.prog 36 #[.agg #[.int .i64 a0_0, .int .i64 a0_1], .agg #[.int .i64 a1_0, .int .i64 a1_1]] w fun e w' => e = .returned (.bool r1) ∧ Below w.heap.size w w' := by
  obtain rfl := Option.some.inj h
  clear h
  go_enter Tryz.func36, Tryz.ntmps36
  go_wp2
  go_loopw [5] (fun i wr => ∃ k : Nat, k ≤ 2 ∧ i = .int .i64 k ∧ Aside0 (Below w.heap.size w wr) ∧ Aside0 (PrAt wr w.heap.size a0_0 a0_1 ∧ PrAt wr (w.heap.size + 1) a1_0 a1_1) ∧ Aside0 (1 ≤ k → a0_0 = a1_0) ∧ Aside0 (2 ≤ k → a0_1 = a1_1)) (fun i _ => 2 - (intOf i).toNat)
  case atStart =>
    refine ⟨0, by omega, rfl, ⟨below_alloc (below_alloc (Below.refl _ _) _) _⟩, ⟨(PrAt.new _ _ _).alloc _, ?_⟩, ⟨fun h => absurd h (by omega)⟩, ⟨fun h => absurd h (by omega)⟩⟩
    simpa using PrAt.new (w.alloc (.cells #[.int .i64 a0_0, .int .i64 a0_1] 45)) a1_0 a1_1
  case round =>
    obtain ⟨k, hk, rfl, hB, hC, hE1, hE2⟩ := hrel
    obtain rfl | rfl | rfl : k = 0 ∨ k = 1 ∨ k = 2 := by omega
    · have h0 := hC.out.1.c0
      have h1 := hC.out.2.c0
      by_cases he : a0_0 = a1_0
      · have hb : (a0_0 != a1_0) = false := by simp [he]
        go_wp2
        go_region
        go_wp2
        go_roundw
        case rel => exact ⟨1, by omega, by go_num, ⟨hB.out.drew⟩, ⟨hC.out.1.drew, hC.out.2.drew⟩, ⟨fun _ => he⟩, ⟨fun h => absurd h (by omega)⟩⟩
        case measure => simp [intOf]
      · have hb : (a0_0 != a1_0) = true := by simp [he]
        go_wp2
        go_region
        go_wp2
        go_ret
        exact ⟨by simp [he], hB.out.drew⟩
    · have h0 := hC.out.1.c1
      have h1 := hC.out.2.c1
      have he0 : a0_0 = a1_0 := hE1.out (by omega)
      by_cases he : a0_1 = a1_1
      · have hb : (a0_1 != a1_1) = false := by simp [he]
        go_wp2
        go_region
        go_wp2
        go_roundw
        case rel => exact ⟨2, by omega, by go_num, ⟨hB.out.drew⟩, ⟨hC.out.1.drew, hC.out.2.drew⟩, ⟨fun _ => he0⟩, ⟨fun _ => he⟩⟩
        case measure => simp [intOf]
      · have hb : (a0_1 != a1_1) = true := by simp [he]
        go_wp2
        go_region
        go_wp2
        go_ret
        exact ⟨by simp [he], hB.out.drew⟩
    · go_wp2
      go_ret
      exact ⟨by simp [hE1.out (by omega), hE2.out (by omega)], hB.out⟩
def markAt (a : Int) (i : Nat) : Pr := ⟨a + 2 * i, a + 2 * i + 1⟩
def markL (n : Nat) (a : Int) : List Pr := (List.range n).map (markAt a)
def okPr (l : List Pr) (a : Int) (i : Nat) : Bool := (l.getD i z45).f0 == a + 2 * i && (l.getD i z45).f1 == a + 2 * i + 1
def heldPr (l : List Pr) (a : Int) : Int := if (List.range l.length).all (okPr l a) then a + 2 * l.length else -1
def laws_heldPairS.f (l0 : List S45) (a1 : Int) : Option Int := if 0 ≤ a1 ∧ a1 ≤ 1073741824 ∧ l0.length ≤ 1099511627776 then some (heldPr l0 a1) else none
theorem heldPr_no {l : List Pr} {a : Int} {i : Nat} (hi : i < l.length) (h : okPr l a i = false) : heldPr l a = -1 := by
  unfold heldPr
  rw [if_neg]
  intro hc
  rw [List.all_eq_true.1 hc i (List.mem_range.2 hi)] at h
  cases h
theorem heldPr_yes {l : List Pr} {a : Int} (h : ∀ i, i < l.length → okPr l a i = true) : heldPr l a = a + 2 * l.length := by
  unfold heldPr
  rw [if_pos (List.all_eq_true.2 (fun i hi => h i (List.mem_range.1 hi)))]
theorem pair_at {w : World} {A : Option Addr} {xs : List Pr} (h : Kd.C k45 w A xs.length xs) (i : Nat) (hi : i < xs.length) : ∃ ad, A = some ad ∧
    w.cell? (ad.add (i * 2)) = some (.int .i64 (xs.getD i z45).f0) ∧ w.cell? ⟨(ad.add (i * 2)).block, (ad.add (i * 2)).off + 1, none⟩ = some (.int .i64 (xs.getD i z45).f1) :=
  at_T45 h (i : Int) (by omega) (by omega)
set_option maxRecDepth 100000 in
theorem laws_heldPairS.calls (A0 : Option Addr) (c0 : Nat) (l0 : List S45) (a1 : Int) (r1 : Int) (w : World) (hr0 : Kd.C k45 w A0 l0.length l0) (hc0 : l0.length ≤ c0) (h : laws_heldPairS.f l0 a1 = some r1) :
    Calls Tryz.prog 14 #[.slice A0 l0.length c0, .int .i64 a1] w fun e w' => e = .returned (.int .i64 r1) ∧ Below w.heap.size w w' := by
  unfold laws_heldPairS.f at h
  by_cases hb : 0 ≤ a1 ∧ a1 ≤ 1073741824 ∧ l0.length ≤ 1099511627776
  case neg => rw [if_neg hb] at h; cases h
  rw [if_pos hb] at h
  obtain ⟨b0, b1, b2⟩ := hb
  obtain rfl := Option.some.inj h
  clear h
  have HR := Aside0.mk hr0
  clear hr0
  go_enter Tryz.func14, Tryz.ntmps14
  go_wp2
  go_loopw [1, 5] (fun c i wr => ∃ k : Nat, k ≤ l0.length ∧ c = .int .i64 (a1 + 2 * k) ∧ i = .int .i64 k ∧ wr = w ∧ Aside0 (∀ j, j < k → okPr l0 a1 j = true)) (fun _ i _ => l0.length - (intOf i).toNat)
  case atStart => exact ⟨0, by omega, by simp, rfl, rfl, ⟨fun j hj => absurd hj (by omega)⟩⟩
  case round =>
    obtain ⟨k, hk, rfl, rfl, rfl, hA⟩ := hrel
    by_cases hlt : k < l0.length
    · obtain ⟨ad, rfl, h0, h1⟩ := pair_at HR.out k hlt
      have H0 := Aside0.mk h0
      have H1 := Aside0.mk h1
      clear h0 h1
      obtain ⟨x, hx⟩ : ∃ x, (l0.getD k z45).f0 = x := ⟨_, rfl⟩
      obtain ⟨y, hy⟩ : ∃ y, (l0.getD k z45).f1 = y := ⟨_, rfl⟩
      rw [hx] at H0
      rw [hy] at H1
      have HX := Aside0.mk hx
      have HY := Aside0.mk hy
      clear hx hy
      go_wp2
      go_loopw [1, 6] (fun c j wq => ∃ m : Nat, m ≤ 2 ∧ c = .int .i64 (a1 + 2 * k + m) ∧ j = .int .i64 m ∧ wq = wr ∧ Aside0 (1 ≤ m → x = a1 + 2 * k) ∧ Aside0 (2 ≤ m → y = a1 + 2 * k + 1)) (fun _ j _ => 2 - (intOf j).toNat)
      case atStart => exact ⟨0, by omega, by simp, rfl, rfl, ⟨fun h => absurd h (by omega)⟩, ⟨fun h => absurd h (by omega)⟩⟩
      case round =>
        obtain ⟨m, hm, rfl, rfl, rfl, hE1, hE2⟩ := hrel
        obtain rfl | rfl | rfl : m = 0 ∨ m = 1 ∨ m = 2 := by omega
        · have h0 := H0.out
          by_cases he : x = a1 + 2 * k
          · have hb : (x != a1 + 2 * k + (0 : Nat)) = false := by simp [he]
            go_wp2
            go_roundw
            case rel => exact ⟨1, by omega, by go_num, rfl, trivial, ⟨fun _ => he⟩, ⟨fun h => absurd h (by omega)⟩⟩
            case measure => simp [intOf]
          · have hb : (x != a1 + 2 * k + (0 : Nat)) = true := by simp [he]
            go_wp2
            go_ret
            exact ⟨by rw [heldPr_no hlt (by rw [okPr, HX.out]; simp [he])]; rfl, Below.refl _ _⟩
        · have h1 := H1.out
          have h0 := H0.out
          by_cases he : y = a1 + 2 * k + 1
          · have hb : (y != a1 + 2 * k + (1 : Nat)) = false := by simp [he]
            go_wp2
            go_roundw
            case rel => exact ⟨2, by omega, by go_num, rfl, trivial, ⟨fun _ => hE1.out (by omega)⟩, ⟨fun _ => he⟩⟩
            case measure => simp [intOf]
          · have hb : (y != a1 + 2 * k + (1 : Nat)) = true := by simp [he]
            go_wp2
            go_ret
            exact ⟨by rw [heldPr_no hlt (by rw [okPr, HX.out, HY.out]; simp [he])]; rfl, Below.refl _ _⟩
        · go_wp2
          go_roundw
          case measure => simp [intOf]; omega
          case rel =>
            refine ⟨k + 1, by omega, by go_num, by go_num, trivial, ⟨fun j hj => ?_⟩⟩
            rcases Nat.lt_or_ge j k with h | h
            · exact hA.out j h
            · obtain rfl : j = k := by omega
              rw [okPr, HX.out, HY.out, hE1.out (by omega), hE2.out (by omega)]
              simp
    · obtain rfl : k = l0.length := by omega
      go_wp2
      go_ret
      exact ⟨by rw [heldPr_yes hA.out]; rfl, Below.refl _ _⟩
section
variable {w : World} {base g cap n : Nat} {ok : Nat → Prop} {xs : List Pr}
theorem pr_form {v : Value} (h : Kd.R k45 45 w base ok v xs) (hp : 0 < xs.length) : ∃ g cap, v = .slice (some ⟨g, 0, none⟩) xs.length cap ∧ base ≤ g ∧ ok g := by
  obtain ⟨g, cap, e, hb, _⟩ := Kd.R_form h hp
  exact ⟨g, cap, e, hb, h.1 g (by rw [e]; rfl)⟩
theorem pr_cells (h : Kd.R k45 45 w base ok (.slice (some ⟨g, 0, none⟩) n cap) xs) {k : Nat} (hk : k < n) :
    w.cell? ⟨g, k * 2, none⟩ = some (.int .i64 (xs.getD k z45).f0) ∧ w.cell? ⟨g, k * 2 + 1, none⟩ = some (.int .i64 (xs.getD k z45).f1) ∧ w.frozen? ⟨g, k * 2, none⟩ = false ∧ w.frozen? ⟨g, k * 2 + 1, none⟩ = false := by
  obtain ⟨c, hcl, hM, hcc, hf⟩ := Kd.R_elem h z45 (k : Int) (by omega) (by omega)
  obtain rfl := k45_openM hM
  exact ⟨hcc 0 _ rfl, hcc 1 _ rfl, hf 0, hf 1⟩
theorem pr_set0 (h : Kd.R k45 45 w base ok (.slice (some ⟨g, 0, none⟩) n cap) xs) {k : Nat} (hk : k < n) (v : Int) :
    Kd.R k45 45 (w.setCell ⟨g, k * 2, none⟩ (.int .i64 v)) base ok (.slice (some ⟨g, 0, none⟩) n cap) (xs.set k ⟨v, (xs.getD k z45).f1⟩) ∧ w.grownBy (w.setCell ⟨g, k * 2, none⟩ (.int .i64 v)) (some g) := by
  obtain ⟨c, hcl, hM, hcc, hf⟩ := Kd.R_elem h z45 (k : Int) (by omega) (by omega)
  obtain rfl := k45_openM hM
  exact Kd.R_seg (j := 0) (seg := [.int .i64 v]) h (k : Int) (by omega) (by omega) hcl hcc (by simp; decide) (okp := fun _ => False) (x' := ⟨v, (xs.getD k z45).f1⟩) (k45_mkM _ _ _ _) (fun _ hk => hk.elim)
theorem pr_set1 (h : Kd.R k45 45 w base ok (.slice (some ⟨g, 0, none⟩) n cap) xs) {k : Nat} (hk : k < n) (v : Int) :
    Kd.R k45 45 (w.setCell ⟨g, k * 2 + 1, none⟩ (.int .i64 v)) base ok (.slice (some ⟨g, 0, none⟩) n cap) (xs.set k ⟨(xs.getD k z45).f0, v⟩) ∧ w.grownBy (w.setCell ⟨g, k * 2 + 1, none⟩ (.int .i64 v)) (some g) := by
  obtain ⟨c, hcl, hM, hcc, hf⟩ := Kd.R_elem h z45 (k : Int) (by omega) (by omega)
  obtain rfl := k45_openM hM
  exact Kd.R_seg (j := 1) (seg := [.int .i64 v]) h (k : Int) (by omega) (by omega) hcl hcc (by simp; decide) (okp := fun _ => False) (x' := ⟨(xs.getD k z45).f0, v⟩) (k45_mkM _ _ _ _) (fun _ hk => hk.elim)
end
def updL (l : List Pr) (a : Int) : Nat → List Pr
  | 0 => l
  | k + 1 => (updL l a k).set k (markAt a k)
theorem updL_len (l : List Pr) (a : Int) (k : Nat) : (updL l a k).length = l.length := by
  induction k with
  | zero => rfl
  | succ k ih => rw [updL, List.length_set, ih]
theorem updL_get (l : List Pr) (a : Int) (k j : Nat) (hj : j < k) (hl : j < l.length) : (updL l a k)[j]? = some (markAt a j) := by
  induction k with
  | zero => omega
  | succ k ih =>
    rw [updL, List.getElem?_set]
    by_cases h : k = j
    · subst h
      rw [if_pos rfl, if_pos (by rw [updL_len]; exact hl)]
    · rw [if_neg h]
      exact ih (by omega)
theorem updL_all (l : List Pr) (a : Int) : updL l a l.length = markL l.length a := by
  apply List.ext_getElem?
  intro j
  by_cases hj : j < l.length
  · rw [updL_get _ _ _ _ hj hj, markL, List.getElem?_map, List.getElem?_range hj]
    rfl
  · rw [List.getElem?_eq_none (by rw [updL_len]; omega), List.getElem?_eq_none (by simp [markL]; omega)]
def updM (l : List Pr) (a : Int) (k : Nat) : Nat → List Pr
  | 0 => updL l a k
  | 1 => (updL l a k).set k ⟨a + 2 * k, ((updL l a k).getD k z45).f1⟩
  | _ => updL l a (k + 1)
def laws_markPairS.f (l0 : List S45) (a1 : Int) : Option (Int × List S45) := if 0 ≤ a1 ∧ a1 ≤ 1073741824 ∧ l0.length ≤ 1099511627776 then some (a1 + 2 * l0.length, markL l0.length a1) else none
set_option maxRecDepth 100000 in
theorem laws_markPairS.calls (P0_ : Nat → Prop) (u9000_ : Value) (l0 : List S45) (a1 : Int) (r1 : Int) (r2 : List S45) (w0 w : World) (hB : Below w0.heap.size w0 w) (ho0 : Kd.R k45 45 w w0.heap.size P0_ u9000_ l0) (h : laws_markPairS.f l0 a1 = some (r1, r2)) :
    Calls Tryz.prog 13 #[u9000_, .int .i64 a1] w fun e w' => e = .returned (.int .i64 r1) ∧ Kd.R k45 45 w' w0.heap.size (fun k_ => (P0_ k_ ∨ w.heap.size ≤ k_)) u9000_ r2 ∧ Below w0.heap.size w0 w' ∧ Kept w w' (fun k_ => P0_ k_) := by
  unfold laws_markPairS.f at h
  by_cases hb : 0 ≤ a1 ∧ a1 ≤ 1073741824 ∧ l0.length ≤ 1099511627776
  case neg => rw [if_neg hb] at h; cases h
  rw [if_pos hb] at h
  obtain ⟨b0, b1, b2⟩ := hb
  obtain ⟨rfl, rfl⟩ := Prod.mk.inj (Option.some.inj h)
  clear h
  have HR := Aside0.mk ho0
  have HB := Aside0.mk hB
  clear ho0 hB
  obtain ⟨A, cc, rfl⟩ := Kd.R_slice HR.out
  go_enter Tryz.func13, Tryz.ntmps13
  go_wp2
  go_loopw [1, 5] (fun c i wr => ∃ k : Nat, k ≤ l0.length ∧ c = .int .i64 (a1 + 2 * k) ∧ i = .int .i64 k ∧ Aside0 (Kd.R k45 45 wr w0.heap.size P0_ (.slice A l0.length cc) (updL l0 a1 k)) ∧ Aside0 (Below w0.heap.size w0 wr) ∧ Aside0 (Kept w wr P0_)) (fun _ i _ => l0.length - (intOf i).toNat)
  case atStart => exact ⟨0, by omega, by simp, rfl, HR, HB, ⟨Kept.refl _ _⟩⟩
  case round =>
    obtain ⟨k, hk, rfl, rfl, HO, HBw, HK⟩ := hrel
    by_cases hlt : k < l0.length
    · obtain ⟨g, cap, hv, hbg, hokg⟩ := pr_form HO.out (by rw [updL_len]; omega)
      obtain ⟨rfl, _, rfl⟩ : A = some ⟨g, 0, none⟩ ∧ _ ∧ cc = cap := by injection hv with e1 e2 e3; exact ⟨e1, e2, e3⟩
      clear hv
      go_wp2
      go_loopw [1, 6] (fun c j wq => ∃ m : Nat, m ≤ 2 ∧ c = .int .i64 (a1 + 2 * k + m) ∧ j = .int .i64 m ∧ Aside0 (Kd.R k45 45 wq w0.heap.size P0_ (.slice (some ⟨g, 0, none⟩) l0.length cc) (updM l0 a1 k m)) ∧ Aside0 (Below w0.heap.size w0 wq) ∧ Aside0 (Kept w wq P0_)) (fun _ j _ => 2 - (intOf j).toNat)
      case atStart => exact ⟨0, by omega, by simp, rfl, HO, HBw, HK⟩
      case round =>
        clear HO HBw HK
        obtain ⟨m, hm, rfl, rfl, HO, HBw, HK⟩ := hrel
        obtain rfl | rfl | rfl : m = 0 ∨ m = 1 ∨ m = 2 := by omega
        · obtain ⟨hc0, hc1, hf0, hf1⟩ := pr_cells HO.out hlt
          obtain ⟨hO2, hg2⟩ := pr_set0 HO.out hlt (a1 + 2 * k)
          have HO2 := Aside0.mk hO2
          have HG2 := Aside0.mk hg2
          clear hO2 hg2
          go_wp2
          go_roundw
          case measure => simp [intOf]
          case rel => exact ⟨1, by omega, by go_num, rfl, HO2, ⟨below_set HBw.out hbg⟩, ⟨Kept.of_grown HG2.out HK.out (fun k_ e_ => .inl (by injection e_ with e_; rw [← e_]; exact hokg))⟩⟩
        · obtain ⟨hc0, hc1, hf0, hf1⟩ := pr_cells HO.out hlt
          obtain ⟨hO2, hg2⟩ := pr_set1 HO.out hlt (a1 + 2 * k + (1 : Nat))
          have HO2 := Aside0.mk hO2
          have HG2 := Aside0.mk hg2
          clear hO2 hg2
          go_wp2
          go_roundw
          case measure => simp [intOf]
          case rel =>
            refine ⟨2, by omega, by go_num, rfl, ⟨?_⟩, ⟨below_set HBw.out hbg⟩, ⟨Kept.of_grown HG2.out HK.out (fun k_ e_ => .inl (by injection e_ with e_; rw [← e_]; exact hokg))⟩⟩
            have h := HO2.out
            have e : (updM l0 a1 k 1).set k ⟨((updM l0 a1 k 1).getD k z45).f0, a1 + 2 * k + (1 : Nat)⟩ = updM l0 a1 k 2 := by
              have hl : k < (updL l0 a1 k).length := by rw [updL_len]; exact hlt
              simp [updM, updL, markAt, hl, List.getD_eq_getElem?_getD]
            rw [e] at h
            exact h
        · go_wp2
          go_roundw
          case measure => simp [intOf]; omega
          case rel => exact ⟨k + 1, by omega, by go_num, by go_num, HO, HBw, HK⟩
    · obtain rfl : k = l0.length := by omega
      go_wp2
      go_ret
      refine ⟨rfl, Kd.R_mono ?_ (fun _ hk => .inl hk), HBw.out, HK.out⟩
      rw [← updL_all]
      exact HO.out
def AtB (w : World) (t : TypeId) (b : Nat) (x y : Int) : Prop := w.heap[b]? = some (.cells #[.int .i64 x, .int .i64 y] t (0, 0))
section
variable {w w1 : World} {b : Nat} {x y : Int} {t : TypeId}
theorem AtB.lt (h : AtB w t b x y) : b < w.heap.size := (Array.getElem?_eq_some_iff.1 h).1
theorem AtB.below (h : AtB w t b x y) (hb : Below w.heap.size w w1) : AtB w1 t b x y := (hb.block b h.lt).trans h
theorem AtB.alloc (h : AtB w t b x y) (o : Obj) : AtB (w.alloc o) t b x y := h.below (below_alloc (Below.refl _ _) o)
theorem AtB.c0 (h : AtB w t b x y) : w.cell? ⟨b, 0, none⟩ = some (.int .i64 x) := (cell_of_row w b 0 _ _ _ h).trans rfl
theorem AtB.c1 (h : AtB w t b x y) : w.cell? ⟨b, 1, none⟩ = some (.int .i64 y) := (cell_of_row w b 1 _ _ _ h).trans rfl
theorem AtB.fz (h : AtB w t b x y) (j : Nat) : w.frozen? ⟨b, j, none⟩ = false := blk_frozen h j
theorem AtB.far (h : AtB w t b x y) {b' o : Nat} (hne : b ≠ b') (u : Value) : AtB (w.setCell ⟨b', o, none⟩ u) t b x y := (Below.heap_setCell w ⟨b', o, none⟩ u b hne).trans h
theorem AtB.set0 (h : AtB w t b x y) (u : Int) : AtB (w.setCell ⟨b, 0, none⟩ (.int .i64 u)) t b u y := blk_put h 0 _ rfl
theorem AtB.set1 (h : AtB w t b x y) (u : Int) : AtB (w.setCell ⟨b, 1, none⟩ (.int .i64 u)) t b x u := blk_put h 1 _ rfl
theorem AtB.new (w : World) (t : TypeId) (x y : Int) : AtB (w.alloc (.cells #[.int .i64 x, .int .i64 y] t)) t w.heap.size x y := heap_alloc_new w _
end
set_option maxRecDepth 100000 in
set_option maxHeartbeats 1000000 in
theorem toPair_c (x y : Int) (w : World) : Calls Tryz.prog 23 #[.agg #[.int .i64 x, .int .i64 y]] w fun e w' => e = .returned (.agg #[.int .i64 x, .int .i64 y]) ∧ Below w.heap.size w w' := by
  have h1 := Aside0.mk (((AtB.new w 44 x y).alloc (.cells #[.int .i64 0, .int .i64 0] 45)).alloc (.cells #[.int .i64 0, .int .i64 0] 45))
  have h2 : Aside0 (AtB (((w.alloc (.cells #[.int .i64 x, .int .i64 y] 44)).alloc (.cells #[.int .i64 0, .int .i64 0] 45)).alloc (.cells #[.int .i64 0, .int .i64 0] 45)) 45 (w.heap.size + 1) 0 0) := ⟨by have := (AtB.new (w.alloc (.cells #[.int .i64 x, .int .i64 y] 44)) 45 0 0).alloc (.cells #[.int .i64 0, .int .i64 0] 45); simpa using this⟩
  have h3 : Aside0 (AtB (((w.alloc (.cells #[.int .i64 x, .int .i64 y] 44)).alloc (.cells #[.int .i64 0, .int .i64 0] 45)).alloc (.cells #[.int .i64 0, .int .i64 0] 45)) 45 (w.heap.size + 1 + 1) 0 0) := ⟨by have := AtB.new ((w.alloc (.cells #[.int .i64 x, .int .i64 y] 44)).alloc (.cells #[.int .i64 0, .int .i64 0] 45)) 45 0 0; simpa using this⟩
  go_enter Tryz.func23, Tryz.ntmps23
  go_wp2
  go_loopw [4] (fun i wr => ∃ (k : Nat) (u v : Int), k ≤ 2 ∧ i = .int .i64 k ∧ Aside0 (Below w.heap.size w wr) ∧ Aside0 (AtB wr 44 w.heap.size x y) ∧ Aside0 (AtB wr 45 (w.heap.size + 1) 0 0) ∧ Aside0 (AtB wr 45 (w.heap.size + 1 + 1) u v) ∧ Aside0 (1 ≤ k → u = x) ∧ Aside0 (2 ≤ k → v = y)) (fun i _ => 2 - (intOf i).toNat)
  case atStart => exact ⟨0, 0, 0, by omega, rfl, ⟨below_alloc (below_alloc (below_alloc (Below.refl _ _) _) _) _⟩, h1, h2, h3, ⟨fun h => absurd h (by omega)⟩, ⟨fun h => absurd h (by omega)⟩⟩
  case round =>
    clear h1 h2 h3
    obtain ⟨k, u, v, hk, rfl, hB, h1, h2, h3, hE1, hE2⟩ := hrel
    obtain rfl | rfl | rfl : k = 0 ∨ k = 1 ∨ k = 2 := by omega
    · have c0 := h1.out.c0
      have f0 := h3.out.fz 0
      have d0 := h3.out.c0
      go_wp2
      go_roundw
      case rel => exact ⟨1, x, v, by omega, by go_num, ⟨hB.out.setCell (p := ⟨w.heap.size + 1 + 1, 0, none⟩) (by simp; omega) _⟩, ⟨h1.out.far (by omega) _⟩, ⟨h2.out.far (by omega) _⟩, ⟨h3.out.set0 x⟩, ⟨fun _ => rfl⟩, ⟨fun h => absurd h (by omega)⟩⟩
      case measure => simp [intOf]
    · have c0 := h1.out.c1
      have f0 := h3.out.fz 1
      have d0 := h3.out.c1
      go_wp2
      go_roundw
      case rel => exact ⟨2, u, y, by omega, by go_num, ⟨hB.out.setCell (p := ⟨w.heap.size + 1 + 1, 1, none⟩) (by simp; omega) _⟩, ⟨h1.out.far (by omega) _⟩, ⟨h2.out.far (by omega) _⟩, ⟨h3.out.set1 y⟩, ⟨fun _ => hE1.out (by omega)⟩, ⟨fun _ => rfl⟩⟩
      case measure => simp [intOf]
    · obtain rfl := hE1.out (by omega)
      obtain rfl := hE2.out (by omega)
      have c0 := h3.out.c0
      have c1 := h3.out.c1
      have f0 := h2.out.fz 0
      have f1 := ((h2.out.set0 u).fz 1)
      have d0 := h2.out.c0
      have d1 := (h2.out.set0 u).c1
      go_wp2
      have r0 := Aside0.mk ((h2.out.set0 u).set1 v)
      have x0 := r0.out.c0
      have x1 := r0.out.c1
      exact bodyPost_ret (v := .agg #[.int .i64 u, .int .i64 v]) (by simp [results, Tryz.results23, go_sem, x0, x1]) rfl ⟨rfl, (hB.out.setCell (p := ⟨w.heap.size + 1, 0, none⟩) (by simp) _).setCell (p := ⟨w.heap.size + 1, 1, none⟩) (by simp) _⟩
def laws_toPair.f (a0_0 : Int) (a0_1 : Int) : Option (Int × Int) := some (a0_0, a0_1)
theorem laws_toPair.calls (a0_0 : Int) (a0_1 : Int) (r1 : Int) (r2 : Int) (w : World) (h : laws_toPair.f a0_0 a0_1 = some (r1, r2)) :
    Calls Tryz.prog 23 #[.agg #[.int .i64 a0_0, .int .i64 a0_1]] w fun e w' => e = .returned (.agg #[.int .i64 r1, .int .i64 r2]) ∧ Below w.heap.size w w' := by
  have h1 := Option.some.inj h
  injection h1 with h1 h2
  subst h1 h2
  exact toPair_c a0_0 a0_1 w
end Go.Proofs.YtdnbmobdiidfmaaGreat.Ext
namespace Go.Proofs.YtdnbmobdiidfmaaGreat.Ext
end Go.Proofs.YtdnbmobdiidfmaaGreat.Ext
namespace Go.Proofs.YtdnbmobdiidfmaaGreat.QS
open Kp Ext Go.RowKit YtdnbmobdiidfmaaGreatW.PrintWords YtdnbmobdiidfmaaGreatW.PrintLast YtdnbmobdiidfmaaGreatW.PrintMore
attribute [local go_sem] max2_int min2_int max_two min_two max_three min_three max_four min_four   -- for this text's walks alone
def errW : Option Int → Value
  | none => .nilIface
  | some c => .iface 0 (.int .i64 c)
theorem errW_none : errW none = .nilIface := rfl
theorem errW_some (c : Int) : errW (some c) = .iface 0 (.int .i64 c) := rfl
theorem info2 : (Tryz.prog.info? 2).map (fun i => (i.zero, i.size, i.bytes)) = some (some (.int .i64 0), 1, 8) := by kernel_rfl
theorem info4 : (Tryz.prog.info? 4).map (fun i => (i.zero, i.size, i.bytes)) = some (some (.bool false), 1, 1) := by kernel_rfl
theorem info45 : (Tryz.prog.info? 45).map (fun i => (i.zero, i.size, i.bytes)) = some (some (.agg #[(.int .i64 0), (.int .i64 0)]), 2, 16) := by kernel_rfl
end Go.Proofs.YtdnbmobdiidfmaaGreat.QS
namespace Go.Proofs.YtdnbmobdiidfmaaGreat.Im
open Go.RowKit Go.Shelf YtdnbmobdiidfmaaGreatW.PrintWords YtdnbmobdiidfmaaGreatW.PrintLast YtdnbmobdiidfmaaGreatW.PrintMore
theorem areAll1_f (b : Nat) (fv : Value) (dom : Int → Prop) (p : Int → Bool) (w : World) (hb : Boxed w b 51 fv) (hf : FnB Tryz.prog fv dom p w) :
    FnB Tryz.prog (.func (.func 110) #[] #[.pointer (some ⟨b, 0, none⟩)]) dom (fun x => !p x) w := by
  refine ⟨_, _, _, rfl, enters_of Tryz.func110 (by kernel_rfl) rfl, fun W x hW hx => ?_⟩
  obtain ⟨g, fs, lb, rfl, eg, hcall⟩ := hf
  have hc := hcall W x hW hx
  have HC := Aside0.mk hc
  have hcell : W.cell? ⟨b, 0, none⟩ = some (.func (.func g) fs lb) := (hW.cell (p := ⟨b, 0, none⟩) hb.lt).trans hb.cell
  clear hc hcall hW hx hb
  show Calls Tryz.prog 110 #[.int .i64 x, .pointer (some ⟨b, 0, none⟩)] W fun e w' => e = .returned (.bool (!p x)) ∧ Below W.heap.size W w'
  generalize p x = r at HC ⊢
  go_enter Tryz.func110, Tryz.ntmps110
  go_wp2_with (go_at_fn g; refine HC.out.mono ?_; rintro e w' ⟨rfl, hb⟩)
  go_ret
  exact ⟨rfl, hb⟩
theorem all_not_any (p : Int → Bool) (xs : List Int) : xs.all p = !(xs.any fun x => !p x) := by
  induction xs with
  | nil => rfl
  | cons x xs ih => simp only [List.all_cons, List.any_cons, ih, Bool.not_or, Bool.not_not]
theorem areAll_c (A : Option Addr) (n c : Nat) (xs : List Int) (fv : Value) (dom : Int → Prop) (p : Int → Bool) (w : World) (hr : RC w A n xs) (hf : FnB Tryz.prog fv dom p w) (hd : ∀ x ∈ xs, dom x) :
    Calls Tryz.prog 103 #[.slice A n c, fv] w fun e w' => e = .returned (.bool (xs.all p)) ∧ Below w.heap.size w w' := by
  have hb1 : Below w.heap.size w (w.alloc (.cells #[fv] 51)) := (Below.refl _ w).alloc (Nat.le_refl _) _
  have hc := containsFunc_c A n c xs _ dom (fun x => !p x) (w.alloc (.cells #[fv] 51)) (Kd.C_below hr hb1) (areAll1_f w.heap.size fv dom p _ (Boxed.new w _ fv) (hf.later hb1)) hd
  have he := all_not_any p xs
  rw [he]
  have HC := Aside0.mk hc
  have HB := Aside0.mk hb1
  clear hc hr hd he hb1
  obtain ⟨g, fs, lb, rfl, eg, hcall⟩ := hf
  clear hcall eg
  generalize (xs.any fun x => !p x) = r at HC ⊢
  go_enter Tryz.func103, Tryz.ntmps103
  go_wp2_with (go_at_call 109; refine HC.out.mono ?_; rintro e w' ⟨rfl, hb⟩)
  go_ret
  exact ⟨rfl, below_in HB.out hb⟩
abbrev Asc (xs : List Int) : Prop := xs.Pairwise (· < ·)
theorem Asc.lt {xs : List Int} (h : Asc xs) {i j : Nat} (hij : i < j) (hj : j < xs.length) : xs[i]?.getD 0 < xs[j]?.getD 0 := by
  rw [List.getElem?_eq_getElem (show i < xs.length by omega), List.getElem?_eq_getElem hj]
  exact List.pairwise_iff_getElem.1 h i j (by omega) hj hij
theorem mem_of_at {xs : List Int} {i : Nat} {x : Int} (hi : i < xs.length) (h : xs[i]?.getD 0 = x) : x ∈ xs := by
  rw [List.getElem?_eq_getElem hi] at h
  have h' : xs[i] = x := h
  rw [← h']
  exact List.getElem_mem hi
theorem not_mem_of {xs : List Int} {i : Nat} {x : Int} (_ : Asc xs) (h1 : ∀ k, k < i → xs[k]?.getD 0 < x) (h2 : ∀ k, i ≤ k → k < xs.length → x < xs[k]?.getD 0) : ¬ x ∈ xs := by
  intro hm
  obtain ⟨j, hj, rfl⟩ := List.mem_iff_getElem.1 hm
  rcases Nat.lt_or_ge j i with h | h
  · have := h1 j h; rw [List.getElem?_eq_getElem hj] at this; simp at this
  · have := h2 j h hj; rw [List.getElem?_eq_getElem hj] at this; simp at this
def BSPost (xs : List Int) (x : Int) (w : World) (e : Ending) (w' : World) : Prop := ∃ i : Int, e = .returned (.tuple #[.int .i64 i, .bool (decide (x ∈ xs))]) ∧ w = w'
set_option maxRecDepth 100000 in
set_option maxHeartbeats 1000000 in
theorem bsearch_c (A : Option Addr) (n c : Nat) (xs : List Int) (x : Int) (w : World) (hr : RC w A n xs) (hn : n ≤ 4611686018427387904) (ha : Asc xs) :
    Calls Tryz.prog 111 #[.slice A n c, .int .i64 x] w (BSPost xs x w) := by
  have hl := hr.len
  have HR := Aside0.mk hr
  have HL := Aside0.mk hl.1
  have HA := Aside0.mk ha
  clear hr hl ha
  go_enter Tryz.func111, Tryz.ntmps111
  go_wp2
  go_loop [7, 8] (fun s7 s8 => ∃ i j : Nat, i ≤ j ∧ j ≤ n ∧ s7 = .int .i64 i ∧ s8 = .int .i64 j ∧ Aside0 ((∀ k, k < i → xs[k]?.getD 0 < x) ∧ (∀ k, j ≤ k → k < n → x ≤ xs[k]?.getD 0))) (fun s7 s8 => (intOf s8 - intOf s7).toNat)
  case atStart => exact ⟨0, n, by omega, by omega, rfl, rfl, ⟨fun k hk => absurd hk (Nat.not_lt_zero _), fun k h1 h2 => by omega⟩⟩
  case round =>
    obtain ⟨i, j, hij, hjn, rfl, rfl, hI⟩ := hrel
    by_cases hlt : i < j
    · have hltz : (i : Int) < (j : Int) := by omega
      obtain ⟨h, hh⟩ : ∃ h : Nat, (i + j) / 2 = h := ⟨_, rfl⟩
      have hhn : h < n := by omega
      have hd : ((i : Int) + (j : Int)) / 2 = (h : Int) := by omega
      obtain ⟨ad, rfl, hcell⟩ := HR.out.at_ (Below.refl _ _) hhn
      obtain ⟨y, hy⟩ : ∃ y, xs[h]?.getD 0 = y := ⟨_, rfl⟩
      rw [hy] at hcell
      have HY := Aside0.mk hy
      have HH := Aside0.mk hh
      clear hy hh
      go_wp2_with (go_at_call 112; refine (less_c _ _ _).mono ?_; rintro e w' ⟨rfl, rfl⟩)
      · go_roundw
        case measure => simp [intOf]; omega
        case rel =>
          refine ⟨h + 1, j, by have := HH.out; omega, hjn, by go_num, rfl, ⟨fun k hk => ?_, hI.out.2⟩⟩
          have hyx : y < x := by assumption
          rcases Nat.lt_or_ge k h with h1 | h1
          · have := HA.out.lt h1 (by rw [HL.out]; exact hhn); rw [HY.out] at this; omega
          · obtain rfl : k = h := by omega
            rw [HY.out]; exact hyx
      · go_roundw
        case measure => have := HH.out; simp [intOf]; omega
        case rel =>
          refine ⟨i, h, by have := HH.out; omega, by omega, rfl, rfl, ⟨hI.out.1, fun k h1 h2 => ?_⟩⟩
          have hyx : x ≤ y := by assumption
          rcases Nat.lt_or_ge h k with h3 | h3
          · have := HA.out.lt h3 (by rw [HL.out]; exact h2); rw [HY.out] at this; omega
          · obtain rfl : k = h := by omega
            rw [HY.out]; exact hyx
    · obtain rfl : i = j := by omega
      have hltz : ¬ (i : Int) < (i : Int) := by omega
      by_cases hin : i < n
      · obtain ⟨ad, rfl, hcell⟩ := HR.out.at_ (Below.refl _ _) hin
        obtain ⟨y, hy⟩ : ∃ y, xs[i]?.getD 0 = y := ⟨_, rfl⟩
        rw [hy] at hcell
        have HY := Aside0.mk hy
        clear hy
        have hinz : (i : Int) < (n : Int) := by omega
        by_cases hxy : y = x
        · have hyx : (y == x) = true := by simpa using hxy
          go_wp2
          go_ret2
          refine ⟨(i : Int), ?_, rfl⟩
          rw [decide_eq_true (mem_of_at (by rw [HL.out]; exact hin) (HY.out.trans hxy))]; rfl
        · have hyx : (y == x) = false := by simpa using hxy
          go_wp2
          go_ret2
          refine ⟨(i : Int), ?_, rfl⟩
          rw [decide_eq_false (not_mem_of (i := i) HA.out (fun k hk => hI.out.1 k hk) (fun k h1 h2 => ?_))]; rfl
          have h3 := hI.out.2 i (by omega) hin
          rw [HY.out] at h3
          rcases Nat.lt_or_ge i k with h4 | h4
          · have := HA.out.lt h4 h2; rw [HY.out] at this; omega
          · obtain rfl : k = i := by omega
            rw [HY.out]; omega
      · have hinz : ¬ (i : Int) < (n : Int) := by omega
        go_wp2
        go_ret2
        refine ⟨(i : Int), ?_, rfl⟩
        rw [decide_eq_false (not_mem_of (i := i) HA.out (fun k hk => hI.out.1 k hk) (fun k h1 h2 => by rw [HL.out] at h2; omega))]; rfl
theorem has_c (m : Int) (A : Option Addr) (n c : Nat) (xs : List Int) (x : Int) (w : World) (hr : RC w A n xs) (hn : n ≤ 4611686018427387904) (ha : Asc xs) :
    Calls Tryz.prog 105 #[.agg #[.int .i64 m, .slice A n c], .int .i64 x] w fun e w' => e = .returned (.bool (decide (x ∈ xs))) ∧ Below w.heap.size w w' := by
  have hb1 : Below w.heap.size w (w.alloc (.cells #[.int .i64 m, .slice A n c] 31)) := (Below.refl _ w).alloc (Nat.le_refl _) _
  have hc := bsearch_c A n c xs x _ (Kd.C_below hr hb1) hn ha
  have HC := Aside0.mk hc
  have HB := Aside0.mk hb1
  clear hc hr ha hn hb1
  unfold BSPost at HC
  generalize decide (x ∈ xs) = r at HC ⊢
  go_enter Tryz.func105, Tryz.ntmps105
  go_wp2_with (go_at_call 111; refine HC.out.mono ?_; rintro e w' ⟨i, rfl, rfl⟩)
  go_ret
  exact ⟨rfl, HB.out⟩
def codeOf (isC rng : Bool) : Int := if isC then if rng then 0 else 2 else 1
def CxAt (w : World) (b : Nat) (n : Int) (A : Option Addr) (len c : Nat) : Prop := w.heap[b]? = some (.cells #[.int .i64 n, .slice A len c] 31 (0, 0))
theorem CxAt.lt {w : World} {b : Nat} {n : Int} {A : Option Addr} {len c : Nat} (h : CxAt w b n A len c) : b < w.heap.size := (Array.getElem?_eq_some_iff.1 h).1
theorem CxAt.below {w w1 : World} {b : Nat} {n : Int} {A : Option Addr} {len c : Nat} (h : CxAt w b n A len c) (hb : Below w.heap.size w w1) : CxAt w1 b n A len c := (hb.block b h.lt).trans h
theorem CxAt.c0 {w : World} {b : Nat} {n : Int} {A : Option Addr} {len c : Nat} (h : CxAt w b n A len c) : w.cell? ⟨b, 0, none⟩ = some (.int .i64 n) := (cell_of_row w b 0 _ _ _ h).trans rfl
theorem CxAt.c1 {w : World} {b : Nat} {n : Int} {A : Option Addr} {len c : Nat} (h : CxAt w b n A len c) : w.cell? ⟨b, 1, none⟩ = some (.slice A len c) := (cell_of_row w b 1 _ _ _ h).trans rfl
theorem CxAt.keep {w w1 : World} {b : Nat} {n : Int} {A : Option Addr} {len c : Nat} (h : CxAt w b n A len c) (hb : Below w.heap.size w w1) : w1.cell? ⟨b, 0, none⟩ = some (.int .i64 n) ∧ w1.cell? ⟨b, 1, none⟩ = some (.slice A len c) := ⟨(h.below hb).c0, (h.below hb).c1⟩
theorem CxAt.fz {w : World} {b : Nat} {n : Int} {A : Option Addr} {len c : Nat} (h : CxAt w b n A len c) : w.frozen? ⟨b, 1, none⟩ = false := blk_frozen h 1
theorem CxAt.grown {w w1 : World} {b : Nat} {n : Int} {A : Option Addr} {len c base : Nat} {v : Value} {xs : List Int} (h : CxAt w b n A len c) (hg : w.grownBy w1 v.ownBlock) (hR : RO w base v xs) : CxAt w1 b n A len c :=
  (hg.block b h.lt (Kd.R_ne hR h (by decide))).trans h
theorem CxAt.set {w : World} {b : Nat} {n : Int} {A : Option Addr} {len c : Nat} (h : CxAt w b n A len c) (A' : Option Addr) (len' c' : Nat) : CxAt (w.setCell ⟨b, 1, none⟩ (.slice A' len' c')) b n A' len' c' := by
  unfold CxAt at h ⊢
  simp [World.setCell, Array.getElem?_modify, h]
theorem CxAt.set0 {w : World} {b : Nat} {n : Int} {A : Option Addr} {len c : Nat} (h : CxAt w b n A len c) (n' : Int) : CxAt (w.setCell ⟨b, 0, none⟩ (.int .i64 n')) b n' A len c := by
  unfold CxAt at h ⊢
  simp [World.setCell, Array.getElem?_modify, h]
theorem CxAt.far {w : World} {b : Nat} {n : Int} {A : Option Addr} {len c : Nat} (h : CxAt w b n A len c) {b' o : Nat} (hne : b ≠ b') (u : Value) : CxAt (w.setCell ⟨b', o, none⟩ u) b n A len c := (Below.heap_setCell w ⟨b', o, none⟩ u b hne).trans h
theorem RO.set {w : World} {base : Nat} {v : Value} {xs : List Int} (h : RO w base v xs) {b : Nat} {n : Int} {A : Option Addr} {len c : Nat} (hb : CxAt w b n A len c) (o : Nat) (u : Value) : RO (w.setCell ⟨b, o, none⟩ u) base v xs := Kd.R_set h hb (by decide) o u
theorem undrew {w w1 : World} (h : Below w.drew.heap.size w.drew w1) : Below w.heap.size w w1 := ⟨h.os, h.tape, h.output, h.size, h.block⟩
theorem CxAt.new (w : World) (n : Int) (A : Option Addr) (len c : Nat) : CxAt (w.alloc (.cells #[.int .i64 n, .slice A len c] 31)) w.heap.size n A len c := heap_alloc_new w _
theorem has_f (m : Int) (A : Option Addr) (n c : Nat) (xs : List Int) (w : World) (hr : RC w A n xs) (hn : n ≤ 4611686018427387904) (ha : Asc xs) :
    FnB Tryz.prog (.func (.func 105) #[.agg #[.int .i64 m, .slice A n c]] #[]) (fun _ => True) (fun x => decide (x ∈ xs)) w :=
  ⟨_, _, _, rfl, enters_of Tryz.func105 (by kernel_rfl) rfl, fun W x hW _ => has_c m A n c xs x W (Kd.C_below hr hW) hn ha⟩
set_option maxRecDepth 100000 in
set_option maxHeartbeats 1000000 in
theorem isComplex1_f (b : Nat) (m : Int) (A : Option Addr) (n c : Nat) (xs : List Int) (w : World) (hb : CxAt w b m A n c) (hr : RC w A n xs) (hn : n ≤ 4611686018427387904) (ha : Asc xs) :
    FnB Tryz.prog (.func (.func 104) #[] #[.pointer (some ⟨b, 0, none⟩)]) (fun _ => True) (fun x => (bordersL x).all fun y => decide (y ∈ xs)) w := by
  refine ⟨_, _, _, rfl, enters_of Tryz.func104 (by kernel_rfl) rfl, fun W x hW _ => ?_⟩
  have hr' := Kd.C_below hr hW
  have hb' := hb.below hW
  clear hb hr hW
  show Calls Tryz.prog 104 #[.int .i64 x, .pointer (some ⟨b, 0, none⟩)] W fun e w' => e = .returned (.bool ((bordersL x).all fun y => decide (y ∈ xs))) ∧ Below W.heap.size W w'
  have HR := Aside0.mk hr'
  have HA := Aside0.mk ha
  have HBK := Aside0.mk hb'
  have h0 := hb'.c0
  have h1 := hb'.c1
  go_enter Tryz.func104, Tryz.ntmps104
  go_wp2
  go_region_held3 (fun w' : World => w'.cell? ⟨b, 0, none⟩ = some (.int .i64 m) ∧ w'.cell? ⟨b, 1, none⟩ = some (.slice A n c)) (first | exact ⟨h0, h1⟩ | exact HBK.out.keep (by assumption)) (first | (go_at_call 27; refine (borders_c _ _).mono ?_; rintro e w1 ⟨v, rfl, hv, hbv⟩; have hb1 := undrew hbv; obtain ⟨Av, cv, rfl⟩ := Kd.R_slice hv) | (go_at_call 103; refine (areAll_c _ _ _ _ _ _ _ _ (Kd.R_reads' hv).2.2 (has_f m A n c xs _ (Kd.C_below HR.out hb1) hn HA.out) (fun _ _ => trivial)).mono ?_; rintro e w2 ⟨rfl, hb2⟩; have hb3 := below_in hb1 hb2))
  all_goals
    go_wp2
    go_ret
    exact ⟨rfl, hb3⟩
def okAt (n : Int) (xs : List Int) (i : Nat) : Bool := withinB (xs[i]?.getD 0) 1 (fullZ n) && (i == 0 || decide (xs[i - 1]?.getD 0 < xs[i]?.getD 0))
def ascB (n : Int) (xs : List Int) : Bool := (List.range xs.length).all (okAt n xs)
theorem ascB_asc {n : Int} {xs : List Int} (h : ascB n xs = true) : Asc xs := by
  have ha : ∀ i, i < xs.length → okAt n xs i = true := by simpa [ascB] using h
  have step : ∀ i, i + 1 < xs.length → xs[i]?.getD 0 < xs[i + 1]?.getD 0 := by
    intro i hi
    have := ha (i + 1) hi
    simp only [okAt, Bool.and_eq_true, Bool.or_eq_true, decide_eq_true_eq] at this
    rcases this.2 with h | h
    · simp at h
    · simpa using h
  have all : ∀ d i, i + d + 1 < xs.length → xs[i]?.getD 0 < xs[i + d + 1]?.getD 0 := by
    intro d
    induction d with
    | zero => intro i hi; exact step i hi
    | succ d ih => intro i hi; exact Int.lt_trans (ih i (by omega)) (step (i + d + 1) hi)
  refine List.pairwise_iff_getElem.2 fun i j hi hj hij => ?_
  have := all (j - i - 1) i (by omega)
  rw [show i + (j - i - 1) + 1 = j by omega, List.getElem?_eq_getElem hi, List.getElem?_eq_getElem hj] at this
  exact this
theorem ascB_no {n : Int} {xs : List Int} {i : Nat} (hi : i < xs.length) (h : okAt n xs i = false) : ascB n xs = false := by
  rw [Bool.eq_false_iff]
  intro ht
  have ha : ∀ i, i < xs.length → okAt n xs i = true := by simpa [ascB] using ht
  rw [ha i hi] at h
  cases h
theorem ascB_yes {n : Int} {xs : List Int} (h : ∀ i, i < xs.length → okAt n xs i = true) : ascB n xs = true := by simpa [ascB] using h
theorem okAt_next {n : Int} {xs : List Int} {k : Nat} (h : ∀ j, j < k → okAt n xs j = true) (hk : okAt n xs k = true) : ∀ j, j < k + 1 → okAt n xs j = true := fun j hj => by
  rcases Nat.lt_or_ge j k with h1 | h1
  · exact h j h1
  · obtain rfl : j = k := by omega
    exact hk
def closedB (xs : List Int) : Bool := xs.all fun f => (bordersL f).all fun y => decide (y ∈ xs)
def isC (n : Int) (xs : List Int) : Bool := withinB n 1 6 && (ascB n xs && closedB xs)
set_option maxRecDepth 100000 in
set_option maxHeartbeats 2000000 in
theorem isComplex_c (m : Int) (A : Option Addr) (n c : Nat) (xs : List Int) (w : World) (hr : RC w A n xs) (hn : n ≤ 4611686018427387904) :
    Calls Tryz.prog 84 #[.agg #[.int .i64 m, .slice A n c]] w fun e w' => e = .returned (.bool (isC m xs)) ∧ Below w.heap.size w w' := by
  have hbk := CxAt.new w m A n c
  have hb1 : Below w.heap.size w (w.alloc (.cells #[.int .i64 m, .slice A n c] 31)) := (Below.refl _ w).alloc (Nat.le_refl _) _
  have HBK := Aside0.mk hbk
  have HB1 := Aside0.mk hb1
  have HR := Aside0.mk hr
  have HL := Aside0.mk hr.len.1
  clear hbk hb1 hr
  cases hs : withinB m 1 6 with
  | false =>
    have he : isC m xs = false := by simp [isC, hs]
    have hsz := isSize_c m
    rw [hs] at hsz
    have HS := Lib.hid hsz
    rw [he]
    clear hs he hsz
    go_enter Tryz.func84, Tryz.ntmps84
    go_wp2_with (go_at_call 100; refine (HS.out _).mono ?_; rintro e w' ⟨rfl, rfl⟩)
    go_ret
    exact ⟨rfl, HB1.out⟩
  | true =>
    have hsz := isSize_c m
    rw [hs] at hsz
    have HS := Lib.hid hsz
    have hm : 1 ≤ m ∧ m ≤ 6 := by simpa [withinB] using hs
    obtain ⟨hm1, hm6⟩ := hm
    have HE : Aside0 (isC m xs = (ascB m xs && closedB xs)) := ⟨by simp [isC, hs]⟩
    clear hs hsz
    go_enter Tryz.func84, Tryz.ntmps84
    go_wp2_with (go_at_call 100; refine (HS.out _).mono ?_; rintro e w' ⟨rfl, rfl⟩)
    go_loopw [3, 4, 12] (fun _ _ i wr => ∃ k : Nat, k ≤ n ∧ i = .int .i64 k ∧ Aside0 (Below w.heap.size w wr) ∧ Aside0 (CxAt wr w.heap.size m A n c) ∧ Aside0 (∀ j, j < k → okAt m xs j = true)) (fun _ _ i _ => n - (intOf i).toNat)
    case atStart => exact ⟨0, by omega, rfl, HB1, HBK, ⟨fun j hj => absurd hj (Nat.not_lt_zero _)⟩⟩
    case round =>
      obtain ⟨k, hk, rfl, hB, hK, hO⟩ := hrel
      by_cases hlt : k < n
      · have hltz : (k : Int) < (n : Int) := by omega
        obtain ⟨ad, rfl, hcell⟩ := HR.out.at_ hB.out hlt
        obtain ⟨y, hy⟩ : ∃ y, xs[k]?.getD 0 = y := ⟨_, rfl⟩
        rw [hy] at hcell
        have HY := Aside0.mk hy
        clear hy
        have k0 := hK.out.c0
        have k1 := hK.out.c1
        have hno : okAt m xs k = false → isC m xs = false := fun h => by rw [HE.out, ascB_no (by rw [HL.out]; exact hlt) h]; rfl
        have HNO := Lib.hid hno
        clear hno
        rcases Nat.eq_zero_or_pos k with hk0 | hk0
        · have hkn : ¬ 0 < k := by omega
          have HK0 := Lib.hid hk0
          clear hk0
          go_wp2_with (first
            | (go_at_call 102; refine (full_c _ _ _ hm1 hm6).mono ?_; rintro e w2 ⟨rfl, hb2⟩; have HB2 := Aside0.mk hb2; have l0 := (hK.out.keep hb2).1; have l1 := (hK.out.keep hb2).2; clear hb2)
            | (go_at_call 101; refine (within_c _ _ _ _).mono ?_; rintro e w3 ⟨rfl, rfl⟩))
          · go_roundw
            case measure => simp [intOf]; omega
            case rel =>
              have hw : withinB y 1 (fullZ m) = true := by assumption
              exact ⟨k + 1, by omega, by go_num, ⟨below_in hB.out HB2.out⟩, ⟨hK.out.below HB2.out⟩, ⟨okAt_next hO.out (by rw [okAt, HY.out, hw, HK0.out]; rfl)⟩⟩
          · have hw : ¬ withinB y 1 (fullZ m) = true := by assumption
            go_ret
            refine ⟨?_, below_in hB.out HB2.out⟩
            rw [HNO.out (by rw [okAt, HY.out, Bool.eq_false_iff.2 hw]; rfl)]; rfl
        · obtain ⟨ad', e', hprev⟩ := HR.out.at_ hB.out (show k - 1 < n by omega)
          cases e'
          obtain ⟨z, hz⟩ : ∃ z, xs[k - 1]?.getD 0 = z := ⟨_, rfl⟩
          rw [hz] at hprev
          have HZ := Aside0.mk hz
          clear hz
          have HK0 : Aside0 ((k == 0) = false) := ⟨by simp; omega⟩
          go_wp2_with (first
            | (go_at_call 102; refine (full_c _ _ _ hm1 hm6).mono ?_; rintro e w2 ⟨rfl, hb2⟩; have HB2 := Aside0.mk hb2; have l0 := (hK.out.keep hb2).1; have l1 := (hK.out.keep hb2).2; have l2 := pw_cell_below hb2 hprev; clear hb2)
            | (go_at_call 101; refine (within_c _ _ _ _).mono ?_; rintro e w3 ⟨rfl, rfl⟩))
          · have hyz : y ≤ z := by assumption
            go_ret
            refine ⟨?_, below_in hB.out HB2.out⟩
            rw [HNO.out (by rw [okAt, HY.out, HZ.out, HK0.out, decide_eq_false (by omega)]; simp)]; rfl
          · go_roundw
            case measure => simp [intOf]; omega
            case rel =>
              have hw : withinB y 1 (fullZ m) = true := by assumption
              have hyz : z < y := by assumption
              exact ⟨k + 1, by omega, by go_num, ⟨below_in hB.out HB2.out⟩, ⟨hK.out.below HB2.out⟩, ⟨okAt_next hO.out (by rw [okAt, HY.out, HZ.out, hw, decide_eq_true hyz]; simp)⟩⟩
          · have hw : ¬ withinB y 1 (fullZ m) = true := by assumption
            go_ret
            refine ⟨?_, below_in hB.out HB2.out⟩
            rw [HNO.out (by rw [okAt, HY.out, Bool.eq_false_iff.2 hw]; rfl)]; rfl
      · obtain rfl : k = n := by omega
        have hltz : ¬ (k : Int) < (k : Int) := by omega
        have hasc : ascB m xs = true := ascB_yes (fun j hj => hO.out j (by rw [HL.out] at hj; exact hj))
        have HE2 : Aside0 (isC m xs = closedB xs) := ⟨by rw [HE.out, hasc]; rfl⟩
        have HAS := Aside0.mk (ascB_asc hasc)
        have k0 := hK.out.c0
        have k1 := hK.out.c1
        clear hasc
        have hc2 := areAll_c A k c xs _ _ _ wr (Kd.C_below HR.out hB.out) (isComplex1_f w.heap.size m A k c xs wr hK.out (Kd.C_below HR.out hB.out) hn HAS.out) (fun _ _ => trivial)
        have HC2 := Aside0.mk hc2
        clear hc2
        go_wp2_with (go_at_call 103; refine HC2.out.mono ?_; rintro e w2 ⟨rfl, hb2⟩)
        go_ret
        exact ⟨by rw [HE2.out]; rfl, below_in hB.out hb2⟩
set_option maxRecDepth 100000 in
theorem complexCode_c (m : Int) (A : Option Addr) (n c : Nat) (xs : List Int) (fv : Value) (b : Bool) (w : World) (hr : RC w A n xs) (hn : n ≤ 4611686018427387904) (hf : isC m xs = true → FnU Tryz.prog fv b w) :
    Calls Tryz.prog 61 #[.agg #[.int .i64 m, .slice A n c], fv] w fun e w' => e = .returned (.int .i64 (codeOf (isC m xs) b)) ∧ Below w.heap.size w w' := by
  have hb1 : Below w.heap.size w (w.alloc (.cells #[.int .i64 m, .slice A n c] 31)) := (Below.refl _ w).alloc (Nat.le_refl _) _
  have hc := isComplex_c m A n c xs _ (Kd.C_below hr hb1) hn
  have HB1 := Aside0.mk hb1
  clear hb1 hr hn
  cases hi : isC m xs with
  | false =>
    rw [hi] at hc
    have HC := Aside0.mk hc
    clear hc hf hi
    go_enter Tryz.func61, Tryz.ntmps61
    go_wp2_with (go_at_call 84; refine HC.out.mono ?_; rintro e w2 ⟨rfl, hb2⟩)
    go_ret
    exact ⟨by cases b <;> rfl, below_in HB1.out hb2⟩
  | true =>
    rw [hi] at hc
    have HC := Aside0.mk hc
    obtain ⟨g, fs, lb, rfl, eg, hcall⟩ := hf hi
    have HF := Aside0.mk hcall
    clear hc hf hi hcall
    cases b with
    | false =>
      go_enter Tryz.func61, Tryz.ntmps61
      go_wp2_with (first | (go_at_call 84; refine HC.out.mono ?_; rintro e w2 ⟨rfl, hb2⟩; have HB2 := Aside0.mk (below_in HB1.out hb2); clear hb2) | (go_at_fn g; refine (HF.out _ HB2.out).mono ?_; rintro e w3 ⟨rfl, hb3⟩; have HB3 := Aside0.mk (below_in HB2.out hb3); clear hb3))
      go_ret
      exact ⟨rfl, HB3.out⟩
    | true =>
      go_enter Tryz.func61, Tryz.ntmps61
      go_wp2_with (first | (go_at_call 84; refine HC.out.mono ?_; rintro e w2 ⟨rfl, hb2⟩; have HB2 := Aside0.mk (below_in HB1.out hb2); clear hb2) | (go_at_fn g; refine (HF.out _ HB2.out).mono ?_; rintro e w3 ⟨rfl, hb3⟩; have HB3 := Aside0.mk (below_in HB2.out hb3); clear hb3))
      go_ret
      exact ⟨rfl, HB3.out⟩
theorem isC_of {n : Int} {xs : List Int} (h : isC n xs = true) : (1 ≤ n ∧ n ≤ 6) ∧ ascB n xs = true ∧ closedB xs = true := by
  simpa [isC, withinB, Bool.and_eq_true] using h
def SlOnly (base : Nat) (w : World) (r1 : List Int) (e : Ending) (w' : World) : Prop := ∃ v : Value, e = .returned v ∧ RO w' base v r1 ∧ Below base w w'
@[go_sem] theorem field_cx1 (a v : Value) (w : World) : (Instr.field 31 (.agg #[a, v]) 1).run Tryz.prog w = .ok v w := by simp [Instr.field, asAgg, go_sem]
@[go_sem] theorem field_cx0 (a v : Value) (w : World) : (Instr.field 31 (.agg #[a, v]) 0).run Tryz.prog w = .ok a w := by simp [Instr.field, asAgg, go_sem]
section
variable {P : Program} {ops : Array Oper} {rest : List Oper} {o : Oper} {a : Act} {Q : Exit → Act → World → Prop}
theorem ap64s {w0 W : World} (base : Nat) (hgd : o.guard = none) (s x : Operand) (t : TypeId)
    (ho : o.op = .call { callee := .builtin .append, args := #[s, x], argTypes := #[t, t] }) (ht : P.underlying t = some (.slice 2))
    (hinfo : (P.info? 2).map (fun i => (i.zero, i.size, i.bytes)) = some (some (.int .i64 0), 1, 8)) (v : Value) (xs ys : List Int) (A : Option Addr) (m c : Nat)
    (hs : a.eval s = v) (hx : a.eval x = .slice A m c) (HO : RO W base v xs) (HR : RC W A m ys) (HB : Below base w0 W) (hbase : base ≤ W.heap.size) (hl : xs.length + m ≤ 17592186044415)
    (h : ∀ v1 w1, RO w1 base v1 (xs ++ ys) → Below base w0 w1 → W.grownBy w1 v.ownBlock → (v1.ownBlock = v.ownBlock ∨ ∃ b, v1.ownBlock = some b ∧ W.heap.size ≤ b) → wpList P ops Q rest (a.put o.dst v1) w1) :
    wpList P ops Q (o :: rest) a W :=
  Kd.R_append_rows (Kd.int .i64) base hgd s x t 2 (.int .i64 0) 8 ho ht hinfo rfl (by decide) (by decide) v xs ys A m c (fun _ => True) (fun _ => False) hs hx HO HR (fun _ _ h => h) (fun _ h => h.elim) (fun _ _ => trivial) HB hbase (by omega) h
end
theorem RO.made (w : World) (base cap : Nat) (cur : Array Value) (hb : base ≤ w.heap.size) (hm : cap ≤ maxLen) (hs : cur.size = cap * 1) : RO (w.alloc (.cells cur 2)) base (.slice (some ⟨w.heap.size, 0, none⟩) 0 cap) [] :=
  RO.of_row (World.ownsRow_made w cur cap hb hm hs)
set_option maxRecDepth 100000 in
set_option maxHeartbeats 1000000 in
theorem clone_c (A : Option Addr) (n c : Nat) (xs : List Int) (w : World) (hr : RC w A n xs) (hn : n ≤ 1048576) :
    Calls Tryz.prog 89 #[.slice A n c] w (SlOnly w.heap.size w xs) := by
  have qnil : ∀ (w : World) (a : Option Addr) (n c n' c' : Nat), (binOp .eql 22 (.slice a n c) (.slice none n' c')).run Tryz.prog w = .ok (.bool a.isNone) w := fun w a n c n' c' => Lib.run_eql_slice_nil w _ _ a n c n' c' Tryz.underlying22
  cases A with
  | none =>
    have h0 : n = 0 := by
      rcases Nat.eq_zero_or_pos n with h | h
      · exact h
      · obtain ⟨ad, e, _⟩ := hr.2.2 h; cases e
    have hx : xs = [] := List.eq_nil_of_length_eq_zero (by rw [hr.1, h0])
    subst hx
    clear hr
    go_enter Tryz.func89, Tryz.ntmps89
    go_wp2
    go_ret
    exact ⟨_, rfl, Kd.R_nil _ _ _ _ _, Below.refl _ _⟩
  | some ad =>
    have hb1 : Below w.heap.size w (w.alloc (.cells #[] 2)) := (Below.refl _ w).alloc (Nat.le_refl _) _
    have HR := Aside0.mk (Kd.C_below hr hb1)
    have HB := Aside0.mk hb1
    have HO := Aside0.mk (RO.made w w.heap.size 0 #[] (Nat.le_refl _) (Nat.zero_le _) rfl)
    clear hr hb1
    go_enter Tryz.func89, Tryz.ntmps89
    go_wp2_with (at_builtin; refine ap64s w.heap.size rfl (.tmp 5) (.tmp 6) 22 rfl Tryz.underlying22 info64 _ _ _ _ _ _ rfl rfl HO.out HR.out HB.out HB.out.size (by simp; omega) ?_; intro v1 w1 ho hb hg hat; clear hat hg; have H1 := Aside0.mk ho; have HB1 := Aside0.mk hb; clear ho hb)
    go_ret
    exact ⟨_, rfl, H1.out, HB1.out⟩
theorem RO.cell {W : World} {base g n cap : Nat} {ys : List Int} (h : RO W base (.slice (some ⟨g, 0, none⟩) n cap) ys) {j : Nat} (hj : j < n) : W.cell? ⟨g, j, none⟩ = some (.int .i64 (ys[j]?.getD 0)) ∧ W.frozen? ⟨g, j, none⟩ = false := by
  have := Kd.R_celln (0 : Int) h (j : Int) (by omega) (by omega)
  simpa [rdOf] using this
theorem RO.put {W : World} {base g n cap : Nat} {ys : List Int} (h : RO W base (.slice (some ⟨g, 0, none⟩) n cap) ys) (j : Nat) (x : Int) : RO (W.setCell ⟨g, j, none⟩ (.int .i64 x)) base (.slice (some ⟨g, 0, none⟩) n cap) (ys.set j x) := by
  have := Kd.R_putn h (j : Int) x
  rw [Int.toNat_natCast] at this
  exact this
theorem RO.zeros {base g n cap : Nat} : ∀ (m k : Nat) (W : World) (ys : List Int), RO W base (.slice (some ⟨g, 0, none⟩) n cap) ys → ∃ zs, zs.take k = ys.take k ∧ RO (W.setCells g k (List.replicate m (.int .i64 0))) base (.slice (some ⟨g, 0, none⟩) n cap) zs
  | 0, k, W, ys, h => ⟨ys, rfl, h⟩
  | m + 1, k, W, ys, h => by
    obtain ⟨zs, hz, hR⟩ := RO.zeros m (k + 1) _ _ (h.put k 0)
    refine ⟨zs, ?_, hR⟩
    have := congrArg (List.take k) hz
    rw [List.take_take, List.take_take, show min k (k + 1) = k by omega] at this
    rw [this, List.take_set_of_le (Nat.le_refl k)]
theorem below_cells {base g : Nat} {w0 : World} (hg : base ≤ g) : ∀ (vs : List Value) (k : Nat) (W : World), Below base w0 W → Below base w0 (W.setCells g k vs)
  | [], _, W, h => h
  | v :: vs, k, W, h => below_cells hg vs (k + 1) _ (h.setCell (p := ⟨g, k, none⟩) hg v)
theorem filter_first {p : Int → Bool} {xs : List Int} {i : Nat} (hb : ∀ j, j < i → p (xs[j]?.getD 0) = false) (hi : i ≤ xs.length) : (xs.take i).filter (fun x => !p x) = xs.take i := by
  refine List.filter_eq_self.2 fun x hx => ?_
  obtain ⟨j, hj, rfl⟩ := List.mem_iff_getElem.1 hx
  rw [List.length_take] at hj
  have := hb j (by omega)
  rw [List.getElem?_eq_getElem (by omega)] at this
  simpa using this
theorem firstI_at {p : Int → Bool} {xs : List Int} (h : xs.any p = true) : ∃ i : Nat, firstI p xs = (i : Int) ∧ i < xs.length ∧ p (xs[i]?.getD 0) = true ∧ ∀ j, j < i → p (xs[j]?.getD 0) = false := by
  have hl : xs.findIdx p < xs.length := List.findIdx_lt_length_of_exists (List.any_eq_true.1 h)
  refine ⟨xs.findIdx p, by unfold firstI; rw [if_pos h], hl, ?_, fun j hj => ?_⟩
  · rw [List.getElem?_eq_getElem hl]
    exact List.findIdx_getElem (w := hl)
  · rw [List.getElem?_eq_getElem (by omega)]
    simpa using List.not_of_lt_findIdx hj
structure DI (q : Int → Bool) (xs ys : List Int) (k j : Nat) : Prop where
  lt : k < j
  le : j ≤ xs.length
  len : ys.length = xs.length
  done : ys.take k = (xs.take j).filter q
  rest : ∀ m, j ≤ m → ys[m]? = xs[m]?
theorem DI.start {p : Int → Bool} {xs : List Int} {i : Nat} (hi : i < xs.length) (hp : p (xs[i]?.getD 0) = true) (hb : (xs.take i).filter (fun x => !p x) = xs.take i) : DI (fun x => !p x) xs xs i (i + 1) :=
  ⟨by omega, hi, rfl, by
    rw [List.take_add_one, List.filter_append, hb, List.getElem?_eq_getElem hi]
    rw [List.getElem?_eq_getElem hi] at hp
    have hp' : p xs[i] = true := hp
    simp [hp'], fun _ _ => rfl⟩
theorem DI.skip {q : Int → Bool} {xs ys : List Int} {k j : Nat} (h : DI q xs ys k j) (hj : j < xs.length) (hq : q (xs[j]?.getD 0) = false) : DI q xs ys k (j + 1) :=
  ⟨by have := h.lt; omega, hj, h.len, by
    rw [List.take_add_one, List.filter_append, h.done, List.getElem?_eq_getElem hj]
    rw [List.getElem?_eq_getElem hj] at hq
    have hq' : q xs[j] = false := hq
    simp [hq'], fun m hm => h.rest m (by omega)⟩
theorem DI.keep {q : Int → Bool} {xs ys : List Int} {k j : Nat} (h : DI q xs ys k j) (hj : j < xs.length) (hq : q (xs[j]?.getD 0) = true) : DI q xs (ys.set k (xs[j]?.getD 0)) (k + 1) (j + 1) := by
  have hk := h.lt
  have hl := h.len
  refine ⟨by omega, hj, by rw [List.length_set, hl], ?_, fun m hm => ?_⟩
  · rw [List.take_add_one (l := xs), List.filter_append, ← h.done, List.getElem?_eq_getElem hj]
    rw [List.getElem?_eq_getElem hj] at hq
    have hq' : q xs[j] = true := hq
    rw [List.take_add_one, List.take_set_of_le (Nat.le_refl k), List.getElem?_set_self (by omega)]
    simp [hq']
  · rw [List.getElem?_set_ne (by omega)]
    exact h.rest m (by omega)
theorem DI.at_ {q : Int → Bool} {xs ys : List Int} {k j : Nat} (h : DI q xs ys k j) : ys[j]?.getD 0 = xs[j]?.getD 0 := by rw [h.rest j (Nat.le_refl _)]
theorem isC_small {n : Int} {xs : List Int} (h : isC n xs = true) : xs.length ≤ 63 := by
  obtain ⟨⟨h1, h6⟩, ha, _⟩ := isC_of h
  have hb : ∀ i, i < xs.length → 1 ≤ xs[i]?.getD 0 ∧ xs[i]?.getD 0 ≤ fullZ n := fun i hi => by
    have := List.all_eq_true.1 ha i (List.mem_range.2 hi)
    simp only [okAt, withinB, Bool.and_eq_true, decide_eq_true_eq] at this
    exact this.1
  have hF : fullZ n ≤ 63 := by
    obtain rfl | rfl | rfl | rfl | rfl | rfl : n = 1 ∨ n = 2 ∨ n = 3 ∨ n = 4 ∨ n = 5 ∨ n = 6 := by omega
    all_goals decide +kernel
  have hs : ∀ i, i < xs.length → ((i : Nat) : Int) + 1 ≤ xs[i]?.getD 0 := by
    intro i
    induction i with
    | zero => intro hi; have := hb 0 hi; omega
    | succ i ih =>
      intro hi
      have h2 := ih (by omega)
      have h3 := (ascB_asc ha).lt (show i < i + 1 by omega) hi
      omega
  rcases Nat.eq_zero_or_pos xs.length with h0 | h0
  · omega
  · have := hs (xs.length - 1) (by omega)
    have := hb (xs.length - 1) (by omega)
    omega
end Go.Proofs.YtdnbmobdiidfmaaGreat.Im
namespace Go.Proofs.YtdnbmobdiidfmaaGreat.Im
open Go.RowKit Kp YtdnbmobdiidfmaaGreatW.PrintWords YtdnbmobdiidfmaaGreatW.PrintLast YtdnbmobdiidfmaaGreatW.PrintMore
def FnP (P : Program) (fv : Value) (dom : Pr → Prop) (p : Pr → Bool) (w : World) : Prop :=
  ∃ g fs lb, fv = .func (.func g) fs lb ∧ (∀ args w, (callFunc g args).run P w = .ok (.enter g args) w) ∧
    ∀ W (x : Pr), Below w.heap.size w W → dom x → Calls P g (fs ++ #[.agg #[.int .i64 x.f0, .int .i64 x.f1]] ++ lb) W fun e w' => e = .returned (.bool (p x)) ∧ Below W.heap.size W w'
theorem FnP.later {P : Program} {fv : Value} {dom : Pr → Prop} {p : Pr → Bool} {w w1 : World} (h : FnP P fv dom p w) (hb : Below w.heap.size w w1) : FnP P fv dom p w1 := by
  obtain ⟨g, fs, lb, he, hg, hc⟩ := h
  exact ⟨g, fs, lb, he, hg, fun W x hW hx => hc W x (hb.trans (hW.mono hb.size)) hx⟩
end Go.Proofs.YtdnbmobdiidfmaaGreat.Im
namespace Go.Proofs.YtdnbmobdiidfmaaGreat.Ext
open Go.RowKit Im Kp YtdnbmobdiidfmaaGreatW.PrintWords YtdnbmobdiidfmaaGreatW.PrintLast YtdnbmobdiidfmaaGreatW.PrintMore
structure Pred where
  sort : Nat
  u : Bool
  full : Bool
  pI : Int → Bool
  pP : Pr → Bool
def Pred.nul (u : Bool) : Pred := ⟨0, u, true, fun _ => true, fun _ => true⟩
def Pred.int (p : Int → Bool) : Pred := ⟨1, true, true, p, fun _ => true⟩
def Pred.face (p : Int → Bool) : Pred := ⟨1, true, false, p, fun _ => true⟩
def Pred.bad : Pred := ⟨9, true, true, fun _ => true, fun _ => true⟩
def Pred.dom (a : Pred) (x : Int) : Prop := a.full = true ∨ (0 ≤ x ∧ x ≤ 63)
def Pred.facePr (p : Pr → Bool) : Pred := ⟨2, true, false, fun _ => true, p⟩
def Pred.domP (a : Pred) (x : Pr) : Prop := a.full = true ∨ ((0 ≤ x.f0 ∧ x.f0 ≤ 63) ∧ (0 ≤ x.f1 ∧ x.f1 ≤ 63))
def okDom (a : Pred) (l : List Int) : Bool := a.full || l.all fun x => decide (0 ≤ x) && decide (x ≤ 63)
def okDomP (a : Pred) (l : List Pr) : Bool := a.full || l.all fun x => (decide (0 ≤ x.f0) && decide (x.f0 ≤ 63)) && (decide (0 ≤ x.f1) && decide (x.f1 ≤ 63))
theorem okDom_mem {a : Pred} {l : List Int} (h : okDom a l = true) : ∀ x ∈ l, a.dom x := by
  intro x hx
  rcases Bool.or_eq_true _ _ ▸ h with h | h
  · exact .inl h
  · have := List.all_eq_true.1 h x hx
    simp only [Bool.and_eq_true, decide_eq_true_eq] at this
    exact .inr this
theorem okDomP_mem {a : Pred} {l : List Pr} (h : okDomP a l = true) : ∀ x ∈ l, a.domP x := by
  intro x hx
  rcases Bool.or_eq_true _ _ ▸ h with h | h
  · exact .inl h
  · have := List.all_eq_true.1 h x hx
    simp only [Bool.and_eq_true, decide_eq_true_eq] at this
    exact .inr this
def FnOk (F : Value) (a : Pred) (w : World) : Prop :=
  (a.sort = 0 → FnU Tryz.prog F a.u w) ∧ (a.sort = 1 → FnB Tryz.prog F a.dom a.pI w) ∧ (a.sort = 2 → FnP Tryz.prog F a.domP a.pP w)
theorem FnOk.later {F : Value} {a : Pred} {w w1 : World} (h : FnOk F a w) (hb : Below w.heap.size w w1) : FnOk F a w1 :=
  ⟨fun e => (h.1 e).later hb, fun e => (h.2.1 e).later hb, fun e => (h.2.2 e).later hb⟩
theorem FnOk.nul {F : Value} {u : Bool} {w : World} (h : FnU Tryz.prog F u w) : FnOk F (Pred.nul u) w := ⟨fun _ => h, fun e => (by cases e), fun e => (by cases e)⟩
theorem FnOk.int {F : Value} {p : Int → Bool} {w : World} (h : FnB Tryz.prog F (fun _ => True) p w) : FnOk F (Pred.int p) w := ⟨fun e => (by cases e), fun _ => (by
    obtain ⟨g, fs, lb, he, hg, hc⟩ := h
    exact ⟨g, fs, lb, he, hg, fun W x hW _ => hc W x hW trivial⟩), fun e => (by cases e)⟩
theorem FnOk.face {F : Value} {p : Int → Bool} {w : World} (h : FnB Tryz.prog F (fun x => 0 ≤ x ∧ x ≤ 63) p w) : FnOk F (Pred.face p) w := ⟨fun e => (by cases e), fun _ => (by
    obtain ⟨g, fs, lb, he, hg, hc⟩ := h
    exact ⟨g, fs, lb, he, hg, fun W x hW hx => hc W x hW (hx.resolve_left (fun h_ => by cases h_))⟩), fun e => (by cases e)⟩
theorem FnOk.bad (F : Value) (w : World) : FnOk F Pred.bad w := ⟨fun e => (by cases e), fun e => (by cases e), fun e => (by cases e)⟩
theorem FnOk.facePr {F : Value} {p : Pr → Bool} {w : World} (h : FnP Tryz.prog F (fun x => (0 ≤ x.f0 ∧ x.f0 ≤ 63) ∧ (0 ≤ x.f1 ∧ x.f1 ≤ 63)) p w) : FnOk F (Pred.facePr p) w := ⟨fun e => (by cases e), fun e => (by cases e), fun _ => (by
    obtain ⟨g, fs, lb, he, hg, hc⟩ := h
    exact ⟨g, fs, lb, he, hg, fun W x hW hx => hc W x hW (hx.resolve_left (fun h_ => by cases h_))⟩)⟩
def Pred.ofU : Option Bool → Pred
  | some b => Pred.nul b
  | none => Pred.bad
def Pred.ofI (f : Int → Option Bool) : Pred := if ((List.range 64).all fun x => (f (x : Int)).isSome) = true then Pred.face (fun x => (f x).getD false) else Pred.bad
def Pred.ofP (f : Int → Int → Option Bool) : Pred := if ((List.range 64).all fun x => (List.range 64).all fun y => (f (x : Int) (y : Int)).isSome) = true then Pred.facePr (fun q => (f q.f0 q.f1).getD false) else Pred.bad
theorem ofI_face {f : Int → Option Bool} {p : Int → Bool} (h : ∀ x, 0 ≤ x → x ≤ 63 → f x = some (p x)) : (Pred.ofI f).sort = 1 ∧ (Pred.ofI f).u = true ∧ ∀ x, 0 ≤ x → x ≤ 63 → (Pred.ofI f).pI x = p x := by
  have hc : ((List.range 64).all fun x => (f (x : Int)).isSome) = true := List.all_eq_true.2 fun m hm => by
    have := List.mem_range.1 hm
    rw [h m (by omega) (by omega)]; rfl
  unfold Pred.ofI
  rw [if_pos hc]
  exact ⟨rfl, rfl, fun x h0 h6 => by simp only [Pred.face]; rw [h x h0 h6]; rfl⟩
theorem ofP_face {f : Int → Int → Option Bool} {p : Pr → Bool} (h : ∀ x y, 0 ≤ x → x ≤ 63 → 0 ≤ y → y ≤ 63 → f x y = some (p ⟨x, y⟩)) : (Pred.ofP f).sort = 2 ∧ ∀ q : Pr, 0 ≤ q.f0 → q.f0 ≤ 63 → 0 ≤ q.f1 → q.f1 ≤ 63 → (Pred.ofP f).pP q = p q := by
  have hc : ((List.range 64).all fun x => (List.range 64).all fun y => (f (x : Int) (y : Int)).isSome) = true := List.all_eq_true.2 fun m hm => List.all_eq_true.2 fun m1 hm1 => by
    have := List.mem_range.1 hm
    have := List.mem_range.1 hm1
    rw [h m m1 (by omega) (by omega) (by omega) (by omega)]; rfl
  unfold Pred.ofP
  rw [if_pos hc]
  exact ⟨rfl, fun q h0 h6 h1 h7 => by simp only [Pred.facePr]; rw [h q.f0 q.f1 h0 h6 h1 h7]; rfl⟩
theorem FnOk.ofU {o : Option Bool} {g : FuncId} {fs lb : Array Value} {W : World} (he : ∀ args w, (callFunc g args).run Tryz.prog w = .ok (.enter g args) w)
    (h : ∀ V b, Below W.heap.size W V → o = some b → Calls Tryz.prog g (fs ++ #[] ++ lb) V fun e w' => e = .returned (.bool b) ∧ Below V.heap.size V w') : FnOk (.func (.func g) fs lb) (Pred.ofU o) W := by
  cases o with
  | none => exact FnOk.bad _ _
  | some b => exact FnOk.nul ⟨g, fs, lb, rfl, he, fun V hV => h V b hV rfl⟩
theorem FnOk.ofI {f : Int → Option Bool} {g : FuncId} {fs lb : Array Value} {W : World} (he : ∀ args w, (callFunc g args).run Tryz.prog w = .ok (.enter g args) w)
    (h : ∀ V x b, Below W.heap.size W V → f x = some b → Calls Tryz.prog g (fs ++ #[.int .i64 x] ++ lb) V fun e w' => e = .returned (.bool b) ∧ Below V.heap.size V w') : FnOk (.func (.func g) fs lb) (Pred.ofI f) W := by
  unfold Pred.ofI
  split
  · rename_i hc
    refine FnOk.face ⟨g, fs, lb, rfl, he, fun V x hV hx => ?_⟩
    obtain ⟨m, rfl⟩ := Int.eq_ofNat_of_zero_le hx.1
    obtain ⟨b, hr⟩ := Option.isSome_iff_exists.1 (List.all_eq_true.1 hc m (List.mem_range.2 (by omega)))
    have := h V m b hV hr
    simp only [hr, Option.getD_some]
    exact this
  · exact FnOk.bad _ _
theorem FnOk.ofP {f : Int → Int → Option Bool} {g : FuncId} {fs lb : Array Value} {W : World} (he : ∀ args w, (callFunc g args).run Tryz.prog w = .ok (.enter g args) w)
    (h : ∀ V x y b, Below W.heap.size W V → f x y = some b → Calls Tryz.prog g (fs ++ #[.agg #[.int .i64 x, .int .i64 y]] ++ lb) V fun e w' => e = .returned (.bool b) ∧ Below V.heap.size V w') : FnOk (.func (.func g) fs lb) (Pred.ofP f) W := by
  unfold Pred.ofP
  split
  · rename_i hc
    refine FnOk.facePr ⟨g, fs, lb, rfl, he, fun V x hV hx => ?_⟩
    obtain ⟨x0, x1⟩ := x
    obtain ⟨⟨a0, a1⟩, b0, b1⟩ := hx
    simp only at a0 a1 b0 b1
    obtain ⟨m, rfl⟩ := Int.eq_ofNat_of_zero_le a0
    obtain ⟨m1, rfl⟩ := Int.eq_ofNat_of_zero_le b0
    obtain ⟨b, hr⟩ := Option.isSome_iff_exists.1 (List.all_eq_true.1 (List.all_eq_true.1 hc m (List.mem_range.2 (by omega))) m1 (List.mem_range.2 (by omega)))
    have := h V m m1 b hV hr
    simp only [hr, Option.getD_some]
    exact this
  · exact FnOk.bad _ _
end Go.Proofs.YtdnbmobdiidfmaaGreat.Ext
namespace Go.Proofs.YtdnbmobdiidfmaaGreat.Im
open Go.RowKit Go.Shelf Kp Ext YtdnbmobdiidfmaaGreatW.PrintWords YtdnbmobdiidfmaaGreatW.PrintLast YtdnbmobdiidfmaaGreatW.PrintMore
def firstP (p : Pr → Bool) (xs : List Pr) : Int := if xs.any p then (xs.findIdx p : Int) else -1
theorem firstP_hit {p : Pr → Bool} {xs : List Pr} {k : Nat} {y : Pr} (hk : k < xs.length) (hy : xs.getD k z45 = y) (hp : p y = true) (hb : ∀ j, j < k → p (xs.getD j z45) = false) : firstP p xs = (k : Int) := by
  have hxk : xs[k] = y := by rw [List.getD_eq_getElem?_getD, List.getElem?_eq_getElem hk] at hy; simpa using hy
  have ha : xs.any p = true := List.any_eq_true.2 ⟨xs[k], List.getElem_mem hk, by rw [hxk]; exact hp⟩
  have hf : xs.findIdx p = k := by
    rw [List.findIdx_eq hk]
    refine ⟨by rw [hxk]; exact hp, fun j hj => ?_⟩
    have := hb j hj
    rw [List.getD_eq_getElem?_getD, List.getElem?_eq_getElem (show j < xs.length by omega)] at this
    simpa using this
  rw [firstP, if_pos ha, hf]
theorem firstP_miss {p : Pr → Bool} {xs : List Pr} (hb : ∀ j, j < xs.length → p (xs.getD j z45) = false) : firstP p xs = -1 := by
  have ha : ¬ xs.any p = true := by
    intro h
    obtain ⟨x, hx, hp⟩ := List.any_eq_true.1 h
    obtain ⟨j, hj, rfl⟩ := List.mem_iff_getElem.1 hx
    have := hb j hj
    rw [List.getD_eq_getElem?_getD, List.getElem?_eq_getElem hj] at this
    simp at this
    rw [this] at hp; cases hp
  rw [firstP, if_neg ha]
set_option maxRecDepth 100000 in
set_option maxHeartbeats 1000000 in
theorem indexPair_c (A : Option Addr) (c : Nat) (xs : List Pr) (fv : Value) (dom : Pr → Prop) (p : Pr → Bool) (w : World) (hr : Kd.C k45 w A xs.length xs) (hf : FnP Tryz.prog fv dom p w) (hd : ∀ x ∈ xs, dom x) (hl : xs.length ≤ 1099511627776) :
    Calls Tryz.prog 31 #[.slice A xs.length c, fv] w fun e w' => e = .returned (.int .i64 (firstP p xs)) ∧ Below w.heap.size w w' := by
  obtain ⟨g, fs, lb, rfl, eg, hcall⟩ := hf
  have HR := Aside0.mk hr
  have HC := Aside0.mk hcall
  have HD := Aside0.mk hd
  clear hr hcall hd
  go_enter Tryz.func31, Tryz.ntmps31
  go_wp2
  go_loopw [5, 8] (fun _ i wr => ∃ k : Nat, k ≤ xs.length ∧ i = .int .i64 k ∧ Aside0 (Below w.heap.size w wr) ∧ Aside0 (∀ j, j < k → p (xs.getD j z45) = false)) (fun _ i _ => xs.length - (intOf i).toNat)
  case atStart => exact ⟨0, by omega, rfl, ⟨Below.refl _ _⟩, ⟨fun j hj => absurd hj (Nat.not_lt_zero _)⟩⟩
  case round =>
    obtain ⟨k, hk, rfl, hB, hA⟩ := hrel
    by_cases hlt : k < xs.length
    · have hltz : (k : Int) < (xs.length : Int) := by omega
      obtain ⟨ad, rfl, h0, h1⟩ := pair_at (Kd.C_below HR.out hB.out) k hlt
      obtain ⟨y, hy⟩ : ∃ y, xs.getD k z45 = y := ⟨_, rfl⟩
      rw [hy] at h0 h1
      have HY := Aside0.mk hy
      have hdy : dom y := by
        rw [← hy, List.getD_eq_getElem?_getD, List.getElem?_eq_getElem hlt]
        exact HD.out _ (List.getElem_mem hlt)
      have hcy := HC.out wr y hB.out hdy
      clear hy hdy
      have HCY := Aside0.mk hcy
      clear hcy
      cases hq : p y with
      | true =>
        rw [hq] at HCY
        have HQ := Aside0.mk hq
        clear hq
        go_wp2_with (go_at_fn g; refine HCY.out.mono ?_; rintro e w' ⟨rfl, hb⟩; have HB2 := Aside0.mk hb; clear hb)
        go_ret
        refine ⟨?_, below_in hB.out HB2.out⟩
        rw [firstP_hit hlt HY.out HQ.out hA.out]; rfl
      | false =>
        rw [hq] at HCY
        have HQ := Aside0.mk hq
        clear hq
        go_wp2_with (go_at_fn g; refine HCY.out.mono ?_; rintro e w' ⟨rfl, hb⟩; have HB2 := Aside0.mk hb; clear hb)
        go_roundw
        case measure => simp [intOf]; omega
        case rel =>
          refine ⟨k + 1, by omega, by go_num, ⟨below_in hB.out HB2.out⟩, ⟨fun j hj => ?_⟩⟩
          rcases Nat.lt_or_ge j k with h | h
          · exact hA.out j h
          · obtain rfl : j = k := by omega
            rw [HY.out]; exact HQ.out
    · obtain rfl : k = xs.length := by omega
      have hltz : ¬ (xs.length : Int) < (xs.length : Int) := by omega
      go_wp2
      go_ret
      refine ⟨?_, hB.out⟩
      rw [firstP_miss hA.out]; rfl
end Go.Proofs.YtdnbmobdiidfmaaGreat.Im
namespace Go.Proofs.YtdnbmobdiidfmaaGreat.Ext
open Go.RowKit Im Kp YtdnbmobdiidfmaaGreatW.PrintWords YtdnbmobdiidfmaaGreatW.PrintLast YtdnbmobdiidfmaaGreatW.PrintMore
end Go.Proofs.YtdnbmobdiidfmaaGreat.Ext
namespace Go.Proofs.YtdnbmobdiidfmaaGreat.Im
open Go.RowKit Go.Shelf Ext YtdnbmobdiidfmaaGreatW.PrintWords YtdnbmobdiidfmaaGreatW.PrintLast YtdnbmobdiidfmaaGreatW.PrintMore
theorem kept_cells {g : Nat} {w : World} {S : Nat → Prop} (hg : S g) : ∀ (vs : List Value) (k : Nat) (W : World), Kept w W S → Kept w (W.setCells g k vs) S
  | [], _, W, h => h
  | v :: vs, k, W, h => kept_cells hg vs (k + 1) _ (Kept.setCell (p := ⟨g, k, none⟩) h (.inl hg) v)
theorem RO.ok {W : World} {base : Nat} {v : Value} {xs : List Int} {ok : Nat → Prop} (h : RO W base v xs) (hk : ∀ k, v.ownBlock = some k → ok k) : Kd.R (Kd.int .i64) 2 W base ok v xs :=
  Kd.R_mono (Kd.R_tight rfl h) (fun k e => hk k e.symm)
set_option maxRecDepth 100000 in
set_option maxHeartbeats 4000000 in
theorem deleteFuncK_c (S : Nat → Prop) (v : Value) (xs : List Int) (fv : Value) (a : Pred) (w0 w : World) (HBw : Below w0.heap.size w0 w) (hoS : Kd.R (Kd.int .i64) 2 w w0.heap.size S v xs) (hn : xs.length ≤ 1048576)
    (hfn : ∀ W_, Kept w W_ S → FnOk fv a W_) (hs : a.sort = 1) (hd : ∀ x ∈ xs, a.dom x) :
    Calls Tryz.prog 69 #[v, fv] w fun e w' => ∃ v', e = .returned v' ∧ Kd.R (Kd.int .i64) 2 w' w0.heap.size (fun k_ => (S k_ ∨ w.heap.size ≤ k_)) v' (xs.filter fun x => !a.pI x) ∧ Below w0.heap.size w0 w' ∧ Kept w w' S := by
  have hfw := (hfn w (Kept.refl w S)).2.1 hs
  have ho : RO w w0.heap.size v xs := Kd.R_mono hoS (fun _ _ => trivial)
  have hS := hoS.1
  clear hoS
  obtain ⟨A0, c0, rfl⟩ := Kd.R_slice ho
  have hix := indexFunc_c A0 xs.length c0 xs fv a.dom a.pI w (Kd.R_reads' ho).2.2 hfw hd
  obtain ⟨g, fs, lb, rfl, eg, _⟩ := hfw
  have hcall : ∀ W x, Kept w W S → a.dom x → Calls Tryz.prog g (fs ++ #[.int .i64 x] ++ lb) W fun e w' => e = .returned (.bool (a.pI x)) ∧ Below W.heap.size W w' := by
    intro W x hK hx
    obtain ⟨g', fs', lb', he, _, hc⟩ := (hfn W hK).2.1 hs
    injection he with h1 h2 h3
    injection h1 with h1
    subst h1; subst h2; subst h3
    exact hc W x (Below.refl _ _) hx
  clear hfn
  obtain ⟨p, hp⟩ : ∃ p, a.pI = p := ⟨_, rfl⟩
  obtain ⟨dom, hdm⟩ : ∃ dom, a.dom = dom := ⟨_, rfl⟩
  rw [hp, hdm] at hcall
  rw [hp] at hix ⊢
  rw [hdm] at hd
  clear hp hdm hs
  cases hany : xs.any p with
  | false =>
    have he : firstI p xs = -1 := by unfold firstI; rw [hany]; rfl
    have hfl : (xs.filter fun x => !p x) = xs := by
      refine List.filter_eq_self.2 fun x hx => ?_
      have := List.any_eq_false.1 hany x hx
      simpa using this
    rw [he] at hix
    rw [hfl]
    have HI := Aside0.mk hix
    have HO := Aside0.mk ho
    have HB := Aside0.mk HBw
    have HS := Aside0.mk hS
    clear hix ho HBw hcall hany he hfl hS
    go_enter Tryz.func69, Tryz.ntmps69
    go_wp2_with (go_at_call 26; refine HI.out.mono ?_; rintro e w' ⟨rfl, hb⟩)
    go_ret
    exact ⟨_, rfl, RO.ok (Kd.R_below HO.out hb) (fun k hk => .inl (HS.out k hk)), HB.out.trans (hb.mono HB.out.size), Kept.of_below hb _⟩
  | true =>
    obtain ⟨i, hi, hil, hpi, hbi⟩ := firstI_at hany
    rw [hi] at hix
    obtain ⟨gg, cap, hvf, hgb, hgl, _⟩ := Kd.R_form ho (by omega)
    obtain ⟨rfl, rfl⟩ : A0 = some ⟨gg, 0, none⟩ ∧ c0 = cap := by injection hvf with h1 h2 h3; exact ⟨h1, h3⟩
    have hgS : S gg := hS gg rfl
    have hcapn := (Kd.R_reads' ho).2.1
    have HI := Aside0.mk hix
    have HO := Aside0.mk ho
    have HB := Aside0.mk HBw
    have HC := Aside0.mk hcall
    have HD := Aside0.mk hd
    have HP := Aside0.mk hpi
    have HF := Aside0.mk (filter_first hbi (Nat.le_of_lt hil))
    have HG := Aside0.mk hgb
    have HGS := Aside0.mk hgS
    obtain ⟨n, hnx⟩ : ∃ n, xs.length = n := ⟨_, rfl⟩
    have HN := Aside0.mk hnx
    rw [hnx] at hil hn hcapn ⊢
    rw [hnx] at HI HO
    clear hix ho HBw hcall hany hi hd hpi hbi hvf hgb hgl hnx hS hgS
    go_enter Tryz.func69, Tryz.ntmps69
    go_wp2_with (go_at_call 26; refine HI.out.mono ?_; rintro e w1 ⟨rfl, hb⟩; have HO1 := Aside0.mk (Kd.R_below HO.out hb); have HB1 := Aside0.mk (HB.out.trans (hb.mono HB.out.size)); have HK1 := Aside0.mk (Kept.of_below hb S); clear hb)
    have hst := DI.start (p := p) (by rw [HN.out]; exact hil) HP.out HF.out
    have HS := Aside0.mk hst
    clear hst
    go_loopw [5, 6] (fun vk vj wr => ∃ (k j : Nat) (ys : List Int), vk = .int .i64 k ∧ vj = .int .i64 j ∧ k < j ∧ j ≤ n ∧ Aside0 (DI (fun x => !p x) xs ys k j) ∧ Aside0 (RO wr w0.heap.size (.slice (some ⟨gg, 0, none⟩) n c0) ys) ∧ Aside0 (Below w0.heap.size w0 wr) ∧ Aside0 (Kept w wr S)) (fun _ vj _ => n - (intOf vj).toNat)
    case atStart => exact ⟨i, i + 1, xs, rfl, by go_num, by omega, by omega, HS, HO1, HB1, HK1⟩
    case round =>
      obtain ⟨k, j, ys, rfl, rfl, hkj, hjn, hD, hO, hBr, hKr⟩ := hrel
      by_cases hlt : j < n
      · have hltz : (j : Int) < (n : Int) := by omega
        have hcf := RO.cell hO.out hlt
        have hce := hcf.1
        have hkf := RO.cell hO.out (show k < n by omega)
        have hkc := hkf.1
        have hkz := hkf.2
        have hx := hD.out.at_
        have hjx : j < xs.length := by rw [HN.out]; exact hlt
        obtain ⟨y, hy⟩ : ∃ y, xs[j]?.getD 0 = y := ⟨_, rfl⟩
        rw [hx, hy] at hce
        have hdy : dom y := by
          rw [List.getElem?_eq_getElem hjx] at hy
          rw [← hy]
          exact HD.out _ (List.getElem_mem hjx)
        have hcy := HC.out wr y hKr.out hdy
        have HY := Aside0.mk hy
        have HJ := Aside0.mk hjx
        clear hy hx hdy hcf hkf hjx
        have HCY := Aside0.mk hcy
        clear hcy
        cases hq : p y with
        | true =>
          rw [hq] at HCY
          have HQ := Aside0.mk hq
          clear hq
          go_wp2_with (go_at_fn g; refine HCY.out.mono ?_; rintro e w' ⟨rfl, hb⟩; have HO2 := Aside0.mk (Kd.R_below hO.out hb); have HB2 := Aside0.mk (hBr.out.trans (hb.mono hBr.out.size)); have HK2 := Aside0.mk (Kept.below hKr.out hb); clear hb)
          go_roundw
          case measure => simp [intOf]; omega
          case rel =>
            exact ⟨_, _, _, _, _, _, _, _, _, _, _, _, _, _, _, _, _, _, _, _, _, _, _, ⟨k, j + 1, ys, rfl, by go_num, by omega, by omega, ⟨hD.out.skip HJ.out (by rw [HY.out, HQ.out]; rfl)⟩, HO2, HB2, HK2⟩, rfl⟩
        | false =>
          rw [hq] at HCY
          have HQ := Aside0.mk hq
          clear hq
          go_wp2_with (go_at_fn g; refine HCY.out.mono ?_; rintro e w' ⟨rfl, hb⟩; have HO2 := Aside0.mk (Kd.R_below hO.out hb); have HB2 := Aside0.mk (hBr.out.trans (hb.mono hBr.out.size)); have HK2 := Aside0.mk (Kept.below hKr.out hb); have hk2 := RO.cell HO2.out (show k < n by omega); have hkc2 := hk2.1; have hkz2 := hk2.2; clear hb hk2)
          go_roundw
          case measure => simp [intOf]; omega
          case rel => exact ⟨_, _, _, _, _, _, _, _, _, _, _, _, _, _, _, _, _, _, _, _, _, _, _, ⟨k + 1, j + 1, ys.set k y, by go_num, by go_num, by omega, by omega, ⟨by have := hD.out.keep HJ.out (by rw [HY.out, HQ.out]; rfl); rw [HY.out] at this; exact this⟩, ⟨RO.put HO2.out k y⟩, ⟨HB2.out.setCell (p := ⟨gg, k, none⟩) HG.out _⟩, ⟨Kept.setCell (p := ⟨gg, k, none⟩) HK2.out (.inl HGS.out) _⟩⟩, rfl⟩
      · obtain rfl : j = n := by omega
        have hltz : ¬ (j : Int) < (j : Int) := by omega
        have hcl : ∀ ty, (Builtin.clear_ #[22] ty #[.slice (some ⟨gg, k, none⟩) (j - k) (c0 - k)]).run Tryz.prog wr = .ok (.tuple #[]) (wr.setCells gg k (List.replicate (j - k) (.int .i64 0))) := fun ty =>
          Lib.run_clear_slice wr _ _ ty (.int .i64 0) Tryz.underlying22 (fun w => by kernel_rfl) rfl rfl gg k _ _ (by omega) (fun m hm => by rw [(RO.cell hO.out (show k + m < j by omega)).1]; rfl) (fun m hm => (RO.cell hO.out (show k + m < j by omega)).2)
        go_wp2
        go_ret
        obtain ⟨zs, hz, hR⟩ := RO.zeros (j - k) k _ _ hO.out
        refine ⟨_, rfl, RO.ok ?_ (fun k_ hk_ => .inl (by injection hk_ with hk_; rw [← hk_]; exact HGS.out)), below_cells HG.out _ _ _ hBr.out, kept_cells HGS.out _ _ _ hKr.out⟩
        have ht := Kd.R_take hR (m := k) (by have := (Kd.R_reads' hR).1; omega)
        rw [hz, hD.out.done, List.take_of_length_le (by rw [HN.out]; exact Nat.le_refl _)] at ht
        exact ht
end Go.Proofs.YtdnbmobdiidfmaaGreat.Im
namespace Go.Proofs.YtdnbmobdiidfmaaGreat.Im
open Go.RowKit Go.Shelf YtdnbmobdiidfmaaGreatW.PrintWords YtdnbmobdiidfmaaGreatW.PrintLast YtdnbmobdiidfmaaGreatW.PrintMore
set_option maxRecDepth 100000 in
set_option maxHeartbeats 1000000 in
theorem index_c (A : Option Addr) (n c : Nat) (xs : List Int) (y : Int) (w : World) (hr : RC w A n xs) :
    Calls Tryz.prog 52 #[.slice A n c, .int .i64 y] w fun e w' => e = .returned (.int .i64 (firstI (fun x => y == x) xs)) ∧ Below w.heap.size w w' := by
  have hl := hr.len
  have hbig := hl.2
  have HR := Aside0.mk hr
  have HL := Aside0.mk hl.1
  clear hr hl
  go_enter Tryz.func52, Tryz.ntmps52
  go_wp2
  go_loopw [5, 8] (fun _ i wr => ∃ k : Nat, k ≤ n ∧ i = .int .i64 k ∧ Aside0 (Below w.heap.size w wr) ∧ Aside0 (∀ j, j < k → (y == (xs[j]?.getD 0)) = false)) (fun _ i _ => n - (intOf i).toNat)
  case atStart => exact ⟨0, by omega, rfl, ⟨Below.refl _ _⟩, ⟨fun j hj => absurd hj (Nat.not_lt_zero _)⟩⟩
  case round =>
    obtain ⟨k, hk, rfl, hB, hA⟩ := hrel
    by_cases hlt : k < n
    · have hltz : (k : Int) < (n : Int) := by omega
      obtain ⟨ad, rfl, hcell⟩ := HR.out.at_ hB.out hlt
      obtain ⟨z, hz⟩ : ∃ z, xs[k]?.getD 0 = z := ⟨_, rfl⟩
      rw [hz] at hcell
      have HY := Aside0.mk hz
      clear hz
      cases hq : (y == z) with
      | true =>
        have HQ := Aside0.mk hq
        go_wp2
        go_ret
        refine ⟨?_, hB.out⟩
        rw [firstI_hit (p := fun x => y == x) (by rw [HL.out]; exact hlt) HY.out HQ.out hA.out]; rfl
      | false =>
        have HQ := Aside0.mk hq
        go_wp2
        go_roundw
        case measure => simp [intOf]; omega
        case rel =>
          refine ⟨k + 1, by omega, by go_num, hB, ⟨fun j hj => ?_⟩⟩
          rcases Nat.lt_or_ge j k with h | h
          · exact hA.out j h
          · obtain rfl : j = k := by omega
            rw [HY.out]; exact HQ.out
    · obtain rfl : k = n := by omega
      have hltz : ¬ (k : Int) < (k : Int) := by omega
      go_wp2
      go_ret
      refine ⟨?_, hB.out⟩
      rw [firstI_miss (p := fun x => y == x) (fun j hj => hA.out j (by rw [HL.out] at hj; exact hj))]; rfl
theorem contains_c (A : Option Addr) (n c : Nat) (xs : List Int) (y : Int) (w : World) (hr : RC w A n xs) :
    Calls Tryz.prog 33 #[.slice A n c, .int .i64 y] w fun e w' => e = .returned (.bool (xs.any fun x => y == x)) ∧ Below w.heap.size w w' := by
  rw [← firstI_nonneg]
  have hc := index_c A n c xs y w hr
  have HC := Aside0.mk hc
  clear hc hr
  generalize firstI (fun x => y == x) xs = r at HC ⊢
  go_enter Tryz.func33, Tryz.ntmps33
  go_wp2_with (go_at_call 52; refine HC.out.mono ?_; rintro e w' ⟨rfl, hb⟩)
  go_ret
  exact ⟨rfl, hb⟩
end Go.Proofs.YtdnbmobdiidfmaaGreat.Im
namespace Go.Proofs.YtdnbmobdiidfmaaGreat.Im
open Go.RowKit YtdnbmobdiidfmaaGreatW.PrintWords YtdnbmobdiidfmaaGreatW.PrintLast YtdnbmobdiidfmaaGreatW.PrintMore
theorem fullZ_le {n : Int} (h1 : 1 ≤ n) (h6 : n ≤ 6) : 1 ≤ fullZ n ∧ fullZ n ≤ 63 := by
  obtain rfl | rfl | rfl | rfl | rfl | rfl : n = 1 ∨ n = 2 ∨ n = 3 ∨ n = 4 ∨ n = 5 ∨ n = 6 := by omega
  all_goals exact ⟨by decide, by decide⟩
theorem any_congr_mem {p q : Int → Bool} : ∀ {l : List Int}, (∀ x ∈ l, p x = q x) → l.any p = l.any q
  | [], _ => rfl
  | x :: l, h => by rw [List.any_cons, List.any_cons, h x (by simp), any_congr_mem (fun y hy => h y (by simp [hy]))]
end Go.Proofs.YtdnbmobdiidfmaaGreat.Im
namespace Go.Proofs.YtdnbmobdiidfmaaGreat.Ext
open Go.RowKit Im YtdnbmobdiidfmaaGreatW.PrintWords YtdnbmobdiidfmaaGreatW.PrintLast YtdnbmobdiidfmaaGreatW.PrintMore
def impl_Complex_has.f (a0_0 : Int) (l0_1 : List Int) (a1 : Int) : Option Bool := if l0_1.length ≤ 4611686018427387904 ∧ Asc l0_1 then some (decide (a1 ∈ l0_1)) else none
theorem impl_Complex_has.calls (a0_0 : Int) (A0_1 : Option Addr) (c0_1 : Nat) (l0_1 : List Int) (a1 : Int) (r : Bool) (w : World) (hr0_1 : Kd.C (Kd.int .i64) w A0_1 l0_1.length l0_1) (_hc0_1 : l0_1.length ≤ c0_1) (h : impl_Complex_has.f a0_0 l0_1 a1 = some r) :
    Calls Tryz.prog 105 #[.agg #[.int .i64 a0_0, .slice A0_1 l0_1.length c0_1], .int .i64 a1] w fun e w' => e = .returned (.bool r) ∧ Below w.heap.size w w' := by
  unfold impl_Complex_has.f at h
  by_cases hl : l0_1.length ≤ 4611686018427387904 ∧ Asc l0_1
  · rw [if_pos hl] at h
    obtain rfl := Option.some.inj h
    exact has_c a0_0 A0_1 l0_1.length c0_1 l0_1 a1 w hr0_1 hl.1 hl.2
  · rw [if_neg hl] at h; cases h
end Go.Proofs.YtdnbmobdiidfmaaGreat.Ext
namespace Go.Proofs.YtdnbmobdiidfmaaGreat.Ext
open Go.RowKit Im  YtdnbmobdiidfmaaGreatW.PrintWords YtdnbmobdiidfmaaGreatW.PrintLast YtdnbmobdiidfmaaGreatW.PrintMore
def impl_complexCode.f (a0_0 : Int) (l0_1 : List Int) (a1 : Pred) : Option (Int) := if l0_1.length ≤ 4611686018427387904 ∧ (isC a0_0 l0_1 = true → a1.sort = 0) then some (codeOf (isC a0_0 l0_1) a1.u) else none
theorem impl_complexCode.calls (a0_0 : Int) (A0_1 : Option Addr) (c0_1 : Nat) (l0_1 : List Int) (F1 : Value) (a1 : Pred) (r : Int) (w : World) (hr0_1 : Kd.C (Kd.int .i64) w A0_1 l0_1.length l0_1) (_hc0_1 : l0_1.length ≤ c0_1) (hq1 : FnOk F1 a1 w) (h : impl_complexCode.f a0_0 l0_1 a1 = some r) :
    Calls Tryz.prog 61 #[.agg #[.int .i64 a0_0, .slice A0_1 l0_1.length c0_1], F1] w fun e w' => e = .returned (.int .i64 r) ∧ Below w.heap.size w w' := by
  unfold impl_complexCode.f at h
  by_cases hl : l0_1.length ≤ 4611686018427387904 ∧ (isC a0_0 l0_1 = true → a1.sort = 0)
  · rw [if_pos hl] at h
    have hd := Option.some.inj h
    rw [← hd]
    exact complexCode_c a0_0 A0_1 l0_1.length c0_1 l0_1 _ a1.u w hr0_1 hl.1 (fun h => hq1.1 (hl.2 h))
  · rw [if_neg hl] at h; cases h
def slices_Clone_int64_int64.f (l0 : List Int) : Option (List Int) := if l0.length ≤ 1048576 then some (l0) else none
theorem slices_Clone_int64_int64.calls (A0 : Option Addr) (c0 : Nat) (l0 : List Int) (r : List Int) (w : World) (hr0 : Kd.C (Kd.int .i64) w A0 l0.length l0) (_hc0 : l0.length ≤ c0) (h : slices_Clone_int64_int64.f l0 = some r) :
    Calls Tryz.prog 89 #[.slice A0 l0.length c0] w fun e w' => ∃ v0_ : Value, e = .returned (v0_) ∧ Kd.R (Kd.int .i64) 2 w' w.heap.size (fun _ => True) v0_ r ∧ Below w.heap.size w w' := by
  unfold slices_Clone_int64_int64.f at h
  by_cases hl : l0.length ≤ 1048576
  · rw [if_pos hl] at h
    have hd := Option.some.inj h
    rw [← hd]
    exact clone_c A0 l0.length c0 l0 w hr0 hl
  · rw [if_neg hl] at h; cases h
end Go.Proofs.YtdnbmobdiidfmaaGreat.Ext
namespace Go.Proofs.YtdnbmobdiidfmaaGreat.Ext
open Go.RowKit Im Kp YtdnbmobdiidfmaaGreatW.PrintWords YtdnbmobdiidfmaaGreatW.PrintLast YtdnbmobdiidfmaaGreatW.PrintMore
def slices_Contains_int64_int64.f (l0 : List Int) (a1 : Int) : Option (Bool) := if l0.length ≤ 1099511627776 then some (l0.any fun x => a1 == x) else none
theorem slices_Contains_int64_int64.calls (A0 : Option Addr) (c0 : Nat) (l0 : List Int) (a1 : Int) (r : Bool) (w : World) (hr0 : Kd.C (Kd.int .i64) w A0 l0.length l0) (_hc0 : l0.length ≤ c0) (h : slices_Contains_int64_int64.f l0 a1 = some r) :
    Calls Tryz.prog 33 #[.slice A0 l0.length c0, .int .i64 a1] w fun e w' => e = .returned (.bool r) ∧ Below w.heap.size w w' := by
  unfold slices_Contains_int64_int64.f at h
  by_cases hl : l0.length ≤ 1099511627776
  · rw [if_pos hl] at h
    have hd := Option.some.inj h
    rw [← hd]
    exact contains_c A0 l0.length c0 l0 a1 w hr0
  · rw [if_neg hl] at h; cases h
def slices_DeleteFunc_int64_int64.f (l0 : List Int) (a1 : Pred) : Option (List Int) := if l0.length ≤ 1048576 ∧ a1.sort = 1 ∧ okDom a1 l0 = true then some (l0.filter fun x => !a1.pI x) else none
theorem slices_DeleteFunc_int64_int64.calls (P0_ : Nat → Prop) (u9000_ : Value) (l0 : List Int) (F1 : Value) (a1 : Pred) (r : List Int) (w0 w : World) (hB : Below w0.heap.size w0 w) (ho0 : Kd.R (Kd.int .i64) 2 w w0.heap.size P0_ u9000_ l0) (hq1 : ∀ W_, Kept w W_ (fun k_ => P0_ k_) → FnOk F1 a1 W_) (h : slices_DeleteFunc_int64_int64.f l0 a1 = some r) :
    Calls Tryz.prog 69 #[u9000_, F1] w fun e w' => ∃ v0_ : Value, e = .returned (v0_) ∧ Kd.R (Kd.int .i64) 2 w' w0.heap.size (fun k_ => (P0_ k_ ∨ w.heap.size ≤ k_)) v0_ r ∧ Below w0.heap.size w0 w' ∧ Kept w w' (fun k_ => P0_ k_) := by
  unfold slices_DeleteFunc_int64_int64.f at h
  by_cases hl : l0.length ≤ 1048576 ∧ a1.sort = 1 ∧ okDom a1 l0 = true
  · rw [if_pos hl] at h
    have hd := Option.some.inj h
    rw [← hd]
    exact deleteFuncK_c P0_ u9000_ l0 F1 a1 w0 w hB ho0 hl.1 hq1 hl.2.1 (okDom_mem hl.2.2)
  · rw [if_neg hl] at h; cases h
def impl_isIn.f (a0 : Int) (a1 : Int) : Option (Bool) := if True then some (Go.bits .andNot .i64 a0 a1 == 0) else none
theorem impl_isIn.calls (a0 : Int) (a1 : Int) (r : Bool) (w : World)  (h : impl_isIn.f a0 a1 = some r) :
    Calls Tryz.prog 106 #[.int .i64 a0, .int .i64 a1] w fun e w' => e = .returned (.bool r) ∧ Below w.heap.size w w' := by
  unfold impl_isIn.f at h
  by_cases hl : True
  · rw [if_pos hl] at h
    have hd := Option.some.inj h
    rw [← hd]
    exact (isIn_c a0 a1 w).mono (by rintro e w' ⟨rfl, rfl⟩; exact ⟨rfl, Below.refl _ _⟩)
  · rw [if_neg hl] at h; cases h
def impl_borders.f (a0 : Int) : Option (List Int) := if True then some (bordersL a0) else none
theorem impl_borders.calls (a0 : Int) (r : List Int) (w : World)  (h : impl_borders.f a0 = some r) :
    Calls Tryz.prog 27 #[.int .i64 a0] w fun e w' => ∃ v0_ : Value, e = .returned (v0_) ∧ Kd.R (Kd.int .i64) 2 w' w.heap.size (fun _ => True) v0_ r ∧ Below w.heap.size w w' := by
  unfold impl_borders.f at h
  by_cases hl : True
  · rw [if_pos hl] at h
    have hd := Option.some.inj h
    rw [← hd]
    exact borders_c a0 w
  · rw [if_neg hl] at h; cases h
def slices_IndexFunc_impl_Pair_impl_Pair.f (l0 : List S45) (a1 : Pred) : Option (Int) := if l0.length ≤ 1099511627776 ∧ a1.sort = 2 ∧ okDomP a1 l0 = true then some (firstP a1.pP l0) else none
theorem slices_IndexFunc_impl_Pair_impl_Pair.calls (A0 : Option Addr) (c0 : Nat) (l0 : List S45) (F1 : Value) (a1 : Pred) (r : Int) (w : World) (hr0 : Kd.C k45 w A0 l0.length l0) (_hc0 : l0.length ≤ c0) (hq1 : FnOk F1 a1 w) (h : slices_IndexFunc_impl_Pair_impl_Pair.f l0 a1 = some r) :
    Calls Tryz.prog 31 #[.slice A0 l0.length c0, F1] w fun e w' => e = .returned (.int .i64 r) ∧ Below w.heap.size w w' := by
  unfold slices_IndexFunc_impl_Pair_impl_Pair.f at h
  by_cases hl : l0.length ≤ 1099511627776 ∧ a1.sort = 2 ∧ okDomP a1 l0 = true
  · rw [if_pos hl] at h
    have hd := Option.some.inj h
    rw [← hd]
    exact indexPair_c A0 c0 l0 F1 a1.domP a1.pP w hr0 (hq1.2.2 hl.2.1) (okDomP_mem hl.2.2) hl.1
  · rw [if_neg hl] at h; cases h
end Go.Proofs.YtdnbmobdiidfmaaGreat.Ext
namespace Go.Proofs.YtdnbmobdiidfmaaGreat.QA
open Cw Kp Ext Go.RowKit YtdnbmobdiidfmaaGreatW.PrintWords YtdnbmobdiidfmaaGreatW.PrintLast YtdnbmobdiidfmaaGreatW.PrintMore
attribute [local go_sem] max2_int min2_int max_two min_two max_three min_three max_four min_four   -- for this text's walks alone
def errW : Option Int → Value
 | none => .nilIface
 | some c => .iface 0 (.int .i64 c)
theorem errW_none : errW none = .nilIface := rfl
theorem errW_some (c : Int) : errW (some c) = .iface 0 (.int .i64 c) := rfl
def bits_OnesCount64.f (a0 : Int) : Option (Int) := some (Go.bits .and .i64 (wrap64 (IntKind.u64.wrap ((IntKind.u64.wrap ((IntKind.u64.wrap ((Go.bits .and .u64 (IntKind.u64.wrap (((IntKind.u64.wrap ((Go.bits .and .u64 ((IntKind.u64.wrap ((Go.bits .and .u64 (a0 / 2) 6148914691236517205) + (Go.bits .and .u64 a0 6148914691236517205))) / 4) 3689348814741910323) + (Go.bits .and .u64 (IntKind.u64.wrap ((Go.bits .and .u64 (a0 / 2) 6148914691236517205) + (Go.bits .and .u64 a0 6148914691236517205))) 3689348814741910323))) / 16) + (IntKind.u64.wrap ((Go.bits .and .u64 ((IntKind.u64.wrap ((Go.bits .and .u64 (a0 / 2) 6148914691236517205) + (Go.bits .and .u64 a0 6148914691236517205))) / 4) 3689348814741910323) + (Go.bits .and .u64 (IntKind.u64.wrap ((Go.bits .and .u64 (a0 / 2) 6148914691236517205) + (Go.bits .and .u64 a0 6148914691236517205))) 3689348814741910323))))) 1085102592571150095) + ((Go.bits .and .u64 (IntKind.u64.wrap (((IntKind.u64.wrap ((Go.bits .and .u64 ((IntKind.u64.wrap ((Go.bits .and .u64 (a0 / 2) 6148914691236517205) + (Go.bits .and .u64 a0 6148914691236517205))) / 4) 3689348814741910323) + (Go.bits .and .u64 (IntKind.u64.wrap ((Go.bits .and .u64 (a0 / 2) 6148914691236517205) + (Go.bits .and .u64 a0 6148914691236517205))) 3689348814741910323))) / 16) + (IntKind.u64.wrap ((Go.bits .and .u64 ((IntKind.u64.wrap ((Go.bits .and .u64 (a0 / 2) 6148914691236517205) + (Go.bits .and .u64 a0 6148914691236517205))) / 4) 3689348814741910323) + (Go.bits .and .u64 (IntKind.u64.wrap ((Go.bits .and .u64 (a0 / 2) 6148914691236517205) + (Go.bits .and .u64 a0 6148914691236517205))) 3689348814741910323))))) 1085102592571150095) / 256))) + ((IntKind.u64.wrap ((Go.bits .and .u64 (IntKind.u64.wrap (((IntKind.u64.wrap ((Go.bits .and .u64 ((IntKind.u64.wrap ((Go.bits .and .u64 (a0 / 2) 6148914691236517205) + (Go.bits .and .u64 a0 6148914691236517205))) / 4) 3689348814741910323) + (Go.bits .and .u64 (IntKind.u64.wrap ((Go.bits .and .u64 (a0 / 2) 6148914691236517205) + (Go.bits .and .u64 a0 6148914691236517205))) 3689348814741910323))) / 16) + (IntKind.u64.wrap ((Go.bits .and .u64 ((IntKind.u64.wrap ((Go.bits .and .u64 (a0 / 2) 6148914691236517205) + (Go.bits .and .u64 a0 6148914691236517205))) / 4) 3689348814741910323) + (Go.bits .and .u64 (IntKind.u64.wrap ((Go.bits .and .u64 (a0 / 2) 6148914691236517205) + (Go.bits .and .u64 a0 6148914691236517205))) 3689348814741910323))))) 1085102592571150095) + ((Go.bits .and .u64 (IntKind.u64.wrap (((IntKind.u64.wrap ((Go.bits .and .u64 ((IntKind.u64.wrap ((Go.bits .and .u64 (a0 / 2) 6148914691236517205) + (Go.bits .and .u64 a0 6148914691236517205))) / 4) 3689348814741910323) + (Go.bits .and .u64 (IntKind.u64.wrap ((Go.bits .and .u64 (a0 / 2) 6148914691236517205) + (Go.bits .and .u64 a0 6148914691236517205))) 3689348814741910323))) / 16) + (IntKind.u64.wrap ((Go.bits .and .u64 ((IntKind.u64.wrap ((Go.bits .and .u64 (a0 / 2) 6148914691236517205) + (Go.bits .and .u64 a0 6148914691236517205))) / 4) 3689348814741910323) + (Go.bits .and .u64 (IntKind.u64.wrap ((Go.bits .and .u64 (a0 / 2) 6148914691236517205) + (Go.bits .and .u64 a0 6148914691236517205))) 3689348814741910323))))) 1085102592571150095) / 256))) / 65536))) + ((IntKind.u64.wrap ((IntKind.u64.wrap ((Go.bits .and .u64 (IntKind.u64.wrap (((IntKind.u64.wrap ((Go.bits .and .u64 ((IntKind.u64.wrap ((Go.bits .and .u64 (a0 / 2) 6148914691236517205) + (Go.bits .and .u64 a0 6148914691236517205))) / 4) 3689348814741910323) + (Go.bits .and .u64 (IntKind.u64.wrap ((Go.bits .and .u64 (a0 / 2) 6148914691236517205) + (Go.bits .and .u64 a0 6148914691236517205))) 3689348814741910323))) / 16) + (IntKind.u64.wrap ((Go.bits .and .u64 ((IntKind.u64.wrap ((Go.bits .and .u64 (a0 / 2) 6148914691236517205) + (Go.bits .and .u64 a0 6148914691236517205))) / 4) 3689348814741910323) + (Go.bits .and .u64 (IntKind.u64.wrap ((Go.bits .and .u64 (a0 / 2) 6148914691236517205) + (Go.bits .and .u64 a0 6148914691236517205))) 3689348814741910323))))) 1085102592571150095) + ((Go.bits .and .u64 (IntKind.u64.wrap (((IntKind.u64.wrap ((Go.bits .and .u64 ((IntKind.u64.wrap ((Go.bits .and .u64 (a0 / 2) 6148914691236517205) + (Go.bits .and .u64 a0 6148914691236517205))) / 4) 3689348814741910323) + (Go.bits .and .u64 (IntKind.u64.wrap ((Go.bits .and .u64 (a0 / 2) 6148914691236517205) + (Go.bits .and .u64 a0 6148914691236517205))) 3689348814741910323))) / 16) + (IntKind.u64.wrap ((Go.bits .and .u64 ((IntKind.u64.wrap ((Go.bits .and .u64 (a0 / 2) 6148914691236517205) + (Go.bits .and .u64 a0 6148914691236517205))) / 4) 3689348814741910323) + (Go.bits .and .u64 (IntKind.u64.wrap ((Go.bits .and .u64 (a0 / 2) 6148914691236517205) + (Go.bits .and .u64 a0 6148914691236517205))) 3689348814741910323))))) 1085102592571150095) / 256))) + ((IntKind.u64.wrap ((Go.bits .and .u64 (IntKind.u64.wrap (((IntKind.u64.wrap ((Go.bits .and .u64 ((IntKind.u64.wrap ((Go.bits .and .u64 (a0 / 2) 6148914691236517205) + (Go.bits .and .u64 a0 6148914691236517205))) / 4) 3689348814741910323) + (Go.bits .and .u64 (IntKind.u64.wrap ((Go.bits .and .u64 (a0 / 2) 6148914691236517205) + (Go.bits .and .u64 a0 6148914691236517205))) 3689348814741910323))) / 16) + (IntKind.u64.wrap ((Go.bits .and .u64 ((IntKind.u64.wrap ((Go.bits .and .u64 (a0 / 2) 6148914691236517205) + (Go.bits .and .u64 a0 6148914691236517205))) / 4) 3689348814741910323) + (Go.bits .and .u64 (IntKind.u64.wrap ((Go.bits .and .u64 (a0 / 2) 6148914691236517205) + (Go.bits .and .u64 a0 6148914691236517205))) 3689348814741910323))))) 1085102592571150095) + ((Go.bits .and .u64 (IntKind.u64.wrap (((IntKind.u64.wrap ((Go.bits .and .u64 ((IntKind.u64.wrap ((Go.bits .and .u64 (a0 / 2) 6148914691236517205) + (Go.bits .and .u64 a0 6148914691236517205))) / 4) 3689348814741910323) + (Go.bits .and .u64 (IntKind.u64.wrap ((Go.bits .and .u64 (a0 / 2) 6148914691236517205) + (Go.bits .and .u64 a0 6148914691236517205))) 3689348814741910323))) / 16) + (IntKind.u64.wrap ((Go.bits .and .u64 ((IntKind.u64.wrap ((Go.bits .and .u64 (a0 / 2) 6148914691236517205) + (Go.bits .and .u64 a0 6148914691236517205))) / 4) 3689348814741910323) + (Go.bits .and .u64 (IntKind.u64.wrap ((Go.bits .and .u64 (a0 / 2) 6148914691236517205) + (Go.bits .and .u64 a0 6148914691236517205))) 3689348814741910323))))) 1085102592571150095) / 256))) / 65536))) / 4294967296)))) 127)
set_option maxHeartbeats 8000000 in
set_option maxRecDepth 100000 in
theorem bits_OnesCount64.calls (a0 : Int) (r : Int) (w : World) (h : bits_OnesCount64.f a0 = some r) :
  Calls Tryz.prog 93 #[.int .u64 a0] w fun e w' => e = .returned (.int .i64 r) ∧ Drawn0 w w' := by
 have H : (some (Go.bits .and .i64 (wrap64 (IntKind.u64.wrap ((IntKind.u64.wrap ((IntKind.u64.wrap ((Go.bits .and .u64 (IntKind.u64.wrap (((IntKind.u64.wrap ((Go.bits .and .u64 ((IntKind.u64.wrap ((Go.bits .and .u64 (a0 / 2) 6148914691236517205) + (Go.bits .and .u64 a0 6148914691236517205))) / 4) 3689348814741910323) + (Go.bits .and .u64 (IntKind.u64.wrap ((Go.bits .and .u64 (a0 / 2) 6148914691236517205) + (Go.bits .and .u64 a0 6148914691236517205))) 3689348814741910323))) / 16) + (IntKind.u64.wrap ((Go.bits .and .u64 ((IntKind.u64.wrap ((Go.bits .and .u64 (a0 / 2) 6148914691236517205) + (Go.bits .and .u64 a0 6148914691236517205))) / 4) 3689348814741910323) + (Go.bits .and .u64 (IntKind.u64.wrap ((Go.bits .and .u64 (a0 / 2) 6148914691236517205) + (Go.bits .and .u64 a0 6148914691236517205))) 3689348814741910323))))) 1085102592571150095) + ((Go.bits .and .u64 (IntKind.u64.wrap (((IntKind.u64.wrap ((Go.bits .and .u64 ((IntKind.u64.wrap ((Go.bits .and .u64 (a0 / 2) 6148914691236517205) + (Go.bits .and .u64 a0 6148914691236517205))) / 4) 3689348814741910323) + (Go.bits .and .u64 (IntKind.u64.wrap ((Go.bits .and .u64 (a0 / 2) 6148914691236517205) + (Go.bits .and .u64 a0 6148914691236517205))) 3689348814741910323))) / 16) + (IntKind.u64.wrap ((Go.bits .and .u64 ((IntKind.u64.wrap ((Go.bits .and .u64 (a0 / 2) 6148914691236517205) + (Go.bits .and .u64 a0 6148914691236517205))) / 4) 3689348814741910323) + (Go.bits .and .u64 (IntKind.u64.wrap ((Go.bits .and .u64 (a0 / 2) 6148914691236517205) + (Go.bits .and .u64 a0 6148914691236517205))) 3689348814741910323))))) 1085102592571150095) / 256))) + ((IntKind.u64.wrap ((Go.bits .and .u64 (IntKind.u64.wrap (((IntKind.u64.wrap ((Go.bits .and .u64 ((IntKind.u64.wrap ((Go.bits .and .u64 (a0 / 2) 6148914691236517205) + (Go.bits .and .u64 a0 6148914691236517205))) / 4) 3689348814741910323) + (Go.bits .and .u64 (IntKind.u64.wrap ((Go.bits .and .u64 (a0 / 2) 6148914691236517205) + (Go.bits .and .u64 a0 6148914691236517205))) 3689348814741910323))) / 16) + (IntKind.u64.wrap ((Go.bits .and .u64 ((IntKind.u64.wrap ((Go.bits .and .u64 (a0 / 2) 6148914691236517205) + (Go.bits .and .u64 a0 6148914691236517205))) / 4) 3689348814741910323) + (Go.bits .and .u64 (IntKind.u64.wrap ((Go.bits .and .u64 (a0 / 2) 6148914691236517205) + (Go.bits .and .u64 a0 6148914691236517205))) 3689348814741910323))))) 1085102592571150095) + ((Go.bits .and .u64 (IntKind.u64.wrap (((IntKind.u64.wrap ((Go.bits .and .u64 ((IntKind.u64.wrap ((Go.bits .and .u64 (a0 / 2) 6148914691236517205) + (Go.bits .and .u64 a0 6148914691236517205))) / 4) 3689348814741910323) + (Go.bits .and .u64 (IntKind.u64.wrap ((Go.bits .and .u64 (a0 / 2) 6148914691236517205) + (Go.bits .and .u64 a0 6148914691236517205))) 3689348814741910323))) / 16) + (IntKind.u64.wrap ((Go.bits .and .u64 ((IntKind.u64.wrap ((Go.bits .and .u64 (a0 / 2) 6148914691236517205) + (Go.bits .and .u64 a0 6148914691236517205))) / 4) 3689348814741910323) + (Go.bits .and .u64 (IntKind.u64.wrap ((Go.bits .and .u64 (a0 / 2) 6148914691236517205) + (Go.bits .and .u64 a0 6148914691236517205))) 3689348814741910323))))) 1085102592571150095) / 256))) / 65536))) + ((IntKind.u64.wrap ((IntKind.u64.wrap ((Go.bits .and .u64 (IntKind.u64.wrap (((IntKind.u64.wrap ((Go.bits .and .u64 ((IntKind.u64.wrap ((Go.bits .and .u64 (a0 / 2) 6148914691236517205) + (Go.bits .and .u64 a0 6148914691236517205))) / 4) 3689348814741910323) + (Go.bits .and .u64 (IntKind.u64.wrap ((Go.bits .and .u64 (a0 / 2) 6148914691236517205) + (Go.bits .and .u64 a0 6148914691236517205))) 3689348814741910323))) / 16) + (IntKind.u64.wrap ((Go.bits .and .u64 ((IntKind.u64.wrap ((Go.bits .and .u64 (a0 / 2) 6148914691236517205) + (Go.bits .and .u64 a0 6148914691236517205))) / 4) 3689348814741910323) + (Go.bits .and .u64 (IntKind.u64.wrap ((Go.bits .and .u64 (a0 / 2) 6148914691236517205) + (Go.bits .and .u64 a0 6148914691236517205))) 3689348814741910323))))) 1085102592571150095) + ((Go.bits .and .u64 (IntKind.u64.wrap (((IntKind.u64.wrap ((Go.bits .and .u64 ((IntKind.u64.wrap ((Go.bits .and .u64 (a0 / 2) 6148914691236517205) + (Go.bits .and .u64 a0 6148914691236517205))) / 4) 3689348814741910323) + (Go.bits .and .u64 (IntKind.u64.wrap ((Go.bits .and .u64 (a0 / 2) 6148914691236517205) + (Go.bits .and .u64 a0 6148914691236517205))) 3689348814741910323))) / 16) + (IntKind.u64.wrap ((Go.bits .and .u64 ((IntKind.u64.wrap ((Go.bits .and .u64 (a0 / 2) 6148914691236517205) + (Go.bits .and .u64 a0 6148914691236517205))) / 4) 3689348814741910323) + (Go.bits .and .u64 (IntKind.u64.wrap ((Go.bits .and .u64 (a0 / 2) 6148914691236517205) + (Go.bits .and .u64 a0 6148914691236517205))) 3689348814741910323))))) 1085102592571150095) / 256))) + ((IntKind.u64.wrap ((Go.bits .and .u64 (IntKind.u64.wrap (((IntKind.u64.wrap ((Go.bits .and .u64 ((IntKind.u64.wrap ((Go.bits .and .u64 (a0 / 2) 6148914691236517205) + (Go.bits .and .u64 a0 6148914691236517205))) / 4) 3689348814741910323) + (Go.bits .and .u64 (IntKind.u64.wrap ((Go.bits .and .u64 (a0 / 2) 6148914691236517205) + (Go.bits .and .u64 a0 6148914691236517205))) 3689348814741910323))) / 16) + (IntKind.u64.wrap ((Go.bits .and .u64 ((IntKind.u64.wrap ((Go.bits .and .u64 (a0 / 2) 6148914691236517205) + (Go.bits .and .u64 a0 6148914691236517205))) / 4) 3689348814741910323) + (Go.bits .and .u64 (IntKind.u64.wrap ((Go.bits .and .u64 (a0 / 2) 6148914691236517205) + (Go.bits .and .u64 a0 6148914691236517205))) 3689348814741910323))))) 1085102592571150095) + ((Go.bits .and .u64 (IntKind.u64.wrap (((IntKind.u64.wrap ((Go.bits .and .u64 ((IntKind.u64.wrap ((Go.bits .and .u64 (a0 / 2) 6148914691236517205) + (Go.bits .and .u64 a0 6148914691236517205))) / 4) 3689348814741910323) + (Go.bits .and .u64 (IntKind.u64.wrap ((Go.bits .and .u64 (a0 / 2) 6148914691236517205) + (Go.bits .and .u64 a0 6148914691236517205))) 3689348814741910323))) / 16) + (IntKind.u64.wrap ((Go.bits .and .u64 ((IntKind.u64.wrap ((Go.bits .and .u64 (a0 / 2) 6148914691236517205) + (Go.bits .and .u64 a0 6148914691236517205))) / 4) 3689348814741910323) + (Go.bits .and .u64 (IntKind.u64.wrap ((Go.bits .and .u64 (a0 / 2) 6148914691236517205) + (Go.bits .and .u64 a0 6148914691236517205))) 3689348814741910323))))) 1085102592571150095) / 256))) / 65536))) / 4294967296)))) 127)) = some r := h
 clear h
 obtain rfl := Option.some.inj H
 go_enter Tryz.func93, Tryz.ntmps93
 go_wp2
 go_ret
 exact ⟨by first | rfl | (simp; done) | (simp [*]; done), by repeat (first | exact Drawn0.refl _ | apply Drawn0.step)⟩
def impl_size.f (a0 : Int) : Option (Int) := (bits_OnesCount64.f (IntKind.u64.wrap (a0))).bind fun t101 => (some t101)
set_option maxHeartbeats 8000000 in
set_option maxRecDepth 100000 in
theorem impl_size.calls (a0 : Int) (r : Int) (w : World) (h : impl_size.f a0 = some r) :
  Calls Tryz.prog 66 #[.int .i64 a0] w fun e w' => e = .returned (.int .i64 r) ∧ Drawn0 w w' := by
 have H : ((bits_OnesCount64.f (IntKind.u64.wrap (a0))).bind fun t101 => (some t101)) = some r := h
 clear h
 replace H := Option.bind_eq_some_iff.mp H
 obtain ⟨t101, A20, H⟩ := H
 try dsimp only at H
 have A2 := Aside0.mk A20
 clear A20
 obtain rfl := Option.some.inj H
 go_enter Tryz.func66, Tryz.ntmps66
 go_wp2_with (first | ((with_reducible refine gate_callee (f := 93) rfl ?_); refine cl_ (some 5) Tryz.func93 #[.int .u64 (IntKind.u64.wrap (a0))] ?_; (with_reducible refine (bits_OnesCount64.calls (IntKind.u64.wrap (a0)) t101 _ A2.out).mono ?_); rintro e w' ⟨rfl, ⟨nd, rfl⟩⟩; refine ⟨_, rfl, ?_⟩))
 go_ret
 exact ⟨by first | rfl | (simp; done) | (simp [*]; done), by repeat (first | exact Drawn0.refl _ | apply Drawn0.step)⟩
def impl_Complex_isPair.f (a0_0 : Int) (l0_1 : List Int) (a1_0 : Int) (a1_1 : Int) : Option (Bool) := (impl_Complex_has.f a0_0 l0_1 a1_0).bind fun t104 => (if t104 = true then ((impl_Complex_has.f a0_0 l0_1 a1_1).bind fun t105 => (if t105 = true then ((impl_isIn.f a1_0 a1_1).bind fun t106 => (if t106 = true then ((impl_size.f a1_1).bind fun t107 => ((impl_size.f a1_0).bind fun t108 => (some (t107 == (wrap64 (t108 + 1)))))) else (some false))) else (some false))) else (some false))
def impl_Complex_isPair.T1 : Bool × List (List Nat × List Nat) := (true, [([], []), ([], []), ([1], [1]), ([0, 2], [0, 2]), ([3, 3], [3]), ([4], [4]), ([4], [4]), ([6, 4], [4, 6]), ([5, 7, 4, 4], [4, 5, 7]), ([4, 8], [4, 8]), ([9, 8], [9]), ([10], [10]), ([11, 10], [10, 11]), ([10], [10]), ([13, 10], [10, 13]), ([12, 14, 10, 10], [10, 12, 14]), ([10, 15], [10, 15]), ([16, 15], [16]), ([17], [17]), ([18, 17], [17, 18]), ([19, 17, 17], [17, 19]), ([17], [17]), ([21, 17], [17, 21]), ([22, 20, 17], [17, 22]), ([23, 17], [17, 23]), ([20, 24, 17], [17, 20, 24]), ([17, 25], [17, 25]), ([26, 23, 0, 1, 2, 3, 4, 5, 6, 7, 8, 9, 10, 11, 12, 13, 14, 15, 16, 17, 18, 19, 20, 21, 22, 23, 24, 25, 26], [26])])
def impl_Complex_isPair.B1 : List Nat := [0, 0, 2, 7, 15, 31, 31, 95, 255, 511, 1023, 2047, 4095, 2047, 10239, 32767, 65535, 131071, 262143, 524287, 1048575, 262143, 2359295, 8388607, 16777215, 33554431, 67108863, 134217727]
theorem impl_Complex_isPair.tab1 : rtab .any (opsOf Tryz.f85 1) = impl_Complex_isPair.T1 := by kernel_rfl
theorem impl_Complex_isPair.bits1 : waitsOk impl_Complex_isPair.T1.2 impl_Complex_isPair.B1 = true := by kernel_rfl
set_option maxHeartbeats 8000000 in
set_option maxRecDepth 100000 in
theorem impl_Complex_isPair.calls (a0_0 : Int) (A0_1 : Option Addr) (c0_1 : Nat) (l0_1 : List Int) (a1_0 : Int) (a1_1 : Int) (r : Bool) (w : World) (hr0_1 : Kd.C (Kd.int .i64) w A0_1 l0_1.length l0_1) (hc0_1 : l0_1.length ≤ c0_1) (h : impl_Complex_isPair.f a0_0 l0_1 a1_0 a1_1 = some r) :
  Calls Tryz.prog 85 #[.agg #[.int .i64 a0_0, .slice A0_1 l0_1.length c0_1], .agg #[.int .i64 a1_0, .int .i64 a1_1]] w fun e w' => e = .returned (.bool r) ∧ Below w.heap.size w w' := by
 have hu31 := Tryz.underlying31
 have hu45 := Tryz.underlying45
 have HR0_1 := Aside0.mk hr0_1
 have HC0_1 := Aside0.mk hc0_1
 clear hr0_1 hc0_1
 have HB := Aside0.mk (Below.refl w.heap.size w)
 have H : ((impl_Complex_has.f a0_0 l0_1 a1_0).bind fun t104 => (if t104 = true then ((impl_Complex_has.f a0_0 l0_1 a1_1).bind fun t105 => (if t105 = true then ((impl_isIn.f a1_0 a1_1).bind fun t106 => (if t106 = true then ((impl_size.f a1_1).bind fun t107 => ((impl_size.f a1_0).bind fun t108 => (some (t107 == (wrap64 (t108 + 1)))))) else (some false))) else (some false))) else (some false))) = some r := h
 clear h
 replace H := Option.bind_eq_some_iff.mp H
 obtain ⟨t104, A30, H⟩ := H
 try dsimp only at H
 have A3 := Aside0.mk A30
 clear A30
 by_cases c4 : t104 = true
 ·subst c4
  have H1 : ((impl_Complex_has.f a0_0 l0_1 a1_1).bind fun t105 => (if t105 = true then ((impl_isIn.f a1_0 a1_1).bind fun t106 => (if t106 = true then ((impl_size.f a1_1).bind fun t107 => ((impl_size.f a1_0).bind fun t108 => (some (t107 == (wrap64 (t108 + 1)))))) else (some false))) else (some false))) = some r := by rw [if_pos rfl] at H; exact H
  clear H
  have H := H1
  clear H1
  replace H := Option.bind_eq_some_iff.mp H
  obtain ⟨t105, A50, H⟩ := H
  try dsimp only at H
  have A5 := Aside0.mk A50
  clear A50
  by_cases c6 : t105 = true
  ·subst c6
   have H1 : ((impl_isIn.f a1_0 a1_1).bind fun t106 => (if t106 = true then ((impl_size.f a1_1).bind fun t107 => ((impl_size.f a1_0).bind fun t108 => (some (t107 == (wrap64 (t108 + 1)))))) else (some false))) = some r := by rw [if_pos rfl] at H; exact H
   clear H
   have H := H1
   clear H1
   replace H := Option.bind_eq_some_iff.mp H
   obtain ⟨t106, A70, H⟩ := H
   try dsimp only at H
   have A7 := Aside0.mk A70
   clear A70
   by_cases c8 : t106 = true
   ·subst c8
    have H1 : ((impl_size.f a1_1).bind fun t107 => ((impl_size.f a1_0).bind fun t108 => (some (t107 == (wrap64 (t108 + 1)))))) = some r := by rw [if_pos rfl] at H; exact H
    clear H
    have H := H1
    clear H1
    replace H := Option.bind_eq_some_iff.mp H
    obtain ⟨t107, A90, H⟩ := H
    try dsimp only at H
    have A9 := Aside0.mk A90
    clear A90
    replace H := Option.bind_eq_some_iff.mp H
    obtain ⟨t108, A100, H⟩ := H
    try dsimp only at H
    have A10 := Aside0.mk A100
    clear A100
    obtain rfl := Option.some.inj H
    go_enter Tryz.func85, Tryz.ntmps85
    try go_wp2_with (first | ((with_reducible refine gate_dst (N := 2) rfl ?_); refine box_event ?hg (N := 2) ?hd (cs := #[.int .i64 a0_0, .slice A0_1 l0_1.length c0_1]) (t := 31) ?hr ?_; (case hd => rfl); (case hg => rfl); (case hr => first | (go_simp; done) | (go_simp; rfl)); intro gb102 hg w11 hbox hb; have BK102 := Aside0.mk (hbox); have GW102 := gH HB hg; have GE102 := gH HB hg; replace HB := sH HB hb; clear hb hbox hg) | ((with_reducible refine gate_dst (N := 3) rfl ?_); refine box_event ?hg (N := 3) ?hd (cs := #[.int .i64 a1_0, .int .i64 a1_1]) (t := 45) ?hr ?_; (case hd => rfl); (case hg => rfl); (case hr => first | (go_simp; done) | (go_simp; rfl)); intro gb103 hg w12 hbox hb; have BK103 := Aside0.mk (hbox); have GW103 := gH HB hg; have GE103 := gH HB hg; replace HB := sH HB hb; have NB102_103 := nB BK102 hg; have NB103_102 := oB BK102 hg; replace BK102 := sB BK102 hb; clear hb hbox hg))
    replace BK102 := dB BK102
    replace BK103 := dB BK103
    replace HB := dH HB
    refine st_ 28 (S := fun w' => w'.cell? ⟨gb102, 0, none⟩ = some (.int .i64 a0_0) ∧ w'.cell? ⟨gb102, 1, none⟩ = some (.slice A0_1 l0_1.length c0_1) ∧ w'.cell? ⟨gb103, 0, none⟩ = some (.int .i64 a1_0) ∧ w'.cell? ⟨gb103, 1, none⟩ = some (.int .i64 a1_1)) (ds := []) ⟨cB BK102 0, cB BK102 1, cB BK103 0, cB BK103 1⟩ (fun hHeld => ?_); refine with_tabW impl_Complex_isPair.tab1 impl_Complex_isPair.bits1 (fun HT_ HW_ => ?_)
    generalize w12.drew = w13 at BK102 BK103 HB hHeld ⊢
    refine pu_ 1 6 2 HT_ ?_
    refine tk_ 0 5 3 HT_ HW_ hHeld ?_
    refine tk_ 2 7 7 HT_ HW_ hHeld ?_
    refine on_ 3 (some 8) 15 HT_ (fun K hK => ?_)
    refine ca_ Tryz.func105 #[.agg #[.int .i64 a0_0, .slice A0_1 l0_1.length c0_1], .int .i64 a1_0] ?_
    with_reducible refine (impl_Complex_has.calls a0_0 _ _ l0_1 a1_0 true _ ?side1 ?side2 A3.out).mono ?_
    (case side1 => exact pC ((Kd.C_below HR0_1.out HB.out)))
    (case side2 => exact HC0_1.out)
    rintro e w14 ⟨rfl, hb⟩
    refine ⟨_, rfl, ?_⟩
    replace BK102 := sB BK102 hb
    replace BK103 := sB BK103 hb
    replace HB := sH HB hb
    (try clear hb)
    (try clear hb2)
    (try clear hk)
    (try clear hi)
    refine hK.out _ _ ⟨cB BK102 0, cB BK102 1, cB BK103 0, cB BK103 1⟩ (fun hHeld => ?_)
    clear hK K
    refine nm_ ?_
    refine pu_ 4 9 31 HT_ ?_
    refine pu_ 6 11 95 HT_ ?_
    refine tk_ 5 10 127 HT_ HW_ hHeld ?_
    refine tk_ 7 12 255 HT_ HW_ hHeld ?_
    refine on_ 8 (some 13) 511 HT_ (fun K hK => ?_)
    refine ca_ Tryz.func105 #[.agg #[.int .i64 a0_0, .slice A0_1 l0_1.length c0_1], .int .i64 a1_1] ?_
    with_reducible refine (impl_Complex_has.calls a0_0 _ _ l0_1 a1_1 true _ ?side1 ?side2 A5.out).mono ?_
    (case side1 => exact pC ((Kd.C_below HR0_1.out HB.out)))
    (case side2 => exact HC0_1.out)
    rintro e w15 ⟨rfl, hb⟩
    refine ⟨_, rfl, ?_⟩
    replace BK102 := sB BK102 hb
    replace BK103 := sB BK103 hb
    replace HB := sH HB hb
    (try clear hb)
    (try clear hb2)
    (try clear hk)
    (try clear hi)
    refine hK.out _ _ ⟨cB BK102 0, cB BK102 1, cB BK103 0, cB BK103 1⟩ (fun hHeld => ?_)
    clear hK K
    refine nm_ ?_
    refine pu_ 9 14 1023 HT_ ?_
    refine pu_ 10 15 2047 HT_ ?_
    refine pu_ 11 16 4095 HT_ ?_
    refine pu_ 13 18 12287 HT_ ?_
    refine tk_ 12 17 16383 HT_ HW_ hHeld ?_
    refine tk_ 14 19 32767 HT_ HW_ hHeld ?_
    refine on_ 15 (some 20) 65535 HT_ (fun K hK => ?_)
    refine ca_ Tryz.func106 #[.int .i64 a1_0, .int .i64 a1_1] ?_
    with_reducible refine (impl_isIn.calls a1_0 a1_1 true _ A7.out).mono ?_
    rintro e w16 ⟨rfl, hb⟩
    refine ⟨_, rfl, ?_⟩
    replace BK102 := sB BK102 hb
    replace BK103 := sB BK103 hb
    replace HB := sH HB hb
    (try clear hb)
    (try clear hb2)
    (try clear hk)
    (try clear hi)
    refine hK.out _ _ ⟨cB BK102 0, cB BK102 1, cB BK103 0, cB BK103 1⟩ (fun hHeld => ?_)
    clear hK K
    refine nm_ ?_
    refine pu_ 16 21 131071 HT_ ?_
    refine pu_ 17 22 262143 HT_ ?_
    refine pu_ 18 23 524287 HT_ ?_
    refine pu_ 21 26 2621439 HT_ ?_
    refine tk_ 19 24 3145727 HT_ HW_ hHeld ?_
    refine tk_ 22 27 7340031 HT_ HW_ hHeld ?_
    refine on_ 20 (some 25) 8388607 HT_ (fun K hK => ?_)
    refine ca_ Tryz.func66 #[.int .i64 a1_1] ?_
    with_reducible refine (impl_size.calls a1_1 t107 _ A9.out).mono ?_
    rintro e w' ⟨rfl, ⟨nd, rfl⟩⟩
    refine ⟨_, rfl, ?_⟩
    refine hK.out _ _ ⟨cB BK102 0, cB BK102 1, cB BK103 0, cB BK103 1⟩ (fun hHeld => ?_)
    clear hK K
    refine nm_ ?_
    refine on_ 23 (some 28) 16777215 HT_ (fun K hK => ?_)
    refine ca_ Tryz.func66 #[.int .i64 a1_0] ?_
    with_reducible refine (impl_size.calls a1_0 t108 _ A10.out).mono ?_
    rintro e w' ⟨rfl, ⟨nd, rfl⟩⟩
    refine ⟨_, rfl, ?_⟩
    refine hK.out _ _ ⟨cB BK102 0, cB BK102 1, cB BK103 0, cB BK103 1⟩ (fun hHeld => ?_)
    clear hK K
    refine nm_ ?_
    refine pu_ 24 29 33554431 HT_ ?_
    refine pu_ 25 30 67108863 HT_ ?_
    refine pu_ 26 31 134217727 HT_ ?_
    refine pu_ 27 4 268435455 HT_ ?_
    refine dn_ HT_ ?_
    try go_wp2
    go_ret
    exact ⟨by first | rfl | (simp [errW_none, errW_some] <;> rfl) | (simp [*, errW_none, errW_some] <;> rfl) | (exfalso; simp_all), pH HB⟩
   ·replace c8 := Bool.eq_false_iff.mpr c8
    subst c8
    have H1 : (some false) = some r := by rw [if_neg (show ¬ (false = true) by decide)] at H; exact H
    clear H
    have H := H1
    clear H1
    obtain rfl := Option.some.inj H
    go_enter Tryz.func85, Tryz.ntmps85
    try go_wp2_with (first | ((with_reducible refine gate_dst (N := 2) rfl ?_); refine box_event ?hg (N := 2) ?hd (cs := #[.int .i64 a0_0, .slice A0_1 l0_1.length c0_1]) (t := 31) ?hr ?_; (case hd => rfl); (case hg => rfl); (case hr => first | (go_simp; done) | (go_simp; rfl)); intro gb102 hg w17 hbox hb; have BK102 := Aside0.mk (hbox); have GW102 := gH HB hg; have GE102 := gH HB hg; replace HB := sH HB hb; clear hb hbox hg) | ((with_reducible refine gate_dst (N := 3) rfl ?_); refine box_event ?hg (N := 3) ?hd (cs := #[.int .i64 a1_0, .int .i64 a1_1]) (t := 45) ?hr ?_; (case hd => rfl); (case hg => rfl); (case hr => first | (go_simp; done) | (go_simp; rfl)); intro gb103 hg w18 hbox hb; have BK103 := Aside0.mk (hbox); have GW103 := gH HB hg; have GE103 := gH HB hg; replace HB := sH HB hb; have NB102_103 := nB BK102 hg; have NB103_102 := oB BK102 hg; replace BK102 := sB BK102 hb; clear hb hbox hg))
    replace BK102 := dB BK102
    replace BK103 := dB BK103
    replace HB := dH HB
    refine st_ 28 (S := fun w' => w'.cell? ⟨gb102, 0, none⟩ = some (.int .i64 a0_0) ∧ w'.cell? ⟨gb102, 1, none⟩ = some (.slice A0_1 l0_1.length c0_1) ∧ w'.cell? ⟨gb103, 0, none⟩ = some (.int .i64 a1_0) ∧ w'.cell? ⟨gb103, 1, none⟩ = some (.int .i64 a1_1)) (ds := []) ⟨cB BK102 0, cB BK102 1, cB BK103 0, cB BK103 1⟩ (fun hHeld => ?_); refine with_tabW impl_Complex_isPair.tab1 impl_Complex_isPair.bits1 (fun HT_ HW_ => ?_)
    generalize w18.drew = w19 at BK102 BK103 HB hHeld ⊢
    refine pu_ 1 6 2 HT_ ?_
    refine tk_ 0 5 3 HT_ HW_ hHeld ?_
    refine tk_ 2 7 7 HT_ HW_ hHeld ?_
    refine on_ 3 (some 8) 15 HT_ (fun K hK => ?_)
    refine ca_ Tryz.func105 #[.agg #[.int .i64 a0_0, .slice A0_1 l0_1.length c0_1], .int .i64 a1_0] ?_
    with_reducible refine (impl_Complex_has.calls a0_0 _ _ l0_1 a1_0 true _ ?side1 ?side2 A3.out).mono ?_
    (case side1 => exact pC ((Kd.C_below HR0_1.out HB.out)))
    (case side2 => exact HC0_1.out)
    rintro e w20 ⟨rfl, hb⟩
    refine ⟨_, rfl, ?_⟩
    replace BK102 := sB BK102 hb
    replace BK103 := sB BK103 hb
    replace HB := sH HB hb
    (try clear hb)
    (try clear hb2)
    (try clear hk)
    (try clear hi)
    refine hK.out _ _ ⟨cB BK102 0, cB BK102 1, cB BK103 0, cB BK103 1⟩ (fun hHeld => ?_)
    clear hK K
    refine nm_ ?_
    refine pu_ 4 9 31 HT_ ?_
    refine pu_ 6 11 95 HT_ ?_
    refine tk_ 5 10 127 HT_ HW_ hHeld ?_
    refine tk_ 7 12 255 HT_ HW_ hHeld ?_
    refine on_ 8 (some 13) 511 HT_ (fun K hK => ?_)
    refine ca_ Tryz.func105 #[.agg #[.int .i64 a0_0, .slice A0_1 l0_1.length c0_1], .int .i64 a1_1] ?_
    with_reducible refine (impl_Complex_has.calls a0_0 _ _ l0_1 a1_1 true _ ?side1 ?side2 A5.out).mono ?_
    (case side1 => exact pC ((Kd.C_below HR0_1.out HB.out)))
    (case side2 => exact HC0_1.out)
    rintro e w21 ⟨rfl, hb⟩
    refine ⟨_, rfl, ?_⟩
    replace BK102 := sB BK102 hb
    replace BK103 := sB BK103 hb
    replace HB := sH HB hb
    (try clear hb)
    (try clear hb2)
    (try clear hk)
    (try clear hi)
    refine hK.out _ _ ⟨cB BK102 0, cB BK102 1, cB BK103 0, cB BK103 1⟩ (fun hHeld => ?_)
    clear hK K
    refine nm_ ?_
    refine pu_ 9 14 1023 HT_ ?_
    refine pu_ 10 15 2047 HT_ ?_
    refine pu_ 11 16 4095 HT_ ?_
    refine pu_ 13 18 12287 HT_ ?_
    refine tk_ 12 17 16383 HT_ HW_ hHeld ?_
    refine tk_ 14 19 32767 HT_ HW_ hHeld ?_
    refine on_ 15 (some 20) 65535 HT_ (fun K hK => ?_)
    refine ca_ Tryz.func106 #[.int .i64 a1_0, .int .i64 a1_1] ?_
    with_reducible refine (impl_isIn.calls a1_0 a1_1 false _ A7.out).mono ?_
    rintro e w22 ⟨rfl, hb⟩
    refine ⟨_, rfl, ?_⟩
    replace BK102 := sB BK102 hb
    replace BK103 := sB BK103 hb
    replace HB := sH HB hb
    (try clear hb)
    (try clear hb2)
    (try clear hk)
    (try clear hi)
    refine hK.out _ _ ⟨cB BK102 0, cB BK102 1, cB BK103 0, cB BK103 1⟩ (fun hHeld => ?_)
    clear hK K
    refine nm_ ?_
    refine pu_ 16 21 131071 HT_ ?_
    refine pu_ 17 22 262143 HT_ ?_
    refine pn_ 18 23 524287 HT_ ?_
    refine pn_ 19 24 1048575 HT_ ?_
    refine pn_ 20 25 2097151 HT_ ?_
    refine pn_ 21 26 4194303 HT_ ?_
    refine pn_ 22 27 8388607 HT_ ?_
    refine pn_ 23 28 16777215 HT_ ?_
    refine pn_ 24 29 33554431 HT_ ?_
    refine pn_ 25 30 67108863 HT_ ?_
    refine pu_ 26 31 134217727 HT_ ?_
    refine pu_ 27 4 268435455 HT_ ?_
    refine dn_ HT_ ?_
    try go_wp2
    go_ret
    exact ⟨by first | rfl | (simp [errW_none, errW_some] <;> rfl) | (simp [*, errW_none, errW_some] <;> rfl) | (exfalso; simp_all), pH HB⟩
  ·replace c6 := Bool.eq_false_iff.mpr c6
   subst c6
   have H1 : (some false) = some r := by rw [if_neg (show ¬ (false = true) by decide)] at H; exact H
   clear H
   have H := H1
   clear H1
   obtain rfl := Option.some.inj H
   go_enter Tryz.func85, Tryz.ntmps85
   try go_wp2_with (first | ((with_reducible refine gate_dst (N := 2) rfl ?_); refine box_event ?hg (N := 2) ?hd (cs := #[.int .i64 a0_0, .slice A0_1 l0_1.length c0_1]) (t := 31) ?hr ?_; (case hd => rfl); (case hg => rfl); (case hr => first | (go_simp; done) | (go_simp; rfl)); intro gb102 hg w23 hbox hb; have BK102 := Aside0.mk (hbox); have GW102 := gH HB hg; have GE102 := gH HB hg; replace HB := sH HB hb; clear hb hbox hg) | ((with_reducible refine gate_dst (N := 3) rfl ?_); refine box_event ?hg (N := 3) ?hd (cs := #[.int .i64 a1_0, .int .i64 a1_1]) (t := 45) ?hr ?_; (case hd => rfl); (case hg => rfl); (case hr => first | (go_simp; done) | (go_simp; rfl)); intro gb103 hg w24 hbox hb; have BK103 := Aside0.mk (hbox); have GW103 := gH HB hg; have GE103 := gH HB hg; replace HB := sH HB hb; have NB102_103 := nB BK102 hg; have NB103_102 := oB BK102 hg; replace BK102 := sB BK102 hb; clear hb hbox hg))
   replace BK102 := dB BK102
   replace BK103 := dB BK103
   replace HB := dH HB
   refine st_ 28 (S := fun w' => w'.cell? ⟨gb102, 0, none⟩ = some (.int .i64 a0_0) ∧ w'.cell? ⟨gb102, 1, none⟩ = some (.slice A0_1 l0_1.length c0_1) ∧ w'.cell? ⟨gb103, 0, none⟩ = some (.int .i64 a1_0) ∧ w'.cell? ⟨gb103, 1, none⟩ = some (.int .i64 a1_1)) (ds := []) ⟨cB BK102 0, cB BK102 1, cB BK103 0, cB BK103 1⟩ (fun hHeld => ?_); refine with_tabW impl_Complex_isPair.tab1 impl_Complex_isPair.bits1 (fun HT_ HW_ => ?_)
   generalize w24.drew = w25 at BK102 BK103 HB hHeld ⊢
   refine pu_ 1 6 2 HT_ ?_
   refine tk_ 0 5 3 HT_ HW_ hHeld ?_
   refine tk_ 2 7 7 HT_ HW_ hHeld ?_
   refine on_ 3 (some 8) 15 HT_ (fun K hK => ?_)
   refine ca_ Tryz.func105 #[.agg #[.int .i64 a0_0, .slice A0_1 l0_1.length c0_1], .int .i64 a1_0] ?_
   with_reducible refine (impl_Complex_has.calls a0_0 _ _ l0_1 a1_0 true _ ?side1 ?side2 A3.out).mono ?_
   (case side1 => exact pC ((Kd.C_below HR0_1.out HB.out)))
   (case side2 => exact HC0_1.out)
   rintro e w26 ⟨rfl, hb⟩
   refine ⟨_, rfl, ?_⟩
   replace BK102 := sB BK102 hb
   replace BK103 := sB BK103 hb
   replace HB := sH HB hb
   (try clear hb)
   (try clear hb2)
   (try clear hk)
   (try clear hi)
   refine hK.out _ _ ⟨cB BK102 0, cB BK102 1, cB BK103 0, cB BK103 1⟩ (fun hHeld => ?_)
   clear hK K
   refine nm_ ?_
   refine pu_ 4 9 31 HT_ ?_
   refine pu_ 6 11 95 HT_ ?_
   refine tk_ 5 10 127 HT_ HW_ hHeld ?_
   refine tk_ 7 12 255 HT_ HW_ hHeld ?_
   refine on_ 8 (some 13) 511 HT_ (fun K hK => ?_)
   refine ca_ Tryz.func105 #[.agg #[.int .i64 a0_0, .slice A0_1 l0_1.length c0_1], .int .i64 a1_1] ?_
   with_reducible refine (impl_Complex_has.calls a0_0 _ _ l0_1 a1_1 false _ ?side1 ?side2 A5.out).mono ?_
   (case side1 => exact pC ((Kd.C_below HR0_1.out HB.out)))
   (case side2 => exact HC0_1.out)
   rintro e w27 ⟨rfl, hb⟩
   refine ⟨_, rfl, ?_⟩
   replace BK102 := sB BK102 hb
   replace BK103 := sB BK103 hb
   replace HB := sH HB hb
   (try clear hb)
   (try clear hb2)
   (try clear hk)
   (try clear hi)
   refine hK.out _ _ ⟨cB BK102 0, cB BK102 1, cB BK103 0, cB BK103 1⟩ (fun hHeld => ?_)
   clear hK K
   refine nm_ ?_
   refine pu_ 9 14 1023 HT_ ?_
   refine pu_ 10 15 2047 HT_ ?_
   refine pn_ 11 16 4095 HT_ ?_
   refine pn_ 12 17 8191 HT_ ?_
   refine pn_ 13 18 16383 HT_ ?_
   refine pn_ 14 19 32767 HT_ ?_
   refine pn_ 15 20 65535 HT_ ?_
   refine pu_ 16 21 131071 HT_ ?_
   refine pu_ 17 22 262143 HT_ ?_
   refine pn_ 18 23 524287 HT_ ?_
   refine pn_ 19 24 1048575 HT_ ?_
   refine pn_ 20 25 2097151 HT_ ?_
   refine pn_ 21 26 4194303 HT_ ?_
   refine pn_ 22 27 8388607 HT_ ?_
   refine pn_ 23 28 16777215 HT_ ?_
   refine pn_ 24 29 33554431 HT_ ?_
   refine pn_ 25 30 67108863 HT_ ?_
   refine pu_ 26 31 134217727 HT_ ?_
   refine pu_ 27 4 268435455 HT_ ?_
   refine dn_ HT_ ?_
   try go_wp2
   go_ret
   exact ⟨by first | rfl | (simp [errW_none, errW_some] <;> rfl) | (simp [*, errW_none, errW_some] <;> rfl) | (exfalso; simp_all), pH HB⟩
 ·replace c4 := Bool.eq_false_iff.mpr c4
  subst c4
  have H1 : (some false) = some r := by rw [if_neg (show ¬ (false = true) by decide)] at H; exact H
  clear H
  have H := H1
  clear H1
  obtain rfl := Option.some.inj H
  go_enter Tryz.func85, Tryz.ntmps85
  try go_wp2_with (first | ((with_reducible refine gate_dst (N := 2) rfl ?_); refine box_event ?hg (N := 2) ?hd (cs := #[.int .i64 a0_0, .slice A0_1 l0_1.length c0_1]) (t := 31) ?hr ?_; (case hd => rfl); (case hg => rfl); (case hr => first | (go_simp; done) | (go_simp; rfl)); intro gb102 hg w28 hbox hb; have BK102 := Aside0.mk (hbox); have GW102 := gH HB hg; have GE102 := gH HB hg; replace HB := sH HB hb; clear hb hbox hg) | ((with_reducible refine gate_dst (N := 3) rfl ?_); refine box_event ?hg (N := 3) ?hd (cs := #[.int .i64 a1_0, .int .i64 a1_1]) (t := 45) ?hr ?_; (case hd => rfl); (case hg => rfl); (case hr => first | (go_simp; done) | (go_simp; rfl)); intro gb103 hg w29 hbox hb; have BK103 := Aside0.mk (hbox); have GW103 := gH HB hg; have GE103 := gH HB hg; replace HB := sH HB hb; have NB102_103 := nB BK102 hg; have NB103_102 := oB BK102 hg; replace BK102 := sB BK102 hb; clear hb hbox hg))
  replace BK102 := dB BK102
  replace BK103 := dB BK103
  replace HB := dH HB
  refine st_ 28 (S := fun w' => w'.cell? ⟨gb102, 0, none⟩ = some (.int .i64 a0_0) ∧ w'.cell? ⟨gb102, 1, none⟩ = some (.slice A0_1 l0_1.length c0_1) ∧ w'.cell? ⟨gb103, 0, none⟩ = some (.int .i64 a1_0) ∧ w'.cell? ⟨gb103, 1, none⟩ = some (.int .i64 a1_1)) (ds := []) ⟨cB BK102 0, cB BK102 1, cB BK103 0, cB BK103 1⟩ (fun hHeld => ?_); refine with_tabW impl_Complex_isPair.tab1 impl_Complex_isPair.bits1 (fun HT_ HW_ => ?_)
  generalize w29.drew = w30 at BK102 BK103 HB hHeld ⊢
  refine pu_ 1 6 2 HT_ ?_
  refine tk_ 0 5 3 HT_ HW_ hHeld ?_
  refine tk_ 2 7 7 HT_ HW_ hHeld ?_
  refine on_ 3 (some 8) 15 HT_ (fun K hK => ?_)
  refine ca_ Tryz.func105 #[.agg #[.int .i64 a0_0, .slice A0_1 l0_1.length c0_1], .int .i64 a1_0] ?_
  with_reducible refine (impl_Complex_has.calls a0_0 _ _ l0_1 a1_0 false _ ?side1 ?side2 A3.out).mono ?_
  (case side1 => exact pC ((Kd.C_below HR0_1.out HB.out)))
  (case side2 => exact HC0_1.out)
  rintro e w31 ⟨rfl, hb⟩
  refine ⟨_, rfl, ?_⟩
  replace BK102 := sB BK102 hb
  replace BK103 := sB BK103 hb
  replace HB := sH HB hb
  (try clear hb)
  (try clear hb2)
  (try clear hk)
  (try clear hi)
  refine hK.out _ _ ⟨cB BK102 0, cB BK102 1, cB BK103 0, cB BK103 1⟩ (fun hHeld => ?_)
  clear hK K
  refine nm_ ?_
  refine pu_ 4 9 31 HT_ ?_
  refine pn_ 5 10 63 HT_ ?_
  refine pn_ 6 11 127 HT_ ?_
  refine pn_ 7 12 255 HT_ ?_
  refine pn_ 8 13 511 HT_ ?_
  refine pu_ 9 14 1023 HT_ ?_
  refine pu_ 10 15 2047 HT_ ?_
  refine pn_ 11 16 4095 HT_ ?_
  refine pn_ 12 17 8191 HT_ ?_
  refine pn_ 13 18 16383 HT_ ?_
  refine pn_ 14 19 32767 HT_ ?_
  refine pn_ 15 20 65535 HT_ ?_
  refine pu_ 16 21 131071 HT_ ?_
  refine pu_ 17 22 262143 HT_ ?_
  refine pn_ 18 23 524287 HT_ ?_
  refine pn_ 19 24 1048575 HT_ ?_
  refine pn_ 20 25 2097151 HT_ ?_
  refine pn_ 21 26 4194303 HT_ ?_
  refine pn_ 22 27 8388607 HT_ ?_
  refine pn_ 23 28 16777215 HT_ ?_
  refine pn_ 24 29 33554431 HT_ ?_
  refine pn_ 25 30 67108863 HT_ ?_
  refine pu_ 26 31 134217727 HT_ ?_
  refine pu_ 27 4 268435455 HT_ ?_
  refine dn_ HT_ ?_
  try go_wp2
  go_ret
  exact ⟨by first | rfl | (simp [errW_none, errW_some] <;> rfl) | (simp [*, errW_none, errW_some] <;> rfl) | (exfalso; simp_all), pH HB⟩
def cmp_isNaN_int64.f (a0 : Int) : Option (Bool) := some (a0 != a0)
set_option maxHeartbeats 8000000 in
set_option maxRecDepth 100000 in
theorem cmp_isNaN_int64.calls (a0 : Int) (r : Bool) (w : World) (h : cmp_isNaN_int64.f a0 = some r) :
  Calls Tryz.prog 99 #[.int .i64 a0] w fun e w' => e = .returned (.bool r) ∧ Drawn0 w w' := by
 have H : (some (a0 != a0)) = some r := h
 clear h
 obtain rfl := Option.some.inj H
 go_enter Tryz.func99, Tryz.ntmps99
 go_wp2
 go_ret
 exact ⟨by first | rfl | (simp; done) | (simp [*]; done), by repeat (first | exact Drawn0.refl _ | apply Drawn0.step)⟩
def cmp_Compare_int64.f (a0 : Int) (a1 : Int) : Option (Int) := (cmp_isNaN_int64.f a0).bind fun t109 => ((cmp_isNaN_int64.f a1).bind fun t110 => (if t109 = true then (if t110 = true then (some 0) else (some (-1))) else (if t110 = true then (some 1) else (if a0 < a1 then (some (-1)) else (if a0 > a1 then (some 1) else (some 0))))))
set_option maxHeartbeats 8000000 in
set_option maxRecDepth 100000 in
theorem cmp_Compare_int64.calls (a0 : Int) (a1 : Int) (r : Int) (w : World) (h : cmp_Compare_int64.f a0 a1 = some r) :
  Calls Tryz.prog 81 #[.int .i64 a0, .int .i64 a1] w fun e w' => e = .returned (.int .i64 r) ∧ Drawn0 w w' := by
 have H : ((cmp_isNaN_int64.f a0).bind fun t109 => ((cmp_isNaN_int64.f a1).bind fun t110 => (if t109 = true then (if t110 = true then (some 0) else (some (-1))) else (if t110 = true then (some 1) else (if a0 < a1 then (some (-1)) else (if a0 > a1 then (some 1) else (some 0))))))) = some r := h
 clear h
 replace H := Option.bind_eq_some_iff.mp H
 obtain ⟨t109, A30, H⟩ := H
 try dsimp only at H
 have A3 := Aside0.mk A30
 clear A30
 replace H := Option.bind_eq_some_iff.mp H
 obtain ⟨t110, A40, H⟩ := H
 try dsimp only at H
 have A4 := Aside0.mk A40
 clear A40
 by_cases c5 : t109 = true
 ·subst c5
  have H1 : (if t110 = true then (some 0) else (some (-1))) = some r := by rw [if_pos rfl] at H; exact H
  clear H
  have H := H1
  clear H1
  by_cases c6 : t110 = true
  ·subst c6
   have H1 : (some 0) = some r := by rw [if_pos rfl] at H; exact H
   clear H
   have H := H1
   clear H1
   obtain rfl := Option.some.inj H
   go_enter Tryz.func81, Tryz.ntmps81
   go_wp2_with (first | ((with_reducible refine gate_callee (f := 99) rfl ?_); refine cl_ (some 8) Tryz.func99 #[.int .i64 a0] ?_; (with_reducible refine (cmp_isNaN_int64.calls a0 true _ A3.out).mono ?_); rintro e w' ⟨rfl, ⟨nd, rfl⟩⟩; refine ⟨_, rfl, ?_⟩) | ((with_reducible refine gate_callee (f := 99) rfl ?_); refine cl_ (some 10) Tryz.func99 #[.int .i64 a1] ?_; (with_reducible refine (cmp_isNaN_int64.calls a1 true _ A4.out).mono ?_); rintro e w' ⟨rfl, ⟨nd, rfl⟩⟩; refine ⟨_, rfl, ?_⟩))
   go_ret
   exact ⟨by first | rfl | (simp; done) | (simp [*]; done), by repeat (first | exact Drawn0.refl _ | apply Drawn0.step)⟩
  ·replace c6 := Bool.eq_false_iff.mpr c6
   subst c6
   have H1 : (some (-1)) = some r := by rw [if_neg (show ¬ (false = true) by decide)] at H; exact H
   clear H
   have H := H1
   clear H1
   obtain rfl := Option.some.inj H
   go_enter Tryz.func81, Tryz.ntmps81
   go_wp2_with (first | ((with_reducible refine gate_callee (f := 99) rfl ?_); refine cl_ (some 8) Tryz.func99 #[.int .i64 a0] ?_; (with_reducible refine (cmp_isNaN_int64.calls a0 true _ A3.out).mono ?_); rintro e w' ⟨rfl, ⟨nd, rfl⟩⟩; refine ⟨_, rfl, ?_⟩) | ((with_reducible refine gate_callee (f := 99) rfl ?_); refine cl_ (some 10) Tryz.func99 #[.int .i64 a1] ?_; (with_reducible refine (cmp_isNaN_int64.calls a1 false _ A4.out).mono ?_); rintro e w' ⟨rfl, ⟨nd, rfl⟩⟩; refine ⟨_, rfl, ?_⟩))
   go_ret
   exact ⟨by first | rfl | (simp; done) | (simp [*]; done), by repeat (first | exact Drawn0.refl _ | apply Drawn0.step)⟩
 ·replace c5 := Bool.eq_false_iff.mpr c5
  subst c5
  have H1 : (if t110 = true then (some 1) else (if a0 < a1 then (some (-1)) else (if a0 > a1 then (some 1) else (some 0)))) = some r := by rw [if_neg (show ¬ (false = true) by decide)] at H; exact H
  clear H
  have H := H1
  clear H1
  by_cases c7 : t110 = true
  ·subst c7
   have H1 : (some 1) = some r := by rw [if_pos rfl] at H; exact H
   clear H
   have H := H1
   clear H1
   obtain rfl := Option.some.inj H
   go_enter Tryz.func81, Tryz.ntmps81
   go_wp2_with (first | ((with_reducible refine gate_callee (f := 99) rfl ?_); refine cl_ (some 8) Tryz.func99 #[.int .i64 a0] ?_; (with_reducible refine (cmp_isNaN_int64.calls a0 false _ A3.out).mono ?_); rintro e w' ⟨rfl, ⟨nd, rfl⟩⟩; refine ⟨_, rfl, ?_⟩) | ((with_reducible refine gate_callee (f := 99) rfl ?_); refine cl_ (some 10) Tryz.func99 #[.int .i64 a1] ?_; (with_reducible refine (cmp_isNaN_int64.calls a1 true _ A4.out).mono ?_); rintro e w' ⟨rfl, ⟨nd, rfl⟩⟩; refine ⟨_, rfl, ?_⟩))
   go_ret
   exact ⟨by first | rfl | (simp; done) | (simp [*]; done), by repeat (first | exact Drawn0.refl _ | apply Drawn0.step)⟩
  ·replace c7 := Bool.eq_false_iff.mpr c7
   subst c7
   have H1 : (if a0 < a1 then (some (-1)) else (if a0 > a1 then (some 1) else (some 0))) = some r := by rw [if_neg (show ¬ (false = true) by decide)] at H; exact H
   clear H
   have H := H1
   clear H1
   by_cases c8 : a0 < a1
   ·rw [if_pos c8] at H
    have c8b0 : decide (a0 < a1) = true := decide_eq_true c8
    clear c8
    obtain rfl := Option.some.inj H
    go_enter Tryz.func81, Tryz.ntmps81
    go_wp2_with (first | ((with_reducible refine gate_callee (f := 99) rfl ?_); refine cl_ (some 8) Tryz.func99 #[.int .i64 a0] ?_; (with_reducible refine (cmp_isNaN_int64.calls a0 false _ A3.out).mono ?_); rintro e w' ⟨rfl, ⟨nd, rfl⟩⟩; refine ⟨_, rfl, ?_⟩) | ((with_reducible refine gate_callee (f := 99) rfl ?_); refine cl_ (some 10) Tryz.func99 #[.int .i64 a1] ?_; (with_reducible refine (cmp_isNaN_int64.calls a1 false _ A4.out).mono ?_); rintro e w' ⟨rfl, ⟨nd, rfl⟩⟩; refine ⟨_, rfl, ?_⟩))
    go_ret
    exact ⟨by first | rfl | (simp; done) | (simp [*]; done), by repeat (first | exact Drawn0.refl _ | apply Drawn0.step)⟩
   ·rw [if_neg c8] at H
    have c8b0 : decide (a0 < a1) = false := decide_eq_false c8
    clear c8
    by_cases c9 : a0 > a1
    ·rw [if_pos c9] at H
     have c9b0 : decide (a1 < a0) = true := decide_eq_true c9
     clear c9
     obtain rfl := Option.some.inj H
     go_enter Tryz.func81, Tryz.ntmps81
     go_wp2_with (first | ((with_reducible refine gate_callee (f := 99) rfl ?_); refine cl_ (some 8) Tryz.func99 #[.int .i64 a0] ?_; (with_reducible refine (cmp_isNaN_int64.calls a0 false _ A3.out).mono ?_); rintro e w' ⟨rfl, ⟨nd, rfl⟩⟩; refine ⟨_, rfl, ?_⟩) | ((with_reducible refine gate_callee (f := 99) rfl ?_); refine cl_ (some 10) Tryz.func99 #[.int .i64 a1] ?_; (with_reducible refine (cmp_isNaN_int64.calls a1 false _ A4.out).mono ?_); rintro e w' ⟨rfl, ⟨nd, rfl⟩⟩; refine ⟨_, rfl, ?_⟩))
     go_ret
     exact ⟨by first | rfl | (simp; done) | (simp [*]; done), by repeat (first | exact Drawn0.refl _ | apply Drawn0.step)⟩
    ·rw [if_neg c9] at H
     have c9b0 : decide (a1 < a0) = false := decide_eq_false c9
     clear c9
     obtain rfl := Option.some.inj H
     go_enter Tryz.func81, Tryz.ntmps81
     go_wp2_with (first | ((with_reducible refine gate_callee (f := 99) rfl ?_); refine cl_ (some 8) Tryz.func99 #[.int .i64 a0] ?_; (with_reducible refine (cmp_isNaN_int64.calls a0 false _ A3.out).mono ?_); rintro e w' ⟨rfl, ⟨nd, rfl⟩⟩; refine ⟨_, rfl, ?_⟩) | ((with_reducible refine gate_callee (f := 99) rfl ?_); refine cl_ (some 10) Tryz.func99 #[.int .i64 a1] ?_; (with_reducible refine (cmp_isNaN_int64.calls a1 false _ A4.out).mono ?_); rintro e w' ⟨rfl, ⟨nd, rfl⟩⟩; refine ⟨_, rfl, ?_⟩))
     go_ret
     exact ⟨by first | rfl | (simp; done) | (simp [*]; done), by repeat (first | exact Drawn0.refl _ | apply Drawn0.step)⟩
def slices_Compare_int64_int64.l0 : Nat → List Int → List Int → List Int → Int → Int → Option (Int)
 | 0, _, _, _, _, _ => none
 | k + 1, x0, x1, x9, x10, x11 => if x11 < x10 then (if 0 ≤ x11 then (if x11 < (x9.length : Int) then (if x11 ≥ (x1.length : Int) then (some 1) else (if x11 < (x1.length : Int) then ((cmp_Compare_int64.f (rd x9 x11) (rd x1 x11)).bind fun t113 => (if t113 = 0 then (slices_Compare_int64_int64.l0 k x0 x1 x9 x10 (wrap64 (x11 + 1))) else (some t113))) else (none))) else (none)) else (none)) else (if (x0.length : Int) < (x1.length : Int) then (some (-1)) else (some 0))
def slices_Compare_int64_int64.f (k : Nat) (l0 : List Int) (l1 : List Int) : Option (Int) := slices_Compare_int64_int64.l0 k l0 l1 l0 (l0.length : Int) 0
set_option maxHeartbeats 8000000 in
set_option maxRecDepth 100000 in
theorem slices_Compare_int64_int64.calls (k : Nat) (A0 : Option Addr) (c0 : Nat) (l0 : List Int) (A1 : Option Addr) (c1 : Nat) (l1 : List Int) (r : Int) (w : World) (hr0 : Kd.C (Kd.int .i64) w A0 l0.length l0) (hc0 : l0.length ≤ c0) (hr1 : Kd.C (Kd.int .i64) w A1 l1.length l1) (hc1 : l1.length ≤ c1) (h : slices_Compare_int64_int64.f k l0 l1 = some r) :
  Calls Tryz.prog 55 #[.slice A0 l0.length c0, .slice A1 l1.length c1] w fun e w' => e = .returned (.int .i64 r) ∧ Drawn0 w w' := by
 have HR0 := Aside0.mk hr0
 have HC0 := Aside0.mk hc0
 clear hr0 hc0
 have HR1 := Aside0.mk hr1
 have HC1 := Aside0.mk hc1
 clear hr1 hc1
 have H : (slices_Compare_int64_int64.l0 k l0 l1 l0 (l0.length : Int) 0) = some r := h
 clear h
 have H' := Aside0.mk H
 clear H
 go_enter Tryz.func55, Tryz.ntmps55
 go_wp2
 go_loopg [11] k (fun kq v11 w' => ∃ (x11_1 : Int), v11 = .int .i64 x11_1 ∧ Aside0 (slices_Compare_int64_int64.l0 kq l0 l1 l0 (l0.length : Int) x11_1 = some r) ∧ Aside0 (kq ≤ k) ∧ Drawn0 w w')
 case atStart => exact ⟨(0), (by first | rfl | (simp; done) | (simp [*]; done)), H', ⟨Nat.le_refl _⟩, by repeat (first | exact Drawn0.refl _ | apply Drawn0.step)⟩
 case round =>
  clear H'
  try clear c1
  try clear p2
  obtain ⟨x11_1, rfl, HA, HK1, ⟨m1, rfl⟩⟩ := hrel
  cases gk with
  | zero => exact absurd HA.out (by simp [slices_Compare_int64_int64.l0])
  | succ k1 =>
   have H := HA.out
   clear HA
   simp only [slices_Compare_int64_int64.l0] at H
   by_cases c3 : x11_1 < (l0.length : Int)
   ·rw [if_pos c3] at H
    have c3b0 : decide (x11_1 < (l0.length : Int)) = true := decide_eq_true c3
    clear c3
    by_cases c4 : 0 ≤ x11_1
    ·rw [if_pos c4] at H
     have c4b0 : decide (0 ≤ x11_1) = true := decide_eq_true c4
     clear c4
     by_cases c5 : x11_1 < (l0.length : Int)
     ·rw [if_pos c5] at H
      have c5b0 : decide (x11_1 < (l0.length : Int)) = true := decide_eq_true c5
      clear c5
      by_cases c6 : x11_1 ≥ (l1.length : Int)
      ·rw [if_pos c6] at H
       have c6b0 : decide ((l1.length : Int) ≤ x11_1) = true := decide_eq_true c6
       clear c6
       obtain rfl := Option.some.inj H
       have p111 : 0 ≤ (x11_1 : Int) := of_decide_eq_true (by first | (with_reducible assumption) | assumption)
       have q111 : x11_1 < (l0.length : Int) := of_decide_eq_true (by first | (with_reducible assumption) | assumption)
       obtain ⟨ad111, e111, hx111_0⟩ := Kd.at_int HR0.out x11_1 p111 q111
       cases e111
       replace p111 := eq_true p111
       replace q111 := eq_true q111
       go_wp2
       go_ret
       exact ⟨by first | rfl | (simp; done) | (simp [*]; done), by repeat (first | exact Drawn0.refl _ | apply Drawn0.step)⟩
      ·rw [if_neg c6] at H
       have c6b0 : decide ((l1.length : Int) ≤ x11_1) = false := decide_eq_false c6
       clear c6
       by_cases c7 : x11_1 < (l1.length : Int)
       ·rw [if_pos c7] at H
        have c7b0 : decide (x11_1 < (l1.length : Int)) = true := decide_eq_true c7
        clear c7
        replace H := Option.bind_eq_some_iff.mp H
        obtain ⟨t113, A80, H⟩ := H
        try dsimp only at H
        have A8 := Aside0.mk A80
        clear A80
        by_cases c9 : t113 = 0
        ·rw [if_pos c9] at H
         have c9b0 : (t113 == 0) = true := beq_iff_eq.mpr c9
         have c9b1 : (t113 != 0) = false := bne_eq_false_iff_eq.mpr c9
         clear c9
         have H' := Aside0.mk H
         clear H
         have p111 : 0 ≤ (x11_1 : Int) := of_decide_eq_true (by first | (with_reducible assumption) | assumption)
         have q111 : x11_1 < (l0.length : Int) := of_decide_eq_true (by first | (with_reducible assumption) | assumption)
         obtain ⟨ad111, e111, hx111_0⟩ := Kd.at_int HR0.out x11_1 p111 q111
         cases e111
         replace p111 := eq_true p111
         replace q111 := eq_true q111
         have p112 : 0 ≤ (x11_1 : Int) := of_decide_eq_true (by first | (with_reducible assumption) | assumption)
         have q112 : x11_1 < (l1.length : Int) := of_decide_eq_true (by first | (with_reducible assumption) | assumption)
         obtain ⟨ad112, e112, hx112_0⟩ := Kd.at_int HR1.out x11_1 p112 q112
         cases e112
         replace p112 := eq_true p112
         replace q112 := eq_true q112
         go_wp2_with (first | ((with_reducible refine gate_callee (f := 81) rfl ?_); refine cl_ (some 26) Tryz.func81 #[.int .i64 (rd l0 x11_1), .int .i64 (rd l1 x11_1)] ?_; (with_reducible refine (cmp_Compare_int64.calls (rd l0 x11_1) (rd l1 x11_1) t113 _ A8.out).mono ?_); rintro e w' ⟨rfl, ⟨nd, rfl⟩⟩; refine ⟨_, rfl, ?_⟩))
         go_roundg k1
         case measure => have := HK1.out; omega
         case rel => exact ⟨(wrap64 (x11_1 + 1)), (by first | rfl | (simp; done) | (simp [*]; done)), H', ⟨by have := HK1.out; omega⟩, by repeat (first | exact Drawn0.refl _ | apply Drawn0.step)⟩
        ·rw [if_neg c9] at H
         have c9b0 : (t113 == 0) = false := beq_eq_false_iff_ne.mpr c9
         have c9b1 : (t113 != 0) = true := bne_iff_ne.mpr c9
         obtain rfl := Option.some.inj H
         have p111 : 0 ≤ (x11_1 : Int) := of_decide_eq_true (by first | (with_reducible assumption) | assumption)
         have q111 : x11_1 < (l0.length : Int) := of_decide_eq_true (by first | (with_reducible assumption) | assumption)
         obtain ⟨ad111, e111, hx111_0⟩ := Kd.at_int HR0.out x11_1 p111 q111
         cases e111
         replace p111 := eq_true p111
         replace q111 := eq_true q111
         have p112 : 0 ≤ (x11_1 : Int) := of_decide_eq_true (by first | (with_reducible assumption) | assumption)
         have q112 : x11_1 < (l1.length : Int) := of_decide_eq_true (by first | (with_reducible assumption) | assumption)
         obtain ⟨ad112, e112, hx112_0⟩ := Kd.at_int HR1.out x11_1 p112 q112
         cases e112
         replace p112 := eq_true p112
         replace q112 := eq_true q112
         go_wp2_with (first | ((with_reducible refine gate_callee (f := 81) rfl ?_); refine cl_ (some 26) Tryz.func81 #[.int .i64 (rd l0 x11_1), .int .i64 (rd l1 x11_1)] ?_; (with_reducible refine (cmp_Compare_int64.calls (rd l0 x11_1) (rd l1 x11_1) t113 _ A8.out).mono ?_); rintro e w' ⟨rfl, ⟨nd, rfl⟩⟩; refine ⟨_, rfl, ?_⟩))
         go_ret
         exact ⟨by first | rfl | (simp; done) | (simp [*]; done), by repeat (first | exact Drawn0.refl _ | apply Drawn0.step)⟩
       ·rw [if_neg c7] at H
        exact absurd H (by simp)
     ·rw [if_neg c5] at H
      exact absurd H (by simp)
    ·rw [if_neg c4] at H
     exact absurd H (by simp)
   ·rw [if_neg c3] at H
    have c3b0 : decide (x11_1 < (l0.length : Int)) = false := decide_eq_false c3
    clear c3
    by_cases c10 : (l0.length : Int) < (l1.length : Int)
    ·rw [if_pos c10] at H
     have c10b0 : decide ((l0.length : Int) < (l1.length : Int)) = true := decide_eq_true c10
     have c10b1 : decide (l0.length < l1.length) = true := decide_eq_true (Int.ofNat_lt.mp c10)
     clear c10
     obtain rfl := Option.some.inj H
     go_wp2
     go_ret
     exact ⟨by first | rfl | (simp; done) | (simp [*]; done), by repeat (first | exact Drawn0.refl _ | apply Drawn0.step)⟩
    ·rw [if_neg c10] at H
     have c10b0 : decide ((l0.length : Int) < (l1.length : Int)) = false := decide_eq_false c10
     have c10b1 : decide (l0.length < l1.length) = false := decide_eq_false (fun h => c10 (Int.ofNat_lt.mpr h))
     clear c10
     obtain rfl := Option.some.inj H
     go_wp2
     go_ret
     exact ⟨by first | rfl | (simp; done) | (simp [*]; done), by repeat (first | exact Drawn0.refl _ | apply Drawn0.step)⟩
def impl_steps_1.f (a0_0 : Int) (a0_1 : Int) (a1_0 : Int) : Option (Bool) := some (a0_0 == a1_0)
set_option maxHeartbeats 8000000 in
set_option maxRecDepth 100000 in
theorem impl_steps_1.calls (a0_0 : Int) (a0_1 : Int) (g1 : Nat) (a1_0 : Int) (r : Bool) (w : World) (hb1 : w.heap[g1]? = some (.cells #[.int .i64 a1_0] 2 (0, 0))) (h : impl_steps_1.f a0_0 a0_1 a1_0 = some r) :
  Calls Tryz.prog 68 #[.agg #[.int .i64 a0_0, .int .i64 a0_1], .pointer (some ⟨g1, 0, none⟩)] w fun e w' => e = .returned (.bool r) ∧ Below w.heap.size w w' := by
 have hu45 := Tryz.underlying45
 have BK114 := Aside0.mk hb1
 clear hb1
 have HB := Aside0.mk (Below.refl w.heap.size w)
 have H : (some (a0_0 == a1_0)) = some r := h
 clear h
 obtain rfl := Option.some.inj H
 go_enter Tryz.func68, Tryz.ntmps68
 go_wp2_with (first | ((with_reducible refine gate_dst (N := 2) rfl ?_); refine box_event ?hg (N := 2) ?hd (cs := #[.int .i64 a0_0, .int .i64 a0_1]) (t := 45) ?hr ?_; (case hd => rfl); (case hg => rfl); (case hr => first | (go_simp; done) | (go_simp; rfl)); intro gb115 hg w3 hbox hb; have BK115 := Aside0.mk (hbox); have GW115 := gH HB hg; have GE115 := gH HB hg; replace HB := sH HB hb; have NB114_115 := nB BK114 hg; have NB115_114 := oB BK114 hg; replace BK114 := sB BK114 hb; clear hb hbox hg; (try have hnb4 := NB115_114.out); (try have hnc4 := NB114_115.out); have hcz5_0 : w3.cell? ⟨gb115, 0, none⟩ = some (.int .i64 a0_0) := cB BK115 0; have hcz5_1 : w3.cell? ⟨gb115, 1, none⟩ = some (.int .i64 a0_1) := cB BK115 1; have hfz5_0 := zB BK115 0; have hfz5_1 := zB BK115 1; have hcz6_0 : w3.cell? ⟨g1, 0, none⟩ = some (.int .i64 a1_0) := cB BK114 0; have hfz6_0 := zB BK114 0))
 go_ret
 exact ⟨by first | rfl | (simp [errW_none, errW_some] <;> rfl) | (simp [*, errW_none, errW_some] <;> rfl) | (exfalso; simp_all), pH HB⟩
def clo_68 (a1_0 : Int) : Pred := Pred.ofP (fun x y => impl_steps_1.f x y a1_0)
set_option maxRecDepth 100000 in
theorem clo_ok_68 {W : World} {g1 : Nat} {a1_0 : Int} (hb1 : W.heap[g1]? = some (.cells #[.int .i64 a1_0] 2 (0, 0)))  : FnOk (.func (.func 68) #[] #[.pointer (some ⟨g1, 0, none⟩)]) (clo_68 a1_0) W :=
 FnOk.ofP (enters_of Tryz.func68 (by kernel_rfl) rfl) (fun V x y b hV hr => by
  show Calls Tryz.prog 68 #[.agg #[.int .i64 x, .int .i64 y], .pointer (some ⟨g1, 0, none⟩)] V _
  exact (impl_steps_1.calls x y g1 a1_0 b V ((hV.block g1 (blk_lt hb1)).trans hb1) hr).mono (fun e w' h_ => ⟨h_.1, h_.2⟩))
def impl_steps_2.f (a0 : Int) (a1_0 : Int) : Option (Bool) := some (a0 == a1_0)
set_option maxHeartbeats 8000000 in
set_option maxRecDepth 100000 in
theorem impl_steps_2.calls (a0 : Int) (g1 : Nat) (a1_0 : Int) (r : Bool) (w : World) (hb1 : w.heap[g1]? = some (.cells #[.int .i64 a1_0] 2 (0, 0))) (h : impl_steps_2.f a0 a1_0 = some r) :
  Calls Tryz.prog 70 #[.int .i64 a0, .pointer (some ⟨g1, 0, none⟩)] w fun e w' => e = .returned (.bool r) ∧ Drawn0 w w' := by
 have BK116 := Aside0.mk hb1
 clear hb1
 have H : (some (a0 == a1_0)) = some r := h
 clear h
 obtain rfl := Option.some.inj H
 have hcz3_0 : w.cell? ⟨g1, 0, none⟩ = some (.int .i64 a1_0) := cB BK116 0
 have hfz3_0 := zB BK116 0
 go_enter Tryz.func70, Tryz.ntmps70
 go_wp2
 go_ret
 exact ⟨by first | rfl | (simp; done) | (simp [*]; done), by repeat (first | exact Drawn0.refl _ | apply Drawn0.step)⟩
def clo_70 (a1_0 : Int) : Pred := Pred.ofI (fun x => impl_steps_2.f x a1_0)
set_option maxRecDepth 100000 in
theorem clo_ok_70 {W : World} {g1 : Nat} {a1_0 : Int} (hb1 : W.heap[g1]? = some (.cells #[.int .i64 a1_0] 2 (0, 0)))  : FnOk (.func (.func 70) #[] #[.pointer (some ⟨g1, 0, none⟩)]) (clo_70 a1_0) W :=
 FnOk.ofI (enters_of Tryz.func70 (by kernel_rfl) rfl) (fun V x b hV hr => by
  show Calls Tryz.prog 70 #[.int .i64 x, .pointer (some ⟨g1, 0, none⟩)] V _
  exact (impl_steps_2.calls x g1 a1_0 b V ((hV.block g1 (blk_lt hb1)).trans hb1) hr).mono (fun e w' h_ => ⟨h_.1, h_.2.below⟩))
def impl_steps.f (l0 : List (S45)) (a1 : Int) : Option (List Int) := (slices_IndexFunc_impl_Pair_impl_Pair.f l0 (clo_68 a1)).bind fun t118 => (if t118 < 0 then (some ([] : List Int)) else (if 0 ≤ t118 then (if t118 < (l0.length : Int) then ((impl_borders.f ((rd_T45 l0 t118).f1)).bind fun t120 => ((slices_DeleteFunc_int64_int64.f t120 (clo_70 a1)).bind fun t123 => (some t123))) else (none)) else (none)))
set_option maxHeartbeats 8000000 in
set_option maxRecDepth 100000 in
theorem impl_steps.calls (A0 : Option Addr) (c0 : Nat) (l0 : List (S45)) (a1 : Int) (r : List Int) (w : World) (hr0 : Kd.C k45 w A0 l0.length l0) (hc0 : l0.length ≤ c0) (h : impl_steps.f l0 a1 = some r) :
  Calls Tryz.prog 51 #[.slice A0 l0.length c0, .int .i64 a1] w fun e w' => ∃ v0_ : Value, e = .returned (v0_) ∧ Kd.R (Kd.int .i64) 2 w' w.heap.size (fun _ => True) v0_ r ∧ Below w.heap.size w w' := by
 have HR0 := Aside0.mk hr0
 have HC0 := Aside0.mk hc0
 clear hr0 hc0
 have HB := Aside0.mk (Below.refl w.heap.size w)
 have H : ((slices_IndexFunc_impl_Pair_impl_Pair.f l0 (clo_68 a1)).bind fun t118 => (if t118 < 0 then (some ([] : List Int)) else (if 0 ≤ t118 then (if t118 < (l0.length : Int) then ((impl_borders.f ((rd_T45 l0 t118).f1)).bind fun t120 => ((slices_DeleteFunc_int64_int64.f t120 (clo_70 a1)).bind fun t123 => (some t123))) else (none)) else (none)))) = some r := h
 clear h
 replace H := Option.bind_eq_some_iff.mp H
 obtain ⟨t118, A30, H⟩ := H
 try dsimp only at H
 have A3 := Aside0.mk A30
 clear A30
 by_cases c4 : t118 < 0
 ·rw [if_pos c4] at H
  have c4b0 : decide (t118 < 0) = true := decide_eq_true c4
  clear c4
  obtain rfl := Option.some.inj H
  go_enter Tryz.func51, Tryz.ntmps51
  go_wp2_with (first | ((with_reducible refine gate_dst (N := 3) rfl ?_); refine box_event ?hg (N := 3) ?hd (cs := #[.int .i64 a1]) (t := 2) ?hr ?_; (case hd => rfl); (case hg => rfl); (case hr => first | (go_simp; done) | (go_simp; rfl)); intro gb117 hg w5 hbox hb; have BK117 := Aside0.mk (hbox); have GW117 := gH HB hg; have GE117 := gH HB hg; replace HB := sH HB hb; clear hb hbox hg) | ((with_reducible refine gate_callee (f := 31) rfl ?_); refine cl_ (some 8) Tryz.func31 #[.slice A0 l0.length c0, .func (.func 68) #[] #[.pointer (some ⟨gb117, 0, none⟩)]] ?_; (with_reducible refine (slices_IndexFunc_impl_Pair_impl_Pair.calls _ _ l0 _ (clo_68 a1) t118 _ ?side1 ?side2 ?side3 A3.out).mono ?_); (case side1 => exact pC ((Kd.C_below HR0.out HB.out))); (case side2 => exact HC0.out); (case side3 => exact clo_ok_68 (pB BK117) ); rintro e w6 ⟨rfl, hb⟩; refine ⟨_, rfl, ?_⟩; replace BK117 := sB BK117 hb; replace HB := sH HB hb; (try clear hb); (try clear hi)))
  go_ret
  exact ⟨_, by first | rfl | (simp [errW_none, errW_some] <;> rfl) | (simp [*, errW_none, errW_some] <;> rfl) | (exfalso; simp_all), by first | exact Kd.R_nil _ _ _ _ _ | exact Kd.N_nil _ _ _ _ _ | exact Kd.V_nil _ _ _ _ _ | exact Kd.Q_nil _ _ _ _ _ | exact Kd.S_nil _ _ _ _ _, pH HB⟩
 ·rw [if_neg c4] at H
  have c4b0 : decide (t118 < 0) = false := decide_eq_false c4
  clear c4
  by_cases c7 : 0 ≤ t118
  ·rw [if_pos c7] at H
   have c7b0 : decide (0 ≤ t118) = true := decide_eq_true c7
   clear c7
   by_cases c8 : t118 < (l0.length : Int)
   ·rw [if_pos c8] at H
    have c8b0 : decide (t118 < (l0.length : Int)) = true := decide_eq_true c8
    clear c8
    replace H := Option.bind_eq_some_iff.mp H
    obtain ⟨t120, A90, H⟩ := H
    try dsimp only at H
    have A9 := Aside0.mk A90
    clear A90
    replace H := Option.bind_eq_some_iff.mp H
    obtain ⟨t123, A100, H⟩ := H
    try dsimp only at H
    have A10 := Aside0.mk A100
    clear A100
    obtain rfl := Option.some.inj H
    go_enter Tryz.func51, Tryz.ntmps51
    go_wp2_with (first | ((with_reducible refine gate_dst (N := 3) rfl ?_); refine box_event ?hg (N := 3) ?hd (cs := #[.int .i64 a1]) (t := 2) ?hr ?_; (case hd => rfl); (case hg => rfl); (case hr => first | (go_simp; done) | (go_simp; rfl)); intro gb117 hg w11 hbox hb; have BK117 := Aside0.mk (hbox); have GW117 := gH HB hg; have GE117 := gH HB hg; replace HB := sH HB hb; clear hb hbox hg) | ((with_reducible refine gate_callee (f := 31) rfl ?_); refine cl_ (some 8) Tryz.func31 #[.slice A0 l0.length c0, .func (.func 68) #[] #[.pointer (some ⟨gb117, 0, none⟩)]] ?_; (with_reducible refine (slices_IndexFunc_impl_Pair_impl_Pair.calls _ _ l0 _ (clo_68 a1) t118 _ ?side1 ?side2 ?side3 A3.out).mono ?_); (case side1 => exact pC ((Kd.C_below HR0.out HB.out))); (case side2 => exact HC0.out); (case side3 => exact clo_ok_68 (pB BK117) ); rintro e w12 ⟨rfl, hb⟩; refine ⟨_, rfl, ?_⟩; replace BK117 := sB BK117 hb; replace HB := sH HB hb; (try clear hb); (try clear hi); have p119 : 0 ≤ (t118 : Int) := of_decide_eq_true (by first | (with_reducible assumption) | assumption); have q119 : t118 < (l0.length : Int) := of_decide_eq_true (by first | (with_reducible assumption) | assumption); obtain ⟨ad119, e119, hx119_0, hx119_1⟩ := at_T45 HR0.out t118 p119 q119; cases e119; replace hx119_0 := cH HB hx119_0; replace hx119_1 := cH HB hx119_1; replace p119 := eq_true p119; replace q119 := eq_true q119) | ((with_reducible refine gate_callee (f := 27) rfl ?_); refine cl_ (some 16) Tryz.func27 #[.int .i64 ((rd_T45 l0 t118).f1)] ?_; (with_reducible refine (impl_borders.calls ((rd_T45 l0 t118).f1) t120 _ A9.out).mono ?_); rintro e w13 ⟨v121, rfl, ho0, hb⟩; refine ⟨_, rfl, ?_⟩; have HO122 := Aside0.mk (Kd.R_lower (Kd.R_newB ho0 (g := gb117) (o := .cells #[.int .i64 a1] 2 (0, 0)) (pB BK117)) (below_size (pH HB))); replace BK117 := sB BK117 hb; replace HB := sH HB hb; (try clear hb); (try clear hi); (try clear ho0); obtain ⟨Ao14, co14, eo14⟩ := Kd.R_slice HO122.out; subst eo14) | ((with_reducible refine gate_callee (f := 69) rfl ?_); refine cl_ (some 18) Tryz.func69 #[.slice Ao14 t120.length co14, .func (.func 70) #[] #[.pointer (some ⟨gb117, 0, none⟩)]] ?_; (with_reducible refine (slices_DeleteFunc_int64_int64.calls (fun k_ => some k_ = (.slice Ao14 t120.length co14 : Value).ownBlock) (.slice Ao14 t120.length co14) t120 _ (clo_70 a1) t123 w _ ?side1 ?side2 ?side3 A10.out).mono ?_); (case side1 => repeat (first | (with_reducible first | exact HB.out | apply below_alloc | apply pw_below_drewN | apply below_drew1 | refine below_set ?_ GE117.out) | exact HB.out)); (case side2 => exact Kd.R_tight rfl HO122.out); (case side3 => intro W_ hK_; exact clo_ok_70 (blk_kept (pB BK117) hK_ (fun hs_ => (fun e_ => (Kd.R_away HO122.out (fun _ hk => hk.2)) e_) hs_)) ); rintro e w15 ⟨v124, rfl, ho0, hb, hkp⟩; refine ⟨_, rfl, ?_⟩; have n0_ := Aside0.mk (blk_kept (pB BK117) hkp (fun hs_ => (fun e_ => (Kd.R_away HO122.out (fun _ hk => hk.2)) e_) hs_)); have n1_ := Aside0.mk (Kd.R_mono (ok' := fun k_ => k_ ≠ gb117) ho0 (fun k_ hk_ => Or.elim hk_ (fun hs_ => fun e_ => (Kd.R_away HO122.out (fun _ hk => hk.2)) (by rw [← e_]; exact hs_)) (fun hn_ => (Kd.freshB (g := gb117) (o := .cells #[.int .i64 a1] 2 (0, 0)) (pB BK117) k_ hn_)))); have n2_ := Aside0.mk (hb); clear BK117; clear HB; clear HO122; have BK117 := n0_; have HO125 := n1_; have HB := n2_; clear n0_ n1_ n2_; (try clear hb); (try clear hkp); (try clear ho0)))
    go_ret
    exact ⟨_, by first | rfl | (simp [errW_none, errW_some] <;> rfl) | (simp [*, errW_none, errW_some] <;> rfl) | (exfalso; simp_all), by (with_reducible repeat (first | apply Kd.R_alloc | apply Kd.R_drewN | apply Kd.R_drew)); exact Kd.R_mono HO125.out (fun _ hk => trivial), pH HB⟩
   ·rw [if_neg c8] at H
    exact absurd H (by simp)
  ·rw [if_neg c7] at H
   exact absurd H (by simp)
end Go.Proofs.YtdnbmobdiidfmaaGreat.QA
namespace Go.Proofs.YtdnbmobdiidfmaaGreat.Im
open Go.RowKit Go.MapKept YtdnbmobdiidfmaaGreatW.PrintWords YtdnbmobdiidfmaaGreatW.PrintLast YtdnbmobdiidfmaaGreatW.PrintMore
def entV (p : Int × Bool) : Value × Value := (.int .i64 p.1, .bool p.2)
def MapB (w : World) (b : Nat) (M : List (Int × Bool)) : Prop := ∃ es clock, w.heap[b]? = some (.map es clock) ∧ es.toList.map (fun e => (e.key, e.val)) = M.map entV
def getM : List (Int × Bool) → Int → Bool
  | [], _ => false
  | p :: M, k => if k = p.1 then p.2 else getM M k
def putM : List (Int × Bool) → Int → Bool → List (Int × Bool)
  | [], k, v => [(k, v)]
  | p :: M, k, v => if k = p.1 then (k, v) :: M else p :: putM M k v
theorem getM_put (M : List (Int × Bool)) (k x : Int) (v : Bool) : getM (putM M k v) x = if x = k then v else getM M x := by
  induction M with
  | nil => simp [putM, getM]
  | cons p M ih =>
    unfold putM
    by_cases h : k = p.1
    · rw [if_pos h]
      simp only [getM]
      by_cases hx : x = k
      · rw [if_pos hx, if_pos hx]
      · rw [if_neg hx, if_neg hx, if_neg (by rw [← h]; exact hx)]
    · rw [if_neg h]
      simp only [getM, ih]
      by_cases hx : x = p.1
      · rw [if_pos hx, if_neg (by rw [hx]; exact fun e => h e.symm)]
        rw [if_pos hx]
      · rw [if_neg hx, if_neg hx]
theorem MapB.lt {w : World} {b : Nat} {M : List (Int × Bool)} (h : MapB w b M) : b < w.heap.size := by
  obtain ⟨es, c, hb, _⟩ := h
  exact (Array.getElem?_eq_some_iff.1 hb).1
theorem MapB.below {w w1 : World} {b : Nat} {M : List (Int × Bool)} (h : MapB w b M) (hb : Below w.heap.size w w1) : MapB w1 b M := by
  have hl := h.lt
  obtain ⟨es, c, h1, h2⟩ := h
  exact ⟨es, c, (hb.block b hl).trans h1, h2⟩
theorem MapB.drew {w : World} {b : Nat} {M : List (Int × Bool)} (h : MapB w b M) : MapB w.drew b M := h
theorem MapB.drewN {w : World} {b : Nat} {M : List (Int × Bool)} (h : MapB w b M) (n : Nat) : MapB (w.drewN n) b M := h
theorem MapB.alloc {w : World} {b : Nat} {M : List (Int × Bool)} (h : MapB w b M) (o : Obj) : MapB (w.alloc o) b M := h.below (below_alloc (Below.refl _ _) o)
theorem MapB.made (w : World) : MapB (w.alloc (.map #[] 0)) w.heap.size [] := ⟨#[], 0, (heap_alloc w _).1, rfl⟩
theorem MapB.far {w : World} {b : Nat} {M : List (Int × Bool)} (h : MapB w b M) {p : Addr} (hp : b ≠ p.block) (u : Value) : MapB (w.setCell p u) b M := by
  obtain ⟨es, c, h1, h2⟩ := h
  exact ⟨es, c, (Below.heap_setCell w p u b hp).trans h1, h2⟩
theorem MapB.ne {w : World} {b g : Nat} {M : List (Int × Bool)} (h : MapB w b M) {cs : Array Value} {t : TypeId} {fr : Nat × Nat} (hg : w.heap[g]? = some (.cells cs t fr)) : b ≠ g := by
  rintro rfl
  obtain ⟨es, c, h1, _⟩ := h
  rw [hg] at h1
  cases h1
theorem findNow_entV (k : Int) : ∀ (es : List MapEntry) (M : List (Int × Bool)) (i : Nat), es.map (fun e => (e.key, e.val)) = M.map entV →
    (getM M k = false ∧ (∀ v, putM M k v = M ++ [(k, v)]) ∧ Instr.findNow (.int .i64) (.int .i64 k) es i = some none) ∨
    (∃ j e, es[j]? = some e ∧ e.key = .int .i64 k ∧ e.val = .bool (getM M k) ∧ (∀ v, (putM M k v).map entV = (M.map entV).set j (.int .i64 k, .bool v)) ∧ Instr.findNow (.int .i64) (.int .i64 k) es i = some (some (i + j, .bool (getM M k))))
  | [], [], i, _ => .inl ⟨rfl, fun _ => rfl, rfl⟩
  | [], _ :: _, _, h => by simp at h
  | _ :: _, [], _, h => by simp at h
  | e :: es, p :: M, i, h => by
    simp only [List.map_cons, List.cons.injEq] at h
    obtain ⟨h1, h2⟩ := h
    have hk : e.key = .int .i64 p.1 := congrArg Prod.fst h1
    have hv : e.val = .bool p.2 := congrArg Prod.snd h1
    by_cases hp : k = p.1
    · refine .inr ⟨0, e, rfl, by rw [hk, hp], by simp [getM, hp, hv], fun v => by simp [putM, hp, entV], ?_⟩
      simp [Instr.findNow, Instr.sameNow, hk, hp, hv, getM]
    · have hf : Instr.sameNow (.int .i64) (.int .i64 k) e.key = some false := by simp [Instr.sameNow, hk, hp]
      rcases findNow_entV k es M (i + 1) h2 with ⟨a1, a2, a3⟩ | ⟨j, e', a1, a2, a3, a4, a5⟩
      · refine .inl ⟨by simp [getM, hp, a1], fun v => by simp [putM, hp, a2], ?_⟩
        simp [Instr.findNow, hf, a3]
      · refine .inr ⟨j + 1, e', by simpa using a1, a2, by simp [getM, hp, a3], fun v => by simp [putM, hp, a4], ?_⟩
        simp only [Instr.findNow, hf, a5, getM, if_neg hp]
        congr 3
        omega
section
variable {P : Program} {w : World} {t k e : TypeId} {b : Nat} {M : List (Int × Bool)}
theorem MapB.look (h : MapB w b M) (ht : P.underlying t = some (.map k e)) (hk : P.underlying k = some (.int .i64)) (hz : (zeroValue e).run P w = .ok (.bool false) w) (x : Int) :
    (Instr.lookup t (.map (some b)) (.int .i64 x) false).run P w = .ok (.bool (getM M x)) w := by
  obtain ⟨es, c, h1, h2⟩ := h
  have hc : ∀ em, (Instr.checkKey em 10000 k (.int .i64 x)).run P w = .ok () w := fun em => run_checkKey hk (by simp [IsKey]) em 9999
  rcases findNow_entV x es.toList M 0 h2 with ⟨a1, _, a3⟩ | ⟨j, e', _, _, _, _, a5⟩
  · have hf := run_findKey (w := w) hk a3
    simp [Instr.lookup, run_underlying ht, Go.MapKept.run_getObj_map h1, hc, hf, hz, Result.andThen, a1]
  · have hf := run_findKey (w := w) hk a5
    simp [Instr.lookup, run_underlying ht, Go.MapKept.run_getObj_map h1, hc, hf, Result.andThen]
theorem MapB.put (h : MapB w b M) (ht : P.underlying t = some (.map k e)) (hk : P.underlying k = some (.int .i64)) (x : Int) (v : Bool) :
    ∃ w', (Instr.mapUpdate t (.map (some b)) (.int .i64 x) (.bool v)).run P w = .ok () w' ∧ MapB w' b (putM M x v) ∧ w.grownBy w' (some b) ∧ w'.heap.size = w.heap.size := by
  obtain ⟨es, c, h1, h2⟩ := h
  have hc : (Instr.checkKey false 10000 k (.int .i64 x)).run P w = .ok () w := run_checkKey hk (by simp [IsKey]) false 9999
  have hg : ∀ o, w.grownBy { w with heap := w.heap.setIfInBounds b o } (some b) := fun o => ⟨rfl, rfl, rfl, by simp, fun i _ hi => (heap_set h1).2 i (fun q => hi (by rw [q]))⟩
  rcases findNow_entV x es.toList M 0 h2 with ⟨a1, a2, a3⟩ | ⟨j, e', a1, a2, a3, a4, a5⟩
  · have hf := run_findKey (w := w) hk a3
    refine ⟨{ w with heap := w.heap.setIfInBounds b (.map (es.push { key := .int .i64 x, val := .bool v, born := c }) (c + 1)) }, ?_, ⟨_, _, (heap_set h1).1, ?_⟩, hg _, by simp⟩
    · simp [Instr.mapUpdate, run_underlying ht, Go.MapKept.run_getObj_map h1, hc, hf, Go.MapKept.run_setObj_map _ h1, Result.andThen]
    · simp [a2, h2, entV]
  · have hf := run_findKey (w := w) hk a5
    have hj : es[j]? = some e' := by simpa using a1
    refine ⟨{ w with heap := w.heap.setIfInBounds b (.map (es.modify j fun q => { q with key := .int .i64 x, val := .bool v }) c) }, ?_, ⟨_, _, (heap_set h1).1, ?_⟩, hg _, by simp⟩
    · simp [Instr.mapUpdate, run_underlying ht, Go.MapKept.run_getObj_map h1, hc, hf, Instr.keyThatStays, Instr.sameBits, hj, a2, Go.MapKept.run_setObj_map _ h1, Result.andThen]
    · rw [a4, ← h2]
      apply List.ext_getElem?
      intro m
      simp only [Array.toList_modify, List.getElem?_map, List.getElem?_modify, List.getElem?_set, List.length_map]
      by_cases hm : j = m
      · subst hm
        have : j < es.toList.length := (List.getElem?_eq_some_iff.1 a1).1
        rw [a1]
        simpa using this
      · cases hq : es.toList[m]? <;> simp [hm]
end
end Go.Proofs.YtdnbmobdiidfmaaGreat.Im
namespace Go.Proofs.YtdnbmobdiidfmaaGreat.Im
open Go.RowKit Go.Shelf Kp Ext Cw YtdnbmobdiidfmaaGreatW.PrintWords YtdnbmobdiidfmaaGreatW.PrintLast YtdnbmobdiidfmaaGreatW.PrintMore
theorem rowOf_pr {w : World} {b : Nat} {x y : Int} (h : PrAt w b x y) : Kd.C (Kd.int .i64) w (some ⟨b, 0, none⟩) 2 [x, y] := by
  refine ⟨rfl, by omega, fun _ => ⟨⟨b, 0, none⟩, rfl, fun j p hj => ⟨[.int .i64 p], rfl, rfl, fun i u hu => ?_⟩⟩⟩
  have hi : i = 0 := by
    rcases i with _ | i
    · rfl
    · simp at hu
  subst hi
  obtain rfl : Value.int .i64 p = u := by simpa using hu
  rw [add_plain]
  rcases j with _ | _ | j
  · obtain rfl : x = p := by simpa using hj
    exact h.c0
  · obtain rfl : y = p := by simpa using hj
    exact h.c1
  · simp at hj
def cmpI (a b : Int) : Int := if a < b then -1 else if a > b then 1 else 0
def cmpP (p q : Pr) : Int := if cmpI p.f0 q.f0 = 0 then cmpI p.f1 q.f1 else cmpI p.f0 q.f0
theorem cmpI_f (a b : Int) : QA.cmp_Compare_int64.f a b = some (cmpI a b) := by
  unfold QA.cmp_Compare_int64.f QA.cmp_isNaN_int64.f cmpI
  simp only [Option.bind_some, bne_self_eq_false, Bool.false_eq_true, if_false]
  split
  · rfl
  · split <;> rfl
theorem ev_cmpP (p q : Pr) : ∃ k, QA.slices_Compare_int64_int64.f k [p.f0, p.f1] [q.f0, q.f1] = some (cmpP p q) := by
  refine ⟨3, ?_⟩
  unfold QA.slices_Compare_int64_int64.f cmpP
  simp [QA.slices_Compare_int64_int64.l0, cmpI_f, rd, wrap64]
  by_cases h0 : cmpI p.f0 q.f0 = 0
  · by_cases h1 : cmpI p.f1 q.f1 = 0
    · simp [h0, h1]
    · simp [h0, h1]
  · simp [h0]
set_option maxRecDepth 100000 in
set_option maxHeartbeats 1000000 in
theorem comparePairs_c (p q : Pr) (w : World) : Calls Tryz.prog 35 #[.agg #[.int .i64 p.f0, .int .i64 p.f1], .agg #[.int .i64 q.f0, .int .i64 q.f1]] w fun e w' => e = .returned (.int .i64 (cmpP p q)) ∧ Below w.heap.size w w' := by
  obtain ⟨k, hk⟩ := ev_cmpP p q
  have HK := Aside0.mk hk
  clear hk
  have h1 := Aside0.mk (((PrAt.new w p.f0 p.f1).alloc (.cells #[.int .i64 q.f0, .int .i64 q.f1] 45)).drew)
  have h2 : Aside0 (PrAt ((w.alloc (.cells #[.int .i64 p.f0, .int .i64 p.f1] 45)).alloc (.cells #[.int .i64 q.f0, .int .i64 q.f1] 45)).drew (w.heap.size + 1) q.f0 q.f1) := ⟨by have := (PrAt.new (w.alloc (.cells #[.int .i64 p.f0, .int .i64 p.f1] 45)) q.f0 q.f1).drew; simpa using this⟩
  have HB := Aside0.mk ((below_alloc (below_alloc (Below.refl w.heap.size w) (.cells #[.int .i64 p.f0, .int .i64 p.f1] 45)) (.cells #[.int .i64 q.f0, .int .i64 q.f1] 45)).drew)
  go_enter Tryz.func35, Tryz.ntmps35
  go_wp2
  refine st_ 4 (S := fun w' => True) (ds := []) trivial (fun hHeld => ?_)
  refine with_tabW (T := (true, [([], []), ([], []), ([0, 1], [0, 1]), ([2, 2, 0, 1, 2], [2])])) (B := [0, 0, 3, 7]) (by kernel_rfl) (by kernel_rfl) (fun HT_ HW_ => ?_)
  refine pd_ 0 5 1 HT_ ?_
  refine pd_ 1 6 3 HT_ ?_
  refine on_ 2 (some 7) 7 HT_ (fun K hK => ?_)
  refine ca_ Tryz.func55 #[.slice (some ⟨w.heap.size, 0, none⟩) 2 2, .slice (some ⟨w.heap.size + 1, 0, none⟩) 2 2] ?_
  refine (QA.slices_Compare_int64_int64.calls k _ _ [p.f0, p.f1] _ _ [q.f0, q.f1] _ _ (rowOf_pr h1.out) (Nat.le_refl _) (rowOf_pr h2.out) (Nat.le_refl _) HK.out).mono ?_; rintro e w1 ⟨rfl, hd⟩
  refine ⟨_, rfl, ?_⟩
  refine hK.out _ _ trivial (fun hHeld => ?_)
  clear hK K
  refine nm_ ?_
  refine pd_ 3 4 15 HT_ ?_
  refine dn_ HT_ ?_
  go_wp2
  go_ret
  exact ⟨rfl, HB.out.trans (hd.below.mono HB.out.size)⟩
theorem firstP_nonneg (p : Pr → Bool) (xs : List Pr) : decide (firstP p xs ≥ 0) = xs.any p := by
  unfold firstP
  cases h : xs.any p with
  | true => simp
  | false => simp
set_option maxRecDepth 100000 in
theorem containsPair_c (A : Option Addr) (c : Nat) (xs : List Pr) (fv : Value) (dom : Pr → Prop) (p : Pr → Bool) (w : World) (hr : Kd.C k45 w A xs.length xs) (hf : FnP Tryz.prog fv dom p w) (hd : ∀ x ∈ xs, dom x) (hl : xs.length ≤ 1099511627776) :
    Calls Tryz.prog 91 #[.slice A xs.length c, fv] w fun e w' => e = .returned (.bool (xs.any p)) ∧ Below w.heap.size w w' := by
  rw [← firstP_nonneg]
  have hc := indexPair_c A c xs fv dom p w hr hf hd hl
  have HC := Aside0.mk hc
  clear hc hr hf hd
  generalize firstP p xs = r at HC ⊢
  go_enter Tryz.func91, Tryz.ntmps91
  go_wp2_with (go_at_call 31; refine HC.out.mono ?_; rintro e w' ⟨rfl, hb⟩)
  go_ret
  exact ⟨rfl, hb⟩
theorem areAllP1_f (b : Nat) (fv : Value) (dom : Pr → Prop) (p : Pr → Bool) (w : World) (hb : Boxed w b 54 fv) (hf : FnP Tryz.prog fv dom p w) :
    FnP Tryz.prog (.func (.func 107) #[] #[.pointer (some ⟨b, 0, none⟩)]) dom (fun x => !p x) w := by
  refine ⟨_, _, _, rfl, enters_of Tryz.func107 (by kernel_rfl) rfl, fun W x hW hx => ?_⟩
  obtain ⟨g, fs, lb, rfl, eg, hcall⟩ := hf
  have hb1 : Below W.heap.size W (W.alloc (.cells #[.int .i64 x.f0, .int .i64 x.f1] 45)) := (Below.refl _ W).alloc (Nat.le_refl _) _
  have hc := hcall _ x (hW.trans (hb1.mono hW.size)) hx
  have HC := Aside0.mk hc
  have HB := Aside0.mk hb1
  have hcell : W.cell? ⟨b, 0, none⟩ = some (.func (.func g) fs lb) := (hW.cell (p := ⟨b, 0, none⟩) hb.lt).trans hb.cell
  have hlt : b < W.heap.size := Nat.lt_of_lt_of_le hb.lt hW.size
  clear hc hcall hW hx hb hb1
  show Calls Tryz.prog 107 #[.agg #[.int .i64 x.f0, .int .i64 x.f1], .pointer (some ⟨b, 0, none⟩)] W fun e w' => e = .returned (.bool (!p x)) ∧ Below W.heap.size W w'
  generalize p x = r at HC ⊢
  have hc1 : (W.alloc (.cells #[.int .i64 x.f0, .int .i64 x.f1] 45)).cell? ⟨b, 0, none⟩ = some (.func (.func g) fs lb) := (HB.out.cell (p := ⟨b, 0, none⟩) hlt).trans hcell
  go_enter Tryz.func107, Tryz.ntmps107
  go_wp2_with (go_at_fn g; refine HC.out.mono ?_; rintro e w' ⟨rfl, hb⟩)
  go_ret
  exact ⟨rfl, below_in HB.out hb⟩
theorem all_not_anyP (p : Pr → Bool) (xs : List Pr) : xs.all p = !(xs.any fun x => !p x) := by
  induction xs with
  | nil => rfl
  | cons x xs ih => simp only [List.all_cons, List.any_cons, ih, Bool.not_or, Bool.not_not]
theorem areAllP_c (A : Option Addr) (c : Nat) (xs : List Pr) (fv : Value) (dom : Pr → Prop) (p : Pr → Bool) (w : World) (hr : Kd.C k45 w A xs.length xs) (hf : FnP Tryz.prog fv dom p w) (hd : ∀ x ∈ xs, dom x) (hl : xs.length ≤ 1099511627776) :
    Calls Tryz.prog 86 #[.slice A xs.length c, fv] w fun e w' => e = .returned (.bool (xs.all p)) ∧ Below w.heap.size w w' := by
  have hb1 : Below w.heap.size w (w.alloc (.cells #[fv] 54)) := (Below.refl _ w).alloc (Nat.le_refl _) _
  have hc := containsPair_c A c xs _ dom (fun x => !p x) (w.alloc (.cells #[fv] 54)) (Kd.C_below hr hb1) (areAllP1_f w.heap.size fv dom p _ (Boxed.new w _ fv) (hf.later hb1)) hd hl
  have he := all_not_anyP p xs
  rw [he]
  have HC := Aside0.mk hc
  have HB := Aside0.mk hb1
  clear hc hr hd he hb1
  obtain ⟨g, fs, lb, rfl, eg, hcall⟩ := hf
  clear hcall eg
  generalize (xs.any fun x => !p x) = r at HC ⊢
  go_enter Tryz.func86, Tryz.ntmps86
  go_wp2_with (go_at_call 91; refine HC.out.mono ?_; rintro e w' ⟨rfl, hb⟩)
  go_ret
  exact ⟨rfl, below_in HB.out hb⟩
section
variable {P : Program} {ops : Array Oper} {Q : Exit → Act → World → Prop} {a : Act} {w : World} {oi : Oper}
end
section
variable {P : Program} {ops : Array Oper} {Q : Exit → Act → World → Prop} {S : World → Prop} {ds : List Nat} {md : Region.Mode} {T : Bool × List (List Nat × List Nat)} {n m fuel : Nat} {a : Act} {w : World} {oi oj : Oper}
end
def CellsQ (w : World) (ad : Addr) (m : Nat) (q : Pr) : Prop := w.cell? (ad.add (m * 2)) = some (.int .i64 q.f0) ∧ w.cell? ⟨(ad.add (m * 2)).block, (ad.add (m * 2)).off + 1, none⟩ = some (.int .i64 q.f1)
theorem cellsQ_below {w w1 : World} {ad : Addr} {m : Nat} {q : Pr} (h : CellsQ w ad m q) (hb : Below w.heap.size w w1) : CellsQ w1 ad m q := ⟨pw_cell_below hb h.1, pw_cell_below hb h.2⟩
section
variable {P : Program}
variable {ops : Array Oper} {rest : List Oper} {o : Oper} {a : Act} {w : World} {Q : Exit → Act → World → Prop} {K : Act → World → Prop} {E : Prop}
end
def fl : List Pr → List Value
  | [] => []
  | x :: l => .int .i64 x.f0 :: .int .i64 x.f1 :: fl l
theorem fl_len : ∀ l : List Pr, (fl l).length = l.length * 2
  | [] => rfl
  | x :: l => by simp [fl, fl_len l]; omega
theorem reps_fl {w : World} {base : Nat} {ok : Nat → Prop} : ∀ (l : List Pr) (cs : List Value), Reps (k45.M w base ok) 2 l cs → cs = fl l
  | [], cs, h => List.eq_nil_of_length_eq_zero (by simpa using h.1)
  | x :: l, cs, h => by
    obtain ⟨hl, hr⟩ := h
    match cs, hl, hr with
    | [], hl, hr => simp at hl
    | [a], hl, hr => simp at hl; omega
    | a :: b :: cs, hl, hr =>
      have h0 := k45_openM (hr 0 x rfl)
      simp only [Nat.zero_mul, List.drop_zero, List.take_succ_cons, List.take_zero, List.cons.injEq, and_true] at h0
      obtain ⟨rfl, rfl⟩ := h0
      rw [reps_fl l cs ⟨by simp at hl ⊢; omega, fun j p hj => by
        have := hr (j + 1) p (by simpa using hj)
        rwa [Nat.succ_mul, show (Value.int .i64 x.f0 :: Value.int .i64 x.f1 :: cs).drop (j * 2 + 2) = cs.drop (j * 2) from by simp] at this⟩]
      rfl
theorem fl_reps (w : World) (base : Nat) (ok : Nat → Prop) : ∀ l : List Pr, Reps (k45.M w base ok) 2 l (fl l)
  | [] => Reps.none _ _
  | x :: l => by
    obtain ⟨hl, hr⟩ := fl_reps w base ok l
    refine ⟨by simp [fl, hl]; omega, fun j p hj => ?_⟩
    rcases j with _ | j
    · obtain rfl : x = p := by simpa using hj
      exact k45_mkM w base ok x
    · have := hr j p (by simpa using hj)
      rw [Nat.succ_mul, show (fl (x :: l)).drop (j * 2 + 2) = (fl l).drop (j * 2) from by simp [fl]]
      exact this
abbrev PO (w : World) (base : Nat) (v : Value) (xs : List Pr) : Prop := Kd.R k45 45 w base (fun _ => True) v xs
theorem PO.open {w : World} {base : Nat} {v : Value} {xs : List Pr} (h : PO w base v xs) : (v = .slice none 0 0 ∧ xs = []) ∨ ∃ g cap cur, v = .slice (some ⟨g, 0, none⟩) xs.length cap ∧ base ≤ g ∧ w.heap[g]? = some (.cells (List.toArray cur) 45 (0, 0)) ∧ xs.length ≤ cap ∧ cap ≤ maxLen ∧ cur.length = cap * 2 ∧ cur.take (xs.length * 2) = fl xs := by
  obtain ⟨_, inner, ⟨hl, ho⟩, hr⟩ := h
  have he := reps_fl xs inner hr
  subst he
  rcases ho with ⟨rfl, h0⟩ | ⟨g, cap, cur, rfl, hb, hg, hn, hc, hs, ht⟩
  · exact .inl ⟨rfl, List.eq_nil_of_length_eq_zero h0⟩
  · exact .inr ⟨g, cap, cur.toList, rfl, hb, by simpa using hg, hn, hc, hs, ht⟩
theorem PO.mk {w : World} {base g cap : Nat} {cur : List Value} {xs : List Pr} (hb : base ≤ g) (hg : w.heap[g]? = some (.cells cur.toArray 45 (0, 0))) (hn : xs.length ≤ cap) (hc : cap ≤ maxLen) (hs : cur.length = cap * 2) (ht : cur.take (xs.length * 2) = fl xs) :
    PO w base (.slice (some ⟨g, 0, none⟩) xs.length cap) xs :=
  ⟨fun _ _ => trivial, fl xs, ⟨fl_len xs, .inr ⟨g, cap, cur.toArray, rfl, hb, hg, hn, hc, hs, ht⟩⟩, fl_reps _ _ _ xs⟩
theorem infoP : (Tryz.prog.info? 45).map (fun i => (i.zero, i.size, i.bytes)) = some (some (.agg #[.int .i64 0, .int .i64 0]), 2, 16) := by kernel_rfl
section
variable {ops : Array Oper} {rest : List Oper} {o : Oper} {a : Act} {Q : Exit → Act → World → Prop}
theorem apPs {w0 W : World} (base : Nat) (hgd : o.guard = none) (s x : Operand)
    (ho : o.op = .call { callee := .builtin .append, args := #[s, x], argTypes := #[28, 28] })
    (v : Value) (xs ys : List Pr) (A : Option Addr) (m c : Nat)
    (hs : a.eval s = v) (hx : a.eval x = .slice A m c) (HO : PO W base v xs) (HR : Kd.C k45 W A m ys) (HB : Below base w0 W) (hbase : base ≤ W.heap.size) (hl : xs.length + m ≤ 8796093022208)
    (h : ∀ v1 w1, PO w1 base v1 (xs ++ ys) → Below base w0 w1 → W.grownBy w1 v.ownBlock → (v1.ownBlock = v.ownBlock ∨ ∃ b, v1.ownBlock = some b ∧ W.heap.size ≤ b) → wpList Tryz.prog ops Q rest (a.put o.dst v1) w1) :
    wpList Tryz.prog ops Q (o :: rest) a W :=
  Kd.R_append_rows k45 base hgd s x 28 45 (.agg #[.int .i64 0, .int .i64 0]) 16 ho Tryz.underlying28 infoP rfl (by decide) (by decide) v xs ys A m c (fun _ => True) (fun _ => False) hs hx HO HR
    (fun x cs h => by rw [k45_open h]; exact k45_mkM _ _ _ _) (fun _ h => h.elim) (fun _ _ => trivial) HB hbase (by omega) h
end
theorem PO.made (w : World) (base cap : Nat) (cur : Array Value) (hb : base ≤ w.heap.size) (hm : cap ≤ maxLen) (hs : cur.size = cap * 2) : PO (w.alloc (.cells cur 45)) base (.slice (some ⟨w.heap.size, 0, none⟩) 0 cap) [] :=
  ⟨fun _ _ => trivial, [], World.ownsRow_made w cur cap hb hm hs, Reps.none _ _⟩
theorem cells_src {w : World} {g a : Nat} {L D : List Value} {t : TypeId} (hg : w.heap[g]? = some (.cells L.toArray t (0, 0))) (hD : (L.drop a).take D.length = D) : ∀ j v, D[j]? = some v → w.cell? ((⟨g, a, none⟩ : Addr).add j) = some v := by
  intro j v hj
  have hadd : (⟨g, a, none⟩ : Addr).add j = ⟨g, a + j, none⟩ := by unfold Addr.add; split <;> simp_all
  rw [hadd]
  refine (cell_of_row w g (a + j) _ _ _ hg).trans ?_
  rw [← hD, List.getElem?_take] at hj
  split at hj
  · rw [List.getElem?_drop] at hj
    simpa using hj
  · cases hj
theorem sizeOfP : ∀ w : World, (sizeOf 45).run Tryz.prog w = .ok 2 w := fun w => by
  obtain ⟨i0, hi0, hz0, hzs, hzb⟩ := info_parts infoP
  simp [sizeOf, typeInfo, hi0, hzs]
end Go.Proofs.YtdnbmobdiidfmaaGreat.Im
namespace Go.Proofs.YtdnbmobdiidfmaaGreat.QS
open Cw Kp Ext Go.RowKit YtdnbmobdiidfmaaGreatW.PrintWords YtdnbmobdiidfmaaGreatW.PrintLast YtdnbmobdiidfmaaGreatW.PrintMore
attribute [local go_sem] max2_int min2_int max_two min_two max_three min_three max_four min_four   -- for this text's walks alone
def laws_szInt64S.f (l0 : List Int) (a1 : Int) : Option (Int) := if (wrap64 (a1 - (l0.length : Int))) < 0 then (some (-1)) else (some (wrap64 (a1 - (l0.length : Int))))
set_option maxHeartbeats 8000000 in
set_option maxRecDepth 100000 in
theorem laws_szInt64S.calls (A0 : Option Addr) (c0 : Nat) (l0 : List Int) (a1 : Int) (r : Int) (w : World) (hr0 : Kd.C (Kd.int .i64) w A0 l0.length l0) (hc0 : l0.length ≤ c0) (h : laws_szInt64S.f l0 a1 = some r) :
  Calls Tryz.prog 15 #[.slice A0 l0.length c0, .int .i64 a1] w fun e w' => e = .returned (.int .i64 r) ∧ Drawn0 w w' := by
 have HR0 := Aside0.mk hr0
 have HC0 := Aside0.mk hc0
 clear hr0 hc0
 have H : (if (wrap64 (a1 - (l0.length : Int))) < 0 then (some (-1)) else (some (wrap64 (a1 - (l0.length : Int))))) = some r := h
 clear h
 by_cases c3 : (wrap64 (a1 - (l0.length : Int))) < 0
 ·rw [if_pos c3] at H
  have c3b0 : decide ((wrap64 (a1 - (l0.length : Int))) < 0) = true := decide_eq_true c3
  clear c3
  obtain rfl := Option.some.inj H
  go_enter Tryz.func15, Tryz.ntmps15
  go_wp2
  go_ret
  exact ⟨by first | rfl | (simp; done) | (simp [*]; done), by repeat (first | exact Drawn0.refl _ | apply Drawn0.step)⟩
 ·rw [if_neg c3] at H
  have c3b0 : decide ((wrap64 (a1 - (l0.length : Int))) < 0) = false := decide_eq_false c3
  clear c3
  obtain rfl := Option.some.inj H
  go_enter Tryz.func15, Tryz.ntmps15
  go_wp2
  go_ret
  exact ⟨by first | rfl | (simp; done) | (simp [*]; done), by repeat (first | exact Drawn0.refl _ | apply Drawn0.step)⟩
def laws_szComplex.f (a0_0 : Int) (l0_1 : List Int) (a1 : Int) : Option (Int) := (laws_szInt64S.f l0_1 a1).bind fun t102 => (if t102 < 0 then (some (-1)) else (some t102))
set_option maxHeartbeats 8000000 in
set_option maxRecDepth 100000 in
theorem laws_szComplex.calls (a0_0 : Int) (A0_1 : Option Addr) (c0_1 : Nat) (l0_1 : List Int) (a1 : Int) (r : Int) (w : World) (hr0_1 : Kd.C (Kd.int .i64) w A0_1 l0_1.length l0_1) (hc0_1 : l0_1.length ≤ c0_1) (h : laws_szComplex.f a0_0 l0_1 a1 = some r) :
  Calls Tryz.prog 4 #[.agg #[.int .i64 a0_0, .slice A0_1 l0_1.length c0_1], .int .i64 a1] w fun e w' => e = .returned (.int .i64 r) ∧ Below w.heap.size w w' := by
 have hu24 := Tryz.underlying24
 have HR0_1 := Aside0.mk hr0_1
 have HC0_1 := Aside0.mk hc0_1
 clear hr0_1 hc0_1
 have HB := Aside0.mk (Below.refl w.heap.size w)
 have H : ((laws_szInt64S.f l0_1 a1).bind fun t102 => (if t102 < 0 then (some (-1)) else (some t102))) = some r := h
 clear h
 replace H := Option.bind_eq_some_iff.mp H
 obtain ⟨t102, A30, H⟩ := H
 try dsimp only at H
 have A3 := Aside0.mk A30
 clear A30
 by_cases c4 : t102 < 0
 ·rw [if_pos c4] at H
  have c4b0 : decide (t102 < 0) = true := decide_eq_true c4
  clear c4
  obtain rfl := Option.some.inj H
  go_enter Tryz.func4, Tryz.ntmps4
  go_wp2_with (first | ((with_reducible refine gate_dst (N := 2) rfl ?_); refine box_event ?hg (N := 2) ?hd (cs := #[.int .i64 a0_0, .slice A0_1 l0_1.length c0_1]) (t := 24) ?hr ?_; (case hd => rfl); (case hg => rfl); (case hr => first | (go_simp; done) | (go_simp; rfl)); intro gb101 hg w5 hbox hb; have BK101 := Aside0.mk (hbox); have GW101 := gH HB hg; have GE101 := gH HB hg; replace HB := sH HB hb; clear hb hbox hg; have hcz6_0 : w5.cell? ⟨gb101, 0, none⟩ = some (.int .i64 a0_0) := cB BK101 0; have hcz6_1 : w5.cell? ⟨gb101, 1, none⟩ = some (.slice A0_1 l0_1.length c0_1) := cB BK101 1; have hfz6_0 := zB BK101 0; have hfz6_1 := zB BK101 1) | ((with_reducible refine gate_callee (f := 15) rfl ?_); refine cl_ (some 8) Tryz.func15 #[.slice A0_1 l0_1.length c0_1, .int .i64 a1] ?_; (with_reducible refine (laws_szInt64S.calls _ _ l0_1 a1 t102 _ ?side1 ?side2 A3.out).mono ?_); (case side1 => exact pC ((Kd.C_below HR0_1.out HB.out))); (case side2 => exact HC0_1.out); rintro e w' ⟨rfl, ⟨nd, rfl⟩⟩; refine ⟨_, rfl, ?_⟩))
  go_ret
  exact ⟨by first | rfl | (simp [errW_none, errW_some] <;> rfl) | (simp [*, errW_none, errW_some] <;> rfl) | (exfalso; simp_all), pH HB⟩
 ·rw [if_neg c4] at H
  have c4b0 : decide (t102 < 0) = false := decide_eq_false c4
  clear c4
  obtain rfl := Option.some.inj H
  go_enter Tryz.func4, Tryz.ntmps4
  go_wp2_with (first | ((with_reducible refine gate_dst (N := 2) rfl ?_); refine box_event ?hg (N := 2) ?hd (cs := #[.int .i64 a0_0, .slice A0_1 l0_1.length c0_1]) (t := 24) ?hr ?_; (case hd => rfl); (case hg => rfl); (case hr => first | (go_simp; done) | (go_simp; rfl)); intro gb101 hg w7 hbox hb; have BK101 := Aside0.mk (hbox); have GW101 := gH HB hg; have GE101 := gH HB hg; replace HB := sH HB hb; clear hb hbox hg; have hcz8_0 : w7.cell? ⟨gb101, 0, none⟩ = some (.int .i64 a0_0) := cB BK101 0; have hcz8_1 : w7.cell? ⟨gb101, 1, none⟩ = some (.slice A0_1 l0_1.length c0_1) := cB BK101 1; have hfz8_0 := zB BK101 0; have hfz8_1 := zB BK101 1) | ((with_reducible refine gate_callee (f := 15) rfl ?_); refine cl_ (some 8) Tryz.func15 #[.slice A0_1 l0_1.length c0_1, .int .i64 a1] ?_; (with_reducible refine (laws_szInt64S.calls _ _ l0_1 a1 t102 _ ?side1 ?side2 A3.out).mono ?_); (case side1 => exact pC ((Kd.C_below HR0_1.out HB.out))); (case side2 => exact HC0_1.out); rintro e w' ⟨rfl, ⟨nd, rfl⟩⟩; refine ⟨_, rfl, ?_⟩))
  go_ret
  exact ⟨by first | rfl | (simp [errW_none, errW_some] <;> rfl) | (simp [*, errW_none, errW_some] <;> rfl) | (exfalso; simp_all), pH HB⟩
def laws_toInt64S.l0 : Nat → List Int → List Int → Int → Option (List Int)
 | 0, _, _, _ => none
 | k + 1, x0, x3, x4 => if x4 < (x0.length : Int) then (if 0 ≤ x4 then (if x4 < (x3.length : Int) then (laws_toInt64S.l0 k x0 (x3.set (x4 : Int).toNat (rd x0 x4)) (wrap64 (x4 + 1))) else (none)) else (none)) else (some x3)
def laws_toInt64S.f (k : Nat) (l0 : List Int) : Option (List Int) := if 0 ≤ (l0.length : Int) then (if ((l0.length : Int) : Int).toNat ≤ 35184372088832 then (laws_toInt64S.l0 k l0 (List.replicate ((l0.length : Int) : Int).toNat 0) 0) else (none)) else (none)
set_option maxHeartbeats 8000000 in
set_option maxRecDepth 100000 in
theorem laws_toInt64S.calls (k : Nat) (A0 : Option Addr) (c0 : Nat) (l0 : List Int) (r : List Int) (w : World) (hr0 : Kd.C (Kd.int .i64) w A0 l0.length l0) (hc0 : l0.length ≤ c0) (h : laws_toInt64S.f k l0 = some r) :
  Calls Tryz.prog 22 #[.slice A0 l0.length c0] w fun e w' => ∃ v0_ : Value, e = .returned (v0_) ∧ Kd.R (Kd.int .i64) 2 w' w.heap.size (fun _ => True) v0_ r ∧ Below w.heap.size w w' := by
 have HR0 := Aside0.mk hr0
 have HC0 := Aside0.mk hc0
 clear hr0 hc0
 have HB := Aside0.mk (Below.refl w.heap.size w)
 have H : (if 0 ≤ (l0.length : Int) then (if ((l0.length : Int) : Int).toNat ≤ 35184372088832 then (laws_toInt64S.l0 k l0 (List.replicate ((l0.length : Int) : Int).toNat 0) 0) else (none)) else (none)) = some r := h
 clear h
 by_cases c2 : 0 ≤ (l0.length : Int)
 ·rw [if_pos c2] at H
  have c2b0 := eq_true c2
  have c2b1 : decide (0 ≤ (l0.length : Int)) = true := decide_eq_true c2
  clear c2
  by_cases c3 : ((l0.length : Int) : Int).toNat ≤ 35184372088832
  ·rw [if_pos c3] at H
   have c3b0 := eq_true c3
   have c3b1 : decide (((l0.length : Int) : Int).toNat ≤ 35184372088832) = true := decide_eq_true c3
   clear c3
   obtain ⟨y103, hy103⟩ : ∃ y_ : List Int, y_ = (List.replicate ((l0.length : Int) : Int).toNat 0) := ⟨_, rfl⟩
   replace H : (laws_toInt64S.l0 k l0 y103 0) = some r := by first | (rw [hy103]; with_reducible exact H) | (have H2_ := (Option.bind_some _ _).symm.trans H; rw [hy103]; with_reducible exact H2_) | (have H2_ := (Option.bind_some _ _).symm.trans H; with_reducible exact H2_) | with_reducible exact H | (rw [hy103]; exact H) | exact H
   have Ny103 := Aside0.mk hy103
   clear hy103
   have H' := Aside0.mk H
   clear H
   go_enter Tryz.func22, Tryz.ntmps22
   go_wp2_with (first | ((with_reducible refine gate_dst (N := 7) rfl ?_); refine Kd.R_make (Kd.int .i64) _ 2 rfl (N := 7) rfl 22 _ _ rfl (l0.length : Int) rfl rfl Tryz.underlying22 (.int .i64 0) 8 info2 rfl (by decide) (by omega) 0 (ok := fun _ => True) (okp := fun _ => True) rfl (fun _ hk => hk) trivial (of_decide_eq_true (by first | (with_reducible assumption) | assumption)) (Nat.le_trans (Nat.mul_le_mul_right _ (of_decide_eq_true (by first | (with_reducible assumption) | assumption) : (l0.length : Int).toNat ≤ 35184372088832)) (by omega)) (Below.refl _ _) (Nat.le_refl _) ?_; intro v104 w4 ho5 hb hg_ hnew_; clear hg_ hnew_; (first | rw [← Ny103.out] at ho5 | (simp only [Int.reduceToNat] at ho5; rw [← Ny103.out] at ho5)); have HO105 := Aside0.mk (Kd.R_lower ho5 (below_size (pH HB))); replace HB := sH HB hb; clear hb ho5))
   go_loopg [4] k (fun kq v4 w' => ∃ (x3_1 : List Int) (x4_1 : Int), v4 = .int .i64 x4_1 ∧ Aside0 (laws_toInt64S.l0 kq l0 x3_1 x4_1 = some r) ∧ Aside0 (kq ≤ k) ∧ Aside0 (Kd.R (Kd.int .i64) 2 w' w.heap.size (fun _ => True) v104 x3_1) ∧ Aside0 (Below w.heap.size w w'))
   case atStart => exact ⟨(y103), (0), (by first | rfl | (simp; done) | (simp [*]; done)), H', ⟨Nat.le_refl _⟩, ⟨by (with_reducible repeat (first | apply Kd.R_alloc | apply Kd.R_drewN | apply Kd.R_drew)); exact HO105.out⟩, ⟨pH HB⟩⟩
   case round =>
    clear H'
    try clear c2
    try clear c2b0
    try clear c2b1
    try clear p2
    try clear c3
    try clear c3b0
    try clear c3b1
    obtain ⟨x3_1, x4_1, rfl, HA, HK1, HO_3, HB⟩ := hrel
    cases gk with
    | zero => exact absurd HA.out (by simp [laws_toInt64S.l0])
    | succ k1 =>
     have H := HA.out
     clear HA
     simp only [laws_toInt64S.l0] at H
     by_cases c6 : x4_1 < (l0.length : Int)
     ·rw [if_pos c6] at H
      have c6b0 : decide (x4_1 < (l0.length : Int)) = true := decide_eq_true c6
      clear c6
      by_cases c7 : 0 ≤ x4_1
      ·rw [if_pos c7] at H
       have c7b0 : decide (0 ≤ x4_1) = true := decide_eq_true c7
       clear c7
       by_cases c8 : x4_1 < (x3_1.length : Int)
       ·rw [if_pos c8] at H
        have c8b0 : decide (x4_1 < (x3_1.length : Int)) = true := decide_eq_true c8
        clear c8
        obtain ⟨y107, hy107⟩ : ∃ y_ : List Int, y_ = (x3_1.set (x4_1 : Int).toNat (rd l0 x4_1)) := ⟨_, rfl⟩
        replace H : (laws_toInt64S.l0 k1 l0 y107 (wrap64 (x4_1 + 1))) = some r := by first | (rw [hy107]; with_reducible exact H) | (have H2_ := (Option.bind_some _ _).symm.trans H; rw [hy107]; with_reducible exact H2_) | (have H2_ := (Option.bind_some _ _).symm.trans H; with_reducible exact H2_) | with_reducible exact H | (rw [hy107]; exact H) | exact H
        have Ny107 := Aside0.mk hy107
        clear hy107
        have H' := Aside0.mk H
        clear H
        have p106 : 0 ≤ (x4_1 : Int) := of_decide_eq_true (by first | (with_reducible assumption) | assumption)
        have q106 : x4_1 < (l0.length : Int) := of_decide_eq_true (by first | (with_reducible assumption) | assumption)
        obtain ⟨ad106, e106, hx106_0⟩ := Kd.at_int HR0.out x4_1 p106 q106
        cases e106
        replace hx106_0 := cH HB hx106_0
        replace p106 := eq_true p106
        replace q106 := eq_true q106
        have p9 : 0 ≤ (x4_1 : Int) := of_decide_eq_true (by first | (with_reducible assumption) | assumption)
        have q9 : (x4_1 : Int) < ((x3_1.length : Int) : Int) := of_decide_eq_true (by first | (with_reducible assumption) | assumption)
        obtain ⟨go9, co9, eo9, gb9, gl9, cl9, HG9⟩ := Kd.R_form HO_3.out (by omega)
        (first | cases eo9 | (injection eo9 with ea_ en_ ec_; (first | subst ea_ | (injection ea_ with ea_; subst ea_)); subst ec_; clear en_))
        have GB9 := Aside0.mk gb9
        have GG9 := Aside0.mk HG9
        clear gb9 gl9 HG9
        obtain ⟨hx9_0, hf9_0⟩ := Kd.R_celln 0 HO_3.out (x4_1 : Int) p9 q9
        replace p9 := eq_true p9
        replace q9 := eq_true q9
        have HP10 := Kd.R_putg HO_3.out (x4_1 : Int) (rd l0 x4_1)
        go_wp2_with (first | ((with_reducible refine gate_store (t := 2) (p := 20) rfl ?_); refine store_event (t := 2) (p := 20) (v := ?vo_w11) (w1 := (wr.setCell ⟨go9, (x4_1 : Int).toNat, none⟩ (.int .i64 (rd l0 x4_1)))) ?hg ?ho ?hn ?hr ?_; (case ho => rfl); (case hg => rfl); (case hn => rfl); (case hr => first | (go_simp; done) | (go_simp; rfl)); intro w11 hw; have hg : wr.grownBy w11 (some go9) := (by rw [hw]; exact HP10.2); have hp_ : Kd.R (Kd.int .i64) 2 w11 w.heap.size (fun _ => True) (.slice (some ⟨go9, 0, none⟩) x3_1.length co9) y107 := (by rw [hw, Ny107.out]; exact HP10.1); clear HP10; have n0_ := Aside0.mk (hp_); have n1_ := Aside0.mk ((by rw [hw]; exact below_set (HB.out) GB9.out : Below w.heap.size w w11)); clear HO_3; clear HB; have HO_3 := n0_; have HB := n1_; clear n0_ n1_; clear hg hw hp_))
        go_roundg k1
        case measure => have := HK1.out; omega
        case rel => exact ⟨(y107), (wrap64 (x4_1 + 1)), (by first | rfl | (simp; done) | (simp [*]; done)), H', ⟨by have := HK1.out; omega⟩, ⟨by (with_reducible repeat (first | apply Kd.R_alloc | apply Kd.R_drewN | apply Kd.R_drew)); exact HO_3.out⟩, ⟨pH HB⟩⟩
       ·rw [if_neg c8] at H
        exact absurd H (by simp)
      ·rw [if_neg c7] at H
       exact absurd H (by simp)
     ·rw [if_neg c6] at H
      have c6b0 : decide (x4_1 < (l0.length : Int)) = false := decide_eq_false c6
      clear c6
      obtain rfl := Option.some.inj H
      go_wp2
      go_ret
      exact ⟨_, by first | rfl | (simp [errW_none, errW_some] <;> rfl) | (simp [*, errW_none, errW_some] <;> rfl) | (exfalso; simp_all), by (with_reducible repeat (first | apply Kd.R_alloc | apply Kd.R_drewN | apply Kd.R_drew)); exact HO_3.out, pH HB⟩
  ·rw [if_neg c3] at H
   exact absurd H (by simp)
 ·rw [if_neg c2] at H
  exact absurd H (by simp)
def laws_toComplex.f (k : Nat) (a0_0 : Int) (l0_1 : List Int) : Option (Int × List Int) := (laws_toInt64S.f k l0_1).bind fun t111 => (some (a0_0, t111))
set_option maxHeartbeats 8000000 in
set_option maxRecDepth 100000 in
theorem laws_toComplex.calls (k : Nat) (a0_0 : Int) (A0_1 : Option Addr) (c0_1 : Nat) (l0_1 : List Int) (r1 : Int) (r2 : List Int) (w : World) (hr0_1 : Kd.C (Kd.int .i64) w A0_1 l0_1.length l0_1) (hc0_1 : l0_1.length ≤ c0_1) (h : laws_toComplex.f k a0_0 l0_1 = some (r1, r2)) :
  Calls Tryz.prog 7 #[.agg #[.int .i64 a0_0, .slice A0_1 l0_1.length c0_1]] w fun e w' => ∃ v1_ : Value, e = .returned (.agg #[.int .i64 r1, v1_]) ∧ Kd.R (Kd.int .i64) 2 w' w.heap.size (fun _ => True) v1_ r2 ∧ Below w.heap.size w w' := by
 have hu24 := Tryz.underlying24
 have hu31 := Tryz.underlying31
 have HR0_1 := Aside0.mk hr0_1
 have HC0_1 := Aside0.mk hc0_1
 clear hr0_1 hc0_1
 have HB := Aside0.mk (Below.refl w.heap.size w)
 have H : ((laws_toInt64S.f k l0_1).bind fun t111 => (some (a0_0, t111))) = some (r1, r2) := h
 clear h
 replace H := Option.bind_eq_some_iff.mp H
 obtain ⟨t111, A20, H⟩ := H
 try dsimp only at H
 have A2 := Aside0.mk A20
 clear A20
 simp only [Option.some.injEq, Prod.mk.injEq] at H
 obtain ⟨rfl, rfl⟩ := H
 go_enter Tryz.func7, Tryz.ntmps7
 go_wp2_with (first | ((with_reducible refine gate_dst (N := 1) rfl ?_); refine box_event ?hg (N := 1) ?hd (cs := #[.int .i64 a0_0, .slice A0_1 l0_1.length c0_1]) (t := 24) ?hr ?_; (case hd => rfl); (case hg => rfl); (case hr => first | (go_simp; done) | (go_simp; rfl)); intro gb108 hg w3 hbox hb; have BK108 := Aside0.mk (hbox); have GW108 := gH HB hg; have GE108 := gH HB hg; replace HB := sH HB hb; clear hb hbox hg) | ((with_reducible refine gate_dst (N := 2) rfl ?_); refine box_event ?hg (N := 2) ?hd (cs := #[.int .i64 0, .slice none 0 0]) (t := 31) ?hr ?_; (case hd => rfl); (case hg => rfl); (case hr => first | (go_simp; done) | (go_simp; rfl)); intro gb109 hg w4 hbox hb; have BK109 := Aside0.mk (hbox); have GW109 := gH HB hg; have GE109 := gH HB hg; replace HB := sH HB hb; have NB108_109 := nB BK108 hg; have NB109_108 := oB BK108 hg; replace BK108 := sB BK108 hb; clear hb hbox hg) | ((with_reducible refine gate_dst (N := 3) rfl ?_); refine box_event ?hg (N := 3) ?hd (cs := #[.int .i64 0, .slice none 0 0]) (t := 31) ?hr ?_; (case hd => rfl); (case hg => rfl); (case hr => first | (go_simp; done) | (go_simp; rfl)); intro gb110 hg w5 hbox hb; have BK110 := Aside0.mk (hbox); have GW110 := gH HB hg; have GE110 := gH HB hg; replace HB := sH HB hb; have NB108_110 := nB BK108 hg; have NB110_108 := oB BK108 hg; replace BK108 := sB BK108 hb; have NB109_110 := nB BK109 hg; have NB110_109 := oB BK109 hg; replace BK109 := sB BK109 hb; clear hb hbox hg; (try have hnb6 := NB108_109.out); (try have hnc6 := NB109_108.out); (try have hnb7 := NB108_110.out); (try have hnc7 := NB110_108.out); have hcz8_0 : w5.cell? ⟨gb108, 0, none⟩ = some (.int .i64 a0_0) := cB BK108 0; have hcz8_1 : w5.cell? ⟨gb108, 1, none⟩ = some (.slice A0_1 l0_1.length c0_1) := cB BK108 1; have hfz8_0 := zB BK108 0; have hfz8_1 := zB BK108 1; (try have hnb9 := NB110_109.out); (try have hnc9 := NB109_110.out); have hcz10_0 : w5.cell? ⟨gb110, 0, none⟩ = some (.int .i64 0) := cB BK110 0; have hcz10_1 : w5.cell? ⟨gb110, 1, none⟩ = some (.slice none 0 0) := cB BK110 1; have hfz10_0 := zB BK110 0; have hfz10_1 := zB BK110 1) | ((with_reducible refine gate_callee (f := 22) rfl ?_); refine cl_ (some 9) Tryz.func22 #[.slice A0_1 l0_1.length c0_1] ?_; (with_reducible refine (laws_toInt64S.calls k _ _ l0_1 t111 _ ?side1 ?side2 A2.out).mono ?_); (case side1 => exact Kd.C_below HR0_1.out (pH HB)); (case side2 => exact HC0_1.out); rintro e w11 ⟨v112, rfl, ho0, hb⟩; refine ⟨_, rfl, ?_⟩; have n0_ := Aside0.mk (Kd.R_lower ho0 (below_size (pH HB))); have n1_ := Aside0.mk (blk_below (g := gb108) (o := .cells #[.int .i64 a0_0, .slice A0_1 l0_1.length c0_1] 24 (0, 0)) (by (with_reducible repeat (first | refine blk_drewN ?_ _ | refine blk_drew ?_ | refine blk_alloc ?_ _)); refine blk_far ?_ NB108_110.out _; (with_reducible repeat (first | refine blk_drewN ?_ _ | refine blk_drew ?_ | refine blk_alloc ?_ _)); exact BK108.out) hb); have n2_ := Aside0.mk (blk_below (g := gb109) (o := .cells #[.int .i64 0, .slice none 0 0] 31 (0, 0)) (by (with_reducible repeat (first | refine blk_drewN ?_ _ | refine blk_drew ?_ | refine blk_alloc ?_ _)); refine blk_far ?_ NB109_110.out _; (with_reducible repeat (first | refine blk_drewN ?_ _ | refine blk_drew ?_ | refine blk_alloc ?_ _)); exact BK109.out) hb); have n3_ := Aside0.mk (blk_below (g := gb110) (o := .cells #[.int .i64 a0_0, .slice none 0 0] 31 (0, 0)) (by (with_reducible repeat (first | refine blk_drewN ?_ _ | refine blk_drew ?_ | refine blk_alloc ?_ _)); refine blk_put (cs := #[.int .i64 0, .slice none 0 0]) ?_ 0 _ rfl; (with_reducible repeat (first | refine blk_drewN ?_ _ | refine blk_drew ?_ | refine blk_alloc ?_ _)); exact BK110.out) hb); have n4_ := sH HB hb; clear BK108; clear BK109; clear BK110; clear HB; have HO113 := n0_; have BK108 := n1_; have BK109 := n2_; have BK110 := n3_; have HB := n4_; clear n0_ n1_ n2_ n3_ n4_; (try clear hb); (try clear hi); (try clear ho0); obtain ⟨Ao12, co12, eo12⟩ := Kd.R_slice HO113.out; subst eo12; have hcz13_0 : w11.cell? ⟨gb110, 0, none⟩ = some (.int .i64 a0_0) := cB BK110 0; have hcz13_1 : w11.cell? ⟨gb110, 1, none⟩ = some (.slice none 0 0) := cB BK110 1; have hfz13_0 := zB BK110 0; have hfz13_1 := zB BK110 1; have hcz14_0 : w11.cell? ⟨gb109, 0, none⟩ = some (.int .i64 0) := cB BK109 0; have hcz14_1 : w11.cell? ⟨gb109, 1, none⟩ = some (.slice none 0 0) := cB BK109 1; have hfz14_0 := zB BK109 0; have hfz14_1 := zB BK109 1))
 refine bodyPost_ret (results_cell_row rfl _ _ gb109 31 #[.int .i64 a0_0, .slice Ao12 t111.length co12] (0, 0) _ rfl (by (with_reducible repeat (first | refine blk_drewN ?_ _ | refine blk_drew ?_ | refine blk_alloc ?_ _)); refine blk_put (cs := #[.int .i64 a0_0, .slice none 0 0]) ?_ 1 _ rfl; (with_reducible repeat (first | refine blk_drewN ?_ _ | refine blk_drew ?_ | refine blk_alloc ?_ _)); refine blk_put (cs := #[.int .i64 0, .slice none 0 0]) ?_ 0 _ rfl; (with_reducible repeat (first | refine blk_drewN ?_ _ | refine blk_drew ?_ | refine blk_alloc ?_ _)); refine blk_far ?_ NB109_110.out _; (with_reducible repeat (first | refine blk_drewN ?_ _ | refine blk_drew ?_ | refine blk_alloc ?_ _)); exact BK109.out) Tryz.underlying31 rfl (by kernel_rfl)) rfl ?_
 exact ⟨_, by first | rfl | (simp [errW_none, errW_some] <;> rfl) | (simp [*, errW_none, errW_some] <;> rfl) | (exfalso; simp_all), by (with_reducible repeat (first | apply Kd.R_alloc | apply Kd.R_drewN | apply Kd.R_drew)); exact Kd.R_mono (Kd.R_far (p := ⟨gb109, 1, none⟩) (Kd.R_far (p := ⟨gb109, 0, none⟩) (Kd.R_far (p := ⟨gb110, 1, none⟩) (Kd.R_types (Kd.R_types HO113.out BK110.out (by decide)) BK109.out (by decide)) (fun _ hk => hk.1.2) (.slice Ao12 t111.length co12)) (fun _ hk => hk.2) (.int .i64 a0_0)) (fun _ hk => hk.2) (.slice Ao12 t111.length co12)) (fun _ hk => trivial), pH HB⟩
def laws_eqInt64S.l0 : Nat → List Int → List Int → Int → Option (Bool)
 | 0, _, _, _ => none
 | k + 1, x0, x1, x5 => if x5 < (x0.length : Int) then (if 0 ≤ x5 then (if x5 < (x1.length : Int) then (if (rd x0 x5) = (rd x1 x5) then (laws_eqInt64S.l0 k x0 x1 (wrap64 (x5 + 1))) else (some false)) else (none)) else (none)) else (some true)
def laws_eqInt64S.f (k : Nat) (l0 : List Int) (l1 : List Int) : Option (Bool) := if (l0.length : Int) = (l1.length : Int) then (laws_eqInt64S.l0 k l0 l1 0) else (some false)
set_option maxHeartbeats 8000000 in
set_option maxRecDepth 100000 in
theorem laws_eqInt64S.calls (k : Nat) (A0 : Option Addr) (c0 : Nat) (l0 : List Int) (A1 : Option Addr) (c1 : Nat) (l1 : List Int) (r : Bool) (w : World) (hr0 : Kd.C (Kd.int .i64) w A0 l0.length l0) (hc0 : l0.length ≤ c0) (hr1 : Kd.C (Kd.int .i64) w A1 l1.length l1) (hc1 : l1.length ≤ c1) (h : laws_eqInt64S.f k l0 l1 = some r) :
  Calls Tryz.prog 37 #[.slice A0 l0.length c0, .slice A1 l1.length c1] w fun e w' => e = .returned (.bool r) ∧ Drawn0 w w' := by
 have HR0 := Aside0.mk hr0
 have HC0 := Aside0.mk hc0
 clear hr0 hc0
 have HR1 := Aside0.mk hr1
 have HC1 := Aside0.mk hc1
 clear hr1 hc1
 have H : (if (l0.length : Int) = (l1.length : Int) then (laws_eqInt64S.l0 k l0 l1 0) else (some false)) = some r := h
 clear h
 by_cases c3 : (l0.length : Int) = (l1.length : Int)
 ·rw [if_pos c3] at H
  have c3b0 : ((l0.length : Int) == (l1.length : Int)) = true := beq_iff_eq.mpr c3
  have c3b1 : ((l0.length : Int) != (l1.length : Int)) = false := bne_eq_false_iff_eq.mpr c3
  have c3b2 : (l0.length == l1.length) = true := by first | simpa using c3 | (simp at c3 ⊢; omega)
  clear c3
  have H' := Aside0.mk H
  clear H
  go_enter Tryz.func37, Tryz.ntmps37
  go_wp2
  repeat (go_quiet (fail); try go_wp2)
  go_loopg [5] k (fun kq v5 w' => ∃ (x5_1 : Int), v5 = .int .i64 x5_1 ∧ Aside0 (laws_eqInt64S.l0 kq l0 l1 x5_1 = some r) ∧ Aside0 (kq ≤ k) ∧ Drawn0 w w')
  case atStart => exact ⟨(0), (by first | rfl | (simp; done) | (simp [*]; done)), H', ⟨Nat.le_refl _⟩, by repeat (first | exact Drawn0.refl _ | apply Drawn0.step)⟩
  case round =>
   clear H'
   try clear c1
   try clear p2
   try clear c3
   try clear c3b0
   try clear c3b1
   try clear c3b2
   obtain ⟨x5_1, rfl, HA, HK1, ⟨m1, rfl⟩⟩ := hrel
   cases gk with
   | zero => exact absurd HA.out (by simp [laws_eqInt64S.l0])
   | succ k1 =>
    have H := HA.out
    clear HA
    simp only [laws_eqInt64S.l0] at H
    by_cases c4 : x5_1 < (l0.length : Int)
    ·rw [if_pos c4] at H
     have c4b0 : decide (x5_1 < (l0.length : Int)) = true := decide_eq_true c4
     clear c4
     by_cases c5 : 0 ≤ x5_1
     ·rw [if_pos c5] at H
      have c5b0 : decide (0 ≤ x5_1) = true := decide_eq_true c5
      clear c5
      by_cases c6 : x5_1 < (l1.length : Int)
      ·rw [if_pos c6] at H
       have c6b0 : decide (x5_1 < (l1.length : Int)) = true := decide_eq_true c6
       clear c6
       by_cases c7 : (rd l0 x5_1) = (rd l1 x5_1)
       ·rw [if_pos c7] at H
        have c7b0 : ((rd l0 x5_1) == (rd l1 x5_1)) = true := beq_iff_eq.mpr c7
        have c7b1 : ((rd l0 x5_1) != (rd l1 x5_1)) = false := bne_eq_false_iff_eq.mpr c7
        clear c7
        have H' := Aside0.mk H
        clear H
        have p124 : 0 ≤ (x5_1 : Int) := of_decide_eq_true (by first | (with_reducible assumption) | assumption)
        have q124 : x5_1 < (l0.length : Int) := of_decide_eq_true (by first | (with_reducible assumption) | assumption)
        obtain ⟨ad124, e124, hx124_0⟩ := Kd.at_int HR0.out x5_1 p124 q124
        cases e124
        replace p124 := eq_true p124
        replace q124 := eq_true q124
        have p125 : 0 ≤ (x5_1 : Int) := of_decide_eq_true (by first | (with_reducible assumption) | assumption)
        have q125 : x5_1 < (l1.length : Int) := of_decide_eq_true (by first | (with_reducible assumption) | assumption)
        obtain ⟨ad125, e125, hx125_0⟩ := Kd.at_int HR1.out x5_1 p125 q125
        cases e125
        replace p125 := eq_true p125
        replace q125 := eq_true q125
        go_wp2
        repeat (go_quiet (fail); try go_wp2)
        go_roundg k1
        case measure => have := HK1.out; omega
        case rel => exact ⟨(wrap64 (x5_1 + 1)), (by first | rfl | (simp; done) | (simp [*]; done)), H', ⟨by have := HK1.out; omega⟩, by repeat (first | exact Drawn0.refl _ | apply Drawn0.step)⟩
       ·rw [if_neg c7] at H
        have c7b0 : ((rd l0 x5_1) == (rd l1 x5_1)) = false := beq_eq_false_iff_ne.mpr c7
        have c7b1 : ((rd l0 x5_1) != (rd l1 x5_1)) = true := bne_iff_ne.mpr c7
        obtain rfl := Option.some.inj H
        have p124 : 0 ≤ (x5_1 : Int) := of_decide_eq_true (by first | (with_reducible assumption) | assumption)
        have q124 : x5_1 < (l0.length : Int) := of_decide_eq_true (by first | (with_reducible assumption) | assumption)
        obtain ⟨ad124, e124, hx124_0⟩ := Kd.at_int HR0.out x5_1 p124 q124
        cases e124
        replace p124 := eq_true p124
        replace q124 := eq_true q124
        have p125 : 0 ≤ (x5_1 : Int) := of_decide_eq_true (by first | (with_reducible assumption) | assumption)
        have q125 : x5_1 < (l1.length : Int) := of_decide_eq_true (by first | (with_reducible assumption) | assumption)
        obtain ⟨ad125, e125, hx125_0⟩ := Kd.at_int HR1.out x5_1 p125 q125
        cases e125
        replace p125 := eq_true p125
        replace q125 := eq_true q125
        go_wp2
        repeat (go_quiet (fail); try go_wp2)
        go_ret
        exact ⟨by first | rfl | (simp; done) | (simp [*]; done), by repeat (first | exact Drawn0.refl _ | apply Drawn0.step)⟩
      ·rw [if_neg c6] at H
       exact absurd H (by simp)
     ·rw [if_neg c5] at H
      exact absurd H (by simp)
    ·rw [if_neg c4] at H
     have c4b0 : decide (x5_1 < (l0.length : Int)) = false := decide_eq_false c4
     clear c4
     obtain rfl := Option.some.inj H
     go_wp2
     repeat (go_quiet (fail); try go_wp2)
     go_ret
     exact ⟨by first | rfl | (simp; done) | (simp [*]; done), by repeat (first | exact Drawn0.refl _ | apply Drawn0.step)⟩
 ·rw [if_neg c3] at H
  have c3b0 : ((l0.length : Int) == (l1.length : Int)) = false := beq_eq_false_iff_ne.mpr c3
  have c3b1 : ((l0.length : Int) != (l1.length : Int)) = true := bne_iff_ne.mpr c3
  have c3b2 : (l0.length == l1.length) = false := by first | simpa using c3 | (simp at c3 ⊢; omega)
  obtain rfl := Option.some.inj H
  go_enter Tryz.func37, Tryz.ntmps37
  go_wp2
  repeat (go_quiet (fail); try go_wp2)
  go_ret
  exact ⟨by first | rfl | (simp; done) | (simp [*]; done), by repeat (first | exact Drawn0.refl _ | apply Drawn0.step)⟩
end Go.Proofs.YtdnbmobdiidfmaaGreat.QS
