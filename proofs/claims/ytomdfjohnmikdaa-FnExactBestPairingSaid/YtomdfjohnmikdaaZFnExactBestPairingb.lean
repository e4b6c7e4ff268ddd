/- Words and lemmas for FnExactBestPairing, part 2: what the row's text comes to. -/
import Derived.WalkKit
import Derived.Lib.Hide
import Derived.Deep.Draws
import Derived.Deep.LoopGhost
import Derived.Deep.QuietTactic
import Derived.BigQuiet
import Derived.Deep.RegionHeld3
import Derived.Test.YtomdfjohnmikdaaProg
import Derived.RangeFuncNested
import Derived.RangeFuncBound
import Derived.RangeFuncCalls
import Derived.RangeFuncLeaves
import Derived.Shelf.Abstract
import Derived.Shelf.RegionOpen
import Derived.OwnWalkIn
import Derived.TacticsInMore
import Derived.LoopNIn
import Derived.LoopIn
import Derived.Maps.AppendAt
import Derived.Shelf.SlGeneric
import Derived.Test.YtomdfjohnmikdaaRows
import Derived.ProofKit
import Derived.OpenShut
import Derived.ShutString
import Derived.ChangeOld
import Derived.Below
import Derived.SizedLaws
import Derived.Lib.SmallJoins
import Derived.KernelRfl
import Derived.Deep.AppendLies
import Derived.OwnWalk
import Derived.Laws.BytesArg
import Derived.Laws.MakeOwn
import Derived.Laws.OwnMore
import Derived.Deep.OwnRows
import Derived.Tactics
import Derived.Lib.ConvBytes
import Derived.Laws.Slices
import Derived.RowKit3
import Derived.WideLaws
import Derived.Deep.DeepCutAuto
import Derived.Deep.CutBlock
import Derived.Laws.Rows
import Derived.Lib.AppendStr
import Derived.ArgAppend
import Derived.Laws.IdiomCopy
import Derived.OrdersHeld
import Derived.Laws.BitsLemmas
import Derived.RowKit
import Derived.MapKept
import Derived.Carry
import Derived.Lib.SliceRun
import Derived.Laws.CopyOwn
import Derived.Lib.AppendZerosOnto
import Derived.Lib.Overlaps
import Derived.Test.YtomdfjohnmikdaaZFnExactBestPairinga
set_option linter.unusedVariables false
set_option linter.unusedSimpArgs false
namespace Go.Proofs.Ytomdfjohnmikdaa.Im
open Go.RowKit YtomdfjohnmikdaaW.PrintWords YtomdfjohnmikdaaW.PrintLast YtomdfjohnmikdaaW.PrintMore
def FnB (P : Program) (fv : Value) (dom : Int → Prop) (p : Int → Bool) (w : World) : Prop :=
  ∃ g fs lb, fv = .func (.func g) fs lb ∧ (∀ args w, (callFunc g args).run P w = .ok (.enter g args) w) ∧
    ∀ W x, Below w.heap.size w W → dom x → Calls P g (fs ++ #[.int .i64 x] ++ lb) W fun e w' => e = .returned (.bool (p x)) ∧ Below W.heap.size W w'
theorem FnB.later {P : Program} {fv : Value} {dom : Int → Prop} {p : Int → Bool} {w w1 : World} (h : FnB P fv dom p w) (hb : Below w.heap.size w w1) : FnB P fv dom p w1 := by
  obtain ⟨g, fs, lb, he, hg, hc⟩ := h
  exact ⟨g, fs, lb, he, hg, fun W x hW hx => hc W x (hb.trans (hW.mono hb.size)) hx⟩
def FnU (P : Program) (fv : Value) (b : Bool) (w : World) : Prop :=
  ∃ g fs lb, fv = .func (.func g) fs lb ∧ (∀ args w, (callFunc g args).run P w = .ok (.enter g args) w) ∧
    ∀ W, Below w.heap.size w W → Calls P g (fs ++ #[] ++ lb) W fun e w' => e = .returned (.bool b) ∧ Below W.heap.size W w'
abbrev RC (w : World) (A : Option Addr) (n : Nat) (xs : List Int) : Prop := Kd.C (Kd.int .i64) w A n xs
abbrev RO (w : World) (base : Nat) (v : Value) (xs : List Int) : Prop := Kd.R (Kd.int .i64) 2 w base (fun _ => True) v xs
section
variable {P : Program} {ops : Array Oper} {rest : List Oper} {o : Oper} {a : Act} {Q : Exit → Act → World → Prop}
theorem ap64 {w0 W : World} (base : Nat) (hgd : o.guard = none) (s x : Operand) (t : TypeId)
    (ho : o.op = .call { callee := .builtin .append, args := #[s, x], argTypes := #[t, t] }) (ht : P.underlying t = some (.slice 2))
    (hinfo : (P.info? 2).map (fun i => (i.zero, i.size, i.bytes)) = some (some (.int .i64 0), 1, 8)) (v : Value) (xs : List Int) (y : Int)
    (hs : a.eval s = v) (hx : a.eval x = .slice (some ⟨W.heap.size, 0, none⟩) 1 1) (HO : RO W base v xs) (HB : Below base w0 W) (hbase : base ≤ W.heap.size) (hl : xs.length ≤ 17592186044415)
    (h : ∀ v1 w1, RO w1 base v1 (xs ++ [y]) → Below base w0 w1 → W.grownBy w1 v.ownBlock → (v1.ownBlock = v.ownBlock ∨ ∃ b, v1.ownBlock = some b ∧ W.heap.size ≤ b) → wpList P ops Q rest (a.put o.dst v1) w1) :
    wpList P ops Q (o :: rest) a (W.alloc (.cells #[.int .i64 y] 2)) :=
  Kd.R_append (Kd.int .i64) base hgd s x t 2 (.int .i64 0) 8 ho ht hinfo rfl (by decide) (by decide) v xs y [.int .i64 y] (fun _ => True) (fun _ => False) hs hx rfl (fun _ hk => hk.elim) (fun _ _ => trivial) HO HB hbase (by omega) h
end
theorem below_in {w w1 w2 : World} (h : Below w.heap.size w w1) (k : Below w1.heap.size w1 w2) : Below w.heap.size w w2 := h.trans (k.mono h.size)
def withinB (n lo hi : Int) : Bool := decide (lo ≤ n) && decide (n ≤ hi)
theorem within_c (n lo hi : Int) (w : World) : Calls Try.prog 59 #[.int .i64 n, .int .i64 lo, .int .i64 hi] w fun e w' => e = .returned (.bool (withinB n lo hi)) ∧ w = w' := by
  unfold withinB
  by_cases h : lo ≤ n
  · have h1 : decide (lo ≤ n) = true := decide_eq_true h
    go_enter Try.func59, Try.ntmps59
    go_wp2
    go_ret
    simp [h1]
  · have h1 : decide (lo ≤ n) = false := decide_eq_false h
    go_enter Try.func59, Try.ntmps59
    go_wp2
    go_ret
    simp [h1]
theorem isSize_c (n : Int) (w : World) : Calls Try.prog 152 #[.int .i64 n] w fun e w' => e = .returned (.bool (withinB n 1 6)) ∧ w = w' := by
  go_enter Try.func152, Try.ntmps152
  go_wp2_with (go_at_call 59; refine (within_c _ _ _ _).mono ?_; rintro e w' ⟨rfl, rfl⟩)
  go_ret
  exact ⟨rfl, rfl⟩
theorem isIn_c (f g : Int) (w : World) : Calls Try.prog 92 #[.int .i64 f, .int .i64 g] w fun e w' => e = .returned (.bool (Go.bits .andNot .i64 f g == 0)) ∧ w = w' := by
  go_enter Try.func92, Try.ntmps92
  go_wp2
  go_ret
  exact ⟨rfl, rfl⟩
theorem always_c (w : World) : Calls Try.prog 127 #[] w fun e w' => e = .returned (.bool true) ∧ w = w' := by
  go_enter Try.func127, Try.ntmps127
  go_wp2
  go_ret
  exact ⟨rfl, rfl⟩
theorem less_c (a b : Int) (w : World) : Calls Try.prog 187 #[.int .i64 a, .int .i64 b] w fun e w' => e = .returned (.bool (decide (a < b))) ∧ w = w' := by
  go_enter Try.func187, Try.ntmps187
  go_wp2
  go_ret
  exact ⟨rfl, rfl⟩
def fullZ (n : Int) : Int := 2 ^ n.toNat - 1
theorem full_c (n : Int) (s : Value) (w : World) (h1 : 1 ≤ n) (h6 : n ≤ 6) : Calls Try.prog 153 #[.agg #[.int .i64 n, s]] w fun e w' => e = .returned (.int .i64 (fullZ n)) ∧ Below w.heap.size w w' := by
  have hb := (Below.refl w.heap.size w).alloc (Nat.le_refl _) (.cells #[.int .i64 n, s] 28)
  obtain rfl | rfl | rfl | rfl | rfl | rfl : n = 1 ∨ n = 2 ∨ n = 3 ∨ n = 4 ∨ n = 5 ∨ n = 6 := by omega
  all_goals
    go_enter Try.func153, Try.ntmps153
    go_wp2
    go_ret
    exact ⟨rfl, hb⟩
theorem info64 : (Try.prog.info? 2).map (fun i => (i.zero, i.size, i.bytes)) = some (some (.int .i64 0), 1, 8) := by kernel_rfl
def bitB (f : Int) (v : Nat) : Bool := Go.bits .and .i64 (f / 2 ^ v) 1 == 1
def vertsUpto (f : Int) (k : Nat) : List Int := ((List.range k).filter (bitB f)).map (fun v : Nat => (v : Int))
def verts (f : Int) : List Int := vertsUpto f 6
theorem vertsUpto_len (f : Int) (k : Nat) : (vertsUpto f k).length ≤ k := by
  unfold vertsUpto
  rw [List.length_map]
  exact Nat.le_trans (List.length_filter_le _ _) (by simp)
theorem vertsUpto_yes {f : Int} {k : Nat} (h : bitB f k = true) : vertsUpto f (k + 1) = vertsUpto f k ++ [(k : Int)] := by
  simp [vertsUpto, List.range_succ, h]
theorem vertsUpto_no {f : Int} {k : Nat} (h : bitB f k = false) : vertsUpto f (k + 1) = vertsUpto f k := by
  simp [vertsUpto, List.range_succ, h]
set_option maxRecDepth 100000 in
set_option maxHeartbeats 2000000 in
theorem vertices_c (f : Int) (w : World) : Calls Try.prog 89 #[.int .i64 f] w fun e w' => ∃ v, e = .returned v ∧ RO w' w.heap.size v (verts f) ∧ Below w.heap.size w w' := by
  go_enter Try.func89, Try.ntmps89
  go_wp2
  go_loopw [3, 4, 5] (fun v _ i wr => ∃ k : Nat, k ≤ 6 ∧ i = .int .i64 k ∧ Aside0 (RO wr w.heap.size v (vertsUpto f k)) ∧ Aside0 (Below w.heap.size w wr)) (fun _ _ i _ => 6 - (intOf i).toNat)
  case atStart => exact ⟨0, by omega, rfl, ⟨Kd.R_nil _ _ _ _ _⟩, ⟨Below.refl _ _⟩⟩
  case round =>
    obtain ⟨k, hk, rfl, hR, hB⟩ := hrel
    by_cases hlt : k < 6
    · all_goals
        go_wp2_with (at_builtin; refine ap64 w.heap.size rfl (.tmp 13) (.tmp 15) 22 rfl Try.underlying22 info64 _ _ _ rfl rfl hR.out hB.out hB.out.size ?hl ?_; (case hl => exact Nat.le_trans (vertsUpto_len f _) (by omega)); intro v1 w1 ho hb hg hat; clear hg hat; have hR1 := Aside0.mk ho; have hB1 := Aside0.mk hb; clear ho hb)
        · go_roundw
          case rel => exact ⟨k + 1, by omega, by go_num, ⟨by rw [vertsUpto_yes (by unfold bitB; assumption)]; exact hR1.out⟩, hB1⟩
          case measure => simp [intOf]; omega
        · go_roundw
          case rel => exact ⟨k + 1, by omega, by go_num, ⟨by rw [vertsUpto_no (by unfold bitB; assumption)]; exact hR.out⟩, hB⟩
          case measure => simp [intOf]; omega
    · obtain rfl : k = 6 := by omega
      go_wp2
      go_ret
      exact ⟨_, rfl, hR.out, hB.out⟩
end Go.Proofs.Ytomdfjohnmikdaa.Im
namespace Go.Proofs.Ytomdfjohnmikdaa.Im
open Go.RowKit Go.Shelf YtomdfjohnmikdaaW.PrintWords YtomdfjohnmikdaaW.PrintLast YtomdfjohnmikdaaW.PrintMore
attribute [local go_sem] Oper.semAt_some
def upto {α : Type} (f : Nat → α) (k : Nat) : List α := (List.range k).map f
theorem upto_succ {α : Type} (f : Nat → α) (k : Nat) : upto f (k + 1) = upto f k ++ [f k] := by simp [upto, List.range_succ]
theorem upto_length {α : Type} (f : Nat → α) (k : Nat) : (upto f k).length = k := by simp [upto]
def Rng (n₁ n₂ : Nat) (W W' : World) : Prop := ∀ k, n₁ ≤ k → k < n₂ → W'.heap[k]? = W.heap[k]?
theorem Rng.refl (n₁ n₂ : Nat) (W : World) : Rng n₁ n₂ W W := fun _ _ _ => rfl
theorem Rng.trans {n₁ n₂ : Nat} {A B C : World} (h : Rng n₁ n₂ A B) (k : Rng n₁ n₂ B C) : Rng n₁ n₂ A C := fun i h1 h2 => (k i h1 h2).trans (h i h1 h2)
theorem Rng.cell {n₁ n₂ : Nat} {A B : World} (h : Rng n₁ n₂ A B) {p : Addr} (h1 : n₁ ≤ p.block) (h2 : p.block < n₂) : B.cell? p = A.cell? p := World.cell?_of_block (h p.block h1 h2)
theorem Rng.putObj {n₁ n₂ : Nat} {w : World} (hn : n₂ ≤ w.heap.size) (W : World) (l : Nat) (o o' : Obj) (hl : w.heap.size ≤ l) (h : W.heap[l]? = some o) (_ : o.isCells = false) (_ : o.isWalk = false) : Rng n₁ n₂ W (W.putObj l o') :=
  fun k _ h2 => (grownBy_putObj' W l o').block k (by have := (Array.getElem?_eq_some_iff.1 h).1; omega) (by intro e; cases e; omega)
def backAt {α : Type} (len : Nat) (e : Nat → α) (j : Nat) : Nat × α := (len - 1 - j, e (len - 1 - j))
set_option maxRecDepth 100000 in
set_option maxHeartbeats 2000000 in
theorem backward1_in {α : Type} (val : α → Int) (F : Fence) (n : Nat) (h7 : F.fn 198) (hro : F.round = none) (hn : 1 ≤ n) (l Bs n₁ n₂ g cap len : Nat) (el : Nat → α) (hreach : len * 8 ≤ 140737488351232) (hB1 : n₁ ≤ Bs) (hB2 : Bs < n₂) (hg1 : n₁ ≤ g) (hg2 : g < n₂) (J Jx : List (Nat × α) → World → Prop)
    (hY : ∀ pre x W, J pre W → pre.length < len → YieldAt F (n - 1) Try.prog l #[.int .i64 (x.1 : Int), .int .i64 (val x.2)] W fun e W' =>
      (e = .returned (.bool true) ∧ J (pre ++ [x]) W' ∧ Rng n₁ n₂ W W') ∨ (e = .returned (.bool false) ∧ Jx (pre ++ [x]) W'))
    (W : World) (hBs : W.cell? ⟨Bs, 0, none⟩ = some (.slice (some ⟨g, 0, none⟩) len cap)) (hc : ∀ j, j < len → W.cell? ⟨g, j, none⟩ = some (.int .i64 (val (el j)))) (h0 : J [] W) :
    CallsIn F n Try.prog 198 #[.func (.yield l) #[] #[], .pointer (some ⟨Bs, 0, none⟩)] W fun e W' => (∃ v, e = .returned v) ∧
      ((∃ ys, ys = upto (backAt len el) len ∧ J ys W') ∨ (∃ pre, (∃ k, k ≤ len ∧ pre = upto (backAt len el) k) ∧ Jx pre W')) := by
  refine callsIn_of_wp Try.func198 rfl h7 ?_ hro
  simp only [Try.ntmps198, List.size_toArray, List.length_cons, List.length_nil, Nat.reduceAdd, Nat.reduceSub, Array.replicate_succ, Array.replicate_zero, List.push_toArray, List.append_toArray, List.nil_append, List.cons_append]
  gi_wp2
  gi_loopw [3] (fun i wr => ∃ k : Nat, k ≤ len ∧ ((k < len ∧ i = .int .i64 ((len - 1 - k : Nat) : Int)) ∨ (k = len ∧ i = .int .i64 (-1))) ∧ J (upto (backAt len el) k) wr ∧ Aside0 (Rng n₁ n₂ W wr))
    (fun i _ => (intOf i + 1).toNat)
  case atStart =>
    refine ⟨0, Nat.zero_le _, ?_, h0, ⟨Rng.refl _ _ _⟩⟩
    rcases Nat.eq_zero_or_pos len with e0 | e0
    · right; exact ⟨e0.symm, by rw [e0]; rfl⟩
    · left; exact ⟨e0, by congr 1; omega⟩
  case round =>
    obtain ⟨k, hk, hi, hJs, hnx⟩ := hrel
    rcases hi with ⟨hlt, rfl⟩ | ⟨rfl, rfl⟩
    · obtain ⟨m, hm⟩ : ∃ m, m = len - 1 - k := ⟨_, rfl⟩
      have hml : m < len := by omega
      have hcx : wr.cell? ⟨g, m, none⟩ = some (.int .i64 (val (el m))) := (hnx.out.cell (p := ⟨g, m, none⟩) hg1 hg2).trans (hc m hml)
      have hbx : wr.cell? ⟨Bs, 0, none⟩ = some (.slice (some ⟨g, 0, none⟩) len cap) := (hnx.out.cell (p := ⟨Bs, 0, none⟩) hB1 hB2).trans hBs
      obtain ⟨y, hyy⟩ : ∃ y, el m = y := ⟨_, rfl⟩
      rw [hyy] at hcx
      obtain ⟨fn, tmps, assign, body, hy, hR⟩ := hY _ (m, y) wr hJs (by rw [upto_length]; exact hlt)
      have HE : Aside0 (backAt len el k = (m, y)) := ⟨by unfold backAt; rw [← hm, hyy]⟩
      clear hyy
      dsimp only at hy
      have HM := Lib.hid hm
      rw [← hm]
      clear hc hBs hm
      gi_wp2
      refine hR.mono ?_
      rintro e' W3 (⟨rfl, hJ3, hk3⟩ | ⟨rfl, hJx3⟩)
      · have hk3' := Aside0.mk hk3
        clear hk3
        gi_wp2
        go_roundw
        case rel =>
          refine ⟨k + 1, by omega, ?_, by rw [upto_succ, HE.out]; exact hJ3, ⟨hnx.out.trans hk3'.out⟩⟩
          have := HM.out
          rcases Nat.eq_zero_or_pos m with e0 | e0
          · right; exact ⟨by omega, by rw [e0]; rfl⟩
          · left; exact ⟨by omega, by congr 1; omega⟩
        case measure => simp [intOf] <;> omega
      · gi_wp2
        refine bodyPost_ret (results_none rfl _ _ _) rfl ?_
        exact ⟨⟨_, rfl⟩, .inr ⟨_, ⟨k + 1, by omega, by rw [upto_succ, HE.out]⟩, hJx3⟩⟩
    · gi_wp2
      go_end0
      exact ⟨⟨_, rfl⟩, .inl ⟨_, rfl, hJs⟩⟩
set_option maxRecDepth 100000 in
set_option maxHeartbeats 1000000 in
theorem backward1_nil_in {α : Type} (F : Fence) (n : Nat) (h7 : F.fn 198) (hro : F.round = none) (l Bs : Nat) (a : Option Addr) (cap : Nat) (J : List α → World → Prop) (W : World) (hBs : W.cell? ⟨Bs, 0, none⟩ = some (.slice a 0 cap)) (h0 : J [] W) :
    CallsIn F n Try.prog 198 #[.func (.yield l) #[] #[], .pointer (some ⟨Bs, 0, none⟩)] W fun e W' => (∃ v, e = .returned v) ∧ J [] W' := by
  refine callsIn_of_wp Try.func198 rfl h7 ?_ hro
  simp only [Try.ntmps198, List.size_toArray, List.length_cons, List.length_nil, Nat.reduceAdd, Nat.reduceSub, Array.replicate_succ, Array.replicate_zero, List.push_toArray, List.append_toArray, List.nil_append, List.cons_append]
  gi_wp2
  gi_loopw [3] (fun i wr => i = .int .i64 (-1) ∧ J [] wr) (fun _ _ => 0)
  case atStart => exact ⟨rfl, h0⟩
  case round =>
    obtain ⟨rfl, hJs⟩ := hrel
    gi_wp2
    go_end0
    exact ⟨⟨_, rfl⟩, hJs⟩
set_option maxHeartbeats 1000000 in
theorem backward_in (F : Fence) (n : Nat) (h5 : F.fn 185) (hro : F.round = none) (a : Option Addr) (len cap : Nat) (w : World) :
    CallsIn F n Try.prog 185 #[.slice a len cap] w fun e w' => e = .returned (.func (.func 198) #[] #[.pointer (some ⟨w.heap.size, 0, none⟩)]) ∧ w' = w.alloc (.cells #[.slice a len cap] 22) := by
  refine callsIn_of_wp Try.func185 rfl h5 ?_ hro
  simp only [Try.ntmps185, List.size_toArray, List.length_cons, List.length_nil, Nat.reduceAdd, Nat.reduceSub, Array.replicate_succ, Array.replicate_zero, List.push_toArray, List.append_toArray, List.nil_append, List.cons_append]
  gi_wp2
  go_ret
  exact ⟨rfl, rfl⟩
theorem ownsRow_ints {w : World} {base : Nat} {v : Value} {zs : List Int} (h : w.ownsRow base 2 1 v zs.length (zs.map (Value.int .i64))) :
    (v = .slice none 0 0 ∧ zs = []) ∨ ∃ g cap, v = .slice (some ⟨g, 0, none⟩) zs.length cap ∧ base ≤ g ∧ g < w.heap.size ∧ ∀ j, j < zs.length → w.cell? ⟨g, j, none⟩ = some (.int .i64 (zs[j]?.getD 0)) := by
  rcases h.2 with ⟨rfl, e⟩ | ⟨g, cap, cur, rfl, hb, hh, _⟩
  · exact .inl ⟨rfl, List.eq_nil_of_length_eq_zero e⟩
  · refine .inr ⟨g, cap, rfl, hb, (Array.getElem?_eq_some_iff.1 hh).1, fun j hj => ?_⟩
    have hcx := h.cells (g := g) rfl j (.int .i64 (zs[j]?.getD 0)) (by simp [List.getElem?_eq_getElem hj])
    have ha : (⟨g, 0, none⟩ : Addr).add j = ⟨g, j, none⟩ := by unfold Addr.add; split <;> simp_all
    rwa [ha] at hcx
theorem backward_stops {α : Type} (val : α → Int) (F : Fence) (n : Nat) (h7 : F.fn 198) (hro : F.round = none) (hn : 1 ≤ n) (Bs n₁ n₂ len : Nat) (sv : Value) (e : Nat → α) (zs : List Int) (hz : zs.length = len) (hez : ∀ j, j < len → val (e j) = zs[j]?.getD 0) (hreach : len * 8 ≤ 140737488351232) (w : World) (hB1 : n₁ ≤ Bs) (hB2 : Bs < n₂) (hn2 : n₂ = w.heap.size)
    (hc : w.cell? ⟨Bs, 0, none⟩ = some sv) (hI : w.ownsRow n₁ 2 1 sv zs.length (zs.map (Value.int .i64))) :
    SeqStopsK F n Try.prog 198 #[.pointer (some ⟨Bs, 0, none⟩)] (fun x : Nat × α => #[Value.int .i64 (x.1 : Int), Value.int .i64 (val x.2)]) (Rng n₁ n₂) (fun ys => ys = upto (backAt len e) len)
      (fun pre => ∃ k, k ≤ len ∧ pre = upto (backAt len e) k) len w := fun l J Jx W hW _ _ hY h0 => by
  have hc' := (hW.cell (p := ⟨Bs, 0, none⟩) (by show Bs < _; omega)).trans hc
  subst hz
  rcases ownsRow_ints hI with ⟨rfl, rfl⟩ | ⟨g, cap, rfl, hg, hgs, hcs⟩
  · exact (backward1_nil_in F n h7 hro l Bs none 0 J W hc' h0).mono fun e W' ⟨he, hj⟩ => ⟨he, .inl ⟨_, rfl, hj⟩⟩
  · exact backward1_in val F n h7 hro hn l Bs n₁ n₂ g cap zs.length e hreach hB1 hB2 hg (by omega) J Jx hY W hc' (fun j hj => (hW.cell (p := ⟨g, j, none⟩) hgs).trans ((hcs j hj).trans (by rw [hez j hj]))) h0
abbrev V6 := { v : Int // 0 ≤ v ∧ v ≤ 5 }
def delV (f : Int) (v : Int) : Int := Go.bits .andNot .i64 f (2 ^ v.toNat)
def bordersOf (f : Int) (ys : List (Nat × V6)) : List Int := (ys.map fun y => delV f y.2.1).filter fun r => r != 0
theorem bordersOf_yes {f : Int} (pre : List (Nat × V6)) {x : Nat × V6} (h : (delV f x.2.1 != 0) = true) : bordersOf f (pre ++ [x]) = bordersOf f pre ++ [delV f x.2.1] := by
  simp [bordersOf, bne_iff_ne.1 h]
theorem bordersOf_no {f : Int} (pre : List (Nat × V6)) {x : Nat × V6} (h : (delV f x.2.1 != 0) = false) : bordersOf f (pre ++ [x]) = bordersOf f pre := by
  simp [bordersOf, bne_eq_false_iff_eq.1 h]
theorem bordersOf_len (f : Int) (pre : List (Nat × V6)) : (bordersOf f pre).length ≤ pre.length := by
  unfold bordersOf
  exact Nat.le_trans (List.length_filter_le _ _) (by simp)
theorem verts_mem {f v : Int} (h : v ∈ verts f) : 0 ≤ v ∧ v ≤ 5 := by
  unfold verts vertsUpto at h
  simp only [List.mem_map, List.mem_filter, List.mem_range] at h
  obtain ⟨a, ⟨ha, _⟩, rfl⟩ := h
  omega
def vertAt (f : Int) (j : Nat) : V6 := ⟨(verts f)[j]?.getD 0, by
  rcases h : (verts f)[j]? with _ | v
  · simp
  · exact verts_mem (f := f) (List.mem_of_getElem? h)⟩
def bordersL (f : Int) : List Int := bordersOf f (upto (backAt (verts f).length (vertAt f)) (verts f).length)
theorem verts_len (f : Int) : (verts f).length ≤ 6 := vertsUpto_len f 6
theorem RO.row {w : World} {base : Nat} {v : Value} {xs : List Int} (h : RO w base v xs) : w.ownsRow base 2 1 v xs.length (xs.map (Value.int .i64)) := by
  obtain ⟨_, inner, ho, hr⟩ := h
  have : inner = xs.map (Value.int .i64) := by
    apply List.ext_getElem
    · have := hr.1; simpa [Kd.int, Kd.scalar] using this
    · intro i h1 h2
      have h3 := hr.2 i (xs[i]'(by simpa using h2)) (List.getElem?_eq_getElem _)
      have h4 : (inner.drop (i * 1)).take 1 = [Value.int .i64 (xs[i]'(by simpa using h2))] := h3
      rw [Nat.mul_one, List.drop_eq_getElem_cons h1, List.take_succ_cons, List.take_zero] at h4
      rw [(List.cons.inj h4).1, List.getElem_map]
  rw [this] at ho
  exact ho
theorem RO.of_row {w : World} {base : Nat} {v : Value} {xs : List Int} (h : w.ownsRow base 2 1 v xs.length (xs.map (Value.int .i64))) : RO w base v xs := by
  refine ⟨fun _ _ => trivial, xs.map (Value.int .i64), h, ⟨by simp [Kd.int, Kd.scalar], fun j p hp => ?_⟩⟩
  obtain ⟨hj, rfl⟩ := List.getElem?_eq_some_iff.1 hp
  show ((xs.map (Value.int .i64)).drop (j * 1)).take 1 = [Value.int .i64 xs[j]]
  rw [Nat.mul_one, List.drop_eq_getElem_cons (by simpa using hj)]
  simp
theorem round_app {Wd w1 : World} {B n₀ n₁ n₂ t e k : Nat} {v v' : Value} {xs ys : List Value} {m : Nat} {tmp : Obj} (hv : Boxed Wd B t v) (hrow : Wd.ownsRow n₂ e 1 v k xs) (hg : (Wd.alloc tmp).grownBy w1 v.ownBlock) (ho : w1.ownsRow n₂ e 1 v' m ys)
    (hB : B < n₁) (hn : n₀ ≤ B) (hs : n₂ ≤ Wd.heap.size) (hte : t ≠ e := by decide) (hn12 : n₁ ≤ n₂ := by omega) :
    Boxed (w1.setCell ⟨B, 0, none⟩ v') B t v' ∧ (w1.setCell ⟨B, 0, none⟩ v').ownsRow n₂ e 1 v' m ys ∧ Rng n₁ n₂ Wd (w1.setCell ⟨B, 0, none⟩ v') ∧ KeepsOthers Wd (w1.setCell ⟨B, 0, none⟩ v') ∧
      (∀ b, b < n₂ → b ≠ B → b < Wd.heap.size → ∀ o, (w1.setCell ⟨B, 0, none⟩ v').cell? ⟨b, o, none⟩ = Wd.cell? ⟨b, o, none⟩) ∧ Below n₀ Wd (w1.setCell ⟨B, 0, none⟩ v') := by
  have hr2 := own_weaken hrow (show n₀ ≤ n₂ by omega)
  have ho2 := own_weaken ho (show n₀ ≤ n₂ by omega)
  obtain ⟨h1, h2, h3, h4, h5⟩ := hv.appended hte hr2 (by omega) hn ho2 hg
  have hb : ∀ b, b < n₂ → b ≠ B → b < Wd.heap.size → (w1.setCell ⟨B, 0, none⟩ v').heap[b]? = Wd.heap[b]? := by
    intro b hb1 hb2 hb3
    rw [Below.heap_setCell _ _ _ _ hb2, hg.block b (by simp; omega) (fun e => by have := own_base hrow b e.symm; omega)]
    exact Below.heap_alloc _ _ _ hb3
  refine ⟨h2, ?_, fun b hb1 hb2 => hb b hb2 (by omega) (by omega), h4, fun b hb1 hb2 hb3 o => World.cell?_of_block (hb b hb1 hb2 hb3), h5⟩
  exact ho.kept (grownBy_setCell' w1 B v') (.inr ((h1.not_row hte ho).symm))
def BI (f : Int) (w wv : World) (pre : List (Nat × V6)) (W : World) : Prop :=
  ((∃ v, Boxed W (w.heap.size + 1) 22 v ∧ W.ownsRow (wv.heap.size + 1) 2 1 v (bordersOf f pre).length ((bordersOf f pre).map (Value.int .i64)) ∧ True) ∧ W.cell? ⟨w.heap.size, 0, none⟩ = some (.int .i64 f) ∧ wv.heap.size + 1 ≤ W.heap.size) ∧ Below w.heap.size w W
theorem body_yes {f : Int} {w wv W Wd w1 : World} {pre : List (Nat × V6)} {x : Nat × V6} {v v' : Value} {tmp : Obj} {B : Nat} (U1 : Boxed Wd (w.heap.size + 1) 22 v) (U2 : Wd.ownsRow (wv.heap.size + 1) 2 1 v (bordersOf f pre).length ((bordersOf f pre).map (Value.int .i64)))
    (X2 : (Wd.alloc tmp).grownBy w1 v.ownBlock) (X1 : w1.ownsRow (wv.heap.size + 1) 2 1 v' ((bordersOf f pre).length + 1) ((bordersOf f pre).map (Value.int .i64) ++ [.int .i64 (delV f x.2.1)])) (U3 : Below w.heap.size w Wd) (U4 : KeepsOthers W Wd)
    (U5 : Rng (w.heap.size + 2) (wv.heap.size + 1) W Wd) (U6 : Wd.cell? ⟨w.heap.size, 0, none⟩ = some (.int .i64 f)) (U8 : wv.heap.size + 1 ≤ Wd.heap.size) (hwv : w.heap.size + 2 ≤ wv.heap.size) (hx : (delV f x.2.1 != 0) = true) :
    KeepsFrom B W (w1.setCell ⟨w.heap.size + 1, 0, none⟩ v') ∧ Rng (w.heap.size + 2) (wv.heap.size + 1) W (w1.setCell ⟨w.heap.size + 1, 0, none⟩ v') ∧ BI f w wv (pre ++ [x]) (w1.setCell ⟨w.heap.size + 1, 0, none⟩ v') := by
  obtain ⟨G1, G2, G3, G4, G5, G6⟩ := round_app (n₀ := w.heap.size) (n₁ := w.heap.size + 2) U1 U2 X2 X1 (by omega) (by omega) U8
  refine ⟨(U4.trans G4).from _, U5.trans G3, ⟨⟨_, G1, ?_, trivial⟩, (G5 w.heap.size (by omega) (by omega) (by omega) 0).trans U6, Nat.le_trans U8 G4.size⟩, U3.trans G6⟩
  rw [bordersOf_yes pre hx]
  simpa using G2
theorem body_no {f : Int} {w wv W Wd : World} {pre : List (Nat × V6)} {x : Nat × V6} {v : Value} {B : Nat} (U1 : Boxed Wd (w.heap.size + 1) 22 v) (U2 : Wd.ownsRow (wv.heap.size + 1) 2 1 v (bordersOf f pre).length ((bordersOf f pre).map (Value.int .i64)))
    (U3 : Below w.heap.size w Wd) (U4 : KeepsOthers W Wd) (U5 : Rng (w.heap.size + 2) (wv.heap.size + 1) W Wd) (U6 : Wd.cell? ⟨w.heap.size, 0, none⟩ = some (.int .i64 f)) (U8 : wv.heap.size + 1 ≤ Wd.heap.size) (hx : (delV f x.2.1 != 0) = false) :
    KeepsFrom B W Wd ∧ Rng (w.heap.size + 2) (wv.heap.size + 1) W Wd ∧ BI f w wv (pre ++ [x]) Wd :=
  ⟨U4.from _, U5, ⟨⟨_, U1, by rw [bordersOf_no pre hx]; exact U2, trivial⟩, U6, U8⟩, U3⟩
set_option maxRecDepth 100000 in
set_option maxHeartbeats 2000000 in
theorem borders_c (f : Int) (w : World) : Calls Try.prog 155 #[.int .i64 f] w fun e w' => ∃ v, e = .returned v ∧ RO w' w.heap.size v (bordersL f) ∧ Below w.heap.size w w' := by
  have h1 : 1 ≤ 5 := by omega
  have f1 : Fence.wide.fn 89 := trivial
  have f2 : Fence.wide.fn 185 := trivial
  obtain ⟨i0, hi, hz0, hz1, hz2⟩ := info_parts info64
  refine (callsIn_wide (n := 5)).1 ?_
  refine callsIn_of_wp_marks Try.func155 rfl trivial ?_ rfl
  simp only [Try.ntmps155, List.size_toArray, List.length_cons, List.length_nil, Nat.reduceAdd, Nat.reduceSub, Array.replicate_succ, Array.replicate_zero, List.push_toArray, List.append_toArray, List.nil_append, List.cons_append]
  have B0 := Boxed.new w 2 (.int .i64 f)
  have B1 := Boxed.new (w.alloc (.cells #[.int .i64 f] 2)) 22 (.slice none 0 0)
  rw [World.size_alloc] at B1
  have hBw : Below w.heap.size w ((w.alloc (.cells #[.int .i64 f] 2)).alloc (.cells #[.slice none 0 0] 22)) := ((Below.refl _ w).alloc (Nat.le_refl _) _).alloc (by simp) _
  have BB0 := Aside0.mk (B0.alloc (.cells #[.slice none 0 0] 22))
  have BB1 := Aside0.mk B1
  have HBw := Aside0.mk hBw
  clear B0 B1 hBw
  gi_wp2_with (first
    | (gi_at_call 89; refine (callsIn_wide.2 (vertices_c _ _)).mono ?_; rintro e wv ⟨v, rfl, hR, hB⟩; have HR := Aside0.mk hR; have HB := Aside0.mk hB; clear hR hB; obtain ⟨Av, cv, rfl⟩ := Kd.R_slice HR.out)
    | (gi_at_call 185; refine (backward_in _ _ trivial rfl _ _ _ _).mono ?_; rintro e w' ⟨rfl, rfl⟩))
  have hsz : w.heap.size + 2 ≤ wv.heap.size := by have := HB.out.size; simpa using this
  have hb2 : ((w.alloc (.cells #[.int .i64 f] 2)).alloc (.cells #[.slice none 0 0] 22)).heap.size = w.heap.size + 2 := by simp
  have BB0v : Boxed (wv.alloc (.cells #[.slice Av (verts f).length cv] 22)) w.heap.size 2 (.int .i64 f) := Boxed.alloc ((HB.out.block w.heap.size (by rw [hb2]; omega)).trans BB0.out) _
  have BB1v : Boxed (wv.alloc (.cells #[.slice Av (verts f).length cv] 22)) (w.heap.size + 1) 22 (.slice none 0 0) := Boxed.alloc ((HB.out.block (w.heap.size + 1) (by rw [hb2]; omega)).trans BB1.out) _
  have bN := Boxed.new wv 22 (.slice Av (verts f).length cv)
  have hB0 : Below w.heap.size w (wv.alloc (.cells #[.slice Av (verts f).length cv] 22)) := (HBw.out.trans (HB.out.mono (by rw [hb2]; omega))).alloc (by omega) _
  have hrow : (wv.alloc (.cells #[.slice Av (verts f).length cv] 22)).ownsRow (w.heap.size + 2) 2 1 (.slice Av (verts f).length cv) (verts f).length ((verts f).map (Value.int .i64)) := by
    have := HR.out.row
    rw [hb2] at this
    exact this.alloc _
  refine wpIn_rangeFunc_ownG rfl h1 (gf := 198) (lb := #[.pointer (some ⟨wv.heap.size, 0, none⟩)]) rfl trivial (enters_of Try.func198 (by kernel_rfl) rfl)
    (backward_stops (fun x : V6 => x.1) Fence.wide (5 - 1) trivial rfl (by omega) wv.heap.size (w.heap.size + 2) (wv.heap.size + 1) (verts f).length _ (vertAt f) (verts f) rfl (fun _ _ => rfl) (by have := verts_len f; omega) _ (by omega) (by omega) (by simp) bN.cell hrow)
    (fun h k => h.trans k) (Rng.putObj (by simp)) (Below.refl _ _) (fun _ => rfl)
    (BI f w wv)
    (fun _ _ _ => False)
    (OwnFrom.and (OwnFrom.and (Own.from (holdsRow_own (wv.heap.size + 1) (w.heap.size + 1) 22 2 1 (fun pre => (bordersOf f pre).length) (fun pre => (bordersOf f pre).map (Value.int .i64)) (fun _ _ => True)) _) (Own.from (fun s A B row hs hg hr => ⟨cell_kept hs.1 hg hr, Nat.le_trans hs.2 hg.size⟩) _)) (ownFrom_below (Nat.le_refl _) (by simp; omega)))
    (fun _ _ _ _ _ hs _ _ => hs)
    ⟨⟨⟨_, BB1v, World.ownsRow_nil _ _ _ _, trivial⟩, BB0v.cell, by simp⟩, hB0⟩
    (fun x => { tmps := #[.int .i64 f, .pointer (some ⟨w.heap.size, 0, none⟩), .slice none 0 0, .pointer (some ⟨w.heap.size + 1, 0, none⟩), undef, .int .i64 x.2.1, undef, .int .i64 f, .slice Av (verts f).length cv, .func (.func 198) #[] #[.pointer (some ⟨wv.heap.size, 0, none⟩)], .int .i64 (x.1 : Int), .int .i64 x.2.1, undef, undef, undef, undef, undef, undef, undef, undef, undef, undef, undef], defers := [] }) ?assign ?body ?done ?stop
  case assign =>
    intro l x W K hK
    gi_wp2
    exact hK
  case body =>
    rintro l pre x W ⟨⟨⟨v, hv, hrow, _⟩, hcf, hsW⟩, hB⟩ hlt
    obtain ⟨xi, xv, hx0, hx5⟩ := x
    obtain ⟨m, rfl⟩ := Int.eq_ofNat_of_zero_le hx0
    have hm5 : m ≤ 5 := by omega
    have hshl : (IntKind.i64.wrap (2 ^ m)) = ((2 ^ m : Nat) : Int) := by
      obtain rfl | rfl | rfl | rfl | rfl | rfl : m = 0 ∨ m = 1 ∨ m = 2 ∨ m = 3 ∨ m = 4 ∨ m = 5 := by omega
      all_goals rfl
    have V1 : Boxed W.drew (w.heap.size + 1) 22 v := hv
    have V2 : W.drew.ownsRow (wv.heap.size + 1) 2 1 v (bordersOf f pre).length ((bordersOf f pre).map (Value.int .i64)) := hrow
    have V3 : Below w.heap.size w W.drew := hB.drew
    have V4 : KeepsOthers W W.drew := KeepsOthers.drew W
    have V5 : Rng (w.heap.size + 2) (wv.heap.size + 1) W W.drew := fun _ _ _ => rfl
    have V8 : wv.heap.size + 1 ≤ W.drew.heap.size := hsW
    have V6 : W.drew.cell? ⟨w.heap.size, 0, none⟩ = some (.int .i64 f) := hcf
    have V7 : W.drew.cell? ⟨w.heap.size + 1, 0, none⟩ = some v := hv.cell
    have hwv : w.heap.size + 2 ≤ wv.heap.size := hsz
    have hpl : (bordersOf f pre).length ≤ 5 := by have := bordersOf_len f pre; have := verts_len f; omega
    have hmx : Try.prog.follows .mixedOrders = true := by kernel_rfl
    have hcf' := hcf
    gi_wp2
    gi_region_o
    all_goals
      generalize W.drew = Wd at V1 V2 V3 V4 V5 V6 V7 V8 ⊢
      have U1 := Aside0.mk V1; have U2 := Aside0.mk V2; have U3 := Aside0.mk V3; have U4 := Aside0.mk V4; have U5 := Aside0.mk V5; have U6 := Aside0.mk V6; have U8 := Aside0.mk V8; 
      clear V1 V2 V3 V4 V5 V6 V8 hv hrow hB hcf hcf' hsW
      gi_wp2_with (gi_at_builtin; refine wpListIn_append_own _ rfl (.tmp 18) (.tmp 20) 22 rfl (wv.heap.size + 1) 2 i0 (.int .i64 0) 1 8 Try.underlying22 hi hz0 hz1 hz2 rfl (by decide) v _ _ rfl (U2.out.alloc _) ⟨Wd.heap.size, 0, none⟩ 1 1 [.int .i64 (delV f (m : Int))] rfl rfl (cell_one_new _ _ _) (by simp [Value.oneCell']) (by simp only [maxLen]; omega) (by omega) ?hsz ?_; (case hsz => have := U8.out; simp; omega); intro v' w1 hown' hgrow hnn; clear hnn; obtain ⟨g', cap', rfl⟩ := ownsRow_succ hown'; have hv1 : Boxed w1 (w.heap.size + 1) 22 v := (U1.out.alloc _).kept hgrow (U1.out.not_row (by decide) U2.out); have hc1 := hv1.cell; have hf1 := hv1.frozen; have X1 := Aside0.mk hown'; have X2 := Aside0.mk hgrow; have X3 := Aside0.mk hv1; clear hown' hgrow hv1 V7)
      · have hx : (delV f (m : Int) != 0) = true := by unfold delV; assumption
        exact body_yes (x := ⟨xi, m, hx0, hx5⟩) U1.out U2.out X2.out X1.out U3.out U4.out U5.out U6.out U8.out hwv hx
      · have hx : (delV f (m : Int) != 0) = false := by unfold delV; assumption
        exact body_no (x := ⟨xi, m, hx0, hx5⟩) U1.out U2.out U3.out U4.out U5.out U6.out U8.out hx
  case done =>
    rintro D ys W hD rfl ⟨⟨⟨v, hv, hrow, _⟩, hcf, hsW⟩, hB⟩ hK
    have hc := hv.cell
    gi_wp2
    refine ⟨by simp, .inl ⟨_, _, rfl, run_takeDeferred hK, ?_⟩⟩
    have hD' : wv.heap.size + 1 ≤ D := by simpa using hD
    exact ⟨_, results_tmp rfl _ _ _, v, rfl, RO.of_row (own_weaken (ownsRow_putObj hrow _ hK rfl) (by omega)), hB.trans (belowK_b (w := w) (Nat.le_refl _) W D _ _ (by omega) hK rfl rfl)⟩
  case stop =>
    rintro D c pre W _ _ h _
    exact h.elim
end Go.Proofs.Ytomdfjohnmikdaa.Im
namespace Go.Proofs.Ytomdfjohnmikdaa.Im
open Go.RowKit Go.Shelf YtomdfjohnmikdaaW.PrintWords YtomdfjohnmikdaaW.PrintLast YtomdfjohnmikdaaW.PrintMore
def firstI (p : Int → Bool) (xs : List Int) : Int := if xs.any p then (xs.findIdx p : Int) else -1
theorem firstI_hit {p : Int → Bool} {xs : List Int} {k : Nat} {y : Int} (hk : k < xs.length) (hy : xs[k]?.getD 0 = y) (hp : p y = true) (hb : ∀ j, j < k → p (xs[j]?.getD 0) = false) : firstI p xs = (k : Int) := by
  have hxk : xs[k] = y := by rw [List.getElem?_eq_getElem hk] at hy; simpa using hy
  have ha : xs.any p = true := List.any_eq_true.2 ⟨xs[k], List.getElem_mem hk, by rw [hxk]; exact hp⟩
  have hf : xs.findIdx p = k := by
    rw [List.findIdx_eq hk]
    refine ⟨by rw [hxk]; exact hp, fun j hj => ?_⟩
    have := hb j hj
    rw [List.getElem?_eq_getElem (show j < xs.length by omega)] at this
    simpa using this
  rw [firstI, if_pos ha, hf]
theorem firstI_miss {p : Int → Bool} {xs : List Int} (hb : ∀ j, j < xs.length → p (xs[j]?.getD 0) = false) : firstI p xs = -1 := by
  have ha : ¬ xs.any p = true := by
    intro h
    obtain ⟨x, hx, hp⟩ := List.any_eq_true.1 h
    obtain ⟨j, hj, rfl⟩ := List.mem_iff_getElem.1 hx
    have := hb j hj
    rw [List.getElem?_eq_getElem hj] at this
    simp at this
    rw [this] at hp; cases hp
  rw [firstI, if_neg ha]
theorem firstI_nonneg (p : Int → Bool) (xs : List Int) : decide (0 ≤ firstI p xs) = xs.any p := by
  unfold firstI
  split
  · rename_i h; rw [h]; simp
  · rename_i h; rw [Bool.eq_false_iff.2 h]; rfl
theorem RC.at_ {w W : World} {A : Option Addr} {n : Nat} {xs : List Int} (h : RC w A n xs) (hb : Below w.heap.size w W) {k : Nat} (hk : k < n) : ∃ ad, A = some ad ∧ W.cell? (ad.add k) = some (.int .i64 (xs[k]?.getD 0)) := by
  obtain ⟨ad, e, hc⟩ := Kd.at_int (Kd.C_below h hb) k (by omega) (by omega)
  exact ⟨ad, e, by simpa [rd] using hc⟩
theorem RC.len {w : World} {A : Option Addr} {n : Nat} {xs : List Int} (h : RC w A n xs) : xs.length = n ∧ n ≤ 9223372036854775807 := ⟨h.1, h.2.1⟩
set_option maxRecDepth 100000 in
set_option maxHeartbeats 1000000 in
theorem indexFunc_c (A : Option Addr) (n c : Nat) (xs : List Int) (fv : Value) (dom : Int → Prop) (p : Int → Bool) (w : World) (hr : RC w A n xs) (hf : FnB Try.prog fv dom p w) (hd : ∀ x ∈ xs, dom x) :
    Calls Try.prog 141 #[.slice A n c, fv] w fun e w' => e = .returned (.int .i64 (firstI p xs)) ∧ Below w.heap.size w w' := by
  obtain ⟨g, fs, lb, rfl, eg, hcall⟩ := hf
  have hl := hr.len
  have hbig := hl.2
  have HR := Aside0.mk hr
  have HC := Aside0.mk hcall
  have HL := Aside0.mk hl.1
  have HD := Aside0.mk hd
  clear hr hcall hl hd
  go_enter Try.func141, Try.ntmps141
  go_wp2
  go_loopw [5, 8] (fun _ i wr => ∃ k : Nat, k ≤ n ∧ i = .int .i64 k ∧ Aside0 (Below w.heap.size w wr) ∧ Aside0 (∀ j, j < k → p (xs[j]?.getD 0) = false)) (fun _ i _ => n - (intOf i).toNat)
  case atStart => exact ⟨0, by omega, rfl, ⟨Below.refl _ _⟩, ⟨fun j hj => absurd hj (Nat.not_lt_zero _)⟩⟩
  case round =>
    obtain ⟨k, hk, rfl, hB, hA⟩ := hrel
    by_cases hlt : k < n
    · have hltz : (k : Int) < (n : Int) := by omega
      obtain ⟨ad, rfl, hcell⟩ := HR.out.at_ hB.out hlt
      obtain ⟨y, hy⟩ : ∃ y, xs[k]?.getD 0 = y := ⟨_, rfl⟩
      rw [hy] at hcell
      have HY := Aside0.mk hy
      have hdy : dom y := by
        have hkl : k < xs.length := by rw [HL.out]; exact hlt
        rw [List.getElem?_eq_getElem hkl] at hy
        rw [← hy]
        exact HD.out _ (List.getElem_mem hkl)
      have hcy := HC.out wr y hB.out hdy
      clear hy hdy
      have HCY := Aside0.mk hcy
      clear hcy
      cases hq : p y with
      | true =>
        rw [hq] at HCY
        have HQ := Aside0.mk hq
        clear hq
        go_wp2_with (go_at_fn g; refine HCY.out.mono ?_; rintro e w' ⟨rfl, hb⟩; have HB2 := Aside0.mk hb; clear hb)
        go_ret
        refine ⟨?_, below_in hB.out HB2.out⟩
        rw [firstI_hit (by rw [HL.out]; exact hlt) HY.out HQ.out hA.out]; rfl
      | false =>
        rw [hq] at HCY
        have HQ := Aside0.mk hq
        clear hq
        go_wp2_with (go_at_fn g; refine HCY.out.mono ?_; rintro e w' ⟨rfl, hb⟩; have HB2 := Aside0.mk hb; clear hb)
        go_roundw
        case measure => simp [intOf]; omega
        case rel =>
          refine ⟨k + 1, by omega, by go_num, ⟨below_in hB.out HB2.out⟩, ⟨fun j hj => ?_⟩⟩
          rcases Nat.lt_or_ge j k with h | h
          · exact hA.out j h
          · obtain rfl : j = k := by omega
            rw [HY.out]; exact HQ.out
    · obtain rfl : k = n := by omega
      have hltz : ¬ (k : Int) < (k : Int) := by omega
      go_wp2
      go_ret
      refine ⟨?_, hB.out⟩
      rw [firstI_miss (fun j hj => hA.out j (by rw [HL.out] at hj; exact hj))]; rfl
set_option maxRecDepth 100000 in
theorem containsFunc_c (A : Option Addr) (n c : Nat) (xs : List Int) (fv : Value) (dom : Int → Prop) (p : Int → Bool) (w : World) (hr : RC w A n xs) (hf : FnB Try.prog fv dom p w) (hd : ∀ x ∈ xs, dom x) :
    Calls Try.prog 90 #[.slice A n c, fv] w fun e w' => e = .returned (.bool (xs.any p)) ∧ Below w.heap.size w w' := by
  rw [← firstI_nonneg]
  have hc := indexFunc_c A n c xs fv dom p w hr hf hd
  have HC := Aside0.mk hc
  clear hc hr hf hd
  generalize firstI p xs = r at HC ⊢
  go_enter Try.func90, Try.ntmps90
  go_wp2_with (go_at_call 141; refine HC.out.mono ?_; rintro e w' ⟨rfl, hb⟩)
  go_ret
  exact ⟨rfl, hb⟩
end Go.Proofs.Ytomdfjohnmikdaa.Im
namespace Go.Proofs.Ytomdfjohnmikdaa.Rw
open Go.ChangeShapes Go.WideShapes Go.ChangeAt Go.RowKit Go.Joins YtomdfjohnmikdaaW.PrintWords
section
variable {H : Type} {enc : TypeId × Value → H} {w : World}
set_option maxRecDepth 100000 in
theorem read_ints {fuel : Nat} {v : Value} {x : DataW H × List MemPlace} (h : DataW.trod enc Try.prog w 0 (fun _ => true) true fuel 22 [v] = some x) :
    ∃ (A : Option Addr) (cap : Nat) (l : List Int), v = .slice A l.length cap ∧ l.length ≤ cap ∧ l.length ≤ maxLen ∧ Kd.C (Kd.int .i64) w A l.length l ∧ ∀ n ∈ l, (Lit.int .i64 n).wf = true := by
  rcases open_ints Try.underlying22 Try.underlying2 (by kernel_rfl) h with ⟨hcs, _⟩ | ⟨a, len, cap, zs, hcs, _, hl, hm, hz, _, hcell, hwz⟩
  · simp at hcs
    subst hcs
    exact ⟨none, 0, [], rfl, Nat.le_refl _, Nat.zero_le _, Kd.C_nil _ _, fun n hn => by simp at hn⟩
  · simp at hcs
    subst hcs
    have hlen : (zs.take len).length = len := by simp at hz; simp; omega
    refine ⟨some a, cap, zs.take len, by rw [hlen], by omega, by omega, ?_, fun n hn => hwz n (List.mem_of_mem_take hn)⟩
    refine Kd.C_of_reads (d := (0 : Int)) (h1 := fun _ => rfl) ?_
    refine ⟨rfl, by rw [hlen]; simp only [maxLen] at hm; omega, fun _ => ⟨a, rfl, fun j hj => ?_⟩⟩
    rw [hlen] at hj
    simp at hz
    rw [hcell j (by omega)]
    simp [List.getD_eq_getElem?_getD, List.getElem?_take, hj]
set_option maxRecDepth 100000 in
theorem read_cx {b0 : Nat} {v : Value} {d : DataW H} {p : List MemPlace} (hv : Value.okWide Try.prog w .any b0 24 v) (h : DataW.Trod enc Try.prog w 0 (fun _ => true) true 24 v d p) :
    ∃ (a : Int) (A : Option Addr) (cap : Nat) (l : List Int), v = .agg #[.int .i64 a, .slice A l.length cap] ∧ (Lit.int .i64 a).wf = true ∧ l.length ≤ cap ∧ l.length ≤ maxLen ∧ Kd.C (Kd.int .i64) w A l.length l ∧ ∀ n ∈ l, (Lit.int .i64 n).wf = true := by
  obtain ⟨c0, c1, y0, y1, n, rfl, _, _, h0, h1⟩ := open_agg2 Try.underlying24 (by kernel_rfl) (by kernel_rfl) hv h
  obtain ⟨a, e0, _, wa⟩ := DataW.trod_int Try.underlying2 h0
  obtain ⟨A, cap, l, rfl, h2, h3, h4, h5⟩ := read_ints h1
  simp at e0
  subst e0
  exact ⟨a, A, cap, l, rfl, wa, h2, h3, h4, h5⟩
end
end Go.Proofs.Ytomdfjohnmikdaa.Rw
namespace Go.Proofs.Ytomdfjohnmikdaa.Cw
open Go.RowKit YtomdfjohnmikdaaW.PrintWords YtomdfjohnmikdaaW.PrintLast YtomdfjohnmikdaaW.PrintMore
def mB (n m : Nat) : Array Bool := ((List.range n).map (fun i => Nat.testBit m i)).toArray
theorem mB_zero (n : Nat) : Array.replicate n false = mB n 0 := by
  apply Array.ext'
  simp [mB, List.map_const', Array.toList_replicate, Nat.zero_testBit]
section
variable {P : Program} {ops : Array Oper} {Q : Exit → Act → World → Prop} {S : World → Prop} {ds : List Nat} {md : Region.Mode} {T : Bool × List (List Nat × List Nat)} {B : List Nat}
  {n m fuel : Nat} {a a' : Act} {w : World} {oi : Oper} {v : Value} {l : Array Bool}
theorem st_ {id : Nat} (n : Nat) (hS : S w.drew) (h : S w.drew → wpAnyLast P .any ops Q S ds n (mB n 0) a w.drew) (hm : P.follows .mixedOrders = true := by kernel_rfl) (hn : ops.size = n := by rfl) : (Code.region id ops true).wp P Q a w :=
  start_ (n := n) (mB n 0) hm hn (mB_zero n) hS h
theorem pu_ (i : Nat) (d : Tmp) (m' : Nat) (hT : Aside0 (rtab md ops = T)) (h : wpAnyLast P md ops Q S ds fuel (mB n m') a' w) (hi : ops[i]? = some oi := by rfl) (hN : oi.dst = some d := by rfl)
    (hc : anyT T (mB n m).toList (mB n m').toList i = true := by kernel_rfl) (hQ : ∀ c a w, Q (.panic c) (a.put oi.dst v) w → Q (.panic c) a w := by exact fun _ _ _ h => h)
    (hw : Region.wanted oi (yielded ops a.tmps) = true := by rfl) (hy : ∀ w, (execOp a.eval oi).run P w = .ok (.value v) w := by (intro w'; go_simp; with_reducible rfl))
    (ha : a.put (some d) v = a' := by (simp only [Act.put, List.setIfInBounds_toArray, List.set_cons_zero, List.set_cons_succ, i64_w, i32_w]; rfl)) : wpAnyLast P md ops Q S ds (fuel + 1) (mB n m) a w :=
  pure_ (mB n m') hi hN (any_of hT.out hc) hQ (.inl ⟨hw, hy⟩) ha h
theorem pd_ (i : Nat) (d : Tmp) (m' : Nat) (hT : Aside0 (rtab md ops = T)) (h : wpAnyLast P md ops Q S ds fuel (mB n m') a' w) (hi : ops[i]? = some oi := by rfl) (hN : oi.dst = some d := by rfl)
    (hc : anyT T (mB n m).toList (mB n m').toList i = true := by kernel_rfl) (hQ : ∀ c a w, Q (.panic c) (a.put oi.dst v) w → Q (.panic c) a w := by exact fun _ _ _ h => h)
    (hw : Region.wanted oi (yielded ops a.tmps) = true := by rfl) (hy : ∀ w, (execOp a.eval oi).run P w = .ok (.value v) w := by (intro w'; go_simp; (first | done | with_reducible rfl | rfl)))
    (ha : a.put (some d) v = a' := by (simp only [Act.put, List.setIfInBounds_toArray, List.set_cons_zero, List.set_cons_succ, i64_w, i32_w]; rfl)) : wpAnyLast P md ops Q S ds (fuel + 1) (mB n m) a w :=
  pure_ (mB n m') hi hN (any_of hT.out hc) hQ (.inl ⟨hw, hy⟩) ha h
theorem pn_ (i : Nat) (d : Tmp) (m' : Nat) (hT : Aside0 (rtab md ops = T)) (h : wpAnyLast P md ops Q S ds fuel (mB n m') a' w) (hi : ops[i]? = some oi := by rfl) (hN : oi.dst = some d := by rfl)
    (hc : anyT T (mB n m).toList (mB n m').toList i = true := by kernel_rfl) (hQ : ∀ c a w, Q (.panic c) (a.put oi.dst undef) w → Q (.panic c) a w := by exact fun _ _ _ h => h)
    (hw : Region.wanted oi (yielded ops a.tmps) = false := by rfl)
    (ha : a.put (some d) undef = a' := by (simp only [Act.put, List.setIfInBounds_toArray, List.set_cons_zero, List.set_cons_succ, i64_w, i32_w]; rfl)) : wpAnyLast P md ops Q S ds (fuel + 1) (mB n m) a w :=
  pure_ (mB n m') hi hN (any_of hT.out hc) hQ (.inr ⟨hw, rfl⟩) ha h
theorem tk_ (i : Nat) (d : Tmp) (m' : Nat) (hT : Aside0 (rtab md ops = T)) (hB : Aside0 (waitsOk T.2 B = true)) (hS : S w) (h : wpAnyLast P md ops Q S ds fuel (mB n m') a' w) (hi : ops[i]? = some oi := by rfl) (hN : oi.dst = some d := by rfl)
    (hc : takeW T B ds (mB n m).toList (mB n m').toList i = true := by kernel_rfl) (hQ : ∀ c a w, Q (.panic c) (a.put oi.dst v) w → Q (.panic c) a w := by exact fun _ _ _ h => h)
    (hw : Region.wanted oi (yielded ops a.tmps) = true := by rfl) (hy : ∀ w, S w → (execOp a.eval oi).run P w = .ok (.value v) w := by (intro w' hs_; go_simp; with_reducible rfl))
    (ha : a.put (some d) v = a' := by (simp only [Act.put, List.setIfInBounds_toArray, List.set_cons_zero, List.set_cons_succ, i64_w, i32_w]; rfl)) : wpAnyLast P md ops Q S ds (fuel + 1) (mB n m) a w :=
  take_ (mB n m') hi hN (take_ofW hT.out hB.out hc) hQ (.inl ⟨hw, hy⟩) hS ha h
theorem on_ (i : Nat) (N : Option Tmp) (m' : Nat) (hT : Aside0 (rtab md ops = T))
    (h : ∀ K : Act → World → Prop, Shut (∀ a' w', S w' → (S w' → wpAnyLast P md ops Q S ds fuel (mB n m') a' w') → K a' w') → if Region.wanted oi (yielded ops a.tmps) = true then Oper.wp P oi a w K Q else K (a.put N undef) w)
    (hi : ops[i]? = some oi := by rfl) (hN : oi.dst = N := by rfl) (hc : (readyT T.2 (mB n m).toList == [i] && (mB n m).toList.set i true == (mB n m').toList) = true := by kernel_rfl) (hd : i ∉ ds := by decide) :
    wpAnyLast P md ops Q S ds (fuel + 1) (mB n m) a w := one_ (mB n m') hi hN (one_of hT.out hc) hd h
theorem dn_ {k : Nat} (hT : Aside0 (rtab md ops = T)) (h : Q .normal a w) (hc : (readyT T.2 l.toList == []) = true := by kernel_rfl) : wpAnyLast P md ops Q S ds k l a w := done_ (done_of hT.out hc) h
theorem nm_ (h : wpAnyLast P md ops Q S ds fuel l a' w) (ha : a = a' := by (show Act.put _ (some _) _ = _; simp only [Act.put, List.setIfInBounds_toArray, List.set_cons_zero, List.set_cons_succ, i64_w, i32_w]; rfl)) : wpAnyLast P md ops Q S ds fuel l a w := norm_ ha h
theorem ca_ {N : Option Tmp} {K : Act → World → Prop} {f : FuncId} {fn : Func} {az : Array Operand} {ts : Array TypeId} (hf : P.funcs[f]? = some fn) (args : Array Value)
    (h : Calls P f args w fun e w' => ∃ v, e = .returned v ∧ K (a.put N v) w') (hname : (fn.name == "runtime.NumGoroutine") = false := by kernel_rfl) (hb : fn.body.isSome = true := by rfl)
    (hw : Region.wanted oi (yielded ops a.tmps) = true := by rfl) (hN : oi.dst = N := by rfl) (hop : oi.op = .call { callee := .value (.func f), args := az, argTypes := ts } := by rfl)
    (hargs : az.map a.eval = args := by ((try simp only [List.map_toArray, List.map_cons, List.map_nil]); first | done | rfl | (simp only [List.length_drop, List.length_take]; rfl))) : if Region.wanted oi (yielded ops a.tmps) = true then Oper.wp P oi a w K Q else K (a.put N undef) w :=
  goes_ hf hname hb args hw hN hop hargs h
theorem cl_ {rest : List Oper} {f : FuncId} {az : Array Operand} {ts : Array TypeId} (N : Option Tmp) {fn : Func} (hf : P.funcs[f]? = some fn) (args : Array Value)
    (h : Calls P f args w fun e w' => ∃ v, e = .returned v ∧ wpList P ops Q rest (a.put N v) w') (hd : oi.dst = N := by rfl) (hg : oi.guard = none := by rfl) (hname : (fn.name == "runtime.NumGoroutine") = false := by kernel_rfl)
    (hb : fn.body.isSome = true := by rfl) (hop : oi.op = .call { callee := .value (.func f), args := az, argTypes := ts } := by rfl)
    (hargs : az.map a.eval = args := by ((try simp only [List.map_toArray, List.map_cons, List.map_nil]); first | done | rfl | (simp only [List.length_drop, List.length_take]; rfl))) : wpList P ops Q (oi :: rest) a w :=
  goesL_ N hd hg hf hname hb args hop hargs h
end
section
variable {w W W' w1 : World} {g : Nat} {o : Obj} {t : TypeId} {cs : Array Value} {b : Addr} {u : Value}
theorem cB (h : Aside0 (w.heap[g]? = some (.cells cs t (0, 0)))) (i : Nat) (hu : cs[i]? = some u := by rfl) : w.cell? ⟨g, i, none⟩ = some u := (blk_cell h.out i).trans hu
theorem zB (h : Aside0 (w.heap[g]? = some (.cells cs t (0, 0)))) (i : Nat) : w.frozen? ⟨g, i, none⟩ = false := blk_frozen h.out i
theorem cH (h : Aside0 (Below w.heap.size w W)) (hx : w.cell? b = some u) : W.cell? b = some u := (h.out.cell (World.block_lt_of_cell? w _ hx)).trans hx
theorem pB (h : Aside0 (w.heap[g]? = some o)) (hs : w.heap[g]? = some o → W.heap[g]? = some o := by (intro h_; (with_reducible repeat (first | refine blk_drewN ?_ _ | refine blk_drew ?_ | refine blk_alloc ?_ _)); exact h_)) : W.heap[g]? = some o := hs h.out
theorem sB (h : Aside0 (w.heap[g]? = some o)) (hb : Below W.heap.size W W') (hs : w.heap[g]? = some o → W.heap[g]? = some o := by (intro h_; (with_reducible repeat (first | refine blk_drewN ?_ _ | refine blk_drew ?_ | refine blk_alloc ?_ _)); exact h_)) : Aside0 (W'.heap[g]? = some o) := ⟨blk_below (hs h.out) hb⟩
theorem dB (h : Aside0 (w.heap[g]? = some o)) : Aside0 (w.drew.heap[g]? = some o) := ⟨blk_drew h.out⟩
theorem dH (h : Aside0 (Below w.heap.size w W)) : Aside0 (Below w.heap.size w W.drew) := ⟨below_drew1 h.out⟩
theorem pH (h : Aside0 (Below w.heap.size w W)) (hs : Below w.heap.size w W → Below w.heap.size w W' := by (intro h_; repeat (first | (with_reducible first | exact h_ | apply below_alloc | apply pw_below_drewN | apply below_drew1 | refine below_set ?_ (Aside0.out (by assumption))) | exact h_))) : Below w.heap.size w W' := hs h.out
theorem sH (h : Aside0 (Below w.heap.size w W)) (hb : Below W'.heap.size W' w1) (hs : Below w.heap.size w W → Below w.heap.size w W' := by (intro h_; repeat (first | (with_reducible first | exact h_ | apply below_alloc | apply pw_below_drewN | apply below_drew1 | refine below_set ?_ (Aside0.out (by assumption))) | exact h_))) : Aside0 (Below w.heap.size w w1) := ⟨below_step (hs h.out) hb⟩
theorem gH (h : Aside0 (Below w.heap.size w W)) (he : g = W'.heap.size) (hs : Below w.heap.size w W → Below w.heap.size w W' := by (intro h_; repeat (first | (with_reducible first | exact h_ | apply below_alloc | apply pw_below_drewN | apply below_drew1 | refine below_set ?_ (Aside0.out (by assumption))) | exact h_))) : Aside0 (w.heap.size ≤ g) := ⟨by rw [he]; exact below_size (hs h.out)⟩
theorem nB {g' : Nat} (h : Aside0 (w.heap[g]? = some o)) (he : g' = W.heap.size) (hs : w.heap[g]? = some o → W.heap[g]? = some o := by (intro h_; (with_reducible repeat (first | refine blk_drewN ?_ _ | refine blk_drew ?_ | refine blk_alloc ?_ _)); exact h_)) : Aside0 (g ≠ g') := ⟨by rw [he]; exact Nat.ne_of_lt (blk_lt (hs h.out))⟩
theorem oB {g' : Nat} (h : Aside0 (w.heap[g]? = some o)) (he : g' = W.heap.size) (hs : w.heap[g]? = some o → W.heap[g]? = some o := by (intro h_; (with_reducible repeat (first | refine blk_drewN ?_ _ | refine blk_drew ?_ | refine blk_alloc ?_ _)); exact h_)) : Aside0 (g' ≠ g) := ⟨by rw [he]; exact Nat.ne_of_gt (blk_lt (hs h.out))⟩
variable {α : Type} {d : Kd α} {e : Nat} {base : Nat} {ok : Nat → Prop} {v : Value} {xs : List α}
theorem pR (h : Aside0 (d.R e w base ok v xs)) (hs : d.R e w base ok v xs → d.R e W base ok v xs := by (intro h_; (with_reducible repeat (first | apply Kd.R_alloc | apply Kd.R_drewN | apply Kd.R_drew)); exact h_)) : d.R e W base ok v xs := hs h.out
theorem sR (h : Aside0 (d.R e w base ok v xs)) (hb : Below W.heap.size W W') (hs : d.R e w base ok v xs → d.R e W base ok v xs := by (intro h_; (with_reducible repeat (first | apply Kd.R_alloc | apply Kd.R_drewN | apply Kd.R_drew)); exact h_)) : Aside0 (d.R e W' base ok v xs) := ⟨Kd.R_below (hs h.out) hb⟩
theorem pC {A : Option Addr} {k : Nat} (h : d.C w A k xs) (hs : d.C w A k xs → d.C W A k xs := by (intro h_; repeat (first | exact h_ | (with_reducible refine Kd.C_alloc ?_ _) | (with_reducible refine Kd.C_drewN ?_ _) | (with_reducible refine Kd.C_drew ?_)))) : d.C W A k xs := hs h
end
end Go.Proofs.Ytomdfjohnmikdaa.Cw
namespace Go.Proofs.Ytomdfjohnmikdaa.Kp
open Go.RowKit YtomdfjohnmikdaaW.PrintWords YtomdfjohnmikdaaW.PrintLast YtomdfjohnmikdaaW.PrintMore
structure S73 where
  f0 : Int
  f1 : Int
def z73 : S73 := ⟨(0 : Int), (0 : Int)⟩
def k73 : Kd S73 := Kd.iso (Kd.pair (Kd.int .i64) (Kd.int .i64)) (fun x : S73 => (x.f0, x.f1))
theorem k73_open {w : World} {x : S73} {cs : List Value} (h : k73.K w x cs) : cs = [.int .i64 x.f0, .int .i64 x.f1] := by
  obtain ⟨_, _, rfl, rfl, rfl⟩ := h
  exact rfl
theorem k73_openM {w : World} {base : Nat} {ok : Nat → Prop} {x : S73} {cs : List Value} (h : k73.M w base ok x cs) : cs = [.int .i64 x.f0, .int .i64 x.f1] := by
  obtain ⟨_, _, rfl, rfl, rfl⟩ := h
  exact rfl
theorem k73_mkM (w : World) (base : Nat) (ok : Nat → Prop) (x : S73)  : k73.M w base ok x [.int .i64 x.f0, .int .i64 x.f1] := ⟨[.int .i64 x.f0], [.int .i64 x.f1], rfl, rfl, rfl⟩
def rd_T73 (xs : List S73) (i : Int) : S73 := xs.getD i.toNat z73
theorem at_T73 {w : World} {A : Option Addr} {n : Nat} {xs : List S73} (h : Kd.C k73 w A n xs) (i : Int) (h0 : 0 ≤ i) (h1 : i < n) : ∃ ad , A = some ad ∧ w.cell? (ad.add (i.toNat * 2)) = some (.int .i64 (rd_T73 xs i).f0) ∧ w.cell? ⟨(ad.add (i.toNat * 2)).block, (ad.add (i.toNat * 2)).off + 1, none⟩ = some (.int .i64 (rd_T73 xs i).f1) := by
  obtain ⟨ad, c, e, _, hK, hc0⟩ := Kd.C_get h z73 i h0 h1
  have hc : ∀ j u, c[j]? = some u → w.cell? (ad.add (i.toNat * 2 + j)) = some u := hc0
  obtain rfl := k73_open hK
  exact ⟨ad, e, hc 0 _ rfl, by rw [← add_field _ _ 1 (by omega)]; exact hc 1 _ rfl⟩
abbrev Pr := S73
end Go.Proofs.Ytomdfjohnmikdaa.Kp
namespace Go.Proofs.Ytomdfjohnmikdaa.Ext
open Go.RowKit Im Kp YtomdfjohnmikdaaW.PrintWords YtomdfjohnmikdaaW.PrintLast YtomdfjohnmikdaaW.PrintMore
def laws_eqPair.f (a0_0 a0_1 a1_0 a1_1 : Int) : Option Bool := some (decide (a0_0 = a1_0) && decide (a0_1 = a1_1))
def PrAt (w : World) (b : Nat) (x y : Int) : Prop := w.heap[b]? = some (.cells #[.int .i64 x, .int .i64 y] 73 (0, 0))
section
variable {w w1 : World} {b : Nat} {x y : Int}
theorem PrAt.lt (h : PrAt w b x y) : b < w.heap.size := (Array.getElem?_eq_some_iff.1 h).1
theorem PrAt.below (h : PrAt w b x y) (hb : Below w.heap.size w w1) : PrAt w1 b x y := (hb.block b h.lt).trans h
theorem PrAt.alloc (h : PrAt w b x y) (o : Obj) : PrAt (w.alloc o) b x y := h.below (below_alloc (Below.refl _ _) o)
theorem PrAt.c0 (h : PrAt w b x y) : w.cell? ⟨b, 0, none⟩ = some (.int .i64 x) := (cell_of_row w b 0 _ _ _ h).trans rfl
theorem PrAt.c1 (h : PrAt w b x y) : w.cell? ⟨b, 1, none⟩ = some (.int .i64 y) := (cell_of_row w b 1 _ _ _ h).trans rfl
theorem PrAt.drew (h : PrAt w b x y) : PrAt w.drew b x y := h
theorem PrAt.new (w : World) (x y : Int) : PrAt (w.alloc (.cells #[.int .i64 x, .int .i64 y] 73)) w.heap.size x y := heap_alloc_new w _
end
set_option maxRecDepth 100000 in
theorem laws_eqPair.calls (a0_0 a0_1 a1_0 a1_1 : Int) (r1 : Bool) (w : World) (h : laws_eqPair.f a0_0 a0_1 a1_0 a1_1 = some r1) :
    Calls Try.prog 69 #[.agg #[.int .i64 a0_0, .int .i64 a0_1], .agg #[.int .i64 a1_0, .int .i64 a1_1]] w fun e w' => e = .returned (.bool r1) ∧ Below w.heap.size w w' := by
  obtain rfl := Option.some.inj h
  clear h
  go_enter Try.func69, Try.ntmps69
  go_wp2
  go_loopw [5] (fun i wr => ∃ k : Nat, k ≤ 2 ∧ i = .int .i64 k ∧ Aside0 (Below w.heap.size w wr) ∧ Aside0 (PrAt wr w.heap.size a0_0 a0_1 ∧ PrAt wr (w.heap.size + 1) a1_0 a1_1) ∧ Aside0 (1 ≤ k → a0_0 = a1_0) ∧ Aside0 (2 ≤ k → a0_1 = a1_1)) (fun i _ => 2 - (intOf i).toNat)
  case atStart =>
    refine ⟨0, by omega, rfl, ⟨below_alloc (below_alloc (Below.refl _ _) _) _⟩, ⟨(PrAt.new _ _ _).alloc _, ?_⟩, ⟨fun h => absurd h (by omega)⟩, ⟨fun h => absurd h (by omega)⟩⟩
    simpa using PrAt.new (w.alloc (.cells #[.int .i64 a0_0, .int .i64 a0_1] 73)) a1_0 a1_1
  case round =>
    obtain ⟨k, hk, rfl, hB, hC, hE1, hE2⟩ := hrel
    obtain rfl | rfl | rfl : k = 0 ∨ k = 1 ∨ k = 2 := by omega
    · have h0 := hC.out.1.c0
      have h1 := hC.out.2.c0
      by_cases he : a0_0 = a1_0
      · have hb : (a0_0 != a1_0) = false := by simp [he]
        go_wp2
        go_region
        go_wp2
        go_roundw
        case rel => exact ⟨1, by omega, by go_num, ⟨hB.out.drew⟩, ⟨hC.out.1.drew, hC.out.2.drew⟩, ⟨fun _ => he⟩, ⟨fun h => absurd h (by omega)⟩⟩
        case measure => simp [intOf]
      · have hb : (a0_0 != a1_0) = true := by simp [he]
        go_wp2
        go_region
        go_wp2
        go_ret
        exact ⟨by simp [he], hB.out.drew⟩
    · have h0 := hC.out.1.c1
      have h1 := hC.out.2.c1
      have he0 : a0_0 = a1_0 := hE1.out (by omega)
      by_cases he : a0_1 = a1_1
      · have hb : (a0_1 != a1_1) = false := by simp [he]
        go_wp2
        go_region
        go_wp2
        go_roundw
        case rel => exact ⟨2, by omega, by go_num, ⟨hB.out.drew⟩, ⟨hC.out.1.drew, hC.out.2.drew⟩, ⟨fun _ => he0⟩, ⟨fun _ => he⟩⟩
        case measure => simp [intOf]
      · have hb : (a0_1 != a1_1) = true := by simp [he]
        go_wp2
        go_region
        go_wp2
        go_ret
        exact ⟨by simp [he], hB.out.drew⟩
    · go_wp2
      go_ret
      exact ⟨by simp [hE1.out (by omega), hE2.out (by omega)], hB.out⟩
def markAt (a : Int) (i : Nat) : Pr := ⟨a + 2 * i, a + 2 * i + 1⟩
def markL (n : Nat) (a : Int) : List Pr := (List.range n).map (markAt a)
def okPr (l : List Pr) (a : Int) (i : Nat) : Bool := (l.getD i z73).f0 == a + 2 * i && (l.getD i z73).f1 == a + 2 * i + 1
def heldPr (l : List Pr) (a : Int) : Int := if (List.range l.length).all (okPr l a) then a + 2 * l.length else -1
def laws_heldPairS.f (l0 : List S73) (a1 : Int) : Option Int := if 0 ≤ a1 ∧ a1 ≤ 1073741824 ∧ l0.length ≤ 1099511627776 then some (heldPr l0 a1) else none
theorem heldPr_no {l : List Pr} {a : Int} {i : Nat} (hi : i < l.length) (h : okPr l a i = false) : heldPr l a = -1 := by
  unfold heldPr
  rw [if_neg]
  intro hc
  rw [List.all_eq_true.1 hc i (List.mem_range.2 hi)] at h
  cases h
theorem heldPr_yes {l : List Pr} {a : Int} (h : ∀ i, i < l.length → okPr l a i = true) : heldPr l a = a + 2 * l.length := by
  unfold heldPr
  rw [if_pos (List.all_eq_true.2 (fun i hi => h i (List.mem_range.1 hi)))]
theorem pair_at {w : World} {A : Option Addr} {xs : List Pr} (h : Kd.C k73 w A xs.length xs) (i : Nat) (hi : i < xs.length) : ∃ ad, A = some ad ∧
    w.cell? (ad.add (i * 2)) = some (.int .i64 (xs.getD i z73).f0) ∧ w.cell? ⟨(ad.add (i * 2)).block, (ad.add (i * 2)).off + 1, none⟩ = some (.int .i64 (xs.getD i z73).f1) :=
  at_T73 h (i : Int) (by omega) (by omega)
set_option maxRecDepth 100000 in
theorem laws_heldPairS.calls (A0 : Option Addr) (c0 : Nat) (l0 : List S73) (a1 : Int) (r1 : Int) (w : World) (hr0 : Kd.C k73 w A0 l0.length l0) (hc0 : l0.length ≤ c0) (h : laws_heldPairS.f l0 a1 = some r1) :
    Calls Try.prog 29 #[.slice A0 l0.length c0, .int .i64 a1] w fun e w' => e = .returned (.int .i64 r1) ∧ Below w.heap.size w w' := by
  unfold laws_heldPairS.f at h
  by_cases hb : 0 ≤ a1 ∧ a1 ≤ 1073741824 ∧ l0.length ≤ 1099511627776
  case neg => rw [if_neg hb] at h; cases h
  rw [if_pos hb] at h
  obtain ⟨b0, b1, b2⟩ := hb
  obtain rfl := Option.some.inj h
  clear h
  have HR := Aside0.mk hr0
  clear hr0
  go_enter Try.func29, Try.ntmps29
  go_wp2
  go_loopw [1, 5] (fun c i wr => ∃ k : Nat, k ≤ l0.length ∧ c = .int .i64 (a1 + 2 * k) ∧ i = .int .i64 k ∧ wr = w ∧ Aside0 (∀ j, j < k → okPr l0 a1 j = true)) (fun _ i _ => l0.length - (intOf i).toNat)
  case atStart => exact ⟨0, by omega, by simp, rfl, rfl, ⟨fun j hj => absurd hj (by omega)⟩⟩
  case round =>
    obtain ⟨k, hk, rfl, rfl, rfl, hA⟩ := hrel
    by_cases hlt : k < l0.length
    · obtain ⟨ad, rfl, h0, h1⟩ := pair_at HR.out k hlt
      have H0 := Aside0.mk h0
      have H1 := Aside0.mk h1
      clear h0 h1
      obtain ⟨x, hx⟩ : ∃ x, (l0.getD k z73).f0 = x := ⟨_, rfl⟩
      obtain ⟨y, hy⟩ : ∃ y, (l0.getD k z73).f1 = y := ⟨_, rfl⟩
      rw [hx] at H0
      rw [hy] at H1
      have HX := Aside0.mk hx
      have HY := Aside0.mk hy
      clear hx hy
      go_wp2
      go_loopw [1, 6] (fun c j wq => ∃ m : Nat, m ≤ 2 ∧ c = .int .i64 (a1 + 2 * k + m) ∧ j = .int .i64 m ∧ wq = wr ∧ Aside0 (1 ≤ m → x = a1 + 2 * k) ∧ Aside0 (2 ≤ m → y = a1 + 2 * k + 1)) (fun _ j _ => 2 - (intOf j).toNat)
      case atStart => exact ⟨0, by omega, by simp, rfl, rfl, ⟨fun h => absurd h (by omega)⟩, ⟨fun h => absurd h (by omega)⟩⟩
      case round =>
        obtain ⟨m, hm, rfl, rfl, rfl, hE1, hE2⟩ := hrel
        obtain rfl | rfl | rfl : m = 0 ∨ m = 1 ∨ m = 2 := by omega
        · have h0 := H0.out
          by_cases he : x = a1 + 2 * k
          · have hb : (x != a1 + 2 * k + (0 : Nat)) = false := by simp [he]
            go_wp2
            go_roundw
            case rel => exact ⟨1, by omega, by go_num, rfl, trivial, ⟨fun _ => he⟩, ⟨fun h => absurd h (by omega)⟩⟩
            case measure => simp [intOf]
          · have hb : (x != a1 + 2 * k + (0 : Nat)) = true := by simp [he]
            go_wp2
            go_ret
            exact ⟨by rw [heldPr_no hlt (by rw [okPr, HX.out]; simp [he])]; rfl, Below.refl _ _⟩
        · have h1 := H1.out
          have h0 := H0.out
          by_cases he : y = a1 + 2 * k + 1
          · have hb : (y != a1 + 2 * k + (1 : Nat)) = false := by simp [he]
            go_wp2
            go_roundw
            case rel => exact ⟨2, by omega, by go_num, rfl, trivial, ⟨fun _ => hE1.out (by omega)⟩, ⟨fun _ => he⟩⟩
            case measure => simp [intOf]
          · have hb : (y != a1 + 2 * k + (1 : Nat)) = true := by simp [he]
            go_wp2
            go_ret
            exact ⟨by rw [heldPr_no hlt (by rw [okPr, HX.out, HY.out]; simp [he])]; rfl, Below.refl _ _⟩
        · go_wp2
          go_roundw
          case measure => simp [intOf]; omega
          case rel =>
            refine ⟨k + 1, by omega, by go_num, by go_num, trivial, ⟨fun j hj => ?_⟩⟩
            rcases Nat.lt_or_ge j k with h | h
            · exact hA.out j h
            · obtain rfl : j = k := by omega
              rw [okPr, HX.out, HY.out, hE1.out (by omega), hE2.out (by omega)]
              simp
    · obtain rfl : k = l0.length := by omega
      go_wp2
      go_ret
      exact ⟨by rw [heldPr_yes hA.out]; rfl, Below.refl _ _⟩
section
variable {w : World} {base g cap n : Nat} {ok : Nat → Prop} {xs : List Pr}
theorem pr_form {v : Value} (h : Kd.R k73 73 w base ok v xs) (hp : 0 < xs.length) : ∃ g cap, v = .slice (some ⟨g, 0, none⟩) xs.length cap ∧ base ≤ g ∧ ok g := by
  obtain ⟨g, cap, e, hb, _⟩ := Kd.R_form h hp
  exact ⟨g, cap, e, hb, h.1 g (by rw [e]; rfl)⟩
theorem pr_cells (h : Kd.R k73 73 w base ok (.slice (some ⟨g, 0, none⟩) n cap) xs) {k : Nat} (hk : k < n) :
    w.cell? ⟨g, k * 2, none⟩ = some (.int .i64 (xs.getD k z73).f0) ∧ w.cell? ⟨g, k * 2 + 1, none⟩ = some (.int .i64 (xs.getD k z73).f1) ∧ w.frozen? ⟨g, k * 2, none⟩ = false ∧ w.frozen? ⟨g, k * 2 + 1, none⟩ = false := by
  obtain ⟨c, hcl, hM, hcc, hf⟩ := Kd.R_elem h z73 (k : Int) (by omega) (by omega)
  obtain rfl := k73_openM hM
  exact ⟨hcc 0 _ rfl, hcc 1 _ rfl, hf 0, hf 1⟩
theorem pr_set0 (h : Kd.R k73 73 w base ok (.slice (some ⟨g, 0, none⟩) n cap) xs) {k : Nat} (hk : k < n) (v : Int) :
    Kd.R k73 73 (w.setCell ⟨g, k * 2, none⟩ (.int .i64 v)) base ok (.slice (some ⟨g, 0, none⟩) n cap) (xs.set k ⟨v, (xs.getD k z73).f1⟩) ∧ w.grownBy (w.setCell ⟨g, k * 2, none⟩ (.int .i64 v)) (some g) := by
  obtain ⟨c, hcl, hM, hcc, hf⟩ := Kd.R_elem h z73 (k : Int) (by omega) (by omega)
  obtain rfl := k73_openM hM
  exact Kd.R_seg (j := 0) (seg := [.int .i64 v]) h (k : Int) (by omega) (by omega) hcl hcc (by simp; decide) (okp := fun _ => False) (x' := ⟨v, (xs.getD k z73).f1⟩) (k73_mkM _ _ _ _) (fun _ hk => hk.elim)
theorem pr_set1 (h : Kd.R k73 73 w base ok (.slice (some ⟨g, 0, none⟩) n cap) xs) {k : Nat} (hk : k < n) (v : Int) :
    Kd.R k73 73 (w.setCell ⟨g, k * 2 + 1, none⟩ (.int .i64 v)) base ok (.slice (some ⟨g, 0, none⟩) n cap) (xs.set k ⟨(xs.getD k z73).f0, v⟩) ∧ w.grownBy (w.setCell ⟨g, k * 2 + 1, none⟩ (.int .i64 v)) (some g) := by
  obtain ⟨c, hcl, hM, hcc, hf⟩ := Kd.R_elem h z73 (k : Int) (by omega) (by omega)
  obtain rfl := k73_openM hM
  exact Kd.R_seg (j := 1) (seg := [.int .i64 v]) h (k : Int) (by omega) (by omega) hcl hcc (by simp; decide) (okp := fun _ => False) (x' := ⟨(xs.getD k z73).f0, v⟩) (k73_mkM _ _ _ _) (fun _ hk => hk.elim)
end
def updL (l : List Pr) (a : Int) : Nat → List Pr
  | 0 => l
  | k + 1 => (updL l a k).set k (markAt a k)
theorem updL_len (l : List Pr) (a : Int) (k : Nat) : (updL l a k).length = l.length := by
  induction k with
  | zero => rfl
  | succ k ih => rw [updL, List.length_set, ih]
theorem updL_get (l : List Pr) (a : Int) (k j : Nat) (hj : j < k) (hl : j < l.length) : (updL l a k)[j]? = some (markAt a j) := by
  induction k with
  | zero => omega
  | succ k ih =>
    rw [updL, List.getElem?_set]
    by_cases h : k = j
    · subst h
      rw [if_pos rfl, if_pos (by rw [updL_len]; exact hl)]
    · rw [if_neg h]
      exact ih (by omega)
theorem updL_all (l : List Pr) (a : Int) : updL l a l.length = markL l.length a := by
  apply List.ext_getElem?
  intro j
  by_cases hj : j < l.length
  · rw [updL_get _ _ _ _ hj hj, markL, List.getElem?_map, List.getElem?_range hj]
    rfl
  · rw [List.getElem?_eq_none (by rw [updL_len]; omega), List.getElem?_eq_none (by simp [markL]; omega)]
def updM (l : List Pr) (a : Int) (k : Nat) : Nat → List Pr
  | 0 => updL l a k
  | 1 => (updL l a k).set k ⟨a + 2 * k, ((updL l a k).getD k z73).f1⟩
  | _ => updL l a (k + 1)
def laws_markPairS.f (l0 : List S73) (a1 : Int) : Option (Int × List S73) := if 0 ≤ a1 ∧ a1 ≤ 1073741824 ∧ l0.length ≤ 1099511627776 then some (a1 + 2 * l0.length, markL l0.length a1) else none
set_option maxRecDepth 100000 in
theorem laws_markPairS.calls (P0_ : Nat → Prop) (u9000_ : Value) (l0 : List S73) (a1 : Int) (r1 : Int) (r2 : List S73) (w0 w : World) (hB : Below w0.heap.size w0 w) (ho0 : Kd.R k73 73 w w0.heap.size P0_ u9000_ l0) (h : laws_markPairS.f l0 a1 = some (r1, r2)) :
    Calls Try.prog 28 #[u9000_, .int .i64 a1] w fun e w' => e = .returned (.int .i64 r1) ∧ Kd.R k73 73 w' w0.heap.size (fun k_ => (P0_ k_ ∨ w.heap.size ≤ k_)) u9000_ r2 ∧ Below w0.heap.size w0 w' ∧ Kept w w' (fun k_ => P0_ k_) := by
  unfold laws_markPairS.f at h
  by_cases hb : 0 ≤ a1 ∧ a1 ≤ 1073741824 ∧ l0.length ≤ 1099511627776
  case neg => rw [if_neg hb] at h; cases h
  rw [if_pos hb] at h
  obtain ⟨b0, b1, b2⟩ := hb
  obtain ⟨rfl, rfl⟩ := Prod.mk.inj (Option.some.inj h)
  clear h
  have HR := Aside0.mk ho0
  have HB := Aside0.mk hB
  clear ho0 hB
  obtain ⟨A, cc, rfl⟩ := Kd.R_slice HR.out
  go_enter Try.func28, Try.ntmps28
  go_wp2
  go_loopw [1, 5] (fun c i wr => ∃ k : Nat, k ≤ l0.length ∧ c = .int .i64 (a1 + 2 * k) ∧ i = .int .i64 k ∧ Aside0 (Kd.R k73 73 wr w0.heap.size P0_ (.slice A l0.length cc) (updL l0 a1 k)) ∧ Aside0 (Below w0.heap.size w0 wr) ∧ Aside0 (Kept w wr P0_)) (fun _ i _ => l0.length - (intOf i).toNat)
  case atStart => exact ⟨0, by omega, by simp, rfl, HR, HB, ⟨Kept.refl _ _⟩⟩
  case round =>
    obtain ⟨k, hk, rfl, rfl, HO, HBw, HK⟩ := hrel
    by_cases hlt : k < l0.length
    · obtain ⟨g, cap, hv, hbg, hokg⟩ := pr_form HO.out (by rw [updL_len]; omega)
      obtain ⟨rfl, _, rfl⟩ : A = some ⟨g, 0, none⟩ ∧ _ ∧ cc = cap := by injection hv with e1 e2 e3; exact ⟨e1, e2, e3⟩
      clear hv
      go_wp2
      go_loopw [1, 6] (fun c j wq => ∃ m : Nat, m ≤ 2 ∧ c = .int .i64 (a1 + 2 * k + m) ∧ j = .int .i64 m ∧ Aside0 (Kd.R k73 73 wq w0.heap.size P0_ (.slice (some ⟨g, 0, none⟩) l0.length cc) (updM l0 a1 k m)) ∧ Aside0 (Below w0.heap.size w0 wq) ∧ Aside0 (Kept w wq P0_)) (fun _ j _ => 2 - (intOf j).toNat)
      case atStart => exact ⟨0, by omega, by simp, rfl, HO, HBw, HK⟩
      case round =>
        clear HO HBw HK
        obtain ⟨m, hm, rfl, rfl, HO, HBw, HK⟩ := hrel
        obtain rfl | rfl | rfl : m = 0 ∨ m = 1 ∨ m = 2 := by omega
        · obtain ⟨hc0, hc1, hf0, hf1⟩ := pr_cells HO.out hlt
          obtain ⟨hO2, hg2⟩ := pr_set0 HO.out hlt (a1 + 2 * k)
          have HO2 := Aside0.mk hO2
          have HG2 := Aside0.mk hg2
          clear hO2 hg2
          go_wp2
          go_roundw
          case measure => simp [intOf]
          case rel => exact ⟨1, by omega, by go_num, rfl, HO2, ⟨below_set HBw.out hbg⟩, ⟨Kept.of_grown HG2.out HK.out (fun k_ e_ => .inl (by injection e_ with e_; rw [← e_]; exact hokg))⟩⟩
        · obtain ⟨hc0, hc1, hf0, hf1⟩ := pr_cells HO.out hlt
          obtain ⟨hO2, hg2⟩ := pr_set1 HO.out hlt (a1 + 2 * k + (1 : Nat))
          have HO2 := Aside0.mk hO2
          have HG2 := Aside0.mk hg2
          clear hO2 hg2
          go_wp2
          go_roundw
          case measure => simp [intOf]
          case rel =>
            refine ⟨2, by omega, by go_num, rfl, ⟨?_⟩, ⟨below_set HBw.out hbg⟩, ⟨Kept.of_grown HG2.out HK.out (fun k_ e_ => .inl (by injection e_ with e_; rw [← e_]; exact hokg))⟩⟩
            have h := HO2.out
            have e : (updM l0 a1 k 1).set k ⟨((updM l0 a1 k 1).getD k z73).f0, a1 + 2 * k + (1 : Nat)⟩ = updM l0 a1 k 2 := by
              have hl : k < (updL l0 a1 k).length := by rw [updL_len]; exact hlt
              simp [updM, updL, markAt, hl, List.getD_eq_getElem?_getD]
            rw [e] at h
            exact h
        · go_wp2
          go_roundw
          case measure => simp [intOf]; omega
          case rel => exact ⟨k + 1, by omega, by go_num, by go_num, HO, HBw, HK⟩
    · obtain rfl : k = l0.length := by omega
      go_wp2
      go_ret
      refine ⟨rfl, Kd.R_mono ?_ (fun _ hk => .inl hk), HBw.out, HK.out⟩
      rw [← updL_all]
      exact HO.out
section
variable {w w1 : World} {b : Nat} {x y : Int} {t : TypeId}
end
end Go.Proofs.Ytomdfjohnmikdaa.Ext
namespace Go.Proofs.Ytomdfjohnmikdaa.Ext
end Go.Proofs.Ytomdfjohnmikdaa.Ext
namespace Go.Proofs.Ytomdfjohnmikdaa.QS
open Kp Ext Go.RowKit YtomdfjohnmikdaaW.PrintWords YtomdfjohnmikdaaW.PrintLast YtomdfjohnmikdaaW.PrintMore
attribute [local go_sem] max2_int min2_int max_two min_two max_three min_three max_four min_four   -- for this text's walks alone
def errW : Option Int → Value
  | none => .nilIface
  | some c => .iface 0 (.int .i64 c)
theorem errW_none : errW none = .nilIface := rfl
theorem errW_some (c : Int) : errW (some c) = .iface 0 (.int .i64 c) := rfl
theorem info2 : (Try.prog.info? 2).map (fun i => (i.zero, i.size, i.bytes)) = some (some (.int .i64 0), 1, 8) := by kernel_rfl
theorem info4 : (Try.prog.info? 4).map (fun i => (i.zero, i.size, i.bytes)) = some (some (.bool false), 1, 1) := by kernel_rfl
theorem info73 : (Try.prog.info? 73).map (fun i => (i.zero, i.size, i.bytes)) = some (some (.agg #[(.int .i64 0), (.int .i64 0)]), 2, 16) := by kernel_rfl
end Go.Proofs.Ytomdfjohnmikdaa.QS
namespace Go.Proofs.Ytomdfjohnmikdaa.Im
open Go.RowKit Go.MapKept YtomdfjohnmikdaaW.PrintWords YtomdfjohnmikdaaW.PrintLast YtomdfjohnmikdaaW.PrintMore
def entV (p : Int × Bool) : Value × Value := (.int .i64 p.1, .bool p.2)
def MapB (w : World) (b : Nat) (M : List (Int × Bool)) : Prop := ∃ es clock, w.heap[b]? = some (.map es clock) ∧ es.toList.map (fun e => (e.key, e.val)) = M.map entV
def getM : List (Int × Bool) → Int → Bool
  | [], _ => false
  | p :: M, k => if k = p.1 then p.2 else getM M k
def putM : List (Int × Bool) → Int → Bool → List (Int × Bool)
  | [], k, v => [(k, v)]
  | p :: M, k, v => if k = p.1 then (k, v) :: M else p :: putM M k v
theorem getM_put (M : List (Int × Bool)) (k x : Int) (v : Bool) : getM (putM M k v) x = if x = k then v else getM M x := by
  induction M with
  | nil => simp [putM, getM]
  | cons p M ih =>
    unfold putM
    by_cases h : k = p.1
    · rw [if_pos h]
      simp only [getM]
      by_cases hx : x = k
      · rw [if_pos hx, if_pos hx]
      · rw [if_neg hx, if_neg hx, if_neg (by rw [← h]; exact hx)]
    · rw [if_neg h]
      simp only [getM, ih]
      by_cases hx : x = p.1
      · rw [if_pos hx, if_neg (by rw [hx]; exact fun e => h e.symm)]
        rw [if_pos hx]
      · rw [if_neg hx, if_neg hx]
theorem MapB.lt {w : World} {b : Nat} {M : List (Int × Bool)} (h : MapB w b M) : b < w.heap.size := by
  obtain ⟨es, c, hb, _⟩ := h
  exact (Array.getElem?_eq_some_iff.1 hb).1
theorem MapB.below {w w1 : World} {b : Nat} {M : List (Int × Bool)} (h : MapB w b M) (hb : Below w.heap.size w w1) : MapB w1 b M := by
  have hl := h.lt
  obtain ⟨es, c, h1, h2⟩ := h
  exact ⟨es, c, (hb.block b hl).trans h1, h2⟩
theorem MapB.drew {w : World} {b : Nat} {M : List (Int × Bool)} (h : MapB w b M) : MapB w.drew b M := h
theorem MapB.alloc {w : World} {b : Nat} {M : List (Int × Bool)} (h : MapB w b M) (o : Obj) : MapB (w.alloc o) b M := h.below (below_alloc (Below.refl _ _) o)
theorem MapB.made (w : World) : MapB (w.alloc (.map #[] 0)) w.heap.size [] := ⟨#[], 0, (heap_alloc w _).1, rfl⟩
theorem MapB.ne {w : World} {b g : Nat} {M : List (Int × Bool)} (h : MapB w b M) {cs : Array Value} {t : TypeId} {fr : Nat × Nat} (hg : w.heap[g]? = some (.cells cs t fr)) : b ≠ g := by
  rintro rfl
  obtain ⟨es, c, h1, _⟩ := h
  rw [hg] at h1
  cases h1
theorem findNow_entV (k : Int) : ∀ (es : List MapEntry) (M : List (Int × Bool)) (i : Nat), es.map (fun e => (e.key, e.val)) = M.map entV →
    (getM M k = false ∧ (∀ v, putM M k v = M ++ [(k, v)]) ∧ Instr.findNow (.int .i64) (.int .i64 k) es i = some none) ∨
    (∃ j e, es[j]? = some e ∧ e.key = .int .i64 k ∧ e.val = .bool (getM M k) ∧ (∀ v, (putM M k v).map entV = (M.map entV).set j (.int .i64 k, .bool v)) ∧ Instr.findNow (.int .i64) (.int .i64 k) es i = some (some (i + j, .bool (getM M k))))
  | [], [], i, _ => .inl ⟨rfl, fun _ => rfl, rfl⟩
  | [], _ :: _, _, h => by simp at h
  | _ :: _, [], _, h => by simp at h
  | e :: es, p :: M, i, h => by
    simp only [List.map_cons, List.cons.injEq] at h
    obtain ⟨h1, h2⟩ := h
    have hk : e.key = .int .i64 p.1 := congrArg Prod.fst h1
    have hv : e.val = .bool p.2 := congrArg Prod.snd h1
    by_cases hp : k = p.1
    · refine .inr ⟨0, e, rfl, by rw [hk, hp], by simp [getM, hp, hv], fun v => by simp [putM, hp, entV], ?_⟩
      simp [Instr.findNow, Instr.sameNow, hk, hp, hv, getM]
    · have hf : Instr.sameNow (.int .i64) (.int .i64 k) e.key = some false := by simp [Instr.sameNow, hk, hp]
      rcases findNow_entV k es M (i + 1) h2 with ⟨a1, a2, a3⟩ | ⟨j, e', a1, a2, a3, a4, a5⟩
      · refine .inl ⟨by simp [getM, hp, a1], fun v => by simp [putM, hp, a2], ?_⟩
        simp [Instr.findNow, hf, a3]
      · refine .inr ⟨j + 1, e', by simpa using a1, a2, by simp [getM, hp, a3], fun v => by simp [putM, hp, a4], ?_⟩
        simp only [Instr.findNow, hf, a5, getM, if_neg hp]
        congr 3
        omega
section
variable {P : Program} {w : World} {t k e : TypeId} {b : Nat} {M : List (Int × Bool)}
theorem MapB.look (h : MapB w b M) (ht : P.underlying t = some (.map k e)) (hk : P.underlying k = some (.int .i64)) (hz : (zeroValue e).run P w = .ok (.bool false) w) (x : Int) :
    (Instr.lookup t (.map (some b)) (.int .i64 x) false).run P w = .ok (.bool (getM M x)) w := by
  obtain ⟨es, c, h1, h2⟩ := h
  have hc : ∀ em, (Instr.checkKey em 10000 k (.int .i64 x)).run P w = .ok () w := fun em => run_checkKey hk (by simp [IsKey]) em 9999
  rcases findNow_entV x es.toList M 0 h2 with ⟨a1, _, a3⟩ | ⟨j, e', _, _, _, _, a5⟩
  · have hf := run_findKey (w := w) hk a3
    simp [Instr.lookup, run_underlying ht, Go.MapKept.run_getObj_map h1, hc, hf, hz, Result.andThen, a1]
  · have hf := run_findKey (w := w) hk a5
    simp [Instr.lookup, run_underlying ht, Go.MapKept.run_getObj_map h1, hc, hf, Result.andThen]
theorem MapB.put (h : MapB w b M) (ht : P.underlying t = some (.map k e)) (hk : P.underlying k = some (.int .i64)) (x : Int) (v : Bool) :
    ∃ w', (Instr.mapUpdate t (.map (some b)) (.int .i64 x) (.bool v)).run P w = .ok () w' ∧ MapB w' b (putM M x v) ∧ w.grownBy w' (some b) ∧ w'.heap.size = w.heap.size := by
  obtain ⟨es, c, h1, h2⟩ := h
  have hc : (Instr.checkKey false 10000 k (.int .i64 x)).run P w = .ok () w := run_checkKey hk (by simp [IsKey]) false 9999
  have hg : ∀ o, w.grownBy { w with heap := w.heap.setIfInBounds b o } (some b) := fun o => ⟨rfl, rfl, rfl, by simp, fun i _ hi => (heap_set h1).2 i (fun q => hi (by rw [q]))⟩
  rcases findNow_entV x es.toList M 0 h2 with ⟨a1, a2, a3⟩ | ⟨j, e', a1, a2, a3, a4, a5⟩
  · have hf := run_findKey (w := w) hk a3
    refine ⟨{ w with heap := w.heap.setIfInBounds b (.map (es.push { key := .int .i64 x, val := .bool v, born := c }) (c + 1)) }, ?_, ⟨_, _, (heap_set h1).1, ?_⟩, hg _, by simp⟩
    · simp [Instr.mapUpdate, run_underlying ht, Go.MapKept.run_getObj_map h1, hc, hf, Go.MapKept.run_setObj_map _ h1, Result.andThen]
    · simp [a2, h2, entV]
  · have hf := run_findKey (w := w) hk a5
    have hj : es[j]? = some e' := by simpa using a1
    refine ⟨{ w with heap := w.heap.setIfInBounds b (.map (es.modify j fun q => { q with key := .int .i64 x, val := .bool v }) c) }, ?_, ⟨_, _, (heap_set h1).1, ?_⟩, hg _, by simp⟩
    · simp [Instr.mapUpdate, run_underlying ht, Go.MapKept.run_getObj_map h1, hc, hf, Instr.keyThatStays, Instr.sameBits, hj, a2, Go.MapKept.run_setObj_map _ h1, Result.andThen]
    · rw [a4, ← h2]
      apply List.ext_getElem?
      intro m
      simp only [Array.toList_modify, List.getElem?_map, List.getElem?_modify, List.getElem?_set, List.length_map]
      by_cases hm : j = m
      · subst hm
        have : j < es.toList.length := (List.getElem?_eq_some_iff.1 a1).1
        rw [a1]
        simpa using this
      · cases hq : es.toList[m]? <;> simp [hm]
end
def trueM (K : List Int) : List (Int × Bool) := K.map fun x => (x, true)
def MS (w : World) (b : Nat) (K : List Int) : Prop := ∃ es clock, w.heap[b]? = some (.map es clock) ∧ es.toList.map (fun e => (e.key, e.val)) = (trueM K).map entV ∧ ∀ e ∈ es.toList, e.born < clock
theorem MS.mapB {w : World} {b : Nat} {K : List Int} (h : MS w b K) : MapB w b (trueM K) := by
  obtain ⟨es, c, h1, h2, _⟩ := h
  exact ⟨es, c, h1, h2⟩
theorem get_true (K : List Int) (x : Int) : getM (trueM K) x = decide (x ∈ K) := by
  induction K with
  | nil => rfl
  | cons y K ih =>
    show (if x = y then true else getM (trueM K) x) = _
    rw [ih]
    by_cases h : x = y
    · rw [if_pos h, eq_comm, decide_eq_true_eq]; rw [h]; exact List.mem_cons_self ..
    · rw [if_neg h]
      simp [h]
theorem MS.lt {w : World} {b : Nat} {K : List Int} (h : MS w b K) : b < w.heap.size := h.mapB.lt
theorem MS.below {w w1 : World} {b : Nat} {K : List Int} (h : MS w b K) (hb : Below w.heap.size w w1) : MS w1 b K := by
  have hl := h.lt
  obtain ⟨es, c, h1, h2⟩ := h
  exact ⟨es, c, (hb.block b hl).trans h1, h2⟩
theorem MS.made (w : World) : MS (w.alloc (.map #[] 0)) w.heap.size [] := ⟨#[], 0, (heap_alloc w _).1, rfl, fun e he => by simp at he⟩
theorem MS.far {w : World} {b : Nat} {K : List Int} (h : MS w b K) {p : Addr} (hp : b ≠ p.block) (u : Value) : MS (w.setCell p u) b K := by
  obtain ⟨es, c, h1, h2⟩ := h
  exact ⟨es, c, (Below.heap_setCell w p u b hp).trans h1, h2⟩
theorem MS.ne {w : World} {b g : Nat} {K : List Int} (h : MS w b K) {cs : Array Value} {t : TypeId} {fr : Nat × Nat} (hg : w.heap[g]? = some (.cells cs t fr)) : b ≠ g := h.mapB.ne hg
theorem MS.grown {w w1 : World} {b : Nat} {K : List Int} (h : MS w b K) {r : Option Nat} (hg : w.grownBy w1 r) (hne : some b ≠ r) : MS w1 b K := by
  have hl := h.lt
  obtain ⟨es, c, h1, h2⟩ := h
  exact ⟨es, c, (hg.block b hl hne).trans h1, h2⟩
theorem MS.look {P : Program} {t k e : TypeId} {w : World} {b : Nat} {K : List Int} (h : MS w b K) (ht : P.underlying t = some (.map k e)) (hk : P.underlying k = some (.int .i64)) (hz : (zeroValue e).run P w = .ok (.bool false) w) (x : Int) : (Instr.lookup t (.map (some b)) (.int .i64 x) false).run P w = .ok (.bool (decide (x ∈ K))) w := by
  rw [← get_true]
  exact h.mapB.look ht hk hz x
theorem find_none (x : Int) : ∀ (es : List MapEntry) (K : List Int) (i : Nat), es.map (fun e => (e.key, e.val)) = (trueM K).map entV → x ∉ K → Instr.findNow (.int .i64) (.int .i64 x) es i = some none := fun es K i h hx => by
  rcases findNow_entV x es (trueM K) i h with ⟨_, _, h3⟩ | ⟨j, e, h1, h2, h3, h4, h5⟩
  · exact h3
  · rw [get_true, decide_eq_false hx] at h3
    have hm : (x, false) ∈ trueM K ∨ True := .inr trivial
    exfalso
    have h6 : (es.map fun e => (e.key, e.val))[j]? = some (.int .i64 x, .bool false) := by rw [List.getElem?_map, h1]; simp [h2, h3]
    rw [h, List.getElem?_map] at h6
    unfold trueM at h6
    rw [List.getElem?_map] at h6
    cases hK : K[j]? with
    | none => rw [hK] at h6; simp at h6
    | some y => rw [hK] at h6; simp [entV] at h6
theorem find_some (x : Int) : ∀ (es : List MapEntry) (K0 K1 : List Int) (i : Nat), es.map (fun e => (e.key, e.val)) = (trueM (K0 ++ x :: K1)).map entV → x ∉ K0 → Instr.findNow (.int .i64) (.int .i64 x) es i = some (some (i + K0.length, .bool true))
  | [], [], _, _, h, _ => by simp [trueM] at h
  | e :: es, [], K1, i, h, _ => by
    simp only [trueM, List.nil_append, List.map_cons, List.cons.injEq] at h
    have hk : e.key = .int .i64 x := congrArg Prod.fst h.1
    have hv : e.val = .bool true := congrArg Prod.snd h.1
    simp [Instr.findNow, Instr.sameNow, hk, hv]
  | [], _ :: _, _, _, h, _ => by simp [trueM] at h
  | e :: es, y :: K0, K1, i, h, hx => by
    simp only [trueM, List.cons_append, List.map_cons, List.cons.injEq] at h
    have hk : e.key = .int .i64 y := congrArg Prod.fst h.1
    have hxy : x ≠ y := fun he => hx (he ▸ List.mem_cons_self ..)
    have hf : Instr.sameNow (.int .i64) (.int .i64 x) e.key = some false := by simp [Instr.sameNow, hk, hxy]
    have ih := find_some x es K0 K1 (i + 1) h.2 (fun hm => hx (List.mem_cons_of_mem _ hm))
    simp only [Instr.findNow, hf, ih, List.length_cons]
    congr 3
    omega
theorem erase_map {α β : Type} (f : α → β) : ∀ (l : List α) (k : Nat), (l.map f).eraseIdx k = (l.eraseIdx k).map f
  | [], _ => rfl
  | _ :: _, 0 => rfl
  | a :: l, k + 1 => by simp [erase_map f l k]
section
variable {P : Program} {t k e : TypeId} {w : World} {b : Nat} {K K0 K1 : List Int} {x : Int}
theorem MS.entry (h : MS w b K) (hx : x ∉ K) (ht : P.underlying t = some (.map k e)) (hk : P.underlying k = some (.int .i64)) (hz : (zeroValue e).run P w = .ok (.bool false) w) :
    ∃ (c : Nat) (w1 w2 : World), (Instr.mapEntry t (.map (some b)) (.int .i64 x)).run P w = .ok (.tuple #[.bool false, .int .i64 c]) w1 ∧ (Instr.entryStore t (.map (some b)) (.int .i64 c) (.bool true)).run P w1 = .ok () w2 ∧ w.grownBy w1 (some b) ∧ w1.heap.size = w.heap.size ∧ w.grownBy w2 (some b) ∧ w2.heap.size = w.heap.size ∧ MS w2 b (K ++ [x]) := by
  obtain ⟨es, c, h1, h2, h3⟩ := h
  have hc : (Instr.checkKey false 10000 k (.int .i64 x)).run P w = .ok () w := run_checkKey hk (by simp [IsKey]) false 9999
  have hg : ∀ o, w.grownBy { w with heap := w.heap.setIfInBounds b o } (some b) := fun o => ⟨rfl, rfl, rfl, by simp, fun i _ hi => (heap_set h1).2 i (fun q => hi (by rw [q]))⟩
  have hf := run_findKey (w := w) hk (find_none x es.toList K 0 h2 hx)
  obtain ⟨ent, hent⟩ : ∃ ent : MapEntry, ent = { key := .int .i64 x, val := .bool false, born := c } := ⟨_, rfl⟩
  have h4 : ({ w with heap := w.heap.setIfInBounds b (.map (es.push ent) (c + 1)) } : World).heap[b]? = some (.map (es.push ent) (c + 1)) := (heap_set h1).1
  have hidx : (es.push ent).findIdx? (fun e => (e.born : Int) == (c : Int)) = some es.size := by
    rw [Array.findIdx?_push]
    have hn : es.findIdx? (fun e => (e.born : Int) == (c : Int)) = none := by
      rw [Array.findIdx?_eq_none_iff]
      intro e he
      have := h3 e (by simpa using he)
      simp
      omega
    rw [hn, hent]
    simp
  have hlist : ((es.push ent).modify es.size fun e => { e with val := .bool true }).toList = es.toList ++ [{ key := .int .i64 x, val := .bool true, born := c }] := by
    rw [Array.toList_modify, Array.toList_push]
    apply List.ext_getElem?
    intro m
    rw [List.getElem?_modify]
    rcases Nat.lt_trichotomy m es.size with hm | hm | hm
    · rw [List.getElem?_append_left (by simpa using hm), List.getElem?_append_left (by simpa using hm)]
      simp [show ¬ es.size = m by omega]
    · subst hm
      simp [hent]
    · rw [List.getElem?_eq_none (by simp; omega), List.getElem?_eq_none (by simp; omega)]
      rfl
  refine ⟨c, { w with heap := w.heap.setIfInBounds b (.map (es.push ent) (c + 1)) }, { w with heap := w.heap.setIfInBounds b (.map ((es.push ent).modify es.size fun e => { e with val := .bool true }) (c + 1)) }, ?_, ?_, hg _, by simp, hg _, by simp, ⟨_, _, (heap_set h1).1, ?_, ?_⟩⟩
  · rw [hent]
    simp [Instr.mapEntry, run_underlying ht, Go.MapKept.run_getObj_map h1, hc, hf, hz, Go.MapKept.run_setObj_map _ h1, Result.andThen, goInt]
  · have hs := Go.MapKept.run_setObj_map (P := P) (Obj.map ((es.push ent).modify es.size fun e => { e with val := .bool true }) (c + 1)) h4
    simp only [Instr.entryStore, Sem.run_bind, Go.MapKept.run_getObj_map h4, Result.andThen]
    simp [asInt, asIntOf, hidx, hs, Result.andThen]
  · rw [hlist, List.map_append, h2]
    simp [trueM, entV]
  · intro e he
    rw [hlist] at he
    rcases List.mem_append.1 he with he | he
    · have := h3 e he; omega
    · rw [List.mem_singleton.1 he]; simp
theorem MS.del (h : MS w b (K0 ++ x :: K1)) (hx : x ∉ K0) (ht : P.underlying t = some (.map k e)) (hk : P.underlying k = some (.int .i64)) (ty : TypeId) :
    ∃ w1 : World, (Builtin.delete_ #[t, k] ty #[.map (some b), .int .i64 x]).run P w = .ok (.tuple #[]) w1 ∧ w.grownBy w1 (some b) ∧ w1.heap.size = w.heap.size ∧ MS w1 b (K0 ++ K1) := by
  obtain ⟨es, c, h1, h2, h3⟩ := h
  have hg : ∀ o, w.grownBy { w with heap := w.heap.setIfInBounds b o } (some b) := fun o => ⟨rfl, rfl, rfl, by simp, fun i _ hi => (heap_set h1).2 i (fun q => hi (by rw [q]))⟩
  have hf := run_findKey (w := w) hk (find_some x es.toList K0 K1 0 h2 hx)
  have hc : ∀ em, (Instr.checkKey em 10000 k (.int .i64 x)).run P w = .ok () w := fun em => run_checkKey hk (by simp [IsKey]) em 9999
  refine ⟨{ w with heap := w.heap.setIfInBounds b (.map (es.eraseIdxIfInBounds K0.length) c) }, ?_, hg _, by simp, ⟨_, _, (heap_set h1).1, ?_, ?_⟩⟩
  · simp [Builtin.delete_, run_underlying ht, Go.MapKept.run_getObj_map h1, hc, hf, Go.MapKept.run_setObj_map _ h1, Result.andThen]
  · have hl : (es.eraseIdxIfInBounds K0.length).toList = es.toList.eraseIdx K0.length := by
      unfold Array.eraseIdxIfInBounds
      split
      · simp
      · rw [List.eraseIdx_of_length_le (by simpa using by omega)]
    rw [hl, ← erase_map, h2]
    unfold trueM
    rw [List.map_append, List.map_append, List.eraseIdx_append_of_length_le (by simp)]
    simp
  · intro e he
    have hl : e ∈ es.toList := by
      unfold Array.eraseIdxIfInBounds at he
      split at he
      · simp at he
        exact List.mem_of_mem_eraseIdx he
      · exact he
    exact h3 e hl
end
end Go.Proofs.Ytomdfjohnmikdaa.Im
namespace Go.Proofs.Ytomdfjohnmikdaa.Im
open Go.RowKit Go.Shelf YtomdfjohnmikdaaW.PrintWords YtomdfjohnmikdaaW.PrintLast YtomdfjohnmikdaaW.PrintMore
theorem areAll1_f (b : Nat) (fv : Value) (dom : Int → Prop) (p : Int → Bool) (w : World) (hb : Boxed w b 66 fv) (hf : FnB Try.prog fv dom p w) :
    FnB Try.prog (.func (.func 108) #[] #[.pointer (some ⟨b, 0, none⟩)]) dom (fun x => !p x) w := by
  refine ⟨_, _, _, rfl, enters_of Try.func108 (by kernel_rfl) rfl, fun W x hW hx => ?_⟩
  obtain ⟨g, fs, lb, rfl, eg, hcall⟩ := hf
  have hc := hcall W x hW hx
  have HC := Aside0.mk hc
  have hcell : W.cell? ⟨b, 0, none⟩ = some (.func (.func g) fs lb) := (hW.cell (p := ⟨b, 0, none⟩) hb.lt).trans hb.cell
  clear hc hcall hW hx hb
  show Calls Try.prog 108 #[.int .i64 x, .pointer (some ⟨b, 0, none⟩)] W fun e w' => e = .returned (.bool (!p x)) ∧ Below W.heap.size W w'
  generalize p x = r at HC ⊢
  go_enter Try.func108, Try.ntmps108
  go_wp2_with (go_at_fn g; refine HC.out.mono ?_; rintro e w' ⟨rfl, hb⟩)
  go_ret
  exact ⟨rfl, hb⟩
theorem all_not_any (p : Int → Bool) (xs : List Int) : xs.all p = !(xs.any fun x => !p x) := by
  induction xs with
  | nil => rfl
  | cons x xs ih => simp only [List.all_cons, List.any_cons, ih, Bool.not_or, Bool.not_not]
theorem areAll_c (A : Option Addr) (n c : Nat) (xs : List Int) (fv : Value) (dom : Int → Prop) (p : Int → Bool) (w : World) (hr : RC w A n xs) (hf : FnB Try.prog fv dom p w) (hd : ∀ x ∈ xs, dom x) :
    Calls Try.prog 57 #[.slice A n c, fv] w fun e w' => e = .returned (.bool (xs.all p)) ∧ Below w.heap.size w w' := by
  have hb1 : Below w.heap.size w (w.alloc (.cells #[fv] 66)) := (Below.refl _ w).alloc (Nat.le_refl _) _
  have hc := containsFunc_c A n c xs _ dom (fun x => !p x) (w.alloc (.cells #[fv] 66)) (Kd.C_below hr hb1) (areAll1_f w.heap.size fv dom p _ (Boxed.new w _ fv) (hf.later hb1)) hd
  have he := all_not_any p xs
  rw [he]
  have HC := Aside0.mk hc
  have HB := Aside0.mk hb1
  clear hc hr hd he hb1
  obtain ⟨g, fs, lb, rfl, eg, hcall⟩ := hf
  clear hcall eg
  generalize (xs.any fun x => !p x) = r at HC ⊢
  go_enter Try.func57, Try.ntmps57
  go_wp2_with (go_at_call 90; refine HC.out.mono ?_; rintro e w' ⟨rfl, hb⟩)
  go_ret
  exact ⟨rfl, below_in HB.out hb⟩
abbrev Asc (xs : List Int) : Prop := xs.Pairwise (· < ·)
theorem Asc.lt {xs : List Int} (h : Asc xs) {i j : Nat} (hij : i < j) (hj : j < xs.length) : xs[i]?.getD 0 < xs[j]?.getD 0 := by
  rw [List.getElem?_eq_getElem (show i < xs.length by omega), List.getElem?_eq_getElem hj]
  exact List.pairwise_iff_getElem.1 h i j (by omega) hj hij
theorem mem_of_at {xs : List Int} {i : Nat} {x : Int} (hi : i < xs.length) (h : xs[i]?.getD 0 = x) : x ∈ xs := by
  rw [List.getElem?_eq_getElem hi] at h
  have h' : xs[i] = x := h
  rw [← h']
  exact List.getElem_mem hi
theorem not_mem_of {xs : List Int} {i : Nat} {x : Int} (_ : Asc xs) (h1 : ∀ k, k < i → xs[k]?.getD 0 < x) (h2 : ∀ k, i ≤ k → k < xs.length → x < xs[k]?.getD 0) : ¬ x ∈ xs := by
  intro hm
  obtain ⟨j, hj, rfl⟩ := List.mem_iff_getElem.1 hm
  rcases Nat.lt_or_ge j i with h | h
  · have := h1 j h; rw [List.getElem?_eq_getElem hj] at this; simp at this
  · have := h2 j h hj; rw [List.getElem?_eq_getElem hj] at this; simp at this
def BSPost (xs : List Int) (x : Int) (w : World) (e : Ending) (w' : World) : Prop := ∃ i : Int, e = .returned (.tuple #[.int .i64 i, .bool (decide (x ∈ xs))]) ∧ w = w'
set_option maxRecDepth 100000 in
set_option maxHeartbeats 1000000 in
theorem bsearch_c (A : Option Addr) (n c : Nat) (xs : List Int) (x : Int) (w : World) (hr : RC w A n xs) (hn : n ≤ 4611686018427387904) (ha : Asc xs) :
    Calls Try.prog 158 #[.slice A n c, .int .i64 x] w (BSPost xs x w) := by
  have hl := hr.len
  have HR := Aside0.mk hr
  have HL := Aside0.mk hl.1
  have HA := Aside0.mk ha
  clear hr hl ha
  go_enter Try.func158, Try.ntmps158
  go_wp2
  go_loop [7, 8] (fun s7 s8 => ∃ i j : Nat, i ≤ j ∧ j ≤ n ∧ s7 = .int .i64 i ∧ s8 = .int .i64 j ∧ Aside0 ((∀ k, k < i → xs[k]?.getD 0 < x) ∧ (∀ k, j ≤ k → k < n → x ≤ xs[k]?.getD 0))) (fun s7 s8 => (intOf s8 - intOf s7).toNat)
  case atStart => exact ⟨0, n, by omega, by omega, rfl, rfl, ⟨fun k hk => absurd hk (Nat.not_lt_zero _), fun k h1 h2 => by omega⟩⟩
  case round =>
    obtain ⟨i, j, hij, hjn, rfl, rfl, hI⟩ := hrel
    by_cases hlt : i < j
    · have hltz : (i : Int) < (j : Int) := by omega
      obtain ⟨h, hh⟩ : ∃ h : Nat, (i + j) / 2 = h := ⟨_, rfl⟩
      have hhn : h < n := by omega
      have hd : ((i : Int) + (j : Int)) / 2 = (h : Int) := by omega
      obtain ⟨ad, rfl, hcell⟩ := HR.out.at_ (Below.refl _ _) hhn
      obtain ⟨y, hy⟩ : ∃ y, xs[h]?.getD 0 = y := ⟨_, rfl⟩
      rw [hy] at hcell
      have HY := Aside0.mk hy
      have HH := Aside0.mk hh
      clear hy hh
      go_wp2_with (go_at_call 187; refine (less_c _ _ _).mono ?_; rintro e w' ⟨rfl, rfl⟩)
      · go_roundw
        case measure => simp [intOf]; omega
        case rel =>
          refine ⟨h + 1, j, by have := HH.out; omega, hjn, by go_num, rfl, ⟨fun k hk => ?_, hI.out.2⟩⟩
          have hyx : y < x := by assumption
          rcases Nat.lt_or_ge k h with h1 | h1
          · have := HA.out.lt h1 (by rw [HL.out]; exact hhn); rw [HY.out] at this; omega
          · obtain rfl : k = h := by omega
            rw [HY.out]; exact hyx
      · go_roundw
        case measure => have := HH.out; simp [intOf]; omega
        case rel =>
          refine ⟨i, h, by have := HH.out; omega, by omega, rfl, rfl, ⟨hI.out.1, fun k h1 h2 => ?_⟩⟩
          have hyx : x ≤ y := by assumption
          rcases Nat.lt_or_ge h k with h3 | h3
          · have := HA.out.lt h3 (by rw [HL.out]; exact h2); rw [HY.out] at this; omega
          · obtain rfl : k = h := by omega
            rw [HY.out]; exact hyx
    · obtain rfl : i = j := by omega
      have hltz : ¬ (i : Int) < (i : Int) := by omega
      by_cases hin : i < n
      · obtain ⟨ad, rfl, hcell⟩ := HR.out.at_ (Below.refl _ _) hin
        obtain ⟨y, hy⟩ : ∃ y, xs[i]?.getD 0 = y := ⟨_, rfl⟩
        rw [hy] at hcell
        have HY := Aside0.mk hy
        clear hy
        have hinz : (i : Int) < (n : Int) := by omega
        by_cases hxy : y = x
        · have hyx : (y == x) = true := by simpa using hxy
          go_wp2
          go_ret2
          refine ⟨(i : Int), ?_, rfl⟩
          rw [decide_eq_true (mem_of_at (by rw [HL.out]; exact hin) (HY.out.trans hxy))]; rfl
        · have hyx : (y == x) = false := by simpa using hxy
          go_wp2
          go_ret2
          refine ⟨(i : Int), ?_, rfl⟩
          rw [decide_eq_false (not_mem_of (i := i) HA.out (fun k hk => hI.out.1 k hk) (fun k h1 h2 => ?_))]; rfl
          have h3 := hI.out.2 i (by omega) hin
          rw [HY.out] at h3
          rcases Nat.lt_or_ge i k with h4 | h4
          · have := HA.out.lt h4 h2; rw [HY.out] at this; omega
          · obtain rfl : k = i := by omega
            rw [HY.out]; omega
      · have hinz : ¬ (i : Int) < (n : Int) := by omega
        go_wp2
        go_ret2
        refine ⟨(i : Int), ?_, rfl⟩
        rw [decide_eq_false (not_mem_of (i := i) HA.out (fun k hk => hI.out.1 k hk) (fun k h1 h2 => by rw [HL.out] at h2; omega))]; rfl
theorem has_c (m : Int) (A : Option Addr) (n c : Nat) (xs : List Int) (x : Int) (w : World) (hr : RC w A n xs) (hn : n ≤ 4611686018427387904) (ha : Asc xs) :
    Calls Try.prog 156 #[.agg #[.int .i64 m, .slice A n c], .int .i64 x] w fun e w' => e = .returned (.bool (decide (x ∈ xs))) ∧ Below w.heap.size w w' := by
  have hb1 : Below w.heap.size w (w.alloc (.cells #[.int .i64 m, .slice A n c] 28)) := (Below.refl _ w).alloc (Nat.le_refl _) _
  have hc := bsearch_c A n c xs x _ (Kd.C_below hr hb1) hn ha
  have HC := Aside0.mk hc
  have HB := Aside0.mk hb1
  clear hc hr ha hn hb1
  unfold BSPost at HC
  generalize decide (x ∈ xs) = r at HC ⊢
  go_enter Try.func156, Try.ntmps156
  go_wp2_with (go_at_call 158; refine HC.out.mono ?_; rintro e w' ⟨i, rfl, rfl⟩)
  go_ret
  exact ⟨rfl, HB.out⟩
def codeOf (isC rng : Bool) : Int := if isC then if rng then 0 else 2 else 1
def CxAt (w : World) (b : Nat) (n : Int) (A : Option Addr) (len c : Nat) : Prop := w.heap[b]? = some (.cells #[.int .i64 n, .slice A len c] 28 (0, 0))
theorem CxAt.lt {w : World} {b : Nat} {n : Int} {A : Option Addr} {len c : Nat} (h : CxAt w b n A len c) : b < w.heap.size := (Array.getElem?_eq_some_iff.1 h).1
theorem CxAt.below {w w1 : World} {b : Nat} {n : Int} {A : Option Addr} {len c : Nat} (h : CxAt w b n A len c) (hb : Below w.heap.size w w1) : CxAt w1 b n A len c := (hb.block b h.lt).trans h
theorem CxAt.c0 {w : World} {b : Nat} {n : Int} {A : Option Addr} {len c : Nat} (h : CxAt w b n A len c) : w.cell? ⟨b, 0, none⟩ = some (.int .i64 n) := (cell_of_row w b 0 _ _ _ h).trans rfl
theorem CxAt.c1 {w : World} {b : Nat} {n : Int} {A : Option Addr} {len c : Nat} (h : CxAt w b n A len c) : w.cell? ⟨b, 1, none⟩ = some (.slice A len c) := (cell_of_row w b 1 _ _ _ h).trans rfl
theorem CxAt.keep {w w1 : World} {b : Nat} {n : Int} {A : Option Addr} {len c : Nat} (h : CxAt w b n A len c) (hb : Below w.heap.size w w1) : w1.cell? ⟨b, 0, none⟩ = some (.int .i64 n) ∧ w1.cell? ⟨b, 1, none⟩ = some (.slice A len c) := ⟨(h.below hb).c0, (h.below hb).c1⟩
theorem undrew {w w1 : World} (h : Below w.drew.heap.size w.drew w1) : Below w.heap.size w w1 := ⟨h.os, h.tape, h.output, h.size, h.block⟩
theorem CxAt.new (w : World) (n : Int) (A : Option Addr) (len c : Nat) : CxAt (w.alloc (.cells #[.int .i64 n, .slice A len c] 28)) w.heap.size n A len c := heap_alloc_new w _
theorem has_f (m : Int) (A : Option Addr) (n c : Nat) (xs : List Int) (w : World) (hr : RC w A n xs) (hn : n ≤ 4611686018427387904) (ha : Asc xs) :
    FnB Try.prog (.func (.func 156) #[.agg #[.int .i64 m, .slice A n c]] #[]) (fun _ => True) (fun x => decide (x ∈ xs)) w :=
  ⟨_, _, _, rfl, enters_of Try.func156 (by kernel_rfl) rfl, fun W x hW _ => has_c m A n c xs x W (Kd.C_below hr hW) hn ha⟩
set_option maxRecDepth 100000 in
set_option maxHeartbeats 1000000 in
theorem isComplex1_f (b : Nat) (m : Int) (A : Option Addr) (n c : Nat) (xs : List Int) (w : World) (hb : CxAt w b m A n c) (hr : RC w A n xs) (hn : n ≤ 4611686018427387904) (ha : Asc xs) :
    FnB Try.prog (.func (.func 154) #[] #[.pointer (some ⟨b, 0, none⟩)]) (fun _ => True) (fun x => (bordersL x).all fun y => decide (y ∈ xs)) w := by
  refine ⟨_, _, _, rfl, enters_of Try.func154 (by kernel_rfl) rfl, fun W x hW _ => ?_⟩
  have hr' := Kd.C_below hr hW
  have hb' := hb.below hW
  clear hb hr hW
  show Calls Try.prog 154 #[.int .i64 x, .pointer (some ⟨b, 0, none⟩)] W fun e w' => e = .returned (.bool ((bordersL x).all fun y => decide (y ∈ xs))) ∧ Below W.heap.size W w'
  have HR := Aside0.mk hr'
  have HA := Aside0.mk ha
  have HBK := Aside0.mk hb'
  have h0 := hb'.c0
  have h1 := hb'.c1
  go_enter Try.func154, Try.ntmps154
  go_wp2
  go_region_held3 (fun w' : World => w'.cell? ⟨b, 0, none⟩ = some (.int .i64 m) ∧ w'.cell? ⟨b, 1, none⟩ = some (.slice A n c)) (first | exact ⟨h0, h1⟩ | exact HBK.out.keep (by assumption)) (first | (go_at_call 155; refine (borders_c _ _).mono ?_; rintro e w1 ⟨v, rfl, hv, hbv⟩; have hb1 := undrew hbv; obtain ⟨Av, cv, rfl⟩ := Kd.R_slice hv) | (go_at_call 57; refine (areAll_c _ _ _ _ _ _ _ _ (Kd.R_reads' hv).2.2 (has_f m A n c xs _ (Kd.C_below HR.out hb1) hn HA.out) (fun _ _ => trivial)).mono ?_; rintro e w2 ⟨rfl, hb2⟩; have hb3 := below_in hb1 hb2))
  all_goals
    go_wp2
    go_ret
    exact ⟨rfl, hb3⟩
def okAt (n : Int) (xs : List Int) (i : Nat) : Bool := withinB (xs[i]?.getD 0) 1 (fullZ n) && (i == 0 || decide (xs[i - 1]?.getD 0 < xs[i]?.getD 0))
def ascB (n : Int) (xs : List Int) : Bool := (List.range xs.length).all (okAt n xs)
theorem ascB_asc {n : Int} {xs : List Int} (h : ascB n xs = true) : Asc xs := by
  have ha : ∀ i, i < xs.length → okAt n xs i = true := by simpa [ascB] using h
  have step : ∀ i, i + 1 < xs.length → xs[i]?.getD 0 < xs[i + 1]?.getD 0 := by
    intro i hi
    have := ha (i + 1) hi
    simp only [okAt, Bool.and_eq_true, Bool.or_eq_true, decide_eq_true_eq] at this
    rcases this.2 with h | h
    · simp at h
    · simpa using h
  have all : ∀ d i, i + d + 1 < xs.length → xs[i]?.getD 0 < xs[i + d + 1]?.getD 0 := by
    intro d
    induction d with
    | zero => intro i hi; exact step i hi
    | succ d ih => intro i hi; exact Int.lt_trans (ih i (by omega)) (step (i + d + 1) hi)
  refine List.pairwise_iff_getElem.2 fun i j hi hj hij => ?_
  have := all (j - i - 1) i (by omega)
  rw [show i + (j - i - 1) + 1 = j by omega, List.getElem?_eq_getElem hi, List.getElem?_eq_getElem hj] at this
  exact this
theorem ascB_no {n : Int} {xs : List Int} {i : Nat} (hi : i < xs.length) (h : okAt n xs i = false) : ascB n xs = false := by
  rw [Bool.eq_false_iff]
  intro ht
  have ha : ∀ i, i < xs.length → okAt n xs i = true := by simpa [ascB] using ht
  rw [ha i hi] at h
  cases h
theorem ascB_yes {n : Int} {xs : List Int} (h : ∀ i, i < xs.length → okAt n xs i = true) : ascB n xs = true := by simpa [ascB] using h
theorem okAt_next {n : Int} {xs : List Int} {k : Nat} (h : ∀ j, j < k → okAt n xs j = true) (hk : okAt n xs k = true) : ∀ j, j < k + 1 → okAt n xs j = true := fun j hj => by
  rcases Nat.lt_or_ge j k with h1 | h1
  · exact h j h1
  · obtain rfl : j = k := by omega
    exact hk
def closedB (xs : List Int) : Bool := xs.all fun f => (bordersL f).all fun y => decide (y ∈ xs)
def isC (n : Int) (xs : List Int) : Bool := withinB n 1 6 && (ascB n xs && closedB xs)
set_option maxRecDepth 100000 in
set_option maxHeartbeats 2000000 in
theorem isComplex_c (m : Int) (A : Option Addr) (n c : Nat) (xs : List Int) (w : World) (hr : RC w A n xs) (hn : n ≤ 4611686018427387904) :
    Calls Try.prog 106 #[.agg #[.int .i64 m, .slice A n c]] w fun e w' => e = .returned (.bool (isC m xs)) ∧ Below w.heap.size w w' := by
  have hbk := CxAt.new w m A n c
  have hb1 : Below w.heap.size w (w.alloc (.cells #[.int .i64 m, .slice A n c] 28)) := (Below.refl _ w).alloc (Nat.le_refl _) _
  have HBK := Aside0.mk hbk
  have HB1 := Aside0.mk hb1
  have HR := Aside0.mk hr
  have HL := Aside0.mk hr.len.1
  clear hbk hb1 hr
  cases hs : withinB m 1 6 with
  | false =>
    have he : isC m xs = false := by simp [isC, hs]
    have hsz := isSize_c m
    rw [hs] at hsz
    have HS := Lib.hid hsz
    rw [he]
    clear hs he hsz
    go_enter Try.func106, Try.ntmps106
    go_wp2_with (go_at_call 152; refine (HS.out _).mono ?_; rintro e w' ⟨rfl, rfl⟩)
    go_ret
    exact ⟨rfl, HB1.out⟩
  | true =>
    have hsz := isSize_c m
    rw [hs] at hsz
    have HS := Lib.hid hsz
    have hm : 1 ≤ m ∧ m ≤ 6 := by simpa [withinB] using hs
    obtain ⟨hm1, hm6⟩ := hm
    have HE : Aside0 (isC m xs = (ascB m xs && closedB xs)) := ⟨by simp [isC, hs]⟩
    clear hs hsz
    go_enter Try.func106, Try.ntmps106
    go_wp2_with (go_at_call 152; refine (HS.out _).mono ?_; rintro e w' ⟨rfl, rfl⟩)
    go_loopw [3, 4, 12] (fun _ _ i wr => ∃ k : Nat, k ≤ n ∧ i = .int .i64 k ∧ Aside0 (Below w.heap.size w wr) ∧ Aside0 (CxAt wr w.heap.size m A n c) ∧ Aside0 (∀ j, j < k → okAt m xs j = true)) (fun _ _ i _ => n - (intOf i).toNat)
    case atStart => exact ⟨0, by omega, rfl, HB1, HBK, ⟨fun j hj => absurd hj (Nat.not_lt_zero _)⟩⟩
    case round =>
      obtain ⟨k, hk, rfl, hB, hK, hO⟩ := hrel
      by_cases hlt : k < n
      · have hltz : (k : Int) < (n : Int) := by omega
        obtain ⟨ad, rfl, hcell⟩ := HR.out.at_ hB.out hlt
        obtain ⟨y, hy⟩ : ∃ y, xs[k]?.getD 0 = y := ⟨_, rfl⟩
        rw [hy] at hcell
        have HY := Aside0.mk hy
        clear hy
        have k0 := hK.out.c0
        have k1 := hK.out.c1
        have hno : okAt m xs k = false → isC m xs = false := fun h => by rw [HE.out, ascB_no (by rw [HL.out]; exact hlt) h]; rfl
        have HNO := Lib.hid hno
        clear hno
        rcases Nat.eq_zero_or_pos k with hk0 | hk0
        · have hkn : ¬ 0 < k := by omega
          have HK0 := Lib.hid hk0
          clear hk0
          go_wp2_with (first
            | (go_at_call 153; refine (full_c _ _ _ hm1 hm6).mono ?_; rintro e w2 ⟨rfl, hb2⟩; have HB2 := Aside0.mk hb2; have l0 := (hK.out.keep hb2).1; have l1 := (hK.out.keep hb2).2; clear hb2)
            | (go_at_call 59; refine (within_c _ _ _ _).mono ?_; rintro e w3 ⟨rfl, rfl⟩))
          · go_roundw
            case measure => simp [intOf]; omega
            case rel =>
              have hw : withinB y 1 (fullZ m) = true := by assumption
              exact ⟨k + 1, by omega, by go_num, ⟨below_in hB.out HB2.out⟩, ⟨hK.out.below HB2.out⟩, ⟨okAt_next hO.out (by rw [okAt, HY.out, hw, HK0.out]; rfl)⟩⟩
          · have hw : ¬ withinB y 1 (fullZ m) = true := by assumption
            go_ret
            refine ⟨?_, below_in hB.out HB2.out⟩
            rw [HNO.out (by rw [okAt, HY.out, Bool.eq_false_iff.2 hw]; rfl)]; rfl
        · obtain ⟨ad', e', hprev⟩ := HR.out.at_ hB.out (show k - 1 < n by omega)
          cases e'
          obtain ⟨z, hz⟩ : ∃ z, xs[k - 1]?.getD 0 = z := ⟨_, rfl⟩
          rw [hz] at hprev
          have HZ := Aside0.mk hz
          clear hz
          have HK0 : Aside0 ((k == 0) = false) := ⟨by simp; omega⟩
          go_wp2_with (first
            | (go_at_call 153; refine (full_c _ _ _ hm1 hm6).mono ?_; rintro e w2 ⟨rfl, hb2⟩; have HB2 := Aside0.mk hb2; have l0 := (hK.out.keep hb2).1; have l1 := (hK.out.keep hb2).2; have l2 := pw_cell_below hb2 hprev; clear hb2)
            | (go_at_call 59; refine (within_c _ _ _ _).mono ?_; rintro e w3 ⟨rfl, rfl⟩))
          · have hyz : y ≤ z := by assumption
            go_ret
            refine ⟨?_, below_in hB.out HB2.out⟩
            rw [HNO.out (by rw [okAt, HY.out, HZ.out, HK0.out, decide_eq_false (by omega)]; simp)]; rfl
          · go_roundw
            case measure => simp [intOf]; omega
            case rel =>
              have hw : withinB y 1 (fullZ m) = true := by assumption
              have hyz : z < y := by assumption
              exact ⟨k + 1, by omega, by go_num, ⟨below_in hB.out HB2.out⟩, ⟨hK.out.below HB2.out⟩, ⟨okAt_next hO.out (by rw [okAt, HY.out, HZ.out, hw, decide_eq_true hyz]; simp)⟩⟩
          · have hw : ¬ withinB y 1 (fullZ m) = true := by assumption
            go_ret
            refine ⟨?_, below_in hB.out HB2.out⟩
            rw [HNO.out (by rw [okAt, HY.out, Bool.eq_false_iff.2 hw]; rfl)]; rfl
      · obtain rfl : k = n := by omega
        have hltz : ¬ (k : Int) < (k : Int) := by omega
        have hasc : ascB m xs = true := ascB_yes (fun j hj => hO.out j (by rw [HL.out] at hj; exact hj))
        have HE2 : Aside0 (isC m xs = closedB xs) := ⟨by rw [HE.out, hasc]; rfl⟩
        have HAS := Aside0.mk (ascB_asc hasc)
        have k0 := hK.out.c0
        have k1 := hK.out.c1
        clear hasc
        have hc2 := areAll_c A k c xs _ _ _ wr (Kd.C_below HR.out hB.out) (isComplex1_f w.heap.size m A k c xs wr hK.out (Kd.C_below HR.out hB.out) hn HAS.out) (fun _ _ => trivial)
        have HC2 := Aside0.mk hc2
        clear hc2
        go_wp2_with (go_at_call 57; refine HC2.out.mono ?_; rintro e w2 ⟨rfl, hb2⟩)
        go_ret
        exact ⟨by rw [HE2.out]; rfl, below_in hB.out hb2⟩
set_option maxRecDepth 100000 in
theorem complexCode_c (m : Int) (A : Option Addr) (n c : Nat) (xs : List Int) (fv : Value) (b : Bool) (w : World) (hr : RC w A n xs) (hn : n ≤ 4611686018427387904) (hf : isC m xs = true → FnU Try.prog fv b w) :
    Calls Try.prog 53 #[.agg #[.int .i64 m, .slice A n c], fv] w fun e w' => e = .returned (.int .i64 (codeOf (isC m xs) b)) ∧ Below w.heap.size w w' := by
  have hb1 : Below w.heap.size w (w.alloc (.cells #[.int .i64 m, .slice A n c] 28)) := (Below.refl _ w).alloc (Nat.le_refl _) _
  have hc := isComplex_c m A n c xs _ (Kd.C_below hr hb1) hn
  have HB1 := Aside0.mk hb1
  clear hb1 hr hn
  cases hi : isC m xs with
  | false =>
    rw [hi] at hc
    have HC := Aside0.mk hc
    clear hc hf hi
    go_enter Try.func53, Try.ntmps53
    go_wp2_with (go_at_call 106; refine HC.out.mono ?_; rintro e w2 ⟨rfl, hb2⟩)
    go_ret
    exact ⟨by cases b <;> rfl, below_in HB1.out hb2⟩
  | true =>
    rw [hi] at hc
    have HC := Aside0.mk hc
    obtain ⟨g, fs, lb, rfl, eg, hcall⟩ := hf hi
    have HF := Aside0.mk hcall
    clear hc hf hi hcall
    cases b with
    | false =>
      go_enter Try.func53, Try.ntmps53
      go_wp2_with (first | (go_at_call 106; refine HC.out.mono ?_; rintro e w2 ⟨rfl, hb2⟩; have HB2 := Aside0.mk (below_in HB1.out hb2); clear hb2) | (go_at_fn g; refine (HF.out _ HB2.out).mono ?_; rintro e w3 ⟨rfl, hb3⟩; have HB3 := Aside0.mk (below_in HB2.out hb3); clear hb3))
      go_ret
      exact ⟨rfl, HB3.out⟩
    | true =>
      go_enter Try.func53, Try.ntmps53
      go_wp2_with (first | (go_at_call 106; refine HC.out.mono ?_; rintro e w2 ⟨rfl, hb2⟩; have HB2 := Aside0.mk (below_in HB1.out hb2); clear hb2) | (go_at_fn g; refine (HF.out _ HB2.out).mono ?_; rintro e w3 ⟨rfl, hb3⟩; have HB3 := Aside0.mk (below_in HB2.out hb3); clear hb3))
      go_ret
      exact ⟨rfl, HB3.out⟩
theorem always_f (w : World) : FnU Try.prog (.func (.func 127) #[] #[]) true w :=
  ⟨_, _, _, rfl, enters_of Try.func127 (by kernel_rfl) rfl, fun W _ => (always_c W).mono (by rintro e w' ⟨rfl, rfl⟩; exact ⟨rfl, Below.refl _ _⟩)⟩
def nums1 (k : Nat) : List Int := (List.range (k - 1)).map fun i => ((i + 1 : Nat) : Int)
theorem nums1_len (k : Nat) : (nums1 k).length = k - 1 := by simp [nums1]
theorem mem_nums1 {k : Nat} {x : Int} : x ∈ nums1 k ↔ 1 ≤ x ∧ x < k := by
  simp only [nums1, List.mem_map, List.mem_range]
  constructor
  · rintro ⟨a, ha, rfl⟩; omega
  · intro h; exact ⟨(x - 1).toNat, by omega, by omega⟩
def thoseL (n : Int) (p : Int → Bool) : List Int := (nums1 (2 ^ n.toNat)).filter p
def thoseUpto (p : Int → Bool) (k : Nat) : List Int := (nums1 k).filter p
theorem thoseUpto_len (p : Int → Bool) (k : Nat) : (thoseUpto p k).length ≤ k := by
  unfold thoseUpto
  have := List.length_filter_le p (nums1 k)
  rw [nums1_len] at this
  omega
theorem isC_of {n : Int} {xs : List Int} (h : isC n xs = true) : (1 ≤ n ∧ n ≤ 6) ∧ ascB n xs = true ∧ closedB xs = true := by
  simpa [isC, withinB, Bool.and_eq_true] using h
def SlOnly (base : Nat) (w : World) (r1 : List Int) (e : Ending) (w' : World) : Prop := ∃ v : Value, e = .returned v ∧ RO w' base v r1 ∧ Below base w w'
@[go_sem] theorem field_cx1 (a v : Value) (w : World) : (Instr.field 28 (.agg #[a, v]) 1).run Try.prog w = .ok v w := by simp [Instr.field, asAgg, go_sem]
@[go_sem] theorem field_cx0 (a v : Value) (w : World) : (Instr.field 28 (.agg #[a, v]) 0).run Try.prog w = .ok a w := by simp [Instr.field, asAgg, go_sem]
section
variable {P : Program} {ops : Array Oper} {rest : List Oper} {o : Oper} {a : Act} {Q : Exit → Act → World → Prop}
theorem ap64s {w0 W : World} (base : Nat) (hgd : o.guard = none) (s x : Operand) (t : TypeId)
    (ho : o.op = .call { callee := .builtin .append, args := #[s, x], argTypes := #[t, t] }) (ht : P.underlying t = some (.slice 2))
    (hinfo : (P.info? 2).map (fun i => (i.zero, i.size, i.bytes)) = some (some (.int .i64 0), 1, 8)) (v : Value) (xs ys : List Int) (A : Option Addr) (m c : Nat)
    (hs : a.eval s = v) (hx : a.eval x = .slice A m c) (HO : RO W base v xs) (HR : RC W A m ys) (HB : Below base w0 W) (hbase : base ≤ W.heap.size) (hl : xs.length + m ≤ 17592186044415)
    (h : ∀ v1 w1, RO w1 base v1 (xs ++ ys) → Below base w0 w1 → W.grownBy w1 v.ownBlock → (v1.ownBlock = v.ownBlock ∨ ∃ b, v1.ownBlock = some b ∧ W.heap.size ≤ b) → wpList P ops Q rest (a.put o.dst v1) w1) :
    wpList P ops Q (o :: rest) a W :=
  Kd.R_append_rows (Kd.int .i64) base hgd s x t 2 (.int .i64 0) 8 ho ht hinfo rfl (by decide) (by decide) v xs ys A m c (fun _ => True) (fun _ => False) hs hx HO HR (fun _ _ h => h) (fun _ h => h.elim) (fun _ _ => trivial) HB hbase (by omega) h
end
theorem RO.made (w : World) (base cap : Nat) (cur : Array Value) (hb : base ≤ w.heap.size) (hm : cap ≤ maxLen) (hs : cur.size = cap * 1) : RO (w.alloc (.cells cur 2)) base (.slice (some ⟨w.heap.size, 0, none⟩) 0 cap) [] :=
  RO.of_row (World.ownsRow_made w cur cap hb hm hs)
set_option maxRecDepth 100000 in
set_option maxHeartbeats 1000000 in
theorem clone_c (A : Option Addr) (n c : Nat) (xs : List Int) (w : World) (hr : RC w A n xs) (hn : n ≤ 1048576) :
    Calls Try.prog 122 #[.slice A n c] w (SlOnly w.heap.size w xs) := by
  have qnil : ∀ (w : World) (a : Option Addr) (n c n' c' : Nat), (binOp .eql 22 (.slice a n c) (.slice none n' c')).run Try.prog w = .ok (.bool a.isNone) w := fun w a n c n' c' => Lib.run_eql_slice_nil w _ _ a n c n' c' Try.underlying22
  cases A with
  | none =>
    have h0 : n = 0 := by
      rcases Nat.eq_zero_or_pos n with h | h
      · exact h
      · obtain ⟨ad, e, _⟩ := hr.2.2 h; cases e
    have hx : xs = [] := List.eq_nil_of_length_eq_zero (by rw [hr.1, h0])
    subst hx
    clear hr
    go_enter Try.func122, Try.ntmps122
    go_wp2
    go_ret
    exact ⟨_, rfl, Kd.R_nil _ _ _ _ _, Below.refl _ _⟩
  | some ad =>
    have hb1 : Below w.heap.size w (w.alloc (.cells #[] 2)) := (Below.refl _ w).alloc (Nat.le_refl _) _
    have HR := Aside0.mk (Kd.C_below hr hb1)
    have HB := Aside0.mk hb1
    have HO := Aside0.mk (RO.made w w.heap.size 0 #[] (Nat.le_refl _) (Nat.zero_le _) rfl)
    clear hr hb1
    go_enter Try.func122, Try.ntmps122
    go_wp2_with (at_builtin; refine ap64s w.heap.size rfl (.tmp 5) (.tmp 6) 22 rfl Try.underlying22 info64 _ _ _ _ _ _ rfl rfl HO.out HR.out HB.out HB.out.size (by simp; omega) ?_; intro v1 w1 ho hb hg hat; clear hat hg; have H1 := Aside0.mk ho; have HB1 := Aside0.mk hb; clear ho hb)
    go_ret
    exact ⟨_, rfl, H1.out, HB1.out⟩
theorem RO.cell {W : World} {base g n cap : Nat} {ys : List Int} (h : RO W base (.slice (some ⟨g, 0, none⟩) n cap) ys) {j : Nat} (hj : j < n) : W.cell? ⟨g, j, none⟩ = some (.int .i64 (ys[j]?.getD 0)) ∧ W.frozen? ⟨g, j, none⟩ = false := by
  have := Kd.R_celln (0 : Int) h (j : Int) (by omega) (by omega)
  simpa [rdOf] using this
theorem RO.put {W : World} {base g n cap : Nat} {ys : List Int} (h : RO W base (.slice (some ⟨g, 0, none⟩) n cap) ys) (j : Nat) (x : Int) : RO (W.setCell ⟨g, j, none⟩ (.int .i64 x)) base (.slice (some ⟨g, 0, none⟩) n cap) (ys.set j x) := by
  have := Kd.R_putn h (j : Int) x
  rw [Int.toNat_natCast] at this
  exact this
theorem RO.zeros {base g n cap : Nat} : ∀ (m k : Nat) (W : World) (ys : List Int), RO W base (.slice (some ⟨g, 0, none⟩) n cap) ys → ∃ zs, zs.take k = ys.take k ∧ RO (W.setCells g k (List.replicate m (.int .i64 0))) base (.slice (some ⟨g, 0, none⟩) n cap) zs
  | 0, k, W, ys, h => ⟨ys, rfl, h⟩
  | m + 1, k, W, ys, h => by
    obtain ⟨zs, hz, hR⟩ := RO.zeros m (k + 1) _ _ (h.put k 0)
    refine ⟨zs, ?_, hR⟩
    have := congrArg (List.take k) hz
    rw [List.take_take, List.take_take, show min k (k + 1) = k by omega] at this
    rw [this, List.take_set_of_le (Nat.le_refl k)]
theorem below_cells {base g : Nat} {w0 : World} (hg : base ≤ g) : ∀ (vs : List Value) (k : Nat) (W : World), Below base w0 W → Below base w0 (W.setCells g k vs)
  | [], _, W, h => h
  | v :: vs, k, W, h => below_cells hg vs (k + 1) _ (h.setCell (p := ⟨g, k, none⟩) hg v)
theorem filter_first {p : Int → Bool} {xs : List Int} {i : Nat} (hb : ∀ j, j < i → p (xs[j]?.getD 0) = false) (hi : i ≤ xs.length) : (xs.take i).filter (fun x => !p x) = xs.take i := by
  refine List.filter_eq_self.2 fun x hx => ?_
  obtain ⟨j, hj, rfl⟩ := List.mem_iff_getElem.1 hx
  rw [List.length_take] at hj
  have := hb j (by omega)
  rw [List.getElem?_eq_getElem (by omega)] at this
  simpa using this
theorem firstI_at {p : Int → Bool} {xs : List Int} (h : xs.any p = true) : ∃ i : Nat, firstI p xs = (i : Int) ∧ i < xs.length ∧ p (xs[i]?.getD 0) = true ∧ ∀ j, j < i → p (xs[j]?.getD 0) = false := by
  have hl : xs.findIdx p < xs.length := List.findIdx_lt_length_of_exists (List.any_eq_true.1 h)
  refine ⟨xs.findIdx p, by unfold firstI; rw [if_pos h], hl, ?_, fun j hj => ?_⟩
  · rw [List.getElem?_eq_getElem hl]
    exact List.findIdx_getElem (w := hl)
  · rw [List.getElem?_eq_getElem (by omega)]
    simpa using List.not_of_lt_findIdx hj
structure DI (q : Int → Bool) (xs ys : List Int) (k j : Nat) : Prop where
  lt : k < j
  le : j ≤ xs.length
  len : ys.length = xs.length
  done : ys.take k = (xs.take j).filter q
  rest : ∀ m, j ≤ m → ys[m]? = xs[m]?
theorem DI.start {p : Int → Bool} {xs : List Int} {i : Nat} (hi : i < xs.length) (hp : p (xs[i]?.getD 0) = true) (hb : (xs.take i).filter (fun x => !p x) = xs.take i) : DI (fun x => !p x) xs xs i (i + 1) :=
  ⟨by omega, hi, rfl, by
    rw [List.take_add_one, List.filter_append, hb, List.getElem?_eq_getElem hi]
    rw [List.getElem?_eq_getElem hi] at hp
    have hp' : p xs[i] = true := hp
    simp [hp'], fun _ _ => rfl⟩
theorem DI.skip {q : Int → Bool} {xs ys : List Int} {k j : Nat} (h : DI q xs ys k j) (hj : j < xs.length) (hq : q (xs[j]?.getD 0) = false) : DI q xs ys k (j + 1) :=
  ⟨by have := h.lt; omega, hj, h.len, by
    rw [List.take_add_one, List.filter_append, h.done, List.getElem?_eq_getElem hj]
    rw [List.getElem?_eq_getElem hj] at hq
    have hq' : q xs[j] = false := hq
    simp [hq'], fun m hm => h.rest m (by omega)⟩
theorem DI.keep {q : Int → Bool} {xs ys : List Int} {k j : Nat} (h : DI q xs ys k j) (hj : j < xs.length) (hq : q (xs[j]?.getD 0) = true) : DI q xs (ys.set k (xs[j]?.getD 0)) (k + 1) (j + 1) := by
  have hk := h.lt
  have hl := h.len
  refine ⟨by omega, hj, by rw [List.length_set, hl], ?_, fun m hm => ?_⟩
  · rw [List.take_add_one (l := xs), List.filter_append, ← h.done, List.getElem?_eq_getElem hj]
    rw [List.getElem?_eq_getElem hj] at hq
    have hq' : q xs[j] = true := hq
    rw [List.take_add_one, List.take_set_of_le (Nat.le_refl k), List.getElem?_set_self (by omega)]
    simp [hq']
  · rw [List.getElem?_set_ne (by omega)]
    exact h.rest m (by omega)
theorem DI.at_ {q : Int → Bool} {xs ys : List Int} {k j : Nat} (h : DI q xs ys k j) : ys[j]?.getD 0 = xs[j]?.getD 0 := by rw [h.rest j (Nat.le_refl _)]
theorem isC_small {n : Int} {xs : List Int} (h : isC n xs = true) : xs.length ≤ 63 := by
  obtain ⟨⟨h1, h6⟩, ha, _⟩ := isC_of h
  have hb : ∀ i, i < xs.length → 1 ≤ xs[i]?.getD 0 ∧ xs[i]?.getD 0 ≤ fullZ n := fun i hi => by
    have := List.all_eq_true.1 ha i (List.mem_range.2 hi)
    simp only [okAt, withinB, Bool.and_eq_true, decide_eq_true_eq] at this
    exact this.1
  have hF : fullZ n ≤ 63 := by
    obtain rfl | rfl | rfl | rfl | rfl | rfl : n = 1 ∨ n = 2 ∨ n = 3 ∨ n = 4 ∨ n = 5 ∨ n = 6 := by omega
    all_goals decide +kernel
  have hs : ∀ i, i < xs.length → ((i : Nat) : Int) + 1 ≤ xs[i]?.getD 0 := by
    intro i
    induction i with
    | zero => intro hi; have := hb 0 hi; omega
    | succ i ih =>
      intro hi
      have h2 := ih (by omega)
      have h3 := (ascB_asc ha).lt (show i < i + 1 by omega) hi
      omega
  rcases Nat.eq_zero_or_pos xs.length with h0 | h0
  · omega
  · have := hs (xs.length - 1) (by omega)
    have := hb (xs.length - 1) (by omega)
    omega
end Go.Proofs.Ytomdfjohnmikdaa.Im
namespace Go.Proofs.Ytomdfjohnmikdaa.Im
open Go.RowKit Kp YtomdfjohnmikdaaW.PrintWords YtomdfjohnmikdaaW.PrintLast YtomdfjohnmikdaaW.PrintMore
def FnP (P : Program) (fv : Value) (dom : Pr → Prop) (p : Pr → Bool) (w : World) : Prop :=
  ∃ g fs lb, fv = .func (.func g) fs lb ∧ (∀ args w, (callFunc g args).run P w = .ok (.enter g args) w) ∧
    ∀ W (x : Pr), Below w.heap.size w W → dom x → Calls P g (fs ++ #[.agg #[.int .i64 x.f0, .int .i64 x.f1]] ++ lb) W fun e w' => e = .returned (.bool (p x)) ∧ Below W.heap.size W w'
theorem FnP.later {P : Program} {fv : Value} {dom : Pr → Prop} {p : Pr → Bool} {w w1 : World} (h : FnP P fv dom p w) (hb : Below w.heap.size w w1) : FnP P fv dom p w1 := by
  obtain ⟨g, fs, lb, he, hg, hc⟩ := h
  exact ⟨g, fs, lb, he, hg, fun W x hW hx => hc W x (hb.trans (hW.mono hb.size)) hx⟩
end Go.Proofs.Ytomdfjohnmikdaa.Im
namespace Go.Proofs.Ytomdfjohnmikdaa.Ext
open Go.RowKit Im Kp YtomdfjohnmikdaaW.PrintWords YtomdfjohnmikdaaW.PrintLast YtomdfjohnmikdaaW.PrintMore
structure Pred where
  sort : Nat
  u : Bool
  full : Bool
  pI : Int → Bool
  pP : Pr → Bool
def Pred.nul (u : Bool) : Pred := ⟨0, u, true, fun _ => true, fun _ => true⟩
def Pred.int (p : Int → Bool) : Pred := ⟨1, true, true, p, fun _ => true⟩
def Pred.face (p : Int → Bool) : Pred := ⟨1, true, false, p, fun _ => true⟩
def Pred.bad : Pred := ⟨9, true, true, fun _ => true, fun _ => true⟩
def Pred.dom (a : Pred) (x : Int) : Prop := a.full = true ∨ (0 ≤ x ∧ x ≤ 63)
def Pred.facePr (p : Pr → Bool) : Pred := ⟨2, true, false, fun _ => true, p⟩
def Pred.domP (a : Pred) (x : Pr) : Prop := a.full = true ∨ ((0 ≤ x.f0 ∧ x.f0 ≤ 63) ∧ (0 ≤ x.f1 ∧ x.f1 ≤ 63))
def okDom (a : Pred) (l : List Int) : Bool := a.full || l.all fun x => decide (0 ≤ x) && decide (x ≤ 63)
def okDomP (a : Pred) (l : List Pr) : Bool := a.full || l.all fun x => (decide (0 ≤ x.f0) && decide (x.f0 ≤ 63)) && (decide (0 ≤ x.f1) && decide (x.f1 ≤ 63))
theorem okDom_mem {a : Pred} {l : List Int} (h : okDom a l = true) : ∀ x ∈ l, a.dom x := by
  intro x hx
  rcases Bool.or_eq_true _ _ ▸ h with h | h
  · exact .inl h
  · have := List.all_eq_true.1 h x hx
    simp only [Bool.and_eq_true, decide_eq_true_eq] at this
    exact .inr this
theorem okDomP_mem {a : Pred} {l : List Pr} (h : okDomP a l = true) : ∀ x ∈ l, a.domP x := by
  intro x hx
  rcases Bool.or_eq_true _ _ ▸ h with h | h
  · exact .inl h
  · have := List.all_eq_true.1 h x hx
    simp only [Bool.and_eq_true, decide_eq_true_eq] at this
    exact .inr this
def FnOk (F : Value) (a : Pred) (w : World) : Prop :=
  (a.sort = 0 → FnU Try.prog F a.u w) ∧ (a.sort = 1 → FnB Try.prog F a.dom a.pI w) ∧ (a.sort = 2 → FnP Try.prog F a.domP a.pP w)
theorem FnOk.nul {F : Value} {u : Bool} {w : World} (h : FnU Try.prog F u w) : FnOk F (Pred.nul u) w := ⟨fun _ => h, fun e => (by cases e), fun e => (by cases e)⟩
theorem FnOk.face {F : Value} {p : Int → Bool} {w : World} (h : FnB Try.prog F (fun x => 0 ≤ x ∧ x ≤ 63) p w) : FnOk F (Pred.face p) w := ⟨fun e => (by cases e), fun _ => (by
    obtain ⟨g, fs, lb, he, hg, hc⟩ := h
    exact ⟨g, fs, lb, he, hg, fun W x hW hx => hc W x hW (hx.resolve_left (fun h_ => by cases h_))⟩), fun e => (by cases e)⟩
theorem FnOk.bad (F : Value) (w : World) : FnOk F Pred.bad w := ⟨fun e => (by cases e), fun e => (by cases e), fun e => (by cases e)⟩
theorem FnOk.facePr {F : Value} {p : Pr → Bool} {w : World} (h : FnP Try.prog F (fun x => (0 ≤ x.f0 ∧ x.f0 ≤ 63) ∧ (0 ≤ x.f1 ∧ x.f1 ≤ 63)) p w) : FnOk F (Pred.facePr p) w := ⟨fun e => (by cases e), fun e => (by cases e), fun _ => (by
    obtain ⟨g, fs, lb, he, hg, hc⟩ := h
    exact ⟨g, fs, lb, he, hg, fun W x hW hx => hc W x hW (hx.resolve_left (fun h_ => by cases h_))⟩)⟩
def Pred.ofI (f : Int → Option Bool) : Pred := if ((List.range 64).all fun x => (f (x : Int)).isSome) = true then Pred.face (fun x => (f x).getD false) else Pred.bad
def Pred.ofP (f : Int → Int → Option Bool) : Pred := if ((List.range 64).all fun x => (List.range 64).all fun y => (f (x : Int) (y : Int)).isSome) = true then Pred.facePr (fun q => (f q.f0 q.f1).getD false) else Pred.bad
theorem ofI_face {f : Int → Option Bool} {p : Int → Bool} (h : ∀ x, 0 ≤ x → x ≤ 63 → f x = some (p x)) : (Pred.ofI f).sort = 1 ∧ (Pred.ofI f).u = true ∧ ∀ x, 0 ≤ x → x ≤ 63 → (Pred.ofI f).pI x = p x := by
  have hc : ((List.range 64).all fun x => (f (x : Int)).isSome) = true := List.all_eq_true.2 fun m hm => by
    have := List.mem_range.1 hm
    rw [h m (by omega) (by omega)]; rfl
  unfold Pred.ofI
  rw [if_pos hc]
  exact ⟨rfl, rfl, fun x h0 h6 => by simp only [Pred.face]; rw [h x h0 h6]; rfl⟩
theorem ofP_face {f : Int → Int → Option Bool} {p : Pr → Bool} (h : ∀ x y, 0 ≤ x → x ≤ 63 → 0 ≤ y → y ≤ 63 → f x y = some (p ⟨x, y⟩)) : (Pred.ofP f).sort = 2 ∧ ∀ q : Pr, 0 ≤ q.f0 → q.f0 ≤ 63 → 0 ≤ q.f1 → q.f1 ≤ 63 → (Pred.ofP f).pP q = p q := by
  have hc : ((List.range 64).all fun x => (List.range 64).all fun y => (f (x : Int) (y : Int)).isSome) = true := List.all_eq_true.2 fun m hm => List.all_eq_true.2 fun m1 hm1 => by
    have := List.mem_range.1 hm
    have := List.mem_range.1 hm1
    rw [h m m1 (by omega) (by omega) (by omega) (by omega)]; rfl
  unfold Pred.ofP
  rw [if_pos hc]
  exact ⟨rfl, fun q h0 h6 h1 h7 => by simp only [Pred.facePr]; rw [h q.f0 q.f1 h0 h6 h1 h7]; rfl⟩
theorem FnOk.ofI {f : Int → Option Bool} {g : FuncId} {fs lb : Array Value} {W : World} (he : ∀ args w, (callFunc g args).run Try.prog w = .ok (.enter g args) w)
    (h : ∀ V x b, Below W.heap.size W V → f x = some b → Calls Try.prog g (fs ++ #[.int .i64 x] ++ lb) V fun e w' => e = .returned (.bool b) ∧ Below V.heap.size V w') : FnOk (.func (.func g) fs lb) (Pred.ofI f) W := by
  unfold Pred.ofI
  split
  · rename_i hc
    refine FnOk.face ⟨g, fs, lb, rfl, he, fun V x hV hx => ?_⟩
    obtain ⟨m, rfl⟩ := Int.eq_ofNat_of_zero_le hx.1
    obtain ⟨b, hr⟩ := Option.isSome_iff_exists.1 (List.all_eq_true.1 hc m (List.mem_range.2 (by omega)))
    have := h V m b hV hr
    simp only [hr, Option.getD_some]
    exact this
  · exact FnOk.bad _ _
theorem FnOk.ofP {f : Int → Int → Option Bool} {g : FuncId} {fs lb : Array Value} {W : World} (he : ∀ args w, (callFunc g args).run Try.prog w = .ok (.enter g args) w)
    (h : ∀ V x y b, Below W.heap.size W V → f x y = some b → Calls Try.prog g (fs ++ #[.agg #[.int .i64 x, .int .i64 y]] ++ lb) V fun e w' => e = .returned (.bool b) ∧ Below V.heap.size V w') : FnOk (.func (.func g) fs lb) (Pred.ofP f) W := by
  unfold Pred.ofP
  split
  · rename_i hc
    refine FnOk.facePr ⟨g, fs, lb, rfl, he, fun V x hV hx => ?_⟩
    obtain ⟨x0, x1⟩ := x
    obtain ⟨⟨a0, a1⟩, b0, b1⟩ := hx
    simp only at a0 a1 b0 b1
    obtain ⟨m, rfl⟩ := Int.eq_ofNat_of_zero_le a0
    obtain ⟨m1, rfl⟩ := Int.eq_ofNat_of_zero_le b0
    obtain ⟨b, hr⟩ := Option.isSome_iff_exists.1 (List.all_eq_true.1 (List.all_eq_true.1 hc m (List.mem_range.2 (by omega))) m1 (List.mem_range.2 (by omega)))
    have := h V m m1 b hV hr
    simp only [hr, Option.getD_some]
    exact this
  · exact FnOk.bad _ _
end Go.Proofs.Ytomdfjohnmikdaa.Ext
namespace Go.Proofs.Ytomdfjohnmikdaa.Im
open Go.RowKit Go.Shelf Kp Ext YtomdfjohnmikdaaW.PrintWords YtomdfjohnmikdaaW.PrintLast YtomdfjohnmikdaaW.PrintMore
def firstP (p : Pr → Bool) (xs : List Pr) : Int := if xs.any p then (xs.findIdx p : Int) else -1
theorem firstP_hit {p : Pr → Bool} {xs : List Pr} {k : Nat} {y : Pr} (hk : k < xs.length) (hy : xs.getD k z73 = y) (hp : p y = true) (hb : ∀ j, j < k → p (xs.getD j z73) = false) : firstP p xs = (k : Int) := by
  have hxk : xs[k] = y := by rw [List.getD_eq_getElem?_getD, List.getElem?_eq_getElem hk] at hy; simpa using hy
  have ha : xs.any p = true := List.any_eq_true.2 ⟨xs[k], List.getElem_mem hk, by rw [hxk]; exact hp⟩
  have hf : xs.findIdx p = k := by
    rw [List.findIdx_eq hk]
    refine ⟨by rw [hxk]; exact hp, fun j hj => ?_⟩
    have := hb j hj
    rw [List.getD_eq_getElem?_getD, List.getElem?_eq_getElem (show j < xs.length by omega)] at this
    simpa using this
  rw [firstP, if_pos ha, hf]
theorem firstP_miss {p : Pr → Bool} {xs : List Pr} (hb : ∀ j, j < xs.length → p (xs.getD j z73) = false) : firstP p xs = -1 := by
  have ha : ¬ xs.any p = true := by
    intro h
    obtain ⟨x, hx, hp⟩ := List.any_eq_true.1 h
    obtain ⟨j, hj, rfl⟩ := List.mem_iff_getElem.1 hx
    have := hb j hj
    rw [List.getD_eq_getElem?_getD, List.getElem?_eq_getElem hj] at this
    simp at this
    rw [this] at hp; cases hp
  rw [firstP, if_neg ha]
set_option maxRecDepth 100000 in
set_option maxHeartbeats 1000000 in
theorem indexPair_c (A : Option Addr) (c : Nat) (xs : List Pr) (fv : Value) (dom : Pr → Prop) (p : Pr → Bool) (w : World) (hr : Kd.C k73 w A xs.length xs) (hf : FnP Try.prog fv dom p w) (hd : ∀ x ∈ xs, dom x) (hl : xs.length ≤ 1099511627776) :
    Calls Try.prog 170 #[.slice A xs.length c, fv] w fun e w' => e = .returned (.int .i64 (firstP p xs)) ∧ Below w.heap.size w w' := by
  obtain ⟨g, fs, lb, rfl, eg, hcall⟩ := hf
  have HR := Aside0.mk hr
  have HC := Aside0.mk hcall
  have HD := Aside0.mk hd
  clear hr hcall hd
  go_enter Try.func170, Try.ntmps170
  go_wp2
  go_loopw [5, 8] (fun _ i wr => ∃ k : Nat, k ≤ xs.length ∧ i = .int .i64 k ∧ Aside0 (Below w.heap.size w wr) ∧ Aside0 (∀ j, j < k → p (xs.getD j z73) = false)) (fun _ i _ => xs.length - (intOf i).toNat)
  case atStart => exact ⟨0, by omega, rfl, ⟨Below.refl _ _⟩, ⟨fun j hj => absurd hj (Nat.not_lt_zero _)⟩⟩
  case round =>
    obtain ⟨k, hk, rfl, hB, hA⟩ := hrel
    by_cases hlt : k < xs.length
    · have hltz : (k : Int) < (xs.length : Int) := by omega
      obtain ⟨ad, rfl, h0, h1⟩ := pair_at (Kd.C_below HR.out hB.out) k hlt
      obtain ⟨y, hy⟩ : ∃ y, xs.getD k z73 = y := ⟨_, rfl⟩
      rw [hy] at h0 h1
      have HY := Aside0.mk hy
      have hdy : dom y := by
        rw [← hy, List.getD_eq_getElem?_getD, List.getElem?_eq_getElem hlt]
        exact HD.out _ (List.getElem_mem hlt)
      have hcy := HC.out wr y hB.out hdy
      clear hy hdy
      have HCY := Aside0.mk hcy
      clear hcy
      cases hq : p y with
      | true =>
        rw [hq] at HCY
        have HQ := Aside0.mk hq
        clear hq
        go_wp2_with (go_at_fn g; refine HCY.out.mono ?_; rintro e w' ⟨rfl, hb⟩; have HB2 := Aside0.mk hb; clear hb)
        go_ret
        refine ⟨?_, below_in hB.out HB2.out⟩
        rw [firstP_hit hlt HY.out HQ.out hA.out]; rfl
      | false =>
        rw [hq] at HCY
        have HQ := Aside0.mk hq
        clear hq
        go_wp2_with (go_at_fn g; refine HCY.out.mono ?_; rintro e w' ⟨rfl, hb⟩; have HB2 := Aside0.mk hb; clear hb)
        go_roundw
        case measure => simp [intOf]; omega
        case rel =>
          refine ⟨k + 1, by omega, by go_num, ⟨below_in hB.out HB2.out⟩, ⟨fun j hj => ?_⟩⟩
          rcases Nat.lt_or_ge j k with h | h
          · exact hA.out j h
          · obtain rfl : j = k := by omega
            rw [HY.out]; exact HQ.out
    · obtain rfl : k = xs.length := by omega
      have hltz : ¬ (xs.length : Int) < (xs.length : Int) := by omega
      go_wp2
      go_ret
      refine ⟨?_, hB.out⟩
      rw [firstP_miss hA.out]; rfl
end Go.Proofs.Ytomdfjohnmikdaa.Im
namespace Go.Proofs.Ytomdfjohnmikdaa.Ext
open Go.RowKit Im Kp YtomdfjohnmikdaaW.PrintWords YtomdfjohnmikdaaW.PrintLast YtomdfjohnmikdaaW.PrintMore
def fnp (g : FuncId) : Pred :=
  if g = 127 then Pred.nul true else
  if g = 58 then Pred.int (fun x => withinB x 0 1000) else
  Pred.nul false
theorem fnp_ok_127 (w : World) : FnOk (.func (.func 127) #[] #[]) (fnp 127) w := FnOk.nul (u := true) (always_f w)
end Go.Proofs.Ytomdfjohnmikdaa.Ext
namespace Go.Proofs.Ytomdfjohnmikdaa.Im
open Go.RowKit Go.Shelf Ext YtomdfjohnmikdaaW.PrintWords YtomdfjohnmikdaaW.PrintLast YtomdfjohnmikdaaW.PrintMore
theorem kept_cells {g : Nat} {w : World} {S : Nat → Prop} (hg : S g) : ∀ (vs : List Value) (k : Nat) (W : World), Kept w W S → Kept w (W.setCells g k vs) S
  | [], _, W, h => h
  | v :: vs, k, W, h => kept_cells hg vs (k + 1) _ (Kept.setCell (p := ⟨g, k, none⟩) h (.inl hg) v)
theorem RO.ok {W : World} {base : Nat} {v : Value} {xs : List Int} {ok : Nat → Prop} (h : RO W base v xs) (hk : ∀ k, v.ownBlock = some k → ok k) : Kd.R (Kd.int .i64) 2 W base ok v xs :=
  Kd.R_mono (Kd.R_tight rfl h) (fun k e => hk k e.symm)
set_option maxRecDepth 100000 in
set_option maxHeartbeats 4000000 in
theorem deleteFuncK_c (S : Nat → Prop) (v : Value) (xs : List Int) (fv : Value) (a : Pred) (w0 w : World) (HBw : Below w0.heap.size w0 w) (hoS : Kd.R (Kd.int .i64) 2 w w0.heap.size S v xs) (hn : xs.length ≤ 1048576)
    (hfn : ∀ W_, Kept w W_ S → FnOk fv a W_) (hs : a.sort = 1) (hd : ∀ x ∈ xs, a.dom x) :
    Calls Try.prog 121 #[v, fv] w fun e w' => ∃ v', e = .returned v' ∧ Kd.R (Kd.int .i64) 2 w' w0.heap.size (fun k_ => (S k_ ∨ w.heap.size ≤ k_)) v' (xs.filter fun x => !a.pI x) ∧ Below w0.heap.size w0 w' ∧ Kept w w' S := by
  have hfw := (hfn w (Kept.refl w S)).2.1 hs
  have ho : RO w w0.heap.size v xs := Kd.R_mono hoS (fun _ _ => trivial)
  have hS := hoS.1
  clear hoS
  obtain ⟨A0, c0, rfl⟩ := Kd.R_slice ho
  have hix := indexFunc_c A0 xs.length c0 xs fv a.dom a.pI w (Kd.R_reads' ho).2.2 hfw hd
  obtain ⟨g, fs, lb, rfl, eg, _⟩ := hfw
  have hcall : ∀ W x, Kept w W S → a.dom x → Calls Try.prog g (fs ++ #[.int .i64 x] ++ lb) W fun e w' => e = .returned (.bool (a.pI x)) ∧ Below W.heap.size W w' := by
    intro W x hK hx
    obtain ⟨g', fs', lb', he, _, hc⟩ := (hfn W hK).2.1 hs
    injection he with h1 h2 h3
    injection h1 with h1
    subst h1; subst h2; subst h3
    exact hc W x (Below.refl _ _) hx
  clear hfn
  obtain ⟨p, hp⟩ : ∃ p, a.pI = p := ⟨_, rfl⟩
  obtain ⟨dom, hdm⟩ : ∃ dom, a.dom = dom := ⟨_, rfl⟩
  rw [hp, hdm] at hcall
  rw [hp] at hix ⊢
  rw [hdm] at hd
  clear hp hdm hs
  cases hany : xs.any p with
  | false =>
    have he : firstI p xs = -1 := by unfold firstI; rw [hany]; rfl
    have hfl : (xs.filter fun x => !p x) = xs := by
      refine List.filter_eq_self.2 fun x hx => ?_
      have := List.any_eq_false.1 hany x hx
      simpa using this
    rw [he] at hix
    rw [hfl]
    have HI := Aside0.mk hix
    have HO := Aside0.mk ho
    have HB := Aside0.mk HBw
    have HS := Aside0.mk hS
    clear hix ho HBw hcall hany he hfl hS
    go_enter Try.func121, Try.ntmps121
    go_wp2_with (go_at_call 141; refine HI.out.mono ?_; rintro e w' ⟨rfl, hb⟩)
    go_ret
    exact ⟨_, rfl, RO.ok (Kd.R_below HO.out hb) (fun k hk => .inl (HS.out k hk)), HB.out.trans (hb.mono HB.out.size), Kept.of_below hb _⟩
  | true =>
    obtain ⟨i, hi, hil, hpi, hbi⟩ := firstI_at hany
    rw [hi] at hix
    obtain ⟨gg, cap, hvf, hgb, hgl, _⟩ := Kd.R_form ho (by omega)
    obtain ⟨rfl, rfl⟩ : A0 = some ⟨gg, 0, none⟩ ∧ c0 = cap := by injection hvf with h1 h2 h3; exact ⟨h1, h3⟩
    have hgS : S gg := hS gg rfl
    have hcapn := (Kd.R_reads' ho).2.1
    have HI := Aside0.mk hix
    have HO := Aside0.mk ho
    have HB := Aside0.mk HBw
    have HC := Aside0.mk hcall
    have HD := Aside0.mk hd
    have HP := Aside0.mk hpi
    have HF := Aside0.mk (filter_first hbi (Nat.le_of_lt hil))
    have HG := Aside0.mk hgb
    have HGS := Aside0.mk hgS
    obtain ⟨n, hnx⟩ : ∃ n, xs.length = n := ⟨_, rfl⟩
    have HN := Aside0.mk hnx
    rw [hnx] at hil hn hcapn ⊢
    rw [hnx] at HI HO
    clear hix ho HBw hcall hany hi hd hpi hbi hvf hgb hgl hnx hS hgS
    go_enter Try.func121, Try.ntmps121
    go_wp2_with (go_at_call 141; refine HI.out.mono ?_; rintro e w1 ⟨rfl, hb⟩; have HO1 := Aside0.mk (Kd.R_below HO.out hb); have HB1 := Aside0.mk (HB.out.trans (hb.mono HB.out.size)); have HK1 := Aside0.mk (Kept.of_below hb S); clear hb)
    have hst := DI.start (p := p) (by rw [HN.out]; exact hil) HP.out HF.out
    have HS := Aside0.mk hst
    clear hst
    go_loopw [5, 6] (fun vk vj wr => ∃ (k j : Nat) (ys : List Int), vk = .int .i64 k ∧ vj = .int .i64 j ∧ k < j ∧ j ≤ n ∧ Aside0 (DI (fun x => !p x) xs ys k j) ∧ Aside0 (RO wr w0.heap.size (.slice (some ⟨gg, 0, none⟩) n c0) ys) ∧ Aside0 (Below w0.heap.size w0 wr) ∧ Aside0 (Kept w wr S)) (fun _ vj _ => n - (intOf vj).toNat)
    case atStart => exact ⟨i, i + 1, xs, rfl, by go_num, by omega, by omega, HS, HO1, HB1, HK1⟩
    case round =>
      obtain ⟨k, j, ys, rfl, rfl, hkj, hjn, hD, hO, hBr, hKr⟩ := hrel
      by_cases hlt : j < n
      · have hltz : (j : Int) < (n : Int) := by omega
        have hcf := RO.cell hO.out hlt
        have hce := hcf.1
        have hkf := RO.cell hO.out (show k < n by omega)
        have hkc := hkf.1
        have hkz := hkf.2
        have hx := hD.out.at_
        have hjx : j < xs.length := by rw [HN.out]; exact hlt
        obtain ⟨y, hy⟩ : ∃ y, xs[j]?.getD 0 = y := ⟨_, rfl⟩
        rw [hx, hy] at hce
        have hdy : dom y := by
          rw [List.getElem?_eq_getElem hjx] at hy
          rw [← hy]
          exact HD.out _ (List.getElem_mem hjx)
        have hcy := HC.out wr y hKr.out hdy
        have HY := Aside0.mk hy
        have HJ := Aside0.mk hjx
        clear hy hx hdy hcf hkf hjx
        have HCY := Aside0.mk hcy
        clear hcy
        cases hq : p y with
        | true =>
          rw [hq] at HCY
          have HQ := Aside0.mk hq
          clear hq
          go_wp2_with (go_at_fn g; refine HCY.out.mono ?_; rintro e w' ⟨rfl, hb⟩; have HO2 := Aside0.mk (Kd.R_below hO.out hb); have HB2 := Aside0.mk (hBr.out.trans (hb.mono hBr.out.size)); have HK2 := Aside0.mk (Kept.below hKr.out hb); clear hb)
          go_roundw
          case measure => simp [intOf]; omega
          case rel =>
            exact ⟨_, _, _, _, _, _, _, _, _, _, _, _, _, _, _, _, _, _, _, _, _, _, _, ⟨k, j + 1, ys, rfl, by go_num, by omega, by omega, ⟨hD.out.skip HJ.out (by rw [HY.out, HQ.out]; rfl)⟩, HO2, HB2, HK2⟩, rfl⟩
        | false =>
          rw [hq] at HCY
          have HQ := Aside0.mk hq
          clear hq
          go_wp2_with (go_at_fn g; refine HCY.out.mono ?_; rintro e w' ⟨rfl, hb⟩; have HO2 := Aside0.mk (Kd.R_below hO.out hb); have HB2 := Aside0.mk (hBr.out.trans (hb.mono hBr.out.size)); have HK2 := Aside0.mk (Kept.below hKr.out hb); have hk2 := RO.cell HO2.out (show k < n by omega); have hkc2 := hk2.1; have hkz2 := hk2.2; clear hb hk2)
          go_roundw
          case measure => simp [intOf]; omega
          case rel => exact ⟨_, _, _, _, _, _, _, _, _, _, _, _, _, _, _, _, _, _, _, _, _, _, _, ⟨k + 1, j + 1, ys.set k y, by go_num, by go_num, by omega, by omega, ⟨by have := hD.out.keep HJ.out (by rw [HY.out, HQ.out]; rfl); rw [HY.out] at this; exact this⟩, ⟨RO.put HO2.out k y⟩, ⟨HB2.out.setCell (p := ⟨gg, k, none⟩) HG.out _⟩, ⟨Kept.setCell (p := ⟨gg, k, none⟩) HK2.out (.inl HGS.out) _⟩⟩, rfl⟩
      · obtain rfl : j = n := by omega
        have hltz : ¬ (j : Int) < (j : Int) := by omega
        have hcl : ∀ ty, (Builtin.clear_ #[22] ty #[.slice (some ⟨gg, k, none⟩) (j - k) (c0 - k)]).run Try.prog wr = .ok (.tuple #[]) (wr.setCells gg k (List.replicate (j - k) (.int .i64 0))) := fun ty =>
          Lib.run_clear_slice wr _ _ ty (.int .i64 0) Try.underlying22 (fun w => by kernel_rfl) rfl rfl gg k _ _ (by omega) (fun m hm => by rw [(RO.cell hO.out (show k + m < j by omega)).1]; rfl) (fun m hm => (RO.cell hO.out (show k + m < j by omega)).2)
        go_wp2
        go_ret
        obtain ⟨zs, hz, hR⟩ := RO.zeros (j - k) k _ _ hO.out
        refine ⟨_, rfl, RO.ok ?_ (fun k_ hk_ => .inl (by injection hk_ with hk_; rw [← hk_]; exact HGS.out)), below_cells HG.out _ _ _ hBr.out, kept_cells HGS.out _ _ _ hKr.out⟩
        have ht := Kd.R_take hR (m := k) (by have := (Kd.R_reads' hR).1; omega)
        rw [hz, hD.out.done, List.take_of_length_le (by rw [HN.out]; exact Nat.le_refl _)] at ht
        exact ht
end Go.Proofs.Ytomdfjohnmikdaa.Im
namespace Go.Proofs.Ytomdfjohnmikdaa.Im
open Go.RowKit Go.Shelf YtomdfjohnmikdaaW.PrintWords YtomdfjohnmikdaaW.PrintLast YtomdfjohnmikdaaW.PrintMore
end Go.Proofs.Ytomdfjohnmikdaa.Im
namespace Go.Proofs.Ytomdfjohnmikdaa.Im
open Go.RowKit YtomdfjohnmikdaaW.PrintWords YtomdfjohnmikdaaW.PrintLast YtomdfjohnmikdaaW.PrintMore
theorem fullZ_le {n : Int} (h1 : 1 ≤ n) (h6 : n ≤ 6) : 1 ≤ fullZ n ∧ fullZ n ≤ 63 := by
  obtain rfl | rfl | rfl | rfl | rfl | rfl : n = 1 ∨ n = 2 ∨ n = 3 ∨ n = 4 ∨ n = 5 ∨ n = 6 := by omega
  all_goals exact ⟨by decide, by decide⟩
theorem full_nat {n : Int} (h1 : 1 ≤ n) (h6 : n ≤ 6) : fullZ n = ((2 ^ n.toNat - 1 : Nat) : Int) := by
  obtain rfl | rfl | rfl | rfl | rfl | rfl : n = 1 ∨ n = 2 ∨ n = 3 ∨ n = 4 ∨ n = 5 ∨ n = 6 := by omega
  all_goals decide +kernel
theorem thoseL_len {n : Int} (h1 : 1 ≤ n) (h6 : n ≤ 6) (p : Int → Bool) : (thoseL n p).length ≤ 64 := by
  refine Nat.le_trans (thoseUpto_len p (2 ^ n.toNat)) ?_
  obtain rfl | rfl | rfl | rfl | rfl | rfl : n = 1 ∨ n = 2 ∨ n = 3 ∨ n = 4 ∨ n = 5 ∨ n = 6 := by omega
  all_goals decide
theorem isC_range {n : Int} {l : List Int} (h : isC n l = true) : ∀ x ∈ l, 1 ≤ x ∧ x ≤ fullZ n := by
  obtain ⟨_, ha, _⟩ := isC_of h
  intro x hx
  obtain ⟨i, hi, rfl⟩ := List.mem_iff_getElem.1 hx
  have h1 := List.all_eq_true.1 ha i (List.mem_range.2 hi)
  simp only [okAt, List.getElem?_eq_getElem hi, Option.getD_some, withinB, Bool.and_eq_true, decide_eq_true_eq] at h1
  exact h1.1
theorem isC_those {n : Int} {l : List Int} (h : isC n l = true) : l = thoseL n fun x => decide (x ∈ l) := by
  obtain ⟨⟨h1, h6⟩, ha, _⟩ := isC_of h
  have hr := isC_range h
  have hk := full_nat h1 h6
  have hasc : l.Pairwise (· < ·) := by
    rw [List.pairwise_iff_getElem]
    intro i j hi hj hij
    have := (ascB_asc ha).lt hij hj
    simpa [List.getElem?_eq_getElem hi, List.getElem?_eq_getElem hj] using this
  have hasc2 : (thoseL n fun x => decide (x ∈ l)).Pairwise (· < ·) := by
    unfold thoseL nums1
    refine List.Pairwise.filter _ ?_
    rw [List.pairwise_map]
    exact List.pairwise_lt_range.imp (fun h => by omega)
  refine List.Perm.eq_of_pairwise (le := (· < ·)) (fun a b _ _ h1 h2 => by omega) hasc hasc2 ?_
  refine (List.perm_ext_iff_of_nodup (hasc.imp (fun h => by omega)) (hasc2.imp (fun h => by omega))).2 fun x => ?_
  unfold thoseL
  rw [List.mem_filter, mem_nums1]
  constructor
  · intro hx
    have := hr x hx
    exact ⟨⟨this.1, by omega⟩, by simpa using hx⟩
  · intro hx; simpa using hx.2
theorem isC_len {n : Int} {l : List Int} (h : isC n l = true) : l.length ≤ 64 := by
  obtain ⟨⟨h1, h6⟩, _, _⟩ := isC_of h
  rw [isC_those h]
  exact thoseL_len h1 h6 _
end Go.Proofs.Ytomdfjohnmikdaa.Im
namespace Go.Proofs.Ytomdfjohnmikdaa.Ext
open Go.RowKit Im YtomdfjohnmikdaaW.PrintWords YtomdfjohnmikdaaW.PrintLast YtomdfjohnmikdaaW.PrintMore
def impl_Complex_has.f (a0_0 : Int) (l0_1 : List Int) (a1 : Int) : Option Bool := if l0_1.length ≤ 4611686018427387904 ∧ Asc l0_1 then some (decide (a1 ∈ l0_1)) else none
theorem impl_Complex_has.calls (a0_0 : Int) (A0_1 : Option Addr) (c0_1 : Nat) (l0_1 : List Int) (a1 : Int) (r : Bool) (w : World) (hr0_1 : Kd.C (Kd.int .i64) w A0_1 l0_1.length l0_1) (_hc0_1 : l0_1.length ≤ c0_1) (h : impl_Complex_has.f a0_0 l0_1 a1 = some r) :
    Calls Try.prog 156 #[.agg #[.int .i64 a0_0, .slice A0_1 l0_1.length c0_1], .int .i64 a1] w fun e w' => e = .returned (.bool r) ∧ Below w.heap.size w w' := by
  unfold impl_Complex_has.f at h
  by_cases hl : l0_1.length ≤ 4611686018427387904 ∧ Asc l0_1
  · rw [if_pos hl] at h
    obtain rfl := Option.some.inj h
    exact has_c a0_0 A0_1 l0_1.length c0_1 l0_1 a1 w hr0_1 hl.1 hl.2
  · rw [if_neg hl] at h; cases h
end Go.Proofs.Ytomdfjohnmikdaa.Ext
namespace Go.Proofs.Ytomdfjohnmikdaa.Ext
open Go.RowKit Im  YtomdfjohnmikdaaW.PrintWords YtomdfjohnmikdaaW.PrintLast YtomdfjohnmikdaaW.PrintMore
def impl_complexCode.f (a0_0 : Int) (l0_1 : List Int) (a1 : Pred) : Option (Int) := if l0_1.length ≤ 4611686018427387904 ∧ (isC a0_0 l0_1 = true → a1.sort = 0) then some (codeOf (isC a0_0 l0_1) a1.u) else none
theorem impl_complexCode.calls (a0_0 : Int) (A0_1 : Option Addr) (c0_1 : Nat) (l0_1 : List Int) (F1 : Value) (a1 : Pred) (r : Int) (w : World) (hr0_1 : Kd.C (Kd.int .i64) w A0_1 l0_1.length l0_1) (_hc0_1 : l0_1.length ≤ c0_1) (hq1 : FnOk F1 a1 w) (h : impl_complexCode.f a0_0 l0_1 a1 = some r) :
    Calls Try.prog 53 #[.agg #[.int .i64 a0_0, .slice A0_1 l0_1.length c0_1], F1] w fun e w' => e = .returned (.int .i64 r) ∧ Below w.heap.size w w' := by
  unfold impl_complexCode.f at h
  by_cases hl : l0_1.length ≤ 4611686018427387904 ∧ (isC a0_0 l0_1 = true → a1.sort = 0)
  · rw [if_pos hl] at h
    have hd := Option.some.inj h
    rw [← hd]
    exact complexCode_c a0_0 A0_1 l0_1.length c0_1 l0_1 _ a1.u w hr0_1 hl.1 (fun h => hq1.1 (hl.2 h))
  · rw [if_neg hl] at h; cases h
def slices_Clone_int64_int64.f (l0 : List Int) : Option (List Int) := if l0.length ≤ 1048576 then some (l0) else none
theorem slices_Clone_int64_int64.calls (A0 : Option Addr) (c0 : Nat) (l0 : List Int) (r : List Int) (w : World) (hr0 : Kd.C (Kd.int .i64) w A0 l0.length l0) (_hc0 : l0.length ≤ c0) (h : slices_Clone_int64_int64.f l0 = some r) :
    Calls Try.prog 122 #[.slice A0 l0.length c0] w fun e w' => ∃ v0_ : Value, e = .returned (v0_) ∧ Kd.R (Kd.int .i64) 2 w' w.heap.size (fun _ => True) v0_ r ∧ Below w.heap.size w w' := by
  unfold slices_Clone_int64_int64.f at h
  by_cases hl : l0.length ≤ 1048576
  · rw [if_pos hl] at h
    have hd := Option.some.inj h
    rw [← hd]
    exact clone_c A0 l0.length c0 l0 w hr0 hl
  · rw [if_neg hl] at h; cases h
end Go.Proofs.Ytomdfjohnmikdaa.Ext
namespace Go.Proofs.Ytomdfjohnmikdaa.Ext
open Go.RowKit Im Kp YtomdfjohnmikdaaW.PrintWords YtomdfjohnmikdaaW.PrintLast YtomdfjohnmikdaaW.PrintMore
def slices_DeleteFunc_int64_int64.f (l0 : List Int) (a1 : Pred) : Option (List Int) := if l0.length ≤ 1048576 ∧ a1.sort = 1 ∧ okDom a1 l0 = true then some (l0.filter fun x => !a1.pI x) else none
theorem slices_DeleteFunc_int64_int64.calls (P0_ : Nat → Prop) (u9000_ : Value) (l0 : List Int) (F1 : Value) (a1 : Pred) (r : List Int) (w0 w : World) (hB : Below w0.heap.size w0 w) (ho0 : Kd.R (Kd.int .i64) 2 w w0.heap.size P0_ u9000_ l0) (hq1 : ∀ W_, Kept w W_ (fun k_ => P0_ k_) → FnOk F1 a1 W_) (h : slices_DeleteFunc_int64_int64.f l0 a1 = some r) :
    Calls Try.prog 121 #[u9000_, F1] w fun e w' => ∃ v0_ : Value, e = .returned (v0_) ∧ Kd.R (Kd.int .i64) 2 w' w0.heap.size (fun k_ => (P0_ k_ ∨ w.heap.size ≤ k_)) v0_ r ∧ Below w0.heap.size w0 w' ∧ Kept w w' (fun k_ => P0_ k_) := by
  unfold slices_DeleteFunc_int64_int64.f at h
  by_cases hl : l0.length ≤ 1048576 ∧ a1.sort = 1 ∧ okDom a1 l0 = true
  · rw [if_pos hl] at h
    have hd := Option.some.inj h
    rw [← hd]
    exact deleteFuncK_c P0_ u9000_ l0 F1 a1 w0 w hB ho0 hl.1 hq1 hl.2.1 (okDom_mem hl.2.2)
  · rw [if_neg hl] at h; cases h
def impl_isIn.f (a0 : Int) (a1 : Int) : Option (Bool) := if True then some (Go.bits .andNot .i64 a0 a1 == 0) else none
theorem impl_isIn.calls (a0 : Int) (a1 : Int) (r : Bool) (w : World)  (h : impl_isIn.f a0 a1 = some r) :
    Calls Try.prog 92 #[.int .i64 a0, .int .i64 a1] w fun e w' => e = .returned (.bool r) ∧ Below w.heap.size w w' := by
  unfold impl_isIn.f at h
  by_cases hl : True
  · rw [if_pos hl] at h
    have hd := Option.some.inj h
    rw [← hd]
    exact (isIn_c a0 a1 w).mono (by rintro e w' ⟨rfl, rfl⟩; exact ⟨rfl, Below.refl _ _⟩)
  · rw [if_neg hl] at h; cases h
def impl_borders.f (a0 : Int) : Option (List Int) := if True then some (bordersL a0) else none
theorem impl_borders.calls (a0 : Int) (r : List Int) (w : World)  (h : impl_borders.f a0 = some r) :
    Calls Try.prog 155 #[.int .i64 a0] w fun e w' => ∃ v0_ : Value, e = .returned (v0_) ∧ Kd.R (Kd.int .i64) 2 w' w.heap.size (fun _ => True) v0_ r ∧ Below w.heap.size w w' := by
  unfold impl_borders.f at h
  by_cases hl : True
  · rw [if_pos hl] at h
    have hd := Option.some.inj h
    rw [← hd]
    exact borders_c a0 w
  · rw [if_neg hl] at h; cases h
def slices_IndexFunc_impl_Pair_impl_Pair.f (l0 : List S73) (a1 : Pred) : Option (Int) := if l0.length ≤ 1099511627776 ∧ a1.sort = 2 ∧ okDomP a1 l0 = true then some (firstP a1.pP l0) else none
theorem slices_IndexFunc_impl_Pair_impl_Pair.calls (A0 : Option Addr) (c0 : Nat) (l0 : List S73) (F1 : Value) (a1 : Pred) (r : Int) (w : World) (hr0 : Kd.C k73 w A0 l0.length l0) (_hc0 : l0.length ≤ c0) (hq1 : FnOk F1 a1 w) (h : slices_IndexFunc_impl_Pair_impl_Pair.f l0 a1 = some r) :
    Calls Try.prog 170 #[.slice A0 l0.length c0, F1] w fun e w' => e = .returned (.int .i64 r) ∧ Below w.heap.size w w' := by
  unfold slices_IndexFunc_impl_Pair_impl_Pair.f at h
  by_cases hl : l0.length ≤ 1099511627776 ∧ a1.sort = 2 ∧ okDomP a1 l0 = true
  · rw [if_pos hl] at h
    have hd := Option.some.inj h
    rw [← hd]
    exact indexPair_c A0 c0 l0 F1 a1.domP a1.pP w hr0 (hq1.2.2 hl.2.1) (okDomP_mem hl.2.2) hl.1
  · rw [if_neg hl] at h; cases h
end Go.Proofs.Ytomdfjohnmikdaa.Ext
namespace Go.Proofs.Ytomdfjohnmikdaa.QA
open Cw Kp Ext Go.RowKit YtomdfjohnmikdaaW.PrintWords YtomdfjohnmikdaaW.PrintLast YtomdfjohnmikdaaW.PrintMore
attribute [local go_sem] max2_int min2_int max_two min_two max_three min_three max_four min_four   -- for this text's walks alone
def errW : Option Int → Value
 | none => .nilIface
 | some c => .iface 0 (.int .i64 c)
theorem errW_none : errW none = .nilIface := rfl
theorem errW_some (c : Int) : errW (some c) = .iface 0 (.int .i64 c) := rfl
def bits_OnesCount64.f (a0 : Int) : Option (Int) := some (Go.bits .and .i64 (wrap64 (IntKind.u64.wrap ((IntKind.u64.wrap ((IntKind.u64.wrap ((Go.bits .and .u64 (IntKind.u64.wrap (((IntKind.u64.wrap ((Go.bits .and .u64 ((IntKind.u64.wrap ((Go.bits .and .u64 (a0 / 2) 6148914691236517205) + (Go.bits .and .u64 a0 6148914691236517205))) / 4) 3689348814741910323) + (Go.bits .and .u64 (IntKind.u64.wrap ((Go.bits .and .u64 (a0 / 2) 6148914691236517205) + (Go.bits .and .u64 a0 6148914691236517205))) 3689348814741910323))) / 16) + (IntKind.u64.wrap ((Go.bits .and .u64 ((IntKind.u64.wrap ((Go.bits .and .u64 (a0 / 2) 6148914691236517205) + (Go.bits .and .u64 a0 6148914691236517205))) / 4) 3689348814741910323) + (Go.bits .and .u64 (IntKind.u64.wrap ((Go.bits .and .u64 (a0 / 2) 6148914691236517205) + (Go.bits .and .u64 a0 6148914691236517205))) 3689348814741910323))))) 1085102592571150095) + ((Go.bits .and .u64 (IntKind.u64.wrap (((IntKind.u64.wrap ((Go.bits .and .u64 ((IntKind.u64.wrap ((Go.bits .and .u64 (a0 / 2) 6148914691236517205) + (Go.bits .and .u64 a0 6148914691236517205))) / 4) 3689348814741910323) + (Go.bits .and .u64 (IntKind.u64.wrap ((Go.bits .and .u64 (a0 / 2) 6148914691236517205) + (Go.bits .and .u64 a0 6148914691236517205))) 3689348814741910323))) / 16) + (IntKind.u64.wrap ((Go.bits .and .u64 ((IntKind.u64.wrap ((Go.bits .and .u64 (a0 / 2) 6148914691236517205) + (Go.bits .and .u64 a0 6148914691236517205))) / 4) 3689348814741910323) + (Go.bits .and .u64 (IntKind.u64.wrap ((Go.bits .and .u64 (a0 / 2) 6148914691236517205) + (Go.bits .and .u64 a0 6148914691236517205))) 3689348814741910323))))) 1085102592571150095) / 256))) + ((IntKind.u64.wrap ((Go.bits .and .u64 (IntKind.u64.wrap (((IntKind.u64.wrap ((Go.bits .and .u64 ((IntKind.u64.wrap ((Go.bits .and .u64 (a0 / 2) 6148914691236517205) + (Go.bits .and .u64 a0 6148914691236517205))) / 4) 3689348814741910323) + (Go.bits .and .u64 (IntKind.u64.wrap ((Go.bits .and .u64 (a0 / 2) 6148914691236517205) + (Go.bits .and .u64 a0 6148914691236517205))) 3689348814741910323))) / 16) + (IntKind.u64.wrap ((Go.bits .and .u64 ((IntKind.u64.wrap ((Go.bits .and .u64 (a0 / 2) 6148914691236517205) + (Go.bits .and .u64 a0 6148914691236517205))) / 4) 3689348814741910323) + (Go.bits .and .u64 (IntKind.u64.wrap ((Go.bits .and .u64 (a0 / 2) 6148914691236517205) + (Go.bits .and .u64 a0 6148914691236517205))) 3689348814741910323))))) 1085102592571150095) + ((Go.bits .and .u64 (IntKind.u64.wrap (((IntKind.u64.wrap ((Go.bits .and .u64 ((IntKind.u64.wrap ((Go.bits .and .u64 (a0 / 2) 6148914691236517205) + (Go.bits .and .u64 a0 6148914691236517205))) / 4) 3689348814741910323) + (Go.bits .and .u64 (IntKind.u64.wrap ((Go.bits .and .u64 (a0 / 2) 6148914691236517205) + (Go.bits .and .u64 a0 6148914691236517205))) 3689348814741910323))) / 16) + (IntKind.u64.wrap ((Go.bits .and .u64 ((IntKind.u64.wrap ((Go.bits .and .u64 (a0 / 2) 6148914691236517205) + (Go.bits .and .u64 a0 6148914691236517205))) / 4) 3689348814741910323) + (Go.bits .and .u64 (IntKind.u64.wrap ((Go.bits .and .u64 (a0 / 2) 6148914691236517205) + (Go.bits .and .u64 a0 6148914691236517205))) 3689348814741910323))))) 1085102592571150095) / 256))) / 65536))) + ((IntKind.u64.wrap ((IntKind.u64.wrap ((Go.bits .and .u64 (IntKind.u64.wrap (((IntKind.u64.wrap ((Go.bits .and .u64 ((IntKind.u64.wrap ((Go.bits .and .u64 (a0 / 2) 6148914691236517205) + (Go.bits .and .u64 a0 6148914691236517205))) / 4) 3689348814741910323) + (Go.bits .and .u64 (IntKind.u64.wrap ((Go.bits .and .u64 (a0 / 2) 6148914691236517205) + (Go.bits .and .u64 a0 6148914691236517205))) 3689348814741910323))) / 16) + (IntKind.u64.wrap ((Go.bits .and .u64 ((IntKind.u64.wrap ((Go.bits .and .u64 (a0 / 2) 6148914691236517205) + (Go.bits .and .u64 a0 6148914691236517205))) / 4) 3689348814741910323) + (Go.bits .and .u64 (IntKind.u64.wrap ((Go.bits .and .u64 (a0 / 2) 6148914691236517205) + (Go.bits .and .u64 a0 6148914691236517205))) 3689348814741910323))))) 1085102592571150095) + ((Go.bits .and .u64 (IntKind.u64.wrap (((IntKind.u64.wrap ((Go.bits .and .u64 ((IntKind.u64.wrap ((Go.bits .and .u64 (a0 / 2) 6148914691236517205) + (Go.bits .and .u64 a0 6148914691236517205))) / 4) 3689348814741910323) + (Go.bits .and .u64 (IntKind.u64.wrap ((Go.bits .and .u64 (a0 / 2) 6148914691236517205) + (Go.bits .and .u64 a0 6148914691236517205))) 3689348814741910323))) / 16) + (IntKind.u64.wrap ((Go.bits .and .u64 ((IntKind.u64.wrap ((Go.bits .and .u64 (a0 / 2) 6148914691236517205) + (Go.bits .and .u64 a0 6148914691236517205))) / 4) 3689348814741910323) + (Go.bits .and .u64 (IntKind.u64.wrap ((Go.bits .and .u64 (a0 / 2) 6148914691236517205) + (Go.bits .and .u64 a0 6148914691236517205))) 3689348814741910323))))) 1085102592571150095) / 256))) + ((IntKind.u64.wrap ((Go.bits .and .u64 (IntKind.u64.wrap (((IntKind.u64.wrap ((Go.bits .and .u64 ((IntKind.u64.wrap ((Go.bits .and .u64 (a0 / 2) 6148914691236517205) + (Go.bits .and .u64 a0 6148914691236517205))) / 4) 3689348814741910323) + (Go.bits .and .u64 (IntKind.u64.wrap ((Go.bits .and .u64 (a0 / 2) 6148914691236517205) + (Go.bits .and .u64 a0 6148914691236517205))) 3689348814741910323))) / 16) + (IntKind.u64.wrap ((Go.bits .and .u64 ((IntKind.u64.wrap ((Go.bits .and .u64 (a0 / 2) 6148914691236517205) + (Go.bits .and .u64 a0 6148914691236517205))) / 4) 3689348814741910323) + (Go.bits .and .u64 (IntKind.u64.wrap ((Go.bits .and .u64 (a0 / 2) 6148914691236517205) + (Go.bits .and .u64 a0 6148914691236517205))) 3689348814741910323))))) 1085102592571150095) + ((Go.bits .and .u64 (IntKind.u64.wrap (((IntKind.u64.wrap ((Go.bits .and .u64 ((IntKind.u64.wrap ((Go.bits .and .u64 (a0 / 2) 6148914691236517205) + (Go.bits .and .u64 a0 6148914691236517205))) / 4) 3689348814741910323) + (Go.bits .and .u64 (IntKind.u64.wrap ((Go.bits .and .u64 (a0 / 2) 6148914691236517205) + (Go.bits .and .u64 a0 6148914691236517205))) 3689348814741910323))) / 16) + (IntKind.u64.wrap ((Go.bits .and .u64 ((IntKind.u64.wrap ((Go.bits .and .u64 (a0 / 2) 6148914691236517205) + (Go.bits .and .u64 a0 6148914691236517205))) / 4) 3689348814741910323) + (Go.bits .and .u64 (IntKind.u64.wrap ((Go.bits .and .u64 (a0 / 2) 6148914691236517205) + (Go.bits .and .u64 a0 6148914691236517205))) 3689348814741910323))))) 1085102592571150095) / 256))) / 65536))) / 4294967296)))) 127)
set_option maxHeartbeats 8000000 in
set_option maxRecDepth 100000 in
theorem bits_OnesCount64.calls (a0 : Int) (r : Int) (w : World) (h : bits_OnesCount64.f a0 = some r) :
  Calls Try.prog 174 #[.int .u64 a0] w fun e w' => e = .returned (.int .i64 r) ∧ Drawn0 w w' := by
 have H : (some (Go.bits .and .i64 (wrap64 (IntKind.u64.wrap ((IntKind.u64.wrap ((IntKind.u64.wrap ((Go.bits .and .u64 (IntKind.u64.wrap (((IntKind.u64.wrap ((Go.bits .and .u64 ((IntKind.u64.wrap ((Go.bits .and .u64 (a0 / 2) 6148914691236517205) + (Go.bits .and .u64 a0 6148914691236517205))) / 4) 3689348814741910323) + (Go.bits .and .u64 (IntKind.u64.wrap ((Go.bits .and .u64 (a0 / 2) 6148914691236517205) + (Go.bits .and .u64 a0 6148914691236517205))) 3689348814741910323))) / 16) + (IntKind.u64.wrap ((Go.bits .and .u64 ((IntKind.u64.wrap ((Go.bits .and .u64 (a0 / 2) 6148914691236517205) + (Go.bits .and .u64 a0 6148914691236517205))) / 4) 3689348814741910323) + (Go.bits .and .u64 (IntKind.u64.wrap ((Go.bits .and .u64 (a0 / 2) 6148914691236517205) + (Go.bits .and .u64 a0 6148914691236517205))) 3689348814741910323))))) 1085102592571150095) + ((Go.bits .and .u64 (IntKind.u64.wrap (((IntKind.u64.wrap ((Go.bits .and .u64 ((IntKind.u64.wrap ((Go.bits .and .u64 (a0 / 2) 6148914691236517205) + (Go.bits .and .u64 a0 6148914691236517205))) / 4) 3689348814741910323) + (Go.bits .and .u64 (IntKind.u64.wrap ((Go.bits .and .u64 (a0 / 2) 6148914691236517205) + (Go.bits .and .u64 a0 6148914691236517205))) 3689348814741910323))) / 16) + (IntKind.u64.wrap ((Go.bits .and .u64 ((IntKind.u64.wrap ((Go.bits .and .u64 (a0 / 2) 6148914691236517205) + (Go.bits .and .u64 a0 6148914691236517205))) / 4) 3689348814741910323) + (Go.bits .and .u64 (IntKind.u64.wrap ((Go.bits .and .u64 (a0 / 2) 6148914691236517205) + (Go.bits .and .u64 a0 6148914691236517205))) 3689348814741910323))))) 1085102592571150095) / 256))) + ((IntKind.u64.wrap ((Go.bits .and .u64 (IntKind.u64.wrap (((IntKind.u64.wrap ((Go.bits .and .u64 ((IntKind.u64.wrap ((Go.bits .and .u64 (a0 / 2) 6148914691236517205) + (Go.bits .and .u64 a0 6148914691236517205))) / 4) 3689348814741910323) + (Go.bits .and .u64 (IntKind.u64.wrap ((Go.bits .and .u64 (a0 / 2) 6148914691236517205) + (Go.bits .and .u64 a0 6148914691236517205))) 3689348814741910323))) / 16) + (IntKind.u64.wrap ((Go.bits .and .u64 ((IntKind.u64.wrap ((Go.bits .and .u64 (a0 / 2) 6148914691236517205) + (Go.bits .and .u64 a0 6148914691236517205))) / 4) 3689348814741910323) + (Go.bits .and .u64 (IntKind.u64.wrap ((Go.bits .and .u64 (a0 / 2) 6148914691236517205) + (Go.bits .and .u64 a0 6148914691236517205))) 3689348814741910323))))) 1085102592571150095) + ((Go.bits .and .u64 (IntKind.u64.wrap (((IntKind.u64.wrap ((Go.bits .and .u64 ((IntKind.u64.wrap ((Go.bits .and .u64 (a0 / 2) 6148914691236517205) + (Go.bits .and .u64 a0 6148914691236517205))) / 4) 3689348814741910323) + (Go.bits .and .u64 (IntKind.u64.wrap ((Go.bits .and .u64 (a0 / 2) 6148914691236517205) + (Go.bits .and .u64 a0 6148914691236517205))) 3689348814741910323))) / 16) + (IntKind.u64.wrap ((Go.bits .and .u64 ((IntKind.u64.wrap ((Go.bits .and .u64 (a0 / 2) 6148914691236517205) + (Go.bits .and .u64 a0 6148914691236517205))) / 4) 3689348814741910323) + (Go.bits .and .u64 (IntKind.u64.wrap ((Go.bits .and .u64 (a0 / 2) 6148914691236517205) + (Go.bits .and .u64 a0 6148914691236517205))) 3689348814741910323))))) 1085102592571150095) / 256))) / 65536))) + ((IntKind.u64.wrap ((IntKind.u64.wrap ((Go.bits .and .u64 (IntKind.u64.wrap (((IntKind.u64.wrap ((Go.bits .and .u64 ((IntKind.u64.wrap ((Go.bits .and .u64 (a0 / 2) 6148914691236517205) + (Go.bits .and .u64 a0 6148914691236517205))) / 4) 3689348814741910323) + (Go.bits .and .u64 (IntKind.u64.wrap ((Go.bits .and .u64 (a0 / 2) 6148914691236517205) + (Go.bits .and .u64 a0 6148914691236517205))) 3689348814741910323))) / 16) + (IntKind.u64.wrap ((Go.bits .and .u64 ((IntKind.u64.wrap ((Go.bits .and .u64 (a0 / 2) 6148914691236517205) + (Go.bits .and .u64 a0 6148914691236517205))) / 4) 3689348814741910323) + (Go.bits .and .u64 (IntKind.u64.wrap ((Go.bits .and .u64 (a0 / 2) 6148914691236517205) + (Go.bits .and .u64 a0 6148914691236517205))) 3689348814741910323))))) 1085102592571150095) + ((Go.bits .and .u64 (IntKind.u64.wrap (((IntKind.u64.wrap ((Go.bits .and .u64 ((IntKind.u64.wrap ((Go.bits .and .u64 (a0 / 2) 6148914691236517205) + (Go.bits .and .u64 a0 6148914691236517205))) / 4) 3689348814741910323) + (Go.bits .and .u64 (IntKind.u64.wrap ((Go.bits .and .u64 (a0 / 2) 6148914691236517205) + (Go.bits .and .u64 a0 6148914691236517205))) 3689348814741910323))) / 16) + (IntKind.u64.wrap ((Go.bits .and .u64 ((IntKind.u64.wrap ((Go.bits .and .u64 (a0 / 2) 6148914691236517205) + (Go.bits .and .u64 a0 6148914691236517205))) / 4) 3689348814741910323) + (Go.bits .and .u64 (IntKind.u64.wrap ((Go.bits .and .u64 (a0 / 2) 6148914691236517205) + (Go.bits .and .u64 a0 6148914691236517205))) 3689348814741910323))))) 1085102592571150095) / 256))) + ((IntKind.u64.wrap ((Go.bits .and .u64 (IntKind.u64.wrap (((IntKind.u64.wrap ((Go.bits .and .u64 ((IntKind.u64.wrap ((Go.bits .and .u64 (a0 / 2) 6148914691236517205) + (Go.bits .and .u64 a0 6148914691236517205))) / 4) 3689348814741910323) + (Go.bits .and .u64 (IntKind.u64.wrap ((Go.bits .and .u64 (a0 / 2) 6148914691236517205) + (Go.bits .and .u64 a0 6148914691236517205))) 3689348814741910323))) / 16) + (IntKind.u64.wrap ((Go.bits .and .u64 ((IntKind.u64.wrap ((Go.bits .and .u64 (a0 / 2) 6148914691236517205) + (Go.bits .and .u64 a0 6148914691236517205))) / 4) 3689348814741910323) + (Go.bits .and .u64 (IntKind.u64.wrap ((Go.bits .and .u64 (a0 / 2) 6148914691236517205) + (Go.bits .and .u64 a0 6148914691236517205))) 3689348814741910323))))) 1085102592571150095) + ((Go.bits .and .u64 (IntKind.u64.wrap (((IntKind.u64.wrap ((Go.bits .and .u64 ((IntKind.u64.wrap ((Go.bits .and .u64 (a0 / 2) 6148914691236517205) + (Go.bits .and .u64 a0 6148914691236517205))) / 4) 3689348814741910323) + (Go.bits .and .u64 (IntKind.u64.wrap ((Go.bits .and .u64 (a0 / 2) 6148914691236517205) + (Go.bits .and .u64 a0 6148914691236517205))) 3689348814741910323))) / 16) + (IntKind.u64.wrap ((Go.bits .and .u64 ((IntKind.u64.wrap ((Go.bits .and .u64 (a0 / 2) 6148914691236517205) + (Go.bits .and .u64 a0 6148914691236517205))) / 4) 3689348814741910323) + (Go.bits .and .u64 (IntKind.u64.wrap ((Go.bits .and .u64 (a0 / 2) 6148914691236517205) + (Go.bits .and .u64 a0 6148914691236517205))) 3689348814741910323))))) 1085102592571150095) / 256))) / 65536))) / 4294967296)))) 127)) = some r := h
 clear h
 obtain rfl := Option.some.inj H
 go_enter Try.func174, Try.ntmps174
 go_wp2
 go_ret
 exact ⟨by first | rfl | (simp; done) | (simp [*]; done), by repeat (first | exact Drawn0.refl _ | apply Drawn0.step)⟩
def impl_size.f (a0 : Int) : Option (Int) := (bits_OnesCount64.f (IntKind.u64.wrap (a0))).bind fun t101 => (some t101)
set_option maxHeartbeats 8000000 in
set_option maxRecDepth 100000 in
theorem impl_size.calls (a0 : Int) (r : Int) (w : World) (h : impl_size.f a0 = some r) :
  Calls Try.prog 136 #[.int .i64 a0] w fun e w' => e = .returned (.int .i64 r) ∧ Drawn0 w w' := by
 have H : ((bits_OnesCount64.f (IntKind.u64.wrap (a0))).bind fun t101 => (some t101)) = some r := h
 clear h
 replace H := Option.bind_eq_some_iff.mp H
 obtain ⟨t101, A20, H⟩ := H
 try dsimp only at H
 have A2 := Aside0.mk A20
 clear A20
 obtain rfl := Option.some.inj H
 go_enter Try.func136, Try.ntmps136
 go_wp2_with (first | ((with_reducible refine gate_callee (f := 174) rfl ?_); refine cl_ (some 5) Try.func174 #[.int .u64 (IntKind.u64.wrap (a0))] ?_; (with_reducible refine (bits_OnesCount64.calls (IntKind.u64.wrap (a0)) t101 _ A2.out).mono ?_); rintro e w' ⟨rfl, ⟨nd, rfl⟩⟩; refine ⟨_, rfl, ?_⟩))
 go_ret
 exact ⟨by first | rfl | (simp; done) | (simp [*]; done), by repeat (first | exact Drawn0.refl _ | apply Drawn0.step)⟩
def impl_Complex_isPair.f (a0_0 : Int) (l0_1 : List Int) (a1_0 : Int) (a1_1 : Int) : Option (Bool) := (impl_Complex_has.f a0_0 l0_1 a1_0).bind fun t104 => (if t104 = true then ((impl_Complex_has.f a0_0 l0_1 a1_1).bind fun t105 => (if t105 = true then ((impl_isIn.f a1_0 a1_1).bind fun t106 => (if t106 = true then ((impl_size.f a1_1).bind fun t107 => ((impl_size.f a1_0).bind fun t108 => (some (t107 == (wrap64 (t108 + 1)))))) else (some false))) else (some false))) else (some false))
def impl_Complex_isPair.T1 : Bool × List (List Nat × List Nat) := (true, [([], []), ([], []), ([1], [1]), ([0, 2], [0, 2]), ([3, 3], [3]), ([4], [4]), ([4], [4]), ([6, 4], [4, 6]), ([5, 7, 4, 4], [4, 5, 7]), ([4, 8], [4, 8]), ([9, 8], [9]), ([10], [10]), ([11, 10], [10, 11]), ([10], [10]), ([13, 10], [10, 13]), ([12, 14, 10, 10], [10, 12, 14]), ([10, 15], [10, 15]), ([16, 15], [16]), ([17], [17]), ([18, 17], [17, 18]), ([19, 17, 17], [17, 19]), ([17], [17]), ([21, 17], [17, 21]), ([22, 20, 17], [17, 22]), ([23, 17], [17, 23]), ([20, 24, 17], [17, 20, 24]), ([17, 25], [17, 25]), ([26, 23, 0, 1, 2, 3, 4, 5, 6, 7, 8, 9, 10, 11, 12, 13, 14, 15, 16, 17, 18, 19, 20, 21, 22, 23, 24, 25, 26], [26])])
def impl_Complex_isPair.B1 : List Nat := [0, 0, 2, 7, 15, 31, 31, 95, 255, 511, 1023, 2047, 4095, 2047, 10239, 32767, 65535, 131071, 262143, 524287, 1048575, 262143, 2359295, 8388607, 16777215, 33554431, 67108863, 134217727]
theorem impl_Complex_isPair.tab1 : rtab .any (opsOf Try.f114 1) = impl_Complex_isPair.T1 := by kernel_rfl
theorem impl_Complex_isPair.bits1 : waitsOk impl_Complex_isPair.T1.2 impl_Complex_isPair.B1 = true := by kernel_rfl
set_option maxHeartbeats 8000000 in
set_option maxRecDepth 100000 in
theorem impl_Complex_isPair.calls (a0_0 : Int) (A0_1 : Option Addr) (c0_1 : Nat) (l0_1 : List Int) (a1_0 : Int) (a1_1 : Int) (r : Bool) (w : World) (hr0_1 : Kd.C (Kd.int .i64) w A0_1 l0_1.length l0_1) (hc0_1 : l0_1.length ≤ c0_1) (h : impl_Complex_isPair.f a0_0 l0_1 a1_0 a1_1 = some r) :
  Calls Try.prog 114 #[.agg #[.int .i64 a0_0, .slice A0_1 l0_1.length c0_1], .agg #[.int .i64 a1_0, .int .i64 a1_1]] w fun e w' => e = .returned (.bool r) ∧ Below w.heap.size w w' := by
 have hu28 := Try.underlying28
 have hu73 := Try.underlying73
 have HR0_1 := Aside0.mk hr0_1
 have HC0_1 := Aside0.mk hc0_1
 clear hr0_1 hc0_1
 have HB := Aside0.mk (Below.refl w.heap.size w)
 have H : ((impl_Complex_has.f a0_0 l0_1 a1_0).bind fun t104 => (if t104 = true then ((impl_Complex_has.f a0_0 l0_1 a1_1).bind fun t105 => (if t105 = true then ((impl_isIn.f a1_0 a1_1).bind fun t106 => (if t106 = true then ((impl_size.f a1_1).bind fun t107 => ((impl_size.f a1_0).bind fun t108 => (some (t107 == (wrap64 (t108 + 1)))))) else (some false))) else (some false))) else (some false))) = some r := h
 clear h
 replace H := Option.bind_eq_some_iff.mp H
 obtain ⟨t104, A30, H⟩ := H
 try dsimp only at H
 have A3 := Aside0.mk A30
 clear A30
 by_cases c4 : t104 = true
 ·subst c4
  have H1 : ((impl_Complex_has.f a0_0 l0_1 a1_1).bind fun t105 => (if t105 = true then ((impl_isIn.f a1_0 a1_1).bind fun t106 => (if t106 = true then ((impl_size.f a1_1).bind fun t107 => ((impl_size.f a1_0).bind fun t108 => (some (t107 == (wrap64 (t108 + 1)))))) else (some false))) else (some false))) = some r := by rw [if_pos rfl] at H; exact H
  clear H
  have H := H1
  clear H1
  replace H := Option.bind_eq_some_iff.mp H
  obtain ⟨t105, A50, H⟩ := H
  try dsimp only at H
  have A5 := Aside0.mk A50
  clear A50
  by_cases c6 : t105 = true
  ·subst c6
   have H1 : ((impl_isIn.f a1_0 a1_1).bind fun t106 => (if t106 = true then ((impl_size.f a1_1).bind fun t107 => ((impl_size.f a1_0).bind fun t108 => (some (t107 == (wrap64 (t108 + 1)))))) else (some false))) = some r := by rw [if_pos rfl] at H; exact H
   clear H
   have H := H1
   clear H1
   replace H := Option.bind_eq_some_iff.mp H
   obtain ⟨t106, A70, H⟩ := H
   try dsimp only at H
   have A7 := Aside0.mk A70
   clear A70
   by_cases c8 : t106 = true
   ·subst c8
    have H1 : ((impl_size.f a1_1).bind fun t107 => ((impl_size.f a1_0).bind fun t108 => (some (t107 == (wrap64 (t108 + 1)))))) = some r := by rw [if_pos rfl] at H; exact H
    clear H
    have H := H1
    clear H1
    replace H := Option.bind_eq_some_iff.mp H
    obtain ⟨t107, A90, H⟩ := H
    try dsimp only at H
    have A9 := Aside0.mk A90
    clear A90
    replace H := Option.bind_eq_some_iff.mp H
    obtain ⟨t108, A100, H⟩ := H
    try dsimp only at H
    have A10 := Aside0.mk A100
    clear A100
    obtain rfl := Option.some.inj H
    go_enter Try.func114, Try.ntmps114
    try go_wp2_with (first | ((with_reducible refine gate_dst (N := 2) rfl ?_); refine box_event ?hg (N := 2) ?hd (cs := #[.int .i64 a0_0, .slice A0_1 l0_1.length c0_1]) (t := 28) ?hr ?_; (case hd => rfl); (case hg => rfl); (case hr => first | (go_simp; done) | (go_simp; rfl)); intro gb102 hg w11 hbox hb; have BK102 := Aside0.mk (hbox); have GW102 := gH HB hg; have GE102 := gH HB hg; replace HB := sH HB hb; clear hb hbox hg) | ((with_reducible refine gate_dst (N := 3) rfl ?_); refine box_event ?hg (N := 3) ?hd (cs := #[.int .i64 a1_0, .int .i64 a1_1]) (t := 73) ?hr ?_; (case hd => rfl); (case hg => rfl); (case hr => first | (go_simp; done) | (go_simp; rfl)); intro gb103 hg w12 hbox hb; have BK103 := Aside0.mk (hbox); have GW103 := gH HB hg; have GE103 := gH HB hg; replace HB := sH HB hb; have NB102_103 := nB BK102 hg; have NB103_102 := oB BK102 hg; replace BK102 := sB BK102 hb; clear hb hbox hg))
    replace BK102 := dB BK102
    replace BK103 := dB BK103
    replace HB := dH HB
    refine st_ 28 (S := fun w' => w'.cell? ⟨gb102, 0, none⟩ = some (.int .i64 a0_0) ∧ w'.cell? ⟨gb102, 1, none⟩ = some (.slice A0_1 l0_1.length c0_1) ∧ w'.cell? ⟨gb103, 0, none⟩ = some (.int .i64 a1_0) ∧ w'.cell? ⟨gb103, 1, none⟩ = some (.int .i64 a1_1)) (ds := []) ⟨cB BK102 0, cB BK102 1, cB BK103 0, cB BK103 1⟩ (fun hHeld => ?_); refine with_tabW impl_Complex_isPair.tab1 impl_Complex_isPair.bits1 (fun HT_ HW_ => ?_)
    generalize w12.drew = w13 at BK102 BK103 HB hHeld ⊢
    refine pu_ 1 6 2 HT_ ?_
    refine tk_ 0 5 3 HT_ HW_ hHeld ?_
    refine tk_ 2 7 7 HT_ HW_ hHeld ?_
    refine on_ 3 (some 8) 15 HT_ (fun K hK => ?_)
    refine ca_ Try.func156 #[.agg #[.int .i64 a0_0, .slice A0_1 l0_1.length c0_1], .int .i64 a1_0] ?_
    with_reducible refine (impl_Complex_has.calls a0_0 _ _ l0_1 a1_0 true _ ?side1 ?side2 A3.out).mono ?_
    (case side1 => exact pC ((Kd.C_below HR0_1.out HB.out)))
    (case side2 => exact HC0_1.out)
    rintro e w14 ⟨rfl, hb⟩
    refine ⟨_, rfl, ?_⟩
    replace BK102 := sB BK102 hb
    replace BK103 := sB BK103 hb
    replace HB := sH HB hb
    (try clear hb)
    (try clear hb2)
    (try clear hk)
    (try clear hi)
    refine hK.out _ _ ⟨cB BK102 0, cB BK102 1, cB BK103 0, cB BK103 1⟩ (fun hHeld => ?_)
    clear hK K
    refine nm_ ?_
    refine pu_ 4 9 31 HT_ ?_
    refine pu_ 6 11 95 HT_ ?_
    refine tk_ 5 10 127 HT_ HW_ hHeld ?_
    refine tk_ 7 12 255 HT_ HW_ hHeld ?_
    refine on_ 8 (some 13) 511 HT_ (fun K hK => ?_)
    refine ca_ Try.func156 #[.agg #[.int .i64 a0_0, .slice A0_1 l0_1.length c0_1], .int .i64 a1_1] ?_
    with_reducible refine (impl_Complex_has.calls a0_0 _ _ l0_1 a1_1 true _ ?side1 ?side2 A5.out).mono ?_
    (case side1 => exact pC ((Kd.C_below HR0_1.out HB.out)))
    (case side2 => exact HC0_1.out)
    rintro e w15 ⟨rfl, hb⟩
    refine ⟨_, rfl, ?_⟩
    replace BK102 := sB BK102 hb
    replace BK103 := sB BK103 hb
    replace HB := sH HB hb
    (try clear hb)
    (try clear hb2)
    (try clear hk)
    (try clear hi)
    refine hK.out _ _ ⟨cB BK102 0, cB BK102 1, cB BK103 0, cB BK103 1⟩ (fun hHeld => ?_)
    clear hK K
    refine nm_ ?_
    refine pu_ 9 14 1023 HT_ ?_
    refine pu_ 10 15 2047 HT_ ?_
    refine pu_ 11 16 4095 HT_ ?_
    refine pu_ 13 18 12287 HT_ ?_
    refine tk_ 12 17 16383 HT_ HW_ hHeld ?_
    refine tk_ 14 19 32767 HT_ HW_ hHeld ?_
    refine on_ 15 (some 20) 65535 HT_ (fun K hK => ?_)
    refine ca_ Try.func92 #[.int .i64 a1_0, .int .i64 a1_1] ?_
    with_reducible refine (impl_isIn.calls a1_0 a1_1 true _ A7.out).mono ?_
    rintro e w16 ⟨rfl, hb⟩
    refine ⟨_, rfl, ?_⟩
    replace BK102 := sB BK102 hb
    replace BK103 := sB BK103 hb
    replace HB := sH HB hb
    (try clear hb)
    (try clear hb2)
    (try clear hk)
    (try clear hi)
    refine hK.out _ _ ⟨cB BK102 0, cB BK102 1, cB BK103 0, cB BK103 1⟩ (fun hHeld => ?_)
    clear hK K
    refine nm_ ?_
    refine pu_ 16 21 131071 HT_ ?_
    refine pu_ 17 22 262143 HT_ ?_
    refine pu_ 18 23 524287 HT_ ?_
    refine pu_ 21 26 2621439 HT_ ?_
    refine tk_ 19 24 3145727 HT_ HW_ hHeld ?_
    refine tk_ 22 27 7340031 HT_ HW_ hHeld ?_
    refine on_ 20 (some 25) 8388607 HT_ (fun K hK => ?_)
    refine ca_ Try.func136 #[.int .i64 a1_1] ?_
    with_reducible refine (impl_size.calls a1_1 t107 _ A9.out).mono ?_
    rintro e w' ⟨rfl, ⟨nd, rfl⟩⟩
    refine ⟨_, rfl, ?_⟩
    refine hK.out _ _ ⟨cB BK102 0, cB BK102 1, cB BK103 0, cB BK103 1⟩ (fun hHeld => ?_)
    clear hK K
    refine nm_ ?_
    refine on_ 23 (some 28) 16777215 HT_ (fun K hK => ?_)
    refine ca_ Try.func136 #[.int .i64 a1_0] ?_
    with_reducible refine (impl_size.calls a1_0 t108 _ A10.out).mono ?_
    rintro e w' ⟨rfl, ⟨nd, rfl⟩⟩
    refine ⟨_, rfl, ?_⟩
    refine hK.out _ _ ⟨cB BK102 0, cB BK102 1, cB BK103 0, cB BK103 1⟩ (fun hHeld => ?_)
    clear hK K
    refine nm_ ?_
    refine pu_ 24 29 33554431 HT_ ?_
    refine pu_ 25 30 67108863 HT_ ?_
    refine pu_ 26 31 134217727 HT_ ?_
    refine pu_ 27 4 268435455 HT_ ?_
    refine dn_ HT_ ?_
    try go_wp2
    go_ret
    exact ⟨by first | rfl | (simp [errW_none, errW_some] <;> rfl) | (simp [*, errW_none, errW_some] <;> rfl) | (exfalso; simp_all), pH HB⟩
   ·replace c8 := Bool.eq_false_iff.mpr c8
    subst c8
    have H1 : (some false) = some r := by rw [if_neg (show ¬ (false = true) by decide)] at H; exact H
    clear H
    have H := H1
    clear H1
    obtain rfl := Option.some.inj H
    go_enter Try.func114, Try.ntmps114
    try go_wp2_with (first | ((with_reducible refine gate_dst (N := 2) rfl ?_); refine box_event ?hg (N := 2) ?hd (cs := #[.int .i64 a0_0, .slice A0_1 l0_1.length c0_1]) (t := 28) ?hr ?_; (case hd => rfl); (case hg => rfl); (case hr => first | (go_simp; done) | (go_simp; rfl)); intro gb102 hg w17 hbox hb; have BK102 := Aside0.mk (hbox); have GW102 := gH HB hg; have GE102 := gH HB hg; replace HB := sH HB hb; clear hb hbox hg) | ((with_reducible refine gate_dst (N := 3) rfl ?_); refine box_event ?hg (N := 3) ?hd (cs := #[.int .i64 a1_0, .int .i64 a1_1]) (t := 73) ?hr ?_; (case hd => rfl); (case hg => rfl); (case hr => first | (go_simp; done) | (go_simp; rfl)); intro gb103 hg w18 hbox hb; have BK103 := Aside0.mk (hbox); have GW103 := gH HB hg; have GE103 := gH HB hg; replace HB := sH HB hb; have NB102_103 := nB BK102 hg; have NB103_102 := oB BK102 hg; replace BK102 := sB BK102 hb; clear hb hbox hg))
    replace BK102 := dB BK102
    replace BK103 := dB BK103
    replace HB := dH HB
    refine st_ 28 (S := fun w' => w'.cell? ⟨gb102, 0, none⟩ = some (.int .i64 a0_0) ∧ w'.cell? ⟨gb102, 1, none⟩ = some (.slice A0_1 l0_1.length c0_1) ∧ w'.cell? ⟨gb103, 0, none⟩ = some (.int .i64 a1_0) ∧ w'.cell? ⟨gb103, 1, none⟩ = some (.int .i64 a1_1)) (ds := []) ⟨cB BK102 0, cB BK102 1, cB BK103 0, cB BK103 1⟩ (fun hHeld => ?_); refine with_tabW impl_Complex_isPair.tab1 impl_Complex_isPair.bits1 (fun HT_ HW_ => ?_)
    generalize w18.drew = w19 at BK102 BK103 HB hHeld ⊢
    refine pu_ 1 6 2 HT_ ?_
    refine tk_ 0 5 3 HT_ HW_ hHeld ?_
    refine tk_ 2 7 7 HT_ HW_ hHeld ?_
    refine on_ 3 (some 8) 15 HT_ (fun K hK => ?_)
    refine ca_ Try.func156 #[.agg #[.int .i64 a0_0, .slice A0_1 l0_1.length c0_1], .int .i64 a1_0] ?_
    with_reducible refine (impl_Complex_has.calls a0_0 _ _ l0_1 a1_0 true _ ?side1 ?side2 A3.out).mono ?_
    (case side1 => exact pC ((Kd.C_below HR0_1.out HB.out)))
    (case side2 => exact HC0_1.out)
    rintro e w20 ⟨rfl, hb⟩
    refine ⟨_, rfl, ?_⟩
    replace BK102 := sB BK102 hb
    replace BK103 := sB BK103 hb
    replace HB := sH HB hb
    (try clear hb)
    (try clear hb2)
    (try clear hk)
    (try clear hi)
    refine hK.out _ _ ⟨cB BK102 0, cB BK102 1, cB BK103 0, cB BK103 1⟩ (fun hHeld => ?_)
    clear hK K
    refine nm_ ?_
    refine pu_ 4 9 31 HT_ ?_
    refine pu_ 6 11 95 HT_ ?_
    refine tk_ 5 10 127 HT_ HW_ hHeld ?_
    refine tk_ 7 12 255 HT_ HW_ hHeld ?_
    refine on_ 8 (some 13) 511 HT_ (fun K hK => ?_)
    refine ca_ Try.func156 #[.agg #[.int .i64 a0_0, .slice A0_1 l0_1.length c0_1], .int .i64 a1_1] ?_
    with_reducible refine (impl_Complex_has.calls a0_0 _ _ l0_1 a1_1 true _ ?side1 ?side2 A5.out).mono ?_
    (case side1 => exact pC ((Kd.C_below HR0_1.out HB.out)))
    (case side2 => exact HC0_1.out)
    rintro e w21 ⟨rfl, hb⟩
    refine ⟨_, rfl, ?_⟩
    replace BK102 := sB BK102 hb
    replace BK103 := sB BK103 hb
    replace HB := sH HB hb
    (try clear hb)
    (try clear hb2)
    (try clear hk)
    (try clear hi)
    refine hK.out _ _ ⟨cB BK102 0, cB BK102 1, cB BK103 0, cB BK103 1⟩ (fun hHeld => ?_)
    clear hK K
    refine nm_ ?_
    refine pu_ 9 14 1023 HT_ ?_
    refine pu_ 10 15 2047 HT_ ?_
    refine pu_ 11 16 4095 HT_ ?_
    refine pu_ 13 18 12287 HT_ ?_
    refine tk_ 12 17 16383 HT_ HW_ hHeld ?_
    refine tk_ 14 19 32767 HT_ HW_ hHeld ?_
    refine on_ 15 (some 20) 65535 HT_ (fun K hK => ?_)
    refine ca_ Try.func92 #[.int .i64 a1_0, .int .i64 a1_1] ?_
    with_reducible refine (impl_isIn.calls a1_0 a1_1 false _ A7.out).mono ?_
    rintro e w22 ⟨rfl, hb⟩
    refine ⟨_, rfl, ?_⟩
    replace BK102 := sB BK102 hb
    replace BK103 := sB BK103 hb
    replace HB := sH HB hb
    (try clear hb)
    (try clear hb2)
    (try clear hk)
    (try clear hi)
    refine hK.out _ _ ⟨cB BK102 0, cB BK102 1, cB BK103 0, cB BK103 1⟩ (fun hHeld => ?_)
    clear hK K
    refine nm_ ?_
    refine pu_ 16 21 131071 HT_ ?_
    refine pu_ 17 22 262143 HT_ ?_
    refine pn_ 18 23 524287 HT_ ?_
    refine pn_ 19 24 1048575 HT_ ?_
    refine pn_ 20 25 2097151 HT_ ?_
    refine pn_ 21 26 4194303 HT_ ?_
    refine pn_ 22 27 8388607 HT_ ?_
    refine pn_ 23 28 16777215 HT_ ?_
    refine pn_ 24 29 33554431 HT_ ?_
    refine pn_ 25 30 67108863 HT_ ?_
    refine pu_ 26 31 134217727 HT_ ?_
    refine pu_ 27 4 268435455 HT_ ?_
    refine dn_ HT_ ?_
    try go_wp2
    go_ret
    exact ⟨by first | rfl | (simp [errW_none, errW_some] <;> rfl) | (simp [*, errW_none, errW_some] <;> rfl) | (exfalso; simp_all), pH HB⟩
  ·replace c6 := Bool.eq_false_iff.mpr c6
   subst c6
   have H1 : (some false) = some r := by rw [if_neg (show ¬ (false = true) by decide)] at H; exact H
   clear H
   have H := H1
   clear H1
   obtain rfl := Option.some.inj H
   go_enter Try.func114, Try.ntmps114
   try go_wp2_with (first | ((with_reducible refine gate_dst (N := 2) rfl ?_); refine box_event ?hg (N := 2) ?hd (cs := #[.int .i64 a0_0, .slice A0_1 l0_1.length c0_1]) (t := 28) ?hr ?_; (case hd => rfl); (case hg => rfl); (case hr => first | (go_simp; done) | (go_simp; rfl)); intro gb102 hg w23 hbox hb; have BK102 := Aside0.mk (hbox); have GW102 := gH HB hg; have GE102 := gH HB hg; replace HB := sH HB hb; clear hb hbox hg) | ((with_reducible refine gate_dst (N := 3) rfl ?_); refine box_event ?hg (N := 3) ?hd (cs := #[.int .i64 a1_0, .int .i64 a1_1]) (t := 73) ?hr ?_; (case hd => rfl); (case hg => rfl); (case hr => first | (go_simp; done) | (go_simp; rfl)); intro gb103 hg w24 hbox hb; have BK103 := Aside0.mk (hbox); have GW103 := gH HB hg; have GE103 := gH HB hg; replace HB := sH HB hb; have NB102_103 := nB BK102 hg; have NB103_102 := oB BK102 hg; replace BK102 := sB BK102 hb; clear hb hbox hg))
   replace BK102 := dB BK102
   replace BK103 := dB BK103
   replace HB := dH HB
   refine st_ 28 (S := fun w' => w'.cell? ⟨gb102, 0, none⟩ = some (.int .i64 a0_0) ∧ w'.cell? ⟨gb102, 1, none⟩ = some (.slice A0_1 l0_1.length c0_1) ∧ w'.cell? ⟨gb103, 0, none⟩ = some (.int .i64 a1_0) ∧ w'.cell? ⟨gb103, 1, none⟩ = some (.int .i64 a1_1)) (ds := []) ⟨cB BK102 0, cB BK102 1, cB BK103 0, cB BK103 1⟩ (fun hHeld => ?_); refine with_tabW impl_Complex_isPair.tab1 impl_Complex_isPair.bits1 (fun HT_ HW_ => ?_)
   generalize w24.drew = w25 at BK102 BK103 HB hHeld ⊢
   refine pu_ 1 6 2 HT_ ?_
   refine tk_ 0 5 3 HT_ HW_ hHeld ?_
   refine tk_ 2 7 7 HT_ HW_ hHeld ?_
   refine on_ 3 (some 8) 15 HT_ (fun K hK => ?_)
   refine ca_ Try.func156 #[.agg #[.int .i64 a0_0, .slice A0_1 l0_1.length c0_1], .int .i64 a1_0] ?_
   with_reducible refine (impl_Complex_has.calls a0_0 _ _ l0_1 a1_0 true _ ?side1 ?side2 A3.out).mono ?_
   (case side1 => exact pC ((Kd.C_below HR0_1.out HB.out)))
   (case side2 => exact HC0_1.out)
   rintro e w26 ⟨rfl, hb⟩
   refine ⟨_, rfl, ?_⟩
   replace BK102 := sB BK102 hb
   replace BK103 := sB BK103 hb
   replace HB := sH HB hb
   (try clear hb)
   (try clear hb2)
   (try clear hk)
   (try clear hi)
   refine hK.out _ _ ⟨cB BK102 0, cB BK102 1, cB BK103 0, cB BK103 1⟩ (fun hHeld => ?_)
   clear hK K
   refine nm_ ?_
   refine pu_ 4 9 31 HT_ ?_
   refine pu_ 6 11 95 HT_ ?_
   refine tk_ 5 10 127 HT_ HW_ hHeld ?_
   refine tk_ 7 12 255 HT_ HW_ hHeld ?_
   refine on_ 8 (some 13) 511 HT_ (fun K hK => ?_)
   refine ca_ Try.func156 #[.agg #[.int .i64 a0_0, .slice A0_1 l0_1.length c0_1], .int .i64 a1_1] ?_
   with_reducible refine (impl_Complex_has.calls a0_0 _ _ l0_1 a1_1 false _ ?side1 ?side2 A5.out).mono ?_
   (case side1 => exact pC ((Kd.C_below HR0_1.out HB.out)))
   (case side2 => exact HC0_1.out)
   rintro e w27 ⟨rfl, hb⟩
   refine ⟨_, rfl, ?_⟩
   replace BK102 := sB BK102 hb
   replace BK103 := sB BK103 hb
   replace HB := sH HB hb
   (try clear hb)
   (try clear hb2)
   (try clear hk)
   (try clear hi)
   refine hK.out _ _ ⟨cB BK102 0, cB BK102 1, cB BK103 0, cB BK103 1⟩ (fun hHeld => ?_)
   clear hK K
   refine nm_ ?_
   refine pu_ 9 14 1023 HT_ ?_
   refine pu_ 10 15 2047 HT_ ?_
   refine pn_ 11 16 4095 HT_ ?_
   refine pn_ 12 17 8191 HT_ ?_
   refine pn_ 13 18 16383 HT_ ?_
   refine pn_ 14 19 32767 HT_ ?_
   refine pn_ 15 20 65535 HT_ ?_
   refine pu_ 16 21 131071 HT_ ?_
   refine pu_ 17 22 262143 HT_ ?_
   refine pn_ 18 23 524287 HT_ ?_
   refine pn_ 19 24 1048575 HT_ ?_
   refine pn_ 20 25 2097151 HT_ ?_
   refine pn_ 21 26 4194303 HT_ ?_
   refine pn_ 22 27 8388607 HT_ ?_
   refine pn_ 23 28 16777215 HT_ ?_
   refine pn_ 24 29 33554431 HT_ ?_
   refine pn_ 25 30 67108863 HT_ ?_
   refine pu_ 26 31 134217727 HT_ ?_
   refine pu_ 27 4 268435455 HT_ ?_
   refine dn_ HT_ ?_
   try go_wp2
   go_ret
   exact ⟨by first | rfl | (simp [errW_none, errW_some] <;> rfl) | (simp [*, errW_none, errW_some] <;> rfl) | (exfalso; simp_all), pH HB⟩
 ·replace c4 := Bool.eq_false_iff.mpr c4
  subst c4
  have H1 : (some false) = some r := by rw [if_neg (show ¬ (false = true) by decide)] at H; exact H
  clear H
  have H := H1
  clear H1
  obtain rfl := Option.some.inj H
  go_enter Try.func114, Try.ntmps114
  try go_wp2_with (first | ((with_reducible refine gate_dst (N := 2) rfl ?_); refine box_event ?hg (N := 2) ?hd (cs := #[.int .i64 a0_0, .slice A0_1 l0_1.length c0_1]) (t := 28) ?hr ?_; (case hd => rfl); (case hg => rfl); (case hr => first | (go_simp; done) | (go_simp; rfl)); intro gb102 hg w28 hbox hb; have BK102 := Aside0.mk (hbox); have GW102 := gH HB hg; have GE102 := gH HB hg; replace HB := sH HB hb; clear hb hbox hg) | ((with_reducible refine gate_dst (N := 3) rfl ?_); refine box_event ?hg (N := 3) ?hd (cs := #[.int .i64 a1_0, .int .i64 a1_1]) (t := 73) ?hr ?_; (case hd => rfl); (case hg => rfl); (case hr => first | (go_simp; done) | (go_simp; rfl)); intro gb103 hg w29 hbox hb; have BK103 := Aside0.mk (hbox); have GW103 := gH HB hg; have GE103 := gH HB hg; replace HB := sH HB hb; have NB102_103 := nB BK102 hg; have NB103_102 := oB BK102 hg; replace BK102 := sB BK102 hb; clear hb hbox hg))
  replace BK102 := dB BK102
  replace BK103 := dB BK103
  replace HB := dH HB
  refine st_ 28 (S := fun w' => w'.cell? ⟨gb102, 0, none⟩ = some (.int .i64 a0_0) ∧ w'.cell? ⟨gb102, 1, none⟩ = some (.slice A0_1 l0_1.length c0_1) ∧ w'.cell? ⟨gb103, 0, none⟩ = some (.int .i64 a1_0) ∧ w'.cell? ⟨gb103, 1, none⟩ = some (.int .i64 a1_1)) (ds := []) ⟨cB BK102 0, cB BK102 1, cB BK103 0, cB BK103 1⟩ (fun hHeld => ?_); refine with_tabW impl_Complex_isPair.tab1 impl_Complex_isPair.bits1 (fun HT_ HW_ => ?_)
  generalize w29.drew = w30 at BK102 BK103 HB hHeld ⊢
  refine pu_ 1 6 2 HT_ ?_
  refine tk_ 0 5 3 HT_ HW_ hHeld ?_
  refine tk_ 2 7 7 HT_ HW_ hHeld ?_
  refine on_ 3 (some 8) 15 HT_ (fun K hK => ?_)
  refine ca_ Try.func156 #[.agg #[.int .i64 a0_0, .slice A0_1 l0_1.length c0_1], .int .i64 a1_0] ?_
  with_reducible refine (impl_Complex_has.calls a0_0 _ _ l0_1 a1_0 false _ ?side1 ?side2 A3.out).mono ?_
  (case side1 => exact pC ((Kd.C_below HR0_1.out HB.out)))
  (case side2 => exact HC0_1.out)
  rintro e w31 ⟨rfl, hb⟩
  refine ⟨_, rfl, ?_⟩
  replace BK102 := sB BK102 hb
  replace BK103 := sB BK103 hb
  replace HB := sH HB hb
  (try clear hb)
  (try clear hb2)
  (try clear hk)
  (try clear hi)
  refine hK.out _ _ ⟨cB BK102 0, cB BK102 1, cB BK103 0, cB BK103 1⟩ (fun hHeld => ?_)
  clear hK K
  refine nm_ ?_
  refine pu_ 4 9 31 HT_ ?_
  refine pn_ 5 10 63 HT_ ?_
  refine pn_ 6 11 127 HT_ ?_
  refine pn_ 7 12 255 HT_ ?_
  refine pn_ 8 13 511 HT_ ?_
  refine pu_ 9 14 1023 HT_ ?_
  refine pu_ 10 15 2047 HT_ ?_
  refine pn_ 11 16 4095 HT_ ?_
  refine pn_ 12 17 8191 HT_ ?_
  refine pn_ 13 18 16383 HT_ ?_
  refine pn_ 14 19 32767 HT_ ?_
  refine pn_ 15 20 65535 HT_ ?_
  refine pu_ 16 21 131071 HT_ ?_
  refine pu_ 17 22 262143 HT_ ?_
  refine pn_ 18 23 524287 HT_ ?_
  refine pn_ 19 24 1048575 HT_ ?_
  refine pn_ 20 25 2097151 HT_ ?_
  refine pn_ 21 26 4194303 HT_ ?_
  refine pn_ 22 27 8388607 HT_ ?_
  refine pn_ 23 28 16777215 HT_ ?_
  refine pn_ 24 29 33554431 HT_ ?_
  refine pn_ 25 30 67108863 HT_ ?_
  refine pu_ 26 31 134217727 HT_ ?_
  refine pu_ 27 4 268435455 HT_ ?_
  refine dn_ HT_ ?_
  try go_wp2
  go_ret
  exact ⟨by first | rfl | (simp [errW_none, errW_some] <;> rfl) | (simp [*, errW_none, errW_some] <;> rfl) | (exfalso; simp_all), pH HB⟩
def impl_steps_1.f (a0_0 : Int) (a0_1 : Int) (a1_0 : Int) : Option (Bool) := some (a0_0 == a1_0)
set_option maxHeartbeats 8000000 in
set_option maxRecDepth 100000 in
theorem impl_steps_1.calls (a0_0 : Int) (a0_1 : Int) (g1 : Nat) (a1_0 : Int) (r : Bool) (w : World) (hb1 : w.heap[g1]? = some (.cells #[.int .i64 a1_0] 2 (0, 0))) (h : impl_steps_1.f a0_0 a0_1 a1_0 = some r) :
  Calls Try.prog 200 #[.agg #[.int .i64 a0_0, .int .i64 a0_1], .pointer (some ⟨g1, 0, none⟩)] w fun e w' => e = .returned (.bool r) ∧ Below w.heap.size w w' := by
 have hu73 := Try.underlying73
 have BK114 := Aside0.mk hb1
 clear hb1
 have HB := Aside0.mk (Below.refl w.heap.size w)
 have H : (some (a0_0 == a1_0)) = some r := h
 clear h
 obtain rfl := Option.some.inj H
 go_enter Try.func200, Try.ntmps200
 go_wp2_with (first | ((with_reducible refine gate_dst (N := 2) rfl ?_); refine box_event ?hg (N := 2) ?hd (cs := #[.int .i64 a0_0, .int .i64 a0_1]) (t := 73) ?hr ?_; (case hd => rfl); (case hg => rfl); (case hr => first | (go_simp; done) | (go_simp; rfl)); intro gb115 hg w3 hbox hb; have BK115 := Aside0.mk (hbox); have GW115 := gH HB hg; have GE115 := gH HB hg; replace HB := sH HB hb; have NB114_115 := nB BK114 hg; have NB115_114 := oB BK114 hg; replace BK114 := sB BK114 hb; clear hb hbox hg; (try have hnb4 := NB115_114.out); (try have hnc4 := NB114_115.out); have hcz5_0 : w3.cell? ⟨gb115, 0, none⟩ = some (.int .i64 a0_0) := cB BK115 0; have hcz5_1 : w3.cell? ⟨gb115, 1, none⟩ = some (.int .i64 a0_1) := cB BK115 1; have hfz5_0 := zB BK115 0; have hfz5_1 := zB BK115 1; have hcz6_0 : w3.cell? ⟨g1, 0, none⟩ = some (.int .i64 a1_0) := cB BK114 0; have hfz6_0 := zB BK114 0))
 go_ret
 exact ⟨by first | rfl | (simp [errW_none, errW_some] <;> rfl) | (simp [*, errW_none, errW_some] <;> rfl) | (exfalso; simp_all), pH HB⟩
def clo_200 (a1_0 : Int) : Pred := Pred.ofP (fun x y => impl_steps_1.f x y a1_0)
set_option maxRecDepth 100000 in
theorem clo_ok_200 {W : World} {g1 : Nat} {a1_0 : Int} (hb1 : W.heap[g1]? = some (.cells #[.int .i64 a1_0] 2 (0, 0)))  : FnOk (.func (.func 200) #[] #[.pointer (some ⟨g1, 0, none⟩)]) (clo_200 a1_0) W :=
 FnOk.ofP (enters_of Try.func200 (by kernel_rfl) rfl) (fun V x y b hV hr => by
  show Calls Try.prog 200 #[.agg #[.int .i64 x, .int .i64 y], .pointer (some ⟨g1, 0, none⟩)] V _
  exact (impl_steps_1.calls x y g1 a1_0 b V ((hV.block g1 (blk_lt hb1)).trans hb1) hr).mono (fun e w' h_ => ⟨h_.1, h_.2⟩))
def impl_steps_2.f (a0 : Int) (a1_0 : Int) : Option (Bool) := some (a0 == a1_0)
set_option maxHeartbeats 8000000 in
set_option maxRecDepth 100000 in
theorem impl_steps_2.calls (a0 : Int) (g1 : Nat) (a1_0 : Int) (r : Bool) (w : World) (hb1 : w.heap[g1]? = some (.cells #[.int .i64 a1_0] 2 (0, 0))) (h : impl_steps_2.f a0 a1_0 = some r) :
  Calls Try.prog 201 #[.int .i64 a0, .pointer (some ⟨g1, 0, none⟩)] w fun e w' => e = .returned (.bool r) ∧ Drawn0 w w' := by
 have BK116 := Aside0.mk hb1
 clear hb1
 have H : (some (a0 == a1_0)) = some r := h
 clear h
 obtain rfl := Option.some.inj H
 have hcz3_0 : w.cell? ⟨g1, 0, none⟩ = some (.int .i64 a1_0) := cB BK116 0
 have hfz3_0 := zB BK116 0
 go_enter Try.func201, Try.ntmps201
 go_wp2
 go_ret
 exact ⟨by first | rfl | (simp; done) | (simp [*]; done), by repeat (first | exact Drawn0.refl _ | apply Drawn0.step)⟩
def clo_201 (a1_0 : Int) : Pred := Pred.ofI (fun x => impl_steps_2.f x a1_0)
set_option maxRecDepth 100000 in
theorem clo_ok_201 {W : World} {g1 : Nat} {a1_0 : Int} (hb1 : W.heap[g1]? = some (.cells #[.int .i64 a1_0] 2 (0, 0)))  : FnOk (.func (.func 201) #[] #[.pointer (some ⟨g1, 0, none⟩)]) (clo_201 a1_0) W :=
 FnOk.ofI (enters_of Try.func201 (by kernel_rfl) rfl) (fun V x b hV hr => by
  show Calls Try.prog 201 #[.int .i64 x, .pointer (some ⟨g1, 0, none⟩)] V _
  exact (impl_steps_2.calls x g1 a1_0 b V ((hV.block g1 (blk_lt hb1)).trans hb1) hr).mono (fun e w' h_ => ⟨h_.1, h_.2.below⟩))
def impl_steps.f (l0 : List (S73)) (a1 : Int) : Option (List Int) := (slices_IndexFunc_impl_Pair_impl_Pair.f l0 (clo_200 a1)).bind fun t118 => (if t118 < 0 then (some ([] : List Int)) else (if 0 ≤ t118 then (if t118 < (l0.length : Int) then ((impl_borders.f ((rd_T73 l0 t118).f1)).bind fun t120 => ((slices_DeleteFunc_int64_int64.f t120 (clo_201 a1)).bind fun t123 => (some t123))) else (none)) else (none)))
set_option maxHeartbeats 8000000 in
set_option maxRecDepth 100000 in
theorem impl_steps.calls (A0 : Option Addr) (c0 : Nat) (l0 : List (S73)) (a1 : Int) (r : List Int) (w : World) (hr0 : Kd.C k73 w A0 l0.length l0) (hc0 : l0.length ≤ c0) (h : impl_steps.f l0 a1 = some r) :
  Calls Try.prog 190 #[.slice A0 l0.length c0, .int .i64 a1] w fun e w' => ∃ v0_ : Value, e = .returned (v0_) ∧ Kd.R (Kd.int .i64) 2 w' w.heap.size (fun _ => True) v0_ r ∧ Below w.heap.size w w' := by
 have HR0 := Aside0.mk hr0
 have HC0 := Aside0.mk hc0
 clear hr0 hc0
 have HB := Aside0.mk (Below.refl w.heap.size w)
 have H : ((slices_IndexFunc_impl_Pair_impl_Pair.f l0 (clo_200 a1)).bind fun t118 => (if t118 < 0 then (some ([] : List Int)) else (if 0 ≤ t118 then (if t118 < (l0.length : Int) then ((impl_borders.f ((rd_T73 l0 t118).f1)).bind fun t120 => ((slices_DeleteFunc_int64_int64.f t120 (clo_201 a1)).bind fun t123 => (some t123))) else (none)) else (none)))) = some r := h
 clear h
 replace H := Option.bind_eq_some_iff.mp H
 obtain ⟨t118, A30, H⟩ := H
 try dsimp only at H
 have A3 := Aside0.mk A30
 clear A30
 by_cases c4 : t118 < 0
 ·rw [if_pos c4] at H
  have c4b0 : decide (t118 < 0) = true := decide_eq_true c4
  clear c4
  obtain rfl := Option.some.inj H
  go_enter Try.func190, Try.ntmps190
  go_wp2_with (first | ((with_reducible refine gate_dst (N := 3) rfl ?_); refine box_event ?hg (N := 3) ?hd (cs := #[.int .i64 a1]) (t := 2) ?hr ?_; (case hd => rfl); (case hg => rfl); (case hr => first | (go_simp; done) | (go_simp; rfl)); intro gb117 hg w5 hbox hb; have BK117 := Aside0.mk (hbox); have GW117 := gH HB hg; have GE117 := gH HB hg; replace HB := sH HB hb; clear hb hbox hg) | ((with_reducible refine gate_callee (f := 170) rfl ?_); refine cl_ (some 8) Try.func170 #[.slice A0 l0.length c0, .func (.func 200) #[] #[.pointer (some ⟨gb117, 0, none⟩)]] ?_; (with_reducible refine (slices_IndexFunc_impl_Pair_impl_Pair.calls _ _ l0 _ (clo_200 a1) t118 _ ?side1 ?side2 ?side3 A3.out).mono ?_); (case side1 => exact pC ((Kd.C_below HR0.out HB.out))); (case side2 => exact HC0.out); (case side3 => exact clo_ok_200 (pB BK117) ); rintro e w6 ⟨rfl, hb⟩; refine ⟨_, rfl, ?_⟩; replace BK117 := sB BK117 hb; replace HB := sH HB hb; (try clear hb); (try clear hi)))
  go_ret
  exact ⟨_, by first | rfl | (simp [errW_none, errW_some] <;> rfl) | (simp [*, errW_none, errW_some] <;> rfl) | (exfalso; simp_all), by first | exact Kd.R_nil _ _ _ _ _ | exact Kd.N_nil _ _ _ _ _ | exact Kd.V_nil _ _ _ _ _ | exact Kd.Q_nil _ _ _ _ _ | exact Kd.S_nil _ _ _ _ _, pH HB⟩
 ·rw [if_neg c4] at H
  have c4b0 : decide (t118 < 0) = false := decide_eq_false c4
  clear c4
  by_cases c7 : 0 ≤ t118
  ·rw [if_pos c7] at H
   have c7b0 : decide (0 ≤ t118) = true := decide_eq_true c7
   clear c7
   by_cases c8 : t118 < (l0.length : Int)
   ·rw [if_pos c8] at H
    have c8b0 : decide (t118 < (l0.length : Int)) = true := decide_eq_true c8
    clear c8
    replace H := Option.bind_eq_some_iff.mp H
    obtain ⟨t120, A90, H⟩ := H
    try dsimp only at H
    have A9 := Aside0.mk A90
    clear A90
    replace H := Option.bind_eq_some_iff.mp H
    obtain ⟨t123, A100, H⟩ := H
    try dsimp only at H
    have A10 := Aside0.mk A100
    clear A100
    obtain rfl := Option.some.inj H
    go_enter Try.func190, Try.ntmps190
    go_wp2_with (first | ((with_reducible refine gate_dst (N := 3) rfl ?_); refine box_event ?hg (N := 3) ?hd (cs := #[.int .i64 a1]) (t := 2) ?hr ?_; (case hd => rfl); (case hg => rfl); (case hr => first | (go_simp; done) | (go_simp; rfl)); intro gb117 hg w11 hbox hb; have BK117 := Aside0.mk (hbox); have GW117 := gH HB hg; have GE117 := gH HB hg; replace HB := sH HB hb; clear hb hbox hg) | ((with_reducible refine gate_callee (f := 170) rfl ?_); refine cl_ (some 8) Try.func170 #[.slice A0 l0.length c0, .func (.func 200) #[] #[.pointer (some ⟨gb117, 0, none⟩)]] ?_; (with_reducible refine (slices_IndexFunc_impl_Pair_impl_Pair.calls _ _ l0 _ (clo_200 a1) t118 _ ?side1 ?side2 ?side3 A3.out).mono ?_); (case side1 => exact pC ((Kd.C_below HR0.out HB.out))); (case side2 => exact HC0.out); (case side3 => exact clo_ok_200 (pB BK117) ); rintro e w12 ⟨rfl, hb⟩; refine ⟨_, rfl, ?_⟩; replace BK117 := sB BK117 hb; replace HB := sH HB hb; (try clear hb); (try clear hi); have p119 : 0 ≤ (t118 : Int) := of_decide_eq_true (by first | (with_reducible assumption) | assumption); have q119 : t118 < (l0.length : Int) := of_decide_eq_true (by first | (with_reducible assumption) | assumption); obtain ⟨ad119, e119, hx119_0, hx119_1⟩ := at_T73 HR0.out t118 p119 q119; cases e119; replace hx119_0 := cH HB hx119_0; replace hx119_1 := cH HB hx119_1; replace p119 := eq_true p119; replace q119 := eq_true q119) | ((with_reducible refine gate_callee (f := 155) rfl ?_); refine cl_ (some 16) Try.func155 #[.int .i64 ((rd_T73 l0 t118).f1)] ?_; (with_reducible refine (impl_borders.calls ((rd_T73 l0 t118).f1) t120 _ A9.out).mono ?_); rintro e w13 ⟨v121, rfl, ho0, hb⟩; refine ⟨_, rfl, ?_⟩; have HO122 := Aside0.mk (Kd.R_lower (Kd.R_newB ho0 (g := gb117) (o := .cells #[.int .i64 a1] 2 (0, 0)) (pB BK117)) (below_size (pH HB))); replace BK117 := sB BK117 hb; replace HB := sH HB hb; (try clear hb); (try clear hi); (try clear ho0); obtain ⟨Ao14, co14, eo14⟩ := Kd.R_slice HO122.out; subst eo14) | ((with_reducible refine gate_callee (f := 121) rfl ?_); refine cl_ (some 18) Try.func121 #[.slice Ao14 t120.length co14, .func (.func 201) #[] #[.pointer (some ⟨gb117, 0, none⟩)]] ?_; (with_reducible refine (slices_DeleteFunc_int64_int64.calls (fun k_ => some k_ = (.slice Ao14 t120.length co14 : Value).ownBlock) (.slice Ao14 t120.length co14) t120 _ (clo_201 a1) t123 w _ ?side1 ?side2 ?side3 A10.out).mono ?_); (case side1 => repeat (first | (with_reducible first | exact HB.out | apply below_alloc | apply pw_below_drewN | apply below_drew1 | refine below_set ?_ GE117.out) | exact HB.out)); (case side2 => exact Kd.R_tight rfl HO122.out); (case side3 => intro W_ hK_; exact clo_ok_201 (blk_kept (pB BK117) hK_ (fun hs_ => (fun e_ => (Kd.R_away HO122.out (fun _ hk => hk.2)) e_) hs_)) ); rintro e w15 ⟨v124, rfl, ho0, hb, hkp⟩; refine ⟨_, rfl, ?_⟩; have n0_ := Aside0.mk (blk_kept (pB BK117) hkp (fun hs_ => (fun e_ => (Kd.R_away HO122.out (fun _ hk => hk.2)) e_) hs_)); have n1_ := Aside0.mk (Kd.R_mono (ok' := fun k_ => k_ ≠ gb117) ho0 (fun k_ hk_ => Or.elim hk_ (fun hs_ => fun e_ => (Kd.R_away HO122.out (fun _ hk => hk.2)) (by rw [← e_]; exact hs_)) (fun hn_ => (Kd.freshB (g := gb117) (o := .cells #[.int .i64 a1] 2 (0, 0)) (pB BK117) k_ hn_)))); have n2_ := Aside0.mk (hb); clear BK117; clear HB; clear HO122; have BK117 := n0_; have HO125 := n1_; have HB := n2_; clear n0_ n1_ n2_; (try clear hb); (try clear hkp); (try clear ho0)))
    go_ret
    exact ⟨_, by first | rfl | (simp [errW_none, errW_some] <;> rfl) | (simp [*, errW_none, errW_some] <;> rfl) | (exfalso; simp_all), by (with_reducible repeat (first | apply Kd.R_alloc | apply Kd.R_drewN | apply Kd.R_drew)); exact Kd.R_mono HO125.out (fun _ hk => trivial), pH HB⟩
   ·rw [if_neg c8] at H
    exact absurd H (by simp)
  ·rw [if_neg c7] at H
   exact absurd H (by simp)
end Go.Proofs.Ytomdfjohnmikdaa.QA
namespace Go.Proofs.Ytomdfjohnmikdaa.Im
open Go.RowKit Go.Shelf Kp Ext Cw YtomdfjohnmikdaaW.PrintWords YtomdfjohnmikdaaW.PrintLast YtomdfjohnmikdaaW.PrintMore
def cmpI (a b : Int) : Int := if a < b then -1 else if a > b then 1 else 0
def cmpP (p q : Pr) : Int := if cmpI p.f0 q.f0 = 0 then cmpI p.f1 q.f1 else cmpI p.f0 q.f0
theorem firstP_nonneg (p : Pr → Bool) (xs : List Pr) : decide (firstP p xs ≥ 0) = xs.any p := by
  unfold firstP
  cases h : xs.any p with
  | true => simp
  | false => simp
set_option maxRecDepth 100000 in
theorem containsPair_c (A : Option Addr) (c : Nat) (xs : List Pr) (fv : Value) (dom : Pr → Prop) (p : Pr → Bool) (w : World) (hr : Kd.C k73 w A xs.length xs) (hf : FnP Try.prog fv dom p w) (hd : ∀ x ∈ xs, dom x) (hl : xs.length ≤ 1099511627776) :
    Calls Try.prog 124 #[.slice A xs.length c, fv] w fun e w' => e = .returned (.bool (xs.any p)) ∧ Below w.heap.size w w' := by
  rw [← firstP_nonneg]
  have hc := indexPair_c A c xs fv dom p w hr hf hd hl
  have HC := Aside0.mk hc
  clear hc hr hf hd
  generalize firstP p xs = r at HC ⊢
  go_enter Try.func124, Try.ntmps124
  go_wp2_with (go_at_call 170; refine HC.out.mono ?_; rintro e w' ⟨rfl, hb⟩)
  go_ret
  exact ⟨rfl, hb⟩
theorem areAllP1_f (b : Nat) (fv : Value) (dom : Pr → Prop) (p : Pr → Bool) (w : World) (hb : Boxed w b 115 fv) (hf : FnP Try.prog fv dom p w) :
    FnP Try.prog (.func (.func 189) #[] #[.pointer (some ⟨b, 0, none⟩)]) dom (fun x => !p x) w := by
  refine ⟨_, _, _, rfl, enters_of Try.func189 (by kernel_rfl) rfl, fun W x hW hx => ?_⟩
  obtain ⟨g, fs, lb, rfl, eg, hcall⟩ := hf
  have hb1 : Below W.heap.size W (W.alloc (.cells #[.int .i64 x.f0, .int .i64 x.f1] 73)) := (Below.refl _ W).alloc (Nat.le_refl _) _
  have hc := hcall _ x (hW.trans (hb1.mono hW.size)) hx
  have HC := Aside0.mk hc
  have HB := Aside0.mk hb1
  have hcell : W.cell? ⟨b, 0, none⟩ = some (.func (.func g) fs lb) := (hW.cell (p := ⟨b, 0, none⟩) hb.lt).trans hb.cell
  have hlt : b < W.heap.size := Nat.lt_of_lt_of_le hb.lt hW.size
  clear hc hcall hW hx hb hb1
  show Calls Try.prog 189 #[.agg #[.int .i64 x.f0, .int .i64 x.f1], .pointer (some ⟨b, 0, none⟩)] W fun e w' => e = .returned (.bool (!p x)) ∧ Below W.heap.size W w'
  generalize p x = r at HC ⊢
  have hc1 : (W.alloc (.cells #[.int .i64 x.f0, .int .i64 x.f1] 73)).cell? ⟨b, 0, none⟩ = some (.func (.func g) fs lb) := (HB.out.cell (p := ⟨b, 0, none⟩) hlt).trans hcell
  go_enter Try.func189, Try.ntmps189
  go_wp2_with (go_at_fn g; refine HC.out.mono ?_; rintro e w' ⟨rfl, hb⟩)
  go_ret
  exact ⟨rfl, below_in HB.out hb⟩
theorem all_not_anyP (p : Pr → Bool) (xs : List Pr) : xs.all p = !(xs.any fun x => !p x) := by
  induction xs with
  | nil => rfl
  | cons x xs ih => simp only [List.all_cons, List.any_cons, ih, Bool.not_or, Bool.not_not]
theorem areAllP_c (A : Option Addr) (c : Nat) (xs : List Pr) (fv : Value) (dom : Pr → Prop) (p : Pr → Bool) (w : World) (hr : Kd.C k73 w A xs.length xs) (hf : FnP Try.prog fv dom p w) (hd : ∀ x ∈ xs, dom x) (hl : xs.length ≤ 1099511627776) :
    Calls Try.prog 164 #[.slice A xs.length c, fv] w fun e w' => e = .returned (.bool (xs.all p)) ∧ Below w.heap.size w w' := by
  have hb1 : Below w.heap.size w (w.alloc (.cells #[fv] 115)) := (Below.refl _ w).alloc (Nat.le_refl _) _
  have hc := containsPair_c A c xs _ dom (fun x => !p x) (w.alloc (.cells #[fv] 115)) (Kd.C_below hr hb1) (areAllP1_f w.heap.size fv dom p _ (Boxed.new w _ fv) (hf.later hb1)) hd hl
  have he := all_not_anyP p xs
  rw [he]
  have HC := Aside0.mk hc
  have HB := Aside0.mk hb1
  clear hc hr hd he hb1
  obtain ⟨g, fs, lb, rfl, eg, hcall⟩ := hf
  clear hcall eg
  generalize (xs.any fun x => !p x) = r at HC ⊢
  go_enter Try.func164, Try.ntmps164
  go_wp2_with (go_at_call 124; refine HC.out.mono ?_; rintro e w' ⟨rfl, hb⟩)
  go_ret
  exact ⟨rfl, below_in HB.out hb⟩
section
variable {P : Program} {ops : Array Oper} {Q : Exit → Act → World → Prop} {a : Act} {w : World} {oi : Oper}
end
section
variable {P : Program} {ops : Array Oper} {Q : Exit → Act → World → Prop} {S : World → Prop} {ds : List Nat} {md : Region.Mode} {T : Bool × List (List Nat × List Nat)} {n m fuel : Nat} {a : Act} {w : World} {oi oj : Oper}
theorem tw_ (i j : Nat) (Ni Nj : Option Tmp) (mi mj : Nat) (hT : Aside0 (rtab md ops = T))
    (h1 : ∀ K : Act → World → Prop, Shut (∀ a' w', S w' → (S w' → wpAnyLast P md ops Q S ds fuel (mB n mi) a' w') → K a' w') → if Region.wanted oi (yielded ops a.tmps) = true then Oper.wp P oi a w K Q else K (a.put Ni undef) w)
    (h2 : ∀ K : Act → World → Prop, Shut (∀ a' w', S w' → (S w' → wpAnyLast P md ops Q S ds fuel (mB n mj) a' w') → K a' w') → if Region.wanted oj (yielded ops a.tmps) = true then Oper.wp P oj a w K Q else K (a.put Nj undef) w)
    (hi : ops[i]? = some oi := by rfl) (hj : ops[j]? = some oj := by rfl) (hNi : oi.dst = Ni := by rfl) (hNj : oj.dst = Nj := by rfl)
    (hc : (readyT T.2 (mB n m).toList == [i, j] && (mB n m).toList.set i true == (mB n mi).toList && (mB n m).toList.set j true == (mB n mj).toList) = true := by kernel_rfl) (hdi : i ∉ ds := by decide) (hdj : j ∉ ds := by decide) :
    wpAnyLast P md ops Q S ds (fuel + 1) (mB n m) a w := two_ (mB n mi) (mB n mj) hi hj hNi hNj (two_of hT.out hc) hdi hdj h1 h2
end
def CellsQ (w : World) (ad : Addr) (m : Nat) (q : Pr) : Prop := w.cell? (ad.add (m * 2)) = some (.int .i64 q.f0) ∧ w.cell? ⟨(ad.add (m * 2)).block, (ad.add (m * 2)).off + 1, none⟩ = some (.int .i64 q.f1)
theorem cellsQ_below {w w1 : World} {ad : Addr} {m : Nat} {q : Pr} (h : CellsQ w ad m q) (hb : Below w.heap.size w w1) : CellsQ w1 ad m q := ⟨pw_cell_below hb h.1, pw_cell_below hb h.2⟩
section
variable {P : Program}
variable {ops : Array Oper} {rest : List Oper} {o : Oper} {a : Act} {w : World} {Q : Exit → Act → World → Prop} {K : Act → World → Prop} {E : Prop}
end
def fl : List Pr → List Value
  | [] => []
  | x :: l => .int .i64 x.f0 :: .int .i64 x.f1 :: fl l
theorem fl_len : ∀ l : List Pr, (fl l).length = l.length * 2
  | [] => rfl
  | x :: l => by simp [fl, fl_len l]; omega
theorem fl_append : ∀ l m : List Pr, fl (l ++ m) = fl l ++ fl m
  | [], m => rfl
  | x :: l, m => by simp [fl, fl_append l m]
theorem reps_fl {w : World} {base : Nat} {ok : Nat → Prop} : ∀ (l : List Pr) (cs : List Value), Reps (k73.M w base ok) 2 l cs → cs = fl l
  | [], cs, h => List.eq_nil_of_length_eq_zero (by simpa using h.1)
  | x :: l, cs, h => by
    obtain ⟨hl, hr⟩ := h
    match cs, hl, hr with
    | [], hl, hr => simp at hl
    | [a], hl, hr => simp at hl; omega
    | a :: b :: cs, hl, hr =>
      have h0 := k73_openM (hr 0 x rfl)
      simp only [Nat.zero_mul, List.drop_zero, List.take_succ_cons, List.take_zero, List.cons.injEq, and_true] at h0
      obtain ⟨rfl, rfl⟩ := h0
      rw [reps_fl l cs ⟨by simp at hl ⊢; omega, fun j p hj => by
        have := hr (j + 1) p (by simpa using hj)
        rwa [Nat.succ_mul, show (Value.int .i64 x.f0 :: Value.int .i64 x.f1 :: cs).drop (j * 2 + 2) = cs.drop (j * 2) from by simp] at this⟩]
      rfl
theorem fl_reps (w : World) (base : Nat) (ok : Nat → Prop) : ∀ l : List Pr, Reps (k73.M w base ok) 2 l (fl l)
  | [] => Reps.none _ _
  | x :: l => by
    obtain ⟨hl, hr⟩ := fl_reps w base ok l
    refine ⟨by simp [fl, hl]; omega, fun j p hj => ?_⟩
    rcases j with _ | j
    · obtain rfl : x = p := by simpa using hj
      exact k73_mkM w base ok x
    · have := hr j p (by simpa using hj)
      rw [Nat.succ_mul, show (fl (x :: l)).drop (j * 2 + 2) = (fl l).drop (j * 2) from by simp [fl]]
      exact this
abbrev PO (w : World) (base : Nat) (v : Value) (xs : List Pr) : Prop := Kd.R k73 73 w base (fun _ => True) v xs
theorem PO.open {w : World} {base : Nat} {v : Value} {xs : List Pr} (h : PO w base v xs) : (v = .slice none 0 0 ∧ xs = []) ∨ ∃ g cap cur, v = .slice (some ⟨g, 0, none⟩) xs.length cap ∧ base ≤ g ∧ w.heap[g]? = some (.cells (List.toArray cur) 73 (0, 0)) ∧ xs.length ≤ cap ∧ cap ≤ maxLen ∧ cur.length = cap * 2 ∧ cur.take (xs.length * 2) = fl xs := by
  obtain ⟨_, inner, ⟨hl, ho⟩, hr⟩ := h
  have he := reps_fl xs inner hr
  subst he
  rcases ho with ⟨rfl, h0⟩ | ⟨g, cap, cur, rfl, hb, hg, hn, hc, hs, ht⟩
  · exact .inl ⟨rfl, List.eq_nil_of_length_eq_zero h0⟩
  · exact .inr ⟨g, cap, cur.toList, rfl, hb, by simpa using hg, hn, hc, hs, ht⟩
theorem PO.mk {w : World} {base g cap : Nat} {cur : List Value} {xs : List Pr} (hb : base ≤ g) (hg : w.heap[g]? = some (.cells cur.toArray 73 (0, 0))) (hn : xs.length ≤ cap) (hc : cap ≤ maxLen) (hs : cur.length = cap * 2) (ht : cur.take (xs.length * 2) = fl xs) :
    PO w base (.slice (some ⟨g, 0, none⟩) xs.length cap) xs :=
  ⟨fun _ _ => trivial, fl xs, ⟨fl_len xs, .inr ⟨g, cap, cur.toArray, rfl, hb, hg, hn, hc, hs, ht⟩⟩, fl_reps _ _ _ xs⟩
theorem infoP : (Try.prog.info? 73).map (fun i => (i.zero, i.size, i.bytes)) = some (some (.agg #[.int .i64 0, .int .i64 0]), 2, 16) := by kernel_rfl
section
variable {ops : Array Oper} {rest : List Oper} {o : Oper} {a : Act} {Q : Exit → Act → World → Prop}
theorem apPs {w0 W : World} (base : Nat) (hgd : o.guard = none) (s x : Operand)
    (ho : o.op = .call { callee := .builtin .append, args := #[s, x], argTypes := #[38, 38] })
    (v : Value) (xs ys : List Pr) (A : Option Addr) (m c : Nat)
    (hs : a.eval s = v) (hx : a.eval x = .slice A m c) (HO : PO W base v xs) (HR : Kd.C k73 W A m ys) (HB : Below base w0 W) (hbase : base ≤ W.heap.size) (hl : xs.length + m ≤ 8796093022208)
    (h : ∀ v1 w1, PO w1 base v1 (xs ++ ys) → Below base w0 w1 → W.grownBy w1 v.ownBlock → (v1.ownBlock = v.ownBlock ∨ ∃ b, v1.ownBlock = some b ∧ W.heap.size ≤ b) → wpList Try.prog ops Q rest (a.put o.dst v1) w1) :
    wpList Try.prog ops Q (o :: rest) a W :=
  Kd.R_append_rows k73 base hgd s x 38 73 (.agg #[.int .i64 0, .int .i64 0]) 16 ho Try.underlying38 infoP rfl (by decide) (by decide) v xs ys A m c (fun _ => True) (fun _ => False) hs hx HO HR
    (fun x cs h => by rw [k73_open h]; exact k73_mkM _ _ _ _) (fun _ h => h.elim) (fun _ _ => trivial) HB hbase (by omega) h
end
theorem PO.made (w : World) (base cap : Nat) (cur : Array Value) (hb : base ≤ w.heap.size) (hm : cap ≤ maxLen) (hs : cur.size = cap * 2) : PO (w.alloc (.cells cur 73)) base (.slice (some ⟨w.heap.size, 0, none⟩) 0 cap) [] :=
  ⟨fun _ _ => trivial, [], World.ownsRow_made w cur cap hb hm hs, Reps.none _ _⟩
end Go.Proofs.Ytomdfjohnmikdaa.Im
namespace Go.Proofs.Ytomdfjohnmikdaa.QI
open Kp Ext Go.RowKit YtomdfjohnmikdaaW.PrintWords YtomdfjohnmikdaaW.PrintLast YtomdfjohnmikdaaW.PrintMore
attribute [local go_sem] max2_int min2_int max_two min_two max_three min_three max_four min_four   -- for this text's walks alone
def errW : Option Int → Value
  | none => .nilIface
  | some c => .iface 0 (.int .i64 c)
theorem errW_none : errW none = .nilIface := rfl
theorem errW_some (c : Int) : errW (some c) = .iface 0 (.int .i64 c) := rfl
open Go.Proofs.Ytomdfjohnmikdaa.QA (bits_OnesCount64.f)
set_option maxHeartbeats 8000000 in
set_option maxRecDepth 100000 in
theorem bits_OnesCount64.calls (a0 : Int) (r : Int) (w : World) (h : bits_OnesCount64.f a0 = some r) :
    Calls Try.prog 174 #[.int .u64 a0] w fun e w' => e = .returned (.int .i64 r) ∧ Drawn0 w w' := by
  have H : (some (Go.bits .and .i64 (wrap64 (IntKind.u64.wrap ((IntKind.u64.wrap ((IntKind.u64.wrap ((Go.bits .and .u64 (IntKind.u64.wrap (((IntKind.u64.wrap ((Go.bits .and .u64 ((IntKind.u64.wrap ((Go.bits .and .u64 (a0 / 2) 6148914691236517205) + (Go.bits .and .u64 a0 6148914691236517205))) / 4) 3689348814741910323) + (Go.bits .and .u64 (IntKind.u64.wrap ((Go.bits .and .u64 (a0 / 2) 6148914691236517205) + (Go.bits .and .u64 a0 6148914691236517205))) 3689348814741910323))) / 16) + (IntKind.u64.wrap ((Go.bits .and .u64 ((IntKind.u64.wrap ((Go.bits .and .u64 (a0 / 2) 6148914691236517205) + (Go.bits .and .u64 a0 6148914691236517205))) / 4) 3689348814741910323) + (Go.bits .and .u64 (IntKind.u64.wrap ((Go.bits .and .u64 (a0 / 2) 6148914691236517205) + (Go.bits .and .u64 a0 6148914691236517205))) 3689348814741910323))))) 1085102592571150095) + ((Go.bits .and .u64 (IntKind.u64.wrap (((IntKind.u64.wrap ((Go.bits .and .u64 ((IntKind.u64.wrap ((Go.bits .and .u64 (a0 / 2) 6148914691236517205) + (Go.bits .and .u64 a0 6148914691236517205))) / 4) 3689348814741910323) + (Go.bits .and .u64 (IntKind.u64.wrap ((Go.bits .and .u64 (a0 / 2) 6148914691236517205) + (Go.bits .and .u64 a0 6148914691236517205))) 3689348814741910323))) / 16) + (IntKind.u64.wrap ((Go.bits .and .u64 ((IntKind.u64.wrap ((Go.bits .and .u64 (a0 / 2) 6148914691236517205) + (Go.bits .and .u64 a0 6148914691236517205))) / 4) 3689348814741910323) + (Go.bits .and .u64 (IntKind.u64.wrap ((Go.bits .and .u64 (a0 / 2) 6148914691236517205) + (Go.bits .and .u64 a0 6148914691236517205))) 3689348814741910323))))) 1085102592571150095) / 256))) + ((IntKind.u64.wrap ((Go.bits .and .u64 (IntKind.u64.wrap (((IntKind.u64.wrap ((Go.bits .and .u64 ((IntKind.u64.wrap ((Go.bits .and .u64 (a0 / 2) 6148914691236517205) + (Go.bits .and .u64 a0 6148914691236517205))) / 4) 3689348814741910323) + (Go.bits .and .u64 (IntKind.u64.wrap ((Go.bits .and .u64 (a0 / 2) 6148914691236517205) + (Go.bits .and .u64 a0 6148914691236517205))) 3689348814741910323))) / 16) + (IntKind.u64.wrap ((Go.bits .and .u64 ((IntKind.u64.wrap ((Go.bits .and .u64 (a0 / 2) 6148914691236517205) + (Go.bits .and .u64 a0 6148914691236517205))) / 4) 3689348814741910323) + (Go.bits .and .u64 (IntKind.u64.wrap ((Go.bits .and .u64 (a0 / 2) 6148914691236517205) + (Go.bits .and .u64 a0 6148914691236517205))) 3689348814741910323))))) 1085102592571150095) + ((Go.bits .and .u64 (IntKind.u64.wrap (((IntKind.u64.wrap ((Go.bits .and .u64 ((IntKind.u64.wrap ((Go.bits .and .u64 (a0 / 2) 6148914691236517205) + (Go.bits .and .u64 a0 6148914691236517205))) / 4) 3689348814741910323) + (Go.bits .and .u64 (IntKind.u64.wrap ((Go.bits .and .u64 (a0 / 2) 6148914691236517205) + (Go.bits .and .u64 a0 6148914691236517205))) 3689348814741910323))) / 16) + (IntKind.u64.wrap ((Go.bits .and .u64 ((IntKind.u64.wrap ((Go.bits .and .u64 (a0 / 2) 6148914691236517205) + (Go.bits .and .u64 a0 6148914691236517205))) / 4) 3689348814741910323) + (Go.bits .and .u64 (IntKind.u64.wrap ((Go.bits .and .u64 (a0 / 2) 6148914691236517205) + (Go.bits .and .u64 a0 6148914691236517205))) 3689348814741910323))))) 1085102592571150095) / 256))) / 65536))) + ((IntKind.u64.wrap ((IntKind.u64.wrap ((Go.bits .and .u64 (IntKind.u64.wrap (((IntKind.u64.wrap ((Go.bits .and .u64 ((IntKind.u64.wrap ((Go.bits .and .u64 (a0 / 2) 6148914691236517205) + (Go.bits .and .u64 a0 6148914691236517205))) / 4) 3689348814741910323) + (Go.bits .and .u64 (IntKind.u64.wrap ((Go.bits .and .u64 (a0 / 2) 6148914691236517205) + (Go.bits .and .u64 a0 6148914691236517205))) 3689348814741910323))) / 16) + (IntKind.u64.wrap ((Go.bits .and .u64 ((IntKind.u64.wrap ((Go.bits .and .u64 (a0 / 2) 6148914691236517205) + (Go.bits .and .u64 a0 6148914691236517205))) / 4) 3689348814741910323) + (Go.bits .and .u64 (IntKind.u64.wrap ((Go.bits .and .u64 (a0 / 2) 6148914691236517205) + (Go.bits .and .u64 a0 6148914691236517205))) 3689348814741910323))))) 1085102592571150095) + ((Go.bits .and .u64 (IntKind.u64.wrap (((IntKind.u64.wrap ((Go.bits .and .u64 ((IntKind.u64.wrap ((Go.bits .and .u64 (a0 / 2) 6148914691236517205) + (Go.bits .and .u64 a0 6148914691236517205))) / 4) 3689348814741910323) + (Go.bits .and .u64 (IntKind.u64.wrap ((Go.bits .and .u64 (a0 / 2) 6148914691236517205) + (Go.bits .and .u64 a0 6148914691236517205))) 3689348814741910323))) / 16) + (IntKind.u64.wrap ((Go.bits .and .u64 ((IntKind.u64.wrap ((Go.bits .and .u64 (a0 / 2) 6148914691236517205) + (Go.bits .and .u64 a0 6148914691236517205))) / 4) 3689348814741910323) + (Go.bits .and .u64 (IntKind.u64.wrap ((Go.bits .and .u64 (a0 / 2) 6148914691236517205) + (Go.bits .and .u64 a0 6148914691236517205))) 3689348814741910323))))) 1085102592571150095) / 256))) + ((IntKind.u64.wrap ((Go.bits .and .u64 (IntKind.u64.wrap (((IntKind.u64.wrap ((Go.bits .and .u64 ((IntKind.u64.wrap ((Go.bits .and .u64 (a0 / 2) 6148914691236517205) + (Go.bits .and .u64 a0 6148914691236517205))) / 4) 3689348814741910323) + (Go.bits .and .u64 (IntKind.u64.wrap ((Go.bits .and .u64 (a0 / 2) 6148914691236517205) + (Go.bits .and .u64 a0 6148914691236517205))) 3689348814741910323))) / 16) + (IntKind.u64.wrap ((Go.bits .and .u64 ((IntKind.u64.wrap ((Go.bits .and .u64 (a0 / 2) 6148914691236517205) + (Go.bits .and .u64 a0 6148914691236517205))) / 4) 3689348814741910323) + (Go.bits .and .u64 (IntKind.u64.wrap ((Go.bits .and .u64 (a0 / 2) 6148914691236517205) + (Go.bits .and .u64 a0 6148914691236517205))) 3689348814741910323))))) 1085102592571150095) + ((Go.bits .and .u64 (IntKind.u64.wrap (((IntKind.u64.wrap ((Go.bits .and .u64 ((IntKind.u64.wrap ((Go.bits .and .u64 (a0 / 2) 6148914691236517205) + (Go.bits .and .u64 a0 6148914691236517205))) / 4) 3689348814741910323) + (Go.bits .and .u64 (IntKind.u64.wrap ((Go.bits .and .u64 (a0 / 2) 6148914691236517205) + (Go.bits .and .u64 a0 6148914691236517205))) 3689348814741910323))) / 16) + (IntKind.u64.wrap ((Go.bits .and .u64 ((IntKind.u64.wrap ((Go.bits .and .u64 (a0 / 2) 6148914691236517205) + (Go.bits .and .u64 a0 6148914691236517205))) / 4) 3689348814741910323) + (Go.bits .and .u64 (IntKind.u64.wrap ((Go.bits .and .u64 (a0 / 2) 6148914691236517205) + (Go.bits .and .u64 a0 6148914691236517205))) 3689348814741910323))))) 1085102592571150095) / 256))) / 65536))) / 4294967296)))) 127)) = some r := h
  clear h
  obtain rfl := Option.some.inj H
  go_enter Try.func174, Try.ntmps174
  go_wp2
  go_ret
  exact ⟨by first | rfl | (simp; done) | (simp [*]; done), by repeat (first | exact Drawn0.refl _ | apply Drawn0.step)⟩
def impl_size.f (a0 : Int) : Option (Int) := (bits_OnesCount64.f (IntKind.u64.wrap (a0))).bind fun t101 => (some t101)
set_option maxHeartbeats 8000000 in
set_option maxRecDepth 100000 in
theorem impl_size.calls (a0 : Int) (r : Int) (w : World) (h : impl_size.f a0 = some r) :
    Calls Try.prog 136 #[.int .i64 a0] w fun e w' => e = .returned (.int .i64 r) ∧ Drawn0 w w' := by
  have H : ((bits_OnesCount64.f (IntKind.u64.wrap (a0))).bind fun t101 => (some t101)) = some r := h
  clear h
  replace H := Option.bind_eq_some_iff.mp H
  obtain ⟨t101, A20, H⟩ := H
  replace H : (some t101) = some r := H
  have A2 := Aside0.mk A20
  clear A20
  obtain rfl := Option.some.inj H
  go_enter Try.func136, Try.ntmps136
  go_wp2_with (first | ((with_reducible refine gate_callee (f := 174) rfl ?_); refine goesL_ (some 5) rfl rfl Try.func174 (by kernel_rfl) rfl #[.int .u64 (IntKind.u64.wrap (a0))] rfl (by (try simp only [List.map_toArray, List.map_cons, List.map_nil]); first | done | rfl | (simp only [List.length_drop, List.length_take]; rfl)) ?_; (with_reducible refine (bits_OnesCount64.calls (IntKind.u64.wrap (a0)) t101 _ A2.out).mono ?_); rintro e w' ⟨rfl, ⟨nd, rfl⟩⟩; refine ⟨_, rfl, ?_⟩))
  go_ret
  exact ⟨by first | rfl | (simp; done) | (simp [*]; done), by repeat (first | exact Drawn0.refl _ | apply Drawn0.step)⟩
def impl_dimension.f (a0 : Int) : Option (Int) := (impl_size.f a0).bind fun t102 => (some (wrap64 (t102 - 1)))
set_option maxHeartbeats 8000000 in
set_option maxRecDepth 100000 in
theorem impl_dimension.calls (a0 : Int) (r : Int) (w : World) (h : impl_dimension.f a0 = some r) :
    Calls Try.prog 107 #[.int .i64 a0] w fun e w' => e = .returned (.int .i64 r) ∧ Drawn0 w w' := by
  have H : ((impl_size.f a0).bind fun t102 => (some (wrap64 (t102 - 1)))) = some r := h
  clear h
  replace H := Option.bind_eq_some_iff.mp H
  obtain ⟨t102, A20, H⟩ := H
  replace H : (some (wrap64 (t102 - 1))) = some r := H
  have A2 := Aside0.mk A20
  clear A20
  obtain rfl := Option.some.inj H
  go_enter Try.func107, Try.ntmps107
  go_wp2_with (first | ((with_reducible refine gate_callee (f := 136) rfl ?_); refine goesL_ (some 4) rfl rfl Try.func136 (by kernel_rfl) rfl #[.int .i64 a0] rfl (by (try simp only [List.map_toArray, List.map_cons, List.map_nil]); first | done | rfl | (simp only [List.length_drop, List.length_take]; rfl)) ?_; (with_reducible refine (impl_size.calls a0 t102 _ A2.out).mono ?_); rintro e w' ⟨rfl, ⟨nd, rfl⟩⟩; refine ⟨_, rfl, ?_⟩))
  go_ret
  exact ⟨by first | rfl | (simp; done) | (simp [*]; done), by repeat (first | exact Drawn0.refl _ | apply Drawn0.step)⟩
def impl_Complex_dimension.l0 : Nat → Int → List Int → Int → Int → Option (Int)
  | 0, _, _, _, _ => none
  | k + 1, x3, x7, x8, x9 => if x9 < x8 then (if 0 ≤ x9 then (if x9 < (x7.length : Int) then ((impl_dimension.f (rd x7 x9)).bind fun t105 => (impl_Complex_dimension.l0 k (mx x3 t105) x7 x8 (wrap64 (x9 + 1)))) else (none)) else (none)) else (some x3)
def impl_Complex_dimension.f (k : Nat) (a0_0 : Int) (l0_1 : List Int) : Option (Int) := impl_Complex_dimension.l0 k (-1) l0_1 (l0_1.length : Int) 0
set_option maxHeartbeats 8000000 in
set_option maxRecDepth 100000 in
theorem impl_Complex_dimension.calls (k : Nat) (a0_0 : Int) (A0_1 : Option Addr) (c0_1 : Nat) (l0_1 : List Int) (r : Int) (w : World) (hr0_1 : Kd.C (Kd.int .i64) w A0_1 l0_1.length l0_1) (hc0_1 : l0_1.length ≤ c0_1) (h : impl_Complex_dimension.f k a0_0 l0_1 = some r) :
    Calls Try.prog 56 #[.agg #[.int .i64 a0_0, .slice A0_1 l0_1.length c0_1]] w fun e w' => e = .returned (.int .i64 r) ∧ Below w.heap.size w w' := by
  have hu28 := Try.underlying28
  have HR0_1 := Aside0.mk hr0_1
  have HC0_1 := Aside0.mk hc0_1
  clear hr0_1 hc0_1
  have HB := Aside0.mk (Below.refl w.heap.size w)
  have H : (impl_Complex_dimension.l0 k (-1) l0_1 (l0_1.length : Int) 0) = some r := h
  clear h
  have H' := Aside0.mk H
  clear H
  go_enter Try.func56, Try.ntmps56
  go_wp2_with (first | ((with_reducible refine gate_dst (N := 1) rfl ?_); refine box_event ?hg (N := 1) ?hd (cs := #[.int .i64 a0_0, .slice A0_1 l0_1.length c0_1]) (t := 28) ?hr ?_; (case hd => rfl); (case hg => rfl); (case hr => first | (go_simp; done) | (go_simp; rfl)); intro gb103 hg w2 hbox hb; have n0_ := Aside0.mk (below_step (by repeat (first | (with_reducible first | exact HB.out | apply below_alloc | apply pw_below_drewN | apply below_drew1) | exact HB.out)) hb); have n1_ := Aside0.mk (hbox); have n2_ := Aside0.mk ((by rw [hg]; exact (below_size (by repeat (first | (with_reducible first | exact HB.out | apply below_alloc | apply pw_below_drewN | apply below_drew1) | exact HB.out))) : w.heap.size ≤ gb103)); have n3_ := Aside0.mk ((by rw [hg]; exact (below_size (by repeat (first | (with_reducible first | exact HB.out | apply below_alloc | apply pw_below_drewN | apply below_drew1) | exact HB.out))) : w.heap.size ≤ gb103)); clear HB; have HB := n0_; have BK103 := n1_; have GW103 := n2_; have GE103 := n3_; clear n0_ n1_ n2_ n3_; clear hb hbox hg; have hcz3_0 : w2.cell? ⟨gb103, 0, none⟩ = some (.int .i64 a0_0) := (blk_cell BK103.out 0).trans rfl; have hcz3_1 : w2.cell? ⟨gb103, 1, none⟩ = some (.slice A0_1 l0_1.length c0_1) := (blk_cell BK103.out 1).trans rfl; have hfz3_0 := blk_frozen BK103.out 0; have hfz3_1 := blk_frozen BK103.out 1))
  go_loopg [3, 9] k (fun kq v3 v9 w' => ∃ (x3_1 : Int) (x9_1 : Int), v3 = .int .i64 x3_1 ∧ v9 = .int .i64 x9_1 ∧ Aside0 (impl_Complex_dimension.l0 kq x3_1 l0_1 (l0_1.length : Int) x9_1 = some r) ∧ Aside0 (kq ≤ k) ∧ Aside0 (w'.heap[gb103]? = some (.cells #[.int .i64 a0_0, (.slice A0_1 l0_1.length c0_1)] 28 (0, 0))) ∧ Aside0 (Below w.heap.size w w'))
  case atStart => exact ⟨((-1)), (0), (by first | rfl | (simp; done) | (simp [*]; done)), (by first | rfl | (simp; done) | (simp [*]; done)), H', ⟨Nat.le_refl _⟩, ⟨by (with_reducible repeat (first | refine blk_drewN ?_ _ | refine blk_drew ?_ | refine blk_alloc ?_ _)); exact BK103.out⟩, ⟨by repeat (first | (with_reducible first | exact HB.out | apply below_alloc | apply pw_below_drewN | apply below_drew1 | refine below_set ?_ GE103.out) | exact HB.out)⟩⟩
  case round =>
    clear H'
    try clear p2
    try clear hcz3_0
    try clear hcz3_1
    try clear hfz3_0
    try clear hfz3_1
    obtain ⟨x3_1, x9_1, rfl, rfl, HA, HK1, BK103, HB⟩ := hrel
    cases gk with
    | zero => exact absurd HA.out (by simp [impl_Complex_dimension.l0])
    | succ k1 =>
      have H := HA.out
      clear HA
      simp only [impl_Complex_dimension.l0] at H
      by_cases c4 : x9_1 < (l0_1.length : Int)
      · rw [if_pos c4] at H
        have c4b0 : decide (x9_1 < (l0_1.length : Int)) = true := decide_eq_true c4
        clear c4
        by_cases c5 : 0 ≤ x9_1
        · rw [if_pos c5] at H
          have c5b0 : decide (0 ≤ x9_1) = true := decide_eq_true c5
          clear c5
          by_cases c6 : x9_1 < (l0_1.length : Int)
          · rw [if_pos c6] at H
            have c6b0 : decide (x9_1 < (l0_1.length : Int)) = true := decide_eq_true c6
            clear c6
            replace H := Option.bind_eq_some_iff.mp H
            obtain ⟨t105, A70, H⟩ := H
            replace H : (impl_Complex_dimension.l0 k1 (mx x3_1 t105) l0_1 (l0_1.length : Int) (wrap64 (x9_1 + 1))) = some r := H
            have A7 := Aside0.mk A70
            clear A70
            obtain ⟨ji8, hji8⟩ : ∃ j_ : Int, (mx x3_1 t105) = j_ := ⟨_, rfl⟩
            replace H : (impl_Complex_dimension.l0 k1 ji8 l0_1 (l0_1.length : Int) (wrap64 (x9_1 + 1))) = some r := by first | (rw [hji8] at H; exact H) | (simp only [hji8] at H ⊢; exact H)
            (try rw [hji8] at A7)
            have hji8_ : (if x3_1 < t105 then t105 else x3_1) = ji8 := hji8
            have H' := Aside0.mk H
            clear H
            have p104 : 0 ≤ (x9_1 : Int) := of_decide_eq_true (by first | (with_reducible assumption) | assumption)
            have q104 : x9_1 < (l0_1.length : Int) := of_decide_eq_true (by first | (with_reducible assumption) | assumption)
            obtain ⟨ad104, e104, hx104_0⟩ := Kd.at_int HR0_1.out x9_1 p104 q104
            cases e104
            replace hx104_0 := (HB.out.cell (World.block_lt_of_cell? w _ hx104_0)).trans hx104_0
            replace p104 := eq_true p104
            replace q104 := eq_true q104
            go_wp2_with (first | ((with_reducible refine gate_callee (f := 107) rfl ?_); refine goesL_ (some 15) rfl rfl Try.func107 (by kernel_rfl) rfl #[.int .i64 (rd l0_1 x9_1)] rfl (by (try simp only [List.map_toArray, List.map_cons, List.map_nil]); first | done | rfl | (simp only [List.length_drop, List.length_take]; rfl)) ?_; (with_reducible refine (impl_dimension.calls (rd l0_1 x9_1) t105 _ A7.out).mono ?_); rintro e w' ⟨rfl, ⟨nd, rfl⟩⟩; refine ⟨_, rfl, ?_⟩))
            go_roundg k1
            case measure => have := HK1.out; omega
            case rel => exact ⟨(ji8), (wrap64 (x9_1 + 1)), (by first | rfl | (simp; done) | (simp only [← hji8] <;> (first | rfl | simp)) | (simp [*]; done)), (by first | rfl | (simp; done) | (simp [*]; done)), H', ⟨by have := HK1.out; omega⟩, ⟨by (with_reducible repeat (first | refine blk_drewN ?_ _ | refine blk_drew ?_ | refine blk_alloc ?_ _)); exact BK103.out⟩, ⟨by repeat (first | (with_reducible first | exact HB.out | apply below_alloc | apply pw_below_drewN | apply below_drew1 | refine below_set ?_ GE103.out) | exact HB.out)⟩⟩
          · rw [if_neg c6] at H
            exact absurd H (by simp)
        · rw [if_neg c5] at H
          exact absurd H (by simp)
      · rw [if_neg c4] at H
        have c4b0 : decide (x9_1 < (l0_1.length : Int)) = false := decide_eq_false c4
        clear c4
        obtain rfl := Option.some.inj H
        go_wp2
        go_ret
        exact ⟨by first | rfl | (simp [errW_none, errW_some] <;> rfl) | (simp [*, errW_none, errW_some] <;> rfl), by repeat (first | (with_reducible first | exact HB.out | apply below_alloc | apply pw_below_drewN | apply below_drew1 | refine below_set ?_ GE103.out) | exact HB.out)⟩
end Go.Proofs.Ytomdfjohnmikdaa.QI
namespace Go.Proofs.Ytomdfjohnmikdaa.Im
open Go.RowKit Go.Shelf QI Ext YtomdfjohnmikdaaW.PrintWords YtomdfjohnmikdaaW.PrintLast YtomdfjohnmikdaaW.PrintMore
def onesZ (x : Int) : Int := ((verts x).length : Int)
theorem size_all : ((List.range 64).all fun f => impl_size.f (f : Int) == some (onesZ (f : Int))) = true := by decide +kernel
theorem size_eq {x : Int} (h0 : 0 ≤ x) (h6 : x ≤ 63) : impl_size.f x = some (onesZ x) := by
  obtain ⟨m, rfl⟩ := Int.eq_ofNat_of_zero_le h0
  exact eq_of_beq (List.all_eq_true.1 size_all m (List.mem_range.2 (by omega)))
theorem isC_63 {n : Int} {l : List Int} (h : isC n l = true) : ∀ x ∈ l, 1 ≤ x ∧ x ≤ 63 := by
  obtain ⟨⟨h1, h6⟩, ha, _⟩ := isC_of h
  intro x hx
  obtain ⟨i, hi, rfl⟩ := List.mem_iff_getElem.1 hx
  have h2 := List.all_eq_true.1 ha i (List.mem_range.2 hi)
  simp only [okAt, List.getElem?_eq_getElem hi, Option.getD_some, withinB, Bool.and_eq_true, decide_eq_true_eq] at h2
  have hF : fullZ n ≤ 63 := by
    obtain rfl | rfl | rfl | rfl | rfl | rfl : n = 1 ∨ n = 2 ∨ n = 3 ∨ n = 4 ∨ n = 5 ∨ n = 6 := by omega
    all_goals decide +kernel
  omega
theorem w64' {x : Int} (h1 : -9223372036854775808 ≤ x) (h2 : x ≤ 9223372036854775807) : wrap64 x = x := by unfold wrap64; omega
theorem rd_at' {l : List Int} {i : Nat} (h : i < l.length) : rd l (i : Int) = l[i] := by simp [rd, List.getD_eq_getElem?_getD, List.getElem?_eq_getElem h]
theorem dim_eq {x : Int} (h0 : 0 ≤ x) (h6 : x ≤ 63) : impl_dimension.f x = some (onesZ x - 1) := by
  unfold impl_dimension.f
  rw [size_eq h0 h6]
  have : (verts x).length ≤ 6 := verts_len x
  simp only [Option.bind_some]
  rw [w64' (by unfold onesZ; omega) (by unfold onesZ; omega)]
def dimL (l : List Int) : Int := l.foldl (fun a x => max a (onesZ x - 1)) (-1)
theorem dim_loop (l : List Int) (hr : ∀ x ∈ l, 1 ≤ x ∧ x ≤ 63) (hm : l.length ≤ 4611686018427387904) :
    ∀ d (i : Nat) (a : Int), l.length - i = d → i ≤ l.length → Ev (fun k => impl_Complex_dimension.l0 k a l (l.length : Int) i) ((l.drop i).foldl (fun a x => max a (onesZ x - 1)) a) := by
  intro d
  induction d with
  | zero =>
    intro i a hd hi
    rw [List.drop_eq_nil_of_le (by omega)]
    refine Ev.step (f := fun k => some a) (fun k => ?_) (Ev.now _)
    simp only [impl_Complex_dimension.l0]; rw [if_neg (by omega)]
  | succ d ih =>
    intro i a hd hi
    have hi' : i < l.length := by omega
    have hx := hr _ (List.getElem_mem hi')
    rw [List.drop_eq_getElem_cons hi', List.foldl_cons]
    refine Ev.step (f := fun k => impl_Complex_dimension.l0 k (max a (onesZ l[i] - 1)) l (l.length : Int) ((i + 1 : Nat) : Int)) (fun k => ?_) (ih (i + 1) _ (by omega) (by omega))
    simp only [impl_Complex_dimension.l0]
    rw [if_pos (by omega), if_pos (by omega), if_pos (by omega), rd_at' hi', dim_eq (by omega) (by omega)]
    simp only [Option.bind_some]
    rw [show wrap64 ((i : Int) + 1) = ((i + 1 : Nat) : Int) by rw [w64' (by omega) (by omega)]; omega, show mx a (onesZ l[i] - 1) = max a (onesZ l[i] - 1) by unfold mx; split <;> omega]
theorem dimension_c (m : Int) (A : Option Addr) (c : Nat) (xs : List Int) (w : World) (hr : RC w A xs.length xs) (hc : xs.length ≤ c) (hi : isC m xs = true) :
    Calls Try.prog 56 #[.agg #[.int .i64 m, .slice A xs.length c]] w fun e w' => e = .returned (.int .i64 (dimL xs)) ∧ Below w.heap.size w w' := by
  obtain ⟨k, hk⟩ := (dim_loop xs (isC_63 hi) (by have := isC_small hi; omega) _ 0 (-1) rfl (Nat.zero_le _)).rounds
  exact impl_Complex_dimension.calls k m A c xs _ w hr hc hk
end Go.Proofs.Ytomdfjohnmikdaa.Im
namespace Go.Proofs.Ytomdfjohnmikdaa.Im
open Go.RowKit Go.Shelf Kp Ext Cw YtomdfjohnmikdaaW.PrintWords YtomdfjohnmikdaaW.PrintLast YtomdfjohnmikdaaW.PrintMore
theorem sizeA_eq {x : Int} (h0 : 0 ≤ x) (h6 : x ≤ 63) : QA.impl_size.f x = some (onesZ x) := size_eq h0 h6
def pairB (xs : List Int) (p : Pr) : Bool := decide (p.f0 ∈ xs) && (decide (p.f1 ∈ xs) && ((Go.bits .andNot .i64 p.f0 p.f1 == 0) && (onesZ p.f1 == onesZ p.f0 + 1)))
theorem isPair_f {n : Int} {xs : List Int} (hi : isC n xs = true) (p : Pr) : QA.impl_Complex_isPair.f n xs p.f0 p.f1 = some (pairB xs p) := by
  have hs := isC_small hi
  have ha := ascB_asc (isC_of hi).2.1
  have r := isC_63 hi
  unfold QA.impl_Complex_isPair.f pairB impl_Complex_has.f impl_isIn.f
  rw [if_pos ⟨by omega, ha⟩, if_pos ⟨by omega, ha⟩]
  simp only [Option.bind_some, decide_eq_true_eq, if_true]
  by_cases h0 : p.f0 ∈ xs
  · by_cases h1 : p.f1 ∈ xs
    · have a0 := r _ h0
      have a1 := r _ h1
      have hv := verts_len p.f0
      rw [if_pos h0, if_pos h1, sizeA_eq (by omega) (by omega), sizeA_eq (by omega) (by omega)]
      simp only [Option.bind_some, h0, h1, decide_true, Bool.true_and]
      rw [w64' (by unfold onesZ; omega) (by unfold onesZ; omega)]
      cases (Go.bits .andNot .i64 p.f0 p.f1 == 0) <;> simp
    · simp [h0, h1]
  · simp [h0]
theorem isPair_c (n : Int) (A : Option Addr) (c : Nat) (xs : List Int) (p : Pr) (w : World) (hr : RC w A xs.length xs) (hc : xs.length ≤ c) (hi : isC n xs = true) :
    Calls Try.prog 114 #[.agg #[.int .i64 n, .slice A xs.length c], .agg #[.int .i64 p.f0, .int .i64 p.f1]] w fun e w' => e = .returned (.bool (pairB xs p)) ∧ Below w.heap.size w w' :=
  QA.impl_Complex_isPair.calls n A c xs p.f0 p.f1 _ w hr hc (isPair_f hi p)
def hasF (x : Int) (q : Pr) : Bool := x == q.f0 || x == q.f1
def okPairAt (xs : List Int) (l : List Pr) (i : Nat) : Bool :=
  pairB xs (l.getD i z73) && (!(l.take i).any (hasF (l.getD i z73).f0) && (!(l.take i).any (hasF (l.getD i z73).f1) && (i == 0 || decide (cmpP (l.getD (i - 1) z73) (l.getD i z73) < 0))))
def pairingB (xs : List Int) (l : List Pr) : Bool := (List.range l.length).all (okPairAt xs l)
theorem CxAt.drew' {w : World} {b : Nat} {n : Int} {A : Option Addr} {len c : Nat} (h : CxAt w b n A len c) : CxAt w.drew b n A len c := h
theorem lookB {w : World} {b : Nat} {M : List (Int × Bool)} {v : Bool} (h : MapB w b M) {x : Int} (hv : getM M x = v) : (Instr.lookup 132 (.map (some b)) (.int .i64 x) false).run Try.prog w = .ok (.bool v) w := by
  rw [← hv]
  exact h.look Try.underlying132 Try.underlying2 (by kernel_rfl) x
theorem putB {w : World} {b : Nat} {M : List (Int × Bool)} (h : MapB w b M) (x : Int) (v : Bool) : ∃ w', (Instr.mapUpdate 132 (.map (some b)) (.int .i64 x) (.bool v)).run Try.prog w = .ok () w' ∧ MapB w' b (putM M x v) ∧ w.grownBy w' (some b) ∧ w'.heap.size = w.heap.size :=
  h.put Try.underlying132 Try.underlying2 x v
def stepM (s : List (Int × Bool) × List Int) (f : Int) : List (Int × Bool) × List Int := if getM s.1 f = true then s else (putM s.1 f true, s.2 ++ [f])
def bfs (l : List Pr) : Nat → List (Int × Bool) → List Int → Option (List (Int × Bool))
  | 0, _, _ => none
  | _ + 1, M, [] => some M
  | k + 1, M, x :: qs => if qs.length ≤ 1000 then (QA.impl_steps.f l x).bind fun fs => if fs.length ≤ 1000 then bfs l k (fs.foldl stepM (M, x :: qs)).1 ((fs.foldl stepM (M, x :: qs)).2.drop 1) else none else none
theorem stepM_len (s : List (Int × Bool) × List Int) (f : Int) : s.2.length ≤ (stepM s f).2.length ∧ (stepM s f).2.length ≤ s.2.length + 1 := by
  unfold stepM
  split <;> simp
theorem fold_len (fs : List Int) : ∀ s : List (Int × Bool) × List Int, s.2.length ≤ (fs.foldl stepM s).2.length ∧ (fs.foldl stepM s).2.length ≤ s.2.length + fs.length := by
  induction fs with
  | nil => intro s; simp
  | cons f fs ih =>
    intro s
    have h1 := stepM_len s f
    have h2 := ih (stepM s f)
    simp only [List.foldl_cons, List.length_cons]
    omega
theorem rowLit1 (w : World) (a : Int) (base : Nat) (ok : Nat → Prop) (hb : base ≤ w.heap.size) (hok : ok w.heap.size) : Kd.R (Kd.int .i64) 2 (w.alloc (.cells #[.int .i64 a] 2)) base ok (.slice (some ⟨w.heap.size, 0, none⟩) 1 1) [a] := by
  refine ⟨fun k hk => ?_, [.int .i64 a], ?_, ⟨rfl, fun j p hj => ?_⟩⟩
  · obtain rfl : w.heap.size = k := by simpa [Value.ownBlock] using hk
    exact hok
  · have h2 := World.ownsRow_lit (base := base) (e := 2) (size := (Kd.int .i64).sz) w #[.int .i64 a] 1 hb (by simp [maxLen]) rfl
    simpa using h2
  · rcases j with _ | j
    · obtain rfl : a = p := by simpa using hj
      rfl
    · simp at hj
theorem mapB_grown {w w1 : World} {b : Nat} {M : List (Int × Bool)} (h : MapB w b M) {v : Value} (hg : w.grownBy w1 v.ownBlock) (hv : ∀ k, v.ownBlock = some k → ∃ cells, w.heap[k]? = some (.cells cells 2 (0, 0))) : MapB w1 b M := by
  have hl := h.lt
  have hne : some b ≠ v.ownBlock := fun e => by
    obtain ⟨cells, hc⟩ := hv b e.symm
    exact h.ne hc rfl
  obtain ⟨es, c, h1, h2⟩ := h
  exact ⟨es, c, (hg.block b hl hne).trans h1, h2⟩
theorem info_i64 : (Try.prog.info? 2).map (fun i => (i.zero, i.size, i.bytes)) = some (some (.int .i64 0), 1, 8) := by kernel_rfl
theorem qPut {w w1 : World} {b base : Nat} {M : List (Int × Bool)} {ok : Nat → Prop} {v : Value} {xs : List Int} (h : Kd.Q (Kd.int .i64) 2 w base ok v xs) (hm : MapB w b M) (hg : w.grownBy w1 (some b)) : Kd.Q (Kd.int .i64) 2 w1 base ok v xs :=
  Kd.Q_mono (Kd.Q_grown (Kd.Q_bound h) hg (fun k hk e => by
    obtain ⟨_, _, _, q, _, cells, hc⟩ := hk
    injection e with e
    subst e
    exact hm.ne hc rfl)) (fun k hk => hk.1)
theorem rPut {w w1 : World} {b base : Nat} {M : List (Int × Bool)} {ok : Nat → Prop} {v : Value} {xs : List Int} (h : Kd.R (Kd.int .i64) 2 w base ok v xs) (hm : MapB w b M) (hg : w.grownBy w1 (some b)) : Kd.R (Kd.int .i64) 2 w1 base ok v xs :=
  Kd.R_mono (Kd.R_step (Kd.R_bound h) (fun k hk hlt => hg.block k hlt (fun e => by
    obtain ⟨_, _, _, q, _, cells, hc⟩ := hk
    injection e with e
    subst e
    exact hm.ne hc rfl))) (fun k hk => hk.1)
def BehindPost (M : List (Int × Bool)) (w : World) (e : Ending) (w' : World) : Prop := ∃ b, e = .returned (.map (some b)) ∧ MapB w' b M ∧ w.heap.size ≤ b ∧ Below w.heap.size w w'
set_option maxRecDepth 100000 in
set_option maxHeartbeats 2000000 in
theorem behind_c (k : Nat) (A : Option Addr) (c : Nat) (l : List Pr) (a : Int) (M : List (Int × Bool)) (w : World) (hr : Kd.C k73 w A l.length l) (hc : l.length ≤ c) (hk : bfs l k [] [a] = some M) :
    Calls Try.prog 166 #[.slice A l.length c, .int .i64 a] w (BehindPost M w) := by
  have HR := Aside0.mk hr
  have HC := Aside0.mk hc
  have HK := Aside0.mk hk
  clear hr hc hk
  have hmm := @run_makeMap Try.prog
  have hq0 := Aside0.mk (Kd.Q_of_R (rowLit1 (w.alloc (.map #[] 0)) a w.heap.size (fun _ => True) (by simp) trivial))
  have hm0 := Aside0.mk ((MapB.made w).alloc (.cells #[.int .i64 a] 2))
  go_enter Try.func166, Try.ntmps166
  go_wp2
  go_loopg [6] k (fun kq q wr => ∃ (Mk : List (Int × Bool)) (qs : List Int), Aside0 (bfs l kq Mk qs = some M) ∧ Aside0 (Below w.heap.size w wr) ∧ Aside0 (MapB wr w.heap.size Mk) ∧ Aside0 (Kd.Q (Kd.int .i64) 2 wr w.heap.size (fun _ => True) q qs))
  case atStart => exact ⟨[], [a], HK, ⟨below_alloc (below_alloc (Below.refl _ _) _) _⟩, hm0, by simpa using hq0⟩
  case round =>
    clear HK hq0 hm0
    obtain ⟨Mk, qs, HK, HB, HM, HQ⟩ := hrel
    obtain ⟨Aq, cq, rfl, hcq⟩ := Kd.Q_slice HQ.out
    cases gk with
    | zero => exact absurd HK.out (by simp [bfs])
    | succ k1 =>
      cases qs with
      | nil =>
        have hk0 : M = Mk := by have := HK.out; simp only [bfs, Option.some.injEq] at this; exact this.symm
        subst hk0
        go_wp2
        go_ret
        exact ⟨_, rfl, HM.out, Nat.le_refl _, HB.out⟩
      | cons x qs =>
        have hk1 := HK.out
        simp only [bfs] at hk1
        clear HK
        by_cases hb1 : qs.length ≤ 1000
        case neg => rw [if_neg hb1] at hk1; cases hk1
        rw [if_pos hb1] at hk1
        obtain ⟨fs, hfs, hk2⟩ := Option.bind_eq_some_iff.1 hk1
        clear hk1
        by_cases hb2 : fs.length ≤ 1000
        case neg => rw [if_neg hb2] at hk2; cases hk2
        rw [if_pos hb2] at hk2
        have HK := Aside0.mk hk2
        have HF := Aside0.mk hfs
        clear hk2 hfs
        obtain ⟨_, hqc, hqr⟩ := Kd.Q_reads' HQ.out
        obtain ⟨aq, rfl, hq0⟩ := Kd.at_int hqr 0 (by omega) (by simp)
        rw [show rd (x :: qs) 0 = x from rfl, show aq.add (Int.toNat 0) = aq by unfold Addr.add; simp] at hq0
        clear hqr
        go_wp2_with (go_at_call 190; refine (QA.impl_steps.calls A c l x fs _ (Kd.C_below HR.out HB.out) HC.out HF.out).mono ?_; rintro e w1 ⟨v1, rfl, ho, hb⟩; have hm1 := Aside0.mk (HM.out.below hb); have hq1 := Aside0.mk (Kd.Q_below HQ.out hb); have ho1 := Aside0.mk (Kd.R_lower (Kd.R_new' ho (Kd.Q_lt HQ.out)) HB.out.size); have hb3 := Aside0.mk (below_in HB.out hb); clear HM HQ HB ho hb hq0; have HM := hm1; have HQ := hq1; have HB := hb3; have HO := ho1; clear hm1 hq1 hb3 ho1; obtain ⟨A2, c2, he2⟩ := Kd.R_slice HO.out; subst he2)
        go_loopw [6, 23] (fun q i wq => ∃ (j : Nat) (Mj : List (Int × Bool)) (qj : List Int), j ≤ fs.length ∧ i = .int .i64 j ∧ Aside0 ((fs.take j).foldl stepM (Mk, x :: qs) = (Mj, qj)) ∧ Aside0 (Below w.heap.size w wq) ∧ Aside0 (MapB wq w.heap.size Mj) ∧ Aside0 (Kd.Q (Kd.int .i64) 2 wq w.heap.size (fun _ => True) q qj) ∧ Aside0 (Kd.R (Kd.int .i64) 2 wq w.heap.size (fun k => True ∧ some k ≠ q.ownBlock) (.slice A2 fs.length c2) fs)) (fun _ i _ => fs.length - (intOf i).toNat)
        case atStart => exact ⟨0, Mk, x :: qs, by omega, rfl, ⟨rfl⟩, HB, HM, HQ, HO⟩
        case round =>
          clear HB HM HQ HO
          obtain ⟨j, Mj, qj, hj, rfl, HE, HB, HM, HQ, HO⟩ := hrel
          obtain ⟨Aj, cj, rfl, hcj⟩ := Kd.Q_slice HQ.out
          have hlq : qj.length ≤ 2001 := by
            have h1 := fold_len (fs.take j) (Mk, x :: qs)
            have h2 := List.length_take_le j fs
            rw [HE.out] at h1
            simp only [List.length_cons] at h1
            omega
          by_cases hlt : j < fs.length
          · have hltz : (j : Int) < (fs.length : Int) := by omega
            obtain ⟨af, rfl, hf0⟩ := Kd.at_int (Kd.R_reads' HO.out).2.2 j (by omega) (by omega)
            obtain ⟨y, hy⟩ : ∃ y, rd fs j = y := ⟨_, rfl⟩
            rw [hy, show ((j : Int)).toNat = j by omega] at hf0
            have hstep : (fs.take (j + 1)).foldl stepM (Mk, x :: qs) = stepM (Mj, qj) y := by
              rw [List.take_succ_eq_append_getElem hlt, List.foldl_append, HE.out, ← hy, rd_at' hlt]
              rfl
            have HST := Aside0.mk hstep
            clear hstep hy
            by_cases hg : getM Mj y = true
            · have hl := lookB HM.out hg
              have HG := Aside0.mk hg
              clear hg
              go_wp2
              go_roundw
              case measure => simp [intOf]; omega
              case rel => exact ⟨j + 1, Mj, qj, by omega, by go_num, ⟨by rw [HST.out]; unfold stepM; rw [if_pos HG.out]⟩, HB, HM, HQ, HO⟩
            · have hl := lookB HM.out (Bool.eq_false_iff.2 hg)
              have HG := Aside0.mk hg
              clear hg
              obtain ⟨w3, hrun, hM3, hg3, hz3⟩ := putB HM.out y true
              have hq3 := Aside0.mk (qPut HQ.out HM.out hg3)
              have ho3 := Aside0.mk (rPut HO.out HM.out hg3)
              have hb3 := Aside0.mk (HB.out.grown hg3 HB.out.size (fun k hk => by injection hk with hk; omega))
              have hm3 := Aside0.mk hM3
              have HLQ := Aside0.mk hlq
              have HLT := Aside0.mk hlt
              clear hz3 hM3 hg3 HQ HO HB HM hlq
              have HQ := hq3
              have HO := ho3
              have HB := hb3
              have HM := hm3
              clear hq3 ho3 hb3 hm3
              go_wp2_with ((with_reducible refine gate_builtin (b := .append) (xs := #[.tmp 33, .tmp 35]) rfl ?_); at_builtin; refine Kd.Q_append (Kd.int .i64) (w0 := w) w.heap.size rfl (.tmp 33) (.tmp 35) 22 2 (.int .i64 0) 8 rfl Try.underlying22 info_i64 rfl (by decide) (by omega) (.slice Aj qj.length cj) qj y [.int .i64 y] (fun _ => True) (fun _ => False) rfl rfl rfl (fun _ hk => hk.elim) (fun _ _ => trivial) HQ.out HB.out HB.out.size (by have := HLQ.out; omega) ?_; intro v4 w4 hq4 hb4 hg4 hat; have ho4 := Aside0.mk (Kd.R_after HO.out hg4 hat); have hm4 := Aside0.mk (mapB_grown HM.out hg4 (Kd.Q_typed HQ.out)); have hq5 := Aside0.mk hq4; have hb5 := Aside0.mk hb4; clear hq4 hb4 hg4 hat HO HM HQ HB)
              go_roundw
              case measure => simp [intOf]; have := HLT.out; omega
              case rel => exact ⟨j + 1, putM Mj y true, qj ++ [y], by have := HLT.out; omega, by go_num, ⟨by rw [HST.out]; unfold stepM; rw [if_neg HG.out]⟩, hb5, hm4, hq5, ho4⟩
          · obtain rfl : j = fs.length := by omega
            have hltz : ¬ (fs.length : Int) < (fs.length : Int) := by omega
            rw [List.take_length] at HE
            have h1 := fold_len fs (Mk, x :: qs)
            rw [HE.out] at h1
            simp only [List.length_cons] at h1
            have hd := Aside0.mk (Kd.Q_drop (k := 1) HQ.out (by omega))
            have hq1 : (1 : Int) ≤ (qj.length : Int) := by omega
            have hk3 := HK.out
            rw [HE.out] at hk3
            have HK3 := Aside0.mk hk3
            clear hk3 HK HE HO
            by_cases hcap : cj = 1
            · have hd2 := hd.out
              rw [if_pos hcap] at hd2
              have HD := Aside0.mk hd2
              clear hd hd2
              subst hcap
              go_wp2
              go_roundg k1
              case measure => omega
              case rel => exact ⟨Mj, qj.drop 1, HK3, HB, HM, by simpa [show qj.length - 1 = 0 by omega] using HD⟩
            · have hd2 := hd.out
              rw [if_neg hcap, show (fun x : Addr => x.add (1 * (Kd.int .i64).sz)) = (fun x => (⟨x.block, x.off + 1, none⟩ : Addr)) from funext fun x => by unfold Addr.add; simp [Kd.int, Kd.scalar]] at hd2
              have HD := Aside0.mk hd2
              clear hd hd2
              go_wp2
              go_roundg k1
              case measure => omega
              case rel => exact ⟨Mj, qj.drop 1, HK3, HB, HM, by simpa using HD⟩
def loopB (l : List Pr) (a : Int) : Bool := ((bfs l 1000 [] [a]).map fun M => getM M a).getD false
def okBfs (l : List Pr) : Bool := decide (l.length ≤ 1048576) && l.all fun q => (bfs l 1000 [] [q.f0]).isSome
def acycB (l : List Pr) : Bool := l.all fun q => !loopB l q.f0
theorem okBfs_at {l : List Pr} (h : okBfs l = true) {q : Pr} (hq : q ∈ l) : ∃ M, bfs l 1000 [] [q.f0] = some M ∧ loopB l q.f0 = getM M q.f0 := by
  unfold okBfs at h
  obtain ⟨M, hM⟩ := Option.isSome_iff_exists.1 (List.all_eq_true.1 (Bool.and_eq_true _ _ ▸ h).2 q hq)
  exact ⟨M, hM, by unfold loopB; rw [hM]; rfl⟩
set_option maxRecDepth 100000 in
set_option maxHeartbeats 1000000 in
theorem isAcyclic1_f (b : Nat) (A : Option Addr) (c : Nat) (l : List Pr) (w : World) (hb : Boxed w b 38 (.slice A l.length c)) (hr : Kd.C k73 w A l.length l) (hc : l.length ≤ c) (ho : okBfs l = true) :
    FnP Try.prog (.func (.func 165) #[] #[.pointer (some ⟨b, 0, none⟩)]) (fun q => q ∈ l) (fun q => !loopB l q.f0) w := by
  refine ⟨_, _, _, rfl, enters_of Try.func165 (by kernel_rfl) rfl, fun W q hW hq => ?_⟩
  obtain ⟨M, hM, hv⟩ := okBfs_at ho hq
  have HV := Aside0.mk hv
  have hbe := behind_c 1000 A c l q.f0 M ((W.alloc (.cells #[.int .i64 q.f0, .int .i64 q.f1] 73)).drew) (Kd.C_drew (Kd.C_alloc (Kd.C_below hr hW) _)) hc hM
  have HE := Aside0.mk hbe
  have hx : Aside0 ((W.alloc (.cells #[.int .i64 q.f0, .int .i64 q.f1] 73)).drew.cell? ⟨b, 0, none⟩ = some (.slice A l.length c)) := ⟨pw_cell_below (hW.trans ((below_alloc (Below.refl W.heap.size W) _).mono hW.size)) hb.cell⟩
  have hp := Aside0.mk ((PrAt.new W q.f0 q.f1).drew)
  have HB := Aside0.mk ((below_alloc (Below.refl W.heap.size W) (.cells #[.int .i64 q.f0, .int .i64 q.f1] 73)).drew)
  clear hbe hr hc hM hv hq hW hb
  show Calls Try.prog 165 #[.agg #[.int .i64 q.f0, .int .i64 q.f1], .pointer (some ⟨b, 0, none⟩)] W fun e w' => e = .returned (.bool (!loopB l q.f0)) ∧ Below W.heap.size W w'
  go_enter Try.func165, Try.ntmps165
  go_wp2
  refine st_ 9 (S := fun w' => w'.cell? ⟨b, 0, none⟩ = some (.slice A l.length c) ∧ w'.cell? ⟨W.heap.size, 0, none⟩ = some (.int .i64 q.f0)) (ds := []) ⟨hx.out, hp.out.c0⟩ (fun hHeld => ?_)
  refine with_tabW (T := (true, [([], []), ([], []), ([1], [1]), ([0, 2], [0, 2]), ([], []), ([4], [4]), ([3, 5], [3, 5]), ([6], [6]), ([7, 3, 0, 1, 2, 3, 4, 5, 6, 7], [7])])) (B := [0, 0, 2, 7, 0, 16, 63, 127, 255]) (by kernel_rfl) (by kernel_rfl) (fun HT_ HW_ => ?_)
  refine pd_ 1 5 2 HT_ ?_
  refine pd_ 4 8 18 HT_ ?_
  refine tk_ 0 4 19 HT_ HW_ hHeld ?_
  refine tk_ 2 6 23 HT_ HW_ hHeld ?_
  refine tk_ 5 9 55 HT_ HW_ hHeld ?_
  refine on_ 3 (some 7) 63 HT_ (fun K hK => ?_)
  refine ca_ Try.func166 #[.slice A l.length c, .int .i64 q.f0] ?_
  refine HE.out.mono ?_; rintro e w1 ⟨b1, rfl, hm, hb1, hbl⟩; have HM := Aside0.mk hm; have HL := Aside0.mk hbl; clear hm hb1 hbl HE
  refine ⟨_, rfl, ?_⟩
  refine hK.out _ _ ⟨pw_cell_below HL.out hx.out, pw_cell_below HL.out hp.out.c0⟩ (fun hHeld => ?_)
  clear hK K
  refine nm_ ?_
  refine on_ 6 (some 10) 127 HT_ (fun K hK => ?_)
  (have hl := lookB (x := q.f0) HM.out HV.out.symm; refine value_ (by rfl) rfl (v := .bool (loopB l q.f0)) (w1 := w1) (by go_simp) ?_)
  refine hK.out _ _ ⟨pw_cell_below HL.out hx.out, pw_cell_below HL.out hp.out.c0⟩ (fun hHeld => ?_)
  clear hK K
  refine nm_ ?_
  refine pd_ 7 11 255 HT_ ?_
  refine pd_ 8 3 511 HT_ ?_
  refine dn_ HT_ ?_
  go_wp2
  go_ret
  exact ⟨rfl, below_in HB.out HL.out⟩
set_option maxRecDepth 100000 in
theorem isAcyclic_c (n : Int) (A : Option Addr) (c : Nat) (xs : List Int) (A1 : Option Addr) (c1 : Nat) (l : List Pr) (w : World) (hr1 : Kd.C k73 w A1 l.length l) (hc1 : l.length ≤ c1) (ho : okBfs l = true) :
    Calls Try.prog 113 #[.agg #[.int .i64 n, .slice A xs.length c], .slice A1 l.length c1] w fun e w' => e = .returned (.bool (acycB l)) ∧ Below w.heap.size w w' := by
  have hl : l.length ≤ 1048576 := by unfold okBfs at ho; exact of_decide_eq_true (Bool.and_eq_true _ _ ▸ ho).1
  have hb1 : Below w.heap.size w ((w.alloc (.cells #[.int .i64 n, .slice A xs.length c] 28)).alloc (.cells #[.slice A1 l.length c1] 38)) := below_alloc (below_alloc (Below.refl _ _) _) _
  have hbx : Boxed ((w.alloc (.cells #[.int .i64 n, .slice A xs.length c] 28)).alloc (.cells #[.slice A1 l.length c1] 38)) (w.heap.size + 1) 38 (.slice A1 l.length c1) := by simpa using Boxed.new (w.alloc (.cells #[.int .i64 n, .slice A xs.length c] 28)) 38 (.slice A1 l.length c1)
  have hc := areAllP_c A1 c1 l _ (fun q => q ∈ l) (fun q => !loopB l q.f0) ((w.alloc (.cells #[.int .i64 n, .slice A xs.length c] 28)).alloc (.cells #[.slice A1 l.length c1] 38)) (Kd.C_below hr1 hb1) (isAcyclic1_f _ A1 c1 l _ hbx (Kd.C_below hr1 hb1) hc1 ho) (fun q hq => hq) (by omega)
  have HC := Aside0.mk hc
  have HB := Aside0.mk hb1
  clear hc hb1 hbx hr1 hc1 ho
  go_enter Try.func113, Try.ntmps113
  go_wp2_with (go_at_call 164; refine HC.out.mono ?_; rintro e w' ⟨rfl, hb⟩)
  go_ret
  exact ⟨rfl, below_in HB.out hb⟩
def placeP (l : List Pr) (p : Pr) : Nat := (l.takeWhile fun q => decide (cmpP q p < 0)).length
def withP (l : List Pr) (p : Pr) : List Pr := l.take (placeP l p) ++ p :: l.drop (placeP l p)
theorem placeP_le (l : List Pr) (p : Pr) : placeP l p ≤ l.length := by
  unfold placeP
  exact (List.takeWhile_sublist _).length_le
theorem withP_len (l : List Pr) (p : Pr) : (withP l p).length = l.length + 1 := by
  have := placeP_le l p
  unfold withP
  simp; omega
end Go.Proofs.Ytomdfjohnmikdaa.Im
namespace Go.Proofs.Ytomdfjohnmikdaa.QS
open Cw Kp Ext Go.RowKit YtomdfjohnmikdaaW.PrintWords YtomdfjohnmikdaaW.PrintLast YtomdfjohnmikdaaW.PrintMore
attribute [local go_sem] max2_int min2_int max_two min_two max_three min_three max_four min_four   -- for this text's walks alone
def laws_szInt64S.f (l0 : List Int) (a1 : Int) : Option (Int) := if (wrap64 (a1 - (l0.length : Int))) < 0 then (some (-1)) else (some (wrap64 (a1 - (l0.length : Int))))
set_option maxHeartbeats 8000000 in
set_option maxRecDepth 100000 in
theorem laws_szInt64S.calls (A0 : Option Addr) (c0 : Nat) (l0 : List Int) (a1 : Int) (r : Int) (w : World) (hr0 : Kd.C (Kd.int .i64) w A0 l0.length l0) (hc0 : l0.length ≤ c0) (h : laws_szInt64S.f l0 a1 = some r) :
  Calls Try.prog 49 #[.slice A0 l0.length c0, .int .i64 a1] w fun e w' => e = .returned (.int .i64 r) ∧ Drawn0 w w' := by
 have HR0 := Aside0.mk hr0
 have HC0 := Aside0.mk hc0
 clear hr0 hc0
 have H : (if (wrap64 (a1 - (l0.length : Int))) < 0 then (some (-1)) else (some (wrap64 (a1 - (l0.length : Int))))) = some r := h
 clear h
 by_cases c3 : (wrap64 (a1 - (l0.length : Int))) < 0
 ·rw [if_pos c3] at H
  have c3b0 : decide ((wrap64 (a1 - (l0.length : Int))) < 0) = true := decide_eq_true c3
  clear c3
  obtain rfl := Option.some.inj H
  go_enter Try.func49, Try.ntmps49
  go_wp2
  go_ret
  exact ⟨by first | rfl | (simp; done) | (simp [*]; done), by repeat (first | exact Drawn0.refl _ | apply Drawn0.step)⟩
 ·rw [if_neg c3] at H
  have c3b0 : decide ((wrap64 (a1 - (l0.length : Int))) < 0) = false := decide_eq_false c3
  clear c3
  obtain rfl := Option.some.inj H
  go_enter Try.func49, Try.ntmps49
  go_wp2
  go_ret
  exact ⟨by first | rfl | (simp; done) | (simp [*]; done), by repeat (first | exact Drawn0.refl _ | apply Drawn0.step)⟩
def laws_szComplex.f (a0_0 : Int) (l0_1 : List Int) (a1 : Int) : Option (Int) := (laws_szInt64S.f l0_1 a1).bind fun t102 => (if t102 < 0 then (some (-1)) else (some t102))
set_option maxHeartbeats 8000000 in
set_option maxRecDepth 100000 in
theorem laws_szComplex.calls (a0_0 : Int) (A0_1 : Option Addr) (c0_1 : Nat) (l0_1 : List Int) (a1 : Int) (r : Int) (w : World) (hr0_1 : Kd.C (Kd.int .i64) w A0_1 l0_1.length l0_1) (hc0_1 : l0_1.length ≤ c0_1) (h : laws_szComplex.f a0_0 l0_1 a1 = some r) :
  Calls Try.prog 13 #[.agg #[.int .i64 a0_0, .slice A0_1 l0_1.length c0_1], .int .i64 a1] w fun e w' => e = .returned (.int .i64 r) ∧ Below w.heap.size w w' := by
 have hu24 := Try.underlying24
 have HR0_1 := Aside0.mk hr0_1
 have HC0_1 := Aside0.mk hc0_1
 clear hr0_1 hc0_1
 have HB := Aside0.mk (Below.refl w.heap.size w)
 have H : ((laws_szInt64S.f l0_1 a1).bind fun t102 => (if t102 < 0 then (some (-1)) else (some t102))) = some r := h
 clear h
 replace H := Option.bind_eq_some_iff.mp H
 obtain ⟨t102, A30, H⟩ := H
 try dsimp only at H
 have A3 := Aside0.mk A30
 clear A30
 by_cases c4 : t102 < 0
 ·rw [if_pos c4] at H
  have c4b0 : decide (t102 < 0) = true := decide_eq_true c4
  clear c4
  obtain rfl := Option.some.inj H
  go_enter Try.func13, Try.ntmps13
  go_wp2_with (first | ((with_reducible refine gate_dst (N := 2) rfl ?_); refine box_event ?hg (N := 2) ?hd (cs := #[.int .i64 a0_0, .slice A0_1 l0_1.length c0_1]) (t := 24) ?hr ?_; (case hd => rfl); (case hg => rfl); (case hr => first | (go_simp; done) | (go_simp; rfl)); intro gb101 hg w5 hbox hb; have BK101 := Aside0.mk (hbox); have GW101 := gH HB hg; have GE101 := gH HB hg; replace HB := sH HB hb; clear hb hbox hg; have hcz6_0 : w5.cell? ⟨gb101, 0, none⟩ = some (.int .i64 a0_0) := cB BK101 0; have hcz6_1 : w5.cell? ⟨gb101, 1, none⟩ = some (.slice A0_1 l0_1.length c0_1) := cB BK101 1; have hfz6_0 := zB BK101 0; have hfz6_1 := zB BK101 1) | ((with_reducible refine gate_callee (f := 49) rfl ?_); refine cl_ (some 8) Try.func49 #[.slice A0_1 l0_1.length c0_1, .int .i64 a1] ?_; (with_reducible refine (laws_szInt64S.calls _ _ l0_1 a1 t102 _ ?side1 ?side2 A3.out).mono ?_); (case side1 => exact pC ((Kd.C_below HR0_1.out HB.out))); (case side2 => exact HC0_1.out); rintro e w' ⟨rfl, ⟨nd, rfl⟩⟩; refine ⟨_, rfl, ?_⟩))
  go_ret
  exact ⟨by first | rfl | (simp [errW_none, errW_some] <;> rfl) | (simp [*, errW_none, errW_some] <;> rfl) | (exfalso; simp_all), pH HB⟩
 ·rw [if_neg c4] at H
  have c4b0 : decide (t102 < 0) = false := decide_eq_false c4
  clear c4
  obtain rfl := Option.some.inj H
  go_enter Try.func13, Try.ntmps13
  go_wp2_with (first | ((with_reducible refine gate_dst (N := 2) rfl ?_); refine box_event ?hg (N := 2) ?hd (cs := #[.int .i64 a0_0, .slice A0_1 l0_1.length c0_1]) (t := 24) ?hr ?_; (case hd => rfl); (case hg => rfl); (case hr => first | (go_simp; done) | (go_simp; rfl)); intro gb101 hg w7 hbox hb; have BK101 := Aside0.mk (hbox); have GW101 := gH HB hg; have GE101 := gH HB hg; replace HB := sH HB hb; clear hb hbox hg; have hcz8_0 : w7.cell? ⟨gb101, 0, none⟩ = some (.int .i64 a0_0) := cB BK101 0; have hcz8_1 : w7.cell? ⟨gb101, 1, none⟩ = some (.slice A0_1 l0_1.length c0_1) := cB BK101 1; have hfz8_0 := zB BK101 0; have hfz8_1 := zB BK101 1) | ((with_reducible refine gate_callee (f := 49) rfl ?_); refine cl_ (some 8) Try.func49 #[.slice A0_1 l0_1.length c0_1, .int .i64 a1] ?_; (with_reducible refine (laws_szInt64S.calls _ _ l0_1 a1 t102 _ ?side1 ?side2 A3.out).mono ?_); (case side1 => exact pC ((Kd.C_below HR0_1.out HB.out))); (case side2 => exact HC0_1.out); rintro e w' ⟨rfl, ⟨nd, rfl⟩⟩; refine ⟨_, rfl, ?_⟩))
  go_ret
  exact ⟨by first | rfl | (simp [errW_none, errW_some] <;> rfl) | (simp [*, errW_none, errW_some] <;> rfl) | (exfalso; simp_all), pH HB⟩
def laws_toInt64S.l0 : Nat → List Int → List Int → Int → Option (List Int)
 | 0, _, _, _ => none
 | k + 1, x0, x3, x4 => if x4 < (x0.length : Int) then (if 0 ≤ x4 then (if x4 < (x3.length : Int) then (laws_toInt64S.l0 k x0 (x3.set (x4 : Int).toNat (rd x0 x4)) (wrap64 (x4 + 1))) else (none)) else (none)) else (some x3)
def laws_toInt64S.f (k : Nat) (l0 : List Int) : Option (List Int) := if 0 ≤ (l0.length : Int) then (if ((l0.length : Int) : Int).toNat ≤ 35184372088832 then (laws_toInt64S.l0 k l0 (List.replicate ((l0.length : Int) : Int).toNat 0) 0) else (none)) else (none)
set_option maxHeartbeats 8000000 in
set_option maxRecDepth 100000 in
theorem laws_toInt64S.calls (k : Nat) (A0 : Option Addr) (c0 : Nat) (l0 : List Int) (r : List Int) (w : World) (hr0 : Kd.C (Kd.int .i64) w A0 l0.length l0) (hc0 : l0.length ≤ c0) (h : laws_toInt64S.f k l0 = some r) :
  Calls Try.prog 16 #[.slice A0 l0.length c0] w fun e w' => ∃ v0_ : Value, e = .returned (v0_) ∧ Kd.R (Kd.int .i64) 2 w' w.heap.size (fun _ => True) v0_ r ∧ Below w.heap.size w w' := by
 have HR0 := Aside0.mk hr0
 have HC0 := Aside0.mk hc0
 clear hr0 hc0
 have HB := Aside0.mk (Below.refl w.heap.size w)
 have H : (if 0 ≤ (l0.length : Int) then (if ((l0.length : Int) : Int).toNat ≤ 35184372088832 then (laws_toInt64S.l0 k l0 (List.replicate ((l0.length : Int) : Int).toNat 0) 0) else (none)) else (none)) = some r := h
 clear h
 by_cases c2 : 0 ≤ (l0.length : Int)
 ·rw [if_pos c2] at H
  have c2b0 := eq_true c2
  have c2b1 : decide (0 ≤ (l0.length : Int)) = true := decide_eq_true c2
  clear c2
  by_cases c3 : ((l0.length : Int) : Int).toNat ≤ 35184372088832
  ·rw [if_pos c3] at H
   have c3b0 := eq_true c3
   have c3b1 : decide (((l0.length : Int) : Int).toNat ≤ 35184372088832) = true := decide_eq_true c3
   clear c3
   obtain ⟨y103, hy103⟩ : ∃ y_ : List Int, y_ = (List.replicate ((l0.length : Int) : Int).toNat 0) := ⟨_, rfl⟩
   replace H : (laws_toInt64S.l0 k l0 y103 0) = some r := by first | (rw [hy103]; with_reducible exact H) | (have H2_ := (Option.bind_some _ _).symm.trans H; rw [hy103]; with_reducible exact H2_) | (have H2_ := (Option.bind_some _ _).symm.trans H; with_reducible exact H2_) | with_reducible exact H | (rw [hy103]; exact H) | exact H
   have Ny103 := Aside0.mk hy103
   clear hy103
   have H' := Aside0.mk H
   clear H
   go_enter Try.func16, Try.ntmps16
   go_wp2_with (first | ((with_reducible refine gate_dst (N := 7) rfl ?_); refine Kd.R_make (Kd.int .i64) _ 2 rfl (N := 7) rfl 22 _ _ rfl (l0.length : Int) rfl rfl Try.underlying22 (.int .i64 0) 8 info2 rfl (by decide) (by omega) 0 (ok := fun _ => True) (okp := fun _ => True) rfl (fun _ hk => hk) trivial (of_decide_eq_true (by first | (with_reducible assumption) | assumption)) (Nat.le_trans (Nat.mul_le_mul_right _ (of_decide_eq_true (by first | (with_reducible assumption) | assumption) : (l0.length : Int).toNat ≤ 35184372088832)) (by omega)) (Below.refl _ _) (Nat.le_refl _) ?_; intro v104 w4 ho5 hb hg_ hnew_; clear hg_ hnew_; (first | rw [← Ny103.out] at ho5 | (simp only [Int.reduceToNat] at ho5; rw [← Ny103.out] at ho5)); have HO105 := Aside0.mk (Kd.R_lower ho5 (below_size (pH HB))); replace HB := sH HB hb; clear hb ho5))
   go_loopg [4] k (fun kq v4 w' => ∃ (x3_1 : List Int) (x4_1 : Int), v4 = .int .i64 x4_1 ∧ Aside0 (laws_toInt64S.l0 kq l0 x3_1 x4_1 = some r) ∧ Aside0 (kq ≤ k) ∧ Aside0 (Kd.R (Kd.int .i64) 2 w' w.heap.size (fun _ => True) v104 x3_1) ∧ Aside0 (Below w.heap.size w w'))
   case atStart => exact ⟨(y103), (0), (by first | rfl | (simp; done) | (simp [*]; done)), H', ⟨Nat.le_refl _⟩, ⟨by (with_reducible repeat (first | apply Kd.R_alloc | apply Kd.R_drewN | apply Kd.R_drew)); exact HO105.out⟩, ⟨pH HB⟩⟩
   case round =>
    clear H'
    try clear c1
    try clear c2
    try clear c2b0
    try clear c2b1
    try clear p2
    try clear c3
    try clear c3b0
    try clear c3b1
    obtain ⟨x3_1, x4_1, rfl, HA, HK1, HO_3, HB⟩ := hrel
    cases gk with
    | zero => exact absurd HA.out (by simp [laws_toInt64S.l0])
    | succ k1 =>
     have H := HA.out
     clear HA
     simp only [laws_toInt64S.l0] at H
     by_cases c6 : x4_1 < (l0.length : Int)
     ·rw [if_pos c6] at H
      have c6b0 : decide (x4_1 < (l0.length : Int)) = true := decide_eq_true c6
      clear c6
      by_cases c7 : 0 ≤ x4_1
      ·rw [if_pos c7] at H
       have c7b0 : decide (0 ≤ x4_1) = true := decide_eq_true c7
       clear c7
       by_cases c8 : x4_1 < (x3_1.length : Int)
       ·rw [if_pos c8] at H
        have c8b0 : decide (x4_1 < (x3_1.length : Int)) = true := decide_eq_true c8
        clear c8
        obtain ⟨y107, hy107⟩ : ∃ y_ : List Int, y_ = (x3_1.set (x4_1 : Int).toNat (rd l0 x4_1)) := ⟨_, rfl⟩
        replace H : (laws_toInt64S.l0 k1 l0 y107 (wrap64 (x4_1 + 1))) = some r := by first | (rw [hy107]; with_reducible exact H) | (have H2_ := (Option.bind_some _ _).symm.trans H; rw [hy107]; with_reducible exact H2_) | (have H2_ := (Option.bind_some _ _).symm.trans H; with_reducible exact H2_) | with_reducible exact H | (rw [hy107]; exact H) | exact H
        have Ny107 := Aside0.mk hy107
        clear hy107
        have H' := Aside0.mk H
        clear H
        have p106 : 0 ≤ (x4_1 : Int) := of_decide_eq_true (by first | (with_reducible assumption) | assumption)
        have q106 : x4_1 < (l0.length : Int) := of_decide_eq_true (by first | (with_reducible assumption) | assumption)
        obtain ⟨ad106, e106, hx106_0⟩ := Kd.at_int HR0.out x4_1 p106 q106
        cases e106
        replace hx106_0 := cH HB hx106_0
        replace p106 := eq_true p106
        replace q106 := eq_true q106
        have p9 : 0 ≤ (x4_1 : Int) := of_decide_eq_true (by first | (with_reducible assumption) | assumption)
        have q9 : (x4_1 : Int) < ((x3_1.length : Int) : Int) := of_decide_eq_true (by first | (with_reducible assumption) | assumption)
        obtain ⟨go9, co9, eo9, gb9, gl9, cl9, HG9⟩ := Kd.R_form HO_3.out (by omega)
        (first | cases eo9 | (injection eo9 with ea_ en_ ec_; (first | subst ea_ | (injection ea_ with ea_; subst ea_)); subst ec_; clear en_))
        have GB9 := Aside0.mk gb9
        have GG9 := Aside0.mk HG9
        clear gb9 gl9 HG9
        obtain ⟨hx9_0, hf9_0⟩ := Kd.R_celln 0 HO_3.out (x4_1 : Int) p9 q9
        replace p9 := eq_true p9
        replace q9 := eq_true q9
        have HP10 := Kd.R_putg HO_3.out (x4_1 : Int) (rd l0 x4_1)
        go_wp2_with (first | ((with_reducible refine gate_store (t := 2) (p := 20) rfl ?_); refine store_event (t := 2) (p := 20) (v := ?vo_w11) (w1 := (wr.setCell ⟨go9, (x4_1 : Int).toNat, none⟩ (.int .i64 (rd l0 x4_1)))) ?hg ?ho ?hn ?hr ?_; (case ho => rfl); (case hg => rfl); (case hn => rfl); (case hr => first | (go_simp; done) | (go_simp; rfl)); intro w11 hw; have hg : wr.grownBy w11 (some go9) := (by rw [hw]; exact HP10.2); have hp_ : Kd.R (Kd.int .i64) 2 w11 w.heap.size (fun _ => True) (.slice (some ⟨go9, 0, none⟩) x3_1.length co9) y107 := (by rw [hw, Ny107.out]; exact HP10.1); clear HP10; have n0_ := Aside0.mk (hp_); have n1_ := Aside0.mk ((by rw [hw]; exact below_set (HB.out) GB9.out : Below w.heap.size w w11)); clear HO_3; clear HB; have HO_3 := n0_; have HB := n1_; clear n0_ n1_; clear hg hw hp_))
        go_roundg k1
        case measure => have := HK1.out; omega
        case rel => exact ⟨(y107), (wrap64 (x4_1 + 1)), (by first | rfl | (simp; done) | (simp [*]; done)), H', ⟨by have := HK1.out; omega⟩, ⟨by (with_reducible repeat (first | apply Kd.R_alloc | apply Kd.R_drewN | apply Kd.R_drew)); exact HO_3.out⟩, ⟨pH HB⟩⟩
       ·rw [if_neg c8] at H
        exact absurd H (by simp)
      ·rw [if_neg c7] at H
       exact absurd H (by simp)
     ·rw [if_neg c6] at H
      have c6b0 : decide (x4_1 < (l0.length : Int)) = false := decide_eq_false c6
      clear c6
      obtain rfl := Option.some.inj H
      go_wp2
      go_ret
      exact ⟨_, by first | rfl | (simp [errW_none, errW_some] <;> rfl) | (simp [*, errW_none, errW_some] <;> rfl) | (exfalso; simp_all), by (with_reducible repeat (first | apply Kd.R_alloc | apply Kd.R_drewN | apply Kd.R_drew)); exact HO_3.out, pH HB⟩
  ·rw [if_neg c3] at H
   exact absurd H (by simp)
 ·rw [if_neg c2] at H
  exact absurd H (by simp)
end Go.Proofs.Ytomdfjohnmikdaa.QS
