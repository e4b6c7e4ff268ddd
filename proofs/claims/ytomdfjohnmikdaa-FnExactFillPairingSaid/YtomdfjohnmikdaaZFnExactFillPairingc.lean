/- Words and lemmas for FnExactFillPairing, part 3: what the row's text comes to. -/
import Derived.Test.YtomdfjohnmikdaaProg
import Derived.Below
import Derived.Deep.Draws
import Derived.Deep.AppendLies
import Derived.Maps.AppendAt
import Derived.OwnWalk
import Derived.Laws.BytesArg
import Derived.Laws.MakeOwn
import Derived.Laws.OwnMore
import Derived.Deep.OwnRows
import Derived.Tactics
import Derived.Lib.ConvBytes
import Derived.Laws.Slices
import Derived.WalkKit
import Derived.KernelRfl
import Derived.RowKit3
import Derived.Deep.LoopGhost
import Derived.Deep.QuietTactic
import Derived.BigQuiet
import Derived.WideLaws
import Derived.Deep.DeepCutAuto
import Derived.Deep.CutBlock
import Derived.Deep.RegionHeld3
import Derived.Laws.Rows
import Derived.Lib.AppendStr
import Derived.ArgAppend
import Derived.Laws.IdiomCopy
import Derived.OrdersHeld
import Derived.Laws.BitsLemmas
import Derived.RowKit
import Derived.Test.YtomdfjohnmikdaaZFnExactFillPairingb
namespace Go.Proofs.Ytomdfjohnmikdaa.QI
open Go.Proofs.Ytomdfjohnmikdaa.Kp Go.Proofs.Ytomdfjohnmikdaa.Ext Go.RowKit Go.Proofs.YtomdfjohnmikdaaW.PrintWords Go.Proofs.YtomdfjohnmikdaaW.PrintLast Go.Proofs.YtomdfjohnmikdaaW.PrintMore
attribute [local go_sem] max2_int min2_int max_two min_two max_three min_three max_four min_four   -- for this text's walks alone
set_option linter.unusedVariables false
set_option linter.unusedSimpArgs false
def errW : Option Int → Value
  | none => .nilIface
  | some c => .iface 0 (.int .i64 c)
theorem errW_none : errW none = .nilIface := rfl
theorem errW_some (c : Int) : errW (some c) = .iface 0 (.int .i64 c) := rfl
end Go.Proofs.Ytomdfjohnmikdaa.QI
namespace Go.Proofs.Ytomdfjohnmikdaa.QI
open Go.Proofs.Ytomdfjohnmikdaa.Kp Go.Proofs.Ytomdfjohnmikdaa.Ext Go.RowKit Go.Proofs.YtomdfjohnmikdaaW.PrintWords Go.Proofs.YtomdfjohnmikdaaW.PrintLast Go.Proofs.YtomdfjohnmikdaaW.PrintMore
attribute [local go_sem] max2_int min2_int max_two min_two max_three min_three max_four min_four   -- for this text's walks alone
set_option linter.unusedVariables false
set_option linter.unusedSimpArgs false
def bits_OnesCount64.f (a0 : Int) : Option (Int) := some (Go.bits .and .i64 (wrap64 (IntKind.u64.wrap ((IntKind.u64.wrap ((IntKind.u64.wrap ((Go.bits .and .u64 (IntKind.u64.wrap (((IntKind.u64.wrap ((Go.bits .and .u64 ((IntKind.u64.wrap ((Go.bits .and .u64 (a0 / 2) 6148914691236517205) + (Go.bits .and .u64 a0 6148914691236517205))) / 4) 3689348814741910323) + (Go.bits .and .u64 (IntKind.u64.wrap ((Go.bits .and .u64 (a0 / 2) 6148914691236517205) + (Go.bits .and .u64 a0 6148914691236517205))) 3689348814741910323))) / 16) + (IntKind.u64.wrap ((Go.bits .and .u64 ((IntKind.u64.wrap ((Go.bits .and .u64 (a0 / 2) 6148914691236517205) + (Go.bits .and .u64 a0 6148914691236517205))) / 4) 3689348814741910323) + (Go.bits .and .u64 (IntKind.u64.wrap ((Go.bits .and .u64 (a0 / 2) 6148914691236517205) + (Go.bits .and .u64 a0 6148914691236517205))) 3689348814741910323))))) 1085102592571150095) + ((Go.bits .and .u64 (IntKind.u64.wrap (((IntKind.u64.wrap ((Go.bits .and .u64 ((IntKind.u64.wrap ((Go.bits .and .u64 (a0 / 2) 6148914691236517205) + (Go.bits .and .u64 a0 6148914691236517205))) / 4) 3689348814741910323) + (Go.bits .and .u64 (IntKind.u64.wrap ((Go.bits .and .u64 (a0 / 2) 6148914691236517205) + (Go.bits .and .u64 a0 6148914691236517205))) 3689348814741910323))) / 16) + (IntKind.u64.wrap ((Go.bits .and .u64 ((IntKind.u64.wrap ((Go.bits .and .u64 (a0 / 2) 6148914691236517205) + (Go.bits .and .u64 a0 6148914691236517205))) / 4) 3689348814741910323) + (Go.bits .and .u64 (IntKind.u64.wrap ((Go.bits .and .u64 (a0 / 2) 6148914691236517205) + (Go.bits .and .u64 a0 6148914691236517205))) 3689348814741910323))))) 1085102592571150095) / 256))) + ((IntKind.u64.wrap ((Go.bits .and .u64 (IntKind.u64.wrap (((IntKind.u64.wrap ((Go.bits .and .u64 ((IntKind.u64.wrap ((Go.bits .and .u64 (a0 / 2) 6148914691236517205) + (Go.bits .and .u64 a0 6148914691236517205))) / 4) 3689348814741910323) + (Go.bits .and .u64 (IntKind.u64.wrap ((Go.bits .and .u64 (a0 / 2) 6148914691236517205) + (Go.bits .and .u64 a0 6148914691236517205))) 3689348814741910323))) / 16) + (IntKind.u64.wrap ((Go.bits .and .u64 ((IntKind.u64.wrap ((Go.bits .and .u64 (a0 / 2) 6148914691236517205) + (Go.bits .and .u64 a0 6148914691236517205))) / 4) 3689348814741910323) + (Go.bits .and .u64 (IntKind.u64.wrap ((Go.bits .and .u64 (a0 / 2) 6148914691236517205) + (Go.bits .and .u64 a0 6148914691236517205))) 3689348814741910323))))) 1085102592571150095) + ((Go.bits .and .u64 (IntKind.u64.wrap (((IntKind.u64.wrap ((Go.bits .and .u64 ((IntKind.u64.wrap ((Go.bits .and .u64 (a0 / 2) 6148914691236517205) + (Go.bits .and .u64 a0 6148914691236517205))) / 4) 3689348814741910323) + (Go.bits .and .u64 (IntKind.u64.wrap ((Go.bits .and .u64 (a0 / 2) 6148914691236517205) + (Go.bits .and .u64 a0 6148914691236517205))) 3689348814741910323))) / 16) + (IntKind.u64.wrap ((Go.bits .and .u64 ((IntKind.u64.wrap ((Go.bits .and .u64 (a0 / 2) 6148914691236517205) + (Go.bits .and .u64 a0 6148914691236517205))) / 4) 3689348814741910323) + (Go.bits .and .u64 (IntKind.u64.wrap ((Go.bits .and .u64 (a0 / 2) 6148914691236517205) + (Go.bits .and .u64 a0 6148914691236517205))) 3689348814741910323))))) 1085102592571150095) / 256))) / 65536))) + ((IntKind.u64.wrap ((IntKind.u64.wrap ((Go.bits .and .u64 (IntKind.u64.wrap (((IntKind.u64.wrap ((Go.bits .and .u64 ((IntKind.u64.wrap ((Go.bits .and .u64 (a0 / 2) 6148914691236517205) + (Go.bits .and .u64 a0 6148914691236517205))) / 4) 3689348814741910323) + (Go.bits .and .u64 (IntKind.u64.wrap ((Go.bits .and .u64 (a0 / 2) 6148914691236517205) + (Go.bits .and .u64 a0 6148914691236517205))) 3689348814741910323))) / 16) + (IntKind.u64.wrap ((Go.bits .and .u64 ((IntKind.u64.wrap ((Go.bits .and .u64 (a0 / 2) 6148914691236517205) + (Go.bits .and .u64 a0 6148914691236517205))) / 4) 3689348814741910323) + (Go.bits .and .u64 (IntKind.u64.wrap ((Go.bits .and .u64 (a0 / 2) 6148914691236517205) + (Go.bits .and .u64 a0 6148914691236517205))) 3689348814741910323))))) 1085102592571150095) + ((Go.bits .and .u64 (IntKind.u64.wrap (((IntKind.u64.wrap ((Go.bits .and .u64 ((IntKind.u64.wrap ((Go.bits .and .u64 (a0 / 2) 6148914691236517205) + (Go.bits .and .u64 a0 6148914691236517205))) / 4) 3689348814741910323) + (Go.bits .and .u64 (IntKind.u64.wrap ((Go.bits .and .u64 (a0 / 2) 6148914691236517205) + (Go.bits .and .u64 a0 6148914691236517205))) 3689348814741910323))) / 16) + (IntKind.u64.wrap ((Go.bits .and .u64 ((IntKind.u64.wrap ((Go.bits .and .u64 (a0 / 2) 6148914691236517205) + (Go.bits .and .u64 a0 6148914691236517205))) / 4) 3689348814741910323) + (Go.bits .and .u64 (IntKind.u64.wrap ((Go.bits .and .u64 (a0 / 2) 6148914691236517205) + (Go.bits .and .u64 a0 6148914691236517205))) 3689348814741910323))))) 1085102592571150095) / 256))) + ((IntKind.u64.wrap ((Go.bits .and .u64 (IntKind.u64.wrap (((IntKind.u64.wrap ((Go.bits .and .u64 ((IntKind.u64.wrap ((Go.bits .and .u64 (a0 / 2) 6148914691236517205) + (Go.bits .and .u64 a0 6148914691236517205))) / 4) 3689348814741910323) + (Go.bits .and .u64 (IntKind.u64.wrap ((Go.bits .and .u64 (a0 / 2) 6148914691236517205) + (Go.bits .and .u64 a0 6148914691236517205))) 3689348814741910323))) / 16) + (IntKind.u64.wrap ((Go.bits .and .u64 ((IntKind.u64.wrap ((Go.bits .and .u64 (a0 / 2) 6148914691236517205) + (Go.bits .and .u64 a0 6148914691236517205))) / 4) 3689348814741910323) + (Go.bits .and .u64 (IntKind.u64.wrap ((Go.bits .and .u64 (a0 / 2) 6148914691236517205) + (Go.bits .and .u64 a0 6148914691236517205))) 3689348814741910323))))) 1085102592571150095) + ((Go.bits .and .u64 (IntKind.u64.wrap (((IntKind.u64.wrap ((Go.bits .and .u64 ((IntKind.u64.wrap ((Go.bits .and .u64 (a0 / 2) 6148914691236517205) + (Go.bits .and .u64 a0 6148914691236517205))) / 4) 3689348814741910323) + (Go.bits .and .u64 (IntKind.u64.wrap ((Go.bits .and .u64 (a0 / 2) 6148914691236517205) + (Go.bits .and .u64 a0 6148914691236517205))) 3689348814741910323))) / 16) + (IntKind.u64.wrap ((Go.bits .and .u64 ((IntKind.u64.wrap ((Go.bits .and .u64 (a0 / 2) 6148914691236517205) + (Go.bits .and .u64 a0 6148914691236517205))) / 4) 3689348814741910323) + (Go.bits .and .u64 (IntKind.u64.wrap ((Go.bits .and .u64 (a0 / 2) 6148914691236517205) + (Go.bits .and .u64 a0 6148914691236517205))) 3689348814741910323))))) 1085102592571150095) / 256))) / 65536))) / 4294967296)))) 127)
def impl_size.f (a0 : Int) : Option (Int) := (bits_OnesCount64.f (IntKind.u64.wrap (a0))).bind fun t101 => (some t101)
end Go.Proofs.Ytomdfjohnmikdaa.QI
namespace Go.Proofs.Ytomdfjohnmikdaa.Im
set_option linter.unusedVariables false
set_option linter.unusedSimpArgs false
open Go.RowKit Go.Shelf Go.Proofs.Ytomdfjohnmikdaa.QI Go.Proofs.Ytomdfjohnmikdaa.Ext Go.Proofs.YtomdfjohnmikdaaW.PrintWords Go.Proofs.YtomdfjohnmikdaaW.PrintLast Go.Proofs.YtomdfjohnmikdaaW.PrintMore
def onesZ (x : Int) : Int := ((verts x).length : Int)
theorem size_all : ((List.range 64).all fun f => impl_size.f (f : Int) == some (onesZ (f : Int))) = true := by decide +kernel
theorem size_eq {x : Int} (h0 : 0 ≤ x) (h6 : x ≤ 63) : impl_size.f x = some (onesZ x) := by
  obtain ⟨m, rfl⟩ := Int.eq_ofNat_of_zero_le h0
  exact eq_of_beq (List.all_eq_true.1 size_all m (List.mem_range.2 (by omega)))
theorem isC_63 {n : Int} {l : List Int} (h : isC n l = true) : ∀ x ∈ l, 1 ≤ x ∧ x ≤ 63 := by
  obtain ⟨⟨h1, h6⟩, ha, _⟩ := isC_of h
  intro x hx
  obtain ⟨i, hi, rfl⟩ := List.mem_iff_getElem.1 hx
  have h2 := List.all_eq_true.1 ha i (List.mem_range.2 hi)
  simp only [okAt, List.getElem?_eq_getElem hi, Option.getD_some, withinB, Bool.and_eq_true, decide_eq_true_eq] at h2
  have hF : fullZ n ≤ 63 := by
    obtain rfl | rfl | rfl | rfl | rfl | rfl : n = 1 ∨ n = 2 ∨ n = 3 ∨ n = 4 ∨ n = 5 ∨ n = 6 := by omega
    all_goals decide +kernel
  omega
theorem w64' {x : Int} (h1 : -9223372036854775808 ≤ x) (h2 : x ≤ 9223372036854775807) : wrap64 x = x := by unfold wrap64; omega
theorem rd_at' {l : List Int} {i : Nat} (h : i < l.length) : rd l (i : Int) = l[i] := by simp [rd, List.getD_eq_getElem?_getD, List.getElem?_eq_getElem h]
end Go.Proofs.Ytomdfjohnmikdaa.Im
namespace Go.Proofs.Ytomdfjohnmikdaa.Im
set_option linter.unusedVariables false
set_option linter.unusedSimpArgs false
open Go.RowKit Go.Shelf Go.Proofs.Ytomdfjohnmikdaa.QI Go.Proofs.Ytomdfjohnmikdaa.Ext Go.Proofs.YtomdfjohnmikdaaW.PrintWords Go.Proofs.YtomdfjohnmikdaaW.PrintLast Go.Proofs.YtomdfjohnmikdaaW.PrintMore
end Go.Proofs.Ytomdfjohnmikdaa.Im
namespace Go.Proofs.Ytomdfjohnmikdaa.Im
set_option linter.unusedVariables false
set_option linter.unusedSimpArgs false
open Go.RowKit Go.Shelf Go.Proofs.Ytomdfjohnmikdaa.Kp Go.Proofs.Ytomdfjohnmikdaa.Ext Go.Proofs.Ytomdfjohnmikdaa.Cw Go.Proofs.YtomdfjohnmikdaaW.PrintWords Go.Proofs.YtomdfjohnmikdaaW.PrintLast Go.Proofs.YtomdfjohnmikdaaW.PrintMore
theorem sizeA_eq {x : Int} (h0 : 0 ≤ x) (h6 : x ≤ 63) : QA.impl_size.f x = some (onesZ x) := size_eq h0 h6
/-- Whether two numbers are a pair of a complex. -/
def pairB (xs : List Int) (p : Pr) : Bool := decide (p.f0 ∈ xs) && (decide (p.f1 ∈ xs) && ((Go.bits .andNot .i64 p.f0 p.f1 == 0) && (onesZ p.f1 == onesZ p.f0 + 1)))
theorem isPair_f {n : Int} {xs : List Int} (hi : isC n xs = true) (p : Pr) : QA.impl_Complex_isPair.f n xs p.f0 p.f1 = some (pairB xs p) := by
  have hs := isC_small hi
  have ha := ascB_asc (isC_of hi).2.1
  have r := isC_63 hi
  unfold QA.impl_Complex_isPair.f pairB impl_Complex_has.f impl_isIn.f
  rw [if_pos ⟨by omega, ha⟩, if_pos ⟨by omega, ha⟩]
  simp only [Option.bind_some, decide_eq_true_eq, if_true]
  by_cases h0 : p.f0 ∈ xs
  · by_cases h1 : p.f1 ∈ xs
    · have a0 := r _ h0
      have a1 := r _ h1
      have hv := verts_len p.f0
      rw [if_pos h0, if_pos h1, sizeA_eq (by omega) (by omega), sizeA_eq (by omega) (by omega)]
      simp only [Option.bind_some, h0, h1, decide_true, Bool.true_and]
      rw [w64' (by unfold onesZ; omega) (by unfold onesZ; omega)]
      cases (Go.bits .andNot .i64 p.f0 p.f1 == 0) <;> simp
    · simp [h0, h1]
  · simp [h0]
theorem isPair_c (n : Int) (A : Option Addr) (c : Nat) (xs : List Int) (p : Pr) (w : World) (hr : RC w A xs.length xs) (hc : xs.length ≤ c) (hi : isC n xs = true) :
    Calls Try.prog 114 #[.agg #[.int .i64 n, .slice A xs.length c], .agg #[.int .i64 p.f0, .int .i64 p.f1]] w fun e w' => e = .returned (.bool (pairB xs p)) ∧ Below w.heap.size w w' :=
  QA.impl_Complex_isPair.calls n A c xs p.f0 p.f1 _ w hr hc (isPair_f hi p)
def hasF (x : Int) (q : Pr) : Bool := x == q.f0 || x == q.f1
def okPairAt (xs : List Int) (l : List Pr) (i : Nat) : Bool :=
  pairB xs (l.getD i z73) && (!(l.take i).any (hasF (l.getD i z73).f0) && (!(l.take i).any (hasF (l.getD i z73).f1) && (i == 0 || decide (cmpP (l.getD (i - 1) z73) (l.getD i z73) < 0))))
def pairingB (xs : List Int) (l : List Pr) : Bool := (List.range l.length).all (okPairAt xs l)
theorem pairingB_no {xs : List Int} {l : List Pr} {i : Nat} (hi : i < l.length) (h : okPairAt xs l i = false) : pairingB xs l = false := by
  rw [Bool.eq_false_iff]
  intro hc
  rw [List.all_eq_true.1 hc i (List.mem_range.2 hi)] at h
  cases h
theorem pairingB_yes {xs : List Int} {l : List Pr} (h : ∀ i, i < l.length → okPairAt xs l i = true) : pairingB xs l = true := List.all_eq_true.2 (fun i hi => h i (List.mem_range.1 hi))
def CellsP (w : World) (ad : Addr) (m : Nat) (q : Pr) : Prop := w.cell? (ad.add (m * 2)) = some (.int .i64 q.f0) ∧ w.cell? ⟨(ad.add (m * 2)).block, (ad.add (m * 2)).off + 1, none⟩ = some (.int .i64 q.f1)
theorem cellsP_below {w w1 : World} {ad : Addr} {m : Nat} {q : Pr} (h : CellsP w ad m q) (hb : Below w.heap.size w w1) : CellsP w1 ad m q := ⟨pw_cell_below hb h.1, pw_cell_below hb h.2⟩
theorem CxAt.drew' {w : World} {b : Nat} {n : Int} {A : Option Addr} {len c : Nat} (h : CxAt w b n A len c) : CxAt w.drew b n A len c := h
theorem prAt_put {w w1 : World} {b g : Nat} {x y : Int} {M : List (Int × Bool)} (h : PrAt w g x y) (hm : MapB w b M) (hg : w.grownBy w1 (some b)) : PrAt w1 g x y := (hg.block g h.lt (fun e => hm.ne h (by injection e with e; exact e.symm))).trans h
theorem cxAt_put {w w1 : World} {b g : Nat} {n : Int} {A : Option Addr} {len c : Nat} {M : List (Int × Bool)} (h : CxAt w g n A len c) (hm : MapB w b M) (hg : w.grownBy w1 (some b)) : CxAt w1 g n A len c := (hg.block g h.lt (fun e => hm.ne h (by injection e with e; exact e.symm))).trans h
/-- What the pairs so far have met. -/
def Met (w : World) (b : Nat) (l : List Pr) : Prop := ∃ M, MapB w b M ∧ ∀ x, getM M x = l.any (hasF x)
theorem lookB {w : World} {b : Nat} {M : List (Int × Bool)} {v : Bool} (h : MapB w b M) {x : Int} (hv : getM M x = v) : (Instr.lookup 132 (.map (some b)) (.int .i64 x) false).run Try.prog w = .ok (.bool v) w := by
  rw [← hv]
  exact h.look Try.underlying132 Try.underlying2 (by kernel_rfl) x
theorem putB {w : World} {b : Nat} {M : List (Int × Bool)} (h : MapB w b M) (x : Int) (v : Bool) : ∃ w', (Instr.mapUpdate 132 (.map (some b)) (.int .i64 x) (.bool v)).run Try.prog w = .ok () w' ∧ MapB w' b (putM M x v) ∧ w.grownBy w' (some b) ∧ w'.heap.size = w.heap.size :=
  h.put Try.underlying132 Try.underlying2 x v
theorem met_snoc {w : World} {b : Nat} {M : List (Int × Bool)} {l : List Pr} {q : Pr} (h : MapB w b (putM (putM M q.f0 true) q.f1 true)) (hM : ∀ x, getM M x = l.any (hasF x)) : Met w b (l ++ [q]) := by
  refine ⟨_, h, fun x => ?_⟩
  rw [getM_put, getM_put, hM, List.any_append]
  by_cases h1 : x = q.f1
  · simp [h1, hasF]
  · by_cases h0 : x = q.f0
    · simp [h0, hasF]
    · simp [h0, h1, hasF]
theorem getD_take {l : List Pr} {k : Nat} (hk : k < l.length) : l.take (k + 1) = l.take k ++ [l.getD k z73] := by
  rw [List.take_succ_eq_append_getElem hk, List.getD_eq_getElem?_getD, List.getElem?_eq_getElem hk]
  rfl
set_option maxRecDepth 100000 in
set_option maxHeartbeats 2000000 in
theorem isPairing_c (n : Int) (A : Option Addr) (c : Nat) (xs : List Int) (A1 : Option Addr) (c1 : Nat) (l : List Pr) (w : World) (hr : RC w A xs.length xs) (hc : xs.length ≤ c) (hi : isC n xs = true) (hr1 : Kd.C k73 w A1 l.length l) (hl : l.length ≤ 1099511627776) :
    Calls Try.prog 118 #[.agg #[.int .i64 n, .slice A xs.length c], .slice A1 l.length c1] w fun e w' => e = .returned (.bool (pairingB xs l)) ∧ Below w.heap.size w w' := by
  have HR := Aside0.mk hr
  have HR1 := Aside0.mk hr1
  have HI := Aside0.mk hi
  have HC := Aside0.mk hc
  clear hr hr1 hi hc
  have hmm := @run_makeMap Try.prog
  have hx0 := Aside0.mk ((CxAt.new w n A xs.length c).below (below_alloc (Below.refl _ _) (.map #[] 0)))
  have hm0 : Aside0 (MapB ((w.alloc (.cells #[.int .i64 n, .slice A xs.length c] 28)).alloc (.map #[] 0)) (w.heap.size + 1) []) := ⟨by simpa using MapB.made (w.alloc (.cells #[.int .i64 n, .slice A xs.length c] 28))⟩
  go_enter Try.func118, Try.ntmps118
  go_wp2
  go_loopw [11] (fun i wr => ∃ k : Nat, k ≤ l.length ∧ i = .int .i64 k ∧ Aside0 (Below w.heap.size w wr) ∧ Aside0 (CxAt wr w.heap.size n A xs.length c) ∧ Aside0 (Met wr (w.heap.size + 1) (l.take k)) ∧ Aside0 (∀ j, j < k → okPairAt xs l j = true)) (fun i _ => l.length - (intOf i).toNat)
  case atStart => exact ⟨0, by omega, rfl, ⟨below_alloc (below_alloc (Below.refl _ _) _) _⟩, hx0, ⟨[], hm0.out, fun x => rfl⟩, ⟨fun j hj => absurd hj (by omega)⟩⟩
  case round =>
    clear hx0 hm0
    obtain ⟨k, hk, rfl, hB, hX, hM, hA⟩ := hrel
    by_cases hlt : k < l.length
    · have hltz : (k : Int) < (l.length : Int) := by omega
      obtain ⟨ad, rfl, h0, h1⟩ := pair_at (Kd.C_below HR1.out hB.out) k hlt
      obtain ⟨q, hq⟩ : ∃ q, l.getD k z73 = q := ⟨_, rfl⟩
      rw [hq] at h0 h1
      have HQ := Aside0.mk hq
      have HL := Aside0.mk hlt
      clear hq
      obtain ⟨M, hm1, hm2⟩ := hM.out
      clear hM
      have HN := Aside0.mk hm2
      clear hm2
      have HX := Aside0.mk ((hX.out.below (below_alloc (Below.refl _ _) (.cells #[.int .i64 q.f0, .int .i64 q.f1] 73))).below (Below.refl _ _).drew)
      have HM := Aside0.mk ((hm1.alloc (.cells #[.int .i64 q.f0, .int .i64 q.f1] 73)).drew)
      have HP := Aside0.mk ((PrAt.new wr q.f0 q.f1).drew)
      have HB := Aside0.mk ((hB.out.trans ((below_alloc (Below.refl wr.heap.size wr) (.cells #[.int .i64 q.f0, .int .i64 q.f1] 73)).mono hB.out.size)).drew)
      have HG := Aside0.mk hB.out.size
      clear hX hm1 hB
      by_cases h1' : pairB xs q = true
      case neg =>
        have H1 := Aside0.mk (Bool.eq_false_iff.2 h1')
        have hno : okPairAt xs l k = false := by unfold okPairAt; rw [HQ.out, H1.out]; rfl
        have HNO := Aside0.mk (pairingB_no HL.out hno)
        clear h1' hno
        go_wp2
        refine st_ 30 (S := fun w' => w'.cell? ⟨w.heap.size, 0, none⟩ = some (.int .i64 n) ∧ w'.cell? ⟨w.heap.size, 1, none⟩ = some (.slice A xs.length c) ∧ w'.cell? ⟨wr.heap.size, 0, none⟩ = some (.int .i64 q.f0) ∧ w'.cell? ⟨wr.heap.size, 1, none⟩ = some (.int .i64 q.f1)) (ds := []) ⟨HX.out.c0, HX.out.c1, HP.out.c0, HP.out.c1⟩ (fun hHeld => ?_)
        refine with_tabW (T := (true, [([], []), ([], []), ([0, 1], [0, 1]), ([2], [2]), ([3, 2], [3]), ([4], [4]), ([4], [4]), ([6, 4], [4, 6]), ([5, 7, 4], [4, 5, 7]), ([4, 8], [4, 8]), ([9, 4], [9]), ([10], [10]), ([10], [10]), ([12, 10], [10, 12]), ([11, 13, 10], [10, 11, 13]), ([10, 14], [10, 14]), ([15, 10], [15]), ([16], [16]), ([17, 16], [16, 17]), ([18, 16, 16], [16, 18]), ([19], [19]), ([19], [19]), ([21, 19], [19, 21]), ([20, 22, 19], [19, 20, 22]), ([23, 19], [19, 23]), ([19], [19]), ([24, 25, 19, 19], [19, 24, 25]), ([26, 19], [19, 26]), ([19, 27, 16], [16, 19, 27]), ([16, 28], [16, 28])])) (B := [0, 0, 3, 7, 15, 31, 31, 95, 255, 511, 1023, 2047, 2047, 6143, 16383, 32767, 65535, 131071, 262143, 524287, 1048575, 1048575, 3145727, 8388607, 16777215, 1048575, 67108863, 134217727, 268435455, 536870911]) (by kernel_rfl) (by kernel_rfl) (fun HT_ HW_ => ?_)
        refine tk_ 0 16 1 HT_ HW_ hHeld ?_
        refine tk_ 1 17 3 HT_ HW_ hHeld ?_
        refine on_ 2 (some 18) 7 HT_ (fun K hK => ?_)
        refine ca_ Try.func114 #[.agg #[.int .i64 n, .slice A xs.length c], .agg #[.int .i64 q.f0, .int .i64 q.f1]] ?_
        refine (isPair_c n A c xs q _ (Kd.C_below HR.out HB.out) HC.out HI.out).mono ?_; rw [show pairB xs q = false from H1.out]; rintro e w1 ⟨rfl, hb⟩; have HX1 := Aside0.mk (HX.out.below hb); have HM1 := Aside0.mk (HM.out.below hb); have HP1 := Aside0.mk (HP.out.below hb); have HB1 := Aside0.mk (below_in HB.out hb); clear HX HM HP HB; have HX := HX1; have HM := HM1; have HP := HP1; have HB := HB1; clear HX1 HM1 HP1 HB1
        refine ⟨_, rfl, ?_⟩
        refine hK.out _ _ ⟨HX.out.c0, HX.out.c1, HP.out.c0, HP.out.c1⟩ (fun hHeld => ?_)
        clear hK K
        refine nm_ ?_
        refine pd_ 3 19 15 HT_ ?_
        refine pd_ 4 20 31 HT_ ?_
        refine pn_ 5 21 63 HT_ ?_
        refine pn_ 6 22 127 HT_ ?_
        refine pn_ 7 23 255 HT_ ?_
        refine pn_ 8 24 511 HT_ ?_
        refine pd_ 9 25 1023 HT_ ?_
        refine pd_ 10 26 2047 HT_ ?_
        refine pn_ 11 27 4095 HT_ ?_
        refine pn_ 12 28 8191 HT_ ?_
        refine pn_ 13 29 16383 HT_ ?_
        refine pn_ 14 30 32767 HT_ ?_
        refine pd_ 15 31 65535 HT_ ?_
        refine pd_ 16 32 131071 HT_ ?_
        refine pn_ 17 33 262143 HT_ ?_
        refine pn_ 18 34 524287 HT_ ?_
        refine pn_ 19 35 1048575 HT_ ?_
        refine pn_ 20 36 2097151 HT_ ?_
        refine pn_ 21 37 4194303 HT_ ?_
        refine pn_ 22 38 8388607 HT_ ?_
        refine pn_ 23 39 16777215 HT_ ?_
        refine pn_ 24 40 33554431 HT_ ?_
        refine pn_ 25 41 67108863 HT_ ?_
        refine pn_ 26 42 134217727 HT_ ?_
        refine pn_ 27 43 268435455 HT_ ?_
        refine pn_ 28 44 536870911 HT_ ?_
        refine pd_ 29 45 1073741823 HT_ ?_
        refine dn_ HT_ ?_
        go_wp2
        go_ret
        exact ⟨by rw [HNO.out]; rfl, HB.out⟩
      have H1 := Aside0.mk h1'
      clear h1'
      by_cases h2' : getM M q.f0 = true
      case pos =>
        have H2 := Aside0.mk h2'
        have hno : okPairAt xs l k = false := by unfold okPairAt; rw [HQ.out, H1.out, ← HN.out, H2.out]; rfl
        have HNO := Aside0.mk (pairingB_no HL.out hno)
        clear h2' hno
        go_wp2
        refine st_ 30 (S := fun w' => w'.cell? ⟨w.heap.size, 0, none⟩ = some (.int .i64 n) ∧ w'.cell? ⟨w.heap.size, 1, none⟩ = some (.slice A xs.length c) ∧ w'.cell? ⟨wr.heap.size, 0, none⟩ = some (.int .i64 q.f0) ∧ w'.cell? ⟨wr.heap.size, 1, none⟩ = some (.int .i64 q.f1) ∧ (Instr.lookup 132 (.map (some (w.heap.size + 1))) (.int .i64 q.f0) false).run Try.prog w' = .ok (.bool true) w') (ds := []) ⟨HX.out.c0, HX.out.c1, HP.out.c0, HP.out.c1, lookB HM.out H2.out⟩ (fun hHeld => ?_)
        refine with_tabW (T := (true, [([], []), ([], []), ([0, 1], [0, 1]), ([2], [2]), ([3, 2], [3]), ([4], [4]), ([4], [4]), ([6, 4], [4, 6]), ([5, 7, 4], [4, 5, 7]), ([4, 8], [4, 8]), ([9, 4], [9]), ([10], [10]), ([10], [10]), ([12, 10], [10, 12]), ([11, 13, 10], [10, 11, 13]), ([10, 14], [10, 14]), ([15, 10], [15]), ([16], [16]), ([17, 16], [16, 17]), ([18, 16, 16], [16, 18]), ([19], [19]), ([19], [19]), ([21, 19], [19, 21]), ([20, 22, 19], [19, 20, 22]), ([23, 19], [19, 23]), ([19], [19]), ([24, 25, 19, 19], [19, 24, 25]), ([26, 19], [19, 26]), ([19, 27, 16], [16, 19, 27]), ([16, 28], [16, 28])])) (B := [0, 0, 3, 7, 15, 31, 31, 95, 255, 511, 1023, 2047, 2047, 6143, 16383, 32767, 65535, 131071, 262143, 524287, 1048575, 1048575, 3145727, 8388607, 16777215, 1048575, 67108863, 134217727, 268435455, 536870911]) (by kernel_rfl) (by kernel_rfl) (fun HT_ HW_ => ?_)
        refine tk_ 0 16 1 HT_ HW_ hHeld ?_
        refine tk_ 1 17 3 HT_ HW_ hHeld ?_
        refine on_ 2 (some 18) 7 HT_ (fun K hK => ?_)
        refine ca_ Try.func114 #[.agg #[.int .i64 n, .slice A xs.length c], .agg #[.int .i64 q.f0, .int .i64 q.f1]] ?_
        refine (isPair_c n A c xs q _ (Kd.C_below HR.out HB.out) HC.out HI.out).mono ?_; rw [show pairB xs q = true from H1.out]; rintro e w1 ⟨rfl, hb⟩; have HX1 := Aside0.mk (HX.out.below hb); have HM1 := Aside0.mk (HM.out.below hb); have HP1 := Aside0.mk (HP.out.below hb); have HB1 := Aside0.mk (below_in HB.out hb); clear HX HM HP HB; have HX := HX1; have HM := HM1; have HP := HP1; have HB := HB1; clear HX1 HM1 HP1 HB1
        refine ⟨_, rfl, ?_⟩
        refine hK.out _ _ ⟨HX.out.c0, HX.out.c1, HP.out.c0, HP.out.c1, lookB HM.out H2.out⟩ (fun hHeld => ?_)
        clear hK K
        refine nm_ ?_
        refine pd_ 3 19 15 HT_ ?_
        refine pd_ 4 20 31 HT_ ?_
        refine pd_ 5 21 63 HT_ ?_
        refine pd_ 6 22 127 HT_ ?_
        refine tk_ 7 23 255 HT_ HW_ hHeld ?_
        refine tk_ 8 24 511 HT_ HW_ hHeld ?_
        refine pd_ 9 25 1023 HT_ ?_
        refine pd_ 10 26 2047 HT_ ?_
        refine pn_ 11 27 4095 HT_ ?_
        refine pn_ 12 28 8191 HT_ ?_
        refine pn_ 13 29 16383 HT_ ?_
        refine pn_ 14 30 32767 HT_ ?_
        refine pd_ 15 31 65535 HT_ ?_
        refine pd_ 16 32 131071 HT_ ?_
        refine pn_ 17 33 262143 HT_ ?_
        refine pn_ 18 34 524287 HT_ ?_
        refine pn_ 19 35 1048575 HT_ ?_
        refine pn_ 20 36 2097151 HT_ ?_
        refine pn_ 21 37 4194303 HT_ ?_
        refine pn_ 22 38 8388607 HT_ ?_
        refine pn_ 23 39 16777215 HT_ ?_
        refine pn_ 24 40 33554431 HT_ ?_
        refine pn_ 25 41 67108863 HT_ ?_
        refine pn_ 26 42 134217727 HT_ ?_
        refine pn_ 27 43 268435455 HT_ ?_
        refine pn_ 28 44 536870911 HT_ ?_
        refine pd_ 29 45 1073741823 HT_ ?_
        refine dn_ HT_ ?_
        go_wp2
        go_ret
        exact ⟨by rw [HNO.out]; rfl, HB.out⟩
      have H2 := Aside0.mk (Bool.eq_false_iff.2 h2')
      clear h2'
      by_cases h3' : getM M q.f1 = true
      case pos =>
        have H3 := Aside0.mk h3'
        have hno : okPairAt xs l k = false := by unfold okPairAt; rw [HQ.out, H1.out, ← HN.out, ← HN.out, H2.out, H3.out]; rfl
        have HNO := Aside0.mk (pairingB_no HL.out hno)
        clear h3' hno
        go_wp2
        refine st_ 30 (S := fun w' => w'.cell? ⟨w.heap.size, 0, none⟩ = some (.int .i64 n) ∧ w'.cell? ⟨w.heap.size, 1, none⟩ = some (.slice A xs.length c) ∧ w'.cell? ⟨wr.heap.size, 0, none⟩ = some (.int .i64 q.f0) ∧ w'.cell? ⟨wr.heap.size, 1, none⟩ = some (.int .i64 q.f1) ∧ (Instr.lookup 132 (.map (some (w.heap.size + 1))) (.int .i64 q.f0) false).run Try.prog w' = .ok (.bool false) w' ∧ (Instr.lookup 132 (.map (some (w.heap.size + 1))) (.int .i64 q.f1) false).run Try.prog w' = .ok (.bool true) w') (ds := []) ⟨HX.out.c0, HX.out.c1, HP.out.c0, HP.out.c1, lookB HM.out H2.out, lookB HM.out H3.out⟩ (fun hHeld => ?_)
        refine with_tabW (T := (true, [([], []), ([], []), ([0, 1], [0, 1]), ([2], [2]), ([3, 2], [3]), ([4], [4]), ([4], [4]), ([6, 4], [4, 6]), ([5, 7, 4], [4, 5, 7]), ([4, 8], [4, 8]), ([9, 4], [9]), ([10], [10]), ([10], [10]), ([12, 10], [10, 12]), ([11, 13, 10], [10, 11, 13]), ([10, 14], [10, 14]), ([15, 10], [15]), ([16], [16]), ([17, 16], [16, 17]), ([18, 16, 16], [16, 18]), ([19], [19]), ([19], [19]), ([21, 19], [19, 21]), ([20, 22, 19], [19, 20, 22]), ([23, 19], [19, 23]), ([19], [19]), ([24, 25, 19, 19], [19, 24, 25]), ([26, 19], [19, 26]), ([19, 27, 16], [16, 19, 27]), ([16, 28], [16, 28])])) (B := [0, 0, 3, 7, 15, 31, 31, 95, 255, 511, 1023, 2047, 2047, 6143, 16383, 32767, 65535, 131071, 262143, 524287, 1048575, 1048575, 3145727, 8388607, 16777215, 1048575, 67108863, 134217727, 268435455, 536870911]) (by kernel_rfl) (by kernel_rfl) (fun HT_ HW_ => ?_)
        refine tk_ 0 16 1 HT_ HW_ hHeld ?_
        refine tk_ 1 17 3 HT_ HW_ hHeld ?_
        refine on_ 2 (some 18) 7 HT_ (fun K hK => ?_)
        refine ca_ Try.func114 #[.agg #[.int .i64 n, .slice A xs.length c], .agg #[.int .i64 q.f0, .int .i64 q.f1]] ?_
        refine (isPair_c n A c xs q _ (Kd.C_below HR.out HB.out) HC.out HI.out).mono ?_; rw [show pairB xs q = true from H1.out]; rintro e w1 ⟨rfl, hb⟩; have HX1 := Aside0.mk (HX.out.below hb); have HM1 := Aside0.mk (HM.out.below hb); have HP1 := Aside0.mk (HP.out.below hb); have HB1 := Aside0.mk (below_in HB.out hb); clear HX HM HP HB; have HX := HX1; have HM := HM1; have HP := HP1; have HB := HB1; clear HX1 HM1 HP1 HB1
        refine ⟨_, rfl, ?_⟩
        refine hK.out _ _ ⟨HX.out.c0, HX.out.c1, HP.out.c0, HP.out.c1, lookB HM.out H2.out, lookB HM.out H3.out⟩ (fun hHeld => ?_)
        clear hK K
        refine nm_ ?_
        refine pd_ 3 19 15 HT_ ?_
        refine pd_ 4 20 31 HT_ ?_
        refine pd_ 5 21 63 HT_ ?_
        refine pd_ 6 22 127 HT_ ?_
        refine tk_ 7 23 255 HT_ HW_ hHeld ?_
        refine tk_ 8 24 511 HT_ HW_ hHeld ?_
        refine pd_ 9 25 1023 HT_ ?_
        refine pd_ 10 26 2047 HT_ ?_
        refine pd_ 11 27 4095 HT_ ?_
        refine pd_ 12 28 8191 HT_ ?_
        refine tk_ 13 29 16383 HT_ HW_ hHeld ?_
        refine tk_ 14 30 32767 HT_ HW_ hHeld ?_
        refine pd_ 15 31 65535 HT_ ?_
        refine pd_ 16 32 131071 HT_ ?_
        refine pn_ 17 33 262143 HT_ ?_
        refine pn_ 18 34 524287 HT_ ?_
        refine pn_ 19 35 1048575 HT_ ?_
        refine pn_ 20 36 2097151 HT_ ?_
        refine pn_ 21 37 4194303 HT_ ?_
        refine pn_ 22 38 8388607 HT_ ?_
        refine pn_ 23 39 16777215 HT_ ?_
        refine pn_ 24 40 33554431 HT_ ?_
        refine pn_ 25 41 67108863 HT_ ?_
        refine pn_ 26 42 134217727 HT_ ?_
        refine pn_ 27 43 268435455 HT_ ?_
        refine pn_ 28 44 536870911 HT_ ?_
        refine pd_ 29 45 1073741823 HT_ ?_
        refine dn_ HT_ ?_
        go_wp2
        go_ret
        exact ⟨by rw [HNO.out]; rfl, HB.out⟩
      have H3 := Aside0.mk (Bool.eq_false_iff.2 h3')
      clear h3'
      rcases k with _ | m
      · rw [Nat.zero_mul, show ad.add 0 = ad by unfold Addr.add; simp] at h0 h1
        have hok : okPairAt xs l 0 = true := by unfold okPairAt; rw [HQ.out, H1.out, ← HN.out, ← HN.out, H2.out, H3.out]; rfl
        have HOK := Aside0.mk hok
        clear hok
        go_wp2
        refine st_ 30 (S := fun w' => w'.cell? ⟨w.heap.size, 0, none⟩ = some (.int .i64 n) ∧ w'.cell? ⟨w.heap.size, 1, none⟩ = some (.slice A xs.length c) ∧ w'.cell? ⟨wr.heap.size, 0, none⟩ = some (.int .i64 q.f0) ∧ w'.cell? ⟨wr.heap.size, 1, none⟩ = some (.int .i64 q.f1) ∧ (Instr.lookup 132 (.map (some (w.heap.size + 1))) (.int .i64 q.f0) false).run Try.prog w' = .ok (.bool false) w' ∧ (Instr.lookup 132 (.map (some (w.heap.size + 1))) (.int .i64 q.f1) false).run Try.prog w' = .ok (.bool false) w') (ds := []) ⟨HX.out.c0, HX.out.c1, HP.out.c0, HP.out.c1, lookB HM.out H2.out, lookB HM.out H3.out⟩ (fun hHeld => ?_)
        refine with_tabW (T := (true, [([], []), ([], []), ([0, 1], [0, 1]), ([2], [2]), ([3, 2], [3]), ([4], [4]), ([4], [4]), ([6, 4], [4, 6]), ([5, 7, 4], [4, 5, 7]), ([4, 8], [4, 8]), ([9, 4], [9]), ([10], [10]), ([10], [10]), ([12, 10], [10, 12]), ([11, 13, 10], [10, 11, 13]), ([10, 14], [10, 14]), ([15, 10], [15]), ([16], [16]), ([17, 16], [16, 17]), ([18, 16, 16], [16, 18]), ([19], [19]), ([19], [19]), ([21, 19], [19, 21]), ([20, 22, 19], [19, 20, 22]), ([23, 19], [19, 23]), ([19], [19]), ([24, 25, 19, 19], [19, 24, 25]), ([26, 19], [19, 26]), ([19, 27, 16], [16, 19, 27]), ([16, 28], [16, 28])])) (B := [0, 0, 3, 7, 15, 31, 31, 95, 255, 511, 1023, 2047, 2047, 6143, 16383, 32767, 65535, 131071, 262143, 524287, 1048575, 1048575, 3145727, 8388607, 16777215, 1048575, 67108863, 134217727, 268435455, 536870911]) (by kernel_rfl) (by kernel_rfl) (fun HT_ HW_ => ?_)
        refine tk_ 0 16 1 HT_ HW_ hHeld ?_
        refine tk_ 1 17 3 HT_ HW_ hHeld ?_
        refine on_ 2 (some 18) 7 HT_ (fun K hK => ?_)
        refine ca_ Try.func114 #[.agg #[.int .i64 n, .slice A xs.length c], .agg #[.int .i64 q.f0, .int .i64 q.f1]] ?_
        refine (isPair_c n A c xs q _ (Kd.C_below HR.out HB.out) HC.out HI.out).mono ?_; rw [show pairB xs q = true from H1.out]; rintro e w1 ⟨rfl, hb⟩; have HX1 := Aside0.mk (HX.out.below hb); have HM1 := Aside0.mk (HM.out.below hb); have HP1 := Aside0.mk (HP.out.below hb); have HB1 := Aside0.mk (below_in HB.out hb); clear HX HM HP HB; have HX := HX1; have HM := HM1; have HP := HP1; have HB := HB1; clear HX1 HM1 HP1 HB1
        refine ⟨_, rfl, ?_⟩
        refine hK.out _ _ ⟨HX.out.c0, HX.out.c1, HP.out.c0, HP.out.c1, lookB HM.out H2.out, lookB HM.out H3.out⟩ (fun hHeld => ?_)
        clear hK K
        refine nm_ ?_
        refine pd_ 3 19 15 HT_ ?_
        refine pd_ 4 20 31 HT_ ?_
        refine pd_ 5 21 63 HT_ ?_
        refine pd_ 6 22 127 HT_ ?_
        refine tk_ 7 23 255 HT_ HW_ hHeld ?_
        refine tk_ 8 24 511 HT_ HW_ hHeld ?_
        refine pd_ 9 25 1023 HT_ ?_
        refine pd_ 10 26 2047 HT_ ?_
        refine pd_ 11 27 4095 HT_ ?_
        refine pd_ 12 28 8191 HT_ ?_
        refine tk_ 13 29 16383 HT_ HW_ hHeld ?_
        refine tk_ 14 30 32767 HT_ HW_ hHeld ?_
        refine pd_ 15 31 65535 HT_ ?_
        refine pd_ 16 32 131071 HT_ ?_
        refine pd_ 17 33 262143 HT_ ?_
        refine pd_ 18 34 524287 HT_ ?_
        refine pd_ 19 35 1048575 HT_ ?_
        refine pn_ 20 36 2097151 HT_ ?_
        refine pn_ 21 37 4194303 HT_ ?_
        refine pn_ 22 38 8388607 HT_ ?_
        refine pn_ 23 39 16777215 HT_ ?_
        refine pn_ 24 40 33554431 HT_ ?_
        refine pn_ 25 41 67108863 HT_ ?_
        refine pn_ 26 42 134217727 HT_ ?_
        refine pn_ 27 43 268435455 HT_ ?_
        refine pd_ 28 44 536870911 HT_ ?_
        refine pd_ 29 45 1073741823 HT_ ?_
        refine dn_ HT_ ?_
        go_wp2
        refine st_ 8 (S := fun w' => w'.cell? ⟨wr.heap.size, 0, none⟩ = some (.int .i64 q.f0) ∧ w'.cell? ⟨wr.heap.size, 1, none⟩ = some (.int .i64 q.f1)) (ds := []) ⟨HP.out.drew.c0, HP.out.drew.c1⟩ (fun hHeld => ?_)
        refine with_tabW (T := (true, [([], []), ([], []), ([1], [1]), ([], []), ([], []), ([4], [4]), ([0, 2, 0, 1, 2], [0, 2]), ([3, 5, 6, 0, 1, 2, 3, 4, 5, 6], [3, 5])])) (B := [0, 0, 2, 0, 0, 16, 7, 127]) (by kernel_rfl) (by kernel_rfl) (fun HT_ HW_ => ?_)
        refine pd_ 0 46 1 HT_ ?_
        refine pd_ 1 47 3 HT_ ?_
        refine pd_ 3 49 11 HT_ ?_
        refine pd_ 4 50 27 HT_ ?_
        refine tk_ 2 48 31 HT_ HW_ hHeld ?_
        refine tk_ 5 51 63 HT_ HW_ hHeld ?_
        refine on_ 6 none 127 HT_ (fun K hK => ?_)
        (obtain ⟨w3, hrun, hM3, hg3, hz3⟩ := putB HM.out.drew q.f0 true; refine skip_ (by rfl) rfl (w1 := w3) (by go_simp) ?_; have HP3 := Aside0.mk (prAt_put HP.out.drew HM.out.drew hg3); have HX3 := Aside0.mk (cxAt_put HX.out.drew' HM.out.drew hg3); have HB3 := Aside0.mk (HB.out.drew.grown hg3 HB.out.drew.size (fun j hj => by injection hj with hj; omega)); have HM3 := Aside0.mk hM3; clear hrun hg3 hz3 hM3 HP HX HB HM)
        refine hK.out _ _ ⟨HP3.out.c0, HP3.out.c1⟩ (fun hHeld => ?_)
        clear hK K
        refine on_ 7 none 255 HT_ (fun K hK => ?_)
        (obtain ⟨w4, hrun, hM4, hg4, hz4⟩ := putB HM3.out q.f1 true; refine skip_ (by rfl) rfl (w1 := w4) (by go_simp) ?_; have HP := Aside0.mk (prAt_put HP3.out HM3.out hg4); have HX := Aside0.mk (cxAt_put HX3.out HM3.out hg4); have HB := Aside0.mk (HB3.out.grown hg4 HB3.out.size (fun j hj => by injection hj with hj; omega)); have HM := Aside0.mk hM4; clear hrun hg4 hz4 hM4 HP3 HX3 HB3 HM3)
        refine hK.out _ _ ⟨HP.out.c0, HP.out.c1⟩ (fun hHeld => ?_)
        clear hK K
        refine dn_ HT_ ?_
        go_wp2
        go_roundw
        case measure => simp [intOf]; omega
        case rel => exact ⟨0 + 1, by have := HL.out; omega, by go_num, HB, HX, ⟨by rw [getD_take HL.out, HQ.out]; exact met_snoc HM.out HN.out⟩, ⟨fun j hj => by rcases Nat.lt_or_ge j (0) with h | h; exact hA.out j h; obtain rfl : j = 0 := (by omega); exact HOK.out⟩⟩
      · have hltm : m < l.length := by omega
        obtain ⟨ad', ead, g0, g1⟩ := pair_at (Kd.C_below HR1.out HB.out) m hltm
        obtain rfl : ad = ad' := by injection ead
        obtain ⟨q', hq'⟩ : ∃ q', l.getD m z73 = q' := ⟨_, rfl⟩
        rw [hq'] at g0 g1
        have HQ' := Aside0.mk hq'
        have HW : Aside0 (CellsP _ ad m q') := ⟨g0, g1⟩
        clear hq' g0 g1 ead
        have hw64 : wrap64 (m : Int) = (m : Int) := w64' (by omega) (by omega)
        have hmz : (0 : Int) ≤ (m : Int) := by omega
        have hml : (m : Int) < (l.length : Int) := by omega
        clear hltm
        by_cases h4' : cmpP q' q < 0
        · have hok : okPairAt xs l (m + 1) = true := by unfold okPairAt; rw [HQ.out, H1.out, ← HN.out, ← HN.out, H2.out, H3.out, Nat.add_sub_cancel, HQ'.out]; simp [h4']
          have HOK := Aside0.mk hok
          have HC4 : Aside0 (cmpP q' q = cmpP q' q) := ⟨rfl⟩
          have h5' : ¬ 0 ≤ cmpP q' q := by omega
          clear hok
          go_wp2
          refine st_ 30 (S := fun w' => w'.cell? ⟨w.heap.size, 0, none⟩ = some (.int .i64 n) ∧ w'.cell? ⟨w.heap.size, 1, none⟩ = some (.slice A xs.length c) ∧ w'.cell? ⟨wr.heap.size, 0, none⟩ = some (.int .i64 q.f0) ∧ w'.cell? ⟨wr.heap.size, 1, none⟩ = some (.int .i64 q.f1) ∧ (Instr.lookup 132 (.map (some (w.heap.size + 1))) (.int .i64 q.f0) false).run Try.prog w' = .ok (.bool false) w' ∧ (Instr.lookup 132 (.map (some (w.heap.size + 1))) (.int .i64 q.f1) false).run Try.prog w' = .ok (.bool false) w' ∧ w'.cell? (ad.add (m * 2)) = some (.int .i64 q'.f0) ∧ w'.cell? ⟨(ad.add (m * 2)).block, (ad.add (m * 2)).off + 1, none⟩ = some (.int .i64 q'.f1)) (ds := []) ⟨HX.out.c0, HX.out.c1, HP.out.c0, HP.out.c1, lookB HM.out H2.out, lookB HM.out H3.out, HW.out.1, HW.out.2⟩ (fun hHeld => ?_)
          refine with_tabW (T := (true, [([], []), ([], []), ([0, 1], [0, 1]), ([2], [2]), ([3, 2], [3]), ([4], [4]), ([4], [4]), ([6, 4], [4, 6]), ([5, 7, 4], [4, 5, 7]), ([4, 8], [4, 8]), ([9, 4], [9]), ([10], [10]), ([10], [10]), ([12, 10], [10, 12]), ([11, 13, 10], [10, 11, 13]), ([10, 14], [10, 14]), ([15, 10], [15]), ([16], [16]), ([17, 16], [16, 17]), ([18, 16, 16], [16, 18]), ([19], [19]), ([19], [19]), ([21, 19], [19, 21]), ([20, 22, 19], [19, 20, 22]), ([23, 19], [19, 23]), ([19], [19]), ([24, 25, 19, 19], [19, 24, 25]), ([26, 19], [19, 26]), ([19, 27, 16], [16, 19, 27]), ([16, 28], [16, 28])])) (B := [0, 0, 3, 7, 15, 31, 31, 95, 255, 511, 1023, 2047, 2047, 6143, 16383, 32767, 65535, 131071, 262143, 524287, 1048575, 1048575, 3145727, 8388607, 16777215, 1048575, 67108863, 134217727, 268435455, 536870911]) (by kernel_rfl) (by kernel_rfl) (fun HT_ HW_ => ?_)
          refine tk_ 0 16 1 HT_ HW_ hHeld ?_
          refine tk_ 1 17 3 HT_ HW_ hHeld ?_
          refine on_ 2 (some 18) 7 HT_ (fun K hK => ?_)
          refine ca_ Try.func114 #[.agg #[.int .i64 n, .slice A xs.length c], .agg #[.int .i64 q.f0, .int .i64 q.f1]] ?_
          refine (isPair_c n A c xs q _ (Kd.C_below HR.out HB.out) HC.out HI.out).mono ?_; rw [show pairB xs q = true from H1.out]; rintro e w1 ⟨rfl, hb⟩; have HX1 := Aside0.mk (HX.out.below hb); have HM1 := Aside0.mk (HM.out.below hb); have HP1 := Aside0.mk (HP.out.below hb); have HB1 := Aside0.mk (below_in HB.out hb); clear HX HM HP HB; have HX := HX1; have HM := HM1; have HP := HP1; have HB := HB1; clear HX1 HM1 HP1 HB1; have hpw1 := Aside0.mk (cellsP_below HW.out hb); clear HW; have HW := hpw1; clear hpw1
          refine ⟨_, rfl, ?_⟩
          refine hK.out _ _ ⟨HX.out.c0, HX.out.c1, HP.out.c0, HP.out.c1, lookB HM.out H2.out, lookB HM.out H3.out, HW.out.1, HW.out.2⟩ (fun hHeld => ?_)
          clear hK K
          refine nm_ ?_
          refine pd_ 3 19 15 HT_ ?_
          refine pd_ 4 20 31 HT_ ?_
          refine pd_ 5 21 63 HT_ ?_
          refine pd_ 6 22 127 HT_ ?_
          refine tk_ 7 23 255 HT_ HW_ hHeld ?_
          refine tk_ 8 24 511 HT_ HW_ hHeld ?_
          refine pd_ 9 25 1023 HT_ ?_
          refine pd_ 10 26 2047 HT_ ?_
          refine pd_ 11 27 4095 HT_ ?_
          refine pd_ 12 28 8191 HT_ ?_
          refine tk_ 13 29 16383 HT_ HW_ hHeld ?_
          refine tk_ 14 30 32767 HT_ HW_ hHeld ?_
          refine pd_ 15 31 65535 HT_ ?_
          refine pd_ 16 32 131071 HT_ ?_
          refine pd_ 17 33 262143 HT_ ?_
          refine pd_ 18 34 524287 HT_ ?_
          refine pd_ 19 35 1048575 HT_ ?_
          refine pd_ 20 36 2097151 HT_ ?_
          refine pd_ 21 37 4194303 HT_ ?_
          refine pd_ 22 38 8388607 HT_ ?_
          refine pd_ 23 39 16777215 HT_ ?_
          refine tk_ 24 40 33554431 HT_ HW_ hHeld ?_
          refine tk_ 25 41 67108863 HT_ HW_ hHeld ?_
          refine on_ 26 (some 42) 134217727 HT_ (fun K hK => ?_)
          refine ca_ Try.func116 #[.agg #[.int .i64 q'.f0, .int .i64 q'.f1], .agg #[.int .i64 q.f0, .int .i64 q.f1]] ?_
          refine (comparePairs_c q' q _).mono ?_; rintro e w1 ⟨rfl, hb⟩; have HX1 := Aside0.mk (HX.out.below hb); have HM1 := Aside0.mk (HM.out.below hb); have HP1 := Aside0.mk (HP.out.below hb); have HB1 := Aside0.mk (below_in HB.out hb); have hpw1 := Aside0.mk (cellsP_below HW.out hb); clear HX HM HP HB HW; have HX := HX1; have HM := HM1; have HP := HP1; have HB := HB1; have HW := hpw1; clear HX1 HM1 HP1 HB1 hpw1; generalize cmpP q' q = cp at h4' h5' HC4
          refine ⟨_, rfl, ?_⟩
          refine hK.out _ _ ⟨HX.out.c0, HX.out.c1, HP.out.c0, HP.out.c1, lookB HM.out H2.out, lookB HM.out H3.out, HW.out.1, HW.out.2⟩ (fun hHeld => ?_)
          clear hK K
          refine nm_ ?_
          refine pd_ 27 43 268435455 HT_ ?_
          refine pd_ 28 44 536870911 HT_ ?_
          refine pd_ 29 45 1073741823 HT_ ?_
          refine dn_ HT_ ?_
          go_wp2
          refine st_ 8 (S := fun w' => w'.cell? ⟨wr.heap.size, 0, none⟩ = some (.int .i64 q.f0) ∧ w'.cell? ⟨wr.heap.size, 1, none⟩ = some (.int .i64 q.f1)) (ds := []) ⟨HP.out.drew.c0, HP.out.drew.c1⟩ (fun hHeld => ?_)
          refine with_tabW (T := (true, [([], []), ([], []), ([1], [1]), ([], []), ([], []), ([4], [4]), ([0, 2, 0, 1, 2], [0, 2]), ([3, 5, 6, 0, 1, 2, 3, 4, 5, 6], [3, 5])])) (B := [0, 0, 2, 0, 0, 16, 7, 127]) (by kernel_rfl) (by kernel_rfl) (fun HT_ HW_ => ?_)
          refine pd_ 0 46 1 HT_ ?_
          refine pd_ 1 47 3 HT_ ?_
          refine pd_ 3 49 11 HT_ ?_
          refine pd_ 4 50 27 HT_ ?_
          refine tk_ 2 48 31 HT_ HW_ hHeld ?_
          refine tk_ 5 51 63 HT_ HW_ hHeld ?_
          refine on_ 6 none 127 HT_ (fun K hK => ?_)
          (obtain ⟨w3, hrun, hM3, hg3, hz3⟩ := putB HM.out.drew q.f0 true; refine skip_ (by rfl) rfl (w1 := w3) (by go_simp) ?_; have HP3 := Aside0.mk (prAt_put HP.out.drew HM.out.drew hg3); have HX3 := Aside0.mk (cxAt_put HX.out.drew' HM.out.drew hg3); have HB3 := Aside0.mk (HB.out.drew.grown hg3 HB.out.drew.size (fun j hj => by injection hj with hj; omega)); have HM3 := Aside0.mk hM3; clear hrun hg3 hz3 hM3 HP HX HB HM)
          refine hK.out _ _ ⟨HP3.out.c0, HP3.out.c1⟩ (fun hHeld => ?_)
          clear hK K
          refine on_ 7 none 255 HT_ (fun K hK => ?_)
          (obtain ⟨w4, hrun, hM4, hg4, hz4⟩ := putB HM3.out q.f1 true; refine skip_ (by rfl) rfl (w1 := w4) (by go_simp) ?_; have HP := Aside0.mk (prAt_put HP3.out HM3.out hg4); have HX := Aside0.mk (cxAt_put HX3.out HM3.out hg4); have HB := Aside0.mk (HB3.out.grown hg4 HB3.out.size (fun j hj => by injection hj with hj; omega)); have HM := Aside0.mk hM4; clear hrun hg4 hz4 hM4 HP3 HX3 HB3 HM3)
          refine hK.out _ _ ⟨HP.out.c0, HP.out.c1⟩ (fun hHeld => ?_)
          clear hK K
          refine dn_ HT_ ?_
          go_wp2
          go_roundw
          case measure => simp [intOf]; omega
          case rel => exact ⟨(m + 1) + 1, by have := HL.out; omega, by go_num, HB, HX, ⟨by rw [getD_take HL.out, HQ.out]; exact met_snoc HM.out HN.out⟩, ⟨fun j hj => by rcases Nat.lt_or_ge j ((m + 1)) with h | h; exact hA.out j h; obtain rfl : j = (m + 1) := (by omega); exact HOK.out⟩⟩
        · have hno : okPairAt xs l (m + 1) = false := by unfold okPairAt; rw [HQ.out, H1.out, ← HN.out, ← HN.out, H2.out, H3.out, Nat.add_sub_cancel, HQ'.out]; simp [h4']
          have HNO := Aside0.mk (pairingB_no HL.out hno)
          have HC4 : Aside0 (cmpP q' q = cmpP q' q) := ⟨rfl⟩
          have h5' : 0 ≤ cmpP q' q := by omega
          clear hno
          go_wp2
          refine st_ 30 (S := fun w' => w'.cell? ⟨w.heap.size, 0, none⟩ = some (.int .i64 n) ∧ w'.cell? ⟨w.heap.size, 1, none⟩ = some (.slice A xs.length c) ∧ w'.cell? ⟨wr.heap.size, 0, none⟩ = some (.int .i64 q.f0) ∧ w'.cell? ⟨wr.heap.size, 1, none⟩ = some (.int .i64 q.f1) ∧ (Instr.lookup 132 (.map (some (w.heap.size + 1))) (.int .i64 q.f0) false).run Try.prog w' = .ok (.bool false) w' ∧ (Instr.lookup 132 (.map (some (w.heap.size + 1))) (.int .i64 q.f1) false).run Try.prog w' = .ok (.bool false) w' ∧ w'.cell? (ad.add (m * 2)) = some (.int .i64 q'.f0) ∧ w'.cell? ⟨(ad.add (m * 2)).block, (ad.add (m * 2)).off + 1, none⟩ = some (.int .i64 q'.f1)) (ds := []) ⟨HX.out.c0, HX.out.c1, HP.out.c0, HP.out.c1, lookB HM.out H2.out, lookB HM.out H3.out, HW.out.1, HW.out.2⟩ (fun hHeld => ?_)
          refine with_tabW (T := (true, [([], []), ([], []), ([0, 1], [0, 1]), ([2], [2]), ([3, 2], [3]), ([4], [4]), ([4], [4]), ([6, 4], [4, 6]), ([5, 7, 4], [4, 5, 7]), ([4, 8], [4, 8]), ([9, 4], [9]), ([10], [10]), ([10], [10]), ([12, 10], [10, 12]), ([11, 13, 10], [10, 11, 13]), ([10, 14], [10, 14]), ([15, 10], [15]), ([16], [16]), ([17, 16], [16, 17]), ([18, 16, 16], [16, 18]), ([19], [19]), ([19], [19]), ([21, 19], [19, 21]), ([20, 22, 19], [19, 20, 22]), ([23, 19], [19, 23]), ([19], [19]), ([24, 25, 19, 19], [19, 24, 25]), ([26, 19], [19, 26]), ([19, 27, 16], [16, 19, 27]), ([16, 28], [16, 28])])) (B := [0, 0, 3, 7, 15, 31, 31, 95, 255, 511, 1023, 2047, 2047, 6143, 16383, 32767, 65535, 131071, 262143, 524287, 1048575, 1048575, 3145727, 8388607, 16777215, 1048575, 67108863, 134217727, 268435455, 536870911]) (by kernel_rfl) (by kernel_rfl) (fun HT_ HW_ => ?_)
          refine tk_ 0 16 1 HT_ HW_ hHeld ?_
          refine tk_ 1 17 3 HT_ HW_ hHeld ?_
          refine on_ 2 (some 18) 7 HT_ (fun K hK => ?_)
          refine ca_ Try.func114 #[.agg #[.int .i64 n, .slice A xs.length c], .agg #[.int .i64 q.f0, .int .i64 q.f1]] ?_
          refine (isPair_c n A c xs q _ (Kd.C_below HR.out HB.out) HC.out HI.out).mono ?_; rw [show pairB xs q = true from H1.out]; rintro e w1 ⟨rfl, hb⟩; have HX1 := Aside0.mk (HX.out.below hb); have HM1 := Aside0.mk (HM.out.below hb); have HP1 := Aside0.mk (HP.out.below hb); have HB1 := Aside0.mk (below_in HB.out hb); clear HX HM HP HB; have HX := HX1; have HM := HM1; have HP := HP1; have HB := HB1; clear HX1 HM1 HP1 HB1; have hpw1 := Aside0.mk (cellsP_below HW.out hb); clear HW; have HW := hpw1; clear hpw1
          refine ⟨_, rfl, ?_⟩
          refine hK.out _ _ ⟨HX.out.c0, HX.out.c1, HP.out.c0, HP.out.c1, lookB HM.out H2.out, lookB HM.out H3.out, HW.out.1, HW.out.2⟩ (fun hHeld => ?_)
          clear hK K
          refine nm_ ?_
          refine pd_ 3 19 15 HT_ ?_
          refine pd_ 4 20 31 HT_ ?_
          refine pd_ 5 21 63 HT_ ?_
          refine pd_ 6 22 127 HT_ ?_
          refine tk_ 7 23 255 HT_ HW_ hHeld ?_
          refine tk_ 8 24 511 HT_ HW_ hHeld ?_
          refine pd_ 9 25 1023 HT_ ?_
          refine pd_ 10 26 2047 HT_ ?_
          refine pd_ 11 27 4095 HT_ ?_
          refine pd_ 12 28 8191 HT_ ?_
          refine tk_ 13 29 16383 HT_ HW_ hHeld ?_
          refine tk_ 14 30 32767 HT_ HW_ hHeld ?_
          refine pd_ 15 31 65535 HT_ ?_
          refine pd_ 16 32 131071 HT_ ?_
          refine pd_ 17 33 262143 HT_ ?_
          refine pd_ 18 34 524287 HT_ ?_
          refine pd_ 19 35 1048575 HT_ ?_
          refine pd_ 20 36 2097151 HT_ ?_
          refine pd_ 21 37 4194303 HT_ ?_
          refine pd_ 22 38 8388607 HT_ ?_
          refine pd_ 23 39 16777215 HT_ ?_
          refine tk_ 24 40 33554431 HT_ HW_ hHeld ?_
          refine tk_ 25 41 67108863 HT_ HW_ hHeld ?_
          refine on_ 26 (some 42) 134217727 HT_ (fun K hK => ?_)
          refine ca_ Try.func116 #[.agg #[.int .i64 q'.f0, .int .i64 q'.f1], .agg #[.int .i64 q.f0, .int .i64 q.f1]] ?_
          refine (comparePairs_c q' q _).mono ?_; rintro e w1 ⟨rfl, hb⟩; have HX1 := Aside0.mk (HX.out.below hb); have HM1 := Aside0.mk (HM.out.below hb); have HP1 := Aside0.mk (HP.out.below hb); have HB1 := Aside0.mk (below_in HB.out hb); have hpw1 := Aside0.mk (cellsP_below HW.out hb); clear HX HM HP HB HW; have HX := HX1; have HM := HM1; have HP := HP1; have HB := HB1; have HW := hpw1; clear HX1 HM1 HP1 HB1 hpw1; generalize cmpP q' q = cp at h4' h5' HC4
          refine ⟨_, rfl, ?_⟩
          refine hK.out _ _ ⟨HX.out.c0, HX.out.c1, HP.out.c0, HP.out.c1, lookB HM.out H2.out, lookB HM.out H3.out, HW.out.1, HW.out.2⟩ (fun hHeld => ?_)
          clear hK K
          refine nm_ ?_
          refine pd_ 27 43 268435455 HT_ ?_
          refine pd_ 28 44 536870911 HT_ ?_
          refine pd_ 29 45 1073741823 HT_ ?_
          refine dn_ HT_ ?_
          go_wp2
          go_ret
          exact ⟨by rw [HNO.out]; rfl, HB.out⟩
    · obtain rfl : k = l.length := by omega
      have hltz : ¬ (l.length : Int) < (l.length : Int) := by omega
      go_wp2
      go_ret
      exact ⟨by rw [pairingB_yes hA.out]; rfl, hB.out⟩
end Go.Proofs.Ytomdfjohnmikdaa.Im
namespace Go.Proofs.Ytomdfjohnmikdaa.Im
set_option linter.unusedVariables false
set_option linter.unusedSimpArgs false
open Go.RowKit Go.Shelf Go.Proofs.Ytomdfjohnmikdaa.Kp Go.Proofs.Ytomdfjohnmikdaa.Ext Go.Proofs.Ytomdfjohnmikdaa.Cw Go.Proofs.YtomdfjohnmikdaaW.PrintWords Go.Proofs.YtomdfjohnmikdaaW.PrintLast Go.Proofs.YtomdfjohnmikdaaW.PrintMore
/-- One face is met: it is put to the map and to the queue, if it is new. -/
def stepM (s : List (Int × Bool) × List Int) (f : Int) : List (Int × Bool) × List Int := if getM s.1 f = true then s else (putM s.1 f true, s.2 ++ [f])
/-- The queue is gone through. -/
def bfs (l : List Pr) : Nat → List (Int × Bool) → List Int → Option (List (Int × Bool))
  | 0, _, _ => none
  | _ + 1, M, [] => some M
  | k + 1, M, x :: qs => if qs.length ≤ 1000 then (QA.impl_steps.f l x).bind fun fs => if fs.length ≤ 1000 then bfs l k (fs.foldl stepM (M, x :: qs)).1 ((fs.foldl stepM (M, x :: qs)).2.drop 1) else none else none
theorem stepM_len (s : List (Int × Bool) × List Int) (f : Int) : s.2.length ≤ (stepM s f).2.length ∧ (stepM s f).2.length ≤ s.2.length + 1 := by
  unfold stepM
  split <;> simp
theorem fold_len (fs : List Int) : ∀ s : List (Int × Bool) × List Int, s.2.length ≤ (fs.foldl stepM s).2.length ∧ (fs.foldl stepM s).2.length ≤ s.2.length + fs.length := by
  induction fs with
  | nil => intro s; simp
  | cons f fs ih =>
    intro s
    have h1 := stepM_len s f
    have h2 := ih (stepM s f)
    simp only [List.foldl_cons, List.length_cons]
    omega
theorem rowLit1 (w : World) (a : Int) (base : Nat) (ok : Nat → Prop) (hb : base ≤ w.heap.size) (hok : ok w.heap.size) : Kd.R (Kd.int .i64) 2 (w.alloc (.cells #[.int .i64 a] 2)) base ok (.slice (some ⟨w.heap.size, 0, none⟩) 1 1) [a] := by
  refine ⟨fun k hk => ?_, [.int .i64 a], ?_, ⟨rfl, fun j p hj => ?_⟩⟩
  · obtain rfl : w.heap.size = k := by simpa [Value.ownBlock] using hk
    exact hok
  · have h2 := World.ownsRow_lit (base := base) (e := 2) (size := (Kd.int .i64).sz) w #[.int .i64 a] 1 hb (by simp [maxLen]) rfl
    simpa using h2
  · rcases j with _ | j
    · obtain rfl : a = p := by simpa using hj
      rfl
    · simp at hj
theorem mapB_grown {w w1 : World} {b : Nat} {M : List (Int × Bool)} (h : MapB w b M) {v : Value} (hg : w.grownBy w1 v.ownBlock) (hv : ∀ k, v.ownBlock = some k → ∃ cells, w.heap[k]? = some (.cells cells 2 (0, 0))) : MapB w1 b M := by
  have hl := h.lt
  have hne : some b ≠ v.ownBlock := fun e => by
    obtain ⟨cells, hc⟩ := hv b e.symm
    exact h.ne hc rfl
  obtain ⟨es, c, h1, h2⟩ := h
  exact ⟨es, c, (hg.block b hl hne).trans h1, h2⟩
theorem info_i64 : (Try.prog.info? 2).map (fun i => (i.zero, i.size, i.bytes)) = some (some (.int .i64 0), 1, 8) := by kernel_rfl
theorem qPut {w w1 : World} {b base : Nat} {M : List (Int × Bool)} {ok : Nat → Prop} {v : Value} {xs : List Int} (h : Kd.Q (Kd.int .i64) 2 w base ok v xs) (hm : MapB w b M) (hg : w.grownBy w1 (some b)) : Kd.Q (Kd.int .i64) 2 w1 base ok v xs :=
  Kd.Q_mono (Kd.Q_grown (Kd.Q_bound h) hg (fun k hk e => by
    obtain ⟨_, _, _, q, _, cells, hc⟩ := hk
    injection e with e
    subst e
    exact hm.ne hc rfl)) (fun k hk => hk.1)
theorem rPut {w w1 : World} {b base : Nat} {M : List (Int × Bool)} {ok : Nat → Prop} {v : Value} {xs : List Int} (h : Kd.R (Kd.int .i64) 2 w base ok v xs) (hm : MapB w b M) (hg : w.grownBy w1 (some b)) : Kd.R (Kd.int .i64) 2 w1 base ok v xs :=
  Kd.R_mono (Kd.R_step (Kd.R_bound h) (fun k hk hlt => hg.block k hlt (fun e => by
    obtain ⟨_, _, _, q, _, cells, hc⟩ := hk
    injection e with e
    subst e
    exact hm.ne hc rfl))) (fun k hk => hk.1)
def BehindPost (M : List (Int × Bool)) (w : World) (e : Ending) (w' : World) : Prop := ∃ b, e = .returned (.map (some b)) ∧ MapB w' b M ∧ w.heap.size ≤ b ∧ Below w.heap.size w w'
set_option maxRecDepth 100000 in
set_option maxHeartbeats 2000000 in
theorem behind_c (k : Nat) (A : Option Addr) (c : Nat) (l : List Pr) (a : Int) (M : List (Int × Bool)) (w : World) (hr : Kd.C k73 w A l.length l) (hc : l.length ≤ c) (hk : bfs l k [] [a] = some M) :
    Calls Try.prog 166 #[.slice A l.length c, .int .i64 a] w (BehindPost M w) := by
  have HR := Aside0.mk hr
  have HC := Aside0.mk hc
  have HK := Aside0.mk hk
  clear hr hc hk
  have hmm := @run_makeMap Try.prog
  have hq0 := Aside0.mk (Kd.Q_of_R (rowLit1 (w.alloc (.map #[] 0)) a w.heap.size (fun _ => True) (by simp) trivial))
  have hm0 := Aside0.mk ((MapB.made w).alloc (.cells #[.int .i64 a] 2))
  go_enter Try.func166, Try.ntmps166
  go_wp2
  go_loopg [6] k (fun kq q wr => ∃ (Mk : List (Int × Bool)) (qs : List Int), Aside0 (bfs l kq Mk qs = some M) ∧ Aside0 (Below w.heap.size w wr) ∧ Aside0 (MapB wr w.heap.size Mk) ∧ Aside0 (Kd.Q (Kd.int .i64) 2 wr w.heap.size (fun _ => True) q qs))
  case atStart => exact ⟨[], [a], HK, ⟨below_alloc (below_alloc (Below.refl _ _) _) _⟩, hm0, by simpa using hq0⟩
  case round =>
    clear HK hq0 hm0
    obtain ⟨Mk, qs, HK, HB, HM, HQ⟩ := hrel
    obtain ⟨Aq, cq, rfl, hcq⟩ := Kd.Q_slice HQ.out
    cases gk with
    | zero => exact absurd HK.out (by simp [bfs])
    | succ k1 =>
      cases qs with
      | nil =>
        have hk0 : M = Mk := by have := HK.out; simp only [bfs, Option.some.injEq] at this; exact this.symm
        subst hk0
        go_wp2
        go_ret
        exact ⟨_, rfl, HM.out, Nat.le_refl _, HB.out⟩
      | cons x qs =>
        have hk1 := HK.out
        simp only [bfs] at hk1
        clear HK
        by_cases hb1 : qs.length ≤ 1000
        case neg => rw [if_neg hb1] at hk1; cases hk1
        rw [if_pos hb1] at hk1
        obtain ⟨fs, hfs, hk2⟩ := Option.bind_eq_some_iff.1 hk1
        clear hk1
        by_cases hb2 : fs.length ≤ 1000
        case neg => rw [if_neg hb2] at hk2; cases hk2
        rw [if_pos hb2] at hk2
        have HK := Aside0.mk hk2
        have HF := Aside0.mk hfs
        clear hk2 hfs
        obtain ⟨_, hqc, hqr⟩ := Kd.Q_reads' HQ.out
        obtain ⟨aq, rfl, hq0⟩ := Kd.at_int hqr 0 (by omega) (by simp)
        rw [show rd (x :: qs) 0 = x from rfl, show aq.add (Int.toNat 0) = aq by unfold Addr.add; simp] at hq0
        clear hqr
        go_wp2_with (go_at_call 190; refine (QA.impl_steps.calls A c l x fs _ (Kd.C_below HR.out HB.out) HC.out HF.out).mono ?_; rintro e w1 ⟨v1, rfl, ho, hb⟩; have hm1 := Aside0.mk (HM.out.below hb); have hq1 := Aside0.mk (Kd.Q_below HQ.out hb); have ho1 := Aside0.mk (Kd.R_lower (Kd.R_new' ho (Kd.Q_lt HQ.out)) HB.out.size); have hb3 := Aside0.mk (below_in HB.out hb); clear HM HQ HB ho hb hq0; have HM := hm1; have HQ := hq1; have HB := hb3; have HO := ho1; clear hm1 hq1 hb3 ho1; obtain ⟨A2, c2, he2⟩ := Kd.R_slice HO.out; subst he2)
        go_loopw [6, 23] (fun q i wq => ∃ (j : Nat) (Mj : List (Int × Bool)) (qj : List Int), j ≤ fs.length ∧ i = .int .i64 j ∧ Aside0 ((fs.take j).foldl stepM (Mk, x :: qs) = (Mj, qj)) ∧ Aside0 (Below w.heap.size w wq) ∧ Aside0 (MapB wq w.heap.size Mj) ∧ Aside0 (Kd.Q (Kd.int .i64) 2 wq w.heap.size (fun _ => True) q qj) ∧ Aside0 (Kd.R (Kd.int .i64) 2 wq w.heap.size (fun k => True ∧ some k ≠ q.ownBlock) (.slice A2 fs.length c2) fs)) (fun _ i _ => fs.length - (intOf i).toNat)
        case atStart => exact ⟨0, Mk, x :: qs, by omega, rfl, ⟨rfl⟩, HB, HM, HQ, HO⟩
        case round =>
          clear HB HM HQ HO
          obtain ⟨j, Mj, qj, hj, rfl, HE, HB, HM, HQ, HO⟩ := hrel
          obtain ⟨Aj, cj, rfl, hcj⟩ := Kd.Q_slice HQ.out
          have hlq : qj.length ≤ 2001 := by
            have h1 := fold_len (fs.take j) (Mk, x :: qs)
            have h2 := List.length_take_le j fs
            rw [HE.out] at h1
            simp only [List.length_cons] at h1
            omega
          by_cases hlt : j < fs.length
          · have hltz : (j : Int) < (fs.length : Int) := by omega
            obtain ⟨af, rfl, hf0⟩ := Kd.at_int (Kd.R_reads' HO.out).2.2 j (by omega) (by omega)
            obtain ⟨y, hy⟩ : ∃ y, rd fs j = y := ⟨_, rfl⟩
            rw [hy, show ((j : Int)).toNat = j by omega] at hf0
            have hstep : (fs.take (j + 1)).foldl stepM (Mk, x :: qs) = stepM (Mj, qj) y := by
              rw [List.take_succ_eq_append_getElem hlt, List.foldl_append, HE.out, ← hy, rd_at' hlt]
              rfl
            have HST := Aside0.mk hstep
            clear hstep hy
            by_cases hg : getM Mj y = true
            · have hl := lookB HM.out hg
              have HG := Aside0.mk hg
              clear hg
              go_wp2
              go_roundw
              case measure => simp [intOf]; omega
              case rel => exact ⟨j + 1, Mj, qj, by omega, by go_num, ⟨by rw [HST.out]; unfold stepM; rw [if_pos HG.out]⟩, HB, HM, HQ, HO⟩
            · have hl := lookB HM.out (Bool.eq_false_iff.2 hg)
              have HG := Aside0.mk hg
              clear hg
              obtain ⟨w3, hrun, hM3, hg3, hz3⟩ := putB HM.out y true
              have hq3 := Aside0.mk (qPut HQ.out HM.out hg3)
              have ho3 := Aside0.mk (rPut HO.out HM.out hg3)
              have hb3 := Aside0.mk (HB.out.grown hg3 HB.out.size (fun k hk => by injection hk with hk; omega))
              have hm3 := Aside0.mk hM3
              have HLQ := Aside0.mk hlq
              have HLT := Aside0.mk hlt
              clear hz3 hM3 hg3 HQ HO HB HM hlq
              have HQ := hq3
              have HO := ho3
              have HB := hb3
              have HM := hm3
              clear hq3 ho3 hb3 hm3
              go_wp2_with ((with_reducible refine gate_builtin (b := .append) (xs := #[.tmp 33, .tmp 35]) rfl ?_); at_builtin; refine Kd.Q_append (Kd.int .i64) (w0 := w) w.heap.size rfl (.tmp 33) (.tmp 35) 22 2 (.int .i64 0) 8 rfl Try.underlying22 info_i64 rfl (by decide) (by omega) (.slice Aj qj.length cj) qj y [.int .i64 y] (fun _ => True) (fun _ => False) rfl rfl rfl (fun _ hk => hk.elim) (fun _ _ => trivial) HQ.out HB.out HB.out.size (by have := HLQ.out; omega) ?_; intro v4 w4 hq4 hb4 hg4 hat; have ho4 := Aside0.mk (Kd.R_after HO.out hg4 hat); have hm4 := Aside0.mk (mapB_grown HM.out hg4 (Kd.Q_typed HQ.out)); have hq5 := Aside0.mk hq4; have hb5 := Aside0.mk hb4; clear hq4 hb4 hg4 hat HO HM HQ HB)
              go_roundw
              case measure => simp [intOf]; have := HLT.out; omega
              case rel => exact ⟨j + 1, putM Mj y true, qj ++ [y], by have := HLT.out; omega, by go_num, ⟨by rw [HST.out]; unfold stepM; rw [if_neg HG.out]⟩, hb5, hm4, hq5, ho4⟩
          · obtain rfl : j = fs.length := by omega
            have hltz : ¬ (fs.length : Int) < (fs.length : Int) := by omega
            rw [List.take_length] at HE
            have h1 := fold_len fs (Mk, x :: qs)
            rw [HE.out] at h1
            simp only [List.length_cons] at h1
            have hd := Aside0.mk (Kd.Q_drop (k := 1) HQ.out (by omega))
            have hq1 : (1 : Int) ≤ (qj.length : Int) := by omega
            have hk3 := HK.out
            rw [HE.out] at hk3
            have HK3 := Aside0.mk hk3
            clear hk3 HK HE HO
            by_cases hcap : cj = 1
            · have hd2 := hd.out
              rw [if_pos hcap] at hd2
              have HD := Aside0.mk hd2
              clear hd hd2
              subst hcap
              go_wp2
              go_roundg k1
              case measure => omega
              case rel => exact ⟨Mj, qj.drop 1, HK3, HB, HM, by simpa [show qj.length - 1 = 0 by omega] using HD⟩
            · have hd2 := hd.out
              rw [if_neg hcap, show (fun x : Addr => x.add (1 * (Kd.int .i64).sz)) = (fun x => (⟨x.block, x.off + 1, none⟩ : Addr)) from funext fun x => by unfold Addr.add; simp [Kd.int, Kd.scalar]] at hd2
              have HD := Aside0.mk hd2
              clear hd hd2
              go_wp2
              go_roundg k1
              case measure => omega
              case rel => exact ⟨Mj, qj.drop 1, HK3, HB, HM, by simpa using HD⟩
/-- Whether ways from a face come back to it. -/
def loopB (l : List Pr) (a : Int) : Bool := ((bfs l 1000 [] [a]).map fun M => getM M a).getD false
def okBfs (l : List Pr) : Bool := decide (l.length ≤ 1048576) && l.all fun q => (bfs l 1000 [] [q.f0]).isSome
def acycB (l : List Pr) : Bool := l.all fun q => !loopB l q.f0
theorem okBfs_at {l : List Pr} (h : okBfs l = true) {q : Pr} (hq : q ∈ l) : ∃ M, bfs l 1000 [] [q.f0] = some M ∧ loopB l q.f0 = getM M q.f0 := by
  unfold okBfs at h
  obtain ⟨M, hM⟩ := Option.isSome_iff_exists.1 (List.all_eq_true.1 (Bool.and_eq_true _ _ ▸ h).2 q hq)
  exact ⟨M, hM, by unfold loopB; rw [hM]; rfl⟩
set_option maxRecDepth 100000 in
set_option maxHeartbeats 1000000 in
theorem isAcyclic1_f (b : Nat) (A : Option Addr) (c : Nat) (l : List Pr) (w : World) (hb : Boxed w b 38 (.slice A l.length c)) (hr : Kd.C k73 w A l.length l) (hc : l.length ≤ c) (ho : okBfs l = true) :
    FnP Try.prog (.func (.func 165) #[] #[.pointer (some ⟨b, 0, none⟩)]) (fun q => q ∈ l) (fun q => !loopB l q.f0) w := by
  refine ⟨_, _, _, rfl, enters_of Try.func165 (by kernel_rfl) rfl, fun W q hW hq => ?_⟩
  obtain ⟨M, hM, hv⟩ := okBfs_at ho hq
  have HV := Aside0.mk hv
  have hbe := behind_c 1000 A c l q.f0 M ((W.alloc (.cells #[.int .i64 q.f0, .int .i64 q.f1] 73)).drew) (Kd.C_drew (Kd.C_alloc (Kd.C_below hr hW) _)) hc hM
  have HE := Aside0.mk hbe
  have hx : Aside0 ((W.alloc (.cells #[.int .i64 q.f0, .int .i64 q.f1] 73)).drew.cell? ⟨b, 0, none⟩ = some (.slice A l.length c)) := ⟨pw_cell_below (hW.trans ((below_alloc (Below.refl W.heap.size W) _).mono hW.size)) hb.cell⟩
  have hp := Aside0.mk ((PrAt.new W q.f0 q.f1).drew)
  have HB := Aside0.mk ((below_alloc (Below.refl W.heap.size W) (.cells #[.int .i64 q.f0, .int .i64 q.f1] 73)).drew)
  clear hbe hr hc hM hv hq hW hb
  show Calls Try.prog 165 #[.agg #[.int .i64 q.f0, .int .i64 q.f1], .pointer (some ⟨b, 0, none⟩)] W fun e w' => e = .returned (.bool (!loopB l q.f0)) ∧ Below W.heap.size W w'
  go_enter Try.func165, Try.ntmps165
  go_wp2
  refine st_ 9 (S := fun w' => w'.cell? ⟨b, 0, none⟩ = some (.slice A l.length c) ∧ w'.cell? ⟨W.heap.size, 0, none⟩ = some (.int .i64 q.f0)) (ds := []) ⟨hx.out, hp.out.c0⟩ (fun hHeld => ?_)
  refine with_tabW (T := (true, [([], []), ([], []), ([1], [1]), ([0, 2], [0, 2]), ([], []), ([4], [4]), ([3, 5], [3, 5]), ([6], [6]), ([7, 3, 0, 1, 2, 3, 4, 5, 6, 7], [7])])) (B := [0, 0, 2, 7, 0, 16, 63, 127, 255]) (by kernel_rfl) (by kernel_rfl) (fun HT_ HW_ => ?_)
  refine pd_ 1 5 2 HT_ ?_
  refine pd_ 4 8 18 HT_ ?_
  refine tk_ 0 4 19 HT_ HW_ hHeld ?_
  refine tk_ 2 6 23 HT_ HW_ hHeld ?_
  refine tk_ 5 9 55 HT_ HW_ hHeld ?_
  refine on_ 3 (some 7) 63 HT_ (fun K hK => ?_)
  refine ca_ Try.func166 #[.slice A l.length c, .int .i64 q.f0] ?_
  refine HE.out.mono ?_; rintro e w1 ⟨b1, rfl, hm, hb1, hbl⟩; have HM := Aside0.mk hm; have HL := Aside0.mk hbl; clear hm hb1 hbl HE
  refine ⟨_, rfl, ?_⟩
  refine hK.out _ _ ⟨pw_cell_below HL.out hx.out, pw_cell_below HL.out hp.out.c0⟩ (fun hHeld => ?_)
  clear hK K
  refine nm_ ?_
  refine on_ 6 (some 10) 127 HT_ (fun K hK => ?_)
  (have hl := lookB (x := q.f0) HM.out HV.out.symm; refine value_ (by rfl) rfl (v := .bool (loopB l q.f0)) (w1 := w1) (by go_simp) ?_)
  refine hK.out _ _ ⟨pw_cell_below HL.out hx.out, pw_cell_below HL.out hp.out.c0⟩ (fun hHeld => ?_)
  clear hK K
  refine nm_ ?_
  refine pd_ 7 11 255 HT_ ?_
  refine pd_ 8 3 511 HT_ ?_
  refine dn_ HT_ ?_
  go_wp2
  go_ret
  exact ⟨rfl, below_in HB.out HL.out⟩
set_option maxRecDepth 100000 in
theorem isAcyclic_c (n : Int) (A : Option Addr) (c : Nat) (xs : List Int) (A1 : Option Addr) (c1 : Nat) (l : List Pr) (w : World) (hr1 : Kd.C k73 w A1 l.length l) (hc1 : l.length ≤ c1) (ho : okBfs l = true) :
    Calls Try.prog 113 #[.agg #[.int .i64 n, .slice A xs.length c], .slice A1 l.length c1] w fun e w' => e = .returned (.bool (acycB l)) ∧ Below w.heap.size w w' := by
  have hl : l.length ≤ 1048576 := by unfold okBfs at ho; exact of_decide_eq_true (Bool.and_eq_true _ _ ▸ ho).1
  have hb1 : Below w.heap.size w ((w.alloc (.cells #[.int .i64 n, .slice A xs.length c] 28)).alloc (.cells #[.slice A1 l.length c1] 38)) := below_alloc (below_alloc (Below.refl _ _) _) _
  have hbx : Boxed ((w.alloc (.cells #[.int .i64 n, .slice A xs.length c] 28)).alloc (.cells #[.slice A1 l.length c1] 38)) (w.heap.size + 1) 38 (.slice A1 l.length c1) := by simpa using Boxed.new (w.alloc (.cells #[.int .i64 n, .slice A xs.length c] 28)) 38 (.slice A1 l.length c1)
  have hc := areAllP_c A1 c1 l _ (fun q => q ∈ l) (fun q => !loopB l q.f0) ((w.alloc (.cells #[.int .i64 n, .slice A xs.length c] 28)).alloc (.cells #[.slice A1 l.length c1] 38)) (Kd.C_below hr1 hb1) (isAcyclic1_f _ A1 c1 l _ hbx (Kd.C_below hr1 hb1) hc1 ho) (fun q hq => hq) (by omega)
  have HC := Aside0.mk hc
  have HB := Aside0.mk hb1
  clear hc hb1 hbx hr1 hc1 ho
  go_enter Try.func113, Try.ntmps113
  go_wp2_with (go_at_call 164; refine HC.out.mono ?_; rintro e w' ⟨rfl, hb⟩)
  go_ret
  exact ⟨rfl, below_in HB.out hb⟩
end Go.Proofs.Ytomdfjohnmikdaa.Im
namespace Go.Proofs.Ytomdfjohnmikdaa.Im
set_option linter.unusedVariables false
set_option linter.unusedSimpArgs false
open Go.RowKit Go.Shelf Go.Proofs.Ytomdfjohnmikdaa.Kp Go.Proofs.Ytomdfjohnmikdaa.Ext Go.Proofs.Ytomdfjohnmikdaa.Cw Go.Proofs.YtomdfjohnmikdaaW.PrintWords Go.Proofs.YtomdfjohnmikdaaW.PrintLast Go.Proofs.YtomdfjohnmikdaaW.PrintMore
def placeP (l : List Pr) (p : Pr) : Nat := (l.takeWhile fun q => decide (cmpP q p < 0)).length
def withP (l : List Pr) (p : Pr) : List Pr := l.take (placeP l p) ++ p :: l.drop (placeP l p)
def cutB (l : List Pr) (p : Pr) : Bool := (List.range l.length).all fun j => decide (cmpP (l.getD j z73) p < 0) == decide (j < placeP l p)
theorem placeP_le (l : List Pr) (p : Pr) : placeP l p ≤ l.length := by
  unfold placeP
  exact (List.takeWhile_sublist _).length_le
theorem cutB_cut {l : List Pr} {p : Pr} (h : cutB l p = true) : CutAt l p (placeP l p) := by
  refine ⟨placeP_le l p, fun j hj => ?_⟩
  have := List.all_eq_true.1 h j (List.mem_range.2 hj)
  rw [beq_iff_eq, decide_eq_decide] at this
  exact this
theorem withP_len (l : List Pr) (p : Pr) : (withP l p).length = l.length + 1 := by
  have := placeP_le l p
  unfold withP
  simp; omega
def okWith (n : Int) (xs : List Int) (l : List Pr) (p : Pr) : Bool := isC n xs && (decide (l.length ≤ 1000000) && (cutB l p && (!pairingB xs (withP l p) || okBfs (withP l p))))
def WithPost (w : World) (r : List Pr) (b : Bool) (e : Ending) (w' : World) : Prop := ∃ v : Value, e = .returned (.tuple #[v, .bool b]) ∧ PO w' w.heap.size v r ∧ Below w.heap.size w w'
set_option maxRecDepth 100000 in
set_option maxHeartbeats 1000000 in
theorem with_c (n : Int) (A : Option Addr) (c : Nat) (xs : List Int) (A1 : Option Addr) (c1 : Nat) (l : List Pr) (p : Pr) (w : World) (hr : RC w A xs.length xs) (hc : xs.length ≤ c) (hr1 : Kd.C k73 w A1 l.length l) (hc1 : l.length ≤ c1) (ho : okWith n xs l p = true) :
    Calls Try.prog 68 #[.agg #[.int .i64 n, .slice A xs.length c], .slice A1 l.length c1, .agg #[.int .i64 p.f0, .int .i64 p.f1]] w (WithPost w (withP l p) (pairingB xs (withP l p) && acycB (withP l p))) := by
  unfold okWith at ho
  simp only [Bool.and_eq_true, Bool.or_eq_true, Bool.not_eq_true', decide_eq_true_eq] at ho
  obtain ⟨hi, hl, hcut, hbf⟩ := ho
  obtain ⟨m, hm⟩ : ∃ m, placeP l p = m := ⟨_, rfl⟩
  have hcm := cutB_cut hcut
  rw [hm] at hcm
  have hwl := withP_len l p
  have hwm : withP l p = l.take m ++ p :: l.drop m := by unfold withP; rw [hm]
  obtain ⟨r, hr0⟩ : ∃ r, withP l p = r := ⟨_, rfl⟩
  rw [hr0] at hbf hwl hwm ⊢
  have hml := hcm.1
  have hx0 := Aside0.mk ((CxAt.new w n A xs.length c).below (below_alloc (Below.refl _ _) (.cells #[.int .i64 p.f0, .int .i64 p.f1] 73)))
  have hp0 : Aside0 (PrAt ((w.alloc (.cells #[.int .i64 n, .slice A xs.length c] 28)).alloc (.cells #[.int .i64 p.f0, .int .i64 p.f1] 73)) (w.heap.size + 1) p.f0 p.f1) := ⟨by simpa using PrAt.new (w.alloc (.cells #[.int .i64 n, .slice A xs.length c] 28)) p.f0 p.f1⟩
  have hb0 := Aside0.mk (below_alloc (below_alloc (Below.refl w.heap.size w) (.cells #[.int .i64 n, .slice A xs.length c] 28)) (.cells #[.int .i64 p.f0, .int .i64 p.f1] 73))
  have HR := Aside0.mk hr
  have HR1 := Aside0.mk hr1
  have HI := Aside0.mk hi
  have HC := Aside0.mk hc
  have HC1 := Aside0.mk hc1
  have HCM := Aside0.mk hcm
  have HBF := Aside0.mk hbf
  have HWL := Aside0.mk hwl
  have HWM := Aside0.mk hwm
  clear hr hr1 hi hc hc1 hcm hbf hwl hwm hr0 hm hcut
  go_enter Try.func68, Try.ntmps68
  go_wp2_with (go_at_call 115; refine (searchP_c A1 c1 l p m _ (Kd.C_below HR1.out hb0.out) (by omega) HCM.out).mono ?_; rintro e w1 ⟨b, rfl, hb⟩; have HX := Aside0.mk (hx0.out.below hb).drew'; have HP := Aside0.mk (hp0.out.below hb).drew; have HB := Aside0.mk (below_in hb0.out hb).drew; clear hx0 hp0 hb0 hb)
  have HLT := Aside0.mk HP.out.lt
  have HLE := Aside0.mk HB.out.size
  refine st_ 7 (S := fun w' => w'.cell? ⟨w.heap.size + 1, 0, none⟩ = some (.int .i64 p.f0) ∧ w'.cell? ⟨w.heap.size + 1, 1, none⟩ = some (.int .i64 p.f1)) (ds := []) ⟨HP.out.c0, HP.out.c1⟩ (fun hHeld => ?_)
  refine with_tabW (T := (true, [([], []), ([0], [0]), ([], []), ([], []), ([3], [3]), ([1, 2, 4, 1], [1, 2, 4]), ([5, 5, 0, 1, 2, 3, 4, 5], [5])])) (B := [0, 1, 0, 0, 8, 31, 63]) (by kernel_rfl) (by kernel_rfl) (fun HT_ HW_ => ?_)
  refine pd_ 0 17 1 HT_ ?_
  refine pd_ 2 19 5 HT_ ?_
  refine tk_ 3 20 13 HT_ HW_ hHeld ?_
  refine tw_ 1 4 (some 18) (some 21) 15 29 HT_ (fun K hK => ?_) (fun K hK => ?_)
  refine ca_ Try.func66 #[.slice A1 l.length c1] ?_
  refine (cloneP_c A1 c1 l _ (Kd.C_below HR1.out HB.out) (by omega)).mono ?_; rintro e w2 ⟨v, rfl, hv, hb⟩; have HV := Aside0.mk hv; have HB2 := Aside0.mk (below_in HB.out hb); have HX2 := Aside0.mk (HX.out.below hb); have HP2 := Aside0.mk (HP.out.below hb); have HS2 := Aside0.mk hb.size; clear hv hb HX HP
  refine ⟨_, rfl, ?_⟩
  refine hK.out _ _ ⟨HP2.out.c0, HP2.out.c1⟩ (fun hHeld => ?_)
  clear hK K
  refine nm_ ?_
  refine on_ 4 (some 21) 31 HT_ (fun K hK => ?_)
  (refine value_ (by rfl) rfl (v := .slice (some ⟨w2.heap.size, 0, none⟩) 1 1) (w1 := w2.alloc (.cells #[.int .i64 p.f0, .int .i64 p.f1] 73)) (by go_simp) ?_; have HX3 := Aside0.mk (HX2.out.below (below_alloc (Below.refl _ _) (.cells #[.int .i64 p.f0, .int .i64 p.f1] 73))); have HP3 := Aside0.mk (HP2.out.alloc (.cells #[.int .i64 p.f0, .int .i64 p.f1] 73)); have HL3 := Aside0.mk (PrAt.new w2 p.f0 p.f1); have HV3 := Aside0.mk (Kd.R_alloc HV.out (.cells #[.int .i64 p.f0, .int .i64 p.f1] 73)); have HB3 := Aside0.mk (HB2.out.alloc HB2.out.size (.cells #[.int .i64 p.f0, .int .i64 p.f1] 73)); have HS3 : Aside0 (w1.heap.size ≤ (w2.alloc (.cells #[.int .i64 p.f0, .int .i64 p.f1] 73)).heap.size) := ⟨Nat.le_trans HS2.out (by simp)⟩; have HNE := Aside0.mk (Kd.R_lt HV.out); clear HX2 HP2 HV HB2 HS2)
  refine hK.out _ _ ⟨HP3.out.c0, HP3.out.c1⟩ (fun hHeld => ?_)
  clear hK K
  refine nm_ ?_
  refine on_ 5 (some 22) 63 HT_ (fun K hK => ?_)
  refine ca_ Try.func117 #[v, .int .i64 m, .slice (some ⟨w2.heap.size, 0, none⟩) 1 1] ?_
  refine (insertP_c v l m w1.heap.size w2.heap.size p.f0 p.f1 _ HV3.out hml HL3.out (fun e => absurd (HNE.out _ e.symm) (Nat.lt_irrefl _)) HS3.out (by omega)).mono ?_; rintro e w5 ⟨v5, rfl, hv, hb⟩; rw [← HWM.out] at hv; have HV5 := Aside0.mk (Kd.R_lower hv HLE.out); have HP5 : Aside0 (PrAt w5 (w.heap.size + 1) p.f0 p.f1) := ⟨(hb.block _ HLT.out).trans HP3.out⟩; have HX5 : Aside0 (CxAt w5 w.heap.size n A xs.length c) := ⟨(hb.block _ (Nat.lt_of_succ_lt HLT.out)).trans HX3.out⟩; have HB5 := Aside0.mk (HB3.out.trans (hb.mono HLE.out)); clear hv hb HV3 HP3 HX3 HB3 HL3 HNE
  refine ⟨_, rfl, ?_⟩
  refine hK.out _ _ ⟨HP5.out.c0, HP5.out.c1⟩ (fun hHeld => ?_)
  clear hK K
  refine nm_ ?_
  refine pd_ 6 10 127 HT_ ?_
  refine dn_ HT_ ?_
  rotate_left
  (refine value_ (by rfl) rfl (v := .slice (some ⟨w1.heap.size, 0, none⟩) 1 1) (w1 := w1.drew.alloc (.cells #[.int .i64 p.f0, .int .i64 p.f1] 73)) (by go_simp) ?_; have HX2 := Aside0.mk (HX.out.below (below_alloc (Below.refl _ _) (.cells #[.int .i64 p.f0, .int .i64 p.f1] 73))); have HP2 := Aside0.mk (HP.out.alloc (.cells #[.int .i64 p.f0, .int .i64 p.f1] 73)); have HL2 := Aside0.mk (PrAt.new w1.drew p.f0 p.f1); have HB2 := Aside0.mk (HB.out.alloc HB.out.size (.cells #[.int .i64 p.f0, .int .i64 p.f1] 73)); clear HX HP HB)
  refine hK.out _ _ ⟨HP2.out.c0, HP2.out.c1⟩ (fun hHeld => ?_)
  clear hK K
  refine nm_ ?_
  refine on_ 1 (some 18) 31 HT_ (fun K hK => ?_)
  refine ca_ Try.func66 #[.slice A1 l.length c1] ?_
  refine (cloneP_c A1 c1 l _ (Kd.C_below HR1.out HB2.out) (by omega)).mono ?_; rintro e w3 ⟨v, rfl, hv, hb⟩; have HV3 := Aside0.mk (Kd.R_lower hv (base' := w1.heap.size) (by simp)); have HB3 := Aside0.mk (below_in HB2.out hb); have HX3 := Aside0.mk (HX2.out.below hb); have HP3 := Aside0.mk (HP2.out.below hb); have HL3 := Aside0.mk (HL2.out.below hb); have HS3 : Aside0 (w1.heap.size ≤ w3.heap.size) := ⟨Nat.le_trans (by simp) hb.size⟩; have HNE := Aside0.mk (Kd.R_base hv); clear hv hb HX2 HP2 HB2 HL2
  refine ⟨_, rfl, ?_⟩
  refine hK.out _ _ ⟨HP3.out.c0, HP3.out.c1⟩ (fun hHeld => ?_)
  clear hK K
  refine nm_ ?_
  refine on_ 5 (some 22) 63 HT_ (fun K hK => ?_)
  refine ca_ Try.func117 #[v, .int .i64 m, .slice (some ⟨w1.heap.size, 0, none⟩) 1 1] ?_
  refine (insertP_c v l m w1.heap.size w1.heap.size p.f0 p.f1 _ HV3.out hml HL3.out (fun e => absurd (HNE.out _ e.symm) (by simp)) HS3.out (by omega)).mono ?_; rintro e w5 ⟨v5, rfl, hv, hb⟩; rw [← HWM.out] at hv; have HV5 := Aside0.mk (Kd.R_lower hv HLE.out); have HP5 : Aside0 (PrAt w5 (w.heap.size + 1) p.f0 p.f1) := ⟨(hb.block _ HLT.out).trans HP3.out⟩; have HX5 : Aside0 (CxAt w5 w.heap.size n A xs.length c) := ⟨(hb.block _ (Nat.lt_of_succ_lt HLT.out)).trans HX3.out⟩; have HB5 := Aside0.mk (HB3.out.trans (hb.mono HLE.out)); clear hv hb HV3 HP3 HX3 HB3 HL3 HNE
  refine ⟨_, rfl, ?_⟩
  refine hK.out _ _ ⟨HP5.out.c0, HP5.out.c1⟩ (fun hHeld => ?_)
  clear hK K
  refine nm_ ?_
  refine pd_ 6 10 127 HT_ ?_
  refine dn_ HT_ ?_
  rotate_left
  all_goals
    obtain ⟨A5, c5, rfl⟩ := Kd.R_slice HV5.out
    have hx0 := HX5.out.c0
    have hx1 := HX5.out.c1
    have hrd := (Kd.R_reads' HV5.out)
    have HRD := Aside0.mk hrd
    clear hrd
    by_cases hpb : pairingB xs r = true
    · have hok : okBfs r = true := by
        rcases HBF.out with h | h
        · rw [hpb] at h; cases h
        · exact h
      have HOK := Aside0.mk hok
      have HPB := Aside0.mk hpb
      clear hok hpb HBF
      generalize hpg : pairingB xs r = pb at HPB
      generalize hag : acycB r = ab
      have HPG := Aside0.mk hpg
      have HAG := Aside0.mk hag
      clear hpg hag
      obtain rfl := HPB.out
      go_wp2_with (first
        | (go_at_call 118; refine (isPairing_c n A c xs A5 c5 r _ (Kd.C_below HR.out HB5.out) HC.out HI.out HRD.out.2.2 (by rw [HWL.out]; omega)).mono ?_; rw [HPG.out]; rintro e w6 ⟨rfl, hb⟩; have HB6 := Aside0.mk hb; have HX6 := Aside0.mk (HX5.out.below hb); have hx6 := HX6.out.c0; have hy6 := HX6.out.c1; clear hb hx0 hx1)
        | (go_at_call 113; refine (isAcyclic_c n A c xs A5 c5 r _ (Kd.C_below HRD.out.2.2 HB6.out) HRD.out.2.1 HOK.out).mono ?_; rw [HAG.out]; rintro e w7 ⟨rfl, hb⟩; have HB7 := Aside0.mk hb; clear hb))
      go_ret2
      exact ⟨_, (by rw [HPG.out, HAG.out]; rfl), Kd.R_below HV5.out (below_in HB6.out HB7.out), (below_in HB5.out (below_in HB6.out HB7.out))⟩
    · have hpf : pairingB xs r = false := by simpa using hpb
      have HPF := Aside0.mk hpf
      clear hpb hpf
      go_wp2_with (first
        | (go_at_call 118; refine (isPairing_c n A c xs A5 c5 r _ (Kd.C_below HR.out HB5.out) HC.out HI.out HRD.out.2.2 (by rw [HWL.out]; omega)).mono ?_; rw [HPF.out]; rintro e w6 ⟨rfl, hb⟩; have HB6 := Aside0.mk hb; clear hb))
      go_ret2
      exact ⟨_, (by rw [HPF.out]; rfl), Kd.R_below HV5.out HB6.out, (below_in HB5.out HB6.out)⟩
end Go.Proofs.Ytomdfjohnmikdaa.Im
namespace Go.Proofs.Ytomdfjohnmikdaa.Ext
set_option linter.unusedVariables false
set_option linter.unusedSimpArgs false
open Go.RowKit Go.Proofs.Ytomdfjohnmikdaa.Im Go.Proofs.Ytomdfjohnmikdaa.Kp Go.Proofs.YtomdfjohnmikdaaW.PrintWords Go.Proofs.YtomdfjohnmikdaaW.PrintLast Go.Proofs.YtomdfjohnmikdaaW.PrintMore
def impl_Complex_isPairing.f (a0_0 : Int) (l0_1 : List Int) (l1 : List S73) : Option (Bool) := if isC a0_0 l0_1 = true ∧ l1.length ≤ 1099511627776 then some (pairingB l0_1 l1) else none
theorem impl_Complex_isPairing.calls (a0_0 : Int) (A0_1 : Option Addr) (c0_1 : Nat) (l0_1 : List Int) (A1 : Option Addr) (c1 : Nat) (l1 : List S73) (r : Bool) (w : World) (hr0_1 : Kd.C (Kd.int .i64) w A0_1 l0_1.length l0_1) (_hc0_1 : l0_1.length ≤ c0_1) (hr1 : Kd.C k73 w A1 l1.length l1) (_hc1 : l1.length ≤ c1) (h : impl_Complex_isPairing.f a0_0 l0_1 l1 = some r) :
    Calls Try.prog 118 #[.agg #[.int .i64 a0_0, .slice A0_1 l0_1.length c0_1], .slice A1 l1.length c1] w fun e w' => e = .returned (.bool r) ∧ Below w.heap.size w w' := by
  unfold impl_Complex_isPairing.f at h
  by_cases hl : isC a0_0 l0_1 = true ∧ l1.length ≤ 1099511627776
  · rw [if_pos hl] at h
    have hd := Option.some.inj h
    have := isPairing_c a0_0 A0_1 c0_1 l0_1 A1 c1 l1 w hr0_1 _hc0_1 hl.1 hr1 hl.2
    rw [hd] at this
    exact this
  · rw [if_neg hl] at h; cases h
def impl_Complex_isAcyclic.f (a0_0 : Int) (l0_1 : List Int) (l1 : List S73) : Option (Bool) := if okBfs l1 = true then some (acycB l1) else none
theorem impl_Complex_isAcyclic.calls (a0_0 : Int) (A0_1 : Option Addr) (c0_1 : Nat) (l0_1 : List Int) (A1 : Option Addr) (c1 : Nat) (l1 : List S73) (r : Bool) (w : World) (hr0_1 : Kd.C (Kd.int .i64) w A0_1 l0_1.length l0_1) (_hc0_1 : l0_1.length ≤ c0_1) (hr1 : Kd.C k73 w A1 l1.length l1) (_hc1 : l1.length ≤ c1) (h : impl_Complex_isAcyclic.f a0_0 l0_1 l1 = some r) :
    Calls Try.prog 113 #[.agg #[.int .i64 a0_0, .slice A0_1 l0_1.length c0_1], .slice A1 l1.length c1] w fun e w' => e = .returned (.bool r) ∧ Below w.heap.size w w' := by
  unfold impl_Complex_isAcyclic.f at h
  by_cases hl : okBfs l1 = true
  · rw [if_pos hl] at h
    have hd := Option.some.inj h
    have := isAcyclic_c a0_0 A0_1 c0_1 l0_1 A1 c1 l1 w hr1 _hc1 hl
    rw [hd] at this
    exact this
  · rw [if_neg hl] at h; cases h
def impl_Complex_isPair.f (a0_0 : Int) (l0_1 : List Int) (a1_0 : Int) (a1_1 : Int) : Option (Bool) := if isC a0_0 l0_1 = true then some (pairB l0_1 ⟨a1_0, a1_1⟩) else none
theorem impl_Complex_isPair.calls (a0_0 : Int) (A0_1 : Option Addr) (c0_1 : Nat) (l0_1 : List Int) (a1_0 : Int) (a1_1 : Int) (r : Bool) (w : World) (hr0_1 : Kd.C (Kd.int .i64) w A0_1 l0_1.length l0_1) (_hc0_1 : l0_1.length ≤ c0_1) (h : impl_Complex_isPair.f a0_0 l0_1 a1_0 a1_1 = some r) :
    Calls Try.prog 114 #[.agg #[.int .i64 a0_0, .slice A0_1 l0_1.length c0_1], .agg #[.int .i64 a1_0, .int .i64 a1_1]] w fun e w' => e = .returned (.bool r) ∧ Below w.heap.size w w' := by
  unfold impl_Complex_isPair.f at h
  by_cases hl : isC a0_0 l0_1 = true
  · rw [if_pos hl] at h
    have hd := Option.some.inj h
    have := isPair_c a0_0 A0_1 c0_1 l0_1 ⟨a1_0, a1_1⟩ w hr0_1 _hc0_1 hl
    rw [hd] at this
    exact this
  · rw [if_neg hl] at h; cases h
end Go.Proofs.Ytomdfjohnmikdaa.Ext
namespace Go.Proofs.Ytomdfjohnmikdaa.Ext
open Go.RowKit Go.Proofs.Ytomdfjohnmikdaa.Im Go.Proofs.Ytomdfjohnmikdaa.Kp Go.Proofs.YtomdfjohnmikdaaW.PrintWords Go.Proofs.YtomdfjohnmikdaaW.PrintLast Go.Proofs.YtomdfjohnmikdaaW.PrintMore
end Go.Proofs.Ytomdfjohnmikdaa.Ext
namespace Go.Proofs.Ytomdfjohnmikdaa.Ext
set_option linter.unusedVariables false
set_option linter.unusedSimpArgs false
open Go.RowKit Go.Proofs.Ytomdfjohnmikdaa.Im Go.Proofs.Ytomdfjohnmikdaa.Kp Go.Proofs.YtomdfjohnmikdaaW.PrintWords Go.Proofs.YtomdfjohnmikdaaW.PrintLast Go.Proofs.YtomdfjohnmikdaaW.PrintMore
def slices_Clone_impl_Pair_impl_Pair.f (l0 : List S73) : Option (List S73) := if l0.length ≤ 1048576 then some (l0) else none
theorem slices_Clone_impl_Pair_impl_Pair.calls (A0 : Option Addr) (c0 : Nat) (l0 : List S73) (r : List S73) (w : World) (hr0 : Kd.C k73 w A0 l0.length l0) (_hc0 : l0.length ≤ c0) (h : slices_Clone_impl_Pair_impl_Pair.f l0 = some r) :
    Calls Try.prog 66 #[.slice A0 l0.length c0] w fun e w' => ∃ v0_ : Value, e = .returned (v0_) ∧ Kd.R k73 73 w' w.heap.size (fun _ => True) v0_ r ∧ Below w.heap.size w w' := by
  unfold slices_Clone_impl_Pair_impl_Pair.f at h
  by_cases hl : l0.length ≤ 1048576
  · rw [if_pos hl] at h
    have hd := Option.some.inj h
    rw [← hd]
    exact cloneP_c A0 c0 l0 w hr0 hl
  · rw [if_neg hl] at h; cases h
def impl_Complex_with.f (a0_0 : Int) (l0_1 : List Int) (l1 : List S73) (a2_0 : Int) (a2_1 : Int) : Option (List S73 × Bool) := if okWith a0_0 l0_1 l1 ⟨a2_0, a2_1⟩ = true then some ((withP l1 ⟨a2_0, a2_1⟩, pairingB l0_1 (withP l1 ⟨a2_0, a2_1⟩) && acycB (withP l1 ⟨a2_0, a2_1⟩))) else none
theorem impl_Complex_with.calls (a0_0 : Int) (A0_1 : Option Addr) (c0_1 : Nat) (l0_1 : List Int) (A1 : Option Addr) (c1 : Nat) (l1 : List S73) (a2_0 : Int) (a2_1 : Int) (r1 : List S73) (r2 : Bool) (w : World) (hr0_1 : Kd.C (Kd.int .i64) w A0_1 l0_1.length l0_1) (_hc0_1 : l0_1.length ≤ c0_1) (hr1 : Kd.C k73 w A1 l1.length l1) (_hc1 : l1.length ≤ c1) (h : impl_Complex_with.f a0_0 l0_1 l1 a2_0 a2_1 = some (r1, r2)) :
    Calls Try.prog 68 #[.agg #[.int .i64 a0_0, .slice A0_1 l0_1.length c0_1], .slice A1 l1.length c1, .agg #[.int .i64 a2_0, .int .i64 a2_1]] w fun e w' => ∃ v0_ : Value, e = .returned (.tuple #[v0_, .bool r2]) ∧ Kd.R k73 73 w' w.heap.size (fun _ => True) v0_ r1 ∧ Below w.heap.size w w' := by
  unfold impl_Complex_with.f at h
  by_cases hl : okWith a0_0 l0_1 l1 ⟨a2_0, a2_1⟩ = true
  · rw [if_pos hl] at h
    have hd := Option.some.inj h
    obtain ⟨hd1, hd2⟩ := Prod.mk.inj hd
    subst hd1
    subst hd2
    exact with_c a0_0 A0_1 c0_1 l0_1 A1 c1 l1 ⟨a2_0, a2_1⟩ w hr0_1 _hc0_1 hr1 _hc1 hl
  · rw [if_neg hl] at h; cases h
end Go.Proofs.Ytomdfjohnmikdaa.Ext
namespace Go.Proofs.Ytomdfjohnmikdaa.QC
open Go.Proofs.Ytomdfjohnmikdaa.Cw Go.Proofs.Ytomdfjohnmikdaa.Kp Go.Proofs.Ytomdfjohnmikdaa.Ext Go.RowKit Go.Proofs.YtomdfjohnmikdaaW.PrintWords Go.Proofs.YtomdfjohnmikdaaW.PrintLast Go.Proofs.YtomdfjohnmikdaaW.PrintMore
attribute [local go_sem] max2_int min2_int max_two min_two max_three min_three max_four min_four   -- for this text's walks alone
set_option linter.unusedVariables false
set_option linter.unusedSimpArgs false
def errW : Option Int → Value
 | none => .nilIface
 | some c => .iface 0 (.int .i64 c)
theorem errW_none : errW none = .nilIface := rfl
theorem errW_some (c : Int) : errW (some c) = .iface 0 (.int .i64 c) := rfl
theorem info73 : (Try.prog.info? 73).map (fun i => (i.zero, i.size, i.bytes)) = some (some (.agg #[(.int .i64 0), (.int .i64 0)]), 2, 16) := by kernel_rfl
end Go.Proofs.Ytomdfjohnmikdaa.QC
namespace Go.Proofs.Ytomdfjohnmikdaa.QC
open Go.Proofs.Ytomdfjohnmikdaa.Cw Go.Proofs.Ytomdfjohnmikdaa.Kp Go.Proofs.Ytomdfjohnmikdaa.Ext Go.RowKit Go.Proofs.YtomdfjohnmikdaaW.PrintWords Go.Proofs.YtomdfjohnmikdaaW.PrintLast Go.Proofs.YtomdfjohnmikdaaW.PrintMore
attribute [local go_sem] max2_int min2_int max_two min_two max_three min_three max_four min_four   -- for this text's walks alone
set_option linter.unusedVariables false
set_option linter.unusedSimpArgs false
def impl_pairingCode_1.f (a0_0 : Bool) (a1_0 : Int) (l1_1 : List Int) (l2_0 : List (S73)) : Option (Bool) := if a0_0 = true then ((impl_Complex_isPairing.f a1_0 l1_1 l2_0).bind fun t104 => (some t104)) else (some false)
set_option maxHeartbeats 8000000 in
set_option maxRecDepth 100000 in
theorem impl_pairingCode_1.calls (g0 : Nat) (a0_0 : Bool) (g1 : Nat) (a1_0 : Int) (A1_1 : Option Addr) (c1_1 : Nat) (l1_1 : List Int) (g2 : Nat) (A2_0 : Option Addr) (c2_0 : Nat) (l2_0 : List (S73)) (r : Bool) (w : World) (hb0 : w.heap[g0]? = some (.cells #[.bool a0_0] 4 (0, 0))) (hb1 : w.heap[g1]? = some (.cells #[.int .i64 a1_0, .slice A1_1 l1_1.length c1_1] 28 (0, 0))) (hr1_1 : Kd.C (Kd.int .i64) w A1_1 l1_1.length l1_1) (hc1_1 : l1_1.length ≤ c1_1) (hb2 : w.heap[g2]? = some (.cells #[.slice A2_0 l2_0.length c2_0] 38 (0, 0))) (hr2_0 : Kd.C k73 w A2_0 l2_0.length l2_0) (hc2_0 : l2_0.length ≤ c2_0) (h : impl_pairingCode_1.f a0_0 a1_0 l1_1 l2_0 = some r) :
  Calls Try.prog 163 #[.pointer (some ⟨g0, 0, none⟩), .pointer (some ⟨g1, 0, none⟩), .pointer (some ⟨g2, 0, none⟩)] w fun e w' => e = .returned (.bool r) ∧ Below w.heap.size w w' := by
 have hu28 := Try.underlying28
 have HR1_1 := Aside0.mk hr1_1
 have HC1_1 := Aside0.mk hc1_1
 clear hr1_1 hc1_1
 have HR2_0 := Aside0.mk hr2_0
 have HC2_0 := Aside0.mk hc2_0
 clear hr2_0 hc2_0
 have BK101 := Aside0.mk hb0
 clear hb0
 have BK102 := Aside0.mk hb1
 clear hb1
 have BK103 := Aside0.mk hb2
 clear hb2
 have HB := Aside0.mk (Below.refl w.heap.size w)
 have H : (if a0_0 = true then ((impl_Complex_isPairing.f a1_0 l1_1 l2_0).bind fun t104 => (some t104)) else (some false)) = some r := h
 clear h
 by_cases c4 : a0_0 = true
 ·subst c4
  have H1 : ((impl_Complex_isPairing.f a1_0 l1_1 l2_0).bind fun t104 => (some t104)) = some r := by rw [if_pos rfl] at H; exact H
  clear H
  have H := H1
  clear H1
  replace H := Option.bind_eq_some_iff.mp H
  obtain ⟨t104, A50, H⟩ := H
  try dsimp only at H
  have A5 := Aside0.mk A50
  clear A50
  obtain rfl := Option.some.inj H
  (try have hnb6 := NB101_102.out)
  (try have hnc6 := NB102_101.out)
  (try have hnb7 := NB101_103.out)
  (try have hnc7 := NB103_101.out)
  have hcz8_0 : w.cell? ⟨g0, 0, none⟩ = some (.bool true) := cB BK101 0
  have hfz8_0 := zB BK101 0
  (try have hnb9 := NB102_103.out)
  (try have hnc9 := NB103_102.out)
  have hcz10_0 : w.cell? ⟨g1, 0, none⟩ = some (.int .i64 a1_0) := cB BK102 0
  have hcz10_1 : w.cell? ⟨g1, 1, none⟩ = some (.slice A1_1 l1_1.length c1_1) := cB BK102 1
  have hfz10_0 := zB BK102 0
  have hfz10_1 := zB BK102 1
  have hcz11_0 : w.cell? ⟨g2, 0, none⟩ = some (.slice A2_0 l2_0.length c2_0) := cB BK103 0
  have hfz11_0 := zB BK103 0
  go_enter Try.func163, Try.ntmps163
  go_wp2_with (first | (go_at_call 118; (with_reducible refine (impl_Complex_isPairing.calls a1_0 _ _ l1_1 _ _ l2_0 t104 _ ?side1 ?side2 ?side3 ?side4 A5.out).mono ?_); (case side1 => exact pC (HR1_1.out)); (case side2 => exact HC1_1.out); (case side3 => exact pC (HR2_0.out)); (case side4 => exact HC2_0.out); rintro e w12 ⟨rfl, hb⟩; replace BK101 := sB BK101 hb; replace BK102 := sB BK102 hb; replace BK103 := sB BK103 hb; replace HB := sH HB hb; (try clear hb); (try clear hi)))
  go_ret
  exact ⟨by first | rfl | (simp [errW_none, errW_some] <;> rfl) | (simp [*, errW_none, errW_some] <;> rfl) | (exfalso; simp_all), pH HB⟩
 ·replace c4 := Bool.eq_false_iff.mpr c4
  subst c4
  have H1 : (some false) = some r := by rw [if_neg (show ¬ (false = true) by decide)] at H; exact H
  clear H
  have H := H1
  clear H1
  obtain rfl := Option.some.inj H
  (try have hnb13 := NB101_102.out)
  (try have hnc13 := NB102_101.out)
  (try have hnb14 := NB101_103.out)
  (try have hnc14 := NB103_101.out)
  have hcz15_0 : w.cell? ⟨g0, 0, none⟩ = some (.bool false) := cB BK101 0
  have hfz15_0 := zB BK101 0
  go_enter Try.func163, Try.ntmps163
  go_wp2
  go_ret
  exact ⟨by first | rfl | (simp [errW_none, errW_some] <;> rfl) | (simp [*, errW_none, errW_some] <;> rfl) | (exfalso; simp_all), pH HB⟩
def clo_163 (a0_0 : Bool) (a1_0 : Int) (l1_1 : List Int) (l2_0 : List (S73)) : Pred := Pred.ofU (impl_pairingCode_1.f a0_0 a1_0 l1_1 l2_0)
set_option maxRecDepth 100000 in
theorem clo_ok_163 {W : World} {g0 : Nat} {a0_0 : Bool} {g1 : Nat} {a1_0 : Int} {A1_1 : Option Addr} {c1_1 : Nat} {l1_1 : List Int} {g2 : Nat} {A2_0 : Option Addr} {c2_0 : Nat} {l2_0 : List (S73)} (hb0 : W.heap[g0]? = some (.cells #[.bool a0_0] 4 (0, 0))) (hb1 : W.heap[g1]? = some (.cells #[.int .i64 a1_0, .slice A1_1 l1_1.length c1_1] 28 (0, 0))) (hb2 : W.heap[g2]? = some (.cells #[.slice A2_0 l2_0.length c2_0] 38 (0, 0))) (hr1_1 : Kd.C (Kd.int .i64) W A1_1 l1_1.length l1_1) (hc1_1 : l1_1.length ≤ c1_1) (hr2_0 : Kd.C k73 W A2_0 l2_0.length l2_0) (hc2_0 : l2_0.length ≤ c2_0) : FnOk (.func (.func 163) #[] #[.pointer (some ⟨g0, 0, none⟩), .pointer (some ⟨g1, 0, none⟩), .pointer (some ⟨g2, 0, none⟩)]) (clo_163 a0_0 a1_0 l1_1 l2_0) W :=
 FnOk.ofU (enters_of Try.func163 (by kernel_rfl) rfl) (fun V b hV hr => by
  show Calls Try.prog 163 #[.pointer (some ⟨g0, 0, none⟩), .pointer (some ⟨g1, 0, none⟩), .pointer (some ⟨g2, 0, none⟩)] V _
  exact (impl_pairingCode_1.calls g0 a0_0 g1 a1_0 A1_1 c1_1 l1_1 g2 A2_0 c2_0 l2_0 b V ((hV.block g0 (blk_lt hb0)).trans hb0) ((hV.block g1 (blk_lt hb1)).trans hb1) (Kd.C_below hr1_1 hV) hc1_1 ((hV.block g2 (blk_lt hb2)).trans hb2) (Kd.C_below hr2_0 hV) hc2_0 hr).mono (fun e w' h_ => ⟨h_.1, h_.2⟩))
def impl_pairingCode.f (a0_0 : Int) (l0_1 : List Int) (l1 : List (S73)) (a2 : Bool) : Option (Int) := (impl_complexCode.f a0_0 l0_1 (clo_163 a2 a0_0 l0_1 l1)).bind fun t108 => (some t108)
set_option maxHeartbeats 8000000 in
set_option maxRecDepth 100000 in
theorem impl_pairingCode.calls (a0_0 : Int) (A0_1 : Option Addr) (c0_1 : Nat) (l0_1 : List Int) (A1 : Option Addr) (c1 : Nat) (l1 : List (S73)) (a2 : Bool) (r : Int) (w : World) (hr0_1 : Kd.C (Kd.int .i64) w A0_1 l0_1.length l0_1) (hc0_1 : l0_1.length ≤ c0_1) (hr1 : Kd.C k73 w A1 l1.length l1) (hc1 : l1.length ≤ c1) (h : impl_pairingCode.f a0_0 l0_1 l1 a2 = some r) :
  Calls Try.prog 112 #[.agg #[.int .i64 a0_0, .slice A0_1 l0_1.length c0_1], .slice A1 l1.length c1, .bool a2] w fun e w' => e = .returned (.int .i64 r) ∧ Below w.heap.size w w' := by
 have hu28 := Try.underlying28
 have HR0_1 := Aside0.mk hr0_1
 have HC0_1 := Aside0.mk hc0_1
 clear hr0_1 hc0_1
 have HR1 := Aside0.mk hr1
 have HC1 := Aside0.mk hc1
 clear hr1 hc1
 have HB := Aside0.mk (Below.refl w.heap.size w)
 have H : ((impl_complexCode.f a0_0 l0_1 (clo_163 a2 a0_0 l0_1 l1)).bind fun t108 => (some t108)) = some r := h
 clear h
 replace H := Option.bind_eq_some_iff.mp H
 obtain ⟨t108, A40, H⟩ := H
 try dsimp only at H
 have A4 := Aside0.mk A40
 clear A40
 obtain rfl := Option.some.inj H
 go_enter Try.func112, Try.ntmps112
 go_wp2_with (first | ((with_reducible refine gate_dst (N := 3) rfl ?_); refine box_event ?hg (N := 3) ?hd (cs := #[.int .i64 a0_0, .slice A0_1 l0_1.length c0_1]) (t := 28) ?hr ?_; (case hd => rfl); (case hg => rfl); (case hr => first | (go_simp; done) | (go_simp; rfl)); intro gb105 hg w5 hbox hb; have BK105 := Aside0.mk (hbox); have GW105 := gH HB hg; have GE105 := gH HB hg; replace HB := sH HB hb; clear hb hbox hg) | ((with_reducible refine gate_dst (N := 4) rfl ?_); refine box_event ?hg (N := 4) ?hd (cs := #[.slice A1 l1.length c1]) (t := 38) ?hr ?_; (case hd => rfl); (case hg => rfl); (case hr => first | (go_simp; done) | (go_simp; rfl)); intro gb106 hg w6 hbox hb; have BK106 := Aside0.mk (hbox); have GW106 := gH HB hg; have GE106 := gH HB hg; replace HB := sH HB hb; have NB105_106 := nB BK105 hg; have NB106_105 := oB BK105 hg; replace BK105 := sB BK105 hb; clear hb hbox hg) | ((with_reducible refine gate_dst (N := 5) rfl ?_); refine box_event ?hg (N := 5) ?hd (cs := #[.bool a2]) (t := 4) ?hr ?_; (case hd => rfl); (case hg => rfl); (case hr => first | (go_simp; done) | (go_simp; rfl)); intro gb107 hg w7 hbox hb; have BK107 := Aside0.mk (hbox); have GW107 := gH HB hg; have GE107 := gH HB hg; replace HB := sH HB hb; have NB105_107 := nB BK105 hg; have NB107_105 := oB BK105 hg; replace BK105 := sB BK105 hb; have NB106_107 := nB BK106 hg; have NB107_106 := oB BK106 hg; replace BK106 := sB BK106 hb; clear hb hbox hg; (try have hnb8 := NB105_106.out); (try have hnc8 := NB106_105.out); (try have hnb9 := NB105_107.out); (try have hnc9 := NB107_105.out); have hcz10_0 : w7.cell? ⟨gb105, 0, none⟩ = some (.int .i64 a0_0) := cB BK105 0; have hcz10_1 : w7.cell? ⟨gb105, 1, none⟩ = some (.slice A0_1 l0_1.length c0_1) := cB BK105 1; have hfz10_0 := zB BK105 0; have hfz10_1 := zB BK105 1) | ((with_reducible refine gate_callee (f := 53) rfl ?_); refine cl_ (some 9) Try.func53 #[.agg #[.int .i64 a0_0, .slice A0_1 l0_1.length c0_1], .func (.func 163) #[] #[.pointer (some ⟨gb107, 0, none⟩), .pointer (some ⟨gb105, 0, none⟩), .pointer (some ⟨gb106, 0, none⟩)]] ?_; (with_reducible refine (impl_complexCode.calls a0_0 _ _ l0_1 _ (clo_163 a2 a0_0 l0_1 l1) t108 _ ?side1 ?side2 ?side3 A4.out).mono ?_); (case side1 => exact pC ((Kd.C_below HR0_1.out HB.out))); (case side2 => exact HC0_1.out); (case side3 => exact clo_ok_163 (pB BK107) (pB BK105) (pB BK106) (by exact pC ((Kd.C_below HR0_1.out HB.out))) (by exact HC0_1.out) (by exact pC ((Kd.C_below HR1.out HB.out))) (by exact HC1.out)); rintro e w11 ⟨rfl, hb⟩; refine ⟨_, rfl, ?_⟩; replace BK105 := sB BK105 hb; replace BK106 := sB BK106 hb; replace BK107 := sB BK107 hb; replace HB := sH HB hb; (try clear hb); (try clear hi)))
 go_ret
 exact ⟨by first | rfl | (simp [errW_none, errW_some] <;> rfl) | (simp [*, errW_none, errW_some] <;> rfl) | (exfalso; simp_all), pH HB⟩
def impl_acyclicCode.f (a0_0 : Int) (l0_1 : List Int) (l1 : List (S73)) (a2 : Bool) : Option (Int) := (impl_pairingCode.f a0_0 l0_1 l1 a2).bind fun t110 => (if t110 = 0 then ((impl_Complex_isAcyclic.f a0_0 l0_1 l1).bind fun t111 => (if t111 = true then (some 0) else (some 5))) else (some t110))
set_option maxHeartbeats 8000000 in
set_option maxRecDepth 100000 in
theorem impl_acyclicCode.calls (a0_0 : Int) (A0_1 : Option Addr) (c0_1 : Nat) (l0_1 : List Int) (A1 : Option Addr) (c1 : Nat) (l1 : List (S73)) (a2 : Bool) (r : Int) (w : World) (hr0_1 : Kd.C (Kd.int .i64) w A0_1 l0_1.length l0_1) (hc0_1 : l0_1.length ≤ c0_1) (hr1 : Kd.C k73 w A1 l1.length l1) (hc1 : l1.length ≤ c1) (h : impl_acyclicCode.f a0_0 l0_1 l1 a2 = some r) :
  Calls Try.prog 65 #[.agg #[.int .i64 a0_0, .slice A0_1 l0_1.length c0_1], .slice A1 l1.length c1, .bool a2] w fun e w' => e = .returned (.int .i64 r) ∧ Below w.heap.size w w' := by
 have hu28 := Try.underlying28
 have HR0_1 := Aside0.mk hr0_1
 have HC0_1 := Aside0.mk hc0_1
 clear hr0_1 hc0_1
 have HR1 := Aside0.mk hr1
 have HC1 := Aside0.mk hc1
 clear hr1 hc1
 have HB := Aside0.mk (Below.refl w.heap.size w)
 have H : ((impl_pairingCode.f a0_0 l0_1 l1 a2).bind fun t110 => (if t110 = 0 then ((impl_Complex_isAcyclic.f a0_0 l0_1 l1).bind fun t111 => (if t111 = true then (some 0) else (some 5))) else (some t110))) = some r := h
 clear h
 replace H := Option.bind_eq_some_iff.mp H
 obtain ⟨t110, A40, H⟩ := H
 try dsimp only at H
 have A4 := Aside0.mk A40
 clear A40
 by_cases c5 : t110 = 0
 ·rw [if_pos c5] at H
  have c5b0 : (t110 == 0) = true := beq_iff_eq.mpr c5
  have c5b1 : (t110 != 0) = false := bne_eq_false_iff_eq.mpr c5
  clear c5
  replace H := Option.bind_eq_some_iff.mp H
  obtain ⟨t111, A60, H⟩ := H
  try dsimp only at H
  have A6 := Aside0.mk A60
  clear A60
  by_cases c7 : t111 = true
  ·subst c7
   have H1 : (some 0) = some r := by rw [if_pos rfl] at H; exact H
   clear H
   have H := H1
   clear H1
   obtain rfl := Option.some.inj H
   go_enter Try.func65, Try.ntmps65
   go_wp2_with (first | ((with_reducible refine gate_dst (N := 3) rfl ?_); refine box_event ?hg (N := 3) ?hd (cs := #[.int .i64 a0_0, .slice A0_1 l0_1.length c0_1]) (t := 28) ?hr ?_; (case hd => rfl); (case hg => rfl); (case hr => first | (go_simp; done) | (go_simp; rfl)); intro gb109 hg w8 hbox hb; have BK109 := Aside0.mk (hbox); have GW109 := gH HB hg; have GE109 := gH HB hg; replace HB := sH HB hb; clear hb hbox hg; have hcz9_0 : w8.cell? ⟨gb109, 0, none⟩ = some (.int .i64 a0_0) := cB BK109 0; have hcz9_1 : w8.cell? ⟨gb109, 1, none⟩ = some (.slice A0_1 l0_1.length c0_1) := cB BK109 1; have hfz9_0 := zB BK109 0; have hfz9_1 := zB BK109 1) | ((with_reducible refine gate_callee (f := 112) rfl ?_); refine cl_ (some 11) Try.func112 #[.agg #[.int .i64 a0_0, .slice A0_1 l0_1.length c0_1], .slice A1 l1.length c1, .bool a2] ?_; (with_reducible refine (impl_pairingCode.calls a0_0 _ _ l0_1 _ _ l1 a2 t110 _ ?side1 ?side2 ?side3 ?side4 A4.out).mono ?_); (case side1 => exact pC ((Kd.C_below HR0_1.out HB.out))); (case side2 => exact HC0_1.out); (case side3 => exact pC ((Kd.C_below HR1.out HB.out))); (case side4 => exact HC1.out); rintro e w10 ⟨rfl, hb⟩; refine ⟨_, rfl, ?_⟩; replace BK109 := sB BK109 hb; replace HB := sH HB hb; (try clear hb); (try clear hi); have hcz11_0 : w10.cell? ⟨gb109, 0, none⟩ = some (.int .i64 a0_0) := cB BK109 0; have hcz11_1 : w10.cell? ⟨gb109, 1, none⟩ = some (.slice A0_1 l0_1.length c0_1) := cB BK109 1; have hfz11_0 := zB BK109 0; have hfz11_1 := zB BK109 1) | ((with_reducible refine gate_callee (f := 113) rfl ?_); refine cl_ (some 17) Try.func113 #[.agg #[.int .i64 a0_0, .slice A0_1 l0_1.length c0_1], .slice A1 l1.length c1] ?_; (with_reducible refine (impl_Complex_isAcyclic.calls a0_0 _ _ l0_1 _ _ l1 true _ ?side1 ?side2 ?side3 ?side4 A6.out).mono ?_); (case side1 => exact pC ((Kd.C_below HR0_1.out HB.out))); (case side2 => exact HC0_1.out); (case side3 => exact pC ((Kd.C_below HR1.out HB.out))); (case side4 => exact HC1.out); rintro e w12 ⟨rfl, hb⟩; refine ⟨_, rfl, ?_⟩; replace BK109 := sB BK109 hb; replace HB := sH HB hb; (try clear hb); (try clear hi)))
   go_ret
   exact ⟨by first | rfl | (simp [errW_none, errW_some] <;> rfl) | (simp [*, errW_none, errW_some] <;> rfl) | (exfalso; simp_all), pH HB⟩
  ·replace c7 := Bool.eq_false_iff.mpr c7
   subst c7
   have H1 : (some 5) = some r := by rw [if_neg (show ¬ (false = true) by decide)] at H; exact H
   clear H
   have H := H1
   clear H1
   obtain rfl := Option.some.inj H
   go_enter Try.func65, Try.ntmps65
   go_wp2_with (first | ((with_reducible refine gate_dst (N := 3) rfl ?_); refine box_event ?hg (N := 3) ?hd (cs := #[.int .i64 a0_0, .slice A0_1 l0_1.length c0_1]) (t := 28) ?hr ?_; (case hd => rfl); (case hg => rfl); (case hr => first | (go_simp; done) | (go_simp; rfl)); intro gb109 hg w13 hbox hb; have BK109 := Aside0.mk (hbox); have GW109 := gH HB hg; have GE109 := gH HB hg; replace HB := sH HB hb; clear hb hbox hg; have hcz14_0 : w13.cell? ⟨gb109, 0, none⟩ = some (.int .i64 a0_0) := cB BK109 0; have hcz14_1 : w13.cell? ⟨gb109, 1, none⟩ = some (.slice A0_1 l0_1.length c0_1) := cB BK109 1; have hfz14_0 := zB BK109 0; have hfz14_1 := zB BK109 1) | ((with_reducible refine gate_callee (f := 112) rfl ?_); refine cl_ (some 11) Try.func112 #[.agg #[.int .i64 a0_0, .slice A0_1 l0_1.length c0_1], .slice A1 l1.length c1, .bool a2] ?_; (with_reducible refine (impl_pairingCode.calls a0_0 _ _ l0_1 _ _ l1 a2 t110 _ ?side1 ?side2 ?side3 ?side4 A4.out).mono ?_); (case side1 => exact pC ((Kd.C_below HR0_1.out HB.out))); (case side2 => exact HC0_1.out); (case side3 => exact pC ((Kd.C_below HR1.out HB.out))); (case side4 => exact HC1.out); rintro e w15 ⟨rfl, hb⟩; refine ⟨_, rfl, ?_⟩; replace BK109 := sB BK109 hb; replace HB := sH HB hb; (try clear hb); (try clear hi); have hcz16_0 : w15.cell? ⟨gb109, 0, none⟩ = some (.int .i64 a0_0) := cB BK109 0; have hcz16_1 : w15.cell? ⟨gb109, 1, none⟩ = some (.slice A0_1 l0_1.length c0_1) := cB BK109 1; have hfz16_0 := zB BK109 0; have hfz16_1 := zB BK109 1) | ((with_reducible refine gate_callee (f := 113) rfl ?_); refine cl_ (some 17) Try.func113 #[.agg #[.int .i64 a0_0, .slice A0_1 l0_1.length c0_1], .slice A1 l1.length c1] ?_; (with_reducible refine (impl_Complex_isAcyclic.calls a0_0 _ _ l0_1 _ _ l1 false _ ?side1 ?side2 ?side3 ?side4 A6.out).mono ?_); (case side1 => exact pC ((Kd.C_below HR0_1.out HB.out))); (case side2 => exact HC0_1.out); (case side3 => exact pC ((Kd.C_below HR1.out HB.out))); (case side4 => exact HC1.out); rintro e w17 ⟨rfl, hb⟩; refine ⟨_, rfl, ?_⟩; replace BK109 := sB BK109 hb; replace HB := sH HB hb; (try clear hb); (try clear hi)))
   go_ret
   exact ⟨by first | rfl | (simp [errW_none, errW_some] <;> rfl) | (simp [*, errW_none, errW_some] <;> rfl) | (exfalso; simp_all), pH HB⟩
 ·rw [if_neg c5] at H
  have c5b0 : (t110 == 0) = false := beq_eq_false_iff_ne.mpr c5
  have c5b1 : (t110 != 0) = true := bne_iff_ne.mpr c5
  obtain rfl := Option.some.inj H
  go_enter Try.func65, Try.ntmps65
  go_wp2_with (first | ((with_reducible refine gate_dst (N := 3) rfl ?_); refine box_event ?hg (N := 3) ?hd (cs := #[.int .i64 a0_0, .slice A0_1 l0_1.length c0_1]) (t := 28) ?hr ?_; (case hd => rfl); (case hg => rfl); (case hr => first | (go_simp; done) | (go_simp; rfl)); intro gb109 hg w18 hbox hb; have BK109 := Aside0.mk (hbox); have GW109 := gH HB hg; have GE109 := gH HB hg; replace HB := sH HB hb; clear hb hbox hg; have hcz19_0 : w18.cell? ⟨gb109, 0, none⟩ = some (.int .i64 a0_0) := cB BK109 0; have hcz19_1 : w18.cell? ⟨gb109, 1, none⟩ = some (.slice A0_1 l0_1.length c0_1) := cB BK109 1; have hfz19_0 := zB BK109 0; have hfz19_1 := zB BK109 1) | ((with_reducible refine gate_callee (f := 112) rfl ?_); refine cl_ (some 11) Try.func112 #[.agg #[.int .i64 a0_0, .slice A0_1 l0_1.length c0_1], .slice A1 l1.length c1, .bool a2] ?_; (with_reducible refine (impl_pairingCode.calls a0_0 _ _ l0_1 _ _ l1 a2 t110 _ ?side1 ?side2 ?side3 ?side4 A4.out).mono ?_); (case side1 => exact pC ((Kd.C_below HR0_1.out HB.out))); (case side2 => exact HC0_1.out); (case side3 => exact pC ((Kd.C_below HR1.out HB.out))); (case side4 => exact HC1.out); rintro e w20 ⟨rfl, hb⟩; refine ⟨_, rfl, ?_⟩; replace BK109 := sB BK109 hb; replace HB := sH HB hb; (try clear hb); (try clear hi)))
  go_ret
  exact ⟨by first | rfl | (simp [errW_none, errW_some] <;> rfl) | (simp [*, errW_none, errW_some] <;> rfl) | (exfalso; simp_all), pH HB⟩
mutual
def impl_Complex_pairs.l0 : Nat → List (S73) → List Int → Int → Int → Int → List Int → Option ((List (S73)))
 | 0, _, _, _, _, _, _ => none
 | k + 1, x3, x10, x11, x12, x113000, x113001 => if x12 < x11 then (if 0 ≤ x12 then (if x12 < (x10.length : Int) then (impl_Complex_pairs.l1 k x3 (rd x10 x12) x10 x11 x12 x113001 (x113001.length : Int) 0 x113000 x113001) else (none)) else (none)) else (some x3)
def impl_Complex_pairs.l1 : Nat → List (S73) → Int → List Int → Int → Int → List Int → Int → Int → Int → List Int → Option ((List (S73)))
 | 0, _, _, _, _, _, _, _, _, _, _ => none
 | k + 1, x3, x5, x10, x11, x12, x17, x18, x19, x113000, x113001 => if x19 < x18 then (if 0 ≤ x19 then (if x19 < (x17.length : Int) then ((impl_Complex_isPair.f x113000 x113001 x5 (rd x17 x19)).bind fun t116 => (if t116 = true then (if x3.length < 8796093022208 then (impl_Complex_pairs.l1 k (x3 ++ [(⟨x5, rd x17 x19⟩ : S73)]) x5 x10 x11 x12 x17 x18 (wrap64 (x19 + 1)) x113000 x113001) else (none)) else (impl_Complex_pairs.l1 k x3 x5 x10 x11 x12 x17 x18 (wrap64 (x19 + 1)) x113000 x113001))) else (none)) else (none)) else (impl_Complex_pairs.l0 k x3 x10 x11 (wrap64 (x12 + 1)) x113000 x113001)
end
def impl_Complex_pairs.f (k : Nat) (a0_0 : Int) (l0_1 : List Int) : Option ((List (S73))) := impl_Complex_pairs.l0 k ([] : List (S73)) l0_1 (l0_1.length : Int) 0 a0_0 l0_1
theorem impl_Complex_pairs.mono_l : ∀ k, (∀ y0 y1 y2 y3 y4 y5, LeO (impl_Complex_pairs.l0 k y0 y1 y2 y3 y4 y5) (impl_Complex_pairs.l0 (k + 1) y0 y1 y2 y3 y4 y5)) ∧ (∀ y0 y1 y2 y3 y4 y5 y6 y7 y8 y9, LeO (impl_Complex_pairs.l1 k y0 y1 y2 y3 y4 y5 y6 y7 y8 y9) (impl_Complex_pairs.l1 (k + 1) y0 y1 y2 y3 y4 y5 y6 y7 y8 y9))
 | 0 => ⟨fun _ _ _ _ _ _ r h => by simp [impl_Complex_pairs.l0] at h, fun _ _ _ _ _ _ _ _ _ _ r h => by simp [impl_Complex_pairs.l1] at h⟩
 | k + 1 => by
  obtain ⟨ih0, ih1⟩ := impl_Complex_pairs.mono_l k
  refine ⟨?_, ?_⟩
  ·intro y0 y1 y2 y3 y4 y5
   unfold impl_Complex_pairs.l0
   repeat' first
   | (with_reducible exact ih0 _ _ _ _ _ _)
   | (with_reducible exact ih1 _ _ _ _ _ _ _ _ _ _)
   | (with_reducible exact LeO.refl _)
   | (with_reducible exact LeO.none _)
   | (with_reducible refine LeO.ite ?_ ?_)
   | (with_reducible refine LeO.bind ?_ (fun _ => ?_))
   | exact ih0 _ _ _ _ _ _
   | exact ih1 _ _ _ _ _ _ _ _ _ _
   | exact LeO.none _
   | refine LeO.ite ?_ ?_
   | refine LeO.bind ?_ (fun _ => ?_)
  ·intro y0 y1 y2 y3 y4 y5 y6 y7 y8 y9
   unfold impl_Complex_pairs.l1
   repeat' first
   | (with_reducible exact ih0 _ _ _ _ _ _)
   | (with_reducible exact ih1 _ _ _ _ _ _ _ _ _ _)
   | (with_reducible exact LeO.refl _)
   | (with_reducible exact LeO.none _)
   | (with_reducible refine LeO.ite ?_ ?_)
   | (with_reducible refine LeO.bind ?_ (fun _ => ?_))
   | exact ih0 _ _ _ _ _ _
   | exact ih1 _ _ _ _ _ _ _ _ _ _
   | exact LeO.none _
   | refine LeO.ite ?_ ?_
   | refine LeO.bind ?_ (fun _ => ?_)
theorem impl_Complex_pairs.mono : ∀ a0 a1 k, LeO (impl_Complex_pairs.f k a0 a1) (impl_Complex_pairs.f (k + 1) a0 a1) := by
 intro a0 a1 k
 obtain ⟨ih0, ih1⟩ := impl_Complex_pairs.mono_l k
 unfold impl_Complex_pairs.f
 repeat' first
   | (with_reducible exact ih0 _ _ _ _ _ _)
   | (with_reducible exact ih1 _ _ _ _ _ _ _ _ _ _)
   | (with_reducible exact LeO.refl _)
   | (with_reducible exact LeO.none _)
   | (with_reducible refine LeO.ite ?_ ?_)
   | (with_reducible refine LeO.bind ?_ (fun _ => ?_))
   | exact ih0 _ _ _ _ _ _
   | exact ih1 _ _ _ _ _ _ _ _ _ _
   | exact LeO.none _
   | refine LeO.ite ?_ ?_
   | refine LeO.bind ?_ (fun _ => ?_)
set_option maxHeartbeats 8000000 in
set_option maxRecDepth 100000 in
theorem impl_Complex_pairs.calls (k : Nat) (a0_0 : Int) (A0_1 : Option Addr) (c0_1 : Nat) (l0_1 : List Int) (r : List (S73)) (w : World) (hr0_1 : Kd.C (Kd.int .i64) w A0_1 l0_1.length l0_1) (hc0_1 : l0_1.length ≤ c0_1) (h : impl_Complex_pairs.f k a0_0 l0_1 = some r) :
  Calls Try.prog 67 #[.agg #[.int .i64 a0_0, .slice A0_1 l0_1.length c0_1]] w fun e w' => ∃ v0_ : Value, e = .returned (v0_) ∧ Kd.R k73 73 w' w.heap.size (fun _ => True) v0_ r ∧ Below w.heap.size w w' := by
 have hu28 := Try.underlying28
 have hu73 := Try.underlying73
 have HR0_1 := Aside0.mk hr0_1
 have HC0_1 := Aside0.mk hc0_1
 clear hr0_1 hc0_1
 have HB := Aside0.mk (Below.refl w.heap.size w)
 have H : (impl_Complex_pairs.l0 k ([] : List (S73)) l0_1 (l0_1.length : Int) 0 a0_0 l0_1) = some r := h
 clear h
 have H' := Aside0.mk H
 clear H
 go_enter Try.func67, Try.ntmps67
 go_wp2_with (first | ((with_reducible refine gate_dst (N := 1) rfl ?_); refine box_event ?hg (N := 1) ?hd (cs := #[.int .i64 a0_0, .slice A0_1 l0_1.length c0_1]) (t := 28) ?hr ?_; (case hd => rfl); (case hg => rfl); (case hr => first | (go_simp; done) | (go_simp; rfl)); intro gb112 hg w2 hbox hb; have BK112 := Aside0.mk (hbox); have GW112 := gH HB hg; have GE112 := gH HB hg; replace HB := sH HB hb; clear hb hbox hg; have hcz3_0 : w2.cell? ⟨gb112, 0, none⟩ = some (.int .i64 a0_0) := cB BK112 0; have hcz3_1 : w2.cell? ⟨gb112, 1, none⟩ = some (.slice A0_1 l0_1.length c0_1) := cB BK112 1; have hfz3_0 := zB BK112 0; have hfz3_1 := zB BK112 1))
 go_loopg [3, 12] k (fun kq v3 v12 w' => ∃ (x3_1 : List (S73)) (x12_1 : Int), v12 = .int .i64 x12_1 ∧ Aside0 (impl_Complex_pairs.l0 kq x3_1 l0_1 (l0_1.length : Int) x12_1 a0_0 l0_1 = some r) ∧ Aside0 (kq ≤ k) ∧ Aside0 (Kd.R k73 73 w' w.heap.size (fun _ => True) v3 x3_1) ∧ Aside0 (w'.heap[gb112]? = some (.cells #[.int .i64 a0_0, (.slice A0_1 l0_1.length c0_1)] 28 (0, 0))) ∧ Aside0 (Below w.heap.size w w'))
 case atStart => exact ⟨(([] : List (S73))), (0), (by first | rfl | (simp; done) | (simp [*]; done)), H', ⟨Nat.le_refl _⟩, ⟨by first | exact Kd.R_nil _ _ _ _ _ | exact Kd.N_nil _ _ _ _ _ | exact Kd.V_nil _ _ _ _ _ | exact Kd.Q_nil _ _ _ _ _ | exact Kd.S_nil _ _ _ _ _⟩, ⟨pB BK112⟩, ⟨pH HB⟩⟩
 case round =>
  clear H'
  try clear p2
  try clear hcz3_0
  try clear hcz3_1
  try clear hfz3_0
  try clear hfz3_1
  obtain ⟨x3_1, x12_1, rfl, HA, HK1, HO_3, BK112, HB⟩ := hrel
  cases gk with
  | zero => exact absurd HA.out (by simp [impl_Complex_pairs.l0])
  | succ k1 =>
   have H := HA.out
   clear HA
   simp only [impl_Complex_pairs.l0] at H
   by_cases c4 : x12_1 < (l0_1.length : Int)
   ·rw [if_pos c4] at H
    have c4b0 : decide (x12_1 < (l0_1.length : Int)) = true := decide_eq_true c4
    clear c4
    by_cases c5 : 0 ≤ x12_1
    ·rw [if_pos c5] at H
     have c5b0 : decide (0 ≤ x12_1) = true := decide_eq_true c5
     clear c5
     by_cases c6 : x12_1 < (l0_1.length : Int)
     ·rw [if_pos c6] at H
      have c6b0 : decide (x12_1 < (l0_1.length : Int)) = true := decide_eq_true c6
      clear c6
      have H' := Aside0.mk H
      clear H
      have p113 : 0 ≤ (x12_1 : Int) := of_decide_eq_true (by first | (with_reducible assumption) | assumption)
      have q113 : x12_1 < (l0_1.length : Int) := of_decide_eq_true (by first | (with_reducible assumption) | assumption)
      obtain ⟨ad113, e113, hx113_0⟩ := Kd.at_int HR0_1.out x12_1 p113 q113
      cases e113
      replace hx113_0 := cH HB hx113_0
      replace p113 := eq_true p113
      replace q113 := eq_true q113
      have hcz7_0 : wr.cell? ⟨gb112, 0, none⟩ = some (.int .i64 a0_0) := cB BK112 0
      have hcz7_1 : wr.cell? ⟨gb112, 1, none⟩ = some (.slice (some ad113) l0_1.length c0_1) := cB BK112 1
      have hfz7_0 := zB BK112 0
      have hfz7_1 := zB BK112 1
      go_wp2
      go_loopg [3, 19] k1 (fun kq v3 v19 w' => ∃ (x3_2 : List (S73)) (x19_2 : Int), v19 = .int .i64 x19_2 ∧ Aside0 (impl_Complex_pairs.l1 kq x3_2 (rd l0_1 x12_1) l0_1 (l0_1.length : Int) x12_1 l0_1 (l0_1.length : Int) x19_2 a0_0 l0_1 = some r) ∧ Aside0 (kq ≤ k1) ∧ Aside0 (Kd.R k73 73 w' w.heap.size (fun _ => True) v3 x3_2) ∧ Aside0 (w'.heap[gb112]? = some (.cells #[.int .i64 a0_0, (.slice (some ad113) l0_1.length c0_1)] 28 (0, 0))) ∧ Aside0 (Below w.heap.size w w'))
      case atStart => exact ⟨(x3_1), (0), (by first | rfl | (simp; done) | (simp [*]; done)), H', ⟨Nat.le_refl _⟩, ⟨by (with_reducible repeat (first | apply Kd.R_alloc | apply Kd.R_drewN | apply Kd.R_drew)); exact HO_3.out⟩, ⟨pB BK112⟩, ⟨pH HB⟩⟩
      case round =>
       clear H'
       try clear p1
       try clear q1
       try clear hx1
       try clear p2
       try clear c4
       try clear c4b0
       try clear c5
       try clear c5b0
       try clear c6
       try clear c6b0
       try clear hcz3_0
       try clear hcz3_1
       try clear hcz7_0
       try clear hcz7_1
       try clear hfz3_0
       try clear hfz3_1
       try clear hfz7_0
       try clear hfz7_1
       try clear hx113_0
       try clear p113
       try clear p2
       try clear q113
       obtain ⟨x3_2, x19_2, rfl, HA, HK2, HO_3, BK112, HB⟩ := hrel
       cases gk with
       | zero => exact absurd HA.out (by simp [impl_Complex_pairs.l1])
       | succ k2 =>
        have H := HA.out
        clear HA
        simp only [impl_Complex_pairs.l1] at H
        by_cases c8 : x19_2 < (l0_1.length : Int)
        ·rw [if_pos c8] at H
         have c8b0 : decide (x19_2 < (l0_1.length : Int)) = true := decide_eq_true c8
         clear c8
         by_cases c9 : 0 ≤ x19_2
         ·rw [if_pos c9] at H
          have c9b0 : decide (0 ≤ x19_2) = true := decide_eq_true c9
          clear c9
          by_cases c10 : x19_2 < (l0_1.length : Int)
          ·rw [if_pos c10] at H
           have c10b0 : decide (x19_2 < (l0_1.length : Int)) = true := decide_eq_true c10
           clear c10
           replace H := Option.bind_eq_some_iff.mp H
           obtain ⟨t116, A110, H⟩ := H
           try dsimp only at H
           have A11 := Aside0.mk A110
           clear A110
           by_cases c12 : t116 = true
           ·subst c12
            have H1 : (if x3_2.length < 8796093022208 then (impl_Complex_pairs.l1 k2 (x3_2 ++ [(⟨(rd l0_1 x12_1), rd l0_1 x19_2⟩ : S73)]) (rd l0_1 x12_1) l0_1 (l0_1.length : Int) x12_1 l0_1 (l0_1.length : Int) (wrap64 (x19_2 + 1)) a0_0 l0_1) else (none)) = some r := by rw [if_pos rfl] at H; exact H
            clear H
            have H := H1
            clear H1
            by_cases c13 : x3_2.length < 8796093022208
            ·rw [if_pos c13] at H
             have LMc13 := Aside0.mk c13
             clear c13
             obtain ⟨y117, hy117⟩ : ∃ y_ : List (S73), y_ = (x3_2 ++ [(⟨(rd l0_1 x12_1), rd l0_1 x19_2⟩ : S73)]) := ⟨_, rfl⟩
             replace H : (impl_Complex_pairs.l1 k2 y117 (rd l0_1 x12_1) l0_1 (l0_1.length : Int) x12_1 l0_1 (l0_1.length : Int) (wrap64 (x19_2 + 1)) a0_0 l0_1) = some r := by first | (rw [hy117]; with_reducible exact H) | (have H2_ := (Option.bind_some _ _).symm.trans H; rw [hy117]; with_reducible exact H2_) | (have H2_ := (Option.bind_some _ _).symm.trans H; with_reducible exact H2_) | with_reducible exact H | (rw [hy117]; exact H) | exact H
             have Ny117 := Aside0.mk hy117
             clear hy117
             have H' := Aside0.mk H
             clear H
             have p114 : 0 ≤ (x19_2 : Int) := of_decide_eq_true (by first | (with_reducible assumption) | assumption)
             have q114 : x19_2 < (l0_1.length : Int) := of_decide_eq_true (by first | (with_reducible assumption) | assumption)
             obtain ⟨ad114, e114, hx114_0⟩ := Kd.at_int HR0_1.out x19_2 p114 q114
             obtain rfl : ad113 = ad114 := (by injection e114)
             replace hx114_0 := cH HB hx114_0
             replace p114 := eq_true p114
             replace q114 := eq_true q114
             go_wp2_with (first | ((with_reducible refine gate_dst (N := 8) rfl ?_); refine box_event ?hg (N := 8) ?hd (cs := #[.int .i64 0, .int .i64 0]) (t := 73) ?hr ?_; (case hd => rfl); (case hg => rfl); (case hr => first | (go_simp; done) | (go_simp; rfl)); intro gb115 hg w14 hbox hb; replace HO_3 := Aside0.mk (Kd.R_below (Kd.R_elderB (pR HO_3) gb115 (Nat.le_of_eq hg.symm)) hb); have BK115 := Aside0.mk (hbox); have GW115 := gH HB hg; have GE115 := gH HB hg; replace HB := sH HB hb; have NB112_115 := nB BK112 hg; have NB115_112 := oB BK112 hg; replace BK112 := sB BK112 hb; clear hb hbox hg; (try have hnb15 := NB115_112.out); (try have hnc15 := NB112_115.out); have hcz16_0 : w14.cell? ⟨gb115, 0, none⟩ = some (.int .i64 0) := cB BK115 0; have hcz16_1 : w14.cell? ⟨gb115, 1, none⟩ = some (.int .i64 0) := cB BK115 1; have hfz16_0 := zB BK115 0; have hfz16_1 := zB BK115 1; have hcz17_0 : w14.cell? ⟨gb112, 0, none⟩ = some (.int .i64 a0_0) := cB BK112 0; have hcz17_1 : w14.cell? ⟨gb112, 1, none⟩ = some (.slice (some ad113) l0_1.length c0_1) := cB BK112 1; have hfz17_0 := zB BK112 0; have hfz17_1 := zB BK112 1) | ((with_reducible refine gate_callee (f := 114) rfl ?_); refine cl_ (some 28) Try.func114 #[.agg #[.int .i64 a0_0, .slice (some ad113) l0_1.length c0_1], .agg #[.int .i64 (rd l0_1 x12_1), .int .i64 (rd l0_1 x19_2)]] ?_; (with_reducible refine (impl_Complex_isPair.calls a0_0 _ _ l0_1 (rd l0_1 x12_1) (rd l0_1 x19_2) true _ ?side1 ?side2 A11.out).mono ?_); (case side1 => exact Kd.C_below HR0_1.out (pH HB)); (case side2 => exact HC0_1.out); rintro e w18 ⟨rfl, hb⟩; refine ⟨_, rfl, ?_⟩; have n0_ := Aside0.mk (Kd.R_below (by (with_reducible repeat (first | apply Kd.R_alloc | apply Kd.R_drewN | apply Kd.R_drew)); exact (Kd.R_mono (Kd.R_far (p := ⟨gb115, 1, none⟩) (Kd.R_far (p := ⟨gb115, 0, none⟩) (Kd.R_mono HO_3.out (fun k_ hk => (⟨hk, hk.2⟩ : _ ∧ k_ ≠ gb115))) (fun _ hk => hk.2) (.int .i64 (rd l0_1 x12_1))) (fun _ hk => hk.2) (.int .i64 (rd l0_1 x19_2))) (fun _ h_ => h_.1))) hb); have n1_ := Aside0.mk (blk_below (g := gb112) (o := .cells #[.int .i64 a0_0, .slice (some ad113) l0_1.length c0_1] 28 (0, 0)) (by (with_reducible repeat (first | refine blk_drewN ?_ _ | refine blk_drew ?_ | refine blk_alloc ?_ _)); refine blk_far ?_ NB112_115.out _; (with_reducible repeat (first | refine blk_drewN ?_ _ | refine blk_drew ?_ | refine blk_alloc ?_ _)); refine blk_far ?_ NB112_115.out _; (with_reducible repeat (first | refine blk_drewN ?_ _ | refine blk_drew ?_ | refine blk_alloc ?_ _)); exact BK112.out) hb); have n2_ := Aside0.mk (blk_below (g := gb115) (o := .cells #[.int .i64 (rd l0_1 x12_1), .int .i64 (rd l0_1 x19_2)] 73 (0, 0)) (by (with_reducible repeat (first | refine blk_drewN ?_ _ | refine blk_drew ?_ | refine blk_alloc ?_ _)); refine blk_put (cs := #[.int .i64 (rd l0_1 x12_1), .int .i64 0]) ?_ 1 _ rfl; (with_reducible repeat (first | refine blk_drewN ?_ _ | refine blk_drew ?_ | refine blk_alloc ?_ _)); refine blk_put (cs := #[.int .i64 0, .int .i64 0]) ?_ 0 _ rfl; (with_reducible repeat (first | refine blk_drewN ?_ _ | refine blk_drew ?_ | refine blk_alloc ?_ _)); exact BK115.out) hb); have n3_ := sH HB hb; clear HO_3; clear BK112; clear BK115; clear HB; have HO_3 := n0_; have BK112 := n1_; have BK115 := n2_; have HB := n3_; clear n0_ n1_ n2_ n3_; (try clear hb); (try clear hi); have hcz19_0 : w18.cell? ⟨gb115, 0, none⟩ = some (.int .i64 (rd l0_1 x12_1)) := cB BK115 0; have hcz19_1 : w18.cell? ⟨gb115, 1, none⟩ = some (.int .i64 (rd l0_1 x19_2)) := cB BK115 1; have hfz19_0 := zB BK115 0; have hfz19_1 := zB BK115 1) | ((with_reducible refine gate_builtin (b := .append) (xs := #[.tmp 29, .tmp 31]) rfl ?_); at_builtin; refine Kd.R_append k73 (w0 := w) w.heap.size rfl (.tmp 29) (.tmp 31) 38 73 (.agg #[(.int .i64 0), (.int .i64 0)]) 16 rfl Try.underlying38 info73 rfl (by decide) (by omega) u3 x3_2 (⟨(rd l0_1 x12_1), rd l0_1 x19_2⟩ : S73) [.int .i64 (rd l0_1 x12_1), .int .i64 (rd l0_1 x19_2)] (fun k_ => k_ ≠ gb115) (fun _ => False) rfl rfl ?aP (fun _ hk => hk.elim) ?aF ?aO ?aB ?aS ?aL ?_; (case aP => exact k73_mkM _ _ _ (⟨(rd l0_1 x12_1), rd l0_1 x19_2⟩ : S73)); (case aB => exact (pH HB)); (case aF => exact (fun k_ hk => Kd.freshB (g := gb115) (o := .cells #[.int .i64 (rd l0_1 x12_1), .int .i64 (rd l0_1 x19_2)] 73 (0, 0)) (pB BK115) k_ hk)); (case aO => exact (by (with_reducible repeat (first | apply Kd.R_alloc | apply Kd.R_drewN | apply Kd.R_drew)); exact Kd.R_mono HO_3.out (fun _ hk => hk.2))); (case aS => exact (below_size (pH HB))); (case aL => have := LMc13.out; omega); intro v118 w20 ho hb hg hat; rw [← Ny117.out] at ho; replace BK112 := Aside0.mk (blk_grown (g := gb112) (o := .cells #[.int .i64 a0_0, .slice (some ad113) l0_1.length c0_1] 28 (0, 0)) (pB BK112) hg (Kd.R_ne HO_3.out BK112.out (by decide))); replace BK115 := Aside0.mk (blk_grown (g := gb115) (o := .cells #[.int .i64 (rd l0_1 x12_1), .int .i64 (rd l0_1 x19_2)] 73 (0, 0)) (pB BK115) hg (Kd.R_away HO_3.out (fun _ hk => hk.2))); replace HB := Aside0.mk (hb); have HO119 := Aside0.mk (ho); clear HO_3; clear ho hb hg hat))
             go_roundg k2
             case measure => have := HK1.out; have := HK2.out; omega
             case rel => exact ⟨(y117), (wrap64 (x19_2 + 1)), (by first | rfl | (simp; done) | (simp [*]; done)), H', ⟨by have := HK1.out; have := HK2.out; omega⟩, ⟨by (with_reducible repeat (first | apply Kd.R_alloc | apply Kd.R_drewN | apply Kd.R_drew)); exact Kd.R_mono HO119.out (fun _ hk => trivial)⟩, ⟨pB BK112⟩, ⟨pH HB⟩⟩
            ·rw [if_neg c13] at H
             exact absurd H (by simp)
           ·replace c12 := Bool.eq_false_iff.mpr c12
            subst c12
            have H1 : (impl_Complex_pairs.l1 k2 x3_2 (rd l0_1 x12_1) l0_1 (l0_1.length : Int) x12_1 l0_1 (l0_1.length : Int) (wrap64 (x19_2 + 1)) a0_0 l0_1) = some r := by rw [if_neg (show ¬ (false = true) by decide)] at H; exact H
            clear H
            have H := H1
            clear H1
            have H' := Aside0.mk H
            clear H
            have p114 : 0 ≤ (x19_2 : Int) := of_decide_eq_true (by first | (with_reducible assumption) | assumption)
            have q114 : x19_2 < (l0_1.length : Int) := of_decide_eq_true (by first | (with_reducible assumption) | assumption)
            obtain ⟨ad114, e114, hx114_0⟩ := Kd.at_int HR0_1.out x19_2 p114 q114
            obtain rfl : ad113 = ad114 := (by injection e114)
            replace hx114_0 := cH HB hx114_0
            replace p114 := eq_true p114
            replace q114 := eq_true q114
            go_wp2_with (first | ((with_reducible refine gate_dst (N := 8) rfl ?_); refine box_event ?hg (N := 8) ?hd (cs := #[.int .i64 0, .int .i64 0]) (t := 73) ?hr ?_; (case hd => rfl); (case hg => rfl); (case hr => first | (go_simp; done) | (go_simp; rfl)); intro gb115 hg w21 hbox hb; replace HO_3 := Aside0.mk (Kd.R_below (Kd.R_elderB (pR HO_3) gb115 (Nat.le_of_eq hg.symm)) hb); have BK115 := Aside0.mk (hbox); have GW115 := gH HB hg; have GE115 := gH HB hg; replace HB := sH HB hb; have NB112_115 := nB BK112 hg; have NB115_112 := oB BK112 hg; replace BK112 := sB BK112 hb; clear hb hbox hg; (try have hnb22 := NB115_112.out); (try have hnc22 := NB112_115.out); have hcz23_0 : w21.cell? ⟨gb115, 0, none⟩ = some (.int .i64 0) := cB BK115 0; have hcz23_1 : w21.cell? ⟨gb115, 1, none⟩ = some (.int .i64 0) := cB BK115 1; have hfz23_0 := zB BK115 0; have hfz23_1 := zB BK115 1; have hcz24_0 : w21.cell? ⟨gb112, 0, none⟩ = some (.int .i64 a0_0) := cB BK112 0; have hcz24_1 : w21.cell? ⟨gb112, 1, none⟩ = some (.slice (some ad113) l0_1.length c0_1) := cB BK112 1; have hfz24_0 := zB BK112 0; have hfz24_1 := zB BK112 1) | ((with_reducible refine gate_callee (f := 114) rfl ?_); refine cl_ (some 28) Try.func114 #[.agg #[.int .i64 a0_0, .slice (some ad113) l0_1.length c0_1], .agg #[.int .i64 (rd l0_1 x12_1), .int .i64 (rd l0_1 x19_2)]] ?_; (with_reducible refine (impl_Complex_isPair.calls a0_0 _ _ l0_1 (rd l0_1 x12_1) (rd l0_1 x19_2) false _ ?side1 ?side2 A11.out).mono ?_); (case side1 => exact Kd.C_below HR0_1.out (pH HB)); (case side2 => exact HC0_1.out); rintro e w25 ⟨rfl, hb⟩; refine ⟨_, rfl, ?_⟩; have n0_ := Aside0.mk (Kd.R_below (by (with_reducible repeat (first | apply Kd.R_alloc | apply Kd.R_drewN | apply Kd.R_drew)); exact (Kd.R_mono (Kd.R_far (p := ⟨gb115, 1, none⟩) (Kd.R_far (p := ⟨gb115, 0, none⟩) (Kd.R_mono HO_3.out (fun k_ hk => (⟨hk, hk.2⟩ : _ ∧ k_ ≠ gb115))) (fun _ hk => hk.2) (.int .i64 (rd l0_1 x12_1))) (fun _ hk => hk.2) (.int .i64 (rd l0_1 x19_2))) (fun _ h_ => h_.1))) hb); have n1_ := Aside0.mk (blk_below (g := gb112) (o := .cells #[.int .i64 a0_0, .slice (some ad113) l0_1.length c0_1] 28 (0, 0)) (by (with_reducible repeat (first | refine blk_drewN ?_ _ | refine blk_drew ?_ | refine blk_alloc ?_ _)); refine blk_far ?_ NB112_115.out _; (with_reducible repeat (first | refine blk_drewN ?_ _ | refine blk_drew ?_ | refine blk_alloc ?_ _)); refine blk_far ?_ NB112_115.out _; (with_reducible repeat (first | refine blk_drewN ?_ _ | refine blk_drew ?_ | refine blk_alloc ?_ _)); exact BK112.out) hb); have n2_ := Aside0.mk (blk_below (g := gb115) (o := .cells #[.int .i64 (rd l0_1 x12_1), .int .i64 (rd l0_1 x19_2)] 73 (0, 0)) (by (with_reducible repeat (first | refine blk_drewN ?_ _ | refine blk_drew ?_ | refine blk_alloc ?_ _)); refine blk_put (cs := #[.int .i64 (rd l0_1 x12_1), .int .i64 0]) ?_ 1 _ rfl; (with_reducible repeat (first | refine blk_drewN ?_ _ | refine blk_drew ?_ | refine blk_alloc ?_ _)); refine blk_put (cs := #[.int .i64 0, .int .i64 0]) ?_ 0 _ rfl; (with_reducible repeat (first | refine blk_drewN ?_ _ | refine blk_drew ?_ | refine blk_alloc ?_ _)); exact BK115.out) hb); have n3_ := sH HB hb; clear HO_3; clear BK112; clear BK115; clear HB; have HO_3 := n0_; have BK112 := n1_; have BK115 := n2_; have HB := n3_; clear n0_ n1_ n2_ n3_; (try clear hb); (try clear hi)))
            go_roundg k2
            case measure => have := HK1.out; have := HK2.out; omega
            case rel => exact ⟨(x3_2), (wrap64 (x19_2 + 1)), (by first | rfl | (simp; done) | (simp [*]; done)), H', ⟨by have := HK1.out; have := HK2.out; omega⟩, ⟨by (with_reducible repeat (first | apply Kd.R_alloc | apply Kd.R_drewN | apply Kd.R_drew)); exact Kd.R_mono HO_3.out (fun _ hk => trivial)⟩, ⟨pB BK112⟩, ⟨pH HB⟩⟩
          ·rw [if_neg c10] at H
           exact absurd H (by simp)
         ·rw [if_neg c9] at H
          exact absurd H (by simp)
        ·rw [if_neg c8] at H
         have c8b0 : decide (x19_2 < (l0_1.length : Int)) = false := decide_eq_false c8
         clear c8
         have H' := Aside0.mk H
         clear H
         go_wp2
         go_roundg k2
         case measure => have := HK1.out; have := HK2.out; omega
         case rel => exact ⟨(x3_2), (wrap64 (x12_1 + 1)), (by first | rfl | (simp; done) | (simp [*]; done)), H', ⟨by have := HK1.out; have := HK2.out; omega⟩, ⟨by (with_reducible repeat (first | apply Kd.R_alloc | apply Kd.R_drewN | apply Kd.R_drew)); exact HO_3.out⟩, ⟨pB BK112⟩, ⟨pH HB⟩⟩
     ·rw [if_neg c6] at H
      exact absurd H (by simp)
    ·rw [if_neg c5] at H
     exact absurd H (by simp)
   ·rw [if_neg c4] at H
    have c4b0 : decide (x12_1 < (l0_1.length : Int)) = false := decide_eq_false c4
    clear c4
    obtain rfl := Option.some.inj H
    go_wp2
    go_ret
    exact ⟨_, by first | rfl | (simp [errW_none, errW_some] <;> rfl) | (simp [*, errW_none, errW_some] <;> rfl) | (exfalso; simp_all), by (with_reducible repeat (first | apply Kd.R_alloc | apply Kd.R_drewN | apply Kd.R_drew)); exact HO_3.out, pH HB⟩
def impl_FillPairing.l0 : Nat → List (S73) → List (S73) → Int → Int → Int → List Int → Option ((List (S73)) × Int)
 | 0, _, _, _, _, _, _ => none
 | k + 1, x7, x21, x22, x23, x121000, x121001 => if x23 < x22 then (if 0 ≤ x23 then (if x23 < (x21.length : Int) then ((impl_Complex_with.f x121000 x121001 x7 ((rd_T73 x21 x23).f0) ((rd_T73 x21 x23).f1)).bind fun bt130 => (if bt130.2 = true then (impl_FillPairing.l0 k bt130.1 x21 x22 (wrap64 (x23 + 1)) x121000 x121001) else (impl_FillPairing.l0 k x7 x21 x22 (wrap64 (x23 + 1)) x121000 x121001))) else (none)) else (none)) else (some (x7, 0))
def impl_FillPairing.f (k : Nat) (a0_0 : Int) (l0_1 : List Int) (l1 : List (S73)) : Option ((List (S73)) × Int) := (impl_acyclicCode.f a0_0 l0_1 l1 true).bind fun t121 => (if t121 = 0 then ((slices_Clone_impl_Pair_impl_Pair.f l1).bind fun t122 => ((impl_Complex_pairs.f k a0_0 l0_1).bind fun t125 => (impl_FillPairing.l0 k t122 t125 (t125.length : Int) 0 a0_0 l0_1))) else (some (([] : List (S73)), t121)))
theorem impl_FillPairing.mono_l : ∀ k, (∀ y0 y1 y2 y3 y4 y5, LeO (impl_FillPairing.l0 k y0 y1 y2 y3 y4 y5) (impl_FillPairing.l0 (k + 1) y0 y1 y2 y3 y4 y5))
 | 0 => fun _ _ _ _ _ _ r h => by simp [impl_FillPairing.l0] at h
 | k + 1 => by
  have ih0 := impl_FillPairing.mono_l k
  ·intro y0 y1 y2 y3 y4 y5
   unfold impl_FillPairing.l0
   repeat' first
   | (with_reducible exact ih0 _ _ _ _ _ _)
   | (with_reducible exact impl_Complex_pairs.mono _ _ _)
   | (with_reducible exact LeO.refl _)
   | (with_reducible exact LeO.none _)
   | (with_reducible refine LeO.ite ?_ ?_)
   | (with_reducible refine LeO.bind ?_ (fun _ => ?_))
   | exact ih0 _ _ _ _ _ _
   | exact impl_Complex_pairs.mono _ _ _
   | exact LeO.none _
   | refine LeO.ite ?_ ?_
   | refine LeO.bind ?_ (fun _ => ?_)
theorem impl_FillPairing.mono : ∀ a0 a1 a2 k, LeO (impl_FillPairing.f k a0 a1 a2) (impl_FillPairing.f (k + 1) a0 a1 a2) := by
 intro a0 a1 a2 k
 have ih0 := impl_FillPairing.mono_l k
 unfold impl_FillPairing.f
 repeat' first
   | (with_reducible exact ih0 _ _ _ _ _ _)
   | (with_reducible exact impl_Complex_pairs.mono _ _ _)
   | (with_reducible exact LeO.refl _)
   | (with_reducible exact LeO.none _)
   | (with_reducible refine LeO.ite ?_ ?_)
   | (with_reducible refine LeO.bind ?_ (fun _ => ?_))
   | exact ih0 _ _ _ _ _ _
   | exact impl_Complex_pairs.mono _ _ _
   | exact LeO.none _
   | refine LeO.ite ?_ ?_
   | refine LeO.bind ?_ (fun _ => ?_)
set_option maxHeartbeats 8000000 in
set_option maxRecDepth 100000 in
theorem impl_FillPairing.calls (k : Nat) (a0_0 : Int) (A0_1 : Option Addr) (c0_1 : Nat) (l0_1 : List Int) (A1 : Option Addr) (c1 : Nat) (l1 : List (S73)) (r1 : List (S73)) (r2 : Int) (w : World) (hr0_1 : Kd.C (Kd.int .i64) w A0_1 l0_1.length l0_1) (hc0_1 : l0_1.length ≤ c0_1) (hr1 : Kd.C k73 w A1 l1.length l1) (hc1 : l1.length ≤ c1) (h : impl_FillPairing.f k a0_0 l0_1 l1 = some (r1, r2)) :
  Calls Try.prog 26 #[.agg #[.int .i64 a0_0, .slice A0_1 l0_1.length c0_1], .slice A1 l1.length c1] w fun e w' => ∃ v0_ : Value, e = .returned (.tuple #[v0_, .int .i64 r2]) ∧ Kd.R k73 73 w' w.heap.size (fun _ => True) v0_ r1 ∧ Below w.heap.size w w' := by
 have hu28 := Try.underlying28
 have hu73 := Try.underlying73
 have HR0_1 := Aside0.mk hr0_1
 have HC0_1 := Aside0.mk hc0_1
 clear hr0_1 hc0_1
 have HR1 := Aside0.mk hr1
 have HC1 := Aside0.mk hc1
 clear hr1 hc1
 have HB := Aside0.mk (Below.refl w.heap.size w)
 have H : ((impl_acyclicCode.f a0_0 l0_1 l1 true).bind fun t121 => (if t121 = 0 then ((slices_Clone_impl_Pair_impl_Pair.f l1).bind fun t122 => ((impl_Complex_pairs.f k a0_0 l0_1).bind fun t125 => (impl_FillPairing.l0 k t122 t125 (t125.length : Int) 0 a0_0 l0_1))) else (some (([] : List (S73)), t121)))) = some (r1, r2) := h
 clear h
 replace H := Option.bind_eq_some_iff.mp H
 obtain ⟨t121, A30, H⟩ := H
 try dsimp only at H
 have A3 := Aside0.mk A30
 clear A30
 by_cases c4 : t121 = 0
 ·rw [if_pos c4] at H
  have c4b0 : (t121 == 0) = true := beq_iff_eq.mpr c4
  have c4b1 : (t121 != 0) = false := bne_eq_false_iff_eq.mpr c4
  clear c4
  replace H := Option.bind_eq_some_iff.mp H
  obtain ⟨t122, A50, H⟩ := H
  try dsimp only at H
  have A5 := Aside0.mk A50
  clear A50
  replace H := Option.bind_eq_some_iff.mp H
  obtain ⟨t125, A60, H⟩ := H
  try dsimp only at H
  have A6 := Aside0.mk A60
  clear A60
  have H' := Aside0.mk H
  clear H
  go_enter Try.func26, Try.ntmps26
  go_wp2_with (first | ((with_reducible refine gate_dst (N := 2) rfl ?_); refine box_event ?hg (N := 2) ?hd (cs := #[.int .i64 a0_0, .slice A0_1 l0_1.length c0_1]) (t := 28) ?hr ?_; (case hd => rfl); (case hg => rfl); (case hr => first | (go_simp; done) | (go_simp; rfl)); intro gb120 hg w7 hbox hb; have BK120 := Aside0.mk (hbox); have GW120 := gH HB hg; have GE120 := gH HB hg; replace HB := sH HB hb; clear hb hbox hg; have hcz8_0 : w7.cell? ⟨gb120, 0, none⟩ = some (.int .i64 a0_0) := cB BK120 0; have hcz8_1 : w7.cell? ⟨gb120, 1, none⟩ = some (.slice A0_1 l0_1.length c0_1) := cB BK120 1; have hfz8_0 := zB BK120 0; have hfz8_1 := zB BK120 1) | ((with_reducible refine gate_callee (f := 65) rfl ?_); refine cl_ (some 14) Try.func65 #[.agg #[.int .i64 a0_0, .slice A0_1 l0_1.length c0_1], .slice A1 l1.length c1, .bool true] ?_; (with_reducible refine (impl_acyclicCode.calls a0_0 _ _ l0_1 _ _ l1 true t121 _ ?side1 ?side2 ?side3 ?side4 A3.out).mono ?_); (case side1 => exact pC ((Kd.C_below HR0_1.out HB.out))); (case side2 => exact HC0_1.out); (case side3 => exact pC ((Kd.C_below HR1.out HB.out))); (case side4 => exact HC1.out); rintro e w9 ⟨rfl, hb⟩; refine ⟨_, rfl, ?_⟩; replace BK120 := sB BK120 hb; replace HB := sH HB hb; (try clear hb); (try clear hi)) | ((with_reducible refine gate_callee (f := 66) rfl ?_); refine cl_ (some 19) Try.func66 #[.slice A1 l1.length c1] ?_; (with_reducible refine (slices_Clone_impl_Pair_impl_Pair.calls _ _ l1 t122 _ ?side1 ?side2 A5.out).mono ?_); (case side1 => exact pC ((Kd.C_below HR1.out HB.out))); (case side2 => exact HC1.out); rintro e w10 ⟨v123, rfl, ho0, hb⟩; refine ⟨_, rfl, ?_⟩; have HO124 := Aside0.mk (Kd.R_lower ho0 (below_size (pH HB))); replace BK120 := sB BK120 hb; replace HB := sH HB hb; (try clear hb); (try clear hi); (try clear ho0); have hcz11_0 : w10.cell? ⟨gb120, 0, none⟩ = some (.int .i64 a0_0) := cB BK120 0; have hcz11_1 : w10.cell? ⟨gb120, 1, none⟩ = some (.slice A0_1 l0_1.length c0_1) := cB BK120 1; have hfz11_0 := zB BK120 0; have hfz11_1 := zB BK120 1) | ((with_reducible refine gate_callee (f := 67) rfl ?_); refine cl_ (some 21) Try.func67 #[.agg #[.int .i64 a0_0, .slice A0_1 l0_1.length c0_1]] ?_; (with_reducible refine (impl_Complex_pairs.calls k a0_0 _ _ l0_1 t125 _ ?side1 ?side2 A6.out).mono ?_); (case side1 => exact pC ((Kd.C_below HR0_1.out HB.out))); (case side2 => exact HC0_1.out); rintro e w12 ⟨v126, rfl, ho0, hb⟩; refine ⟨_, rfl, ?_⟩; have HO127 := Aside0.mk (Kd.R_lower (Kd.R_new' ho0 (Kd.R_lt (pR HO124))) (below_size (pH HB))); replace HO124 := Aside0.mk (Kd.R_elder' (pR HO124) (Kd.R_base ho0) hb); replace BK120 := sB BK120 hb; replace HB := sH HB hb; (try clear hb); (try clear hi); (try clear ho0); obtain ⟨Ao13, co13, eo13⟩ := Kd.R_slice HO127.out; subst eo13))
  go_loopg [7, 23] k (fun kq v7 v23 w' => ∃ (x7_1 : List (S73)) (x23_1 : Int), v23 = .int .i64 x23_1 ∧ Aside0 (impl_FillPairing.l0 kq x7_1 t125 (t125.length : Int) x23_1 a0_0 l0_1 = some (r1, r2)) ∧ Aside0 (kq ≤ k) ∧ Aside0 (Kd.R k73 73 w' w.heap.size (fun k_ => some k_ ≠ ((.slice Ao13 t125.length co13) : Value).ownBlock) v7 x7_1) ∧ Aside0 (Kd.R k73 73 w' w.heap.size (fun k_ => some k_ ≠ (v7 : Value).ownBlock) (.slice Ao13 t125.length co13) t125) ∧ Aside0 (w'.heap[gb120]? = some (.cells #[.int .i64 a0_0, (.slice A0_1 l0_1.length c0_1)] 28 (0, 0))) ∧ Aside0 (Below w.heap.size w w'))
  case atStart => exact ⟨(t122), (0), (by first | rfl | (simp; done) | (simp [*]; done)), H', ⟨Nat.le_refl _⟩, ⟨by (with_reducible repeat (first | apply Kd.R_alloc | apply Kd.R_drewN | apply Kd.R_drew)); exact Kd.R_mono HO124.out (fun _ hk => hk.2)⟩, ⟨by (with_reducible repeat (first | apply Kd.R_alloc | apply Kd.R_drewN | apply Kd.R_drew)); exact Kd.R_mono HO127.out (fun _ hk => hk.2)⟩, ⟨pB BK120⟩, ⟨pH HB⟩⟩
  case round =>
   clear H'
   try clear c1
   try clear c2
   try clear p2
   try clear c4
   try clear c4b0
   try clear c4b1
   try clear c6
   try clear hcz11_0
   try clear hcz11_1
   try clear hcz8_0
   try clear hcz8_1
   try clear hfz11_0
   try clear hfz11_1
   try clear hfz8_0
   try clear hfz8_1
   obtain ⟨x7_1, x23_1, rfl, HA, HK1, HO_7, HO_21, BK120, HB⟩ := hrel
   cases gk with
   | zero => exact absurd HA.out (by simp [impl_FillPairing.l0])
   | succ k1 =>
    have H := HA.out
    clear HA
    simp only [impl_FillPairing.l0] at H
    by_cases c14 : x23_1 < (t125.length : Int)
    ·rw [if_pos c14] at H
     have c14b0 : decide (x23_1 < (t125.length : Int)) = true := decide_eq_true c14
     clear c14
     by_cases c15 : 0 ≤ x23_1
     ·rw [if_pos c15] at H
      have c15b0 : decide (0 ≤ x23_1) = true := decide_eq_true c15
      clear c15
      by_cases c16 : x23_1 < (t125.length : Int)
      ·rw [if_pos c16] at H
       have c16b0 : decide (x23_1 < (t125.length : Int)) = true := decide_eq_true c16
       clear c16
       replace H := Option.bind_eq_some_iff.mp H
       obtain ⟨⟨t130, t133⟩, A170, H⟩ := H
       try dsimp only at H
       have A17 := Aside0.mk A170
       clear A170
       by_cases c18 : t133 = true
       ·subst c18
        have H1 : (impl_FillPairing.l0 k1 t130 t125 (t125.length : Int) (wrap64 (x23_1 + 1)) a0_0 l0_1) = some (r1, r2) := by rw [if_pos rfl] at H; exact H
        clear H
        have H := H1
        clear H1
        have H' := Aside0.mk H
        clear H
        have p128 : 0 ≤ (x23_1 : Int) := of_decide_eq_true (by first | (with_reducible assumption) | assumption)
        have q128 : x23_1 < (t125.length : Int) := of_decide_eq_true (by first | (with_reducible assumption) | assumption)
        obtain ⟨ad128, e128, hx128_0, hx128_1⟩ := at_T73 (Kd.R_reads' HO_21.out).2.2 x23_1 p128 q128
        cases e128
        replace p128 := eq_true p128
        replace q128 := eq_true q128
        go_wp2_with (first | ((with_reducible refine gate_dst (N := 9) rfl ?_); refine box_event ?hg (N := 9) ?hd (cs := #[.int .i64 0, .int .i64 0]) (t := 73) ?hr ?_; (case hd => rfl); (case hg => rfl); (case hr => first | (go_simp; done) | (go_simp; rfl)); intro gb129 hg w19 hbox hb; replace HO_7 := Aside0.mk (Kd.R_below (Kd.R_elderB (pR HO_7) gb129 (Nat.le_of_eq hg.symm)) hb); replace HO_21 := Aside0.mk (Kd.R_below (Kd.R_elderB (pR HO_21) gb129 (Nat.le_of_eq hg.symm)) hb); have BK129 := Aside0.mk (hbox); have GW129 := gH HB hg; have GE129 := gH HB hg; replace HB := sH HB hb; have NB120_129 := nB BK120 hg; have NB129_120 := oB BK120 hg; replace BK120 := sB BK120 hb; clear hb hbox hg; (try have hnb20 := NB129_120.out); (try have hnc20 := NB120_129.out); have hcz21_0 : w19.cell? ⟨gb129, 0, none⟩ = some (.int .i64 0) := cB BK129 0; have hcz21_1 : w19.cell? ⟨gb129, 1, none⟩ = some (.int .i64 0) := cB BK129 1; have hfz21_0 := zB BK129 0; have hfz21_1 := zB BK129 1; have hcz22_0 : w19.cell? ⟨gb120, 0, none⟩ = some (.int .i64 a0_0) := cB BK120 0; have hcz22_1 : w19.cell? ⟨gb120, 1, none⟩ = some (.slice A0_1 l0_1.length c0_1) := cB BK120 1; have hfz22_0 := zB BK120 0; have hfz22_1 := zB BK120 1; obtain ⟨Ao23, co23, eo23⟩ := Kd.R_slice HO_7.out; subst eo23) | ((with_reducible refine gate_callee (f := 68) rfl ?_); refine cl_ (some 31) Try.func68 #[.agg #[.int .i64 a0_0, .slice A0_1 l0_1.length c0_1], .slice Ao23 x7_1.length co23, .agg #[.int .i64 ((rd_T73 t125 x23_1).f0), .int .i64 ((rd_T73 t125 x23_1).f1)]] ?_; (with_reducible refine (impl_Complex_with.calls a0_0 _ _ l0_1 _ _ x7_1 ((rd_T73 t125 x23_1).f0) ((rd_T73 t125 x23_1).f1) t130 true _ ?side1 ?side2 ?side3 ?side4 A17.out).mono ?_); (case side1 => exact Kd.C_below HR0_1.out (pH HB)); (case side2 => exact HC0_1.out); (case side3 => refine (Kd.R_reads' (e := 73) (base := w.heap.size) (ok := fun k_ => (some k_ ≠ (.slice (some ad128) t125.length co13 : Value).ownBlock ∧ k_ ≠ gb129)) (n := x7_1.length) (c := co23) ?_).2.2; exact (by (with_reducible repeat (first | apply Kd.R_alloc | apply Kd.R_drewN | apply Kd.R_drew)); exact (Kd.R_mono (Kd.R_far (p := ⟨gb129, 1, none⟩) (Kd.R_far (p := ⟨gb129, 0, none⟩) (Kd.R_mono HO_7.out (fun k_ hk => (⟨hk, hk.2⟩ : _ ∧ k_ ≠ gb129))) (fun _ hk => hk.2) (.int .i64 ((rd_T73 t125 x23_1).f0))) (fun _ hk => hk.2) (.int .i64 ((rd_T73 t125 x23_1).f1))) (fun _ h_ => h_.1)))); (case side4 => exact (Kd.R_reads' HO_7.out).2.1); rintro e w24 ⟨v131, rfl, ho0, hb⟩; refine ⟨_, rfl, ?_⟩; have n0_ := Aside0.mk (Kd.R_elder' (by (with_reducible repeat (first | apply Kd.R_alloc | apply Kd.R_drewN | apply Kd.R_drew)); exact (Kd.R_mono (Kd.R_far (p := ⟨gb129, 1, none⟩) (Kd.R_far (p := ⟨gb129, 0, none⟩) (Kd.R_mono HO_7.out (fun k_ hk => (⟨hk, hk.2⟩ : _ ∧ k_ ≠ gb129))) (fun _ hk => hk.2) (.int .i64 ((rd_T73 t125 x23_1).f0))) (fun _ hk => hk.2) (.int .i64 ((rd_T73 t125 x23_1).f1))) (fun _ h_ => h_.1))) (Kd.R_base ho0) hb); have n1_ := Aside0.mk (Kd.R_elder' (by (with_reducible repeat (first | apply Kd.R_alloc | apply Kd.R_drewN | apply Kd.R_drew)); exact (Kd.R_mono (Kd.R_far (p := ⟨gb129, 1, none⟩) (Kd.R_far (p := ⟨gb129, 0, none⟩) (Kd.R_mono HO_21.out (fun k_ hk => (⟨hk, hk.2⟩ : _ ∧ k_ ≠ gb129))) (fun _ hk => hk.2) (.int .i64 ((rd_T73 t125 x23_1).f0))) (fun _ hk => hk.2) (.int .i64 ((rd_T73 t125 x23_1).f1))) (fun _ h_ => h_.1))) (Kd.R_base ho0) hb); have n2_ := Aside0.mk (Kd.R_lower (Kd.R_newB (Kd.R_new' (Kd.R_new' ho0 (Kd.R_lt (by (with_reducible repeat (first | apply Kd.R_alloc | apply Kd.R_drewN | apply Kd.R_drew)); exact (Kd.R_mono (Kd.R_far (p := ⟨gb129, 1, none⟩) (Kd.R_far (p := ⟨gb129, 0, none⟩) (Kd.R_mono HO_7.out (fun k_ hk => (⟨hk, hk.2⟩ : _ ∧ k_ ≠ gb129))) (fun _ hk => hk.2) (.int .i64 ((rd_T73 t125 x23_1).f0))) (fun _ hk => hk.2) (.int .i64 ((rd_T73 t125 x23_1).f1))) (fun _ h_ => h_.1))))) (Kd.R_lt (by (with_reducible repeat (first | apply Kd.R_alloc | apply Kd.R_drewN | apply Kd.R_drew)); exact (Kd.R_mono (Kd.R_far (p := ⟨gb129, 1, none⟩) (Kd.R_far (p := ⟨gb129, 0, none⟩) (Kd.R_mono HO_21.out (fun k_ hk => (⟨hk, hk.2⟩ : _ ∧ k_ ≠ gb129))) (fun _ hk => hk.2) (.int .i64 ((rd_T73 t125 x23_1).f0))) (fun _ hk => hk.2) (.int .i64 ((rd_T73 t125 x23_1).f1))) (fun _ h_ => h_.1))))) (g := gb129) (o := .cells #[.int .i64 ((rd_T73 t125 x23_1).f0), .int .i64 ((rd_T73 t125 x23_1).f1)] 73 (0, 0)) (by (with_reducible repeat (first | refine blk_drewN ?_ _ | refine blk_drew ?_ | refine blk_alloc ?_ _)); refine blk_put (cs := #[.int .i64 ((rd_T73 t125 x23_1).f0), .int .i64 0]) ?_ 1 _ rfl; (with_reducible repeat (first | refine blk_drewN ?_ _ | refine blk_drew ?_ | refine blk_alloc ?_ _)); refine blk_put (cs := #[.int .i64 0, .int .i64 0]) ?_ 0 _ rfl; (with_reducible repeat (first | refine blk_drewN ?_ _ | refine blk_drew ?_ | refine blk_alloc ?_ _)); exact BK129.out)) (below_size (pH HB))); have n3_ := Aside0.mk (blk_below (g := gb120) (o := .cells #[.int .i64 a0_0, .slice A0_1 l0_1.length c0_1] 28 (0, 0)) (by (with_reducible repeat (first | refine blk_drewN ?_ _ | refine blk_drew ?_ | refine blk_alloc ?_ _)); refine blk_far ?_ NB120_129.out _; (with_reducible repeat (first | refine blk_drewN ?_ _ | refine blk_drew ?_ | refine blk_alloc ?_ _)); refine blk_far ?_ NB120_129.out _; (with_reducible repeat (first | refine blk_drewN ?_ _ | refine blk_drew ?_ | refine blk_alloc ?_ _)); exact BK120.out) hb); have n4_ := Aside0.mk (blk_below (g := gb129) (o := .cells #[.int .i64 ((rd_T73 t125 x23_1).f0), .int .i64 ((rd_T73 t125 x23_1).f1)] 73 (0, 0)) (by (with_reducible repeat (first | refine blk_drewN ?_ _ | refine blk_drew ?_ | refine blk_alloc ?_ _)); refine blk_put (cs := #[.int .i64 ((rd_T73 t125 x23_1).f0), .int .i64 0]) ?_ 1 _ rfl; (with_reducible repeat (first | refine blk_drewN ?_ _ | refine blk_drew ?_ | refine blk_alloc ?_ _)); refine blk_put (cs := #[.int .i64 0, .int .i64 0]) ?_ 0 _ rfl; (with_reducible repeat (first | refine blk_drewN ?_ _ | refine blk_drew ?_ | refine blk_alloc ?_ _)); exact BK129.out) hb); have n5_ := sH HB hb; clear HO_7; clear HO_21; clear BK120; clear BK129; clear HB; have HO_7 := n0_; have HO_21 := n1_; have HO132 := n2_; have BK120 := n3_; have BK129 := n4_; have HB := n5_; clear n0_ n1_ n2_ n3_ n4_ n5_; (try clear hb); (try clear hi); (try clear ho0)))
        go_roundg k1
        case measure => have := HK1.out; omega
        case rel => exact ⟨(t130), (wrap64 (x23_1 + 1)), (by first | rfl | (simp; done) | (simp [*]; done)), H', ⟨by have := HK1.out; omega⟩, ⟨by (with_reducible repeat (first | apply Kd.R_alloc | apply Kd.R_drewN | apply Kd.R_drew)); exact Kd.R_mono HO132.out (fun _ hk => hk.1.2)⟩, ⟨by (with_reducible repeat (first | apply Kd.R_alloc | apply Kd.R_drewN | apply Kd.R_drew)); exact Kd.R_mono HO_21.out (fun _ hk => hk.2)⟩, ⟨pB BK120⟩, ⟨pH HB⟩⟩
       ·replace c18 := Bool.eq_false_iff.mpr c18
        subst c18
        have H1 : (impl_FillPairing.l0 k1 x7_1 t125 (t125.length : Int) (wrap64 (x23_1 + 1)) a0_0 l0_1) = some (r1, r2) := by rw [if_neg (show ¬ (false = true) by decide)] at H; exact H
        clear H
        have H := H1
        clear H1
        have H' := Aside0.mk H
        clear H
        have p128 : 0 ≤ (x23_1 : Int) := of_decide_eq_true (by first | (with_reducible assumption) | assumption)
        have q128 : x23_1 < (t125.length : Int) := of_decide_eq_true (by first | (with_reducible assumption) | assumption)
        obtain ⟨ad128, e128, hx128_0, hx128_1⟩ := at_T73 (Kd.R_reads' HO_21.out).2.2 x23_1 p128 q128
        cases e128
        replace p128 := eq_true p128
        replace q128 := eq_true q128
        go_wp2_with (first | ((with_reducible refine gate_dst (N := 9) rfl ?_); refine box_event ?hg (N := 9) ?hd (cs := #[.int .i64 0, .int .i64 0]) (t := 73) ?hr ?_; (case hd => rfl); (case hg => rfl); (case hr => first | (go_simp; done) | (go_simp; rfl)); intro gb129 hg w25 hbox hb; replace HO_7 := Aside0.mk (Kd.R_below (Kd.R_elderB (pR HO_7) gb129 (Nat.le_of_eq hg.symm)) hb); replace HO_21 := Aside0.mk (Kd.R_below (Kd.R_elderB (pR HO_21) gb129 (Nat.le_of_eq hg.symm)) hb); have BK129 := Aside0.mk (hbox); have GW129 := gH HB hg; have GE129 := gH HB hg; replace HB := sH HB hb; have NB120_129 := nB BK120 hg; have NB129_120 := oB BK120 hg; replace BK120 := sB BK120 hb; clear hb hbox hg; (try have hnb26 := NB129_120.out); (try have hnc26 := NB120_129.out); have hcz27_0 : w25.cell? ⟨gb129, 0, none⟩ = some (.int .i64 0) := cB BK129 0; have hcz27_1 : w25.cell? ⟨gb129, 1, none⟩ = some (.int .i64 0) := cB BK129 1; have hfz27_0 := zB BK129 0; have hfz27_1 := zB BK129 1; have hcz28_0 : w25.cell? ⟨gb120, 0, none⟩ = some (.int .i64 a0_0) := cB BK120 0; have hcz28_1 : w25.cell? ⟨gb120, 1, none⟩ = some (.slice A0_1 l0_1.length c0_1) := cB BK120 1; have hfz28_0 := zB BK120 0; have hfz28_1 := zB BK120 1; obtain ⟨Ao29, co29, eo29⟩ := Kd.R_slice HO_7.out; subst eo29) | ((with_reducible refine gate_callee (f := 68) rfl ?_); refine cl_ (some 31) Try.func68 #[.agg #[.int .i64 a0_0, .slice A0_1 l0_1.length c0_1], .slice Ao29 x7_1.length co29, .agg #[.int .i64 ((rd_T73 t125 x23_1).f0), .int .i64 ((rd_T73 t125 x23_1).f1)]] ?_; (with_reducible refine (impl_Complex_with.calls a0_0 _ _ l0_1 _ _ x7_1 ((rd_T73 t125 x23_1).f0) ((rd_T73 t125 x23_1).f1) t130 false _ ?side1 ?side2 ?side3 ?side4 A17.out).mono ?_); (case side1 => exact Kd.C_below HR0_1.out (pH HB)); (case side2 => exact HC0_1.out); (case side3 => refine (Kd.R_reads' (e := 73) (base := w.heap.size) (ok := fun k_ => (some k_ ≠ (.slice (some ad128) t125.length co13 : Value).ownBlock ∧ k_ ≠ gb129)) (n := x7_1.length) (c := co29) ?_).2.2; exact (by (with_reducible repeat (first | apply Kd.R_alloc | apply Kd.R_drewN | apply Kd.R_drew)); exact (Kd.R_mono (Kd.R_far (p := ⟨gb129, 1, none⟩) (Kd.R_far (p := ⟨gb129, 0, none⟩) (Kd.R_mono HO_7.out (fun k_ hk => (⟨hk, hk.2⟩ : _ ∧ k_ ≠ gb129))) (fun _ hk => hk.2) (.int .i64 ((rd_T73 t125 x23_1).f0))) (fun _ hk => hk.2) (.int .i64 ((rd_T73 t125 x23_1).f1))) (fun _ h_ => h_.1)))); (case side4 => exact (Kd.R_reads' HO_7.out).2.1); rintro e w30 ⟨v131, rfl, ho0, hb⟩; refine ⟨_, rfl, ?_⟩; have n0_ := Aside0.mk (Kd.R_elder' (by (with_reducible repeat (first | apply Kd.R_alloc | apply Kd.R_drewN | apply Kd.R_drew)); exact (Kd.R_mono (Kd.R_far (p := ⟨gb129, 1, none⟩) (Kd.R_far (p := ⟨gb129, 0, none⟩) (Kd.R_mono HO_7.out (fun k_ hk => (⟨hk, hk.2⟩ : _ ∧ k_ ≠ gb129))) (fun _ hk => hk.2) (.int .i64 ((rd_T73 t125 x23_1).f0))) (fun _ hk => hk.2) (.int .i64 ((rd_T73 t125 x23_1).f1))) (fun _ h_ => h_.1))) (Kd.R_base ho0) hb); have n1_ := Aside0.mk (Kd.R_elder' (by (with_reducible repeat (first | apply Kd.R_alloc | apply Kd.R_drewN | apply Kd.R_drew)); exact (Kd.R_mono (Kd.R_far (p := ⟨gb129, 1, none⟩) (Kd.R_far (p := ⟨gb129, 0, none⟩) (Kd.R_mono HO_21.out (fun k_ hk => (⟨hk, hk.2⟩ : _ ∧ k_ ≠ gb129))) (fun _ hk => hk.2) (.int .i64 ((rd_T73 t125 x23_1).f0))) (fun _ hk => hk.2) (.int .i64 ((rd_T73 t125 x23_1).f1))) (fun _ h_ => h_.1))) (Kd.R_base ho0) hb); have n2_ := Aside0.mk (Kd.R_lower (Kd.R_newB (Kd.R_new' (Kd.R_new' ho0 (Kd.R_lt (by (with_reducible repeat (first | apply Kd.R_alloc | apply Kd.R_drewN | apply Kd.R_drew)); exact (Kd.R_mono (Kd.R_far (p := ⟨gb129, 1, none⟩) (Kd.R_far (p := ⟨gb129, 0, none⟩) (Kd.R_mono HO_7.out (fun k_ hk => (⟨hk, hk.2⟩ : _ ∧ k_ ≠ gb129))) (fun _ hk => hk.2) (.int .i64 ((rd_T73 t125 x23_1).f0))) (fun _ hk => hk.2) (.int .i64 ((rd_T73 t125 x23_1).f1))) (fun _ h_ => h_.1))))) (Kd.R_lt (by (with_reducible repeat (first | apply Kd.R_alloc | apply Kd.R_drewN | apply Kd.R_drew)); exact (Kd.R_mono (Kd.R_far (p := ⟨gb129, 1, none⟩) (Kd.R_far (p := ⟨gb129, 0, none⟩) (Kd.R_mono HO_21.out (fun k_ hk => (⟨hk, hk.2⟩ : _ ∧ k_ ≠ gb129))) (fun _ hk => hk.2) (.int .i64 ((rd_T73 t125 x23_1).f0))) (fun _ hk => hk.2) (.int .i64 ((rd_T73 t125 x23_1).f1))) (fun _ h_ => h_.1))))) (g := gb129) (o := .cells #[.int .i64 ((rd_T73 t125 x23_1).f0), .int .i64 ((rd_T73 t125 x23_1).f1)] 73 (0, 0)) (by (with_reducible repeat (first | refine blk_drewN ?_ _ | refine blk_drew ?_ | refine blk_alloc ?_ _)); refine blk_put (cs := #[.int .i64 ((rd_T73 t125 x23_1).f0), .int .i64 0]) ?_ 1 _ rfl; (with_reducible repeat (first | refine blk_drewN ?_ _ | refine blk_drew ?_ | refine blk_alloc ?_ _)); refine blk_put (cs := #[.int .i64 0, .int .i64 0]) ?_ 0 _ rfl; (with_reducible repeat (first | refine blk_drewN ?_ _ | refine blk_drew ?_ | refine blk_alloc ?_ _)); exact BK129.out)) (below_size (pH HB))); have n3_ := Aside0.mk (blk_below (g := gb120) (o := .cells #[.int .i64 a0_0, .slice A0_1 l0_1.length c0_1] 28 (0, 0)) (by (with_reducible repeat (first | refine blk_drewN ?_ _ | refine blk_drew ?_ | refine blk_alloc ?_ _)); refine blk_far ?_ NB120_129.out _; (with_reducible repeat (first | refine blk_drewN ?_ _ | refine blk_drew ?_ | refine blk_alloc ?_ _)); refine blk_far ?_ NB120_129.out _; (with_reducible repeat (first | refine blk_drewN ?_ _ | refine blk_drew ?_ | refine blk_alloc ?_ _)); exact BK120.out) hb); have n4_ := Aside0.mk (blk_below (g := gb129) (o := .cells #[.int .i64 ((rd_T73 t125 x23_1).f0), .int .i64 ((rd_T73 t125 x23_1).f1)] 73 (0, 0)) (by (with_reducible repeat (first | refine blk_drewN ?_ _ | refine blk_drew ?_ | refine blk_alloc ?_ _)); refine blk_put (cs := #[.int .i64 ((rd_T73 t125 x23_1).f0), .int .i64 0]) ?_ 1 _ rfl; (with_reducible repeat (first | refine blk_drewN ?_ _ | refine blk_drew ?_ | refine blk_alloc ?_ _)); refine blk_put (cs := #[.int .i64 0, .int .i64 0]) ?_ 0 _ rfl; (with_reducible repeat (first | refine blk_drewN ?_ _ | refine blk_drew ?_ | refine blk_alloc ?_ _)); exact BK129.out) hb); have n5_ := sH HB hb; clear HO_7; clear HO_21; clear BK120; clear BK129; clear HB; have HO_7 := n0_; have HO_21 := n1_; have HO132 := n2_; have BK120 := n3_; have BK129 := n4_; have HB := n5_; clear n0_ n1_ n2_ n3_ n4_ n5_; (try clear hb); (try clear hi); (try clear ho0)))
        go_roundg k1
        case measure => have := HK1.out; omega
        case rel => exact ⟨(x7_1), (wrap64 (x23_1 + 1)), (by first | rfl | (simp; done) | (simp [*]; done)), H', ⟨by have := HK1.out; omega⟩, ⟨by (with_reducible repeat (first | apply Kd.R_alloc | apply Kd.R_drewN | apply Kd.R_drew)); exact Kd.R_mono HO_7.out (fun _ hk => hk.1.1)⟩, ⟨by (with_reducible repeat (first | apply Kd.R_alloc | apply Kd.R_drewN | apply Kd.R_drew)); exact Kd.R_mono HO_21.out (fun _ hk => hk.1.1)⟩, ⟨pB BK120⟩, ⟨pH HB⟩⟩
      ·rw [if_neg c16] at H
       exact absurd H (by simp)
     ·rw [if_neg c15] at H
      exact absurd H (by simp)
    ·rw [if_neg c14] at H
     have c14b0 : decide (x23_1 < (t125.length : Int)) = false := decide_eq_false c14
     clear c14
     simp only [Option.some.injEq, Prod.mk.injEq] at H
     obtain ⟨rfl, rfl⟩ := H
     go_wp2
     go_ret2
     exact ⟨_, by first | rfl | (simp [errW_none, errW_some] <;> rfl) | (simp [*, errW_none, errW_some] <;> rfl) | (exfalso; simp_all), by (with_reducible repeat (first | apply Kd.R_alloc | apply Kd.R_drewN | apply Kd.R_drew)); exact Kd.R_mono HO_7.out (fun _ hk => trivial), pH HB⟩
 ·rw [if_neg c4] at H
  have c4b0 : (t121 == 0) = false := beq_eq_false_iff_ne.mpr c4
  have c4b1 : (t121 != 0) = true := bne_iff_ne.mpr c4
  simp only [Option.some.injEq, Prod.mk.injEq] at H
  obtain ⟨rfl, rfl⟩ := H
  go_enter Try.func26, Try.ntmps26
  go_wp2_with (first | ((with_reducible refine gate_dst (N := 2) rfl ?_); refine box_event ?hg (N := 2) ?hd (cs := #[.int .i64 a0_0, .slice A0_1 l0_1.length c0_1]) (t := 28) ?hr ?_; (case hd => rfl); (case hg => rfl); (case hr => first | (go_simp; done) | (go_simp; rfl)); intro gb120 hg w31 hbox hb; have BK120 := Aside0.mk (hbox); have GW120 := gH HB hg; have GE120 := gH HB hg; replace HB := sH HB hb; clear hb hbox hg; have hcz32_0 : w31.cell? ⟨gb120, 0, none⟩ = some (.int .i64 a0_0) := cB BK120 0; have hcz32_1 : w31.cell? ⟨gb120, 1, none⟩ = some (.slice A0_1 l0_1.length c0_1) := cB BK120 1; have hfz32_0 := zB BK120 0; have hfz32_1 := zB BK120 1) | ((with_reducible refine gate_callee (f := 65) rfl ?_); refine cl_ (some 14) Try.func65 #[.agg #[.int .i64 a0_0, .slice A0_1 l0_1.length c0_1], .slice A1 l1.length c1, .bool true] ?_; (with_reducible refine (impl_acyclicCode.calls a0_0 _ _ l0_1 _ _ l1 true t121 _ ?side1 ?side2 ?side3 ?side4 A3.out).mono ?_); (case side1 => exact pC ((Kd.C_below HR0_1.out HB.out))); (case side2 => exact HC0_1.out); (case side3 => exact pC ((Kd.C_below HR1.out HB.out))); (case side4 => exact HC1.out); rintro e w33 ⟨rfl, hb⟩; refine ⟨_, rfl, ?_⟩; replace BK120 := sB BK120 hb; replace HB := sH HB hb; (try clear hb); (try clear hi)))
  go_ret2
  exact ⟨_, by first | rfl | (simp [errW_none, errW_some] <;> rfl) | (simp [*, errW_none, errW_some] <;> rfl) | (exfalso; simp_all), by first | exact Kd.R_nil _ _ _ _ _ | exact Kd.N_nil _ _ _ _ _ | exact Kd.V_nil _ _ _ _ _ | exact Kd.Q_nil _ _ _ _ _ | exact Kd.S_nil _ _ _ _ _, pH HB⟩
end Go.Proofs.Ytomdfjohnmikdaa.QC
namespace Go.Proofs.Ytomdfjohnmikdaa.Ext
open Go.Proofs.YtomdfjohnmikdaaW.PrintWords
open Classical in
noncomputable def limO {α : Type} (g : Nat → Option α) : Option α := if h : ∃ r : α, ∃ k, g k = some r then some (Classical.choose h) else none
theorem limO_get {α : Type} {g : Nat → Option α} {r : α} (h : limO g = some r) : ∃ k, g k = some r := by
  unfold limO at h
  split at h
  · rename_i hc
    obtain rfl := Option.some.inj h
    exact Classical.choose_spec hc
  · cases h
theorem limO_of {α : Type} {g : Nat → Option α} {r : α} (hg : ∀ k, LeO (g k) (g (k + 1))) (h : Ev g r) : limO g = some r := by
  obtain ⟨k, hk⟩ := h.rounds
  have hc : ∃ r : α, ∃ k, g k = some r := ⟨r, k, hk⟩
  unfold limO
  rw [dif_pos hc]
  obtain ⟨k', hk'⟩ := Classical.choose_spec hc
  obtain ⟨K, hK⟩ := h
  have h1 := at_rounds hg (Nat.le_max_left k' K) hk'
  have h2 := hK (max k' K) (Nat.le_max_right _ _)
  rw [h1] at h2
  exact h2
end Go.Proofs.Ytomdfjohnmikdaa.Ext
namespace Go.Proofs.Ytomdfjohnmikdaa.Ext
set_option linter.unusedVariables false
open Go.RowKit Go.Proofs.Ytomdfjohnmikdaa.Im Go.Proofs.Ytomdfjohnmikdaa.Kp Go.Proofs.YtomdfjohnmikdaaW.PrintWords Go.Proofs.YtomdfjohnmikdaaW.PrintLast Go.Proofs.YtomdfjohnmikdaaW.PrintMore
noncomputable def impl_FillPairing.f (a0_0 : Int) (l0_1 : List Int) (l1 : List (S73)) : Option ((List (S73)) × Int) := limO fun k => QC.impl_FillPairing.f k a0_0 l0_1 l1
theorem impl_FillPairing.calls (a0_0 : Int) (A0_1 : Option Addr) (c0_1 : Nat) (l0_1 : List Int) (A1 : Option Addr) (c1 : Nat) (l1 : List (S73)) (r1 : List (S73)) (r2 : Int) (w : World) (hr0_1 : Kd.C (Kd.int .i64) w A0_1 l0_1.length l0_1) (hc0_1 : l0_1.length ≤ c0_1) (hr1 : Kd.C k73 w A1 l1.length l1) (hc1 : l1.length ≤ c1) (h : impl_FillPairing.f a0_0 l0_1 l1 = some (r1, r2)) :
    Calls Try.prog 26 #[.agg #[.int .i64 a0_0, .slice A0_1 l0_1.length c0_1], .slice A1 l1.length c1] w fun e w' => ∃ v0_ : Value, e = .returned (.tuple #[v0_, .int .i64 r2]) ∧ Kd.R k73 73 w' w.heap.size (fun _ => True) v0_ r1 ∧ Below w.heap.size w w' := by
  obtain ⟨k, hk⟩ := limO_get h
  exact QC.impl_FillPairing.calls k a0_0 A0_1 c0_1 l0_1 A1 c1 l1 r1 r2 w hr0_1 hc0_1 hr1 hc1 hk
theorem impl_FillPairing.come (a0_0 : Int) (l0_1 : List Int) (l1 : List (S73)) {r : ((List (S73)) × Int)} (h : Ev (fun k => QC.impl_FillPairing.f k a0_0 l0_1 l1) r) : impl_FillPairing.f a0_0 l0_1 l1 = some r := limO_of (fun k => QC.impl_FillPairing.mono _ _ _ k) h
end Go.Proofs.Ytomdfjohnmikdaa.Ext
namespace Go.Proofs.Ytomdfjohnmikdaa.QS
open Go.Proofs.Ytomdfjohnmikdaa.Cw Go.Proofs.Ytomdfjohnmikdaa.Kp Go.Proofs.Ytomdfjohnmikdaa.Ext Go.RowKit Go.Proofs.YtomdfjohnmikdaaW.PrintWords Go.Proofs.YtomdfjohnmikdaaW.PrintLast Go.Proofs.YtomdfjohnmikdaaW.PrintMore
attribute [local go_sem] max2_int min2_int max_two min_two max_three min_three max_four min_four   -- for this text's walks alone
set_option linter.unusedVariables false
set_option linter.unusedSimpArgs false
def spec_l01Below.l0 : Nat → Int → List Int → Int → Option (List Int)
 | 0, _, _, _ => none
 | k + 1, x0, x3, x4 => if x4 ≥ 0 then (if 0 ≤ (IntKind.u64.wrap (x4)) then (if (Go.bits .and .i64 (shr .i64 x0 (IntKind.u64.wrap (x4))) 1) = 1 then (if x0 = (shl .i64 1 (IntKind.u64.wrap (x4))) then (spec_l01Below.l0 k x0 x3 (wrap64 (x4 - 1))) else (if x3.length < 17592186044416 then (spec_l01Below.l0 k x0 (x3 ++ [wrap64 (x0 - (shl .i64 1 (IntKind.u64.wrap (x4))))]) (wrap64 (x4 - 1))) else (none))) else (spec_l01Below.l0 k x0 x3 (wrap64 (x4 - 1)))) else (none)) else (some x3)
def spec_l01Below.f (k : Nat) (a0 : Int) : Option (List Int) := spec_l01Below.l0 k a0 (([] : List Int)) 62
theorem spec_l01Below.mono_l : ∀ k, (∀ y0 y1 y2, LeO (spec_l01Below.l0 k y0 y1 y2) (spec_l01Below.l0 (k + 1) y0 y1 y2))
 | 0 => fun _ _ _ r h => by simp [spec_l01Below.l0] at h
 | k + 1 => by
  have ih0 := spec_l01Below.mono_l k
  ·intro y0 y1 y2
   unfold spec_l01Below.l0
   repeat' first
   | (with_reducible exact ih0 _ _ _)
   | (with_reducible exact LeO.refl _)
   | (with_reducible exact LeO.none _)
   | (with_reducible refine LeO.ite ?_ ?_)
   | (with_reducible refine LeO.bind ?_ (fun _ => ?_))
   | exact ih0 _ _ _
   | exact LeO.none _
   | refine LeO.ite ?_ ?_
   | refine LeO.bind ?_ (fun _ => ?_)
theorem spec_l01Below.mono : ∀ a0 k, LeO (spec_l01Below.f k a0) (spec_l01Below.f (k + 1) a0) := by
 intro a0 k
 have ih0 := spec_l01Below.mono_l k
 unfold spec_l01Below.f
 repeat' first
   | (with_reducible exact ih0 _ _ _)
   | (with_reducible exact LeO.refl _)
   | (with_reducible exact LeO.none _)
   | (with_reducible refine LeO.ite ?_ ?_)
   | (with_reducible refine LeO.bind ?_ (fun _ => ?_))
   | exact ih0 _ _ _
   | exact LeO.none _
   | refine LeO.ite ?_ ?_
   | refine LeO.bind ?_ (fun _ => ?_)
set_option maxHeartbeats 8000000 in
set_option maxRecDepth 100000 in
theorem spec_l01Below.calls (k : Nat) (a0 : Int) (r : List Int) (w : World) (h : spec_l01Below.f k a0 = some r) :
  Calls Try.prog 101 #[.int .i64 a0] w fun e w' => ∃ v0_ : Value, e = .returned (v0_) ∧ Kd.R (Kd.int .i64) 2 w' w.heap.size (fun _ => True) v0_ r ∧ Below w.heap.size w w' := by
 have HB := Aside0.mk (Below.refl w.heap.size w)
 have H : (spec_l01Below.l0 k a0 (([] : List Int)) 62) = some r := h
 clear h
 obtain ⟨y140, hy140⟩ : ∃ y_ : List Int, y_ = (([] : List Int)) := ⟨_, rfl⟩
 replace H : (spec_l01Below.l0 k a0 y140 62) = some r := by first | (rw [hy140]; with_reducible exact H) | (have H2_ := (Option.bind_some _ _).symm.trans H; rw [hy140]; with_reducible exact H2_) | (have H2_ := (Option.bind_some _ _).symm.trans H; with_reducible exact H2_) | with_reducible exact H | (rw [hy140]; exact H) | exact H
 have Ny140 := Aside0.mk hy140
 clear hy140
 have H' := Aside0.mk H
 clear H
 go_enter Try.func101, Try.ntmps101
 go_wp2_with (first | ((with_reducible refine gate_dst (N := 5) rfl ?_); refine Kd.R_lit (Kd.int .i64) _ 2 ?hg (N := 5) ?hd (xs := ([] : List Int)) (inner := []) (ok := fun _ => True) (okp := fun _ => True) ?hr ?hp (fun _ hk => hk) trivial (Below.refl _ _) (Nat.le_refl _) (by simp) ?_; (case hd => rfl); (case hg => rfl); (case hr => first | (go_simp; done) | (go_simp; rfl)); (case hp => exact (Reps.none _ _)); intro v141 w2 ho3 hb hg_ hnew_; clear hg_ hnew_; (first | rw [← Ny140.out] at ho3 | (simp only [Int.reduceToNat] at ho3; rw [← Ny140.out] at ho3)); have HO142 := Aside0.mk (Kd.R_lower ho3 (below_size (pH HB))); replace HB := sH HB hb; clear hb ho3))
 go_loopg [3, 4] k (fun kq v3 v4 w' => ∃ (x3_1 : List Int) (x4_1 : Int), v4 = .int .i64 x4_1 ∧ Aside0 (spec_l01Below.l0 kq a0 x3_1 x4_1 = some r) ∧ Aside0 (kq ≤ k) ∧ Aside0 (Kd.R (Kd.int .i64) 2 w' w.heap.size (fun _ => True) v3 x3_1) ∧ Aside0 (Below w.heap.size w w'))
 case atStart => exact ⟨(y140), (62), (by first | rfl | (simp; done) | (simp [*]; done)), H', ⟨Nat.le_refl _⟩, ⟨by (with_reducible repeat (first | apply Kd.R_alloc | apply Kd.R_drewN | apply Kd.R_drew)); exact HO142.out⟩, ⟨pH HB⟩⟩
 case round =>
  clear H'
  try clear c1
  try clear p2
  obtain ⟨x3_1, x4_1, rfl, HA, HK1, HO_3, HB⟩ := hrel
  cases gk with
  | zero => exact absurd HA.out (by simp [spec_l01Below.l0])
  | succ k1 =>
   have H := HA.out
   clear HA
   simp only [spec_l01Below.l0] at H
   by_cases c4 : x4_1 ≥ 0
   ·rw [if_pos c4] at H
    have c4b0 : decide (0 ≤ x4_1) = true := decide_eq_true c4
    clear c4
    obtain ⟨ji5, hji5⟩ : ∃ j_ : Int, (IntKind.u64.wrap (x4_1)) = j_ := ⟨_, rfl⟩
    replace H : (if 0 ≤ (ji5) then (if (Go.bits .and .i64 (shr .i64 a0 (ji5)) 1) = 1 then (if a0 = (shl .i64 1 (ji5)) then (spec_l01Below.l0 k1 a0 x3_1 (wrap64 (x4_1 - 1))) else (if x3_1.length < 17592186044416 then (spec_l01Below.l0 k1 a0 (x3_1 ++ [wrap64 (a0 - (shl .i64 1 (ji5)))]) (wrap64 (x4_1 - 1))) else (none))) else (spec_l01Below.l0 k1 a0 x3_1 (wrap64 (x4_1 - 1)))) else (none)) = some r := by first | (rw [hji5] at H; exact H) | (simp only [hji5] at H ⊢; exact H)
    by_cases c6 : 0 ≤ (ji5)
    ·rw [if_pos c6] at H
     have c6b0 := eq_true c6
     have c6b1 : decide (0 ≤ (ji5)) = true := decide_eq_true c6
     clear c6
     obtain ⟨ji7, hji7⟩ : ∃ j_ : Int, (shr .i64 a0 (ji5)) = j_ := ⟨_, rfl⟩
     replace H : (if (Go.bits .and .i64 (ji7) 1) = 1 then (if a0 = (shl .i64 1 (ji5)) then (spec_l01Below.l0 k1 a0 x3_1 (wrap64 (x4_1 - 1))) else (if x3_1.length < 17592186044416 then (spec_l01Below.l0 k1 a0 (x3_1 ++ [wrap64 (a0 - (shl .i64 1 (ji5)))]) (wrap64 (x4_1 - 1))) else (none))) else (spec_l01Below.l0 k1 a0 x3_1 (wrap64 (x4_1 - 1)))) = some r := by first | (rw [hji7] at H; exact H) | (simp only [hji7] at H ⊢; exact H)
     have hji7_ : (a0 / 2 ^ min (ji5).toNat 64) = ji7 := hji7
     have hji7z : (ji5) ≤ 64 → (a0 / 2 ^ (ji5).toNat) = ji7 := shr_small hji7
     by_cases c8 : (Go.bits .and .i64 (ji7) 1) = 1
     ·rw [if_pos c8] at H
      have c8b0 : ((Go.bits .and .i64 (ji7) 1) == 1) = true := beq_iff_eq.mpr c8
      have c8b1 : ((Go.bits .and .i64 (ji7) 1) != 1) = false := bne_eq_false_iff_eq.mpr c8
      clear c8
      have c9b0 := eq_true (of_decide_eq_true (by first | (with_reducible assumption) | assumption) : 0 ≤ (ji5))
      obtain ⟨ji10, hji10⟩ : ∃ j_ : Int, (shl .i64 1 (ji5)) = j_ := ⟨_, rfl⟩
      replace H : (if a0 = (ji10) then (spec_l01Below.l0 k1 a0 x3_1 (wrap64 (x4_1 - 1))) else (if x3_1.length < 17592186044416 then (spec_l01Below.l0 k1 a0 (x3_1 ++ [wrap64 (a0 - (ji10))]) (wrap64 (x4_1 - 1))) else (none))) = some r := by first | (rw [hji10] at H; exact H) | (simp only [hji10] at H ⊢; exact H)
      have hji10_ : (IntKind.i64.wrap (1 * 2 ^ min (ji5).toNat 64)) = ji10 := hji10
      have hji10z : (ji5) ≤ 64 → (IntKind.i64.wrap (1 * 2 ^ (ji5).toNat)) = ji10 := shl_small hji10
      have hji10u : (IntKind.i64.wrap (2 ^ min (ji5).toNat 64)) = ji10 := by have h_ := hji10_; rw [Int.one_mul] at h_; exact h_
      have hji10v : (ji5) ≤ 64 → (IntKind.i64.wrap (2 ^ (ji5).toNat)) = ji10 := fun hle_ => by have h_ := hji10z hle_; rw [Int.one_mul] at h_; exact h_
      have hji10y : (wrap64 (1 * 2 ^ min (ji5).toNat 64)) = ji10 := (i64_w _).symm.trans hji10_
      have hji10x : (ji5) ≤ 64 → (wrap64 (1 * 2 ^ (ji5).toNat)) = ji10 := fun h_ => (i64_w _).symm.trans (hji10z h_)
      by_cases c11 : a0 = (ji10)
      ·rw [if_pos c11] at H
       have c11b0 : (a0 == (ji10)) = true := beq_iff_eq.mpr c11
       have c11b1 : (a0 != (ji10)) = false := bne_eq_false_iff_eq.mpr c11
       clear c11
       have H' := Aside0.mk H
       clear H
       go_wp2
       go_roundg k1
       case measure => have := HK1.out; omega
       case rel => exact ⟨(x3_1), (wrap64 (x4_1 - 1)), (by first | rfl | (simp; done) | (simp [*]; done)), H', ⟨by have := HK1.out; omega⟩, ⟨by (with_reducible repeat (first | apply Kd.R_alloc | apply Kd.R_drewN | apply Kd.R_drew)); exact HO_3.out⟩, ⟨pH HB⟩⟩
      ·rw [if_neg c11] at H
       have c11b0 : (a0 == (ji10)) = false := beq_eq_false_iff_ne.mpr c11
       have c11b1 : (a0 != (ji10)) = true := bne_iff_ne.mpr c11
       have c12b0 := eq_true (of_decide_eq_true (by first | (with_reducible assumption) | assumption) : 0 ≤ (ji5))
       by_cases c13 : x3_1.length < 17592186044416
       ·rw [if_pos c13] at H
        have LMc13 := Aside0.mk c13
        clear c13
        obtain ⟨y143, hy143⟩ : ∃ y_ : List Int, y_ = (x3_1 ++ [wrap64 (a0 - (ji10))]) := ⟨_, rfl⟩
        replace H : (spec_l01Below.l0 k1 a0 y143 (wrap64 (x4_1 - 1))) = some r := by first | (rw [hy143]; with_reducible exact H) | (have H2_ := (Option.bind_some _ _).symm.trans H; rw [hy143]; with_reducible exact H2_) | (have H2_ := (Option.bind_some _ _).symm.trans H; with_reducible exact H2_) | with_reducible exact H | (rw [hy143]; exact H) | exact H
        have Ny143 := Aside0.mk hy143
        clear hy143
        have H' := Aside0.mk H
        clear H
        go_wp2_with (first | ((with_reducible refine gate_builtin (b := .append) (xs := #[.tmp 23, .tmp 29]) rfl ?_); at_builtin; refine Kd.R_append (Kd.int .i64) (w0 := w) w.heap.size rfl (.tmp 23) (.tmp 29) 22 2 (.int .i64 0) 8 rfl Try.underlying22 info2 rfl (by decide) (by omega) u3 x3_1 (wrap64 (a0 - (ji10))) [.int .i64 (wrap64 (a0 - (ji10)))] (fun _ => True) (fun _ => False) rfl rfl ?aP (fun _ hk => hk.elim) ?aF ?aO ?aB ?aS ?aL ?_; (case aP => exact rfl); (case aB => exact (pH HB)); (case aF => exact (fun _ _ => trivial)); (case aO => exact (pR HO_3)); (case aS => exact (below_size (pH HB))); (case aL => have := LMc13.out; omega); intro v144 w14 ho hb hg hat; rw [← Ny143.out] at ho; replace HB := Aside0.mk (hb); have HO145 := Aside0.mk (ho); clear HO_3; clear ho hb hg hat))
        go_roundg k1
        case measure => have := HK1.out; omega
        case rel => exact ⟨(y143), (wrap64 (x4_1 - 1)), (by first | rfl | (simp; done) | (simp [*]; done)), H', ⟨by have := HK1.out; omega⟩, ⟨by (with_reducible repeat (first | apply Kd.R_alloc | apply Kd.R_drewN | apply Kd.R_drew)); exact HO145.out⟩, ⟨pH HB⟩⟩
       ·rw [if_neg c13] at H
        exact absurd H (by simp)
     ·rw [if_neg c8] at H
      have c8b0 : ((Go.bits .and .i64 (ji7) 1) == 1) = false := beq_eq_false_iff_ne.mpr c8
      have c8b1 : ((Go.bits .and .i64 (ji7) 1) != 1) = true := bne_iff_ne.mpr c8
      have H' := Aside0.mk H
      clear H
      go_wp2
      go_roundg k1
      case measure => have := HK1.out; omega
      case rel => exact ⟨(x3_1), (wrap64 (x4_1 - 1)), (by first | rfl | (simp; done) | (simp [*]; done)), H', ⟨by have := HK1.out; omega⟩, ⟨by (with_reducible repeat (first | apply Kd.R_alloc | apply Kd.R_drewN | apply Kd.R_drew)); exact HO_3.out⟩, ⟨pH HB⟩⟩
    ·rw [if_neg c6] at H
     exact absurd H (by simp)
   ·rw [if_neg c4] at H
    have c4b0 : decide (0 ≤ x4_1) = false := decide_eq_false c4
    clear c4
    obtain rfl := Option.some.inj H
    go_wp2
    go_ret
    exact ⟨_, by first | rfl | (simp [errW_none, errW_some] <;> rfl) | (simp [*, errW_none, errW_some] <;> rfl) | (exfalso; simp_all), by (with_reducible repeat (first | apply Kd.R_alloc | apply Kd.R_drewN | apply Kd.R_drew)); exact HO_3.out, pH HB⟩
end Go.Proofs.Ytomdfjohnmikdaa.QS
namespace Go.Proofs.Ytomdfjohnmikdaa.QS
open Go.Proofs.Ytomdfjohnmikdaa.Cw Go.Proofs.Ytomdfjohnmikdaa.Kp Go.Proofs.Ytomdfjohnmikdaa.Ext Go.RowKit Go.Proofs.YtomdfjohnmikdaaW.PrintWords Go.Proofs.YtomdfjohnmikdaaW.PrintLast Go.Proofs.YtomdfjohnmikdaaW.PrintMore
attribute [local go_sem] max2_int min2_int max_two min_two max_three min_three max_four min_four   -- for this text's walks alone
set_option linter.unusedVariables false
set_option linter.unusedSimpArgs false
def spec_l02High.l0 : Nat → List (S73) → Int → Int → Option (Int)
 | 0, _, _, _ => none
 | k + 1, x0, x1, x5 => if x5 < (x0.length : Int) then (if 0 ≤ x5 then (if ((rd_T73 x0 x5).f0) = x1 then (some ((rd_T73 x0 x5).f1)) else (spec_l02High.l0 k x0 x1 (wrap64 (x5 + 1)))) else (none)) else (some 0)
def spec_l02High.f (k : Nat) (l0 : List (S73)) (a1 : Int) : Option (Int) := spec_l02High.l0 k l0 a1 0
set_option maxHeartbeats 8000000 in
set_option maxRecDepth 100000 in
theorem spec_l02High.calls (k : Nat) (A0 : Option Addr) (c0 : Nat) (l0 : List (S73)) (a1 : Int) (r : Int) (w : World) (hr0 : Kd.C k73 w A0 l0.length l0) (hc0 : l0.length ≤ c0) (h : spec_l02High.f k l0 a1 = some r) :
  Calls Try.prog 197 #[.slice A0 l0.length c0, .int .i64 a1] w fun e w' => e = .returned (.int .i64 r) ∧ Drawn0 w w' := by
 have HR0 := Aside0.mk hr0
 have HC0 := Aside0.mk hc0
 clear hr0 hc0
 have H : (spec_l02High.l0 k l0 a1 0) = some r := h
 clear h
 have H' := Aside0.mk H
 clear H
 go_enter Try.func197, Try.ntmps197
 go_wp2
 go_loopg [5] k (fun kq v5 w' => ∃ (x5_1 : Int), v5 = .int .i64 x5_1 ∧ Aside0 (spec_l02High.l0 kq l0 a1 x5_1 = some r) ∧ Aside0 (kq ≤ k) ∧ Drawn0 w w')
 case atStart => exact ⟨(0), (by first | rfl | (simp; done) | (simp [*]; done)), H', ⟨Nat.le_refl _⟩, by repeat (first | exact Drawn0.refl _ | apply Drawn0.step)⟩
 case round =>
  clear H'
  try clear c1
  try clear p2
  obtain ⟨x5_1, rfl, HA, HK1, ⟨m1, rfl⟩⟩ := hrel
  cases gk with
  | zero => exact absurd HA.out (by simp [spec_l02High.l0])
  | succ k1 =>
   have H := HA.out
   clear HA
   simp only [spec_l02High.l0] at H
   by_cases c3 : x5_1 < (l0.length : Int)
   ·rw [if_pos c3] at H
    have c3b0 : decide (x5_1 < (l0.length : Int)) = true := decide_eq_true c3
    clear c3
    by_cases c4 : 0 ≤ x5_1
    ·rw [if_pos c4] at H
     have c4b0 : decide (0 ≤ x5_1) = true := decide_eq_true c4
     clear c4
     by_cases c5 : ((rd_T73 l0 x5_1).f0) = a1
     ·rw [if_pos c5] at H
      have c5b0 : (((rd_T73 l0 x5_1).f0) == a1) = true := beq_iff_eq.mpr c5
      have c5b1 : (((rd_T73 l0 x5_1).f0) != a1) = false := bne_eq_false_iff_eq.mpr c5
      clear c5
      obtain rfl := Option.some.inj H
      have p257 : 0 ≤ (x5_1 : Int) := of_decide_eq_true (by first | (with_reducible assumption) | assumption)
      have q257 : x5_1 < (l0.length : Int) := of_decide_eq_true (by first | (with_reducible assumption) | assumption)
      obtain ⟨ad257, e257, hx257_0, hx257_1⟩ := at_T73 HR0.out x5_1 p257 q257
      cases e257
      replace p257 := eq_true p257
      replace q257 := eq_true q257
      have p258 : 0 ≤ (x5_1 : Int) := of_decide_eq_true (by first | (with_reducible assumption) | assumption)
      have q258 : x5_1 < (l0.length : Int) := of_decide_eq_true (by first | (with_reducible assumption) | assumption)
      obtain ⟨ad258, e258, hx258_0, hx258_1⟩ := at_T73 HR0.out x5_1 p258 q258
      obtain rfl : ad257 = ad258 := (by injection e258)
      replace p258 := eq_true p258
      replace q258 := eq_true q258
      go_wp2
      go_ret
      exact ⟨by first | rfl | (simp; done) | (simp [*]; done), by repeat (first | exact Drawn0.refl _ | apply Drawn0.step)⟩
     ·rw [if_neg c5] at H
      have c5b0 : (((rd_T73 l0 x5_1).f0) == a1) = false := beq_eq_false_iff_ne.mpr c5
      have c5b1 : (((rd_T73 l0 x5_1).f0) != a1) = true := bne_iff_ne.mpr c5
      have H' := Aside0.mk H
      clear H
      have p257 : 0 ≤ (x5_1 : Int) := of_decide_eq_true (by first | (with_reducible assumption) | assumption)
      have q257 : x5_1 < (l0.length : Int) := of_decide_eq_true (by first | (with_reducible assumption) | assumption)
      obtain ⟨ad257, e257, hx257_0, hx257_1⟩ := at_T73 HR0.out x5_1 p257 q257
      cases e257
      replace p257 := eq_true p257
      replace q257 := eq_true q257
      go_wp2
      go_roundg k1
      case measure => have := HK1.out; omega
      case rel => exact ⟨(wrap64 (x5_1 + 1)), (by first | rfl | (simp; done) | (simp [*]; done)), H', ⟨by have := HK1.out; omega⟩, by repeat (first | exact Drawn0.refl _ | apply Drawn0.step)⟩
    ·rw [if_neg c4] at H
     exact absurd H (by simp)
   ·rw [if_neg c3] at H
    have c3b0 : decide (x5_1 < (l0.length : Int)) = false := decide_eq_false c3
    clear c3
    obtain rfl := Option.some.inj H
    go_wp2
    go_ret
    exact ⟨by first | rfl | (simp; done) | (simp [*]; done), by repeat (first | exact Drawn0.refl _ | apply Drawn0.step)⟩
end Go.Proofs.Ytomdfjohnmikdaa.QS
namespace Go.Proofs.Ytomdfjohnmikdaa.QS
open Go.Proofs.Ytomdfjohnmikdaa.Cw Go.Proofs.Ytomdfjohnmikdaa.Kp Go.Proofs.Ytomdfjohnmikdaa.Ext Go.RowKit Go.Proofs.YtomdfjohnmikdaaW.PrintWords Go.Proofs.YtomdfjohnmikdaaW.PrintLast Go.Proofs.YtomdfjohnmikdaaW.PrintMore
attribute [local go_sem] max2_int min2_int max_two min_two max_three min_three max_four min_four   -- for this text's walks alone
set_option linter.unusedVariables false
set_option linter.unusedSimpArgs false
def spec_l02Next.l0 : Nat → Int → List Int → List Int → Int → Option (List Int)
 | 0, _, _, _, _ => none
 | k + 1, x1, x6, x7, x8 => if x8 < (x7.length : Int) then (if 0 ≤ x8 then (if (rd x7 x8) = x1 then (spec_l02Next.l0 k x1 x6 x7 (wrap64 (x8 + 1))) else (if x6.length < 17592186044416 then (spec_l02Next.l0 k x1 (x6 ++ [rd x7 x8]) x7 (wrap64 (x8 + 1))) else (none))) else (none)) else (some x6)
def spec_l02Next.f (k : Nat) (l0 : List (S73)) (a1 : Int) : Option (List Int) := (spec_l02High.f k l0 a1).bind fun t259 => ((some (([] : List Int) : List Int)).bind fun y260 => (if t259 = 0 then (some y260) else ((spec_l01Below.f k t259).bind fun t263 => (spec_l02Next.l0 k a1 y260 t263 0))))
set_option maxHeartbeats 8000000 in
set_option maxRecDepth 100000 in
theorem spec_l02Next.calls (k : Nat) (A0 : Option Addr) (c0 : Nat) (l0 : List (S73)) (a1 : Int) (r : List Int) (w : World) (hr0 : Kd.C k73 w A0 l0.length l0) (hc0 : l0.length ≤ c0) (h : spec_l02Next.f k l0 a1 = some r) :
  Calls Try.prog 180 #[.slice A0 l0.length c0, .int .i64 a1] w fun e w' => ∃ v0_ : Value, e = .returned (v0_) ∧ Kd.R (Kd.int .i64) 2 w' w.heap.size (fun _ => True) v0_ r ∧ Below w.heap.size w w' := by
 have HR0 := Aside0.mk hr0
 have HC0 := Aside0.mk hc0
 clear hr0 hc0
 have HB := Aside0.mk (Below.refl w.heap.size w)
 have H : ((spec_l02High.f k l0 a1).bind fun t259 => ((some (([] : List Int) : List Int)).bind fun y260 => (if t259 = 0 then (some y260) else ((spec_l01Below.f k t259).bind fun t263 => (spec_l02Next.l0 k a1 y260 t263 0))))) = some r := h
 clear h
 replace H := Option.bind_eq_some_iff.mp H
 obtain ⟨t259, A30, H⟩ := H
 try dsimp only at H
 have A3 := Aside0.mk A30
 clear A30
 obtain ⟨y260, hy260⟩ : ∃ y_ : List Int, y_ = (([] : List Int)) := ⟨_, rfl⟩
 replace H : (if t259 = 0 then (some y260) else ((spec_l01Below.f k t259).bind fun t263 => (spec_l02Next.l0 k a1 y260 t263 0))) = some r := by first | (rw [hy260]; with_reducible exact H) | (have H2_ := (Option.bind_some _ _).symm.trans H; rw [hy260]; with_reducible exact H2_) | (have H2_ := (Option.bind_some _ _).symm.trans H; with_reducible exact H2_) | with_reducible exact H | (rw [hy260]; exact H) | exact H
 have Ny260 := Aside0.mk hy260
 clear hy260
 by_cases c4 : t259 = 0
 ·rw [if_pos c4] at H
  have c4b0 : (t259 == 0) = true := beq_iff_eq.mpr c4
  have c4b1 : (t259 != 0) = false := bne_eq_false_iff_eq.mpr c4
  clear c4
  obtain rfl := Option.some.inj H
  go_enter Try.func180, Try.ntmps180
  go_wp2_with (first | ((with_reducible refine gate_callee (f := 197) rfl ?_); refine cl_ (some 11) Try.func197 #[.slice A0 l0.length c0, .int .i64 a1] ?_; (with_reducible refine (spec_l02High.calls k _ _ l0 a1 t259 _ ?side1 ?side2 A3.out).mono ?_); (case side1 => exact pC (HR0.out)); (case side2 => exact HC0.out); rintro e w' ⟨rfl, ⟨nd, rfl⟩⟩; refine ⟨_, rfl, ?_⟩) | ((with_reducible refine gate_dst (N := 12) rfl ?_); refine Kd.R_lit (Kd.int .i64) _ 2 ?hg (N := 12) ?hd (xs := ([] : List Int)) (inner := []) (ok := fun _ => True) (okp := fun _ => True) ?hr ?hp (fun _ hk => hk) trivial (Below.refl _ _) (Nat.le_refl _) (by simp) ?_; (case hd => rfl); (case hg => rfl); (case hr => first | (go_simp; done) | (go_simp; rfl)); (case hp => exact (Reps.none _ _)); intro v261 w5 ho6 hb hg_ hnew_; clear hg_ hnew_; (first | rw [← Ny260.out] at ho6 | (simp only [Int.reduceToNat] at ho6; rw [← Ny260.out] at ho6)); have HO262 := Aside0.mk (Kd.R_lower ho6 (below_size (pH HB))); replace HB := sH HB hb; clear hb ho6))
  go_ret
  exact ⟨_, by first | rfl | (simp [errW_none, errW_some] <;> rfl) | (simp [*, errW_none, errW_some] <;> rfl) | (exfalso; simp_all), by (with_reducible repeat (first | apply Kd.R_alloc | apply Kd.R_drewN | apply Kd.R_drew)); exact HO262.out, pH HB⟩
 ·rw [if_neg c4] at H
  have c4b0 : (t259 == 0) = false := beq_eq_false_iff_ne.mpr c4
  have c4b1 : (t259 != 0) = true := bne_iff_ne.mpr c4
  replace H := Option.bind_eq_some_iff.mp H
  obtain ⟨t263, A70, H⟩ := H
  try dsimp only at H
  have A7 := Aside0.mk A70
  clear A70
  have H' := Aside0.mk H
  clear H
  go_enter Try.func180, Try.ntmps180
  go_wp2_with (first | ((with_reducible refine gate_callee (f := 197) rfl ?_); refine cl_ (some 11) Try.func197 #[.slice A0 l0.length c0, .int .i64 a1] ?_; (with_reducible refine (spec_l02High.calls k _ _ l0 a1 t259 _ ?side1 ?side2 A3.out).mono ?_); (case side1 => exact pC (HR0.out)); (case side2 => exact HC0.out); rintro e w' ⟨rfl, ⟨nd, rfl⟩⟩; refine ⟨_, rfl, ?_⟩) | ((with_reducible refine gate_dst (N := 12) rfl ?_); refine Kd.R_lit (Kd.int .i64) _ 2 ?hg (N := 12) ?hd (xs := ([] : List Int)) (inner := []) (ok := fun _ => True) (okp := fun _ => True) ?hr ?hp (fun _ hk => hk) trivial (Below.refl _ _) (Nat.le_refl _) (by simp) ?_; (case hd => rfl); (case hg => rfl); (case hr => first | (go_simp; done) | (go_simp; rfl)); (case hp => exact (Reps.none _ _)); intro v261 w8 ho9 hb hg_ hnew_; clear hg_ hnew_; (first | rw [← Ny260.out] at ho9 | (simp only [Int.reduceToNat] at ho9; rw [← Ny260.out] at ho9)); have HO262 := Aside0.mk (Kd.R_lower ho9 (below_size (pH HB))); replace HB := sH HB hb; clear hb ho9) | ((with_reducible refine gate_callee (f := 101) rfl ?_); refine cl_ (some 17) Try.func101 #[.int .i64 t259] ?_; (with_reducible refine (spec_l01Below.calls k t259 t263 _ A7.out).mono ?_); rintro e w10 ⟨v264, rfl, ho0, hb⟩; refine ⟨_, rfl, ?_⟩; have HO265 := Aside0.mk (Kd.R_lower (Kd.R_new' ho0 (Kd.R_lt (pR HO262))) (below_size (pH HB))); replace HO262 := Aside0.mk (Kd.R_elder' (pR HO262) (Kd.R_base ho0) hb); replace HB := sH HB hb; (try clear hb); (try clear hi); (try clear ho0)))
  go_loopg [6, 8] k (fun kq v6 v8 w' => ∃ (x6_1 : List Int) (x8_1 : Int), v8 = .int .i64 x8_1 ∧ Aside0 (spec_l02Next.l0 kq a1 x6_1 t263 x8_1 = some r) ∧ Aside0 (kq ≤ k) ∧ Aside0 (Kd.R (Kd.int .i64) 2 w' w.heap.size (fun k_ => some k_ ≠ (v264 : Value).ownBlock) v6 x6_1) ∧ Aside0 (Kd.R (Kd.int .i64) 2 w' w.heap.size (fun k_ => some k_ ≠ (v6 : Value).ownBlock) v264 t263) ∧ Aside0 (Below w.heap.size w w'))
  case atStart => exact ⟨(y260), (0), (by first | rfl | (simp; done) | (simp [*]; done)), H', ⟨Nat.le_refl _⟩, ⟨by (with_reducible repeat (first | apply Kd.R_alloc | apply Kd.R_drewN | apply Kd.R_drew)); exact Kd.R_mono HO262.out (fun _ hk => hk.2)⟩, ⟨by (with_reducible repeat (first | apply Kd.R_alloc | apply Kd.R_drewN | apply Kd.R_drew)); exact Kd.R_mono HO265.out (fun _ hk => hk.2)⟩, ⟨pH HB⟩⟩
  case round =>
   clear H'
   try clear c1
   try clear p2
   try clear c4
   try clear c4b0
   try clear c4b1
   try clear c10
   obtain ⟨x6_1, x8_1, rfl, HA, HK1, HO_6, HO_7, HB⟩ := hrel
   cases gk with
   | zero => exact absurd HA.out (by simp [spec_l02Next.l0])
   | succ k1 =>
    have H := HA.out
    clear HA
    simp only [spec_l02Next.l0] at H
    by_cases c11 : x8_1 < (t263.length : Int)
    ·rw [if_pos c11] at H
     have c11b0 : decide (x8_1 < (t263.length : Int)) = true := decide_eq_true c11
     clear c11
     by_cases c12 : 0 ≤ x8_1
     ·rw [if_pos c12] at H
      have c12b0 : decide (0 ≤ x8_1) = true := decide_eq_true c12
      clear c12
      by_cases c13 : (rd t263 x8_1) = a1
      ·rw [if_pos c13] at H
       have c13b0 : ((rd t263 x8_1) == a1) = true := beq_iff_eq.mpr c13
       have c13b1 : ((rd t263 x8_1) != a1) = false := bne_eq_false_iff_eq.mpr c13
       clear c13
       have H' := Aside0.mk H
       clear H
       obtain ⟨Ao14, co14, eo14⟩ := Kd.R_slice HO_7.out
       subst eo14
       have p266 : 0 ≤ (x8_1 : Int) := of_decide_eq_true (by first | (with_reducible assumption) | assumption)
       have q266 : x8_1 < (t263.length : Int) := of_decide_eq_true (by first | (with_reducible assumption) | assumption)
       obtain ⟨ad266, e266, hx266_0⟩ := Kd.at_int (Kd.R_reads' HO_7.out).2.2 x8_1 p266 q266
       cases e266
       replace p266 := eq_true p266
       replace q266 := eq_true q266
       go_wp2
       go_roundg k1
       case measure => have := HK1.out; omega
       case rel => exact ⟨(x6_1), (wrap64 (x8_1 + 1)), (by first | rfl | (simp; done) | (simp [*]; done)), H', ⟨by have := HK1.out; omega⟩, ⟨by (with_reducible repeat (first | apply Kd.R_alloc | apply Kd.R_drewN | apply Kd.R_drew)); exact HO_6.out⟩, ⟨by (with_reducible repeat (first | apply Kd.R_alloc | apply Kd.R_drewN | apply Kd.R_drew)); exact HO_7.out⟩, ⟨pH HB⟩⟩
      ·rw [if_neg c13] at H
       have c13b0 : ((rd t263 x8_1) == a1) = false := beq_eq_false_iff_ne.mpr c13
       have c13b1 : ((rd t263 x8_1) != a1) = true := bne_iff_ne.mpr c13
       by_cases c15 : x6_1.length < 17592186044416
       ·rw [if_pos c15] at H
        have LMc15 := Aside0.mk c15
        clear c15
        obtain ⟨y268, hy268⟩ : ∃ y_ : List Int, y_ = (x6_1 ++ [rd t263 x8_1]) := ⟨_, rfl⟩
        replace H : (spec_l02Next.l0 k1 a1 y268 t263 (wrap64 (x8_1 + 1))) = some r := by first | (rw [hy268]; with_reducible exact H) | (have H2_ := (Option.bind_some _ _).symm.trans H; rw [hy268]; with_reducible exact H2_) | (have H2_ := (Option.bind_some _ _).symm.trans H; with_reducible exact H2_) | with_reducible exact H | (rw [hy268]; exact H) | exact H
        have Ny268 := Aside0.mk hy268
        clear hy268
        have H' := Aside0.mk H
        clear H
        obtain ⟨Ao16, co16, eo16⟩ := Kd.R_slice HO_7.out
        subst eo16
        have p266 : 0 ≤ (x8_1 : Int) := of_decide_eq_true (by first | (with_reducible assumption) | assumption)
        have q266 : x8_1 < (t263.length : Int) := of_decide_eq_true (by first | (with_reducible assumption) | assumption)
        obtain ⟨ad266, e266, hx266_0⟩ := Kd.at_int (Kd.R_reads' HO_7.out).2.2 x8_1 p266 q266
        cases e266
        replace p266 := eq_true p266
        replace q266 := eq_true q266
        have p267 : 0 ≤ (x8_1 : Int) := of_decide_eq_true (by first | (with_reducible assumption) | assumption)
        have q267 : x8_1 < (t263.length : Int) := of_decide_eq_true (by first | (with_reducible assumption) | assumption)
        obtain ⟨ad267, e267, hx267_0⟩ := Kd.at_int (Kd.R_reads' HO_7.out).2.2 x8_1 p267 q267
        obtain rfl : ad266 = ad267 := (by injection e267)
        replace p267 := eq_true p267
        replace q267 := eq_true q267
        go_wp2_with (first | ((with_reducible refine gate_builtin (b := .append) (xs := #[.tmp 30, .tmp 35]) rfl ?_); at_builtin; refine Kd.R_append (Kd.int .i64) (w0 := w) w.heap.size rfl (.tmp 30) (.tmp 35) 22 2 (.int .i64 0) 8 rfl Try.underlying22 info2 rfl (by decide) (by omega) u6 x6_1 (rd t263 x8_1) [.int .i64 (rd t263 x8_1)] (fun k_ => some k_ ≠ (.slice (some ad266) t263.length co16 : Value).ownBlock) (fun _ => False) rfl rfl ?aP (fun _ hk => hk.elim) ?aF ?aO ?aB ?aS ?aL ?_; (case aP => exact rfl); (case aB => exact (pH HB)); (case aF => exact (fun k_ hk => Kd.fresh' (Kd.R_lt (pR HO_7)) k_ hk)); (case aO => exact (pR HO_6)); (case aS => exact (below_size (pH HB))); (case aL => have := LMc15.out; omega); intro v269 w17 ho hb hg hat; rw [← Ny268.out] at ho; have n0_ := Aside0.mk (Kd.R_after (ok := (fun _ => True)) (by (with_reducible repeat (first | apply Kd.R_alloc | apply Kd.R_drewN | apply Kd.R_drew)); exact Kd.R_mono HO_7.out (fun _ hk => ⟨trivial, hk⟩)) hg hat); have n1_ := Aside0.mk (hb); have n2_ := Aside0.mk (ho); clear HO_7; clear HB; clear HO_6; have HO_7 := n0_; have HB := n1_; have HO270 := n2_; clear n0_ n1_ n2_; clear ho hb hg hat))
        go_roundg k1
        case measure => have := HK1.out; omega
        case rel => exact ⟨(y268), (wrap64 (x8_1 + 1)), (by first | rfl | (simp; done) | (simp [*]; done)), H', ⟨by have := HK1.out; omega⟩, ⟨by (with_reducible repeat (first | apply Kd.R_alloc | apply Kd.R_drewN | apply Kd.R_drew)); exact HO270.out⟩, ⟨by (with_reducible repeat (first | apply Kd.R_alloc | apply Kd.R_drewN | apply Kd.R_drew)); exact Kd.R_mono HO_7.out (fun _ hk => hk.2)⟩, ⟨pH HB⟩⟩
       ·rw [if_neg c15] at H
        exact absurd H (by simp)
     ·rw [if_neg c12] at H
      exact absurd H (by simp)
    ·rw [if_neg c11] at H
     have c11b0 : decide (x8_1 < (t263.length : Int)) = false := decide_eq_false c11
     clear c11
     obtain rfl := Option.some.inj H
     obtain ⟨Ao18, co18, eo18⟩ := Kd.R_slice HO_7.out
     subst eo18
     go_wp2
     go_ret
     exact ⟨_, by first | rfl | (simp [errW_none, errW_some] <;> rfl) | (simp [*, errW_none, errW_some] <;> rfl) | (exfalso; simp_all), by (with_reducible repeat (first | apply Kd.R_alloc | apply Kd.R_drewN | apply Kd.R_drew)); exact Kd.R_mono HO_6.out (fun _ hk => trivial), pH HB⟩
end Go.Proofs.Ytomdfjohnmikdaa.QS
namespace Go.Proofs.Ytomdfjohnmikdaa.QS
open Go.Proofs.Ytomdfjohnmikdaa.Cw Go.Proofs.Ytomdfjohnmikdaa.Kp Go.Proofs.Ytomdfjohnmikdaa.Ext Go.RowKit Go.Proofs.YtomdfjohnmikdaaW.PrintWords Go.Proofs.YtomdfjohnmikdaaW.PrintLast Go.Proofs.YtomdfjohnmikdaaW.PrintMore
attribute [local go_sem] max2_int min2_int max_two min_two max_three min_three max_four min_four   -- for this text's walks alone
set_option linter.unusedVariables false
set_option linter.unusedSimpArgs false
def spec_l02Reached.l0 : Nat → List (S73) → List Bool → List Int → Option (List Bool)
 | 0, _, _, _ => none
 | k + 1, x0, x5, x6 => if (x6.length : Int) > 0 then (if 0 ≤ (wrap64 ((x6.length : Int) - 1)) then (if (wrap64 ((x6.length : Int) - 1)) < (x6.length : Int) then (if (wrap64 ((x6.length : Int) - 1)) ≤ (x6.length : Int) then ((some (x6.take ((wrap64 ((x6.length : Int) - 1)) : Int).toNat : List Int)).bind fun y278 => (if 0 ≤ (rd x6 (wrap64 ((x6.length : Int) - 1))) then (if (rd x6 (wrap64 ((x6.length : Int) - 1))) < (x5.length : Int) then (if rdOf false x5 (rd x6 (wrap64 ((x6.length : Int) - 1))) = true then (spec_l02Reached.l0 k x0 x5 y278) else ((spec_l02Next.f k x0 (rd x6 (wrap64 ((x6.length : Int) - 1)))).bind fun t283 => (if y278.length + t283.length < 17592186044416 then (spec_l02Reached.l0 k x0 (x5.set ((rd x6 (wrap64 ((x6.length : Int) - 1))) : Int).toNat true) (y278 ++ t283)) else (none)))) else (none)) else (none))) else (none)) else (none)) else (none)) else (some x5)
def spec_l02Reached.f (k : Nat) (l0 : List (S73)) (a1 : Int) : Option (List Bool) := if 64 ≤ 281474976710656 then ((spec_l02Next.f k l0 a1).bind fun t274 => (spec_l02Reached.l0 k l0 (List.replicate 64 false) t274)) else (none)
set_option maxHeartbeats 8000000 in
set_option maxRecDepth 100000 in
theorem spec_l02Reached.calls (k : Nat) (A0 : Option Addr) (c0 : Nat) (l0 : List (S73)) (a1 : Int) (r : List Bool) (w : World) (hr0 : Kd.C k73 w A0 l0.length l0) (hc0 : l0.length ≤ c0) (h : spec_l02Reached.f k l0 a1 = some r) :
  Calls Try.prog 145 #[.slice A0 l0.length c0, .int .i64 a1] w fun e w' => ∃ v0_ : Value, e = .returned (v0_) ∧ Kd.R Kd.bool 4 w' w.heap.size (fun _ => True) v0_ r ∧ Below w.heap.size w w' := by
 have HR0 := Aside0.mk hr0
 have HC0 := Aside0.mk hc0
 clear hr0 hc0
 have HB := Aside0.mk (Below.refl w.heap.size w)
 have H : (if 64 ≤ 281474976710656 then ((spec_l02Next.f k l0 a1).bind fun t274 => (spec_l02Reached.l0 k l0 (List.replicate 64 false) t274)) else (none)) = some r := h
 clear h
 by_cases c3 : 64 ≤ 281474976710656
 ·rw [if_pos c3] at H
  have c3b0 := eq_true c3
  have c3b1 : decide (64 ≤ 281474976710656) = true := decide_eq_true c3
  clear c3
  obtain ⟨y271, hy271⟩ : ∃ y_ : List Bool, y_ = (List.replicate 64 false) := ⟨_, rfl⟩
  replace H : ((spec_l02Next.f k l0 a1).bind fun t274 => (spec_l02Reached.l0 k l0 y271 t274)) = some r := by first | (rw [hy271]; with_reducible exact H) | (have H2_ := (Option.bind_some _ _).symm.trans H; rw [hy271]; with_reducible exact H2_) | (have H2_ := (Option.bind_some _ _).symm.trans H; with_reducible exact H2_) | with_reducible exact H | (rw [hy271]; exact H) | exact H
  have Ny271 := Aside0.mk hy271
  clear hy271
  replace H := Option.bind_eq_some_iff.mp H
  obtain ⟨t274, A40, H⟩ := H
  try dsimp only at H
  have A4 := Aside0.mk A40
  clear A40
  have H' := Aside0.mk H
  clear H
  go_enter Try.func145, Try.ntmps145
  try go_wp2
  replace HB := dH HB
  refine st_ 6 (S := fun w' => True) (ds := []) trivial (fun hHeld => ?_)
  generalize w.drew = w5 at HB hHeld ⊢
  refine pure_ (i := 1) (N := some 9) (v := ?_) (a' := ?_) (mB 6 2) rfl rfl (by kernel_rfl) (fun _ _ _ h => h) (Or.inl ⟨by rfl, ?_⟩) ?_ ?_
  rotate_left
  ·intro w'
   go_simp
   with_reducible rfl
  rotate_left
  ·simp only [Act.put, List.setIfInBounds_toArray, List.set_cons_zero, List.set_cons_succ, i64_w, i32_w]
   rfl
  refine pure_ (i := 2) (N := some 10) (v := ?_) (a' := ?_) (mB 6 6) rfl rfl (by kernel_rfl) (fun _ _ _ h => h) (Or.inl ⟨by rfl, ?_⟩) ?_ ?_
  rotate_left
  ·intro w'
   go_simp
   with_reducible rfl
  rotate_left
  ·simp only [Act.put, List.setIfInBounds_toArray, List.set_cons_zero, List.set_cons_succ, i64_w, i32_w]
   rfl
  refine join_ (σ := Value × Value) 2 (mB 6 15) (fun s_ => [(8, s_.1), (11, s_.2)]) (fun s_ w' => (Kd.R Kd.bool 4 w' w.heap.size (fun _ => True) s_.1 y271) ∧ (Kd.R (Kd.int .i64) 2 w' w.heap.size (fun _ => True) s_.2 t274) ∧ (Below w.heap.size w w')) ?_ ?_
  rotate_left
  ·intro hCont
   refine two_ (i := 0) (j := 3) (Ni := some 8) (Nj := some 11) (mB 6 7) (mB 6 14) rfl rfl rfl rfl (by kernel_rfl) (by decide) (by decide) (fun K hK => ?_) (fun K hK => ?_)
   ·skip
    refine Kd.R_make_step Kd.bool _ 4 (by rfl) (N := 8) rfl 93 _ _ rfl 64 rfl rfl Try.underlying93 (.bool false) 1 info4 rfl (by decide) (by omega) false (ok := fun _ => True) (okp := fun _ => True) rfl (fun _ hk => hk) trivial (by omega) (by omega) (Below.refl _ _) (Nat.le_refl _) ?_
    intro v272 w6 ho7 hb hg_ hnew_
    clear hg_ hnew_
    (first | rw [← Ny271.out] at ho7 | (simp only [Int.reduceToNat] at ho7; rw [← Ny271.out] at ho7))
    have HO273 := Aside0.mk (Kd.R_lower ho7 (below_size (pH HB)))
    replace HB := sH HB hb
    clear hb ho7
    refine hK.out _ _ trivial (fun hHeld => ?_)
    clear hK K
    refine nm_ ?_
    refine one_ (i := 3) (N := some 11) (mB 6 15) rfl rfl (by kernel_rfl) (by decide) (fun K hK => ?_)
    refine ca_ Try.func180 #[.slice A0 l0.length c0, .int .i64 a1] ?_
    with_reducible refine (spec_l02Next.calls k _ _ l0 a1 t274 _ ?side1 ?side2 A4.out).mono ?_
    (case side1 => exact pC ((Kd.C_below HR0.out HB.out)))
    (case side2 => exact HC0.out)
    rintro e w8 ⟨v275, rfl, ho0, hb⟩
    refine ⟨_, rfl, ?_⟩
    replace HO273 := sR HO273 hb
    have HO276 := Aside0.mk (Kd.R_lower ho0 (below_size (pH HB)))
    replace HB := sH HB hb
    (try clear hb)
    (try clear hb2)
    (try clear hk)
    (try clear hi)
    (try clear ho0)
    refine hK.out _ _ trivial (fun hHeld => ?_)
    clear hK K
    refine nm_ ?_
    exact norm_ (by simp only [putAll, Act.put, List.setIfInBounds_toArray, List.set_cons_zero, List.set_cons_succ]) (hCont (v272, v275) _ ⟨(pR HO273), (pR HO276), (pH HB)⟩)
   ·skip
    refine ca_ Try.func180 #[.slice A0 l0.length c0, .int .i64 a1] ?_
    with_reducible refine (spec_l02Next.calls k _ _ l0 a1 t274 _ ?side1 ?side2 A4.out).mono ?_
    (case side1 => exact pC ((Kd.C_below HR0.out HB.out)))
    (case side2 => exact HC0.out)
    rintro e w6 ⟨v275, rfl, ho0, hb⟩
    refine ⟨_, rfl, ?_⟩
    have HO276 := Aside0.mk (Kd.R_lower ho0 (below_size (pH HB)))
    replace HB := sH HB hb
    (try clear hb)
    (try clear hb2)
    (try clear hk)
    (try clear hi)
    (try clear ho0)
    refine hK.out _ _ trivial (fun hHeld => ?_)
    clear hK K
    refine nm_ ?_
    refine one_ (i := 0) (N := some 8) (mB 6 15) rfl rfl (by kernel_rfl) (by decide) (fun K hK => ?_)
    refine Kd.R_make_step Kd.bool _ 4 (by rfl) (N := 8) rfl 93 _ _ rfl 64 rfl rfl Try.underlying93 (.bool false) 1 info4 rfl (by decide) (by omega) false (ok := fun _ => True) (okp := fun _ => True) rfl (fun _ hk => hk) trivial (by omega) (by omega) (Below.refl _ _) (Nat.le_refl _) ?_
    intro v272 w7 ho8 hb hg_ hnew_
    clear hg_ hnew_
    (first | rw [← Ny271.out] at ho8 | (simp only [Int.reduceToNat] at ho8; rw [← Ny271.out] at ho8))
    replace HO276 := sR HO276 hb
    have HO273 := Aside0.mk (Kd.R_lower ho8 (below_size (pH HB)))
    replace HB := sH HB hb
    clear hb ho8
    refine hK.out _ _ trivial (fun hHeld => ?_)
    clear hK K
    refine nm_ ?_
    exact norm_ (by simp only [putAll, Act.put, List.setIfInBounds_toArray, List.set_cons_zero, List.set_cons_succ]) (hCont (v272, v275) _ ⟨(pR HO273), (pR HO276), (pH HB)⟩)
  rintro ⟨v272, v275⟩ w9 ⟨h0_, h1_, h2_⟩
  have n0_ : Aside0 (Kd.R Kd.bool 4 w9 w.heap.size (fun _ => True) v272 y271) := ⟨h0_⟩
  have n1_ : Aside0 (Kd.R (Kd.int .i64) 2 w9 w.heap.size (fun _ => True) v275 t274) := ⟨h1_⟩
  have n2_ : Aside0 (Below w.heap.size w w9) := ⟨h2_⟩
  clear HB
  clear h0_ h1_ h2_
  have HO273 := n0_
  have HO276 := n1_
  have HB := n2_
  clear n0_ n1_ n2_
  have hHeld := trivial
  refine norm_ (a' := ?_) ?_ ?_
  rotate_left
  ·simp only [putAll, Act.put, List.setIfInBounds_toArray, List.set_cons_zero, List.set_cons_succ]
   rfl
  refine pure_ (i := 4) (N := some 5) (v := ?_) (a' := ?_) (mB 6 31) rfl rfl (by kernel_rfl) (fun _ _ _ h => h) (Or.inl ⟨by rfl, ?_⟩) ?_ ?_
  rotate_left
  ·intro w'
   go_simp
   with_reducible rfl
  rotate_left
  ·simp only [Act.put, List.setIfInBounds_toArray, List.set_cons_zero, List.set_cons_succ, i64_w, i32_w]
   rfl
  refine pure_ (i := 5) (N := some 6) (v := ?_) (a' := ?_) (mB 6 63) rfl rfl (by kernel_rfl) (fun _ _ _ h => h) (Or.inl ⟨by rfl, ?_⟩) ?_ ?_
  rotate_left
  ·intro w'
   go_simp
   with_reducible rfl
  rotate_left
  ·simp only [Act.put, List.setIfInBounds_toArray, List.set_cons_zero, List.set_cons_succ, i64_w, i32_w]
   rfl
  refine done_ (by kernel_rfl) ?_
  try go_wp2
  go_loopg [6] k (fun kq v6 w' => ∃ (x5_1 : List Bool) (x6_1 : List Int), Aside0 (spec_l02Reached.l0 kq l0 x5_1 x6_1 = some r) ∧ Aside0 (kq ≤ k) ∧ Aside0 (Kd.R Kd.bool 4 w' w.heap.size (fun _ => True) v272 x5_1) ∧ Aside0 (Kd.R (Kd.int .i64) 2 w' w.heap.size (fun _ => True) v6 x6_1) ∧ Aside0 (Below w.heap.size w w'))
  case atStart => exact ⟨(y271), (t274), H', ⟨Nat.le_refl _⟩, ⟨by (with_reducible repeat (first | apply Kd.R_alloc | apply Kd.R_drewN | apply Kd.R_drew)); exact HO273.out⟩, ⟨by (with_reducible repeat (first | apply Kd.R_alloc | apply Kd.R_drewN | apply Kd.R_drew)); exact HO276.out⟩, ⟨pH HB⟩⟩
  case round =>
   clear H'
   try clear c1
   try clear p2
   try clear c3
   try clear c3b0
   try clear c3b1
   obtain ⟨x5_1, x6_1, HA, HK1, HO_5, HO_6, HB⟩ := hrel
   cases gk with
   | zero => exact absurd HA.out (by simp [spec_l02Reached.l0])
   | succ k1 =>
    have H := HA.out
    clear HA
    simp only [spec_l02Reached.l0] at H
    by_cases c10 : (x6_1.length : Int) > 0
    ·rw [if_pos c10] at H
     have c10b0 : decide (0 < (x6_1.length : Int)) = true := decide_eq_true c10
     have c10b1 : decide (0 < x6_1.length) = true := decide_eq_true (by omega)
     clear c10
     obtain ⟨ji11, hji11⟩ : ∃ j_ : Int, (wrap64 ((x6_1.length : Int) - 1)) = j_ := ⟨_, rfl⟩
     replace H : (if 0 ≤ (ji11) then (if (ji11) < (x6_1.length : Int) then (if (ji11) ≤ (x6_1.length : Int) then ((some (x6_1.take ((ji11) : Int).toNat : List Int)).bind fun y278 => (if 0 ≤ (rd x6_1 (ji11)) then (if (rd x6_1 (ji11)) < (x5_1.length : Int) then (if rdOf false x5_1 (rd x6_1 (ji11)) = true then (spec_l02Reached.l0 k1 l0 x5_1 y278) else ((spec_l02Next.f k1 l0 (rd x6_1 (ji11))).bind fun t283 => (if y278.length + t283.length < 17592186044416 then (spec_l02Reached.l0 k1 l0 (x5_1.set ((rd x6_1 (ji11)) : Int).toNat true) (y278 ++ t283)) else (none)))) else (none)) else (none))) else (none)) else (none)) else (none)) = some r := by first | (rw [hji11] at H; exact H) | (simp only [hji11] at H ⊢; exact H)
     have hji11w : (IntKind.i64.wrap ((x6_1.length : Int) - 1)) = ji11 := (i64_w _).trans hji11
     by_cases c12 : 0 ≤ (ji11)
     ·rw [if_pos c12] at H
      have c12b0 : decide (0 ≤ (ji11)) = true := decide_eq_true c12
      clear c12
      by_cases c13 : (ji11) < (x6_1.length : Int)
      ·rw [if_pos c13] at H
       have c13b0 : decide ((ji11) < (x6_1.length : Int)) = true := decide_eq_true c13
       clear c13
       by_cases c14 : (ji11) ≤ (x6_1.length : Int)
       ·rw [if_pos c14] at H
        have c14b0 := eq_true c14
        have c14b1 : decide ((ji11) ≤ (x6_1.length : Int)) = true := decide_eq_true c14
        clear c14
        obtain ⟨y278, hy278⟩ : ∃ y_ : List Int, y_ = (x6_1.take ((ji11) : Int).toNat) := ⟨_, rfl⟩
        replace H : (if 0 ≤ (rd x6_1 (ji11)) then (if (rd x6_1 (ji11)) < (x5_1.length : Int) then (if rdOf false x5_1 (rd x6_1 (ji11)) = true then (spec_l02Reached.l0 k1 l0 x5_1 y278) else ((spec_l02Next.f k1 l0 (rd x6_1 (ji11))).bind fun t283 => (if y278.length + t283.length < 17592186044416 then (spec_l02Reached.l0 k1 l0 (x5_1.set ((rd x6_1 (ji11)) : Int).toNat true) (y278 ++ t283)) else (none)))) else (none)) else (none)) = some r := by first | (rw [hy278]; with_reducible exact H) | (have H2_ := (Option.bind_some _ _).symm.trans H; rw [hy278]; with_reducible exact H2_) | (have H2_ := (Option.bind_some _ _).symm.trans H; with_reducible exact H2_) | with_reducible exact H | (rw [hy278]; exact H) | exact H
        have Ny278 := Aside0.mk hy278
        clear hy278
        by_cases c15 : 0 ≤ (rd x6_1 (ji11))
        ·rw [if_pos c15] at H
         have c15b0 : decide (0 ≤ (rd x6_1 (ji11))) = true := decide_eq_true c15
         clear c15
         by_cases c16 : (rd x6_1 (ji11)) < (x5_1.length : Int)
         ·rw [if_pos c16] at H
          have c16b0 : decide ((rd x6_1 (ji11)) < (x5_1.length : Int)) = true := decide_eq_true c16
          clear c16
          obtain ⟨bq17, hbq17⟩ : ∃ b_ : Bool, b_ = (rdOf false x5_1 (rd x6_1 (ji11))) := ⟨_, rfl⟩
          replace H : (if bq17 = true then (spec_l02Reached.l0 k1 l0 x5_1 y278) else ((spec_l02Next.f k1 l0 (rd x6_1 (ji11))).bind fun t283 => (if y278.length + t283.length < 17592186044416 then (spec_l02Reached.l0 k1 l0 (x5_1.set ((rd x6_1 (ji11)) : Int).toNat true) (y278 ++ t283)) else (none)))) = some r := by rw [← hbq17] at H; exact H
          have Nbq17 := Aside0.mk hbq17
          clear hbq17
          by_cases c18 : bq17 = true
          ·subst c18
           have H1 : (spec_l02Reached.l0 k1 l0 x5_1 y278) = some r := by rw [if_pos rfl] at H; exact H
           clear H
           have H := H1
           clear H1
           have H' := Aside0.mk H
           clear H
           obtain ⟨Ao19, co19, eo19⟩ := Kd.R_slice HO_6.out
           subst eo19
           have p277 : 0 ≤ ((ji11) : Int) := of_decide_eq_true (by first | (with_reducible assumption) | assumption)
           have q277 : (ji11) < (x6_1.length : Int) := of_decide_eq_true (by first | (with_reducible assumption) | assumption)
           obtain ⟨ad277, e277, hx277_0⟩ := Kd.at_int (Kd.R_reads' HO_6.out).2.2 (ji11) p277 q277
           cases e277
           replace p277 := eq_true p277
           replace q277 := eq_true q277
           have q20 : ((ji11) : Int) ≤ ((x6_1.length : Int) : Int) := of_decide_eq_true (by first | (with_reducible assumption) | assumption)
           obtain ⟨i020, hi020, _, hsz20, _⟩ := info_parts info2
           have hcut20 := cut_to (P := Try.prog) 22 2 .i64 Try.underlying22 hi020 (some ad277) x6_1.length co19 (ji11) (of_decide_eq_true (by first | (with_reducible assumption) | assumption)) q20 (Kd.R_reads' HO_6.out).2.1
           have hr20 := Kd.R_take (m := ((ji11) : Int).toNat) HO_6.out (by omega)
           have hy20 : y278.length = ((ji11) : Int).toNat := (by rw [Ny278.out, List.length_take]; omega)
           rw [← Ny278.out] at hr20
           rw [← hy20] at hr20 hcut20
           clear hy20 hi020 hsz20 HO_6
           have HO280 := Aside0.mk hr20
           clear hr20
           replace q20 := eq_true q20
           obtain ⟨Ao21, co21, eo21⟩ := Kd.R_slice HO_5.out
           subst eo21
           have p281 : 0 ≤ ((rd x6_1 (ji11)) : Int) := of_decide_eq_true (by first | (with_reducible assumption) | assumption)
           have q281 : (rd x6_1 (ji11)) < (x5_1.length : Int) := of_decide_eq_true (by first | (with_reducible assumption) | assumption)
           obtain ⟨ad281, e281, hx281_0⟩ := Kd.at_bool (Kd.R_reads' HO_5.out).2.2 (rd x6_1 (ji11)) p281 q281
           (try rw [← Nbq17.out] at hx281_0)
           cases e281
           replace p281 := eq_true p281
           replace q281 := eq_true q281
           go_wp2
           go_roundg k1
           case measure => have := HK1.out; omega
           case rel => exact ⟨(x5_1), (y278), H', ⟨by have := HK1.out; omega⟩, ⟨by (with_reducible repeat (first | apply Kd.R_alloc | apply Kd.R_drewN | apply Kd.R_drew)); exact HO_5.out⟩, ⟨by (with_reducible repeat (first | apply Kd.R_alloc | apply Kd.R_drewN | apply Kd.R_drew)); exact HO280.out⟩, ⟨pH HB⟩⟩
          ·replace c18 := Bool.eq_false_iff.mpr c18
           subst c18
           have H1 : ((spec_l02Next.f k1 l0 (rd x6_1 (ji11))).bind fun t283 => (if y278.length + t283.length < 17592186044416 then (spec_l02Reached.l0 k1 l0 (x5_1.set ((rd x6_1 (ji11)) : Int).toNat true) (y278 ++ t283)) else (none))) = some r := by rw [if_neg (show ¬ (false = true) by decide)] at H; exact H
           clear H
           have H := H1
           clear H1
           obtain ⟨y282, hy282⟩ : ∃ y_ : List Bool, y_ = (x5_1.set ((rd x6_1 (ji11)) : Int).toNat true) := ⟨_, rfl⟩
           replace H : ((spec_l02Next.f k1 l0 (rd x6_1 (ji11))).bind fun t283 => (if y278.length + t283.length < 17592186044416 then (spec_l02Reached.l0 k1 l0 y282 (y278 ++ t283)) else (none))) = some r := by first | (rw [hy282]; with_reducible exact H) | (have H2_ := (Option.bind_some _ _).symm.trans H; rw [hy282]; with_reducible exact H2_) | (have H2_ := (Option.bind_some _ _).symm.trans H; with_reducible exact H2_) | with_reducible exact H | (rw [hy282]; exact H) | exact H
           have Ny282 := Aside0.mk hy282
           clear hy282
           replace H := Option.bind_eq_some_iff.mp H
           obtain ⟨t283, A230, H⟩ := H
           try dsimp only at H
           have A23 := Aside0.mk A230
           clear A230
           by_cases c24 : y278.length + t283.length < 17592186044416
           ·rw [if_pos c24] at H
            have LMc24 := Aside0.mk c24
            clear c24
            obtain ⟨y286, hy286⟩ : ∃ y_ : List Int, y_ = (y278 ++ t283) := ⟨_, rfl⟩
            replace H : (spec_l02Reached.l0 k1 l0 y282 y286) = some r := by first | (rw [hy286]; with_reducible exact H) | (have H2_ := (Option.bind_some _ _).symm.trans H; rw [hy286]; with_reducible exact H2_) | (have H2_ := (Option.bind_some _ _).symm.trans H; with_reducible exact H2_) | with_reducible exact H | (rw [hy286]; exact H) | exact H
            have Ny286 := Aside0.mk hy286
            clear hy286
            have H' := Aside0.mk H
            clear H
            obtain ⟨Ao25, co25, eo25⟩ := Kd.R_slice HO_6.out
            subst eo25
            have p277 : 0 ≤ ((ji11) : Int) := of_decide_eq_true (by first | (with_reducible assumption) | assumption)
            have q277 : (ji11) < (x6_1.length : Int) := of_decide_eq_true (by first | (with_reducible assumption) | assumption)
            obtain ⟨ad277, e277, hx277_0⟩ := Kd.at_int (Kd.R_reads' HO_6.out).2.2 (ji11) p277 q277
            cases e277
            replace p277 := eq_true p277
            replace q277 := eq_true q277
            have q26 : ((ji11) : Int) ≤ ((x6_1.length : Int) : Int) := of_decide_eq_true (by first | (with_reducible assumption) | assumption)
            obtain ⟨i026, hi026, _, hsz26, _⟩ := info_parts info2
            have hcut26 := cut_to (P := Try.prog) 22 2 .i64 Try.underlying22 hi026 (some ad277) x6_1.length co25 (ji11) (of_decide_eq_true (by first | (with_reducible assumption) | assumption)) q26 (Kd.R_reads' HO_6.out).2.1
            have hr26 := Kd.R_take (m := ((ji11) : Int).toNat) HO_6.out (by omega)
            have hy26 : y278.length = ((ji11) : Int).toNat := (by rw [Ny278.out, List.length_take]; omega)
            rw [← Ny278.out] at hr26
            rw [← hy26] at hr26 hcut26
            clear hy26 hi026 hsz26 HO_6
            have HO280 := Aside0.mk hr26
            clear hr26
            replace q26 := eq_true q26
            obtain ⟨Ao27, co27, eo27⟩ := Kd.R_slice HO_5.out
            subst eo27
            have p281 : 0 ≤ ((rd x6_1 (ji11)) : Int) := of_decide_eq_true (by first | (with_reducible assumption) | assumption)
            have q281 : (rd x6_1 (ji11)) < (x5_1.length : Int) := of_decide_eq_true (by first | (with_reducible assumption) | assumption)
            obtain ⟨ad281, e281, hx281_0⟩ := Kd.at_bool (Kd.R_reads' HO_5.out).2.2 (rd x6_1 (ji11)) p281 q281
            (try rw [← Nbq17.out] at hx281_0)
            cases e281
            replace p281 := eq_true p281
            replace q281 := eq_true q281
            have p22 : 0 ≤ ((rd x6_1 (ji11)) : Int) := of_decide_eq_true (by first | (with_reducible assumption) | assumption)
            have q22 : ((rd x6_1 (ji11)) : Int) < ((x5_1.length : Int) : Int) := of_decide_eq_true (by first | (with_reducible assumption) | assumption)
            obtain ⟨go22, co22, eo22, gb22, gl22, cl22, HG22⟩ := Kd.R_form HO_5.out (by omega)
            (first | cases eo22 | (injection eo22 with ea_ en_ ec_; (first | subst ea_ | (injection ea_ with ea_; subst ea_)); subst ec_; clear en_))
            have GB22 := Aside0.mk gb22
            have GG22 := Aside0.mk HG22
            clear gb22 gl22 HG22
            (first | simp only [add_plain] at hx281_0 | skip)
            obtain ⟨hx22_0, hf22_0⟩ := Kd.R_celln false HO_5.out ((rd x6_1 (ji11)) : Int) p22 q22
            replace p22 := eq_true p22
            replace q22 := eq_true q22
            have HP28 := Kd.R_putg HO_5.out ((rd x6_1 (ji11)) : Int) true
            go_wp2_with (first | ((with_reducible refine gate_store (t := 4) (p := 32) rfl ?_); refine store_event (t := 4) (p := 32) (v := ?vo_w29) (w1 := (wr.setCell ⟨go22, ((rd x6_1 (ji11)) : Int).toNat, none⟩ (.bool true))) ?hg ?ho ?hn ?hr ?_; (case ho => rfl); (case hg => rfl); (case hn => rfl); (case hr => first | (go_simp; done) | (go_simp; rfl)); intro w29 hw; have hg : wr.grownBy w29 (some go22) := (by rw [hw]; exact HP28.2); have hp_ : Kd.R Kd.bool 4 w29 w.heap.size (fun _ => True) (.slice (some ⟨go22, 0, none⟩) x5_1.length co27) y282 := (by rw [hw, Ny282.out]; exact HP28.1); clear HP28; have n0_ := Aside0.mk (hp_); have n1_ := Aside0.mk (Kd.R_over' (v := (.slice (some ⟨go22, 0, none⟩) x5_1.length co27)) (pR HO280) (Kd.R_typed HO_5.out) (by decide) hg); have n2_ := Aside0.mk ((by rw [hw]; exact below_set (HB.out) GB22.out : Below w.heap.size w w29)); clear HO_5; clear HO280; clear HB; have HO_5 := n0_; have HO280 := n1_; have HB := n2_; clear n0_ n1_ n2_; clear hg hw hp_) | ((with_reducible refine gate_callee (f := 180) rfl ?_); refine cl_ (some 36) Try.func180 #[.slice A0 l0.length c0, .int .i64 (rd x6_1 (ji11))] (hargs := by (try simp only [List.map_toArray, List.map_cons, List.map_nil]); first | done | (simp only [hji11]; rfl) | rfl | (simp only [List.length_drop, List.length_take]; rfl)) ?_; (with_reducible refine (spec_l02Next.calls k1 _ _ l0 (rd x6_1 (ji11)) t283 _ ?side1 ?side2 A23.out).mono ?_); (case side1 => exact pC ((Kd.C_below HR0.out HB.out))); (case side2 => exact HC0.out); rintro e w30 ⟨v284, rfl, ho0, hb⟩; refine ⟨_, rfl, ?_⟩; replace HO_5 := sR HO_5 hb; have HO285 := Aside0.mk (Kd.R_lower (Kd.R_new' ho0 (Kd.R_lt (pR HO280))) (below_size (pH HB))); replace HO280 := Aside0.mk (Kd.R_elder' (pR HO280) (Kd.R_base ho0) hb); replace HB := sH HB hb; (try clear hb); (try clear hi); (try clear ho0); obtain ⟨Ao32, co32, eo32⟩ := Kd.R_slice HO285.out; subst eo32) | ((with_reducible refine gate_builtin (b := .append) (xs := #[.tmp 33, .tmp 36]) rfl ?_); at_builtin; refine Kd.R_append_rows (Kd.int .i64) (w0 := w) w.heap.size rfl (.tmp 33) (.tmp 36) 22 2 (.int .i64 0) 8 rfl Try.underlying22 info2 rfl (by decide) (by omega) (.slice (some ad277) y278.length co25) y278 t283 _ _ _ (fun k_ => some k_ ≠ (.slice Ao32 t283.length co32 : Value).ownBlock) (fun _ => False) rfl rfl ?aO ?aR (fun _ _ h => h) (fun _ h => h.elim) ?aF ?aB ?aS ?aL ?_; (case aR => exact pC ((Kd.R_reads' HO285.out).2.2)); (case aB => exact (pH HB)); (case aF => exact (fun k_ hk => Kd.fresh' (Kd.R_lt (pR HO285)) k_ hk)); (case aO => exact (by (with_reducible repeat (first | apply Kd.R_alloc | apply Kd.R_drewN | apply Kd.R_drew)); exact Kd.R_mono HO280.out (fun _ hk => hk.2))); (case aS => exact (below_size (pH HB))); (case aL => have := LMc24.out; omega); intro v287 w31 ho hb hg hat; rw [← Ny286.out] at ho; replace HO_5 := Aside0.mk (Kd.R_over' (pR HO_5) (Kd.R_typed (pR HO280)) (by decide) hg); replace HO285 := Aside0.mk (Kd.R_after (ok := (fun _ => True)) (pR HO285) hg hat); replace HB := Aside0.mk (hb); have HO288 := Aside0.mk (ho); clear HO280; clear ho hb hg hat))
            go_roundg k1
            case measure => have := HK1.out; omega
            case rel => exact ⟨(y282), (y286), H', ⟨by have := HK1.out; omega⟩, ⟨by (with_reducible repeat (first | apply Kd.R_alloc | apply Kd.R_drewN | apply Kd.R_drew)); exact HO_5.out⟩, ⟨by (with_reducible repeat (first | apply Kd.R_alloc | apply Kd.R_drewN | apply Kd.R_drew)); exact Kd.R_mono HO288.out (fun _ hk => trivial)⟩, ⟨pH HB⟩⟩
           ·rw [if_neg c24] at H
            exact absurd H (by simp)
         ·rw [if_neg c16] at H
          exact absurd H (by simp)
        ·rw [if_neg c15] at H
         exact absurd H (by simp)
       ·rw [if_neg c14] at H
        exact absurd H (by simp)
      ·rw [if_neg c13] at H
       exact absurd H (by simp)
     ·rw [if_neg c12] at H
      exact absurd H (by simp)
    ·rw [if_neg c10] at H
     have c10b0 : decide (0 < (x6_1.length : Int)) = false := decide_eq_false c10
     have c10b1 : decide (0 < x6_1.length) = false := decide_eq_false (by omega)
     clear c10
     obtain rfl := Option.some.inj H
     obtain ⟨Ao33, co33, eo33⟩ := Kd.R_slice HO_6.out
     subst eo33
     go_wp2
     go_ret
     exact ⟨_, by first | rfl | (simp [errW_none, errW_some] <;> rfl) | (simp [*, errW_none, errW_some] <;> rfl) | (exfalso; simp_all), by (with_reducible repeat (first | apply Kd.R_alloc | apply Kd.R_drewN | apply Kd.R_drew)); exact HO_5.out, pH HB⟩
 ·rw [if_neg c3] at H
  exact absurd H (by simp)
end Go.Proofs.Ytomdfjohnmikdaa.QS
namespace Go.Proofs.Ytomdfjohnmikdaa.QS
open Go.Proofs.Ytomdfjohnmikdaa.Cw Go.Proofs.Ytomdfjohnmikdaa.Kp Go.Proofs.Ytomdfjohnmikdaa.Ext Go.RowKit Go.Proofs.YtomdfjohnmikdaaW.PrintWords Go.Proofs.YtomdfjohnmikdaaW.PrintLast Go.Proofs.YtomdfjohnmikdaaW.PrintMore
attribute [local go_sem] max2_int min2_int max_two min_two max_three min_three max_four min_four   -- for this text's walks alone
set_option linter.unusedVariables false
set_option linter.unusedSimpArgs false
def spec_l02Acyclic.l0 : Nat → List (S73) → Int → Option (Bool)
 | 0, _, _ => none
 | k + 1, x0, x3 => if x3 < (x0.length : Int) then (if 0 ≤ x3 then ((spec_l02Reached.f k x0 ((rd_T73 x0 x3).f0)).bind fun t290 => (if 0 ≤ ((rd_T73 x0 x3).f0) then (if ((rd_T73 x0 x3).f0) < (t290.length : Int) then (if rdOf false t290 ((rd_T73 x0 x3).f0) = true then (some false) else (spec_l02Acyclic.l0 k x0 (wrap64 (x3 + 1)))) else (none)) else (none))) else (none)) else (some true)
def spec_l02Acyclic.f (k : Nat) (l0 : List (S73)) : Option (Bool) := spec_l02Acyclic.l0 k l0 0
def spec_l02Acyclic.T4 : Bool × List (List Nat × List Nat) := (true, [([], []), ([], []), ([], []), ([1, 2], [1, 2]), ([3], [3]), ([4], [4]), ([0, 5], [0, 5]), ([], []), ([], []), ([7, 8], [7, 8]), ([9], [9]), ([10], [10]), ([6, 11], [6, 11]), ([12], [12])])
def spec_l02Acyclic.B4 : List Nat := [0, 0, 0, 6, 14, 30, 63, 0, 0, 384, 896, 1920, 4095, 8191]
theorem spec_l02Acyclic.tab4 : rtab .any (opsOf Try.f97 4) = spec_l02Acyclic.T4 := by kernel_rfl
theorem spec_l02Acyclic.bits4 : waitsOk spec_l02Acyclic.T4.2 spec_l02Acyclic.B4 = true := by kernel_rfl
set_option maxHeartbeats 8000000 in
set_option maxRecDepth 100000 in
theorem spec_l02Acyclic.calls (k : Nat) (A0 : Option Addr) (c0 : Nat) (l0 : List (S73)) (r : Bool) (w : World) (hr0 : Kd.C k73 w A0 l0.length l0) (hc0 : l0.length ≤ c0) (h : spec_l02Acyclic.f k l0 = some r) :
  Calls Try.prog 97 #[.slice A0 l0.length c0] w fun e w' => e = .returned (.bool r) ∧ Below w.heap.size w w' := by
 have HR0 := Aside0.mk hr0
 have HC0 := Aside0.mk hc0
 clear hr0 hc0
 have HB := Aside0.mk (Below.refl w.heap.size w)
 have H : (spec_l02Acyclic.l0 k l0 0) = some r := h
 clear h
 have H' := Aside0.mk H
 clear H
 go_enter Try.func97, Try.ntmps97
 go_wp2
 go_loopg [3] k (fun kq v3 w' => ∃ (x3_1 : Int), v3 = .int .i64 x3_1 ∧ Aside0 (spec_l02Acyclic.l0 kq l0 x3_1 = some r) ∧ Aside0 (kq ≤ k) ∧ Aside0 (Below w.heap.size w w'))
 case atStart => exact ⟨(0), (by first | rfl | (simp; done) | (simp [*]; done)), H', ⟨Nat.le_refl _⟩, ⟨pH HB⟩⟩
 case round =>
  clear H'
  obtain ⟨x3_1, rfl, HA, HK1, HB⟩ := hrel
  cases gk with
  | zero => exact absurd HA.out (by simp [spec_l02Acyclic.l0])
  | succ k1 =>
   have H := HA.out
   clear HA
   simp only [spec_l02Acyclic.l0] at H
   by_cases c2 : x3_1 < (l0.length : Int)
   ·rw [if_pos c2] at H
    have c2b0 : decide (x3_1 < (l0.length : Int)) = true := decide_eq_true c2
    clear c2
    by_cases c3 : 0 ≤ x3_1
    ·rw [if_pos c3] at H
     have c3b0 : decide (0 ≤ x3_1) = true := decide_eq_true c3
     clear c3
     replace H := Option.bind_eq_some_iff.mp H
     obtain ⟨t290, A40, H⟩ := H
     try dsimp only at H
     have A4 := Aside0.mk A40
     clear A40
     by_cases c5 : 0 ≤ ((rd_T73 l0 x3_1).f0)
     ·rw [if_pos c5] at H
      have c5b0 : decide (0 ≤ ((rd_T73 l0 x3_1).f0)) = true := decide_eq_true c5
      clear c5
      by_cases c6 : ((rd_T73 l0 x3_1).f0) < (t290.length : Int)
      ·rw [if_pos c6] at H
       have c6b0 : decide (((rd_T73 l0 x3_1).f0) < (t290.length : Int)) = true := decide_eq_true c6
       clear c6
       obtain ⟨bq7, hbq7⟩ : ∃ b_ : Bool, b_ = (rdOf false t290 ((rd_T73 l0 x3_1).f0)) := ⟨_, rfl⟩
       replace H : (if bq7 = true then (some false) else (spec_l02Acyclic.l0 k1 l0 (wrap64 (x3_1 + 1)))) = some r := by rw [← hbq7] at H; exact H
       have Nbq7 := Aside0.mk hbq7
       clear hbq7
       by_cases c8 : bq7 = true
       ·subst c8
        have H1 : (some false) = some r := by rw [if_pos rfl] at H; exact H
        clear H
        have H := H1
        clear H1
        obtain rfl := Option.some.inj H
        try go_wp2
        replace HB := dH HB
        have p289 : 0 ≤ (x3_1 : Int) := of_decide_eq_true (by first | (with_reducible assumption) | assumption)
        have q289 : x3_1 < (l0.length : Int) := of_decide_eq_true (by first | (with_reducible assumption) | assumption)
        obtain ⟨ad289, e289, hx289_0, hx289_1⟩ := at_T73 HR0.out x3_1 p289 q289
        have hw289_1 := hx289_1
        have hw289_0 := hx289_0
        cases e289
        replace hx289_0 := cH HB hx289_0
        replace hx289_1 := cH HB hx289_1
        replace p289 := eq_true p289
        replace q289 := eq_true q289
        have p293 : 0 ≤ (x3_1 : Int) := of_decide_eq_true (by first | (with_reducible assumption) | assumption)
        have q293 : x3_1 < (l0.length : Int) := of_decide_eq_true (by first | (with_reducible assumption) | assumption)
        obtain ⟨ad293, e293, hx293_0, hx293_1⟩ := at_T73 HR0.out x3_1 p293 q293
        have hw293_1 := hx293_1
        have hw293_0 := hx293_0
        obtain rfl : ad289 = ad293 := (by injection e293)
        replace hx293_0 := cH HB hx293_0
        replace hx293_1 := cH HB hx293_1
        replace p293 := eq_true p293
        replace q293 := eq_true q293
        refine st_ 14 (S := fun w' => w'.cell? (ad289.add ((x3_1).toNat * 2)) = some (.int .i64 ((rd_T73 l0 x3_1).f0)) ∧ w'.cell? ⟨(ad289.add ((x3_1).toNat * 2)).block, (ad289.add ((x3_1).toNat * 2)).off + 1, none⟩ = some (.int .i64 ((rd_T73 l0 x3_1).f1)) ∧ w'.cell? (ad289.add ((x3_1).toNat * 2)) = some (.int .i64 ((rd_T73 l0 x3_1).f0)) ∧ w'.cell? ⟨(ad289.add ((x3_1).toNat * 2)).block, (ad289.add ((x3_1).toNat * 2)).off + 1, none⟩ = some (.int .i64 ((rd_T73 l0 x3_1).f1))) (ds := []) ⟨(cH HB hw289_0 :), (cH HB hw289_1 :), (cH HB hw293_0 :), (cH HB hw293_1 :)⟩ (fun hHeld => ?_); refine with_tabW spec_l02Acyclic.tab4 spec_l02Acyclic.bits4 (fun HT_ HW_ => ?_)
        generalize wr.drew = w9 at HB hx289_0 hx289_1 hx293_0 hx293_1 hHeld ⊢
        refine pu_ 0 10 1 HT_ ?_
        refine pu_ 1 11 3 HT_ ?_
        refine pu_ 2 12 7 HT_ ?_
        refine pu_ 3 13 15 HT_ ?_
        refine pu_ 4 14 31 HT_ ?_
        refine pu_ 7 17 159 HT_ ?_
        refine pu_ 8 18 415 HT_ ?_
        refine pu_ 9 19 927 HT_ ?_
        refine pu_ 10 20 1951 HT_ ?_
        refine tk_ 5 15 1983 HT_ HW_ hHeld ?_
        refine tk_ 11 21 4031 HT_ HW_ hHeld ?_
        refine on_ 6 (some 16) 4095 HT_ (fun K hK => ?_)
        refine ca_ Try.func145 #[.slice (some ad289) l0.length c0, .int .i64 ((rd_T73 l0 x3_1).f0)] ?_
        with_reducible refine (spec_l02Reached.calls k1 _ _ l0 ((rd_T73 l0 x3_1).f0) t290 _ ?side1 ?side2 A4.out).mono ?_
        (case side1 => exact pC ((Kd.C_below HR0.out HB.out)))
        (case side2 => exact HC0.out)
        rintro e w10 ⟨v291, rfl, ho0, hb⟩
        refine ⟨_, rfl, ?_⟩
        have HO292 := Aside0.mk (Kd.R_lower ho0 (below_size (pH HB)))
        replace HB := sH HB hb
        (try clear hb)
        (try clear hb2)
        (try clear hk)
        (try clear hi)
        (try clear ho0)
        obtain ⟨Ao11, co11, eo11⟩ := Kd.R_slice HO292.out
        (first | subst eo11 | (injection eo11 with f1_ f2_ f3_; have f4_ := f1_.symm; have f5_ := f3_.symm; clear f1_ f2_ f3_; subst f4_; subst f5_))
        have p294 : 0 ≤ (((rd_T73 l0 x3_1).f0) : Int) := of_decide_eq_true (by first | (with_reducible assumption) | assumption)
        have q294 : ((rd_T73 l0 x3_1).f0) < (t290.length : Int) := of_decide_eq_true (by first | (with_reducible assumption) | assumption)
        obtain ⟨ad294, e294, hx294_0⟩ := Kd.at_bool (Kd.R_reads' HO292.out).2.2 ((rd_T73 l0 x3_1).f0) p294 q294
        (try rw [← Nbq7.out] at hx294_0)
        cases e294
        replace p294 := eq_true p294
        replace q294 := eq_true q294
        refine hK.out _ _ ⟨(cH HB hw289_0 :), (cH HB hw289_1 :), (cH HB hw293_0 :), (cH HB hw293_1 :)⟩ (fun hHeld => ?_)
        clear hK K
        refine nm_ ?_
        refine pu_ 12 22 8191 HT_ ?_
        refine on_ 13 (some 23) 16383 HT_ (fun K hK => ?_)
        refine value_ (by rfl) rfl (v := .bool true) (w1 := _) (by go_simp; first | done | rfl) ?_
        refine hK.out _ _ hHeld (fun hHeld => ?_)
        clear hK K
        refine nm_ ?_
        refine dn_ HT_ ?_
        try go_wp2
        go_ret
        exact ⟨by first | rfl | (simp [errW_none, errW_some] <;> rfl) | (simp [*, errW_none, errW_some] <;> rfl) | (exfalso; simp_all), pH HB⟩
       ·replace c8 := Bool.eq_false_iff.mpr c8
        subst c8
        have H1 : (spec_l02Acyclic.l0 k1 l0 (wrap64 (x3_1 + 1))) = some r := by rw [if_neg (show ¬ (false = true) by decide)] at H; exact H
        clear H
        have H := H1
        clear H1
        have H' := Aside0.mk H
        clear H
        try go_wp2
        replace HB := dH HB
        have p289 : 0 ≤ (x3_1 : Int) := of_decide_eq_true (by first | (with_reducible assumption) | assumption)
        have q289 : x3_1 < (l0.length : Int) := of_decide_eq_true (by first | (with_reducible assumption) | assumption)
        obtain ⟨ad289, e289, hx289_0, hx289_1⟩ := at_T73 HR0.out x3_1 p289 q289
        have hw289_1 := hx289_1
        have hw289_0 := hx289_0
        cases e289
        replace hx289_0 := cH HB hx289_0
        replace hx289_1 := cH HB hx289_1
        replace p289 := eq_true p289
        replace q289 := eq_true q289
        have p293 : 0 ≤ (x3_1 : Int) := of_decide_eq_true (by first | (with_reducible assumption) | assumption)
        have q293 : x3_1 < (l0.length : Int) := of_decide_eq_true (by first | (with_reducible assumption) | assumption)
        obtain ⟨ad293, e293, hx293_0, hx293_1⟩ := at_T73 HR0.out x3_1 p293 q293
        have hw293_1 := hx293_1
        have hw293_0 := hx293_0
        obtain rfl : ad289 = ad293 := (by injection e293)
        replace hx293_0 := cH HB hx293_0
        replace hx293_1 := cH HB hx293_1
        replace p293 := eq_true p293
        replace q293 := eq_true q293
        refine st_ 14 (S := fun w' => w'.cell? (ad289.add ((x3_1).toNat * 2)) = some (.int .i64 ((rd_T73 l0 x3_1).f0)) ∧ w'.cell? ⟨(ad289.add ((x3_1).toNat * 2)).block, (ad289.add ((x3_1).toNat * 2)).off + 1, none⟩ = some (.int .i64 ((rd_T73 l0 x3_1).f1)) ∧ w'.cell? (ad289.add ((x3_1).toNat * 2)) = some (.int .i64 ((rd_T73 l0 x3_1).f0)) ∧ w'.cell? ⟨(ad289.add ((x3_1).toNat * 2)).block, (ad289.add ((x3_1).toNat * 2)).off + 1, none⟩ = some (.int .i64 ((rd_T73 l0 x3_1).f1))) (ds := []) ⟨(cH HB hw289_0 :), (cH HB hw289_1 :), (cH HB hw293_0 :), (cH HB hw293_1 :)⟩ (fun hHeld => ?_); refine with_tabW spec_l02Acyclic.tab4 spec_l02Acyclic.bits4 (fun HT_ HW_ => ?_)
        generalize wr.drew = w12 at HB hx289_0 hx289_1 hx293_0 hx293_1 hHeld ⊢
        refine pu_ 0 10 1 HT_ ?_
        refine pu_ 1 11 3 HT_ ?_
        refine pu_ 2 12 7 HT_ ?_
        refine pu_ 3 13 15 HT_ ?_
        refine pu_ 4 14 31 HT_ ?_
        refine pu_ 7 17 159 HT_ ?_
        refine pu_ 8 18 415 HT_ ?_
        refine pu_ 9 19 927 HT_ ?_
        refine pu_ 10 20 1951 HT_ ?_
        refine tk_ 5 15 1983 HT_ HW_ hHeld ?_
        refine tk_ 11 21 4031 HT_ HW_ hHeld ?_
        refine on_ 6 (some 16) 4095 HT_ (fun K hK => ?_)
        refine ca_ Try.func145 #[.slice (some ad289) l0.length c0, .int .i64 ((rd_T73 l0 x3_1).f0)] ?_
        with_reducible refine (spec_l02Reached.calls k1 _ _ l0 ((rd_T73 l0 x3_1).f0) t290 _ ?side1 ?side2 A4.out).mono ?_
        (case side1 => exact pC ((Kd.C_below HR0.out HB.out)))
        (case side2 => exact HC0.out)
        rintro e w13 ⟨v291, rfl, ho0, hb⟩
        refine ⟨_, rfl, ?_⟩
        have HO292 := Aside0.mk (Kd.R_lower ho0 (below_size (pH HB)))
        replace HB := sH HB hb
        (try clear hb)
        (try clear hb2)
        (try clear hk)
        (try clear hi)
        (try clear ho0)
        obtain ⟨Ao14, co14, eo14⟩ := Kd.R_slice HO292.out
        (first | subst eo14 | (injection eo14 with f1_ f2_ f3_; have f4_ := f1_.symm; have f5_ := f3_.symm; clear f1_ f2_ f3_; subst f4_; subst f5_))
        have p294 : 0 ≤ (((rd_T73 l0 x3_1).f0) : Int) := of_decide_eq_true (by first | (with_reducible assumption) | assumption)
        have q294 : ((rd_T73 l0 x3_1).f0) < (t290.length : Int) := of_decide_eq_true (by first | (with_reducible assumption) | assumption)
        obtain ⟨ad294, e294, hx294_0⟩ := Kd.at_bool (Kd.R_reads' HO292.out).2.2 ((rd_T73 l0 x3_1).f0) p294 q294
        (try rw [← Nbq7.out] at hx294_0)
        cases e294
        replace p294 := eq_true p294
        replace q294 := eq_true q294
        refine hK.out _ _ ⟨(cH HB hw289_0 :), (cH HB hw289_1 :), (cH HB hw293_0 :), (cH HB hw293_1 :)⟩ (fun hHeld => ?_)
        clear hK K
        refine nm_ ?_
        refine pu_ 12 22 8191 HT_ ?_
        refine on_ 13 (some 23) 16383 HT_ (fun K hK => ?_)
        refine value_ (by rfl) rfl (v := .bool false) (w1 := _) (by go_simp; first | done | rfl) ?_
        refine hK.out _ _ hHeld (fun hHeld => ?_)
        clear hK K
        refine nm_ ?_
        refine dn_ HT_ ?_
        try go_wp2
        go_roundg k1
        case measure => have := HK1.out; omega
        case rel => exact ⟨(wrap64 (x3_1 + 1)), (by first | rfl | (simp; done) | (simp [*]; done)), H', ⟨by have := HK1.out; omega⟩, ⟨pH HB⟩⟩
      ·rw [if_neg c6] at H
       exact absurd H (by simp)
     ·rw [if_neg c5] at H
      exact absurd H (by simp)
    ·rw [if_neg c3] at H
     exact absurd H (by simp)
   ·rw [if_neg c2] at H
    have c2b0 : decide (x3_1 < (l0.length : Int)) = false := decide_eq_false c2
    clear c2
    obtain rfl := Option.some.inj H
    go_wp2
    go_ret
    exact ⟨by first | rfl | (simp [errW_none, errW_some] <;> rfl) | (simp [*, errW_none, errW_some] <;> rfl) | (exfalso; simp_all), pH HB⟩
end Go.Proofs.Ytomdfjohnmikdaa.QS
namespace Go.Proofs.Ytomdfjohnmikdaa.QS
open Go.Proofs.Ytomdfjohnmikdaa.Cw Go.Proofs.Ytomdfjohnmikdaa.Kp Go.Proofs.Ytomdfjohnmikdaa.Ext Go.RowKit Go.Proofs.YtomdfjohnmikdaaW.PrintWords Go.Proofs.YtomdfjohnmikdaaW.PrintLast Go.Proofs.YtomdfjohnmikdaaW.PrintMore
attribute [local go_sem] max2_int min2_int max_two min_two max_three min_three max_four min_four   -- for this text's walks alone
set_option linter.unusedVariables false
set_option linter.unusedSimpArgs false
def spec_l01Ones.l0 : Nat → Int → Int → Option (Int)
 | 0, _, _ => none
 | k + 1, x0, x3 => if x0 > 0 then (spec_l01Ones.l0 k (wrap64 (Int.tdiv x0 2)) (wrap64 (x3 + (Int.tmod x0 2)))) else (some x3)
def spec_l01Ones.f (k : Nat) (a0 : Int) : Option (Int) := spec_l01Ones.l0 k a0 0
theorem spec_l01Ones.mono_l : ∀ k, (∀ y0 y1, LeO (spec_l01Ones.l0 k y0 y1) (spec_l01Ones.l0 (k + 1) y0 y1))
 | 0 => fun _ _ r h => by simp [spec_l01Ones.l0] at h
 | k + 1 => by
  have ih0 := spec_l01Ones.mono_l k
  ·intro y0 y1
   unfold spec_l01Ones.l0
   repeat' first
   | (with_reducible exact ih0 _ _)
   | (with_reducible exact LeO.refl _)
   | (with_reducible exact LeO.none _)
   | (with_reducible refine LeO.ite ?_ ?_)
   | (with_reducible refine LeO.bind ?_ (fun _ => ?_))
   | exact ih0 _ _
   | exact LeO.none _
   | refine LeO.ite ?_ ?_
   | refine LeO.bind ?_ (fun _ => ?_)
theorem spec_l01Ones.mono : ∀ a0 k, LeO (spec_l01Ones.f k a0) (spec_l01Ones.f (k + 1) a0) := by
 intro a0 k
 have ih0 := spec_l01Ones.mono_l k
 unfold spec_l01Ones.f
 repeat' first
   | (with_reducible exact ih0 _ _)
   | (with_reducible exact LeO.refl _)
   | (with_reducible exact LeO.none _)
   | (with_reducible refine LeO.ite ?_ ?_)
   | (with_reducible refine LeO.bind ?_ (fun _ => ?_))
   | exact ih0 _ _
   | exact LeO.none _
   | refine LeO.ite ?_ ?_
   | refine LeO.bind ?_ (fun _ => ?_)
set_option maxHeartbeats 8000000 in
set_option maxRecDepth 100000 in
theorem spec_l01Ones.calls (k : Nat) (a0 : Int) (r : Int) (w : World) (h : spec_l01Ones.f k a0 = some r) :
  Calls Try.prog 129 #[.int .i64 a0] w fun e w' => e = .returned (.int .i64 r) ∧ Drawn0 w w' := by
 have H : (spec_l01Ones.l0 k a0 0) = some r := h
 clear h
 have H' := Aside0.mk H
 clear H
 go_enter Try.func129, Try.ntmps129
 go_wp2
 go_loopg [0, 3] k (fun kq v0 v3 w' => ∃ (x0_1 : Int) (x3_1 : Int), v0 = .int .i64 x0_1 ∧ v3 = .int .i64 x3_1 ∧ Aside0 (spec_l01Ones.l0 kq x0_1 x3_1 = some r) ∧ Aside0 (kq ≤ k) ∧ Drawn0 w w')
 case atStart => exact ⟨(a0), (0), (by first | rfl | (simp; done) | (simp [*]; done)), (by first | rfl | (simp; done) | (simp [*]; done)), H', ⟨Nat.le_refl _⟩, by repeat (first | exact Drawn0.refl _ | apply Drawn0.step)⟩
 case round =>
  clear H'
  try clear c1
  obtain ⟨x0_1, x3_1, rfl, rfl, HA, HK1, ⟨m1, rfl⟩⟩ := hrel
  cases gk with
  | zero => exact absurd HA.out (by simp [spec_l01Ones.l0])
  | succ k1 =>
   have H := HA.out
   clear HA
   simp only [spec_l01Ones.l0] at H
   by_cases c2 : x0_1 > 0
   ·rw [if_pos c2] at H
    have c2b0 : decide (0 < x0_1) = true := decide_eq_true c2
    clear c2
    have H' := Aside0.mk H
    clear H
    go_wp2
    go_roundg k1
    case measure => have := HK1.out; omega
    case rel => exact ⟨(wrap64 (Int.tdiv x0_1 2)), (wrap64 (x3_1 + (Int.tmod x0_1 2))), (by first | rfl | (simp; done) | (simp [*]; done)), (by first | rfl | (simp; done) | (simp [*]; done)), H', ⟨by have := HK1.out; omega⟩, by repeat (first | exact Drawn0.refl _ | apply Drawn0.step)⟩
   ·rw [if_neg c2] at H
    have c2b0 : decide (0 < x0_1) = false := decide_eq_false c2
    clear c2
    obtain rfl := Option.some.inj H
    go_wp2
    go_ret
    exact ⟨by first | rfl | (simp; done) | (simp [*]; done), by repeat (first | exact Drawn0.refl _ | apply Drawn0.step)⟩
end Go.Proofs.Ytomdfjohnmikdaa.QS
namespace Go.Proofs.Ytomdfjohnmikdaa.QS
open Go.Proofs.Ytomdfjohnmikdaa.Cw Go.Proofs.Ytomdfjohnmikdaa.Kp Go.Proofs.Ytomdfjohnmikdaa.Ext Go.RowKit Go.Proofs.YtomdfjohnmikdaaW.PrintWords Go.Proofs.YtomdfjohnmikdaaW.PrintLast Go.Proofs.YtomdfjohnmikdaaW.PrintMore
attribute [local go_sem] max2_int min2_int max_two min_two max_three min_three max_four min_four   -- for this text's walks alone
set_option linter.unusedVariables false
set_option linter.unusedSimpArgs false
def spec_l01Above.l0 : Nat → Int → List Int → Int → Int → List Int → Option (List Int)
 | 0, _, _, _, _, _ => none
 | k + 1, x1, x5, x6, x351000, x351001 => if x6 < (x351001.length : Int) then (if 0 ≤ x6 then (if (Go.bits .and .i64 (rd x351001 x6) x1) = x1 then ((spec_l01Ones.f k (rd x351001 x6)).bind fun t356 => ((spec_l01Ones.f k x1).bind fun t357 => (if t356 = (wrap64 (t357 + 1)) then (if x5.length < 17592186044416 then (spec_l01Above.l0 k x1 (x5 ++ [rd x351001 x6]) (wrap64 (x6 + 1)) x351000 x351001) else (none)) else (spec_l01Above.l0 k x1 x5 (wrap64 (x6 + 1)) x351000 x351001)))) else (spec_l01Above.l0 k x1 x5 (wrap64 (x6 + 1)) x351000 x351001)) else (none)) else (some x5)
def spec_l01Above.f (k : Nat) (a0_0 : Int) (l0_1 : List Int) (a1 : Int) : Option (List Int) := spec_l01Above.l0 k a1 (([] : List Int)) 0 a0_0 l0_1
set_option maxHeartbeats 8000000 in
set_option maxRecDepth 100000 in
theorem spec_l01Above.calls (k : Nat) (a0_0 : Int) (A0_1 : Option Addr) (c0_1 : Nat) (l0_1 : List Int) (a1 : Int) (r : List Int) (w : World) (hr0_1 : Kd.C (Kd.int .i64) w A0_1 l0_1.length l0_1) (hc0_1 : l0_1.length ≤ c0_1) (h : spec_l01Above.f k a0_0 l0_1 a1 = some r) :
  Calls Try.prog 130 #[.agg #[.int .i64 a0_0, .slice A0_1 l0_1.length c0_1], .int .i64 a1] w fun e w' => ∃ v0_ : Value, e = .returned (v0_) ∧ Kd.R (Kd.int .i64) 2 w' w.heap.size (fun _ => True) v0_ r ∧ Below w.heap.size w w' := by
 have hu28 := Try.underlying28
 have HR0_1 := Aside0.mk hr0_1
 have HC0_1 := Aside0.mk hc0_1
 clear hr0_1 hc0_1
 have HB := Aside0.mk (Below.refl w.heap.size w)
 have H : (spec_l01Above.l0 k a1 (([] : List Int)) 0 a0_0 l0_1) = some r := h
 clear h
 obtain ⟨y351, hy351⟩ : ∃ y_ : List Int, y_ = (([] : List Int)) := ⟨_, rfl⟩
 replace H : (spec_l01Above.l0 k a1 y351 0 a0_0 l0_1) = some r := by first | (rw [hy351]; with_reducible exact H) | (have H2_ := (Option.bind_some _ _).symm.trans H; rw [hy351]; with_reducible exact H2_) | (have H2_ := (Option.bind_some _ _).symm.trans H; with_reducible exact H2_) | with_reducible exact H | (rw [hy351]; exact H) | exact H
 have Ny351 := Aside0.mk hy351
 clear hy351
 have H' := Aside0.mk H
 clear H
 go_enter Try.func130, Try.ntmps130
 go_wp2_with (first | ((with_reducible refine gate_dst (N := 2) rfl ?_); refine box_event ?hg (N := 2) ?hd (cs := #[.int .i64 a0_0, .slice A0_1 l0_1.length c0_1]) (t := 28) ?hr ?_; (case hd => rfl); (case hg => rfl); (case hr => first | (go_simp; done) | (go_simp; rfl)); intro gb350 hg w3 hbox hb; have BK350 := Aside0.mk (hbox); have GW350 := gH HB hg; have GE350 := gH HB hg; replace HB := sH HB hb; clear hb hbox hg) | ((with_reducible refine gate_dst (N := 7) rfl ?_); refine Kd.R_lit (Kd.int .i64) _ 2 ?hg (N := 7) ?hd (xs := ([] : List Int)) (inner := []) (ok := fun _ => True) (okp := fun _ => True) ?hr ?hp (fun _ hk => hk) trivial (Below.refl _ _) (Nat.le_refl _) (by simp) ?_; (case hd => rfl); (case hg => rfl); (case hr => first | (go_simp; done) | (go_simp; rfl)); (case hp => exact (Reps.none _ _)); intro v352 w4 ho5 hb hg_ hnew_; clear hg_ hnew_; (first | rw [← Ny351.out] at ho5 | (simp only [Int.reduceToNat] at ho5; rw [← Ny351.out] at ho5)); have HO353 := Aside0.mk (Kd.R_lower ho5 (below_size (pH HB))); replace BK350 := sB BK350 hb; replace HB := sH HB hb; clear hb ho5))
 go_loopg [5, 6] k (fun kq v5 v6 w' => ∃ (x5_1 : List Int) (x6_1 : Int), v6 = .int .i64 x6_1 ∧ Aside0 (spec_l01Above.l0 kq a1 x5_1 x6_1 a0_0 l0_1 = some r) ∧ Aside0 (kq ≤ k) ∧ Aside0 (Kd.R (Kd.int .i64) 2 w' w.heap.size (fun _ => True) v5 x5_1) ∧ Aside0 (w'.heap[gb350]? = some (.cells #[.int .i64 a0_0, (.slice A0_1 l0_1.length c0_1)] 28 (0, 0))) ∧ Aside0 (Below w.heap.size w w'))
 case atStart => exact ⟨(y351), (0), (by first | rfl | (simp; done) | (simp [*]; done)), H', ⟨Nat.le_refl _⟩, ⟨by (with_reducible repeat (first | apply Kd.R_alloc | apply Kd.R_drewN | apply Kd.R_drew)); exact HO353.out⟩, ⟨pB BK350⟩, ⟨pH HB⟩⟩
 case round =>
  clear H'
  try clear c1
  try clear p2
  obtain ⟨x5_1, x6_1, rfl, HA, HK1, HO_5, BK350, HB⟩ := hrel
  cases gk with
  | zero => exact absurd HA.out (by simp [spec_l01Above.l0])
  | succ k1 =>
   have H := HA.out
   clear HA
   simp only [spec_l01Above.l0] at H
   by_cases c6 : x6_1 < (l0_1.length : Int)
   ·rw [if_pos c6] at H
    have c6b0 : decide (x6_1 < (l0_1.length : Int)) = true := decide_eq_true c6
    clear c6
    by_cases c7 : 0 ≤ x6_1
    ·rw [if_pos c7] at H
     have c7b0 : decide (0 ≤ x6_1) = true := decide_eq_true c7
     clear c7
     by_cases c8 : (Go.bits .and .i64 (rd l0_1 x6_1) a1) = a1
     ·rw [if_pos c8] at H
      have c8b0 : ((Go.bits .and .i64 (rd l0_1 x6_1) a1) == a1) = true := beq_iff_eq.mpr c8
      have c8b1 : ((Go.bits .and .i64 (rd l0_1 x6_1) a1) != a1) = false := bne_eq_false_iff_eq.mpr c8
      clear c8
      replace H := Option.bind_eq_some_iff.mp H
      obtain ⟨t356, A90, H⟩ := H
      try dsimp only at H
      have A9 := Aside0.mk A90
      clear A90
      replace H := Option.bind_eq_some_iff.mp H
      obtain ⟨t357, A100, H⟩ := H
      try dsimp only at H
      have A10 := Aside0.mk A100
      clear A100
      by_cases c11 : t356 = (wrap64 (t357 + 1))
      ·rw [if_pos c11] at H
       have c11b0 : (t356 == (wrap64 (t357 + 1))) = true := beq_iff_eq.mpr c11
       have c11b1 : (t356 != (wrap64 (t357 + 1))) = false := bne_eq_false_iff_eq.mpr c11
       clear c11
       by_cases c12 : x5_1.length < 17592186044416
       ·rw [if_pos c12] at H
        have LMc12 := Aside0.mk c12
        clear c12
        obtain ⟨y359, hy359⟩ : ∃ y_ : List Int, y_ = (x5_1 ++ [rd l0_1 x6_1]) := ⟨_, rfl⟩
        replace H : (spec_l01Above.l0 k1 a1 y359 (wrap64 (x6_1 + 1)) a0_0 l0_1) = some r := by first | (rw [hy359]; with_reducible exact H) | (have H2_ := (Option.bind_some _ _).symm.trans H; rw [hy359]; with_reducible exact H2_) | (have H2_ := (Option.bind_some _ _).symm.trans H; with_reducible exact H2_) | with_reducible exact H | (rw [hy359]; exact H) | exact H
        have Ny359 := Aside0.mk hy359
        clear hy359
        have H' := Aside0.mk H
        clear H
        have hcz13_0 : wr.cell? ⟨gb350, 0, none⟩ = some (.int .i64 a0_0) := cB BK350 0
        have hcz13_1 : wr.cell? ⟨gb350, 1, none⟩ = some (.slice A0_1 l0_1.length c0_1) := cB BK350 1
        have hfz13_0 := zB BK350 0
        have hfz13_1 := zB BK350 1
        have p354 : 0 ≤ (x6_1 : Int) := of_decide_eq_true (by first | (with_reducible assumption) | assumption)
        have q354 : x6_1 < (l0_1.length : Int) := of_decide_eq_true (by first | (with_reducible assumption) | assumption)
        obtain ⟨ad354, e354, hx354_0⟩ := Kd.at_int HR0_1.out x6_1 p354 q354
        cases e354
        replace hx354_0 := cH HB hx354_0
        replace p354 := eq_true p354
        replace q354 := eq_true q354
        have p355 : 0 ≤ (x6_1 : Int) := of_decide_eq_true (by first | (with_reducible assumption) | assumption)
        have q355 : x6_1 < (l0_1.length : Int) := of_decide_eq_true (by first | (with_reducible assumption) | assumption)
        obtain ⟨ad355, e355, hx355_0⟩ := Kd.at_int HR0_1.out x6_1 p355 q355
        obtain rfl : ad354 = ad355 := (by injection e355)
        replace hx355_0 := cH HB hx355_0
        replace p355 := eq_true p355
        replace q355 := eq_true q355
        go_wp2_with (first | (go_at_call 129; (with_reducible refine (spec_l01Ones.calls k1 (rd l0_1 x6_1) t356 _ A9.out).mono ?_); rintro e w' ⟨rfl, ⟨nd, rfl⟩⟩) | (go_at_call 129; (with_reducible refine (spec_l01Ones.calls k1 a1 t357 _ A10.out).mono ?_); rintro e w' ⟨rfl, ⟨nd, rfl⟩⟩; have p358 : 0 ≤ (x6_1 : Int) := of_decide_eq_true (by first | (with_reducible assumption) | assumption); have q358 : x6_1 < (l0_1.length : Int) := of_decide_eq_true (by first | (with_reducible assumption) | assumption); obtain ⟨ad358, e358, hx358_0⟩ := Kd.at_int HR0_1.out x6_1 p358 q358; obtain rfl : ad354 = ad358 := (by injection e358); replace hx358_0 := cH HB hx358_0; replace p358 := eq_true p358; replace q358 := eq_true q358) | ((with_reducible refine gate_builtin (b := .append) (xs := #[.tmp 36, .tmp 42]) rfl ?_); at_builtin; refine Kd.R_append (Kd.int .i64) (w0 := w) w.heap.size rfl (.tmp 36) (.tmp 42) 22 2 (.int .i64 0) 8 rfl Try.underlying22 info2 rfl (by decide) (by omega) u5 x5_1 (rd l0_1 x6_1) [.int .i64 (rd l0_1 x6_1)] (fun _ => True) (fun _ => False) rfl rfl ?aP (fun _ hk => hk.elim) ?aF ?aO ?aB ?aS ?aL ?_; (case aP => exact rfl); (case aB => exact (pH HB)); (case aF => exact (fun _ _ => trivial)); (case aO => exact (pR HO_5)); (case aS => exact (below_size (pH HB))); (case aL => have := LMc12.out; omega); intro v360 w14 ho hb hg hat; rw [← Ny359.out] at ho; replace BK350 := Aside0.mk (blk_grown (g := gb350) (o := .cells #[.int .i64 a0_0, .slice (some ad354) l0_1.length c0_1] 28 (0, 0)) (pB BK350) hg (Kd.R_ne HO_5.out BK350.out (by decide))); replace HB := Aside0.mk (hb); have HO361 := Aside0.mk (ho); clear HO_5; clear ho hb hg hat))
        go_roundg k1
        case measure => have := HK1.out; omega
        case rel => exact ⟨(y359), (wrap64 (x6_1 + 1)), (by first | rfl | (simp; done) | (simp [*]; done)), H', ⟨by have := HK1.out; omega⟩, ⟨by (with_reducible repeat (first | apply Kd.R_alloc | apply Kd.R_drewN | apply Kd.R_drew)); exact HO361.out⟩, ⟨pB BK350⟩, ⟨pH HB⟩⟩
       ·rw [if_neg c12] at H
        exact absurd H (by simp)
      ·rw [if_neg c11] at H
       have c11b0 : (t356 == (wrap64 (t357 + 1))) = false := beq_eq_false_iff_ne.mpr c11
       have c11b1 : (t356 != (wrap64 (t357 + 1))) = true := bne_iff_ne.mpr c11
       have H' := Aside0.mk H
       clear H
       have hcz15_0 : wr.cell? ⟨gb350, 0, none⟩ = some (.int .i64 a0_0) := cB BK350 0
       have hcz15_1 : wr.cell? ⟨gb350, 1, none⟩ = some (.slice A0_1 l0_1.length c0_1) := cB BK350 1
       have hfz15_0 := zB BK350 0
       have hfz15_1 := zB BK350 1
       have p354 : 0 ≤ (x6_1 : Int) := of_decide_eq_true (by first | (with_reducible assumption) | assumption)
       have q354 : x6_1 < (l0_1.length : Int) := of_decide_eq_true (by first | (with_reducible assumption) | assumption)
       obtain ⟨ad354, e354, hx354_0⟩ := Kd.at_int HR0_1.out x6_1 p354 q354
       cases e354
       replace hx354_0 := cH HB hx354_0
       replace p354 := eq_true p354
       replace q354 := eq_true q354
       have p355 : 0 ≤ (x6_1 : Int) := of_decide_eq_true (by first | (with_reducible assumption) | assumption)
       have q355 : x6_1 < (l0_1.length : Int) := of_decide_eq_true (by first | (with_reducible assumption) | assumption)
       obtain ⟨ad355, e355, hx355_0⟩ := Kd.at_int HR0_1.out x6_1 p355 q355
       obtain rfl : ad354 = ad355 := (by injection e355)
       replace hx355_0 := cH HB hx355_0
       replace p355 := eq_true p355
       replace q355 := eq_true q355
       go_wp2_with (first | (go_at_call 129; (with_reducible refine (spec_l01Ones.calls k1 (rd l0_1 x6_1) t356 _ A9.out).mono ?_); rintro e w' ⟨rfl, ⟨nd, rfl⟩⟩) | (go_at_call 129; (with_reducible refine (spec_l01Ones.calls k1 a1 t357 _ A10.out).mono ?_); rintro e w' ⟨rfl, ⟨nd, rfl⟩⟩))
       go_roundg k1
       case measure => have := HK1.out; omega
       case rel => exact ⟨(x5_1), (wrap64 (x6_1 + 1)), (by first | rfl | (simp; done) | (simp [*]; done)), H', ⟨by have := HK1.out; omega⟩, ⟨by (with_reducible repeat (first | apply Kd.R_alloc | apply Kd.R_drewN | apply Kd.R_drew)); exact HO_5.out⟩, ⟨pB BK350⟩, ⟨pH HB⟩⟩
     ·rw [if_neg c8] at H
      have c8b0 : ((Go.bits .and .i64 (rd l0_1 x6_1) a1) == a1) = false := beq_eq_false_iff_ne.mpr c8
      have c8b1 : ((Go.bits .and .i64 (rd l0_1 x6_1) a1) != a1) = true := bne_iff_ne.mpr c8
      have H' := Aside0.mk H
      clear H
      have hcz16_0 : wr.cell? ⟨gb350, 0, none⟩ = some (.int .i64 a0_0) := cB BK350 0
      have hcz16_1 : wr.cell? ⟨gb350, 1, none⟩ = some (.slice A0_1 l0_1.length c0_1) := cB BK350 1
      have hfz16_0 := zB BK350 0
      have hfz16_1 := zB BK350 1
      have p354 : 0 ≤ (x6_1 : Int) := of_decide_eq_true (by first | (with_reducible assumption) | assumption)
      have q354 : x6_1 < (l0_1.length : Int) := of_decide_eq_true (by first | (with_reducible assumption) | assumption)
      obtain ⟨ad354, e354, hx354_0⟩ := Kd.at_int HR0_1.out x6_1 p354 q354
      cases e354
      replace hx354_0 := cH HB hx354_0
      replace p354 := eq_true p354
      replace q354 := eq_true q354
      go_wp2
      go_roundg k1
      case measure => have := HK1.out; omega
      case rel => exact ⟨(x5_1), (wrap64 (x6_1 + 1)), (by first | rfl | (simp; done) | (simp [*]; done)), H', ⟨by have := HK1.out; omega⟩, ⟨by (with_reducible repeat (first | apply Kd.R_alloc | apply Kd.R_drewN | apply Kd.R_drew)); exact HO_5.out⟩, ⟨pB BK350⟩, ⟨pH HB⟩⟩
    ·rw [if_neg c7] at H
     exact absurd H (by simp)
   ·rw [if_neg c6] at H
    have c6b0 : decide (x6_1 < (l0_1.length : Int)) = false := decide_eq_false c6
    clear c6
    obtain rfl := Option.some.inj H
    have hcz17_0 : wr.cell? ⟨gb350, 0, none⟩ = some (.int .i64 a0_0) := cB BK350 0
    have hcz17_1 : wr.cell? ⟨gb350, 1, none⟩ = some (.slice A0_1 l0_1.length c0_1) := cB BK350 1
    have hfz17_0 := zB BK350 0
    have hfz17_1 := zB BK350 1
    go_wp2
    go_ret
    exact ⟨_, by first | rfl | (simp [errW_none, errW_some] <;> rfl) | (simp [*, errW_none, errW_some] <;> rfl) | (exfalso; simp_all), by (with_reducible repeat (first | apply Kd.R_alloc | apply Kd.R_drewN | apply Kd.R_drew)); exact HO_5.out, pH HB⟩
end Go.Proofs.Ytomdfjohnmikdaa.QS
namespace Go.Proofs.Ytomdfjohnmikdaa.QS
open Go.Proofs.Ytomdfjohnmikdaa.Cw Go.Proofs.Ytomdfjohnmikdaa.Kp Go.Proofs.Ytomdfjohnmikdaa.Ext Go.RowKit Go.Proofs.YtomdfjohnmikdaaW.PrintWords Go.Proofs.YtomdfjohnmikdaaW.PrintLast Go.Proofs.YtomdfjohnmikdaaW.PrintMore
attribute [local go_sem] max2_int min2_int max_two min_two max_three min_three max_four min_four   -- for this text's walks alone
set_option linter.unusedVariables false
set_option linter.unusedSimpArgs false
def spec_l02Less.f (a0_0 : Int) (a0_1 : Int) (a1_0 : Int) (a1_1 : Int) : Option (Bool) := if a0_0 < a1_0 then (some true) else (if a0_0 = a1_0 then (some (decide (a0_1 < a1_1))) else (some false))
set_option maxHeartbeats 8000000 in
set_option maxRecDepth 100000 in
theorem spec_l02Less.calls (a0_0 : Int) (a0_1 : Int) (a1_0 : Int) (a1_1 : Int) (r : Bool) (w : World) (h : spec_l02Less.f a0_0 a0_1 a1_0 a1_1 = some r) :
  Calls Try.prog 162 #[.agg #[.int .i64 a0_0, .int .i64 a0_1], .agg #[.int .i64 a1_0, .int .i64 a1_1]] w fun e w' => e = .returned (.bool r) ∧ Below w.heap.size w w' := by
 have hu73 := Try.underlying73
 have HB := Aside0.mk (Below.refl w.heap.size w)
 have H : (if a0_0 < a1_0 then (some true) else (if a0_0 = a1_0 then (some (decide (a0_1 < a1_1))) else (some false))) = some r := h
 clear h
 by_cases c3 : a0_0 < a1_0
 ·rw [if_pos c3] at H
  have c3b0 : decide (a0_0 < a1_0) = true := decide_eq_true c3
  clear c3
  obtain rfl := Option.some.inj H
  go_enter Try.func162, Try.ntmps162
  go_wp2_with (first | ((with_reducible refine gate_dst (N := 2) rfl ?_); refine box_event ?hg (N := 2) ?hd (cs := #[.int .i64 a0_0, .int .i64 a0_1]) (t := 73) ?hr ?_; (case hd => rfl); (case hg => rfl); (case hr => first | (go_simp; done) | (go_simp; rfl)); intro gb230 hg w4 hbox hb; have BK230 := Aside0.mk (hbox); have GW230 := gH HB hg; have GE230 := gH HB hg; replace HB := sH HB hb; clear hb hbox hg) | ((with_reducible refine gate_dst (N := 3) rfl ?_); refine box_event ?hg (N := 3) ?hd (cs := #[.int .i64 a1_0, .int .i64 a1_1]) (t := 73) ?hr ?_; (case hd => rfl); (case hg => rfl); (case hr => first | (go_simp; done) | (go_simp; rfl)); intro gb231 hg w5 hbox hb; have BK231 := Aside0.mk (hbox); have GW231 := gH HB hg; have GE231 := gH HB hg; replace HB := sH HB hb; have NB230_231 := nB BK230 hg; have NB231_230 := oB BK230 hg; replace BK230 := sB BK230 hb; clear hb hbox hg; (try have hnb6 := NB230_231.out); (try have hnc6 := NB231_230.out); have hcz7_0 : w5.cell? ⟨gb230, 0, none⟩ = some (.int .i64 a0_0) := cB BK230 0; have hcz7_1 : w5.cell? ⟨gb230, 1, none⟩ = some (.int .i64 a0_1) := cB BK230 1; have hfz7_0 := zB BK230 0; have hfz7_1 := zB BK230 1; have hcz8_0 : w5.cell? ⟨gb231, 0, none⟩ = some (.int .i64 a1_0) := cB BK231 0; have hcz8_1 : w5.cell? ⟨gb231, 1, none⟩ = some (.int .i64 a1_1) := cB BK231 1; have hfz8_0 := zB BK231 0; have hfz8_1 := zB BK231 1))
  go_ret
  exact ⟨by first | rfl | (simp [errW_none, errW_some] <;> rfl) | (simp [*, errW_none, errW_some] <;> rfl) | (exfalso; simp_all), pH HB⟩
 ·rw [if_neg c3] at H
  have c3b0 : decide (a0_0 < a1_0) = false := decide_eq_false c3
  clear c3
  by_cases c9 : a0_0 = a1_0
  ·rw [if_pos c9] at H
   have c9b0 : (a0_0 == a1_0) = true := beq_iff_eq.mpr c9
   have c9b1 : (a0_0 != a1_0) = false := bne_eq_false_iff_eq.mpr c9
   clear c9
   obtain rfl := Option.some.inj H
   go_enter Try.func162, Try.ntmps162
   go_wp2_with (first | ((with_reducible refine gate_dst (N := 2) rfl ?_); refine box_event ?hg (N := 2) ?hd (cs := #[.int .i64 a0_0, .int .i64 a0_1]) (t := 73) ?hr ?_; (case hd => rfl); (case hg => rfl); (case hr => first | (go_simp; done) | (go_simp; rfl)); intro gb230 hg w10 hbox hb; have BK230 := Aside0.mk (hbox); have GW230 := gH HB hg; have GE230 := gH HB hg; replace HB := sH HB hb; clear hb hbox hg) | ((with_reducible refine gate_dst (N := 3) rfl ?_); refine box_event ?hg (N := 3) ?hd (cs := #[.int .i64 a1_0, .int .i64 a1_1]) (t := 73) ?hr ?_; (case hd => rfl); (case hg => rfl); (case hr => first | (go_simp; done) | (go_simp; rfl)); intro gb231 hg w11 hbox hb; have BK231 := Aside0.mk (hbox); have GW231 := gH HB hg; have GE231 := gH HB hg; replace HB := sH HB hb; have NB230_231 := nB BK230 hg; have NB231_230 := oB BK230 hg; replace BK230 := sB BK230 hb; clear hb hbox hg; (try have hnb12 := NB230_231.out); (try have hnc12 := NB231_230.out); have hcz13_0 : w11.cell? ⟨gb230, 0, none⟩ = some (.int .i64 a0_0) := cB BK230 0; have hcz13_1 : w11.cell? ⟨gb230, 1, none⟩ = some (.int .i64 a0_1) := cB BK230 1; have hfz13_0 := zB BK230 0; have hfz13_1 := zB BK230 1; have hcz14_0 : w11.cell? ⟨gb231, 0, none⟩ = some (.int .i64 a1_0) := cB BK231 0; have hcz14_1 : w11.cell? ⟨gb231, 1, none⟩ = some (.int .i64 a1_1) := cB BK231 1; have hfz14_0 := zB BK231 0; have hfz14_1 := zB BK231 1))
   go_ret
   exact ⟨by first | rfl | (simp [errW_none, errW_some] <;> rfl) | (simp [*, errW_none, errW_some] <;> rfl) | (exfalso; simp_all), pH HB⟩
  ·rw [if_neg c9] at H
   have c9b0 : (a0_0 == a1_0) = false := beq_eq_false_iff_ne.mpr c9
   have c9b1 : (a0_0 != a1_0) = true := bne_iff_ne.mpr c9
   obtain rfl := Option.some.inj H
   go_enter Try.func162, Try.ntmps162
   go_wp2_with (first | ((with_reducible refine gate_dst (N := 2) rfl ?_); refine box_event ?hg (N := 2) ?hd (cs := #[.int .i64 a0_0, .int .i64 a0_1]) (t := 73) ?hr ?_; (case hd => rfl); (case hg => rfl); (case hr => first | (go_simp; done) | (go_simp; rfl)); intro gb230 hg w15 hbox hb; have BK230 := Aside0.mk (hbox); have GW230 := gH HB hg; have GE230 := gH HB hg; replace HB := sH HB hb; clear hb hbox hg) | ((with_reducible refine gate_dst (N := 3) rfl ?_); refine box_event ?hg (N := 3) ?hd (cs := #[.int .i64 a1_0, .int .i64 a1_1]) (t := 73) ?hr ?_; (case hd => rfl); (case hg => rfl); (case hr => first | (go_simp; done) | (go_simp; rfl)); intro gb231 hg w16 hbox hb; have BK231 := Aside0.mk (hbox); have GW231 := gH HB hg; have GE231 := gH HB hg; replace HB := sH HB hb; have NB230_231 := nB BK230 hg; have NB231_230 := oB BK230 hg; replace BK230 := sB BK230 hb; clear hb hbox hg; (try have hnb17 := NB230_231.out); (try have hnc17 := NB231_230.out); have hcz18_0 : w16.cell? ⟨gb230, 0, none⟩ = some (.int .i64 a0_0) := cB BK230 0; have hcz18_1 : w16.cell? ⟨gb230, 1, none⟩ = some (.int .i64 a0_1) := cB BK230 1; have hfz18_0 := zB BK230 0; have hfz18_1 := zB BK230 1; have hcz19_0 : w16.cell? ⟨gb231, 0, none⟩ = some (.int .i64 a1_0) := cB BK231 0; have hcz19_1 : w16.cell? ⟨gb231, 1, none⟩ = some (.int .i64 a1_1) := cB BK231 1; have hfz19_0 := zB BK231 0; have hfz19_1 := zB BK231 1))
   go_ret
   exact ⟨by first | rfl | (simp [errW_none, errW_some] <;> rfl) | (simp [*, errW_none, errW_some] <;> rfl) | (exfalso; simp_all), pH HB⟩
end Go.Proofs.Ytomdfjohnmikdaa.QS
namespace Go.Proofs.Ytomdfjohnmikdaa.QS
open Go.Proofs.Ytomdfjohnmikdaa.Cw Go.Proofs.Ytomdfjohnmikdaa.Kp Go.Proofs.Ytomdfjohnmikdaa.Ext Go.RowKit Go.Proofs.YtomdfjohnmikdaaW.PrintWords Go.Proofs.YtomdfjohnmikdaaW.PrintLast Go.Proofs.YtomdfjohnmikdaaW.PrintMore
attribute [local go_sem] max2_int min2_int max_two min_two max_three min_three max_four min_four   -- for this text's walks alone
set_option linter.unusedVariables false
set_option linter.unusedSimpArgs false
def spec_l01Has.l0 : Nat → Int → Int → Int → List Int → Option (Bool)
 | 0, _, _, _, _ => none
 | k + 1, x1, x5, x147000, x147001 => if x5 < (x147001.length : Int) then (if 0 ≤ x5 then (if (rd x147001 x5) = x1 then (some true) else (spec_l01Has.l0 k x1 (wrap64 (x5 + 1)) x147000 x147001)) else (none)) else (some false)
def spec_l01Has.f (k : Nat) (a0_0 : Int) (l0_1 : List Int) (a1 : Int) : Option (Bool) := spec_l01Has.l0 k a1 0 a0_0 l0_1
set_option maxHeartbeats 8000000 in
set_option maxRecDepth 100000 in
theorem spec_l01Has.calls (k : Nat) (a0_0 : Int) (A0_1 : Option Addr) (c0_1 : Nat) (l0_1 : List Int) (a1 : Int) (r : Bool) (w : World) (hr0_1 : Kd.C (Kd.int .i64) w A0_1 l0_1.length l0_1) (hc0_1 : l0_1.length ≤ c0_1) (h : spec_l01Has.f k a0_0 l0_1 a1 = some r) :
  Calls Try.prog 102 #[.agg #[.int .i64 a0_0, .slice A0_1 l0_1.length c0_1], .int .i64 a1] w fun e w' => e = .returned (.bool r) ∧ Below w.heap.size w w' := by
 have hu28 := Try.underlying28
 have HR0_1 := Aside0.mk hr0_1
 have HC0_1 := Aside0.mk hc0_1
 clear hr0_1 hc0_1
 have HB := Aside0.mk (Below.refl w.heap.size w)
 have H : (spec_l01Has.l0 k a1 0 a0_0 l0_1) = some r := h
 clear h
 have H' := Aside0.mk H
 clear H
 go_enter Try.func102, Try.ntmps102
 go_wp2_with (first | ((with_reducible refine gate_dst (N := 2) rfl ?_); refine box_event ?hg (N := 2) ?hd (cs := #[.int .i64 a0_0, .slice A0_1 l0_1.length c0_1]) (t := 28) ?hr ?_; (case hd => rfl); (case hg => rfl); (case hr => first | (go_simp; done) | (go_simp; rfl)); intro gb146 hg w3 hbox hb; have BK146 := Aside0.mk (hbox); have GW146 := gH HB hg; have GE146 := gH HB hg; replace HB := sH HB hb; clear hb hbox hg))
 go_loopg [5] k (fun kq v5 w' => ∃ (x5_1 : Int), v5 = .int .i64 x5_1 ∧ Aside0 (spec_l01Has.l0 kq a1 x5_1 a0_0 l0_1 = some r) ∧ Aside0 (kq ≤ k) ∧ Aside0 (w'.heap[gb146]? = some (.cells #[.int .i64 a0_0, (.slice A0_1 l0_1.length c0_1)] 28 (0, 0))) ∧ Aside0 (Below w.heap.size w w'))
 case atStart => exact ⟨(0), (by first | rfl | (simp; done) | (simp [*]; done)), H', ⟨Nat.le_refl _⟩, ⟨pB BK146⟩, ⟨pH HB⟩⟩
 case round =>
  clear H'
  try clear c1
  try clear p2
  obtain ⟨x5_1, rfl, HA, HK1, BK146, HB⟩ := hrel
  cases gk with
  | zero => exact absurd HA.out (by simp [spec_l01Has.l0])
  | succ k1 =>
   have H := HA.out
   clear HA
   simp only [spec_l01Has.l0] at H
   by_cases c4 : x5_1 < (l0_1.length : Int)
   ·rw [if_pos c4] at H
    have c4b0 : decide (x5_1 < (l0_1.length : Int)) = true := decide_eq_true c4
    clear c4
    by_cases c5 : 0 ≤ x5_1
    ·rw [if_pos c5] at H
     have c5b0 : decide (0 ≤ x5_1) = true := decide_eq_true c5
     clear c5
     by_cases c6 : (rd l0_1 x5_1) = a1
     ·rw [if_pos c6] at H
      have c6b0 : ((rd l0_1 x5_1) == a1) = true := beq_iff_eq.mpr c6
      have c6b1 : ((rd l0_1 x5_1) != a1) = false := bne_eq_false_iff_eq.mpr c6
      clear c6
      obtain rfl := Option.some.inj H
      have hcz7_0 : wr.cell? ⟨gb146, 0, none⟩ = some (.int .i64 a0_0) := cB BK146 0
      have hcz7_1 : wr.cell? ⟨gb146, 1, none⟩ = some (.slice A0_1 l0_1.length c0_1) := cB BK146 1
      have hfz7_0 := zB BK146 0
      have hfz7_1 := zB BK146 1
      have p147 : 0 ≤ (x5_1 : Int) := of_decide_eq_true (by first | (with_reducible assumption) | assumption)
      have q147 : x5_1 < (l0_1.length : Int) := of_decide_eq_true (by first | (with_reducible assumption) | assumption)
      obtain ⟨ad147, e147, hx147_0⟩ := Kd.at_int HR0_1.out x5_1 p147 q147
      cases e147
      replace hx147_0 := cH HB hx147_0
      replace p147 := eq_true p147
      replace q147 := eq_true q147
      go_wp2
      go_ret
      exact ⟨by first | rfl | (simp [errW_none, errW_some] <;> rfl) | (simp [*, errW_none, errW_some] <;> rfl) | (exfalso; simp_all), pH HB⟩
     ·rw [if_neg c6] at H
      have c6b0 : ((rd l0_1 x5_1) == a1) = false := beq_eq_false_iff_ne.mpr c6
      have c6b1 : ((rd l0_1 x5_1) != a1) = true := bne_iff_ne.mpr c6
      have H' := Aside0.mk H
      clear H
      have hcz8_0 : wr.cell? ⟨gb146, 0, none⟩ = some (.int .i64 a0_0) := cB BK146 0
      have hcz8_1 : wr.cell? ⟨gb146, 1, none⟩ = some (.slice A0_1 l0_1.length c0_1) := cB BK146 1
      have hfz8_0 := zB BK146 0
      have hfz8_1 := zB BK146 1
      have p147 : 0 ≤ (x5_1 : Int) := of_decide_eq_true (by first | (with_reducible assumption) | assumption)
      have q147 : x5_1 < (l0_1.length : Int) := of_decide_eq_true (by first | (with_reducible assumption) | assumption)
      obtain ⟨ad147, e147, hx147_0⟩ := Kd.at_int HR0_1.out x5_1 p147 q147
      cases e147
      replace hx147_0 := cH HB hx147_0
      replace p147 := eq_true p147
      replace q147 := eq_true q147
      go_wp2
      go_roundg k1
      case measure => have := HK1.out; omega
      case rel => exact ⟨(wrap64 (x5_1 + 1)), (by first | rfl | (simp; done) | (simp [*]; done)), H', ⟨by have := HK1.out; omega⟩, ⟨pB BK146⟩, ⟨pH HB⟩⟩
    ·rw [if_neg c5] at H
     exact absurd H (by simp)
   ·rw [if_neg c4] at H
    have c4b0 : decide (x5_1 < (l0_1.length : Int)) = false := decide_eq_false c4
    clear c4
    obtain rfl := Option.some.inj H
    have hcz9_0 : wr.cell? ⟨gb146, 0, none⟩ = some (.int .i64 a0_0) := cB BK146 0
    have hcz9_1 : wr.cell? ⟨gb146, 1, none⟩ = some (.slice A0_1 l0_1.length c0_1) := cB BK146 1
    have hfz9_0 := zB BK146 0
    have hfz9_1 := zB BK146 1
    go_wp2
    go_ret
    exact ⟨by first | rfl | (simp [errW_none, errW_some] <;> rfl) | (simp [*, errW_none, errW_some] <;> rfl) | (exfalso; simp_all), pH HB⟩
end Go.Proofs.Ytomdfjohnmikdaa.QS
