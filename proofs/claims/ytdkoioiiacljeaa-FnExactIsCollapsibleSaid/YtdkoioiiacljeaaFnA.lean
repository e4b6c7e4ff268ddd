/- Function values as they are handed to functions: what they answer. -/
import Derived.Test.YtdkoioiiacljeaaPaA
namespace Go.Proofs.Ytdkoioiiacljeaa.Im
set_option linter.unusedVariables false
set_option linter.unusedSimpArgs false
open Go.RowKit Go.Proofs.Ytdkoioiiacljeaa.Kp Go.Proofs.YtdkoioiiacljeaaW.PrintWords Go.Proofs.YtdkoioiiacljeaaW.PrintLast Go.Proofs.YtdkoioiiacljeaaW.PrintMore

/-- A function value that says p of pairs, in each world that has come of w by growth alone. -/
def FnP (P : Program) (fv : Value) (p : Pr → Bool) (w : World) : Prop :=
  ∃ g fs lb, fv = .func (.func g) fs lb ∧ (∀ args w, (callFunc g args).run P w = .ok (.enter g args) w) ∧
    ∀ W (x : Pr), Below w.heap.size w W → Calls P g (fs ++ #[.agg #[.int .i64 x.f0, .int .i64 x.f1]] ++ lb) W fun e w' => e = .returned (.bool (p x)) ∧ Below W.heap.size W w'
theorem FnP.later {P : Program} {fv : Value} {p : Pr → Bool} {w w1 : World} (h : FnP P fv p w) (hb : Below w.heap.size w w1) : FnP P fv p w1 := by
  obtain ⟨g, fs, lb, he, hg, hc⟩ := h
  exact ⟨g, fs, lb, he, hg, fun W x hW => hc W x (hb.trans (hW.mono hb.size))⟩

end Go.Proofs.Ytdkoioiiacljeaa.Im

namespace Go.Proofs.Ytdkoioiiacljeaa.Ext
set_option linter.unusedVariables false
set_option linter.unusedSimpArgs false
open Go.RowKit Go.Proofs.Ytdkoioiiacljeaa.Im Go.Proofs.Ytdkoioiiacljeaa.Kp Go.Proofs.YtdkoioiiacljeaaW.PrintWords Go.Proofs.YtdkoioiiacljeaaW.PrintLast Go.Proofs.YtdkoioiiacljeaaW.PrintMore

/-- What a function value answers: without arguments (0), of a whole number (1), of a pair (2). -/
structure Pred where
  sort : Nat
  u : Bool
  full : Bool
  pI : Int → Bool
  pP : Pr → Bool
def Pred.nul (u : Bool) : Pred := ⟨0, u, true, fun _ => true, fun _ => true⟩
def Pred.int (p : Int → Bool) : Pred := ⟨1, true, true, p, fun _ => true⟩
/-- of faces alone -/
def Pred.face (p : Int → Bool) : Pred := ⟨1, true, false, p, fun _ => true⟩
/-- of which nothing is known -/
def Pred.bad : Pred := ⟨9, true, true, fun _ => true, fun _ => true⟩
def Pred.dom (a : Pred) (x : Int) : Prop := a.full = true ∨ (0 ≤ x ∧ x ≤ 63)
def Pred.pr (p : Pr → Bool) : Pred := ⟨2, true, true, fun _ => true, p⟩
def FnOk (F : Value) (a : Pred) (w : World) : Prop :=
  (a.sort = 0 → FnU Try.prog F a.u w) ∧ (a.sort = 1 → FnB Try.prog F a.dom a.pI w) ∧ (a.sort = 2 → FnP Try.prog F a.pP w)
theorem FnOk.later {F : Value} {a : Pred} {w w1 : World} (h : FnOk F a w) (hb : Below w.heap.size w w1) : FnOk F a w1 :=
  ⟨fun e => (h.1 e).later hb, fun e => (h.2.1 e).later hb, fun e => (h.2.2 e).later hb⟩
theorem FnOk.nul {F : Value} {u : Bool} {w : World} (h : FnU Try.prog F u w) : FnOk F (Pred.nul u) w := ⟨fun _ => h, fun e => (by cases e), fun e => (by cases e)⟩
theorem FnOk.int {F : Value} {p : Int → Bool} {w : World} (h : FnB Try.prog F (fun _ => True) p w) : FnOk F (Pred.int p) w := ⟨fun e => (by cases e), fun _ => (by
    obtain ⟨g, fs, lb, he, hg, hc⟩ := h
    exact ⟨g, fs, lb, he, hg, fun W x hW _ => hc W x hW trivial⟩), fun e => (by cases e)⟩
theorem FnOk.face {F : Value} {p : Int → Bool} {w : World} (h : FnB Try.prog F (fun x => 0 ≤ x ∧ x ≤ 63) p w) : FnOk F (Pred.face p) w := ⟨fun e => (by cases e), fun _ => (by
    obtain ⟨g, fs, lb, he, hg, hc⟩ := h
    exact ⟨g, fs, lb, he, hg, fun W x hW hx => hc W x hW (hx.resolve_left (fun h_ => by cases h_))⟩), fun e => (by cases e)⟩
theorem FnOk.bad (F : Value) (w : World) : FnOk F Pred.bad w := ⟨fun e => (by cases e), fun e => (by cases e), fun e => (by cases e)⟩
theorem FnOk.pr {F : Value} {p : Pr → Bool} {w : World} (h : FnP Try.prog F p w) : FnOk F (Pred.pr p) w := ⟨fun e => (by cases e), fun e => (by cases e), fun _ => h⟩

end Go.Proofs.Ytdkoioiiacljeaa.Ext

/- slices.IndexFunc over pairs. -/
namespace Go.Proofs.Ytdkoioiiacljeaa.Im
set_option linter.unusedVariables false
set_option linter.unusedSimpArgs false
open Go.RowKit Go.Shelf Go.Proofs.Ytdkoioiiacljeaa.Kp Go.Proofs.Ytdkoioiiacljeaa.Ext Go.Proofs.YtdkoioiiacljeaaW.PrintWords Go.Proofs.YtdkoioiiacljeaaW.PrintLast Go.Proofs.YtdkoioiiacljeaaW.PrintMore

def firstP (p : Pr → Bool) (xs : List Pr) : Int := if xs.any p then (xs.findIdx p : Int) else -1
theorem firstP_hit {p : Pr → Bool} {xs : List Pr} {k : Nat} {y : Pr} (hk : k < xs.length) (hy : xs.getD k z70 = y) (hp : p y = true) (hb : ∀ j, j < k → p (xs.getD j z70) = false) : firstP p xs = (k : Int) := by
  have hxk : xs[k] = y := by rw [List.getD_eq_getElem?_getD, List.getElem?_eq_getElem hk] at hy; simpa using hy
  have ha : xs.any p = true := List.any_eq_true.2 ⟨xs[k], List.getElem_mem hk, by rw [hxk]; exact hp⟩
  have hf : xs.findIdx p = k := by
    rw [List.findIdx_eq hk]
    refine ⟨by rw [hxk]; exact hp, fun j hj => ?_⟩
    have := hb j hj
    rw [List.getD_eq_getElem?_getD, List.getElem?_eq_getElem (show j < xs.length by omega)] at this
    simpa using this
  rw [firstP, if_pos ha, hf]
theorem firstP_miss {p : Pr → Bool} {xs : List Pr} (hb : ∀ j, j < xs.length → p (xs.getD j z70) = false) : firstP p xs = -1 := by
  have ha : ¬ xs.any p = true := by
    intro h
    obtain ⟨x, hx, hp⟩ := List.any_eq_true.1 h
    obtain ⟨j, hj, rfl⟩ := List.mem_iff_getElem.1 hx
    have := hb j hj
    rw [List.getD_eq_getElem?_getD, List.getElem?_eq_getElem hj] at this
    simp at this
    rw [this] at hp; cases hp
  rw [firstP, if_neg ha]

set_option maxRecDepth 100000 in
set_option maxHeartbeats 1000000 in
theorem indexPair_c (A : Option Addr) (c : Nat) (xs : List Pr) (fv : Value) (p : Pr → Bool) (w : World) (hr : Kd.C k70 w A xs.length xs) (hf : FnP Try.prog fv p w) (hl : xs.length ≤ 1099511627776) :
    Calls Try.prog 134 #[.slice A xs.length c, fv] w fun e w' => e = .returned (.int .i64 (firstP p xs)) ∧ Below w.heap.size w w' := by
  obtain ⟨g, fs, lb, rfl, eg, hcall⟩ := hf
  have HR := Aside0.mk hr
  have HC := Aside0.mk hcall
  clear hr hcall
  go_enter Try.func134, Try.ntmps134
  go_wp2
  go_loopw [5, 8] (fun _ i wr => ∃ k : Nat, k ≤ xs.length ∧ i = .int .i64 k ∧ Aside0 (Below w.heap.size w wr) ∧ Aside0 (∀ j, j < k → p (xs.getD j z70) = false)) (fun _ i _ => xs.length - (intOf i).toNat)
  case atStart => exact ⟨0, by omega, rfl, ⟨Below.refl _ _⟩, ⟨fun j hj => absurd hj (Nat.not_lt_zero _)⟩⟩
  case round =>
    obtain ⟨k, hk, rfl, hB, hA⟩ := hrel
    by_cases hlt : k < xs.length
    · have hltz : (k : Int) < (xs.length : Int) := by omega
      obtain ⟨ad, rfl, h0, h1⟩ := pair_at (Kd.C_below HR.out hB.out) k hlt
      obtain ⟨y, hy⟩ : ∃ y, xs.getD k z70 = y := ⟨_, rfl⟩
      rw [hy] at h0 h1
      have HY := Aside0.mk hy
      have hcy := HC.out wr y hB.out
      clear hy
      have HCY := Aside0.mk hcy
      clear hcy
      cases hq : p y with
      | true =>
        rw [hq] at HCY
        have HQ := Aside0.mk hq
        clear hq
        go_wp2_with (go_at_fn g; refine HCY.out.mono ?_; rintro e w' ⟨rfl, hb⟩; have HB2 := Aside0.mk hb; clear hb)
        go_ret
        refine ⟨?_, below_in hB.out HB2.out⟩
        rw [firstP_hit hlt HY.out HQ.out hA.out]; rfl
      | false =>
        rw [hq] at HCY
        have HQ := Aside0.mk hq
        clear hq
        go_wp2_with (go_at_fn g; refine HCY.out.mono ?_; rintro e w' ⟨rfl, hb⟩; have HB2 := Aside0.mk hb; clear hb)
        go_roundw
        case measure => simp [intOf]; omega
        case rel =>
          refine ⟨k + 1, by omega, by go_num, ⟨below_in hB.out HB2.out⟩, ⟨fun j hj => ?_⟩⟩
          rcases Nat.lt_or_ge j k with h | h
          · exact hA.out j h
          · obtain rfl : j = k := by omega
            rw [HY.out]; exact HQ.out
    · obtain rfl : k = xs.length := by omega
      have hltz : ¬ (xs.length : Int) < (xs.length : Int) := by omega
      go_wp2
      go_ret
      refine ⟨?_, hB.out⟩
      rw [firstP_miss hA.out]; rfl

end Go.Proofs.Ytdkoioiiacljeaa.Im
