/- Words for the walks of the program's own functions: what is asked of a function value, and small facts on worlds. -/
import Derived.WalkKit
import Derived.Lib.Hide
import Derived.Deep.Draws
import Derived.Deep.LoopGhost
import Derived.Deep.QuietTactic
import Derived.BigQuiet
import Derived.Deep.RegionHeld3
import Derived.Test.YtdkoioiiacljeaaWWords
import Derived.Test.YtdkoioiiacljeaaWLast
import Derived.Test.YtdkoioiiacljeaaWMore
namespace Go.Proofs.Ytdkoioiiacljeaa.Im
set_option linter.unusedVariables false
set_option linter.unusedSimpArgs false
open Go.RowKit Go.Proofs.YtdkoioiiacljeaaW.PrintWords Go.Proofs.YtdkoioiiacljeaaW.PrintLast Go.Proofs.YtdkoioiiacljeaaW.PrintMore

/-- A function value that says p of whole numbers, in each world that has come of w by growth alone. -/
def FnB (P : Program) (fv : Value) (dom : Int → Prop) (p : Int → Bool) (w : World) : Prop :=
  ∃ g fs lb, fv = .func (.func g) fs lb ∧ (∀ args w, (callFunc g args).run P w = .ok (.enter g args) w) ∧
    ∀ W x, Below w.heap.size w W → dom x → Calls P g (fs ++ #[.int .i64 x] ++ lb) W fun e w' => e = .returned (.bool (p x)) ∧ Below W.heap.size W w'

theorem FnB.later {P : Program} {fv : Value} {dom : Int → Prop} {p : Int → Bool} {w w1 : World} (h : FnB P fv dom p w) (hb : Below w.heap.size w w1) : FnB P fv dom p w1 := by
  obtain ⟨g, fs, lb, he, hg, hc⟩ := h
  exact ⟨g, fs, lb, he, hg, fun W x hW hx => hc W x (hb.trans (hW.mono hb.size)) hx⟩

/-- A function value without arguments. -/
def FnU (P : Program) (fv : Value) (b : Bool) (w : World) : Prop :=
  ∃ g fs lb, fv = .func (.func g) fs lb ∧ (∀ args w, (callFunc g args).run P w = .ok (.enter g args) w) ∧
    ∀ W, Below w.heap.size w W → Calls P g (fs ++ #[] ++ lb) W fun e w' => e = .returned (.bool b) ∧ Below W.heap.size W w'

theorem FnU.later {P : Program} {fv : Value} {b : Bool} {w w1 : World} (h : FnU P fv b w) (hb : Below w.heap.size w w1) : FnU P fv b w1 := by
  obtain ⟨g, fs, lb, he, hg, hc⟩ := h
  exact ⟨g, fs, lb, he, hg, fun W hW => hc W (hb.trans (hW.mono hb.size))⟩

/-- A slice of int64 that is read. -/
abbrev RC (w : World) (A : Option Addr) (n : Nat) (xs : List Int) : Prop := Kd.C (Kd.int .i64) w A n xs
/-- A slice of int64 of the call's own. -/
abbrev RO (w : World) (base : Nat) (v : Value) (xs : List Int) : Prop := Kd.R (Kd.int .i64) 2 w base (fun _ => True) v xs

section
variable {P : Program} {ops : Array Oper} {rest : List Oper} {o : Oper} {a : Act} {Q : Exit → Act → World → Prop}
/-- append(v, y) to a row of the call's own; behind 'at_builtin'. -/
theorem ap64 {w0 W : World} (base : Nat) (hgd : o.guard = none) (s x : Operand) (t : TypeId)
    (ho : o.op = .call { callee := .builtin .append, args := #[s, x], argTypes := #[t, t] }) (ht : P.underlying t = some (.slice 2))
    (hinfo : (P.info? 2).map (fun i => (i.zero, i.size, i.bytes)) = some (some (.int .i64 0), 1, 8)) (v : Value) (xs : List Int) (y : Int)
    (hs : a.eval s = v) (hx : a.eval x = .slice (some ⟨W.heap.size, 0, none⟩) 1 1) (HO : RO W base v xs) (HB : Below base w0 W) (hbase : base ≤ W.heap.size) (hl : xs.length ≤ 17592186044415)
    (h : ∀ v1 w1, RO w1 base v1 (xs ++ [y]) → Below base w0 w1 → W.grownBy w1 v.ownBlock → (v1.ownBlock = v.ownBlock ∨ ∃ b, v1.ownBlock = some b ∧ W.heap.size ≤ b) → wpList P ops Q rest (a.put o.dst v1) w1) :
    wpList P ops Q (o :: rest) a (W.alloc (.cells #[.int .i64 y] 2)) :=
  Kd.R_append (Kd.int .i64) base hgd s x t 2 (.int .i64 0) 8 ho ht hinfo rfl (by decide) (by decide) v xs y [.int .i64 y] (fun _ => True) (fun _ => False) hs hx rfl (fun _ hk => hk.elim) (fun _ _ => trivial) HO HB hbase (by omega) h
end

theorem below_sz {B : Nat} {w w' : World} (h : Below B w w') : w.heap.size ≤ w'.heap.size := h.size
theorem below_in {w w1 w2 : World} (h : Below w.heap.size w w1) (k : Below w1.heap.size w1 w2) : Below w.heap.size w w2 := h.trans (k.mono h.size)

end Go.Proofs.Ytdkoioiiacljeaa.Im
