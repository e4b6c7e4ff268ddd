/- Arguments opened: slices of int64, complexes. -/
import Derived.Test.YtdkoioiiacljeaaRows
import Derived.WalkKit
import Derived.ProofKit
import Derived.OpenShut
import Derived.ShutString
import Derived.ChangeOld
import Derived.Below
import Derived.SizedLaws
import Derived.Lib.SmallJoins
import Derived.Test.YtdkoioiiacljeaaImE
namespace Go.Proofs.Ytdkoioiiacljeaa.Rw
set_option linter.unusedVariables false
set_option linter.unusedSimpArgs false
open Go.ChangeShapes Go.WideShapes Go.ChangeAt Go.RowKit Go.Joins Go.Proofs.YtdkoioiiacljeaaW.PrintWords

section
variable {H : Type} {enc : TypeId × Value → H} {w : World}
theorem read_ints {fuel : Nat} {v : Value} {x : DataW H × List MemPlace} (h : DataW.trod enc Try.prog w 0 (fun _ => true) true fuel 22 [v] = some x) :
    ∃ (A : Option Addr) (cap : Nat) (l : List Int), v = .slice A l.length cap ∧ l.length ≤ cap ∧ l.length ≤ maxLen ∧ Kd.C (Kd.int .i64) w A l.length l ∧ ∀ n ∈ l, (Lit.int .i64 n).wf = true := by
  rcases open_ints Try.underlying22 Try.underlying2 (by kernel_rfl) h with ⟨hcs, _⟩ | ⟨a, len, cap, zs, hcs, _, hl, hm, hz, _, hcell, hwz⟩
  · simp at hcs
    subst hcs
    exact ⟨none, 0, [], rfl, Nat.le_refl _, Nat.zero_le _, Kd.C_nil _ _, fun n hn => by simp at hn⟩
  · simp at hcs
    subst hcs
    have hlen : (zs.take len).length = len := by simp at hz; simp; omega
    refine ⟨some a, cap, zs.take len, by rw [hlen], by omega, by omega, ?_, fun n hn => hwz n (List.mem_of_mem_take hn)⟩
    refine Kd.C_of_reads (d := (0 : Int)) (h1 := fun _ => rfl) ?_
    refine ⟨rfl, by rw [hlen]; simp only [maxLen] at hm; omega, fun _ => ⟨a, rfl, fun j hj => ?_⟩⟩
    rw [hlen] at hj
    simp at hz
    rw [hcell j (by omega)]
    simp [List.getD_eq_getElem?_getD, List.getElem?_take, hj]

theorem read_cx {b0 : Nat} {v : Value} {d : DataW H} {p : List MemPlace} (hv : Value.okWide Try.prog w .any b0 24 v) (h : DataW.Trod enc Try.prog w 0 (fun _ => true) true 24 v d p) :
    ∃ (a : Int) (A : Option Addr) (cap : Nat) (l : List Int), v = .agg #[.int .i64 a, .slice A l.length cap] ∧ (Lit.int .i64 a).wf = true ∧ l.length ≤ cap ∧ l.length ≤ maxLen ∧ Kd.C (Kd.int .i64) w A l.length l ∧ ∀ n ∈ l, (Lit.int .i64 n).wf = true := by
  obtain ⟨c0, c1, y0, y1, n, rfl, _, _, h0, h1⟩ := open_agg2 Try.underlying24 (by kernel_rfl) (by kernel_rfl) hv h
  obtain ⟨a, e0, _, wa⟩ := DataW.trod_int Try.underlying2 h0
  obtain ⟨A, cap, l, rfl, h2, h3, h4, h5⟩ := read_ints h1
  simp at e0
  subst e0
  exact ⟨a, A, cap, l, rfl, wa, h2, h3, h4, h5⟩
end
end Go.Proofs.Ytdkoioiiacljeaa.Rw
