/- The program's small functions: what each computes. -/
import Derived.Test.YtdkoioiiacljeaaProg
import Derived.Test.YtdkoioiiacljeaaImA
namespace Go.Proofs.Ytdkoioiiacljeaa.Im
set_option linter.unusedVariables false
set_option linter.unusedSimpArgs false
open Go.RowKit Go.Proofs.YtdkoioiiacljeaaW.PrintWords Go.Proofs.YtdkoioiiacljeaaW.PrintLast Go.Proofs.YtdkoioiiacljeaaW.PrintMore

def withinB (n lo hi : Int) : Bool := decide (lo ≤ n) && decide (n ≤ hi)

theorem within_c (n lo hi : Int) (w : World) : Calls Try.prog 73 #[.int .i64 n, .int .i64 lo, .int .i64 hi] w fun e w' => e = .returned (.bool (withinB n lo hi)) ∧ w = w' := by
  unfold withinB
  by_cases h : lo ≤ n
  · have h1 : decide (lo ≤ n) = true := decide_eq_true h
    go_enter Try.func73, Try.ntmps73
    go_wp2
    go_ret
    simp [h1]
  · have h1 : decide (lo ≤ n) = false := decide_eq_false h
    go_enter Try.func73, Try.ntmps73
    go_wp2
    go_ret
    simp [h1]

theorem isSize_c (n : Int) (w : World) : Calls Try.prog 119 #[.int .i64 n] w fun e w' => e = .returned (.bool (withinB n 1 6)) ∧ w = w' := by
  go_enter Try.func119, Try.ntmps119
  go_wp2_with (go_at_call 73; refine (within_c _ _ _ _).mono ?_; rintro e w' ⟨rfl, rfl⟩)
  go_ret
  exact ⟨rfl, rfl⟩

theorem isIn_c (f g : Int) (w : World) : Calls Try.prog 95 #[.int .i64 f, .int .i64 g] w fun e w' => e = .returned (.bool (Go.bits .andNot .i64 f g == 0)) ∧ w = w' := by
  go_enter Try.func95, Try.ntmps95
  go_wp2
  go_ret
  exact ⟨rfl, rfl⟩

theorem always_c (w : World) : Calls Try.prog 55 #[] w fun e w' => e = .returned (.bool true) ∧ w = w' := by
  go_enter Try.func55, Try.ntmps55
  go_wp2
  go_ret
  exact ⟨rfl, rfl⟩

theorem less_c (a b : Int) (w : World) : Calls Try.prog 121 #[.int .i64 a, .int .i64 b] w fun e w' => e = .returned (.bool (decide (a < b))) ∧ w = w' := by
  go_enter Try.func121, Try.ntmps121
  go_wp2
  go_ret
  exact ⟨rfl, rfl⟩

/-- The set of all n vertices. -/
def fullZ (n : Int) : Int := 2 ^ n.toNat - 1

theorem full_c (n : Int) (s : Value) (w : World) (h1 : 1 ≤ n) (h6 : n ≤ 6) : Calls Try.prog 58 #[.agg #[.int .i64 n, s]] w fun e w' => e = .returned (.int .i64 (fullZ n)) ∧ Below w.heap.size w w' := by
  have hb := (Below.refl w.heap.size w).alloc (Nat.le_refl _) (.cells #[.int .i64 n, s] 26)
  obtain rfl | rfl | rfl | rfl | rfl | rfl : n = 1 ∨ n = 2 ∨ n = 3 ∨ n = 4 ∨ n = 5 ∨ n = 6 := by omega
  all_goals
    go_enter Try.func58, Try.ntmps58
    go_wp2
    go_ret
    exact ⟨rfl, hb⟩

end Go.Proofs.Ytdkoioiiacljeaa.Im
