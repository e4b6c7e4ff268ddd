/- Plain: the law of IsFreeFace. -/
import Derived.Test.YtdkoioiiacljeaaPuE
import Derived.Test.YtdkoioiiacljeaaQSgIsFreeFace
import Derived.Test.YtdkoioiiacljeaaExIsFreeFace
import Derived.Test.YtdkoioiiacljeaaQFnExactIsFreeFacex1
namespace Go.Proofs.Ytdkoioiiacljeaa.Pu
set_option linter.unusedVariables false
set_option linter.unusedSimpArgs false
open Go.RowKit Go.Proofs.Ytdkoioiiacljeaa.QS Go.Proofs.Ytdkoioiiacljeaa.Im Go.Proofs.Ytdkoioiiacljeaa.Ext Go.Proofs.Ytdkoioiiacljeaa.QFnExactIsFreeFace Go.Proofs.YtdkoioiiacljeaaW.PrintWords Go.Proofs.YtdkoioiiacljeaaW.PrintLast Go.Proofs.YtdkoioiiacljeaaW.PrintMore

theorem ev_spec (n : Int) (v : Int) {l : List Int} (hl : l.length ≤ maxLen) : Ev (fun k => spec_IsFreeFace.f k n l v) (freeF n l v) := by
  unfold spec_IsFreeFace.f
  refine Ev.bind (ev_face n v hl) ?_
  unfold freeF codeOf
  cases hi : isC n l with
  | false => exact Ev.now _
  | true =>
    by_cases hv : v ∈ l
    · simp only [hv, decide_true, if_true]
      refine Ev.bind (ev_free hi hv) ?_
      have : decide (freeR 0 (aroundL l v) > 0) = (((aroundL l v).length : Int) == 1) := by
        have hp := around_pos (v := v) hi
        rw [freeR_one hp]
        by_cases h1 : ((aroundL l v).length : Int) = 1
        · rw [if_pos h1, h1]
          have h2 : 0 < (aroundL l v).length := by omega
          rw [List.getElem?_eq_getElem h2]
          have := hp _ (List.getElem_mem h2)
          simpa using this
        · rw [if_neg h1, beq_eq_false_iff_ne.2 h1]; rfl
      rw [this]
      exact Ev.now _
    · simp only [hv, decide_false, if_true, Bool.false_eq_true, if_false]
      exact Ev.now _

theorem FnExactIsFreeFace (n0 : Int) (l0 : List Int) (_ : (Lit.int .i64 n0).wf = true) (hm0 : l0.length ≤ maxLen) (_ : ∀ x ∈ l0, (Lit.int .i64 x).wf = true) (a1 : Int) (hw1 : (Lit.int .i64 a1).wf = true) : ∃ k, laws_FnExactIsFreeFace.f k n0 l0 a1 = some true := by
  rcases Nat.lt_or_ge 1048576 l0.length with hl | hl
  · refine ⟨0, ?_⟩
    unfold laws_FnExactIsFreeFace.f
    rw [sz_big hm0 hl]
    rfl
  · apply Ev.rounds
    obtain ⟨t, ht, ht0⟩ := sz_ok (n := n0) hl
    have hS := ev_spec n0 a1 hm0
    have hI : impl_IsFreeFace.f n0 l0 a1 = some (freeF n0 l0 a1) := by unfold impl_IsFreeFace.f; rw [if_pos (by omega)]
    generalize freeF n0 l0 a1 = D at hS hI
    obtain ⟨r1, r2⟩ := D
    have hl1 : ¬ (1 + (l0.length : Int)) < 0 := by omega
    have h01 : (0 : Int) ≤ 1 ∧ (1 : Int) ≤ 1073741824 := by omega
    unfold laws_FnExactIsFreeFace.f
    rw [ht]
    simp only [Option.bind_some, if_neg ht0]
    refine Ev.bind (ev_toComplex hl) ?_
    refine Ev.bind hS ?_
    refine Ev.bind (ev_toComplex hl) ?_
    simp only [hI, Option.bind_some]
    simp only [bne_self_eq_false, Bool.false_eq_true, if_false]
    refine Ev.step (fun k => laws_FnExactIsFreeFace.j0.eq_2 ..) ?_
    simp only [bne_self_eq_false, Bool.false_eq_true, if_false]
    refine Ev.bind (ev_toComplex hl) ?_
    refine Ev.bind (ev_eqComplex hl) ?_
    simp only [if_true]
    exact Ev.now _

end Go.Proofs.Ytdkoioiiacljeaa.Pu
