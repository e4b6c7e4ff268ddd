/- Plain: the law of CollapsePair. -/
import Derived.Test.YtdkoioiiacljeaaPuE
import Derived.Test.YtdkoioiiacljeaaPuD
import Derived.Test.YtdkoioiiacljeaaQSgCollapsePair
import Derived.Test.YtdkoioiiacljeaaExCollapsePair
import Derived.Test.YtdkoioiiacljeaaQFnExactCollapsePairx2
namespace Go.Proofs.Ytdkoioiiacljeaa.Pu
set_option linter.unusedVariables false
set_option linter.unusedSimpArgs false
open Go.RowKit Go.Proofs.Ytdkoioiiacljeaa.QS Go.Proofs.Ytdkoioiiacljeaa.Im Go.Proofs.Ytdkoioiiacljeaa.Ext Go.Proofs.Ytdkoioiiacljeaa.QFnExactCollapsePair Go.Proofs.YtdkoioiiacljeaaW.PrintWords Go.Proofs.YtdkoioiiacljeaaW.PrintLast Go.Proofs.YtdkoioiiacljeaaW.PrintMore

theorem self_all : ((List.range 64).all fun v => Go.bits .and .i64 (v : Int) (v : Int) == (v : Int)) = true := by decide +kernel
theorem pair_off {n v y : Int} {l : List Int} (hi : isC n l = true) (hv : v ∈ l) (h : aroundL l v = [y]) : partL n l (outP v) = partL n l (offP [v, y]) := by
  obtain ⟨⟨h1, h6⟩, _, _⟩ := isC_of hi
  have hF := fullZ_le h1 h6
  have hr := isC_range hi
  have hu := around_up hi hv
  rw [h] at hu
  refine partL_congr hi fun x hx => ?_
  have hy : y ∈ l.filter (upP v) := by rw [← hu]; simp
  have hyu := (List.mem_filter.1 hy).2
  by_cases hxv : x = v
  · subst hxv
    have hx2 := hr x hx
    obtain ⟨a, rfl⟩ := Int.eq_ofNat_of_zero_le (show 0 ≤ x by omega)
    have h3 := eq_of_beq (List.all_eq_true.1 self_all a (List.mem_range.2 (by omega)))
    simp [outP, offP, h3]
  · by_cases hxy : x = y
    · subst hxy
      simp only [upP, Bool.and_eq_true] at hyu
      have h3 := eq_of_beq hyu.1
      simp [outP, offP, h3]
    · have h4 : offP [v, y] x = true := by simp [offP, hxv, hxy]
      rw [h4]
      cases h5 : outP v x with
      | true => rfl
      | false =>
        exfalso
        have h6 : Go.bits .and .i64 x v = v := by simpa [outP] using h5
        have : x ∈ l.filter (upP v) := List.mem_filter.2 ⟨hx, by simp [upP, h6, hxv]⟩
        rw [← hu] at this
        simp [hxy] at this

theorem ev_spec (n : Int) (v : Int) {l : List Int} (hl : l.length ≤ maxLen) : Ev (fun k => spec_CollapsePair.f k n l v) (colF n l v) := by
  unfold spec_CollapsePair.f
  refine Ev.bind (ev_face n v hl) ?_
  unfold colF codeOf
  cases hi : isC n l with
  | false => exact Ev.now _
  | true =>
    by_cases hv : v ∈ l
    · simp only [hv, decide_true, if_true]
      refine Ev.bind (ev_free hi hv) ?_
      have hp := around_pos (v := v) hi
      rw [freeR_one hp]
      by_cases h1 : ((aroundL l v).length : Int) = 1
      · rw [if_pos h1]
        have h2 : 0 < (aroundL l v).length := by omega
        have h3 : aroundL l v = [(aroundL l v)[0]?.getD 0] := by
          have hone : (aroundL l v).length = 1 := by omega
          match aroundL l v, hone with
          | [y], _ => rfl
        have hpos : (aroundL l v)[0]?.getD 0 ≠ 0 := by
          rw [List.getElem?_eq_getElem h2]
          have := hp _ (List.getElem_mem h2)
          simp only [Option.getD_some]; omega
        simp only [if_neg hpos, h1, beq_self_eq_true, if_true]
        refine Ev.bind (ev_take hi v) ?_
        rw [pair_off hi hv h3]
        exact Ev.now _
      · rw [if_neg h1]
        simp only [if_true, beq_eq_false_iff_ne.2 h1, Bool.false_eq_true, if_false]
        exact Ev.now _
    · simp only [hv, decide_false, if_true, Bool.false_eq_true, if_false]
      exact Ev.now _
theorem pure_len (n : Int) (l : List Int) (v : Int) : (colF n l v).2.1.length ≤ 1048576 := by
  unfold colF
  split
  · rename_i h
    split
    · split
      · exact Nat.le_trans (partL_len h _) (by omega)
      · simp
    · simp
  · simp

theorem FnExactCollapsePair (n0 : Int) (l0 : List Int) (_ : (Lit.int .i64 n0).wf = true) (hm0 : l0.length ≤ maxLen) (_ : ∀ x ∈ l0, (Lit.int .i64 x).wf = true) (a1 : Int) (hw1 : (Lit.int .i64 a1).wf = true) : ∃ k, laws_FnExactCollapsePair.f k n0 l0 a1 = some true := by
  rcases Nat.lt_or_ge 1048576 l0.length with hl | hl
  · refine ⟨0, ?_⟩
    unfold laws_FnExactCollapsePair.f
    rw [sz_big hm0 hl]
    rfl
  · apply Ev.rounds
    obtain ⟨t, ht, ht0⟩ := sz_ok (n := n0) hl
    have hS := ev_spec n0 a1 hm0
    have hI : impl_CollapsePair.f n0 l0 a1 = some (colF n0 l0 a1) := by unfold impl_CollapsePair.f; rw [if_pos (by omega)]
    have hR := pure_len n0 l0 a1
    generalize colF n0 l0 a1 = D at hS hI hR
    obtain ⟨r1, r2, r3⟩ := D
    simp only at hR
    have hr1 : ¬ (1 + (r2.length : Int)) < 0 := by omega
    have hl1 : ¬ (1 + (l0.length : Int)) < 0 := by omega
    have h01 : (0 : Int) ≤ 1 ∧ (1 : Int) ≤ 1073741824 := by omega
    unfold laws_FnExactCollapsePair.f
    rw [ht]
    simp only [Option.bind_some, if_neg ht0]
    refine Ev.bind (ev_toComplex hl) ?_
    refine Ev.bind hS ?_
    refine Ev.bind (ev_toComplex hl) ?_
    simp only [hI, Option.bind_some]
    refine Ev.bind (ev_eqComplex hR) ?_
    simp only [if_true]
    refine Ev.step (fun k => laws_FnExactCollapsePair.j0.eq_2 ..) ?_
    simp only [bne_self_eq_false, Bool.false_eq_true, if_false]
    refine Ev.bind (ev_toComplex hl) ?_
    refine Ev.bind (ev_eqComplex hl) ?_
    simp only [if_true]
    refine Ev.bind (ev_markComplex hl h01) ?_
    simp only [if_neg hl1]
    refine Ev.bind (ev_eqComplex hR) ?_
    simp only [if_true]
    refine Ev.step (fun k => laws_FnExactCollapsePair.j1.eq_2 ..) ?_
    simp only [bne_self_eq_false, Bool.false_eq_true, if_false]
    refine Ev.bind (ev_markComplex hR h01) ?_
    refine Ev.bind (ev_heldComplex hR h01) ?_
    simp only [if_neg hr1, if_true]
    refine Ev.bind (ev_toComplex hl) ?_
    simp only [hI, Option.bind_some]
    refine Ev.bind (ev_eqComplex hR) ?_
    simp only [if_true]
    refine Ev.step (fun k => laws_FnExactCollapsePair.j2.eq_2 ..) ?_
    simp only [bne_self_eq_false, Bool.false_eq_true, if_false]
    refine Ev.bind (ev_heldComplex hR h01) ?_
    simp only [if_neg hr1, if_true]
    exact Ev.now _

end Go.Proofs.Ytdkoioiiacljeaa.Pu
