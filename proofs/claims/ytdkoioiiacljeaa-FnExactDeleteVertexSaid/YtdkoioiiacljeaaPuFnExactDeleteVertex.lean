/- Plain: the law of DeleteVertex. -/
import Derived.Test.YtdkoioiiacljeaaPuD
import Derived.Test.YtdkoioiiacljeaaQSgDeleteVertex
import Derived.Test.YtdkoioiiacljeaaExDeleteVertex
import Derived.Test.YtdkoioiiacljeaaQFnExactDeleteVertexx2
namespace Go.Proofs.Ytdkoioiiacljeaa.Pu
set_option linter.unusedVariables false
set_option linter.unusedSimpArgs false
open Go.RowKit Go.Proofs.Ytdkoioiiacljeaa.QS Go.Proofs.Ytdkoioiiacljeaa.Im Go.Proofs.Ytdkoioiiacljeaa.Ext Go.Proofs.Ytdkoioiiacljeaa.QFnExactDeleteVertex Go.Proofs.YtdkoioiiacljeaaW.PrintWords Go.Proofs.YtdkoioiiacljeaaW.PrintLast Go.Proofs.YtdkoioiiacljeaaW.PrintMore

theorem bit_all : ((List.range 6).all fun v => (List.range 64).all fun f => outP (2 ^ v) (f : Int) == noBit v (f : Int)) = true := by decide +kernel
theorem bit_out {v : Nat} (hv : v ≤ 5) {f : Int} (h : 0 ≤ f) (hf : f ≤ 63) : outP (2 ^ v) f = noBit v f := by
  obtain ⟨m, rfl⟩ := Int.eq_ofNat_of_zero_le h
  have h2 := List.all_eq_true.1 (List.all_eq_true.1 bit_all v (List.mem_range.2 (by omega))) m (List.mem_range.2 (by omega))
  simpa using h2
theorem shl_bit {v : Nat} (hv : v ≤ 5) : 0 ≤ IntKind.u64.wrap (v : Int) ∧ shl .i64 1 (IntKind.u64.wrap (v : Int)) = 2 ^ v := by
  obtain rfl | rfl | rfl | rfl | rfl | rfl : v = 0 ∨ v = 1 ∨ v = 2 ∨ v = 3 ∨ v = 4 ∨ v = 5 := by omega
  all_goals decide +kernel

theorem ev_spec (n : Int) (v : Int) {l : List Int} (hl : l.length ≤ maxLen) : Ev (fun k => spec_DeleteVertex.f k n l v) (delF n l v) := by
  unfold spec_DeleteVertex.f
  refine Ev.bind (ev_is n hl) ?_
  unfold delF
  cases hi : isC n l with
  | false => simp only [Bool.false_eq_true, if_false]; exact Ev.now _
  | true =>
    obtain ⟨⟨h1, h6⟩, _, _⟩ := isC_of hi
    simp only [if_true]
    rw [w64 (by omega) (by omega), in_eq]
    simp only [Option.bind_some]
    cases hv : withinB v 0 (n - 1) with
    | false => simp only [Bool.false_eq_true, if_false]; exact Ev.now _
    | true =>
      simp only [if_true]
      obtain ⟨k, rfl⟩ := Int.eq_ofNat_of_zero_le (show 0 ≤ v by simp [withinB] at hv; omega)
      have hk : k ≤ 5 := by simp [withinB] at hv; omega
      obtain ⟨s0, s1⟩ := shl_bit hk
      simp only [if_pos s0, s1, Int.toNat_natCast]
      refine Ev.bind (ev_take hi _) ?_
      have hr := isC_range hi
      have hF := fullZ_le h1 h6
      rw [partL_congr hi (q := outP (2 ^ k)) (r := noBit k) (fun x hx => bit_out hk (by have := hr x hx; omega) (by have := hr x hx; omega))]
      exact Ev.now _
theorem pure_len (n : Int) (l : List Int) (v : Int) : (delF n l v).2.1.length ≤ 1048576 := by
  unfold delF
  split
  · rename_i h
    split
    · exact Nat.le_trans (partL_len h _) (by omega)
    · simp
  · simp

theorem FnExactDeleteVertex (n0 : Int) (l0 : List Int) (_ : (Lit.int .i64 n0).wf = true) (hm0 : l0.length ≤ maxLen) (_ : ∀ x ∈ l0, (Lit.int .i64 x).wf = true) (a1 : Int) (hw1 : (Lit.int .i64 a1).wf = true) : ∃ k, laws_FnExactDeleteVertex.f k n0 l0 a1 = some true := by
  rcases Nat.lt_or_ge 1048576 l0.length with hl | hl
  · refine ⟨0, ?_⟩
    unfold laws_FnExactDeleteVertex.f
    rw [sz_big hm0 hl]
    rfl
  · apply Ev.rounds
    obtain ⟨t, ht, ht0⟩ := sz_ok (n := n0) hl
    have hS := ev_spec n0 a1 hm0
    have hI : impl_DeleteVertex.f n0 l0 a1 = some (delF n0 l0 a1) := by unfold impl_DeleteVertex.f; rw [if_pos (by omega)]
    have hR := pure_len n0 l0 a1
    generalize delF n0 l0 a1 = D at hS hI hR
    obtain ⟨r1, r2, r3⟩ := D
    simp only at hR
    have hr1 : ¬ (1 + (r2.length : Int)) < 0 := by omega
    have hl1 : ¬ (1 + (l0.length : Int)) < 0 := by omega
    have h01 : (0 : Int) ≤ 1 ∧ (1 : Int) ≤ 1073741824 := by omega
    unfold laws_FnExactDeleteVertex.f
    rw [ht]
    simp only [Option.bind_some, if_neg ht0]
    refine Ev.bind (ev_toComplex hl) ?_
    refine Ev.bind hS ?_
    refine Ev.bind (ev_toComplex hl) ?_
    simp only [hI, Option.bind_some]
    refine Ev.bind (ev_eqComplex hR) ?_
    simp only [if_true]
    refine Ev.step (fun k => laws_FnExactDeleteVertex.j0.eq_2 ..) ?_
    simp only [bne_self_eq_false, Bool.false_eq_true, if_false]
    refine Ev.bind (ev_toComplex hl) ?_
    refine Ev.bind (ev_eqComplex hl) ?_
    simp only [if_true]
    refine Ev.bind (ev_markComplex hl h01) ?_
    simp only [if_neg hl1]
    refine Ev.bind (ev_eqComplex hR) ?_
    simp only [if_true]
    refine Ev.step (fun k => laws_FnExactDeleteVertex.j1.eq_2 ..) ?_
    simp only [bne_self_eq_false, Bool.false_eq_true, if_false]
    refine Ev.bind (ev_markComplex hR h01) ?_
    refine Ev.bind (ev_heldComplex hR h01) ?_
    simp only [if_neg hr1, if_true]
    refine Ev.bind (ev_toComplex hl) ?_
    simp only [hI, Option.bind_some]
    refine Ev.bind (ev_eqComplex hR) ?_
    simp only [if_true]
    refine Ev.step (fun k => laws_FnExactDeleteVertex.j2.eq_2 ..) ?_
    simp only [bne_self_eq_false, Bool.false_eq_true, if_false]
    refine Ev.bind (ev_heldComplex hR h01) ?_
    simp only [if_neg hr1, if_true]
    exact Ev.now _

end Go.Proofs.Ytdkoioiiacljeaa.Pu
