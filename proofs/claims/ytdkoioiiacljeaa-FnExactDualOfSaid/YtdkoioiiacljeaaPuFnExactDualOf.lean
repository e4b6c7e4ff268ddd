/- Plain: the law of DualOf. -/
import Derived.Test.YtdkoioiiacljeaaPuB
import Derived.Test.YtdkoioiiacljeaaQSx5
import Derived.Test.YtdkoioiiacljeaaQSx6
import Derived.Test.YtdkoioiiacljeaaExDualOf
import Derived.Test.YtdkoioiiacljeaaQFnExactDualOfx2
namespace Go.Proofs.Ytdkoioiiacljeaa.Pu
set_option linter.unusedVariables false
set_option linter.unusedSimpArgs false
open Go.RowKit Go.Proofs.Ytdkoioiiacljeaa.QS Go.Proofs.Ytdkoioiiacljeaa.Im Go.Proofs.Ytdkoioiiacljeaa.Ext Go.Proofs.Ytdkoioiiacljeaa.QFnExactDualOf Go.Proofs.YtdkoioiiacljeaaW.PrintWords Go.Proofs.YtdkoioiiacljeaaW.PrintLast Go.Proofs.YtdkoioiiacljeaaW.PrintMore

theorem full_nat {n : Int} (h1 : 1 ≤ n) (h6 : n ≤ 6) : fullZ n = ((2 ^ n.toNat - 1 : Nat) : Int) := by
  obtain rfl | rfl | rfl | rfl | rfl | rfl : n = 1 ∨ n = 2 ∨ n = 3 ∨ n = 4 ∨ n = 5 ∨ n = 6 := by omega
  all_goals decide +kernel
theorem andNot_all : ((List.range 7).all fun n => (List.range 64).all fun f => decide (2 ^ n ≤ f) || Go.bits .andNot .i64 (fullZ (n : Int)) (f : Int) == fullZ (n : Int) - (f : Int)) = true := by decide +kernel
theorem andNot_full {n f : Int} (h1 : 1 ≤ n) (h6 : n ≤ 6) (h : 0 ≤ f) (hf : f ≤ fullZ n) : Go.bits .andNot .i64 (fullZ n) f = fullZ n - f := by
  have hF := fullZ_le h1 h6
  obtain ⟨m, rfl⟩ := Int.eq_ofNat_of_zero_le h
  obtain ⟨k, rfl⟩ := Int.eq_ofNat_of_zero_le (show 0 ≤ n by omega)
  have h2 := List.all_eq_true.1 (List.all_eq_true.1 andNot_all k (List.mem_range.2 (by omega))) m (List.mem_range.2 (by omega))
  have hk := full_nat h1 h6
  have h3 : decide (2 ^ k ≤ m) = false := by
    have : 0 < 2 ^ k := Nat.pos_of_ne_zero (by simp)
    simp only [Int.toNat_natCast] at hk
    simp; omega
  rw [h3, Bool.false_or] at h2
  simpa using h2

theorem dual_loop {n : Int} (h1 : 1 ≤ n) (h6 : n ≤ 6) {l : List Int} (hl : l.length ≤ maxLen) : ∀ d (i : Nat), 2 ^ n.toNat - 1 - i = d → 1 ≤ i → i ≤ 2 ^ n.toNat - 1 →
    Ev (fun k => spec_l07Dual.l0 k (fullZ n) i n l n (thoseUpto (dualP n l) i)) (n, thoseL n (dualP n l)) := by
  have hF := fullZ_le h1 h6
  have hk := full_nat h1 h6
  intro d
  induction d with
  | zero =>
    intro i hd hi1 hi
    refine Ev.step (f := fun k => some (n, thoseUpto (dualP n l) i)) (fun k => ?_) ?_
    · simp only [spec_l07Dual.l0]; rw [if_neg (by omega)]
    · have : thoseL n (dualP n l) = thoseUpto (dualP n l) i := by
        have e : 2 ^ n.toNat = i + 1 := by omega
        show thoseUpto (dualP n l) (2 ^ n.toNat) = _
        rw [e, thoseUpto_no hi1]
        have : (i : Int) = fullZ n := by omega
        simp [dualP, this]
      rw [this]
      exact Ev.now _
  | succ d ih =>
    intro i hd hi1 hi
    refine Ev.step (f := fun k => (spec_l01Has.f k n l (fullZ n - i)).bind fun t => if t = true then spec_l07Dual.l0 k (fullZ n) ((i + 1 : Nat) : Int) n l n (thoseUpto (dualP n l) i) else spec_l07Dual.l0 k (fullZ n) ((i + 1 : Nat) : Int) n l n (thoseUpto (dualP n l) i ++ [(i : Int)])) (fun k => ?_) ?_
    · simp only [spec_l07Dual.l0]
      have := thoseUpto_len (dualP n l) i
      rw [if_pos (by omega), w64 (by omega) (by omega), w64 (by omega) (by omega), if_pos (show (thoseUpto (dualP n l) i).length < 17592186044416 by omega), show ((i + 1 : Nat) : Int) = (i : Int) + 1 by omega]
    · refine Ev.bind (ev_has hl n (fullZ n - i)) ?_
      have hne : ((i : Int) != fullZ n) = true := by simp; omega
      have hd2 : dualP n l (i : Int) = !decide (fullZ n - (i : Int) ∈ l) := by
        unfold dualP
        rw [hne, andNot_full h1 h6 (by omega) (by omega), Bool.true_and]
      have hn := ih (i + 1) (by omega) (by omega) (by omega)
      by_cases hm : fullZ n - (i : Int) ∈ l
      · rw [decide_eq_true hm] at hd2 ⊢
        simp only [if_true]
        rw [thoseUpto_no hi1 (by rw [hd2]; rfl)] at hn
        exact hn
      · rw [decide_eq_false hm] at hd2 ⊢
        simp only [Bool.false_eq_true, if_false]
        rw [thoseUpto_yes hi1 (by rw [hd2]; rfl)] at hn
        exact hn
theorem ev_dual (n : Int) {l : List Int} (hl : l.length ≤ maxLen) : Ev (fun k => spec_DualOf.f k n l) (dualF n l) := by
  unfold spec_DualOf.f
  refine Ev.bind (ev_is n hl) ?_
  unfold dualF
  cases hi : isC n l with
  | false => simp only [Bool.false_eq_true, if_false]; exact Ev.now _
  | true =>
    simp only [if_true]
    obtain ⟨⟨h1, h6⟩, _, _⟩ := isC_of hi
    unfold spec_l07Dual.f
    rw [all_eq h1 h6]
    simp only [Option.bind_some]
    have := dual_loop h1 h6 hl _ 1 rfl (Nat.le_refl _) (by have := fullZ_le h1 h6; have := full_nat h1 h6; omega)
    exact Ev.bind (f := fun _ t => some (t.1, t.2, (0 : Int))) this (Ev.now _)

theorem thoseL_len {n : Int} (h1 : 1 ≤ n) (h6 : n ≤ 6) (p : Int → Bool) : (thoseL n p).length ≤ 64 := by
  refine Nat.le_trans (thoseUpto_len p (2 ^ n.toNat)) ?_
  obtain rfl | rfl | rfl | rfl | rfl | rfl : n = 1 ∨ n = 2 ∨ n = 3 ∨ n = 4 ∨ n = 5 ∨ n = 6 := by omega
  all_goals decide
theorem dualF_len (n : Int) (l : List Int) : (dualF n l).2.1.length ≤ 1048576 := by
  unfold dualF
  split
  · rename_i h
    obtain ⟨⟨h1, h6⟩, _, _⟩ := isC_of h
    exact Nat.le_trans (thoseL_len h1 h6 _) (by omega)
  · simp

theorem FnExactDualOf (n : Int) (l : List Int) (_ : (Lit.int .i64 n).wf = true) (hm : l.length ≤ maxLen) (_ : ∀ x ∈ l, (Lit.int .i64 x).wf = true) : ∃ k, laws_FnExactDualOf.f k n l = some true := by
  rcases Nat.lt_or_ge 1048576 l.length with hl | hl
  · refine ⟨0, ?_⟩
    unfold laws_FnExactDualOf.f
    rw [sz_big hm hl]
    rfl
  · apply Ev.rounds
    obtain ⟨t, ht, ht0⟩ := sz_ok (n := n) hl
    have hS := ev_dual n hm
    have hI : impl_DualOf.f n l = some (dualF n l) := by unfold impl_DualOf.f; rw [if_pos (by omega)]
    have hR := dualF_len n l
    generalize dualF n l = D at hS hI hR
    obtain ⟨r1, r2, r3⟩ := D
    simp only at hR
    have hl1 : ¬ (1 + (l.length : Int)) < 0 := by omega
    have hr1 : ¬ (1 + (r2.length : Int)) < 0 := by omega
    have h01 : (0 : Int) ≤ 1 ∧ (1 : Int) ≤ 1073741824 := by omega
    unfold laws_FnExactDualOf.f
    rw [ht]
    simp only [Option.bind_some, if_neg ht0]
    refine Ev.bind (ev_toComplex hl) ?_
    refine Ev.bind hS ?_
    refine Ev.bind (ev_toComplex hl) ?_
    simp only [hI, Option.bind_some]
    refine Ev.bind (ev_eqComplex hR) ?_
    simp only [if_true]
    refine Ev.step (fun k => laws_FnExactDualOf.j0.eq_2 ..) ?_
    simp only [bne_self_eq_false, Bool.false_eq_true, if_false]
    refine Ev.bind (ev_toComplex hl) ?_
    refine Ev.bind (ev_eqComplex hl) ?_
    simp only [if_true]
    refine Ev.bind (ev_markComplex hl h01) ?_
    simp only [if_neg hl1]
    refine Ev.bind (ev_eqComplex hR) ?_
    simp only [if_true]
    refine Ev.step (fun k => laws_FnExactDualOf.j1.eq_2 ..) ?_
    simp only [bne_self_eq_false, Bool.false_eq_true, if_false]
    refine Ev.bind (ev_markComplex hR h01) ?_
    refine Ev.bind (ev_heldComplex hR h01) ?_
    simp only [if_neg hr1, if_true]
    refine Ev.bind (ev_toComplex hl) ?_
    simp only [hI, Option.bind_some]
    refine Ev.bind (ev_eqComplex hR) ?_
    simp only [if_true]
    refine Ev.step (fun k => laws_FnExactDualOf.j2.eq_2 ..) ?_
    simp only [bne_self_eq_false, Bool.false_eq_true, if_false]
    refine Ev.bind (ev_heldComplex hR h01) ?_
    simp only [if_neg hr1, if_true]
    exact Ev.now _

end Go.Proofs.Ytdkoioiiacljeaa.Pu
