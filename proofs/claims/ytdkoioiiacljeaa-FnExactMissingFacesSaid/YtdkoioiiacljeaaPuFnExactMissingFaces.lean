/- Plain: the law of MissingFaces. -/
import Derived.Test.YtdkoioiiacljeaaPuC
import Derived.Test.YtdkoioiiacljeaaQSx7
import Derived.Test.YtdkoioiiacljeaaQSx8
import Derived.Test.YtdkoioiiacljeaaExMissingFaces
import Derived.Test.YtdkoioiiacljeaaQFnExactMissingFacesx2
namespace Go.Proofs.Ytdkoioiiacljeaa.Pu
set_option linter.unusedVariables false
set_option linter.unusedSimpArgs false
open Go.RowKit Go.Proofs.Ytdkoioiiacljeaa.QS Go.Proofs.Ytdkoioiiacljeaa.Im Go.Proofs.Ytdkoioiiacljeaa.Ext Go.Proofs.Ytdkoioiiacljeaa.QFnExactMissingFaces Go.Proofs.YtdkoioiiacljeaaW.PrintWords Go.Proofs.YtdkoioiiacljeaaW.PrintLast Go.Proofs.YtdkoioiiacljeaaW.PrintMore

theorem missing_l1 (n : Int) (l b : List Int) (hl : l.length ≤ maxLen) (hb : b.length ≤ 6) (x3 : List Int) (h3 : x3.length ≤ 64) (x4 : Int) (R : List Int) :
    ∀ d (j : Nat) (q : Bool), b.length - j = d → j ≤ b.length → Ev (fun k => spec_l07Missing.l0 k (if q && (b.drop j).all fun y => decide (y ∈ l) then x3 ++ [x4] else x3) (wrap64 (x4 + 1)) n l) R → Ev (fun k => spec_l07Missing.l1 k x3 x4 q b j n l) R := by
  intro d
  induction d with
  | zero =>
    intro j q hd hj hR
    rw [List.drop_eq_nil_of_le (by omega), List.all_nil, Bool.and_true] at hR
    cases q with
    | false =>
      refine Ev.step (f := fun k => spec_l07Missing.l0 k x3 (wrap64 (x4 + 1)) n l) (fun k => ?_) hR
      simp only [spec_l07Missing.l1]; rw [if_neg (by omega)]; rfl
    | true =>
      refine Ev.step (f := fun k => spec_l07Missing.l0 k (x3 ++ [x4]) (wrap64 (x4 + 1)) n l) (fun k => ?_) hR
      simp only [spec_l07Missing.l1]; rw [if_neg (by omega), if_pos trivial, if_pos (by omega)]
  | succ d ih =>
    intro j q hd hj hR
    rw [List.drop_eq_getElem_cons (show j < b.length by omega), List.all_cons, ← Bool.and_assoc] at hR
    cases q with
    | false =>
      refine Ev.step (f := fun k => spec_l07Missing.l1 k x3 x4 false b ((j + 1 : Nat) : Int) n l) (fun k => ?_) ?_
      · simp only [spec_l07Missing.l1]
        rw [if_pos (by omega), w64 (by omega) (by omega), show ((j + 1 : Nat) : Int) = (j : Int) + 1 by omega]; rfl
      · exact ih (j + 1) false (by omega) (by omega) (by simpa using hR)
    | true =>
      refine Ev.step (f := fun k => (spec_l01Has.f k n l b[j]).bind fun t => spec_l07Missing.l1 k x3 x4 t b ((j + 1 : Nat) : Int) n l) (fun k => ?_) ?_
      · simp only [spec_l07Missing.l1]
        rw [if_pos (by omega), if_pos trivial, if_pos (by omega), rd_at (show j < b.length by omega), w64 (by omega) (by omega), show ((j + 1 : Nat) : Int) = (j : Int) + 1 by omega]
      · refine Ev.bind (ev_has hl n b[j]) ?_
        exact ih (j + 1) _ (by omega) (by omega) (by simpa using hR)

theorem missing_loop {n : Int} (h1 : 1 ≤ n) (h6 : n ≤ 6) {l : List Int} (hl : l.length ≤ maxLen) : ∀ d (i : Nat), 2 ^ n.toNat - i = d → 1 ≤ i → i ≤ 2 ^ n.toNat →
    Ev (fun k => spec_l07Missing.l0 k (thoseUpto (missP l) i) i n l) (missL n l) := by
  have hF := fullZ_le h1 h6
  have hk := full_nat h1 h6
  intro d
  induction d with
  | zero =>
    intro i hd hi1 hi
    refine Ev.step (f := fun k => some (thoseUpto (missP l) i)) (fun k => ?_) ?_
    · simp only [spec_l07Missing.l0, all_eq h1 h6, Option.bind_some]; rw [if_neg (by omega)]
    · have : missL n l = thoseUpto (missP l) i := by
        have e : i = 2 ^ n.toNat := by omega
        subst e; rfl
      rw [this]; exact Ev.now _
  | succ d ih =>
    intro i hd hi1 hi
    refine Ev.step (f := fun k => (spec_l01Has.f k n l (i : Int)).bind fun t180 => (if t180 = true then (spec_l07Missing.l0 k (thoseUpto (missP l) i) (wrap64 ((i : Int) + 1)) n l) else ((spec_l01Below.f k (i : Int)).bind fun t181 => (spec_l07Missing.l1 k (thoseUpto (missP l) i) (i : Int) true t181 0 n l)))) (fun k => ?_) ?_
    · simp only [spec_l07Missing.l0, all_eq h1 h6, Option.bind_some]
      rw [if_pos (by omega)]
    · refine Ev.bind (ev_has hl n (i : Int)) ?_
      have hn := ih (i + 1) (by omega) (by omega) (by omega)
      rw [show ((i + 1 : Nat) : Int) = wrap64 ((i : Int) + 1) by rw [w64 (by omega) (by omega)]; omega] at hn
      by_cases hm : (i : Int) ∈ l
      · rw [decide_eq_true hm]
        simp only [if_true]
        rw [thoseUpto_no hi1 (by simp [missP, hm])] at hn
        exact hn
      · rw [decide_eq_false hm]
        simp only [Bool.false_eq_true, if_false]
        refine Ev.bind (ev_below (by omega) (by omega)) ?_
        refine missing_l1 n l _ hl borders_len6 _ (Nat.le_trans (thoseUpto_len _ _) (by omega)) _ _ _ 0 true rfl (Nat.zero_le _) ?_
        rw [List.drop_zero, Bool.true_and]
        have hp : missP l (i : Int) = (bordersL (i : Int)).all fun y => decide (y ∈ l) := by simp [missP, hm]
        cases hq : (bordersL (i : Int)).all fun y => decide (y ∈ l) with
        | true =>
          simp only [if_true]
          rw [thoseUpto_yes hi1 (by rw [hp]; exact hq)] at hn
          exact hn
        | false =>
          simp only [Bool.false_eq_true, if_false]
          rw [thoseUpto_no hi1 (by rw [hp]; exact hq)] at hn
          exact hn
theorem ev_spec (n : Int) {l : List Int} (hl : l.length ≤ maxLen) : Ev (fun k => spec_MissingFaces.f k n l) (missF n l) := by
  unfold spec_MissingFaces.f
  refine Ev.bind (ev_is n hl) ?_
  unfold missF
  cases hi : isC n l with
  | false => simp only [Bool.false_eq_true, if_false]; exact Ev.now _
  | true =>
    simp only [if_true]
    obtain ⟨⟨h1, h6⟩, _, _⟩ := isC_of hi
    unfold spec_l07Missing.f
    have := missing_loop h1 h6 hl _ 1 rfl (Nat.le_refl _) (Nat.one_le_two_pow)
    exact Ev.bind (f := fun _ t => some (t, (0 : Int))) this (Ev.now _)
theorem pure_len (n : Int) (l : List Int) : (missF n l).1.length ≤ 1048576 := by
  unfold missF
  split
  · rename_i h
    obtain ⟨⟨h1, h6⟩, _, _⟩ := isC_of h
    exact Nat.le_trans (thoseL_len h1 h6 _) (by omega)
  · simp

theorem FnExactMissingFaces (n0 : Int) (l0 : List Int) (_ : (Lit.int .i64 n0).wf = true) (hm0 : l0.length ≤ maxLen) (_ : ∀ x ∈ l0, (Lit.int .i64 x).wf = true) : ∃ k, laws_FnExactMissingFaces.f k n0 l0 = some true := by
  rcases Nat.lt_or_ge 1048576 l0.length with hl | hl
  · refine ⟨0, ?_⟩
    unfold laws_FnExactMissingFaces.f
    rw [sz_big hm0 hl]
    rfl
  · apply Ev.rounds
    obtain ⟨t, ht, ht0⟩ := sz_ok (n := n0) hl
    have hS := ev_spec n0 hm0
    have hI : impl_MissingFaces.f n0 l0 = some (missF n0 l0) := by unfold impl_MissingFaces.f; rw [if_pos (by omega)]
    have hR := pure_len n0 l0
    generalize missF n0 l0 = D at hS hI hR
    obtain ⟨r1, r2⟩ := D
    simp only at hR
    have hr1 : ¬ (1 + (r1.length : Int)) < 0 := by omega
    have hl1 : ¬ (1 + (l0.length : Int)) < 0 := by omega
    have h01 : (0 : Int) ≤ 1 ∧ (1 : Int) ≤ 1073741824 := by omega
    unfold laws_FnExactMissingFaces.f
    rw [ht]
    simp only [Option.bind_some, if_neg ht0]
    refine Ev.bind (ev_toComplex hl) ?_
    refine Ev.bind hS ?_
    refine Ev.bind (ev_toComplex hl) ?_
    simp only [hI, Option.bind_some]
    refine Ev.bind (ev_eqInt hR) ?_
    simp only [if_true]
    refine Ev.step (fun k => laws_FnExactMissingFaces.j0.eq_2 ..) ?_
    simp only [bne_self_eq_false, Bool.false_eq_true, if_false]
    refine Ev.bind (ev_toComplex hl) ?_
    refine Ev.bind (ev_eqComplex hl) ?_
    simp only [if_true]
    refine Ev.bind (ev_markComplex hl h01) ?_
    simp only [if_neg hl1]
    refine Ev.bind (ev_eqInt hR) ?_
    simp only [if_true]
    refine Ev.step (fun k => laws_FnExactMissingFaces.j1.eq_2 ..) ?_
    simp only [bne_self_eq_false, Bool.false_eq_true, if_false]
    refine Ev.bind (ev_mark hR h01) ?_
    refine Ev.bind (ev_held hR h01) ?_
    simp only [if_neg hr1, if_true]
    refine Ev.bind (ev_toComplex hl) ?_
    simp only [hI, Option.bind_some]
    refine Ev.bind (ev_eqInt hR) ?_
    simp only [if_true]
    refine Ev.step (fun k => laws_FnExactMissingFaces.j2.eq_2 ..) ?_
    simp only [bne_self_eq_false, Bool.false_eq_true, if_false]
    refine Ev.bind (ev_held hR h01) ?_
    simp only [if_neg hr1, if_true]
    exact Ev.now _

end Go.Proofs.Ytdkoioiiacljeaa.Pu
