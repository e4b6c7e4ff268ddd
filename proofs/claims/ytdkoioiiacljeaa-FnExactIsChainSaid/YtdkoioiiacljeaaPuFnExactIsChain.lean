/- Plain: the law of IsChain. -/
import Derived.Test.YtdkoioiiacljeaaPuC
import Derived.Test.YtdkoioiiacljeaaQSgIsChain
import Derived.Test.YtdkoioiiacljeaaExIsChain
import Derived.Test.YtdkoioiiacljeaaQFnExactIsChainx2
namespace Go.Proofs.Ytdkoioiiacljeaa.Pu
set_option linter.unusedVariables false
set_option linter.unusedSimpArgs false
open Go.RowKit Go.Proofs.Ytdkoioiiacljeaa.QS Go.Proofs.Ytdkoioiiacljeaa.Im Go.Proofs.Ytdkoioiiacljeaa.Ext Go.Proofs.Ytdkoioiiacljeaa.QFnExactIsChain Go.Proofs.YtdkoioiiacljeaaW.PrintWords Go.Proofs.YtdkoioiiacljeaaW.PrintLast Go.Proofs.YtdkoioiiacljeaaW.PrintMore

theorem ones_all : ((List.range 64).all fun f => spec_l01Ones.f 8 (f : Int) == some (onesZ (f : Int))) = true := by decide +kernel
theorem ev_ones {x : Int} (h0 : 0 ≤ x) (h6 : x ≤ 63) : Ev (fun k => spec_l01Ones.f k x) (onesZ x) := by
  obtain ⟨m, rfl⟩ := Int.eq_ofNat_of_zero_le h0
  exact Ev.of (fun k => spec_l01Ones.mono _ k) (eq_of_beq (List.all_eq_true.1 ones_all m (List.mem_range.2 (by omega))))

theorem chain_spec (n : Int) (l l1 : List Int) (hl : l.length ≤ maxLen) (hr : ∀ x ∈ l, 1 ≤ x ∧ x ≤ 63) (hm : l1.length ≤ 4611686018427387904) :
    ∀ d (i : Nat), l1.length - i = d → i ≤ l1.length → (0 < i → l1[0]?.getD 0 ∈ l) → Ev (fun k => spec_l06Chain.l0 k l1 i n l) ((List.range' i d).all (stepB l l1)) := by
  intro d
  induction d with
  | zero =>
    intro i hd hi h0
    refine Ev.step (f := fun k => some true) (fun k => ?_) (Ev.now _)
    simp only [spec_l06Chain.l0]; rw [if_neg (by omega)]
  | succ d ih =>
    intro i hd hi h0
    have hi' : i < l1.length := by omega
    have hw : wrap64 ((i : Int) + 1) = ((i + 1 : Nat) : Int) := by rw [w64 (by omega) (by omega)]; omega
    have hg : l1[i]?.getD 0 = l1[i] := by rw [List.getElem?_eq_getElem hi']; rfl
    have hg0 : l1[0]?.getD 0 = l1[0]'(by omega) := by rw [List.getElem?_eq_getElem (by omega)]; rfl
    have hR0 : rd l1 0 = l1[0]'(by omega) := rd_at (i := 0) (by omega)
    have hpos : (0 : Int) < (l1.length : Int) := by omega
    rw [List.range'_succ, List.all_cons]
    refine Ev.step (f := fun k => (spec_l01Has.f k n l l1[i]).bind fun t227 => (if t227 = true then ((spec_l01Ones.f k l1[i]).bind fun t229 => ((spec_l01Ones.f k (l1[0]'(by omega))).bind fun t231 => (if t229 = t231 then (if (i : Int) > 0 then (if 0 ≤ (wrap64 ((i : Int) - 1)) then (if (wrap64 ((i : Int) - 1)) < (l1.length : Int) then (if l1[i] ≤ (rd l1 (wrap64 ((i : Int) - 1))) then (some false) else (spec_l06Chain.l0 k l1 ((i + 1 : Nat) : Int) n l)) else (none)) else (none)) else (spec_l06Chain.l0 k l1 ((i + 1 : Nat) : Int) n l)) else (some false)))) else (some false))) (fun k => ?_) ?_
    · simp only [spec_l06Chain.l0]
      rw [if_pos (by omega), if_pos (by omega), rd_at hi', hR0, hw]
      simp only [if_pos hpos]
    · refine Ev.bind (ev_has hl n l1[i]) ?_
      by_cases hmem : l1[i] ∈ l
      · have hm0 : l1[0]'(by omega) ∈ l := by
          rcases Nat.eq_zero_or_pos i with h | h
          · subst h; exact hmem
          · have := h0 h; rwa [hg0] at this
        have hx := hr _ hmem
        have hx0 := hr _ hm0
        simp only [hmem, decide_true, if_true]
        refine Ev.bind (ev_ones (by omega) (by omega)) ?_
        refine Ev.bind (ev_ones (by omega) (by omega)) ?_
        have hn := ih (i + 1) (by omega) (by omega) (fun _ => by rw [hg0]; exact hm0)
        by_cases ho : onesZ l1[i] = onesZ (l1[0]'(by omega))
        · simp only [ho, if_true]
          rcases Nat.eq_zero_or_pos i with hz | hz
          · subst hz
            have : stepB l l1 0 = true := by simp [stepB, hg0, hm0]
            rw [this, Bool.true_and]
            exact hn
          · have hi1 : i - 1 < l1.length := by omega
            have hwm : wrap64 ((i : Int) - 1) = ((i - 1 : Nat) : Int) := by rw [w64 (by omega) (by omega)]; omega
            have hgm : l1[i - 1]?.getD 0 = l1[i - 1] := by rw [List.getElem?_eq_getElem hi1]; rfl
            simp only [hwm, if_pos (show (i : Int) > 0 by omega), if_pos (show (0 : Int) ≤ ((i - 1 : Nat) : Int) by omega), if_pos (show ((i - 1 : Nat) : Int) < (l1.length : Int) by omega), rd_at hi1]
            by_cases hlt : l1[i] ≤ l1[i - 1]
            · simp only [if_pos hlt]
              have : stepB l l1 i = false := by
                have h1 : (i == 0) = false := by simp; omega
                have h2 : decide (l1[i - 1] < l1[i]) = false := by simp; omega
                simp only [stepB, hgm, hg, h1, h2, Bool.or_false, Bool.and_false]
              rw [this, Bool.false_and]; exact Ev.now _
            · simp only [if_neg hlt]
              have : stepB l l1 i = true := by
                have h2 : decide (l1[i - 1] < l1[i]) = true := by simp; omega
                simp only [stepB, hgm, hg, hg0, h2, Bool.or_true, Bool.and_true, hmem, decide_true, ho, beq_self_eq_true]
              rw [this, Bool.true_and]; exact hn
        · simp only [ho, if_false]
          have : stepB l l1 i = false := by
            have h1 : (onesZ l1[i] == onesZ (l1[0]'(by omega))) = false := beq_eq_false_iff_ne.2 ho
            simp only [stepB, hg, hg0, h1, Bool.false_and, Bool.and_false]
          rw [this, Bool.false_and]; exact Ev.now _
      · simp only [hmem, decide_false, Bool.false_eq_true, if_false]
        have : stepB l l1 i = false := by simp only [stepB, hg, hmem, decide_false, Bool.false_and]
        rw [this, Bool.false_and]; exact Ev.now _

theorem ev_spec (n : Int) (l1 : List Int) (h1 : l1.length ≤ 1048576) {l : List Int} (hl : l.length ≤ maxLen) : Ev (fun k => spec_IsChain.f k n l l1) (isChainF n l l1) := by
  unfold spec_IsChain.f
  refine Ev.bind (ev_is n hl) ?_
  unfold isChainF
  cases hi : isC n l with
  | false => simp only [Bool.false_eq_true, if_false]; exact Ev.now _
  | true =>
    simp only [if_true]
    unfold spec_l06Chain.f
    exact Ev.bind (f := fun _ t => some (t, (0 : Int))) (chain_spec n l l1 hl (isC_63 hi) (by omega) _ 0 rfl (Nat.zero_le _) (fun h => absurd h (Nat.lt_irrefl 0))) (Ev.now _)

theorem FnExactIsChain (n0 : Int) (l0 : List Int) (_ : (Lit.int .i64 n0).wf = true) (hm0 : l0.length ≤ maxLen) (_ : ∀ x ∈ l0, (Lit.int .i64 x).wf = true) (l1 : List Int) (hm1 : l1.length ≤ maxLen) (hw1 : ∀ x ∈ l1, (Lit.int .i64 x).wf = true) : ∃ k, laws_FnExactIsChain.f k n0 l0 l1 = some true := by
  rcases Nat.lt_or_ge 1048576 l1.length with hl1 | hl1
  · refine ⟨0, ?_⟩
    unfold laws_FnExactIsChain.f
    rw [if_pos (by omega)]
  rcases Nat.lt_or_ge 1048576 l0.length with hl | hl
  · refine ⟨0, ?_⟩
    unfold laws_FnExactIsChain.f
    rw [if_neg (by omega), sz_big hm0 hl]
    rfl
  · apply Ev.rounds
    obtain ⟨t, ht, ht0⟩ := sz_ok (n := n0) hl
    have hS := ev_spec n0 l1 hl1 hm0
    have hI : impl_IsChain.f n0 l0 l1 = some (isChainF n0 l0 l1) := by unfold impl_IsChain.f; rw [if_pos (by omega)]
    generalize isChainF n0 l0 l1 = D at hS hI
    obtain ⟨r1, r2⟩ := D
    unfold laws_FnExactIsChain.f
    simp only [if_neg (show ¬ (l1.length : Int) > 1048576 by omega), ht, Option.bind_some, if_neg ht0]
    refine Ev.bind (ev_toComplex hl) ?_
    refine Ev.bind (ev_toInt hl1) ?_
    refine Ev.bind hS ?_
    refine Ev.bind (ev_toComplex hl) ?_
    refine Ev.bind (ev_toInt hl1) ?_
    simp only [hI, Option.bind_some]
    simp only [bne_self_eq_false, Bool.false_eq_true, if_false]
    refine Ev.step (fun k => laws_FnExactIsChain.j0.eq_2 ..) ?_
    simp only [bne_self_eq_false, Bool.false_eq_true, if_false]
    refine Ev.bind (ev_toComplex hl) ?_
    refine Ev.bind (ev_eqComplex hl) ?_
    simp only [if_true]
    refine Ev.bind (ev_toInt hl1) ?_
    refine Ev.bind (ev_eqInt hl1) ?_
    simp only [if_true]
    exact Ev.now _

end Go.Proofs.Ytdkoioiiacljeaa.Pu
