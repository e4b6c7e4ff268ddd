/- Plain: the law of IsPure. -/
import Derived.Test.YtdkoioiiacljeaaPuF
import Derived.Test.YtdkoioiiacljeaaQSgIsPure
import Derived.Test.YtdkoioiiacljeaaExIsPure
import Derived.Test.YtdkoioiiacljeaaQFnExactIsPurex1
namespace Go.Proofs.Ytdkoioiiacljeaa.Pu
set_option linter.unusedVariables false
set_option linter.unusedSimpArgs false
open Go.RowKit Go.Proofs.Ytdkoioiiacljeaa.QS Go.Proofs.Ytdkoioiiacljeaa.Im Go.Proofs.Ytdkoioiiacljeaa.Ext Go.Proofs.Ytdkoioiiacljeaa.QFnExactIsPure Go.Proofs.YtdkoioiiacljeaaW.PrintWords Go.Proofs.YtdkoioiiacljeaaW.PrintLast Go.Proofs.YtdkoioiiacljeaaW.PrintMore

theorem fold_max (g : Int → Int) : ∀ (l : List Int) (a : Int), a ≤ l.foldl (fun a x => max a (g x)) a ∧ (∀ x ∈ l, g x ≤ l.foldl (fun a x => max a (g x)) a) ∧ (l.foldl (fun a x => max a (g x)) a = a ∨ ∃ x ∈ l, g x = l.foldl (fun a x => max a (g x)) a)
  | [], a => ⟨Int.le_refl _, fun x hx => (by cases hx), .inl rfl⟩
  | y :: l, a => by
    obtain ⟨h1, h2, h3⟩ := fold_max g l (max a (g y))
    rw [List.foldl_cons]
    refine ⟨by omega, fun x hx => ?_, ?_⟩
    · rcases List.mem_cons.1 hx with rfl | hx
      · omega
      · exact h2 x hx
    · rcases h3 with h3 | ⟨x, hx, h3⟩
      · by_cases hm : max a (g y) = a
        · exact .inl (h3.trans hm)
        · exact .inr ⟨y, List.mem_cons_self, by omega⟩
      · exact .inr ⟨x, List.mem_cons_of_mem _ hx, h3⟩
theorem top_facet {n : Int} {l : List Int} (hi : isC n l = true) (hne : l ≠ []) : ∃ x ∈ facetsL l, onesZ x - 1 = dimL l := by
  have hr := isC_63 hi
  obtain ⟨_, _, hc⟩ := isC_of hi
  obtain ⟨h1, h2, h3⟩ := fold_max (fun x => onesZ x - 1) l (-1)
  have ht : ∃ x ∈ l, onesZ x - 1 = dimL l := by
    rcases h3 with h3 | h3
    · obtain ⟨y, r, rfl⟩ := List.exists_cons_of_ne_nil hne
      have h4 := h2 y List.mem_cons_self
      have h5 := ones_le y
      exact ⟨y, List.mem_cons_self, by unfold dimL; rw [h3] at h4 ⊢; omega⟩
    · exact h3
  obtain ⟨x, hx, hd⟩ := ht
  refine ⟨x, List.mem_filter.2 ⟨hx, ?_⟩, hd⟩
  cases hb : biggerB l x with
  | false => rfl
  | true =>
    exfalso
    obtain ⟨g, hg, hp⟩ := List.any_eq_true.1 hb
    obtain ⟨h, hh, ho⟩ := in_over hc hr (hr x hx) _ g (Nat.le_refl _) hg hp
    have h4 := h2 h hh
    simp only [overP, Bool.and_eq_true] at ho
    have h5 := eq_of_beq ho.2
    unfold dimL at hd
    omega
theorem pure_eq {n : Int} {l : List Int} (hi : isC n l = true) : ((facetsL l).all fun x => onesZ x == onesZ ((facetsL l)[0]?.getD 0)) = pureB l := by
  unfold pureB
  by_cases hne : l = []
  · subst hne; rfl
  · obtain ⟨y, hy, hd⟩ := top_facet hi hne
    have hpos : 0 < (facetsL l).length := List.length_pos_of_mem hy
    have h0 : (facetsL l)[0]?.getD 0 ∈ facetsL l := by rw [List.getElem?_eq_getElem hpos]; exact List.getElem_mem hpos
    rw [Bool.eq_iff_iff, List.all_eq_true, List.all_eq_true]
    constructor
    · intro h x hx
      have h1 := eq_of_beq (h x hx)
      have h2 := eq_of_beq (h y hy)
      unfold pureP
      rw [h1, ← h2, hd]; exact beq_self_eq_true _
    · intro h x hx
      have h1 := eq_of_beq (h x hx)
      have h2 := eq_of_beq (h _ h0)
      have : onesZ x = onesZ ((facetsL l)[0]?.getD 0) := by omega
      rw [this]; exact beq_self_eq_true _

theorem pure_loop (fs : List Int) (hl : fs.length ≤ 64) (hr : ∀ x ∈ fs, 1 ≤ x ∧ x ≤ 63) : ∀ d (i : Nat), fs.length - i = d → i ≤ fs.length →
    Ev (fun k => spec_l07Pure.l0 k fs i) ((fs.drop i).all fun x => onesZ x == onesZ (fs[0]?.getD 0)) := by
  intro d
  induction d with
  | zero =>
    intro i hd hi
    rw [List.drop_eq_nil_of_le (by omega)]
    refine Ev.step (f := fun k => some true) (fun k => ?_) (Ev.now _)
    simp only [spec_l07Pure.l0]; rw [if_neg (by omega)]
  | succ d ih =>
    intro i hd hi
    have hi' : i < fs.length := by omega
    have h0' : 0 < fs.length := by omega
    have hx := hr _ (List.getElem_mem hi')
    have hx0 := hr _ (List.getElem_mem h0')
    have hw : wrap64 ((i : Int) + 1) = ((i + 1 : Nat) : Int) := by rw [w64 (by omega) (by omega)]; omega
    have hR0 : rd fs 0 = fs[0] := rd_at (i := 0) h0'
    have hg0 : fs[0]?.getD 0 = fs[0] := by rw [List.getElem?_eq_getElem h0']; rfl
    rw [List.drop_eq_getElem_cons hi', List.all_cons, hg0]
    refine Ev.step (f := fun k => (spec_l01Ones.f k fs[i]).bind fun t285 => ((spec_l01Ones.f k fs[0]).bind fun t287 => (if t285 = t287 then (spec_l07Pure.l0 k fs ((i + 1 : Nat) : Int)) else (some false)))) (fun k => ?_) ?_
    · simp only [spec_l07Pure.l0]
      rw [if_pos (by omega), if_pos (by omega), rd_at hi', hw, hR0]
      simp only [if_pos (show (0 : Int) < (fs.length : Int) by omega)]
    · refine Ev.bind (ev_ones (by omega) (by omega)) ?_
      refine Ev.bind (ev_ones (by omega) (by omega)) ?_
      by_cases ho : onesZ fs[i] = onesZ fs[0]
      · simp only [if_pos ho]
        have := ih (i + 1) (by omega) (by omega)
        rw [hg0] at this
        rw [beq_iff_eq.2 ho, Bool.true_and]
        exact this
      · simp only [if_neg ho]
        rw [beq_eq_false_iff_ne.2 ho, Bool.false_and]
        exact Ev.now _
theorem ev_spec (n : Int) {l : List Int} (hl : l.length ≤ maxLen) : Ev (fun k => spec_IsPure.f k n l) (pureF n l) := by
  unfold spec_IsPure.f
  refine Ev.bind (ev_is n hl) ?_
  unfold pureF
  cases hi : isC n l with
  | false => simp only [Bool.false_eq_true, if_false]; exact Ev.now _
  | true =>
    simp only [if_true]
    unfold spec_l07Pure.f
    have hr := isC_63 hi
    have hp := pure_loop (facetsL l) (Nat.le_trans (List.length_filter_le _ _) (isC_len hi)) (fun x hx => hr x (List.mem_filter.1 hx).1) _ 0 rfl (Nat.zero_le _)
    rw [List.drop_zero, pure_eq hi] at hp
    refine Ev.bind (f := fun _ t => some (t, (0 : Int))) ?_ (Ev.now _)
    exact Ev.bind (f := fun k t => spec_l07Pure.l0 k t 0) (ev_facets hi) hp

theorem FnExactIsPure (n0 : Int) (l0 : List Int) (_ : (Lit.int .i64 n0).wf = true) (hm0 : l0.length ≤ maxLen) (_ : ∀ x ∈ l0, (Lit.int .i64 x).wf = true) : ∃ k, laws_FnExactIsPure.f k n0 l0 = some true := by
  rcases Nat.lt_or_ge 1048576 l0.length with hl | hl
  · refine ⟨0, ?_⟩
    unfold laws_FnExactIsPure.f
    rw [sz_big hm0 hl]
    rfl
  · apply Ev.rounds
    obtain ⟨t, ht, ht0⟩ := sz_ok (n := n0) hl
    have hS := ev_spec n0 hm0
    have hI : impl_IsPure.f n0 l0 = some (pureF n0 l0) := by unfold impl_IsPure.f; rw [if_pos (by omega)]
    generalize pureF n0 l0 = D at hS hI
    obtain ⟨r1, r2⟩ := D
    have hl1 : ¬ (1 + (l0.length : Int)) < 0 := by omega
    have h01 : (0 : Int) ≤ 1 ∧ (1 : Int) ≤ 1073741824 := by omega
    unfold laws_FnExactIsPure.f
    rw [ht]
    simp only [Option.bind_some, if_neg ht0]
    refine Ev.bind (ev_toComplex hl) ?_
    refine Ev.bind hS ?_
    refine Ev.bind (ev_toComplex hl) ?_
    simp only [hI, Option.bind_some]
    simp only [bne_self_eq_false, Bool.false_eq_true, if_false]
    refine Ev.step (fun k => laws_FnExactIsPure.j0.eq_2 ..) ?_
    simp only [bne_self_eq_false, Bool.false_eq_true, if_false]
    refine Ev.bind (ev_toComplex hl) ?_
    refine Ev.bind (ev_eqComplex hl) ?_
    simp only [if_true]
    exact Ev.now _

end Go.Proofs.Ytdkoioiiacljeaa.Pu
