/- Plain: the law of DominatedVertices. -/
import Derived.Test.YtdkoioiiacljeaaPuF
import Derived.Test.YtdkoioiiacljeaaQSgDominatedVertices
import Derived.Test.YtdkoioiiacljeaaExDominatedVertices
import Derived.Test.YtdkoioiiacljeaaQFnExactDominatedVerticesx2
namespace Go.Proofs.Ytdkoioiiacljeaa.Pu
set_option linter.unusedVariables false
set_option linter.unusedSimpArgs false
open Go.RowKit Go.Proofs.Ytdkoioiiacljeaa.QS Go.Proofs.Ytdkoioiiacljeaa.Im Go.Proofs.Ytdkoioiiacljeaa.Ext Go.Proofs.Ytdkoioiiacljeaa.QFnExactDominatedVertices Go.Proofs.YtdkoioiiacljeaaW.PrintWords Go.Proofs.YtdkoioiiacljeaaW.PrintLast Go.Proofs.YtdkoioiiacljeaaW.PrintMore

theorem shl_u {v : Nat} (hv : v ≤ 5) : 0 ≤ IntKind.u64.wrap (v : Int) ∧ shl .i64 1 (IntKind.u64.wrap (v : Int)) = 2 ^ v := by
  obtain rfl | rfl | rfl | rfl | rfl | rfl : v = 0 ∨ v = 1 ∨ v = 2 ∨ v = 3 ∨ v = 4 ∨ v = 5 := by omega
  all_goals decide +kernel
theorem and_v_all : ((List.range 6).all fun v => (List.range 64).all fun x => decide (Go.bits .and .i64 (x : Int) (2 ^ v) = 0) == noBit v (x : Int)) = true := by decide +kernel
theorem and_v {v : Nat} (hv : v ≤ 5) {x : Int} (h0 : 0 ≤ x) (h6 : x ≤ 63) : Go.bits .and .i64 x (2 ^ v) = 0 ↔ noBit v x = true := by
  obtain ⟨m, rfl⟩ := Int.eq_ofNat_of_zero_le h0
  have h2 := eq_of_beq (List.all_eq_true.1 (List.all_eq_true.1 and_v_all v (List.mem_range.2 (by omega))) m (List.mem_range.2 (by omega)))
  cases hq : noBit v (m : Int) <;> rw [hq] at h2 <;> simpa using h2

theorem dom_s1 (n : Int) (l fs : List Int) (hl : fs.length ≤ 64) (hr : ∀ x ∈ fs, 1 ≤ x ∧ x ≤ 63) (v : Nat) (hv : v ≤ 5) (acc : List Int) (ha : acc.length ≤ 64) (R : List Int) :
    ∀ d (i : Nat) (a : Int), fs.length - i = d → i ≤ fs.length → Ev (fun k => if meetZ v (fs.drop i) a = 2 ^ v then spec_l05Dominated.l0 k fs acc ((v + 1 : Nat) : Int) n l else spec_l05Dominated.l0 k fs (acc ++ [(v : Int)]) ((v + 1 : Nat) : Int) n l) R →
    Ev (fun k => spec_l05Dominated.l1 k fs acc v (2 ^ v) a i n l) R := by
  have hwv : wrap64 ((v : Int) + 1) = ((v + 1 : Nat) : Int) := by rw [w64 (by omega) (by omega)]; omega
  intro d
  induction d with
  | zero =>
    intro i a hd hi hR
    rw [List.drop_eq_nil_of_le (by omega)] at hR
    refine Ev.step (f := fun k => if meetZ v [] a = 2 ^ v then spec_l05Dominated.l0 k fs acc ((v + 1 : Nat) : Int) n l else spec_l05Dominated.l0 k fs (acc ++ [(v : Int)]) ((v + 1 : Nat) : Int) n l) (fun k => ?_) hR
    simp only [spec_l05Dominated.l1]
    rw [if_neg (by omega), hwv, if_pos (show acc.length < 17592186044416 by omega)]
    rfl
  | succ d ih =>
    intro i a hd hi hR
    have hi' : i < fs.length := by omega
    have hx := hr _ (List.getElem_mem hi')
    have hw : wrap64 ((i : Int) + 1) = ((i + 1 : Nat) : Int) := by rw [w64 (by omega) (by omega)]; omega
    have hb := and_v hv (x := fs[i]) (by omega) (by omega)
    rw [List.drop_eq_getElem_cons hi'] at hR
    cases hq : noBit v fs[i] with
    | true =>
      refine Ev.step (f := fun k => spec_l05Dominated.l1 k fs acc v (2 ^ v) a ((i + 1 : Nat) : Int) n l) (fun k => ?_) (ih (i + 1) a (by omega) (by omega) ?_)
      · simp only [spec_l05Dominated.l1]
        rw [if_pos (by omega), if_pos (by omega), rd_at hi', if_pos (hb.2 hq), hw]
      · have : meetZ v (fs[i] :: fs.drop (i + 1)) a = meetZ v (fs.drop (i + 1)) a := by unfold meetZ; rw [List.foldl_cons, if_pos hq]
        rw [this] at hR; exact hR
    | false =>
      refine Ev.step (f := fun k => spec_l05Dominated.l1 k fs acc v (2 ^ v) (Go.bits .and .i64 a fs[i]) ((i + 1 : Nat) : Int) n l) (fun k => ?_) (ih (i + 1) _ (by omega) (by omega) ?_)
      · simp only [spec_l05Dominated.l1]
        rw [if_pos (by omega), if_pos (by omega), rd_at hi', if_neg (fun h => by have := hb.1 h; rw [hq] at this; cases this), hw]
      · have : meetZ v (fs[i] :: fs.drop (i + 1)) a = meetZ v (fs.drop (i + 1)) (Go.bits .and .i64 a fs[i]) := by unfold meetZ; rw [List.foldl_cons, if_neg (by rw [hq]; exact Bool.false_ne_true)]
        rw [this] at hR; exact hR
theorem dom_s0 {n : Int} {l : List Int} (hi : isC n l = true) (hl : l.length ≤ maxLen) : ∀ d (v : Nat) (acc : List Int), n.toNat - v = d → v ≤ n.toNat → acc.length ≤ v →
    Ev (fun k => spec_l05Dominated.l0 k (facetsL l) acc v n l) (acc ++ ((List.range' v d).filter (domB n l)).map (fun v : Nat => (v : Int))) := by
  obtain ⟨⟨h1, h6⟩, hasc, _⟩ := isC_of hi
  have hs := isC_len hi
  have h63 := isC_63 hi
  intro d
  induction d with
  | zero =>
    intro v acc hd hv ha
    refine Ev.step (f := fun k => some acc) (fun k => ?_) ?_
    · simp only [spec_l05Dominated.l0]; rw [if_neg (by omega)]
    · rw [List.range'_zero, List.filter_nil, List.map_nil, List.append_nil]; exact Ev.now _
  | succ d ih =>
    intro v acc hd hv ha
    have hv5 : v ≤ 5 := by omega
    have hwv : wrap64 ((v : Int) + 1) = ((v + 1 : Nat) : Int) := by rw [w64 (by omega) (by omega)]; omega
    obtain ⟨s0, s1⟩ := shl_u hv5
    rw [List.range'_succ]
    refine Ev.step (f := fun k => (spec_l01Has.f k n l (2 ^ v)).bind fun t298 => (if t298 = true then (spec_l05Dominated.l1 k (facetsL l) acc v (2 ^ v) (fullZ n) ((0 : Nat) : Int) n l) else (spec_l05Dominated.l0 k (facetsL l) acc ((v + 1 : Nat) : Int) n l))) (fun k => ?_) ?_
    · simp only [spec_l05Dominated.l0, all_eq h1 h6, Option.bind_some]
      rw [if_pos (by omega), if_pos s0, s1, hwv]
      rfl
    · refine Ev.bind (ev_has hl n (2 ^ v)) ?_
      by_cases hm : (2 : Int) ^ v ∈ l
      · simp only [hm, decide_true, if_true]
        refine dom_s1 n l (facetsL l) (Nat.le_trans (List.length_filter_le _ _) (by omega)) (fun x hx => h63 x (List.mem_filter.1 hx).1) v hv5 acc (by omega) _ _ 0 _ rfl (Nat.zero_le _) ?_
        rw [List.drop_zero]
        by_cases hq : meetZ v (facetsL l) (fullZ n) = 2 ^ v
        · simp only [if_pos hq]
          rw [List.filter_cons_of_neg (by simp [domB, hq])]
          exact ih (v + 1) acc (by omega) (by omega) (by omega)
        · simp only [if_neg hq]
          rw [List.filter_cons_of_pos (by simp [domB, hq, hm]), List.map_cons]
          have := ih (v + 1) (acc ++ [(v : Int)]) (by omega) (by omega) (by rw [List.length_append]; simp; omega)
          rw [List.append_assoc] at this
          exact this
      · simp only [hm, decide_false, Bool.false_eq_true, if_false]
        rw [List.filter_cons_of_neg (by simp [domB, hm])]
        exact ih (v + 1) acc (by omega) (by omega) (by omega)
theorem ev_spec (n : Int) {l : List Int} (hl : l.length ≤ maxLen) : Ev (fun k => spec_DominatedVertices.f k n l) (domF n l) := by
  unfold spec_DominatedVertices.f
  refine Ev.bind (ev_is n hl) ?_
  unfold domF
  cases hi : isC n l with
  | false => simp only [Bool.false_eq_true, if_false]; exact Ev.now _
  | true =>
    simp only [if_true]
    unfold spec_l05Dominated.f
    have hp := dom_s0 hi hl _ 0 [] rfl (Nat.zero_le _) (by simp)
    rw [List.nil_append] at hp
    refine Ev.bind (f := fun _ t => some (t, (0 : Int))) ?_ (Ev.now _)
    exact Ev.bind (f := fun k t => spec_l05Dominated.l0 k t [] 0 n l) (ev_facets hi) hp
theorem pure_len (n : Int) (l : List Int) : (domF n l).1.length ≤ 1048576 := by
  unfold domF
  split
  · rename_i h
    obtain ⟨⟨h1, h6⟩, _, _⟩ := isC_of h
    have h2 := List.length_filter_le (domB n l) (List.range' 0 n.toNat)
    rw [List.length_range'] at h2
    simp only [domL, List.length_map]
    omega
  · simp

theorem FnExactDominatedVertices (n0 : Int) (l0 : List Int) (_ : (Lit.int .i64 n0).wf = true) (hm0 : l0.length ≤ maxLen) (_ : ∀ x ∈ l0, (Lit.int .i64 x).wf = true) : ∃ k, laws_FnExactDominatedVertices.f k n0 l0 = some true := by
  rcases Nat.lt_or_ge 1048576 l0.length with hl | hl
  · refine ⟨0, ?_⟩
    unfold laws_FnExactDominatedVertices.f
    rw [sz_big hm0 hl]
    rfl
  · apply Ev.rounds
    obtain ⟨t, ht, ht0⟩ := sz_ok (n := n0) hl
    have hS := ev_spec n0 hm0
    have hI : impl_DominatedVertices.f n0 l0 = some (domF n0 l0) := by unfold impl_DominatedVertices.f; rw [if_pos (by omega)]
    have hR := pure_len n0 l0
    generalize domF n0 l0 = D at hS hI hR
    obtain ⟨r1, r2⟩ := D
    simp only at hR
    have hr1 : ¬ (1 + (r1.length : Int)) < 0 := by omega
    have hl1 : ¬ (1 + (l0.length : Int)) < 0 := by omega
    have h01 : (0 : Int) ≤ 1 ∧ (1 : Int) ≤ 1073741824 := by omega
    unfold laws_FnExactDominatedVertices.f
    rw [ht]
    simp only [Option.bind_some, if_neg ht0]
    refine Ev.bind (ev_toComplex hl) ?_
    refine Ev.bind hS ?_
    refine Ev.bind (ev_toComplex hl) ?_
    simp only [hI, Option.bind_some]
    refine Ev.bind (ev_eqInt hR) ?_
    simp only [if_true]
    refine Ev.step (fun k => laws_FnExactDominatedVertices.j0.eq_2 ..) ?_
    simp only [bne_self_eq_false, Bool.false_eq_true, if_false]
    refine Ev.bind (ev_toComplex hl) ?_
    refine Ev.bind (ev_eqComplex hl) ?_
    simp only [if_true]
    refine Ev.bind (ev_markComplex hl h01) ?_
    simp only [if_neg hl1]
    refine Ev.bind (ev_eqInt hR) ?_
    simp only [if_true]
    refine Ev.step (fun k => laws_FnExactDominatedVertices.j1.eq_2 ..) ?_
    simp only [bne_self_eq_false, Bool.false_eq_true, if_false]
    refine Ev.bind (ev_mark hR h01) ?_
    refine Ev.bind (ev_held hR h01) ?_
    simp only [if_neg hr1, if_true]
    refine Ev.bind (ev_toComplex hl) ?_
    simp only [hI, Option.bind_some]
    refine Ev.bind (ev_eqInt hR) ?_
    simp only [if_true]
    refine Ev.step (fun k => laws_FnExactDominatedVertices.j2.eq_2 ..) ?_
    simp only [bne_self_eq_false, Bool.false_eq_true, if_false]
    refine Ev.bind (ev_held hR h01) ?_
    simp only [if_neg hr1, if_true]
    exact Ev.now _

end Go.Proofs.Ytdkoioiiacljeaa.Pu
