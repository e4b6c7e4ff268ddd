/- Words and lemmas for FnExactWaysBetween, part 5: what the row's text comes to. -/
import Derived.Test.YtnmhnkpijjmhjaaZFnExactWaysBetweend
namespace Go.Proofs.Ytnmhnkpijjmhjaa.Pu
set_option linter.unusedVariables false
set_option linter.unusedSimpArgs false
open Go.RowKit Go.Proofs.Ytnmhnkpijjmhjaa.QS Go.Proofs.YtnmhnkpijjmhjaaW.PrintWords Go.Proofs.YtnmhnkpijjmhjaaW.PrintLast Go.Proofs.YtnmhnkpijjmhjaaW.PrintMore
theorem w64 {x : Int} (h1 : -9223372036854775808 ≤ x) (h2 : x ≤ 9223372036854775807) : wrap64 x = x := by unfold wrap64; omega
theorem rd_at {l : List Int} {i : Nat} (h : i < l.length) : rd l (i : Int) = l[i] := by simp [rd, List.getD_eq_getElem?_getD, List.getElem?_eq_getElem h]
theorem sz_ints {l : List Int} (hm : l.length ≤ maxLen) {b : Int} (h0 : 0 ≤ b) (h1 : b ≤ 1048576) : laws_szInt64S.f l b = some (if b < (l.length : Int) then -1 else b - l.length) := by
  unfold laws_szInt64S.f
  simp only [maxLen] at hm
  rw [w64 (by omega) (by omega)]
  by_cases h : b < (l.length : Int)
  · rw [if_pos (by omega), if_pos h]
  · rw [if_neg (by omega), if_neg h]
theorem sz_cx {n : Int} {l : List Int} (hm : l.length ≤ maxLen) {b : Int} (h0 : 0 ≤ b) (h1 : b ≤ 1048576) : laws_szComplex.f n l b = some (if b < (l.length : Int) then -1 else b - l.length) := by
  unfold laws_szComplex.f
  rw [sz_ints hm h0 h1, Option.bind_some]
  by_cases h : b < (l.length : Int)
  · rw [if_pos h, if_pos (by omega)]
  · rw [if_neg h, if_neg (by omega)]
theorem toInt_loop (l : List Int) (hl : l.length ≤ 1048576) : ∀ d (i : Nat) (x3 : List Int) k, l.length - i = d → d < k → i ≤ l.length → x3.length = l.length → (∀ j, j < i → x3[j]? = l[j]?) → laws_toInt64S.l0 k l x3 i = some l := by
  intro d
  induction d with
  | zero =>
    intro i x3 k hd hk hi hx hj
    obtain ⟨k, rfl⟩ : ∃ m, k = m + 1 := ⟨k - 1, by omega⟩
    simp only [laws_toInt64S.l0]
    rw [if_neg (by omega)]
    congr 1
    apply List.ext_getElem?
    intro j
    rcases Nat.lt_or_ge j i with h | h
    · exact hj j h
    · rw [List.getElem?_eq_none (by omega), List.getElem?_eq_none (by omega)]
  | succ d ih =>
    intro i x3 k hd hk hi hx hj
    obtain ⟨k, rfl⟩ : ∃ m, k = m + 1 := ⟨k - 1, by omega⟩
    simp only [laws_toInt64S.l0]
    rw [if_pos (by omega), if_pos (by omega), if_pos (by omega), w64 (by omega) (by omega)]
    refine ih (i + 1) _ k (by omega) (by omega) (by omega) (by simpa using hx) (fun j hji => ?_)
    rw [Int.toNat_natCast, List.getElem?_set]
    split
    · rename_i h
      subst h
      rw [if_pos (by omega), rd_at (by omega), List.getElem?_eq_getElem (by omega)]
    · exact hj j (by omega)
theorem ev_toInt {l : List Int} (hl : l.length ≤ 1048576) : Ev (fun k => laws_toInt64S.f k l) l := by
  refine ⟨l.length + 1, fun k hk => ?_⟩
  dsimp only
  unfold laws_toInt64S.f
  rw [if_pos (by omega), if_pos (by omega)]
  exact toInt_loop l hl l.length 0 _ k (by omega) (by omega) (by omega) (by simp) (fun j hj => absurd hj (Nat.not_lt_zero _))
theorem ev_toComplex {n : Int} {l : List Int} (hl : l.length ≤ 1048576) : Ev (fun k => laws_toComplex.f k n l) (n, l) := by
  unfold laws_toComplex.f
  exact Ev.bind (f := fun _ t => some (n, t)) (ev_toInt hl) (Ev.now _)
theorem eqInt_loop (l : List Int) (hl : l.length ≤ 1048576) : ∀ d (i : Nat) k, l.length - i = d → d < k → i ≤ l.length → laws_eqInt64S.l0 k l l i = some true := by
  intro d
  induction d with
  | zero =>
    intro i k hd hk hi
    obtain ⟨k, rfl⟩ : ∃ m, k = m + 1 := ⟨k - 1, by omega⟩
    simp only [laws_eqInt64S.l0]
    rw [if_neg (by omega)]
  | succ d ih =>
    intro i k hd hk hi
    obtain ⟨k, rfl⟩ : ∃ m, k = m + 1 := ⟨k - 1, by omega⟩
    simp only [laws_eqInt64S.l0]
    rw [if_pos (by omega), if_pos (by omega), if_pos (by omega), if_pos trivial, w64 (by omega) (by omega)]
    exact ih (i + 1) k (by omega) (by omega) (by omega)
theorem ev_eqInt {l : List Int} (hl : l.length ≤ 1048576) : Ev (fun k => laws_eqInt64S.f k l l) true := by
  refine ⟨l.length + 1, fun k hk => ?_⟩
  dsimp only
  unfold laws_eqInt64S.f
  rw [if_pos rfl]
  exact eqInt_loop l hl l.length 0 k (by omega) (by omega) (by omega)
theorem ev_eqComplex {n : Int} {l : List Int} (hl : l.length ≤ 1048576) : Ev (fun k => laws_eqComplex.f k n l n l) true := by
  unfold laws_eqComplex.f
  simp only [if_true]
  exact Ev.bind (f := fun _ t => if t = true then some true else some false) (ev_eqInt hl) (by simp only [if_true]; exact Ev.now _)
end Go.Proofs.Ytnmhnkpijjmhjaa.Pu
namespace Go.Proofs.Ytnmhnkpijjmhjaa.Pu
set_option linter.unusedVariables false
set_option linter.unusedSimpArgs false
open Go.RowKit Go.Proofs.Ytnmhnkpijjmhjaa.QS Go.Proofs.Ytnmhnkpijjmhjaa.Im Go.Proofs.YtnmhnkpijjmhjaaW.PrintWords Go.Proofs.YtnmhnkpijjmhjaaW.PrintLast Go.Proofs.YtnmhnkpijjmhjaaW.PrintMore
theorem in_eq (a b c : Int) : spec_l01In.f a b c = some (withinB a b c) := by
  unfold spec_l01In.f withinB
  by_cases h : a ≥ b
  · rw [if_pos h, decide_eq_true (show b ≤ a by omega)]; rfl
  · rw [if_neg h, decide_eq_false (show ¬ b ≤ a by omega)]; rfl
theorem all_eq {n : Int} (h1 : 1 ≤ n) (h6 : n ≤ 6) : spec_l01All.f n = some (fullZ n) := by
  obtain rfl | rfl | rfl | rfl | rfl | rfl : n = 1 ∨ n = 2 ∨ n = 3 ∨ n = 4 ∨ n = 5 ∨ n = 6 := by omega
  all_goals decide +kernel
theorem below_all : ((List.range 64).all fun f => f == 0 || spec_l01Below.f 70 (f : Int) == some (bordersL (f : Int))) = true := by decide +kernel
theorem ev_below {f : Int} (h1 : 1 ≤ f) (h2 : f ≤ 63) : Ev (fun k => spec_l01Below.f k f) (bordersL f) := by
  obtain ⟨m, rfl⟩ := Int.eq_ofNat_of_zero_le (show 0 ≤ f by omega)
  have h := List.all_eq_true.1 below_all m (List.mem_range.2 (by omega))
  have h0 : (m == 0) = false := by simp; omega
  rw [h0, Bool.false_or] at h
  exact Ev.of (fun k => spec_l01Below.mono _ k) (k := 70) (by simpa using h)
theorem has_loop (n x : Int) (l : List Int) (hl : l.length ≤ maxLen) : ∀ d (i : Nat) k, l.length - i = d → d < k → i ≤ l.length → spec_l01Has.l0 k x i n l = some (decide (x ∈ l.drop i)) := by
  simp only [maxLen] at hl
  intro d
  induction d with
  | zero =>
    intro i k hd hk hi
    obtain ⟨k, rfl⟩ : ∃ m, k = m + 1 := ⟨k - 1, by omega⟩
    simp only [spec_l01Has.l0]
    rw [if_neg (by omega), List.drop_eq_nil_of_le (by omega)]
    rfl
  | succ d ih =>
    intro i k hd hk hi
    obtain ⟨k, rfl⟩ : ∃ m, k = m + 1 := ⟨k - 1, by omega⟩
    simp only [spec_l01Has.l0]
    rw [if_pos (by omega), if_pos (by omega), rd_at (show i < l.length by omega), List.drop_eq_getElem_cons (show i < l.length by omega)]
    by_cases hx : l[i] = x
    · rw [if_pos hx, hx]; simp
    · rw [if_neg hx, w64 (by omega) (by omega)]
      have := ih (i + 1) k (by omega) (by omega) (by omega)
      rw [show ((i + 1 : Nat) : Int) = (i : Int) + 1 by omega] at this
      rw [this]
      exact congrArg some (decide_eq_decide.2 ⟨fun h => List.mem_cons.2 (Or.inr h), fun h => (List.mem_cons.1 h).resolve_left (Ne.symm hx)⟩)
theorem ev_has {l : List Int} (hl : l.length ≤ maxLen) (n x : Int) : Ev (fun k => spec_l01Has.f k n l x) (decide (x ∈ l)) := by
  refine ⟨l.length + 1, fun k hk => ?_⟩
  dsimp only
  unfold spec_l01Has.f
  have := has_loop n x l hl l.length 0 k (by omega) (by omega) (by omega)
  rwa [List.drop_zero] at this
theorem is_l2 (n : Int) (l b : List Int) (hl : l.length ≤ maxLen) (hb : b.length ≤ maxLen) (x4 : Int) (R : Bool) (hR : Ev (fun k => spec_l01Is.l1 k (wrap64 (x4 + 1)) n l) R) :
    ∀ d (j : Nat), b.length - j = d → j ≤ b.length → Ev (fun k => spec_l01Is.l2 k x4 b j n l) (((b.drop j).all fun y => decide (y ∈ l)) && R) := by
  simp only [maxLen] at hb
  intro d
  induction d with
  | zero =>
    intro j hd hj
    refine Ev.step (f := fun k => spec_l01Is.l1 k (wrap64 (x4 + 1)) n l) (fun k => ?_) ?_
    · simp only [spec_l01Is.l2]; rw [if_neg (by omega)]
    · rw [List.drop_eq_nil_of_le (by omega)]; exact hR
  | succ d ih =>
    intro j hd hj
    refine Ev.step (f := fun k => (spec_l01Has.f k n l b[j]).bind fun t => if t = true then spec_l01Is.l2 k x4 b ((j + 1 : Nat) : Int) n l else some false) (fun k => ?_) ?_
    · simp only [spec_l01Is.l2]
      rw [if_pos (by omega), if_pos (by omega), rd_at (show j < b.length by omega), w64 (by omega) (by omega), show ((j + 1 : Nat) : Int) = (j : Int) + 1 by omega]
    · refine Ev.bind (ev_has hl n b[j]) ?_
      rw [List.drop_eq_getElem_cons (show j < b.length by omega), List.all_cons]
      by_cases hm : b[j] ∈ l
      · rw [decide_eq_true hm]
        simp only [if_true, Bool.true_and]
        exact ih (j + 1) (by omega) (by omega)
      · rw [decide_eq_false hm]
        simp only [Bool.false_and]
        exact Ev.now _
theorem borders_len6 {f : Int} : (bordersL f).length ≤ 6 := by
  unfold bordersL
  refine Nat.le_trans (bordersOf_len _ _) ?_
  rw [upto_length]
  exact verts_len f
theorem is_l1 (n : Int) (l : List Int) (hl : l.length ≤ maxLen) (hr : ∀ x ∈ l, 1 ≤ x ∧ x ≤ 63) :
    ∀ d (i : Nat), l.length - i = d → i ≤ l.length → Ev (fun k => spec_l01Is.l1 k i n l) ((l.drop i).all fun f => (bordersL f).all fun y => decide (y ∈ l)) := by
  have hl' := hl
  simp only [maxLen] at hl'
  intro d
  induction d with
  | zero =>
    intro i hd hi
    refine Ev.step (f := fun k => some true) (fun k => ?_) ?_
    · simp only [spec_l01Is.l1]; rw [if_neg (by omega)]
    · rw [List.drop_eq_nil_of_le (by omega)]; exact Ev.now _
  | succ d ih =>
    intro i hd hi
    have hi' : i < l.length := by omega
    refine Ev.step (f := fun k => (spec_l01Below.f k l[i]).bind fun t => spec_l01Is.l2 k i t 0 n l) (fun k => ?_) ?_
    · simp only [spec_l01Is.l1]
      rw [if_pos (by omega), if_pos (by omega), rd_at hi']
    · have hx := hr l[i] (List.getElem_mem hi')
      refine Ev.bind (ev_below hx.1 hx.2) ?_
      have h1 := ih (i + 1) (by omega) (by omega)
      rw [show ((i + 1 : Nat) : Int) = wrap64 ((i : Int) + 1) by rw [w64 (by omega) (by omega)]; omega] at h1
      have h2 := is_l2 n l (bordersL l[i]) hl (by have := @borders_len6 l[i]; simp only [maxLen]; omega) i _ h1 _ 0 rfl (Nat.zero_le _)
      rw [List.drop_zero] at h2
      rw [List.drop_eq_getElem_cons hi', List.all_cons]
      exact h2
theorem is_l0 (n : Int) (h1 : 1 ≤ n) (h6 : n ≤ 6) (l : List Int) (hl : l.length ≤ maxLen) :
    ∀ d (i : Nat), l.length - i = d → i ≤ l.length → (∀ j, j < i → okAt n l j = true) → Ev (fun k => spec_l01Is.l0 k i n l) (ascB n l && closedB l) := by
  have hl' := hl
  simp only [maxLen] at hl'
  have hF := fullZ_le h1 h6
  intro d
  induction d with
  | zero =>
    intro i hd hi hj
    refine Ev.step (f := fun k => spec_l01Is.l1 k 0 n l) (fun k => ?_) ?_
    · simp only [spec_l01Is.l0]; rw [if_neg (by omega)]
    · have ha : ∀ j, j < l.length → okAt n l j = true := fun j h => hj j (by omega)
      rw [ascB_yes ha, Bool.true_and]
      have hr : ∀ x ∈ l, 1 ≤ x ∧ x ≤ 63 := by
        intro x hx
        obtain ⟨j, hj', rfl⟩ := List.mem_iff_getElem.1 hx
        have := ha j hj'
        simp only [okAt, withinB, Bool.and_eq_true, decide_eq_true_eq, List.getElem?_eq_getElem hj', Option.getD_some] at this
        omega
      have := is_l1 n l hl hr l.length 0 (by omega) (Nat.zero_le _)
      rw [List.drop_zero] at this
      exact this
  | succ d ih =>
    intro i hd hi hj
    have hi' : i < l.length := by omega
    refine Ev.step (f := fun k => if okAt n l i = true then spec_l01Is.l0 k ((i + 1 : Nat) : Int) n l else some false) (fun k => ?_) ?_
    · simp only [spec_l01Is.l0]
      rw [if_pos (by omega), if_pos (by omega), all_eq h1 h6]
      simp only [Option.bind_some, in_eq, rd_at hi']
      have hg : l[i]?.getD 0 = l[i] := by rw [List.getElem?_eq_getElem hi']; rfl
      unfold okAt
      rw [hg]
      rw [show wrap64 ((i : Int) + 1) = ((i + 1 : Nat) : Int) by rw [w64 (by omega) (by omega)]; omega]
      cases hw : withinB l[i] 1 (fullZ n) with
      | false => simp
      | true =>
        simp only [if_true, Bool.true_and]
        rcases Nat.eq_zero_or_pos i with hz | hz
        · subst hz; simp
        · have hp : l[i - 1]?.getD 0 = l[i - 1] := by rw [List.getElem?_eq_getElem (by omega)]; rfl
          have hb : (i == 0) = false := by simp; omega
          rw [if_pos (by omega), w64 (by omega) (by omega), if_pos (by omega), if_pos (by omega), hp, hb, Bool.false_or, show ((i : Int) - 1) = ((i - 1 : Nat) : Int) by omega, rd_at (show i - 1 < l.length by omega)]
          by_cases hle : l[i] ≤ l[i - 1]
          · rw [if_pos hle, decide_eq_false (by omega)]; simp
          · rw [if_neg hle, decide_eq_true (by omega)]; simp
    · cases ho : okAt n l i with
      | true =>
        simp only [if_true]
        exact ih (i + 1) (by omega) (by omega) (okAt_next hj ho)
      | false =>
        rw [ascB_no hi' ho]
        simp only [Bool.false_and]
        exact Ev.now _
/-- IsComplex, the reference's. -/
theorem ev_is (n : Int) {l : List Int} (hl : l.length ≤ maxLen) : Ev (fun k => spec_l01Is.f k n l) (isC n l) := by
  unfold spec_l01Is.f isC
  simp only [in_eq, Option.bind_some]
  cases hw : withinB n 1 6 with
  | false => simp only [Bool.false_and]; exact Ev.now _
  | true =>
    simp only [if_true, Bool.true_and]
    have hn : 1 ≤ n ∧ n ≤ 6 := by simpa [withinB] using hw
    exact is_l0 n hn.1 hn.2 l hl l.length 0 (by omega) (Nat.zero_le _) (fun j hj => absurd hj (Nat.not_lt_zero _))
end Go.Proofs.Ytnmhnkpijjmhjaa.Pu
namespace Go.Proofs.Ytnmhnkpijjmhjaa.Pu
set_option linter.unusedVariables false
set_option linter.unusedSimpArgs false
open Go.RowKit Go.Proofs.Ytnmhnkpijjmhjaa.Kp Go.Proofs.Ytnmhnkpijjmhjaa.Ext Go.Proofs.Ytnmhnkpijjmhjaa.QS Go.Proofs.Ytnmhnkpijjmhjaa.Im Go.Proofs.YtnmhnkpijjmhjaaW.PrintWords Go.Proofs.YtnmhnkpijjmhjaaW.PrintLast Go.Proofs.YtnmhnkpijjmhjaaW.PrintMore
def FacesP (l : List Pr) : Prop := ∀ q ∈ l, (1 ≤ q.f0 ∧ q.f0 ≤ 63) ∧ 1 ≤ q.f1 ∧ q.f1 ≤ 63
def highZ (l : List Pr) (a : Int) : Int := ((l.find? fun q => q.f0 == a).map (·.f1)).getD 0
def nextZ (l : List Pr) (a : Int) : List Int := if highZ l a = 0 then [] else (bordersL (highZ l a)).filter fun y => !(y == a)
theorem border_all : ((List.range 64).all fun f => f == 0 || (bordersL (f : Int)).all fun y => decide (1 ≤ y) && decide (y ≤ 63)) = true := by decide +kernel
theorem border_range {f y : Int} (h1 : 1 ≤ f) (h2 : f ≤ 63) (hy : y ∈ bordersL f) : 1 ≤ y ∧ y ≤ 63 := by
  obtain ⟨m, rfl⟩ := Int.eq_ofNat_of_zero_le (show 0 ≤ f by omega)
  have h := List.all_eq_true.1 border_all m (List.mem_range.2 (by omega))
  have h0 : (m == 0) = false := by simp; omega
  rw [h0, Bool.false_or] at h
  simpa using List.all_eq_true.1 h y hy
theorem highZ_range {l : List Pr} (h : FacesP l) (a : Int) : highZ l a = 0 ∨ (1 ≤ highZ l a ∧ highZ l a ≤ 63) := by
  unfold highZ
  cases hq : l.find? (fun q => q.f0 == a) with
  | none => exact .inl rfl
  | some q => exact .inr (h q (List.mem_of_find?_eq_some hq)).2
theorem nextZ_range {l : List Pr} (h : FacesP l) {a y : Int} (hy : y ∈ nextZ l a) : 1 ≤ y ∧ y ≤ 63 := by
  unfold nextZ at hy
  rcases highZ_range h a with h0 | ⟨h1, h2⟩
  · rw [if_pos h0] at hy; cases hy
  · rw [if_neg (by omega)] at hy
    exact border_range h1 h2 (List.mem_filter.1 hy).1
theorem nextZ_len {l : List Pr} {a : Int} : (nextZ l a).length ≤ 6 := by
  unfold nextZ
  split
  · simp
  · exact Nat.le_trans (List.length_filter_le _ _) borders_len6
theorem fstP_none {p : Pr → Bool} {xs : List Pr} (h : xs.find? p = none) : firstP p xs = -1 := by
  rw [firstP, if_neg]
  intro ha
  obtain ⟨x, hx, hp⟩ := List.any_eq_true.1 ha
  exact List.find?_eq_none.1 h x hx hp
theorem fstP_some {p : Pr → Bool} {xs : List Pr} {q : Pr} (h : xs.find? p = some q) : ∃ i : Nat, firstP p xs = (i : Int) ∧ i < xs.length ∧ xs.getD i z76 = q := by
  have hq := List.find?_some h
  have hm := List.mem_of_find?_eq_some h
  have ha : xs.any p = true := List.any_eq_true.2 ⟨q, hm, hq⟩
  refine ⟨xs.findIdx p, by rw [firstP, if_pos ha], List.findIdx_lt_length_of_exists ⟨q, hm, hq⟩, ?_⟩
  rw [List.find?_eq_some_iff_getElem] at h
  obtain ⟨_, i, hi, he, hj⟩ := h
  have : xs.findIdx p = i := by
    rw [List.findIdx_eq hi]
    exact ⟨by rw [he]; exact hq, fun j hji => by simpa using hj j hji⟩
  rw [this, List.getD_eq_getElem?_getD, List.getElem?_eq_getElem hi]
  exact he
theorem find_ext {α : Type} {p p' : α → Bool} : ∀ (l : List α), (∀ q ∈ l, p q = p' q) → l.find? p = l.find? p'
  | [], _ => rfl
  | q :: l, h => by
    have h1 := h q (by simp)
    have h2 := find_ext l (fun x hx => h x (by simp [hx]))
    cases hp : p q with
    | true => rw [List.find?_cons_of_pos hp, List.find?_cons_of_pos (by rw [← h1]; exact hp)]
    | false => rw [List.find?_cons_of_neg (by simp [hp]), List.find?_cons_of_neg (by rw [← h1]; simp [hp]), h2]
theorem steps_f {l : List Pr} (hl : l.length ≤ 1048576) (hr : FacesP l) (a : Int) : QA.impl_steps.f l a = some (nextZ l a) := by
  obtain ⟨s1, p1⟩ := ofP_face (f := fun x y => QA.impl_steps_1.f x y a) (p := fun q : Pr => q.f0 == a) (fun x y _ _ _ _ => rfl)
  obtain ⟨s2, _, p2⟩ := ofI_face (f := fun x => QA.impl_steps_2.f x a) (p := fun x => x == a) (fun x _ _ => rfl)
  have hd : okDomP (QA.clo_224 a) l = true := by
    rw [okDomP, Bool.or_eq_true]
    refine .inr (List.all_eq_true.2 fun q hq => ?_)
    have := hr q hq
    simp; omega
  have hi : slices_IndexFunc_impl_Pair_impl_Pair.f l (QA.clo_224 a) = some (firstP (QA.clo_224 a).pP l) := by
    unfold slices_IndexFunc_impl_Pair_impl_Pair.f
    rw [if_pos ⟨by omega, s1, hd⟩]
  have hf : l.find? (QA.clo_224 a).pP = l.find? (fun q => q.f0 == a) := find_ext l (fun q hq => by have := hr q hq; exact p1 q (by omega) (by omega) (by omega) (by omega))
  unfold QA.impl_steps.f
  rw [hi, Option.bind_some]
  cases hq : l.find? (fun q => q.f0 == a) with
  | none =>
    rw [fstP_none (hf.trans hq), if_pos (by omega)]
    unfold nextZ highZ
    rw [hq]
    first | done | rfl
  | some q =>
    obtain ⟨i, e1, e2, e3⟩ := fstP_some (hf.trans hq)
    have hm := hr q (List.mem_of_find?_eq_some hq)
    have hz : highZ l a = q.f1 := by unfold highZ; rw [hq]; rfl
    have hrd : rd_T76 l (i : Int) = q := by rw [← e3]; rfl
    have hb : impl_borders.f q.f1 = some (bordersL q.f1) := by unfold impl_borders.f; rw [if_pos trivial]
    have hdom : okDom (QA.clo_225 a) (bordersL q.f1) = true := by
      rw [okDom, Bool.or_eq_true]
      refine .inr (List.all_eq_true.2 fun y hy => ?_)
      have := border_range hm.2.1 hm.2.2 hy
      simp; omega
    have hdel : slices_DeleteFunc_int64_int64.f (bordersL q.f1) (QA.clo_225 a) = some ((bordersL q.f1).filter fun x => !(QA.clo_225 a).pI x) := by
      unfold slices_DeleteFunc_int64_int64.f
      rw [if_pos ⟨by have := borders_len6 (f := q.f1); omega, s2, hdom⟩]
    rw [e1, if_neg (by omega), if_pos (by omega), if_pos (by omega), hrd, hb, Option.bind_some, hdel, Option.bind_some]
    unfold nextZ
    rw [hz, if_neg (by omega)]
    refine congrArg some (List.filter_congr fun y hy => ?_)
    have := border_range hm.2.1 hm.2.2 hy
    exact congrArg (!·) (p2 y (by omega) (by omega))
inductive Rch (l : List Pr) : Int → Int → Prop
  | one {x y : Int} : y ∈ nextZ l x → Rch l x y
  | more {x y z : Int} : y ∈ nextZ l x → Rch l y z → Rch l x z
theorem Rch.snoc {l : List Pr} {x y z : Int} (h : Rch l x y) (hz : z ∈ nextZ l y) : Rch l x z := by
  induction h with
  | one h => exact .more h (.one hz)
  | more h _ ih => exact .more h (ih hz)
theorem Rch.trans {l : List Pr} {x y z : Int} (h : Rch l x y) (k : Rch l y z) : Rch l x z := by
  induction h with
  | one h => exact .more h k
  | more h _ ih => exact .more h (ih k)
theorem Rch.range {l : List Pr} (hr : FacesP l) {x y : Int} (h : Rch l x y) : 1 ≤ y ∧ y ≤ 63 := by
  induction h with
  | one h => exact nextZ_range hr h
  | more _ _ ih => exact ih
theorem nodup_len : ∀ (n : Nat) (L : List Int), L.Nodup → (∀ x ∈ L, 1 ≤ x ∧ x ≤ (n : Int)) → L.length ≤ n := by
  intro n
  induction n with
  | zero =>
    intro L _ h
    cases L with
    | nil => simp
    | cons x L => have := h x (by simp); omega
  | succ n ih =>
    intro L hn h
    by_cases hm : ((n + 1 : Nat) : Int) ∈ L
    · have h1 := List.length_erase_of_mem hm
      have h2 := ih (L.erase ((n + 1 : Nat) : Int)) (hn.erase _) (fun x hx => by
        have hx' := (List.Nodup.mem_erase_iff hn).1 hx
        have := h x hx'.2
        have := hx'.1
        omega)
      omega
    · have := ih L hn (fun x hx => by
        have h1 := h x hx
        have : x ≠ ((n + 1 : Nat) : Int) := fun e => hm (e ▸ hx)
        omega)
      omega
def OkM (M : List (Int × Bool)) : Prop := (M.map (·.1)).Nodup ∧ ∀ p ∈ M, p.2 = true ∧ 1 ≤ p.1 ∧ p.1 ≤ 63
theorem OkM.len {M : List (Int × Bool)} (h : OkM M) : M.length ≤ 63 := by
  have := nodup_len 63 (M.map (·.1)) h.1 (fun x hx => by
    obtain ⟨p, hp, rfl⟩ := List.mem_map.1 hx
    have := h.2 p hp
    omega)
  simpa using this
theorem getM_false {M : List (Int × Bool)} (h0 : OkM M) {x : Int} (hx : ¬ getM M x = true) : x ∉ M.map (·.1) := by
  have h := h0.2
  clear h0
  induction M with
  | nil => simp
  | cons p M ih =>
    simp only [getM] at hx
    by_cases he : x = p.1
    · rw [if_pos he] at hx
      exact absurd (h p (by simp)).1 hx
    · rw [if_neg he] at hx
      have := ih hx (fun q hq => h q (by simp [hq]))
      simp only [List.map_cons, List.mem_cons]
      exact fun hh => hh.elim he this
theorem putM_new {M : List (Int × Bool)} {x : Int} (h : x ∉ M.map (·.1)) : putM M x true = M ++ [(x, true)] := by
  induction M with
  | nil => rfl
  | cons p M ih =>
    simp only [List.map_cons, List.mem_cons, not_or] at h
    simp only [putM, if_neg h.1, ih h.2, List.cons_append]
theorem okM_put {M : List (Int × Bool)} (h : OkM M) {x : Int} (hx : ¬ getM M x = true) (hr : 1 ≤ x ∧ x ≤ 63) : OkM (putM M x true) := by
  have hn := getM_false h hx
  rw [putM_new hn]
  refine ⟨?_, fun p hp => ?_⟩
  · rw [List.map_append, List.nodup_append]
    refine ⟨h.1, by simp, fun a ha b hb e => ?_⟩
    simp only [List.map_cons, List.map_nil, List.mem_singleton] at hb
    subst hb
    exact hn (e ▸ ha)
  · rcases List.mem_append.1 hp with hp | hp
    · exact h.2 p hp
    · obtain rfl := List.mem_singleton.1 hp
      exact ⟨rfl, hr⟩
theorem fold_spec : ∀ (fs : List Int) (M : List (Int × Bool)) (qs : List Int), OkM M → (∀ y ∈ fs, 1 ≤ y ∧ y ≤ 63) →
    OkM (fs.foldl stepM (M, qs)).1 ∧ (∀ y, getM (fs.foldl stepM (M, qs)).1 y = true ↔ getM M y = true ∨ y ∈ fs) ∧
    ∃ new, (fs.foldl stepM (M, qs)).2 = qs ++ new ∧ (fs.foldl stepM (M, qs)).1.length = M.length + new.length ∧ (∀ y ∈ new, y ∈ fs) ∧ (∀ y ∈ fs, getM M y = true ∨ y ∈ new)
  | [], M, qs, h, _ => ⟨h, fun y => by simp, [], by simp, by simp, by simp, by simp⟩
  | f :: fs, M, qs, h, hr => by
    rw [List.foldl_cons]
    by_cases hg : getM M f = true
    · rw [show stepM (M, qs) f = (M, qs) by unfold stepM; rw [if_pos hg]]
      obtain ⟨a, b, new, c, d, e, g⟩ := fold_spec fs M qs h (fun y hy => hr y (by simp [hy]))
      refine ⟨a, fun y => ?_, new, c, d, fun y hy => by simp [e y hy], fun y hy => ?_⟩
      · rw [b y, List.mem_cons]
        constructor
        · rintro (h1 | h1)
          · exact .inl h1
          · exact .inr (.inr h1)
        · rintro (h1 | rfl | h1)
          · exact .inl h1
          · exact .inl hg
          · exact .inr h1
      · rcases List.mem_cons.1 hy with rfl | hy
        · exact .inl hg
        · exact g y hy
    · rw [show stepM (M, qs) f = (putM M f true, qs ++ [f]) by unfold stepM; rw [if_neg hg]]
      have hk := okM_put h hg (hr f (by simp))
      obtain ⟨a, b, new, c, d, e, g⟩ := fold_spec fs (putM M f true) (qs ++ [f]) hk (fun y hy => hr y (by simp [hy]))
      refine ⟨a, fun y => ?_, f :: new, by rw [c]; simp, by rw [d, putM_new (getM_false h hg)]; simp; omega, fun y hy => ?_, fun y hy => ?_⟩
      · rw [b y, getM_put, List.mem_cons]
        by_cases hy : y = f
        · simp [hy]
        · simp [hy]
      · rcases List.mem_cons.1 hy with rfl | hy
        · simp
        · simp [e y hy]
      · rcases List.mem_cons.1 hy with rfl | hy
        · exact .inr (by simp)
        · rcases g y hy with h1 | h1
          · rw [getM_put] at h1
            by_cases hyf : y = f
            · exact .inr (by simp [hyf])
            · rw [if_neg hyf] at h1
              exact .inl h1
          · exact .inr (by simp [h1])
theorem bfs_spec {l : List Pr} (hl : l.length ≤ 1048576) (hr : FacesP l) (a : Int) : ∀ (d : Nat) (M : List (Int × Bool)) (qs : List Int), OkM M → qs.length + 63 - M.length = d → (∀ y, getM M y = true → Rch l a y) → (∀ x ∈ qs, x = a ∨ getM M x = true) →
    (∀ x, x = a ∨ getM M x = true → x ∈ qs ∨ ∀ y ∈ nextZ l x, getM M y = true) → d ≤ 900 → ∀ k, d < k → ∃ M', bfs l k M qs = some M' ∧ ∀ y, getM M' y = true ↔ Rch l a y := by
  intro d
  induction d with
  | zero =>
    intro M qs hM hd h1 h2 h3 hb k hk
    obtain ⟨k, rfl⟩ : ∃ m, k = m + 1 := ⟨k - 1, by omega⟩
    have := hM.len
    obtain rfl : qs = [] := List.eq_nil_of_length_eq_zero (by omega)
    refine ⟨M, rfl, fun y => ⟨h1 y, fun hy => ?_⟩⟩
    have key : ∀ x z, Rch l x z → (x = a ∨ getM M x = true) → getM M z = true := by
      intro x z hx
      induction hx with
      | one hy => exact fun hx => ((h3 _ hx).resolve_left (by simp)) _ hy
      | more hy _ ih => exact fun hx => ih (.inr (((h3 _ hx).resolve_left (by simp)) _ hy))
    exact key a y hy (.inl rfl)
  | succ d ih =>
    intro M qs hM hd h1 h2 h3 hb k hk
    obtain ⟨k, rfl⟩ : ∃ m, k = m + 1 := ⟨k - 1, by omega⟩
    have hlen := hM.len
    cases qs with
    | nil =>
      refine ⟨M, rfl, fun y => ⟨h1 y, fun hy => ?_⟩⟩
      have key : ∀ x z, Rch l x z → (x = a ∨ getM M x = true) → getM M z = true := by
        intro x z hx
        induction hx with
        | one hy => exact fun hx => ((h3 _ hx).resolve_left (by simp)) _ hy
        | more hy _ ih => exact fun hx => ih (.inr (((h3 _ hx).resolve_left (by simp)) _ hy))
      exact key a y hy (.inl rfl)
    | cons x qs =>
      simp only [List.length_cons] at hd
      have hn := nextZ_len (l := l) (a := x)
      obtain ⟨f1, f2, new, f3, f4, f5, f6⟩ := fold_spec (nextZ l x) M (x :: qs) hM (fun y hy => nextZ_range hr hy)
      simp only [bfs]
      rw [if_pos (by omega), steps_f hl hr, Option.bind_some, if_pos (by omega)]
      have hlen' := f1.len
      refine ih _ _ f1 (by rw [f3, f4]; simp; omega) (fun y hy => ?_) (fun z hz => ?_) (fun z hz => ?_) (by omega) k (by omega)
      · rcases (f2 y).1 hy with h | h
        · exact h1 y h
        · rcases h2 x (by simp) with rfl | hx
          · exact .one h
          · exact (h1 x hx).snoc h
      · rw [f3] at hz
        simp only [List.cons_append, List.drop_succ_cons, List.drop_zero, List.mem_append] at hz
        rcases hz with hz | hz
        · rcases h2 z (by simp [hz]) with h | h
          · exact .inl h
          · exact .inr ((f2 z).2 (.inl h))
        · exact .inr ((f2 z).2 (.inr (f5 z hz)))
      · rw [f3]
        simp only [List.cons_append, List.drop_succ_cons, List.drop_zero, List.mem_append]
        have hold : (z = a ∨ getM M z = true) → (z ∈ qs ∨ z ∈ new) ∨ ∀ y ∈ nextZ l z, getM (List.foldl stepM (M, x :: qs) (nextZ l x)).fst y = true := by
          intro hz
          rcases h3 z hz with h | h
          · rcases List.mem_cons.1 h with rfl | h
            · exact .inr (fun y hy => (f2 y).2 (.inr hy))
            · exact .inl (.inl h)
          · exact .inr (fun y hy => (f2 y).2 (.inl (h y hy)))
        rcases hz with hz | hz
        · exact hold (.inl hz)
        · rcases (f2 z).1 hz with h | h
          · exact hold (.inr h)
          · rcases f6 z h with h' | h'
            · exact hold (.inr h')
            · exact .inl (.inr h')
theorem bfs_ok {l : List Pr} (hl : l.length ≤ 1048576) (hr : FacesP l) (a : Int) : ∃ M, bfs l 1000 [] [a] = some M ∧ ∀ y, getM M y = true ↔ Rch l a y :=
  bfs_spec hl hr a 64 [] [a] ⟨by simp, by simp⟩ (by simp) (fun y hy => by simp [getM] at hy) (fun x hx => .inl (by simpa using hx)) (fun x hx => .inl (by rcases hx with rfl | hx; simp; simp [getM] at hx)) (by simp) 1000 (by omega)
theorem okBfs_of {l : List Pr} (hl : l.length ≤ 1048576) (hr : FacesP l) : okBfs l = true := by
  unfold okBfs
  rw [Bool.and_eq_true]
  refine ⟨decide_eq_true hl, List.all_eq_true.2 fun q _ => ?_⟩
  obtain ⟨M, h, _⟩ := bfs_ok hl hr q.f0
  rw [h]; rfl
theorem loopB_iff {l : List Pr} (hl : l.length ≤ 1048576) (hr : FacesP l) (a : Int) : loopB l a = true ↔ Rch l a a := by
  obtain ⟨M, h, h2⟩ := bfs_ok hl hr a
  unfold loopB
  rw [h]
  exact h2 a
end Go.Proofs.Ytnmhnkpijjmhjaa.Pu
namespace Go.Proofs.Ytnmhnkpijjmhjaa.Pu
set_option linter.unusedVariables false
set_option linter.unusedSimpArgs false
open Go.RowKit Go.Proofs.Ytnmhnkpijjmhjaa.Kp Go.Proofs.Ytnmhnkpijjmhjaa.Ext Go.Proofs.Ytnmhnkpijjmhjaa.QS Go.Proofs.Ytnmhnkpijjmhjaa.Im Go.Proofs.YtnmhnkpijjmhjaaW.PrintWords Go.Proofs.YtnmhnkpijjmhjaaW.PrintLast Go.Proofs.YtnmhnkpijjmhjaaW.PrintMore
theorem succ64 {i : Nat} (h : i ≤ 4611686018427387904) : wrap64 ((i : Int) + 1) = ((i + 1 : Nat) : Int) := by rw [w64 (by omega) (by omega)]; omega
theorem rdP_at {l : List Pr} {i : Nat} (h : i < l.length) : rd_T76 l (i : Int) = l[i] := by unfold rd_T76; rw [List.getD_eq_getElem?_getD, Int.toNat_natCast, List.getElem?_eq_getElem h]; rfl
theorem high_loop (l : List Pr) (a : Int) (hl : l.length ≤ 1048576) : ∀ d (i : Nat), l.length - i = d → i ≤ l.length → Ev (fun k => spec_l02High.l0 k l a i) (highZ (l.drop i) a) := by
  intro d
  induction d with
  | zero =>
    intro i hd hi
    rw [List.drop_eq_nil_of_le (by omega)]
    refine Ev.step (f := fun k => some 0) (fun k => ?_) (Ev.now _)
    simp only [spec_l02High.l0]; rw [if_neg (by omega)]
  | succ d ih =>
    intro i hd hi
    have hi' : i < l.length := by omega
    rw [List.drop_eq_getElem_cons hi']
    by_cases h : l[i].f0 = a
    · refine Ev.step (f := fun k => some l[i].f1) (fun k => ?_) (by unfold highZ; rw [List.find?_cons_of_pos (by simp [h])]; exact Ev.now _)
      simp only [spec_l02High.l0]; rw [if_pos (by omega), if_pos (by omega), rdP_at hi', if_pos h]
    · refine Ev.step (fun k => ?_) (by have := ih (i + 1) (by omega) (by omega); unfold highZ at this ⊢; rw [List.find?_cons_of_neg (by simp [h])]; exact this)
      simp only [spec_l02High.l0]; rw [if_pos (by omega), if_pos (by omega), rdP_at hi', if_neg h, succ64 (by omega)]
theorem ev_high {l : List Pr} (hl : l.length ≤ 1048576) (a : Int) : Ev (fun k => spec_l02High.f k l a) (highZ l a) := by
  unfold spec_l02High.f
  exact high_loop l a hl _ 0 rfl (Nat.zero_le _)
theorem next_loop (a : Int) (b : List Int) (hb : b.length ≤ 1000) : ∀ d (i : Nat) (acc : List Int), b.length - i = d → i ≤ b.length → acc.length ≤ i → Ev (fun k => spec_l02Next.l0 k a acc b i) (acc ++ (b.drop i).filter fun y => !(y == a)) := by
  intro d
  induction d with
  | zero =>
    intro i acc hd hi ha
    rw [List.drop_eq_nil_of_le (by omega)]
    refine Ev.step (f := fun k => some acc) (fun k => ?_) (by simpa using Ev.now acc)
    simp only [spec_l02Next.l0]; rw [if_neg (by omega)]
  | succ d ih =>
    intro i acc hd hi ha
    have hi' : i < b.length := by omega
    rw [List.drop_eq_getElem_cons hi', List.filter_cons]
    by_cases h : b[i] = a
    · refine Ev.step (f := fun k => spec_l02Next.l0 k a acc b ((i + 1 : Nat) : Int)) (fun k => ?_) (by have := ih (i + 1) acc (by omega) (by omega) (by omega); rw [h]; simpa using this)
      simp only [spec_l02Next.l0]; rw [if_pos (by omega), if_pos (by omega), rd_at hi', if_pos h, succ64 (by omega)]
    · refine Ev.step (f := fun k => spec_l02Next.l0 k a (acc ++ [b[i]]) b ((i + 1 : Nat) : Int)) (fun k => ?_) (by have := ih (i + 1) (acc ++ [b[i]]) (by omega) (by omega) (by simp; omega); simpa [h] using this)
      simp only [spec_l02Next.l0]; rw [if_pos (by omega), if_pos (by omega), rd_at hi', if_neg h, if_pos (by omega), succ64 (by omega)]
theorem ev_next {l : List Pr} (hl : l.length ≤ 1048576) (hr : FacesP l) (a : Int) : Ev (fun k => spec_l02Next.f k l a) (nextZ l a) := by
  unfold spec_l02Next.f nextZ
  refine Ev.bind (ev_high hl a) ?_
  simp only [Option.bind_some]
  by_cases h : highZ l a = 0
  · simp only [if_pos h]; exact Ev.now _
  · simp only [if_neg h]
    have hz := (highZ_range hr a).resolve_left h
    refine Ev.bind (ev_below hz.1 hz.2) ?_
    have := next_loop a (bordersL (highZ l a)) (by have := borders_len6 (f := highZ l a); omega) _ 0 [] rfl (Nat.zero_le _) (by simp)
    simpa using this
/-- The reference's stack. -/
theorem reached_loop {l : List Pr} (hl : l.length ≤ 1048576) (hr : FacesP l) (a : Int) : ∀ (d : Nat) (B : List Bool) (st : List Int), B.length = 64 → st.length + 7 * B.count false = d → d ≤ 1000 → (∀ x ∈ st, 1 ≤ x ∧ x ≤ 63) →
    (∀ y : Nat, B[y]?.getD false = true → Rch l a y) → (∀ x ∈ st, Rch l a x) → (∀ x : Nat, B[x]?.getD false = true → ∀ y ∈ nextZ l x, B[y.toNat]?.getD false = true ∨ y ∈ st) → (∀ y ∈ nextZ l a, B[y.toNat]?.getD false = true ∨ y ∈ st) →
    ∃ B' : List Bool, Ev (fun k => spec_l02Reached.l0 k l B st) B' ∧ B'.length = 64 ∧ ∀ y : Int, 1 ≤ y → y ≤ 63 → (B'[y.toNat]?.getD false = true ↔ Rch l a y) := by
  intro d
  induction d using Nat.strongRecOn with
  | _ d ih =>
    intro B st hB hd hdb hst h1 h2 h3 h4
    rcases List.eq_nil_or_concat st with rfl | ⟨rest, x, rfl⟩
    · refine ⟨B, Ev.step (f := fun k => some B) (fun k => ?_) (Ev.now _), hB, fun y hy1 hy2 => ⟨fun h => by have := h1 y.toNat h; rwa [Int.toNat_of_nonneg (by omega)] at this, fun hy => ?_⟩⟩
      · simp only [spec_l02Reached.l0]; rw [if_neg (by simp)]
      · have key : ∀ x z, Rch l x z → (∀ y ∈ nextZ l x, B[y.toNat]?.getD false = true) → B[z.toNat]?.getD false = true := by
          intro x z hx
          induction hx with
          | one hy => exact fun hx => hx _ hy
          | more hy hyz ih =>
            intro hx
            have hm := hx _ hy
            refine ih (fun u hu => ?_)
            have hyr := nextZ_range hr hy
            have := h3 _ hm u (by rw [Int.toNat_of_nonneg (by omega)]; exact hu)
            exact this.resolve_right (by simp)
        exact key a y hy (fun u hu => (h4 u hu).resolve_right (by simp))
    · rw [List.concat_eq_append] at *
      have hx := hst x (by simp)
      have hlen : (rest ++ [x]).length = rest.length + 1 := by simp
      have hw : wrap64 (((rest ++ [x]).length : Int) - 1) = (rest.length : Int) := by rw [w64 (by omega) (by omega)]; omega
      have htk : (rest ++ [x]).take ((rest.length : Int)).toNat = rest := by simp
      have hrd : rd (rest ++ [x]) (rest.length : Int) = x := by rw [rd_at (by simp)]; simp
      obtain ⟨m, rfl⟩ := Int.eq_ofNat_of_zero_le (show 0 ≤ x by omega)
      have hrb : rdOf false B (m : Int) = B[m]?.getD false := by simp [rdOf, List.getD_eq_getElem?_getD]
      have hmB : m < B.length := by omega
      by_cases hm : B[m]?.getD false = true
      · obtain ⟨B', e1, e2, e3⟩ := ih (d - 1) (by omega) B rest hB (by omega) (by omega) (fun y hy => hst y (by simp [hy])) h1 (fun y hy => h2 y (by simp [hy]))
          (fun y hy z hz => by
            rcases h3 y hy z hz with h | h
            · exact .inl h
            · rcases List.mem_append.1 h with h | h
              · exact .inr h
              · obtain rfl := List.mem_singleton.1 h
                exact .inl (by simpa using hm))
          (fun z hz => by
            rcases h4 z hz with h | h
            · exact .inl h
            · rcases List.mem_append.1 h with h | h
              · exact .inr h
              · obtain rfl := List.mem_singleton.1 h
                exact .inl (by simpa using hm))
        refine ⟨B', Ev.step (fun k => ?_) e1, e2, e3⟩
        simp only [spec_l02Reached.l0]
        rw [if_pos (by omega), hw, if_pos (by omega), if_pos (by omega), if_pos (by omega), htk, Option.bind_some, hrd, if_pos (by omega), if_pos (by omega), hrb, if_pos hm]
      · have hmf : B[m]?.getD false = false := by simpa using hm
        have hm2 : B[m] = false := by rw [List.getElem?_eq_getElem hmB] at hmf; simpa using hmf
        have hcnt : (B.set m true).count false + 1 = B.count false := by
          rw [List.count_set hmB]
          have : 0 < B.count false := List.count_pos_iff.2 (by rw [← hm2]; exact List.getElem_mem hmB)
          simp [hm2]
          omega
        have hn := nextZ_len (l := l) (a := (m : Int))
        have hset : ∀ y : Nat, ((B.set m true)[y]?.getD false = true) ↔ (y = m ∨ B[y]?.getD false = true) := by
          intro y
          rw [List.getElem?_set]
          by_cases hy : m = y
          · subst hy; simp [hmB]
          · rw [if_neg hy]
            constructor
            · exact fun h => .inr h
            · rintro (h | h)
              · exact absurd h.symm hy
              · exact h
        have hnew : ∀ y ∈ nextZ l (m : Int), y ∈ rest ++ nextZ l (m : Int) := fun y hy => by simp [hy]
        obtain ⟨B', e1, e2, e3⟩ := ih (rest.length + (nextZ l (m : Int)).length + 7 * (B.set m true).count false) (by simp at hd; omega) (B.set m true) (rest ++ nextZ l (m : Int)) (by simpa using hB) (by simp) (by simp at hd; omega)
          (fun y hy => by
            rcases List.mem_append.1 hy with h | h
            · exact hst y (by simp [h])
            · exact nextZ_range hr h)
          (fun y hy => by
            rcases (hset y).1 hy with rfl | h
            · exact h2 _ (by simp)
            · exact h1 y h)
          (fun y hy => by
            rcases List.mem_append.1 hy with h | h
            · exact h2 y (by simp [h])
            · exact (h2 (m : Int) (by simp)).snoc h)
          (fun y hy z hz => by
            rcases (hset y).1 hy with rfl | h
            · exact .inr (by simp [hz])
            · rcases h3 y h z hz with h | h
              · exact .inl ((hset _).2 (.inr h))
              · rcases List.mem_append.1 h with h | h
                · exact .inr (by simp [h])
                · obtain rfl := List.mem_singleton.1 h
                  exact .inl ((hset _).2 (.inl (by simp))))
          (fun z hz => by
            rcases h4 z hz with h | h
            · exact .inl ((hset _).2 (.inr h))
            · rcases List.mem_append.1 h with h | h
              · exact .inr (by simp [h])
              · obtain rfl := List.mem_singleton.1 h
                exact .inl ((hset _).2 (.inl (by simp))))
        refine ⟨B', Ev.step (f := fun k => (spec_l02Next.f k l (m : Int)).bind fun t => if rest.length + t.length < 17592186044416 then spec_l02Reached.l0 k l (B.set m true) (rest ++ t) else none) (fun k => ?_) (Ev.bind (ev_next hl hr _) ?_), e2, e3⟩
        · simp only [spec_l02Reached.l0]
          rw [if_pos (by omega), hw, if_pos (by omega), if_pos (by omega), if_pos (by omega), htk, Option.bind_some, hrd, if_pos (by omega), if_pos (by omega), hrb, if_neg hm]
          rfl
        · simp only [if_pos (show rest.length + (nextZ l (m : Int)).length < 17592186044416 by simp at hd; omega)]
          exact e1
theorem ev_reached {l : List Pr} (hl : l.length ≤ 1048576) (hr : FacesP l) (a : Int) : ∃ B : List Bool, Ev (fun k => spec_l02Reached.f k l a) B ∧ B.length = 64 ∧ ∀ y : Int, 1 ≤ y → y ≤ 63 → (B[y.toNat]?.getD false = true ↔ Rch l a y) := by
  have hn := nextZ_len (l := l) (a := a)
  have hf : ∀ y : Nat, ((List.replicate 64 false)[y]?.getD false = true) → False := fun y h => by
    rw [List.getElem?_replicate] at h
    split at h <;> simp at h
  obtain ⟨B, e1, e2, e3⟩ := reached_loop hl hr a _ (List.replicate 64 false) (nextZ l a) (by simp) rfl (by simp [List.count_replicate]; omega) (fun x hx => nextZ_range hr hx) (fun y hy => (hf y hy).elim) (fun x hx => .one hx) (fun y hy => (hf y hy).elim) (fun y hy => .inr hy)
  refine ⟨B, ?_, e2, e3⟩
  unfold spec_l02Reached.f
  simp only [show (64 : Nat) ≤ 281474976710656 from by decide, if_true]
  exact Ev.bind (ev_next hl hr a) e1
theorem acyc_loop {l : List Pr} (hl : l.length ≤ 1048576) (hr : FacesP l) : ∀ d (i : Nat), l.length - i = d → i ≤ l.length → Ev (fun k => spec_l02Acyclic.l0 k l i) ((l.drop i).all fun q => !loopB l q.f0) := by
  intro d
  induction d with
  | zero =>
    intro i hd hi
    rw [List.drop_eq_nil_of_le (by omega)]
    refine Ev.step (f := fun k => some true) (fun k => ?_) (Ev.now _)
    simp only [spec_l02Acyclic.l0]; rw [if_neg (by omega)]
  | succ d ih =>
    intro i hd hi
    have hi' : i < l.length := by omega
    have hq := hr _ (List.getElem_mem hi')
    obtain ⟨B, e1, e2, e3⟩ := ev_reached hl hr l[i].f0
    have e4 := e3 l[i].f0 (by omega) (by omega)
    rw [← loopB_iff hl hr] at e4
    rw [List.drop_eq_getElem_cons hi', List.all_cons]
    have hrb : rdOf false B l[i].f0 = loopB l l[i].f0 := by
      rw [show rdOf false B l[i].f0 = B[l[i].f0.toNat]?.getD false from by simp [rdOf, List.getD_eq_getElem?_getD], Bool.eq_iff_iff]
      exact e4
    refine Ev.step (f := fun k => (spec_l02Reached.f k l l[i].f0).bind fun t => if 0 ≤ l[i].f0 then if l[i].f0 < (t.length : Int) then if rdOf false t l[i].f0 = true then some false else spec_l02Acyclic.l0 k l ((i + 1 : Nat) : Int) else none else none) (fun k => ?_) (Ev.bind e1 ?_)
    · simp only [spec_l02Acyclic.l0]; rw [if_pos (by omega), if_pos (by omega), rdP_at hi', succ64 (by omega)]
    · simp only [if_pos (show 0 ≤ l[i].f0 by omega), if_pos (show l[i].f0 < (B.length : Int) by omega), hrb]
      cases loopB l l[i].f0 with
      | true => simp only [if_true]; exact Ev.now _
      | false => simp only [Bool.false_eq_true, if_false, Bool.not_false, Bool.true_and]; exact ih (i + 1) (by omega) (by omega)
theorem ev_acyclic {l : List Pr} (hl : l.length ≤ 1048576) (hr : FacesP l) : Ev (fun k => spec_l02Acyclic.f k l) (acycB l) := by
  unfold spec_l02Acyclic.f acycB
  exact acyc_loop hl hr _ 0 rfl (Nat.zero_le _)
end Go.Proofs.Ytnmhnkpijjmhjaa.Pu
namespace Go.Proofs.Ytnmhnkpijjmhjaa.QS
open Go.Proofs.Ytnmhnkpijjmhjaa.Cw Go.Proofs.Ytnmhnkpijjmhjaa.Kp Go.Proofs.Ytnmhnkpijjmhjaa.Ext Go.RowKit Go.Proofs.YtnmhnkpijjmhjaaW.PrintWords Go.Proofs.YtnmhnkpijjmhjaaW.PrintLast Go.Proofs.YtnmhnkpijjmhjaaW.PrintMore
attribute [local go_sem] max2_int min2_int max_two min_two max_three min_three max_four min_four   -- for this text's walks alone
set_option linter.unusedVariables false
set_option linter.unusedSimpArgs false
end Go.Proofs.Ytnmhnkpijjmhjaa.QS
namespace Go.Proofs.Ytnmhnkpijjmhjaa.QS
open Go.Proofs.Ytnmhnkpijjmhjaa.Cw Go.Proofs.Ytnmhnkpijjmhjaa.Kp Go.Proofs.Ytnmhnkpijjmhjaa.Ext Go.RowKit Go.Proofs.YtnmhnkpijjmhjaaW.PrintWords Go.Proofs.YtnmhnkpijjmhjaaW.PrintLast Go.Proofs.YtnmhnkpijjmhjaaW.PrintMore
attribute [local go_sem] max2_int min2_int max_two min_two max_three min_three max_four min_four   -- for this text's walks alone
set_option linter.unusedVariables false
set_option linter.unusedSimpArgs false
end Go.Proofs.Ytnmhnkpijjmhjaa.QS
namespace Go.Proofs.Ytnmhnkpijjmhjaa.Pu
set_option linter.unusedVariables false
set_option linter.unusedSimpArgs false
open Go.RowKit Go.Proofs.Ytnmhnkpijjmhjaa.QS Go.Proofs.Ytnmhnkpijjmhjaa.Im Go.Proofs.YtnmhnkpijjmhjaaW.PrintWords Go.Proofs.YtnmhnkpijjmhjaaW.PrintLast Go.Proofs.YtnmhnkpijjmhjaaW.PrintMore
theorem ones_all : ((List.range 64).all fun f => spec_l01Ones.f 8 (f : Int) == some (onesZ (f : Int))) = true := by decide +kernel
theorem ev_ones {x : Int} (h0 : 0 ≤ x) (h6 : x ≤ 63) : Ev (fun k => spec_l01Ones.f k x) (onesZ x) := by
  obtain ⟨m, rfl⟩ := Int.eq_ofNat_of_zero_le h0
  exact Ev.of (fun k => spec_l01Ones.mono _ k) (eq_of_beq (List.all_eq_true.1 ones_all m (List.mem_range.2 (by omega))))
theorem ones_le (x : Int) : 0 ≤ onesZ x ∧ onesZ x ≤ 6 := by
  have : (verts x).length ≤ 6 := verts_len x
  unfold onesZ; omega
end Go.Proofs.Ytnmhnkpijjmhjaa.Pu
namespace Go.Proofs.Ytnmhnkpijjmhjaa.Pu
set_option linter.unusedVariables false
set_option linter.unusedSimpArgs false
open Go.RowKit Go.Proofs.Ytnmhnkpijjmhjaa.Kp Go.Proofs.Ytnmhnkpijjmhjaa.Ext Go.Proofs.Ytnmhnkpijjmhjaa.QS Go.Proofs.Ytnmhnkpijjmhjaa.Im Go.Proofs.YtnmhnkpijjmhjaaW.PrintWords Go.Proofs.YtnmhnkpijjmhjaaW.PrintLast Go.Proofs.YtnmhnkpijjmhjaaW.PrintMore
theorem inAnd_all : ((List.range 64).all fun f => (List.range 64).all fun g => (Go.bits .andNot .i64 (f : Int) (g : Int) == 0) == decide (Go.bits .and .i64 (f : Int) (g : Int) = (f : Int))) = true := by decide +kernel
theorem inAnd {f g : Int} (h0 : 0 ≤ f) (h1 : f ≤ 63) (g0 : 0 ≤ g) (g1 : g ≤ 63) : (Go.bits .andNot .i64 f g == 0) = decide (Go.bits .and .i64 f g = f) := by
  obtain ⟨m, rfl⟩ := Int.eq_ofNat_of_zero_le h0
  obtain ⟨k, rfl⟩ := Int.eq_ofNat_of_zero_le g0
  exact eq_of_beq (List.all_eq_true.1 (List.all_eq_true.1 inAnd_all m (List.mem_range.2 (by omega))) k (List.mem_range.2 (by omega)))
theorem ev_pair {n : Int} {xs : List Int} (hi : isC n xs = true) (p : Pr) : Ev (fun k => spec_l02Pair.f k n xs p.f0 p.f1) (pairB xs p) := by
  have hs := isC_small hi
  have r := isC_63 hi
  have hm : xs.length ≤ maxLen := by unfold maxLen; omega
  unfold spec_l02Pair.f pairB
  refine Ev.bind (ev_has hm n p.f0) ?_
  by_cases h0 : p.f0 ∈ xs
  · simp only [h0, decide_true, if_true, Bool.true_and]
    refine Ev.bind (ev_has hm n p.f1) ?_
    by_cases h1 : p.f1 ∈ xs
    · have a0 := r _ h0
      have a1 := r _ h1
      simp only [h1, decide_true, if_true, Bool.true_and]
      rw [inAnd (by omega) (by omega) (by omega) (by omega)]
      by_cases h2 : Go.bits .and .i64 p.f0 p.f1 = p.f0
      · simp only [h2, if_true, decide_true, Bool.true_and]
        refine Ev.bind (ev_ones (by omega) (by omega)) ?_
        refine Ev.bind (ev_ones (by omega) (by omega)) ?_
        have hv := verts_len p.f0
        rw [w64 (x := onesZ p.f0 + 1) (by unfold onesZ; omega) (by unfold onesZ; omega)]
        exact Ev.now _
      · simp only [h2, if_false, decide_false, Bool.false_and]
        exact Ev.now _
    · simp only [h1, decide_false, Bool.false_eq_true, if_false, Bool.false_and]
      exact Ev.now _
  · simp only [h0, decide_false, Bool.false_eq_true, if_false, Bool.false_and]
    exact Ev.now _
theorem less_f (p q : Pr) : spec_l02Less.f p.f0 p.f1 q.f0 q.f1 = some (decide (cmpP p q < 0)) := by
  unfold spec_l02Less.f cmpP cmpI
  by_cases h1 : p.f0 < q.f0
  · rw [if_pos h1]; simp [h1]
  · rw [if_neg h1]
    by_cases h2 : p.f0 = q.f0
    · rw [if_pos h2]
      by_cases h3 : p.f1 < q.f1
      · simp [h2, h3]
      · by_cases h4 : p.f1 > q.f1
        · simp [h2, h3, h4]
        · simp [h2, h3, h4]
    · rw [if_neg h2]
      have : p.f0 > q.f0 := by omega
      simp [h1, this]
theorem is2_l1 (n : Int) (xs : List Int) (l : List Pr) (hl : l.length ≤ 1048576) {i : Nat} (hi : i < l.length) (R : Bool) (hR : Ev (fun k => spec_l02Is.l0 k l ((i + 1 : Nat) : Int) n xs) R) :
    ∀ d (j : Nat), i - j = d → j ≤ i → Ev (fun k => spec_l02Is.l1 k l i j n xs) (!(((l.take i).drop j).any fun q => hasF l[i].f0 q || hasF l[i].f1 q) && R) := by
  intro d
  induction d with
  | zero =>
    intro j hd hj
    rw [List.drop_eq_nil_of_le (by rw [List.length_take]; omega)]
    refine Ev.step (f := fun k => spec_l02Is.l0 k l ((i + 1 : Nat) : Int) n xs) (fun k => ?_) (by simpa using hR)
    simp only [spec_l02Is.l1]; rw [if_neg (by omega), succ64 (by omega)]
  | succ d ih =>
    intro j hd hj
    have hj' : j < l.length := by omega
    have hjt : j < (l.take i).length := by rw [List.length_take]; omega
    rw [List.drop_eq_getElem_cons hjt, List.any_cons, List.getElem_take]
    cases hq : (hasF l[i].f0 l[j] || hasF l[i].f1 l[j]) with
    | true =>
      refine Ev.step (f := fun k => some false) (fun k => ?_) (by simpa using Ev.now false)
      simp only [spec_l02Is.l1]
      rw [if_pos (by omega), if_pos (by omega), if_pos (by omega), if_pos (by omega), if_pos (by omega), rdP_at hi, rdP_at hj']
      simp only [hasF, Bool.or_eq_true, beq_iff_eq] at hq
      by_cases h1 : l[i].f0 = l[j].f0
      · rw [if_pos h1]
      · rw [if_neg h1]
        by_cases h2 : l[i].f0 = l[j].f1
        · rw [if_pos h2]
        · rw [if_neg h2]
          by_cases h3 : l[i].f1 = l[j].f0
          · rw [if_pos h3]
          · rw [if_neg h3, if_pos (by simpa [h1, h2, h3] using hq)]
    | false =>
      refine Ev.step (f := fun k => spec_l02Is.l1 k l i ((j + 1 : Nat) : Int) n xs) (fun k => ?_) (by have := ih (j + 1) (by omega) (by omega); simpa using this)
      simp only [spec_l02Is.l1]
      rw [if_pos (by omega), if_pos (by omega), if_pos (by omega), if_pos (by omega), if_pos (by omega), rdP_at hi, rdP_at hj', succ64 (by omega)]
      simp only [hasF, Bool.or_eq_false_iff, beq_eq_false_iff_ne] at hq
      rw [if_neg hq.1.1, if_neg hq.1.2, if_neg hq.2.1, if_neg hq.2.2]
theorem any_or {α : Type} (p q : α → Bool) (l : List α) : (l.any fun x => p x || q x) = (l.any p || l.any q) := by
  induction l with
  | nil => rfl
  | cons a l ih => simp only [List.any_cons, ih]; cases p a <;> cases q a <;> cases l.any p <;> rfl
theorem is2_loop {n : Int} {xs : List Int} (hi : isC n xs = true) {l : List Pr} (hl : l.length ≤ 1048576) : ∀ d (i : Nat), l.length - i = d → i ≤ l.length → Ev (fun k => spec_l02Is.l0 k l i n xs) ((List.range' i d).all (okPairAt xs l)) := by
  intro d
  induction d with
  | zero =>
    intro i hd hi'
    refine Ev.step (f := fun k => some true) (fun k => ?_) (Ev.now _)
    simp only [spec_l02Is.l0]; rw [if_neg (by omega)]
  | succ d ih =>
    intro i hd hi'
    have hlt : i < l.length := by omega
    have hR := ih (i + 1) (by omega) (by omega)
    have hgd : l.getD i z76 = l[i] := by rw [List.getD_eq_getElem?_getD, List.getElem?_eq_getElem hlt]; rfl
    rw [List.range'_succ, List.all_cons]
    have hj0 := is2_l1 n xs l hl hlt _ hR _ 0 rfl (Nat.zero_le _)
    rw [List.drop_zero, any_or] at hj0
    have hno : Ev (fun k => spec_l02Is.j1 k l i true n xs) false := Ev.step (f := fun k => some false) (fun k => by simp only [spec_l02Is.j1, if_true]) (Ev.now _)
    have hyes : Ev (fun k => spec_l02Is.j1 k l i false n xs) (!((l.take i).any (hasF l[i].f0) || (l.take i).any (hasF l[i].f1)) && (List.range' (i + 1) d).all (okPairAt xs l)) := Ev.step (f := fun k => spec_l02Is.l1 k l i ((0 : Nat) : Int) n xs) (fun k => by simp only [spec_l02Is.j1, Bool.false_eq_true, if_false]; rfl) hj0
    have hrd : rd_T76 l (i : Int) = l[i] := rdP_at hlt
    refine Ev.step (f := fun k => (spec_l02Pair.f k n xs l[i].f0 l[i].f1).bind fun t => (if t = true then (if (i : Int) > 0 then (if 0 ≤ (wrap64 ((i : Int) - 1)) then (if (wrap64 ((i : Int) - 1)) < (l.length : Int) then ((spec_l02Less.f ((rd_T76 l (wrap64 ((i : Int) - 1))).f0) ((rd_T76 l (wrap64 ((i : Int) - 1))).f1) l[i].f0 l[i].f1).bind fun t577 => (spec_l02Is.j1 k l i (!t577) n xs)) else (none)) else (none)) else (spec_l02Is.j1 k l i false n xs)) else (spec_l02Is.j1 k l i true n xs))) (fun k => ?_) (Ev.bind (ev_pair hi l[i]) ?_)
    · simp only [spec_l02Is.l0]
      rw [if_pos (by omega), if_pos (by omega), hrd]
    · clear hj0 hR ih
      generalize (List.range' (i + 1) d).all (okPairAt xs l) = G at hyes ⊢
      unfold okPairAt
      rw [hgd]
      cases hp : pairB xs l[i] with
      | false => simp only [Bool.false_eq_true, if_false, Bool.false_and]; exact hno
      | true =>
        simp only [if_true, Bool.true_and]
        rcases i with _ | m
        · simp only [show ¬ (((0 : Nat) : Int) > 0) by omega, if_false]
          simpa using hyes
        · have hm : m < l.length := by omega
          have hw : wrap64 (((m + 1 : Nat) : Int) - 1) = (m : Int) := by rw [w64 (by omega) (by omega)]; omega
          have hgm : l.getD m z76 = l[m] := by rw [List.getD_eq_getElem?_getD, List.getElem?_eq_getElem hm]; rfl
          simp only [show (((m + 1 : Nat) : Int) > 0) by omega, if_true, hw, show (0 : Int) ≤ (m : Int) by omega, show (m : Int) < (l.length : Int) by omega, rdP_at hm, less_f, Option.bind_some, Nat.add_sub_cancel, hgm]
          by_cases hc : cmpP l[m] l[m + 1] < 0
          · simp only [hc, decide_true, Bool.not_true]
            simpa [Bool.and_assoc] using hyes
          · simp only [hc, decide_false, Bool.not_false]
            simpa using hno
theorem ev_is2 {n : Int} {xs : List Int} (hi : isC n xs = true) {l : List Pr} (hl : l.length ≤ 1048576) : Ev (fun k => spec_l02Is.f k n xs l) (pairingB xs l) := by
  unfold spec_l02Is.f pairingB
  rw [List.range_eq_range']
  exact is2_loop hi hl _ 0 rfl (Nat.zero_le _)
theorem cmpP_mem {n : Int} {xs : List Int} {l : List Pr} (h : pairingB xs l = true) : ∀ q ∈ l, q.f0 ∈ xs ∧ q.f1 ∈ xs := by
  intro q hq
  obtain ⟨i, hi, rfl⟩ := List.mem_iff_getElem.1 hq
  have h1 := List.all_eq_true.1 h i (List.mem_range.2 hi)
  unfold okPairAt at h1
  rw [show l.getD i z76 = l[i] by rw [List.getD_eq_getElem?_getD, List.getElem?_eq_getElem hi]; rfl] at h1
  have h2 := (Bool.and_eq_true _ _ ▸ h1).1
  unfold pairB at h2
  simp only [Bool.and_eq_true, decide_eq_true_eq] at h2
  exact ⟨h2.1, h2.2.1⟩
theorem facesP_of {n : Int} {xs : List Int} (hi : isC n xs = true) {l : List Pr} (h : pairingB xs l = true) : FacesP l := fun q hq => by
  have h1 := cmpP_mem (n := n) h q hq
  have r := isC_63 hi
  exact ⟨r _ h1.1, r _ h1.2⟩
def pcode (n : Int) (xs : List Int) (l : List Pr) : Int := if isC n xs then (if pairingB xs l then 0 else 2) else 1
theorem ev_pcode (n : Int) {xs : List Int} (hx : xs.length ≤ 1048576) {l : List Pr} (hl : l.length ≤ 1048576) : Ev (fun k => spec_l02Code.f k n xs l []) (pcode n xs l) := by
  unfold spec_l02Code.f pcode
  refine Ev.bind (ev_is n (by unfold maxLen; omega)) ?_
  cases hi : isC n xs with
  | false => exact Ev.now _
  | true =>
    simp only [if_true]
    refine Ev.bind (ev_is2 hi hl) ?_
    cases pairingB xs l with
    | false => exact Ev.now _
    | true =>
      simp only [if_true]
      exact Ev.step (f := fun _ => some 0) (fun k => by simp [spec_l02Code.l0]) (Ev.now _)
def critP (l : List Pr) (f : Int) : Bool := !l.any fun p => p.f0 == f || p.f1 == f
def critL (xs : List Int) (l : List Pr) : List Int := xs.filter (critP l)
theorem crit_l1 (n : Int) (xs : List Int) (l : List Pr) (hl : l.length ≤ 1048576) (hx : xs.length ≤ 1048576) {i : Nat} (hi : i < xs.length) (acc : List Int) (ha : acc.length ≤ i) (R : List Int)
    (h1 : Ev (fun k => spec_l02Critical.l0 k l (acc ++ [xs[i]]) ((i + 1 : Nat) : Int) n xs) R ∧ critP l xs[i] = true ∨ Ev (fun k => spec_l02Critical.l0 k l acc ((i + 1 : Nat) : Int) n xs) R ∧ critP l xs[i] = false) :
    ∀ d (j : Nat) (b : Bool), l.length - j = d → j ≤ l.length → (b && critP (l.drop j) xs[i]) = critP l xs[i] → Ev (fun k => spec_l02Critical.l1 k l acc i b j n xs) R := by
  intro d
  induction d with
  | zero =>
    intro j b hd hj hb
    rw [List.drop_eq_nil_of_le (by omega)] at hb
    simp only [critP, List.any_nil, Bool.not_false, Bool.and_true] at hb
    rcases h1 with ⟨h1, h2⟩ | ⟨h1, h2⟩
    · have hbt : b = true := by rw [hb]; exact h2
      subst hbt
      refine Ev.step (fun k => ?_) h1
      simp only [spec_l02Critical.l1]
      rw [if_neg (by omega), if_pos trivial, if_pos (by omega), if_pos (by omega), if_pos (by omega), rd_at hi, succ64 (by omega)]
    · have hbf : b = false := by rw [hb]; exact h2
      subst hbf
      refine Ev.step (fun k => ?_) h1
      simp only [spec_l02Critical.l1]
      rw [if_neg (by omega), if_neg (by simp), succ64 (by omega)]
  | succ d ih =>
    intro j b hd hj hb
    have hj' : j < l.length := by omega
    rw [List.drop_eq_getElem_cons hj'] at hb
    simp only [critP, List.any_cons, Bool.not_or] at hb
    cases b with
    | false =>
      refine Ev.step (fun k => ?_) (ih (j + 1) false (by omega) (by omega) (by simpa [critP] using hb))
      simp only [spec_l02Critical.l1]
      rw [if_pos (by omega), if_neg (by simp), succ64 (by omega)]
    | true =>
      by_cases h : l[j].f0 = xs[i]
      · refine Ev.step (fun k => ?_) (ih (j + 1) false (by omega) (by omega) (by simpa [critP, h] using hb))
        simp only [spec_l02Critical.l1]
        rw [if_pos (by omega), if_pos trivial, if_pos (by omega), if_pos (by omega), if_pos (by omega), rdP_at hj', rd_at hi, if_pos h, succ64 (by omega)]
      · refine Ev.step (fun k => ?_) (ih (j + 1) (l[j].f1 != xs[i]) (by omega) (by omega) (by simpa [critP, beq_eq_false_iff_ne.2 h, bne] using hb))
        simp only [spec_l02Critical.l1]
        rw [if_pos (by omega), if_pos trivial, if_pos (by omega), if_pos (by omega), if_pos (by omega), rdP_at hj', rd_at hi, if_neg h, succ64 (by omega)]
theorem crit_l0 (n : Int) (xs : List Int) (l : List Pr) (hl : l.length ≤ 1048576) (hx : xs.length ≤ 1048576) : ∀ d (i : Nat) (acc : List Int), xs.length - i = d → i ≤ xs.length → acc.length ≤ i → Ev (fun k => spec_l02Critical.l0 k l acc i n xs) (acc ++ (xs.drop i).filter (critP l)) := by
  intro d
  induction d with
  | zero =>
    intro i acc hd hi ha
    rw [List.drop_eq_nil_of_le (by omega)]
    refine Ev.step (f := fun _ => some acc) (fun k => ?_) (by simpa using Ev.now acc)
    simp only [spec_l02Critical.l0]; rw [if_neg (by omega)]
  | succ d ih =>
    intro i acc hd hi ha
    have hi' : i < xs.length := by omega
    rw [List.drop_eq_getElem_cons hi', List.filter_cons]
    refine Ev.step (f := fun k => spec_l02Critical.l1 k l acc i true ((0 : Nat) : Int) n xs) (fun k => ?_) (crit_l1 n xs l hl hx hi' acc ha _ ?_ _ 0 true rfl (Nat.zero_le _) (by simp))
    · simp only [spec_l02Critical.l0]; rw [if_pos (by omega)]; rfl
    · cases hc : critP l xs[i] with
      | true => exact .inl ⟨by have := ih (i + 1) (acc ++ [xs[i]]) (by omega) (by omega) (by simp; omega); simpa using this, rfl⟩
      | false => exact .inr ⟨by have := ih (i + 1) acc (by omega) (by omega) (by omega); simpa using this, rfl⟩
theorem ev_crit (n : Int) {xs : List Int} (hx : xs.length ≤ 1048576) {l : List Pr} (hl : l.length ≤ 1048576) : Ev (fun k => spec_l02Critical.f k n xs l) (critL xs l) := by
  unfold spec_l02Critical.f critL
  have := crit_l0 n xs l hl hx _ 0 [] rfl (Nat.zero_le _) (by simp)
  simpa using this
theorem c6_loop (a : Int) (c : List Int) (hc : c.length ≤ 1048576) : ∀ d (i : Nat), c.length - i = d → i ≤ c.length → Ev (fun k => spec_l06Critical.l0 k a c i) (decide (a ∈ c.drop i)) := by
  intro d
  induction d with
  | zero =>
    intro i hd hi
    rw [List.drop_eq_nil_of_le (by omega)]
    refine Ev.step (f := fun _ => some false) (fun k => ?_) (by simpa using Ev.now false)
    simp only [spec_l06Critical.l0]; rw [if_neg (by omega)]
  | succ d ih =>
    intro i hd hi
    have hi' : i < c.length := by omega
    rw [List.drop_eq_getElem_cons hi']
    by_cases h : c[i] = a
    · refine Ev.step (f := fun _ => some true) (fun k => ?_) (by rw [h]; simpa using Ev.now true)
      simp only [spec_l06Critical.l0]; rw [if_pos (by omega), if_pos (by omega), rd_at hi', if_pos h]
    · refine Ev.step (f := fun k => spec_l06Critical.l0 k a c ((i + 1 : Nat) : Int)) (fun k => ?_) (by rw [show decide (a ∈ c[i] :: c.drop (i + 1)) = decide (a ∈ c.drop (i + 1)) from decide_eq_decide.2 ⟨fun h' => (List.mem_cons.1 h').resolve_left (Ne.symm h), fun h' => List.mem_cons.2 (.inr h')⟩]; exact ih (i + 1) (by omega) (by omega))
      simp only [spec_l06Critical.l0]; rw [if_pos (by omega), if_pos (by omega), rd_at hi', if_neg h, succ64 (by omega)]
theorem ev_crit6 (n : Int) {xs : List Int} (hx : xs.length ≤ 1048576) {l : List Pr} (hl : l.length ≤ 1048576) (a : Int) : Ev (fun k => spec_l06Critical.f k n xs l a) (decide (a ∈ critL xs l)) := by
  unfold spec_l06Critical.f
  refine Ev.bind (ev_crit n hx hl) ?_
  exact c6_loop a (critL xs l) (by have := List.length_filter_le (critP l) xs; unfold critL; omega) _ 0 rfl (Nat.zero_le _)
def besideB (xs : List Int) (l : List Pr) (b a : Int) : Bool := decide (b ∈ critL xs l) && (decide (a ∈ critL xs l) && (onesZ b == onesZ a + 1))
def gcode (n : Int) (xs : List Int) (l : List Pr) (b a : Int) : Int := if pcode n xs l = 0 then (if besideB xs l b a then (if acycB l then 0 else 5) else 2) else pcode n xs l
theorem pcode_zero {n : Int} {xs : List Int} {l : List Pr} (h : pcode n xs l = 0) : isC n xs = true ∧ pairingB xs l = true := by
  unfold pcode at h
  cases h1 : isC n xs <;> cases h2 : pairingB xs l <;> simp [h1, h2] at h ⊢
theorem ev_given (n : Int) {xs : List Int} (hx : xs.length ≤ 1048576) {l : List Pr} (hl : l.length ≤ 1048576) (b a : Int) : Ev (fun k => spec_l06Given.f k n xs l b a) (gcode n xs l b a) := by
  unfold spec_l06Given.f gcode
  refine Ev.bind (ev_pcode n hx hl) ?_
  by_cases h0 : pcode n xs l = 0
  · obtain ⟨hi, hp⟩ := pcode_zero h0
    have hF := facesP_of hi hp
    have r := isC_63 hi
    have hsub : ∀ x, x ∈ critL xs l → 1 ≤ x ∧ x ≤ 63 := fun x hx => r x (List.mem_filter.1 hx).1
    simp only [h0, if_true]
    have hno : Ev (fun k => spec_l06Given.j0 k l 0 true) 2 := Ev.step (f := fun _ => some 2) (fun k => by simp [spec_l06Given.j0]) (Ev.now _)
    have hyes : Ev (fun k => spec_l06Given.j0 k l 0 false) (if acycB l = true then 0 else 5) := by
      refine Ev.step (f := fun k => (spec_l02Acyclic.f k l).bind fun t => if t = true then some 0 else some 5) (fun k => by simp [spec_l06Given.j0]) (Ev.bind (ev_acyclic hl hF) ?_)
      cases acycB l <;> exact Ev.now _
    refine Ev.bind (ev_crit6 n hx hl b) ?_
    unfold besideB
    by_cases h1 : b ∈ critL xs l
    · simp only [h1, decide_true, if_true, Bool.true_and]
      refine Ev.bind (ev_crit6 n hx hl a) ?_
      by_cases h2 : a ∈ critL xs l
      · have b1 := hsub b h1
        have a1 := hsub a h2
        have o1 := ones_le a
        simp only [h2, decide_true, if_true, Bool.true_and]
        refine Ev.bind (ev_ones (by omega) (by omega)) ?_
        refine Ev.bind (ev_ones (by omega) (by omega)) ?_
        rw [w64 (x := onesZ a + 1) (by omega) (by omega)]
        by_cases h3 : onesZ b = onesZ a + 1
        · simp only [h3, bne_self_eq_false, beq_self_eq_true, if_true]; exact hyes
        · simp only [bne, beq_eq_false_iff_ne.2 h3, Bool.not_false, Bool.false_eq_true, if_false]; exact hno
      · simp only [h2, decide_false, Bool.false_eq_true, if_false, Bool.false_and]
        exact hno
    · simp only [h1, decide_false, Bool.false_eq_true, if_false, Bool.false_and]
      exact hno
  · simp only [h0, if_false]
    refine Ev.step (f := fun _ => some (pcode n xs l)) (fun k => ?_) (Ev.now _)
    simp [spec_l06Given.j0, h0]
end Go.Proofs.Ytnmhnkpijjmhjaa.Pu
namespace Go.Proofs.Ytnmhnkpijjmhjaa.Pu
set_option linter.unusedVariables false
set_option linter.unusedSimpArgs false
open Go.RowKit Go.Proofs.Ytnmhnkpijjmhjaa.Kp Go.Proofs.Ytnmhnkpijjmhjaa.Ext Go.Proofs.Ytnmhnkpijjmhjaa.QS Go.Proofs.Ytnmhnkpijjmhjaa.Im Go.Proofs.YtnmhnkpijjmhjaaW.PrintWords Go.Proofs.YtnmhnkpijjmhjaaW.PrintLast Go.Proofs.YtnmhnkpijjmhjaaW.PrintMore
theorem crit_clo (f : Int) : (QB.clo_215 f).sort = 2 ∧ ∀ q : Pr, 0 ≤ q.f0 → q.f0 ≤ 63 → 0 ≤ q.f1 → q.f1 ≤ 63 → (QB.clo_215 f).pP q = (q.f0 == f || q.f1 == f) :=
  ofP_face (p := fun q : Pr => q.f0 == f || q.f1 == f) fun x y _ _ _ _ => by
    unfold QB.impl_Complex_critical_1_1.f
    by_cases h : x = f <;> simp [h]
theorem okDomP_faces {l : List Pr} (hr : FacesP l) (a : Pred) : okDomP a l = true := by
  rw [okDomP, Bool.or_eq_true]
  refine .inr (List.all_eq_true.2 fun q hq => ?_)
  have := hr q hq
  simp; omega
theorem any_congr_mem {α : Type} {p q : α → Bool} {l : List α} (h : ∀ x ∈ l, p x = q x) : l.any p = l.any q := by
  induction l with
  | nil => rfl
  | cons a l ih => rw [List.any_cons, List.any_cons, h a (by simp), ih (fun x hx => h x (by simp [hx]))]
theorem crit1_f {l : List Pr} (hl : l.length ≤ 1048576) (hr : FacesP l) (f : Int) : QB.impl_Complex_critical_1.f f l = some (!critP l f) := by
  obtain ⟨s1, p1⟩ := crit_clo f
  unfold QB.impl_Complex_critical_1.f slices_ContainsFunc_impl_Pair_impl_Pair.f
  rw [if_pos ⟨by omega, s1, okDomP_faces hr _⟩, Option.bind_some]
  unfold critP
  rw [Bool.not_not, any_congr_mem fun q hq => by have := hr q hq; exact p1 q (by omega) (by omega) (by omega) (by omega)]
theorem crit_f {n : Int} {xs : List Int} (hi : isC n xs = true) {l : List Pr} (hl : l.length ≤ 1048576) (hr : FacesP l) : QB.impl_Complex_critical.f n xs l = some (critL xs l) := by
  have hs := isC_small hi
  have r := isC_63 hi
  obtain ⟨s2, _, p2⟩ := ofI_face (f := fun x => QB.impl_Complex_critical_1.f x l) (p := fun x => !critP l x) (fun x _ _ => crit1_f hl hr x)
  have hd : okDom (QB.clo_214 l) xs = true := by
    rw [okDom, Bool.or_eq_true]
    refine .inr (List.all_eq_true.2 fun x hx => ?_)
    have := r x hx
    simp; omega
  unfold QB.impl_Complex_critical.f slices_Clone_int64_int64.f slices_DeleteFunc_int64_int64.f
  rw [if_pos (by omega), Option.bind_some, if_pos ⟨by omega, s2, hd⟩, Option.bind_some]
  unfold critL
  refine congrArg some (List.filter_congr fun x hx => ?_)
  have := r x hx
  rw [show (QB.clo_214 l).pI x = !critP l x from p2 x (by omega) (by omega), Bool.not_not]
theorem pcode_f (n : Int) {xs : List Int} (hx : xs.length ≤ 1048576) {l : List Pr} (hl : l.length ≤ 1048576) (b : Bool) : QB.impl_pairingCode.f n xs l b = some (if isC n xs then (if b && pairingB xs l then 0 else 2) else 1) := by
  unfold QB.impl_pairingCode.f impl_complexCode.f
  cases hi : isC n xs with
  | false =>
    rw [if_pos ⟨by omega, fun h => by cases h⟩]; rfl
  | true =>
    have hp : QB.impl_pairingCode_1.f b n xs l = some (b && pairingB xs l) := by
      unfold QB.impl_pairingCode_1.f impl_Complex_isPairing.f
      have hc : isC n xs = true ∧ l.length ≤ 1099511627776 := ⟨hi, by omega⟩
      cases b with
      | false => simp
      | true => simp [hc]
    unfold QB.clo_208
    rw [hp, if_pos ⟨by omega, fun _ => rfl⟩]
    cases b <;> cases pairingB xs l <;> rfl
theorem sizeB_all : ((List.range 64).all fun f => QB.impl_size.f (f : Int) == some (onesZ (f : Int))) = true := by decide +kernel
theorem sizeB_eq {x : Int} (h0 : 0 ≤ x) (h6 : x ≤ 63) : QB.impl_size.f x = some (onesZ x) := by
  obtain ⟨m, rfl⟩ := Int.eq_ofNat_of_zero_le h0
  exact eq_of_beq (List.all_eq_true.1 sizeB_all m (List.mem_range.2 (by omega)))
theorem beside_f {n : Int} {xs : List Int} (hi : isC n xs = true) {l : List Pr} (hl : l.length ≤ 1048576) (hr : FacesP l) (b a : Int) : QB.impl_Complex_areBeside.f n xs l b a = some (besideB xs l b a) := by
  have hs := isC_small hi
  have r := isC_63 hi
  have hsub : ∀ x, x ∈ critL xs l → 1 ≤ x ∧ x ≤ 63 := fun x hx => r x (List.mem_filter.1 hx).1
  have hlen : (critL xs l).length ≤ 63 := by have := List.length_filter_le (critP l) xs; unfold critL; omega
  have hc : ∀ x, slices_Contains_int64_int64.f (critL xs l) x = some (decide (x ∈ critL xs l)) := fun x => by
    unfold slices_Contains_int64_int64.f
    rw [if_pos (by omega)]
    congr 1
    rw [Bool.eq_iff_iff, List.any_eq_true, decide_eq_true_iff]
    constructor
    · rintro ⟨y, hy, he⟩
      rw [eq_of_beq he]; exact hy
    · exact fun h => ⟨x, h, by simp⟩
  have hsz : ∀ x : Int, 0 ≤ x → x ≤ 63 → QB.impl_size.f x = some (onesZ x) := fun x => sizeB_eq
  unfold QB.impl_Complex_areBeside.f besideB
  generalize QB.impl_size.f = S at hsz ⊢
  rw [crit_f hi hl hr, Option.bind_some, hc b, Option.bind_some, hc a]
  have o1 := ones_le a
  have hw : wrap64 (onesZ a + 1) = onesZ a + 1 := w64 (by omega) (by omega)
  have hb1 : decide (b ∈ critL xs l) = true → S b = some (onesZ b) := fun h => by have := hsub b (of_decide_eq_true h); exact hsz b (by omega) (by omega)
  have ha1 : decide (a ∈ critL xs l) = true → S a = some (onesZ a) := fun h => by have := hsub a (of_decide_eq_true h); exact hsz a (by omega) (by omega)
  generalize decide (b ∈ critL xs l) = db at hb1 ⊢
  generalize decide (a ∈ critL xs l) = da at ha1 ⊢
  generalize onesZ a = oa at hw ha1 ⊢
  generalize onesZ b = ob at hb1 ⊢
  cases db with
  | false => rfl
  | true =>
    cases da with
    | false => rfl
    | true =>
      rw [if_pos rfl, Option.bind_some, if_pos rfl, hb1 rfl, ha1 rfl, Option.bind_some, Option.bind_some, hw]
      rfl
theorem bcode_f (n : Int) {xs : List Int} (hx : xs.length ≤ 1048576) {l : List Pr} (hl : l.length ≤ 1048576) (b a : Int) : QB.impl_besideCode.f n xs l b a = some (gcode n xs l b a) := by
  unfold QB.impl_besideCode.f gcode pcode
  rw [pcode_f n hx hl, Option.bind_some]
  cases hi : isC n xs with
  | false => simp
  | true =>
    cases hp : pairingB xs l with
    | false => simp
    | true =>
      have hF := facesP_of hi hp
      simp only [if_true, Bool.true_and]
      rw [beside_f hi hl hF, Option.bind_some]
      unfold QB.impl_acyclicCode.f
      rw [pcode_f n hx hl, Option.bind_some]
      simp only [hi, if_true, hp, Bool.and_true]
      cases besideB xs l b a with
      | false => simp
      | true =>
        simp only [if_true]
        unfold impl_Complex_isAcyclic.f
        rw [if_pos (okBfs_of hl hF)]
        cases acycB l <;> rfl
open Classical in
noncomputable def rank (l : List Pr) (a : Int) : Nat := ((List.range 64).filter fun y : Nat => decide (Rch l a (y : Int))).length
theorem filter_lt {p q : Nat → Bool} : ∀ (L : List Nat), (∀ x ∈ L, p x = true → q x = true) → (∃ x ∈ L, q x = true ∧ p x = false) → (L.filter p).length < (L.filter q).length
  | [], _, h => by obtain ⟨x, hx, _⟩ := h; cases hx
  | x :: L, h, he => by
    have hle : ∀ (L : List Nat), (∀ x ∈ L, p x = true → q x = true) → (L.filter p).length ≤ (L.filter q).length := by
      intro L
      induction L with
      | nil => intro _; simp
      | cons y L ih =>
        intro h
        have h1 := ih (fun z hz => h z (by simp [hz]))
        have h2 := h y (by simp)
        rw [List.filter_cons, List.filter_cons]
        cases hp : p y with
        | true => rw [h2 hp]; simp; omega
        | false => cases q y <;> simp <;> omega
    rw [List.filter_cons, List.filter_cons]
    have h1 := h x (by simp)
    have hL := hle L (fun z hz => h z (by simp [hz]))
    obtain ⟨y, hy, hq, hp⟩ := he
    rcases List.mem_cons.1 hy with rfl | hy
    · rw [hp, hq]; simp; omega
    · have := filter_lt L (fun z hz => h z (by simp [hz])) ⟨y, hy, hq, hp⟩
      cases hpx : p x with
      | true => rw [h1 hpx]; simp; omega
      | false => cases q x <;> simp <;> omega
open Classical in
theorem rank_lt {l : List Pr} (hr : FacesP l) {a y : Int} (hy : y ∈ nextZ l a) (hn : ¬ Rch l y y) : rank l y < rank l a := by
  have hyr := nextZ_range hr hy
  unfold rank
  refine filter_lt _ (fun x _ h => ?_) ⟨y.toNat, List.mem_range.2 (by omega), ?_, ?_⟩
  · exact decide_eq_true (.more hy (of_decide_eq_true h))
  · rw [Int.toNat_of_nonneg (by omega)]; exact decide_eq_true (.one hy)
  · rw [Int.toNat_of_nonneg (by omega)]; exact decide_eq_false hn
theorem no_loop {l : List Pr} (hl : l.length ≤ 1048576) (hr : FacesP l) (h : acycB l = true) (x : Int) : ¬ Rch l x x := by
  intro hx
  have hne : highZ l x ≠ 0 := by
    intro h0
    have : ∀ y, y ∉ nextZ l x := fun y hy => by unfold nextZ at hy; rw [if_pos h0] at hy; cases hy
    cases hx with
    | one h => exact this _ h
    | more h _ => exact this _ h
  unfold highZ at hne
  cases hq : l.find? (fun q => q.f0 == x) with
  | none => rw [hq] at hne; exact hne rfl
  | some q =>
    have hm := List.mem_of_find?_eq_some hq
    have he : q.f0 = x := by simpa using List.find?_some hq
    have h1 := List.all_eq_true.1 h q hm
    rw [he, (loopB_iff hl hr x).2 hx] at h1
    cases h1
/-- No ways: none is counted. -/
theorem ways_zero {l : List Pr} (hl : l.length ≤ 1048576) (hr : FacesP l) (hac : ∀ x, ¬ Rch l x x) (b : Int) : ∀ (m : Nat) (a : Int), rank l a ≤ m → a ≠ b → ¬ Rch l a b → Ev (fun k => spec_l02Ways.f k l a b) 0 := by
  intro m
  induction m with
  | zero =>
    intro a ha hab hn
    have h0 : nextZ l a = [] := by
      cases h : nextZ l a with
      | nil => rfl
      | cons y r => have := rank_lt hr (a := a) (y := y) (by rw [h]; simp) (hac y); omega
    refine Ev.step (fun k => by simp only [spec_l02Ways.f]; rw [if_neg hab]) ?_
    refine Ev.step (fun k => by simp only [spec_l02Ways.j0]; rfl) (Ev.bind (ev_next hl hr a) ?_)
    rw [h0]
    exact Ev.step (f := fun _ => some 0) (fun k => by simp [spec_l02Ways.l0]) (Ev.now _)
  | succ m ih =>
    intro a ha hab hn
    refine Ev.step (fun k => by simp only [spec_l02Ways.f]; rw [if_neg hab]) ?_
    refine Ev.step (fun k => by simp only [spec_l02Ways.j0]; rfl) (Ev.bind (ev_next hl hr a) ?_)
    have hlen := nextZ_len (l := l) (a := a)
    have hz : ∀ y ∈ nextZ l a, Ev (fun k => spec_l02Ways.f k l y b) 0 := fun y hy => ih y (by have := rank_lt hr hy (hac y); omega) (fun e => hn (e ▸ .one hy)) (fun h => hn (.more hy h))
    generalize nextZ l a = L at hz hlen
    have loop : ∀ d (i : Nat), L.length - i = d → i ≤ L.length → Ev (fun k => spec_l02Ways.l0 k l b 0 L i) 0 := by
      intro d
      induction d with
      | zero => intro i hd hi; exact Ev.step (f := fun _ => some 0) (fun k => by simp only [spec_l02Ways.l0]; rw [if_neg (by omega)]) (Ev.now _)
      | succ d ihd =>
        intro i hd hi
        have hi' : i < L.length := by omega
        refine Ev.step (f := fun k => (spec_l02Ways.f k l L[i] b).bind fun t => spec_l02Ways.l0 k l b (wrap64 (0 + t)) L ((i + 1 : Nat) : Int)) (fun k => ?_) (Ev.bind (hz _ (List.getElem_mem hi')) ?_)
        · simp only [spec_l02Ways.l0]; rw [if_pos (by omega), if_pos (by omega), rd_at hi', succ64 (by omega)]
        · rw [show wrap64 (0 + 0) = 0 from by rw [w64 (by omega) (by omega)]; rfl]
          exact ihd (i + 1) (by omega) (by omega)
    exact loop _ 0 rfl (Nat.zero_le _)
/-- Both count the same. -/
theorem ways_both {l : List Pr} (hl : l.length ≤ 1048576) (hr : FacesP l) (hac : ∀ x, ¬ Rch l x x) (b : Int) : ∀ (m : Nat) (a : Int), rank l a < m → ∃ v, Ev (fun k => QB.impl_countWays.f k l a b) v ∧ Ev (fun k => spec_l02Ways.f k l a b) v := by
  intro m
  induction m with
  | zero => intro a ha; omega
  | succ m ih =>
    intro a ha
    have hlen := nextZ_len (l := l) (a := a)
    by_cases hab : a = b
    · subst hab
      refine ⟨1, Ev.step (f := fun _ => some 1) (fun k => by simp [QB.impl_countWays.f]) (Ev.now _), ?_⟩
      refine Ev.step (fun k => by simp only [spec_l02Ways.f, if_true]; rfl) ?_
      refine Ev.step (fun k => by simp only [spec_l02Ways.j0]; rfl) (Ev.bind (ev_next hl hr a) ?_)
      have hz : ∀ y ∈ nextZ l a, Ev (fun k => spec_l02Ways.f k l y a) 0 := fun y hy => ways_zero hl hr hac a (rank l y) y (Nat.le_refl _) (fun e => by subst e; exact hac _ (.one hy)) (fun h => hac a (.more hy h))
      generalize nextZ l a = L at hz hlen
      have loop : ∀ d (i : Nat), L.length - i = d → i ≤ L.length → Ev (fun k => spec_l02Ways.l0 k l a 1 L i) 1 := by
        intro d
        induction d with
        | zero => intro i hd hi; exact Ev.step (f := fun _ => some 1) (fun k => by simp only [spec_l02Ways.l0]; rw [if_neg (by omega)]) (Ev.now _)
        | succ d ihd =>
          intro i hd hi
          have hi' : i < L.length := by omega
          refine Ev.step (f := fun k => (spec_l02Ways.f k l L[i] a).bind fun t => spec_l02Ways.l0 k l a (wrap64 (1 + t)) L ((i + 1 : Nat) : Int)) (fun k => ?_) (Ev.bind (hz _ (List.getElem_mem hi')) ?_)
          · simp only [spec_l02Ways.l0]; rw [if_pos (by omega), if_pos (by omega), rd_at hi', succ64 (by omega)]
          · rw [show wrap64 (1 + 0) = 1 from by rw [w64 (by omega) (by omega)]; rfl]
            exact ihd (i + 1) (by omega) (by omega)
      exact loop _ 0 rfl (Nat.zero_le _)
    · have hz : ∀ y ∈ nextZ l a, ∃ v, Ev (fun k => QB.impl_countWays.f k l y b) v ∧ Ev (fun k => spec_l02Ways.f k l y b) v := fun y hy => ih y (by have := rank_lt hr hy (hac y); omega)
      have hs : impl_steps.f l a = some (nextZ l a) := steps_f hl hr a
      have hn := ev_next hl hr a
      generalize nextZ l a = L at hz hlen hs hn
      have loop : ∀ d (i : Nat) (s : Int), L.length - i = d → i ≤ L.length → ∃ v, Ev (fun k => QB.impl_countWays.l0 k l b s L (L.length : Int) i) v ∧ Ev (fun k => spec_l02Ways.l0 k l b s L i) v := by
        intro d
        induction d with
        | zero => intro i s hd hi; exact ⟨s, Ev.step (f := fun _ => some s) (fun k => by simp only [QB.impl_countWays.l0]; rw [if_neg (by omega)]) (Ev.now _), Ev.step (f := fun _ => some s) (fun k => by simp only [spec_l02Ways.l0]; rw [if_neg (by omega)]) (Ev.now _)⟩
        | succ d ihd =>
          intro i s hd hi
          have hi' : i < L.length := by omega
          obtain ⟨t, t1, t2⟩ := hz _ (List.getElem_mem hi')
          obtain ⟨v, v1, v2⟩ := ihd (i + 1) (wrap64 (s + t)) (by omega) (by omega)
          refine ⟨v, Ev.step (f := fun k => (QB.impl_countWays.f k l L[i] b).bind fun t => QB.impl_countWays.l0 k l b (wrap64 (s + t)) L (L.length : Int) ((i + 1 : Nat) : Int)) (fun k => ?_) (Ev.bind t1 v1), Ev.step (f := fun k => (spec_l02Ways.f k l L[i] b).bind fun t => spec_l02Ways.l0 k l b (wrap64 (s + t)) L ((i + 1 : Nat) : Int)) (fun k => ?_) (Ev.bind t2 v2)⟩
          · simp only [QB.impl_countWays.l0]; rw [if_pos (by omega), if_pos (by omega), if_pos (by omega), rd_at hi', succ64 (by omega)]
          · simp only [spec_l02Ways.l0]; rw [if_pos (by omega), if_pos (by omega), rd_at hi', succ64 (by omega)]
      obtain ⟨v, v1, v2⟩ := loop _ 0 0 rfl (Nat.zero_le _)
      refine ⟨v, Ev.step (f := fun k => QB.impl_countWays.l0 k l b 0 L (L.length : Int) 0) (fun k => ?_) v1, ?_⟩
      · simp only [QB.impl_countWays.f]; rw [if_neg hab, hs]; rfl
      · refine Ev.step (fun k => by simp only [spec_l02Ways.f]; rw [if_neg hab]) ?_
        exact Ev.step (fun k => by simp only [spec_l02Ways.j0]; rfl) (Ev.bind hn v2)
theorem between_both {l : List Pr} (hl : l.length ≤ 1048576) (hr : FacesP l) (hac : ∀ x, ¬ Rch l x x) {b : Int} (hb : 1 ≤ b ∧ b ≤ 63) (a : Int) : ∃ v, Ev (fun k => QB.impl_waysBetween.f k l b a) v ∧ Ev (fun k => spec_l06Between.f k l b a) v := by
  have hlen := borders_len6 (f := b)
  have hbr : impl_borders.f b = some (bordersL b) := by unfold impl_borders.f; rw [if_pos trivial]
  have hbe := ev_below hb.1 hb.2
  generalize bordersL b = L at hlen hbr hbe
  have loop : ∀ d (i : Nat) (s : Int), L.length - i = d → i ≤ L.length → ∃ v, Ev (fun k => QB.impl_waysBetween.l0 k l a s L (L.length : Int) i) v ∧ Ev (fun k => spec_l06Between.l0 k l a L s i) v := by
    intro d
    induction d with
    | zero => intro i s hd hi; exact ⟨s, Ev.step (f := fun _ => some s) (fun k => by simp only [QB.impl_waysBetween.l0]; rw [if_neg (by omega)]) (Ev.now _), Ev.step (f := fun _ => some s) (fun k => by simp only [spec_l06Between.l0]; rw [if_neg (by omega)]) (Ev.now _)⟩
    | succ d ihd =>
      intro i s hd hi
      have hi' : i < L.length := by omega
      obtain ⟨t, t1, t2⟩ := ways_both hl hr hac a _ L[i] (Nat.lt_succ_self _)
      obtain ⟨v, v1, v2⟩ := ihd (i + 1) (wrap64 (s + t)) (by omega) (by omega)
      refine ⟨v, Ev.step (f := fun k => (QB.impl_countWays.f k l L[i] a).bind fun t => QB.impl_waysBetween.l0 k l a (wrap64 (s + t)) L (L.length : Int) ((i + 1 : Nat) : Int)) (fun k => ?_) (Ev.bind t1 v1), Ev.step (f := fun k => (spec_l02Ways.f k l L[i] a).bind fun t => spec_l06Between.l0 k l a L (wrap64 (s + t)) ((i + 1 : Nat) : Int)) (fun k => ?_) (Ev.bind t2 v2)⟩
      · simp only [QB.impl_waysBetween.l0]; rw [if_pos (by omega), if_pos (by omega), if_pos (by omega), rd_at hi', succ64 (by omega)]
      · simp only [spec_l06Between.l0]; rw [if_pos (by omega), if_pos (by omega), rd_at hi', succ64 (by omega)]
  obtain ⟨v, v1, v2⟩ := loop _ 0 0 rfl (Nat.zero_le _)
  refine ⟨v, ?_, ?_⟩
  · unfold QB.impl_waysBetween.f
    simp only [hbr, Option.bind_some]
    exact v1
  · unfold spec_l06Between.f
    exact Ev.bind hbe v2
theorem ways_law (n : Int) {xs : List Int} (hx : xs.length ≤ 1048576) {l : List Pr} (hl : l.length ≤ 1048576) (b a : Int) : ∃ D, Ev (fun k => QB.impl_WaysBetween.f k n xs l b a) D ∧ Ev (fun k => spec_WaysBetween.f k n xs l b a) D := by
  unfold QB.impl_WaysBetween.f spec_WaysBetween.f
  simp only [bcode_f n hx hl, Option.bind_some]
  by_cases h : gcode n xs l b a = 0
  · have hp : pcode n xs l = 0 := by
      unfold gcode at h
      by_cases h0 : pcode n xs l = 0
      · exact h0
      · rw [if_neg h0] at h; exact h
    obtain ⟨hi, hpa⟩ := pcode_zero hp
    have hF := facesP_of hi hpa
    have hb : besideB xs l b a = true ∧ acycB l = true := by
      unfold gcode at h
      rw [if_pos hp] at h
      cases h1 : besideB xs l b a <;> cases h2 : acycB l <;> simp [h1, h2] at h ⊢
    have hbb : 1 ≤ b ∧ b ≤ 63 := by
      have h1 := hb.1
      unfold besideB at h1
      simp only [Bool.and_eq_true, decide_eq_true_eq] at h1
      exact isC_63 hi b (List.mem_filter.1 h1.1).1
    obtain ⟨v, v1, v2⟩ := between_both hl hF (no_loop hl hF hb.2) hbb a
    refine ⟨(v, 0), ?_, ?_⟩
    · simp only [h, if_true]
      exact Ev.bind v1 (Ev.now _)
    · refine Ev.bind (ev_given n hx hl b a) ?_
      simp only [h, if_true]
      exact Ev.bind v2 (Ev.now _)
  · refine ⟨(0, gcode n xs l b a), ?_, ?_⟩
    · simp only [h, if_false]
      exact Ev.now _
    · refine Ev.bind (ev_given n hx hl b a) ?_
      simp only [h, if_false]
      exact Ev.now _
end Go.Proofs.Ytnmhnkpijjmhjaa.Pu
namespace Go.Proofs.Ytnmhnkpijjmhjaa.Pu
set_option linter.unusedVariables false
set_option linter.unusedSimpArgs false
open Go.RowKit Go.Proofs.Ytnmhnkpijjmhjaa.Kp Go.Proofs.Ytnmhnkpijjmhjaa.Ext Go.Proofs.Ytnmhnkpijjmhjaa.QS Go.Proofs.YtnmhnkpijjmhjaaW.PrintWords Go.Proofs.YtnmhnkpijjmhjaaW.PrintLast Go.Proofs.YtnmhnkpijjmhjaaW.PrintMore
theorem eqPair_loop (l : List Pr) (hl : l.length ≤ 1048576) : ∀ d (i : Nat), l.length - i = d → i ≤ l.length → Ev (fun k => laws_eqPairS.l0 k l l i) true := by
  intro d
  induction d with
  | zero =>
    intro i hd hi
    refine Ev.step (f := fun k => some true) (fun k => ?_) (Ev.now _)
    simp only [laws_eqPairS.l0]; rw [if_neg (by omega)]
  | succ d ih =>
    intro i hd hi
    refine Ev.step (fun k => ?_) (ih (i + 1) (by omega) (by omega))
    simp only [laws_eqPairS.l0]
    rw [if_pos (by omega), if_pos (by omega), if_pos (by omega), show wrap64 ((i : Int) + 1) = ((i + 1 : Nat) : Int) by rw [w64 (by omega) (by omega)]; omega]
    simp [laws_eqPair.f]
theorem ev_eqPairs {l : List Pr} (hl : l.length ≤ 1048576) : Ev (fun k => laws_eqPairS.f k l l) true := by
  unfold laws_eqPairS.f
  simp only [if_true]
  exact eqPair_loop l hl _ 0 rfl (Nat.zero_le _)
end Go.Proofs.Ytnmhnkpijjmhjaa.Pu
namespace Go.Proofs.Ytnmhnkpijjmhjaa.Pu
set_option linter.unusedVariables false
set_option linter.unusedSimpArgs false
open Go.RowKit Go.Proofs.Ytnmhnkpijjmhjaa.Kp Go.Proofs.Ytnmhnkpijjmhjaa.Ext Go.Proofs.Ytnmhnkpijjmhjaa.QS Go.Proofs.YtnmhnkpijjmhjaaW.PrintWords Go.Proofs.YtnmhnkpijjmhjaaW.PrintLast Go.Proofs.YtnmhnkpijjmhjaaW.PrintMore
def toPr (q : S75) : Pr := ⟨q.f0, q.f1⟩
theorem sz_prs {l : List S75} (hm : l.length ≤ maxLen) {b : Int} (h0 : 0 ≤ b) (h1 : b ≤ 1048576) : laws_szPairS.f l b = some (if b < (l.length : Int) then -1 else b - l.length) := by
  unfold laws_szPairS.f
  simp only [maxLen] at hm
  rw [w64 (by omega) (by omega)]
  by_cases h : b < (l.length : Int)
  · rw [if_pos (by omega), if_pos h]
  · rw [if_neg (by omega), if_neg h]
theorem rdA_at {l : List S75} {i : Nat} (h : i < l.length) : rd_T75 l (i : Int) = l[i] := by unfold rd_T75; rw [List.getD_eq_getElem?_getD, Int.toNat_natCast, List.getElem?_eq_getElem h]; rfl
theorem toPair_loop (l : List S75) (hl : l.length ≤ 1048576) : ∀ d (i : Nat) (x3 : List Pr), l.length - i = d → i ≤ l.length → x3.length = l.length → (∀ j, j < i → x3[j]? = (l[j]?).map toPr) → Ev (fun k => laws_toPairS.l0 k l x3 i) (l.map toPr) := by
  intro d
  induction d with
  | zero =>
    intro i x3 hd hi hx hj
    have he : x3 = l.map toPr := by
      apply List.ext_getElem?
      intro j
      rw [List.getElem?_map]
      rcases Nat.lt_or_ge j i with h | h
      · exact hj j h
      · rw [List.getElem?_eq_none (by omega), List.getElem?_eq_none (by omega)]; rfl
    refine Ev.step (f := fun _ => some x3) (fun k => ?_) (by rw [he]; exact Ev.now _)
    simp only [laws_toPairS.l0]; rw [if_neg (by omega)]
  | succ d ih =>
    intro i x3 hd hi hx hj
    have hi' : i < l.length := by omega
    refine Ev.step (f := fun k => laws_toPairS.l0 k l (x3.set i (toPr l[i])) ((i + 1 : Nat) : Int)) (fun k => ?_) (ih (i + 1) (x3.set i (toPr l[i])) (by omega) (by omega) (by simpa using hx) (fun j hji => ?_))
    · simp only [laws_toPairS.l0]
      rw [if_pos (by omega), if_pos (by omega), rdA_at hi', show wrap64 ((i : Int) + 1) = ((i + 1 : Nat) : Int) by rw [w64 (by omega) (by omega)]; omega]
      simp only [laws_toPair.f, Option.bind_some]
      rw [if_pos (by omega), Int.toNat_natCast]
      rfl
    · rw [List.getElem?_set]
      by_cases h : i = j
      · subst h
        rw [if_pos rfl, if_pos (by omega), List.getElem?_eq_getElem hi']; rfl
      · rw [if_neg h]
        exact hj j (by omega)
theorem ev_toPairs {l : List S75} (hl : l.length ≤ 1048576) : Ev (fun k => laws_toPairS.f k l) (l.map toPr) := by
  unfold laws_toPairS.f
  simp only [show (0 : Int) ≤ (l.length : Int) by omega, if_true, show ((l.length : Int)).toNat ≤ 17592186044416 by omega]
  exact toPair_loop l hl _ 0 _ rfl (Nat.zero_le _) (by simp) (fun j hj => absurd hj (Nat.not_lt_zero _))
end Go.Proofs.Ytnmhnkpijjmhjaa.Pu
namespace Go.Proofs.Ytnmhnkpijjmhjaa.Pu
set_option linter.unusedVariables false
set_option linter.unusedSimpArgs false
open Go.RowKit Go.Proofs.Ytnmhnkpijjmhjaa.Kp Go.Proofs.Ytnmhnkpijjmhjaa.Ext Go.Proofs.Ytnmhnkpijjmhjaa.QS Go.Proofs.Ytnmhnkpijjmhjaa.Im Go.Proofs.Ytnmhnkpijjmhjaa.QFnExactWaysBetween Go.Proofs.YtnmhnkpijjmhjaaW.PrintWords Go.Proofs.YtnmhnkpijjmhjaaW.PrintLast Go.Proofs.YtnmhnkpijjmhjaaW.PrintMore
theorem FnExactWaysBetween (n0 : Int) (l0 : List Int) (_ : (Lit.int .i64 n0).wf = true) (hm0 : l0.length ≤ maxLen) (_ : ∀ x ∈ l0, (Lit.int .i64 x).wf = true) (l1 : List S75) (hm1 : l1.length ≤ maxLen) (_ : ∀ x ∈ l1, (Lit.int .i64 x.f0).wf = true ∧ (Lit.int .i64 x.f1).wf = true) (a2 : Int) (_ : (Lit.int .i64 a2).wf = true) (a3 : Int) (_ : (Lit.int .i64 a3).wf = true) : ∃ k, laws_FnExactWaysBetween.f k n0 l0 l1 a2 a3 = some true := by
  apply Ev.rounds
  unfold laws_FnExactWaysBetween.f
  by_cases hb0 : (1048576 : Int) < (l0.length : Int)
  · simp only [sz_cx hm0 (show (0 : Int) ≤ (1048576 : Int) by omega) (show (1048576 : Int) ≤ 1048576 by omega), Option.bind_some, if_pos hb0, show ((-1 : Int) < 0) = True by simp, if_true]
    exact Ev.now _
  simp only [sz_cx hm0 (show (0 : Int) ≤ (1048576 : Int) by omega) (show (1048576 : Int) ≤ 1048576 by omega), Option.bind_some, if_neg hb0, if_neg (show ¬ ((1048576 : Int) - (l0.length : Int) < 0) by omega)]
  by_cases hb1 : ((1048576 : Int) - (l0.length : Int)) < (l1.length : Int)
  · simp only [sz_prs hm1 (show (0 : Int) ≤ ((1048576 : Int) - (l0.length : Int)) by omega) (show ((1048576 : Int) - (l0.length : Int)) ≤ 1048576 by omega), Option.bind_some, if_pos hb1, show ((-1 : Int) < 0) = True by simp, if_true]
    exact Ev.now _
  simp only [sz_prs hm1 (show (0 : Int) ≤ ((1048576 : Int) - (l0.length : Int)) by omega) (show ((1048576 : Int) - (l0.length : Int)) ≤ 1048576 by omega), Option.bind_some, if_neg hb1, if_neg (show ¬ (((1048576 : Int) - (l0.length : Int)) - (l1.length : Int) < 0) by omega)]
  have hl0 : l0.length ≤ 1048576 := by omega
  have hl1 : l1.length ≤ 1048576 := by omega
  have hT := ev_toPairs hl1
  have hq1 : (l1.map toPr).length ≤ 1048576 := by simpa using hl1
  generalize l1.map toPr = q1 at hT hq1
  obtain ⟨D, hJ, hS⟩ := ways_law n0 hl0 hq1 a2 a3
  have hI := impl_WaysBetween.come n0 l0 q1 a2 a3 hJ
  obtain ⟨r1, r2⟩ := D
  repeat (first
      | (exact Ev.now _)
      | (refine Ev.bind (ev_toComplex hl0) ?_)
      | (refine Ev.bind hT ?_)
      | (refine Ev.bind hS ?_)
      | (refine Ev.bind (ev_eqComplex hl0) ?_)
      | (refine Ev.bind (ev_eqPairs hq1) ?_)
      | (simp only [hI, Option.bind_some, if_true]))
end Go.Proofs.Ytnmhnkpijjmhjaa.Pu
