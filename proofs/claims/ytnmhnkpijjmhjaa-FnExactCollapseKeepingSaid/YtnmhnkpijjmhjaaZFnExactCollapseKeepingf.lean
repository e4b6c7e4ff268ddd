/- Words and lemmas for FnExactCollapseKeeping, part 6: what the row's text comes to. -/
import Derived.Test.YtnmhnkpijjmhjaaZFnExactCollapseKeepinge
namespace Go.Proofs.Ytnmhnkpijjmhjaa.Pu
set_option linter.unusedVariables false
set_option linter.unusedSimpArgs false
open Go.RowKit Go.Proofs.Ytnmhnkpijjmhjaa.QS Go.Proofs.YtnmhnkpijjmhjaaW.PrintWords Go.Proofs.YtnmhnkpijjmhjaaW.PrintLast Go.Proofs.YtnmhnkpijjmhjaaW.PrintMore
theorem w64 {x : Int} (h1 : -9223372036854775808 ≤ x) (h2 : x ≤ 9223372036854775807) : wrap64 x = x := by unfold wrap64; omega
theorem rd_at {l : List Int} {i : Nat} (h : i < l.length) : rd l (i : Int) = l[i] := by simp [rd, List.getD_eq_getElem?_getD, List.getElem?_eq_getElem h]
theorem sz_ints {l : List Int} (hm : l.length ≤ maxLen) {b : Int} (h0 : 0 ≤ b) (h1 : b ≤ 1048576) : laws_szInt64S.f l b = some (if b < (l.length : Int) then -1 else b - l.length) := by
  unfold laws_szInt64S.f
  simp only [maxLen] at hm
  rw [w64 (by omega) (by omega)]
  by_cases h : b < (l.length : Int)
  · rw [if_pos (by omega), if_pos h]
  · rw [if_neg (by omega), if_neg h]
theorem sz_cx {n : Int} {l : List Int} (hm : l.length ≤ maxLen) {b : Int} (h0 : 0 ≤ b) (h1 : b ≤ 1048576) : laws_szComplex.f n l b = some (if b < (l.length : Int) then -1 else b - l.length) := by
  unfold laws_szComplex.f
  rw [sz_ints hm h0 h1, Option.bind_some]
  by_cases h : b < (l.length : Int)
  · rw [if_pos h, if_pos (by omega)]
  · rw [if_neg h, if_neg (by omega)]
theorem toInt_loop (l : List Int) (hl : l.length ≤ 1048576) : ∀ d (i : Nat) (x3 : List Int) k, l.length - i = d → d < k → i ≤ l.length → x3.length = l.length → (∀ j, j < i → x3[j]? = l[j]?) → laws_toInt64S.l0 k l x3 i = some l := by
  intro d
  induction d with
  | zero =>
    intro i x3 k hd hk hi hx hj
    obtain ⟨k, rfl⟩ : ∃ m, k = m + 1 := ⟨k - 1, by omega⟩
    simp only [laws_toInt64S.l0]
    rw [if_neg (by omega)]
    congr 1
    apply List.ext_getElem?
    intro j
    rcases Nat.lt_or_ge j i with h | h
    · exact hj j h
    · rw [List.getElem?_eq_none (by omega), List.getElem?_eq_none (by omega)]
  | succ d ih =>
    intro i x3 k hd hk hi hx hj
    obtain ⟨k, rfl⟩ : ∃ m, k = m + 1 := ⟨k - 1, by omega⟩
    simp only [laws_toInt64S.l0]
    rw [if_pos (by omega), if_pos (by omega), if_pos (by omega), w64 (by omega) (by omega)]
    refine ih (i + 1) _ k (by omega) (by omega) (by omega) (by simpa using hx) (fun j hji => ?_)
    rw [Int.toNat_natCast, List.getElem?_set]
    split
    · rename_i h
      subst h
      rw [if_pos (by omega), rd_at (by omega), List.getElem?_eq_getElem (by omega)]
    · exact hj j (by omega)
theorem ev_toInt {l : List Int} (hl : l.length ≤ 1048576) : Ev (fun k => laws_toInt64S.f k l) l := by
  refine ⟨l.length + 1, fun k hk => ?_⟩
  dsimp only
  unfold laws_toInt64S.f
  rw [if_pos (by omega), if_pos (by omega)]
  exact toInt_loop l hl l.length 0 _ k (by omega) (by omega) (by omega) (by simp) (fun j hj => absurd hj (Nat.not_lt_zero _))
theorem ev_toComplex {n : Int} {l : List Int} (hl : l.length ≤ 1048576) : Ev (fun k => laws_toComplex.f k n l) (n, l) := by
  unfold laws_toComplex.f
  exact Ev.bind (f := fun _ t => some (n, t)) (ev_toInt hl) (Ev.now _)
theorem eqInt_loop (l : List Int) (hl : l.length ≤ 1048576) : ∀ d (i : Nat) k, l.length - i = d → d < k → i ≤ l.length → laws_eqInt64S.l0 k l l i = some true := by
  intro d
  induction d with
  | zero =>
    intro i k hd hk hi
    obtain ⟨k, rfl⟩ : ∃ m, k = m + 1 := ⟨k - 1, by omega⟩
    simp only [laws_eqInt64S.l0]
    rw [if_neg (by omega)]
  | succ d ih =>
    intro i k hd hk hi
    obtain ⟨k, rfl⟩ : ∃ m, k = m + 1 := ⟨k - 1, by omega⟩
    simp only [laws_eqInt64S.l0]
    rw [if_pos (by omega), if_pos (by omega), if_pos (by omega), if_pos trivial, w64 (by omega) (by omega)]
    exact ih (i + 1) k (by omega) (by omega) (by omega)
theorem ev_eqInt {l : List Int} (hl : l.length ≤ 1048576) : Ev (fun k => laws_eqInt64S.f k l l) true := by
  refine ⟨l.length + 1, fun k hk => ?_⟩
  dsimp only
  unfold laws_eqInt64S.f
  rw [if_pos rfl]
  exact eqInt_loop l hl l.length 0 k (by omega) (by omega) (by omega)
theorem ev_eqComplex {n : Int} {l : List Int} (hl : l.length ≤ 1048576) : Ev (fun k => laws_eqComplex.f k n l n l) true := by
  unfold laws_eqComplex.f
  simp only [if_true]
  exact Ev.bind (f := fun _ t => if t = true then some true else some false) (ev_eqInt hl) (by simp only [if_true]; exact Ev.now _)
def marks (m : Nat) (a : Int) : List Int := (List.range m).map fun j : Nat => a + (j : Int)
theorem marks_len (m : Nat) (a : Int) : (marks m a).length = m := by simp [marks]
theorem marks_at {m : Nat} {a : Int} {j : Nat} (h : j < m) : (marks m a)[j]? = some (a + (j : Int)) := by simp [marks, h]
theorem mark_loop (n : Nat) (hl : n ≤ 1048576) (a : Int) (ha : 0 ≤ a ∧ a ≤ 1073741824) : ∀ d (i : Nat) (x0 : List Int) k, n - i = d → d < k → i ≤ n → x0.length = n → (∀ j, j < i → x0[j]? = some (a + (j : Int))) → laws_markInt64S.l0 k x0 (a + (i : Int)) i = some (a + (n : Int), marks n a) := by
  intro d
  induction d with
  | zero =>
    intro i x0 k hd hk hi hx hj
    obtain ⟨k, rfl⟩ : ∃ m, k = m + 1 := ⟨k - 1, by omega⟩
    simp only [laws_markInt64S.l0]
    rw [if_neg (by omega), show i = n by omega]
    congr 2
    apply List.ext_getElem?
    intro j
    rcases Nat.lt_or_ge j n with h | h
    · rw [hj j (by omega), marks_at h]
    · rw [List.getElem?_eq_none (by omega), List.getElem?_eq_none (by rw [marks_len]; omega)]
  | succ d ih =>
    intro i x0 k hd hk hi hx hj
    obtain ⟨k, rfl⟩ : ∃ m, k = m + 1 := ⟨k - 1, by omega⟩
    simp only [laws_markInt64S.l0]
    rw [if_pos (by omega), if_pos (by omega), w64 (by omega) (by omega), w64 (by omega) (by omega)]
    have := ih (i + 1) (x0.set (i : Int).toNat (a + i)) k (by omega) (by omega) (by omega) (by simpa using hx) (fun j hji => ?_)
    · rw [show ((i + 1 : Nat) : Int) = (i : Int) + 1 by omega, show a + ((i : Int) + 1) = a + (i : Int) + 1 by omega] at this
      exact this
    · rw [Int.toNat_natCast, List.getElem?_set]
      split
      · rename_i h
        subst h
        rw [if_pos (by omega)]
      · exact hj j (by omega)
theorem ev_mark {l : List Int} (hl : l.length ≤ 1048576) {a : Int} (ha : 0 ≤ a ∧ a ≤ 1073741824) : Ev (fun k => laws_markInt64S.f k l a) (a + (l.length : Int), marks l.length a) := by
  refine ⟨l.length + 1, fun k hk => ?_⟩
  dsimp only
  unfold laws_markInt64S.f
  have := mark_loop l.length hl a ha l.length 0 l k (by omega) (by omega) (by omega) rfl (fun j hj => absurd hj (Nat.not_lt_zero _))
  rw [show a + ((0 : Nat) : Int) = a by omega] at this
  exact this
theorem ev_markComplex {n : Int} {l : List Int} (hl : l.length ≤ 1048576) {a : Int} (ha : 0 ≤ a ∧ a ≤ 1073741824) : Ev (fun k => laws_markComplex.f k n l a) (a + (l.length : Int), marks l.length a) := by
  unfold laws_markComplex.f
  exact Ev.bind (f := fun _ t => some (t.1, t.2)) (ev_mark hl ha) (Ev.now _)
theorem held_loop (n : Nat) (hl : n ≤ 1048576) (a : Int) (ha : 0 ≤ a ∧ a ≤ 1073741824) : ∀ d (i : Nat) k, n - i = d → d < k → i ≤ n → laws_heldInt64S.l0 k (marks n a) (a + (i : Int)) i = some (a + (n : Int)) := by
  intro d
  induction d with
  | zero =>
    intro i k hd hk hi
    obtain ⟨k, rfl⟩ : ∃ m, k = m + 1 := ⟨k - 1, by omega⟩
    simp only [laws_heldInt64S.l0]
    rw [marks_len, if_neg (by omega), show i = n by omega]
  | succ d ih =>
    intro i k hd hk hi
    obtain ⟨k, rfl⟩ : ∃ m, k = m + 1 := ⟨k - 1, by omega⟩
    simp only [laws_heldInt64S.l0]
    have h0 : rd (marks n a) (i : Int) = a + (i : Int) := by
      rw [rd_at (by rw [marks_len]; omega)]
      have := marks_at (m := n) (a := a) (j := i) (by omega)
      rw [List.getElem?_eq_getElem (by rw [marks_len]; omega)] at this
      exact Option.some.inj this
    rw [marks_len, if_pos (by omega), if_pos (by omega), if_pos h0, w64 (by omega) (by omega), w64 (by omega) (by omega)]
    have := ih (i + 1) k (by omega) (by omega) (by omega)
    rw [show ((i + 1 : Nat) : Int) = (i : Int) + 1 by omega, show a + ((i : Int) + 1) = a + (i : Int) + 1 by omega] at this
    exact this
theorem ev_held {n : Nat} (hl : n ≤ 1048576) {a : Int} (ha : 0 ≤ a ∧ a ≤ 1073741824) : Ev (fun k => laws_heldInt64S.f k (marks n a) a) (a + (n : Int)) := by
  refine ⟨n + 1, fun k hk => ?_⟩
  dsimp only
  unfold laws_heldInt64S.f
  have := held_loop n hl a ha n 0 k (by omega) (by omega) (by omega)
  rw [show a + ((0 : Nat) : Int) = a by omega] at this
  exact this
theorem ev_heldComplex {c : Int} {n : Nat} (hl : n ≤ 1048576) {a : Int} (ha : 0 ≤ a ∧ a ≤ 1073741824) : Ev (fun k => laws_heldComplex.f k c (marks n a) a) (a + (n : Int)) := by
  unfold laws_heldComplex.f
  exact Ev.bind (f := fun _ t => if t < 0 then some (-1) else some t) (ev_held hl ha) (by rw [if_neg (by omega)]; exact Ev.now _)
end Go.Proofs.Ytnmhnkpijjmhjaa.Pu
namespace Go.Proofs.Ytnmhnkpijjmhjaa.Pu
set_option linter.unusedVariables false
set_option linter.unusedSimpArgs false
open Go.RowKit Go.Proofs.Ytnmhnkpijjmhjaa.QS Go.Proofs.Ytnmhnkpijjmhjaa.Im Go.Proofs.YtnmhnkpijjmhjaaW.PrintWords Go.Proofs.YtnmhnkpijjmhjaaW.PrintLast Go.Proofs.YtnmhnkpijjmhjaaW.PrintMore
theorem in_eq (a b c : Int) : spec_l01In.f a b c = some (withinB a b c) := by
  unfold spec_l01In.f withinB
  by_cases h : a ≥ b
  · rw [if_pos h, decide_eq_true (show b ≤ a by omega)]; rfl
  · rw [if_neg h, decide_eq_false (show ¬ b ≤ a by omega)]; rfl
theorem all_eq {n : Int} (h1 : 1 ≤ n) (h6 : n ≤ 6) : spec_l01All.f n = some (fullZ n) := by
  obtain rfl | rfl | rfl | rfl | rfl | rfl : n = 1 ∨ n = 2 ∨ n = 3 ∨ n = 4 ∨ n = 5 ∨ n = 6 := by omega
  all_goals decide +kernel
theorem below_all : ((List.range 64).all fun f => f == 0 || spec_l01Below.f 70 (f : Int) == some (bordersL (f : Int))) = true := by decide +kernel
theorem ev_below {f : Int} (h1 : 1 ≤ f) (h2 : f ≤ 63) : Ev (fun k => spec_l01Below.f k f) (bordersL f) := by
  obtain ⟨m, rfl⟩ := Int.eq_ofNat_of_zero_le (show 0 ≤ f by omega)
  have h := List.all_eq_true.1 below_all m (List.mem_range.2 (by omega))
  have h0 : (m == 0) = false := by simp; omega
  rw [h0, Bool.false_or] at h
  exact Ev.of (fun k => spec_l01Below.mono _ k) (k := 70) (by simpa using h)
theorem has_loop (n x : Int) (l : List Int) (hl : l.length ≤ maxLen) : ∀ d (i : Nat) k, l.length - i = d → d < k → i ≤ l.length → spec_l01Has.l0 k x i n l = some (decide (x ∈ l.drop i)) := by
  simp only [maxLen] at hl
  intro d
  induction d with
  | zero =>
    intro i k hd hk hi
    obtain ⟨k, rfl⟩ : ∃ m, k = m + 1 := ⟨k - 1, by omega⟩
    simp only [spec_l01Has.l0]
    rw [if_neg (by omega), List.drop_eq_nil_of_le (by omega)]
    rfl
  | succ d ih =>
    intro i k hd hk hi
    obtain ⟨k, rfl⟩ : ∃ m, k = m + 1 := ⟨k - 1, by omega⟩
    simp only [spec_l01Has.l0]
    rw [if_pos (by omega), if_pos (by omega), rd_at (show i < l.length by omega), List.drop_eq_getElem_cons (show i < l.length by omega)]
    by_cases hx : l[i] = x
    · rw [if_pos hx, hx]; simp
    · rw [if_neg hx, w64 (by omega) (by omega)]
      have := ih (i + 1) k (by omega) (by omega) (by omega)
      rw [show ((i + 1 : Nat) : Int) = (i : Int) + 1 by omega] at this
      rw [this]
      exact congrArg some (decide_eq_decide.2 ⟨fun h => List.mem_cons.2 (Or.inr h), fun h => (List.mem_cons.1 h).resolve_left (Ne.symm hx)⟩)
theorem ev_has {l : List Int} (hl : l.length ≤ maxLen) (n x : Int) : Ev (fun k => spec_l01Has.f k n l x) (decide (x ∈ l)) := by
  refine ⟨l.length + 1, fun k hk => ?_⟩
  dsimp only
  unfold spec_l01Has.f
  have := has_loop n x l hl l.length 0 k (by omega) (by omega) (by omega)
  rwa [List.drop_zero] at this
theorem is_l2 (n : Int) (l b : List Int) (hl : l.length ≤ maxLen) (hb : b.length ≤ maxLen) (x4 : Int) (R : Bool) (hR : Ev (fun k => spec_l01Is.l1 k (wrap64 (x4 + 1)) n l) R) :
    ∀ d (j : Nat), b.length - j = d → j ≤ b.length → Ev (fun k => spec_l01Is.l2 k x4 b j n l) (((b.drop j).all fun y => decide (y ∈ l)) && R) := by
  simp only [maxLen] at hb
  intro d
  induction d with
  | zero =>
    intro j hd hj
    refine Ev.step (f := fun k => spec_l01Is.l1 k (wrap64 (x4 + 1)) n l) (fun k => ?_) ?_
    · simp only [spec_l01Is.l2]; rw [if_neg (by omega)]
    · rw [List.drop_eq_nil_of_le (by omega)]; exact hR
  | succ d ih =>
    intro j hd hj
    refine Ev.step (f := fun k => (spec_l01Has.f k n l b[j]).bind fun t => if t = true then spec_l01Is.l2 k x4 b ((j + 1 : Nat) : Int) n l else some false) (fun k => ?_) ?_
    · simp only [spec_l01Is.l2]
      rw [if_pos (by omega), if_pos (by omega), rd_at (show j < b.length by omega), w64 (by omega) (by omega), show ((j + 1 : Nat) : Int) = (j : Int) + 1 by omega]
    · refine Ev.bind (ev_has hl n b[j]) ?_
      rw [List.drop_eq_getElem_cons (show j < b.length by omega), List.all_cons]
      by_cases hm : b[j] ∈ l
      · rw [decide_eq_true hm]
        simp only [if_true, Bool.true_and]
        exact ih (j + 1) (by omega) (by omega)
      · rw [decide_eq_false hm]
        simp only [Bool.false_and]
        exact Ev.now _
theorem borders_len6 {f : Int} : (bordersL f).length ≤ 6 := by
  unfold bordersL
  refine Nat.le_trans (bordersOf_len _ _) ?_
  rw [upto_length]
  exact verts_len f
theorem is_l1 (n : Int) (l : List Int) (hl : l.length ≤ maxLen) (hr : ∀ x ∈ l, 1 ≤ x ∧ x ≤ 63) :
    ∀ d (i : Nat), l.length - i = d → i ≤ l.length → Ev (fun k => spec_l01Is.l1 k i n l) ((l.drop i).all fun f => (bordersL f).all fun y => decide (y ∈ l)) := by
  have hl' := hl
  simp only [maxLen] at hl'
  intro d
  induction d with
  | zero =>
    intro i hd hi
    refine Ev.step (f := fun k => some true) (fun k => ?_) ?_
    · simp only [spec_l01Is.l1]; rw [if_neg (by omega)]
    · rw [List.drop_eq_nil_of_le (by omega)]; exact Ev.now _
  | succ d ih =>
    intro i hd hi
    have hi' : i < l.length := by omega
    refine Ev.step (f := fun k => (spec_l01Below.f k l[i]).bind fun t => spec_l01Is.l2 k i t 0 n l) (fun k => ?_) ?_
    · simp only [spec_l01Is.l1]
      rw [if_pos (by omega), if_pos (by omega), rd_at hi']
    · have hx := hr l[i] (List.getElem_mem hi')
      refine Ev.bind (ev_below hx.1 hx.2) ?_
      have h1 := ih (i + 1) (by omega) (by omega)
      rw [show ((i + 1 : Nat) : Int) = wrap64 ((i : Int) + 1) by rw [w64 (by omega) (by omega)]; omega] at h1
      have h2 := is_l2 n l (bordersL l[i]) hl (by have := @borders_len6 l[i]; simp only [maxLen]; omega) i _ h1 _ 0 rfl (Nat.zero_le _)
      rw [List.drop_zero] at h2
      rw [List.drop_eq_getElem_cons hi', List.all_cons]
      exact h2
theorem is_l0 (n : Int) (h1 : 1 ≤ n) (h6 : n ≤ 6) (l : List Int) (hl : l.length ≤ maxLen) :
    ∀ d (i : Nat), l.length - i = d → i ≤ l.length → (∀ j, j < i → okAt n l j = true) → Ev (fun k => spec_l01Is.l0 k i n l) (ascB n l && closedB l) := by
  have hl' := hl
  simp only [maxLen] at hl'
  have hF := fullZ_le h1 h6
  intro d
  induction d with
  | zero =>
    intro i hd hi hj
    refine Ev.step (f := fun k => spec_l01Is.l1 k 0 n l) (fun k => ?_) ?_
    · simp only [spec_l01Is.l0]; rw [if_neg (by omega)]
    · have ha : ∀ j, j < l.length → okAt n l j = true := fun j h => hj j (by omega)
      rw [ascB_yes ha, Bool.true_and]
      have hr : ∀ x ∈ l, 1 ≤ x ∧ x ≤ 63 := by
        intro x hx
        obtain ⟨j, hj', rfl⟩ := List.mem_iff_getElem.1 hx
        have := ha j hj'
        simp only [okAt, withinB, Bool.and_eq_true, decide_eq_true_eq, List.getElem?_eq_getElem hj', Option.getD_some] at this
        omega
      have := is_l1 n l hl hr l.length 0 (by omega) (Nat.zero_le _)
      rw [List.drop_zero] at this
      exact this
  | succ d ih =>
    intro i hd hi hj
    have hi' : i < l.length := by omega
    refine Ev.step (f := fun k => if okAt n l i = true then spec_l01Is.l0 k ((i + 1 : Nat) : Int) n l else some false) (fun k => ?_) ?_
    · simp only [spec_l01Is.l0]
      rw [if_pos (by omega), if_pos (by omega), all_eq h1 h6]
      simp only [Option.bind_some, in_eq, rd_at hi']
      have hg : l[i]?.getD 0 = l[i] := by rw [List.getElem?_eq_getElem hi']; rfl
      unfold okAt
      rw [hg]
      rw [show wrap64 ((i : Int) + 1) = ((i + 1 : Nat) : Int) by rw [w64 (by omega) (by omega)]; omega]
      cases hw : withinB l[i] 1 (fullZ n) with
      | false => simp
      | true =>
        simp only [if_true, Bool.true_and]
        rcases Nat.eq_zero_or_pos i with hz | hz
        · subst hz; simp
        · have hp : l[i - 1]?.getD 0 = l[i - 1] := by rw [List.getElem?_eq_getElem (by omega)]; rfl
          have hb : (i == 0) = false := by simp; omega
          rw [if_pos (by omega), w64 (by omega) (by omega), if_pos (by omega), if_pos (by omega), hp, hb, Bool.false_or, show ((i : Int) - 1) = ((i - 1 : Nat) : Int) by omega, rd_at (show i - 1 < l.length by omega)]
          by_cases hle : l[i] ≤ l[i - 1]
          · rw [if_pos hle, decide_eq_false (by omega)]; simp
          · rw [if_neg hle, decide_eq_true (by omega)]; simp
    · cases ho : okAt n l i with
      | true =>
        simp only [if_true]
        exact ih (i + 1) (by omega) (by omega) (okAt_next hj ho)
      | false =>
        rw [ascB_no hi' ho]
        simp only [Bool.false_and]
        exact Ev.now _
/-- IsComplex, the reference's. -/
theorem ev_is (n : Int) {l : List Int} (hl : l.length ≤ maxLen) : Ev (fun k => spec_l01Is.f k n l) (isC n l) := by
  unfold spec_l01Is.f isC
  simp only [in_eq, Option.bind_some]
  cases hw : withinB n 1 6 with
  | false => simp only [Bool.false_and]; exact Ev.now _
  | true =>
    simp only [if_true, Bool.true_and]
    have hn : 1 ≤ n ∧ n ≤ 6 := by simpa [withinB] using hw
    exact is_l0 n hn.1 hn.2 l hl l.length 0 (by omega) (Nat.zero_le _) (fun j hj => absurd hj (Nat.not_lt_zero _))
end Go.Proofs.Ytnmhnkpijjmhjaa.Pu
namespace Go.Proofs.Ytnmhnkpijjmhjaa.QS
open Go.Proofs.Ytnmhnkpijjmhjaa.Cw Go.Proofs.Ytnmhnkpijjmhjaa.Kp Go.Proofs.Ytnmhnkpijjmhjaa.Ext Go.RowKit Go.Proofs.YtnmhnkpijjmhjaaW.PrintWords Go.Proofs.YtnmhnkpijjmhjaaW.PrintLast Go.Proofs.YtnmhnkpijjmhjaaW.PrintMore
attribute [local go_sem] max2_int min2_int max_two min_two max_three min_three max_four min_four   -- for this text's walks alone
set_option linter.unusedVariables false
set_option linter.unusedSimpArgs false
end Go.Proofs.Ytnmhnkpijjmhjaa.QS
namespace Go.Proofs.Ytnmhnkpijjmhjaa.Pu
set_option linter.unusedVariables false
set_option linter.unusedSimpArgs false
open Go.RowKit Go.Proofs.Ytnmhnkpijjmhjaa.QS Go.Proofs.Ytnmhnkpijjmhjaa.Im Go.Proofs.YtnmhnkpijjmhjaaW.PrintWords Go.Proofs.YtnmhnkpijjmhjaaW.PrintLast Go.Proofs.YtnmhnkpijjmhjaaW.PrintMore
def freeR : Int → List Int → Int
  | q, [] => q
  | q, y :: r => if q > 0 then 0 else freeR y r
theorem free_loop (n v : Int) (l : List Int) (hl : l.length ≤ 64) : ∀ d (i : Nat) (q : Int), l.length - i = d → i ≤ l.length →
    Ev (fun k => spec_l05Free.l0 k v q i n l) (freeR q ((l.drop i).filter (upP v))) := by
  intro d
  induction d with
  | zero =>
    intro i q hd hi
    rw [List.drop_eq_nil_of_le (by omega), List.filter_nil]
    refine Ev.step (f := fun k => some q) (fun k => ?_) (Ev.now _)
    simp only [spec_l05Free.l0]; rw [if_neg (by omega)]
  | succ d ih =>
    intro i q hd hi
    have hi' : i < l.length := by omega
    have hn := ih (i + 1)
    rw [List.drop_eq_getElem_cons hi']
    have hw : wrap64 ((i : Int) + 1) = ((i + 1 : Nat) : Int) := by rw [w64 (by omega) (by omega)]; omega
    have h0 : Ev (fun k => spec_l05Free.j1 k v q i (upP v l[i]) n l) (freeR q ((l[i] :: l.drop (i + 1)).filter (upP v))) := by
      cases hu : upP v l[i] with
      | false =>
        rw [List.filter_cons_of_neg (by simp [hu])]
        refine Ev.step (f := fun k => spec_l05Free.l0 k v q ((i + 1 : Nat) : Int) n l) (fun k => ?_) (hn q (by omega) (by omega))
        simp only [spec_l05Free.j1]; rw [hw]; rfl
      | true =>
        rw [List.filter_cons_of_pos (by simp [hu]), freeR]
        by_cases hq : q > 0
        · rw [if_pos hq]
          refine Ev.step (f := fun k => some 0) (fun k => ?_) (Ev.now _)
          simp only [spec_l05Free.j1]; rw [if_pos trivial, if_pos hq]
        · rw [if_neg hq]
          refine Ev.step (f := fun k => spec_l05Free.l0 k v l[i] ((i + 1 : Nat) : Int) n l) (fun k => ?_) (hn l[i] (by omega) (by omega))
          simp only [spec_l05Free.j1]; rw [if_pos trivial, if_neg hq, if_pos (by omega), if_pos (by omega), rd_at hi', hw]
    refine Ev.step (f := fun k => spec_l05Free.j1 k v q i (upP v l[i]) n l) (fun k => ?_) h0
    simp only [spec_l05Free.l0]
    rw [if_pos (by omega), if_pos (by omega), rd_at hi']
    unfold upP
    by_cases hc : Go.bits .and .i64 l[i] v = v
    · rw [if_pos hc, hc]; first | rfl | simp
    · rw [if_neg hc, show (Go.bits .and .i64 l[i] v == v) = false from beq_eq_false_iff_ne.2 hc]; rfl
theorem ev_free {n v : Int} {l : List Int} (h : isC n l = true) (hv : v ∈ l) : Ev (fun k => spec_l05Free.f k n l v) (freeR 0 (aroundL l v)) := by
  have := free_loop n v l (isC_len h) _ 0 0 rfl (Nat.zero_le _)
  rw [List.drop_zero, ← around_up h hv] at this
  exact this
theorem freeR_one {M : List Int} (hp : ∀ x ∈ M, 0 < x) : freeR 0 M = if (M.length : Int) = 1 then M[0]?.getD 0 else 0 := by
  match M, hp with
  | [], _ => rfl
  | [y], _ => rfl
  | y :: z :: r, hp =>
    have := hp y (by simp)
    simp only [freeR, List.length_cons]
    rw [if_neg (by omega), if_pos this, if_neg (by omega)]
theorem around_pos {n v : Int} {l : List Int} (h : isC n l = true) : ∀ x ∈ aroundL l v, 0 < x := fun x hx => by
  have := isC_range h x (List.mem_filter.1 hx).1
  omega
end Go.Proofs.Ytnmhnkpijjmhjaa.Pu
namespace Go.Proofs.Ytnmhnkpijjmhjaa.Pu
set_option linter.unusedVariables false
set_option linter.unusedSimpArgs false
open Go.RowKit Go.Proofs.Ytnmhnkpijjmhjaa.QS Go.Proofs.Ytnmhnkpijjmhjaa.Im Go.Proofs.YtnmhnkpijjmhjaaW.PrintWords Go.Proofs.YtnmhnkpijjmhjaaW.PrintLast Go.Proofs.YtnmhnkpijjmhjaaW.PrintMore
theorem take_loop (n c : Int) (l : List Int) (hl : l.length ≤ 64) : ∀ d (i : Nat) (acc : List Int), l.length - i = d → i ≤ l.length → acc.length ≤ 100000 + i →
    Ev (fun k => spec_l01Take.l0 k c i n l n acc) (n, acc ++ (l.drop i).filter (outP c)) := by
  intro d
  induction d with
  | zero =>
    intro i acc hd hi ha
    rw [List.drop_eq_nil_of_le (by omega), List.filter_nil, List.append_nil]
    refine Ev.step (f := fun k => some (n, acc)) (fun k => ?_) (Ev.now _)
    simp only [spec_l01Take.l0]; rw [if_neg (by omega)]
  | succ d ih =>
    intro i acc hd hi ha
    have hi' : i < l.length := by omega
    rw [List.drop_eq_getElem_cons hi']
    by_cases hc : Go.bits .and .i64 l[i] c = c
    · refine Ev.step (f := fun k => spec_l01Take.l0 k c ((i + 1 : Nat) : Int) n l n acc) (fun k => ?_) ?_
      · simp only [spec_l01Take.l0]
        rw [if_pos (by omega), if_pos (by omega), rd_at hi', if_pos hc, w64 (by omega) (by omega), show ((i + 1 : Nat) : Int) = (i : Int) + 1 by omega]
      · rw [List.filter_cons_of_neg (by simp [outP, hc])]
        exact ih (i + 1) acc (by omega) (by omega) (by omega)
    · refine Ev.step (f := fun k => spec_l01Take.l0 k c ((i + 1 : Nat) : Int) n l n (acc ++ [l[i]])) (fun k => ?_) ?_
      · simp only [spec_l01Take.l0]
        rw [if_pos (by omega), if_pos (by omega), rd_at hi', if_neg hc, if_pos (by omega), w64 (by omega) (by omega), show ((i + 1 : Nat) : Int) = (i : Int) + 1 by omega]
      · rw [List.filter_cons_of_pos (by simp [outP, hc])]
        have := ih (i + 1) (acc ++ [l[i]]) (by omega) (by omega) (by rw [List.length_append]; simp; omega)
        rw [List.append_assoc] at this
        exact this
theorem ev_take {n : Int} {l : List Int} (h : isC n l = true) (c : Int) : Ev (fun k => spec_l01Take.f k n l c) (n, partL n l (outP c)) := by
  have := take_loop n c l (isC_len h) _ 0 [] rfl (Nat.zero_le _) (by simp)
  rw [List.drop_zero, List.nil_append] at this
  rw [partL_eq h]
  exact this
end Go.Proofs.Ytnmhnkpijjmhjaa.Pu
namespace Go.Proofs.Ytnmhnkpijjmhjaa.Pu
set_option linter.unusedVariables false
set_option linter.unusedSimpArgs false
open Go.RowKit Go.Proofs.Ytnmhnkpijjmhjaa.Kp Go.Proofs.Ytnmhnkpijjmhjaa.QS Go.Proofs.Ytnmhnkpijjmhjaa.Im Go.Proofs.YtnmhnkpijjmhjaaW.PrintWords Go.Proofs.YtnmhnkpijjmhjaaW.PrintLast Go.Proofs.YtnmhnkpijjmhjaaW.PrintMore
def firstR (o : Option Pr) : Int × Int × Bool := match o with
  | none => (0, 0, false)
  | some q => (q.f0, q.f1, true)
theorem first_loop {n : Int} {l : List Int} (hi : isC n l = true) (m : Int) {ll : List Int} (hl : ll.length ≤ maxLen) : ∀ d (i : Nat), l.length - i = d → i ≤ l.length →
    Ev (fun k => spec_l05First.l0 k i n l m ll) (firstR (((l.drop i).filterMap (onePr l)).find? (keepQ ll))) := by
  have hs := isC_len hi
  intro d
  induction d with
  | zero =>
    intro i hd hil
    rw [List.drop_eq_nil_of_le (by omega), List.filterMap_nil, List.find?_nil]
    refine Ev.step (f := fun k => some (0, 0, false)) (fun k => ?_) (Ev.now _)
    simp only [spec_l05First.l0]; rw [if_neg (by omega)]
  | succ d ih =>
    intro i hd hil
    have hi' : i < l.length := by omega
    have hw : wrap64 ((i : Int) + 1) = ((i + 1 : Nat) : Int) := by rw [w64 (by omega) (by omega)]; omega
    have hn := ih (i + 1) (by omega) (by omega)
    rw [List.drop_eq_getElem_cons hi']
    have hf := ev_free hi (List.getElem_mem hi')
    rw [freeR_one (around_pos hi)] at hf
    have hpos := around_pos hi (v := l[i])
    refine Ev.step (fun k => ?_) (Ev.bind (f := fun k t => if t > 0 then ((spec_l01Has.f k m ll l[i]).bind fun t379 => (if t379 = true then (spec_l05First.l0 k ((i + 1 : Nat) : Int) n l m ll) else ((spec_l01Has.f k m ll t).bind fun t380 => (if t380 = true then (spec_l05First.l0 k ((i + 1 : Nat) : Int) n l m ll) else (some (l[i], t, true)))))) else spec_l05First.l0 k ((i + 1 : Nat) : Int) n l m ll) hf ?_)
    · simp only [spec_l05First.l0]
      rw [if_pos (by omega), if_pos (by omega), rd_at hi', hw]
    · by_cases h1 : ((aroundL l l[i]).length : Int) = 1
      · have hg : rd (aroundL l l[i]) 0 = (aroundL l l[i])[0]?.getD 0 := by simp [rd, List.getD_eq_getElem?_getD]
        have hp : (aroundL l l[i])[0]?.getD 0 > 0 := by
          have hl0 : 0 < (aroundL l l[i]).length := by omega
          rw [List.getElem?_eq_getElem hl0]
          exact hpos _ (List.getElem_mem hl0)
        obtain ⟨g, hgg⟩ : ∃ g, (aroundL l l[i])[0]?.getD 0 = g := ⟨_, rfl⟩
        rw [hgg] at hg hp ⊢
        have he : onePr l l[i] = some ⟨l[i], g⟩ := by rw [onePr, if_pos h1, hg]
        rw [List.filterMap_cons_some he, if_pos h1]
        simp only [if_pos hp]
        refine Ev.bind (ev_has hl m l[i]) ?_
        by_cases h2 : l[i] ∈ ll
        · rw [List.find?_cons_of_neg (by simp [keepQ, h2])]
          simp only [h2, decide_true, if_true]
          exact hn
        · simp only [h2, decide_false, Bool.false_eq_true, if_false]
          refine Ev.bind (ev_has hl m g) ?_
          by_cases h3 : g ∈ ll
          · rw [List.find?_cons_of_neg (by simp [keepQ, h3])]
            simp only [h3, decide_true, if_true]
            exact hn
          · rw [List.find?_cons_of_pos (by simp [keepQ, h2, h3])]
            simp only [h3, decide_false, Bool.false_eq_true, if_false, firstR]
            exact Ev.now _
      · have he : onePr l l[i] = none := by rw [onePr, if_neg h1]
        rw [List.filterMap_cons_none he, if_neg h1]
        simp only [show ¬ ((0 : Int) > 0) by omega, if_false]
        exact hn
theorem ev_first {n : Int} {l : List Int} (hi : isC n l = true) (m : Int) {ll : List Int} (hl : ll.length ≤ maxLen) : Ev (fun k => spec_l05First.f k n l m ll) (firstR ((freeL l).find? (keepQ ll))) := by
  have := first_loop hi m hl _ 0 rfl (Nat.zero_le _)
  rw [List.drop_zero] at this
  exact this
theorem colR_loop (n m : Int) {ll : List Int} (hl : ll.length ≤ maxLen) : ∀ d (xs : List Int) (acc : List Pr), isC n xs = true → xs.length ≤ d → acc.length + xs.length ≤ 1000 →
    Ev (fun k => spec_l05Collapse.l0 k acc n xs m ll) (n, (colG (keepQ ll) n (d + 1) xs acc).1, (colG (keepQ ll) n (d + 1) xs acc).2) := by
  intro d
  induction d with
  | zero =>
    intro xs acc hi hd ha
    obtain rfl : xs = [] := List.eq_nil_of_length_eq_zero (by omega)
    refine Ev.step (fun k => ?_) (Ev.bind (f := fun k (t : Int × Int × Bool) => if t.2.2 = true then ((spec_l01Take.f k n [] t.1).bind fun bt395 => (if acc.length < 8796093022208 then (spec_l05Collapse.l0 k (acc ++ [⟨t.1, t.2.1⟩]) bt395.1 bt395.2 m ll) else none)) else some (n, [], acc)) (ev_first hi m hl) ?_)
    · simp only [spec_l05Collapse.l0]
    · exact Ev.now _
  | succ d ih =>
    intro xs acc hi hd ha
    refine Ev.step (fun k => ?_) (Ev.bind (f := fun k (t : Int × Int × Bool) => if t.2.2 = true then ((spec_l01Take.f k n xs t.1).bind fun bt395 => (if acc.length < 8796093022208 then (spec_l05Collapse.l0 k (acc ++ [⟨t.1, t.2.1⟩]) bt395.1 bt395.2 m ll) else none)) else some (n, xs, acc)) (ev_first hi m hl) ?_)
    · simp only [spec_l05Collapse.l0]
    · rw [colG]
      cases hq : (freeL xs).find? (keepQ ll) with
      | none => exact Ev.now _
      | some q =>
        obtain ⟨c1, c2, c3⟩ := col_step hi (List.mem_of_find?_eq_some hq)
        simp only [firstR, if_true]
        refine Ev.bind (ev_take hi q.f0) ?_
        rw [← c1]
        simp only [if_pos (show acc.length < 8796093022208 by omega)]
        exact ih _ (acc ++ [q]) c2 (by omega) (by simp; omega)
theorem ev_copy (n : Int) {l : List Int} (h : l.length ≤ 1048576) : spec_l01Copy.f n l = some (n, l) := by
  unfold spec_l01Copy.f spec_l01Own.f
  simp only [Option.bind_some, List.length_nil, List.nil_append]
  rw [if_pos (by omega)]
  rfl
theorem ev_collapseR {n : Int} {l : List Int} (hi : isC n l = true) (m : Int) {ll : List Int} (hl : ll.length ≤ maxLen) :
    Ev (fun k => spec_l05Collapse.f k n l m ll) (n, (colG (keepQ ll) n (l.length + 1) l []).1, (colG (keepQ ll) n (l.length + 1) l []).2) := by
  have hs := isC_len hi
  unfold spec_l05Collapse.f
  rw [ev_copy n (by omega)]
  exact colR_loop n m hl _ l [] hi (Nat.le_refl _) (by simp; omega)
theorem colG_bound (p : Pr → Bool) (n : Int) : ∀ d (xs : List Int) (acc : List Pr), isC n xs = true → (colG p n d xs acc).1.length ≤ xs.length ∧ (colG p n d xs acc).2.length ≤ acc.length + xs.length := by
  intro d
  induction d with
  | zero => intro xs acc _; exact ⟨Nat.le_refl _, Nat.le_add_right _ _⟩
  | succ d ih =>
    intro xs acc hi
    rw [colG]
    cases hq : (freeL xs).find? p with
    | none => exact ⟨Nat.le_refl _, Nat.le_add_right _ _⟩
    | some q =>
      obtain ⟨_, c2, c3⟩ := col_step hi (List.mem_of_find?_eq_some hq)
      obtain ⟨h1, h2⟩ := ih _ (acc ++ [q]) c2
      simp only [List.length_append, List.length_cons, List.length_nil] at h2
      show (colG p n d (partL n xs (offP [q.f0, q.f1])) (acc ++ [q])).1.length ≤ xs.length ∧ (colG p n d (partL n xs (offP [q.f0, q.f1])) (acc ++ [q])).2.length ≤ acc.length + xs.length
      exact ⟨by omega, by omega⟩
theorem colG_len (p : Pr → Bool) (n : Int) {l : List Int} (hi : isC n l = true) : (colG p n (l.length + 1) l []).1.length ≤ 1048576 ∧ (colG p n (l.length + 1) l []).2.length ≤ 1048576 := by
  obtain ⟨h1, h2⟩ := colG_bound p n (l.length + 1) l [] hi
  have := isC_len hi
  simp only [List.length_nil] at h2
  exact ⟨by omega, by omega⟩
end Go.Proofs.Ytnmhnkpijjmhjaa.Pu
namespace Go.Proofs.Ytnmhnkpijjmhjaa.Pu
set_option linter.unusedVariables false
set_option linter.unusedSimpArgs false
open Go.RowKit Go.Proofs.Ytnmhnkpijjmhjaa.Kp Go.Proofs.Ytnmhnkpijjmhjaa.Ext Go.Proofs.Ytnmhnkpijjmhjaa.QS Go.Proofs.YtnmhnkpijjmhjaaW.PrintWords Go.Proofs.YtnmhnkpijjmhjaaW.PrintLast Go.Proofs.YtnmhnkpijjmhjaaW.PrintMore
theorem eqPair_loop (l : List Pr) (hl : l.length ≤ 1048576) : ∀ d (i : Nat), l.length - i = d → i ≤ l.length → Ev (fun k => laws_eqPairS.l0 k l l i) true := by
  intro d
  induction d with
  | zero =>
    intro i hd hi
    refine Ev.step (f := fun k => some true) (fun k => ?_) (Ev.now _)
    simp only [laws_eqPairS.l0]; rw [if_neg (by omega)]
  | succ d ih =>
    intro i hd hi
    refine Ev.step (fun k => ?_) (ih (i + 1) (by omega) (by omega))
    simp only [laws_eqPairS.l0]
    rw [if_pos (by omega), if_pos (by omega), if_pos (by omega), show wrap64 ((i : Int) + 1) = ((i + 1 : Nat) : Int) by rw [w64 (by omega) (by omega)]; omega]
    simp [laws_eqPair.f]
theorem ev_eqPairs {l : List Pr} (hl : l.length ≤ 1048576) : Ev (fun k => laws_eqPairS.f k l l) true := by
  unfold laws_eqPairS.f
  simp only [if_true]
  exact eqPair_loop l hl _ 0 rfl (Nat.zero_le _)
theorem markL_len (n : Nat) (a : Int) : (markL n a).length = n := by simp [markL]
theorem ev_markPairs {l : List Pr} {a : Int} (hl : l.length ≤ 1048576) (ha : 0 ≤ a ∧ a ≤ 1073741824) : Ev (fun _ => laws_markPairS.f l a) (a + 2 * (l.length : Int), markL l.length a) := by
  unfold laws_markPairS.f
  rw [if_pos ⟨ha.1, ha.2, by omega⟩]
  exact Ev.now _
theorem held_markL (n : Nat) (a : Int) : heldPr (markL n a) a = a + 2 * (n : Int) := by
  rw [heldPr_yes, markL_len]
  intro i hi
  rw [markL_len] at hi
  simp [okPr, markL, markAt, hi, List.getD_eq_getElem?_getD]
theorem ev_heldPairs {n : Nat} {a : Int} (hl : n ≤ 1048576) (ha : 0 ≤ a ∧ a ≤ 1073741824) : Ev (fun _ => laws_heldPairS.f (markL n a) a) (a + 2 * (n : Int)) := by
  unfold laws_heldPairS.f
  rw [if_pos ⟨ha.1, ha.2, by rw [markL_len]; omega⟩, held_markL]
  exact Ev.now _
end Go.Proofs.Ytnmhnkpijjmhjaa.Pu
namespace Go.Proofs.Ytnmhnkpijjmhjaa.Pu
set_option linter.unusedVariables false
set_option linter.unusedSimpArgs false
open Go.RowKit Go.Proofs.Ytnmhnkpijjmhjaa.Kp Go.Proofs.Ytnmhnkpijjmhjaa.QS Go.Proofs.Ytnmhnkpijjmhjaa.Im Go.Proofs.Ytnmhnkpijjmhjaa.Ext Go.Proofs.Ytnmhnkpijjmhjaa.QFnExactCollapseKeeping Go.Proofs.YtnmhnkpijjmhjaaW.PrintWords Go.Proofs.YtnmhnkpijjmhjaaW.PrintLast Go.Proofs.YtnmhnkpijjmhjaaW.PrintMore
theorem keep_l0 {n : Int} {l : List Int} (hi : isC n l = true) (hl : l.length ≤ maxLen) (m : Int) {ll : List Int} (hs : ll.length ≤ 64) (hll : ll.length ≤ maxLen) : ∀ d (i : Nat) (b : Bool), ll.length - i = d → i ≤ ll.length →
    Ev (fun k => spec_CollapseKeeping.l0 k b i n l m ll) (if (b && (ll.drop i).all fun x => decide (x ∈ l)) = true then (n, (colG (keepQ ll) n (l.length + 1) l []).1, (colG (keepQ ll) n (l.length + 1) l []).2, 0) else (0, [], [], 5)) := by
  intro d
  induction d with
  | zero =>
    intro i b hd hil
    rw [List.drop_eq_nil_of_le (by omega), List.all_nil, Bool.and_true]
    refine Ev.step (f := fun k => if b = true then ((spec_l05Collapse.f k n l m ll).bind fun bt228 => (some (bt228.1, bt228.2.1, bt228.2.2, (0 : Int)))) else some (0, [], [], 5)) (fun k => ?_) ?_
    · simp only [spec_CollapseKeeping.l0]; rw [if_neg (by omega)]
    · cases b with
      | false => exact Ev.now _
      | true => exact Ev.bind (ev_collapseR hi m hll) (Ev.now _)
  | succ d ih =>
    intro i b hd hil
    have hi' : i < ll.length := by omega
    have hw : wrap64 ((i : Int) + 1) = ((i + 1 : Nat) : Int) := by rw [w64 (by omega) (by omega)]; omega
    rw [List.drop_eq_getElem_cons hi', List.all_cons]
    cases b with
    | false =>
      have := ih (i + 1) false (by omega) (by omega)
      simp only [Bool.false_and] at this ⊢
      refine Ev.step (fun k => ?_) this
      simp only [spec_CollapseKeeping.l0]
      rw [if_pos (by omega), if_neg (by simp), hw]
    | true =>
      simp only [Bool.true_and]
      refine Ev.step (fun k => ?_) (Ev.bind (f := fun k t => spec_CollapseKeeping.l0 k t ((i + 1 : Nat) : Int) n l m ll) (ev_has hl n ll[i]) (ih (i + 1) _ (by omega) (by omega)))
      simp only [spec_CollapseKeeping.l0]
      rw [if_pos (by omega), if_pos trivial, if_pos (by omega), rd_at hi', hw]
theorem ev_spec (n : Int) (m : Int) {l : List Int} (hl : l.length ≤ maxLen) {ll : List Int} (hll : ll.length ≤ maxLen) : Ev (fun k => spec_CollapseKeeping.f k n l m ll) (keepF n l m ll) := by
  unfold spec_CollapseKeeping.f
  refine Ev.bind (ev_is n hl) ?_
  unfold keepF
  cases hi : isC n l with
  | false =>
    simp only [Bool.false_eq_true, if_false, Bool.false_and]
    refine Ev.step (f := fun k => some (0, [], [], 1)) (fun k => ?_) (Ev.now _)
    simp only [spec_CollapseKeeping.j0, if_true]
  | true =>
    simp only [if_true, Bool.true_and]
    refine Ev.bind (ev_is m hll) ?_
    cases hi1 : isC m ll with
    | false =>
      simp only [Bool.not_false, Bool.false_eq_true, if_false]
      refine Ev.step (f := fun k => some (0, [], [], 1)) (fun k => ?_) (Ev.now _)
      simp only [spec_CollapseKeeping.j0, if_true]
    | true =>
      simp only [Bool.not_true, if_true]
      refine Ev.step (fun k => spec_CollapseKeeping.j0.eq_2 ..) ?_
      simp only [Bool.false_eq_true, if_false]
      have := keep_l0 hi hl m (isC_len hi1) hll _ 0 (n == m) rfl (Nat.zero_le _)
      rw [List.drop_zero] at this
      rw [show (m == n) = (n == m) from BEq.comm]
      exact this
theorem pure_len (n : Int) (l : List Int) (m : Int) (ll : List Int) : (keepF n l m ll).2.1.length ≤ 1048576 ∧ (keepF n l m ll).2.2.1.length ≤ 1048576 := by
  unfold keepF
  split
  · rename_i hi
    split
    · exact colG_len _ n (Bool.and_eq_true _ _ ▸ hi).1
    · simp
  · simp
theorem FnExactCollapseKeeping (n0 : Int) (l0 : List Int) (_ : (Lit.int .i64 n0).wf = true) (hm0 : l0.length ≤ maxLen) (_ : ∀ x ∈ l0, (Lit.int .i64 x).wf = true) (n1 : Int) (l1 : List Int) (_ : (Lit.int .i64 n1).wf = true) (hm1 : l1.length ≤ maxLen) (_ : ∀ x ∈ l1, (Lit.int .i64 x).wf = true) : ∃ k, laws_FnExactCollapseKeeping.f k n0 l0 n1 l1 = some true := by
  apply Ev.rounds
  unfold laws_FnExactCollapseKeeping.f
  by_cases hb0 : (1048576 : Int) < (l0.length : Int)
  · simp only [sz_cx hm0 (show (0 : Int) ≤ (1048576 : Int) by omega) (show (1048576 : Int) ≤ 1048576 by omega), Option.bind_some, if_pos hb0, show ((-1 : Int) < 0) = True by simp, if_true]
    exact Ev.now _
  simp only [sz_cx hm0 (show (0 : Int) ≤ (1048576 : Int) by omega) (show (1048576 : Int) ≤ 1048576 by omega), Option.bind_some, if_neg hb0, if_neg (show ¬ ((1048576 : Int) - (l0.length : Int) < 0) by omega)]
  by_cases hb1 : ((1048576 : Int) - (l0.length : Int)) < (l1.length : Int)
  · simp only [sz_cx hm1 (show (0 : Int) ≤ ((1048576 : Int) - (l0.length : Int)) by omega) (show ((1048576 : Int) - (l0.length : Int)) ≤ 1048576 by omega), Option.bind_some, if_pos hb1, show ((-1 : Int) < 0) = True by simp, if_true]
    exact Ev.now _
  simp only [sz_cx hm1 (show (0 : Int) ≤ ((1048576 : Int) - (l0.length : Int)) by omega) (show ((1048576 : Int) - (l0.length : Int)) ≤ 1048576 by omega), Option.bind_some, if_neg hb1, if_neg (show ¬ (((1048576 : Int) - (l0.length : Int)) - (l1.length : Int) < 0) by omega)]
  have hl0 : l0.length ≤ 1048576 := by omega
  have hl1 : l1.length ≤ 1048576 := by omega
  have hS := ev_spec n0 n1 hm0 hm1
  have hI : impl_CollapseKeeping.f n0 l0 n1 l1 = some (keepF n0 l0 n1 l1) := by unfold impl_CollapseKeeping.f; rw [if_pos (by first | omega | exact ⟨by omega, by omega⟩)]
  have hR := pure_len n0 l0 n1 l1
  generalize keepF n0 l0 n1 l1 = D at hS hI hR
  obtain ⟨r1, r2, r3, r4⟩ := D
  simp only at hR
  obtain ⟨hR0, hR1⟩ := hR
  have hca0 : 0 ≤ (1 : Int) ∧ (1 : Int) ≤ 1073741824 := by omega
  have hca1 : 0 ≤ 1 + (l0.length : Int) ∧ 1 + (l0.length : Int) ≤ 1073741824 := by omega
  have hna1 : ¬ (1 + (l0.length : Int) < 0) := by omega
  have hca2 : 0 ≤ 1 + (l0.length : Int) + (l1.length : Int) ∧ 1 + (l0.length : Int) + (l1.length : Int) ≤ 1073741824 := by omega
  have hna2 : ¬ (1 + (l0.length : Int) + (l1.length : Int) < 0) := by omega
  have hco0 : 0 ≤ (1 : Int) ∧ (1 : Int) ≤ 1073741824 := by omega
  have hco1 : 0 ≤ 1 + (r2.length : Int) ∧ 1 + (r2.length : Int) ≤ 1073741824 := by omega
  have hno1 : ¬ (1 + (r2.length : Int) < 0) := by omega
  have hco2 : 0 ≤ 1 + (r2.length : Int) + 2 * (r3.length : Int) ∧ 1 + (r2.length : Int) + 2 * (r3.length : Int) ≤ 1073741824 := by omega
  have hno2 : ¬ (1 + (r2.length : Int) + 2 * (r3.length : Int) < 0) := by omega
  repeat (first
      | (exact Ev.now _)
      | (refine Ev.bind (ev_toComplex hl0) ?_)
      | (refine Ev.bind (ev_toComplex hl1) ?_)
      | (refine Ev.bind hS ?_)
      | (refine Ev.bind (ev_eqComplex hR0) ?_)
      | (refine Ev.bind (ev_eqPairs hR1) ?_)
      | (refine Ev.bind (ev_eqComplex hl0) ?_)
      | (refine Ev.bind (ev_eqComplex hl1) ?_)
      | (refine Ev.bind (ev_markComplex hl0 hca0) ?_)
      | (refine Ev.bind (ev_markComplex hl1 hca1) ?_)
      | (refine Ev.bind (ev_markComplex hR0 hco0) ?_)
      | (refine Ev.bind (ev_markPairs hR1 hco1) ?_)
      | (refine Ev.bind (ev_heldComplex hR0 hco0) ?_)
      | (refine Ev.bind (ev_heldPairs hR1 hco1) ?_)
      | (simp only [hI, Option.bind_some, if_true, bne_self_eq_false, Bool.false_eq_true, if_false, if_neg hna1, if_neg hna2, if_neg hno1, if_neg hno2]))
end Go.Proofs.Ytnmhnkpijjmhjaa.Pu
