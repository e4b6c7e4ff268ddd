import Derived.Test.YtdkoioiiacljeaaZsFnExactFreePairs
import Derived.Test.YtdkoioiiacljeaaQSflawseqComplex
import Derived.Test.YtdkoioiiacljeaaQSfl01Is
import Derived.Test.YtdkoioiiacljeaaImI
import Derived.Test.YtdkoioiiacljeaaImN
import Derived.Test.YtdkoioiiacljeaaQSfl05Free
import Derived.Test.YtdkoioiiacljeaaPaA
import Derived.Test.YtdkoioiiacljeaaQSfFreePairs
import Derived.Test.YtdkoioiiacljeaaExFreePairs
import Derived.Test.YtdkoioiiacljeaaQFnExactFreePairsx2
/- Plain: the laws' helpers. -/
namespace Go.Proofs.Ytdkoioiiacljeaa.Pu
set_option linter.unusedVariables false
set_option linter.unusedSimpArgs false
open Go.RowKit Go.Proofs.Ytdkoioiiacljeaa.QS Go.Proofs.YtdkoioiiacljeaaW.PrintWords Go.Proofs.YtdkoioiiacljeaaW.PrintLast Go.Proofs.YtdkoioiiacljeaaW.PrintMore

theorem w64 {x : Int} (h1 : -9223372036854775808 ≤ x) (h2 : x ≤ 9223372036854775807) : wrap64 x = x := by unfold wrap64; omega
theorem rd_at {l : List Int} {i : Nat} (h : i < l.length) : rd l (i : Int) = l[i] := by simp [rd, List.getD_eq_getElem?_getD, List.getElem?_eq_getElem h]

theorem sz_big {n : Int} {l : List Int} (hm : l.length ≤ maxLen) (h : 1048576 < l.length) : laws_szComplex.f n l 1048576 = some (-1) := by
  unfold laws_szComplex.f laws_szInt64S.f
  simp only [maxLen] at hm
  rw [w64 (by omega) (by omega), if_pos (by omega)]
  rfl
theorem sz_ok {n : Int} {l : List Int} (h : l.length ≤ 1048576) : ∃ t, laws_szComplex.f n l 1048576 = some t ∧ ¬ t < 0 := by
  unfold laws_szComplex.f laws_szInt64S.f
  rw [w64 (by omega) (by omega), if_neg (by omega)]
  refine ⟨1048576 - l.length, ?_, by omega⟩
  simp only [Option.bind_some]
  rw [if_neg (by omega)]

theorem toInt_loop (l : List Int) (hl : l.length ≤ 1048576) : ∀ d (i : Nat) (x3 : List Int) k, l.length - i = d → d < k → i ≤ l.length → x3.length = l.length → (∀ j, j < i → x3[j]? = l[j]?) → laws_toInt64S.l0 k l x3 i = some l := by
  intro d
  induction d with
  | zero =>
    intro i x3 k hd hk hi hx hj
    obtain ⟨k, rfl⟩ : ∃ m, k = m + 1 := ⟨k - 1, by omega⟩
    simp only [laws_toInt64S.l0]
    rw [if_neg (by omega)]
    congr 1
    apply List.ext_getElem?
    intro j
    rcases Nat.lt_or_ge j i with h | h
    · exact hj j h
    · rw [List.getElem?_eq_none (by omega), List.getElem?_eq_none (by omega)]
  | succ d ih =>
    intro i x3 k hd hk hi hx hj
    obtain ⟨k, rfl⟩ : ∃ m, k = m + 1 := ⟨k - 1, by omega⟩
    simp only [laws_toInt64S.l0]
    rw [if_pos (by omega), if_pos (by omega), if_pos (by omega), w64 (by omega) (by omega)]
    refine ih (i + 1) _ k (by omega) (by omega) (by omega) (by simpa using hx) (fun j hji => ?_)
    rw [Int.toNat_natCast, List.getElem?_set]
    split
    · rename_i h
      subst h
      rw [if_pos (by omega), rd_at (by omega), List.getElem?_eq_getElem (by omega)]
    · exact hj j (by omega)
theorem ev_toInt {l : List Int} (hl : l.length ≤ 1048576) : Ev (fun k => laws_toInt64S.f k l) l := by
  refine ⟨l.length + 1, fun k hk => ?_⟩
  dsimp only
  unfold laws_toInt64S.f
  rw [if_pos (by omega), if_pos (by omega)]
  exact toInt_loop l hl l.length 0 _ k (by omega) (by omega) (by omega) (by simp) (fun j hj => absurd hj (Nat.not_lt_zero _))
theorem ev_toComplex {n : Int} {l : List Int} (hl : l.length ≤ 1048576) : Ev (fun k => laws_toComplex.f k n l) (n, l) := by
  unfold laws_toComplex.f
  exact Ev.bind (f := fun _ t => some (n, t)) (ev_toInt hl) (Ev.now _)

theorem eqInt_loop (l : List Int) (hl : l.length ≤ 1048576) : ∀ d (i : Nat) k, l.length - i = d → d < k → i ≤ l.length → laws_eqInt64S.l0 k l l i = some true := by
  intro d
  induction d with
  | zero =>
    intro i k hd hk hi
    obtain ⟨k, rfl⟩ : ∃ m, k = m + 1 := ⟨k - 1, by omega⟩
    simp only [laws_eqInt64S.l0]
    rw [if_neg (by omega)]
  | succ d ih =>
    intro i k hd hk hi
    obtain ⟨k, rfl⟩ : ∃ m, k = m + 1 := ⟨k - 1, by omega⟩
    simp only [laws_eqInt64S.l0]
    rw [if_pos (by omega), if_pos (by omega), if_pos (by omega), if_pos trivial, w64 (by omega) (by omega)]
    exact ih (i + 1) k (by omega) (by omega) (by omega)
theorem ev_eqInt {l : List Int} (hl : l.length ≤ 1048576) : Ev (fun k => laws_eqInt64S.f k l l) true := by
  refine ⟨l.length + 1, fun k hk => ?_⟩
  dsimp only
  unfold laws_eqInt64S.f
  rw [if_pos rfl]
  exact eqInt_loop l hl l.length 0 k (by omega) (by omega) (by omega)
theorem ev_eqComplex {n : Int} {l : List Int} (hl : l.length ≤ 1048576) : Ev (fun k => laws_eqComplex.f k n l n l) true := by
  unfold laws_eqComplex.f
  simp only [if_true]
  exact Ev.bind (f := fun _ t => if t = true then some true else some false) (ev_eqInt hl) (by simp only [if_true]; exact Ev.now _)

def marks (m : Nat) (a : Int) : List Int := (List.range m).map fun j : Nat => a + (j : Int)
theorem marks_len (m : Nat) (a : Int) : (marks m a).length = m := by simp [marks]
theorem marks_at {m : Nat} {a : Int} {j : Nat} (h : j < m) : (marks m a)[j]? = some (a + (j : Int)) := by simp [marks, h]
theorem mark_loop (n : Nat) (hl : n ≤ 1048576) (a : Int) (ha : 0 ≤ a ∧ a ≤ 1073741824) : ∀ d (i : Nat) (x0 : List Int) k, n - i = d → d < k → i ≤ n → x0.length = n → (∀ j, j < i → x0[j]? = some (a + (j : Int))) → laws_markInt64S.l0 k x0 (a + (i : Int)) i = some (a + (n : Int), marks n a) := by
  intro d
  induction d with
  | zero =>
    intro i x0 k hd hk hi hx hj
    obtain ⟨k, rfl⟩ : ∃ m, k = m + 1 := ⟨k - 1, by omega⟩
    simp only [laws_markInt64S.l0]
    rw [if_neg (by omega), show i = n by omega]
    congr 2
    apply List.ext_getElem?
    intro j
    rcases Nat.lt_or_ge j n with h | h
    · rw [hj j (by omega), marks_at h]
    · rw [List.getElem?_eq_none (by omega), List.getElem?_eq_none (by rw [marks_len]; omega)]
  | succ d ih =>
    intro i x0 k hd hk hi hx hj
    obtain ⟨k, rfl⟩ : ∃ m, k = m + 1 := ⟨k - 1, by omega⟩
    simp only [laws_markInt64S.l0]
    rw [if_pos (by omega), if_pos (by omega), w64 (by omega) (by omega), w64 (by omega) (by omega)]
    have := ih (i + 1) (x0.set (i : Int).toNat (a + i)) k (by omega) (by omega) (by omega) (by simpa using hx) (fun j hji => ?_)
    · rw [show ((i + 1 : Nat) : Int) = (i : Int) + 1 by omega, show a + ((i : Int) + 1) = a + (i : Int) + 1 by omega] at this
      exact this
    · rw [Int.toNat_natCast, List.getElem?_set]
      split
      · rename_i h
        subst h
        rw [if_pos (by omega)]
      · exact hj j (by omega)
theorem ev_mark {l : List Int} (hl : l.length ≤ 1048576) {a : Int} (ha : 0 ≤ a ∧ a ≤ 1073741824) : Ev (fun k => laws_markInt64S.f k l a) (a + (l.length : Int), marks l.length a) := by
  refine ⟨l.length + 1, fun k hk => ?_⟩
  dsimp only
  unfold laws_markInt64S.f
  have := mark_loop l.length hl a ha l.length 0 l k (by omega) (by omega) (by omega) rfl (fun j hj => absurd hj (Nat.not_lt_zero _))
  rw [show a + ((0 : Nat) : Int) = a by omega] at this
  exact this
theorem ev_markComplex {n : Int} {l : List Int} (hl : l.length ≤ 1048576) {a : Int} (ha : 0 ≤ a ∧ a ≤ 1073741824) : Ev (fun k => laws_markComplex.f k n l a) (a + (l.length : Int), marks l.length a) := by
  unfold laws_markComplex.f
  exact Ev.bind (f := fun _ t => some (t.1, t.2)) (ev_mark hl ha) (Ev.now _)
theorem held_loop (n : Nat) (hl : n ≤ 1048576) (a : Int) (ha : 0 ≤ a ∧ a ≤ 1073741824) : ∀ d (i : Nat) k, n - i = d → d < k → i ≤ n → laws_heldInt64S.l0 k (marks n a) (a + (i : Int)) i = some (a + (n : Int)) := by
  intro d
  induction d with
  | zero =>
    intro i k hd hk hi
    obtain ⟨k, rfl⟩ : ∃ m, k = m + 1 := ⟨k - 1, by omega⟩
    simp only [laws_heldInt64S.l0]
    rw [marks_len, if_neg (by omega), show i = n by omega]
  | succ d ih =>
    intro i k hd hk hi
    obtain ⟨k, rfl⟩ : ∃ m, k = m + 1 := ⟨k - 1, by omega⟩
    simp only [laws_heldInt64S.l0]
    have h0 : rd (marks n a) (i : Int) = a + (i : Int) := by
      rw [rd_at (by rw [marks_len]; omega)]
      have := marks_at (m := n) (a := a) (j := i) (by omega)
      rw [List.getElem?_eq_getElem (by rw [marks_len]; omega)] at this
      exact Option.some.inj this
    rw [marks_len, if_pos (by omega), if_pos (by omega), if_pos h0, w64 (by omega) (by omega), w64 (by omega) (by omega)]
    have := ih (i + 1) k (by omega) (by omega) (by omega)
    rw [show ((i + 1 : Nat) : Int) = (i : Int) + 1 by omega, show a + ((i : Int) + 1) = a + (i : Int) + 1 by omega] at this
    exact this
theorem ev_held {n : Nat} (hl : n ≤ 1048576) {a : Int} (ha : 0 ≤ a ∧ a ≤ 1073741824) : Ev (fun k => laws_heldInt64S.f k (marks n a) a) (a + (n : Int)) := by
  refine ⟨n + 1, fun k hk => ?_⟩
  dsimp only
  unfold laws_heldInt64S.f
  have := held_loop n hl a ha n 0 k (by omega) (by omega) (by omega)
  rw [show a + ((0 : Nat) : Int) = a by omega] at this
  exact this
theorem ev_heldComplex {c : Int} {n : Nat} (hl : n ≤ 1048576) {a : Int} (ha : 0 ≤ a ∧ a ≤ 1073741824) : Ev (fun k => laws_heldComplex.f k c (marks n a) a) (a + (n : Int)) := by
  unfold laws_heldComplex.f
  exact Ev.bind (f := fun _ t => if t < 0 then some (-1) else some t) (ev_held hl ha) (by rw [if_neg (by omega)]; exact Ev.now _)

end Go.Proofs.Ytdkoioiiacljeaa.Pu

/- Plain: the reference's words on complexes say what the program's say. -/
namespace Go.Proofs.Ytdkoioiiacljeaa.Pu
set_option linter.unusedVariables false
set_option linter.unusedSimpArgs false
open Go.RowKit Go.Proofs.Ytdkoioiiacljeaa.QS Go.Proofs.Ytdkoioiiacljeaa.Im Go.Proofs.YtdkoioiiacljeaaW.PrintWords Go.Proofs.YtdkoioiiacljeaaW.PrintLast Go.Proofs.YtdkoioiiacljeaaW.PrintMore

theorem in_eq (a b c : Int) : spec_l01In.f a b c = some (withinB a b c) := by
  unfold spec_l01In.f withinB
  by_cases h : a ≥ b
  · rw [if_pos h, decide_eq_true (show b ≤ a by omega)]; rfl
  · rw [if_neg h, decide_eq_false (show ¬ b ≤ a by omega)]; rfl
theorem all_eq {n : Int} (h1 : 1 ≤ n) (h6 : n ≤ 6) : spec_l01All.f n = some (fullZ n) := by
  obtain rfl | rfl | rfl | rfl | rfl | rfl : n = 1 ∨ n = 2 ∨ n = 3 ∨ n = 4 ∨ n = 5 ∨ n = 6 := by omega
  all_goals decide +kernel
theorem fullZ_le {n : Int} (h1 : 1 ≤ n) (h6 : n ≤ 6) : 1 ≤ fullZ n ∧ fullZ n ≤ 63 := by
  obtain rfl | rfl | rfl | rfl | rfl | rfl : n = 1 ∨ n = 2 ∨ n = 3 ∨ n = 4 ∨ n = 5 ∨ n = 6 := by omega
  all_goals exact ⟨by decide, by decide⟩

theorem below_all : ((List.range 64).all fun f => f == 0 || spec_l01Below.f 70 (f : Int) == some (bordersL (f : Int))) = true := by decide +kernel
theorem ev_below {f : Int} (h1 : 1 ≤ f) (h2 : f ≤ 63) : Ev (fun k => spec_l01Below.f k f) (bordersL f) := by
  obtain ⟨m, rfl⟩ := Int.eq_ofNat_of_zero_le (show 0 ≤ f by omega)
  have h := List.all_eq_true.1 below_all m (List.mem_range.2 (by omega))
  have h0 : (m == 0) = false := by simp; omega
  rw [h0, Bool.false_or] at h
  exact Ev.of (fun k => spec_l01Below.mono _ k) (k := 70) (by simpa using h)

theorem has_loop (n x : Int) (l : List Int) (hl : l.length ≤ maxLen) : ∀ d (i : Nat) k, l.length - i = d → d < k → i ≤ l.length → spec_l01Has.l0 k x i n l = some (decide (x ∈ l.drop i)) := by
  simp only [maxLen] at hl
  intro d
  induction d with
  | zero =>
    intro i k hd hk hi
    obtain ⟨k, rfl⟩ : ∃ m, k = m + 1 := ⟨k - 1, by omega⟩
    simp only [spec_l01Has.l0]
    rw [if_neg (by omega), List.drop_eq_nil_of_le (by omega)]
    rfl
  | succ d ih =>
    intro i k hd hk hi
    obtain ⟨k, rfl⟩ : ∃ m, k = m + 1 := ⟨k - 1, by omega⟩
    simp only [spec_l01Has.l0]
    rw [if_pos (by omega), if_pos (by omega), rd_at (show i < l.length by omega), List.drop_eq_getElem_cons (show i < l.length by omega)]
    by_cases hx : l[i] = x
    · rw [if_pos hx, hx]; simp
    · rw [if_neg hx, w64 (by omega) (by omega)]
      have := ih (i + 1) k (by omega) (by omega) (by omega)
      rw [show ((i + 1 : Nat) : Int) = (i : Int) + 1 by omega] at this
      rw [this]
      exact congrArg some (decide_eq_decide.2 ⟨fun h => List.mem_cons.2 (Or.inr h), fun h => (List.mem_cons.1 h).resolve_left (Ne.symm hx)⟩)
theorem ev_has {l : List Int} (hl : l.length ≤ maxLen) (n x : Int) : Ev (fun k => spec_l01Has.f k n l x) (decide (x ∈ l)) := by
  refine ⟨l.length + 1, fun k hk => ?_⟩
  dsimp only
  unfold spec_l01Has.f
  have := has_loop n x l hl l.length 0 k (by omega) (by omega) (by omega)
  rwa [List.drop_zero] at this

theorem is_l2 (n : Int) (l b : List Int) (hl : l.length ≤ maxLen) (hb : b.length ≤ maxLen) (x4 : Int) (R : Bool) (hR : Ev (fun k => spec_l01Is.l1 k (wrap64 (x4 + 1)) n l) R) :
    ∀ d (j : Nat), b.length - j = d → j ≤ b.length → Ev (fun k => spec_l01Is.l2 k x4 b j n l) (((b.drop j).all fun y => decide (y ∈ l)) && R) := by
  simp only [maxLen] at hb
  intro d
  induction d with
  | zero =>
    intro j hd hj
    refine Ev.step (f := fun k => spec_l01Is.l1 k (wrap64 (x4 + 1)) n l) (fun k => ?_) ?_
    · simp only [spec_l01Is.l2]; rw [if_neg (by omega)]
    · rw [List.drop_eq_nil_of_le (by omega)]; exact hR
  | succ d ih =>
    intro j hd hj
    refine Ev.step (f := fun k => (spec_l01Has.f k n l b[j]).bind fun t => if t = true then spec_l01Is.l2 k x4 b ((j + 1 : Nat) : Int) n l else some false) (fun k => ?_) ?_
    · simp only [spec_l01Is.l2]
      rw [if_pos (by omega), if_pos (by omega), rd_at (show j < b.length by omega), w64 (by omega) (by omega), show ((j + 1 : Nat) : Int) = (j : Int) + 1 by omega]
    · refine Ev.bind (ev_has hl n b[j]) ?_
      rw [List.drop_eq_getElem_cons (show j < b.length by omega), List.all_cons]
      by_cases hm : b[j] ∈ l
      · rw [decide_eq_true hm]
        simp only [if_true, Bool.true_and]
        exact ih (j + 1) (by omega) (by omega)
      · rw [decide_eq_false hm]
        simp only [Bool.false_and]
        exact Ev.now _
theorem borders_len6 {f : Int} : (bordersL f).length ≤ 6 := by
  unfold bordersL
  refine Nat.le_trans (bordersOf_len _ _) ?_
  rw [upto_length]
  exact verts_len f
theorem is_l1 (n : Int) (l : List Int) (hl : l.length ≤ maxLen) (hr : ∀ x ∈ l, 1 ≤ x ∧ x ≤ 63) :
    ∀ d (i : Nat), l.length - i = d → i ≤ l.length → Ev (fun k => spec_l01Is.l1 k i n l) ((l.drop i).all fun f => (bordersL f).all fun y => decide (y ∈ l)) := by
  have hl' := hl
  simp only [maxLen] at hl'
  intro d
  induction d with
  | zero =>
    intro i hd hi
    refine Ev.step (f := fun k => some true) (fun k => ?_) ?_
    · simp only [spec_l01Is.l1]; rw [if_neg (by omega)]
    · rw [List.drop_eq_nil_of_le (by omega)]; exact Ev.now _
  | succ d ih =>
    intro i hd hi
    have hi' : i < l.length := by omega
    refine Ev.step (f := fun k => (spec_l01Below.f k l[i]).bind fun t => spec_l01Is.l2 k i t 0 n l) (fun k => ?_) ?_
    · simp only [spec_l01Is.l1]
      rw [if_pos (by omega), if_pos (by omega), rd_at hi']
    · have hx := hr l[i] (List.getElem_mem hi')
      refine Ev.bind (ev_below hx.1 hx.2) ?_
      have h1 := ih (i + 1) (by omega) (by omega)
      rw [show ((i + 1 : Nat) : Int) = wrap64 ((i : Int) + 1) by rw [w64 (by omega) (by omega)]; omega] at h1
      have h2 := is_l2 n l (bordersL l[i]) hl (by have := @borders_len6 l[i]; simp only [maxLen]; omega) i _ h1 _ 0 rfl (Nat.zero_le _)
      rw [List.drop_zero] at h2
      rw [List.drop_eq_getElem_cons hi', List.all_cons]
      exact h2
theorem is_l0 (n : Int) (h1 : 1 ≤ n) (h6 : n ≤ 6) (l : List Int) (hl : l.length ≤ maxLen) :
    ∀ d (i : Nat), l.length - i = d → i ≤ l.length → (∀ j, j < i → okAt n l j = true) → Ev (fun k => spec_l01Is.l0 k i n l) (ascB n l && closedB l) := by
  have hl' := hl
  simp only [maxLen] at hl'
  have hF := fullZ_le h1 h6
  intro d
  induction d with
  | zero =>
    intro i hd hi hj
    refine Ev.step (f := fun k => spec_l01Is.l1 k 0 n l) (fun k => ?_) ?_
    · simp only [spec_l01Is.l0]; rw [if_neg (by omega)]
    · have ha : ∀ j, j < l.length → okAt n l j = true := fun j h => hj j (by omega)
      rw [ascB_yes ha, Bool.true_and]
      have hr : ∀ x ∈ l, 1 ≤ x ∧ x ≤ 63 := by
        intro x hx
        obtain ⟨j, hj', rfl⟩ := List.mem_iff_getElem.1 hx
        have := ha j hj'
        simp only [okAt, withinB, Bool.and_eq_true, decide_eq_true_eq, List.getElem?_eq_getElem hj', Option.getD_some] at this
        omega
      have := is_l1 n l hl hr l.length 0 (by omega) (Nat.zero_le _)
      rw [List.drop_zero] at this
      exact this
  | succ d ih =>
    intro i hd hi hj
    have hi' : i < l.length := by omega
    refine Ev.step (f := fun k => if okAt n l i = true then spec_l01Is.l0 k ((i + 1 : Nat) : Int) n l else some false) (fun k => ?_) ?_
    · simp only [spec_l01Is.l0]
      rw [if_pos (by omega), if_pos (by omega), all_eq h1 h6]
      simp only [Option.bind_some, in_eq, rd_at hi']
      have hg : l[i]?.getD 0 = l[i] := by rw [List.getElem?_eq_getElem hi']; rfl
      unfold okAt
      rw [hg]
      rw [show wrap64 ((i : Int) + 1) = ((i + 1 : Nat) : Int) by rw [w64 (by omega) (by omega)]; omega]
      cases hw : withinB l[i] 1 (fullZ n) with
      | false => simp
      | true =>
        simp only [if_true, Bool.true_and]
        rcases Nat.eq_zero_or_pos i with hz | hz
        · subst hz; simp
        · have hp : l[i - 1]?.getD 0 = l[i - 1] := by rw [List.getElem?_eq_getElem (by omega)]; rfl
          have hb : (i == 0) = false := by simp; omega
          rw [if_pos (by omega), w64 (by omega) (by omega), if_pos (by omega), if_pos (by omega), hp, hb, Bool.false_or, show ((i : Int) - 1) = ((i - 1 : Nat) : Int) by omega, rd_at (show i - 1 < l.length by omega)]
          by_cases hle : l[i] ≤ l[i - 1]
          · rw [if_pos hle, decide_eq_false (by omega)]; simp
          · rw [if_neg hle, decide_eq_true (by omega)]; simp
    · cases ho : okAt n l i with
      | true =>
        simp only [if_true]
        exact ih (i + 1) (by omega) (by omega) (okAt_next hj ho)
      | false =>
        rw [ascB_no hi' ho]
        simp only [Bool.false_and]
        exact Ev.now _
/-- IsComplex, the reference's. -/
theorem ev_is (n : Int) {l : List Int} (hl : l.length ≤ maxLen) : Ev (fun k => spec_l01Is.f k n l) (isC n l) := by
  unfold spec_l01Is.f isC
  simp only [in_eq, Option.bind_some]
  cases hw : withinB n 1 6 with
  | false => simp only [Bool.false_and]; exact Ev.now _
  | true =>
    simp only [if_true, Bool.true_and]
    have hn : 1 ≤ n ∧ n ≤ 6 := by simpa [withinB] using hw
    exact is_l0 n hn.1 hn.2 l hl l.length 0 (by omega) (Nat.zero_le _) (fun j hj => absurd hj (Nat.not_lt_zero _))

end Go.Proofs.Ytdkoioiiacljeaa.Pu

/- Plain: faces of a full simplex, lists of faces. -/
namespace Go.Proofs.Ytdkoioiiacljeaa.Pu
set_option linter.unusedVariables false
set_option linter.unusedSimpArgs false
open Go.RowKit Go.Proofs.Ytdkoioiiacljeaa.QS Go.Proofs.Ytdkoioiiacljeaa.Im Go.Proofs.YtdkoioiiacljeaaW.PrintWords Go.Proofs.YtdkoioiiacljeaaW.PrintLast Go.Proofs.YtdkoioiiacljeaaW.PrintMore

theorem full_nat {n : Int} (h1 : 1 ≤ n) (h6 : n ≤ 6) : fullZ n = ((2 ^ n.toNat - 1 : Nat) : Int) := by
  obtain rfl | rfl | rfl | rfl | rfl | rfl : n = 1 ∨ n = 2 ∨ n = 3 ∨ n = 4 ∨ n = 5 ∨ n = 6 := by omega
  all_goals decide +kernel
theorem thoseL_len {n : Int} (h1 : 1 ≤ n) (h6 : n ≤ 6) (p : Int → Bool) : (thoseL n p).length ≤ 64 := by
  refine Nat.le_trans (thoseUpto_len p (2 ^ n.toNat)) ?_
  obtain rfl | rfl | rfl | rfl | rfl | rfl : n = 1 ∨ n = 2 ∨ n = 3 ∨ n = 4 ∨ n = 5 ∨ n = 6 := by omega
  all_goals decide
/-- The faces of a complex are numbers from 1 to full. -/
theorem isC_range {n : Int} {l : List Int} (h : isC n l = true) : ∀ x ∈ l, 1 ≤ x ∧ x ≤ fullZ n := by
  obtain ⟨_, ha, _⟩ := isC_of h
  intro x hx
  obtain ⟨i, hi, rfl⟩ := List.mem_iff_getElem.1 hx
  have h1 := List.all_eq_true.1 ha i (List.mem_range.2 hi)
  simp only [okAt, List.getElem?_eq_getElem hi, Option.getD_some, withinB, Bool.and_eq_true, decide_eq_true_eq] at h1
  exact h1.1
/-- A list of numbers with a property is the ascending list of them. -/
theorem thoseL_eq {n : Int} {p : Int → Bool} {l : List Int} (ha : l.Pairwise (· < ·)) (hm : ∀ x, x ∈ l ↔ (1 ≤ x ∧ x < ((2 ^ n.toNat : Nat) : Int)) ∧ p x = true) : thoseL n p = l := by
  have hasc2 : (thoseL n p).Pairwise (· < ·) := by
    unfold thoseL nums1
    refine List.Pairwise.filter _ ?_
    rw [List.pairwise_map]
    exact List.pairwise_lt_range.imp (fun h => by omega)
  refine List.Perm.eq_of_pairwise (le := (· < ·)) (fun a b _ _ h1 h2 => by omega) hasc2 ha ?_
  refine (List.perm_ext_iff_of_nodup (hasc2.imp (fun h => by omega)) (ha.imp (fun h => by omega))).2 fun x => ?_
  unfold thoseL
  rw [List.mem_filter, mem_nums1, hm]
theorem asc_pair {l : List Int} (ha : Asc l) : l.Pairwise (· < ·) := by
  rw [List.pairwise_iff_getElem]
  intro i j hi hj hij
  have := ha.lt hij hj
  simpa [List.getElem?_eq_getElem hi, List.getElem?_eq_getElem hj] using this
/-- The faces of a complex are those of the numbers 1, 2, .. that lie in it: the list is ascending. -/
theorem isC_those {n : Int} {l : List Int} (h : isC n l = true) : l = thoseL n fun x => decide (x ∈ l) := by
  obtain ⟨⟨h1, h6⟩, ha, _⟩ := isC_of h
  have hr := isC_range h
  have hk := full_nat h1 h6
  have hasc : l.Pairwise (· < ·) := by
    rw [List.pairwise_iff_getElem]
    intro i j hi hj hij
    have := (ascB_asc ha).lt hij hj
    simpa [List.getElem?_eq_getElem hi, List.getElem?_eq_getElem hj] using this
  have hasc2 : (thoseL n fun x => decide (x ∈ l)).Pairwise (· < ·) := by
    unfold thoseL nums1
    refine List.Pairwise.filter _ ?_
    rw [List.pairwise_map]
    exact List.pairwise_lt_range.imp (fun h => by omega)
  refine List.Perm.eq_of_pairwise (le := (· < ·)) (fun a b _ _ h1 h2 => by omega) hasc hasc2 ?_
  refine (List.perm_ext_iff_of_nodup (hasc.imp (fun h => by omega)) (hasc2.imp (fun h => by omega))).2 fun x => ?_
  unfold thoseL
  rw [List.mem_filter, mem_nums1]
  constructor
  · intro hx
    have := hr x hx
    exact ⟨⟨this.1, by omega⟩, by simpa using hx⟩
  · intro hx; simpa using hx.2
theorem isC_len {n : Int} {l : List Int} (h : isC n l = true) : l.length ≤ 64 := by
  obtain ⟨⟨h1, h6⟩, _, _⟩ := isC_of h
  rw [isC_those h]
  exact thoseL_len h1 h6 _

end Go.Proofs.Ytdkoioiiacljeaa.Pu

/- Plain: free faces. -/
namespace Go.Proofs.Ytdkoioiiacljeaa.Pu
set_option linter.unusedVariables false
set_option linter.unusedSimpArgs false
open Go.RowKit Go.Proofs.Ytdkoioiiacljeaa.QS Go.Proofs.Ytdkoioiiacljeaa.Im Go.Proofs.YtdkoioiiacljeaaW.PrintWords Go.Proofs.YtdkoioiiacljeaaW.PrintLast Go.Proofs.YtdkoioiiacljeaaW.PrintMore

theorem ev_face (n v : Int) {l : List Int} (hl : l.length ≤ maxLen) : Ev (fun k => spec_l01Face.f k n l v) (codeOf (isC n l) (decide (v ∈ l))) := by
  unfold spec_l01Face.f
  refine Ev.bind (ev_is n hl) ?_
  unfold codeOf
  cases hi : isC n l with
  | false => simp only [Bool.false_eq_true, if_false]; exact Ev.now _
  | true =>
    simp only [if_true]
    refine Ev.bind (ev_has hl n v) ?_
    by_cases hv : v ∈ l
    · rw [decide_eq_true hv]; simp only [if_true]; exact Ev.now _
    · rw [decide_eq_false hv]; simp only [Bool.false_eq_true, if_false]; exact Ev.now _

theorem up_all : ((List.range 64).all fun v => (List.range 64).all fun x => (!aroundP (v : Int) (x : Int)) == (Go.bits .and .i64 (x : Int) (v : Int) == (v : Int) && (x : Int) != (v : Int))) = true := by decide +kernel
def upP (v x : Int) : Bool := Go.bits .and .i64 x v == v && x != v
theorem up_eq {v x : Int} (hv : 0 ≤ v ∧ v ≤ 63) (hx : 0 ≤ x ∧ x ≤ 63) : (!aroundP v x) = upP v x := by
  obtain ⟨a, rfl⟩ := Int.eq_ofNat_of_zero_le hv.1
  obtain ⟨b, rfl⟩ := Int.eq_ofNat_of_zero_le hx.1
  have h2 := List.all_eq_true.1 (List.all_eq_true.1 up_all a (List.mem_range.2 (by omega))) b (List.mem_range.2 (by omega))
  exact eq_of_beq h2
theorem around_up {n v : Int} {l : List Int} (h : isC n l = true) (hv : v ∈ l) : aroundL l v = l.filter (upP v) := by
  obtain ⟨⟨h1, h6⟩, _, _⟩ := isC_of h
  have hF := fullZ_le h1 h6
  have hr := isC_range h
  refine List.filter_congr fun x hx => up_eq ?_ ?_
  · have := hr v hv; omega
  · have := hr x hx; omega

def freeR : Int → List Int → Int
  | q, [] => q
  | q, y :: r => if q > 0 then 0 else freeR y r
theorem free_loop (n v : Int) (l : List Int) (hl : l.length ≤ 64) : ∀ d (i : Nat) (q : Int), l.length - i = d → i ≤ l.length →
    Ev (fun k => spec_l05Free.l0 k v q i n l) (freeR q ((l.drop i).filter (upP v))) := by
  intro d
  induction d with
  | zero =>
    intro i q hd hi
    rw [List.drop_eq_nil_of_le (by omega), List.filter_nil]
    refine Ev.step (f := fun k => some q) (fun k => ?_) (Ev.now _)
    simp only [spec_l05Free.l0]; rw [if_neg (by omega)]
  | succ d ih =>
    intro i q hd hi
    have hi' : i < l.length := by omega
    have hn := ih (i + 1)
    rw [List.drop_eq_getElem_cons hi']
    have hw : wrap64 ((i : Int) + 1) = ((i + 1 : Nat) : Int) := by rw [w64 (by omega) (by omega)]; omega
    have h0 : Ev (fun k => spec_l05Free.j1 k v q i (upP v l[i]) n l) (freeR q ((l[i] :: l.drop (i + 1)).filter (upP v))) := by
      cases hu : upP v l[i] with
      | false =>
        rw [List.filter_cons_of_neg (by simp [hu])]
        refine Ev.step (f := fun k => spec_l05Free.l0 k v q ((i + 1 : Nat) : Int) n l) (fun k => ?_) (hn q (by omega) (by omega))
        simp only [spec_l05Free.j1]; rw [hw]; rfl
      | true =>
        rw [List.filter_cons_of_pos (by simp [hu]), freeR]
        by_cases hq : q > 0
        · rw [if_pos hq]
          refine Ev.step (f := fun k => some 0) (fun k => ?_) (Ev.now _)
          simp only [spec_l05Free.j1]; rw [if_pos trivial, if_pos hq]
        · rw [if_neg hq]
          refine Ev.step (f := fun k => spec_l05Free.l0 k v l[i] ((i + 1 : Nat) : Int) n l) (fun k => ?_) (hn l[i] (by omega) (by omega))
          simp only [spec_l05Free.j1]; rw [if_pos trivial, if_neg hq, if_pos (by omega), if_pos (by omega), rd_at hi', hw]
    refine Ev.step (f := fun k => spec_l05Free.j1 k v q i (upP v l[i]) n l) (fun k => ?_) h0
    simp only [spec_l05Free.l0]
    rw [if_pos (by omega), if_pos (by omega), rd_at hi']
    unfold upP
    by_cases hc : Go.bits .and .i64 l[i] v = v
    · rw [if_pos hc, hc]; first | rfl | simp
    · rw [if_neg hc, show (Go.bits .and .i64 l[i] v == v) = false from beq_eq_false_iff_ne.2 hc]; rfl
theorem ev_free {n v : Int} {l : List Int} (h : isC n l = true) (hv : v ∈ l) : Ev (fun k => spec_l05Free.f k n l v) (freeR 0 (aroundL l v)) := by
  have := free_loop n v l (isC_len h) _ 0 0 rfl (Nat.zero_le _)
  rw [List.drop_zero, ← around_up h hv] at this
  exact this
theorem freeR_one {M : List Int} (hp : ∀ x ∈ M, 0 < x) : freeR 0 M = if (M.length : Int) = 1 then M[0]?.getD 0 else 0 := by
  match M, hp with
  | [], _ => rfl
  | [y], _ => rfl
  | y :: z :: r, hp =>
    have := hp y (by simp)
    simp only [freeR, List.length_cons]
    rw [if_neg (by omega), if_pos this, if_neg (by omega)]
theorem around_pos {n v : Int} {l : List Int} (h : isC n l = true) : ∀ x ∈ aroundL l v, 0 < x := fun x hx => by
  have := isC_range h x (List.mem_filter.1 hx).1
  omega

end Go.Proofs.Ytdkoioiiacljeaa.Pu

/- Plain: the laws' helpers on pairs. -/
namespace Go.Proofs.Ytdkoioiiacljeaa.Pu
set_option linter.unusedVariables false
set_option linter.unusedSimpArgs false
open Go.RowKit Go.Proofs.Ytdkoioiiacljeaa.Kp Go.Proofs.Ytdkoioiiacljeaa.Ext Go.Proofs.Ytdkoioiiacljeaa.QS Go.Proofs.YtdkoioiiacljeaaW.PrintWords Go.Proofs.YtdkoioiiacljeaaW.PrintLast Go.Proofs.YtdkoioiiacljeaaW.PrintMore

theorem eqPair_loop (l : List Pr) (hl : l.length ≤ 1048576) : ∀ d (i : Nat), l.length - i = d → i ≤ l.length → Ev (fun k => laws_eqPairS.l0 k l l i) true := by
  intro d
  induction d with
  | zero =>
    intro i hd hi
    refine Ev.step (f := fun k => some true) (fun k => ?_) (Ev.now _)
    simp only [laws_eqPairS.l0]; rw [if_neg (by omega)]
  | succ d ih =>
    intro i hd hi
    refine Ev.step (fun k => ?_) (ih (i + 1) (by omega) (by omega))
    simp only [laws_eqPairS.l0]
    rw [if_pos (by omega), if_pos (by omega), if_pos (by omega), show wrap64 ((i : Int) + 1) = ((i + 1 : Nat) : Int) by rw [w64 (by omega) (by omega)]; omega]
    simp [laws_eqPair.f]
theorem ev_eqPairs {l : List Pr} (hl : l.length ≤ 1048576) : Ev (fun k => laws_eqPairS.f k l l) true := by
  unfold laws_eqPairS.f
  simp only [if_true]
  exact eqPair_loop l hl _ 0 rfl (Nat.zero_le _)
theorem markL_len (n : Nat) (a : Int) : (markL n a).length = n := by simp [markL]
theorem ev_markPairs {l : List Pr} {a : Int} (hl : l.length ≤ 1048576) (ha : 0 ≤ a ∧ a ≤ 1073741824) : Ev (fun _ => laws_markPairS.f l a) (a + 2 * (l.length : Int), markL l.length a) := by
  unfold laws_markPairS.f
  rw [if_pos ⟨ha.1, ha.2, by omega⟩]
  exact Ev.now _
theorem held_markL (n : Nat) (a : Int) : heldPr (markL n a) a = a + 2 * (n : Int) := by
  rw [heldPr_yes, markL_len]
  intro i hi
  rw [markL_len] at hi
  simp [okPr, markL, markAt, hi, List.getD_eq_getElem?_getD]
theorem ev_heldPairs {n : Nat} {a : Int} (hl : n ≤ 1048576) (ha : 0 ≤ a ∧ a ≤ 1073741824) : Ev (fun _ => laws_heldPairS.f (markL n a) a) (a + 2 * (n : Int)) := by
  unfold laws_heldPairS.f
  rw [if_pos ⟨ha.1, ha.2, by rw [markL_len]; omega⟩, held_markL]
  exact Ev.now _

end Go.Proofs.Ytdkoioiiacljeaa.Pu

/- Plain: FreePairs. -/
namespace Go.Proofs.Ytdkoioiiacljeaa.Pu
set_option linter.unusedVariables false
set_option linter.unusedSimpArgs false
open Go.RowKit Go.Proofs.Ytdkoioiiacljeaa.Kp Go.Proofs.Ytdkoioiiacljeaa.QS Go.Proofs.Ytdkoioiiacljeaa.Im Go.Proofs.Ytdkoioiiacljeaa.Ext Go.Proofs.Ytdkoioiiacljeaa.QFnExactFreePairs Go.Proofs.YtdkoioiiacljeaaW.PrintWords Go.Proofs.YtdkoioiiacljeaaW.PrintLast Go.Proofs.YtdkoioiiacljeaaW.PrintMore

theorem fp_loop {n : Int} {l : List Int} (hi : isC n l = true) : ∀ d (i : Nat) (acc : List Pr), l.length - i = d → i ≤ l.length → acc.length ≤ i →
    Ev (fun k => spec_FreePairs.l0 k acc i n l) (acc ++ (l.drop i).filterMap (onePr l), 0) := by
  have hs := isC_len hi
  intro d
  induction d with
  | zero =>
    intro i acc hd hil ha
    rw [List.drop_eq_nil_of_le (by omega), List.filterMap_nil, List.append_nil]
    refine Ev.step (f := fun k => some (acc, 0)) (fun k => ?_) (Ev.now _)
    simp only [spec_FreePairs.l0]; rw [if_neg (by omega)]
  | succ d ih =>
    intro i acc hd hil ha
    have hi' : i < l.length := by omega
    have hw : wrap64 ((i : Int) + 1) = ((i + 1 : Nat) : Int) := by rw [w64 (by omega) (by omega)]; omega
    rw [List.drop_eq_getElem_cons hi']
    have hf := ev_free hi (List.getElem_mem hi')
    rw [freeR_one (around_pos hi)] at hf
    have hpos := around_pos hi (v := l[i])
    refine Ev.step (fun k => ?_) (Ev.bind (f := fun k t => if t > 0 then (if acc.length < 8796093022208 then spec_FreePairs.l0 k (acc ++ [⟨l[i], t⟩]) ((i + 1 : Nat) : Int) n l else none) else spec_FreePairs.l0 k acc ((i + 1 : Nat) : Int) n l) hf ?_)
    · simp only [spec_FreePairs.l0]
      rw [if_pos (by omega), if_pos (by omega), rd_at hi', hw]
    · by_cases h1 : ((aroundL l l[i]).length : Int) = 1
      · have he : onePr l l[i] = some ⟨l[i], rd (aroundL l l[i]) 0⟩ := by rw [onePr, if_pos h1]
        have hg : rd (aroundL l l[i]) 0 = (aroundL l l[i])[0]?.getD 0 := by simp [rd, List.getD_eq_getElem?_getD]
        have hp : (aroundL l l[i])[0]?.getD 0 > 0 := by
          have hl0 : 0 < (aroundL l l[i]).length := by omega
          rw [List.getElem?_eq_getElem hl0]
          exact hpos _ (List.getElem_mem hl0)
        rw [List.filterMap_cons_some he, if_pos h1, hg]
        simp only [if_pos hp, if_pos (show acc.length < 8796093022208 by omega)]
        have := ih (i + 1) (acc ++ [⟨l[i], (aroundL l l[i])[0]?.getD 0⟩]) (by omega) (by omega) (by simp; omega)
        rw [List.append_assoc] at this
        exact this
      · have he : onePr l l[i] = none := by rw [onePr, if_neg h1]
        rw [List.filterMap_cons_none he, if_neg h1]
        simp only [show ¬ ((0 : Int) > 0) by omega, if_false]
        exact ih (i + 1) acc (by omega) (by omega) (by omega)
theorem ev_spec (n : Int) {l : List Int} (hl : l.length ≤ maxLen) : Ev (fun k => spec_FreePairs.f k n l) (freePairsF n l) := by
  unfold spec_FreePairs.f
  refine Ev.bind (ev_is n hl) ?_
  unfold freePairsF
  cases hi : isC n l with
  | false => simp only [Bool.false_eq_true, if_false]; exact Ev.now _
  | true =>
    simp only [if_true]
    have := fp_loop hi _ 0 [] rfl (Nat.zero_le _) (Nat.zero_le _)
    rw [List.drop_zero, List.nil_append] at this
    exact this
theorem pure_len (n : Int) (l : List Int) : (freePairsF n l).1.length ≤ 1048576 := by
  unfold freePairsF
  split
  · have := isC_len (by assumption : isC n l = true)
    have := List.length_filterMap_le (onePr l) l
    simp only [freeL]
    omega
  · simp

theorem FnExactFreePairs (n0 : Int) (l0 : List Int) (_ : (Lit.int .i64 n0).wf = true) (hm0 : l0.length ≤ maxLen) (_ : ∀ x ∈ l0, (Lit.int .i64 x).wf = true) : ∃ k, laws_FnExactFreePairs.f k n0 l0 = some true := by
  rcases Nat.lt_or_ge 1048576 l0.length with hl | hl
  · refine ⟨0, ?_⟩
    unfold laws_FnExactFreePairs.f
    rw [sz_big hm0 hl]
    rfl
  · apply Ev.rounds
    obtain ⟨t, ht, ht0⟩ := sz_ok (n := n0) hl
    have hS := ev_spec n0 hm0
    have hI : impl_FreePairs.f n0 l0 = some (freePairsF n0 l0) := by unfold impl_FreePairs.f; rw [if_pos (by omega)]
    have hR := pure_len n0 l0
    generalize freePairsF n0 l0 = D at hS hI hR
    obtain ⟨r1, r2⟩ := D
    simp only at hR
    have hr1 : ¬ (1 + 2 * (r1.length : Int)) < 0 := by omega
    have hl1 : ¬ (1 + (l0.length : Int)) < 0 := by omega
    have h01 : (0 : Int) ≤ 1 ∧ (1 : Int) ≤ 1073741824 := by omega
    unfold laws_FnExactFreePairs.f
    rw [ht]
    simp only [Option.bind_some, if_neg ht0]
    refine Ev.bind (ev_toComplex hl) ?_
    refine Ev.bind hS ?_
    refine Ev.bind (ev_toComplex hl) ?_
    simp only [hI, Option.bind_some]
    refine Ev.bind (ev_eqPairs hR) ?_
    simp only [if_true]
    refine Ev.step (fun k => laws_FnExactFreePairs.j0.eq_2 ..) ?_
    simp only [bne_self_eq_false, Bool.false_eq_true, if_false]
    refine Ev.bind (ev_toComplex hl) ?_
    refine Ev.bind (ev_eqComplex hl) ?_
    simp only [if_true]
    refine Ev.bind (ev_markComplex hl h01) ?_
    simp only [if_neg hl1]
    refine Ev.bind (ev_eqPairs hR) ?_
    simp only [if_true]
    refine Ev.step (fun k => laws_FnExactFreePairs.j1.eq_2 ..) ?_
    simp only [bne_self_eq_false, Bool.false_eq_true, if_false]
    refine Ev.bind (ev_markPairs hR h01) ?_
    refine Ev.bind (ev_heldPairs hR h01) ?_
    simp only [if_neg hr1, if_true]
    refine Ev.bind (ev_toComplex hl) ?_
    simp only [hI, Option.bind_some]
    refine Ev.bind (ev_eqPairs hR) ?_
    simp only [if_true]
    refine Ev.step (fun k => laws_FnExactFreePairs.j2.eq_2 ..) ?_
    simp only [bne_self_eq_false, Bool.false_eq_true, if_false]
    refine Ev.bind (ev_heldPairs hR h01) ?_
    simp only [if_neg hr1, if_true]
    exact Ev.now _

end Go.Proofs.Ytdkoioiiacljeaa.Pu
