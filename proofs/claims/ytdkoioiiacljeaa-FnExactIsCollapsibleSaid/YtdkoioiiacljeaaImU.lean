import Derived.Test.YtdkoioiiacljeaaImT
import Derived.Test.YtdkoioiiacljeaaImC
import Derived.Test.YtdkoioiiacljeaaExCol
import Derived.Test.YtdkoioiiacljeaaQVx1
/- collapse, IsCollapsible. -/
namespace Go.Proofs.Ytdkoioiiacljeaa.Im
set_option linter.unusedVariables false
set_option linter.unusedSimpArgs false
open Go.RowKit Go.Shelf Go.Proofs.Ytdkoioiiacljeaa.Kp Go.Proofs.Ytdkoioiiacljeaa.Ext Go.Proofs.YtdkoioiiacljeaaW.PrintWords Go.Proofs.YtdkoioiiacljeaaW.PrintLast Go.Proofs.YtdkoioiiacljeaaW.PrintMore

/-- What the collapse of pairs of which p holds leads to, and the pairs. -/
def colG (p : Pr → Bool) (m : Int) : Nat → List Int → List Pr → List Int × List Pr
  | 0, xs, acc => (xs, acc)
  | f + 1, xs, acc => match (freeL xs).find? p with
    | none => (xs, acc)
    | some q => colG p m f (partL m xs (offP [q.f0, q.f1])) (acc ++ [q])
theorem firstP_none {p : Pr → Bool} {xs : List Pr} (h : xs.find? p = none) : firstP p xs = -1 := by
  rw [firstP, if_neg]
  intro ha
  obtain ⟨x, hx, hp⟩ := List.any_eq_true.1 ha
  exact List.find?_eq_none.1 h x hx hp
theorem firstP_some {p : Pr → Bool} {xs : List Pr} {q : Pr} (h : xs.find? p = some q) : ∃ i : Nat, firstP p xs = (i : Int) ∧ i < xs.length ∧ xs.getD i z70 = q := by
  have hq := List.find?_some h
  have hm := List.mem_of_find?_eq_some h
  have ha : xs.any p = true := List.any_eq_true.2 ⟨q, hm, hq⟩
  refine ⟨xs.findIdx p, by rw [firstP, if_pos ha], List.findIdx_lt_length_of_exists ⟨q, hm, hq⟩, ?_⟩
  rw [List.find?_eq_some_iff_getElem] at h
  obtain ⟨_, i, hi, he, hj⟩ := h
  have : xs.findIdx p = i := by
    rw [List.findIdx_eq hi]
    exact ⟨by rw [he]; exact hq, fun j hji => by simpa using hj j hji⟩
  rw [this, List.getD_eq_getElem?_getD, List.getElem?_eq_getElem hi]
  exact he
theorem freeL_mem {xs : List Int} {q : Pr} (h : q ∈ freeL xs) : q.f0 ∈ xs ∧ aroundL xs q.f0 = [q.f1] := by
  obtain ⟨f, hf, he⟩ := List.mem_filterMap.1 h
  unfold onePr at he
  split at he
  · rename_i h1
    injection he with he
    subst he
    refine ⟨hf, ?_⟩
    have hone : (aroundL xs f).length = 1 := by omega
    match hA : aroundL xs f, hone with
    | [y], _ => rfl
  · cases he
theorem col_step {n : Int} {xs : List Int} {q : Pr} (hi : isC n xs = true) (h : q ∈ freeL xs) :
    partL n xs (offP [q.f0, q.f1]) = partL n xs (outP q.f0) ∧ isC n (partL n xs (offP [q.f0, q.f1])) = true ∧ (partL n xs (offP [q.f0, q.f1])).length < xs.length := by
  obtain ⟨h1, h2⟩ := freeL_mem h
  have he := pair_off hi h1 h2
  have hr := isC_range hi _ h1
  obtain ⟨⟨g1, g6⟩, _, _⟩ := isC_of hi
  have hF := fullZ_le g1 g6
  refine ⟨he.symm, by rw [← he]; exact isC_out hi (by omega) (by omega), ?_⟩
  rw [partL_eq hi]
  refine List.length_filter_lt_length_iff_exists.2 ⟨q.f0, h1, ?_⟩
  simp [offP]
theorem freeL_len {xs : List Int} : (freeL xs).length ≤ xs.length := List.length_filterMap_le _ _
theorem col_loop (a1 : Pred) (h2 : a1.sort = 2) (n : Int) : ∀ d (xs : List Int) (acc : List Pr), isC n xs = true → xs.length ≤ d → acc.length + xs.length ≤ 1000 →
    Ev (fun k => QV.impl_Complex_collapse.l0 k a1 acc n xs) (n, (colG a1.pP n (d + 1) xs acc).1, (colG a1.pP n (d + 1) xs acc).2) := by
  intro d
  induction d with
  | zero =>
    intro xs acc hi hd ha
    obtain rfl : xs = [] := List.eq_nil_of_length_eq_zero (by omega)
    have hf : impl_Complex_freePairs.f n [] = some (freeL []) := by unfold impl_Complex_freePairs.f; rw [if_pos hi]
    have hp : impl_Pair.f (freeL []) a1 = some (firstP a1.pP (freeL [])) := by unfold impl_Pair.f; rw [if_pos ⟨by simp [freeL], h2⟩]
    refine Ev.step (f := fun k => some (n, [], acc)) (fun k => ?_) (Ev.now _)
    simp only [QV.impl_Complex_collapse.l0]
    rw [hf, Option.bind_some, hp, Option.bind_some, if_pos (by simp [freeL, firstP])]
  | succ d ih =>
    intro xs acc hi hd ha
    have hlen := freeL_len (xs := xs)
    have hs := isC_small hi
    have hf : impl_Complex_freePairs.f n xs = some (freeL xs) := by unfold impl_Complex_freePairs.f; rw [if_pos hi]
    have hp : impl_Pair.f (freeL xs) a1 = some (firstP a1.pP (freeL xs)) := by unfold impl_Pair.f; rw [if_pos ⟨by omega, h2⟩]
    rw [colG]
    cases hq : (freeL xs).find? a1.pP with
    | none =>
      refine Ev.step (f := fun k => some (n, xs, acc)) (fun k => ?_) (Ev.now _)
      simp only [QV.impl_Complex_collapse.l0]
      rw [hf, Option.bind_some, hp, Option.bind_some, firstP_none hq, if_pos (by omega)]
    | some q =>
      obtain ⟨i, hi1, hi2, hi3⟩ := firstP_some hq
      obtain ⟨_, c2, c3⟩ := col_step hi (List.mem_of_find?_eq_some hq)
      have hl : impl_Complex_less.f n xs [q.f0, q.f1] = some (n, partL n xs (offP [q.f0, q.f1])) := by unfold impl_Complex_less.f; rw [if_pos hi]
      refine Ev.step (fun k => ?_) (ih (partL n xs (offP [q.f0, q.f1])) (acc ++ [q]) c2 (by omega) (by simp; omega))
      simp only [QV.impl_Complex_collapse.l0]
      have hrd : rd_T70 (freeL xs) (i : Int) = q := by rw [← hi3]; rfl
      rw [hf, Option.bind_some, hp, Option.bind_some, hi1, if_neg (by omega), if_pos (by omega), if_pos (by omega), if_pos (by omega), hrd, hl]
      rfl
theorem ev_collapse (a1 : Pred) (h2 : a1.sort = 2) {n : Int} {xs : List Int} (hi : isC n xs = true) :
    Ev (fun k => QV.impl_Complex_collapse.f k n xs a1) (n, (colG a1.pP n (xs.length + 1) xs []).1, (colG a1.pP n (xs.length + 1) xs []).2) := by
  have hs := isC_small hi
  have hl : impl_Complex_less.f n xs [] = some (n, xs) := by
    unfold impl_Complex_less.f
    rw [if_pos hi, partL_eq hi]
    congr 2
    exact List.filter_eq_self.2 (fun x _ => by simp [offP])
  unfold QV.impl_Complex_collapse.f
  rw [hl]
  exact col_loop a1 h2 n _ xs [] hi (Nat.le_refl _) (by simp; omega)
def isColF (n : Int) (xs : List Int) : Bool × Int := if isC n xs then (((colG (fun _ => true) n (xs.length + 1) xs []).1.length : Int) == 1, 0) else (false, 1)
theorem ev_isCol (n : Int) (l : List Int) (hm : l.length ≤ 4611686018427387904) : Ev (fun k => QV.impl_IsCollapsible.f k n l) (isColF n l) := by
  have hcode : impl_complexCode.f n l (fnp 55) = some (codeOf (isC n l) true) := by unfold impl_complexCode.f; rw [if_pos ⟨hm, rfl⟩]; rfl
  unfold QV.impl_IsCollapsible.f isColF
  simp only [hcode, Option.bind_some]
  cases hi : isC n l with
  | false => exact Ev.now _
  | true =>
    simp only [codeOf, if_true]
    refine Ev.bind (f := fun _ t => some (t, (0 : Int))) ?_ (Ev.now _)
    unfold QV.impl_Complex_isCollapsible.f
    exact Ev.bind (ev_collapse (fnp 115) rfl hi) (Ev.now _)
theorem isCollapsibleX_c (m : Int) (A : Option Addr) (c : Nat) (xs : List Int) (w : World) (hr : RC w A xs.length xs) (hn : xs.length ≤ 4611686018427387904) (hc : xs.length ≤ c) :
    Calls Try.prog 48 #[.agg #[.int .i64 m, .slice A xs.length c]] w fun e w' => e = .returned (.tuple #[.bool (isColF m xs).1, .int .i64 (isColF m xs).2]) ∧ Below w.heap.size w w' := by
  obtain ⟨k, hk⟩ := (ev_isCol m xs hn).rounds
  exact QV.impl_IsCollapsible.calls k m A c xs _ _ w hr hc hk

end Go.Proofs.Ytdkoioiiacljeaa.Im
