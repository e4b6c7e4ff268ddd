import Derived.Test.YtdkoioiiacljeaaImQ
import Derived.Test.YtdkoioiiacljeaaExAround
import Derived.Test.YtdkoioiiacljeaaQPx1
/- freePairs, FreePairs. -/
namespace Go.Proofs.Ytdkoioiiacljeaa.Im
set_option linter.unusedVariables false
set_option linter.unusedSimpArgs false
open Go.RowKit Go.Shelf Go.Proofs.Ytdkoioiiacljeaa.Kp Go.Proofs.Ytdkoioiiacljeaa.Ext Go.Proofs.YtdkoioiiacljeaaW.PrintWords Go.Proofs.YtdkoioiiacljeaaW.PrintLast Go.Proofs.YtdkoioiiacljeaaW.PrintMore

/-- The free pair of a face, if it is free. -/
def onePr (xs : List Int) (f : Int) : Option Pr := if ((aroundL xs f).length : Int) = 1 then some ⟨f, rd (aroundL xs f) 0⟩ else none
def freeL (xs : List Int) : List Pr := xs.filterMap (onePr xs)
theorem freeP_loop (n : Int) (l : List Int) (hi : isC n l = true) : ∀ d (i : Nat) (acc : List Pr), l.length - i = d → i ≤ l.length → acc.length ≤ i →
    Ev (fun k => QP.impl_Complex_freePairs.l0 k acc l (l.length : Int) i n l) (acc ++ (l.drop i).filterMap (onePr l)) := by
  have hs := isC_small hi
  intro d
  induction d with
  | zero =>
    intro i acc hd hil ha
    rw [List.drop_eq_nil_of_le (by omega), List.filterMap_nil, List.append_nil]
    refine Ev.step (f := fun k => some acc) (fun k => ?_) (Ev.now _)
    simp only [QP.impl_Complex_freePairs.l0]; rw [if_neg (by omega)]
  | succ d ih =>
    intro i acc hd hil ha
    have hi' : i < l.length := by omega
    have hw : wrap64 ((i : Int) + 1) = ((i + 1 : Nat) : Int) := by rw [w64' (by omega) (by omega)]; omega
    rw [List.drop_eq_getElem_cons hi']
    have har : impl_Complex_around.f n l l[i] = some (aroundL l l[i]) := by unfold impl_Complex_around.f; rw [if_pos hi]
    by_cases h1 : ((aroundL l l[i]).length : Int) = 1
    · have he : onePr l l[i] = some ⟨l[i], rd (aroundL l l[i]) 0⟩ := by rw [onePr, if_pos h1]
      rw [List.filterMap_cons_some he]
      have := ih (i + 1) (acc ++ [⟨l[i], rd (aroundL l l[i]) 0⟩]) (by omega) (by omega) (by simp; omega)
      rw [List.append_assoc] at this
      refine Ev.step (fun k => ?_) this
      simp only [QP.impl_Complex_freePairs.l0]
      rw [if_pos (by omega), if_pos (by omega), if_pos (by omega), rd_at' hi', har, Option.bind_some, if_pos h1, if_pos (by omega), if_pos (by omega), hw]
    · have he : onePr l l[i] = none := by rw [onePr, if_neg h1]
      rw [List.filterMap_cons_none he]
      refine Ev.step (fun k => ?_) (ih (i + 1) acc (by omega) (by omega) (by omega))
      simp only [QP.impl_Complex_freePairs.l0]
      rw [if_pos (by omega), if_pos (by omega), if_pos (by omega), rd_at' hi', har, Option.bind_some, if_neg h1, hw]
theorem ev_freePairs {n : Int} {l : List Int} (hi : isC n l = true) : Ev (fun k => QP.impl_Complex_freePairs.f k n l) (freeL l) := by
  have := freeP_loop n l hi _ 0 [] rfl (Nat.zero_le _) (Nat.zero_le _)
  rw [List.drop_zero, List.nil_append] at this
  exact this
theorem freePairs_c (m : Int) (A : Option Addr) (c : Nat) (xs : List Int) (w : World) (hr : RC w A xs.length xs) (hc : xs.length ≤ c) (hi : isC m xs = true) :
    Calls Try.prog 75 #[.agg #[.int .i64 m, .slice A xs.length c]] w fun e w' => ∃ v, e = .returned v ∧ Kd.R k70 70 w' w.heap.size (fun _ => True) v (freeL xs) ∧ Below w.heap.size w w' := by
  obtain ⟨k, hk⟩ := (ev_freePairs hi).rounds
  exact QP.impl_Complex_freePairs.calls k m A c xs _ w hr hc hk
def freePairsF (n : Int) (l : List Int) : List Pr × Int := if isC n l then (freeL l, 0) else ([], 1)
theorem ev_freePairsX (n : Int) (l : List Int) (hm : l.length ≤ 4611686018427387904) : Ev (fun k => QP.impl_FreePairs.f k n l) (freePairsF n l) := by
  have hcode : impl_complexCode.f n l (fnp 55) = some (codeOf (isC n l) true) := by unfold impl_complexCode.f; rw [if_pos ⟨hm, rfl⟩]; rfl
  unfold QP.impl_FreePairs.f freePairsF
  simp only [hcode, Option.bind_some]
  cases hi : isC n l with
  | false => exact Ev.now _
  | true =>
    simp only [codeOf, if_true]
    exact Ev.bind (ev_freePairs hi) (Ev.now _)
theorem freePairsX_c (m : Int) (A : Option Addr) (c : Nat) (xs : List Int) (w : World) (hr : RC w A xs.length xs) (hn : xs.length ≤ 4611686018427387904) (hc : xs.length ≤ c) :
    Calls Try.prog 37 #[.agg #[.int .i64 m, .slice A xs.length c]] w fun e w' => ∃ v, e = .returned (.tuple #[v, .int .i64 (freePairsF m xs).2]) ∧ Kd.R k70 70 w' w.heap.size (fun _ => True) v (freePairsF m xs).1 ∧ Below w.heap.size w w' := by
  obtain ⟨k, hk⟩ := (ev_freePairsX m xs hn).rounds
  exact QP.impl_FreePairs.calls k m A c xs _ _ w hr hc hk

end Go.Proofs.Ytdkoioiiacljeaa.Im
