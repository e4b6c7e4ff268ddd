/- Plain: parts of complexes, faces left out. -/
import Derived.Test.YtdkoioiiacljeaaPuC
import Derived.Test.YtdkoioiiacljeaaImL
import Derived.Test.YtdkoioiiacljeaaQSgl01Take
namespace Go.Proofs.Ytdkoioiiacljeaa.Pu
set_option linter.unusedVariables false
set_option linter.unusedSimpArgs false
open Go.RowKit Go.Proofs.Ytdkoioiiacljeaa.QS Go.Proofs.Ytdkoioiiacljeaa.Im Go.Proofs.YtdkoioiiacljeaaW.PrintWords Go.Proofs.YtdkoioiiacljeaaW.PrintLast Go.Proofs.YtdkoioiiacljeaaW.PrintMore

theorem partL_eq {n : Int} {l : List Int} (h : isC n l = true) (q : Int → Bool) : partL n l q = l.filter q := by
  have hl := isC_those h
  have : partL n l q = (thoseL n fun x => decide (x ∈ l)).filter q := by
    unfold partL thoseL
    rw [List.filter_filter]
    refine List.filter_congr fun x _ => ?_
    rw [Bool.and_comm]; rfl
  rw [this, ← hl]

def outP (c : Int) (x : Int) : Bool := Go.bits .and .i64 x c != c
theorem take_loop (n c : Int) (l : List Int) (hl : l.length ≤ 64) : ∀ d (i : Nat) (acc : List Int), l.length - i = d → i ≤ l.length → acc.length ≤ 100000 + i →
    Ev (fun k => spec_l01Take.l0 k c i n l n acc) (n, acc ++ (l.drop i).filter (outP c)) := by
  intro d
  induction d with
  | zero =>
    intro i acc hd hi ha
    rw [List.drop_eq_nil_of_le (by omega), List.filter_nil, List.append_nil]
    refine Ev.step (f := fun k => some (n, acc)) (fun k => ?_) (Ev.now _)
    simp only [spec_l01Take.l0]; rw [if_neg (by omega)]
  | succ d ih =>
    intro i acc hd hi ha
    have hi' : i < l.length := by omega
    rw [List.drop_eq_getElem_cons hi']
    by_cases hc : Go.bits .and .i64 l[i] c = c
    · refine Ev.step (f := fun k => spec_l01Take.l0 k c ((i + 1 : Nat) : Int) n l n acc) (fun k => ?_) ?_
      · simp only [spec_l01Take.l0]
        rw [if_pos (by omega), if_pos (by omega), rd_at hi', if_pos hc, w64 (by omega) (by omega), show ((i + 1 : Nat) : Int) = (i : Int) + 1 by omega]
      · rw [List.filter_cons_of_neg (by simp [outP, hc])]
        exact ih (i + 1) acc (by omega) (by omega) (by omega)
    · refine Ev.step (f := fun k => spec_l01Take.l0 k c ((i + 1 : Nat) : Int) n l n (acc ++ [l[i]])) (fun k => ?_) ?_
      · simp only [spec_l01Take.l0]
        rw [if_pos (by omega), if_pos (by omega), rd_at hi', if_neg hc, if_pos (by omega), w64 (by omega) (by omega), show ((i + 1 : Nat) : Int) = (i : Int) + 1 by omega]
      · rw [List.filter_cons_of_pos (by simp [outP, hc])]
        have := ih (i + 1) (acc ++ [l[i]]) (by omega) (by omega) (by rw [List.length_append]; simp; omega)
        rw [List.append_assoc] at this
        exact this
theorem ev_take {n : Int} {l : List Int} (h : isC n l = true) (c : Int) : Ev (fun k => spec_l01Take.f k n l c) (n, partL n l (outP c)) := by
  have := take_loop n c l (isC_len h) _ 0 [] rfl (Nat.zero_le _) (by simp)
  rw [List.drop_zero, List.nil_append] at this
  rw [partL_eq h]
  exact this
theorem partL_len {n : Int} {l : List Int} (h : isC n l = true) (q : Int → Bool) : (partL n l q).length ≤ 64 := by
  rw [partL_eq h]
  exact Nat.le_trans (List.length_filter_le _ _) (isC_len h)
theorem partL_congr {n : Int} {l : List Int} (h : isC n l = true) {q r : Int → Bool} (hq : ∀ x ∈ l, q x = r x) : partL n l q = partL n l r := by
  rw [partL_eq h, partL_eq h]
  exact List.filter_congr hq

end Go.Proofs.Ytdkoioiiacljeaa.Pu
