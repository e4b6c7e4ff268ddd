/- Plain: faces of a full simplex, lists of faces. -/
import Derived.Test.YtdkoioiiacljeaaPuB
import Derived.Test.YtdkoioiiacljeaaImI
namespace Go.Proofs.Ytdkoioiiacljeaa.Pu
set_option linter.unusedVariables false
set_option linter.unusedSimpArgs false
open Go.RowKit Go.Proofs.Ytdkoioiiacljeaa.QS Go.Proofs.Ytdkoioiiacljeaa.Im Go.Proofs.YtdkoioiiacljeaaW.PrintWords Go.Proofs.YtdkoioiiacljeaaW.PrintLast Go.Proofs.YtdkoioiiacljeaaW.PrintMore

theorem full_nat {n : Int} (h1 : 1 ≤ n) (h6 : n ≤ 6) : fullZ n = ((2 ^ n.toNat - 1 : Nat) : Int) := by
  obtain rfl | rfl | rfl | rfl | rfl | rfl : n = 1 ∨ n = 2 ∨ n = 3 ∨ n = 4 ∨ n = 5 ∨ n = 6 := by omega
  all_goals decide +kernel
theorem thoseL_len {n : Int} (h1 : 1 ≤ n) (h6 : n ≤ 6) (p : Int → Bool) : (thoseL n p).length ≤ 64 := by
  refine Nat.le_trans (thoseUpto_len p (2 ^ n.toNat)) ?_
  obtain rfl | rfl | rfl | rfl | rfl | rfl : n = 1 ∨ n = 2 ∨ n = 3 ∨ n = 4 ∨ n = 5 ∨ n = 6 := by omega
  all_goals decide
/-- The faces of a complex are numbers from 1 to full. -/
theorem isC_range {n : Int} {l : List Int} (h : isC n l = true) : ∀ x ∈ l, 1 ≤ x ∧ x ≤ fullZ n := by
  obtain ⟨_, ha, _⟩ := isC_of h
  intro x hx
  obtain ⟨i, hi, rfl⟩ := List.mem_iff_getElem.1 hx
  have h1 := List.all_eq_true.1 ha i (List.mem_range.2 hi)
  simp only [okAt, List.getElem?_eq_getElem hi, Option.getD_some, withinB, Bool.and_eq_true, decide_eq_true_eq] at h1
  exact h1.1
/-- A list of numbers with a property is the ascending list of them. -/
theorem thoseL_eq {n : Int} {p : Int → Bool} {l : List Int} (ha : l.Pairwise (· < ·)) (hm : ∀ x, x ∈ l ↔ (1 ≤ x ∧ x < ((2 ^ n.toNat : Nat) : Int)) ∧ p x = true) : thoseL n p = l := by
  have hasc2 : (thoseL n p).Pairwise (· < ·) := by
    unfold thoseL nums1
    refine List.Pairwise.filter _ ?_
    rw [List.pairwise_map]
    exact List.pairwise_lt_range.imp (fun h => by omega)
  refine List.Perm.eq_of_pairwise (le := (· < ·)) (fun a b _ _ h1 h2 => by omega) hasc2 ha ?_
  refine (List.perm_ext_iff_of_nodup (hasc2.imp (fun h => by omega)) (ha.imp (fun h => by omega))).2 fun x => ?_
  unfold thoseL
  rw [List.mem_filter, mem_nums1, hm]
theorem asc_pair {l : List Int} (ha : Asc l) : l.Pairwise (· < ·) := by
  rw [List.pairwise_iff_getElem]
  intro i j hi hj hij
  have := ha.lt hij hj
  simpa [List.getElem?_eq_getElem hi, List.getElem?_eq_getElem hj] using this
/-- The faces of a complex are those of the numbers 1, 2, .. that lie in it: the list is ascending. -/
theorem isC_those {n : Int} {l : List Int} (h : isC n l = true) : l = thoseL n fun x => decide (x ∈ l) := by
  obtain ⟨⟨h1, h6⟩, ha, _⟩ := isC_of h
  have hr := isC_range h
  have hk := full_nat h1 h6
  have hasc : l.Pairwise (· < ·) := by
    rw [List.pairwise_iff_getElem]
    intro i j hi hj hij
    have := (ascB_asc ha).lt hij hj
    simpa [List.getElem?_eq_getElem hi, List.getElem?_eq_getElem hj] using this
  have hasc2 : (thoseL n fun x => decide (x ∈ l)).Pairwise (· < ·) := by
    unfold thoseL nums1
    refine List.Pairwise.filter _ ?_
    rw [List.pairwise_map]
    exact List.pairwise_lt_range.imp (fun h => by omega)
  refine List.Perm.eq_of_pairwise (le := (· < ·)) (fun a b _ _ h1 h2 => by omega) hasc hasc2 ?_
  refine (List.perm_ext_iff_of_nodup (hasc.imp (fun h => by omega)) (hasc2.imp (fun h => by omega))).2 fun x => ?_
  unfold thoseL
  rw [List.mem_filter, mem_nums1]
  constructor
  · intro hx
    have := hr x hx
    exact ⟨⟨this.1, by omega⟩, by simpa using hx⟩
  · intro hx; simpa using hx.2
theorem isC_len {n : Int} {l : List Int} (h : isC n l = true) : l.length ≤ 64 := by
  obtain ⟨⟨h1, h6⟩, _, _⟩ := isC_of h
  rw [isC_those h]
  exact thoseL_len h1 h6 _

end Go.Proofs.Ytdkoioiiacljeaa.Pu
