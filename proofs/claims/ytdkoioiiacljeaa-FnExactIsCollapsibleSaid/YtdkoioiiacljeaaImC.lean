/- Complexes as lists of faces: parts, what is closed. -/
import Derived.Test.YtdkoioiiacljeaaImO
namespace Go.Proofs.Ytdkoioiiacljeaa.Im
set_option linter.unusedVariables false
set_option linter.unusedSimpArgs false
open Go.RowKit Go.Proofs.YtdkoioiiacljeaaW.PrintWords Go.Proofs.YtdkoioiiacljeaaW.PrintLast Go.Proofs.YtdkoioiiacljeaaW.PrintMore

theorem fullZ_le {n : Int} (h1 : 1 ≤ n) (h6 : n ≤ 6) : 1 ≤ fullZ n ∧ fullZ n ≤ 63 := by
  obtain rfl | rfl | rfl | rfl | rfl | rfl : n = 1 ∨ n = 2 ∨ n = 3 ∨ n = 4 ∨ n = 5 ∨ n = 6 := by omega
  all_goals exact ⟨by decide, by decide⟩

theorem full_nat {n : Int} (h1 : 1 ≤ n) (h6 : n ≤ 6) : fullZ n = ((2 ^ n.toNat - 1 : Nat) : Int) := by
  obtain rfl | rfl | rfl | rfl | rfl | rfl : n = 1 ∨ n = 2 ∨ n = 3 ∨ n = 4 ∨ n = 5 ∨ n = 6 := by omega
  all_goals decide +kernel
theorem thoseL_len {n : Int} (h1 : 1 ≤ n) (h6 : n ≤ 6) (p : Int → Bool) : (thoseL n p).length ≤ 64 := by
  refine Nat.le_trans (thoseUpto_len p (2 ^ n.toNat)) ?_
  obtain rfl | rfl | rfl | rfl | rfl | rfl : n = 1 ∨ n = 2 ∨ n = 3 ∨ n = 4 ∨ n = 5 ∨ n = 6 := by omega
  all_goals decide
/-- The faces of a complex are numbers from 1 to full. -/
theorem isC_range {n : Int} {l : List Int} (h : isC n l = true) : ∀ x ∈ l, 1 ≤ x ∧ x ≤ fullZ n := by
  obtain ⟨_, ha, _⟩ := isC_of h
  intro x hx
  obtain ⟨i, hi, rfl⟩ := List.mem_iff_getElem.1 hx
  have h1 := List.all_eq_true.1 ha i (List.mem_range.2 hi)
  simp only [okAt, List.getElem?_eq_getElem hi, Option.getD_some, withinB, Bool.and_eq_true, decide_eq_true_eq] at h1
  exact h1.1
/-- A list of numbers with a property is the ascending list of them. -/
theorem thoseL_eq {n : Int} {p : Int → Bool} {l : List Int} (ha : l.Pairwise (· < ·)) (hm : ∀ x, x ∈ l ↔ (1 ≤ x ∧ x < ((2 ^ n.toNat : Nat) : Int)) ∧ p x = true) : thoseL n p = l := by
  have hasc2 : (thoseL n p).Pairwise (· < ·) := by
    unfold thoseL nums1
    refine List.Pairwise.filter _ ?_
    rw [List.pairwise_map]
    exact List.pairwise_lt_range.imp (fun h => by omega)
  refine List.Perm.eq_of_pairwise (le := (· < ·)) (fun a b _ _ h1 h2 => by omega) hasc2 ha ?_
  refine (List.perm_ext_iff_of_nodup (hasc2.imp (fun h => by omega)) (ha.imp (fun h => by omega))).2 fun x => ?_
  unfold thoseL
  rw [List.mem_filter, mem_nums1, hm]
theorem asc_pair {l : List Int} (ha : Asc l) : l.Pairwise (· < ·) := by
  rw [List.pairwise_iff_getElem]
  intro i j hi hj hij
  have := ha.lt hij hj
  simpa [List.getElem?_eq_getElem hi, List.getElem?_eq_getElem hj] using this
/-- The faces of a complex are those of the numbers 1, 2, .. that lie in it: the list is ascending. -/
theorem isC_those {n : Int} {l : List Int} (h : isC n l = true) : l = thoseL n fun x => decide (x ∈ l) := by
  obtain ⟨⟨h1, h6⟩, ha, _⟩ := isC_of h
  have hr := isC_range h
  have hk := full_nat h1 h6
  have hasc : l.Pairwise (· < ·) := by
    rw [List.pairwise_iff_getElem]
    intro i j hi hj hij
    have := (ascB_asc ha).lt hij hj
    simpa [List.getElem?_eq_getElem hi, List.getElem?_eq_getElem hj] using this
  have hasc2 : (thoseL n fun x => decide (x ∈ l)).Pairwise (· < ·) := by
    unfold thoseL nums1
    refine List.Pairwise.filter _ ?_
    rw [List.pairwise_map]
    exact List.pairwise_lt_range.imp (fun h => by omega)
  refine List.Perm.eq_of_pairwise (le := (· < ·)) (fun a b _ _ h1 h2 => by omega) hasc hasc2 ?_
  refine (List.perm_ext_iff_of_nodup (hasc.imp (fun h => by omega)) (hasc2.imp (fun h => by omega))).2 fun x => ?_
  unfold thoseL
  rw [List.mem_filter, mem_nums1]
  constructor
  · intro hx
    have := hr x hx
    exact ⟨⟨this.1, by omega⟩, by simpa using hx⟩
  · intro hx; simpa using hx.2
theorem isC_len {n : Int} {l : List Int} (h : isC n l = true) : l.length ≤ 64 := by
  obtain ⟨⟨h1, h6⟩, _, _⟩ := isC_of h
  rw [isC_those h]
  exact thoseL_len h1 h6 _


theorem partL_eq {n : Int} {l : List Int} (h : isC n l = true) (q : Int → Bool) : partL n l q = l.filter q := by
  have hl := isC_those h
  have : partL n l q = (thoseL n fun x => decide (x ∈ l)).filter q := by
    unfold partL thoseL
    rw [List.filter_filter]
    refine List.filter_congr fun x _ => ?_
    rw [Bool.and_comm]; rfl
  rw [this, ← hl]

def outP (c : Int) (x : Int) : Bool := Go.bits .and .i64 x c != c
theorem partL_len {n : Int} {l : List Int} (h : isC n l = true) (q : Int → Bool) : (partL n l q).length ≤ 64 := by
  rw [partL_eq h]
  exact Nat.le_trans (List.length_filter_le _ _) (isC_len h)
theorem partL_congr {n : Int} {l : List Int} (h : isC n l = true) {q r : Int → Bool} (hq : ∀ x ∈ l, q x = r x) : partL n l q = partL n l r := by
  rw [partL_eq h, partL_eq h]
  exact List.filter_congr hq

theorem up_all : ((List.range 64).all fun v => (List.range 64).all fun x => (!aroundP (v : Int) (x : Int)) == (Go.bits .and .i64 (x : Int) (v : Int) == (v : Int) && (x : Int) != (v : Int))) = true := by decide +kernel
def upP (v x : Int) : Bool := Go.bits .and .i64 x v == v && x != v
theorem up_eq {v x : Int} (hv : 0 ≤ v ∧ v ≤ 63) (hx : 0 ≤ x ∧ x ≤ 63) : (!aroundP v x) = upP v x := by
  obtain ⟨a, rfl⟩ := Int.eq_ofNat_of_zero_le hv.1
  obtain ⟨b, rfl⟩ := Int.eq_ofNat_of_zero_le hx.1
  have h2 := List.all_eq_true.1 (List.all_eq_true.1 up_all a (List.mem_range.2 (by omega))) b (List.mem_range.2 (by omega))
  exact eq_of_beq h2
theorem around_up {n v : Int} {l : List Int} (h : isC n l = true) (hv : v ∈ l) : aroundL l v = l.filter (upP v) := by
  obtain ⟨⟨h1, h6⟩, _, _⟩ := isC_of h
  have hF := fullZ_le h1 h6
  have hr := isC_range h
  refine List.filter_congr fun x hx => up_eq ?_ ?_
  · have := hr v hv; omega
  · have := hr x hx; omega

theorem self_all : ((List.range 64).all fun v => Go.bits .and .i64 (v : Int) (v : Int) == (v : Int)) = true := by decide +kernel
theorem pair_off {n v y : Int} {l : List Int} (hi : isC n l = true) (hv : v ∈ l) (h : aroundL l v = [y]) : partL n l (outP v) = partL n l (offP [v, y]) := by
  obtain ⟨⟨h1, h6⟩, _, _⟩ := isC_of hi
  have hF := fullZ_le h1 h6
  have hr := isC_range hi
  have hu := around_up hi hv
  rw [h] at hu
  refine partL_congr hi fun x hx => ?_
  have hy : y ∈ l.filter (upP v) := by rw [← hu]; simp
  have hyu := (List.mem_filter.1 hy).2
  by_cases hxv : x = v
  · subst hxv
    have hx2 := hr x hx
    obtain ⟨a, rfl⟩ := Int.eq_ofNat_of_zero_le (show 0 ≤ x by omega)
    have h3 := eq_of_beq (List.all_eq_true.1 self_all a (List.mem_range.2 (by omega)))
    simp [outP, offP, h3]
  · by_cases hxy : x = y
    · subst hxy
      simp only [upP, Bool.and_eq_true] at hyu
      have h3 := eq_of_beq hyu.1
      simp [outP, offP, h3]
    · have h4 : offP [v, y] x = true := by simp [offP, hxv, hxy]
      rw [h4]
      cases h5 : outP v x with
      | true => rfl
      | false =>
        exfalso
        have h6 : Go.bits .and .i64 x v = v := by simpa [outP] using h5
        have : x ∈ l.filter (upP v) := List.mem_filter.2 ⟨hx, by simp [upP, h6, hxv]⟩
        rw [← hu] at this
        simp [hxy] at this

/-- A part of a complex that has, with a face, all faces that border it, is a complex. -/
theorem isC_filter {n : Int} {l : List Int} (h : isC n l = true) (q : Int → Bool) (hq : ∀ x ∈ l, q x = true → ∀ y ∈ bordersL x, q y = true) : isC n (l.filter q) = true := by
  obtain ⟨h16, ha, hc⟩ := isC_of h
  have hr := isC_range h
  have hp : (l.filter q).Pairwise (· < ·) := List.Pairwise.filter _ (asc_pair (ascB_asc ha))
  have hc' := List.all_eq_true.1 hc
  rw [isC, Bool.and_eq_true, Bool.and_eq_true]
  refine ⟨by simp [withinB, h16.1, h16.2], List.all_eq_true.2 fun i hi => ?_, List.all_eq_true.2 fun x hx => List.all_eq_true.2 fun y hy => ?_⟩
  · have hi := List.mem_range.1 hi
    have hg : (l.filter q)[i]?.getD 0 = (l.filter q)[i] := by rw [List.getElem?_eq_getElem hi]; rfl
    have hm := hr _ (List.mem_filter.1 (List.getElem_mem hi)).1
    rw [okAt, hg, Bool.and_eq_true]
    refine ⟨by simp [withinB, hm.1, hm.2], ?_⟩
    rcases Nat.eq_zero_or_pos i with hz | hz
    · subst hz; rfl
    · rw [List.pairwise_iff_getElem] at hp
      have h1 := hp (i - 1) i (by omega) hi (by omega)
      rw [List.getElem?_eq_getElem (show i - 1 < (l.filter q).length by omega)]
      simp [h1]
  · obtain ⟨hxl, hxq⟩ := List.mem_filter.1 hx
    have := List.all_eq_true.1 (hc' x hxl) y hy
    exact decide_eq_true (List.mem_filter.2 ⟨of_decide_eq_true this, hq x hxl hxq y hy⟩)
theorem outP_all : ((List.range 64).all fun c => (List.range 64).all fun x => !(outP (c : Int) (x : Int)) || (bordersL (x : Int)).all fun y => outP (c : Int) y) = true := by decide +kernel
theorem isC_out {n c : Int} {l : List Int} (h : isC n l = true) (h0 : 0 ≤ c) (h6 : c ≤ 63) : isC n (partL n l (outP c)) = true := by
  rw [partL_eq h]
  obtain ⟨⟨h1, h2⟩, _, _⟩ := isC_of h
  have hF := fullZ_le h1 h2
  refine isC_filter h _ fun x hx hq y hy => ?_
  have hr := isC_range h x hx
  obtain ⟨a, rfl⟩ := Int.eq_ofNat_of_zero_le h0
  obtain ⟨b, rfl⟩ := Int.eq_ofNat_of_zero_le (show 0 ≤ x by omega)
  have h3 := List.all_eq_true.1 (List.all_eq_true.1 outP_all a (List.mem_range.2 (by omega))) b (List.mem_range.2 (by omega))
  rw [hq, Bool.not_true, Bool.false_or] at h3
  exact List.all_eq_true.1 h3 y hy

end Go.Proofs.Ytdkoioiiacljeaa.Im
