/- count, NumbersH: what the printed functions compute. -/
import Derived.Test.YtdkoioiiacljeaaImQ
import Derived.Test.YtdkoioiiacljeaaQMx1
namespace Go.Proofs.Ytdkoioiiacljeaa.Im
set_option linter.unusedVariables false
set_option linter.unusedSimpArgs false
open Go.RowKit Go.Shelf Go.Proofs.Ytdkoioiiacljeaa.Ext Go.Proofs.YtdkoioiiacljeaaW.PrintWords Go.Proofs.YtdkoioiiacljeaaW.PrintLast Go.Proofs.YtdkoioiiacljeaaW.PrintMore

theorem dimM_all : ((List.range 64).all fun f => QM.impl_dimension.f (f : Int) == some (onesZ (f : Int) - 1)) = true := by decide +kernel
theorem dimM_eq {x : Int} (h0 : 0 ≤ x) (h6 : x ≤ 63) : QM.impl_dimension.f x = some (onesZ x - 1) := by
  obtain ⟨m, rfl⟩ := Int.eq_ofNat_of_zero_le h0
  exact eq_of_beq (List.all_eq_true.1 dimM_all m (List.mem_range.2 (by omega)))
theorem dimM_loop (l : List Int) (hr : ∀ x ∈ l, 1 ≤ x ∧ x ≤ 63) (hm : l.length ≤ 4611686018427387904) :
    ∀ d (i : Nat) (a : Int), l.length - i = d → i ≤ l.length → Ev (fun k => QM.impl_Complex_dimension.l0 k a l (l.length : Int) i) ((l.drop i).foldl (fun a x => max a (onesZ x - 1)) a) := by
  intro d
  induction d with
  | zero =>
    intro i a hd hi
    rw [List.drop_eq_nil_of_le (by omega)]
    refine Ev.step (f := fun k => some a) (fun k => ?_) (Ev.now _)
    simp only [QM.impl_Complex_dimension.l0]; rw [if_neg (by omega)]
  | succ d ih =>
    intro i a hd hi
    have hi' : i < l.length := by omega
    have hx := hr _ (List.getElem_mem hi')
    rw [List.drop_eq_getElem_cons hi', List.foldl_cons]
    refine Ev.step (f := fun k => QM.impl_Complex_dimension.l0 k (max a (onesZ l[i] - 1)) l (l.length : Int) ((i + 1 : Nat) : Int)) (fun k => ?_) (ih (i + 1) _ (by omega) (by omega))
    simp only [QM.impl_Complex_dimension.l0]
    rw [if_pos (by omega), if_pos (by omega), if_pos (by omega), rd_at' hi', dimM_eq (by omega) (by omega)]
    simp only [Option.bind_some]
    rw [show wrap64 ((i : Int) + 1) = ((i + 1 : Nat) : Int) by rw [w64' (by omega) (by omega)]; omega, show mx a (onesZ l[i] - 1) = max a (onesZ l[i] - 1) by unfold mx; split <;> omega]

/-- How many faces of l have j + 1 vertices, for each j below D. -/
def cntL (D : Nat) (l : List Int) : List Int := (List.range D).map fun j => ((l.filter fun x => onesZ x == ((j + 1 : Nat) : Int)).length : Int)
theorem cntL_len (D : Nat) (l : List Int) : (cntL D l).length = D := by simp [cntL]
theorem cntL_at {D j : Nat} (l : List Int) (h : j < D) : (cntL D l)[j]? = some ((l.filter fun x => onesZ x == ((j + 1 : Nat) : Int)).length : Int) := by simp [cntL, h]
theorem cntL_nil (D : Nat) : cntL D [] = List.replicate D 0 := by
  refine List.ext_getElem? fun j => ?_
  rcases Nat.lt_or_ge j D with h | h
  · rw [cntL_at [] h]; simp [h]
  · rw [List.getElem?_eq_none (by rw [cntL_len]; exact h), List.getElem?_eq_none (by simp; exact h)]
theorem cntL_snoc {D d : Nat} (l : List Int) (x : Int) (hd : d < D) (hx : onesZ x = ((d + 1 : Nat) : Int)) : (cntL D l).set d ((cntL D l)[d]?.getD 0 + 1) = cntL D (l ++ [x]) := by
  refine List.ext_getElem? fun j => ?_
  rcases Nat.lt_or_ge j D with h | h
  · rw [cntL_at (l ++ [x]) h, List.filter_append, List.length_append, cntL_at l hd]
    by_cases e : d = j
    · subst e
      rw [List.getElem?_set_self (by rw [cntL_len]; exact h)]
      simp [hx]
    · rw [List.getElem?_set_ne e, cntL_at l h]
      have : (onesZ x == ((j + 1 : Nat) : Int)) = false := by rw [hx]; simp; omega
      rw [List.filter_cons_of_neg (a := x) (l := []) (by rw [this]; exact Bool.false_ne_true), List.filter_nil]; simp
  · rw [List.getElem?_eq_none (by rw [List.length_set, cntL_len]; exact h), List.getElem?_eq_none (by rw [cntL_len]; exact h)]
theorem cntL_le {D d : Nat} (l : List Int) : (cntL D l)[d]?.getD 0 ≤ (l.length : Int) ∧ 0 ≤ (cntL D l)[d]?.getD 0 := by
  rcases Nat.lt_or_ge d D with h | h
  · rw [cntL_at l h]
    have := List.length_filter_le (fun x => onesZ x == ((d + 1 : Nat) : Int)) l
    simp only [Option.getD_some]; omega
  · rw [List.getElem?_eq_none (by rw [cntL_len]; exact h)]; simp
theorem count_loop (D : Nat) (l : List Int) (hr : ∀ x ∈ l, (1 ≤ x ∧ x ≤ 63) ∧ 1 ≤ onesZ x ∧ onesZ x ≤ (D : Int)) (hm : l.length ≤ 1048576) :
    ∀ d (i : Nat), l.length - i = d → i ≤ l.length → Ev (fun k => QM.impl_Complex_count.l0 k (cntL D (l.take i)) l (l.length : Int) i) (cntL D l) := by
  intro d
  induction d with
  | zero =>
    intro i hd hi
    rw [List.take_of_length_le (by omega)]
    refine Ev.step (f := fun k => some (cntL D l)) (fun k => ?_) (Ev.now _)
    simp only [QM.impl_Complex_count.l0]; rw [if_neg (by omega)]
  | succ d ih =>
    intro i hd hi
    have hi' : i < l.length := by omega
    obtain ⟨hx, hx1, hx2⟩ := hr _ (List.getElem_mem hi')
    obtain ⟨e, he⟩ : ∃ e : Nat, onesZ l[i] = ((e + 1 : Nat) : Int) := ⟨(onesZ l[i]).toNat - 1, by omega⟩
    have heD : e < D := by omega
    have hle := cntL_le (D := D) (d := e) (l.take i)
    rw [List.length_take] at hle
    have hlen := cntL_len D (l.take i)
    refine Ev.step (f := fun k => QM.impl_Complex_count.l0 k (cntL D (l.take (i + 1))) l (l.length : Int) ((i + 1 : Nat) : Int)) (fun k => ?_) (ih (i + 1) (by omega) (by omega))
    simp only [QM.impl_Complex_count.l0]
    rw [if_pos (by omega), if_pos (by omega), if_pos (by omega), rd_at' hi', dimM_eq (by omega) (by omega)]
    simp only [Option.bind_some]
    rw [he, show ((e + 1 : Nat) : Int) - 1 = (e : Int) by omega, if_pos (by omega), if_pos (by omega)]
    have hrd : rd (cntL D (l.take i)) (e : Int) = (cntL D (l.take i))[e]?.getD 0 := by simp [rd, List.getD_eq_getElem?_getD]
    rw [hrd, w64' (by omega) (by omega), Int.toNat_natCast, cntL_snoc (l.take i) l[i] heD he, show wrap64 ((i : Int) + 1) = ((i + 1 : Nat) : Int) by rw [w64' (by omega) (by omega)]; omega]
    rw [List.take_add_one, List.getElem?_eq_getElem hi']
    rfl

/-! ### the numbers h -/
def partH (h : List Int) (i : Nat) : List Int := (List.range (h.length + 1)).map fun j => h[j]?.getD 0 - (if j = 0 ∨ i < j then 0 else h[j - 1]?.getD 0)
def nextH (h : List Int) (c : Int) : List Int := (List.range (h.length + 1)).map fun j => h[j]?.getD 0 - (if j = 0 then 0 else h[j - 1]?.getD 0) + (if j = h.length then c else 0)
theorem partH_len (h : List Int) (i : Nat) : (partH h i).length = h.length + 1 := by simp [partH]
theorem nextH_len (h : List Int) (c : Int) : (nextH h c).length = h.length + 1 := by simp [nextH]
theorem partH_at {h : List Int} {i j : Nat} (hj : j < h.length + 1) : (partH h i)[j]? = some (h[j]?.getD 0 - (if j = 0 ∨ i < j then 0 else h[j - 1]?.getD 0)) := by simp [partH, hj]
theorem nextH_at {h : List Int} {c : Int} {j : Nat} (hj : j < h.length + 1) : (nextH h c)[j]? = some (h[j]?.getD 0 - (if j = 0 then 0 else h[j - 1]?.getD 0) + (if j = h.length then c else 0)) := by simp [nextH, hj]
theorem partH_zero (h : List Int) : partH h 0 = h ++ [0] := by
  refine List.ext_getElem? fun j => ?_
  rcases Nat.lt_or_ge j (h.length + 1) with hj | hj
  · rw [partH_at hj, if_pos (by omega)]
    rcases Nat.lt_or_ge j h.length with h1 | h1
    · rw [List.getElem?_append_left h1, List.getElem?_eq_getElem h1]; simp
    · obtain rfl : j = h.length := by omega
      simp
  · rw [List.getElem?_eq_none (by rw [partH_len]; exact hj), List.getElem?_eq_none (by simp; omega)]
theorem partH_succ {h : List Int} {i : Nat} (hi : i < h.length) : (partH h i).set (i + 1) ((partH h i)[i + 1]?.getD 0 - h[i]?.getD 0) = partH h (i + 1) := by
  refine List.ext_getElem? fun j => ?_
  rcases Nat.lt_or_ge j (h.length + 1) with hj | hj
  · by_cases e : i + 1 = j
    · subst e
      rw [List.getElem?_set_self (by rw [partH_len]; exact hj), partH_at hj, partH_at hj]
      rw [if_pos (by omega), if_neg (by omega)]
      simp
    · rw [List.getElem?_set_ne e, partH_at hj, partH_at hj]
      by_cases c : j = 0 ∨ i < j
      · rw [if_pos c, if_pos (by omega)]
      · rw [if_neg c, if_neg (by omega)]
  · rw [List.getElem?_eq_none (by rw [List.length_set, partH_len]; exact hj), List.getElem?_eq_none (by rw [partH_len]; exact hj)]
theorem partH_end (h : List Int) (c : Int) : (partH h h.length).set h.length ((partH h h.length)[h.length]?.getD 0 + c) = nextH h c := by
  refine List.ext_getElem? fun j => ?_
  rcases Nat.lt_or_ge j (h.length + 1) with hj | hj
  · by_cases e : h.length = j
    · subst e
      rw [List.getElem?_set_self (by rw [partH_len]; exact hj), partH_at hj, nextH_at hj, if_pos rfl]
      by_cases c0 : h.length = 0
      · rw [if_pos (.inl c0), if_pos c0]; rfl
      · rw [if_neg (by omega), if_neg c0]; rfl
    · rw [List.getElem?_set_ne e, partH_at hj, nextH_at hj]
      have e2 : ¬ j = h.length := fun x => e x.symm
      by_cases c0 : j = 0
      · have c1 : j = 0 ∨ h.length < j := .inl c0
        rw [if_pos c1, if_pos c0, if_neg e2, Int.add_zero]
      · have c1 : ¬ (j = 0 ∨ h.length < j) := by omega
        rw [if_neg c1, if_neg c0, if_neg e2, Int.add_zero]
  · rw [List.getElem?_eq_none (by rw [List.length_set, partH_len]; exact hj), List.getElem?_eq_none (by rw [nextH_len]; exact hj)]
theorem rdZ (l : List Int) (i : Nat) : rd l (i : Int) = l[i]?.getD 0 := by simp [rd, List.getD_eq_getElem?_getD]

theorem num_l1 (cs : List Int) (lcs : Int) (t : Nat) (ht : t ≤ 100) (h : List Int) (hl : h.length ≤ 100) (B : Int) (hB0 : 0 ≤ B) (hB : B ≤ 1000000000) (hb : ∀ j : Nat, -B ≤ h[j]?.getD 0 ∧ h[j]?.getD 0 ≤ B) (c : Int) (hc : 0 ≤ c ∧ c ≤ 1048576) (R : List Int × Int)
    (hR : Ev (fun k => QM.impl_NumbersH.l0 k (nextH h c) cs lcs ((t + 1 : Nat) : Int)) R) : ∀ d (i : Nat), h.length - i = d → i ≤ h.length →
    Ev (fun k => QM.impl_NumbersH.l1 k c (partH h i) cs lcs t h (h.length : Int) i) R := by
  intro d
  induction d with
  | zero =>
    intro i hd hi
    obtain rfl : i = h.length := by omega
    refine Ev.step (f := fun k => QM.impl_NumbersH.l0 k (nextH h c) cs lcs ((t + 1 : Nat) : Int)) (fun k => ?_) hR
    simp only [QM.impl_NumbersH.l1]
    have hlen := partH_len h h.length
    have hw : wrap64 (((partH h h.length).length : Int) - 1) = (h.length : Int) := by rw [w64' (by omega) (by omega)]; omega
    have hat := partH_at (h := h) (i := h.length) (j := h.length) (by omega)
    have h1 := hb h.length
    have h2 := hb (h.length - 1)
    have hval : -2000000000 ≤ (partH h h.length)[h.length]?.getD 0 ∧ (partH h h.length)[h.length]?.getD 0 ≤ 2000000000 := by
      rw [hat]; simp only [Option.getD_some]; split <;> omega
    rw [if_neg (by omega), hw, if_pos (by omega), if_pos (by omega), rdZ, w64' (by omega) (by omega), Int.toNat_natCast, partH_end, w64' (by omega) (by omega), show (t : Int) + 1 = ((t + 1 : Nat) : Int) by omega]
  | succ d ih =>
    intro i hd hi
    have hi' : i < h.length := by omega
    refine Ev.step (f := fun k => QM.impl_NumbersH.l1 k c (partH h (i + 1)) cs lcs t h (h.length : Int) ((i + 1 : Nat) : Int)) (fun k => ?_) (ih (i + 1) (by omega) (by omega))
    simp only [QM.impl_NumbersH.l1]
    have hlen := partH_len h i
    have hw : wrap64 ((i : Int) + 1) = ((i + 1 : Nat) : Int) := by rw [w64' (by omega) (by omega)]; omega
    have hat := partH_at (h := h) (i := i) (j := i + 1) (by omega)
    have h1 := hb (i + 1)
    have h2 := hb i
    have hval : -2000000000 ≤ (partH h i)[i + 1]?.getD 0 ∧ (partH h i)[i + 1]?.getD 0 ≤ 2000000000 := by
      rw [hat, if_pos (by omega)]; simp only [Option.getD_some]; omega
    rw [if_pos (by omega), if_pos (by omega), if_pos (by omega), hw, if_pos (by omega), if_pos (by omega), rdZ, rdZ, w64' (by omega) (by omega), Int.toNat_natCast, partH_succ hi']

def hI (cs : List Int) : List Int := cs.foldl nextH [1]
theorem next_bound {h : List Int} {c B : Int} (hB : ∀ j : Nat, -B ≤ h[j]?.getD 0 ∧ h[j]?.getD 0 ≤ B) (hc : 0 ≤ c ∧ c ≤ 1048576) (h0 : 0 ≤ B) : ∀ j : Nat, -(2 * B + 1048576) ≤ (nextH h c)[j]?.getD 0 ∧ (nextH h c)[j]?.getD 0 ≤ 2 * B + 1048576 := by
  intro j
  rcases Nat.lt_or_ge j (h.length + 1) with hj | hj
  · rw [nextH_at hj]
    have h1 := hB j
    have h2 := hB (j - 1)
    simp only [Option.getD_some]
    split <;> split <;> omega
  · rw [List.getElem?_eq_none (by rw [nextH_len]; exact hj)]
    simp only [Option.getD_none]; omega
theorem num_l0 (cs : List Int) (hl : cs.length ≤ 6) (hc : ∀ c ∈ cs, 0 ≤ c ∧ c ≤ 1048576) : ∀ d (t : Nat) (h : List Int) (B : Int), cs.length - t = d → t ≤ cs.length → h.length ≤ t + 1 → 0 ≤ B → (B + 1048576) * 2 ^ d ≤ 500000000 → (∀ j : Nat, -B ≤ h[j]?.getD 0 ∧ h[j]?.getD 0 ≤ B) →
    Ev (fun k => QM.impl_NumbersH.l0 k h cs (cs.length : Int) t) ((cs.drop t).foldl nextH h, 0) := by
  intro d
  induction d with
  | zero =>
    intro t h B hd ht hh h0 hB hb
    rw [List.drop_eq_nil_of_le (by omega)]
    refine Ev.step (f := fun k => some (h, 0)) (fun k => ?_) (Ev.now _)
    simp only [QM.impl_NumbersH.l0]; rw [if_neg (by omega)]
  | succ d ih =>
    intro t h B hd ht hh h0 hB hb
    have ht' : t < cs.length := by omega
    have hcc := hc _ (List.getElem_mem ht')
    have hp : (0 : Int) < 2 ^ d := Int.pow_pos (by omega)
    have hp1 : (1 : Int) ≤ 2 ^ d := by omega
    have hB2 : (B + 1048576) * 2 ^ (d + 1) = (2 * (B + 1048576)) * 2 ^ d := by rw [Int.pow_succ, Int.mul_comm (2 ^ d) 2, ← Int.mul_assoc, Int.mul_comm (B + 1048576) 2]
    have hB3 : 2 * (B + 1048576) ≤ 500000000 := by
      have := Int.mul_le_mul_of_nonneg_left hp1 (show (0 : Int) ≤ 2 * (B + 1048576) by omega)
      omega
    rw [List.drop_eq_getElem_cons ht', List.foldl_cons]
    refine Ev.step (f := fun k => QM.impl_NumbersH.l1 k cs[t] (partH h 0) cs (cs.length : Int) t h (h.length : Int) ((0 : Nat) : Int)) (fun k => ?_) ?_
    · simp only [QM.impl_NumbersH.l0]
      rw [if_pos (by omega), if_pos (by omega), if_pos (by omega), rd_at' ht', partH_zero]
      unfold slices_Clone_int64_int64.f
      rw [if_pos (by omega)]
      simp only [Option.bind_some]
      rw [if_pos (by omega)]
      rfl
    · refine num_l1 cs (cs.length : Int) t (by omega) h (by omega) B h0 (by omega) hb cs[t] hcc _ ?_ _ 0 rfl (Nat.zero_le _)
      exact ih (t + 1) (nextH h cs[t]) (2 * B + 1048576) (by omega) (by omega) (by rw [nextH_len]; omega) (by omega) (by rw [hB2] at hB; rw [show 2 * B + 1048576 + 1048576 = 2 * (B + 1048576) by omega]; exact hB) (next_bound hb hcc h0)

theorem fold_max' (g : Int → Int) : ∀ (l : List Int) (a : Int), a ≤ l.foldl (fun a x => max a (g x)) a ∧ (∀ x ∈ l, g x ≤ l.foldl (fun a x => max a (g x)) a) ∧ (l.foldl (fun a x => max a (g x)) a = a ∨ ∃ x ∈ l, g x = l.foldl (fun a x => max a (g x)) a)
  | [], a => ⟨Int.le_refl _, fun x hx => (by cases hx), .inl rfl⟩
  | y :: l, a => by
    obtain ⟨h1, h2, h3⟩ := fold_max' g l (max a (g y))
    rw [List.foldl_cons]
    refine ⟨by omega, fun x hx => ?_, ?_⟩
    · rcases List.mem_cons.1 hx with rfl | hx
      · omega
      · exact h2 x hx
    · rcases h3 with h3 | ⟨x, hx, h3⟩
      · by_cases hm : max a (g y) = a
        · exact .inl (h3.trans hm)
        · exact .inr ⟨y, List.mem_cons_self, by omega⟩
      · exact .inr ⟨x, List.mem_cons_of_mem _ hx, h3⟩
theorem ones1_all : ((List.range 64).all fun f => f == 0 || decide (1 ≤ onesZ (f : Int))) = true := by decide +kernel
theorem ones1 {x : Int} (h : 1 ≤ x ∧ x ≤ 63) : 1 ≤ onesZ x := by
  obtain ⟨m, rfl⟩ := Int.eq_ofNat_of_zero_le (show 0 ≤ x by omega)
  have h2 := List.all_eq_true.1 ones1_all m (List.mem_range.2 (by omega))
  have h0 : (m == 0) = false := by simp; omega
  rw [h0, Bool.false_or] at h2
  exact of_decide_eq_true h2
theorem dimL_range (l : List Int) : -1 ≤ dimL l ∧ dimL l ≤ 5 ∧ ∀ x ∈ l, onesZ x ≤ dimL l + 1 := by
  obtain ⟨h1, h2, h3⟩ := fold_max' (fun x => onesZ x - 1) l (-1)
  refine ⟨h1, ?_, fun x hx => ?_⟩
  · rcases h3 with h3 | ⟨x, _, h3⟩
    · unfold dimL; omega
    · have : (verts x).length ≤ 6 := verts_len x
      unfold dimL; simp only [onesZ] at h3 ⊢; omega
  · have := h2 x hx
    unfold dimL; omega
def numF (n : Int) (l : List Int) : List Int × Int := if isC n l then (hI (cntL (dimL l + 1).toNat l), 0) else ([], 1)
theorem ev_num (n : Int) (l : List Int) (hm : l.length ≤ 4611686018427387904) : Ev (fun k => QM.impl_NumbersH.f k n l) (numF n l) := by
  have hcode : impl_complexCode.f n l 55 = some (codeOf (isC n l) true) := by unfold impl_complexCode.f; rw [if_pos ⟨hm, rfl⟩]
  unfold QM.impl_NumbersH.f numF
  simp only [hcode, Option.bind_some]
  cases hi : isC n l with
  | false => exact Ev.now _
  | true =>
    have hs := isC_small hi
    have h63 := isC_63 hi
    obtain ⟨d1, d2, d3⟩ := dimL_range l
    obtain ⟨D, hD⟩ := Int.eq_ofNat_of_zero_le (show 0 ≤ dimL l + 1 by omega)
    simp only [codeOf, if_true]
    have hct : Ev (fun k => QM.impl_Complex_count.f k n l l) (cntL D l) := by
      unfold QM.impl_Complex_count.f
      refine Ev.bind (a := dimL l) ?_ ?_
      · unfold QM.impl_Complex_dimension.f
        exact dimM_loop l h63 (by omega) _ 0 (-1) rfl (Nat.zero_le _)
      · rw [w64' (by omega) (by omega), hD]
        simp only [if_pos (show (0 : Int) ≤ (D : Int) by omega), Int.toNat_natCast, if_pos (show D ≤ 35184372088832 by omega)]
        have := count_loop D l (fun x hx => ⟨h63 x hx, ones1 (h63 x hx), by have := d3 x hx; omega⟩) (by omega) _ 0 rfl (Nat.zero_le _)
        rw [List.take_zero, cntL_nil] at this
        exact this
    rw [show (dimL l + 1).toNat = D by omega]
    refine Ev.bind hct ?_
    have hlen := cntL_len D l
    have := num_l0 (cntL D l) (by omega) (fun c hc => by
      obtain ⟨j, hj, rfl⟩ := List.mem_iff_getElem.1 hc
      have h := cntL_le (D := D) (d := j) l
      rw [List.getElem?_eq_getElem hj] at h
      simp only [Option.getD_some] at h
      omega) _ 0 [1] 1 rfl (Nat.zero_le _) (by simp) (by omega) (by
        have : (2 : Int) ^ ((cntL D l).length - 0) ≤ 64 := by
          rw [hlen, Nat.sub_zero]
          obtain rfl | rfl | rfl | rfl | rfl | rfl | rfl : D = 0 ∨ D = 1 ∨ D = 2 ∨ D = 3 ∨ D = 4 ∨ D = 5 ∨ D = 6 := by omega
          all_goals decide
        omega) (fun j => by cases j with
          | zero => decide
          | succ j => simp)
    rw [List.drop_zero] at this
    exact this
theorem numbersX_c (m : Int) (A : Option Addr) (n c : Nat) (xs : List Int) (w : World) (hr : RC w A n xs) (hn : n ≤ 4611686018427387904) (hc : n ≤ c) :
    Calls Try.prog 50 #[.agg #[.int .i64 m, .slice A n c]] w (SlCode w.heap.size w (numF m xs).1 (numF m xs).2) := by
  obtain rfl : xs.length = n := hr.1
  obtain ⟨k, hk⟩ := (ev_num m xs hn).rounds
  exact QM.impl_NumbersH.calls k m A c xs _ _ w hr hc hk

end Go.Proofs.Ytdkoioiiacljeaa.Im
