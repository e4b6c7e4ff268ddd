import Derived.Test.YtdkoioiiacljeaaPuF
import Derived.Test.YtdkoioiiacljeaaImS
import Derived.Test.YtdkoioiiacljeaaQSgl07H
import Derived.Test.YtdkoioiiacljeaaQSgNumbersH
import Derived.Test.YtdkoioiiacljeaaExNumbersH
import Derived.Test.YtdkoioiiacljeaaQFnExactNumbersHx2
/- Plain: the numbers h. -/
namespace Go.Proofs.Ytdkoioiiacljeaa.Pu
set_option linter.unusedVariables false
set_option linter.unusedSimpArgs false
open Go.RowKit Go.Proofs.Ytdkoioiiacljeaa.QS Go.Proofs.Ytdkoioiiacljeaa.Im Go.Proofs.YtdkoioiiacljeaaW.PrintWords Go.Proofs.YtdkoioiiacljeaaW.PrintLast Go.Proofs.YtdkoioiiacljeaaW.PrintMore
def chZ : Nat → Nat → Int
  | _, 0 => 1
  | 0, _ + 1 => 0
  | a + 1, b + 1 => chZ a b + chZ a (b + 1)
def termS (f : List Int) (D j i : Nat) : Int := if (j - i) % 2 = 1 then -(f[i]?.getD 0 * chZ (D - i) (j - i)) else f[i]?.getD 0 * chZ (D - i) (j - i)
def sumS (f : List Int) (D j : Nat) : Int := (List.range' 0 (j + 1)).foldl (fun a i => a + termS f D j i) 0
def hS (f : List Int) (D : Nat) : List Int := (List.range (D + 1)).map (sumS f D)
set_option maxRecDepth 100000 in
theorem hI_hS (cs : List Int) (h : cs.length ≤ 6) : hI cs = hS (1 :: cs) cs.length := by
  match cs, h with
  | [], _ => decide +kernel
  | [a], _ => simp [hI, nextH, hS, sumS, termS, chZ, List.range_succ, List.range'_succ]
  | [a, b], _ => simp [hI, nextH, hS, sumS, termS, chZ, List.range_succ, List.range'_succ]; omega
  | [a, b, c], _ => simp [hI, nextH, hS, sumS, termS, chZ, List.range_succ, List.range'_succ]; omega
  | [a, b, c, d], _ => simp [hI, nextH, hS, sumS, termS, chZ, List.range_succ, List.range'_succ]; omega
  | [a, b, c, d, e], _ => simp [hI, nextH, hS, sumS, termS, chZ, List.range_succ, List.range'_succ]; omega
  | [a, b, c, d, e, f], _ => simp [hI, nextH, hS, sumS, termS, chZ, List.range_succ, List.range'_succ]; omega
theorem ev_dim {n : Int} {l : List Int} (hi : isC n l = true) : Ev (fun k => spec_l01Dim.f k n l) (dimL l) := by
  have hl := isC_len hi
  have hr := isC_63 hi
  have key : ∀ d (i : Nat) (a : Int), l.length - i = d → i ≤ l.length → Ev (fun k => spec_l01Dim.l0 k a i n l) ((l.drop i).foldl (fun a x => max a (onesZ x - 1)) a) := by
    intro d
    induction d with
    | zero =>
      intro i a hd hi
      rw [List.drop_eq_nil_of_le (by omega)]
      refine Ev.step (f := fun k => some a) (fun k => ?_) (Ev.now _)
      simp only [spec_l01Dim.l0]; rw [if_neg (by omega)]
    | succ d ih =>
      intro i a hd hi
      have hi' : i < l.length := by omega
      have hx := hr _ (List.getElem_mem hi')
      have h1 := ones_le l[i]
      rw [List.drop_eq_getElem_cons hi', List.foldl_cons]
      refine Ev.step (f := fun k => (spec_l01Ones.f k l[i]).bind fun t320 => (spec_l01Dim.l0 k (mx a (wrap64 (t320 - 1))) ((i + 1 : Nat) : Int) n l)) (fun k => ?_) ?_
      · simp only [spec_l01Dim.l0]
        rw [if_pos (by omega), if_pos (by omega), rd_at hi', show wrap64 ((i : Int) + 1) = ((i + 1 : Nat) : Int) by rw [w64 (by omega) (by omega)]; omega]
      · refine Ev.bind (ev_ones (by omega) (by omega)) ?_
        rw [w64 (by omega) (by omega), show mx a (onesZ l[i] - 1) = max a (onesZ l[i] - 1) by unfold mx; split <;> omega]
        exact ih (i + 1) _ (by omega) (by omega)
  exact key _ 0 (-1) rfl (Nat.zero_le _)
theorem ev_of {n : Int} {l : List Int} (hi : isC n l = true) (j : Nat) (hj : j ≤ 100) : Ev (fun k => spec_l01Of.f k n l (j : Int)) (l.filter fun x => onesZ x == ((j + 1 : Nat) : Int)) := by
  have hl := isC_len hi
  have hr := isC_63 hi
  have key : ∀ d (i : Nat) (acc : List Int), l.length - i = d → i ≤ l.length → acc.length ≤ i → Ev (fun k => spec_l01Of.l0 k (j : Int) acc i n l) (acc ++ (l.drop i).filter fun x => onesZ x == ((j + 1 : Nat) : Int)) := by
    intro d
    induction d with
    | zero =>
      intro i acc hd hi ha
      rw [List.drop_eq_nil_of_le (by omega), List.filter_nil, List.append_nil]
      refine Ev.step (f := fun k => some acc) (fun k => ?_) (Ev.now _)
      simp only [spec_l01Of.l0]; rw [if_neg (by omega)]
    | succ d ih =>
      intro i acc hd hi ha
      have hi' : i < l.length := by omega
      have hx := hr _ (List.getElem_mem hi')
      have hwj : wrap64 ((j : Int) + 1) = ((j + 1 : Nat) : Int) := by rw [w64 (by omega) (by omega)]; omega
      rw [List.drop_eq_getElem_cons hi']
      refine Ev.step (f := fun k => (spec_l01Ones.f k l[i]).bind fun t326 => (if t326 = ((j + 1 : Nat) : Int) then (spec_l01Of.l0 k (j : Int) (acc ++ [l[i]]) ((i + 1 : Nat) : Int) n l) else (spec_l01Of.l0 k (j : Int) acc ((i + 1 : Nat) : Int) n l))) (fun k => ?_) ?_
      · simp only [spec_l01Of.l0]
        rw [if_pos (by omega), if_pos (by omega), rd_at hi', show wrap64 ((i : Int) + 1) = ((i + 1 : Nat) : Int) by rw [w64 (by omega) (by omega)]; omega, hwj]
        simp only [if_pos (show acc.length < 17592186044416 by omega)]
      · refine Ev.bind (ev_ones (by omega) (by omega)) ?_
        by_cases ho : onesZ l[i] = ((j + 1 : Nat) : Int)
        · simp only [if_pos ho]
          rw [List.filter_cons_of_pos (by rw [ho]; exact beq_self_eq_true _)]
          have := ih (i + 1) (acc ++ [l[i]]) (by omega) (by omega) (by rw [List.length_append]; simp; omega)
          rw [List.append_assoc] at this
          exact this
        · simp only [if_neg ho]
          rw [List.filter_cons_of_neg (by rw [beq_eq_false_iff_ne.2 ho]; exact Bool.false_ne_true)]
          exact ih (i + 1) acc (by omega) (by omega) (by omega)
  have := key _ 0 [] rfl (Nat.zero_le _) (by simp)
  rw [List.drop_zero, List.nil_append] at this
  exact this
theorem ch_all : ((List.range 7).all fun a => (List.range 7).all fun b => decide (a < b) || (spec_l07Choose.f 20 (a : Int) (b : Int) == some (chZ a b) && decide (0 ≤ chZ a b) && decide (chZ a b ≤ 20))) = true := by decide +kernel
theorem ev_ch {a b : Nat} (ha : a ≤ 6) (hb : b ≤ a) : Ev (fun k => spec_l07Choose.f k (a : Int) (b : Int)) (chZ a b) ∧ 0 ≤ chZ a b ∧ chZ a b ≤ 20 := by
  have h := List.all_eq_true.1 (List.all_eq_true.1 ch_all a (List.mem_range.2 (by omega))) b (List.mem_range.2 (by omega))
  have h0 : decide (a < b) = false := by simp; omega
  rw [h0, Bool.false_or] at h
  simp only [Bool.and_eq_true, decide_eq_true_eq] at h
  exact ⟨Ev.of (fun k => spec_l07Choose.mono _ _ k) (eq_of_beq h.1.1), h.1.2, h.2⟩

theorem tm_par {d : Nat} (hd : d ≤ 100) : Int.tmod ((d : Nat) : Int) 2 = 1 ↔ d % 2 = 1 := by
  rw [Int.tmod_eq_emod_of_nonneg (by omega)]; omega
theorem sum_l2 (D : Nat) (hD : D ≤ 6) (f : List Int) (hf : f.length = D + 1) (hb : ∀ i : Nat, 0 ≤ f[i]?.getD 0 ∧ f[i]?.getD 0 ≤ 1048576) (j : Nat) (hj : j ≤ D) (acc : List Int) (hacc : acc.length ≤ 100) (R : List Int) :
    ∀ d (i : Nat) (a : Int), j + 1 - i = d → i ≤ j + 1 → -(30000000 * (i : Int)) ≤ a → a ≤ 30000000 * (i : Int) → Ev (fun k => spec_l07H.l1 k (D : Int) f (acc ++ [(List.range' i d).foldl (fun a i => a + termS f D j i) a]) ((j + 1 : Nat) : Int)) R → Ev (fun k => spec_l07H.l2 k (D : Int) f acc (j : Int) a i) R := by
  intro d
  induction d with
  | zero =>
    intro i a hd hi h1 h2 hR
    refine Ev.step (f := fun k => spec_l07H.l1 k (D : Int) f (acc ++ [a]) ((j + 1 : Nat) : Int)) (fun k => ?_) hR
    simp only [spec_l07H.l2]
    rw [if_neg (by omega), if_pos (by omega), w64 (by omega) (by omega), show (j : Int) + 1 = ((j + 1 : Nat) : Int) by omega]
  | succ d ih =>
    intro i a hd hi h1 h2 hR
    have hij : i ≤ j := by omega
    have hfi := hb i
    have hwi : wrap64 ((i : Int) + 1) = ((i + 1 : Nat) : Int) := by rw [w64 (by omega) (by omega)]; omega
    have hw1 : wrap64 ((D : Int) - (i : Int)) = ((D - i : Nat) : Int) := by rw [w64 (by omega) (by omega)]; omega
    have hw2 : wrap64 ((j : Int) - (i : Int)) = ((j - i : Nat) : Int) := by rw [w64 (by omega) (by omega)]; omega
    obtain ⟨hch, c0, c20⟩ := ev_ch (a := D - i) (b := j - i) (by omega) (by omega)
    obtain ⟨C, hC⟩ : ∃ C, chZ (D - i) (j - i) = C := ⟨_, rfl⟩
    rw [hC] at hch c0 c20
    have hm0 : 0 ≤ f[i]?.getD 0 * C := Int.mul_nonneg hfi.1 c0
    have hm1 : f[i]?.getD 0 * C ≤ 1048576 * 20 := Int.mul_le_mul hfi.2 c20 c0 (by omega)
    obtain ⟨T, hT⟩ : ∃ T, f[i]?.getD 0 * C = T := ⟨_, rfl⟩
    rw [hT] at hm0 hm1
    rw [List.range'_succ, List.foldl_cons] at hR
    refine Ev.step (f := fun k => (spec_l07Choose.f k ((D - i : Nat) : Int) ((j - i : Nat) : Int)).bind fun t346 => (if (Int.tmod ((j - i : Nat) : Int) 2) = 1 then (spec_l07H.l2 k (D : Int) f acc (j : Int) (wrap64 (a + (wrap64 (-(wrap64 (f[i]?.getD 0 * t346)))))) ((i + 1 : Nat) : Int)) else (spec_l07H.l2 k (D : Int) f acc (j : Int) (wrap64 (a + (wrap64 (f[i]?.getD 0 * t346)))) ((i + 1 : Nat) : Int)))) (fun k => ?_) ?_
    · simp only [spec_l07H.l2]
      rw [if_pos (by omega), if_pos (by omega), if_pos (by omega), hw1, hw2, hwi, rdZ]
    · refine Ev.bind hch ?_
      by_cases hp : (j - i) % 2 = 1
      · simp only [if_pos ((tm_par (d := j - i) (by omega)).2 hp)]
        rw [hT, w64 (x := T) (by omega) (by omega), w64 (x := -T) (by omega) (by omega), w64 (by omega) (by omega)]
        refine ih (i + 1) _ (by omega) (by omega) (by omega) (by omega) ?_
        have ht : termS f D j i = -T := by unfold termS; rw [if_pos hp, hC, hT]
        rw [ht] at hR; exact hR
      · simp only [if_neg (fun h => hp ((tm_par (d := j - i) (by omega)).1 h))]
        rw [hT, w64 (x := T) (by omega) (by omega), w64 (by omega) (by omega)]
        refine ih (i + 1) _ (by omega) (by omega) (by omega) (by omega) ?_
        have ht : termS f D j i = T := by unfold termS; rw [if_neg hp, hC, hT]
        rw [ht] at hR; exact hR
theorem sum_l1 (D : Nat) (hD : D ≤ 6) (f : List Int) (hf : f.length = D + 1) (hb : ∀ i : Nat, 0 ≤ f[i]?.getD 0 ∧ f[i]?.getD 0 ≤ 1048576) :
    ∀ d (j : Nat) (acc : List Int), D + 1 - j = d → j ≤ D + 1 → acc.length ≤ j → Ev (fun k => spec_l07H.l1 k (D : Int) f acc (j : Int)) (acc ++ (List.range' j d).map (sumS f D)) := by
  intro d
  induction d with
  | zero =>
    intro j acc hd hj ha
    refine Ev.step (f := fun k => some acc) (fun k => ?_) ?_
    · simp only [spec_l07H.l1]; rw [if_neg (by omega)]
    · rw [List.range'_zero, List.map_nil, List.append_nil]; exact Ev.now _
  | succ d ih =>
    intro j acc hd hj ha
    rw [List.range'_succ, List.map_cons]
    refine Ev.step (f := fun k => spec_l07H.l2 k (D : Int) f acc (j : Int) 0 ((0 : Nat) : Int)) (fun k => ?_) ?_
    · simp only [spec_l07H.l1]; rw [if_pos (by omega)]; rfl
    · refine sum_l2 D hD f hf hb j (by omega) acc (by omega) _ (j + 1) 0 0 (by omega) (by omega) (by omega) (by omega) ?_
      have := ih (j + 1) (acc ++ [sumS f D j]) (by omega) (by omega) (by rw [List.length_append]; simp; omega)
      rw [List.append_assoc] at this
      exact this

end Go.Proofs.Ytdkoioiiacljeaa.Pu

/- Plain: the law of NumbersH. -/
namespace Go.Proofs.Ytdkoioiiacljeaa.Pu
set_option linter.unusedVariables false
set_option linter.unusedSimpArgs false
open Go.RowKit Go.Proofs.Ytdkoioiiacljeaa.QS Go.Proofs.Ytdkoioiiacljeaa.Im Go.Proofs.Ytdkoioiiacljeaa.Ext Go.Proofs.Ytdkoioiiacljeaa.QFnExactNumbersH Go.Proofs.YtdkoioiiacljeaaW.PrintWords Go.Proofs.YtdkoioiiacljeaaW.PrintLast Go.Proofs.YtdkoioiiacljeaaW.PrintMore

theorem h_l0 {n : Int} {l : List Int} (hi : isC n l = true) (D : Nat) (hD : D ≤ 6) : ∀ d (i : Nat), D - i = d → i ≤ D →
    Ev (fun k => spec_l07H.l0 k (D : Int) ((1 :: cntL D l).take (i + 1)) [] i n l) (hI (cntL D l)) := by
  have hl := isC_len hi
  have hcl := cntL_len D l
  have hb : ∀ i : Nat, 0 ≤ (1 :: cntL D l)[i]?.getD 0 ∧ (1 :: cntL D l)[i]?.getD 0 ≤ 1048576 := fun i => by
    cases i with
    | zero => simp
    | succ i => have := cntL_le (D := D) (d := i) l; rw [List.getElem?_cons_succ]; omega
  intro d
  induction d with
  | zero =>
    intro i hd hii
    obtain rfl : i = D := by omega
    rw [List.take_of_length_le (by simp; omega)]
    refine Ev.step (f := fun k => spec_l07H.l1 k (i : Int) (1 :: cntL i l) [] ((0 : Nat) : Int)) (fun k => ?_) ?_
    · simp only [spec_l07H.l0]; rw [if_neg (by omega)]; rfl
    · have := sum_l1 i hD (1 :: cntL i l) (by simp; omega) hb _ 0 [] rfl (Nat.zero_le _) (by simp)
      have e := hI_hS (cntL i l) (by omega)
      rw [hcl] at e
      rw [e]
      unfold hS
      rw [List.range_eq_range']
      simpa using this
  | succ d ih =>
    intro i hd hii
    have hlt : i < D := by omega
    have hlen : ((1 :: cntL D l).take (i + 1)).length ≤ 7 := by rw [List.length_take]; omega
    refine Ev.step (f := fun k => (spec_l01Of.f k n l (i : Int)).bind fun t339 => (spec_l07H.l0 k (D : Int) ((1 :: cntL D l).take (i + 1) ++ [(t339.length : Int)]) [] ((i + 1 : Nat) : Int) n l)) (fun k => ?_) ?_
    · simp only [spec_l07H.l0]
      rw [if_pos (by omega), show wrap64 ((i : Int) + 1) = ((i + 1 : Nat) : Int) by rw [w64 (by omega) (by omega)]; omega]
      simp only [if_pos (show ((1 :: cntL D l).take (i + 1)).length < 17592186044416 by omega)]
    · refine Ev.bind (ev_of hi i (by omega)) ?_
      have := ih (i + 1) (by omega) (by omega)
      rw [List.take_add_one (i := i + 1), List.getElem?_cons_succ, cntL_at l hlt] at this
      exact this
theorem ev_spec (n : Int) {l : List Int} (hl : l.length ≤ maxLen) : Ev (fun k => spec_NumbersH.f k n l) (numF n l) := by
  unfold spec_NumbersH.f
  refine Ev.bind (ev_is n hl) ?_
  unfold numF
  cases hi : isC n l with
  | false => simp only [Bool.false_eq_true, if_false]; exact Ev.now _
  | true =>
    simp only [if_true]
    obtain ⟨d1, d2, _⟩ := dimL_range l
    obtain ⟨D, hD⟩ := Int.eq_ofNat_of_zero_le (show 0 ≤ dimL l + 1 by omega)
    unfold spec_l07H.f
    refine Ev.bind (f := fun _ t => some (t, (0 : Int))) ?_ (Ev.now _)
    refine Ev.bind (ev_dim hi) ?_
    rw [w64 (by omega) (by omega), hD, show (((D : Nat) : Int)).toNat = D by omega]
    exact h_l0 hi D (by omega) _ 0 rfl (Nat.zero_le _)
theorem pure_len (n : Int) (l : List Int) : (numF n l).1.length ≤ 1048576 := by
  unfold numF
  split
  · obtain ⟨d1, d2, _⟩ := dimL_range l
    have e := hI_hS (cntL (dimL l + 1).toNat l) (by rw [cntL_len]; omega)
    simp only
    rw [e, cntL_len]
    simp only [hS, List.length_map, List.length_range]
    omega
  · simp

theorem FnExactNumbersH (n0 : Int) (l0 : List Int) (_ : (Lit.int .i64 n0).wf = true) (hm0 : l0.length ≤ maxLen) (_ : ∀ x ∈ l0, (Lit.int .i64 x).wf = true) : ∃ k, laws_FnExactNumbersH.f k n0 l0 = some true := by
  rcases Nat.lt_or_ge 1048576 l0.length with hl | hl
  · refine ⟨0, ?_⟩
    unfold laws_FnExactNumbersH.f
    rw [sz_big hm0 hl]
    rfl
  · apply Ev.rounds
    obtain ⟨t, ht, ht0⟩ := sz_ok (n := n0) hl
    have hS := ev_spec n0 hm0
    have hI : impl_NumbersH.f n0 l0 = some (numF n0 l0) := by unfold impl_NumbersH.f; rw [if_pos (by omega)]
    have hR := pure_len n0 l0
    generalize numF n0 l0 = D at hS hI hR
    obtain ⟨r1, r2⟩ := D
    simp only at hR
    have hr1 : ¬ (1 + (r1.length : Int)) < 0 := by omega
    have hl1 : ¬ (1 + (l0.length : Int)) < 0 := by omega
    have h01 : (0 : Int) ≤ 1 ∧ (1 : Int) ≤ 1073741824 := by omega
    unfold laws_FnExactNumbersH.f
    rw [ht]
    simp only [Option.bind_some, if_neg ht0]
    refine Ev.bind (ev_toComplex hl) ?_
    refine Ev.bind hS ?_
    refine Ev.bind (ev_toComplex hl) ?_
    simp only [hI, Option.bind_some]
    refine Ev.bind (ev_eqInt hR) ?_
    simp only [if_true]
    refine Ev.step (fun k => laws_FnExactNumbersH.j0.eq_2 ..) ?_
    simp only [bne_self_eq_false, Bool.false_eq_true, if_false]
    refine Ev.bind (ev_toComplex hl) ?_
    refine Ev.bind (ev_eqComplex hl) ?_
    simp only [if_true]
    refine Ev.bind (ev_markComplex hl h01) ?_
    simp only [if_neg hl1]
    refine Ev.bind (ev_eqInt hR) ?_
    simp only [if_true]
    refine Ev.step (fun k => laws_FnExactNumbersH.j1.eq_2 ..) ?_
    simp only [bne_self_eq_false, Bool.false_eq_true, if_false]
    refine Ev.bind (ev_mark hR h01) ?_
    refine Ev.bind (ev_held hR h01) ?_
    simp only [if_neg hr1, if_true]
    refine Ev.bind (ev_toComplex hl) ?_
    simp only [hI, Option.bind_some]
    refine Ev.bind (ev_eqInt hR) ?_
    simp only [if_true]
    refine Ev.step (fun k => laws_FnExactNumbersH.j2.eq_2 ..) ?_
    simp only [bne_self_eq_false, Bool.false_eq_true, if_false]
    refine Ev.bind (ev_held hR h01) ?_
    simp only [if_neg hr1, if_true]
    exact Ev.now _

end Go.Proofs.Ytdkoioiiacljeaa.Pu
