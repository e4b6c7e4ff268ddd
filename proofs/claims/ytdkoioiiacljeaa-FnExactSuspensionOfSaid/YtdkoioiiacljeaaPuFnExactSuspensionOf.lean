/- Plain: the law of SuspensionOf. -/
import Derived.Test.YtdkoioiiacljeaaPuC
import Derived.Test.YtdkoioiiacljeaaQSx8
import Derived.Test.YtdkoioiiacljeaaQSx9
import Derived.Test.YtdkoioiiacljeaaQSx10
import Derived.Test.YtdkoioiiacljeaaExSuspensionOf
import Derived.Test.YtdkoioiiacljeaaQFnExactSuspensionOfx2
namespace Go.Proofs.Ytdkoioiiacljeaa.Pu
set_option linter.unusedVariables false
set_option linter.unusedSimpArgs false
open Go.RowKit Go.Proofs.Ytdkoioiiacljeaa.QS Go.Proofs.Ytdkoioiiacljeaa.Im Go.Proofs.Ytdkoioiiacljeaa.Ext Go.Proofs.Ytdkoioiiacljeaa.QFnExactSuspensionOf Go.Proofs.YtdkoioiiacljeaaW.PrintWords Go.Proofs.YtdkoioiiacljeaaW.PrintLast Go.Proofs.YtdkoioiiacljeaaW.PrintMore

theorem and_all : ((List.range 7).all fun n => (List.range 64).all fun f => Go.bits .and .i64 (f : Int) (fullZ (n : Int)) == (f : Int) % 2 ^ n) = true := by decide +kernel
theorem and_full {n f : Int} (h1 : 0 ≤ n) (h6 : n ≤ 6) (h : 0 ≤ f) (hf : f ≤ 63) : Go.bits .and .i64 f (fullZ n) = f % 2 ^ n.toNat := by
  obtain ⟨m, rfl⟩ := Int.eq_ofNat_of_zero_le h
  obtain ⟨k, rfl⟩ := Int.eq_ofNat_of_zero_le h1
  have h2 := List.all_eq_true.1 (List.all_eq_true.1 and_all k (List.mem_range.2 (by omega))) m (List.mem_range.2 (by omega))
  simpa using h2

theorem join_mem {P : Int} {l : List Int} (hP : P = 2 ∨ P = 4 ∨ P = 8 ∨ P = 16) (hr : ∀ x ∈ l, 1 ≤ x ∧ x ≤ P - 1) (x : Int) :
    x ∈ (((l ++ [P]) ++ l.map (P + ·)) ++ [2 * P]) ++ l.map (2 * P + ·) ↔ (1 ≤ x ∧ x < 4 * P) ∧ ((x % P = 0 ∨ x % P ∈ l) ∧ (x / P = 0 ∨ x / P = 1 ∨ x / P = 2)) := by
  simp only [List.mem_append, List.mem_map, List.mem_singleton]
  have hc : ∀ y, 1 ≤ y ∧ y ≤ P - 1 → (y % P = y ∧ y / P = 0) ∧ ((P + y) % P = y ∧ (P + y) / P = 1) ∧ ((2 * P + y) % P = y ∧ (2 * P + y) / P = 2) := by
    intro y hy
    rcases hP with rfl | rfl | rfl | rfl <;> refine ⟨⟨?_, ?_⟩, ⟨?_, ?_⟩, ?_, ?_⟩ <;> omega
  have hd : x / P * P + x % P = x := by rw [Int.mul_comm]; exact Int.mul_ediv_add_emod x P
  have hd0 : 0 ≤ x % P ∧ x % P < P := ⟨Int.emod_nonneg _ (by omega), Int.emod_lt_of_pos _ (by omega)⟩
  constructor
  · rintro ((((h | rfl) | ⟨y, hy, rfl⟩) | rfl) | ⟨y, hy, rfl⟩)
    · obtain ⟨⟨e1, e2⟩, _, _⟩ := hc x (hr x h)
      have := hr x h
      refine ⟨by omega, by rw [e1]; exact .inr h, by rw [e2]; exact .inl rfl⟩
    · refine ⟨by omega, .inl (Int.emod_self), .inr (.inl (Int.ediv_self (by omega)))⟩
    · obtain ⟨_, ⟨e1, e2⟩, _⟩ := hc y (hr y hy)
      have := hr y hy
      exact ⟨by omega, by rw [e1]; exact .inr hy, by rw [e2]; exact .inr (.inl rfl)⟩
    · refine ⟨by omega, .inl (Int.mul_emod_left _ _), .inr (.inr (Int.mul_ediv_cancel _ (by omega)))⟩
    · obtain ⟨_, _, e1, e2⟩ := hc y (hr y hy)
      have := hr y hy
      exact ⟨by omega, by rw [e1]; exact .inr hy, by rw [e2]; exact .inr (.inr rfl)⟩
  · rintro ⟨⟨h1, h2⟩, h3, h4⟩
    generalize x / P = q at *
    generalize x % P = r at *
    rcases h4 with rfl | rfl | rfl
    · rcases h3 with rfl | h3
      · omega
      · obtain rfl : r = x := by omega
        exact .inl (.inl (.inl (.inl h3)))
    · rcases h3 with rfl | h3
      · exact .inl (.inl (.inl (.inr (by omega))))
      · exact .inl (.inl (.inr ⟨r, h3, by omega⟩))
    · rcases h3 with rfl | h3
      · exact .inl (.inr (by omega))
      · exact .inr ⟨r, h3, by omega⟩
theorem join_asc {P : Int} {l : List Int} (hP : 2 ≤ P) (hr : ∀ x ∈ l, 1 ≤ x ∧ x ≤ P - 1) (ha : l.Pairwise (· < ·)) : ((((l ++ [P]) ++ l.map (P + ·)) ++ [2 * P]) ++ l.map (2 * P + ·)).Pairwise (· < ·) := by
  have hm : ∀ c : Int, (l.map (c + ·)).Pairwise (· < ·) := fun c => by
    rw [List.pairwise_map]; exact ha.imp (fun h => by omega)
  simp only [List.pairwise_append, List.mem_append, List.mem_map, List.mem_singleton, List.pairwise_singleton]
  refine ⟨⟨⟨⟨ha, trivial, ?_⟩, hm P, ?_⟩, trivial, ?_⟩, hm _, ?_⟩
  · rintro a h b rfl; have := hr a h; omega
  · rintro a (h | rfl) b ⟨y, hy, rfl⟩
    · have := hr a h; have := hr y hy; omega
    · have := hr y hy; omega
  · rintro a ((h | rfl) | ⟨y, hy, rfl⟩) b rfl
    · have := hr a h; omega
    · omega
    · have := hr y hy; omega
  · rintro a (((h | rfl) | ⟨z, hz, rfl⟩) | rfl) b ⟨y, hy, rfl⟩
    · have := hr a h; have := hr y hy; omega
    · have := hr y hy; omega
    · have := hr y hy; have := hr z hz; omega
    · have := hr y hy; omega
theorem join_eq {n : Int} {l : List Int} (hi : isC n l = true) (h4 : n + 2 ≤ 6) : joinL n l 2 [1, 2] = (((l ++ [2 ^ n.toNat]) ++ l.map (2 ^ n.toNat + ·)) ++ [2 * 2 ^ n.toNat]) ++ l.map (2 * 2 ^ n.toNat + ·) := by
  obtain ⟨⟨h1, h6⟩, ha, _⟩ := isC_of hi
  have hr := isC_range hi
  have hap := asc_pair (ascB_asc ha)
  obtain ⟨hP, hF, hQ⟩ : ((2 : Int) ^ n.toNat = 2 ∨ (2 : Int) ^ n.toNat = 4 ∨ (2 : Int) ^ n.toNat = 8 ∨ (2 : Int) ^ n.toNat = 16) ∧ fullZ n = 2 ^ n.toNat - 1 ∧ ((2 ^ (n + 2).toNat : Nat) : Int) = 4 * 2 ^ n.toNat := by
    obtain rfl | rfl | rfl | rfl : n = 1 ∨ n = 2 ∨ n = 3 ∨ n = 4 := by omega
    all_goals decide +kernel
  refine thoseL_eq (join_asc (by omega) (fun x hx => by have := hr x hx; omega) hap) fun x => ?_
  rw [join_mem hP (fun x hx => by have := hr x hx; omega), hQ]
  refine and_congr_right fun hx => ?_
  unfold joinP
  rw [and_full (by omega) h6 (by omega) (by omega)]
  simp

theorem join_l1 (n : Int) (l : List Int) (hl : l.length ≤ 64) (hr : ∀ x ∈ l, 1 ≤ x ∧ x ≤ 63) (x6 x7 m : Int) (h7 : 0 ≤ x7 ∧ x7 ≤ 64) (R : Int × List Int) :
    ∀ d (i : Nat) (acc : List Int), l.length - i = d → i ≤ l.length → acc.length ≤ 100000 + i → Ev (fun k => spec_l01Join.l0 k (wrap64 (x6 + 1)) n l 2 [1, 2] m (acc ++ (l.drop i).map (x7 + ·))) R → Ev (fun k => spec_l01Join.l1 k x6 x7 i n l 2 [1, 2] m acc) R := by
  intro d
  induction d with
  | zero =>
    intro i acc hd hi ha hR
    rw [List.drop_eq_nil_of_le (by omega), List.map_nil, List.append_nil] at hR
    refine Ev.step (f := fun k => spec_l01Join.l0 k (wrap64 (x6 + 1)) n l 2 [1, 2] m acc) (fun k => ?_) hR
    simp only [spec_l01Join.l1]; rw [if_neg (by omega)]
  | succ d ih =>
    intro i acc hd hi ha hR
    have hi' : i < l.length := by omega
    have hx := hr l[i] (List.getElem_mem hi')
    rw [List.drop_eq_getElem_cons hi', List.map_cons] at hR
    refine Ev.step (f := fun k => spec_l01Join.l1 k x6 x7 ((i + 1 : Nat) : Int) n l 2 [1, 2] m (acc ++ [x7 + l[i]])) (fun k => ?_) (ih (i + 1) (acc ++ [x7 + l[i]]) (by omega) (by omega) (by rw [List.length_append]; simp; omega) ?_)
    · simp only [spec_l01Join.l1]
      rw [if_pos (by omega), if_pos (by omega), if_pos (by omega), rd_at hi', w64 (by omega) (by omega), w64 (by omega) (by omega), show ((i + 1 : Nat) : Int) = (i : Int) + 1 by omega]
    · rw [List.append_assoc]; exact hR

theorem shl_ok {n : Int} (h1 : 1 ≤ n) (h4 : n ≤ 4) : 0 ≤ IntKind.u64.wrap n ∧ shl .i64 1 (IntKind.u64.wrap n) = 2 ^ n.toNat ∧ shl .i64 2 (IntKind.u64.wrap n) = 2 * 2 ^ n.toNat ∧ (2 : Int) ^ n.toNat ≤ 16 ∧ (0 : Int) ≤ 2 ^ n.toNat := by
  obtain rfl | rfl | rfl | rfl : n = 1 ∨ n = 2 ∨ n = 3 ∨ n = 4 := by omega
  all_goals decide +kernel

theorem ev_join {n : Int} {l : List Int} (hi : isC n l = true) (h4 : n + 2 ≤ 6) : Ev (fun k => spec_l01Join.f k n l 2 [1, 2]) (n + 2, joinL n l 2 [1, 2]) := by
  obtain ⟨⟨h1, h6⟩, ha, _⟩ := isC_of hi
  have hr := isC_range hi
  have hF := fullZ_le h1 h6
  have hr' : ∀ x ∈ l, 1 ≤ x ∧ x ≤ 63 := fun x hx => by have := hr x hx; omega
  have hl := isC_len hi
  obtain ⟨s0, s1, s2, s3, s4⟩ := shl_ok h1 (by omega)
  rw [join_eq hi h4]
  generalize (2 : Int) ^ n.toNat = P at *
  unfold spec_l01Join.f spec_l01Own.f
  simp only [Option.bind_some, List.length_nil, List.nil_append]
  rw [if_pos (by omega), w64 (by omega) (by omega)]
  simp only [Option.bind_some]
  refine Ev.step (f := fun k => spec_l01Join.l1 k 0 P 0 n l 2 [1, 2] (n + 2) (l ++ [P])) (fun k => ?_) ?_
  · simp only [spec_l01Join.l0]
    rw [if_pos (by simp), if_pos (by omega), if_pos s0, if_pos (by omega), show rd [1, 2] 0 = 1 from rfl, s1]
  refine join_l1 n l hl hr' 0 P (n + 2) (by omega) _ _ 0 _ rfl (Nat.zero_le _) (by simp; omega) ?_
  rw [List.drop_zero, show wrap64 ((0 : Int) + 1) = 1 by decide +kernel]
  refine Ev.step (f := fun k => spec_l01Join.l1 k 1 (2 * P) 0 n l 2 [1, 2] (n + 2) (((l ++ [P]) ++ l.map (P + ·)) ++ [2 * P])) (fun k => ?_) ?_
  · simp only [spec_l01Join.l0]
    rw [if_pos (by simp), if_pos (by omega), if_pos s0, if_pos (by simp; omega), show rd [1, 2] 1 = 2 from rfl, s2]
  refine join_l1 n l hl hr' 1 (2 * P) (n + 2) (by omega) _ _ 0 _ rfl (Nat.zero_le _) (by simp; omega) ?_
  rw [List.drop_zero, show wrap64 ((1 : Int) + 1) = 2 by decide +kernel]
  refine Ev.step (f := fun k => some _) (fun k => ?_) (Ev.now _)
  simp only [spec_l01Join.l0]
  rw [if_neg (by simp)]

theorem ev_spec (n : Int) {l : List Int} (hl : l.length ≤ maxLen) : Ev (fun k => spec_SuspensionOf.f k n l) (suspF n l) := by
  unfold spec_SuspensionOf.f
  refine Ev.bind (ev_is n hl) ?_
  unfold suspF joinF
  rw [show isC 2 [1, 2] = true by decide +kernel, Bool.and_true]
  cases hi : isC n l with
  | false => simp only [Bool.false_eq_true, if_false]; exact Ev.now _
  | true =>
    obtain ⟨⟨h1, h6⟩, _, _⟩ := isC_of hi
    simp only [if_true]
    rw [w64 (by omega) (by omega)]
    by_cases hs : n + 2 ≤ 6
    · simp only [if_pos hs, if_neg (show ¬ n + 2 > 6 by omega)]
      exact Ev.bind (f := fun _ t => some (t.1, t.2, (0 : Int))) (ev_join hi hs) (Ev.now _)
    · simp only [if_neg hs, if_pos (show n + 2 > 6 by omega)]
      exact Ev.now _
theorem pure_len (n : Int) (l : List Int) : (suspF n l).2.1.length ≤ 1048576 := by
  unfold suspF joinF
  split
  · rename_i h
    split
    · rename_i h4
      obtain ⟨⟨h1, h6⟩, _, _⟩ := isC_of (Bool.and_eq_true _ _ ▸ h).1
      exact Nat.le_trans (thoseL_len (by omega) h4 _) (by omega)
    · simp
  · simp

theorem FnExactSuspensionOf (n0 : Int) (l0 : List Int) (_ : (Lit.int .i64 n0).wf = true) (hm0 : l0.length ≤ maxLen) (_ : ∀ x ∈ l0, (Lit.int .i64 x).wf = true) : ∃ k, laws_FnExactSuspensionOf.f k n0 l0 = some true := by
  rcases Nat.lt_or_ge 1048576 l0.length with hl | hl
  · refine ⟨0, ?_⟩
    unfold laws_FnExactSuspensionOf.f
    rw [sz_big hm0 hl]
    rfl
  · apply Ev.rounds
    obtain ⟨t, ht, ht0⟩ := sz_ok (n := n0) hl
    have hS := ev_spec n0 hm0
    have hI : impl_SuspensionOf.f n0 l0 = some (suspF n0 l0) := by unfold impl_SuspensionOf.f; rw [if_pos (by omega)]
    have hR := pure_len n0 l0
    generalize suspF n0 l0 = D at hS hI hR
    obtain ⟨r1, r2, r3⟩ := D
    simp only at hR
    have hr1 : ¬ (1 + (r2.length : Int)) < 0 := by omega
    have hl1 : ¬ (1 + (l0.length : Int)) < 0 := by omega
    have h01 : (0 : Int) ≤ 1 ∧ (1 : Int) ≤ 1073741824 := by omega
    unfold laws_FnExactSuspensionOf.f
    rw [ht]
    simp only [Option.bind_some, if_neg ht0]
    refine Ev.bind (ev_toComplex hl) ?_
    refine Ev.bind hS ?_
    refine Ev.bind (ev_toComplex hl) ?_
    simp only [hI, Option.bind_some]
    refine Ev.bind (ev_eqComplex hR) ?_
    simp only [if_true]
    refine Ev.step (fun k => laws_FnExactSuspensionOf.j0.eq_2 ..) ?_
    simp only [bne_self_eq_false, Bool.false_eq_true, if_false]
    refine Ev.bind (ev_toComplex hl) ?_
    refine Ev.bind (ev_eqComplex hl) ?_
    simp only [if_true]
    refine Ev.bind (ev_markComplex hl h01) ?_
    simp only [if_neg hl1]
    refine Ev.bind (ev_eqComplex hR) ?_
    simp only [if_true]
    refine Ev.step (fun k => laws_FnExactSuspensionOf.j1.eq_2 ..) ?_
    simp only [bne_self_eq_false, Bool.false_eq_true, if_false]
    refine Ev.bind (ev_markComplex hR h01) ?_
    refine Ev.bind (ev_heldComplex hR h01) ?_
    simp only [if_neg hr1, if_true]
    refine Ev.bind (ev_toComplex hl) ?_
    simp only [hI, Option.bind_some]
    refine Ev.bind (ev_eqComplex hR) ?_
    simp only [if_true]
    refine Ev.step (fun k => laws_FnExactSuspensionOf.j2.eq_2 ..) ?_
    simp only [bne_self_eq_false, Bool.false_eq_true, if_false]
    refine Ev.bind (ev_heldComplex hR h01) ?_
    simp only [if_neg hr1, if_true]
    exact Ev.now _

end Go.Proofs.Ytdkoioiiacljeaa.Pu
