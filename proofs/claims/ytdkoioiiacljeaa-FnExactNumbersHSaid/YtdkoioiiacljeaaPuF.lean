/- Plain: facets. -/
import Derived.Test.YtdkoioiiacljeaaPuC
import Derived.Test.YtdkoioiiacljeaaImQ
import Derived.Test.YtdkoioiiacljeaaQSgl01Facets
namespace Go.Proofs.Ytdkoioiiacljeaa.Pu
set_option linter.unusedVariables false
set_option linter.unusedSimpArgs false
open Go.RowKit Go.Proofs.Ytdkoioiiacljeaa.QS Go.Proofs.Ytdkoioiiacljeaa.Im Go.Proofs.YtdkoioiiacljeaaW.PrintWords Go.Proofs.YtdkoioiiacljeaaW.PrintLast Go.Proofs.YtdkoioiiacljeaaW.PrintMore

theorem ones_all : ((List.range 64).all fun f => spec_l01Ones.f 8 (f : Int) == some (onesZ (f : Int))) = true := by decide +kernel
theorem ev_ones {x : Int} (h0 : 0 ≤ x) (h6 : x ≤ 63) : Ev (fun k => spec_l01Ones.f k x) (onesZ x) := by
  obtain ⟨m, rfl⟩ := Int.eq_ofNat_of_zero_le h0
  exact Ev.of (fun k => spec_l01Ones.mono _ k) (eq_of_beq (List.all_eq_true.1 ones_all m (List.mem_range.2 (by omega))))
theorem ones_le (x : Int) : 0 ≤ onesZ x ∧ onesZ x ≤ 6 := by
  have : (verts x).length ≤ 6 := verts_len x
  unfold onesZ; omega

def overP (f x : Int) : Bool := Go.bits .and .i64 x f == f && onesZ x == onesZ f + 1
theorem above_loop (n f : Int) (hf : 0 ≤ f ∧ f ≤ 63) (l : List Int) (hl : l.length ≤ 64) (hr : ∀ x ∈ l, 1 ≤ x ∧ x ≤ 63) : ∀ d (i : Nat) (acc : List Int), l.length - i = d → i ≤ l.length → acc.length ≤ i →
    Ev (fun k => spec_l01Above.l0 k f acc i n l) (acc ++ (l.drop i).filter (overP f)) := by
  intro d
  induction d with
  | zero =>
    intro i acc hd hi ha
    rw [List.drop_eq_nil_of_le (by omega), List.filter_nil, List.append_nil]
    refine Ev.step (f := fun k => some acc) (fun k => ?_) (Ev.now _)
    simp only [spec_l01Above.l0]; rw [if_neg (by omega)]
  | succ d ih =>
    intro i acc hd hi ha
    have hi' : i < l.length := by omega
    have hx := hr _ (List.getElem_mem hi')
    have hw : wrap64 ((i : Int) + 1) = ((i + 1 : Nat) : Int) := by rw [w64 (by omega) (by omega)]; omega
    rw [List.drop_eq_getElem_cons hi']
    by_cases hc : Go.bits .and .i64 l[i] f = f
    · refine Ev.step (f := fun k => (spec_l01Ones.f k l[i]).bind fun t262 => ((spec_l01Ones.f k f).bind fun t263 => (if t262 = (wrap64 (t263 + 1)) then (spec_l01Above.l0 k f (acc ++ [l[i]]) ((i + 1 : Nat) : Int) n l) else (spec_l01Above.l0 k f acc ((i + 1 : Nat) : Int) n l)))) (fun k => ?_) ?_
      · simp only [spec_l01Above.l0]
        rw [if_pos (by omega), if_pos (by omega), rd_at hi', if_pos hc, hw]
        simp only [if_pos (show acc.length < 17592186044416 by omega)]
      · refine Ev.bind (ev_ones (by omega) (by omega)) ?_
        refine Ev.bind (ev_ones hf.1 hf.2) ?_
        have h1 := ones_le f
        rw [w64 (by omega) (by omega)]
        by_cases ho : onesZ l[i] = onesZ f + 1
        · simp only [if_pos ho]
          rw [List.filter_cons_of_pos (by simp [overP, hc, ho])]
          have := ih (i + 1) (acc ++ [l[i]]) (by omega) (by omega) (by rw [List.length_append]; simp; omega)
          rw [List.append_assoc] at this
          exact this
        · simp only [if_neg ho]
          rw [List.filter_cons_of_neg (by simp [overP, ho])]
          exact ih (i + 1) acc (by omega) (by omega) (by omega)
    · refine Ev.step (f := fun k => spec_l01Above.l0 k f acc ((i + 1 : Nat) : Int) n l) (fun k => ?_) ?_
      · simp only [spec_l01Above.l0]
        rw [if_pos (by omega), if_pos (by omega), rd_at hi', if_neg hc, hw]
      · rw [List.filter_cons_of_neg (by simp [overP, hc])]
        exact ih (i + 1) acc (by omega) (by omega) (by omega)
theorem ev_above (n f : Int) (hf : 0 ≤ f ∧ f ≤ 63) {l : List Int} (hl : l.length ≤ 64) (hr : ∀ x ∈ l, 1 ≤ x ∧ x ≤ 63) : Ev (fun k => spec_l01Above.f k n l f) (l.filter (overP f)) := by
  have := above_loop n f hf l hl hr _ 0 [] rfl (Nat.zero_le _) (by simp)
  rw [List.drop_zero, List.nil_append] at this
  exact this

/-- A face above another, by more than one vertex: a border of it lies above, too. -/
theorem down_all : ((List.range 64).all fun g => (List.range 64).all fun f => f == 0 || !(inB (f : Int) (g : Int)) || overP (f : Int) (g : Int) || (bordersL (g : Int)).any fun h => inB (f : Int) h && decide (1 ≤ h) && decide (h < (g : Int))) = true := by decide +kernel
theorem over_all : ((List.range 64).all fun g => (List.range 64).all fun f => !(overP (f : Int) (g : Int)) || inB (f : Int) (g : Int)) = true := by decide +kernel
theorem over_in {f g : Int} (hf : 0 ≤ f ∧ f ≤ 63) (hg : 0 ≤ g ∧ g ≤ 63) (h : overP f g = true) : inB f g = true := by
  obtain ⟨a, rfl⟩ := Int.eq_ofNat_of_zero_le hf.1
  obtain ⟨b, rfl⟩ := Int.eq_ofNat_of_zero_le hg.1
  have h2 := List.all_eq_true.1 (List.all_eq_true.1 over_all b (List.mem_range.2 (by omega))) a (List.mem_range.2 (by omega))
  rw [h] at h2
  simpa using h2
theorem in_over {l : List Int} (hc : closedB l = true) (hr : ∀ x ∈ l, 1 ≤ x ∧ x ≤ 63) {f : Int} (hf : 1 ≤ f ∧ f ≤ 63) : ∀ (G : Nat) (g : Int), g.toNat ≤ G → g ∈ l → inB f g = true → ∃ h ∈ l, overP f h = true := by
  intro G
  induction G with
  | zero => intro g hG hg _; have := hr g hg; omega
  | succ G ih =>
    intro g hG hg hi
    have hgr := hr g hg
    by_cases ho : overP f g = true
    · exact ⟨g, hg, ho⟩
    · obtain ⟨a, rfl⟩ := Int.eq_ofNat_of_zero_le (show 0 ≤ f by omega)
      obtain ⟨b, rfl⟩ := Int.eq_ofNat_of_zero_le (show 0 ≤ g by omega)
      have h2 := List.all_eq_true.1 (List.all_eq_true.1 down_all b (List.mem_range.2 (by omega))) a (List.mem_range.2 (by omega))
      have ha : (a == 0) = false := by simp; omega
      rw [ha, hi, Bool.eq_false_iff.2 ho] at h2
      simp only [Bool.not_true, Bool.or_false, Bool.false_or] at h2
      obtain ⟨h, hh, hp⟩ := List.any_eq_true.1 h2
      simp only [Bool.and_eq_true, decide_eq_true_eq] at hp
      have hcl := of_decide_eq_true (List.all_eq_true.1 (List.all_eq_true.1 hc _ hg) h hh)
      exact ih h (by omega) hcl hp.1.1
theorem above_bigger {n : Int} {l : List Int} (hi : isC n l = true) {f : Int} (hf : f ∈ l) : ((l.filter (overP f)).length : Int) = 0 ↔ biggerB l f = false := by
  have hr := isC_63 hi
  obtain ⟨_, _, hc⟩ := isC_of hi
  constructor
  · intro h
    have h0 : l.filter (overP f) = [] := List.eq_nil_of_length_eq_zero (by omega)
    cases hb : biggerB l f with
    | false => rfl
    | true =>
      obtain ⟨g, hg, hp⟩ := List.any_eq_true.1 hb
      obtain ⟨h, hh, ho⟩ := in_over hc hr (hr f hf) _ g (Nat.le_refl _) hg hp
      have : h ∈ l.filter (overP f) := List.mem_filter.2 ⟨hh, ho⟩
      rw [h0] at this
      cases this
  · intro hb
    have : l.filter (overP f) = [] := by
      refine List.filter_eq_nil_iff.2 fun x hx ho => ?_
      have hx2 := hr x hx
      have hf2 := hr f hf
      have := over_in (f := f) (g := x) (by omega) (by omega) ho
      have h3 := List.any_eq_false.1 hb x hx
      exact h3 this
    rw [this]; rfl
theorem facets_loop {n : Int} {l : List Int} (hi : isC n l = true) : ∀ d (i : Nat) (acc : List Int), l.length - i = d → i ≤ l.length → acc.length ≤ i →
    Ev (fun k => spec_l01Facets.l0 k acc i n l) (acc ++ (l.drop i).filter (fun x => !biggerB l x)) := by
  have hl := isC_len hi
  have hr := isC_63 hi
  intro d
  induction d with
  | zero =>
    intro i acc hd hi ha
    rw [List.drop_eq_nil_of_le (by omega), List.filter_nil, List.append_nil]
    refine Ev.step (f := fun k => some acc) (fun k => ?_) (Ev.now _)
    simp only [spec_l01Facets.l0]; rw [if_neg (by omega)]
  | succ d ih =>
    intro i acc hd hii ha
    have hi' : i < l.length := by omega
    have hx := hr _ (List.getElem_mem hi')
    have hw : wrap64 ((i : Int) + 1) = ((i + 1 : Nat) : Int) := by rw [w64 (by omega) (by omega)]; omega
    rw [List.drop_eq_getElem_cons hi']
    refine Ev.step (f := fun k => (spec_l01Above.f k n l l[i]).bind fun t273 => (if (t273.length : Int) = 0 then (spec_l01Facets.l0 k (acc ++ [l[i]]) ((i + 1 : Nat) : Int) n l) else (spec_l01Facets.l0 k acc ((i + 1 : Nat) : Int) n l))) (fun k => ?_) ?_
    · simp only [spec_l01Facets.l0]
      rw [if_pos (by omega), if_pos (by omega), rd_at hi', hw]
      simp only [if_pos (show acc.length < 17592186044416 by omega)]
    · refine Ev.bind (ev_above n l[i] (by omega) hl hr) ?_
      have hab := above_bigger hi (List.getElem_mem hi')
      cases hb : biggerB l l[i] with
      | false =>
        simp only [if_pos (hab.2 hb)]
        rw [List.filter_cons_of_pos (by simp [hb])]
        have := ih (i + 1) (acc ++ [l[i]]) (by omega) (by omega) (by rw [List.length_append]; simp; omega)
        rw [List.append_assoc] at this
        exact this
      | true =>
        simp only [if_neg (fun h => by have := hab.1 h; rw [hb] at this; cases this)]
        rw [List.filter_cons_of_neg (by simp [hb])]
        exact ih (i + 1) acc (by omega) (by omega) (by omega)
theorem ev_facets {n : Int} {l : List Int} (hi : isC n l = true) : Ev (fun k => spec_l01Facets.f k n l) (facetsL l) := by
  have := facets_loop hi _ 0 [] rfl (Nat.zero_le _) (by simp)
  rw [List.drop_zero, List.nil_append] at this
  exact this

end Go.Proofs.Ytdkoioiiacljeaa.Pu
