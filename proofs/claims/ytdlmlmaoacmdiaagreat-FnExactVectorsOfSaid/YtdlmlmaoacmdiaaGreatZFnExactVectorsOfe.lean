/- Words and lemmas for FnExactVectorsOf, part 5: what the row's text comes to. -/
import Derived.Test.YtdlmlmaoacmdiaaGreatProg
import Derived.Below
import Derived.Deep.Draws
import Derived.Deep.AppendLies
import Derived.Maps.AppendAt
import Derived.OwnWalk
import Derived.Laws.BytesArg
import Derived.Laws.MakeOwn
import Derived.Laws.OwnMore
import Derived.Deep.OwnRows
import Derived.Tactics
import Derived.Lib.ConvBytes
import Derived.Laws.Slices
import Derived.WalkKit
import Derived.KernelRfl
import Derived.RowKit3
import Derived.Deep.LoopGhost
import Derived.Deep.QuietTactic
import Derived.BigQuiet
import Derived.WideLaws
import Derived.Deep.DeepCutAuto
import Derived.Deep.CutBlock
import Derived.Deep.RegionHeld3
import Derived.Laws.Rows
import Derived.Lib.AppendStr
import Derived.ArgAppend
import Derived.Laws.IdiomCopy
import Derived.OrdersHeld
import Derived.Laws.BitsLemmas
import Derived.RowKit
import Derived.Test.YtdlmlmaoacmdiaaGreatZFnExactVectorsOfd
set_option linter.unusedVariables false
set_option linter.unusedSimpArgs false
namespace Go.Proofs.YtdlmlmaoacmdiaaGreat.Pu
open Go.RowKit Kp Ext QS Im YtdlmlmaoacmdiaaGreatW.PrintWords YtdlmlmaoacmdiaaGreatW.PrintLast YtdlmlmaoacmdiaaGreatW.PrintMore
theorem inAnd_all : ((List.range 64).all fun f => (List.range 64).all fun g => (Go.bits .andNot .i64 (f : Int) (g : Int) == 0) == decide (Go.bits .and .i64 (f : Int) (g : Int) = (f : Int))) = true := by decide +kernel
theorem inAnd {f g : Int} (h0 : 0 ≤ f) (h1 : f ≤ 63) (g0 : 0 ≤ g) (g1 : g ≤ 63) : (Go.bits .andNot .i64 f g == 0) = decide (Go.bits .and .i64 f g = f) := by
  obtain ⟨m, rfl⟩ := Int.eq_ofNat_of_zero_le h0
  obtain ⟨k, rfl⟩ := Int.eq_ofNat_of_zero_le g0
  exact eq_of_beq (List.all_eq_true.1 (List.all_eq_true.1 inAnd_all m (List.mem_range.2 (by omega))) k (List.mem_range.2 (by omega)))
theorem ev_pair {n : Int} {xs : List Int} (hi : isC n xs = true) (p : Pr) : Ev (fun k => spec_l02Pair.f k n xs p.f0 p.f1) (pairB xs p) := by
  have hs := isC_small hi
  have r := isC_63 hi
  have hm : xs.length ≤ maxLen := by unfold maxLen; omega
  unfold spec_l02Pair.f pairB
  refine Ev.bind (ev_has hm n p.f0) ?_
  by_cases h0 : p.f0 ∈ xs
  · simp only [h0, decide_true, if_true, Bool.true_and]
    refine Ev.bind (ev_has hm n p.f1) ?_
    by_cases h1 : p.f1 ∈ xs
    · have a0 := r _ h0
      have a1 := r _ h1
      simp only [h1, decide_true, if_true, Bool.true_and]
      rw [inAnd (by omega) (by omega) (by omega) (by omega)]
      by_cases h2 : Go.bits .and .i64 p.f0 p.f1 = p.f0
      · simp only [h2, if_true, decide_true, Bool.true_and]
        refine Ev.bind (ev_ones (by omega) (by omega)) ?_
        refine Ev.bind (ev_ones (by omega) (by omega)) ?_
        have hv := verts_len p.f0
        rw [w64 (x := onesZ p.f0 + 1) (by unfold onesZ; omega) (by unfold onesZ; omega)]
        exact Ev.now _
      · simp only [h2, if_false, decide_false, Bool.false_and]
        exact Ev.now _
    · simp only [h1, decide_false, Bool.false_eq_true, if_false, Bool.false_and]
      exact Ev.now _
  · simp only [h0, decide_false, Bool.false_eq_true, if_false, Bool.false_and]
    exact Ev.now _
theorem less_f (p q : Pr) : spec_l02Less.f p.f0 p.f1 q.f0 q.f1 = some (decide (cmpP p q < 0)) := by
  unfold spec_l02Less.f cmpP cmpI
  by_cases h1 : p.f0 < q.f0
  · rw [if_pos h1]; simp [h1]
  · rw [if_neg h1]
    by_cases h2 : p.f0 = q.f0
    · rw [if_pos h2]
      by_cases h3 : p.f1 < q.f1
      · simp [h2, h3]
      · by_cases h4 : p.f1 > q.f1
        · simp [h2, h3, h4]
        · simp [h2, h3, h4]
    · rw [if_neg h2]
      have : p.f0 > q.f0 := by omega
      simp [h1, this]
theorem is2_l1 (n : Int) (xs : List Int) (l : List Pr) (hl : l.length ≤ 1048576) {i : Nat} (hi : i < l.length) (R : Bool) (hR : Ev (fun k => spec_l02Is.l0 k l ((i + 1 : Nat) : Int) n xs) R) :
    ∀ d (j : Nat), i - j = d → j ≤ i → Ev (fun k => spec_l02Is.l1 k l i j n xs) (!(((l.take i).drop j).any fun q => hasF l[i].f0 q || hasF l[i].f1 q) && R) := by
  intro d
  induction d with
  | zero =>
    intro j hd hj
    rw [List.drop_eq_nil_of_le (by rw [List.length_take]; omega)]
    refine Ev.step (f := fun k => spec_l02Is.l0 k l ((i + 1 : Nat) : Int) n xs) (fun k => ?_) (by simpa using hR)
    simp only [spec_l02Is.l1]; rw [if_neg (by omega), succ64 (by omega)]
  | succ d ih =>
    intro j hd hj
    have hj' : j < l.length := by omega
    have hjt : j < (l.take i).length := by rw [List.length_take]; omega
    rw [List.drop_eq_getElem_cons hjt, List.any_cons, List.getElem_take]
    cases hq : (hasF l[i].f0 l[j] || hasF l[i].f1 l[j]) with
    | true =>
      refine Ev.step (f := fun k => some false) (fun k => ?_) (by simpa using Ev.now false)
      simp only [spec_l02Is.l1]
      rw [if_pos (by omega), if_pos (by omega), if_pos (by omega), if_pos (by omega), if_pos (by omega), rdP_at hi, rdP_at hj']
      simp only [hasF, Bool.or_eq_true, beq_iff_eq] at hq
      by_cases h1 : l[i].f0 = l[j].f0
      · rw [if_pos h1]
      · rw [if_neg h1]
        by_cases h2 : l[i].f0 = l[j].f1
        · rw [if_pos h2]
        · rw [if_neg h2]
          by_cases h3 : l[i].f1 = l[j].f0
          · rw [if_pos h3]
          · rw [if_neg h3, if_pos (by simpa [h1, h2, h3] using hq)]
    | false =>
      refine Ev.step (f := fun k => spec_l02Is.l1 k l i ((j + 1 : Nat) : Int) n xs) (fun k => ?_) (by have := ih (j + 1) (by omega) (by omega); simpa using this)
      simp only [spec_l02Is.l1]
      rw [if_pos (by omega), if_pos (by omega), if_pos (by omega), if_pos (by omega), if_pos (by omega), rdP_at hi, rdP_at hj', succ64 (by omega)]
      simp only [hasF, Bool.or_eq_false_iff, beq_eq_false_iff_ne] at hq
      rw [if_neg hq.1.1, if_neg hq.1.2, if_neg hq.2.1, if_neg hq.2.2]
theorem any_or {α : Type} (p q : α → Bool) (l : List α) : (l.any fun x => p x || q x) = (l.any p || l.any q) := by
  induction l with
  | nil => rfl
  | cons a l ih => simp only [List.any_cons, ih]; cases p a <;> cases q a <;> cases l.any p <;> rfl
theorem is2_loop {n : Int} {xs : List Int} (hi : isC n xs = true) {l : List Pr} (hl : l.length ≤ 1048576) : ∀ d (i : Nat), l.length - i = d → i ≤ l.length → Ev (fun k => spec_l02Is.l0 k l i n xs) ((List.range' i d).all (okPairAt xs l)) := by
  intro d
  induction d with
  | zero =>
    intro i hd hi'
    refine Ev.step (f := fun k => some true) (fun k => ?_) (Ev.now _)
    simp only [spec_l02Is.l0]; rw [if_neg (by omega)]
  | succ d ih =>
    intro i hd hi'
    have hlt : i < l.length := by omega
    have hR := ih (i + 1) (by omega) (by omega)
    have hgd : l.getD i z62 = l[i] := by rw [List.getD_eq_getElem?_getD, List.getElem?_eq_getElem hlt]; rfl
    rw [List.range'_succ, List.all_cons]
    have hj0 := is2_l1 n xs l hl hlt _ hR _ 0 rfl (Nat.zero_le _)
    rw [List.drop_zero, any_or] at hj0
    have hno : Ev (fun k => spec_l02Is.j1 k l i true n xs) false := Ev.step (f := fun k => some false) (fun k => by simp only [spec_l02Is.j1, if_true]) (Ev.now _)
    have hyes : Ev (fun k => spec_l02Is.j1 k l i false n xs) (!((l.take i).any (hasF l[i].f0) || (l.take i).any (hasF l[i].f1)) && (List.range' (i + 1) d).all (okPairAt xs l)) := Ev.step (f := fun k => spec_l02Is.l1 k l i ((0 : Nat) : Int) n xs) (fun k => by simp only [spec_l02Is.j1, Bool.false_eq_true, if_false]; rfl) hj0
    have hrd : rd_T62 l (i : Int) = l[i] := rdP_at hlt
    refine Ev.step (f := fun k => (spec_l02Pair.f k n xs l[i].f0 l[i].f1).bind fun t => (if t = true then (if (i : Int) > 0 then (if 0 ≤ (wrap64 ((i : Int) - 1)) then (if (wrap64 ((i : Int) - 1)) < (l.length : Int) then ((spec_l02Less.f ((rd_T62 l (wrap64 ((i : Int) - 1))).f0) ((rd_T62 l (wrap64 ((i : Int) - 1))).f1) l[i].f0 l[i].f1).bind fun t577 => (spec_l02Is.j1 k l i (!t577) n xs)) else (none)) else (none)) else (spec_l02Is.j1 k l i false n xs)) else (spec_l02Is.j1 k l i true n xs))) (fun k => ?_) (Ev.bind (ev_pair hi l[i]) ?_)
    · simp only [spec_l02Is.l0]
      rw [if_pos (by omega), if_pos (by omega), hrd]
    · clear hj0 hR ih
      generalize (List.range' (i + 1) d).all (okPairAt xs l) = G at hyes ⊢
      unfold okPairAt
      rw [hgd]
      cases hp : pairB xs l[i] with
      | false => simp only [Bool.false_eq_true, if_false, Bool.false_and]; exact hno
      | true =>
        simp only [if_true, Bool.true_and]
        rcases i with _ | m
        · simp only [show ¬ (((0 : Nat) : Int) > 0) by omega, if_false]
          simpa using hyes
        · have hm : m < l.length := by omega
          have hw : wrap64 (((m + 1 : Nat) : Int) - 1) = (m : Int) := by rw [w64 (by omega) (by omega)]; omega
          have hgm : l.getD m z62 = l[m] := by rw [List.getD_eq_getElem?_getD, List.getElem?_eq_getElem hm]; rfl
          simp only [show (((m + 1 : Nat) : Int) > 0) by omega, if_true, hw, show (0 : Int) ≤ (m : Int) by omega, show (m : Int) < (l.length : Int) by omega, rdP_at hm, less_f, Option.bind_some, Nat.add_sub_cancel, hgm]
          by_cases hc : cmpP l[m] l[m + 1] < 0
          · simp only [hc, decide_true, Bool.not_true]
            simpa [Bool.and_assoc] using hyes
          · simp only [hc, decide_false, Bool.not_false]
            simpa using hno
theorem ev_is2 {n : Int} {xs : List Int} (hi : isC n xs = true) {l : List Pr} (hl : l.length ≤ 1048576) : Ev (fun k => spec_l02Is.f k n xs l) (pairingB xs l) := by
  unfold spec_l02Is.f pairingB
  rw [List.range_eq_range']
  exact is2_loop hi hl _ 0 rfl (Nat.zero_le _)
theorem cmpP_mem {n : Int} {xs : List Int} {l : List Pr} (h : pairingB xs l = true) : ∀ q ∈ l, q.f0 ∈ xs ∧ q.f1 ∈ xs := by
  intro q hq
  obtain ⟨i, hi, rfl⟩ := List.mem_iff_getElem.1 hq
  have h1 := List.all_eq_true.1 h i (List.mem_range.2 hi)
  unfold okPairAt at h1
  rw [show l.getD i z62 = l[i] by rw [List.getD_eq_getElem?_getD, List.getElem?_eq_getElem hi]; rfl] at h1
  have h2 := (Bool.and_eq_true _ _ ▸ h1).1
  unfold pairB at h2
  simp only [Bool.and_eq_true, decide_eq_true_eq] at h2
  exact ⟨h2.1, h2.2.1⟩
theorem facesP_of {n : Int} {xs : List Int} (hi : isC n xs = true) {l : List Pr} (h : pairingB xs l = true) : FacesP l := fun q hq => by
  have h1 := cmpP_mem (n := n) h q hq
  have r := isC_63 hi
  exact ⟨r _ h1.1, r _ h1.2⟩
def critP (l : List Pr) (f : Int) : Bool := !l.any fun p => p.f0 == f || p.f1 == f
def critL (xs : List Int) (l : List Pr) : List Int := xs.filter (critP l)
theorem crit_l1 (n : Int) (xs : List Int) (l : List Pr) (hl : l.length ≤ 1048576) (hx : xs.length ≤ 1048576) {i : Nat} (hi : i < xs.length) (acc : List Int) (ha : acc.length ≤ i) (R : List Int)
    (h1 : Ev (fun k => spec_l02Critical.l0 k l (acc ++ [xs[i]]) ((i + 1 : Nat) : Int) n xs) R ∧ critP l xs[i] = true ∨ Ev (fun k => spec_l02Critical.l0 k l acc ((i + 1 : Nat) : Int) n xs) R ∧ critP l xs[i] = false) :
    ∀ d (j : Nat) (b : Bool), l.length - j = d → j ≤ l.length → (b && critP (l.drop j) xs[i]) = critP l xs[i] → Ev (fun k => spec_l02Critical.l1 k l acc i b j n xs) R := by
  intro d
  induction d with
  | zero =>
    intro j b hd hj hb
    rw [List.drop_eq_nil_of_le (by omega)] at hb
    simp only [critP, List.any_nil, Bool.not_false, Bool.and_true] at hb
    rcases h1 with ⟨h1, h2⟩ | ⟨h1, h2⟩
    · have hbt : b = true := by rw [hb]; exact h2
      subst hbt
      refine Ev.step (fun k => ?_) h1
      simp only [spec_l02Critical.l1]
      rw [if_neg (by omega), if_pos trivial, if_pos (by omega), if_pos (by omega), if_pos (by omega), rd_at hi, succ64 (by omega)]
    · have hbf : b = false := by rw [hb]; exact h2
      subst hbf
      refine Ev.step (fun k => ?_) h1
      simp only [spec_l02Critical.l1]
      rw [if_neg (by omega), if_neg (by simp), succ64 (by omega)]
  | succ d ih =>
    intro j b hd hj hb
    have hj' : j < l.length := by omega
    rw [List.drop_eq_getElem_cons hj'] at hb
    simp only [critP, List.any_cons, Bool.not_or] at hb
    cases b with
    | false =>
      refine Ev.step (fun k => ?_) (ih (j + 1) false (by omega) (by omega) (by simpa [critP] using hb))
      simp only [spec_l02Critical.l1]
      rw [if_pos (by omega), if_neg (by simp), succ64 (by omega)]
    | true =>
      by_cases h : l[j].f0 = xs[i]
      · refine Ev.step (fun k => ?_) (ih (j + 1) false (by omega) (by omega) (by simpa [critP, h] using hb))
        simp only [spec_l02Critical.l1]
        rw [if_pos (by omega), if_pos trivial, if_pos (by omega), if_pos (by omega), if_pos (by omega), rdP_at hj', rd_at hi, if_pos h, succ64 (by omega)]
      · refine Ev.step (fun k => ?_) (ih (j + 1) (l[j].f1 != xs[i]) (by omega) (by omega) (by simpa [critP, beq_eq_false_iff_ne.2 h, bne] using hb))
        simp only [spec_l02Critical.l1]
        rw [if_pos (by omega), if_pos trivial, if_pos (by omega), if_pos (by omega), if_pos (by omega), rdP_at hj', rd_at hi, if_neg h, succ64 (by omega)]
theorem crit_l0 (n : Int) (xs : List Int) (l : List Pr) (hl : l.length ≤ 1048576) (hx : xs.length ≤ 1048576) : ∀ d (i : Nat) (acc : List Int), xs.length - i = d → i ≤ xs.length → acc.length ≤ i → Ev (fun k => spec_l02Critical.l0 k l acc i n xs) (acc ++ (xs.drop i).filter (critP l)) := by
  intro d
  induction d with
  | zero =>
    intro i acc hd hi ha
    rw [List.drop_eq_nil_of_le (by omega)]
    refine Ev.step (f := fun _ => some acc) (fun k => ?_) (by simpa using Ev.now acc)
    simp only [spec_l02Critical.l0]; rw [if_neg (by omega)]
  | succ d ih =>
    intro i acc hd hi ha
    have hi' : i < xs.length := by omega
    rw [List.drop_eq_getElem_cons hi', List.filter_cons]
    refine Ev.step (f := fun k => spec_l02Critical.l1 k l acc i true ((0 : Nat) : Int) n xs) (fun k => ?_) (crit_l1 n xs l hl hx hi' acc ha _ ?_ _ 0 true rfl (Nat.zero_le _) (by simp))
    · simp only [spec_l02Critical.l0]; rw [if_pos (by omega)]; rfl
    · cases hc : critP l xs[i] with
      | true => exact .inl ⟨by have := ih (i + 1) (acc ++ [xs[i]]) (by omega) (by omega) (by simp; omega); simpa using this, rfl⟩
      | false => exact .inr ⟨by have := ih (i + 1) acc (by omega) (by omega) (by omega); simpa using this, rfl⟩
theorem ev_crit (n : Int) {xs : List Int} (hx : xs.length ≤ 1048576) {l : List Pr} (hl : l.length ≤ 1048576) : Ev (fun k => spec_l02Critical.f k n xs l) (critL xs l) := by
  unfold spec_l02Critical.f critL
  have := crit_l0 n xs l hl hx _ 0 [] rfl (Nat.zero_le _) (by simp)
  simpa using this
end Go.Proofs.YtdlmlmaoacmdiaaGreat.Pu
namespace Go.Proofs.YtdlmlmaoacmdiaaGreat.Im
open Go.RowKit Go.Shelf Kp Ext Cw YtdlmlmaoacmdiaaGreatW.PrintWords YtdlmlmaoacmdiaaGreatW.PrintLast YtdlmlmaoacmdiaaGreatW.PrintMore
def placeP (l : List Pr) (p : Pr) : Nat := (l.takeWhile fun q => decide (cmpP q p < 0)).length
def withP (l : List Pr) (p : Pr) : List Pr := l.take (placeP l p) ++ p :: l.drop (placeP l p)
def cutB (l : List Pr) (p : Pr) : Bool := (List.range l.length).all fun j => decide (cmpP (l.getD j z62) p < 0) == decide (j < placeP l p)
theorem placeP_le (l : List Pr) (p : Pr) : placeP l p ≤ l.length := by
  unfold placeP
  exact (List.takeWhile_sublist _).length_le
theorem cutB_cut {l : List Pr} {p : Pr} (h : cutB l p = true) : CutAt l p (placeP l p) := by
  refine ⟨placeP_le l p, fun j hj => ?_⟩
  have := List.all_eq_true.1 h j (List.mem_range.2 hj)
  rw [beq_iff_eq, decide_eq_decide] at this
  exact this
theorem withP_len (l : List Pr) (p : Pr) : (withP l p).length = l.length + 1 := by
  have := placeP_le l p
  unfold withP
  simp; omega
def okWith (n : Int) (xs : List Int) (l : List Pr) (p : Pr) : Bool := isC n xs && (decide (l.length ≤ 1000000) && (cutB l p && (!pairingB xs (withP l p) || okBfs (withP l p))))
def WithPost (w : World) (r : List Pr) (b : Bool) (e : Ending) (w' : World) : Prop := ∃ v : Value, e = .returned (.tuple #[v, .bool b]) ∧ PO w' w.heap.size v r ∧ Below w.heap.size w w'
set_option maxRecDepth 100000 in
set_option maxHeartbeats 1000000 in
theorem with_c (n : Int) (A : Option Addr) (c : Nat) (xs : List Int) (A1 : Option Addr) (c1 : Nat) (l : List Pr) (p : Pr) (w : World) (hr : RC w A xs.length xs) (hc : xs.length ≤ c) (hr1 : Kd.C k62 w A1 l.length l) (hc1 : l.length ≤ c1) (ho : okWith n xs l p = true) :
    Calls Tryz.prog 35 #[.agg #[.int .i64 n, .slice A xs.length c], .slice A1 l.length c1, .agg #[.int .i64 p.f0, .int .i64 p.f1]] w (WithPost w (withP l p) (pairingB xs (withP l p) && acycB (withP l p))) := by
  unfold okWith at ho
  simp only [Bool.and_eq_true, Bool.or_eq_true, Bool.not_eq_true', decide_eq_true_eq] at ho
  obtain ⟨hi, hl, hcut, hbf⟩ := ho
  obtain ⟨m, hm⟩ : ∃ m, placeP l p = m := ⟨_, rfl⟩
  have hcm := cutB_cut hcut
  rw [hm] at hcm
  have hwl := withP_len l p
  have hwm : withP l p = l.take m ++ p :: l.drop m := by unfold withP; rw [hm]
  obtain ⟨r, hr0⟩ : ∃ r, withP l p = r := ⟨_, rfl⟩
  rw [hr0] at hbf hwl hwm ⊢
  have hml := hcm.1
  have hx0 := Aside0.mk ((CxAt.new w n A xs.length c).below (below_alloc (Below.refl _ _) (.cells #[.int .i64 p.f0, .int .i64 p.f1] 62)))
  have hp0 : Aside0 (PrAt ((w.alloc (.cells #[.int .i64 n, .slice A xs.length c] 29)).alloc (.cells #[.int .i64 p.f0, .int .i64 p.f1] 62)) (w.heap.size + 1) p.f0 p.f1) := ⟨by simpa using PrAt.new (w.alloc (.cells #[.int .i64 n, .slice A xs.length c] 29)) p.f0 p.f1⟩
  have hb0 := Aside0.mk (below_alloc (below_alloc (Below.refl w.heap.size w) (.cells #[.int .i64 n, .slice A xs.length c] 29)) (.cells #[.int .i64 p.f0, .int .i64 p.f1] 62))
  have HR := Aside0.mk hr
  have HR1 := Aside0.mk hr1
  have HI := Aside0.mk hi
  have HC := Aside0.mk hc
  have HC1 := Aside0.mk hc1
  have HCM := Aside0.mk hcm
  have HBF := Aside0.mk hbf
  have HWL := Aside0.mk hwl
  have HWM := Aside0.mk hwm
  clear hr hr1 hi hc hc1 hcm hbf hwl hwm hr0 hm hcut
  go_enter Tryz.func35, Tryz.ntmps35
  go_wp2_with (go_at_call 58; refine (searchP_c A1 c1 l p m _ (Kd.C_below HR1.out hb0.out) (by omega) HCM.out).mono ?_; rintro e w1 ⟨b, rfl, hb⟩; have HX := Aside0.mk (hx0.out.below hb).drew'; have HP := Aside0.mk (hp0.out.below hb).drew; have HB := Aside0.mk (below_in hb0.out hb).drew; clear hx0 hp0 hb0 hb)
  have HLT := Aside0.mk HP.out.lt
  have HLE := Aside0.mk HB.out.size
  refine st_ 7 (S := fun w' => w'.cell? ⟨w.heap.size + 1, 0, none⟩ = some (.int .i64 p.f0) ∧ w'.cell? ⟨w.heap.size + 1, 1, none⟩ = some (.int .i64 p.f1)) (ds := []) ⟨HP.out.c0, HP.out.c1⟩ (fun hHeld => ?_)
  refine with_tabW (T := (true, [([], []), ([0], [0]), ([], []), ([], []), ([3], [3]), ([1, 2, 4, 1], [1, 2, 4]), ([5, 5, 0, 1, 2, 3, 4, 5], [5])])) (B := [0, 1, 0, 0, 8, 31, 63]) (by kernel_rfl) (by kernel_rfl) (fun HT_ HW_ => ?_)
  refine pd_ 0 17 1 HT_ ?_
  refine pd_ 2 19 5 HT_ ?_
  refine tk_ 3 20 13 HT_ HW_ hHeld ?_
  refine tw_ 1 4 (some 18) (some 21) 15 29 HT_ (fun K hK => ?_) (fun K hK => ?_)
  refine ca_ Tryz.func61 #[.slice A1 l.length c1] ?_
  refine (cloneP_c A1 c1 l _ (Kd.C_below HR1.out HB.out) (by omega)).mono ?_; rintro e w2 ⟨v, rfl, hv, hb⟩; have HV := Aside0.mk hv; have HB2 := Aside0.mk (below_in HB.out hb); have HX2 := Aside0.mk (HX.out.below hb); have HP2 := Aside0.mk (HP.out.below hb); have HS2 := Aside0.mk hb.size; clear hv hb HX HP
  refine ⟨_, rfl, ?_⟩
  refine hK.out _ _ ⟨HP2.out.c0, HP2.out.c1⟩ (fun hHeld => ?_)
  clear hK K
  refine nm_ ?_
  refine on_ 4 (some 21) 31 HT_ (fun K hK => ?_)
  (refine value_ (by rfl) rfl (v := .slice (some ⟨w2.heap.size, 0, none⟩) 1 1) (w1 := w2.alloc (.cells #[.int .i64 p.f0, .int .i64 p.f1] 62)) (by go_simp) ?_; have HX3 := Aside0.mk (HX2.out.below (below_alloc (Below.refl _ _) (.cells #[.int .i64 p.f0, .int .i64 p.f1] 62))); have HP3 := Aside0.mk (HP2.out.alloc (.cells #[.int .i64 p.f0, .int .i64 p.f1] 62)); have HL3 := Aside0.mk (PrAt.new w2 p.f0 p.f1); have HV3 := Aside0.mk (Kd.R_alloc HV.out (.cells #[.int .i64 p.f0, .int .i64 p.f1] 62)); have HB3 := Aside0.mk (HB2.out.alloc HB2.out.size (.cells #[.int .i64 p.f0, .int .i64 p.f1] 62)); have HS3 : Aside0 (w1.heap.size ≤ (w2.alloc (.cells #[.int .i64 p.f0, .int .i64 p.f1] 62)).heap.size) := ⟨Nat.le_trans HS2.out (by simp)⟩; have HNE := Aside0.mk (Kd.R_lt HV.out); clear HX2 HP2 HV HB2 HS2)
  refine hK.out _ _ ⟨HP3.out.c0, HP3.out.c1⟩ (fun hHeld => ?_)
  clear hK K
  refine nm_ ?_
  refine on_ 5 (some 22) 63 HT_ (fun K hK => ?_)
  refine ca_ Tryz.func60 #[v, .int .i64 m, .slice (some ⟨w2.heap.size, 0, none⟩) 1 1] ?_
  refine (insertP_c v l m w1.heap.size w2.heap.size p.f0 p.f1 _ HV3.out hml HL3.out (fun e => absurd (HNE.out _ e.symm) (Nat.lt_irrefl _)) HS3.out (by omega)).mono ?_; rintro e w5 ⟨v5, rfl, hv, hb⟩; rw [← HWM.out] at hv; have HV5 := Aside0.mk (Kd.R_lower hv HLE.out); have HP5 : Aside0 (PrAt w5 (w.heap.size + 1) p.f0 p.f1) := ⟨(hb.block _ HLT.out).trans HP3.out⟩; have HX5 : Aside0 (CxAt w5 w.heap.size n A xs.length c) := ⟨(hb.block _ (Nat.lt_of_succ_lt HLT.out)).trans HX3.out⟩; have HB5 := Aside0.mk (HB3.out.trans (hb.mono HLE.out)); clear hv hb HV3 HP3 HX3 HB3 HL3 HNE
  refine ⟨_, rfl, ?_⟩
  refine hK.out _ _ ⟨HP5.out.c0, HP5.out.c1⟩ (fun hHeld => ?_)
  clear hK K
  refine nm_ ?_
  refine pd_ 6 10 127 HT_ ?_
  refine dn_ HT_ ?_
  rotate_left
  (refine value_ (by rfl) rfl (v := .slice (some ⟨w1.heap.size, 0, none⟩) 1 1) (w1 := w1.drew.alloc (.cells #[.int .i64 p.f0, .int .i64 p.f1] 62)) (by go_simp) ?_; have HX2 := Aside0.mk (HX.out.below (below_alloc (Below.refl _ _) (.cells #[.int .i64 p.f0, .int .i64 p.f1] 62))); have HP2 := Aside0.mk (HP.out.alloc (.cells #[.int .i64 p.f0, .int .i64 p.f1] 62)); have HL2 := Aside0.mk (PrAt.new w1.drew p.f0 p.f1); have HB2 := Aside0.mk (HB.out.alloc HB.out.size (.cells #[.int .i64 p.f0, .int .i64 p.f1] 62)); clear HX HP HB)
  refine hK.out _ _ ⟨HP2.out.c0, HP2.out.c1⟩ (fun hHeld => ?_)
  clear hK K
  refine nm_ ?_
  refine on_ 1 (some 18) 31 HT_ (fun K hK => ?_)
  refine ca_ Tryz.func61 #[.slice A1 l.length c1] ?_
  refine (cloneP_c A1 c1 l _ (Kd.C_below HR1.out HB2.out) (by omega)).mono ?_; rintro e w3 ⟨v, rfl, hv, hb⟩; have HV3 := Aside0.mk (Kd.R_lower hv (base' := w1.heap.size) (by simp)); have HB3 := Aside0.mk (below_in HB2.out hb); have HX3 := Aside0.mk (HX2.out.below hb); have HP3 := Aside0.mk (HP2.out.below hb); have HL3 := Aside0.mk (HL2.out.below hb); have HS3 : Aside0 (w1.heap.size ≤ w3.heap.size) := ⟨Nat.le_trans (by simp) hb.size⟩; have HNE := Aside0.mk (Kd.R_base hv); clear hv hb HX2 HP2 HB2 HL2
  refine ⟨_, rfl, ?_⟩
  refine hK.out _ _ ⟨HP3.out.c0, HP3.out.c1⟩ (fun hHeld => ?_)
  clear hK K
  refine nm_ ?_
  refine on_ 5 (some 22) 63 HT_ (fun K hK => ?_)
  refine ca_ Tryz.func60 #[v, .int .i64 m, .slice (some ⟨w1.heap.size, 0, none⟩) 1 1] ?_
  refine (insertP_c v l m w1.heap.size w1.heap.size p.f0 p.f1 _ HV3.out hml HL3.out (fun e => absurd (HNE.out _ e.symm) (by simp)) HS3.out (by omega)).mono ?_; rintro e w5 ⟨v5, rfl, hv, hb⟩; rw [← HWM.out] at hv; have HV5 := Aside0.mk (Kd.R_lower hv HLE.out); have HP5 : Aside0 (PrAt w5 (w.heap.size + 1) p.f0 p.f1) := ⟨(hb.block _ HLT.out).trans HP3.out⟩; have HX5 : Aside0 (CxAt w5 w.heap.size n A xs.length c) := ⟨(hb.block _ (Nat.lt_of_succ_lt HLT.out)).trans HX3.out⟩; have HB5 := Aside0.mk (HB3.out.trans (hb.mono HLE.out)); clear hv hb HV3 HP3 HX3 HB3 HL3 HNE
  refine ⟨_, rfl, ?_⟩
  refine hK.out _ _ ⟨HP5.out.c0, HP5.out.c1⟩ (fun hHeld => ?_)
  clear hK K
  refine nm_ ?_
  refine pd_ 6 10 127 HT_ ?_
  refine dn_ HT_ ?_
  rotate_left
  all_goals
    obtain ⟨A5, c5, rfl⟩ := Kd.R_slice HV5.out
    have hx0 := HX5.out.c0
    have hx1 := HX5.out.c1
    have hrd := (Kd.R_reads' HV5.out)
    have HRD := Aside0.mk hrd
    clear hrd
    by_cases hpb : pairingB xs r = true
    · have hok : okBfs r = true := by
        rcases HBF.out with h | h
        · rw [hpb] at h; cases h
        · exact h
      have HOK := Aside0.mk hok
      have HPB := Aside0.mk hpb
      clear hok hpb HBF
      generalize hpg : pairingB xs r = pb at HPB
      generalize hag : acycB r = ab
      have HPG := Aside0.mk hpg
      have HAG := Aside0.mk hag
      clear hpg hag
      obtain rfl := HPB.out
      go_wp2_with (first
        | (go_at_call 62; refine (isPairing_c n A c xs A5 c5 r _ (Kd.C_below HR.out HB5.out) HC.out HI.out HRD.out.2.2 (by rw [HWL.out]; omega)).mono ?_; rw [HPG.out]; rintro e w6 ⟨rfl, hb⟩; have HB6 := Aside0.mk hb; have HX6 := Aside0.mk (HX5.out.below hb); have hx6 := HX6.out.c0; have hy6 := HX6.out.c1; clear hb hx0 hx1)
        | (go_at_call 63; refine (isAcyclic_c n A c xs A5 c5 r _ (Kd.C_below HRD.out.2.2 HB6.out) HRD.out.2.1 HOK.out).mono ?_; rw [HAG.out]; rintro e w7 ⟨rfl, hb⟩; have HB7 := Aside0.mk hb; clear hb))
      go_ret2
      exact ⟨_, (by rw [HPG.out, HAG.out]; rfl), Kd.R_below HV5.out (below_in HB6.out HB7.out), (below_in HB5.out (below_in HB6.out HB7.out))⟩
    · have hpf : pairingB xs r = false := by simpa using hpb
      have HPF := Aside0.mk hpf
      clear hpb hpf
      go_wp2_with (first
        | (go_at_call 62; refine (isPairing_c n A c xs A5 c5 r _ (Kd.C_below HR.out HB5.out) HC.out HI.out HRD.out.2.2 (by rw [HWL.out]; omega)).mono ?_; rw [HPF.out]; rintro e w6 ⟨rfl, hb⟩; have HB6 := Aside0.mk hb; clear hb))
      go_ret2
      exact ⟨_, (by rw [HPF.out]; rfl), Kd.R_below HV5.out HB6.out, (below_in HB5.out HB6.out)⟩
theorem lessS_f (p q : Pr) : QS.spec_l02Less.f p.f0 p.f1 q.f0 q.f1 = some (decide (cmpP p q < 0)) := by
  unfold QS.spec_l02Less.f cmpP cmpI
  by_cases h1 : p.f0 < q.f0
  · rw [if_pos h1]; simp [h1]
  · rw [if_neg h1]
    by_cases h2 : p.f0 = q.f0
    · rw [if_pos h2]
      by_cases h3 : p.f1 < q.f1
      · simp [h2, h3]
      · by_cases h4 : p.f1 > q.f1
        · simp [h2, h3, h4]
        · simp [h2, h3, h4]
    · rw [if_neg h2]
      by_cases h3 : p.f0 > q.f0
      · simp [h1, h2, h3]
      · omega
def backP (l : List Pr) (p : Pr) : Nat → Nat
  | 0 => 0
  | a + 1 => if cmpP p (l.getD a z62) < 0 then backP l p a else a + 1
def putP (l : List Pr) (p : Pr) : List Pr := l.take (backP l p l.length) ++ p :: l.drop (backP l p l.length)
section
variable {ops : Array Oper} {o : Oper} {a : Act} {Q : Exit → Act → World → Prop} {K : Act → World → Prop}
theorem apPsR {w0 W : World} (base : Nat) (s x : Operand) (v : Value) (xs ys : List Pr) (A : Option Addr) (m c : Nat)
    (hs : a.eval s = v) (hx : a.eval x = .slice A m c) (HO : PO W base v xs) (HR : Kd.C k62 W A m ys) (HB : Below base w0 W) (hbase : base ≤ W.heap.size) (hl : xs.length + m ≤ 8796093022208)
    (h : ∀ v1 w1, PO w1 base v1 (xs ++ ys) → Below base w0 w1 → W.grownBy w1 v.ownBlock → (v1.ownBlock = v.ownBlock ∨ ∃ b, v1.ownBlock = some b ∧ W.heap.size ≤ b) → K (a.put o.dst v1) w1)
    (hw : Region.wanted o (yielded ops a.tmps) = true := by rfl) (ho : o.op = .call { callee := .builtin .append, args := #[s, x], argTypes := #[38, 38] } := by rfl) :
    if Region.wanted o (yielded ops a.tmps) = true then Oper.wp Tryz.prog o a W K Q else K (a.put o.dst undef) W :=
  Kd.R_append_rows_step k62 base hw s x 38 62 (.agg #[.int .i64 0, .int .i64 0]) 16 ho Tryz.underlying38 infoP rfl (by decide) (by decide) v xs ys A m c (fun _ => True) (fun _ => False) hs hx HO HR
    (fun x cs h => by rw [k62_open h]; exact k62_mkM _ _ _ _) (fun _ h => h.elim) (fun _ _ => trivial) HB hbase (by omega) h
end
theorem PO.one (w : World) (base : Nat) (p : Pr) (hb : base ≤ w.heap.size) : PO (w.alloc (.cells #[.int .i64 p.f0, .int .i64 p.f1] 62)) base (.slice (some ⟨w.heap.size, 0, none⟩) 1 1) [p] :=
  PO.mk (xs := [p]) (cap := 1) (cur := [.int .i64 p.f0, .int .i64 p.f1]) hb (heap_alloc_new w _) (Nat.le_refl _) (by simp [maxLen]) rfl rfl
theorem prAt_grown1 {w w1 : World} {b g : Nat} {x y : Int} {v : Value} (h : PrAt w g x y) (hv : v.ownBlock = some b) (hne : g ≠ b) (hg : w.grownBy w1 v.ownBlock) : PrAt w1 g x y := (hg.block g h.lt (fun e => hne (by rw [hv] at e; injection e))).trans h
theorem cxAt_grown1 {w w1 : World} {b g : Nat} {n : Int} {A : Option Addr} {len c : Nat} {v : Value} (h : CxAt w g n A len c) (hl : g < w.heap.size) (hv : v.ownBlock = some b) (hne : g ≠ b) (hg : w.grownBy w1 v.ownBlock) : CxAt w1 g n A len c := (hg.block g hl (fun e => hne (by rw [hv] at e; injection e))).trans h
def With2Post (w : World) (r : List Pr) (b : Bool) (e : Ending) (w' : World) : Prop := ∃ v : Value, e = .returned (.tuple #[v, .bool b]) ∧ PO w' w.heap.size v r ∧ Below w.heap.size w w'
set_option maxRecDepth 100000 in
set_option maxHeartbeats 1000000 in
theorem with2_c (k : Nat) (n : Int) (A : Option Addr) (c : Nat) (xs : List Int) (A1 : Option Addr) (c1 : Nat) (l : List Pr) (p : Pr) (b : Bool) (w : World) (hr : RC w A xs.length xs) (hc : xs.length ≤ c) (hr1 : Kd.C k62 w A1 l.length l) (hc1 : l.length ≤ c1) (hl : l.length ≤ 1000000)
    (hk : QS.spec_l02Is.f k n xs (putP l p) = some b) :
    Calls Tryz.prog 51 #[.agg #[.int .i64 n, .slice A xs.length c], .slice A1 l.length c1, .agg #[.int .i64 p.f0, .int .i64 p.f1]] w (With2Post w (putP l p) b) := by
  have hx0 := Aside0.mk ((CxAt.new w n A xs.length c).below (below_alloc (Below.refl _ _) (.cells #[.int .i64 p.f0, .int .i64 p.f1] 62)))
  have hp0 : Aside0 (PrAt ((w.alloc (.cells #[.int .i64 n, .slice A xs.length c] 29)).alloc (.cells #[.int .i64 p.f0, .int .i64 p.f1] 62)) (w.heap.size + 1) p.f0 p.f1) := ⟨by simpa using PrAt.new (w.alloc (.cells #[.int .i64 n, .slice A xs.length c] 29)) p.f0 p.f1⟩
  have hb0 := Aside0.mk (below_alloc (below_alloc (Below.refl w.heap.size w) (.cells #[.int .i64 n, .slice A xs.length c] 29)) (.cells #[.int .i64 p.f0, .int .i64 p.f1] 62))
  have HR := Aside0.mk hr
  have HR1 := Aside0.mk hr1
  have HC := Aside0.mk hc
  have HC1 := Aside0.mk hc1
  have HK := Aside0.mk hk
  clear hr hr1 hc hc1 hk
  go_enter Tryz.func51, Tryz.ntmps51
  go_wp2
  go_loopw [8] (fun s8 wr => ∃ m : Nat, m ≤ l.length ∧ s8 = .int .i64 m ∧ Aside0 (backP l p l.length = backP l p m) ∧ Aside0 (Below w.heap.size w wr) ∧ Aside0 (CxAt wr w.heap.size n A xs.length c) ∧ Aside0 (PrAt wr (w.heap.size + 1) p.f0 p.f1)) (fun s8 _ => (intOf s8).toNat)
  case atStart => exact ⟨l.length, by omega, rfl, ⟨rfl⟩, hb0, hx0, hp0⟩
  case round =>
    clear hx0 hp0 hb0
    obtain ⟨m, hm, rfl, hback, HB, HX, HP⟩ := hrel
    by_cases h0 : m = 0
    · have hgz : ¬ ((0 : Int) < (m : Int)) := by omega
      have hgn : ¬ (0 < m) := by omega
      have HM : Aside0 (backP l p l.length = m) := ⟨by rw [hback.out, h0]; rfl⟩
      clear h0 hback
      go_wp2
      have HPd := Aside0.mk HP.out.drew; have HBd := Aside0.mk HB.out.drew; have HXd := Aside0.mk HX.out.drew'; clear HP HB HX; have HP := HPd; have HB := HBd; have HX := HXd; clear HPd HBd HXd
      refine st_ 11 (S := fun w' => True) (ds := []) trivial (fun hHeld => ?_)
      refine with_tabW (T := (true, [([], []), ([0], [0]), ([1], [1]), ([2], [2]), ([2], [2]), ([2], [2]), ([5, 2], [2, 5]), ([4, 6, 2], [2, 4, 6]), ([7, 2], [2, 7]), ([3, 8, 2, 2], [2, 3, 8]), ([2, 9], [2, 9])])) (B := [0, 1, 3, 7, 7, 7, 39, 119, 247, 511, 1023]) (by kernel_rfl) (by kernel_rfl) (fun HT_ HW_ => ?_)
      refine pd_ 0 13 1 HT_ ?_
      refine pd_ 1 14 3 HT_ ?_
      refine pd_ 2 15 7 HT_ ?_
      refine pn_ 3 16 15 HT_ ?_
      refine pn_ 4 17 31 HT_ ?_
      refine pn_ 5 18 63 HT_ ?_
      refine pn_ 6 19 127 HT_ ?_
      refine pn_ 7 20 255 HT_ ?_
      refine pn_ 8 21 511 HT_ ?_
      refine pn_ 9 22 1023 HT_ ?_
      refine pd_ 10 23 2047 HT_ ?_
      refine dn_ HT_ ?_
      have HPUT : Aside0 (putP l p = l.take m ++ ([p] ++ l.drop m)) := ⟨by unfold putP; rw [HM.out]; rfl⟩
      have hml := Aside0.mk hm
      obtain ⟨D, hD⟩ : ∃ D, D = (if c1 = m then A1 else A1.map (·.add (m * 2))) := ⟨_, rfl⟩
      have hcutF : ∀ W : World, (Instr.slice 38 (.slice A1 l.length c1) (some (.int .i64 (m : Int))) none none).run Tryz.prog W = .ok (.slice D (l.length - m) (c1 - m)) W := by
        intro W
        obtain ⟨i0, hi0, hz0, hzs, hzb⟩ := info_parts infoP
        have := cut_from 38 62 .i64 Tryz.underlying38 hi0 2 hzs A1 l.length c1 (m : Int) (by omega) (by omega) W
        rw [Int.toNat_natCast, ← hD] at this
        exact this
      have hcutT : ∀ W : World, (Instr.slice 38 (.slice A1 l.length c1) none (some (.int .i64 (m : Int))) none).run Tryz.prog W = .ok (.slice A1 m c1) W := by
        intro W
        obtain ⟨i0, hi0, hz0, hzs, hzb⟩ := info_parts infoP
        have := cut_to 38 62 .i64 Tryz.underlying38 hi0 A1 l.length c1 (m : Int) (by omega) (by omega) HC1.out W
        rw [Int.toNat_natCast] at this
        exact this
      have HRD : Aside0 (∀ W, Below w.heap.size w W → Kd.C k62 W D (l.length - m) (l.drop m)) := ⟨fun W hW => by
        have := Kd.C_drop (Kd.C_below HR1.out hW) hm HC1.out
        rw [List.length_drop] at this
        rw [hD]
        exact this⟩
      have HRT : Aside0 (∀ W, Below w.heap.size w W → Kd.C k62 W A1 m (l.take m)) := ⟨fun W hW => by
        have := Kd.C_take (Kd.C_below HR1.out hW) hm
        rw [List.length_take, Nat.min_eq_left hm] at this
        exact this⟩
      clear hD
      go_wp2
      refine st_ 7 (S := fun w' => w'.cell? ⟨w.heap.size + 1, 0, none⟩ = some (.int .i64 p.f0) ∧ w'.cell? ⟨w.heap.size + 1, 1, none⟩ = some (.int .i64 p.f1)) (ds := []) ⟨HP.out.c0, HP.out.c1⟩ (fun hHeld => ?_)
      refine with_tabW (T := (true, [([], []), ([0], [0]), ([], []), ([], []), ([2, 3], [2, 3]), ([1, 4], [1, 4]), ([5, 5, 0, 1, 2, 3, 4, 5], [5])])) (B := [0, 1, 0, 0, 12, 31, 63]) (by kernel_rfl) (by kernel_rfl) (fun HT_ HW_ => ?_)
      refine pd_ 2 28 4 HT_ ?_
      refine pd_ 3 29 12 HT_ ?_
      refine pd_ 4 30 28 HT_ ?_
      refine tk_ 0 26 29 HT_ HW_ hHeld ?_
      refine on_ 1 (some 27) 31 HT_ (fun K hK => ?_)
      (refine value_ (by rfl) rfl (v := .slice (some ⟨wr.drew.heap.size, 0, none⟩) 1 1) (w1 := wr.drew.drew.alloc (.cells #[.int .i64 p.f0, .int .i64 p.f1] 62)) (by go_simp) ?_; have HX1 := Aside0.mk (HX.out.below (below_alloc (Below.refl _ _) (.cells #[.int .i64 p.f0, .int .i64 p.f1] 62))).drew'; have HP1 := Aside0.mk (HP.out.alloc (.cells #[.int .i64 p.f0, .int .i64 p.f1] 62)).drew; have HB1 := Aside0.mk (HB.out.drew.alloc HB.out.drew.size (.cells #[.int .i64 p.f0, .int .i64 p.f1] 62)); have HLT := Aside0.mk HP.out.lt; have HO1 := Aside0.mk (PO.one wr.drew.drew w.heap.size p HB.out.drew.size); clear HX HP HB)
      refine hK.out _ _ ⟨HP1.out.c0, HP1.out.c1⟩ (fun hHeld => ?_)
      clear hK K
      refine nm_ ?_
      refine on_ 5 (some 31) 63 HT_ (fun K hK => ?_)
      (refine apPsR w.heap.size (.tmp 27) (.tmp 30) _ [p] (l.drop m) D (l.length - m) (c1 - m) rfl rfl HO1.out (HRD.out _ HB1.out) HB1.out HB1.out.size (by simp; omega) ?_; intro v1 w5 ho hb hg hat; have HV1 := Aside0.mk ho; have HB5 := Aside0.mk hb; have HX5 := Aside0.mk (cxAt_grown1 (b := wr.drew.drew.heap.size) HX1.out (Nat.lt_of_succ_lt HP1.out.lt) rfl (Nat.ne_of_lt (Nat.lt_of_succ_lt HLT.out)) hg); have HP5 := Aside0.mk (prAt_grown1 (b := wr.drew.drew.heap.size) HP1.out rfl (Nat.ne_of_lt HLT.out) hg); clear ho hb hg hat HX1 HP1 HB1 HO1)
      refine hK.out _ _ ⟨HP5.out.c0, HP5.out.c1⟩ (fun hHeld => ?_)
      clear hK K
      refine nm_ ?_
      refine pd_ 6 9 127 HT_ ?_
      refine dn_ HT_ ?_
      obtain ⟨A7, c7, rfl⟩ := Kd.R_slice HV1.out
      have hd7 : ([p] ++ l.drop m).length = l.length - m + 1 := by simp <;> omega
      have HRV : Aside0 (∀ W, Below w5.heap.size w5 W → Kd.C k62 W A7 (l.length - m + 1) ([p] ++ l.drop m)) := ⟨fun W hW => by
        have := (Kd.R_reads' HV1.out).2.2
        rw [hd7] at this
        exact Kd.C_below this hW⟩
      have HO6 := Aside0.mk (PO.made w5 w5.heap.size 0 #[] (Nat.le_refl _) (Nat.zero_le _) rfl)
      have HB6 : Aside0 (Below w5.heap.size w5 (w5.alloc (.cells #[] 62))) := ⟨below_alloc (Below.refl _ _) _⟩
      rw [hd7]
      go_wp2_with (first
        | (at_builtin; refine apPs w5.heap.size rfl (.tmp 32) (.tmp 35) rfl _ _ (l.take m) A1 m c1 rfl rfl HO6.out (HRT.out _ (below_in HB5.out HB6.out)) HB6.out HB6.out.size (by simp; omega) ?_; intro v8 w8 ho hb hg hat; clear hat hg; have HO8 := Aside0.mk ho; have HB8 := Aside0.mk hb; clear ho hb)
        | (at_builtin; refine apPs w5.heap.size rfl (.tmp 36) (.tmp 37) rfl _ _ ([p] ++ l.drop m) A7 _ _ rfl rfl HO8.out (HRV.out _ HB8.out) HB8.out HB8.out.size (by simp; omega) ?_; intro v9 w9 ho hb hg hat; clear hat hg; rw [List.nil_append, ← HPUT.out] at ho; have HO9 := Aside0.mk ho; have HB9 := Aside0.mk hb; clear ho hb; obtain ⟨A9, c9, rfl⟩ := Kd.R_slice HO9.out; have HX9 := Aside0.mk (HX5.out.below HB9.out); have hx9 := HX9.out.c0; have hy9 := HX9.out.c1)
        | (go_at_call 71; refine (QS.spec_l02Is.calls k n A c xs A9 c9 (putP l p) b _ (Kd.C_below HR.out (below_in HB5.out HB9.out)) HC.out (Kd.R_reads' HO9.out).2.2 (Kd.R_reads' HO9.out).2.1 HK.out).mono ?_; rintro e w10 ⟨rfl, hb⟩; have HB10 := Aside0.mk hb; clear hb))
      go_ret2
      exact ⟨_, rfl, Kd.R_lower (Kd.R_below HO9.out HB10.out) HB5.out.size, below_in HB5.out (below_in HB9.out HB10.out)⟩
    · have hgz : (0 : Int) < (m : Int) := by omega
      have hgn : 0 < m := by omega
      obtain ⟨m', hm'⟩ : ∃ m', m = m' + 1 := ⟨m - 1, by omega⟩
      obtain ⟨ad, rfl, hp0, hp1⟩ := pair_at (Kd.C_below HR1.out HB.out) m' (by omega)
      have hback' := hback.out
      rw [hm', show backP l p (m' + 1) = if cmpP p (l.getD m' z62) < 0 then backP l p m' else m' + 1 from rfl, ← hm'] at hback'
      generalize l.getD m' z62 = q at hp0 hp1 hback'
      have HW : Aside0 (CellsQ wr ad m' q) := ⟨⟨hp0, hp1⟩⟩
      have HBK := Aside0.mk hback'
      clear hp0 hp1 hback hback'
      have hmlt : (m' : Int) < (l.length : Int) := by omega
      have hwm : wrap64 ((m : Int) - 1) = (m' : Int) := by unfold wrap64; omega
      have HM' := Aside0.mk hm'
      clear hm' h0
      go_wp2
      have HPd := Aside0.mk HP.out.drew; have HBd := Aside0.mk HB.out.drew; have HXd := Aside0.mk HX.out.drew'; have HWd : Aside0 (CellsQ wr.drew ad m' q) := ⟨HW.out⟩; clear HP HB HW HX; have HP := HPd; have HB := HBd; have HW := HWd; have HX := HXd; clear HPd HBd HWd HXd
      refine st_ 11 (S := fun w' => w'.cell? ⟨w.heap.size + 1, 0, none⟩ = some (.int .i64 p.f0) ∧ w'.cell? ⟨w.heap.size + 1, 1, none⟩ = some (.int .i64 p.f1) ∧ w'.cell? (ad.add (m' * 2)) = some (.int .i64 q.f0) ∧ w'.cell? ⟨(ad.add (m' * 2)).block, (ad.add (m' * 2)).off + 1, none⟩ = some (.int .i64 q.f1)) (ds := []) ⟨HP.out.c0, HP.out.c1, HW.out.1, HW.out.2⟩ (fun hHeld => ?_)
      refine with_tabW (T := (true, [([], []), ([0], [0]), ([1], [1]), ([2], [2]), ([2], [2]), ([2], [2]), ([5, 2], [2, 5]), ([4, 6, 2], [2, 4, 6]), ([7, 2], [2, 7]), ([3, 8, 2, 2], [2, 3, 8]), ([2, 9], [2, 9])])) (B := [0, 1, 3, 7, 7, 7, 39, 119, 247, 511, 1023]) (by kernel_rfl) (by kernel_rfl) (fun HT_ HW_ => ?_)
      refine pd_ 0 13 1 HT_ ?_
      refine pd_ 1 14 3 HT_ ?_
      refine pd_ 2 15 7 HT_ ?_
      refine pd_ 4 17 23 HT_ ?_
      refine pd_ 5 18 55 HT_ ?_
      refine pd_ 6 19 119 HT_ ?_
      refine pd_ 7 20 247 HT_ ?_
      refine tk_ 3 16 255 HT_ HW_ hHeld ?_
      refine tk_ 8 21 511 HT_ HW_ hHeld ?_
      refine on_ 9 (some 22) 1023 HT_ (fun K hK => ?_)
      refine ca_ Tryz.func70 #[.agg #[.int .i64 p.f0, .int .i64 p.f1], .agg #[.int .i64 q.f0, .int .i64 q.f1]] ?_
      refine (QS.spec_l02Less.calls _ _ _ _ _ _ (lessS_f p q)).mono ?_; rintro e w1 ⟨rfl, hb⟩; have HP1 := Aside0.mk (HP.out.below hb); have HX1 := Aside0.mk (HX.out.below hb); have HB1 := Aside0.mk (below_in HB.out hb); have HW1 := Aside0.mk (cellsQ_below HW.out hb); clear HP HX HB HW; have HP := HP1; have HX := HX1; have HB := HB1; have HW := HW1; clear HP1 HX1 HB1 HW1; generalize cmpP p q = cp at HBK
      refine ⟨_, rfl, ?_⟩
      refine hK.out _ _ ⟨HP.out.c0, HP.out.c1, HW.out.1, HW.out.2⟩ (fun hHeld => ?_)
      clear hK K
      refine nm_ ?_
      refine pd_ 10 23 2047 HT_ ?_
      refine dn_ HT_ ?_
      by_cases hcp : cp < 0
      · rw [if_pos hcp] at HBK
        go_wp2
        go_roundw
        case measure => have := HM'.out; have hwm2 : wrap64 ((m : Int) - 1) = (m' : Int) := by unfold wrap64; omega
                        simp only [intOf, hwm2]; omega
        case rel => exact ⟨m', by have := HM'.out; omega, by rw [show ((m : Int) - 1) = (m' : Int) by have := HM'.out; omega], HBK, HB, HX, HP⟩
      · have HM : Aside0 (backP l p l.length = m) := by rw [if_neg hcp] at HBK; exact HBK
        clear HBK hwm hmlt hgz HW
        have HPUT : Aside0 (putP l p = l.take m ++ ([p] ++ l.drop m)) := ⟨by unfold putP; rw [HM.out]; rfl⟩
        have hml := Aside0.mk hm
        obtain ⟨D, hD⟩ : ∃ D, D = (if c1 = m then (some ad) else (some ad : Option Addr).map (·.add (m * 2))) := ⟨_, rfl⟩
        have hcutF : ∀ W : World, (Instr.slice 38 (.slice (some ad) l.length c1) (some (.int .i64 (m : Int))) none none).run Tryz.prog W = .ok (.slice D (l.length - m) (c1 - m)) W := by
          intro W
          obtain ⟨i0, hi0, hz0, hzs, hzb⟩ := info_parts infoP
          have := cut_from 38 62 .i64 Tryz.underlying38 hi0 2 hzs (some ad) l.length c1 (m : Int) (by omega) (by omega) W
          rw [Int.toNat_natCast, ← hD] at this
          exact this
        have hcutT : ∀ W : World, (Instr.slice 38 (.slice (some ad) l.length c1) none (some (.int .i64 (m : Int))) none).run Tryz.prog W = .ok (.slice (some ad) m c1) W := by
          intro W
          obtain ⟨i0, hi0, hz0, hzs, hzb⟩ := info_parts infoP
          have := cut_to 38 62 .i64 Tryz.underlying38 hi0 (some ad) l.length c1 (m : Int) (by omega) (by omega) HC1.out W
          rw [Int.toNat_natCast] at this
          exact this
        have HRD : Aside0 (∀ W, Below w.heap.size w W → Kd.C k62 W D (l.length - m) (l.drop m)) := ⟨fun W hW => by
          have := Kd.C_drop (Kd.C_below HR1.out hW) hm HC1.out
          rw [List.length_drop] at this
          rw [hD]
          exact this⟩
        have HRT : Aside0 (∀ W, Below w.heap.size w W → Kd.C k62 W (some ad) m (l.take m)) := ⟨fun W hW => by
          have := Kd.C_take (Kd.C_below HR1.out hW) hm
          rw [List.length_take, Nat.min_eq_left hm] at this
          exact this⟩
        clear hD
        go_wp2
        refine st_ 7 (S := fun w' => w'.cell? ⟨w.heap.size + 1, 0, none⟩ = some (.int .i64 p.f0) ∧ w'.cell? ⟨w.heap.size + 1, 1, none⟩ = some (.int .i64 p.f1)) (ds := []) ⟨HP.out.c0, HP.out.c1⟩ (fun hHeld => ?_)
        refine with_tabW (T := (true, [([], []), ([0], [0]), ([], []), ([], []), ([2, 3], [2, 3]), ([1, 4], [1, 4]), ([5, 5, 0, 1, 2, 3, 4, 5], [5])])) (B := [0, 1, 0, 0, 12, 31, 63]) (by kernel_rfl) (by kernel_rfl) (fun HT_ HW_ => ?_)
        refine pd_ 2 28 4 HT_ ?_
        refine pd_ 3 29 12 HT_ ?_
        refine pd_ 4 30 28 HT_ ?_
        refine tk_ 0 26 29 HT_ HW_ hHeld ?_
        refine on_ 1 (some 27) 31 HT_ (fun K hK => ?_)
        (refine value_ (by rfl) rfl (v := .slice (some ⟨w1.heap.size, 0, none⟩) 1 1) (w1 := w1.drew.alloc (.cells #[.int .i64 p.f0, .int .i64 p.f1] 62)) (by go_simp) ?_; have HX1 := Aside0.mk (HX.out.below (below_alloc (Below.refl _ _) (.cells #[.int .i64 p.f0, .int .i64 p.f1] 62))).drew'; have HP1 := Aside0.mk (HP.out.alloc (.cells #[.int .i64 p.f0, .int .i64 p.f1] 62)).drew; have HB1 := Aside0.mk (HB.out.drew.alloc HB.out.drew.size (.cells #[.int .i64 p.f0, .int .i64 p.f1] 62)); have HLT := Aside0.mk HP.out.lt; have HO1 := Aside0.mk (PO.one w1.drew w.heap.size p HB.out.drew.size); clear HX HP HB)
        refine hK.out _ _ ⟨HP1.out.c0, HP1.out.c1⟩ (fun hHeld => ?_)
        clear hK K
        refine nm_ ?_
        refine on_ 5 (some 31) 63 HT_ (fun K hK => ?_)
        (refine apPsR w.heap.size (.tmp 27) (.tmp 30) _ [p] (l.drop m) D (l.length - m) (c1 - m) rfl rfl HO1.out (HRD.out _ HB1.out) HB1.out HB1.out.size (by simp; omega) ?_; intro v1 w5 ho hb hg hat; have HV1 := Aside0.mk ho; have HB5 := Aside0.mk hb; have HX5 := Aside0.mk (cxAt_grown1 (b := w1.drew.heap.size) HX1.out (Nat.lt_of_succ_lt HP1.out.lt) rfl (Nat.ne_of_lt (Nat.lt_of_succ_lt HLT.out)) hg); have HP5 := Aside0.mk (prAt_grown1 (b := w1.drew.heap.size) HP1.out rfl (Nat.ne_of_lt HLT.out) hg); clear ho hb hg hat HX1 HP1 HB1 HO1)
        refine hK.out _ _ ⟨HP5.out.c0, HP5.out.c1⟩ (fun hHeld => ?_)
        clear hK K
        refine nm_ ?_
        refine pd_ 6 9 127 HT_ ?_
        refine dn_ HT_ ?_
        obtain ⟨A7, c7, rfl⟩ := Kd.R_slice HV1.out
        have hd7 : ([p] ++ l.drop m).length = l.length - m + 1 := by simp <;> omega
        have HRV : Aside0 (∀ W, Below w5.heap.size w5 W → Kd.C k62 W A7 (l.length - m + 1) ([p] ++ l.drop m)) := ⟨fun W hW => by
          have := (Kd.R_reads' HV1.out).2.2
          rw [hd7] at this
          exact Kd.C_below this hW⟩
        have HO6 := Aside0.mk (PO.made w5 w5.heap.size 0 #[] (Nat.le_refl _) (Nat.zero_le _) rfl)
        have HB6 : Aside0 (Below w5.heap.size w5 (w5.alloc (.cells #[] 62))) := ⟨below_alloc (Below.refl _ _) _⟩
        rw [hd7]
        go_wp2_with (first
          | (at_builtin; refine apPs w5.heap.size rfl (.tmp 32) (.tmp 35) rfl _ _ (l.take m) (some ad) m c1 rfl rfl HO6.out (HRT.out _ (below_in HB5.out HB6.out)) HB6.out HB6.out.size (by simp; omega) ?_; intro v8 w8 ho hb hg hat; clear hat hg; have HO8 := Aside0.mk ho; have HB8 := Aside0.mk hb; clear ho hb)
          | (at_builtin; refine apPs w5.heap.size rfl (.tmp 36) (.tmp 37) rfl _ _ ([p] ++ l.drop m) A7 _ _ rfl rfl HO8.out (HRV.out _ HB8.out) HB8.out HB8.out.size (by simp; omega) ?_; intro v9 w9 ho hb hg hat; clear hat hg; rw [List.nil_append, ← HPUT.out] at ho; have HO9 := Aside0.mk ho; have HB9 := Aside0.mk hb; clear ho hb; obtain ⟨A9, c9, rfl⟩ := Kd.R_slice HO9.out; have HX9 := Aside0.mk (HX5.out.below HB9.out); have hx9 := HX9.out.c0; have hy9 := HX9.out.c1)
          | (go_at_call 71; refine (QS.spec_l02Is.calls k n A c xs A9 c9 (putP l p) b _ (Kd.C_below HR.out (below_in HB5.out HB9.out)) HC.out (Kd.R_reads' HO9.out).2.2 (Kd.R_reads' HO9.out).2.1 HK.out).mono ?_; rintro e w10 ⟨rfl, hb⟩; have HB10 := Aside0.mk hb; clear hb))
        go_ret2
        exact ⟨_, rfl, Kd.R_lower (Kd.R_below HO9.out HB10.out) HB5.out.size, below_in HB5.out (below_in HB9.out HB10.out)⟩
end Go.Proofs.YtdlmlmaoacmdiaaGreat.Im
namespace Go.Proofs.YtdlmlmaoacmdiaaGreat.QS
open Go.RowKit Kp Ext YtdlmlmaoacmdiaaGreatW.PrintWords YtdlmlmaoacmdiaaGreatW.PrintLast YtdlmlmaoacmdiaaGreatW.PrintMore
def spec_l02With.f (k : Nat) (a0_0 : Int) (l0_1 : List Int) (l1 : List (S62)) (a2_0 : Int) (a2_1 : Int) : Option ((List (S62)) × Bool) :=
  if l1.length ≤ 1000000 then (spec_l02Is.f k a0_0 l0_1 (Im.putP l1 ⟨a2_0, a2_1⟩)).bind fun b => some (Im.putP l1 ⟨a2_0, a2_1⟩, b) else none
theorem spec_l02With.calls (k : Nat) (a0_0 : Int) (A0_1 : Option Addr) (c0_1 : Nat) (l0_1 : List Int) (A1 : Option Addr) (c1 : Nat) (l1 : List (S62)) (a2_0 : Int) (a2_1 : Int) (r1 : List (S62)) (r2 : Bool) (w : World) (hr0_1 : Kd.C (Kd.int .i64) w A0_1 l0_1.length l0_1) (hc0_1 : l0_1.length ≤ c0_1) (hr1 : Kd.C k62 w A1 l1.length l1) (hc1 : l1.length ≤ c1) (h : spec_l02With.f k a0_0 l0_1 l1 a2_0 a2_1 = some (r1, r2)) :
    Calls Tryz.prog 51 #[.agg #[.int .i64 a0_0, .slice A0_1 l0_1.length c0_1], .slice A1 l1.length c1, .agg #[.int .i64 a2_0, .int .i64 a2_1]] w fun e w' => ∃ v0_ : Value, e = .returned (.tuple #[v0_, .bool r2]) ∧ Kd.R k62 62 w' w.heap.size (fun _ => True) v0_ r1 ∧ Below w.heap.size w w' := by
  unfold spec_l02With.f at h
  by_cases hl : l1.length ≤ 1000000
  · rw [if_pos hl] at h
    obtain ⟨b, hk, hb⟩ := Option.bind_eq_some_iff.1 h
    obtain ⟨h1, h2⟩ := Prod.mk.inj (Option.some.inj hb)
    subst h1
    subst h2
    exact Im.with2_c k a0_0 A0_1 c0_1 l0_1 A1 c1 l1 ⟨a2_0, a2_1⟩ b w hr0_1 hc0_1 hr1 hc1 hl hk
  · rw [if_neg hl] at h; cases h
end Go.Proofs.YtdlmlmaoacmdiaaGreat.QS
namespace Go.Proofs.YtdlmlmaoacmdiaaGreat.QS
open Cw Kp Ext Go.RowKit YtdlmlmaoacmdiaaGreatW.PrintWords YtdlmlmaoacmdiaaGreatW.PrintLast YtdlmlmaoacmdiaaGreatW.PrintMore
attribute [local go_sem] max2_int min2_int max_two min_two max_three min_three max_four min_four   -- for this text's walks alone
mutual
def spec_l02All.l0 : Nat → List (S62) → Int → Int → List Int → Option ((List (S62)))
 | 0, _, _, _, _ => none
 | k + 1, x3, x4, x240000, x240001 => if x4 < (x240001.length : Int) then (if 0 ≤ x4 then ((spec_l01Above.f k x240000 x240001 (rd x240001 x4)).bind fun t244 => (spec_l02All.l1 k x3 x4 t244 0 x240000 x240001)) else (none)) else (some x3)
def spec_l02All.l1 : Nat → List (S62) → Int → List Int → Int → Int → List Int → Option ((List (S62)))
 | 0, _, _, _, _, _, _ => none
 | k + 1, x3, x4, x5, x6, x240000, x240001 => if x6 < (x5.length : Int) then (if 0 ≤ x4 then (if x4 < (x240001.length : Int) then (if 0 ≤ x6 then ((spec_l02With.f k x240000 x240001 x3 (rd x240001 x4) (rd x5 x6)).bind fun bt249 => (spec_l02All.l1 k bt249.1 x4 x5 (wrap64 (x6 + 1)) x240000 x240001)) else (none)) else (none)) else (none)) else (spec_l02All.l0 k x3 (wrap64 (x4 + 1)) x240000 x240001)
end
def spec_l02All.f (k : Nat) (a0_0 : Int) (l0_1 : List Int) : Option ((List (S62))) := spec_l02All.l0 k (([] : List (S62))) 0 a0_0 l0_1
def spec_l02All.T5 : Bool × List (List Nat × List Nat) := (true, [([], []), ([], []), ([1], [1]), ([], []), ([2, 3], [2, 3]), ([4], [4]), ([0, 5], [0, 5]), ([6, 6, 0, 1, 2, 3, 4, 5, 6], [6])])
def spec_l02All.B5 : List Nat := [0, 0, 2, 0, 14, 30, 63, 127]
theorem spec_l02All.tab5 : rtab .any (opsOf Tryz.f29 5) = spec_l02All.T5 := by kernel_rfl
theorem spec_l02All.bits5 : waitsOk spec_l02All.T5.2 spec_l02All.B5 = true := by kernel_rfl
def spec_l02All.T9 : Bool × List (List Nat × List Nat) := (true, [([], []), ([], []), ([], []), ([2], [2]), ([], []), ([3, 4], [3, 4]), ([5], [5]), ([], []), ([], []), ([7, 8], [7, 8]), ([9], [9]), ([6, 10], [6, 10]), ([0, 1, 11], [0, 1, 11]), ([12], [12]), ([13], [13]), ([13], [13]), ([14, 12, 0, 1, 2, 3, 4, 5, 6, 7, 8, 9, 10, 11, 12, 13, 14], [1, 14])])
def spec_l02All.B9 : List Nat := [0, 0, 0, 4, 0, 28, 60, 0, 0, 384, 896, 2044, 4095, 8191, 16383, 16383, 32767]
theorem spec_l02All.tab9 : rtab .any (opsOf Tryz.f29 9) = spec_l02All.T9 := by kernel_rfl
theorem spec_l02All.bits9 : waitsOk spec_l02All.T9.2 spec_l02All.B9 = true := by kernel_rfl
set_option maxHeartbeats 8000000 in
set_option maxRecDepth 100000 in
theorem spec_l02All.calls (k : Nat) (a0_0 : Int) (A0_1 : Option Addr) (c0_1 : Nat) (l0_1 : List Int) (r : List (S62)) (w : World) (hr0_1 : Kd.C (Kd.int .i64) w A0_1 l0_1.length l0_1) (hc0_1 : l0_1.length ≤ c0_1) (h : spec_l02All.f k a0_0 l0_1 = some r) :
  Calls Tryz.prog 29 #[.agg #[.int .i64 a0_0, .slice A0_1 l0_1.length c0_1]] w fun e w' => ∃ v0_ : Value, e = .returned (v0_) ∧ Kd.R k62 62 w' w.heap.size (fun _ => True) v0_ r ∧ Below w.heap.size w w' := by
 have hu29 := Tryz.underlying29
 have hu62 := Tryz.underlying62
 have HR0_1 := Aside0.mk hr0_1
 have HC0_1 := Aside0.mk hc0_1
 clear hr0_1 hc0_1
 have HB := Aside0.mk (Below.refl w.heap.size w)
 have H : (spec_l02All.l0 k (([] : List (S62))) 0 a0_0 l0_1) = some r := h
 clear h
 obtain ⟨y240, hy240⟩ : ∃ y_ : List (S62), y_ = (([] : List (S62))) := ⟨_, rfl⟩
 replace H : (spec_l02All.l0 k y240 0 a0_0 l0_1) = some r := by first | (rw [hy240]; with_reducible exact H) | (have H2_ := (Option.bind_some _ _).symm.trans H; rw [hy240]; with_reducible exact H2_) | (have H2_ := (Option.bind_some _ _).symm.trans H; with_reducible exact H2_) | with_reducible exact H | (rw [hy240]; exact H) | exact H
 have Ny240 := Aside0.mk hy240
 clear hy240
 have H' := Aside0.mk H
 clear H
 go_enter Tryz.func29, Tryz.ntmps29
 go_wp2_with (first | ((with_reducible refine gate_dst (N := 1) rfl ?_); refine box_event ?hg (N := 1) ?hd (cs := #[.int .i64 a0_0, .slice A0_1 l0_1.length c0_1]) (t := 29) ?hr ?_; (case hd => rfl); (case hg => rfl); (case hr => first | (go_simp; done) | (go_simp; rfl)); intro gb239 hg w2 hbox hb; have BK239 := Aside0.mk (hbox); have GW239 := gH HB hg; have GE239 := gH HB hg; replace HB := sH HB hb; clear hb hbox hg) | ((with_reducible refine gate_dst (N := 7) rfl ?_); refine Kd.R_lit k62 _ 62 ?hg (N := 7) ?hd (xs := ([] : List (S62))) (inner := []) (ok := fun _ => True) (okp := fun _ => True) ?hr ?hp (fun _ hk => hk) trivial (Below.refl _ _) (Nat.le_refl _) (by simp) ?_; (case hd => rfl); (case hg => rfl); (case hr => first | (go_simp; done) | (go_simp; rfl)); (case hp => exact (Reps.none _ _)); intro v241 w3 ho4 hb hg_ hnew_; clear hg_ hnew_; (first | rw [← Ny240.out] at ho4 | (simp only [Int.reduceToNat] at ho4; rw [← Ny240.out] at ho4)); have HO242 := Aside0.mk (Kd.R_lower ho4 (below_size (pH HB))); replace BK239 := sB BK239 hb; replace HB := sH HB hb; clear hb ho4))
 go_loopg [3, 4] k (fun kq v3 v4 w' => ∃ (x3_1 : List (S62)) (x4_1 : Int), v4 = .int .i64 x4_1 ∧ Aside0 (spec_l02All.l0 kq x3_1 x4_1 a0_0 l0_1 = some r) ∧ Aside0 (kq ≤ k) ∧ Aside0 (Kd.R k62 62 w' w.heap.size (fun _ => True) v3 x3_1) ∧ Aside0 (w'.heap[gb239]? = some (.cells #[.int .i64 a0_0, (.slice A0_1 l0_1.length c0_1)] 29 (0, 0))) ∧ Aside0 (Below w.heap.size w w'))
 case atStart => exact ⟨(y240), (0), (by first | rfl | (simp; done) | (simp [*]; done)), H', ⟨Nat.le_refl _⟩, ⟨by (with_reducible repeat (first | apply Kd.R_alloc | apply Kd.R_drewN | apply Kd.R_drew)); exact HO242.out⟩, ⟨pB BK239⟩, ⟨pH HB⟩⟩
 case round =>
  clear H'
  try clear c2
  try clear p2
  obtain ⟨x3_1, x4_1, rfl, HA, HK1, HO_3, BK239, HB⟩ := hrel
  cases gk with
  | zero => exact absurd HA.out (by simp [spec_l02All.l0])
  | succ k1 =>
   have H := HA.out
   clear HA
   simp only [spec_l02All.l0] at H
   by_cases c5 : x4_1 < (l0_1.length : Int)
   ·rw [if_pos c5] at H
    have c5b0 : decide (x4_1 < (l0_1.length : Int)) = true := decide_eq_true c5
    clear c5
    by_cases c6 : 0 ≤ x4_1
    ·rw [if_pos c6] at H
     have c6b0 : decide (0 ≤ x4_1) = true := decide_eq_true c6
     clear c6
     replace H := Option.bind_eq_some_iff.mp H
     obtain ⟨t244, A70, H⟩ := H
     try dsimp only at H
     have A7 := Aside0.mk A70
     clear A70
     have H' := Aside0.mk H
     clear H
     have hcz8_0 : wr.cell? ⟨gb239, 0, none⟩ = some (.int .i64 a0_0) := cB BK239 0
     have hcz8_1 : wr.cell? ⟨gb239, 1, none⟩ = some (.slice A0_1 l0_1.length c0_1) := cB BK239 1
     have hfz8_0 := zB BK239 0
     have hfz8_1 := zB BK239 1
     try go_wp2
     replace HO_3 := Aside0.mk (Kd.R_drew HO_3.out)
     replace BK239 := dB BK239
     replace HB := dH HB
     have p243 : 0 ≤ (x4_1 : Int) := of_decide_eq_true (by first | (with_reducible assumption) | assumption)
     have q243 : x4_1 < (l0_1.length : Int) := of_decide_eq_true (by first | (with_reducible assumption) | assumption)
     obtain ⟨ad243, e243, hx243_0⟩ := Kd.at_int HR0_1.out x4_1 p243 q243
     have hw243_0 := hx243_0
     cases e243
     replace hx243_0 := cH HB hx243_0
     replace p243 := eq_true p243
     replace q243 := eq_true q243
     refine st_ 8 (S := fun w' => w'.cell? ⟨gb239, 0, none⟩ = some (.int .i64 a0_0) ∧ w'.cell? ⟨gb239, 1, none⟩ = some (.slice (some ad243) l0_1.length c0_1) ∧ w'.cell? (ad243.add (x4_1).toNat) = some (.int .i64 (rd l0_1 x4_1))) (ds := []) ⟨cB BK239 0, cB BK239 1, (cH HB hw243_0 :)⟩ (fun hHeld => ?_); refine with_tabW spec_l02All.tab5 spec_l02All.bits5 (fun HT_ HW_ => ?_)
     generalize wr.drew = w9 at HO_3 BK239 HB hx243_0 hHeld ⊢
     refine pu_ 1 16 2 HT_ ?_
     refine pu_ 3 18 10 HT_ ?_
     refine tk_ 0 15 11 HT_ HW_ hHeld ?_
     refine tk_ 2 17 15 HT_ HW_ hHeld ?_
     refine pu_ 4 19 31 HT_ ?_
     refine tk_ 5 20 63 HT_ HW_ hHeld ?_
     refine on_ 6 (some 21) 127 HT_ (fun K hK => ?_)
     refine ca_ Tryz.func50 #[.agg #[.int .i64 a0_0, .slice (some ad243) l0_1.length c0_1], .int .i64 (rd l0_1 x4_1)] ?_
     with_reducible refine (spec_l01Above.calls k1 a0_0 _ _ l0_1 (rd l0_1 x4_1) t244 _ ?side1 ?side2 A7.out).mono ?_
     (case side1 => exact pC ((Kd.C_below HR0_1.out HB.out)))
     (case side2 => exact HC0_1.out)
     rintro e w10 ⟨v245, rfl, ho0, hb⟩
     refine ⟨_, rfl, ?_⟩
     replace HO_3 := sR HO_3 hb
     have HO246 := Aside0.mk (Kd.R_lower ho0 (below_size (pH HB)))
     replace BK239 := sB BK239 hb
     replace HB := sH HB hb
     (try clear hb)
     (try clear hb2)
     (try clear hk)
     (try clear hi)
     (try clear ho0)
     refine hK.out _ _ ⟨cB BK239 0, cB BK239 1, (cH HB hw243_0 :)⟩ (fun hHeld => ?_)
     clear hK K
     refine nm_ ?_
     refine pu_ 7 5 255 HT_ ?_
     refine dn_ HT_ ?_
     try go_wp2
     go_loopg [3, 6] k1 (fun kq v3 v6 w' => ∃ (x3_2 : List (S62)) (x6_2 : Int), v6 = .int .i64 x6_2 ∧ Aside0 (spec_l02All.l1 kq x3_2 x4_1 t244 x6_2 a0_0 l0_1 = some r) ∧ Aside0 (kq ≤ k1) ∧ Aside0 (Kd.R k62 62 w' w.heap.size (fun _ => True) v3 x3_2) ∧ Aside0 (Kd.R (Kd.int .i64) 2 w' w.heap.size (fun _ => True) v245 t244) ∧ Aside0 (w'.heap[gb239]? = some (.cells #[.int .i64 a0_0, (.slice (some ad243) l0_1.length c0_1)] 29 (0, 0))) ∧ Aside0 (Below w.heap.size w w'))
     case atStart => exact ⟨(x3_1), (0), (by first | rfl | (simp; done) | (simp [*]; done)), H', ⟨Nat.le_refl _⟩, ⟨by (with_reducible repeat (first | apply Kd.R_alloc | apply Kd.R_drewN | apply Kd.R_drew)); exact HO_3.out⟩, ⟨by (with_reducible repeat (first | apply Kd.R_alloc | apply Kd.R_drewN | apply Kd.R_drew)); exact HO246.out⟩, ⟨pB BK239⟩, ⟨pH HB⟩⟩
     case round =>
      clear H'
      try clear c2
      try clear p2
      try clear q2
      try clear hx2
      try clear c5
      try clear c5b0
      try clear c6
      try clear c6b0
      try clear hcz8_0
      try clear hcz8_1
      try clear hfz8_0
      try clear hfz8_1
      try clear hx243_0
      try clear p2
      try clear p243
      try clear q243
      obtain ⟨x3_2, x6_2, rfl, HA, HK2, HO_3, HO_5, BK239, HB⟩ := hrel
      cases gk with
      | zero => exact absurd HA.out (by simp [spec_l02All.l1])
      | succ k2 =>
       have H := HA.out
       clear HA
       simp only [spec_l02All.l1] at H
       by_cases c11 : x6_2 < (t244.length : Int)
       ·rw [if_pos c11] at H
        have c11b0 : decide (x6_2 < (t244.length : Int)) = true := decide_eq_true c11
        clear c11
        by_cases c12 : 0 ≤ x4_1
        ·rw [if_pos c12] at H
         have c12b0 : decide (0 ≤ x4_1) = true := decide_eq_true c12
         clear c12
         by_cases c13 : x4_1 < (l0_1.length : Int)
         ·rw [if_pos c13] at H
          have c13b0 : decide (x4_1 < (l0_1.length : Int)) = true := decide_eq_true c13
          clear c13
          by_cases c14 : 0 ≤ x6_2
          ·rw [if_pos c14] at H
           have c14b0 : decide (0 ≤ x6_2) = true := decide_eq_true c14
           clear c14
           replace H := Option.bind_eq_some_iff.mp H
           obtain ⟨⟨t249, t252⟩, A150, H⟩ := H
           try dsimp only at H
           have A15 := Aside0.mk A150
           clear A150
           have H' := Aside0.mk H
           clear H
           obtain ⟨Ao16, co16, eo16⟩ := Kd.R_slice HO_5.out
           subst eo16
           try go_wp2
           replace HO_3 := Aside0.mk (Kd.R_drew HO_3.out)
           replace HO_5 := Aside0.mk (Kd.R_drew HO_5.out)
           replace BK239 := dB BK239
           replace HB := dH HB
           have p247 : 0 ≤ (x4_1 : Int) := of_decide_eq_true (by first | (with_reducible assumption) | assumption)
           have q247 : x4_1 < (l0_1.length : Int) := of_decide_eq_true (by first | (with_reducible assumption) | assumption)
           obtain ⟨ad247, e247, hx247_0⟩ := Kd.at_int HR0_1.out x4_1 p247 q247
           have hw247_0 := hx247_0
           obtain rfl : ad243 = ad247 := (by injection e247)
           replace hx247_0 := cH HB hx247_0
           replace p247 := eq_true p247
           replace q247 := eq_true q247
           have p248 : 0 ≤ (x6_2 : Int) := of_decide_eq_true (by first | (with_reducible assumption) | assumption)
           have q248 : x6_2 < (t244.length : Int) := of_decide_eq_true (by first | (with_reducible assumption) | assumption)
           obtain ⟨ad248, e248, hx248_0⟩ := Kd.at_int (Kd.R_reads' HO_5.out).2.2 x6_2 p248 q248
           cases e248
           replace p248 := eq_true p248
           replace q248 := eq_true q248
           obtain ⟨Ao18, co18, eo18⟩ := Kd.R_slice HO_3.out
           (first | subst eo18 | (injection eo18 with f1_ f2_ f3_; have f4_ := f1_.symm; have f5_ := f3_.symm; clear f1_ f2_ f3_; subst f4_; subst f5_))
           refine st_ 17 (S := fun w' => w'.cell? ⟨gb239, 0, none⟩ = some (.int .i64 a0_0) ∧ w'.cell? ⟨gb239, 1, none⟩ = some (.slice (some ad243) l0_1.length c0_1) ∧ w'.cell? (ad243.add (x4_1).toNat) = some (.int .i64 (rd l0_1 x4_1)) ∧ w'.cell? (ad248.add (x6_2).toNat) = some (.int .i64 (rd t244 x6_2))) (ds := []) ⟨cB BK239 0, cB BK239 1, (cH HB hw247_0 :), hx248_0⟩ (fun hHeld => ?_); refine with_tabW spec_l02All.tab9 spec_l02All.bits9 (fun HT_ HW_ => ?_)
           generalize wr.drew = w17 at HO_3 HO_5 BK239 HB hx247_0 hx248_0 hHeld ⊢
           refine pu_ 1 30 2 HT_ ?_
           refine pu_ 2 31 6 HT_ ?_
           refine pu_ 4 33 22 HT_ ?_
           refine pu_ 7 36 150 HT_ ?_
           refine pu_ 8 37 406 HT_ ?_
           refine pu_ 9 38 918 HT_ ?_
           refine tk_ 0 29 919 HT_ HW_ hHeld ?_
           refine tk_ 3 32 927 HT_ HW_ hHeld ?_
           refine pu_ 5 34 959 HT_ ?_
           refine tk_ 6 35 1023 HT_ HW_ hHeld ?_
           refine tk_ 10 39 2047 HT_ HW_ hHeld ?_
           refine pu_ 11 40 4095 HT_ ?_
           refine on_ 12 (some 41) 8191 HT_ (fun K hK => ?_)
           refine ca_ Tryz.func51 #[.agg #[.int .i64 a0_0, .slice (some ad243) l0_1.length c0_1], .slice Ao18 x3_2.length co18, .agg #[.int .i64 (rd l0_1 x4_1), .int .i64 (rd t244 x6_2)]] ?_
           with_reducible refine (spec_l02With.calls k2 a0_0 _ _ l0_1 _ _ x3_2 (rd l0_1 x4_1) (rd t244 x6_2) t249 t252 _ ?side1 ?side2 ?side3 ?side4 A15.out).mono ?_
           (case side1 => exact pC ((Kd.C_below HR0_1.out HB.out)))
           (case side2 => exact HC0_1.out)
           (case side3 => exact pC ((Kd.R_reads' HO_3.out).2.2))
           (case side4 => exact (Kd.R_reads' HO_3.out).2.1)
           rintro e w19 ⟨v250, rfl, ho0, hb⟩
           have HS3_ := (hb.cell (World.block_lt_of_cell? _ _ (hHeld.2.2.2))).trans (hHeld.2.2.2)
           refine ⟨_, rfl, ?_⟩
           replace HO_5 := sR HO_5 hb
           have HO251 := Aside0.mk (Kd.R_lower (Kd.R_new' ho0 (Kd.R_lt (pR HO_3))) (below_size (pH HB)))
           replace HO_3 := Aside0.mk (Kd.R_elder' (pR HO_3) (Kd.R_base ho0) hb)
           replace BK239 := sB BK239 hb
           replace HB := sH HB hb
           (try clear hb)
           (try clear hb2)
           (try clear hk)
           (try clear hi)
           (try clear ho0)
           refine hK.out _ _ ⟨cB BK239 0, cB BK239 1, (cH HB hw247_0 :), HS3_⟩ (fun hHeld => ?_)
           clear hK K
           refine nm_ ?_
           refine pu_ 13 28 16383 HT_ ?_
           refine pu_ 14 42 32767 HT_ ?_
           refine pu_ 15 43 65535 HT_ ?_
           refine pu_ 16 3 131071 HT_ ?_
           refine dn_ HT_ ?_
           try go_wp2
           go_roundg k2
           case measure => have := HK1.out; have := HK2.out; omega
           case rel => exact ⟨(t249), (wrap64 (x6_2 + 1)), (by first | rfl | (simp; done) | (simp [*]; done)), H', ⟨by have := HK1.out; have := HK2.out; omega⟩, ⟨by (with_reducible repeat (first | apply Kd.R_alloc | apply Kd.R_drewN | apply Kd.R_drew)); exact Kd.R_mono HO251.out (fun _ hk => trivial)⟩, ⟨by (with_reducible repeat (first | apply Kd.R_alloc | apply Kd.R_drewN | apply Kd.R_drew)); exact HO_5.out⟩, ⟨pB BK239⟩, ⟨pH HB⟩⟩
          ·rw [if_neg c14] at H
           exact absurd H (by simp)
         ·rw [if_neg c13] at H
          exact absurd H (by simp)
        ·rw [if_neg c12] at H
         exact absurd H (by simp)
       ·rw [if_neg c11] at H
        have c11b0 : decide (x6_2 < (t244.length : Int)) = false := decide_eq_false c11
        clear c11
        have H' := Aside0.mk H
        clear H
        obtain ⟨Ao20, co20, eo20⟩ := Kd.R_slice HO_5.out
        subst eo20
        go_wp2
        go_roundg k2
        case measure => have := HK1.out; have := HK2.out; omega
        case rel => exact ⟨(x3_2), (wrap64 (x4_1 + 1)), (by first | rfl | (simp; done) | (simp [*]; done)), H', ⟨by have := HK1.out; have := HK2.out; omega⟩, ⟨by (with_reducible repeat (first | apply Kd.R_alloc | apply Kd.R_drewN | apply Kd.R_drew)); exact HO_3.out⟩, ⟨pB BK239⟩, ⟨pH HB⟩⟩
    ·rw [if_neg c6] at H
     exact absurd H (by simp)
   ·rw [if_neg c5] at H
    have c5b0 : decide (x4_1 < (l0_1.length : Int)) = false := decide_eq_false c5
    clear c5
    obtain rfl := Option.some.inj H
    have hcz21_0 : wr.cell? ⟨gb239, 0, none⟩ = some (.int .i64 a0_0) := cB BK239 0
    have hcz21_1 : wr.cell? ⟨gb239, 1, none⟩ = some (.slice A0_1 l0_1.length c0_1) := cB BK239 1
    have hfz21_0 := zB BK239 0
    have hfz21_1 := zB BK239 1
    go_wp2
    go_ret
    exact ⟨_, by first | rfl | (simp [errW_none, errW_some] <;> rfl) | (simp [*, errW_none, errW_some] <;> rfl) | (exfalso; simp_all), by (with_reducible repeat (first | apply Kd.R_alloc | apply Kd.R_drewN | apply Kd.R_drew)); exact HO_3.out, pH HB⟩
end Go.Proofs.YtdlmlmaoacmdiaaGreat.QS
namespace Go.Proofs.YtdlmlmaoacmdiaaGreat.Pu
open Go.RowKit Kp Ext QS Im YtdlmlmaoacmdiaaGreatW.PrintWords YtdlmlmaoacmdiaaGreatW.PrintLast YtdlmlmaoacmdiaaGreatW.PrintMore
theorem cmp_lt (p q : Pr) : cmpP p q < 0 ↔ p.f0 < q.f0 ∨ (p.f0 = q.f0 ∧ p.f1 < q.f1) := by
  unfold cmpP cmpI
  by_cases h1 : p.f0 < q.f0
  · simp [h1]
  · by_cases h2 : p.f0 > q.f0
    · simp [h1, h2]; omega
    · have h3 : p.f0 = q.f0 := by omega
      by_cases h4 : p.f1 < q.f1
      · simp [h3, h4]
      · by_cases h5 : p.f1 > q.f1
        · simp [h3, h4, h5]
        · simp [h3, h4, h5]
theorem cmp_trans {p q r : Pr} (h1 : cmpP p q < 0) (h2 : cmpP q r < 0) : cmpP p r < 0 := by
  rw [cmp_lt] at *
  omega
theorem cmp_irr (p : Pr) : ¬ cmpP p p < 0 := by rw [cmp_lt]; omega
theorem cmp_asym {p q : Pr} (h1 : cmpP p q < 0) : ¬ cmpP q p < 0 := by rw [cmp_lt] at *; omega
theorem cmp_eq {p q : Pr} (h1 : ¬ cmpP p q < 0) (h2 : ¬ cmpP q p < 0) : p = q := by
  obtain ⟨a, b⟩ := p
  obtain ⟨c, d⟩ := q
  rw [cmp_lt] at *
  simp only at h1 h2
  simp; omega
abbrev SortedP (l : List Pr) : Prop := l.Pairwise (fun p q => cmpP p q < 0)
theorem getP {l : List Pr} {i : Nat} (hi : i < l.length) : l.getD i z62 = l[i] := by rw [List.getD_eq_getElem?_getD, List.getElem?_eq_getElem hi]; rfl
theorem pairing_at {xs : List Int} {l : List Pr} (h : pairingB xs l = true) {i : Nat} (hi : i < l.length) : pairB xs l[i] = true ∧ (∀ q ∈ l.take i, hasF l[i].f0 q = false ∧ hasF l[i].f1 q = false) ∧ (∀ (h0 : 0 < i), cmpP (l[i - 1]'(by omega)) l[i] < 0) := by
  have h1 := List.all_eq_true.1 h i (List.mem_range.2 hi)
  unfold okPairAt at h1
  rw [getP hi] at h1
  simp only [Bool.and_eq_true, Bool.not_eq_true', List.any_eq_false, Bool.or_eq_true, beq_iff_eq, decide_eq_true_eq] at h1
  refine ⟨h1.1, fun q hq => ⟨by simpa using h1.2.1 q hq, by simpa using h1.2.2.1 q hq⟩, fun h0 => ?_⟩
  have h2 := h1.2.2.2.resolve_left (by omega)
  rwa [getP (show i - 1 < l.length by omega)] at h2
theorem sorted_of {xs : List Int} {l : List Pr} (h : pairingB xs l = true) : SortedP l := by
  refine List.pairwise_iff_getElem.2 fun i j hi hj hij => ?_
  induction j with
  | zero => omega
  | succ j ih =>
    have h1 := (pairing_at h hj).2.2 (by omega)
    simp only [Nat.add_sub_cancel] at h1
    rcases Nat.lt_or_ge i j with h2 | h2
    · exact cmp_trans (ih (by omega) h2) h1
    · obtain rfl : i = j := by omega
      exact h1
theorem pairing_len {n : Int} {xs : List Int} (hi : isC n xs = true) {l : List Pr} (h : pairingB xs l = true) : l.length ≤ 63 := by
  have h1 := nodup_len 63 (l.map (·.f0)) (by
    unfold List.Nodup
    rw [List.pairwise_map]
    refine List.pairwise_iff_getElem.2 fun i j hi hj hij => ?_
    have h2 := ((pairing_at h hj).2.1 l[i] (by rw [List.mem_take_iff_getElem]; exact ⟨i, by omega, rfl⟩)).1
    intro e
    unfold hasF at h2
    rw [e] at h2
    simp at h2) (fun x hx => by
    obtain ⟨q, hq, rfl⟩ := List.mem_map.1 hx
    have := facesP_of hi h q hq
    omega)
  simpa using h1
theorem place_cut {p : Pr} : ∀ {l : List Pr}, SortedP l → ∀ j (hj : j < l.length), cmpP l[j] p < 0 ↔ j < placeP l p
  | [], _, j, hj => by simp at hj
  | q :: l, hs, j, hj => by
    obtain ⟨h1, h2⟩ := List.pairwise_cons.1 hs
    by_cases hq : cmpP q p < 0
    · have hp : placeP (q :: l) p = placeP l p + 1 := by unfold placeP; rw [List.takeWhile_cons_of_pos (by simpa using hq), List.length_cons]
      rw [hp]
      rcases j with _ | j
      · simpa using hq
      · have := place_cut (p := p) h2 j (by simpa using hj)
        rw [List.getElem_cons_succ, this]; omega
    · have hp : placeP (q :: l) p = 0 := by unfold placeP; rw [List.takeWhile_cons_of_neg (by simpa using hq)]; rfl
      rw [hp]
      refine ⟨fun h => ?_, fun h => absurd h (Nat.not_lt_zero _)⟩
      rcases j with _ | j
      · exact absurd h hq
      · exact absurd (cmp_trans (h1 _ (List.getElem_mem _)) h) hq
theorem cut_of {l : List Pr} (hs : SortedP l) (p : Pr) : cutB l p = true := by
  refine List.all_eq_true.2 fun j hj => ?_
  have hj' := List.mem_range.1 hj
  rw [getP hj', beq_iff_eq, decide_eq_decide]
  exact place_cut hs j hj'
theorem back_is {l : List Pr} {p : Pr} {b : Nat} : ∀ m, b ≤ m → m ≤ l.length → (∀ j (hj : j < l.length), b ≤ j → j < m → cmpP p l[j] < 0) → (∀ (h0 : 0 < b) (hl : b - 1 < l.length), ¬ cmpP p l[b - 1] < 0) → backP l p m = b
  | 0, hb, _, _, _ => by unfold backP; omega
  | m + 1, hb, hm, h1, h2 => by
    unfold backP
    rw [getP (show m < l.length by omega)]
    rcases Nat.lt_or_ge m b with h3 | h3
    · obtain rfl : b = m + 1 := by omega
      have := h2 (by omega) (by omega)
      simp only [Nat.add_sub_cancel] at this
      rw [if_neg this]
    · rw [if_pos (h1 m (by omega) h3 (by omega))]
      exact back_is m h3 (by omega) (fun j hj a b => h1 j hj a (by omega)) h2
theorem put_with {l : List Pr} (hs : SortedP l) (p : Pr) : putP l p = withP l p := by
  have hle := placeP_le l p
  by_cases hp : ∃ h : placeP l p < l.length, l[placeP l p] = p
  · obtain ⟨h, hp⟩ := hp
    have hb : backP l p l.length = placeP l p + 1 := back_is _ (by omega) (Nat.le_refl _) (fun j hj h1 _ => by
        have := List.pairwise_iff_getElem.1 hs (placeP l p) j h hj (by omega)
        rwa [hp] at this) (fun _ hl => by
        simp only [Nat.add_sub_cancel]
        rw [hp]; exact cmp_irr p)
    unfold putP withP
    rw [hb, List.take_succ_eq_append_getElem h, hp, List.append_assoc]
    congr 1
    rw [List.drop_eq_getElem_cons h, hp]
    rfl
  · have hb : backP l p l.length = placeP l p := back_is _ hle (Nat.le_refl _) (fun j hj h1 _ => by
        have h2 : ¬ cmpP l[j] p < 0 := fun h => by have := (place_cut hs j hj).1 h; omega
        refine Classical.byContradiction fun h3 => ?_
        have h4 := cmp_eq h3 h2
        rcases Nat.lt_or_ge (placeP l p) j with h5 | h5
        · have h6 := List.pairwise_iff_getElem.1 hs (placeP l p) j (by omega) hj h5
          rw [← h4] at h6
          have := (place_cut hs (placeP l p) (by omega)).1 h6
          omega
        · have h6 : j = placeP l p := by omega
          subst h6
          exact hp ⟨hj, h4.symm⟩) (fun h0 hl => by
        have := (place_cut (p := p) hs (placeP l p - 1) hl).2 (by omega)
        exact cmp_asym this)
    unfold putP withP
    rw [hb]
theorem with_end {l : List Pr} {p : Pr} (h : ∀ q ∈ l, cmpP q p < 0) : withP l p = l ++ [p] := by
  have hp : placeP l p = l.length := by
    unfold placeP
    refine congrArg List.length ?_
    induction l with
    | nil => rfl
    | cons a l ih => rw [List.takeWhile_cons_of_pos (by simpa using h a (by simp)), ih (fun q hq => h q (by simp [hq]))]
  unfold withP
  rw [hp, List.take_length, List.drop_length]
theorem ok_with {n : Int} {xs : List Int} (hi : isC n xs = true) {l : List Pr} (h : pairingB xs l = true) (p : Pr) : okWith n xs l p = true := by
  have hl := pairing_len hi h
  unfold okWith
  rw [hi, decide_eq_true (show l.length ≤ 1000000 by omega), cut_of (sorted_of h) p]
  cases hw : pairingB xs (withP l p) with
  | false => rfl
  | true => simp only [Bool.true_and, Bool.not_true, Bool.false_or]; exact okBfs_of (by rw [withP_len]; omega) (facesP_of hi hw)
theorem ev_with {n : Int} {xs : List Int} (hi : isC n xs = true) {l : List Pr} (hs : SortedP l) (hl : l.length ≤ 1000000) (p : Pr) : Ev (fun k => spec_l02With.f k n xs l p.f0 p.f1) (withP l p, pairingB xs (withP l p)) := by
  unfold spec_l02With.f
  simp only [if_pos hl]
  rw [show (⟨p.f0, p.f1⟩ : Pr) = p from rfl, put_with hs p]
  exact Ev.bind (ev_is2 hi (by rw [withP_len]; omega)) (Ev.now _)
theorem pair_over_all : ((List.range 64).all fun f => (List.range 64).all fun g => ((Go.bits .andNot .i64 (f : Int) (g : Int) == 0) && (onesZ (g : Int) == onesZ (f : Int) + 1)) == overP (f : Int) (g : Int)) = true := by decide +kernel
theorem pair_over {n : Int} {xs : List Int} (hi : isC n xs = true) {f g : Int} (hf : f ∈ xs) (hg : g ∈ xs) : pairB xs ⟨f, g⟩ = overP f g := by
  have r := isC_63 hi
  obtain ⟨a, rfl⟩ := Int.eq_ofNat_of_zero_le (show 0 ≤ f by have := r f hf; omega)
  obtain ⟨b, rfl⟩ := Int.eq_ofNat_of_zero_le (show 0 ≤ g by have := r g hg; omega)
  have h := List.all_eq_true.1 (List.all_eq_true.1 pair_over_all a (List.mem_range.2 (by have := r _ hf; omega))) b (List.mem_range.2 (by have := r _ hg; omega))
  unfold pairB
  simp only [hf, hg, decide_true, Bool.true_and]
  exact eq_of_beq h
def rowP (xs : List Int) (f : Int) : List Pr := (xs.filter (overP f)).map fun g => ⟨f, g⟩
def pairsL (xs : List Int) : List Pr := xs.flatMap (rowP xs)
theorem rowP_len (xs : List Int) (f : Int) : (rowP xs f).length ≤ xs.length := by
  unfold rowP
  rw [List.length_map]
  exact List.length_filter_le _ _
theorem flat_len {xs : List Int} : ∀ (l : List Int), (l.flatMap (rowP xs)).length ≤ l.length * xs.length
  | [] => by simp
  | a :: l => by
    have h1 := rowP_len xs a
    have h2 := flat_len (xs := xs) l
    rw [List.flatMap_cons, List.length_append, List.length_cons, Nat.succ_mul]
    omega
theorem pairs_sorted {n : Int} {xs : List Int} (hi : isC n xs = true) : SortedP (pairsL xs) := by
  have ha := ascB_asc (isC_of hi).2.1
  refine List.pairwise_flatMap.2 ⟨fun f hf => ?_, ?_⟩
  · unfold rowP
    rw [List.pairwise_map]
    refine List.Pairwise.filter _ (List.Pairwise.imp ?_ ha)
    intro a b hab
    rw [cmp_lt]
    exact .inr ⟨rfl, hab⟩
  · refine List.Pairwise.imp ?_ ha
    intro a b hab x hx y hy
    unfold rowP at hx hy
    obtain ⟨g, _, rfl⟩ := List.mem_map.1 hx
    obtain ⟨g', _, rfl⟩ := List.mem_map.1 hy
    rw [cmp_lt]
    exact .inl hab
theorem all_l1 {n : Int} {xs : List Int} (hi : isC n xs = true) {i : Nat} (hil : i < xs.length) (R : List Pr)
    (hR : Ev (fun k => spec_l02All.l0 k ((xs.take (i + 1)).flatMap (rowP xs)) ((i + 1 : Nat) : Int) n xs) R) :
    ∀ d (j : Nat), (xs.filter (overP xs[i])).length - j = d → j ≤ (xs.filter (overP xs[i])).length →
      Ev (fun k => spec_l02All.l1 k ((xs.take i).flatMap (rowP xs) ++ ((xs.filter (overP xs[i])).take j).map fun g => (⟨xs[i], g⟩ : Pr)) i (xs.filter (overP xs[i])) j n xs) R := by
  have hx := isC_small hi
  have hfl : (xs.filter (overP xs[i])).length ≤ xs.length := List.length_filter_le _ _
  intro d
  induction d with
  | zero =>
    intro j hd hj
    refine Ev.step (fun k => ?_) hR
    simp only [spec_l02All.l1]
    rw [if_neg (by omega), succ64 (by omega), List.take_of_length_le (by omega : (xs.filter (overP xs[i])).length ≤ j), List.take_succ_eq_append_getElem hil, List.flatMap_append, List.flatMap_singleton]
    rfl
  | succ d ih =>
    intro j hd hj
    have hj' : j < (xs.filter (overP xs[i])).length := by omega
    have hlt : ∀ q ∈ (xs.take i).flatMap (rowP xs) ++ ((xs.filter (overP xs[i])).take j).map (fun g => (⟨xs[i], g⟩ : Pr)), cmpP q ⟨xs[i], (xs.filter (overP xs[i]))[j]⟩ < 0 := by
      have ha := ascB_asc (isC_of hi).2.1
      intro q hq
      rw [cmp_lt]
      rcases List.mem_append.1 hq with hq | hq
      · obtain ⟨f, hf, hq⟩ := List.mem_flatMap.1 hq
        obtain ⟨g, hg, rfl⟩ := List.mem_map.1 (show q ∈ (xs.filter (overP f)).map _ from hq)
        obtain ⟨m, hm, rfl⟩ := List.mem_take_iff_getElem.1 hf
        exact .inl (List.pairwise_iff_getElem.1 ha m i (by omega) hil (by omega))
      · obtain ⟨g, hg, rfl⟩ := List.mem_map.1 hq
        obtain ⟨m, hm, rfl⟩ := List.mem_take_iff_getElem.1 hg
        exact .inr ⟨rfl, List.pairwise_iff_getElem.1 (ha.filter _) m j (by omega) hj' (by omega)⟩
    have hsort : SortedP ((xs.take i).flatMap (rowP xs) ++ ((xs.filter (overP xs[i])).take j).map (fun g => (⟨xs[i], g⟩ : Pr))) := by
      refine (pairs_sorted hi).sublist ?_
      have hcut : pairsL xs = (xs.take i).flatMap (rowP xs) ++ (rowP xs xs[i] ++ (xs.drop (i + 1)).flatMap (rowP xs)) := by
        have h := List.take_append_drop i xs
        rw [List.drop_eq_getElem_cons hil] at h
        refine (congrArg (fun z => z.flatMap (rowP xs)) h.symm).trans ?_
        simp only [List.flatMap_append, List.flatMap_cons]
      rw [hcut]
      refine List.Sublist.append (List.Sublist.refl _) ?_
      refine List.Sublist.trans ?_ (List.sublist_append_left _ _)
      unfold rowP
      exact (List.take_sublist _ _).map _
    have hlen : ((xs.take i).flatMap (rowP xs) ++ ((xs.filter (overP xs[i])).take j).map (fun g => (⟨xs[i], g⟩ : Pr))).length ≤ 1000000 := by
      have h1 := flat_len (xs := xs) (xs.take i)
      have h2 : (xs.take i).length * xs.length ≤ 63 * 63 := Nat.mul_le_mul (by rw [List.length_take]; omega) hx
      rw [List.length_append, List.length_map, List.length_take]
      omega
    have hw := ev_with hi hsort hlen ⟨xs[i], (xs.filter (overP xs[i]))[j]⟩
    rw [with_end hlt] at hw
    refine Ev.step (f := fun k => (spec_l02With.f k n xs ((xs.take i).flatMap (rowP xs) ++ ((xs.filter (overP xs[i])).take j).map (fun g => (⟨xs[i], g⟩ : Pr))) xs[i] (xs.filter (overP xs[i]))[j]).bind fun bt => spec_l02All.l1 k bt.1 i (xs.filter (overP xs[i])) ((j + 1 : Nat) : Int) n xs) (fun k => ?_) (Ev.bind hw ?_)
    · simp only [spec_l02All.l1]
      rw [if_pos (by omega), if_pos (by omega), if_pos (by omega), if_pos (by omega), rd_at hil, rd_at hj', succ64 (by omega)]
    · have := ih (j + 1) (by omega) (by omega)
      rw [List.take_succ_eq_append_getElem hj', List.map_append, ← List.append_assoc] at this
      exact this
theorem all_l0 {n : Int} {xs : List Int} (hi : isC n xs = true) : ∀ d (i : Nat), xs.length - i = d → i ≤ xs.length → Ev (fun k => spec_l02All.l0 k ((xs.take i).flatMap (rowP xs)) (i : Int) n xs) (pairsL xs) := by
  have hx := isC_small hi
  intro d
  induction d with
  | zero =>
    intro i hd hil
    refine Ev.step (f := fun k => some (pairsL xs)) (fun k => ?_) (Ev.now _)
    simp only [spec_l02All.l0]
    rw [if_neg (by omega), List.take_of_length_le (by omega)]
    rfl
  | succ d ih =>
    intro i hd hil
    have hil' : i < xs.length := by omega
    refine Ev.step (f := fun k => (spec_l01Above.f k n xs xs[i]).bind fun t => spec_l02All.l1 k ((xs.take i).flatMap (rowP xs)) i t 0 n xs) (fun k => ?_) (Ev.bind (ev_above n xs[i] (by have := isC_63 hi xs[i] (List.getElem_mem hil'); omega) (by omega) (isC_63 hi)) ?_)
    · simp only [spec_l02All.l0]
      rw [if_pos (by omega), if_pos (by omega), rd_at hil']
    · have := all_l1 hi hil' (pairsL xs) (ih (i + 1) (by omega) (by omega)) _ 0 rfl (Nat.zero_le _)
      simpa using this
theorem ev_all {n : Int} {xs : List Int} (hi : isC n xs = true) : Ev (fun k => spec_l02All.f k n xs) (pairsL xs) := by
  unfold spec_l02All.f
  have := all_l0 hi _ 0 rfl (Nat.zero_le _)
  simpa using this
def okP (xs : List Int) (l : List Pr) (p : Pr) : Bool := pairingB xs (withP l p) && acycB (withP l p)
theorem pairs_len {n : Int} {xs : List Int} (hi : isC n xs = true) : (pairsL xs).length ≤ 4000 := by
  have hx := isC_small hi
  have h1 := flat_len (xs := xs) xs
  have h2 : xs.length * xs.length ≤ 63 * 63 := Nat.mul_le_mul hx hx
  unfold pairsL
  omega
def subsL (xs : List Int) : List Pr → List Pr → List (List Pr)
  | [], _ => []
  | p :: rest, l => (if okP xs l p = true then withP l p :: subsL xs rest (withP l p) else []) ++ subsL xs rest l
def enumL (xs : List Int) (rest l : List Pr) : List (List Pr) := l :: subsL xs rest l
section
variable {σ : Type} {upd : σ → List Pr → σ} {xs : List Int} {all l : List Pr} {i : Nat} {s : σ}
theorem subs_end (hi : all.length ≤ i) : (subsL xs (all.drop i) l).foldl upd s = s := by
  rw [List.drop_eq_nil_of_le hi]; rfl
theorem subs_no (hi : i < all.length) (ho : okP xs l all[i] = false) : (subsL xs (all.drop i) l).foldl upd s = (subsL xs (all.drop (i + 1)) l).foldl upd s := by
  rw [List.drop_eq_getElem_cons hi, subsL, if_neg (by rw [ho]; exact Bool.false_ne_true), List.nil_append]
theorem subs_yes (hi : i < all.length) (ho : okP xs l all[i] = true) : (subsL xs (all.drop i) l).foldl upd s = (subsL xs (all.drop (i + 1)) l).foldl upd ((enumL xs (all.drop (i + 1)) (withP l all[i])).foldl upd s) := by
  rw [List.drop_eq_getElem_cons hi, subsL, if_pos ho, List.foldl_append]; rfl
end
theorem okP_pairing {xs : List Int} {l : List Pr} {p : Pr} (h : okP xs l p = true) : pairingB xs (withP l p) = true := by
  unfold okP at h
  rw [Bool.and_eq_true] at h
  exact h.1
end Go.Proofs.YtdlmlmaoacmdiaaGreat.Pu
namespace Go.Proofs.YtdlmlmaoacmdiaaGreat.Im
open Go.RowKit Go.Shelf Cw YtdlmlmaoacmdiaaGreatW.PrintWords YtdlmlmaoacmdiaaGreatW.PrintLast YtdlmlmaoacmdiaaGreatW.PrintMore
section
variable {P : Program} {ops : Array Oper} {Q : Exit → Act → World → Prop} {S : World → Prop} {ds : List Nat} {md : Region.Mode} {T : Bool × List (List Nat × List Nat)} {n m fuel : Nat} {a : Act} {w : World} {oi : Oper}
theorem la_ (i : Nat) (N : Option Tmp) (m' : Nat) (hT : Aside0 (rtab md ops = T))
    (h : ∀ K : Act → World → Prop, Shut (∀ a' w', wpAnyLast P md ops Q S ds fuel (mB n m') a' w' → K a' w') → if Region.wanted oi (yielded ops a.tmps) = true then Oper.wp P oi a w K Q else K (a.put N undef) w)
    (hi : ops[i]? = some oi := by rfl) (hN : oi.dst = N := by rfl) (hc : (readyT T.2 (mB n m).toList == [i] && (mB n m).toList.set i true == (mB n m').toList) = true := by kernel_rfl) (hd : i ∈ ds := by decide) :
    wpAnyLast P md ops Q S ds (fuel + 1) (mB n m) a w := last_ (mB n m') hi hN (one_of hT.out hc) hd h
end
theorem nd_inj {α : Type} {l : List α} (h : l.Nodup) {x y : Nat} (hx : x < l.length) (hy : y < l.length) (e : l[x] = l[y]) : x = y := by
  have hp := List.pairwise_iff_getElem.1 (List.nodup_iff_pairwise_ne.1 h)
  rcases Nat.lt_trichotomy x y with h1 | h1 | h1
  · exact absurd e (hp x y hx hy h1)
  · exact h1
  · exact absurd e.symm (hp y x hy hx h1)
def rowV (m x : Nat) : Value := .slice (some ⟨x, 0, none⟩) m m
def numV (l : List Int) : List Value := l.map fun v => Value.int .i64 v
def MxO (w : World) (base b cap : Nat) (bs : List Nat) (m : Nat) : Prop :=
  base ≤ b ∧ bs.length ≤ cap ∧ cap ≤ maxLen ∧ ∃ rest : List Value, rest.length = cap - bs.length ∧ w.heap[b]? = some (.cells (bs.map (rowV m) ++ rest).toArray 22 (0, 0))
def MxI (w : World) (base : Nat) (bs : List Nat) (m : Nat) (M : List (List Int)) : Prop :=
  bs.length = M.length ∧ bs.Nodup ∧ ∀ i (h1 : i < bs.length) (h2 : i < M.length), base ≤ bs[i] ∧ M[i].length = m ∧ w.heap[bs[i]]? = some (.cells (numV M[i]).toArray 2 (0, 0))
section
variable {w w1 : World} {base b cap m : Nat} {bs : List Nat} {M : List (List Int)}
theorem MxO.below (h : MxO w base b cap bs m) (hb : Below w.heap.size w w1) : MxO w1 base b cap bs m := by
  obtain ⟨h1, h2, h3, rest, h4, h5⟩ := h
  exact ⟨h1, h2, h3, rest, h4, (hb.block b (blk_lt h5)).trans h5⟩
theorem MxO.drew (h : MxO w base b cap bs m) : MxO w.drew base b cap bs m := h
theorem MxI.below (h : MxI w base bs m M) (hb : Below w.heap.size w w1) : MxI w1 base bs m M := by
  refine ⟨h.1, h.2.1, fun i h1 h2 => ?_⟩
  obtain ⟨a1, a2, a3⟩ := h.2.2 i h1 h2
  exact ⟨a1, a2, (hb.block _ (blk_lt a3)).trans a3⟩
theorem MxI.drew (h : MxI w base bs m M) : MxI w.drew base bs m M := h
theorem MxO.cell (h : MxO w base b cap bs m) {i : Nat} (hi : i < bs.length) : w.cell? ⟨b, i, none⟩ = some (rowV m bs[i]) ∧ w.frozen? ⟨b, i, none⟩ = false := by
  obtain ⟨h1, h2, h3, rest, h4, h5⟩ := h
  refine ⟨(cell_of_row w b i _ _ _ h5).trans ?_, blk_frozen h5 i⟩
  simp [List.getElem?_append_left, hi]
theorem MxO.far (h : MxO w base b cap bs m) {x j : Nat} (hne : b ≠ x) (u : Value) : MxO (w.setCell ⟨x, j, none⟩ u) base b cap bs m := by
  obtain ⟨h1, h2, h3, rest, h4, h5⟩ := h
  exact ⟨h1, h2, h3, rest, h4, (Below.heap_setCell w ⟨x, j, none⟩ u b hne).trans h5⟩
theorem MxO.put (h : MxO w base b cap bs m) {i : Nat} (hi : i < bs.length) (y : Nat) : MxO (w.setCell ⟨b, i, none⟩ (rowV m y)) base b cap (bs.set i y) m := by
  obtain ⟨h1, h2, h3, rest, h4, h5⟩ := h
  refine ⟨h1, by simpa using h2, h3, rest, by simpa using h4, ?_⟩
  have := blk_put h5 i (rowV m y) rfl
  rw [this]
  congr 2
  apply Array.ext'
  simp [List.set_append_left, hi]
theorem MxI.len (h : MxI w base bs m M) : bs.length = M.length := h.1
theorem MxI.row (h : MxI w base bs m M) {i : Nat} (hi : i < M.length) : M[i].length = m := (h.2.2 i (by rw [h.1]; exact hi) hi).2.1
theorem MxI.cell (h : MxI w base bs m M) {i j : Nat} (hb : i < bs.length) (hi : i < M.length) (hj : j < m) : w.cell? ⟨bs[i], j, none⟩ = some (.int .i64 (M[i][j]'(by rw [h.row hi]; exact hj))) ∧ w.frozen? ⟨bs[i], j, none⟩ = false := by
  obtain ⟨a1, a2, a3⟩ := h.2.2 i hb hi
  refine ⟨(cell_of_row w _ j _ _ _ a3).trans ?_, blk_frozen a3 j⟩
  have hj' : j < M[i].length := by rw [a2]; exact hj
  simp [numV, hj']
theorem MxI.ne (h : MxI w base bs m M) (ho : MxO w base b cap bs m) {i : Nat} (hi : i < bs.length) : b ≠ bs[i] := by
  obtain ⟨_, _, a3⟩ := h.2.2 i hi (by rw [← h.1]; exact hi)
  obtain ⟨_, _, _, rest, _, h5⟩ := ho
  exact blk_ne h5 a3 (by decide)
theorem MxI.ne' {bs' : List Nat} (h : MxI w base bs m M) (ho : MxO w base b cap bs' m) {i : Nat} (hi : i < bs.length) : b ≠ bs[i] := by
  obtain ⟨_, _, a3⟩ := h.2.2 i hi (by rw [← h.1]; exact hi)
  obtain ⟨_, _, _, rest, _, h5⟩ := ho
  exact blk_ne h5 a3 (by decide)
theorem MxI.outer {bs' : List Nat} (h : MxI w base bs m M) (ho : MxO w base b cap bs' m) (j : Nat) (u : Value) : MxI (w.setCell ⟨b, j, none⟩ u) base bs m M := by
  refine ⟨h.1, h.2.1, fun i h1 h2 => ?_⟩
  obtain ⟨a1, a2, a3⟩ := h.2.2 i h1 h2
  exact ⟨a1, a2, (Below.heap_setCell w ⟨b, j, none⟩ u _ (h.ne' ho h1).symm).trans a3⟩
theorem MxI.put (h : MxI w base bs m M) {i j : Nat} (hb : i < bs.length) (hi : i < M.length) (hj : j < m) (v : Int) : MxI (w.setCell ⟨bs[i], j, none⟩ (.int .i64 v)) base bs m (M.set i (M[i].set j v)) := by
  refine ⟨by simpa using h.1, h.2.1, fun k h1 h2 => ?_⟩
  have h2' : k < M.length := by simpa using h2
  obtain ⟨a1, a2, a3⟩ := h.2.2 k h1 h2'
  by_cases hk : k = i
  · subst hk
    refine ⟨a1, by simpa using a2, ?_⟩
    have := blk_put a3 j (.int .i64 v) rfl
    rw [this]
    congr 2
    apply Array.ext'
    simp [numV, List.map_set]
  · have hne : bs[k] ≠ bs[i] := fun e => hk (nd_inj h.2.1 h1 hb e)
    rw [List.getElem_set_ne (Ne.symm hk)]
    exact ⟨a1, a2, (Below.heap_setCell w ⟨bs[i], j, none⟩ _ _ hne).trans a3⟩
end
end Go.Proofs.YtdlmlmaoacmdiaaGreat.Im
namespace Go.Proofs.YtdlmlmaoacmdiaaGreat.Im
open Go.RowKit Go.Shelf Kp Cw Ext Pu YtdlmlmaoacmdiaaGreatW.PrintWords YtdlmlmaoacmdiaaGreatW.PrintLast YtdlmlmaoacmdiaaGreatW.PrintMore
theorem run_store_fn {P : Program} {w : World} {a : Addr} {m : Mode} (f : Fn) (fs lb : Array Value) : (store a (.func f fs lb) m).run P w = stored P w a (.func f fs lb) m := run_store P w a _ m rfl
structure DoOk (w0 : World) (xs : List Int) (F : Value) {σ : Type} (upd : σ → List Pr → σ) (Inv : World → σ → Prop) (g : FuncId) (fs lb : Array Value) : Prop where
  eq : F = .func (.func g) fs lb
  en : ∀ args w, (callFunc g args).run Tryz.prog w = .ok (.enter g args) w
  below : ∀ W W1 s, Inv W s → Below W.heap.size W W1 → Inv W1 s
  call : ∀ W s v l, Inv W s → Below w0.heap.size w0 W → PO W w0.heap.size v l → pairingB xs l = true →
    Calls Tryz.prog g (fs ++ #[v] ++ lb) W fun e w' => e = .returned (.tuple #[]) ∧ Inv w' (upd s l) ∧ KeepT W w' ∧ Below w0.heap.size w0 w'
abbrev acV (pd pa pk pg : Nat) : Value := .func (.func 34) #[] #[.pointer (some ⟨pd, 0, none⟩), .pointer (some ⟨pa, 0, none⟩), .pointer (some ⟨pk, 0, none⟩), .pointer (some ⟨pg, 0, none⟩)]
structure ES (W w0 : World) (pd pa pk pg : Nat) (F : Value) (n : Int) (A : Option Addr) (c len : Nat) (va : Value) (all : List Pr) : Prop where
  bd : W.heap[pd]? = some (.cells #[F] 50 (0, 0))
  ba : W.heap[pa]? = some (.cells #[va] 38 (0, 0))
  bk : CxAt W pk n A len c
  bg : W.heap[pg]? = some (.cells #[acV pd pa pk pg] 58 (0, 0))
  ra : PO W w0.heap.size va all
  hb : Below w0.heap.size w0 W
section
variable {W W1 w0 : World} {pd pa pk pg : Nat} {F : Value} {n : Int} {A : Option Addr} {c len : Nat} {va : Value} {all : List Pr}
theorem ES.keep (h : ES W w0 pd pa pk pg F n A c len va all) (hk : KeepT W W1) (hb : Below w0.heap.size w0 W1) : ES W1 w0 pd pa pk pg F n A c len va all :=
  ⟨hk.2 _ _ _ (by decide) h.bd, hk.2 _ _ _ (by decide) h.ba, h.bk.keepT hk, hk.2 _ _ _ (by decide) h.bg, h.ra.keep hk, hb⟩
theorem ES.below (h : ES W w0 pd pa pk pg F n A c len va all) (hb : Below W.heap.size W W1) : ES W1 w0 pd pa pk pg F n A c len va all := h.keep (KeepT.below hb) (below_in h.hb hb)
theorem ES.drew (h : ES W w0 pd pa pk pg F n A c len va all) : ES W.drew w0 pd pa pk pg F n A c len va all := h.below (below_drew (Below.refl _ _))
theorem ES.cd (h : ES W w0 pd pa pk pg F n A c len va all) : W.cell? ⟨pd, 0, none⟩ = some F := (cell_of_row W pd 0 _ _ _ h.bd).trans rfl
theorem ES.ca (h : ES W w0 pd pa pk pg F n A c len va all) : W.cell? ⟨pa, 0, none⟩ = some va := (cell_of_row W pa 0 _ _ _ h.ba).trans rfl
theorem ES.cg (h : ES W w0 pd pa pk pg F n A c len va all) : W.cell? ⟨pg, 0, none⟩ = some (acV pd pa pk pg) := (cell_of_row W pg 0 _ _ _ h.bg).trans rfl
end
abbrev acA (v : Value) (i : Nat) (pd pa pk pg : Nat) : Array Value := #[v, .int .i64 i, .pointer (some ⟨pd, 0, none⟩), .pointer (some ⟨pa, 0, none⟩), .pointer (some ⟨pk, 0, none⟩), .pointer (some ⟨pg, 0, none⟩)]
def AcPost (W w0 : World) (pd pa pk pg : Nat) (F : Value) (n : Int) (A : Option Addr) (c len : Nat) (va : Value) (all : List Pr) (I : World → Prop) (e : Ending) (w' : World) : Prop :=
  e = .returned (.tuple #[]) ∧ I w' ∧ ES w' w0 pd pa pk pg F n A c len va all ∧ KeepT W w'
def AcOk (w0 : World) (pd pa pk pg : Nat) (F : Value) (n : Int) (A : Option Addr) (c : Nat) (xs : List Int) (va : Value) (all : List Pr) {σ : Type} (upd : σ → List Pr → σ) (Inv : World → σ → Prop) (d : Nat) : Prop :=
  ∀ (l : List Pr) (s : σ) (v : Value) (i : Nat) (W : World), ES W w0 pd pa pk pg F n A c xs.length va all → Inv W s → PO W w0.heap.size v l → pairingB xs l = true → i ≤ all.length → all.length - i = d →
    Calls Tryz.prog 34 (acA v i pd pa pk pg) W (AcPost W w0 pd pa pk pg F n A c xs.length va all (fun w' => Inv w' ((enumL xs (all.drop i) l).foldl upd s)))
set_option maxRecDepth 100000 in
set_option maxHeartbeats 8000000 in
theorem ac_step (w0 : World) (pd pa pk pg : Nat) (F : Value) (n : Int) (A : Option Addr) (c : Nat) (xs : List Int) (va : Value) (all : List Pr) {σ : Type} (upd : σ → List Pr → σ) (Inv : World → σ → Prop) (g : FuncId) (fs lb : Array Value)
    (hdo : DoOk w0 xs F upd Inv g fs lb) (hr : RC w0 A xs.length xs) (hc : xs.length ≤ c) (hi : isC n xs = true) (hal : all.length ≤ 1048576) (d : Nat) (ih : ∀ d' < d, AcOk w0 pd pa pk pg F n A c xs va all upd Inv d') : AcOk w0 pd pa pk pg F n A c xs va all upd Inv d := by
  intro l s v i W hes hin hl hpl hil hd
  have HES := Aside0.mk hes
  have HIN := Aside0.mk hin
  have HL := Aside0.mk hl
  have HPL := Aside0.mk hpl
  have HIH := Aside0.mk ih
  have HDO := Aside0.mk hdo
  have HR := Aside0.mk hr
  have HC := Aside0.mk hc
  have HI := Aside0.mk hi
  have HD := Aside0.mk hd
  have hcd := hes.cd
  have eg := hdo.en
  have hF := hdo.eq
  subst hF
  obtain ⟨Al, cl, rfl⟩ := Kd.R_slice hl
  have hca0 := hes.ca
  obtain ⟨Aa, ca, rfl⟩ := Kd.R_slice hes.ra
  obtain ⟨R, hR⟩ : ∃ R, (enumL xs (all.drop i) l).foldl upd s = R := ⟨_, rfl⟩
  have HR0 : Aside0 (R = (subsL xs (all.drop i) l).foldl upd (upd s l)) := ⟨hR.symm⟩
  rw [hR]
  clear hes hin hl hpl ih hdo hr hc hi hd hR
  go_enter Tryz.func34, Tryz.ntmps34
  go_wp2_with (go_at_fn g; refine (HDO.out.call _ s _ l HIN.out HES.out.hb HL.out HPL.out).mono ?_; rintro e w1 ⟨rfl, hin, hk, hb⟩; have HIN1 := Aside0.mk hin; have HES1 := Aside0.mk (HES.out.keep hk hb); have HL1 := Aside0.mk (PO.keep HL.out hk); have HK1 := Aside0.mk hk; clear hin hk hb hca0 hcd)
  go_loopw [8] (fun s8 wr => ∃ (j : Nat) (s : σ), j ≤ all.length ∧ i ≤ j ∧ s8 = .int .i64 j ∧ Aside0 (R = (subsL xs (all.drop j) l).foldl upd s) ∧ Aside0 (ES wr w0 pd pa pk pg (.func (.func g) fs lb) n A c xs.length (.slice Aa all.length ca) all) ∧ Aside0 (Inv wr s) ∧ Aside0 (PO wr w0.heap.size (.slice Al l.length cl) l) ∧ Aside0 (KeepT W wr)) (fun s8 _ => all.length - (intOf s8).toNat)
  case atStart => exact ⟨i, _, hil, Nat.le_refl _, rfl, HR0, HES1, HIN1, HL1, HK1⟩
  case round =>
    clear HR0 HES1 HIN1 HL1 HK1 HES HIN HL
    obtain ⟨j, s, hj, hij, rfl, HR0, HES, HIN, HL, HK⟩ := hrel
    by_cases hlt : j < all.length
    · have hltz : (j : Int) < (all.length : Int) := by omega
      have hca := HES.out.ca
      obtain ⟨ad, rfl, hp0, hp1⟩ := at_T62 (Kd.R_reads' HES.out.ra).2.2 (j : Int) (by omega) (by omega)
      obtain ⟨p, hp⟩ : ∃ p, rd_T62 all (j : Int) = p := ⟨_, rfl⟩
      have hpj : all[j] = p := by rw [← rdP_at hlt, hp]
      rw [hp, show ((j : Int)).toNat = j by omega] at hp0 hp1
      have hk0 := HES.out.bk.c0
      have hk1 := HES.out.bk.c1
      obtain ⟨j1, hj1⟩ : ∃ j1 : Nat, j1 = j + 1 := ⟨_, rfl⟩
      have hw1 : IntKind.i64.wrap ((j : Int) + 1) = (j1 : Int) := by rw [IntKind.wrap_i64]; omega
      have HJ1 := Aside0.mk hj1
      have HWI := Aside0.mk (show Calls Tryz.prog 35 _ wr.drew (WithPost wr.drew (withP l p) (okP xs l p)) from with_c n A c xs Al cl l p wr.drew (Kd.C_below HR.out HES.out.drew.hb) HC.out (Kd.R_reads' (Kd.R_drew HL.out)).2.2 (Kd.R_reads' HL.out).2.1 (ok_with HI.out HPL.out p))
      cases ho : okP xs l p with
      | true =>
        rw [ho] at HWI
        have HRN := Aside0.mk (HR0.out.trans (by rw [subs_yes hlt (by rw [hpj]; exact ho), hpj, ← hj1]))
        clear hj1
        have HOP := Aside0.mk (okP_pairing ho)
        clear ho hp hpj HR0
        go_upto_region 4 with fail
        refine st_ 12 (S := fun w' => w'.cell? ⟨pk, 0, none⟩ = some (.int .i64 n) ∧ w'.cell? ⟨pk, 1, none⟩ = some (.slice A xs.length c) ∧ w'.cell? ⟨pa, 0, none⟩ = some (.slice (some ad) all.length ca) ∧ w'.cell? (ad.add (j * 2)) = some (.int .i64 p.f0) ∧ w'.cell? ⟨(ad.add (j * 2)).block, (ad.add (j * 2)).off + 1, none⟩ = some (.int .i64 p.f1)) (ds := [6]) ⟨hk0, hk1, hca, hp0, hp1⟩ (fun hHeld => ?_)
        refine with_tabW (T := (true, [([], []), ([], []), ([], []), ([], []), ([2, 3], [2, 3]), ([4], [4]), ([0, 1, 5], [0, 1, 5]), ([6], [6]), ([7], [7]), ([7], [7]), ([8, 6, 0, 1, 2, 3, 4, 5, 6, 7, 8], [8]), ([9, 10, 0, 1, 2, 3, 4, 5, 6, 7, 8, 9, 10], [9])])) (B := [0, 0, 0, 0, 12, 28, 63, 127, 255, 255, 511, 2047]) (by kernel_rfl) (by kernel_rfl) (fun HT_ HW_ => ?_)
        refine pd_ 1 23 2 HT_ ?_
        refine pd_ 3 25 10 HT_ ?_
        refine tk_ 0 22 11 HT_ HW_ hHeld ?_
        refine tk_ 2 24 15 HT_ HW_ hHeld ?_
        refine pd_ 4 26 31 HT_ ?_
        refine tk_ 5 27 63 HT_ HW_ hHeld ?_
        refine la_ 6 (some 28) 127 HT_ (fun K hK => ?_)
        refine ca_ Tryz.func35 #[.agg #[.int .i64 n, .slice A xs.length c], .slice Al l.length cl, .agg #[.int .i64 p.f0, .int .i64 p.f1]] ?_
        refine HWI.out.mono ?_; rintro e w5 ⟨v5, rfl, hv, hb⟩; have hb0 : Below wr.heap.size wr w5 := (below_drew (Below.refl _ _)).trans hb; have HV5 := Aside0.mk (Kd.R_lower hv HES.out.drew.hb.size); have HES5 := Aside0.mk (HES.out.below hb0); have HIN5 := Aside0.mk (HDO.out.below _ _ _ HIN.out hb0); have HL5 := Aside0.mk (Kd.R_below HL.out hb0); have HK5 := Aside0.mk (HK.out.trans (KeepT.below hb0)); clear hv hb hb0 HWI HES HIN HL HK hp0 hp1 hk0 hk1 hca
        refine ⟨_, rfl, ?_⟩
        refine hK.out _ _ ?_
        clear hK K
        refine nm_ ?_
        refine pd_ 7 21 255 HT_ ?_
        refine pd_ 8 29 511 HT_ ?_
        refine pd_ 9 30 1023 HT_ ?_
        refine pd_ 10 9 2047 HT_ ?_
        refine pd_ 11 10 4095 HT_ ?_
        refine dn_ HT_ ?_
        obtain ⟨A5, c5, rfl⟩ := Kd.R_slice HV5.out
        have hcg5 := HES5.out.cg
        have HCALL := Aside0.mk (HIH.out (all.length - j1) (by have := HD.out; have := HJ1.out; omega) (withP l p) s _ j1 w5 HES5.out HIN5.out HV5.out HOP.out (by have := HJ1.out; omega) rfl)
        clear HES5
        go_wp2_with (go_at_call 34; refine HCALL.out.mono ?_; rintro e w6 ⟨rfl, hin, hes, hk⟩; have HES6 := Aside0.mk hes; have HIN6 := Aside0.mk hin; have HL6 := Aside0.mk (PO.keep HL5.out hk); have HK6 := Aside0.mk (HK5.out.trans hk); clear hin hes hk HCALL hcg5 HIN5 HL5 HK5)
        have hj1 := HJ1.out
        exact ⟨⟨j1, _, by omega, by omega, by go_num, HRN, HES6, HIN6, HL6, HK6⟩, by simp [intOf]; omega⟩
      | false =>
        rw [ho] at HWI
        have HRN := Aside0.mk (HR0.out.trans (by rw [subs_no hlt (by rw [hpj]; exact ho), ← hj1]))
        clear hj1
        clear ho hp hpj HR0
        go_upto_region 4 with fail
        refine st_ 12 (S := fun w' => w'.cell? ⟨pk, 0, none⟩ = some (.int .i64 n) ∧ w'.cell? ⟨pk, 1, none⟩ = some (.slice A xs.length c) ∧ w'.cell? ⟨pa, 0, none⟩ = some (.slice (some ad) all.length ca) ∧ w'.cell? (ad.add (j * 2)) = some (.int .i64 p.f0) ∧ w'.cell? ⟨(ad.add (j * 2)).block, (ad.add (j * 2)).off + 1, none⟩ = some (.int .i64 p.f1)) (ds := [6]) ⟨hk0, hk1, hca, hp0, hp1⟩ (fun hHeld => ?_)
        refine with_tabW (T := (true, [([], []), ([], []), ([], []), ([], []), ([2, 3], [2, 3]), ([4], [4]), ([0, 1, 5], [0, 1, 5]), ([6], [6]), ([7], [7]), ([7], [7]), ([8, 6, 0, 1, 2, 3, 4, 5, 6, 7, 8], [8]), ([9, 10, 0, 1, 2, 3, 4, 5, 6, 7, 8, 9, 10], [9])])) (B := [0, 0, 0, 0, 12, 28, 63, 127, 255, 255, 511, 2047]) (by kernel_rfl) (by kernel_rfl) (fun HT_ HW_ => ?_)
        refine pd_ 1 23 2 HT_ ?_
        refine pd_ 3 25 10 HT_ ?_
        refine tk_ 0 22 11 HT_ HW_ hHeld ?_
        refine tk_ 2 24 15 HT_ HW_ hHeld ?_
        refine pd_ 4 26 31 HT_ ?_
        refine tk_ 5 27 63 HT_ HW_ hHeld ?_
        refine la_ 6 (some 28) 127 HT_ (fun K hK => ?_)
        refine ca_ Tryz.func35 #[.agg #[.int .i64 n, .slice A xs.length c], .slice Al l.length cl, .agg #[.int .i64 p.f0, .int .i64 p.f1]] ?_
        refine HWI.out.mono ?_; rintro e w5 ⟨v5, rfl, hv, hb⟩; have hb0 : Below wr.heap.size wr w5 := (below_drew (Below.refl _ _)).trans hb; have HES5 := Aside0.mk (HES.out.below hb0); have HIN5 := Aside0.mk (HDO.out.below _ _ _ HIN.out hb0); have HL5 := Aside0.mk (Kd.R_below HL.out hb0); have HK5 := Aside0.mk (HK.out.trans (KeepT.below hb0)); clear hv hb hb0 HWI HES HIN HL HK hp0 hp1 hk0 hk1 hca
        refine ⟨_, rfl, ?_⟩
        refine hK.out _ _ ?_
        clear hK K
        refine nm_ ?_
        refine pd_ 7 21 255 HT_ ?_
        refine pd_ 8 29 511 HT_ ?_
        refine pd_ 9 30 1023 HT_ ?_
        refine pd_ 10 9 2047 HT_ ?_
        refine pd_ 11 10 4095 HT_ ?_
        refine dn_ HT_ ?_
        go_wp2
        have hj1 := HJ1.out
        exact ⟨⟨j1, _, by omega, by omega, by go_num, HRN, HES5, HIN5, HL5, HK5⟩, by simp [intOf]; omega⟩
    · obtain rfl : j = all.length := by omega
      have hltz : ¬ (all.length : Int) < (all.length : Int) := by omega
      have hR := HR0.out
      rw [subs_end (Nat.le_refl _)] at hR
      subst hR
      have hca := HES.out.ca
      clear HR0
      go_wp2
      exact bodyPost_end (results_none rfl _ _ _) rfl ⟨rfl, HIN.out, HES.out, HK.out⟩
end Go.Proofs.YtdlmlmaoacmdiaaGreat.Im
namespace Go.Proofs.YtdlmlmaoacmdiaaGreat.Pu
open Go.RowKit Kp Ext QS YtdlmlmaoacmdiaaGreatW.PrintWords YtdlmlmaoacmdiaaGreatW.PrintLast YtdlmlmaoacmdiaaGreatW.PrintMore
end Go.Proofs.YtdlmlmaoacmdiaaGreat.Pu
namespace Go.Proofs.YtdlmlmaoacmdiaaGreat.Ext
open Go.RowKit Im Kp YtdlmlmaoacmdiaaGreatW.PrintWords YtdlmlmaoacmdiaaGreatW.PrintLast YtdlmlmaoacmdiaaGreatW.PrintMore
def slices_ContainsFunc_impl_Pair_impl_Pair.f (l0 : List S62) (a1 : Pred) : Option (Bool) := if l0.length ≤ 1099511627776 ∧ a1.sort = 2 ∧ okDomP a1 l0 = true then some (l0.any a1.pP) else none
theorem slices_ContainsFunc_impl_Pair_impl_Pair.calls (A0 : Option Addr) (c0 : Nat) (l0 : List S62) (F1 : Value) (a1 : Pred) (r : Bool) (w : World) (hr0 : Kd.C k62 w A0 l0.length l0) (_hc0 : l0.length ≤ c0) (hq1 : FnOk F1 a1 w) (h : slices_ContainsFunc_impl_Pair_impl_Pair.f l0 a1 = some r) :
    Calls Tryz.prog 41 #[.slice A0 l0.length c0, F1] w fun e w' => e = .returned (.bool r) ∧ Below w.heap.size w w' := by
  unfold slices_ContainsFunc_impl_Pair_impl_Pair.f at h
  by_cases hl : l0.length ≤ 1099511627776 ∧ a1.sort = 2 ∧ okDomP a1 l0 = true
  · rw [if_pos hl] at h
    have hd := Option.some.inj h
    have := containsPair_c A0 c0 l0 F1 a1.domP a1.pP w hr0 (hq1.2.2 hl.2.1) (okDomP_mem hl.2.2) hl.1
    rw [hd] at this
    exact this
  · rw [if_neg hl] at h; cases h
def impl_Complex_isPair.f (a0_0 : Int) (l0_1 : List Int) (a1_0 : Int) (a1_1 : Int) : Option (Bool) := if isC a0_0 l0_1 = true then some (pairB l0_1 ⟨a1_0, a1_1⟩) else none
theorem impl_Complex_isPair.calls (a0_0 : Int) (A0_1 : Option Addr) (c0_1 : Nat) (l0_1 : List Int) (a1_0 : Int) (a1_1 : Int) (r : Bool) (w : World) (hr0_1 : Kd.C (Kd.int .i64) w A0_1 l0_1.length l0_1) (_hc0_1 : l0_1.length ≤ c0_1) (h : impl_Complex_isPair.f a0_0 l0_1 a1_0 a1_1 = some r) :
    Calls Tryz.prog 57 #[.agg #[.int .i64 a0_0, .slice A0_1 l0_1.length c0_1], .agg #[.int .i64 a1_0, .int .i64 a1_1]] w fun e w' => e = .returned (.bool r) ∧ Below w.heap.size w w' := by
  unfold impl_Complex_isPair.f at h
  by_cases hl : isC a0_0 l0_1 = true
  · rw [if_pos hl] at h
    have hd := Option.some.inj h
    have := isPair_c a0_0 A0_1 c0_1 l0_1 ⟨a1_0, a1_1⟩ w hr0_1 _hc0_1 hl
    rw [hd] at this
    exact this
  · rw [if_neg hl] at h; cases h
end Go.Proofs.YtdlmlmaoacmdiaaGreat.Ext
namespace Go.Proofs.YtdlmlmaoacmdiaaGreat.QD
open Cw Kp Ext Go.RowKit YtdlmlmaoacmdiaaGreatW.PrintWords YtdlmlmaoacmdiaaGreatW.PrintLast YtdlmlmaoacmdiaaGreatW.PrintMore
attribute [local go_sem] max2_int min2_int max_two min_two max_three min_three max_four min_four   -- for this text's walks alone
def errW : Option Int → Value
 | none => .nilIface
 | some c => .iface 0 (.int .i64 c)
theorem errW_none : errW none = .nilIface := rfl
theorem errW_some (c : Int) : errW (some c) = .iface 0 (.int .i64 c) := rfl
theorem info62 : (Tryz.prog.info? 62).map (fun i => (i.zero, i.size, i.bytes)) = some (some (.agg #[(.int .i64 0), (.int .i64 0)]), 2, 16) := by kernel_rfl
mutual
def impl_Complex_pairs.l0 : Nat → List (S62) → List Int → Int → Int → Int → List Int → Option ((List (S62)))
 | 0, _, _, _, _, _, _ => none
 | k + 1, x3, x10, x11, x12, x102000, x102001 => if x12 < x11 then (if 0 ≤ x12 then (if x12 < (x10.length : Int) then (impl_Complex_pairs.l1 k x3 (rd x10 x12) x10 x11 x12 x102001 (x102001.length : Int) 0 x102000 x102001) else (none)) else (none)) else (some x3)
def impl_Complex_pairs.l1 : Nat → List (S62) → Int → List Int → Int → Int → List Int → Int → Int → Int → List Int → Option ((List (S62)))
 | 0, _, _, _, _, _, _, _, _, _, _ => none
 | k + 1, x3, x5, x10, x11, x12, x17, x18, x19, x102000, x102001 => if x19 < x18 then (if 0 ≤ x19 then (if x19 < (x17.length : Int) then ((impl_Complex_isPair.f x102000 x102001 x5 (rd x17 x19)).bind fun t105 => (if t105 = true then (if x3.length < 8796093022208 then (impl_Complex_pairs.l1 k (x3 ++ [(⟨x5, rd x17 x19⟩ : S62)]) x5 x10 x11 x12 x17 x18 (wrap64 (x19 + 1)) x102000 x102001) else (none)) else (impl_Complex_pairs.l1 k x3 x5 x10 x11 x12 x17 x18 (wrap64 (x19 + 1)) x102000 x102001))) else (none)) else (none)) else (impl_Complex_pairs.l0 k x3 x10 x11 (wrap64 (x12 + 1)) x102000 x102001)
end
def impl_Complex_pairs.f (k : Nat) (a0_0 : Int) (l0_1 : List Int) : Option ((List (S62))) := impl_Complex_pairs.l0 k ([] : List (S62)) l0_1 (l0_1.length : Int) 0 a0_0 l0_1
set_option maxHeartbeats 8000000 in
set_option maxRecDepth 100000 in
theorem impl_Complex_pairs.calls (k : Nat) (a0_0 : Int) (A0_1 : Option Addr) (c0_1 : Nat) (l0_1 : List Int) (r : List (S62)) (w : World) (hr0_1 : Kd.C (Kd.int .i64) w A0_1 l0_1.length l0_1) (hc0_1 : l0_1.length ≤ c0_1) (h : impl_Complex_pairs.f k a0_0 l0_1 = some r) :
  Calls Tryz.prog 33 #[.agg #[.int .i64 a0_0, .slice A0_1 l0_1.length c0_1]] w fun e w' => ∃ v0_ : Value, e = .returned (v0_) ∧ Kd.R k62 62 w' w.heap.size (fun _ => True) v0_ r ∧ Below w.heap.size w w' := by
 have hu29 := Tryz.underlying29
 have hu62 := Tryz.underlying62
 have HR0_1 := Aside0.mk hr0_1
 have HC0_1 := Aside0.mk hc0_1
 clear hr0_1 hc0_1
 have HB := Aside0.mk (Below.refl w.heap.size w)
 have H : (impl_Complex_pairs.l0 k ([] : List (S62)) l0_1 (l0_1.length : Int) 0 a0_0 l0_1) = some r := h
 clear h
 have H' := Aside0.mk H
 clear H
 go_enter Tryz.func33, Tryz.ntmps33
 go_wp2_with (first | ((with_reducible refine gate_dst (N := 1) rfl ?_); refine box_event ?hg (N := 1) ?hd (cs := #[.int .i64 a0_0, .slice A0_1 l0_1.length c0_1]) (t := 29) ?hr ?_; (case hd => rfl); (case hg => rfl); (case hr => first | (go_simp; done) | (go_simp; rfl)); intro gb101 hg w2 hbox hb; have BK101 := Aside0.mk (hbox); have GW101 := gH HB hg; have GE101 := gH HB hg; replace HB := sH HB hb; clear hb hbox hg; have hcz3_0 : w2.cell? ⟨gb101, 0, none⟩ = some (.int .i64 a0_0) := cB BK101 0; have hcz3_1 : w2.cell? ⟨gb101, 1, none⟩ = some (.slice A0_1 l0_1.length c0_1) := cB BK101 1; have hfz3_0 := zB BK101 0; have hfz3_1 := zB BK101 1))
 go_loopg [3, 12] k (fun kq v3 v12 w' => ∃ (x3_1 : List (S62)) (x12_1 : Int), v12 = .int .i64 x12_1 ∧ Aside0 (impl_Complex_pairs.l0 kq x3_1 l0_1 (l0_1.length : Int) x12_1 a0_0 l0_1 = some r) ∧ Aside0 (kq ≤ k) ∧ Aside0 (Kd.R k62 62 w' w.heap.size (fun _ => True) v3 x3_1) ∧ Aside0 (w'.heap[gb101]? = some (.cells #[.int .i64 a0_0, (.slice A0_1 l0_1.length c0_1)] 29 (0, 0))) ∧ Aside0 (Below w.heap.size w w'))
 case atStart => exact ⟨(([] : List (S62))), (0), (by first | rfl | (simp; done) | (simp [*]; done)), H', ⟨Nat.le_refl _⟩, ⟨by first | exact Kd.R_nil _ _ _ _ _ | exact Kd.N_nil _ _ _ _ _ | exact Kd.V_nil _ _ _ _ _ | exact Kd.Q_nil _ _ _ _ _ | exact Kd.S_nil _ _ _ _ _⟩, ⟨pB BK101⟩, ⟨pH HB⟩⟩
 case round =>
  clear H'
  try clear p2
  try clear c3
  try clear hcz3_0
  try clear hcz3_1
  try clear hfz3_0
  try clear hfz3_1
  obtain ⟨x3_1, x12_1, rfl, HA, HK1, HO_3, BK101, HB⟩ := hrel
  cases gk with
  | zero => exact absurd HA.out (by simp [impl_Complex_pairs.l0])
  | succ k1 =>
   have H := HA.out
   clear HA
   simp only [impl_Complex_pairs.l0] at H
   by_cases c4 : x12_1 < (l0_1.length : Int)
   ·rw [if_pos c4] at H
    have c4b0 : decide (x12_1 < (l0_1.length : Int)) = true := decide_eq_true c4
    clear c4
    by_cases c5 : 0 ≤ x12_1
    ·rw [if_pos c5] at H
     have c5b0 : decide (0 ≤ x12_1) = true := decide_eq_true c5
     clear c5
     by_cases c6 : x12_1 < (l0_1.length : Int)
     ·rw [if_pos c6] at H
      have c6b0 : decide (x12_1 < (l0_1.length : Int)) = true := decide_eq_true c6
      clear c6
      have H' := Aside0.mk H
      clear H
      have p102 : 0 ≤ (x12_1 : Int) := of_decide_eq_true (by first | (with_reducible assumption) | assumption)
      have q102 : x12_1 < (l0_1.length : Int) := of_decide_eq_true (by first | (with_reducible assumption) | assumption)
      obtain ⟨ad102, e102, hx102_0⟩ := Kd.at_int HR0_1.out x12_1 p102 q102
      cases e102
      replace hx102_0 := cH HB hx102_0
      replace p102 := eq_true p102
      replace q102 := eq_true q102
      have hcz7_0 : wr.cell? ⟨gb101, 0, none⟩ = some (.int .i64 a0_0) := cB BK101 0
      have hcz7_1 : wr.cell? ⟨gb101, 1, none⟩ = some (.slice (some ad102) l0_1.length c0_1) := cB BK101 1
      have hfz7_0 := zB BK101 0
      have hfz7_1 := zB BK101 1
      go_wp2
      go_loopg [3, 19] k1 (fun kq v3 v19 w' => ∃ (x3_2 : List (S62)) (x19_2 : Int), v19 = .int .i64 x19_2 ∧ Aside0 (impl_Complex_pairs.l1 kq x3_2 (rd l0_1 x12_1) l0_1 (l0_1.length : Int) x12_1 l0_1 (l0_1.length : Int) x19_2 a0_0 l0_1 = some r) ∧ Aside0 (kq ≤ k1) ∧ Aside0 (Kd.R k62 62 w' w.heap.size (fun _ => True) v3 x3_2) ∧ Aside0 (w'.heap[gb101]? = some (.cells #[.int .i64 a0_0, (.slice (some ad102) l0_1.length c0_1)] 29 (0, 0))) ∧ Aside0 (Below w.heap.size w w'))
      case atStart => exact ⟨(x3_1), (0), (by first | rfl | (simp; done) | (simp [*]; done)), H', ⟨Nat.le_refl _⟩, ⟨by (with_reducible repeat (first | apply Kd.R_alloc | apply Kd.R_drewN | apply Kd.R_drew)); exact HO_3.out⟩, ⟨pB BK101⟩, ⟨pH HB⟩⟩
      case round =>
       clear H'
       try clear p1
       try clear q1
       try clear hx1
       try clear p2
       try clear c3
       try clear c4
       try clear c4b0
       try clear c5
       try clear c5b0
       try clear c6
       try clear c6b0
       try clear hcz3_0
       try clear hcz3_1
       try clear hcz7_0
       try clear hcz7_1
       try clear hfz3_0
       try clear hfz3_1
       try clear hfz7_0
       try clear hfz7_1
       try clear hx102_0
       try clear p102
       try clear p2
       try clear q102
       obtain ⟨x3_2, x19_2, rfl, HA, HK2, HO_3, BK101, HB⟩ := hrel
       cases gk with
       | zero => exact absurd HA.out (by simp [impl_Complex_pairs.l1])
       | succ k2 =>
        have H := HA.out
        clear HA
        simp only [impl_Complex_pairs.l1] at H
        by_cases c8 : x19_2 < (l0_1.length : Int)
        ·rw [if_pos c8] at H
         have c8b0 : decide (x19_2 < (l0_1.length : Int)) = true := decide_eq_true c8
         clear c8
         by_cases c9 : 0 ≤ x19_2
         ·rw [if_pos c9] at H
          have c9b0 : decide (0 ≤ x19_2) = true := decide_eq_true c9
          clear c9
          by_cases c10 : x19_2 < (l0_1.length : Int)
          ·rw [if_pos c10] at H
           have c10b0 : decide (x19_2 < (l0_1.length : Int)) = true := decide_eq_true c10
           clear c10
           replace H := Option.bind_eq_some_iff.mp H
           obtain ⟨t105, A110, H⟩ := H
           try dsimp only at H
           have A11 := Aside0.mk A110
           clear A110
           by_cases c12 : t105 = true
           ·subst c12
            have H1 : (if x3_2.length < 8796093022208 then (impl_Complex_pairs.l1 k2 (x3_2 ++ [(⟨(rd l0_1 x12_1), rd l0_1 x19_2⟩ : S62)]) (rd l0_1 x12_1) l0_1 (l0_1.length : Int) x12_1 l0_1 (l0_1.length : Int) (wrap64 (x19_2 + 1)) a0_0 l0_1) else (none)) = some r := by rw [if_pos rfl] at H; exact H
            clear H
            have H := H1
            clear H1
            by_cases c13 : x3_2.length < 8796093022208
            ·rw [if_pos c13] at H
             have LMc13 := Aside0.mk c13
             clear c13
             obtain ⟨y106, hy106⟩ : ∃ y_ : List (S62), y_ = (x3_2 ++ [(⟨(rd l0_1 x12_1), rd l0_1 x19_2⟩ : S62)]) := ⟨_, rfl⟩
             replace H : (impl_Complex_pairs.l1 k2 y106 (rd l0_1 x12_1) l0_1 (l0_1.length : Int) x12_1 l0_1 (l0_1.length : Int) (wrap64 (x19_2 + 1)) a0_0 l0_1) = some r := by first | (rw [hy106]; with_reducible exact H) | (have H2_ := (Option.bind_some _ _).symm.trans H; rw [hy106]; with_reducible exact H2_) | (have H2_ := (Option.bind_some _ _).symm.trans H; with_reducible exact H2_) | with_reducible exact H | (rw [hy106]; exact H) | exact H
             have Ny106 := Aside0.mk hy106
             clear hy106
             have H' := Aside0.mk H
             clear H
             have p103 : 0 ≤ (x19_2 : Int) := of_decide_eq_true (by first | (with_reducible assumption) | assumption)
             have q103 : x19_2 < (l0_1.length : Int) := of_decide_eq_true (by first | (with_reducible assumption) | assumption)
             obtain ⟨ad103, e103, hx103_0⟩ := Kd.at_int HR0_1.out x19_2 p103 q103
             obtain rfl : ad102 = ad103 := (by injection e103)
             replace hx103_0 := cH HB hx103_0
             replace p103 := eq_true p103
             replace q103 := eq_true q103
             go_wp2_with (first | ((with_reducible refine gate_dst (N := 8) rfl ?_); refine box_event ?hg (N := 8) ?hd (cs := #[.int .i64 0, .int .i64 0]) (t := 62) ?hr ?_; (case hd => rfl); (case hg => rfl); (case hr => first | (go_simp; done) | (go_simp; rfl)); intro gb104 hg w14 hbox hb; replace HO_3 := Aside0.mk (Kd.R_below (Kd.R_elderB (pR HO_3) gb104 (Nat.le_of_eq hg.symm)) hb); have BK104 := Aside0.mk (hbox); have GW104 := gH HB hg; have GE104 := gH HB hg; replace HB := sH HB hb; have NB101_104 := nB BK101 hg; have NB104_101 := oB BK101 hg; replace BK101 := sB BK101 hb; clear hb hbox hg; (try have hnb15 := NB104_101.out); (try have hnc15 := NB101_104.out); have hcz16_0 : w14.cell? ⟨gb104, 0, none⟩ = some (.int .i64 0) := cB BK104 0; have hcz16_1 : w14.cell? ⟨gb104, 1, none⟩ = some (.int .i64 0) := cB BK104 1; have hfz16_0 := zB BK104 0; have hfz16_1 := zB BK104 1; have hcz17_0 : w14.cell? ⟨gb101, 0, none⟩ = some (.int .i64 a0_0) := cB BK101 0; have hcz17_1 : w14.cell? ⟨gb101, 1, none⟩ = some (.slice (some ad102) l0_1.length c0_1) := cB BK101 1; have hfz17_0 := zB BK101 0; have hfz17_1 := zB BK101 1) | ((with_reducible refine gate_callee (f := 57) rfl ?_); refine cl_ (some 28) Tryz.func57 #[.agg #[.int .i64 a0_0, .slice (some ad102) l0_1.length c0_1], .agg #[.int .i64 (rd l0_1 x12_1), .int .i64 (rd l0_1 x19_2)]] ?_; (with_reducible refine (impl_Complex_isPair.calls a0_0 _ _ l0_1 (rd l0_1 x12_1) (rd l0_1 x19_2) true _ ?side1 ?side2 A11.out).mono ?_); (case side1 => exact Kd.C_below HR0_1.out (pH HB)); (case side2 => exact HC0_1.out); rintro e w18 ⟨rfl, hb⟩; refine ⟨_, rfl, ?_⟩; have n0_ := Aside0.mk (Kd.R_below (by (with_reducible repeat (first | apply Kd.R_alloc | apply Kd.R_drewN | apply Kd.R_drew)); exact (Kd.R_mono (Kd.R_far (p := ⟨gb104, 1, none⟩) (Kd.R_far (p := ⟨gb104, 0, none⟩) (Kd.R_mono HO_3.out (fun k_ hk => (⟨hk, hk.2⟩ : _ ∧ k_ ≠ gb104))) (fun _ hk => hk.2) (.int .i64 (rd l0_1 x12_1))) (fun _ hk => hk.2) (.int .i64 (rd l0_1 x19_2))) (fun _ h_ => h_.1))) hb); have n1_ := Aside0.mk (blk_below (g := gb101) (o := .cells #[.int .i64 a0_0, .slice (some ad102) l0_1.length c0_1] 29 (0, 0)) (by (with_reducible repeat (first | refine blk_drewN ?_ _ | refine blk_drew ?_ | refine blk_alloc ?_ _)); refine blk_far ?_ NB101_104.out _; (with_reducible repeat (first | refine blk_drewN ?_ _ | refine blk_drew ?_ | refine blk_alloc ?_ _)); refine blk_far ?_ NB101_104.out _; (with_reducible repeat (first | refine blk_drewN ?_ _ | refine blk_drew ?_ | refine blk_alloc ?_ _)); exact BK101.out) hb); have n2_ := Aside0.mk (blk_below (g := gb104) (o := .cells #[.int .i64 (rd l0_1 x12_1), .int .i64 (rd l0_1 x19_2)] 62 (0, 0)) (by (with_reducible repeat (first | refine blk_drewN ?_ _ | refine blk_drew ?_ | refine blk_alloc ?_ _)); refine blk_put (cs := #[.int .i64 (rd l0_1 x12_1), .int .i64 0]) ?_ 1 _ rfl; (with_reducible repeat (first | refine blk_drewN ?_ _ | refine blk_drew ?_ | refine blk_alloc ?_ _)); refine blk_put (cs := #[.int .i64 0, .int .i64 0]) ?_ 0 _ rfl; (with_reducible repeat (first | refine blk_drewN ?_ _ | refine blk_drew ?_ | refine blk_alloc ?_ _)); exact BK104.out) hb); have n3_ := sH HB hb; clear HO_3; clear BK101; clear BK104; clear HB; have HO_3 := n0_; have BK101 := n1_; have BK104 := n2_; have HB := n3_; clear n0_ n1_ n2_ n3_; (try clear hb); (try clear hi); have hcz19_0 : w18.cell? ⟨gb104, 0, none⟩ = some (.int .i64 (rd l0_1 x12_1)) := cB BK104 0; have hcz19_1 : w18.cell? ⟨gb104, 1, none⟩ = some (.int .i64 (rd l0_1 x19_2)) := cB BK104 1; have hfz19_0 := zB BK104 0; have hfz19_1 := zB BK104 1) | ((with_reducible refine gate_builtin (b := .append) (xs := #[.tmp 29, .tmp 31]) rfl ?_); at_builtin; refine Kd.R_append k62 (w0 := w) w.heap.size rfl (.tmp 29) (.tmp 31) 38 62 (.agg #[(.int .i64 0), (.int .i64 0)]) 16 rfl Tryz.underlying38 info62 rfl (by decide) (by omega) u3 x3_2 (⟨(rd l0_1 x12_1), rd l0_1 x19_2⟩ : S62) [.int .i64 (rd l0_1 x12_1), .int .i64 (rd l0_1 x19_2)] (fun k_ => k_ ≠ gb104) (fun _ => False) rfl rfl ?aP (fun _ hk => hk.elim) ?aF ?aO ?aB ?aS ?aL ?_; (case aP => exact k62_mkM _ _ _ (⟨(rd l0_1 x12_1), rd l0_1 x19_2⟩ : S62)); (case aB => exact (pH HB)); (case aF => exact (fun k_ hk => Kd.freshB (g := gb104) (o := .cells #[.int .i64 (rd l0_1 x12_1), .int .i64 (rd l0_1 x19_2)] 62 (0, 0)) (pB BK104) k_ hk)); (case aO => exact (by (with_reducible repeat (first | apply Kd.R_alloc | apply Kd.R_drewN | apply Kd.R_drew)); exact Kd.R_mono HO_3.out (fun _ hk => hk.2))); (case aS => exact (below_size (pH HB))); (case aL => have := LMc13.out; omega); intro v107 w20 ho hb hg hat; rw [← Ny106.out] at ho; replace BK101 := Aside0.mk (blk_grown (g := gb101) (o := .cells #[.int .i64 a0_0, .slice (some ad102) l0_1.length c0_1] 29 (0, 0)) (pB BK101) hg (Kd.R_ne HO_3.out BK101.out (by decide))); replace BK104 := Aside0.mk (blk_grown (g := gb104) (o := .cells #[.int .i64 (rd l0_1 x12_1), .int .i64 (rd l0_1 x19_2)] 62 (0, 0)) (pB BK104) hg (Kd.R_away HO_3.out (fun _ hk => hk.2))); replace HB := Aside0.mk (hb); have HO108 := Aside0.mk (ho); clear HO_3; clear ho hb hg hat))
             go_roundg k2
             case measure => have := HK1.out; have := HK2.out; omega
             case rel => exact ⟨(y106), (wrap64 (x19_2 + 1)), (by first | rfl | (simp; done) | (simp [*]; done)), H', ⟨by have := HK1.out; have := HK2.out; omega⟩, ⟨by (with_reducible repeat (first | apply Kd.R_alloc | apply Kd.R_drewN | apply Kd.R_drew)); exact Kd.R_mono HO108.out (fun _ hk => trivial)⟩, ⟨pB BK101⟩, ⟨pH HB⟩⟩
            ·rw [if_neg c13] at H
             exact absurd H (by simp)
           ·replace c12 := Bool.eq_false_iff.mpr c12
            subst c12
            have H1 : (impl_Complex_pairs.l1 k2 x3_2 (rd l0_1 x12_1) l0_1 (l0_1.length : Int) x12_1 l0_1 (l0_1.length : Int) (wrap64 (x19_2 + 1)) a0_0 l0_1) = some r := by rw [if_neg (show ¬ (false = true) by decide)] at H; exact H
            clear H
            have H := H1
            clear H1
            have H' := Aside0.mk H
            clear H
            have p103 : 0 ≤ (x19_2 : Int) := of_decide_eq_true (by first | (with_reducible assumption) | assumption)
            have q103 : x19_2 < (l0_1.length : Int) := of_decide_eq_true (by first | (with_reducible assumption) | assumption)
            obtain ⟨ad103, e103, hx103_0⟩ := Kd.at_int HR0_1.out x19_2 p103 q103
            obtain rfl : ad102 = ad103 := (by injection e103)
            replace hx103_0 := cH HB hx103_0
            replace p103 := eq_true p103
            replace q103 := eq_true q103
            go_wp2_with (first | ((with_reducible refine gate_dst (N := 8) rfl ?_); refine box_event ?hg (N := 8) ?hd (cs := #[.int .i64 0, .int .i64 0]) (t := 62) ?hr ?_; (case hd => rfl); (case hg => rfl); (case hr => first | (go_simp; done) | (go_simp; rfl)); intro gb104 hg w21 hbox hb; replace HO_3 := Aside0.mk (Kd.R_below (Kd.R_elderB (pR HO_3) gb104 (Nat.le_of_eq hg.symm)) hb); have BK104 := Aside0.mk (hbox); have GW104 := gH HB hg; have GE104 := gH HB hg; replace HB := sH HB hb; have NB101_104 := nB BK101 hg; have NB104_101 := oB BK101 hg; replace BK101 := sB BK101 hb; clear hb hbox hg; (try have hnb22 := NB104_101.out); (try have hnc22 := NB101_104.out); have hcz23_0 : w21.cell? ⟨gb104, 0, none⟩ = some (.int .i64 0) := cB BK104 0; have hcz23_1 : w21.cell? ⟨gb104, 1, none⟩ = some (.int .i64 0) := cB BK104 1; have hfz23_0 := zB BK104 0; have hfz23_1 := zB BK104 1; have hcz24_0 : w21.cell? ⟨gb101, 0, none⟩ = some (.int .i64 a0_0) := cB BK101 0; have hcz24_1 : w21.cell? ⟨gb101, 1, none⟩ = some (.slice (some ad102) l0_1.length c0_1) := cB BK101 1; have hfz24_0 := zB BK101 0; have hfz24_1 := zB BK101 1) | ((with_reducible refine gate_callee (f := 57) rfl ?_); refine cl_ (some 28) Tryz.func57 #[.agg #[.int .i64 a0_0, .slice (some ad102) l0_1.length c0_1], .agg #[.int .i64 (rd l0_1 x12_1), .int .i64 (rd l0_1 x19_2)]] ?_; (with_reducible refine (impl_Complex_isPair.calls a0_0 _ _ l0_1 (rd l0_1 x12_1) (rd l0_1 x19_2) false _ ?side1 ?side2 A11.out).mono ?_); (case side1 => exact Kd.C_below HR0_1.out (pH HB)); (case side2 => exact HC0_1.out); rintro e w25 ⟨rfl, hb⟩; refine ⟨_, rfl, ?_⟩; have n0_ := Aside0.mk (Kd.R_below (by (with_reducible repeat (first | apply Kd.R_alloc | apply Kd.R_drewN | apply Kd.R_drew)); exact (Kd.R_mono (Kd.R_far (p := ⟨gb104, 1, none⟩) (Kd.R_far (p := ⟨gb104, 0, none⟩) (Kd.R_mono HO_3.out (fun k_ hk => (⟨hk, hk.2⟩ : _ ∧ k_ ≠ gb104))) (fun _ hk => hk.2) (.int .i64 (rd l0_1 x12_1))) (fun _ hk => hk.2) (.int .i64 (rd l0_1 x19_2))) (fun _ h_ => h_.1))) hb); have n1_ := Aside0.mk (blk_below (g := gb101) (o := .cells #[.int .i64 a0_0, .slice (some ad102) l0_1.length c0_1] 29 (0, 0)) (by (with_reducible repeat (first | refine blk_drewN ?_ _ | refine blk_drew ?_ | refine blk_alloc ?_ _)); refine blk_far ?_ NB101_104.out _; (with_reducible repeat (first | refine blk_drewN ?_ _ | refine blk_drew ?_ | refine blk_alloc ?_ _)); refine blk_far ?_ NB101_104.out _; (with_reducible repeat (first | refine blk_drewN ?_ _ | refine blk_drew ?_ | refine blk_alloc ?_ _)); exact BK101.out) hb); have n2_ := Aside0.mk (blk_below (g := gb104) (o := .cells #[.int .i64 (rd l0_1 x12_1), .int .i64 (rd l0_1 x19_2)] 62 (0, 0)) (by (with_reducible repeat (first | refine blk_drewN ?_ _ | refine blk_drew ?_ | refine blk_alloc ?_ _)); refine blk_put (cs := #[.int .i64 (rd l0_1 x12_1), .int .i64 0]) ?_ 1 _ rfl; (with_reducible repeat (first | refine blk_drewN ?_ _ | refine blk_drew ?_ | refine blk_alloc ?_ _)); refine blk_put (cs := #[.int .i64 0, .int .i64 0]) ?_ 0 _ rfl; (with_reducible repeat (first | refine blk_drewN ?_ _ | refine blk_drew ?_ | refine blk_alloc ?_ _)); exact BK104.out) hb); have n3_ := sH HB hb; clear HO_3; clear BK101; clear BK104; clear HB; have HO_3 := n0_; have BK101 := n1_; have BK104 := n2_; have HB := n3_; clear n0_ n1_ n2_ n3_; (try clear hb); (try clear hi)))
            go_roundg k2
            case measure => have := HK1.out; have := HK2.out; omega
            case rel => exact ⟨(x3_2), (wrap64 (x19_2 + 1)), (by first | rfl | (simp; done) | (simp [*]; done)), H', ⟨by have := HK1.out; have := HK2.out; omega⟩, ⟨by (with_reducible repeat (first | apply Kd.R_alloc | apply Kd.R_drewN | apply Kd.R_drew)); exact Kd.R_mono HO_3.out (fun _ hk => trivial)⟩, ⟨pB BK101⟩, ⟨pH HB⟩⟩
          ·rw [if_neg c10] at H
           exact absurd H (by simp)
         ·rw [if_neg c9] at H
          exact absurd H (by simp)
        ·rw [if_neg c8] at H
         have c8b0 : decide (x19_2 < (l0_1.length : Int)) = false := decide_eq_false c8
         clear c8
         have H' := Aside0.mk H
         clear H
         go_wp2
         go_roundg k2
         case measure => have := HK1.out; have := HK2.out; omega
         case rel => exact ⟨(x3_2), (wrap64 (x12_1 + 1)), (by first | rfl | (simp; done) | (simp [*]; done)), H', ⟨by have := HK1.out; have := HK2.out; omega⟩, ⟨by (with_reducible repeat (first | apply Kd.R_alloc | apply Kd.R_drewN | apply Kd.R_drew)); exact HO_3.out⟩, ⟨pB BK101⟩, ⟨pH HB⟩⟩
     ·rw [if_neg c6] at H
      exact absurd H (by simp)
    ·rw [if_neg c5] at H
     exact absurd H (by simp)
   ·rw [if_neg c4] at H
    have c4b0 : decide (x12_1 < (l0_1.length : Int)) = false := decide_eq_false c4
    clear c4
    obtain rfl := Option.some.inj H
    go_wp2
    go_ret
    exact ⟨_, by first | rfl | (simp [errW_none, errW_some] <;> rfl) | (simp [*, errW_none, errW_some] <;> rfl) | (exfalso; simp_all), by (with_reducible repeat (first | apply Kd.R_alloc | apply Kd.R_drewN | apply Kd.R_drew)); exact HO_3.out, pH HB⟩
def impl_limitCode.f (a0_0 : Int) (l0_1 : List Int) (a1 : Int) : Option (Int) := (impl_complexCode.f a0_0 l0_1 (fnp 32)).bind fun t110 => (if t110 = 0 then (if (l0_1.length : Int) > a1 then (some 3) else (some 0)) else (some t110))
set_option maxHeartbeats 8000000 in
set_option maxRecDepth 100000 in
theorem impl_limitCode.calls (a0_0 : Int) (A0_1 : Option Addr) (c0_1 : Nat) (l0_1 : List Int) (a1 : Int) (r : Int) (w : World) (hr0_1 : Kd.C (Kd.int .i64) w A0_1 l0_1.length l0_1) (hc0_1 : l0_1.length ≤ c0_1) (h : impl_limitCode.f a0_0 l0_1 a1 = some r) :
  Calls Tryz.prog 17 #[.agg #[.int .i64 a0_0, .slice A0_1 l0_1.length c0_1], .int .i64 a1] w fun e w' => e = .returned (.int .i64 r) ∧ Below w.heap.size w w' := by
 have hu29 := Tryz.underlying29
 have HR0_1 := Aside0.mk hr0_1
 have HC0_1 := Aside0.mk hc0_1
 clear hr0_1 hc0_1
 have HB := Aside0.mk (Below.refl w.heap.size w)
 have H : ((impl_complexCode.f a0_0 l0_1 (fnp 32)).bind fun t110 => (if t110 = 0 then (if (l0_1.length : Int) > a1 then (some 3) else (some 0)) else (some t110))) = some r := h
 clear h
 replace H := Option.bind_eq_some_iff.mp H
 obtain ⟨t110, A30, H⟩ := H
 try dsimp only at H
 have A3 := Aside0.mk A30
 clear A30
 by_cases c4 : t110 = 0
 ·rw [if_pos c4] at H
  have c4b0 : (t110 == 0) = true := beq_iff_eq.mpr c4
  have c4b1 : (t110 != 0) = false := bne_eq_false_iff_eq.mpr c4
  clear c4
  by_cases c5 : (l0_1.length : Int) > a1
  ·rw [if_pos c5] at H
   have c5b0 : decide (a1 < (l0_1.length : Int)) = true := decide_eq_true c5
   clear c5
   obtain rfl := Option.some.inj H
   go_enter Tryz.func17, Tryz.ntmps17
   go_wp2_with (first | ((with_reducible refine gate_dst (N := 2) rfl ?_); refine box_event ?hg (N := 2) ?hd (cs := #[.int .i64 a0_0, .slice A0_1 l0_1.length c0_1]) (t := 29) ?hr ?_; (case hd => rfl); (case hg => rfl); (case hr => first | (go_simp; done) | (go_simp; rfl)); intro gb109 hg w6 hbox hb; have BK109 := Aside0.mk (hbox); have GW109 := gH HB hg; have GE109 := gH HB hg; replace HB := sH HB hb; clear hb hbox hg; have hcz7_0 : w6.cell? ⟨gb109, 0, none⟩ = some (.int .i64 a0_0) := cB BK109 0; have hcz7_1 : w6.cell? ⟨gb109, 1, none⟩ = some (.slice A0_1 l0_1.length c0_1) := cB BK109 1; have hfz7_0 := zB BK109 0; have hfz7_1 := zB BK109 1) | ((with_reducible refine gate_callee (f := 31) rfl ?_); refine cl_ (some 7) Tryz.func31 #[.agg #[.int .i64 a0_0, .slice A0_1 l0_1.length c0_1], .func (.func 32) #[] #[]] ?_; (with_reducible refine (impl_complexCode.calls a0_0 _ _ l0_1 _ (fnp 32) t110 _ ?side1 ?side2 ?side3 A3.out).mono ?_); (case side1 => exact pC ((Kd.C_below HR0_1.out HB.out))); (case side2 => exact HC0_1.out); (case side3 => exact fnp_ok_32 _); rintro e w8 ⟨rfl, hb⟩; refine ⟨_, rfl, ?_⟩; replace BK109 := sB BK109 hb; replace HB := sH HB hb; (try clear hb); (try clear hi); have hcz9_0 : w8.cell? ⟨gb109, 0, none⟩ = some (.int .i64 a0_0) := cB BK109 0; have hcz9_1 : w8.cell? ⟨gb109, 1, none⟩ = some (.slice A0_1 l0_1.length c0_1) := cB BK109 1; have hfz9_0 := zB BK109 0; have hfz9_1 := zB BK109 1))
   go_ret
   exact ⟨by first | rfl | (simp [errW_none, errW_some] <;> rfl) | (simp [*, errW_none, errW_some] <;> rfl) | (exfalso; simp_all), pH HB⟩
  ·rw [if_neg c5] at H
   have c5b0 : decide (a1 < (l0_1.length : Int)) = false := decide_eq_false c5
   clear c5
   obtain rfl := Option.some.inj H
   go_enter Tryz.func17, Tryz.ntmps17
   go_wp2_with (first | ((with_reducible refine gate_dst (N := 2) rfl ?_); refine box_event ?hg (N := 2) ?hd (cs := #[.int .i64 a0_0, .slice A0_1 l0_1.length c0_1]) (t := 29) ?hr ?_; (case hd => rfl); (case hg => rfl); (case hr => first | (go_simp; done) | (go_simp; rfl)); intro gb109 hg w10 hbox hb; have BK109 := Aside0.mk (hbox); have GW109 := gH HB hg; have GE109 := gH HB hg; replace HB := sH HB hb; clear hb hbox hg; have hcz11_0 : w10.cell? ⟨gb109, 0, none⟩ = some (.int .i64 a0_0) := cB BK109 0; have hcz11_1 : w10.cell? ⟨gb109, 1, none⟩ = some (.slice A0_1 l0_1.length c0_1) := cB BK109 1; have hfz11_0 := zB BK109 0; have hfz11_1 := zB BK109 1) | ((with_reducible refine gate_callee (f := 31) rfl ?_); refine cl_ (some 7) Tryz.func31 #[.agg #[.int .i64 a0_0, .slice A0_1 l0_1.length c0_1], .func (.func 32) #[] #[]] ?_; (with_reducible refine (impl_complexCode.calls a0_0 _ _ l0_1 _ (fnp 32) t110 _ ?side1 ?side2 ?side3 A3.out).mono ?_); (case side1 => exact pC ((Kd.C_below HR0_1.out HB.out))); (case side2 => exact HC0_1.out); (case side3 => exact fnp_ok_32 _); rintro e w12 ⟨rfl, hb⟩; refine ⟨_, rfl, ?_⟩; replace BK109 := sB BK109 hb; replace HB := sH HB hb; (try clear hb); (try clear hi); have hcz13_0 : w12.cell? ⟨gb109, 0, none⟩ = some (.int .i64 a0_0) := cB BK109 0; have hcz13_1 : w12.cell? ⟨gb109, 1, none⟩ = some (.slice A0_1 l0_1.length c0_1) := cB BK109 1; have hfz13_0 := zB BK109 0; have hfz13_1 := zB BK109 1))
   go_ret
   exact ⟨by first | rfl | (simp [errW_none, errW_some] <;> rfl) | (simp [*, errW_none, errW_some] <;> rfl) | (exfalso; simp_all), pH HB⟩
 ·rw [if_neg c4] at H
  have c4b0 : (t110 == 0) = false := beq_eq_false_iff_ne.mpr c4
  have c4b1 : (t110 != 0) = true := bne_iff_ne.mpr c4
  obtain rfl := Option.some.inj H
  go_enter Tryz.func17, Tryz.ntmps17
  go_wp2_with (first | ((with_reducible refine gate_dst (N := 2) rfl ?_); refine box_event ?hg (N := 2) ?hd (cs := #[.int .i64 a0_0, .slice A0_1 l0_1.length c0_1]) (t := 29) ?hr ?_; (case hd => rfl); (case hg => rfl); (case hr => first | (go_simp; done) | (go_simp; rfl)); intro gb109 hg w14 hbox hb; have BK109 := Aside0.mk (hbox); have GW109 := gH HB hg; have GE109 := gH HB hg; replace HB := sH HB hb; clear hb hbox hg; have hcz15_0 : w14.cell? ⟨gb109, 0, none⟩ = some (.int .i64 a0_0) := cB BK109 0; have hcz15_1 : w14.cell? ⟨gb109, 1, none⟩ = some (.slice A0_1 l0_1.length c0_1) := cB BK109 1; have hfz15_0 := zB BK109 0; have hfz15_1 := zB BK109 1) | ((with_reducible refine gate_callee (f := 31) rfl ?_); refine cl_ (some 7) Tryz.func31 #[.agg #[.int .i64 a0_0, .slice A0_1 l0_1.length c0_1], .func (.func 32) #[] #[]] ?_; (with_reducible refine (impl_complexCode.calls a0_0 _ _ l0_1 _ (fnp 32) t110 _ ?side1 ?side2 ?side3 A3.out).mono ?_); (case side1 => exact pC ((Kd.C_below HR0_1.out HB.out))); (case side2 => exact HC0_1.out); (case side3 => exact fnp_ok_32 _); rintro e w16 ⟨rfl, hb⟩; refine ⟨_, rfl, ?_⟩; replace BK109 := sB BK109 hb; replace HB := sH HB hb; (try clear hb); (try clear hi)))
  go_ret
  exact ⟨by first | rfl | (simp [errW_none, errW_some] <;> rfl) | (simp [*, errW_none, errW_some] <;> rfl) | (exfalso; simp_all), pH HB⟩
end Go.Proofs.YtdlmlmaoacmdiaaGreat.QD
namespace Go.Proofs.YtdlmlmaoacmdiaaGreat.Im
open Go.RowKit Go.Shelf Kp Cw Ext Pu YtdlmlmaoacmdiaaGreatW.PrintWords YtdlmlmaoacmdiaaGreatW.PrintLast YtdlmlmaoacmdiaaGreatW.PrintMore
attribute [local go_sem] run_store_fn
theorem ac_all (w0 : World) (pd pa pk pg : Nat) (F : Value) (n : Int) (A : Option Addr) (c : Nat) (xs : List Int) (va : Value) (all : List Pr) {σ : Type} (upd : σ → List Pr → σ) (Inv : World → σ → Prop) (g : FuncId) (fs lb : Array Value)
    (hdo : DoOk w0 xs F upd Inv g fs lb) (hr : RC w0 A xs.length xs) (hc : xs.length ≤ c) (hi : isC n xs = true) (hal : all.length ≤ 1048576) (d : Nat) : AcOk w0 pd pa pk pg F n A c xs va all upd Inv d :=
  Nat.strongRecOn d fun d ih => ac_step w0 pd pa pk pg F n A c xs va all upd Inv g fs lb hdo hr hc hi hal d ih
set_option maxRecDepth 100000 in
set_option maxHeartbeats 8000000 in
theorem acyclic_c (w0 : World) (F : Value) (n : Int) (A : Option Addr) (c : Nat) (xs : List Int) {σ : Type} (upd : σ → List Pr → σ) (Inv : World → σ → Prop) (g : FuncId) (fs lb : Array Value) (s : σ) (W : World)
    (hdo : DoOk w0 xs F upd Inv g fs lb) (hr : RC w0 A xs.length xs) (hc : xs.length ≤ c) (hi : isC n xs = true) (hin : Inv W s) (hb : Below w0.heap.size w0 W) (kp : Nat) (hkp : QD.impl_Complex_pairs.f kp n xs = some (pairsL xs)) :
    Calls Tryz.prog 18 #[.agg #[.int .i64 n, .slice A xs.length c], F] W fun e w' => e = .returned (.tuple #[]) ∧ Inv w' ((enumL xs (pairsL xs) []).foldl upd s) ∧ Below w0.heap.size w0 w' := by
  have hF := hdo.eq
  subst hF
  have HX := Aside0.mk ((CxAt.new W n A xs.length c).below (below_alloc (Below.refl _ _) (.cells #[.func (.func g) fs lb] 50)))
  have HB := Aside0.mk (below_alloc (below_alloc (Below.refl W.heap.size W) (.cells #[.int .i64 n, .slice A xs.length c] 29)) (.cells #[.func (.func g) fs lb] 50))
  have HR := Aside0.mk hr
  have HC := Aside0.mk hc
  have HI := Aside0.mk hi
  have HDO := Aside0.mk hdo
  have HIN := Aside0.mk hin
  have HBW := Aside0.mk hb
  have HKP := Aside0.mk hkp
  have hx0 := HX.out.c0
  have hx1 := HX.out.c1
  have hfn : ((W.alloc (.cells #[.int .i64 n, .slice A xs.length c] 29)).alloc (.cells #[.func (.func g) fs lb] 50)).heap[W.heap.size + 1]? = some (.cells #[.func (.func g) fs lb] 50 (0, 0)) := by
    have := heap_alloc_new (W.alloc (.cells #[.int .i64 n, .slice A xs.length c] 29)) (.cells #[.func (.func g) fs lb] 50)
    rw [show (W.alloc (.cells #[.int .i64 n, .slice A xs.length c] 29)).heap.size = W.heap.size + 1 by simp] at this
    exact this
  have HFN := Aside0.mk hfn
  clear hr hc hi hdo hin hb hkp hfn
  go_enter Tryz.func18, Tryz.ntmps18
  go_upto_region 4 with (go_at_call 33; refine (QD.impl_Complex_pairs.calls kp n A c xs (pairsL xs) _ (Kd.C_below HR.out (below_in HBW.out HB.out)) HC.out HKP.out).mono ?_; rintro e w1 ⟨va, rfl, hv, hb⟩; have HX1 := Aside0.mk (HX.out.below hb); obtain ⟨Aa, ca, rfl⟩ := Kd.R_slice hv; have HV1 := Aside0.mk hv; have HB1 := Aside0.mk (below_in HB.out hb); have HB1f := Aside0.mk hb; clear hv hb hx0 hx1)
  have hes : ES ((w1.alloc (.cells #[.slice Aa (pairsL xs).length ca] 38)).alloc (.cells #[acV (W.heap.size + 1) w1.heap.size W.heap.size (w1.heap.size + 1)] 58)) w0 (W.heap.size + 1) w1.heap.size W.heap.size (w1.heap.size + 1) (.func (.func g) fs lb) n A c xs.length (.slice Aa (pairsL xs).length ca) (pairsL xs) := by
    have b1 := below_alloc (Below.refl w1.heap.size w1) (.cells #[.slice Aa (pairsL xs).length ca] 38)
    have b2 := below_alloc (Below.refl (w1.alloc (.cells #[.slice Aa (pairsL xs).length ca] 38)).heap.size (w1.alloc (.cells #[.slice Aa (pairsL xs).length ca] 38))) (.cells #[acV (W.heap.size + 1) w1.heap.size W.heap.size (w1.heap.size + 1)] 58)
    have b3 := below_in b1 b2
    have hsz : (w1.alloc (.cells #[.slice Aa (pairsL xs).length ca] 38)).heap.size = w1.heap.size + 1 := by simp
    have hn1 := heap_alloc_new w1 (.cells #[.slice Aa (pairsL xs).length ca] 38)
    have hn2 := heap_alloc_new (w1.alloc (.cells #[.slice Aa (pairsL xs).length ca] 38)) (.cells #[acV (W.heap.size + 1) w1.heap.size W.heap.size (w1.heap.size + 1)] 58)
    rw [hsz] at hn2
    have hf1 := (HB1f.out.block _ (blk_lt HFN.out)).trans HFN.out
    exact ⟨(b3.block _ (blk_lt hf1)).trans hf1, (b2.block _ (blk_lt hn1)).trans hn1, HX1.out.below b3, hn2, Kd.R_below (Kd.R_lower HV1.out (below_in HBW.out HB.out).size) b3, below_in (below_in HBW.out HB1.out) b3⟩
  have hinn := HDO.out.below _ _ _ (HDO.out.below _ _ _ (HDO.out.below _ _ _ HIN.out HB1.out) (below_alloc (Below.refl w1.heap.size w1) (.cells #[.slice Aa (pairsL xs).length ca] 38))) (below_alloc (Below.refl (w1.alloc (.cells #[.slice Aa (pairsL xs).length ca] 38)).heap.size (w1.alloc (.cells #[.slice Aa (pairsL xs).length ca] 38))) (.cells #[acV (W.heap.size + 1) w1.heap.size W.heap.size (w1.heap.size + 1)] 58))
  have hpl := pairs_len HI.out
  have hpn : pairingB xs [] = true := rfl
  have HES := Aside0.mk hes
  have HINN := Aside0.mk hinn
  clear hes hinn
  generalize hW4 : (w1.alloc (.cells #[.slice Aa (pairsL xs).length ca] 38)).alloc (.cells #[acV (W.heap.size + 1) w1.heap.size W.heap.size (w1.heap.size + 1)] 58) = W4 at HES HINN
  clear hW4
  have HCALL := Aside0.mk (ac_all w0 (W.heap.size + 1) w1.heap.size W.heap.size (w1.heap.size + 1) (.func (.func g) fs lb) n A c xs (.slice Aa (pairsL xs).length ca) (pairsL xs) upd Inv g fs lb HDO.out HR.out HC.out HI.out (by omega) ((pairsL xs).length - 0) [] s (.slice none 0 0) 0 W4 HES.out HINN.out (Kd.R_nil _ _ _ _ _) hpn (Nat.zero_le _) rfl)
  have hcg := HES.out.cg
  clear hpn hpl
  go_wp2_with (go_at_call 34; refine HCALL.out.mono ?_; rintro e w6 ⟨rfl, hin, hes, hk⟩; have HIN6 := Aside0.mk hin; have HES6 := Aside0.mk hes; clear hin hes hk HCALL hcg)
  exact bodyPost_end (results_none rfl _ _ _) rfl ⟨rfl, HIN6.out, HES6.out.hb⟩
def limI (n : Int) (xs : List Int) (m : Int) : Int := if isC n xs = true then (if (xs.length : Int) > m then 3 else 0) else 1
theorem limD_f (n : Int) {xs : List Int} (hx : xs.length ≤ 1048576) (m : Int) : QD.impl_limitCode.f n xs m = some (limI n xs m) := by
  unfold QD.impl_limitCode.f limI
  have hcode : impl_complexCode.f n xs (fnp 32) = some (codeOf (isC n xs) true) := by unfold impl_complexCode.f; rw [if_pos ⟨by omega, fun _ => rfl⟩]; rfl
  rw [hcode, Option.bind_some]
  cases isC n xs with
  | false => rfl
  | true =>
    rw [if_pos (show codeOf true true = 0 from rfl)]
    simp only [if_true]
    split <;> rfl
theorem pairsD_l1 {n : Int} {xs : List Int} (hi : isC n xs = true) {i : Nat} (hil : i < xs.length) (R : List Pr)
    (hR : Ev (fun k => QD.impl_Complex_pairs.l0 k ((xs.take (i + 1)).flatMap (rowP xs)) xs (xs.length : Int) ((i + 1 : Nat) : Int) n xs) R) :
    ∀ d (j : Nat), xs.length - j = d → j ≤ xs.length →
      Ev (fun k => QD.impl_Complex_pairs.l1 k ((xs.take i).flatMap (rowP xs) ++ ((xs.take j).filter (overP xs[i])).map fun g => (⟨xs[i], g⟩ : Pr)) xs[i] xs (xs.length : Int) (i : Int) xs (xs.length : Int) (j : Int) n xs) R := by
  have hx := isC_small hi
  intro d
  induction d with
  | zero =>
    intro j hd hj
    refine Ev.step (fun k => ?_) hR
    simp only [QD.impl_Complex_pairs.l1]
    rw [if_neg (by omega), succ64 (by omega), List.take_of_length_le (by omega : xs.length ≤ j), List.take_succ_eq_append_getElem hil, List.flatMap_append, List.flatMap_singleton]
    rfl
  | succ d ih =>
    intro j hd hj
    have hj' : j < xs.length := by omega
    have hlen : ((xs.take i).flatMap (rowP xs) ++ ((xs.take j).filter (overP xs[i])).map (fun g => (⟨xs[i], g⟩ : Pr))).length < 8796093022208 := by
      have h1 := flat_len (xs := xs) (xs.take i)
      have h2 : (xs.take i).length * xs.length ≤ 63 * 63 := Nat.mul_le_mul (by rw [List.length_take]; omega) hx
      have h3 : ((xs.take j).filter (overP xs[i])).length ≤ (xs.take j).length := List.length_filter_le _ _
      rw [List.length_take] at h3
      rw [List.length_append, List.length_map]
      omega
    have hpr : impl_Complex_isPair.f n xs xs[i] xs[j] = some (overP xs[i] xs[j]) := by
      unfold impl_Complex_isPair.f
      rw [if_pos hi, pair_over hi (List.getElem_mem hil) (List.getElem_mem hj')]
    have hih := ih (j + 1) (by omega) (by omega)
    rw [List.take_succ_eq_append_getElem hj', List.filter_append, List.map_append, ← List.append_assoc] at hih
    cases ho : overP xs[i] xs[j] with
    | true =>
      rw [show ([xs[j]].filter (overP xs[i])).map (fun g => (⟨xs[i], g⟩ : Pr)) = [⟨xs[i], xs[j]⟩] by simp [ho]] at hih
      refine Ev.step (fun k => ?_) hih
      simp only [QD.impl_Complex_pairs.l1]
      rw [if_pos (by omega), if_pos (by omega), if_pos (by omega), rd_at hj', hpr, ho, succ64 (by omega)]
      simp only [Option.bind_some, if_true]
      rw [if_pos hlen]
    | false =>
      rw [show ([xs[j]].filter (overP xs[i])).map (fun g => (⟨xs[i], g⟩ : Pr)) = [] by simp [ho], List.append_nil] at hih
      refine Ev.step (fun k => ?_) hih
      simp only [QD.impl_Complex_pairs.l1]
      rw [if_pos (by omega), if_pos (by omega), if_pos (by omega), rd_at hj', hpr, ho, succ64 (by omega)]
      simp only [Option.bind_some, Bool.false_eq_true, if_false]
theorem pairsD_l0 {n : Int} {xs : List Int} (hi : isC n xs = true) : ∀ d (i : Nat), xs.length - i = d → i ≤ xs.length → Ev (fun k => QD.impl_Complex_pairs.l0 k ((xs.take i).flatMap (rowP xs)) xs (xs.length : Int) (i : Int) n xs) (pairsL xs) := by
  have hx := isC_small hi
  intro d
  induction d with
  | zero =>
    intro i hd hil
    refine Ev.step (f := fun k => some (pairsL xs)) (fun k => ?_) (Ev.now _)
    simp only [QD.impl_Complex_pairs.l0]
    rw [if_neg (by omega), List.take_of_length_le (by omega)]
    rfl
  | succ d ih =>
    intro i hd hil
    have hil' : i < xs.length := by omega
    have := pairsD_l1 hi hil' (pairsL xs) (ih (i + 1) (by omega) (by omega)) _ 0 rfl (Nat.zero_le _)
    simp only [List.take_zero, List.filter_nil, List.map_nil, List.append_nil] at this
    refine Ev.step (fun k => ?_) this
    simp only [QD.impl_Complex_pairs.l0]
    rw [if_pos (by omega), if_pos (by omega), if_pos (by omega), rd_at hil']
    rfl
theorem ev_pairsD {n : Int} {xs : List Int} (hi : isC n xs = true) : Ev (fun k => QD.impl_Complex_pairs.f k n xs) (pairsL xs) := by
  unfold QD.impl_Complex_pairs.f
  have := pairsD_l0 hi _ 0 rfl (Nat.zero_le _)
  simpa using this
end Go.Proofs.YtdlmlmaoacmdiaaGreat.Im
namespace Go.Proofs.YtdlmlmaoacmdiaaGreat.Im
open Go.RowKit Go.Shelf Kp Ext Cw YtdlmlmaoacmdiaaGreatW.PrintWords YtdlmlmaoacmdiaaGreatW.PrintLast YtdlmlmaoacmdiaaGreatW.PrintMore
def ssC (n : Int) (A : Option Addr) (c len : Nat) (va vb : Value) (count most top : Int) (whole : Bool) (vf : Value) : Array Value := #[.int .i64 n, .slice A len c, va, vb, .int .i64 count, .int .i64 most, .int .i64 top, .bool whole, vf]
structure SS (W w0 : World) (y : Nat) (n : Int) (A : Option Addr) (c len : Nat) (va : Value) (all : List Pr) (vb : Value) (best : List Pr) (count most top : Int) (whole : Bool) (vf : Value) (vs : List Value) (found : List (List Int)) : Prop where
  b : W.heap[y]? = some (.cells (ssC n A c len va vb count most top whole vf) 40 (0, 0))
  y0 : w0.heap.size ≤ y
  ra : PO W w0.heap.size va all
  rb : PO W w0.heap.size vb best
  rv : VO W w0.heap.size vf vs
  ri : VI W w0.heap.size vs found
  hb : Below w0.heap.size w0 W
theorem VI.set {w : World} {base : Nat} {vs : List Value} {M : List (List Int)} (h : VI w base vs M) {g t : Nat} {cells : Array Value} (hb : w.heap[g]? = some (.cells cells t (0, 0))) (ht : 2 ≠ t) (j : Nat) (u : Value) : VI (w.setCell ⟨g, j, none⟩ u) base vs M :=
  h.move fun k cells' hk => Below.heap_setCell w ⟨g, j, none⟩ u k (blk_ne hk hb ht)
theorem KeepT.set {w : World} {g t : Nat} {cells : Array Value} (hb : w.heap[g]? = some (.cells cells t (0, 0))) (ht : t ∉ [62, 38, 29, 50, 58]) (j : Nat) (u : Value) : KeepT w (w.setCell ⟨g, j, none⟩ u) :=
  ⟨by simp, fun k cells' t' ht' hk => (Below.heap_setCell w ⟨g, j, none⟩ u k (blk_ne hk hb (fun e => ht (e ▸ ht')))).trans hk⟩
section
variable {W W1 w0 : World} {y : Nat} {n : Int} {A : Option Addr} {c len : Nat} {va : Value} {all : List Pr} {vb : Value} {best : List Pr} {count most top : Int} {whole : Bool} {vf : Value} {vs : List Value} {found : List (List Int)}
theorem SS.below (h : SS W w0 y n A c len va all vb best count most top whole vf vs found) (hb : Below W.heap.size W W1) : SS W1 w0 y n A c len va all vb best count most top whole vf vs found :=
  ⟨(hb.block _ (blk_lt h.b)).trans h.b, h.y0, Kd.R_below h.ra hb, Kd.R_below h.rb hb, Kd.R_below h.rv hb, h.ri.below hb, below_in h.hb hb⟩
theorem SS.drew (h : SS W w0 y n A c len va all vb best count most top whole vf vs found) : SS W.drew w0 y n A c len va all vb best count most top whole vf vs found := h.below (below_drew (Below.refl _ _))
theorem SS.keep (h : SS W w0 y n A c len va all vb best count most top whole vf vs found) (j : Nat) (u : Value) : KeepT W (W.setCell ⟨y, j, none⟩ u) := KeepT.set h.b (by decide) j u
theorem SS.c0 (h : SS W w0 y n A c len va all vb best count most top whole vf vs found) : W.cell? ⟨y, 0, none⟩ = some (.int .i64 n) := (cell_of_row W y 0 _ _ _ h.b).trans rfl
theorem SS.c1 (h : SS W w0 y n A c len va all vb best count most top whole vf vs found) : W.cell? ⟨y, 1, none⟩ = some (.slice A len c) := (cell_of_row W y 1 _ _ _ h.b).trans rfl
theorem SS.c2 (h : SS W w0 y n A c len va all vb best count most top whole vf vs found) : W.cell? ⟨y, 2, none⟩ = some va := (cell_of_row W y 2 _ _ _ h.b).trans rfl
theorem SS.c3 (h : SS W w0 y n A c len va all vb best count most top whole vf vs found) : W.cell? ⟨y, 3, none⟩ = some vb := (cell_of_row W y 3 _ _ _ h.b).trans rfl
theorem SS.c4 (h : SS W w0 y n A c len va all vb best count most top whole vf vs found) : W.cell? ⟨y, 4, none⟩ = some (.int .i64 count) := (cell_of_row W y 4 _ _ _ h.b).trans rfl
theorem SS.c5 (h : SS W w0 y n A c len va all vb best count most top whole vf vs found) : W.cell? ⟨y, 5, none⟩ = some (.int .i64 most) := (cell_of_row W y 5 _ _ _ h.b).trans rfl
theorem SS.c6 (h : SS W w0 y n A c len va all vb best count most top whole vf vs found) : W.cell? ⟨y, 6, none⟩ = some (.int .i64 top) := (cell_of_row W y 6 _ _ _ h.b).trans rfl
theorem SS.c7 (h : SS W w0 y n A c len va all vb best count most top whole vf vs found) : W.cell? ⟨y, 7, none⟩ = some (.bool whole) := (cell_of_row W y 7 _ _ _ h.b).trans rfl
theorem SS.c8 (h : SS W w0 y n A c len va all vb best count most top whole vf vs found) : W.cell? ⟨y, 8, none⟩ = some vf := (cell_of_row W y 8 _ _ _ h.b).trans rfl
theorem SS.fz (h : SS W w0 y n A c len va all vb best count most top whole vf vs found) (j : Nat) : W.frozen? ⟨y, j, none⟩ = false := blk_frozen h.b j
theorem SS.setCount (h : SS W w0 y n A c len va all vb best count most top whole vf vs found) (x : Int) : SS (W.setCell ⟨y, 4, none⟩ (.int .i64 x)) w0 y n A c len va all vb best x most top whole vf vs found :=
  ⟨blk_put h.b 4 _ rfl, h.y0, Kd.R_set h.ra h.b (by decide) 4 _, Kd.R_set h.rb h.b (by decide) 4 _, Kd.R_set h.rv h.b (by decide) 4 _, h.ri.set h.b (by decide) 4 _, h.hb.setCell (p := ⟨y, 4, none⟩) h.y0 _⟩
theorem SS.setMost (h : SS W w0 y n A c len va all vb best count most top whole vf vs found) (x : Int) : SS (W.setCell ⟨y, 5, none⟩ (.int .i64 x)) w0 y n A c len va all vb best count x top whole vf vs found :=
  ⟨blk_put h.b 5 _ rfl, h.y0, Kd.R_set h.ra h.b (by decide) 5 _, Kd.R_set h.rb h.b (by decide) 5 _, Kd.R_set h.rv h.b (by decide) 5 _, h.ri.set h.b (by decide) 5 _, h.hb.setCell (p := ⟨y, 5, none⟩) h.y0 _⟩
theorem SS.setBest (h : SS W w0 y n A c len va all vb best count most top whole vf vs found) {v : Value} {l : List Pr} (hv : PO W w0.heap.size v l) : SS (W.setCell ⟨y, 3, none⟩ v) w0 y n A c len va all v l count most top whole vf vs found :=
  ⟨blk_put h.b 3 _ rfl, h.y0, Kd.R_set h.ra h.b (by decide) 3 _, Kd.R_set hv h.b (by decide) 3 _, Kd.R_set h.rv h.b (by decide) 3 _, h.ri.set h.b (by decide) 3 _, h.hb.setCell (p := ⟨y, 3, none⟩) h.y0 _⟩
theorem SS.setFound (h : SS W w0 y n A c len va all vb best count most top whole vf vs found) {v : Value} {us : List Value} {N : List (List Int)} (hv : VO W w0.heap.size v us) (hi : VI W w0.heap.size us N) : SS (W.setCell ⟨y, 8, none⟩ v) w0 y n A c len va all vb best count most top whole v us N :=
  ⟨blk_put h.b 8 _ rfl, h.y0, Kd.R_set h.ra h.b (by decide) 8 _, Kd.R_set h.rb h.b (by decide) 8 _, Kd.R_set hv h.b (by decide) 8 _, hi.set h.b (by decide) 8 _, h.hb.setCell (p := ⟨y, 8, none⟩) h.y0 _⟩
end
end Go.Proofs.YtdlmlmaoacmdiaaGreat.Im
namespace Go.Proofs.YtdlmlmaoacmdiaaGreat.Im
open Go.RowKit Go.Shelf Kp Cw Ext Pu YtdlmlmaoacmdiaaGreatW.PrintWords YtdlmlmaoacmdiaaGreatW.PrintLast YtdlmlmaoacmdiaaGreatW.PrintMore
def LputPost (w : World) (base : Nat) (R : List (List Int)) (e : Ending) (w' : World) : Prop := ∃ (v' : Value) (vs' : List Value), e = .returned v' ∧ VO w' base v' vs' ∧ VI w' base vs' R ∧ Below w.heap.size w w'
theorem drawn0_below {w w1 : World} (h : Drawn0 w w1) : Below w.heap.size w w1 := by
  obtain ⟨nd, rfl⟩ := h
  exact pw_below_drewN (Below.refl _ _) nd
theorem VI.at_ {w : World} {base : Nat} {vs : List Value} {M : List (List Int)} (h : VI w base vs M) {i : Nat} (hi : i < vs.length) : ∃ (h2 : i < M.length) (A : Option Addr) (c : Nat), vs[i] = .slice A M[i].length c ∧ M[i].length ≤ c ∧ RC w A M[i].length M[i] := by
  have h2 : i < M.length := by rw [← h.1]; exact hi
  have hr := h.2 i hi h2
  obtain ⟨A, c, hv⟩ := Kd.R_slice hr
  rw [hv] at hr
  exact ⟨h2, A, c, hv, (Kd.R_reads' hr).2.1, (Kd.R_reads' hr).2.2⟩
set_option maxRecDepth 100000 in
set_option maxHeartbeats 4000000 in
theorem lput_c (base : Nat) (A0 : Option Addr) (c0 : Nat) (vs : List Value) (M : List (List Int)) (A1 : Option Addr) (c1 : Nat) (own : List Int) (w : World) (ho : VO w base (.slice A0 vs.length c0) vs) (hi : VI w base vs M) (hown : RO w base (.slice A1 own.length c1) own)
    (hlen : ∀ r ∈ M, r.length = own.length) (hol : own.length ≤ 1000) (hml : vs.length ≤ 137438953472) (hb : base ≤ w.heap.size) :
    Calls Tryz.prog 52 #[.slice A0 vs.length c0, .slice A1 own.length c1] w (LputPost w base (putV M own)) := by
  have hML := hi.1
  have hR1 := (Kd.R_reads' hown)
  have hR0 := ho.reads
  have HO := Aside0.mk ho
  have HI := Aside0.mk hi
  have HOWN := Aside0.mk hown
  have HLEN := Aside0.mk hlen
  have HR0 := Aside0.mk hR0
  have HR1 := Aside0.mk hR1
  have hC0 := Aside0.mk hR0.2.1
  have HMLE := Aside0.mk hML
  have HBASE := Aside0.mk hb
  clear ho hi hown hlen hR0 hR1 hML hb
  go_enter Tryz.func52, Tryz.ntmps52
  go_wp2
  go_loopw [5] (fun s5 wr => ∃ m : Nat, m ≤ vs.length ∧ s5 = .int .i64 m ∧ Aside0 (backV M own M.length = backV M own m) ∧ Aside0 (Below w.heap.size w wr)) (fun s5 _ => (intOf s5).toNat)
  case atStart => exact ⟨vs.length, by omega, rfl, ⟨by rw [HMLE.out]⟩, ⟨Below.refl _ _⟩⟩
  case round =>
    obtain ⟨m, hm, rfl, hback, HB⟩ := hrel
    by_cases h0 : m = 0
    · have hgz : ¬ ((0 : Int) < (m : Int)) := by omega
      have hgn : ¬ (0 < m) := by omega
      have HM : Aside0 (backV M own M.length = m) := ⟨by rw [hback.out, h0]; rfl⟩
      clear h0 hback
      obtain ⟨D, hD⟩ : ∃ D, D = (if c0 = m then A0 else (A0 : Option Addr).map (·.add (m * 1))) := ⟨_, rfl⟩
      have hcutF : ∀ W : World, (Instr.slice 26 (.slice A0 vs.length c0) (some (.int .i64 (m : Int))) none none).run Tryz.prog W = .ok (.slice D (vs.length - m) (c0 - m)) W := by
        intro W
        obtain ⟨i0, hi0, hz0, hzs, hzb⟩ := info_parts infoV
        have := cut_from 26 22 .i64 Tryz.underlying26 hi0 1 hzs A0 vs.length c0 (m : Int) (by omega) (by omega) W
        rw [Int.toNat_natCast, ← hD] at this
        exact this
      have hcutT : ∀ W : World, (Instr.slice 26 (.slice A0 vs.length c0) none (some (.int .i64 (m : Int))) none).run Tryz.prog W = .ok (.slice A0 m c0) W := by
        intro W
        obtain ⟨i0, hi0, hz0, hzs, hzb⟩ := info_parts infoV
        have := cut_to 26 22 .i64 Tryz.underlying26 hi0 A0 vs.length c0 (m : Int) (by omega) (by omega) hC0.out W
        rw [Int.toNat_natCast] at this
        exact this
      have HRD : Aside0 (∀ W, Below w.heap.size w W → Kd.C kV W D (vs.length - m) (vs.drop m)) := ⟨fun W hW => by
        have := Kd.C_drop (Kd.C_below HR0.out.2.2 hW) hm hC0.out
        rw [List.length_drop] at this
        rw [hD]
        exact this⟩
      have HRT : Aside0 (∀ W, Below w.heap.size w W → Kd.C kV W A0 m (vs.take m)) := ⟨fun W hW => by
        have := Kd.C_take (Kd.C_below HR0.out.2.2 hW) hm
        rw [List.length_take, Nat.min_eq_left hm] at this
        exact this⟩
      have hd7 : ([Value.slice A1 own.length c1] ++ vs.drop m).length = vs.length - m + 1 := by simp <;> omega
      clear hD
      by_cases hmn : m < vs.length
      · obtain ⟨adm, hadm, hcm0⟩ := VC.cell HR0.out.2.2 hmn
        obtain rfl := hadm
        obtain ⟨h2m, Am, cm, hvm, hcm, hrm⟩ := HI.out.at_ hmn
        obtain ⟨rowm, hrw⟩ : ∃ rowm, M[m] = rowm := ⟨_, rfl⟩
        rw [hrw] at hvm hcm hrm
        rw [hvm] at hcm0
        have hcmr := pw_cell_below HB.out hcm0
        have HCM0 := Aside0.mk hcm0
        have HRM := Aside0.mk hrm
        have HCM := Aside0.mk hcm
        have hmnz : (m : Int) < (vs.length : Int) := by omega
        have hrml : rowm.length = own.length := HLEN.out _ (by rw [← hrw]; exact List.getElem_mem h2m)
        obtain ⟨k2, hk2⟩ := (ev_sameV (a := rowm) (b := own) (by omega)).rounds
        have HK2 := Aside0.mk hk2
        have hM2 : M[m]? = some rowm := by rw [List.getElem?_eq_getElem h2m, hrw]
        clear hcm0 hrm hcm hrw hvm hk2 hrml
        by_cases heq : rowm = own
        · have HPUT : Aside0 (putV M own = M) := ⟨by unfold putV; rw [HM.out, hM2, heq, if_pos rfl]⟩
          rw [decide_eq_true heq] at HK2
          clear heq hM2 h2m hcutF hcutT hd7
          go_wp2_with (first
            | (go_at_call 73; refine (QS.spec_l06Same.calls k2 Am cm rowm A1 c1 own true _ (Kd.C_below HRM.out HB.out) HCM.out (Kd.C_below HR1.out.2.2 HB.out) HR1.out.2.1 HK2.out).mono ?_; rintro e w2 ⟨rfl, hd⟩; have HB2 := Aside0.mk (below_in HB.out (drawn0_below hd)); clear hd))
          go_ret
          rw [HPUT.out]
          exact ⟨_, vs, rfl, Kd.R_below HO.out HB2.out, HI.out.below HB2.out, HB2.out⟩
        · have HPUT : Aside0 (putV M own = M.take m ++ own :: M.drop m) := ⟨by unfold putV; rw [HM.out, hM2, if_neg (fun h => heq (by injection h))]⟩
          rw [decide_eq_false heq] at HK2
          clear heq hM2 h2m
          go_wp2_with (first
            | (go_at_call 73; refine (QS.spec_l06Same.calls k2 Am cm rowm A1 c1 own false _ (Kd.C_below HRM.out HB.out) HCM.out (Kd.C_below HR1.out.2.2 HB.out) HR1.out.2.1 HK2.out).mono ?_; rintro e w2 ⟨rfl, hd⟩; have HB2 := Aside0.mk (below_in HB.out (drawn0_below hd)); clear hd; clear hcmr; have HO6 := Aside0.mk (VO.one w2 w.heap.size (.slice A1 own.length c1) rfl HB2.out.size); have HB6 : Aside0 (Below w.heap.size w (w2.alloc (.cells #[.slice A1 own.length c1] 22))) := ⟨HB2.out.alloc HB2.out.size _⟩)
            | ((with_reducible refine gate_builtin (b := .append) (xs := #[.tmp 37, .tmp 40]) rfl ?_); at_builtin; refine apVs w.heap.size rfl (.tmp 37) (.tmp 40) rfl _ [.slice A1 own.length c1] (vs.drop m) D (vs.length - m) (c0 - m) rfl rfl HO6.out (HRD.out _ HB6.out) HB6.out HB6.out.size (by simp <;> omega) ?_; intro v1 w7 ho hb hg hat; clear hat hg; have HV1 := Aside0.mk ho; have HB7 := Aside0.mk hb; clear ho hb; obtain ⟨A7, c7, rfl⟩ := HV1.out.slice; rw [hd7] at HV1 ⊢; have HO8 := Aside0.mk (VO.made w7 w.heap.size 0 #[] HB7.out.size (Nat.zero_le _) rfl); have HB8 : Aside0 (Below w.heap.size w (w7.alloc (.cells #[] 22))) := ⟨HB7.out.alloc HB7.out.size _⟩; have HV8 := Aside0.mk (Kd.R_alloc (Kd.R_mono (Kd.R_bound HV1.out) (fun k hk => hk.2.2.1)) (.cells #[] 22)))
            | ((with_reducible refine gate_builtin (b := .append) (xs := #[.tmp 42, .tmp 45]) rfl ?_); at_builtin; refine apVs w.heap.size rfl (.tmp 42) (.tmp 45) rfl _ _ (vs.take m) (some adm) m c0 rfl rfl HO8.out (HRT.out _ HB8.out) HB8.out HB8.out.size (by simp <;> omega) ?_; intro v9 w9 ho hb hg hat; have HV9 := Aside0.mk (Kd.R_grown HV8.out hg (fun k hk e => by injection e with e; exact absurd e (Nat.ne_of_lt hk))); have hrv := (Kd.R_reads' HV9.out).2.2; rw [hd7] at hrv; have HRV := Aside0.mk hrv; clear hat hg hrv; have HO9 := Aside0.mk ho; have HB9 := Aside0.mk hb; clear ho hb)
            | ((with_reducible refine gate_builtin (b := .append) (xs := #[.tmp 46, .tmp 47]) rfl ?_); at_builtin; refine apVs w.heap.size rfl (.tmp 46) (.tmp 47) rfl _ _ ([.slice A1 own.length c1] ++ vs.drop m) A7 _ _ rfl rfl HO9.out HRV.out HB9.out HB9.out.size (by simp <;> omega) ?_; intro v10 w10 ho hb hg hat; clear hat hg; rw [List.nil_append] at ho; have HO10 := Aside0.mk ho; have HB10 := Aside0.mk hb; clear ho hb))
          go_ret
          rw [HPUT.out]
          exact ⟨_, _, rfl, Kd.R_lower HO10.out HBASE.out, ((HI.out.below HB10.out).take m).append ((VI.one (Kd.R_below HOWN.out HB10.out)).append ((HI.out.below HB10.out).drop m)), HB10.out⟩
      · have hmnz : ¬ (m : Int) < (vs.length : Int) := by omega
        have HPUT : Aside0 (putV M own = M.take m ++ own :: M.drop m) := ⟨by
          unfold putV
          rw [HM.out, if_neg]
          rw [List.getElem?_eq_none (by have := HMLE.out; omega)]
          exact fun h => by cases h⟩
        have HO6 := Aside0.mk (VO.one wr w.heap.size (.slice A1 own.length c1) rfl HB.out.size)
        have HB6 : Aside0 (Below w.heap.size w (wr.alloc (.cells #[.slice A1 own.length c1] 22))) := ⟨HB.out.alloc HB.out.size _⟩
        go_wp2_with (first
          | ((with_reducible refine gate_builtin (b := .append) (xs := #[.tmp 37, .tmp 40]) rfl ?_); at_builtin; refine apVs w.heap.size rfl (.tmp 37) (.tmp 40) rfl _ [.slice A1 own.length c1] (vs.drop m) D (vs.length - m) (c0 - m) rfl rfl HO6.out (HRD.out _ HB6.out) HB6.out HB6.out.size (by simp <;> omega) ?_; intro v1 w7 ho hb hg hat; clear hat hg; have HV1 := Aside0.mk ho; have HB7 := Aside0.mk hb; clear ho hb; obtain ⟨A7, c7, rfl⟩ := HV1.out.slice; rw [hd7] at HV1 ⊢; have HO8 := Aside0.mk (VO.made w7 w.heap.size 0 #[] HB7.out.size (Nat.zero_le _) rfl); have HB8 : Aside0 (Below w.heap.size w (w7.alloc (.cells #[] 22))) := ⟨HB7.out.alloc HB7.out.size _⟩; have HV8 := Aside0.mk (Kd.R_alloc (Kd.R_mono (Kd.R_bound HV1.out) (fun k hk => hk.2.2.1)) (.cells #[] 22)))
            | ((with_reducible refine gate_builtin (b := .append) (xs := #[.tmp 42, .tmp 45]) rfl ?_); at_builtin; refine apVs w.heap.size rfl (.tmp 42) (.tmp 45) rfl _ _ (vs.take m) A0 m c0 rfl rfl HO8.out (HRT.out _ HB8.out) HB8.out HB8.out.size (by simp <;> omega) ?_; intro v9 w9 ho hb hg hat; have HV9 := Aside0.mk (Kd.R_grown HV8.out hg (fun k hk e => by injection e with e; exact absurd e (Nat.ne_of_lt hk))); have hrv := (Kd.R_reads' HV9.out).2.2; rw [hd7] at hrv; have HRV := Aside0.mk hrv; clear hat hg hrv; have HO9 := Aside0.mk ho; have HB9 := Aside0.mk hb; clear ho hb)
            | ((with_reducible refine gate_builtin (b := .append) (xs := #[.tmp 46, .tmp 47]) rfl ?_); at_builtin; refine apVs w.heap.size rfl (.tmp 46) (.tmp 47) rfl _ _ ([.slice A1 own.length c1] ++ vs.drop m) A7 _ _ rfl rfl HO9.out HRV.out HB9.out HB9.out.size (by simp <;> omega) ?_; intro v10 w10 ho hb hg hat; clear hat hg; rw [List.nil_append] at ho; have HO10 := Aside0.mk ho; have HB10 := Aside0.mk hb; clear ho hb))
        go_ret
        rw [HPUT.out]
        exact ⟨_, _, rfl, Kd.R_lower HO10.out HBASE.out, ((HI.out.below HB10.out).take m).append ((VI.one (Kd.R_below HOWN.out HB10.out)).append ((HI.out.below HB10.out).drop m)), HB10.out⟩
    · have hgz : (0 : Int) < (m : Int) := by omega
      have hgn : 0 < m := by omega
      obtain ⟨m', hm'⟩ : ∃ m', m = m' + 1 := ⟨m - 1, by omega⟩
      have hm1 : m' < vs.length := by omega
      obtain ⟨ad, rfl, hcell⟩ := VC.cell (Kd.C_below HR0.out.2.2 HB.out) hm1
      obtain ⟨h2, A', c', hv, hc', hrow⟩ := HI.out.at_ hm1
      obtain ⟨row, hrw⟩ : ∃ row, M[m'] = row := ⟨_, rfl⟩
      rw [hrw] at hv hc' hrow
      rw [hv] at hcell
      have hback' := hback.out
      have hrl : row.length = own.length := HLEN.out _ (by rw [← hrw]; exact List.getElem_mem h2)
      rw [hm', backV, List.getD_eq_getElem?_getD, List.getElem?_eq_getElem h2, Option.getD_some, hrw, ← hm'] at hback'
      obtain ⟨k, hk⟩ := (ev_lessV (a := row) (b := own) (by omega) (by omega)).rounds
      have HK := Aside0.mk hk
      have HBK := Aside0.mk hback'
      have HROW := Aside0.mk hrow
      have HC' := Aside0.mk hc'
      have HM' := Aside0.mk hm'
      have hmlt : (m' : Int) < (vs.length : Int) := by omega
      have hwm : wrap64 ((m : Int) - 1) = (m' : Int) := by unfold wrap64; omega
      have hwi : IntKind.i64.wrap ((m : Int) - 1) = (m' : Int) := by rw [IntKind.wrap_i64]; omega
      clear hk hback hback' hrow hc' hm' hrw hv h2 hrl
      cases hls : lessV row own with
      | true =>
        rw [hls] at HK
        have HM : Aside0 (backV M own M.length = m) := ⟨by have := HBK.out; rw [hls, if_pos rfl] at this; exact this⟩
        clear hls HBK
        obtain ⟨D, hD⟩ : ∃ D, D = (if c0 = m then (some ad) else ((some ad) : Option Addr).map (·.add (m * 1))) := ⟨_, rfl⟩
        have hcutF : ∀ W : World, (Instr.slice 26 (.slice (some ad) vs.length c0) (some (.int .i64 (m : Int))) none none).run Tryz.prog W = .ok (.slice D (vs.length - m) (c0 - m)) W := by
          intro W
          obtain ⟨i0, hi0, hz0, hzs, hzb⟩ := info_parts infoV
          have := cut_from 26 22 .i64 Tryz.underlying26 hi0 1 hzs (some ad) vs.length c0 (m : Int) (by omega) (by omega) W
          rw [Int.toNat_natCast, ← hD] at this
          exact this
        have hcutT : ∀ W : World, (Instr.slice 26 (.slice (some ad) vs.length c0) none (some (.int .i64 (m : Int))) none).run Tryz.prog W = .ok (.slice (some ad) m c0) W := by
          intro W
          obtain ⟨i0, hi0, hz0, hzs, hzb⟩ := info_parts infoV
          have := cut_to 26 22 .i64 Tryz.underlying26 hi0 (some ad) vs.length c0 (m : Int) (by omega) (by omega) hC0.out W
          rw [Int.toNat_natCast] at this
          exact this
        have HRD : Aside0 (∀ W, Below w.heap.size w W → Kd.C kV W D (vs.length - m) (vs.drop m)) := ⟨fun W hW => by
          have := Kd.C_drop (Kd.C_below HR0.out.2.2 hW) hm hC0.out
          rw [List.length_drop] at this
          rw [hD]
          exact this⟩
        have HRT : Aside0 (∀ W, Below w.heap.size w W → Kd.C kV W (some ad) m (vs.take m)) := ⟨fun W hW => by
          have := Kd.C_take (Kd.C_below HR0.out.2.2 hW) hm
          rw [List.length_take, Nat.min_eq_left hm] at this
          exact this⟩
        have hd7 : ([Value.slice A1 own.length c1] ++ vs.drop m).length = vs.length - m + 1 := by simp <;> omega
        clear hD
        by_cases hmn : m < vs.length
        · obtain ⟨adm, hadm, hcm0⟩ := VC.cell HR0.out.2.2 hmn
          obtain rfl : ad = adm := by injection hadm
          obtain ⟨h2m, Am, cm, hvm, hcm, hrm⟩ := HI.out.at_ hmn
          obtain ⟨rowm, hrw⟩ : ∃ rowm, M[m] = rowm := ⟨_, rfl⟩
          rw [hrw] at hvm hcm hrm
          rw [hvm] at hcm0
          have hcmr := pw_cell_below HB.out hcm0
          have HCM0 := Aside0.mk hcm0
          have HRM := Aside0.mk hrm
          have HCM := Aside0.mk hcm
          have hmnz : (m : Int) < (vs.length : Int) := by omega
          have hrml : rowm.length = own.length := HLEN.out _ (by rw [← hrw]; exact List.getElem_mem h2m)
          obtain ⟨k2, hk2⟩ := (ev_sameV (a := rowm) (b := own) (by omega)).rounds
          have HK2 := Aside0.mk hk2
          have hM2 : M[m]? = some rowm := by rw [List.getElem?_eq_getElem h2m, hrw]
          clear hcm0 hrm hcm hrw hvm hk2 hrml
          by_cases heq : rowm = own
          · have HPUT : Aside0 (putV M own = M) := ⟨by unfold putV; rw [HM.out, hM2, heq, if_pos rfl]⟩
            rw [decide_eq_true heq] at HK2
            clear heq hM2 h2m hcutF hcutT hd7
            go_wp2_with (first
              | (go_at_call 72; refine (QS.spec_l08Less.calls k A' c' row A1 c1 own true _ (Kd.C_below HROW.out HB.out) HC'.out (Kd.C_below HR1.out.2.2 HB.out) HR1.out.2.1 HK.out).mono ?_; rintro e w1 ⟨rfl, hd⟩; have HB1 := Aside0.mk (below_in HB.out (drawn0_below hd)); clear hd; clear hcell HB; have HB := HB1; clear HB1; clear hcmr; have hcmr := pw_cell_below HB.out HCM0.out)
              | (go_at_call 73; refine (QS.spec_l06Same.calls k2 Am cm rowm A1 c1 own true _ (Kd.C_below HRM.out HB.out) HCM.out (Kd.C_below HR1.out.2.2 HB.out) HR1.out.2.1 HK2.out).mono ?_; rintro e w2 ⟨rfl, hd⟩; have HB2 := Aside0.mk (below_in HB.out (drawn0_below hd)); clear hd))
            go_ret
            rw [HPUT.out]
            exact ⟨_, vs, rfl, Kd.R_below HO.out HB2.out, HI.out.below HB2.out, HB2.out⟩
          · have HPUT : Aside0 (putV M own = M.take m ++ own :: M.drop m) := ⟨by unfold putV; rw [HM.out, hM2, if_neg (fun h => heq (by injection h))]⟩
            rw [decide_eq_false heq] at HK2
            clear heq hM2 h2m
            go_wp2_with (first
              | (go_at_call 72; refine (QS.spec_l08Less.calls k A' c' row A1 c1 own true _ (Kd.C_below HROW.out HB.out) HC'.out (Kd.C_below HR1.out.2.2 HB.out) HR1.out.2.1 HK.out).mono ?_; rintro e w1 ⟨rfl, hd⟩; have HB1 := Aside0.mk (below_in HB.out (drawn0_below hd)); clear hd; clear hcell HB; have HB := HB1; clear HB1; clear hcmr; have hcmr := pw_cell_below HB.out HCM0.out)
              | (go_at_call 73; refine (QS.spec_l06Same.calls k2 Am cm rowm A1 c1 own false _ (Kd.C_below HRM.out HB.out) HCM.out (Kd.C_below HR1.out.2.2 HB.out) HR1.out.2.1 HK2.out).mono ?_; rintro e w2 ⟨rfl, hd⟩; have HB2 := Aside0.mk (below_in HB.out (drawn0_below hd)); clear hd; clear hcmr; have HO6 := Aside0.mk (VO.one w2 w.heap.size (.slice A1 own.length c1) rfl HB2.out.size); have HB6 : Aside0 (Below w.heap.size w (w2.alloc (.cells #[.slice A1 own.length c1] 22))) := ⟨HB2.out.alloc HB2.out.size _⟩)
              | ((with_reducible refine gate_builtin (b := .append) (xs := #[.tmp 37, .tmp 40]) rfl ?_); at_builtin; refine apVs w.heap.size rfl (.tmp 37) (.tmp 40) rfl _ [.slice A1 own.length c1] (vs.drop m) D (vs.length - m) (c0 - m) rfl rfl HO6.out (HRD.out _ HB6.out) HB6.out HB6.out.size (by simp <;> omega) ?_; intro v1 w7 ho hb hg hat; clear hat hg; have HV1 := Aside0.mk ho; have HB7 := Aside0.mk hb; clear ho hb; obtain ⟨A7, c7, rfl⟩ := HV1.out.slice; rw [hd7] at HV1 ⊢; have HO8 := Aside0.mk (VO.made w7 w.heap.size 0 #[] HB7.out.size (Nat.zero_le _) rfl); have HB8 : Aside0 (Below w.heap.size w (w7.alloc (.cells #[] 22))) := ⟨HB7.out.alloc HB7.out.size _⟩; have HV8 := Aside0.mk (Kd.R_alloc (Kd.R_mono (Kd.R_bound HV1.out) (fun k hk => hk.2.2.1)) (.cells #[] 22)))
              | ((with_reducible refine gate_builtin (b := .append) (xs := #[.tmp 42, .tmp 45]) rfl ?_); at_builtin; refine apVs w.heap.size rfl (.tmp 42) (.tmp 45) rfl _ _ (vs.take m) (some ad) m c0 rfl rfl HO8.out (HRT.out _ HB8.out) HB8.out HB8.out.size (by simp <;> omega) ?_; intro v9 w9 ho hb hg hat; have HV9 := Aside0.mk (Kd.R_grown HV8.out hg (fun k hk e => by injection e with e; exact absurd e (Nat.ne_of_lt hk))); have hrv := (Kd.R_reads' HV9.out).2.2; rw [hd7] at hrv; have HRV := Aside0.mk hrv; clear hat hg hrv; have HO9 := Aside0.mk ho; have HB9 := Aside0.mk hb; clear ho hb)
              | ((with_reducible refine gate_builtin (b := .append) (xs := #[.tmp 46, .tmp 47]) rfl ?_); at_builtin; refine apVs w.heap.size rfl (.tmp 46) (.tmp 47) rfl _ _ ([.slice A1 own.length c1] ++ vs.drop m) A7 _ _ rfl rfl HO9.out HRV.out HB9.out HB9.out.size (by simp <;> omega) ?_; intro v10 w10 ho hb hg hat; clear hat hg; rw [List.nil_append] at ho; have HO10 := Aside0.mk ho; have HB10 := Aside0.mk hb; clear ho hb))
            go_ret
            rw [HPUT.out]
            exact ⟨_, _, rfl, Kd.R_lower HO10.out HBASE.out, ((HI.out.below HB10.out).take m).append ((VI.one (Kd.R_below HOWN.out HB10.out)).append ((HI.out.below HB10.out).drop m)), HB10.out⟩
        · have hmnz : ¬ (m : Int) < (vs.length : Int) := by omega
          have HPUT : Aside0 (putV M own = M.take m ++ own :: M.drop m) := ⟨by
            unfold putV
            rw [HM.out, if_neg]
            rw [List.getElem?_eq_none (by have := HMLE.out; omega)]
            exact fun h => by cases h⟩
          go_wp2_with (first
            | (go_at_call 72; refine (QS.spec_l08Less.calls k A' c' row A1 c1 own true _ (Kd.C_below HROW.out HB.out) HC'.out (Kd.C_below HR1.out.2.2 HB.out) HR1.out.2.1 HK.out).mono ?_; rintro e w1 ⟨rfl, hd⟩; have HB1 := Aside0.mk (below_in HB.out (drawn0_below hd)); clear hd; clear hcell HB; have HB := HB1; clear HB1; have HO6 := Aside0.mk (VO.one w1 w.heap.size (.slice A1 own.length c1) rfl HB.out.size); have HB6 : Aside0 (Below w.heap.size w (w1.alloc (.cells #[.slice A1 own.length c1] 22))) := ⟨HB.out.alloc HB.out.size _⟩)
              | ((with_reducible refine gate_builtin (b := .append) (xs := #[.tmp 37, .tmp 40]) rfl ?_); at_builtin; refine apVs w.heap.size rfl (.tmp 37) (.tmp 40) rfl _ [.slice A1 own.length c1] (vs.drop m) D (vs.length - m) (c0 - m) rfl rfl HO6.out (HRD.out _ HB6.out) HB6.out HB6.out.size (by simp <;> omega) ?_; intro v1 w7 ho hb hg hat; clear hat hg; have HV1 := Aside0.mk ho; have HB7 := Aside0.mk hb; clear ho hb; obtain ⟨A7, c7, rfl⟩ := HV1.out.slice; rw [hd7] at HV1 ⊢; have HO8 := Aside0.mk (VO.made w7 w.heap.size 0 #[] HB7.out.size (Nat.zero_le _) rfl); have HB8 : Aside0 (Below w.heap.size w (w7.alloc (.cells #[] 22))) := ⟨HB7.out.alloc HB7.out.size _⟩; have HV8 := Aside0.mk (Kd.R_alloc (Kd.R_mono (Kd.R_bound HV1.out) (fun k hk => hk.2.2.1)) (.cells #[] 22)))
              | ((with_reducible refine gate_builtin (b := .append) (xs := #[.tmp 42, .tmp 45]) rfl ?_); at_builtin; refine apVs w.heap.size rfl (.tmp 42) (.tmp 45) rfl _ _ (vs.take m) (some ad) m c0 rfl rfl HO8.out (HRT.out _ HB8.out) HB8.out HB8.out.size (by simp <;> omega) ?_; intro v9 w9 ho hb hg hat; have HV9 := Aside0.mk (Kd.R_grown HV8.out hg (fun k hk e => by injection e with e; exact absurd e (Nat.ne_of_lt hk))); have hrv := (Kd.R_reads' HV9.out).2.2; rw [hd7] at hrv; have HRV := Aside0.mk hrv; clear hat hg hrv; have HO9 := Aside0.mk ho; have HB9 := Aside0.mk hb; clear ho hb)
              | ((with_reducible refine gate_builtin (b := .append) (xs := #[.tmp 46, .tmp 47]) rfl ?_); at_builtin; refine apVs w.heap.size rfl (.tmp 46) (.tmp 47) rfl _ _ ([.slice A1 own.length c1] ++ vs.drop m) A7 _ _ rfl rfl HO9.out HRV.out HB9.out HB9.out.size (by simp <;> omega) ?_; intro v10 w10 ho hb hg hat; clear hat hg; rw [List.nil_append] at ho; have HO10 := Aside0.mk ho; have HB10 := Aside0.mk hb; clear ho hb))
          go_ret
          rw [HPUT.out]
          exact ⟨_, _, rfl, Kd.R_lower HO10.out HBASE.out, ((HI.out.below HB10.out).take m).append ((VI.one (Kd.R_below HOWN.out HB10.out)).append ((HI.out.below HB10.out).drop m)), HB10.out⟩
      | false =>
        rw [hls] at HK
        have HBN : Aside0 (backV M own M.length = backV M own m') := ⟨by have := HBK.out; rw [hls, if_neg Bool.false_ne_true] at this; exact this⟩
        clear hls HBK
        go_wp2_with (go_at_call 72; refine (QS.spec_l08Less.calls k A' c' row A1 c1 own false _ (Kd.C_below HROW.out HB.out) HC'.out (Kd.C_below HR1.out.2.2 HB.out) HR1.out.2.1 HK.out).mono ?_; rintro e w1 ⟨rfl, hd⟩; have HB1 := Aside0.mk (below_in HB.out (drawn0_below hd)); clear hd; clear hcell HB)
        go_roundw
        case measure => have := HM'.out; simp only [intOf, hwm]; omega
        case rel => exact ⟨m', by have := HM'.out; omega, by first | rfl | rw [hwm] | rw [hwi] | go_num, HBN, HB1⟩
end Go.Proofs.YtdlmlmaoacmdiaaGreat.Im
namespace Go.Proofs.YtdlmlmaoacmdiaaGreat.QS
open Cw Kp Ext Go.RowKit YtdlmlmaoacmdiaaGreatW.PrintWords YtdlmlmaoacmdiaaGreatW.PrintLast YtdlmlmaoacmdiaaGreatW.PrintMore
attribute [local go_sem] max2_int min2_int max_two min_two max_three min_three max_four min_four   -- for this text's walks alone
def spec_l02Dim.f (k : Nat) (a0 : Int) : Option (Int) := (spec_l01Ones.f k a0).bind fun t365 => (some (wrap64 (t365 - 1)))
set_option maxHeartbeats 8000000 in
set_option maxRecDepth 100000 in
theorem spec_l02Dim.calls (k : Nat) (a0 : Int) (r : Int) (w : World) (h : spec_l02Dim.f k a0 = some r) :
  Calls Tryz.prog 74 #[.int .i64 a0] w fun e w' => e = .returned (.int .i64 r) ∧ Drawn0 w w' := by
 have H : ((spec_l01Ones.f k a0).bind fun t365 => (some (wrap64 (t365 - 1)))) = some r := h
 clear h
 replace H := Option.bind_eq_some_iff.mp H
 obtain ⟨t365, A20, H⟩ := H
 try dsimp only at H
 have A2 := Aside0.mk A20
 clear A20
 obtain rfl := Option.some.inj H
 go_enter Tryz.func74, Tryz.ntmps74
 go_wp2_with (first | ((with_reducible refine gate_callee (f := 69) rfl ?_); refine cl_ (some 4) Tryz.func69 #[.int .i64 a0] ?_; (with_reducible refine (spec_l01Ones.calls k a0 t365 _ A2.out).mono ?_); rintro e w' ⟨rfl, ⟨nd, rfl⟩⟩; refine ⟨_, rfl, ?_⟩))
 go_ret
 exact ⟨by first | rfl | (simp; done) | (simp [*]; done), by repeat (first | exact Drawn0.refl _ | apply Drawn0.step)⟩
mutual
def spec_l02Numbers.l0 : Nat → List (S62) → Int → Int → Int → List Int → Option (List Int)
 | 0, _, _, _, _, _ => none
 | k + 1, x1, x5, x6, x379000, x379001 => if x6 < (x379001.length : Int) then (if 0 ≤ x6 then ((spec_l02Dim.f k (rd x379001 x6)).bind fun t380 => (spec_l02Numbers.l0 k x1 (mx x5 t380) (wrap64 (x6 + 1)) x379000 x379001)) else (none)) else (if 0 ≤ (wrap64 (x5 + 1)) then (if (wrap64 (x5 + 1) : Int).toNat ≤ 35184372088832 then ((spec_l02Critical.f k x379000 x379001 x1).bind fun t384 => (spec_l02Numbers.l1 k (List.replicate (wrap64 (x5 + 1) : Int).toNat 0) t384 0)) else (none)) else (none))
def spec_l02Numbers.l1 : Nat → List Int → List Int → Int → Option (List Int)
 | 0, _, _, _ => none
 | k + 1, x7, x8, x9 => if x9 < (x8.length : Int) then (if 0 ≤ x9 then ((spec_l02Dim.f k (rd x8 x9)).bind fun t388 => (if 0 ≤ t388 then (if t388 < (x7.length : Int) then (spec_l02Numbers.l1 k (x7.set (t388 : Int).toNat (wrap64 ((rd x7 t388) + 1))) x8 (wrap64 (x9 + 1))) else (none)) else (none))) else (none)) else (some x7)
end
def spec_l02Numbers.f (k : Nat) (a0_0 : Int) (l0_1 : List Int) (l1 : List (S62)) : Option (List Int) := spec_l02Numbers.l0 k l1 (-1) 0 a0_0 l0_1
def spec_l02Numbers.T6 : Bool × List (List Nat × List Nat) := (true, [([], []), ([0], [0]), ([1, 1], [1]), ([], []), ([], []), ([3, 4], [3, 4]), ([2, 5, 0, 1, 2], [2]), ([5, 6, 0, 1, 2, 3, 4, 5, 6], [5])])
def spec_l02Numbers.B6 : List Nat := [0, 1, 3, 0, 0, 24, 63, 127]
theorem spec_l02Numbers.tab6 : rtab .any (opsOf Tryz.f53 6) = spec_l02Numbers.T6 := by kernel_rfl
theorem spec_l02Numbers.bits6 : waitsOk spec_l02Numbers.T6.2 spec_l02Numbers.B6 = true := by kernel_rfl
set_option maxHeartbeats 8000000 in
set_option maxRecDepth 100000 in
theorem spec_l02Numbers.calls (k : Nat) (a0_0 : Int) (A0_1 : Option Addr) (c0_1 : Nat) (l0_1 : List Int) (A1 : Option Addr) (c1 : Nat) (l1 : List (S62)) (r : List Int) (w : World) (hr0_1 : Kd.C (Kd.int .i64) w A0_1 l0_1.length l0_1) (hc0_1 : l0_1.length ≤ c0_1) (hr1 : Kd.C k62 w A1 l1.length l1) (hc1 : l1.length ≤ c1) (h : spec_l02Numbers.f k a0_0 l0_1 l1 = some r) :
  Calls Tryz.prog 53 #[.agg #[.int .i64 a0_0, .slice A0_1 l0_1.length c0_1], .slice A1 l1.length c1] w fun e w' => ∃ v0_ : Value, e = .returned (v0_) ∧ Kd.R (Kd.int .i64) 2 w' w.heap.size (fun _ => True) v0_ r ∧ Below w.heap.size w w' := by
 have hu29 := Tryz.underlying29
 have HR0_1 := Aside0.mk hr0_1
 have HC0_1 := Aside0.mk hc0_1
 clear hr0_1 hc0_1
 have HR1 := Aside0.mk hr1
 have HC1 := Aside0.mk hc1
 clear hr1 hc1
 have HB := Aside0.mk (Below.refl w.heap.size w)
 have H : (spec_l02Numbers.l0 k l1 (-1) 0 a0_0 l0_1) = some r := h
 clear h
 have H' := Aside0.mk H
 clear H
 go_enter Tryz.func53, Tryz.ntmps53
 go_wp2_with (first | ((with_reducible refine gate_dst (N := 2) rfl ?_); refine box_event ?hg (N := 2) ?hd (cs := #[.int .i64 a0_0, .slice A0_1 l0_1.length c0_1]) (t := 29) ?hr ?_; (case hd => rfl); (case hg => rfl); (case hr => first | (go_simp; done) | (go_simp; rfl)); intro gb378 hg w3 hbox hb; have BK378 := Aside0.mk (hbox); have GW378 := gH HB hg; have GE378 := gH HB hg; replace HB := sH HB hb; clear hb hbox hg))
 go_loopg [5, 6] k (fun kq v5 v6 w' => ∃ (x5_1 : Int) (x6_1 : Int), v5 = .int .i64 x5_1 ∧ v6 = .int .i64 x6_1 ∧ Aside0 (spec_l02Numbers.l0 kq l1 x5_1 x6_1 a0_0 l0_1 = some r) ∧ Aside0 (kq ≤ k) ∧ Aside0 (w'.heap[gb378]? = some (.cells #[.int .i64 a0_0, (.slice A0_1 l0_1.length c0_1)] 29 (0, 0))) ∧ Aside0 (Below w.heap.size w w'))
 case atStart => exact ⟨((-1)), (0), (by first | rfl | (simp; done) | (simp [*]; done)), (by first | rfl | (simp; done) | (simp [*]; done)), H', ⟨Nat.le_refl _⟩, ⟨pB BK378⟩, ⟨pH HB⟩⟩
 case round =>
  clear H'
  try clear c1
  try clear p2
  obtain ⟨x5_1, x6_1, rfl, rfl, HA, HK1, BK378, HB⟩ := hrel
  cases gk with
  | zero => exact absurd HA.out (by simp [spec_l02Numbers.l0])
  | succ k1 =>
   have H := HA.out
   clear HA
   simp only [spec_l02Numbers.l0] at H
   by_cases c4 : x6_1 < (l0_1.length : Int)
   ·rw [if_pos c4] at H
    have c4b0 : decide (x6_1 < (l0_1.length : Int)) = true := decide_eq_true c4
    clear c4
    by_cases c5 : 0 ≤ x6_1
    ·rw [if_pos c5] at H
     have c5b0 : decide (0 ≤ x6_1) = true := decide_eq_true c5
     clear c5
     replace H := Option.bind_eq_some_iff.mp H
     obtain ⟨t380, A60, H⟩ := H
     try dsimp only at H
     have A6 := Aside0.mk A60
     clear A60
     obtain ⟨ji7, hji7⟩ : ∃ j_ : Int, (mx x5_1 t380) = j_ := ⟨_, rfl⟩
     replace H : (spec_l02Numbers.l0 k1 l1 ji7 (wrap64 (x6_1 + 1)) a0_0 l0_1) = some r := by first | (rw [hji7] at H; exact H) | (simp only [hji7] at H ⊢; exact H)
     (try rw [hji7] at A6)
     have hji7_ : (if x5_1 < t380 then t380 else x5_1) = ji7 := hji7
     have H' := Aside0.mk H
     clear H
     have hcz8_0 : wr.cell? ⟨gb378, 0, none⟩ = some (.int .i64 a0_0) := cB BK378 0
     have hcz8_1 : wr.cell? ⟨gb378, 1, none⟩ = some (.slice A0_1 l0_1.length c0_1) := cB BK378 1
     have hfz8_0 := zB BK378 0
     have hfz8_1 := zB BK378 1
     have p379 : 0 ≤ (x6_1 : Int) := of_decide_eq_true (by first | (with_reducible assumption) | assumption)
     have q379 : x6_1 < (l0_1.length : Int) := of_decide_eq_true (by first | (with_reducible assumption) | assumption)
     obtain ⟨ad379, e379, hx379_0⟩ := Kd.at_int HR0_1.out x6_1 p379 q379
     cases e379
     replace hx379_0 := cH HB hx379_0
     replace p379 := eq_true p379
     replace q379 := eq_true q379
     go_wp2_with (first | ((with_reducible refine gate_callee (f := 74) rfl ?_); refine cl_ (some 23) Tryz.func74 #[.int .i64 (rd l0_1 x6_1)] ?_; (with_reducible refine (spec_l02Dim.calls k1 (rd l0_1 x6_1) t380 _ A6.out).mono ?_); rintro e w' ⟨rfl, ⟨nd, rfl⟩⟩; refine ⟨_, rfl, ?_⟩))
     go_roundg k1
     case measure => have := HK1.out; omega
     case rel => exact ⟨(ji7), (wrap64 (x6_1 + 1)), (by first | rfl | (simp; done) | (simp only [← hji7] <;> (first | rfl | simp)) | (simp [*]; done)), (by first | rfl | (simp; done) | (simp [*]; done)), H', ⟨by have := HK1.out; omega⟩, ⟨pB BK378⟩, ⟨pH HB⟩⟩
    ·rw [if_neg c5] at H
     exact absurd H (by simp)
   ·rw [if_neg c4] at H
    have c4b0 : decide (x6_1 < (l0_1.length : Int)) = false := decide_eq_false c4
    clear c4
    obtain ⟨ji9, hji9⟩ : ∃ j_ : Int, (wrap64 (x5_1 + 1)) = j_ := ⟨_, rfl⟩
    replace H : (if 0 ≤ (ji9) then (if (ji9 : Int).toNat ≤ 35184372088832 then ((spec_l02Critical.f k1 a0_0 l0_1 l1).bind fun t384 => (spec_l02Numbers.l1 k1 (List.replicate (ji9 : Int).toNat 0) t384 0)) else (none)) else (none)) = some r := by first | (rw [hji9] at H; exact H) | (simp only [hji9] at H ⊢; exact H)
    have hji9w : (IntKind.i64.wrap (x5_1 + 1)) = ji9 := (i64_w _).trans hji9
    by_cases c10 : 0 ≤ (ji9)
    ·rw [if_pos c10] at H
     have c10b0 := eq_true c10
     have c10b1 : decide (0 ≤ (ji9)) = true := decide_eq_true c10
     clear c10
     by_cases c11 : (ji9 : Int).toNat ≤ 35184372088832
     ·rw [if_pos c11] at H
      have c11b0 := eq_true c11
      have c11b1 : decide ((ji9 : Int).toNat ≤ 35184372088832) = true := decide_eq_true c11
      clear c11
      obtain ⟨y381, hy381⟩ : ∃ y_ : List Int, y_ = (List.replicate (ji9 : Int).toNat 0) := ⟨_, rfl⟩
      replace H : ((spec_l02Critical.f k1 a0_0 l0_1 l1).bind fun t384 => (spec_l02Numbers.l1 k1 y381 t384 0)) = some r := by first | (rw [hy381]; with_reducible exact H) | (have H2_ := (Option.bind_some _ _).symm.trans H; rw [hy381]; with_reducible exact H2_) | (have H2_ := (Option.bind_some _ _).symm.trans H; with_reducible exact H2_) | with_reducible exact H | (rw [hy381]; exact H) | exact H
      have Ny381 := Aside0.mk hy381
      clear hy381
      replace H := Option.bind_eq_some_iff.mp H
      obtain ⟨t384, A120, H⟩ := H
      try dsimp only at H
      have A12 := Aside0.mk A120
      clear A120
      have H' := Aside0.mk H
      clear H
      have hcz13_0 : wr.cell? ⟨gb378, 0, none⟩ = some (.int .i64 a0_0) := cB BK378 0
      have hcz13_1 : wr.cell? ⟨gb378, 1, none⟩ = some (.slice A0_1 l0_1.length c0_1) := cB BK378 1
      have hfz13_0 := zB BK378 0
      have hfz13_1 := zB BK378 1
      try go_wp2
      replace BK378 := dB BK378
      replace HB := dH HB
      refine st_ 8 (S := fun w' => w'.cell? ⟨gb378, 0, none⟩ = some (.int .i64 a0_0) ∧ w'.cell? ⟨gb378, 1, none⟩ = some (.slice A0_1 l0_1.length c0_1)) (ds := []) ⟨cB BK378 0, cB BK378 1⟩ (fun hHeld => ?_); refine with_tabW spec_l02Numbers.tab6 spec_l02Numbers.bits6 (fun HT_ HW_ => ?_)
      generalize wr.drew = w14 at BK378 HB hHeld ⊢
      refine pu_ 0 25 1 HT_ ?_
      refine pu_ 1 26 3 HT_ ?_
      refine pu_ 4 29 19 HT_ ?_
      refine tk_ 3 28 27 HT_ HW_ hHeld ?_
      refine join_ (σ := Value × Value) 2 (mB 8 63) (fun s_ => [(27, s_.1), (30, s_.2)]) (fun s_ w' => (w'.cell? ⟨gb378, 0, none⟩ = some (.int .i64 a0_0) ∧ w'.cell? ⟨gb378, 1, none⟩ = some (.slice A0_1 l0_1.length c0_1)) ∧ (Kd.R (Kd.int .i64) 2 w' w.heap.size (fun k_ => some k_ ≠ (s_.2 : Value).ownBlock) s_.1 y381) ∧ (Kd.R (Kd.int .i64) 2 w' w.heap.size (fun k_ => some k_ ≠ (s_.1 : Value).ownBlock) s_.2 t384) ∧ (w'.heap[gb378]? = some (.cells #[.int .i64 a0_0, .slice A0_1 l0_1.length c0_1] 29 (0, 0))) ∧ (Below w.heap.size w w')) ?_ ?_
      rotate_left
      ·intro hCont
       refine two_ (i := 2) (j := 5) (Ni := some 27) (Nj := some 30) (mB 8 31) (mB 8 59) rfl rfl rfl rfl (two_of HT_.out (by kernel_rfl)) (by decide) (by decide) (fun K hK => ?_) (fun K hK => ?_)
       ·skip
        refine Kd.R_make_step (Kd.int .i64) _ 2 (by rfl) (N := 27) rfl 22 _ _ rfl ji9 rfl rfl Tryz.underlying22 (.int .i64 0) 8 info2 rfl (by decide) (by omega) 0 (ok := fun _ => True) (okp := fun _ => True) rfl (fun _ hk => hk) trivial (of_decide_eq_true (by first | (with_reducible assumption) | assumption)) (Nat.le_trans (Nat.mul_le_mul_right _ (of_decide_eq_true (by first | (with_reducible assumption) | assumption) : ji9.toNat ≤ 35184372088832)) (by omega)) (Below.refl _ _) (Nat.le_refl _) ?_
        intro v382 w15 ho16 hb hg_ hnew_
        clear hg_ hnew_
        (first | rw [← Ny381.out] at ho16 | (simp only [Int.reduceToNat] at ho16; rw [← Ny381.out] at ho16))
        have HO383 := Aside0.mk (Kd.R_lower ho16 (below_size (pH HB)))
        replace BK378 := sB BK378 hb
        replace HB := sH HB hb
        clear hb ho16
        refine hK.out _ _ ⟨cB BK378 0, cB BK378 1⟩ (fun hHeld => ?_)
        clear hK K
        refine nm_ ?_
        refine on_ 5 (some 30) 63 HT_ (fun K hK => ?_)
        refine ca_ Tryz.func75 #[.agg #[.int .i64 a0_0, .slice A0_1 l0_1.length c0_1], .slice A1 l1.length c1] ?_
        with_reducible refine (spec_l02Critical.calls k1 a0_0 _ _ l0_1 _ _ l1 t384 _ ?side1 ?side2 ?side3 ?side4 A12.out).mono ?_
        (case side1 => exact pC ((Kd.C_below HR0_1.out HB.out)))
        (case side2 => exact HC0_1.out)
        (case side3 => exact pC ((Kd.C_below HR1.out HB.out)))
        (case side4 => exact HC1.out)
        rintro e w17 ⟨v385, rfl, ho0, hb⟩
        refine ⟨_, rfl, ?_⟩
        have HO386 := Aside0.mk (Kd.R_lower (Kd.R_new' ho0 (Kd.R_lt (pR HO383))) (below_size (pH HB)))
        replace HO383 := Aside0.mk (Kd.R_elder' (pR HO383) (Kd.R_base ho0) hb)
        replace BK378 := sB BK378 hb
        replace HB := sH HB hb
        (try clear hb)
        (try clear hb2)
        (try clear hk)
        (try clear hi)
        (try clear ho0)
        refine hK.out _ _ ⟨cB BK378 0, cB BK378 1⟩ (fun hHeld => ?_)
        clear hK K
        refine nm_ ?_
        exact norm_ (by simp only [putAll, Act.put, List.setIfInBounds_toArray, List.set_cons_zero, List.set_cons_succ]) (hCont (v382, v385) _ ⟨hHeld, (by (with_reducible repeat (first | apply Kd.R_alloc | apply Kd.R_drewN | apply Kd.R_drew)); exact Kd.R_mono HO383.out (fun _ hk => hk.2)), (by (with_reducible repeat (first | apply Kd.R_alloc | apply Kd.R_drewN | apply Kd.R_drew)); exact Kd.R_mono HO386.out (fun _ hk => hk.2)), (pB BK378), (pH HB)⟩)
       ·skip
        refine ca_ Tryz.func75 #[.agg #[.int .i64 a0_0, .slice A0_1 l0_1.length c0_1], .slice A1 l1.length c1] ?_
        with_reducible refine (spec_l02Critical.calls k1 a0_0 _ _ l0_1 _ _ l1 t384 _ ?side1 ?side2 ?side3 ?side4 A12.out).mono ?_
        (case side1 => exact pC ((Kd.C_below HR0_1.out HB.out)))
        (case side2 => exact HC0_1.out)
        (case side3 => exact pC ((Kd.C_below HR1.out HB.out)))
        (case side4 => exact HC1.out)
        rintro e w15 ⟨v385, rfl, ho0, hb⟩
        refine ⟨_, rfl, ?_⟩
        have HO386 := Aside0.mk (Kd.R_lower ho0 (below_size (pH HB)))
        replace BK378 := sB BK378 hb
        replace HB := sH HB hb
        (try clear hb)
        (try clear hb2)
        (try clear hk)
        (try clear hi)
        (try clear ho0)
        refine hK.out _ _ ⟨cB BK378 0, cB BK378 1⟩ (fun hHeld => ?_)
        clear hK K
        refine nm_ ?_
        refine on_ 2 (some 27) 63 HT_ (fun K hK => ?_)
        refine Kd.R_make_step (Kd.int .i64) _ 2 (by rfl) (N := 27) rfl 22 _ _ rfl ji9 rfl rfl Tryz.underlying22 (.int .i64 0) 8 info2 rfl (by decide) (by omega) 0 (ok := fun _ => True) (okp := fun _ => True) rfl (fun _ hk => hk) trivial (of_decide_eq_true (by first | (with_reducible assumption) | assumption)) (Nat.le_trans (Nat.mul_le_mul_right _ (of_decide_eq_true (by first | (with_reducible assumption) | assumption) : ji9.toNat ≤ 35184372088832)) (by omega)) (Below.refl _ _) (Nat.le_refl _) ?_
        intro v382 w16 ho17 hb hg_ hnew_
        clear hg_ hnew_
        (first | rw [← Ny381.out] at ho17 | (simp only [Int.reduceToNat] at ho17; rw [← Ny381.out] at ho17))
        have HO383 := Aside0.mk (Kd.R_lower (Kd.R_new' ho17 (Kd.R_lt (pR HO386))) (below_size (pH HB)))
        replace HO386 := Aside0.mk (Kd.R_elder' (pR HO386) (Kd.R_base ho17) hb)
        replace BK378 := sB BK378 hb
        replace HB := sH HB hb
        clear hb ho17
        refine hK.out _ _ ⟨cB BK378 0, cB BK378 1⟩ (fun hHeld => ?_)
        clear hK K
        refine nm_ ?_
        exact norm_ (by simp only [putAll, Act.put, List.setIfInBounds_toArray, List.set_cons_zero, List.set_cons_succ]) (hCont (v382, v385) _ ⟨hHeld, (by (with_reducible repeat (first | apply Kd.R_alloc | apply Kd.R_drewN | apply Kd.R_drew)); exact Kd.R_mono HO383.out (fun _ hk => hk.2)), (by (with_reducible repeat (first | apply Kd.R_alloc | apply Kd.R_drewN | apply Kd.R_drew)); exact Kd.R_mono HO386.out (fun _ hk => hk.2)), (pB BK378), (pH HB)⟩)
      rintro ⟨v382, v385⟩ w18 ⟨hS_, h0_, h1_, h2_, h3_⟩
      have n0_ : Aside0 (Kd.R (Kd.int .i64) 2 w18 w.heap.size (fun k_ => some k_ ≠ (v385 : Value).ownBlock) v382 y381) := ⟨h0_⟩
      have n1_ : Aside0 (Kd.R (Kd.int .i64) 2 w18 w.heap.size (fun k_ => some k_ ≠ (v382 : Value).ownBlock) v385 t384) := ⟨h1_⟩
      have n2_ : Aside0 (w18.heap[gb378]? = some (.cells #[.int .i64 a0_0, .slice A0_1 l0_1.length c0_1] 29 (0, 0))) := ⟨h2_⟩
      have n3_ : Aside0 (Below w.heap.size w w18) := ⟨h3_⟩
      clear BK378
      clear HB
      clear h0_ h1_ h2_ h3_
      have HO383 := n0_
      have HO386 := n1_
      have BK378 := n2_
      have HB := n3_
      clear n0_ n1_ n2_ n3_
      have hHeld : w18.cell? ⟨gb378, 0, none⟩ = some (.int .i64 a0_0) ∧ w18.cell? ⟨gb378, 1, none⟩ = some (.slice A0_1 l0_1.length c0_1) := hS_
      refine norm_ (a' := ?_) ?_ ?_
      rotate_left
      ·simp only [putAll, Act.put, List.setIfInBounds_toArray, List.set_cons_zero, List.set_cons_succ]
       rfl
      refine pu_ 6 7 127 HT_ ?_
      refine pu_ 7 8 255 HT_ ?_
      refine dn_ HT_ ?_
      try go_wp2
      go_loopg [9] k1 (fun kq v9 w' => ∃ (x7_2 : List Int) (x9_2 : Int), v9 = .int .i64 x9_2 ∧ Aside0 (spec_l02Numbers.l1 kq x7_2 t384 x9_2 = some r) ∧ Aside0 (kq ≤ k1) ∧ Aside0 (Kd.R (Kd.int .i64) 2 w' w.heap.size (fun k_ => some k_ ≠ (v385 : Value).ownBlock) v382 x7_2) ∧ Aside0 (Kd.R (Kd.int .i64) 2 w' w.heap.size (fun k_ => some k_ ≠ (v382 : Value).ownBlock) v385 t384) ∧ Aside0 (w'.heap[gb378]? = some (.cells #[.int .i64 a0_0, (.slice A0_1 l0_1.length c0_1)] 29 (0, 0))) ∧ Aside0 (Below w.heap.size w w'))
      case atStart => exact ⟨(y381), (0), (by first | rfl | (simp; done) | (simp [*]; done)), H', ⟨Nat.le_refl _⟩, ⟨by (with_reducible repeat (first | apply Kd.R_alloc | apply Kd.R_drewN | apply Kd.R_drew)); exact HO383.out⟩, ⟨by (with_reducible repeat (first | apply Kd.R_alloc | apply Kd.R_drewN | apply Kd.R_drew)); exact HO386.out⟩, ⟨pB BK378⟩, ⟨pH HB⟩⟩
      case round =>
       clear H'
       try clear c1
       try clear p2
       try clear p3
       try clear q3
       try clear hx3
       try clear c4
       try clear c4b0
       try clear c5
       try clear c5b0
       try clear p6
       try clear c7
       try clear c10
       try clear c10b0
       try clear c10b1
       try clear c11
       try clear c11b0
       try clear c11b1
       try clear hcz13_0
       try clear hcz13_1
       try clear hcz8_0
       try clear hcz8_1
       try clear hfz13_0
       try clear hfz13_1
       try clear hfz8_0
       try clear hfz8_1
       try clear hx379_0
       try clear p2
       try clear p379
       try clear q379
       obtain ⟨x7_2, x9_2, rfl, HA, HK2, HO_7, HO_8, BK378, HB⟩ := hrel
       cases gk with
       | zero => exact absurd HA.out (by simp [spec_l02Numbers.l1])
       | succ k2 =>
        have H := HA.out
        clear HA
        simp only [spec_l02Numbers.l1] at H
        by_cases c19 : x9_2 < (t384.length : Int)
        ·rw [if_pos c19] at H
         have c19b0 : decide (x9_2 < (t384.length : Int)) = true := decide_eq_true c19
         clear c19
         by_cases c20 : 0 ≤ x9_2
         ·rw [if_pos c20] at H
          have c20b0 : decide (0 ≤ x9_2) = true := decide_eq_true c20
          clear c20
          replace H := Option.bind_eq_some_iff.mp H
          obtain ⟨t388, A210, H⟩ := H
          try dsimp only at H
          have A21 := Aside0.mk A210
          clear A210
          by_cases c22 : 0 ≤ t388
          ·rw [if_pos c22] at H
           have c22b0 : decide (0 ≤ t388) = true := decide_eq_true c22
           clear c22
           by_cases c23 : t388 < (x7_2.length : Int)
           ·rw [if_pos c23] at H
            have c23b0 : decide (t388 < (x7_2.length : Int)) = true := decide_eq_true c23
            clear c23
            obtain ⟨y390, hy390⟩ : ∃ y_ : List Int, y_ = (x7_2.set (t388 : Int).toNat (wrap64 ((rd x7_2 t388) + 1))) := ⟨_, rfl⟩
            replace H : (spec_l02Numbers.l1 k2 y390 t384 (wrap64 (x9_2 + 1))) = some r := by first | (rw [hy390]; with_reducible exact H) | (have H2_ := (Option.bind_some _ _).symm.trans H; rw [hy390]; with_reducible exact H2_) | (have H2_ := (Option.bind_some _ _).symm.trans H; with_reducible exact H2_) | with_reducible exact H | (rw [hy390]; exact H) | exact H
            have Ny390 := Aside0.mk hy390
            clear hy390
            have H' := Aside0.mk H
            clear H
            obtain ⟨Ao25, co25, eo25⟩ := Kd.R_slice HO_8.out
            subst eo25
            have p387 : 0 ≤ (x9_2 : Int) := of_decide_eq_true (by first | (with_reducible assumption) | assumption)
            have q387 : x9_2 < (t384.length : Int) := of_decide_eq_true (by first | (with_reducible assumption) | assumption)
            obtain ⟨ad387, e387, hx387_0⟩ := Kd.at_int (Kd.R_reads' HO_8.out).2.2 x9_2 p387 q387
            cases e387
            replace p387 := eq_true p387
            replace q387 := eq_true q387
            go_wp2_with (first | ((with_reducible refine gate_callee (f := 74) rfl ?_); refine cl_ (some 42) Tryz.func74 #[.int .i64 (rd t384 x9_2)] ?_; (with_reducible refine (spec_l02Dim.calls k2 (rd t384 x9_2) t388 _ A21.out).mono ?_); rintro e w' ⟨rfl, ⟨nd, rfl⟩⟩; refine ⟨_, rfl, ?_⟩; (try (rw [drewN_self wr]; generalize hq_ : World.drewN wr _ = wr; have n0_ : Aside0 (Kd.R (Kd.int .i64) 2 wr w.heap.size (fun k_ => some k_ ≠ (.slice (some ad387) t384.length co25 : Value).ownBlock) v382 x7_2) := ⟨by rw [← hq_]; exact (pR HO_7)⟩; have n1_ : Aside0 (Kd.R (Kd.int .i64) 2 wr w.heap.size (fun k_ => some k_ ≠ (v382 : Value).ownBlock) (.slice (some ad387) t384.length co25) t384) := ⟨by rw [← hq_]; exact (pR HO_8)⟩; have n2_ : Aside0 (wr.heap[gb378]? = some (.cells #[.int .i64 a0_0, .slice A0_1 l0_1.length c0_1] 29 (0, 0))) := ⟨by rw [← hq_]; exact (pB BK378)⟩; have n3_ : Aside0 (Below w.heap.size w wr) := ⟨by rw [← hq_]; exact (pH HB)⟩; clear HO_7 HO_8 BK378 HB hq_; have HO_7 := n0_; have HO_8 := n1_; have BK378 := n2_; have HB := n3_; clear n0_ n1_ n2_ n3_)); (try (have hcz26_0 : wr.cell? ⟨gb378, 0, none⟩ = some (.int .i64 a0_0) := cB BK378 0; have hcz26_1 : wr.cell? ⟨gb378, 1, none⟩ = some (.slice A0_1 l0_1.length c0_1) := cB BK378 1; have hfz26_0 := zB BK378 0; have hfz26_1 := zB BK378 1)); obtain ⟨Ao27, co27, eo27⟩ := Kd.R_slice HO_7.out; subst eo27; have p389 : 0 ≤ (t388 : Int) := of_decide_eq_true (by first | (with_reducible assumption) | assumption); have q389 : t388 < (x7_2.length : Int) := of_decide_eq_true (by first | (with_reducible assumption) | assumption); obtain ⟨ad389, e389, hx389_0⟩ := Kd.at_int (Kd.R_reads' HO_7.out).2.2 t388 p389 q389; cases e389; replace p389 := eq_true p389; replace q389 := eq_true q389; have p24 : 0 ≤ (t388 : Int) := of_decide_eq_true (by first | (with_reducible assumption) | assumption); have q24 : (t388 : Int) < ((x7_2.length : Int) : Int) := of_decide_eq_true (by first | (with_reducible assumption) | assumption); obtain ⟨go24, co24, eo24, gb24, gl24, cl24, HG24⟩ := Kd.R_form HO_7.out (by omega); (first | cases eo24 | (injection eo24 with ea_ en_ ec_; (first | subst ea_ | (injection ea_ with ea_; subst ea_)); subst ec_; clear en_)); have GB24 := Aside0.mk gb24; have GG24 := Aside0.mk HG24; clear gb24 gl24 HG24; (first | simp only [add_plain] at hx389_0 | skip); obtain ⟨hx24_0, hf24_0⟩ := Kd.R_celln 0 HO_7.out (t388 : Int) p24 q24; replace p24 := eq_true p24; replace q24 := eq_true q24; obtain ⟨hy28_, hz28_⟩ := Kd.R_celln 0 HO_7.out (t388 : Int) (of_decide_eq_true (by first | (with_reducible assumption) | assumption)) (of_decide_eq_true (by first | (with_reducible assumption) | assumption)); have HP28 := Kd.R_putg HO_7.out (t388 : Int) (wrap64 ((rd x7_2 t388) + 1))) | ((with_reducible refine gate_store (t := 2) (p := 46) rfl ?_); refine store_event (t := 2) (p := 46) (v := ?vo_w29) (w1 := (wr.setCell ⟨go24, (t388 : Int).toNat, none⟩ (.int .i64 (wrap64 ((rd x7_2 t388) + 1))))) ?hg ?ho ?hn ?hr ?_; (case ho => rfl); (case hg => rfl); (case hn => rfl); (case hr => first | (go_simp; done) | (go_simp; rfl)); intro w29 hw; have hg : wr.grownBy w29 (some go24) := (by rw [hw]; exact HP28.2); have hp_ : Kd.R (Kd.int .i64) 2 w29 w.heap.size (fun k_ => some k_ ≠ (.slice (some ad387) t384.length co25 : Value).ownBlock) (.slice (some ⟨go24, 0, none⟩) x7_2.length co27) y390 := (by rw [hw, Ny390.out]; exact HP28.1); clear HP28; have n0_ := Aside0.mk (hp_); have n1_ := Aside0.mk (Kd.R_after (v := (.slice (some ⟨go24, 0, none⟩) x7_2.length co27)) (v1 := (.slice (some ⟨go24, 0, none⟩) x7_2.length co27)) (ok := (fun _ => True)) (by (with_reducible repeat (first | apply Kd.R_alloc | apply Kd.R_drewN | apply Kd.R_drew)); exact Kd.R_mono HO_8.out (fun _ hk => ⟨trivial, hk⟩)) hg (.inl rfl)); have n2_ := Aside0.mk (blk_grown (g := gb378) (o := .cells #[.int .i64 a0_0, .slice A0_1 l0_1.length c0_1] 29 (0, 0)) (pB BK378) hg (Kd.R_ne HO_7.out BK378.out (by decide))); have n3_ := Aside0.mk ((by rw [hw]; exact below_set (HB.out) GB24.out : Below w.heap.size w w29)); clear HO_7; clear HO_8; clear BK378; clear HB; have HO_7 := n0_; have HO_8 := n1_; have BK378 := n2_; have HB := n3_; clear n0_ n1_ n2_ n3_; clear hg hw hp_))
            go_roundg k2
            case measure => have := HK1.out; have := HK2.out; omega
            case rel => exact ⟨(y390), (wrap64 (x9_2 + 1)), (by first | rfl | (simp; done) | (simp [*]; done)), H', ⟨by have := HK1.out; have := HK2.out; omega⟩, ⟨by (with_reducible repeat (first | apply Kd.R_alloc | apply Kd.R_drewN | apply Kd.R_drew)); exact HO_7.out⟩, ⟨by (with_reducible repeat (first | apply Kd.R_alloc | apply Kd.R_drewN | apply Kd.R_drew)); exact Kd.R_mono HO_8.out (fun _ hk => hk.2)⟩, ⟨pB BK378⟩, ⟨pH HB⟩⟩
           ·rw [if_neg c23] at H
            exact absurd H (by simp)
          ·rw [if_neg c22] at H
           exact absurd H (by simp)
         ·rw [if_neg c20] at H
          exact absurd H (by simp)
        ·rw [if_neg c19] at H
         have c19b0 : decide (x9_2 < (t384.length : Int)) = false := decide_eq_false c19
         clear c19
         obtain rfl := Option.some.inj H
         obtain ⟨Ao30, co30, eo30⟩ := Kd.R_slice HO_8.out
         subst eo30
         go_wp2
         go_ret
         exact ⟨_, by first | rfl | (simp [errW_none, errW_some] <;> rfl) | (simp only [← hji9]; first | rfl | (simp [errW_none, errW_some] <;> rfl)) | (simp [*, errW_none, errW_some] <;> rfl) | (exfalso; simp_all), by (with_reducible repeat (first | apply Kd.R_alloc | apply Kd.R_drewN | apply Kd.R_drew)); exact Kd.R_mono HO_7.out (fun _ hk => trivial), pH HB⟩
     ·rw [if_neg c11] at H
      exact absurd H (by simp)
    ·rw [if_neg c10] at H
     exact absurd H (by simp)
end Go.Proofs.YtdlmlmaoacmdiaaGreat.QS
namespace Go.Proofs.YtdlmlmaoacmdiaaGreat.Pu
open Go.RowKit Kp Ext QS Im YtdlmlmaoacmdiaaGreatW.PrintWords YtdlmlmaoacmdiaaGreatW.PrintLast YtdlmlmaoacmdiaaGreatW.PrintMore
def cntL (D : Nat) (l : List Int) : List Int := (List.range D).map fun j => ((l.filter fun x => onesZ x == ((j + 1 : Nat) : Int)).length : Int)
theorem cntL_len (D : Nat) (l : List Int) : (cntL D l).length = D := by simp [cntL]
theorem cntL_at {D j : Nat} (l : List Int) (h : j < D) : (cntL D l)[j]? = some ((l.filter fun x => onesZ x == ((j + 1 : Nat) : Int)).length : Int) := by simp [cntL, h]
theorem cntL_nil (D : Nat) : cntL D [] = List.replicate D 0 := by
  refine List.ext_getElem? fun j => ?_
  rcases Nat.lt_or_ge j D with h | h
  · rw [cntL_at [] h]; simp [h]
  · rw [List.getElem?_eq_none (by rw [cntL_len]; exact h), List.getElem?_eq_none (by simp; exact h)]
theorem cntL_snoc {D d : Nat} (l : List Int) (x : Int) (hd : d < D) (hx : onesZ x = ((d + 1 : Nat) : Int)) : (cntL D l).set d ((cntL D l)[d]?.getD 0 + 1) = cntL D (l ++ [x]) := by
  refine List.ext_getElem? fun j => ?_
  rcases Nat.lt_or_ge j D with h | h
  · rw [cntL_at (l ++ [x]) h, List.filter_append, List.length_append, cntL_at l hd]
    by_cases e : d = j
    · subst e
      rw [List.getElem?_set_self (by rw [cntL_len]; exact h)]
      simp [hx]
    · rw [List.getElem?_set_ne e, cntL_at l h]
      have : (onesZ x == ((j + 1 : Nat) : Int)) = false := by rw [hx]; simp; omega
      rw [List.filter_cons_of_neg (a := x) (l := []) (by rw [this]; exact Bool.false_ne_true), List.filter_nil]; simp
  · rw [List.getElem?_eq_none (by rw [List.length_set, cntL_len]; exact h), List.getElem?_eq_none (by rw [cntL_len]; exact h)]
theorem cntL_le {D d : Nat} (l : List Int) : (cntL D l)[d]?.getD 0 ≤ (l.length : Int) ∧ 0 ≤ (cntL D l)[d]?.getD 0 := by
  rcases Nat.lt_or_ge d D with h | h
  · rw [cntL_at l h]
    have := List.length_filter_le (fun x => onesZ x == ((d + 1 : Nat) : Int)) l
    simp only [Option.getD_some]; omega
  · rw [List.getElem?_eq_none (by rw [cntL_len]; exact h)]; simp
theorem ones1_all : ((List.range 64).all fun f => f == 0 || decide (1 ≤ onesZ (f : Int))) = true := by decide +kernel
theorem ones1 {x : Int} (h : 1 ≤ x ∧ x ≤ 63) : 1 ≤ onesZ x := by
  obtain ⟨m, rfl⟩ := Int.eq_ofNat_of_zero_le (show 0 ≤ x by omega)
  have h2 := List.all_eq_true.1 ones1_all m (List.mem_range.2 (by omega))
  have h0 : (m == 0) = false := by simp; omega
  rw [h0, Bool.false_or] at h2
  exact of_decide_eq_true h2
theorem foldmx_ge (g : Int → Int) : ∀ (l : List Int) (a : Int), a ≤ l.foldl (fun a x => max a (g x)) a ∧ ∀ x ∈ l, g x ≤ l.foldl (fun a x => max a (g x)) a
  | [], a => ⟨Int.le_refl _, fun x hx => by cases hx⟩
  | x :: l, a => by
    rw [List.foldl_cons]
    obtain ⟨h1, h2⟩ := foldmx_ge g l (max a (g x))
    refine ⟨by have := Int.le_max_left a (g x); omega, fun y hy => ?_⟩
    rcases List.mem_cons.1 hy with rfl | hy
    · have := Int.le_max_right a (g y); omega
    · exact h2 y hy
theorem foldmx_hit (g : Int → Int) : ∀ (l : List Int) (a : Int), l.foldl (fun a x => max a (g x)) a = a ∨ ∃ x ∈ l, g x = l.foldl (fun a x => max a (g x)) a
  | [], a => .inl rfl
  | x :: l, a => by
    rw [List.foldl_cons]
    rcases foldmx_hit g l (max a (g x)) with h | ⟨y, hy, h⟩
    · rw [h]
      rcases Int.le_total a (g x) with h1 | h1
      · rw [Int.max_eq_right h1]
        exact .inr ⟨x, by simp, rfl⟩
      · rw [Int.max_eq_left h1]
        exact .inl rfl
    · exact .inr ⟨y, by simp [hy], h⟩
theorem dim_rng (l : List Int) : -1 ≤ dimL l ∧ dimL l ≤ 5 ∧ ∀ x ∈ l, onesZ x ≤ dimL l + 1 := by
  obtain ⟨h1, h2⟩ := foldmx_ge (fun x => onesZ x - 1) l (-1)
  refine ⟨h1, ?_, fun x hx => ?_⟩
  · rcases foldmx_hit (fun x => onesZ x - 1) l (-1) with h | ⟨x, _, h⟩
    · unfold dimL; omega
    · have h3 : onesZ x - 1 = dimL l := h
      have := ones_le x
      omega
  · have := h2 x hx
    have h3 : onesZ x - 1 ≤ dimL l := this
    omega
theorem ev_dim2 {x : Int} (h1 : 1 ≤ x) (h2 : x ≤ 63) : Ev (fun k => spec_l02Dim.f k x) (onesZ x - 1) := by
  have := ones_le x
  unfold spec_l02Dim.f
  refine Ev.bind (ev_ones (by omega) (by omega)) ?_
  have h : wrap64 (onesZ x - 1) = onesZ x - 1 := w64 (by have := ones1 ⟨h1, h2⟩; omega) (by omega)
  rw [h]
  exact Ev.now _
theorem num_l1 (D : Nat) (l : List Int) (hr : ∀ x ∈ l, (1 ≤ x ∧ x ≤ 63) ∧ 1 ≤ onesZ x ∧ onesZ x ≤ (D : Int)) (hm : l.length ≤ 1048576) :
    ∀ d (i : Nat), l.length - i = d → i ≤ l.length → Ev (fun k => spec_l02Numbers.l1 k (cntL D (l.take i)) l (i : Int)) (cntL D l) := by
  intro d
  induction d with
  | zero =>
    intro i hd hi
    rw [List.take_of_length_le (by omega)]
    refine Ev.step (f := fun k => some (cntL D l)) (fun k => ?_) (Ev.now _)
    simp only [spec_l02Numbers.l1]; rw [if_neg (by omega)]
  | succ d ih =>
    intro i hd hi
    have hi' : i < l.length := by omega
    obtain ⟨hx, hx1, hx2⟩ := hr _ (List.getElem_mem hi')
    obtain ⟨e, he⟩ : ∃ e : Nat, onesZ l[i] = ((e + 1 : Nat) : Int) := ⟨(onesZ l[i]).toNat - 1, by omega⟩
    have heD : e < D := by omega
    have hle := cntL_le (D := D) (d := e) (l.take i)
    rw [List.length_take] at hle
    have hlen := cntL_len D (l.take i)
    refine Ev.step (f := fun k => (spec_l02Dim.f k l[i]).bind fun t => if 0 ≤ t then (if t < ((cntL D (l.take i)).length : Int) then spec_l02Numbers.l1 k ((cntL D (l.take i)).set t.toNat (wrap64 (rd (cntL D (l.take i)) t + 1))) l ((i + 1 : Nat) : Int) else none) else none) (fun k => ?_) ?_
    · simp only [spec_l02Numbers.l1]
      rw [if_pos (by omega), if_pos (by omega), rd_at hi', succ64 (by omega)]
    · refine Ev.bind (ev_dim2 hx.1 hx.2) ?_
      rw [he, show ((e + 1 : Nat) : Int) - 1 = (e : Int) by omega]
      simp only [if_pos (show (0 : Int) ≤ (e : Int) by omega), if_pos (show (e : Int) < ((cntL D (l.take i)).length : Int) by omega), Int.toNat_natCast]
      have hrd : rd (cntL D (l.take i)) (e : Int) = (cntL D (l.take i))[e]?.getD 0 := by rw [rd_at (by omega), List.getElem?_eq_getElem (by omega)]; rfl
      rw [hrd, w64 (by omega) (by omega), cntL_snoc (l.take i) l[i] heD he, ← List.take_succ_eq_append_getElem hi']
      exact ih (i + 1) (by omega) (by omega)
theorem num_l0 {n : Int} {xs : List Int} (hi : isC n xs = true) {l : List Pr} (hl : l.length ≤ 1048576) : ∀ d (i : Nat) (a : Int), xs.length - i = d → i ≤ xs.length → (xs.drop i).foldl (fun a x => max a (onesZ x - 1)) a = dimL xs → -1 ≤ a ∧ a ≤ 5 → Ev (fun k => spec_l02Numbers.l0 k l a (i : Int) n xs) (cntL (dimL xs + 1).toNat (critL xs l)) := by
  have hs := isC_small hi
  have h63 := isC_63 hi
  obtain ⟨d1, d2, d3⟩ := dim_rng xs
  intro d
  induction d with
  | zero =>
    intro i a hd hil hf ha
    rw [List.drop_eq_nil_of_le (by omega)] at hf
    have hf' : a = dimL xs := hf
    subst hf'
    have hcl : (critL xs l).length ≤ xs.length := List.length_filter_le _ _
    have hcm : ∀ x ∈ critL xs l, x ∈ xs := fun x hx => (List.mem_filter.1 hx).1
    obtain ⟨D, hD⟩ := Int.eq_ofNat_of_zero_le (show 0 ≤ dimL xs + 1 by omega)
    refine Ev.step (f := fun k => (spec_l02Critical.f k n xs l).bind fun t => spec_l02Numbers.l1 k (List.replicate D 0) t 0) (fun k => ?_) ?_
    · simp only [spec_l02Numbers.l0]
      rw [if_neg (by omega), w64 (by omega) (by omega), hD, if_pos (by omega), if_pos (by omega), Int.toNat_natCast]
    · refine Ev.bind (ev_crit n (by omega) hl) ?_
      rw [hD, Int.toNat_natCast]
      have := num_l1 D (critL xs l) (fun x hx => ⟨h63 x (hcm x hx), ones1 (h63 x (hcm x hx)), by have := d3 x (hcm x hx); omega⟩) (by omega) _ 0 rfl (Nat.zero_le _)
      rw [List.take_zero, cntL_nil] at this
      exact this
  | succ d ih =>
    intro i a hd hil hf ha
    have hi' : i < xs.length := by omega
    have hx := h63 _ (List.getElem_mem hi')
    have h1 := ones_le xs[i]
    have h2 := ones1 hx
    rw [List.drop_eq_getElem_cons hi', List.foldl_cons] at hf
    refine Ev.step (f := fun k => (spec_l02Dim.f k xs[i]).bind fun t => spec_l02Numbers.l0 k l (mx a t) ((i + 1 : Nat) : Int) n xs) (fun k => ?_) (Ev.bind (ev_dim2 hx.1 hx.2) ?_)
    · simp only [spec_l02Numbers.l0]
      rw [if_pos (by omega), if_pos (by omega), rd_at hi', succ64 (by omega)]
    · rw [show mx a (onesZ xs[i] - 1) = max a (onesZ xs[i] - 1) by unfold mx; split <;> omega]
      exact ih (i + 1) _ (by omega) (by omega) hf (by omega)
theorem ev_numbers {n : Int} {xs : List Int} (hi : isC n xs = true) {l : List Pr} (hl : l.length ≤ 1048576) : Ev (fun k => spec_l02Numbers.f k n xs l) (cntL (dimL xs + 1).toNat (critL xs l)) := by
  unfold spec_l02Numbers.f
  exact num_l0 hi hl _ 0 (-1) rfl (Nat.zero_le _) rfl (by omega)
end Go.Proofs.YtdlmlmaoacmdiaaGreat.Pu
namespace Go.Proofs.YtdlmlmaoacmdiaaGreat.Im
open Go.RowKit Go.Shelf Kp Cw Ext Pu YtdlmlmaoacmdiaaGreatW.PrintWords YtdlmlmaoacmdiaaGreatW.PrintLast YtdlmlmaoacmdiaaGreatW.PrintMore
def dimN (xs : List Int) : Nat := (dimL xs + 1).toNat
def numL (xs : List Int) (l : List Pr) : List Int := cntL (dimN xs) (critL xs l)
theorem dimN_le (xs : List Int) : dimN xs ≤ 6 := by
  have := dim_rng xs
  unfold dimN; omega
theorem num_good {n : Int} {xs : List Int} (hi : isC n xs = true) (l : List Pr) : GoodR (dimN xs) (numL xs l) := by
  refine ⟨cntL_len _ _, fun x hx => ?_⟩
  obtain ⟨j, hj, rfl⟩ := List.mem_iff_getElem.1 hx
  have h1 := cntL_le (D := dimN xs) (d := j) (critL xs l)
  have h2 : (critL xs l).length ≤ xs.length := List.length_filter_le _ _
  have h3 := isC_small hi
  have h4 : (numL xs l)[j]?.getD 0 = (numL xs l)[j] := by rw [List.getElem?_eq_getElem hj]; rfl
  unfold numL at h4 ⊢
  rw [h4] at h1
  omega
structure GoS where
  count : Int
  most : Int
  best : List Pr
  found : List (List Int)
def updG (xs : List Int) (s : GoS) (l : List Pr) : GoS := ⟨wrap64 (s.count + 1), if s.most < (l.length : Int) then l.length else s.most, if s.most < (l.length : Int) then l else s.best, putV s.found (numL xs l)⟩
def GoPost (W w0 : World) (y : Nat) (n : Int) (A : Option Addr) (c : Nat) (xs : List Int) (va : Value) (all : List Pr) (top : Int) (S : GoS) (e : Ending) (w' : World) : Prop :=
  e = .returned (.tuple #[]) ∧ (∃ (vb vf : Value) (vs : List Value), SS w' w0 y n A c xs.length va all vb S.best S.count S.most top true vf vs S.found) ∧ GoodV (dimN xs) S.found ∧ KeepT W w'
def GoOk (w0 : World) (y : Nat) (n : Int) (A : Option Addr) (c : Nat) (xs : List Int) (va : Value) (all : List Pr) (top : Int) (d : Nat) : Prop :=
  ∀ (l : List Pr) (s : GoS) (v : Value) (i : Nat) (W : World) (vb vf : Value) (vs : List Value), SS W w0 y n A c xs.length va all vb s.best s.count s.most top true vf vs s.found → GoodV (dimN xs) s.found → PO W w0.heap.size v l → pairingB xs l = true → i ≤ all.length → all.length - i = d →
    Calls Tryz.prog 30 #[.pointer (some ⟨y, 0, none⟩), v, .int .i64 i] W (GoPost W w0 y n A c xs va all top ((enumL xs (all.drop i) l).foldl (updG xs) s))
set_option maxRecDepth 100000 in
set_option maxHeartbeats 8000000 in
theorem go_step (w0 : World) (y : Nat) (n : Int) (A : Option Addr) (c : Nat) (xs : List Int) (va : Value) (all : List Pr) (top : Int) (hr : RC w0 A xs.length xs) (hc : xs.length ≤ c) (hi : isC n xs = true) (hal : all.length ≤ 1048576) (d : Nat)
    (ih : ∀ d' < d, GoOk w0 y n A c xs va all top d') : GoOk w0 y n A c xs va all top d := by
  intro l s v i W vb vf vs hss hgv hl hpl hil hd
  obtain ⟨R, hR⟩ : ∃ R, (enumL xs (all.drop i) l).foldl (updG xs) s = R := ⟨_, rfl⟩
  have HR0 : Aside0 (R = (subsL xs (all.drop i) l).foldl (updG xs) (updG xs s l)) := ⟨hR.symm⟩
  rw [hR]
  have hll := pairing_len hi hpl
  obtain ⟨ct, mo, be, fo⟩ := s
  obtain ⟨c1, hc1⟩ : ∃ c1, wrap64 (ct + 1) = c1 := ⟨_, rfl⟩
  have hw1 : IntKind.i64.wrap (ct + 1) = c1 := by rw [IntKind.wrap_i64]; unfold wrap64 at hc1; omega
  have HC1 := Aside0.mk hc1
  have HS := Aside0.mk hss
  have HGV := Aside0.mk hgv
  have HL := Aside0.mk hl
  have HPL := Aside0.mk hpl
  have HIH := Aside0.mk ih
  have HR := Aside0.mk hr
  have HC := Aside0.mk hc
  have HI := Aside0.mk hi
  have HD := Aside0.mk hd
  obtain ⟨Al, cl, rfl⟩ := Kd.R_slice hl
  obtain ⟨Aa, ca, rfl⟩ := Kd.R_slice hss.ra
  have hc4 := hss.c4
  have hf4 := hss.fz 4
  clear hss hgv hl hpl ih hr hc hi hd hR
  go_enter Tryz.func30, Tryz.ntmps30
  go_upto_region 1 with fail
  have HS1 := Aside0.mk (HS.out.setCount c1)
  have HK1 := Aside0.mk (HS.out.keep 4 (.int .i64 c1))
  have HL1 := Aside0.mk (PO.keep HL.out HK1.out)
  clear HS HL hc4 hf4 hw1
  simp only [] at HS1
  generalize W.setCell ⟨y, 4, none⟩ (.int .i64 c1) = W1 at HS1 HK1 HL1 ⊢
  have hc5 := HS1.out.c5
  by_cases hgt : mo < (l.length : Int)
  · have HU : Aside0 (updG xs ⟨ct, mo, be, fo⟩ l = ⟨c1, (l.length : Int), l, putV fo (numL xs l)⟩) := ⟨by unfold updG; simp only [if_pos hgt, HC1.out]⟩
    have hf5 := HS1.out.fz 5
    go_upto_region 3 with fail
    have HS2 := Aside0.mk (HS1.out.setMost (l.length : Int))
    have HK2 := Aside0.mk (HK1.out.trans (HS1.out.keep 5 (.int .i64 (l.length : Int))))
    have HL2 := Aside0.mk (PO.keep HL1.out (HS1.out.keep 5 (.int .i64 (l.length : Int))))
    clear HS1 HL1 HK1 hc5 hf5 hc1
    generalize W1.setCell ⟨y, 5, none⟩ (.int .i64 (l.length : Int)) = W2 at HS2 HK2 HL2 ⊢
    have HO3 := Aside0.mk (PO.made W2 W2.heap.size 0 #[] (Nat.le_refl _) (Nat.zero_le _) rfl)
    have HB3 : Aside0 (Below W2.heap.size W2 (W2.alloc (.cells #[] 62))) := ⟨below_alloc (Below.refl _ _) _⟩
    have HRL : Aside0 (Kd.C k62 (W2.alloc (.cells #[] 62)) Al l.length l) := ⟨(Kd.R_reads' (Kd.R_alloc HL2.out _)).2.2⟩
    go_upto_region 4 with (at_builtin; refine apPs W2.heap.size rfl (.tmp 29) (.tmp 30) rfl _ [] l Al l.length cl rfl rfl HO3.out HRL.out HB3.out HB3.out.size (by simp <;> omega) ?_; intro v4 w4 ho hb hg hat; clear hat hg; rw [List.nil_append] at ho; have HV4 := Aside0.mk (Kd.R_lower ho HS2.out.hb.size); have HS3 := Aside0.mk (HS2.out.below hb); have HL3 := Aside0.mk (Kd.R_below HL2.out hb); have HK3 := Aside0.mk (HK2.out.trans (KeepT.below hb)); obtain ⟨A4, c4, rfl⟩ := Kd.R_slice HV4.out; have hc3 := HS3.out.c3; have hf3 := HS3.out.fz 3; clear ho hb HS2 HL2 HK2 HO3 HB3 HRL)
    have HS4 := Aside0.mk (HS3.out.setBest HV4.out)
    have HK4 := Aside0.mk (HK3.out.trans (HS3.out.keep 3 (.slice A4 l.length c4)))
    have HL4 := Aside0.mk (PO.keep HL3.out (HS3.out.keep 3 (.slice A4 l.length c4)))
    clear HS3 HL3 HK3 hc3 hf3 HV4
    generalize w4.setCell ⟨y, 3, none⟩ (.slice A4 l.length c4) = W4 at HS4 HK4 HL4 ⊢
    have hc7 := HS4.out.c7
    go_upto_region 5 with fail
    clear hc7
    have HUU : Aside0 (R = (subsL xs (all.drop i) l).foldl (updG xs) _) := ⟨HR0.out.trans (by rw [HU.out])⟩
    clear HR0 HU
    obtain ⟨Af, cf, rfl⟩ := HS4.out.rv.slice
    have hc8 := HS4.out.c8
    have hk0 := HS4.out.c0
    have hk1 := HS4.out.c1
    obtain ⟨kn, hkn⟩ := (ev_numbers HI.out (l := l) (by omega)).rounds
    have HKN : Aside0 (QS.spec_l02Numbers.f kn n xs l = some (numL xs l)) := ⟨hkn⟩
    have HNG := Aside0.mk (num_good HI.out l)
    have HFL : Aside0 (vs.length ≤ 137438953472) := ⟨by have h1 := HS4.out.ri.1; have h2 := HGV.out.len (dimN_le xs); simp only at h2; omega⟩
    have HNL : Aside0 ((numL xs l).length ≤ 1000) := ⟨by rw [HNG.out.1]; have := dimN_le xs; omega⟩
    clear hkn
    refine st_ 15 (S := fun w' => w'.cell? ⟨y, 8, none⟩ = some (.slice Af vs.length cf) ∧ w'.cell? ⟨y, 0, none⟩ = some (.int .i64 n) ∧ w'.cell? ⟨y, 1, none⟩ = some (.slice A xs.length c)) (ds := [14]) ⟨hc8, hk0, hk1⟩ (fun hHeld => ?_)
    refine with_tabW (T := (true, [([], []), ([], []), ([1], [1]), ([2], [2]), ([3], [3]), ([], []), ([5], [5]), ([6], [6]), ([7], [7]), ([], []), ([8, 9], [8, 9]), ([4, 10, 10], [4, 10]), ([0, 0, 1, 2, 3, 4, 5, 6, 7, 8, 9, 10, 11], [0]), ([12, 0, 1, 2, 3, 4, 5, 6, 7, 8, 9, 10, 11], [12]), ([13, 11, 11, 0, 1, 2, 3, 4, 5, 6, 7, 8, 9, 10, 11], [11, 13])])) (B := [0, 0, 2, 6, 14, 0, 32, 96, 224, 0, 992, 2046, 4095, 8191, 16383]) (by kernel_rfl) (by kernel_rfl) (fun HT_ HW_ => ?_)
    refine pd_ 0 38 1 HT_ ?_
    refine pd_ 1 39 3 HT_ ?_
    refine pd_ 2 40 7 HT_ ?_
    refine pd_ 3 41 15 HT_ ?_
    refine pd_ 5 43 47 HT_ ?_
    refine pd_ 6 44 111 HT_ ?_
    refine pd_ 7 45 239 HT_ ?_
    refine pd_ 9 47 751 HT_ ?_
    refine tk_ 4 42 767 HT_ HW_ hHeld ?_
    refine tk_ 8 46 1023 HT_ HW_ hHeld ?_
    refine on_ 10 (some 48) 2047 HT_ (fun K hK => ?_)
    refine ca_ Tryz.func53 #[.agg #[.int .i64 n, .slice A xs.length c], .slice Al l.length cl] ?_
    refine (QS.spec_l02Numbers.calls kn n A c xs Al cl l (numL xs l) _ (Kd.C_below HR.out HS4.out.drew.hb) HC.out (Kd.R_reads' (Kd.R_drew HL4.out)).2.2 (Kd.R_reads' HL4.out).2.1 HKN.out).mono ?_; rintro e w5 ⟨v5, rfl, hv, hb⟩; have hb0 : Below W4.heap.size W4 w5 := (below_drew (Below.refl _ _)).trans hb; have HV5 := Aside0.mk (Kd.R_lower hv HS4.out.drew.hb.size); have HS5 := Aside0.mk (HS4.out.below hb0); have HL5 := Aside0.mk (Kd.R_below HL4.out hb0); have HK5 := Aside0.mk (HK4.out.trans (KeepT.below hb0)); clear hv hb hb0 HS4 HL4 HK4 hc8 hk0 hk1; obtain ⟨A5, c5, rfl⟩ := Kd.R_slice HV5.out
    refine ⟨_, rfl, ?_⟩
    refine hK.out _ _ ⟨HS5.out.c8, HS5.out.c0, HS5.out.c1⟩ (fun hHeld => ?_)
    clear hK K
    refine nm_ ?_
    refine on_ 11 (some 49) 4095 HT_ (fun K hK => ?_)
    refine ca_ Tryz.func52 #[.slice Af vs.length cf, .slice A5 (numL xs l).length c5] ?_
    refine (lput_c w0.heap.size Af cf vs fo A5 c5 (numL xs l) _ HS5.out.rv HS5.out.ri HV5.out (fun r hr => (HGV.out.2 r hr).1.trans HNG.out.1.symm) HNL.out HFL.out HS5.out.hb.size).mono ?_; rintro e w6 ⟨v6, us, rfl, hv, hi, hb⟩; obtain ⟨A6, c6, rfl⟩ := hv.slice; have HV6 := Aside0.mk hv; have HI6 := Aside0.mk hi; have HS6 := Aside0.mk (HS5.out.below hb); have HL6 := Aside0.mk (Kd.R_below HL5.out hb); have HK6 := Aside0.mk (HK5.out.trans (KeepT.below hb)); clear hv hi hb HS5 HL5 HK5 HV5
    refine ⟨_, rfl, ?_⟩
    refine hK.out _ _ ⟨HS6.out.c8, HS6.out.c0, HS6.out.c1⟩ (fun hHeld => ?_)
    clear hK K
    refine nm_ ?_
    refine pd_ 12 50 8191 HT_ ?_
    refine pd_ 13 51 16383 HT_ ?_
    refine la_ 14 none 32767 HT_ (fun K hK => ?_)
    (have hc8' := HS6.out.c8; have hf8' := HS6.out.fz 8; refine skip_ (by rfl) rfl (w1 := w6.setCell ⟨y, 8, none⟩ (.slice A6 us.length c6)) (by go_simp) ?_; clear hc8' hf8')
    refine hK.out _ _ ?_
    clear hK K
    refine dn_ HT_ ?_
    have HS7 := Aside0.mk (HS6.out.setFound HV6.out HI6.out)
    have HK7 := Aside0.mk (HK6.out.trans (HS6.out.keep 8 (.slice A6 us.length c6)))
    have HL7 := Aside0.mk (PO.keep HL6.out (HS6.out.keep 8 (.slice A6 us.length c6)))
    have HG7 := Aside0.mk (HGV.out.put HNG.out)
    simp only [] at HG7
    clear HS6 HK6 HL6 HV6 HI6 HGV HNG HNL HFL HKN
    generalize w6.setCell ⟨y, 8, none⟩ (.slice A6 us.length c6) = W7 at HS7 HK7 HL7 ⊢
    go_wp2
    go_loopw [6] (fun s6 wr => ∃ (j : Nat) (s : GoS) (vb vf : Value) (vs : List Value), j ≤ all.length ∧ i ≤ j ∧ s6 = .int .i64 j ∧ Aside0 (R = (subsL xs (all.drop j) l).foldl (updG xs) s) ∧ Aside0 (SS wr w0 y n A c xs.length (.slice Aa all.length ca) all vb s.best s.count s.most top true vf vs s.found) ∧ Aside0 (GoodV (dimN xs) s.found) ∧ Aside0 (PO wr w0.heap.size (.slice Al l.length cl) l) ∧ Aside0 (KeepT W wr)) (fun s6 _ => all.length - (intOf s6).toNat)
    case atStart => exact ⟨i, _, _, _, _, hil, Nat.le_refl _, rfl, HUU, HS7, HG7, HL7, HK7⟩
    case round =>
      clear HUU HS7 HG7 HL7 HK7
      obtain ⟨j, s, vb, vf, vs, hj, hij, rfl, HR0, HS, HGV, HL, HK⟩ := hrel
      have hc2 := HS.out.c2
      by_cases hlt : j < all.length
      · have hltz : (j : Int) < (all.length : Int) := by omega
        have hc7 := HS.out.c7
        go_upto_region 9 with fail
        refine st_ 23 (S := fun w' => w'.cell? ⟨y, 7, none⟩ = some (.bool true)) (ds := []) hc7 (fun hHeld => ?_)
        refine with_tabW (T := (true, [([], []), ([0], [0]), ([1], [1]), ([2], [2]), ([3], [3]), ([4], [4]), ([5], [5]), ([6, 5], [5, 6]), ([7, 5], [5, 7]), ([8, 5], [5, 8]), ([5], [5]), ([10, 5], [5, 10]), ([11, 5], [5, 11]), ([12, 5], [5, 12]), ([9, 13, 5], [5, 9, 13]), ([14, 5, 5], [5, 14]), ([15], [15]), ([15], [15]), ([15], [15]), ([16, 17, 18, 15, 15], [15, 16, 17, 18]), ([19, 15], [15, 19]), ([15, 20, 5], [5, 15, 20]), ([5, 21], [5, 21])])) (B := [0, 1, 3, 7, 15, 31, 63, 127, 255, 511, 63, 1087, 3135, 7231, 16383, 32767, 65535, 65535, 65535, 524287, 1048575, 2097151, 4194303]) (by kernel_rfl) (by kernel_rfl) (fun HT_ HW_ => ?_)
        refine pd_ 0 62 1 HT_ ?_
        refine pd_ 1 63 3 HT_ ?_
        refine pd_ 2 64 7 HT_ ?_
        refine tk_ 3 65 15 HT_ HW_ hHeld ?_
        refine pd_ 4 66 31 HT_ ?_
        refine pd_ 5 67 63 HT_ ?_
        refine pn_ 6 68 127 HT_ ?_
        refine pn_ 7 69 255 HT_ ?_
        refine pn_ 8 70 511 HT_ ?_
        refine pn_ 9 71 1023 HT_ ?_
        refine pn_ 10 72 2047 HT_ ?_
        refine pn_ 11 73 4095 HT_ ?_
        refine pn_ 12 74 8191 HT_ ?_
        refine pn_ 13 75 16383 HT_ ?_
        refine pn_ 14 76 32767 HT_ ?_
        refine pn_ 15 77 65535 HT_ ?_
        refine pn_ 16 78 131071 HT_ ?_
        refine pn_ 17 79 262143 HT_ ?_
        refine pn_ 18 80 524287 HT_ ?_
        refine pn_ 19 81 1048575 HT_ ?_
        refine pn_ 20 82 2097151 HT_ ?_
        refine pn_ 21 83 4194303 HT_ ?_
        refine pd_ 22 84 8388607 HT_ ?_
        refine dn_ HT_ ?_
        clear hc7 hc2
        go_upto_region 10 with fail
        have HS9 := Aside0.mk HS.out.drew
        have HL9 := Aside0.mk (Kd.R_drew HL.out)
        have HK9 := Aside0.mk (HK.out.trans (KeepT.below (below_drew (Below.refl _ _))))
        clear HS HL HK
        generalize wr.drew = W9 at HS9 HL9 HK9 ⊢
        obtain ⟨ad, rfl, hp0, hp1⟩ := at_T62 (Kd.R_reads' HS9.out.ra).2.2 (j : Int) (by omega) (by omega)
        obtain ⟨p, hp⟩ : ∃ p, rd_T62 all (j : Int) = p := ⟨_, rfl⟩
        have hpj : all[j] = p := by rw [← rdP_at hlt, hp]
        rw [hp, show ((j : Int)).toNat = j by omega] at hp0 hp1
        have hk0 := HS9.out.c0
        have hk1 := HS9.out.c1
        have hc2 := HS9.out.c2
        obtain ⟨j1, hj1⟩ : ∃ j1 : Nat, j1 = j + 1 := ⟨_, rfl⟩
        have hw1 : IntKind.i64.wrap ((j : Int) + 1) = (j1 : Int) := by rw [IntKind.wrap_i64]; omega
        have HJ1 := Aside0.mk hj1
        obtain ⟨kw, hkw⟩ := (ev_with HI.out (sorted_of HPL.out) (by omega) p).rounds
        have HKW := Aside0.mk hkw
        obtain ⟨q, hq⟩ : ∃ q, withP l p = q := ⟨_, rfl⟩
        rw [hq] at HKW
        have HPJ := Aside0.mk hpj
        have HQ := Aside0.mk hq
        clear hkw hp hpj hj1 hq
        cases hpb : pairingB xs q with
        | false =>
          have HOK : Aside0 (okP xs l p = false) := ⟨by unfold okP; rw [HQ.out, hpb]; rfl⟩
          rw [hpb] at HKW
          clear hpb
          have HRN := Aside0.mk (HR0.out.trans (by rw [subs_no hlt (by rw [HPJ.out]; exact HOK.out), ← HJ1.out]))
          clear HR0 HOK
          refine st_ 18 (S := fun w' => w'.cell? ⟨y, 0, none⟩ = some (.int .i64 n) ∧ w'.cell? ⟨y, 1, none⟩ = some (.slice A xs.length c) ∧ w'.cell? ⟨y, 2, none⟩ = some (.slice (some ad) all.length ca) ∧ w'.cell? (ad.add (j * 2)) = some (.int .i64 p.f0) ∧ w'.cell? ⟨(ad.add (j * 2)).block, (ad.add (j * 2)).off + 1, none⟩ = some (.int .i64 p.f1)) (ds := [12]) ⟨hk0, hk1, hc2, hp0, hp1⟩ (fun hHeld => ?_)
          refine with_tabW (T := (true, [([], []), ([0], [0]), ([1], [1]), ([2], [2]), ([], []), ([], []), ([5], [5]), ([6], [6]), ([7], [7]), ([], []), ([8, 9], [8, 9]), ([10], [10]), ([3, 4, 11], [3, 4, 11]), ([12], [12]), ([13], [13]), ([13], [13]), ([14, 12, 0, 1, 2, 3, 4, 5, 6, 7, 8, 9, 10, 11, 12, 13, 14], [14]), ([15, 16, 0, 1, 2, 3, 4, 5, 6, 7, 8, 9, 10, 11, 12, 13, 14, 15, 16], [15])])) (B := [0, 1, 3, 7, 0, 0, 32, 96, 224, 0, 992, 2016, 4095, 8191, 16383, 16383, 32767, 131071]) (by kernel_rfl) (by kernel_rfl) (fun HT_ HW_ => ?_)
          refine pd_ 0 86 1 HT_ ?_
          refine pd_ 1 87 3 HT_ ?_
          refine pd_ 2 88 7 HT_ ?_
          refine pd_ 4 90 23 HT_ ?_
          refine pd_ 5 91 55 HT_ ?_
          refine pd_ 6 92 119 HT_ ?_
          refine pd_ 7 93 247 HT_ ?_
          refine pd_ 9 95 759 HT_ ?_
          refine tk_ 3 89 767 HT_ HW_ hHeld ?_
          refine tk_ 8 94 1023 HT_ HW_ hHeld ?_
          refine pd_ 10 96 2047 HT_ ?_
          refine tk_ 11 97 4095 HT_ HW_ hHeld ?_
          refine la_ 12 (some 98) 8191 HT_ (fun K hK => ?_)
          refine ca_ Tryz.func51 #[.agg #[.int .i64 n, .slice A xs.length c], .slice Al l.length cl, .agg #[.int .i64 p.f0, .int .i64 p.f1]] ?_
          refine (QS.spec_l02With.calls kw n A c xs Al cl l p.f0 p.f1 q false _ (Kd.C_below HR.out HS9.out.drew.hb) HC.out (Kd.R_reads' (Kd.R_drew HL9.out)).2.2 (Kd.R_reads' HL9.out).2.1 HKW.out).mono ?_; rintro e w5 ⟨v5, rfl, hv, hb⟩; have hb0 : Below W9.heap.size W9 w5 := (below_drew (Below.refl _ _)).trans hb; have HV5 := Aside0.mk (Kd.R_lower hv HS9.out.drew.hb.size); have HS5 := Aside0.mk (HS9.out.below hb0); have HL5 := Aside0.mk (Kd.R_below HL9.out hb0); have HK5 := Aside0.mk (HK9.out.trans (KeepT.below hb0)); clear hv hb hb0 HS9 HL9 HK9 hp0 hp1 hk0 hk1 hc2
          refine ⟨_, rfl, ?_⟩
          refine hK.out _ _ ?_
          clear hK K
          refine nm_ ?_
          refine pd_ 13 85 16383 HT_ ?_
          refine pd_ 14 99 32767 HT_ ?_
          refine pd_ 15 100 65535 HT_ ?_
          refine pd_ 16 7 131071 HT_ ?_
          refine pd_ 17 8 262143 HT_ ?_
          refine dn_ HT_ ?_
          go_wp2
          have hj1 := HJ1.out
          exact ⟨⟨j1, s, _, _, _, by omega, by omega, by go_num, HRN, HS5, HGV, HL5, HK5⟩, by simp [intOf]; omega⟩
        | true =>
          rw [hpb] at HKW
          have hql := pairing_len HI.out hpb
          obtain ⟨ka, hka⟩ := (ev_acyclic (l := q) (by omega) (facesP_of HI.out hpb)).rounds
          have HPQ := Aside0.mk hpb
          have HKA := Aside0.mk hka
          clear hpb hka hql
          cases hab : acycB q with
          | false =>
            have HOK : Aside0 (okP xs l p = false) := ⟨by unfold okP; rw [HQ.out, HPQ.out, hab]; rfl⟩
            rw [hab] at HKA
            clear hab
            have HRN := Aside0.mk (HR0.out.trans (by rw [subs_no hlt (by rw [HPJ.out]; exact HOK.out), ← HJ1.out]))
            clear HR0 HOK
            refine st_ 18 (S := fun w' => w'.cell? ⟨y, 0, none⟩ = some (.int .i64 n) ∧ w'.cell? ⟨y, 1, none⟩ = some (.slice A xs.length c) ∧ w'.cell? ⟨y, 2, none⟩ = some (.slice (some ad) all.length ca) ∧ w'.cell? (ad.add (j * 2)) = some (.int .i64 p.f0) ∧ w'.cell? ⟨(ad.add (j * 2)).block, (ad.add (j * 2)).off + 1, none⟩ = some (.int .i64 p.f1)) (ds := [12]) ⟨hk0, hk1, hc2, hp0, hp1⟩ (fun hHeld => ?_)
            refine with_tabW (T := (true, [([], []), ([0], [0]), ([1], [1]), ([2], [2]), ([], []), ([], []), ([5], [5]), ([6], [6]), ([7], [7]), ([], []), ([8, 9], [8, 9]), ([10], [10]), ([3, 4, 11], [3, 4, 11]), ([12], [12]), ([13], [13]), ([13], [13]), ([14, 12, 0, 1, 2, 3, 4, 5, 6, 7, 8, 9, 10, 11, 12, 13, 14], [14]), ([15, 16, 0, 1, 2, 3, 4, 5, 6, 7, 8, 9, 10, 11, 12, 13, 14, 15, 16], [15])])) (B := [0, 1, 3, 7, 0, 0, 32, 96, 224, 0, 992, 2016, 4095, 8191, 16383, 16383, 32767, 131071]) (by kernel_rfl) (by kernel_rfl) (fun HT_ HW_ => ?_)
            refine pd_ 0 86 1 HT_ ?_
            refine pd_ 1 87 3 HT_ ?_
            refine pd_ 2 88 7 HT_ ?_
            refine pd_ 4 90 23 HT_ ?_
            refine pd_ 5 91 55 HT_ ?_
            refine pd_ 6 92 119 HT_ ?_
            refine pd_ 7 93 247 HT_ ?_
            refine pd_ 9 95 759 HT_ ?_
            refine tk_ 3 89 767 HT_ HW_ hHeld ?_
            refine tk_ 8 94 1023 HT_ HW_ hHeld ?_
            refine pd_ 10 96 2047 HT_ ?_
            refine tk_ 11 97 4095 HT_ HW_ hHeld ?_
            refine la_ 12 (some 98) 8191 HT_ (fun K hK => ?_)
            refine ca_ Tryz.func51 #[.agg #[.int .i64 n, .slice A xs.length c], .slice Al l.length cl, .agg #[.int .i64 p.f0, .int .i64 p.f1]] ?_
            refine (QS.spec_l02With.calls kw n A c xs Al cl l p.f0 p.f1 q true _ (Kd.C_below HR.out HS9.out.drew.hb) HC.out (Kd.R_reads' (Kd.R_drew HL9.out)).2.2 (Kd.R_reads' HL9.out).2.1 HKW.out).mono ?_; rintro e w5 ⟨v5, rfl, hv, hb⟩; have hb0 : Below W9.heap.size W9 w5 := (below_drew (Below.refl _ _)).trans hb; have HV5 := Aside0.mk (Kd.R_lower hv HS9.out.drew.hb.size); have HS5 := Aside0.mk (HS9.out.below hb0); have HL5 := Aside0.mk (Kd.R_below HL9.out hb0); have HK5 := Aside0.mk (HK9.out.trans (KeepT.below hb0)); clear hv hb hb0 HS9 HL9 HK9 hp0 hp1 hk0 hk1 hc2
            refine ⟨_, rfl, ?_⟩
            refine hK.out _ _ ?_
            clear hK K
            refine nm_ ?_
            refine pd_ 13 85 16383 HT_ ?_
            refine pd_ 14 99 32767 HT_ ?_
            refine pd_ 15 100 65535 HT_ ?_
            refine pd_ 16 7 131071 HT_ ?_
            refine pd_ 17 8 262143 HT_ ?_
            refine dn_ HT_ ?_
            obtain ⟨A5, c5, rfl⟩ := Kd.R_slice HV5.out
            go_wp2_with (go_at_call 55; refine (QS.spec_l02Acyclic.calls ka A5 c5 q false _ (Kd.R_reads' HV5.out).2.2 (Kd.R_reads' HV5.out).2.1 HKA.out).mono ?_; rintro e w6 ⟨rfl, hb⟩; have HS6 := Aside0.mk (HS5.out.below hb); have HL6 := Aside0.mk (Kd.R_below HL5.out hb); have HK6 := Aside0.mk (HK5.out.trans (KeepT.below hb)); clear hb HS5 HL5 HK5)
            have hj1 := HJ1.out
            exact ⟨⟨j1, s, _, _, _, by omega, by omega, by go_num, HRN, HS6, HGV, HL6, HK6⟩, by simp [intOf]; omega⟩
          | true =>
            have HOK : Aside0 (okP xs l p = true) := ⟨by unfold okP; rw [HQ.out, HPQ.out, hab]; rfl⟩
            rw [hab] at HKA
            clear hab
            have HRN := Aside0.mk (HR0.out.trans (by rw [subs_yes hlt (by rw [HPJ.out]; exact HOK.out), HPJ.out, ← HJ1.out]))
            clear HR0 HOK
            refine st_ 18 (S := fun w' => w'.cell? ⟨y, 0, none⟩ = some (.int .i64 n) ∧ w'.cell? ⟨y, 1, none⟩ = some (.slice A xs.length c) ∧ w'.cell? ⟨y, 2, none⟩ = some (.slice (some ad) all.length ca) ∧ w'.cell? (ad.add (j * 2)) = some (.int .i64 p.f0) ∧ w'.cell? ⟨(ad.add (j * 2)).block, (ad.add (j * 2)).off + 1, none⟩ = some (.int .i64 p.f1)) (ds := [12]) ⟨hk0, hk1, hc2, hp0, hp1⟩ (fun hHeld => ?_)
            refine with_tabW (T := (true, [([], []), ([0], [0]), ([1], [1]), ([2], [2]), ([], []), ([], []), ([5], [5]), ([6], [6]), ([7], [7]), ([], []), ([8, 9], [8, 9]), ([10], [10]), ([3, 4, 11], [3, 4, 11]), ([12], [12]), ([13], [13]), ([13], [13]), ([14, 12, 0, 1, 2, 3, 4, 5, 6, 7, 8, 9, 10, 11, 12, 13, 14], [14]), ([15, 16, 0, 1, 2, 3, 4, 5, 6, 7, 8, 9, 10, 11, 12, 13, 14, 15, 16], [15])])) (B := [0, 1, 3, 7, 0, 0, 32, 96, 224, 0, 992, 2016, 4095, 8191, 16383, 16383, 32767, 131071]) (by kernel_rfl) (by kernel_rfl) (fun HT_ HW_ => ?_)
            refine pd_ 0 86 1 HT_ ?_
            refine pd_ 1 87 3 HT_ ?_
            refine pd_ 2 88 7 HT_ ?_
            refine pd_ 4 90 23 HT_ ?_
            refine pd_ 5 91 55 HT_ ?_
            refine pd_ 6 92 119 HT_ ?_
            refine pd_ 7 93 247 HT_ ?_
            refine pd_ 9 95 759 HT_ ?_
            refine tk_ 3 89 767 HT_ HW_ hHeld ?_
            refine tk_ 8 94 1023 HT_ HW_ hHeld ?_
            refine pd_ 10 96 2047 HT_ ?_
            refine tk_ 11 97 4095 HT_ HW_ hHeld ?_
            refine la_ 12 (some 98) 8191 HT_ (fun K hK => ?_)
            refine ca_ Tryz.func51 #[.agg #[.int .i64 n, .slice A xs.length c], .slice Al l.length cl, .agg #[.int .i64 p.f0, .int .i64 p.f1]] ?_
            refine (QS.spec_l02With.calls kw n A c xs Al cl l p.f0 p.f1 q true _ (Kd.C_below HR.out HS9.out.drew.hb) HC.out (Kd.R_reads' (Kd.R_drew HL9.out)).2.2 (Kd.R_reads' HL9.out).2.1 HKW.out).mono ?_; rintro e w5 ⟨v5, rfl, hv, hb⟩; have hb0 : Below W9.heap.size W9 w5 := (below_drew (Below.refl _ _)).trans hb; have HV5 := Aside0.mk (Kd.R_lower hv HS9.out.drew.hb.size); have HS5 := Aside0.mk (HS9.out.below hb0); have HL5 := Aside0.mk (Kd.R_below HL9.out hb0); have HK5 := Aside0.mk (HK9.out.trans (KeepT.below hb0)); clear hv hb hb0 HS9 HL9 HK9 hp0 hp1 hk0 hk1 hc2
            refine ⟨_, rfl, ?_⟩
            refine hK.out _ _ ?_
            clear hK K
            refine nm_ ?_
            refine pd_ 13 85 16383 HT_ ?_
            refine pd_ 14 99 32767 HT_ ?_
            refine pd_ 15 100 65535 HT_ ?_
            refine pd_ 16 7 131071 HT_ ?_
            refine pd_ 17 8 262143 HT_ ?_
            refine dn_ HT_ ?_
            obtain ⟨A5, c5, rfl⟩ := Kd.R_slice HV5.out
            go_wp2_with (first
              | (go_at_call 55; refine (QS.spec_l02Acyclic.calls ka A5 c5 q true _ (Kd.R_reads' HV5.out).2.2 (Kd.R_reads' HV5.out).2.1 HKA.out).mono ?_; rintro e w6 ⟨rfl, hb⟩; have HS6 := Aside0.mk (HS5.out.below hb); have HL6 := Aside0.mk (Kd.R_below HL5.out hb); have HK6 := Aside0.mk (HK5.out.trans (KeepT.below hb)); have HV6 := Aside0.mk (Kd.R_below HV5.out hb); clear hb HS5 HL5 HK5 HV5)
              | (go_at_call 30; refine (HIH.out (all.length - j1) (by have := HD.out; have := HJ1.out; omega) q s _ j1 _ _ _ _ HS6.out HGV.out HV6.out HPQ.out (by have := HJ1.out; omega) rfl).mono ?_; rw [HQ.out] at HRN; rintro e w7 ⟨rfl, ⟨vb7, vf7, vs7, hs⟩, hg, hk⟩; have HS8 := Aside0.mk hs; have HG8 := Aside0.mk hg; have HL8 := Aside0.mk (PO.keep HL6.out hk); have HK8 := Aside0.mk (HK6.out.trans hk); clear hs hg hk HS6 HL6 HK6 HV6 HGV))
            have hj1 := HJ1.out
            exact ⟨⟨j1, _, _, _, _, by omega, by omega, by go_num, HRN, HS8, HG8, HL8, HK8⟩, by simp [intOf]; omega⟩
      · obtain rfl : j = all.length := by omega
        have hltz : ¬ (all.length : Int) < (all.length : Int) := by omega
        have hR := HR0.out
        rw [subs_end (Nat.le_refl _)] at hR
        subst hR
        clear HR0
        go_wp2
        exact bodyPost_end (results_none rfl _ _ _) rfl ⟨rfl, ⟨_, _, _, HS.out⟩, HGV.out, HK.out⟩
  · have HU : Aside0 (updG xs ⟨ct, mo, be, fo⟩ l = ⟨c1, mo, be, putV fo (numL xs l)⟩) := ⟨by unfold updG; simp only [if_neg hgt, HC1.out]⟩
    go_upto_region 4 with fail
    clear hc5 hc1
    have HS4 := HS1
    have HK4 := HK1
    have HL4 := HL1
    clear HS1 HK1 HL1
    generalize W1 = W4 at HS4 HK4 HL4 ⊢
    have hc7 := HS4.out.c7
    go_upto_region 5 with fail
    clear hc7
    have HUU : Aside0 (R = (subsL xs (all.drop i) l).foldl (updG xs) _) := ⟨HR0.out.trans (by rw [HU.out])⟩
    clear HR0 HU
    obtain ⟨Af, cf, rfl⟩ := HS4.out.rv.slice
    have hc8 := HS4.out.c8
    have hk0 := HS4.out.c0
    have hk1 := HS4.out.c1
    obtain ⟨kn, hkn⟩ := (ev_numbers HI.out (l := l) (by omega)).rounds
    have HKN : Aside0 (QS.spec_l02Numbers.f kn n xs l = some (numL xs l)) := ⟨hkn⟩
    have HNG := Aside0.mk (num_good HI.out l)
    have HFL : Aside0 (vs.length ≤ 137438953472) := ⟨by have h1 := HS4.out.ri.1; have h2 := HGV.out.len (dimN_le xs); simp only at h2; omega⟩
    have HNL : Aside0 ((numL xs l).length ≤ 1000) := ⟨by rw [HNG.out.1]; have := dimN_le xs; omega⟩
    clear hkn
    refine st_ 15 (S := fun w' => w'.cell? ⟨y, 8, none⟩ = some (.slice Af vs.length cf) ∧ w'.cell? ⟨y, 0, none⟩ = some (.int .i64 n) ∧ w'.cell? ⟨y, 1, none⟩ = some (.slice A xs.length c)) (ds := [14]) ⟨hc8, hk0, hk1⟩ (fun hHeld => ?_)
    refine with_tabW (T := (true, [([], []), ([], []), ([1], [1]), ([2], [2]), ([3], [3]), ([], []), ([5], [5]), ([6], [6]), ([7], [7]), ([], []), ([8, 9], [8, 9]), ([4, 10, 10], [4, 10]), ([0, 0, 1, 2, 3, 4, 5, 6, 7, 8, 9, 10, 11], [0]), ([12, 0, 1, 2, 3, 4, 5, 6, 7, 8, 9, 10, 11], [12]), ([13, 11, 11, 0, 1, 2, 3, 4, 5, 6, 7, 8, 9, 10, 11], [11, 13])])) (B := [0, 0, 2, 6, 14, 0, 32, 96, 224, 0, 992, 2046, 4095, 8191, 16383]) (by kernel_rfl) (by kernel_rfl) (fun HT_ HW_ => ?_)
    refine pd_ 0 38 1 HT_ ?_
    refine pd_ 1 39 3 HT_ ?_
    refine pd_ 2 40 7 HT_ ?_
    refine pd_ 3 41 15 HT_ ?_
    refine pd_ 5 43 47 HT_ ?_
    refine pd_ 6 44 111 HT_ ?_
    refine pd_ 7 45 239 HT_ ?_
    refine pd_ 9 47 751 HT_ ?_
    refine tk_ 4 42 767 HT_ HW_ hHeld ?_
    refine tk_ 8 46 1023 HT_ HW_ hHeld ?_
    refine on_ 10 (some 48) 2047 HT_ (fun K hK => ?_)
    refine ca_ Tryz.func53 #[.agg #[.int .i64 n, .slice A xs.length c], .slice Al l.length cl] ?_
    refine (QS.spec_l02Numbers.calls kn n A c xs Al cl l (numL xs l) _ (Kd.C_below HR.out HS4.out.drew.hb) HC.out (Kd.R_reads' (Kd.R_drew HL4.out)).2.2 (Kd.R_reads' HL4.out).2.1 HKN.out).mono ?_; rintro e w5 ⟨v5, rfl, hv, hb⟩; have hb0 : Below W4.heap.size W4 w5 := (below_drew (Below.refl _ _)).trans hb; have HV5 := Aside0.mk (Kd.R_lower hv HS4.out.drew.hb.size); have HS5 := Aside0.mk (HS4.out.below hb0); have HL5 := Aside0.mk (Kd.R_below HL4.out hb0); have HK5 := Aside0.mk (HK4.out.trans (KeepT.below hb0)); clear hv hb hb0 HS4 HL4 HK4 hc8 hk0 hk1; obtain ⟨A5, c5, rfl⟩ := Kd.R_slice HV5.out
    refine ⟨_, rfl, ?_⟩
    refine hK.out _ _ ⟨HS5.out.c8, HS5.out.c0, HS5.out.c1⟩ (fun hHeld => ?_)
    clear hK K
    refine nm_ ?_
    refine on_ 11 (some 49) 4095 HT_ (fun K hK => ?_)
    refine ca_ Tryz.func52 #[.slice Af vs.length cf, .slice A5 (numL xs l).length c5] ?_
    refine (lput_c w0.heap.size Af cf vs fo A5 c5 (numL xs l) _ HS5.out.rv HS5.out.ri HV5.out (fun r hr => (HGV.out.2 r hr).1.trans HNG.out.1.symm) HNL.out HFL.out HS5.out.hb.size).mono ?_; rintro e w6 ⟨v6, us, rfl, hv, hi, hb⟩; obtain ⟨A6, c6, rfl⟩ := hv.slice; have HV6 := Aside0.mk hv; have HI6 := Aside0.mk hi; have HS6 := Aside0.mk (HS5.out.below hb); have HL6 := Aside0.mk (Kd.R_below HL5.out hb); have HK6 := Aside0.mk (HK5.out.trans (KeepT.below hb)); clear hv hi hb HS5 HL5 HK5 HV5
    refine ⟨_, rfl, ?_⟩
    refine hK.out _ _ ⟨HS6.out.c8, HS6.out.c0, HS6.out.c1⟩ (fun hHeld => ?_)
    clear hK K
    refine nm_ ?_
    refine pd_ 12 50 8191 HT_ ?_
    refine pd_ 13 51 16383 HT_ ?_
    refine la_ 14 none 32767 HT_ (fun K hK => ?_)
    (have hc8' := HS6.out.c8; have hf8' := HS6.out.fz 8; refine skip_ (by rfl) rfl (w1 := w6.setCell ⟨y, 8, none⟩ (.slice A6 us.length c6)) (by go_simp) ?_; clear hc8' hf8')
    refine hK.out _ _ ?_
    clear hK K
    refine dn_ HT_ ?_
    have HS7 := Aside0.mk (HS6.out.setFound HV6.out HI6.out)
    have HK7 := Aside0.mk (HK6.out.trans (HS6.out.keep 8 (.slice A6 us.length c6)))
    have HL7 := Aside0.mk (PO.keep HL6.out (HS6.out.keep 8 (.slice A6 us.length c6)))
    have HG7 := Aside0.mk (HGV.out.put HNG.out)
    simp only [] at HG7
    clear HS6 HK6 HL6 HV6 HI6 HGV HNG HNL HFL HKN
    generalize w6.setCell ⟨y, 8, none⟩ (.slice A6 us.length c6) = W7 at HS7 HK7 HL7 ⊢
    go_wp2
    go_loopw [6] (fun s6 wr => ∃ (j : Nat) (s : GoS) (vb vf : Value) (vs : List Value), j ≤ all.length ∧ i ≤ j ∧ s6 = .int .i64 j ∧ Aside0 (R = (subsL xs (all.drop j) l).foldl (updG xs) s) ∧ Aside0 (SS wr w0 y n A c xs.length (.slice Aa all.length ca) all vb s.best s.count s.most top true vf vs s.found) ∧ Aside0 (GoodV (dimN xs) s.found) ∧ Aside0 (PO wr w0.heap.size (.slice Al l.length cl) l) ∧ Aside0 (KeepT W wr)) (fun s6 _ => all.length - (intOf s6).toNat)
    case atStart => exact ⟨i, _, _, _, _, hil, Nat.le_refl _, rfl, HUU, HS7, HG7, HL7, HK7⟩
    case round =>
      clear HUU HS7 HG7 HL7 HK7
      obtain ⟨j, s, vb, vf, vs, hj, hij, rfl, HR0, HS, HGV, HL, HK⟩ := hrel
      have hc2 := HS.out.c2
      by_cases hlt : j < all.length
      · have hltz : (j : Int) < (all.length : Int) := by omega
        have hc7 := HS.out.c7
        go_upto_region 9 with fail
        refine st_ 23 (S := fun w' => w'.cell? ⟨y, 7, none⟩ = some (.bool true)) (ds := []) hc7 (fun hHeld => ?_)
        refine with_tabW (T := (true, [([], []), ([0], [0]), ([1], [1]), ([2], [2]), ([3], [3]), ([4], [4]), ([5], [5]), ([6, 5], [5, 6]), ([7, 5], [5, 7]), ([8, 5], [5, 8]), ([5], [5]), ([10, 5], [5, 10]), ([11, 5], [5, 11]), ([12, 5], [5, 12]), ([9, 13, 5], [5, 9, 13]), ([14, 5, 5], [5, 14]), ([15], [15]), ([15], [15]), ([15], [15]), ([16, 17, 18, 15, 15], [15, 16, 17, 18]), ([19, 15], [15, 19]), ([15, 20, 5], [5, 15, 20]), ([5, 21], [5, 21])])) (B := [0, 1, 3, 7, 15, 31, 63, 127, 255, 511, 63, 1087, 3135, 7231, 16383, 32767, 65535, 65535, 65535, 524287, 1048575, 2097151, 4194303]) (by kernel_rfl) (by kernel_rfl) (fun HT_ HW_ => ?_)
        refine pd_ 0 62 1 HT_ ?_
        refine pd_ 1 63 3 HT_ ?_
        refine pd_ 2 64 7 HT_ ?_
        refine tk_ 3 65 15 HT_ HW_ hHeld ?_
        refine pd_ 4 66 31 HT_ ?_
        refine pd_ 5 67 63 HT_ ?_
        refine pn_ 6 68 127 HT_ ?_
        refine pn_ 7 69 255 HT_ ?_
        refine pn_ 8 70 511 HT_ ?_
        refine pn_ 9 71 1023 HT_ ?_
        refine pn_ 10 72 2047 HT_ ?_
        refine pn_ 11 73 4095 HT_ ?_
        refine pn_ 12 74 8191 HT_ ?_
        refine pn_ 13 75 16383 HT_ ?_
        refine pn_ 14 76 32767 HT_ ?_
        refine pn_ 15 77 65535 HT_ ?_
        refine pn_ 16 78 131071 HT_ ?_
        refine pn_ 17 79 262143 HT_ ?_
        refine pn_ 18 80 524287 HT_ ?_
        refine pn_ 19 81 1048575 HT_ ?_
        refine pn_ 20 82 2097151 HT_ ?_
        refine pn_ 21 83 4194303 HT_ ?_
        refine pd_ 22 84 8388607 HT_ ?_
        refine dn_ HT_ ?_
        clear hc7 hc2
        go_upto_region 10 with fail
        have HS9 := Aside0.mk HS.out.drew
        have HL9 := Aside0.mk (Kd.R_drew HL.out)
        have HK9 := Aside0.mk (HK.out.trans (KeepT.below (below_drew (Below.refl _ _))))
        clear HS HL HK
        generalize wr.drew = W9 at HS9 HL9 HK9 ⊢
        obtain ⟨ad, rfl, hp0, hp1⟩ := at_T62 (Kd.R_reads' HS9.out.ra).2.2 (j : Int) (by omega) (by omega)
        obtain ⟨p, hp⟩ : ∃ p, rd_T62 all (j : Int) = p := ⟨_, rfl⟩
        have hpj : all[j] = p := by rw [← rdP_at hlt, hp]
        rw [hp, show ((j : Int)).toNat = j by omega] at hp0 hp1
        have hk0 := HS9.out.c0
        have hk1 := HS9.out.c1
        have hc2 := HS9.out.c2
        obtain ⟨j1, hj1⟩ : ∃ j1 : Nat, j1 = j + 1 := ⟨_, rfl⟩
        have hw1 : IntKind.i64.wrap ((j : Int) + 1) = (j1 : Int) := by rw [IntKind.wrap_i64]; omega
        have HJ1 := Aside0.mk hj1
        obtain ⟨kw, hkw⟩ := (ev_with HI.out (sorted_of HPL.out) (by omega) p).rounds
        have HKW := Aside0.mk hkw
        obtain ⟨q, hq⟩ : ∃ q, withP l p = q := ⟨_, rfl⟩
        rw [hq] at HKW
        have HPJ := Aside0.mk hpj
        have HQ := Aside0.mk hq
        clear hkw hp hpj hj1 hq
        cases hpb : pairingB xs q with
        | false =>
          have HOK : Aside0 (okP xs l p = false) := ⟨by unfold okP; rw [HQ.out, hpb]; rfl⟩
          rw [hpb] at HKW
          clear hpb
          have HRN := Aside0.mk (HR0.out.trans (by rw [subs_no hlt (by rw [HPJ.out]; exact HOK.out), ← HJ1.out]))
          clear HR0 HOK
          refine st_ 18 (S := fun w' => w'.cell? ⟨y, 0, none⟩ = some (.int .i64 n) ∧ w'.cell? ⟨y, 1, none⟩ = some (.slice A xs.length c) ∧ w'.cell? ⟨y, 2, none⟩ = some (.slice (some ad) all.length ca) ∧ w'.cell? (ad.add (j * 2)) = some (.int .i64 p.f0) ∧ w'.cell? ⟨(ad.add (j * 2)).block, (ad.add (j * 2)).off + 1, none⟩ = some (.int .i64 p.f1)) (ds := [12]) ⟨hk0, hk1, hc2, hp0, hp1⟩ (fun hHeld => ?_)
          refine with_tabW (T := (true, [([], []), ([0], [0]), ([1], [1]), ([2], [2]), ([], []), ([], []), ([5], [5]), ([6], [6]), ([7], [7]), ([], []), ([8, 9], [8, 9]), ([10], [10]), ([3, 4, 11], [3, 4, 11]), ([12], [12]), ([13], [13]), ([13], [13]), ([14, 12, 0, 1, 2, 3, 4, 5, 6, 7, 8, 9, 10, 11, 12, 13, 14], [14]), ([15, 16, 0, 1, 2, 3, 4, 5, 6, 7, 8, 9, 10, 11, 12, 13, 14, 15, 16], [15])])) (B := [0, 1, 3, 7, 0, 0, 32, 96, 224, 0, 992, 2016, 4095, 8191, 16383, 16383, 32767, 131071]) (by kernel_rfl) (by kernel_rfl) (fun HT_ HW_ => ?_)
          refine pd_ 0 86 1 HT_ ?_
          refine pd_ 1 87 3 HT_ ?_
          refine pd_ 2 88 7 HT_ ?_
          refine pd_ 4 90 23 HT_ ?_
          refine pd_ 5 91 55 HT_ ?_
          refine pd_ 6 92 119 HT_ ?_
          refine pd_ 7 93 247 HT_ ?_
          refine pd_ 9 95 759 HT_ ?_
          refine tk_ 3 89 767 HT_ HW_ hHeld ?_
          refine tk_ 8 94 1023 HT_ HW_ hHeld ?_
          refine pd_ 10 96 2047 HT_ ?_
          refine tk_ 11 97 4095 HT_ HW_ hHeld ?_
          refine la_ 12 (some 98) 8191 HT_ (fun K hK => ?_)
          refine ca_ Tryz.func51 #[.agg #[.int .i64 n, .slice A xs.length c], .slice Al l.length cl, .agg #[.int .i64 p.f0, .int .i64 p.f1]] ?_
          refine (QS.spec_l02With.calls kw n A c xs Al cl l p.f0 p.f1 q false _ (Kd.C_below HR.out HS9.out.drew.hb) HC.out (Kd.R_reads' (Kd.R_drew HL9.out)).2.2 (Kd.R_reads' HL9.out).2.1 HKW.out).mono ?_; rintro e w5 ⟨v5, rfl, hv, hb⟩; have hb0 : Below W9.heap.size W9 w5 := (below_drew (Below.refl _ _)).trans hb; have HV5 := Aside0.mk (Kd.R_lower hv HS9.out.drew.hb.size); have HS5 := Aside0.mk (HS9.out.below hb0); have HL5 := Aside0.mk (Kd.R_below HL9.out hb0); have HK5 := Aside0.mk (HK9.out.trans (KeepT.below hb0)); clear hv hb hb0 HS9 HL9 HK9 hp0 hp1 hk0 hk1 hc2
          refine ⟨_, rfl, ?_⟩
          refine hK.out _ _ ?_
          clear hK K
          refine nm_ ?_
          refine pd_ 13 85 16383 HT_ ?_
          refine pd_ 14 99 32767 HT_ ?_
          refine pd_ 15 100 65535 HT_ ?_
          refine pd_ 16 7 131071 HT_ ?_
          refine pd_ 17 8 262143 HT_ ?_
          refine dn_ HT_ ?_
          go_wp2
          have hj1 := HJ1.out
          exact ⟨⟨j1, s, _, _, _, by omega, by omega, by go_num, HRN, HS5, HGV, HL5, HK5⟩, by simp [intOf]; omega⟩
        | true =>
          rw [hpb] at HKW
          have hql := pairing_len HI.out hpb
          obtain ⟨ka, hka⟩ := (ev_acyclic (l := q) (by omega) (facesP_of HI.out hpb)).rounds
          have HPQ := Aside0.mk hpb
          have HKA := Aside0.mk hka
          clear hpb hka hql
          cases hab : acycB q with
          | false =>
            have HOK : Aside0 (okP xs l p = false) := ⟨by unfold okP; rw [HQ.out, HPQ.out, hab]; rfl⟩
            rw [hab] at HKA
            clear hab
            have HRN := Aside0.mk (HR0.out.trans (by rw [subs_no hlt (by rw [HPJ.out]; exact HOK.out), ← HJ1.out]))
            clear HR0 HOK
            refine st_ 18 (S := fun w' => w'.cell? ⟨y, 0, none⟩ = some (.int .i64 n) ∧ w'.cell? ⟨y, 1, none⟩ = some (.slice A xs.length c) ∧ w'.cell? ⟨y, 2, none⟩ = some (.slice (some ad) all.length ca) ∧ w'.cell? (ad.add (j * 2)) = some (.int .i64 p.f0) ∧ w'.cell? ⟨(ad.add (j * 2)).block, (ad.add (j * 2)).off + 1, none⟩ = some (.int .i64 p.f1)) (ds := [12]) ⟨hk0, hk1, hc2, hp0, hp1⟩ (fun hHeld => ?_)
            refine with_tabW (T := (true, [([], []), ([0], [0]), ([1], [1]), ([2], [2]), ([], []), ([], []), ([5], [5]), ([6], [6]), ([7], [7]), ([], []), ([8, 9], [8, 9]), ([10], [10]), ([3, 4, 11], [3, 4, 11]), ([12], [12]), ([13], [13]), ([13], [13]), ([14, 12, 0, 1, 2, 3, 4, 5, 6, 7, 8, 9, 10, 11, 12, 13, 14], [14]), ([15, 16, 0, 1, 2, 3, 4, 5, 6, 7, 8, 9, 10, 11, 12, 13, 14, 15, 16], [15])])) (B := [0, 1, 3, 7, 0, 0, 32, 96, 224, 0, 992, 2016, 4095, 8191, 16383, 16383, 32767, 131071]) (by kernel_rfl) (by kernel_rfl) (fun HT_ HW_ => ?_)
            refine pd_ 0 86 1 HT_ ?_
            refine pd_ 1 87 3 HT_ ?_
            refine pd_ 2 88 7 HT_ ?_
            refine pd_ 4 90 23 HT_ ?_
            refine pd_ 5 91 55 HT_ ?_
            refine pd_ 6 92 119 HT_ ?_
            refine pd_ 7 93 247 HT_ ?_
            refine pd_ 9 95 759 HT_ ?_
            refine tk_ 3 89 767 HT_ HW_ hHeld ?_
            refine tk_ 8 94 1023 HT_ HW_ hHeld ?_
            refine pd_ 10 96 2047 HT_ ?_
            refine tk_ 11 97 4095 HT_ HW_ hHeld ?_
            refine la_ 12 (some 98) 8191 HT_ (fun K hK => ?_)
            refine ca_ Tryz.func51 #[.agg #[.int .i64 n, .slice A xs.length c], .slice Al l.length cl, .agg #[.int .i64 p.f0, .int .i64 p.f1]] ?_
            refine (QS.spec_l02With.calls kw n A c xs Al cl l p.f0 p.f1 q true _ (Kd.C_below HR.out HS9.out.drew.hb) HC.out (Kd.R_reads' (Kd.R_drew HL9.out)).2.2 (Kd.R_reads' HL9.out).2.1 HKW.out).mono ?_; rintro e w5 ⟨v5, rfl, hv, hb⟩; have hb0 : Below W9.heap.size W9 w5 := (below_drew (Below.refl _ _)).trans hb; have HV5 := Aside0.mk (Kd.R_lower hv HS9.out.drew.hb.size); have HS5 := Aside0.mk (HS9.out.below hb0); have HL5 := Aside0.mk (Kd.R_below HL9.out hb0); have HK5 := Aside0.mk (HK9.out.trans (KeepT.below hb0)); clear hv hb hb0 HS9 HL9 HK9 hp0 hp1 hk0 hk1 hc2
            refine ⟨_, rfl, ?_⟩
            refine hK.out _ _ ?_
            clear hK K
            refine nm_ ?_
            refine pd_ 13 85 16383 HT_ ?_
            refine pd_ 14 99 32767 HT_ ?_
            refine pd_ 15 100 65535 HT_ ?_
            refine pd_ 16 7 131071 HT_ ?_
            refine pd_ 17 8 262143 HT_ ?_
            refine dn_ HT_ ?_
            obtain ⟨A5, c5, rfl⟩ := Kd.R_slice HV5.out
            go_wp2_with (go_at_call 55; refine (QS.spec_l02Acyclic.calls ka A5 c5 q false _ (Kd.R_reads' HV5.out).2.2 (Kd.R_reads' HV5.out).2.1 HKA.out).mono ?_; rintro e w6 ⟨rfl, hb⟩; have HS6 := Aside0.mk (HS5.out.below hb); have HL6 := Aside0.mk (Kd.R_below HL5.out hb); have HK6 := Aside0.mk (HK5.out.trans (KeepT.below hb)); clear hb HS5 HL5 HK5)
            have hj1 := HJ1.out
            exact ⟨⟨j1, s, _, _, _, by omega, by omega, by go_num, HRN, HS6, HGV, HL6, HK6⟩, by simp [intOf]; omega⟩
          | true =>
            have HOK : Aside0 (okP xs l p = true) := ⟨by unfold okP; rw [HQ.out, HPQ.out, hab]; rfl⟩
            rw [hab] at HKA
            clear hab
            have HRN := Aside0.mk (HR0.out.trans (by rw [subs_yes hlt (by rw [HPJ.out]; exact HOK.out), HPJ.out, ← HJ1.out]))
            clear HR0 HOK
            refine st_ 18 (S := fun w' => w'.cell? ⟨y, 0, none⟩ = some (.int .i64 n) ∧ w'.cell? ⟨y, 1, none⟩ = some (.slice A xs.length c) ∧ w'.cell? ⟨y, 2, none⟩ = some (.slice (some ad) all.length ca) ∧ w'.cell? (ad.add (j * 2)) = some (.int .i64 p.f0) ∧ w'.cell? ⟨(ad.add (j * 2)).block, (ad.add (j * 2)).off + 1, none⟩ = some (.int .i64 p.f1)) (ds := [12]) ⟨hk0, hk1, hc2, hp0, hp1⟩ (fun hHeld => ?_)
            refine with_tabW (T := (true, [([], []), ([0], [0]), ([1], [1]), ([2], [2]), ([], []), ([], []), ([5], [5]), ([6], [6]), ([7], [7]), ([], []), ([8, 9], [8, 9]), ([10], [10]), ([3, 4, 11], [3, 4, 11]), ([12], [12]), ([13], [13]), ([13], [13]), ([14, 12, 0, 1, 2, 3, 4, 5, 6, 7, 8, 9, 10, 11, 12, 13, 14], [14]), ([15, 16, 0, 1, 2, 3, 4, 5, 6, 7, 8, 9, 10, 11, 12, 13, 14, 15, 16], [15])])) (B := [0, 1, 3, 7, 0, 0, 32, 96, 224, 0, 992, 2016, 4095, 8191, 16383, 16383, 32767, 131071]) (by kernel_rfl) (by kernel_rfl) (fun HT_ HW_ => ?_)
            refine pd_ 0 86 1 HT_ ?_
            refine pd_ 1 87 3 HT_ ?_
            refine pd_ 2 88 7 HT_ ?_
            refine pd_ 4 90 23 HT_ ?_
            refine pd_ 5 91 55 HT_ ?_
            refine pd_ 6 92 119 HT_ ?_
            refine pd_ 7 93 247 HT_ ?_
            refine pd_ 9 95 759 HT_ ?_
            refine tk_ 3 89 767 HT_ HW_ hHeld ?_
            refine tk_ 8 94 1023 HT_ HW_ hHeld ?_
            refine pd_ 10 96 2047 HT_ ?_
            refine tk_ 11 97 4095 HT_ HW_ hHeld ?_
            refine la_ 12 (some 98) 8191 HT_ (fun K hK => ?_)
            refine ca_ Tryz.func51 #[.agg #[.int .i64 n, .slice A xs.length c], .slice Al l.length cl, .agg #[.int .i64 p.f0, .int .i64 p.f1]] ?_
            refine (QS.spec_l02With.calls kw n A c xs Al cl l p.f0 p.f1 q true _ (Kd.C_below HR.out HS9.out.drew.hb) HC.out (Kd.R_reads' (Kd.R_drew HL9.out)).2.2 (Kd.R_reads' HL9.out).2.1 HKW.out).mono ?_; rintro e w5 ⟨v5, rfl, hv, hb⟩; have hb0 : Below W9.heap.size W9 w5 := (below_drew (Below.refl _ _)).trans hb; have HV5 := Aside0.mk (Kd.R_lower hv HS9.out.drew.hb.size); have HS5 := Aside0.mk (HS9.out.below hb0); have HL5 := Aside0.mk (Kd.R_below HL9.out hb0); have HK5 := Aside0.mk (HK9.out.trans (KeepT.below hb0)); clear hv hb hb0 HS9 HL9 HK9 hp0 hp1 hk0 hk1 hc2
            refine ⟨_, rfl, ?_⟩
            refine hK.out _ _ ?_
            clear hK K
            refine nm_ ?_
            refine pd_ 13 85 16383 HT_ ?_
            refine pd_ 14 99 32767 HT_ ?_
            refine pd_ 15 100 65535 HT_ ?_
            refine pd_ 16 7 131071 HT_ ?_
            refine pd_ 17 8 262143 HT_ ?_
            refine dn_ HT_ ?_
            obtain ⟨A5, c5, rfl⟩ := Kd.R_slice HV5.out
            go_wp2_with (first
              | (go_at_call 55; refine (QS.spec_l02Acyclic.calls ka A5 c5 q true _ (Kd.R_reads' HV5.out).2.2 (Kd.R_reads' HV5.out).2.1 HKA.out).mono ?_; rintro e w6 ⟨rfl, hb⟩; have HS6 := Aside0.mk (HS5.out.below hb); have HL6 := Aside0.mk (Kd.R_below HL5.out hb); have HK6 := Aside0.mk (HK5.out.trans (KeepT.below hb)); have HV6 := Aside0.mk (Kd.R_below HV5.out hb); clear hb HS5 HL5 HK5 HV5)
              | (go_at_call 30; refine (HIH.out (all.length - j1) (by have := HD.out; have := HJ1.out; omega) q s _ j1 _ _ _ _ HS6.out HGV.out HV6.out HPQ.out (by have := HJ1.out; omega) rfl).mono ?_; rw [HQ.out] at HRN; rintro e w7 ⟨rfl, ⟨vb7, vf7, vs7, hs⟩, hg, hk⟩; have HS8 := Aside0.mk hs; have HG8 := Aside0.mk hg; have HL8 := Aside0.mk (PO.keep HL6.out hk); have HK8 := Aside0.mk (HK6.out.trans hk); clear hs hg hk HS6 HL6 HK6 HV6 HGV))
            have hj1 := HJ1.out
            exact ⟨⟨j1, _, _, _, _, by omega, by omega, by go_num, HRN, HS8, HG8, HL8, HK8⟩, by simp [intOf]; omega⟩
      · obtain rfl : j = all.length := by omega
        have hltz : ¬ (all.length : Int) < (all.length : Int) := by omega
        have hR := HR0.out
        rw [subs_end (Nat.le_refl _)] at hR
        subst hR
        clear HR0
        go_wp2
        exact bodyPost_end (results_none rfl _ _ _) rfl ⟨rfl, ⟨_, _, _, HS.out⟩, HGV.out, HK.out⟩
end Go.Proofs.YtdlmlmaoacmdiaaGreat.Im
namespace Go.Proofs.YtdlmlmaoacmdiaaGreat.Im
open Go.RowKit Go.Shelf Cw YtdlmlmaoacmdiaaGreatW.PrintWords YtdlmlmaoacmdiaaGreatW.PrintLast YtdlmlmaoacmdiaaGreatW.PrintMore
section
variable {P : Program} {ops : Array Oper} {Q : Exit → Act → World → Prop} {S : World → Prop} {ds : List Nat} {md : Region.Mode} {T : Bool × List (List Nat × List Nat)} {n m fuel : Nat} {a : Act} {w : World} {oi oj ok : Oper}
theorem tr_ (i j k : Nat) (Ni Nj Nk : Option Tmp) (mi mj mk : Nat) (hT : Aside0 (rtab md ops = T))
    (h1 : ∀ K : Act → World → Prop, Shut (∀ a' w', S w' → (S w' → wpAnyLast P md ops Q S ds fuel (mB n mi) a' w') → K a' w') → if Region.wanted oi (yielded ops a.tmps) = true then Oper.wp P oi a w K Q else K (a.put Ni undef) w)
    (h2 : ∀ K : Act → World → Prop, Shut (∀ a' w', S w' → (S w' → wpAnyLast P md ops Q S ds fuel (mB n mj) a' w') → K a' w') → if Region.wanted oj (yielded ops a.tmps) = true then Oper.wp P oj a w K Q else K (a.put Nj undef) w)
    (h3 : ∀ K : Act → World → Prop, Shut (∀ a' w', S w' → (S w' → wpAnyLast P md ops Q S ds fuel (mB n mk) a' w') → K a' w') → if Region.wanted ok (yielded ops a.tmps) = true then Oper.wp P ok a w K Q else K (a.put Nk undef) w)
    (hi : ops[i]? = some oi := by rfl) (hj : ops[j]? = some oj := by rfl) (hk : ops[k]? = some ok := by rfl) (hNi : oi.dst = Ni := by rfl) (hNj : oj.dst = Nj := by rfl) (hNk : ok.dst = Nk := by rfl)
    (hc : (readyT T.2 (mB n m).toList == [i, j, k] && (mB n m).toList.set i true == (mB n mi).toList && (mB n m).toList.set j true == (mB n mj).toList && (mB n m).toList.set k true == (mB n mk).toList) = true := by kernel_rfl) (hdi : i ∉ ds := by decide) (hdj : j ∉ ds := by decide) (hdk : k ∉ ds := by decide) :
    wpAnyLast P md ops Q S ds (fuel + 1) (mB n m) a w := three_ (mB n mi) (mB n mj) (mB n mk) hi hj hk hNi hNj hNk (three_of hT.out hc) hdi hdj hdk h1 h2 h3
end
end Go.Proofs.YtdlmlmaoacmdiaaGreat.Im
namespace Go.Proofs.YtdlmlmaoacmdiaaGreat.QS
open Cw Kp Ext Go.RowKit YtdlmlmaoacmdiaaGreatW.PrintWords YtdlmlmaoacmdiaaGreatW.PrintLast YtdlmlmaoacmdiaaGreatW.PrintMore
attribute [local go_sem] max2_int min2_int max_two min_two max_three min_three max_four min_four   -- for this text's walks alone
def spec_l08Limit.f (k : Nat) (a0_0 : Int) (l0_1 : List Int) (a1 : Int) : Option (Int) := (spec_l01Is.f k a0_0 l0_1).bind fun t152 => (if t152 = true then (if (l0_1.length : Int) > a1 then (some 3) else (some 0)) else (some 1))
set_option maxHeartbeats 8000000 in
set_option maxRecDepth 100000 in
theorem spec_l08Limit.calls (k : Nat) (a0_0 : Int) (A0_1 : Option Addr) (c0_1 : Nat) (l0_1 : List Int) (a1 : Int) (r : Int) (w : World) (hr0_1 : Kd.C (Kd.int .i64) w A0_1 l0_1.length l0_1) (hc0_1 : l0_1.length ≤ c0_1) (h : spec_l08Limit.f k a0_0 l0_1 a1 = some r) :
  Calls Tryz.prog 14 #[.agg #[.int .i64 a0_0, .slice A0_1 l0_1.length c0_1], .int .i64 a1] w fun e w' => e = .returned (.int .i64 r) ∧ Below w.heap.size w w' := by
 have hu29 := Tryz.underlying29
 have HR0_1 := Aside0.mk hr0_1
 have HC0_1 := Aside0.mk hc0_1
 clear hr0_1 hc0_1
 have HB := Aside0.mk (Below.refl w.heap.size w)
 have H : ((spec_l01Is.f k a0_0 l0_1).bind fun t152 => (if t152 = true then (if (l0_1.length : Int) > a1 then (some 3) else (some 0)) else (some 1))) = some r := h
 clear h
 replace H := Option.bind_eq_some_iff.mp H
 obtain ⟨t152, A30, H⟩ := H
 try dsimp only at H
 have A3 := Aside0.mk A30
 clear A30
 by_cases c4 : t152 = true
 ·subst c4
  have H1 : (if (l0_1.length : Int) > a1 then (some 3) else (some 0)) = some r := by rw [if_pos rfl] at H; exact H
  clear H
  have H := H1
  clear H1
  by_cases c5 : (l0_1.length : Int) > a1
  ·rw [if_pos c5] at H
   have c5b0 : decide (a1 < (l0_1.length : Int)) = true := decide_eq_true c5
   clear c5
   obtain rfl := Option.some.inj H
   go_enter Tryz.func14, Tryz.ntmps14
   go_wp2_with (first | ((with_reducible refine gate_dst (N := 2) rfl ?_); refine box_event ?hg (N := 2) ?hd (cs := #[.int .i64 a0_0, .slice A0_1 l0_1.length c0_1]) (t := 29) ?hr ?_; (case hd => rfl); (case hg => rfl); (case hr => first | (go_simp; done) | (go_simp; rfl)); intro gb151 hg w6 hbox hb; have BK151 := Aside0.mk (hbox); have GW151 := gH HB hg; have GE151 := gH HB hg; replace HB := sH HB hb; clear hb hbox hg; have hcz7_0 : w6.cell? ⟨gb151, 0, none⟩ = some (.int .i64 a0_0) := cB BK151 0; have hcz7_1 : w6.cell? ⟨gb151, 1, none⟩ = some (.slice A0_1 l0_1.length c0_1) := cB BK151 1; have hfz7_0 := zB BK151 0; have hfz7_1 := zB BK151 1) | ((with_reducible refine gate_callee (f := 28) rfl ?_); refine cl_ (some 7) Tryz.func28 #[.agg #[.int .i64 a0_0, .slice A0_1 l0_1.length c0_1]] ?_; (with_reducible refine (spec_l01Is.calls k a0_0 _ _ l0_1 true _ ?side1 ?side2 A3.out).mono ?_); (case side1 => exact pC ((Kd.C_below HR0_1.out HB.out))); (case side2 => exact HC0_1.out); rintro e w8 ⟨rfl, hb⟩; refine ⟨_, rfl, ?_⟩; replace BK151 := sB BK151 hb; replace HB := sH HB hb; (try clear hb); (try clear hi); have hcz9_0 : w8.cell? ⟨gb151, 0, none⟩ = some (.int .i64 a0_0) := cB BK151 0; have hcz9_1 : w8.cell? ⟨gb151, 1, none⟩ = some (.slice A0_1 l0_1.length c0_1) := cB BK151 1; have hfz9_0 := zB BK151 0; have hfz9_1 := zB BK151 1))
   go_ret
   exact ⟨by first | rfl | (simp [errW_none, errW_some] <;> rfl) | (simp [*, errW_none, errW_some] <;> rfl) | (exfalso; simp_all), pH HB⟩
  ·rw [if_neg c5] at H
   have c5b0 : decide (a1 < (l0_1.length : Int)) = false := decide_eq_false c5
   clear c5
   obtain rfl := Option.some.inj H
   go_enter Tryz.func14, Tryz.ntmps14
   go_wp2_with (first | ((with_reducible refine gate_dst (N := 2) rfl ?_); refine box_event ?hg (N := 2) ?hd (cs := #[.int .i64 a0_0, .slice A0_1 l0_1.length c0_1]) (t := 29) ?hr ?_; (case hd => rfl); (case hg => rfl); (case hr => first | (go_simp; done) | (go_simp; rfl)); intro gb151 hg w10 hbox hb; have BK151 := Aside0.mk (hbox); have GW151 := gH HB hg; have GE151 := gH HB hg; replace HB := sH HB hb; clear hb hbox hg; have hcz11_0 : w10.cell? ⟨gb151, 0, none⟩ = some (.int .i64 a0_0) := cB BK151 0; have hcz11_1 : w10.cell? ⟨gb151, 1, none⟩ = some (.slice A0_1 l0_1.length c0_1) := cB BK151 1; have hfz11_0 := zB BK151 0; have hfz11_1 := zB BK151 1) | ((with_reducible refine gate_callee (f := 28) rfl ?_); refine cl_ (some 7) Tryz.func28 #[.agg #[.int .i64 a0_0, .slice A0_1 l0_1.length c0_1]] ?_; (with_reducible refine (spec_l01Is.calls k a0_0 _ _ l0_1 true _ ?side1 ?side2 A3.out).mono ?_); (case side1 => exact pC ((Kd.C_below HR0_1.out HB.out))); (case side2 => exact HC0_1.out); rintro e w12 ⟨rfl, hb⟩; refine ⟨_, rfl, ?_⟩; replace BK151 := sB BK151 hb; replace HB := sH HB hb; (try clear hb); (try clear hi); have hcz13_0 : w12.cell? ⟨gb151, 0, none⟩ = some (.int .i64 a0_0) := cB BK151 0; have hcz13_1 : w12.cell? ⟨gb151, 1, none⟩ = some (.slice A0_1 l0_1.length c0_1) := cB BK151 1; have hfz13_0 := zB BK151 0; have hfz13_1 := zB BK151 1))
   go_ret
   exact ⟨by first | rfl | (simp [errW_none, errW_some] <;> rfl) | (simp [*, errW_none, errW_some] <;> rfl) | (exfalso; simp_all), pH HB⟩
 ·replace c4 := Bool.eq_false_iff.mpr c4
  subst c4
  have H1 : (some 1) = some r := by rw [if_neg (show ¬ (false = true) by decide)] at H; exact H
  clear H
  have H := H1
  clear H1
  obtain rfl := Option.some.inj H
  go_enter Tryz.func14, Tryz.ntmps14
  go_wp2_with (first | ((with_reducible refine gate_dst (N := 2) rfl ?_); refine box_event ?hg (N := 2) ?hd (cs := #[.int .i64 a0_0, .slice A0_1 l0_1.length c0_1]) (t := 29) ?hr ?_; (case hd => rfl); (case hg => rfl); (case hr => first | (go_simp; done) | (go_simp; rfl)); intro gb151 hg w14 hbox hb; have BK151 := Aside0.mk (hbox); have GW151 := gH HB hg; have GE151 := gH HB hg; replace HB := sH HB hb; clear hb hbox hg; have hcz15_0 : w14.cell? ⟨gb151, 0, none⟩ = some (.int .i64 a0_0) := cB BK151 0; have hcz15_1 : w14.cell? ⟨gb151, 1, none⟩ = some (.slice A0_1 l0_1.length c0_1) := cB BK151 1; have hfz15_0 := zB BK151 0; have hfz15_1 := zB BK151 1) | ((with_reducible refine gate_callee (f := 28) rfl ?_); refine cl_ (some 7) Tryz.func28 #[.agg #[.int .i64 a0_0, .slice A0_1 l0_1.length c0_1]] ?_; (with_reducible refine (spec_l01Is.calls k a0_0 _ _ l0_1 false _ ?side1 ?side2 A3.out).mono ?_); (case side1 => exact pC ((Kd.C_below HR0_1.out HB.out))); (case side2 => exact HC0_1.out); rintro e w16 ⟨rfl, hb⟩; refine ⟨_, rfl, ?_⟩; replace BK151 := sB BK151 hb; replace HB := sH HB hb; (try clear hb); (try clear hi)))
  go_ret
  exact ⟨by first | rfl | (simp [errW_none, errW_some] <;> rfl) | (simp [*, errW_none, errW_some] <;> rfl) | (exfalso; simp_all), pH HB⟩
end Go.Proofs.YtdlmlmaoacmdiaaGreat.QS
