/- dominated, DominatedVertices. -/
import Derived.Test.YtdkoioiiacljeaaQKx1
namespace Go.Proofs.Ytdkoioiiacljeaa.Im
set_option linter.unusedVariables false
set_option linter.unusedSimpArgs false
open Go.RowKit Go.Shelf Go.Proofs.Ytdkoioiiacljeaa.QK Go.Proofs.Ytdkoioiiacljeaa.Ext Go.Proofs.YtdkoioiiacljeaaW.PrintWords Go.Proofs.YtdkoioiiacljeaaW.PrintLast Go.Proofs.YtdkoioiiacljeaaW.PrintMore

def meetZ (v : Nat) (fs : List Int) (a : Int) : Int := fs.foldl (fun a x => if noBit v x then a else Go.bits .and .i64 a x) a
def domB (n : Int) (l : List Int) (v : Nat) : Bool := decide ((2 : Int) ^ v ∈ l) && !(meetZ v (facetsL l) (fullZ n) == 2 ^ v)
def domL (n : Int) (l : List Int) : List Int := ((List.range' 0 n.toNat).filter (domB n l)).map (fun v : Nat => (v : Int))
theorem shl_v {v : Nat} (hv : v ≤ 5) : shl .i64 1 (v : Int) = 2 ^ v := by
  obtain rfl | rfl | rfl | rfl | rfl | rfl : v = 0 ∨ v = 1 ∨ v = 2 ∨ v = 3 ∨ v = 4 ∨ v = 5 := by omega
  all_goals decide +kernel
theorem bit_v_all : ((List.range 6).all fun v => (List.range 64).all fun x => decide (Go.bits .and .i64 (shr .i64 (x : Int) (v : Int)) 1 = 1) == (noBit v (x : Int) == false)) = true := by decide +kernel
theorem bit_v {v : Nat} (hv : v ≤ 5) {x : Int} (h0 : 0 ≤ x) (h6 : x ≤ 63) : Go.bits .and .i64 (shr .i64 x (v : Int)) 1 = 1 ↔ noBit v x = false := by
  obtain ⟨m, rfl⟩ := Int.eq_ofNat_of_zero_le h0
  have h2 := eq_of_beq (List.all_eq_true.1 (List.all_eq_true.1 bit_v_all v (List.mem_range.2 (by omega))) m (List.mem_range.2 (by omega)))
  cases hq : noBit v (m : Int) <;> rw [hq] at h2 <;> simpa using h2
theorem full_f {n : Int} (h1 : 1 ≤ n) (h6 : n ≤ 6) (l : List Int) : impl_Complex_full.f n l = some (fullZ n) := by
  obtain rfl | rfl | rfl | rfl | rfl | rfl : n = 1 ∨ n = 2 ∨ n = 3 ∨ n = 4 ∨ n = 5 ∨ n = 6 := by omega
  all_goals
    unfold impl_Complex_full.f
    rw [if_pos (by omega)]
    decide +kernel

theorem dom_l1 (n : Int) (l fs : List Int) (hl : fs.length ≤ 64) (hr : ∀ x ∈ fs, 1 ≤ x ∧ x ≤ 63) (v : Nat) (hv : v ≤ 5) (acc : List Int) (ha : acc.length ≤ 64) (x12 : Int) (R : List Int) :
    ∀ d (i : Nat) (a : Int), fs.length - i = d → i ≤ fs.length → Ev (fun k => if meetZ v (fs.drop i) a = 2 ^ v then impl_Complex_dominated.l0 k fs acc x12 ((v + 1 : Nat) : Int) n l else impl_Complex_dominated.l0 k fs (acc ++ [(v : Int)]) x12 ((v + 1 : Nat) : Int) n l) R →
    Ev (fun k => impl_Complex_dominated.l1 k fs acc v a x12 v fs (fs.length : Int) i n l) R := by
  have hwv : wrap64 ((v : Int) + 1) = ((v + 1 : Nat) : Int) := by rw [w64' (by omega) (by omega)]; omega
  intro d
  induction d with
  | zero =>
    intro i a hd hi hR
    rw [List.drop_eq_nil_of_le (by omega)] at hR
    refine Ev.step (f := fun k => if meetZ v [] a = 2 ^ v then impl_Complex_dominated.l0 k fs acc x12 ((v + 1 : Nat) : Int) n l else impl_Complex_dominated.l0 k fs (acc ++ [(v : Int)]) x12 ((v + 1 : Nat) : Int) n l) (fun k => ?_) hR
    simp only [impl_Complex_dominated.l1]
    rw [if_neg (by omega), if_pos (by omega), shl_v hv, hwv, if_pos (show acc.length < 17592186044416 by omega)]
    rfl
  | succ d ih =>
    intro i a hd hi hR
    have hi' : i < fs.length := by omega
    have hx := hr _ (List.getElem_mem hi')
    have hw : wrap64 ((i : Int) + 1) = ((i + 1 : Nat) : Int) := by rw [w64' (by omega) (by omega)]; omega
    have hb := bit_v hv (x := fs[i]) (by omega) (by omega)
    rw [List.drop_eq_getElem_cons hi'] at hR
    cases hq : noBit v fs[i] with
    | true =>
      refine Ev.step (f := fun k => impl_Complex_dominated.l1 k fs acc v a x12 v fs (fs.length : Int) ((i + 1 : Nat) : Int) n l) (fun k => ?_) (ih (i + 1) a (by omega) (by omega) ?_)
      · simp only [impl_Complex_dominated.l1]
        rw [if_pos (by omega), if_pos (by omega), if_pos (by omega), if_pos (by omega), rd_at' hi', if_neg (fun h => by have := hb.1 h; rw [hq] at this; cases this), hw]
      · have : meetZ v (fs[i] :: fs.drop (i + 1)) a = meetZ v (fs.drop (i + 1)) a := by unfold meetZ; rw [List.foldl_cons, if_pos hq]
        rw [this] at hR; exact hR
    | false =>
      refine Ev.step (f := fun k => impl_Complex_dominated.l1 k fs acc v (Go.bits .and .i64 a fs[i]) x12 v fs (fs.length : Int) ((i + 1 : Nat) : Int) n l) (fun k => ?_) (ih (i + 1) _ (by omega) (by omega) ?_)
      · simp only [impl_Complex_dominated.l1]
        rw [if_pos (by omega), if_pos (by omega), if_pos (by omega), if_pos (by omega), rd_at' hi', if_pos (hb.2 hq), hw]
      · have : meetZ v (fs[i] :: fs.drop (i + 1)) a = meetZ v (fs.drop (i + 1)) (Go.bits .and .i64 a fs[i]) := by unfold meetZ; rw [List.foldl_cons, if_neg (by rw [hq]; exact Bool.false_ne_true)]
        rw [this] at hR; exact hR
theorem dom_l0 {n : Int} {l : List Int} (hi : isC n l = true) : ∀ d (v : Nat) (acc : List Int), n.toNat - v = d → v ≤ n.toNat → acc.length ≤ v →
    Ev (fun k => impl_Complex_dominated.l0 k (facetsL l) acc n v n l) (acc ++ ((List.range' v d).filter (domB n l)).map (fun v : Nat => (v : Int))) := by
  obtain ⟨⟨h1, h6⟩, hasc, _⟩ := isC_of hi
  have hs := isC_small hi
  have h63 := isC_63 hi
  intro d
  induction d with
  | zero =>
    intro v acc hd hv ha
    refine Ev.step (f := fun k => some acc) (fun k => ?_) ?_
    · simp only [impl_Complex_dominated.l0]; rw [if_neg (by omega)]
    · rw [List.range'_zero, List.filter_nil, List.map_nil, List.append_nil]; exact Ev.now _
  | succ d ih =>
    intro v acc hd hv ha
    have hv5 : v ≤ 5 := by omega
    have hwv : wrap64 ((v : Int) + 1) = ((v + 1 : Nat) : Int) := by rw [w64' (by omega) (by omega)]; omega
    have hh : impl_Complex_has.f n l (2 ^ v) = some (decide ((2 : Int) ^ v ∈ l)) := by unfold impl_Complex_has.f; rw [if_pos ⟨by omega, ascB_asc hasc⟩]
    rw [List.range'_succ]
    by_cases hm : (2 : Int) ^ v ∈ l
    · refine Ev.step (f := fun k => impl_Complex_dominated.l1 k (facetsL l) acc v (fullZ n) n v (facetsL l) ((facetsL l).length : Int) ((0 : Nat) : Int) n l) (fun k => ?_) ?_
      · simp only [impl_Complex_dominated.l0]
        rw [if_pos (by omega), if_pos (by omega), shl_v hv5, hh, full_f h1 h6]
        simp [hm]
      · refine dom_l1 n l (facetsL l) (Nat.le_trans (List.length_filter_le _ _) (by omega)) (fun x hx => h63 x (List.mem_filter.1 hx).1) v hv5 acc (by omega) n _ _ 0 _ rfl (Nat.zero_le _) ?_
        rw [List.drop_zero]
        by_cases hq : meetZ v (facetsL l) (fullZ n) = 2 ^ v
        · simp only [if_pos hq]
          rw [List.filter_cons_of_neg (by simp [domB, hq])]
          exact ih (v + 1) acc (by omega) (by omega) (by omega)
        · simp only [if_neg hq]
          rw [List.filter_cons_of_pos (by simp [domB, hq, hm]), List.map_cons]
          have := ih (v + 1) (acc ++ [(v : Int)]) (by omega) (by omega) (by rw [List.length_append]; simp; omega)
          rw [List.append_assoc] at this
          exact this
    · refine Ev.step (f := fun k => impl_Complex_dominated.l0 k (facetsL l) acc n ((v + 1 : Nat) : Int) n l) (fun k => ?_) ?_
      · simp only [impl_Complex_dominated.l0]
        rw [if_pos (by omega), if_pos (by omega), shl_v hv5, hh, hwv]
        simp [hm]
      · rw [List.filter_cons_of_neg (by simp [domB, hm])]
        exact ih (v + 1) acc (by omega) (by omega) (by omega)
theorem dominated_c (m : Int) (A : Option Addr) (c : Nat) (xs : List Int) (w : World) (hr : RC w A xs.length xs) (hc : xs.length ≤ c) (hi : isC m xs = true) :
    Calls Try.prog 80 #[.agg #[.int .i64 m, .slice A xs.length c]] w (SlOnly w.heap.size w (domL m xs)) := by
  have h0 := dom_l0 hi _ 0 [] rfl (Nat.zero_le _) (by simp)
  obtain ⟨k, hk⟩ := h0.rounds
  refine impl_Complex_dominated.calls k m A c xs (domL m xs) w hr hc ?_
  unfold impl_Complex_dominated.f impl_Complex_facets.f
  rw [if_pos hi]
  simpa [domL] using hk

def domF (n : Int) (xs : List Int) : List Int × Int := if isC n xs then (domL n xs, 0) else ([], 1)
set_option maxRecDepth 100000 in
set_option maxHeartbeats 1000000 in
theorem dominatedX_c (m : Int) (A : Option Addr) (n c : Nat) (xs : List Int) (w : World) (hr : RC w A n xs) (hn : n ≤ 4611686018427387904) (hc : n ≤ c) :
    Calls Try.prog 44 #[.agg #[.int .i64 m, .slice A n c]] w (SlCode w.heap.size w (domF m xs).1 (domF m xs).2) := by
  obtain rfl : xs.length = n := hr.1
  have hbk := CxAt.new w m A xs.length c
  have hb1 : Below w.heap.size w (w.alloc (.cells #[.int .i64 m, .slice A xs.length c] 26)) := (Below.refl _ w).alloc (Nat.le_refl _) _
  have hcc := complexCode_c m A xs.length c xs (.func (.func 55) #[] #[]) true _ (Kd.C_below hr hb1) hn (fun _ => always_f _)
  have HK := Aside0.mk hbk
  have HB := Aside0.mk hb1
  have HR := Aside0.mk hr
  clear hr hbk hb1
  unfold domF
  cases hi : isC m xs with
  | false =>
    rw [hi] at hcc
    have HC := Aside0.mk hcc
    clear hcc hi
    unfold codeOf at HC
    go_enter Try.func44, Try.ntmps44
    go_wp2_with (go_at_call 54; refine HC.out.mono ?_; rintro e w2 ⟨rfl, hb2⟩; have HB2 := Aside0.mk (below_in HB.out hb2); clear hb2)
    go_ret2
    exact ⟨_, rfl, Kd.R_nil _ _ _ _ _, HB2.out⟩
  | true =>
    rw [hi] at hcc
    have HC := Aside0.mk hcc
    have HI := Aside0.mk hi
    clear hcc hi
    unfold codeOf at HC
    go_enter Try.func44, Try.ntmps44
    go_wp2_with (first
      | (go_at_call 54; refine HC.out.mono ?_; rintro e w2 ⟨rfl, hb2⟩; have HB2 := Aside0.mk (below_in HB.out hb2); have K2 := Aside0.mk (HK.out.below hb2); have k0 := K2.out.c0; have k1 := K2.out.c1; clear hb2)
      | (go_at_call 80; refine (dominated_c m A c xs _ (Kd.C_below HR.out HB2.out) hc HI.out).mono ?_; rintro e w3 ⟨v, rfl, hv, hb3⟩; have HV := Aside0.mk hv; have HB3 := Aside0.mk (below_in HB2.out hb3); clear hv hb3))
    go_ret2
    exact ⟨_, rfl, Kd.R_lower HV.out HB2.out.size, HB3.out⟩

end Go.Proofs.Ytdkoioiiacljeaa.Im
