/- size, dimension, isChain, IsChain. -/
import Derived.Test.YtdkoioiiacljeaaImN
import Derived.Test.YtdkoioiiacljeaaQIx2
namespace Go.Proofs.Ytdkoioiiacljeaa.Im
set_option linter.unusedVariables false
set_option linter.unusedSimpArgs false
open Go.RowKit Go.Shelf Go.Proofs.Ytdkoioiiacljeaa.QI Go.Proofs.Ytdkoioiiacljeaa.Ext Go.Proofs.YtdkoioiiacljeaaW.PrintWords Go.Proofs.YtdkoioiiacljeaaW.PrintLast Go.Proofs.YtdkoioiiacljeaaW.PrintMore

def onesZ (x : Int) : Int := ((verts x).length : Int)
theorem size_all : ((List.range 64).all fun f => impl_size.f (f : Int) == some (onesZ (f : Int))) = true := by decide +kernel
theorem size_eq {x : Int} (h0 : 0 ≤ x) (h6 : x ≤ 63) : impl_size.f x = some (onesZ x) := by
  obtain ⟨m, rfl⟩ := Int.eq_ofNat_of_zero_le h0
  exact eq_of_beq (List.all_eq_true.1 size_all m (List.mem_range.2 (by omega)))
theorem isC_63 {n : Int} {l : List Int} (h : isC n l = true) : ∀ x ∈ l, 1 ≤ x ∧ x ≤ 63 := by
  obtain ⟨⟨h1, h6⟩, ha, _⟩ := isC_of h
  intro x hx
  obtain ⟨i, hi, rfl⟩ := List.mem_iff_getElem.1 hx
  have h2 := List.all_eq_true.1 ha i (List.mem_range.2 hi)
  simp only [okAt, List.getElem?_eq_getElem hi, Option.getD_some, withinB, Bool.and_eq_true, decide_eq_true_eq] at h2
  have hF : fullZ n ≤ 63 := by
    obtain rfl | rfl | rfl | rfl | rfl | rfl : n = 1 ∨ n = 2 ∨ n = 3 ∨ n = 4 ∨ n = 5 ∨ n = 6 := by omega
    all_goals decide +kernel
  omega

def stepB (l l1 : List Int) (i : Nat) : Bool :=
  decide (l1[i]?.getD 0 ∈ l) && (onesZ (l1[i]?.getD 0) == onesZ (l1[0]?.getD 0) && (i == 0 || decide (l1[i - 1]?.getD 0 < l1[i]?.getD 0)))
def chainB (l l1 : List Int) : Bool := (List.range' 0 l1.length).all (stepB l l1)

theorem w64' {x : Int} (h1 : -9223372036854775808 ≤ x) (h2 : x ≤ 9223372036854775807) : wrap64 x = x := by unfold wrap64; omega
theorem rd_at' {l : List Int} {i : Nat} (h : i < l.length) : rd l (i : Int) = l[i] := by simp [rd, List.getD_eq_getElem?_getD, List.getElem?_eq_getElem h]
theorem chain_loop (n : Int) (l l1 : List Int) (hl : l.length ≤ 4611686018427387904) (ha : Asc l) (hr : ∀ x ∈ l, 1 ≤ x ∧ x ≤ 63) (hm : l1.length ≤ 4611686018427387904) :
    ∀ d (i : Nat), l1.length - i = d → i ≤ l1.length → (0 < i → l1[0]?.getD 0 ∈ l) → Ev (fun k => impl_Complex_isChain.l0 k l1 l1 (l1.length : Int) i n l) ((List.range' i d).all (stepB l l1)) := by
  intro d
  induction d with
  | zero =>
    intro i hd hi h0
    refine Ev.step (f := fun k => some true) (fun k => ?_) (Ev.now _)
    simp only [impl_Complex_isChain.l0]; rw [if_neg (by omega)]
  | succ d ih =>
    intro i hd hi h0
    have hi' : i < l1.length := by omega
    have hw : wrap64 ((i : Int) + 1) = ((i + 1 : Nat) : Int) := by rw [w64' (by omega) (by omega)]; omega
    have hg : l1[i]?.getD 0 = l1[i] := by rw [List.getElem?_eq_getElem hi']; rfl
    have hg0 : l1[0]?.getD 0 = l1[0]'(by omega) := by rw [List.getElem?_eq_getElem (by omega)]; rfl
    rw [List.range'_succ, List.all_cons]
    have hh : impl_Complex_has.f n l l1[i] = some (decide (l1[i] ∈ l)) := by unfold impl_Complex_has.f; rw [if_pos ⟨hl, ha⟩]
    by_cases hmem : l1[i] ∈ l
    · have hm0 : l1[0]'(by omega) ∈ l := by
        rcases Nat.eq_zero_or_pos i with h | h
        · subst h; exact hmem
        · have := h0 h; rwa [hg0] at this
      have hx := hr _ hmem
      have hx0 := hr _ hm0
      have hs := size_eq (x := l1[i]) (by omega) (by omega)
      have hs0 := size_eq (x := l1[0]'(by omega)) (by omega) (by omega)
      have hn := ih (i + 1) (by omega) (by omega) (fun _ => by rw [hg0]; exact hm0)
      have hR0 : rd l1 0 = l1[0]'(by omega) := rd_at' (i := 0) (by omega)
      have hpos : (0 : Int) < (l1.length : Int) := by omega
      by_cases ho : onesZ l1[i] = onesZ (l1[0]'(by omega))
      · rcases Nat.eq_zero_or_pos i with hz | hz
        · subst hz
          refine Ev.step (f := fun k => impl_Complex_isChain.l0 k l1 l1 (l1.length : Int) ((0 + 1 : Nat) : Int) n l) (fun k => ?_) ?_
          · simp only [impl_Complex_isChain.l0]
            rw [if_pos (by omega), if_pos (by omega), if_pos (by omega), rd_at' hi', hh]
            simp only [Option.bind_some, hmem, decide_true, if_true, hs, hpos, hR0, hs0]
            rw [if_neg (by omega), hw]
          · have : stepB l l1 0 = true := by simp [stepB, hg0, hm0]
            rw [this, Bool.true_and]; exact hn
        · have hi1 : i - 1 < l1.length := by omega
          have hwm : wrap64 ((i : Int) - 1) = ((i - 1 : Nat) : Int) := by rw [w64' (by omega) (by omega)]; omega
          have hgm : l1[i - 1]?.getD 0 = l1[i - 1] := by rw [List.getElem?_eq_getElem hi1]; rfl
          by_cases hlt : l1[i] ≤ l1[i - 1]
          · refine Ev.step (f := fun k => some false) (fun k => ?_) ?_
            · simp only [impl_Complex_isChain.l0]
              rw [if_pos (by omega), if_pos (by omega), if_pos (by omega), rd_at' hi', hh]
              simp only [Option.bind_some, hmem, decide_true, if_true, hs, hpos, hR0, hs0, ho]
              rw [if_pos (by omega), hwm, if_pos (by omega), if_pos (by omega), rd_at' hi1, if_pos hlt]
            · have : stepB l l1 i = false := by
                have h1 : (i == 0) = false := by simp; omega
                have h2 : decide (l1[i - 1] < l1[i]) = false := by simp; omega
                simp only [stepB, hgm, hg, h1, h2, Bool.or_false, Bool.and_false]
              rw [this, Bool.false_and]; exact Ev.now _
          · refine Ev.step (f := fun k => impl_Complex_isChain.l0 k l1 l1 (l1.length : Int) ((i + 1 : Nat) : Int) n l) (fun k => ?_) ?_
            · simp only [impl_Complex_isChain.l0]
              rw [if_pos (by omega), if_pos (by omega), if_pos (by omega), rd_at' hi', hh]
              simp only [Option.bind_some, hmem, decide_true, if_true, hs, hpos, hR0, hs0, ho]
              rw [if_pos (by omega), hwm, if_pos (by omega), if_pos (by omega), rd_at' hi1, if_neg hlt, hw]
            · have : stepB l l1 i = true := by
                have h2 : decide (l1[i - 1] < l1[i]) = true := by simp; omega
                simp only [stepB, hgm, hg, hg0, h2, Bool.or_true, Bool.and_true, hmem, decide_true, ho, beq_self_eq_true]
              rw [this, Bool.true_and]; exact hn
      · refine Ev.step (f := fun k => some false) (fun k => ?_) ?_
        · simp only [impl_Complex_isChain.l0]
          rw [if_pos (by omega), if_pos (by omega), if_pos (by omega), rd_at' hi', hh]
          simp only [Option.bind_some, hmem, decide_true, if_true, hs, hpos, hR0, hs0, ho, if_false]
        · have : stepB l l1 i = false := by
            have h1 : (onesZ l1[i] == onesZ (l1[0]'(by omega))) = false := beq_eq_false_iff_ne.2 ho
            simp only [stepB, hg, hg0, h1, Bool.false_and, Bool.and_false]
          rw [this, Bool.false_and]; exact Ev.now _
    · refine Ev.step (f := fun k => some false) (fun k => ?_) ?_
      · simp only [impl_Complex_isChain.l0]
        rw [if_pos (by omega), if_pos (by omega), if_pos (by omega), rd_at' hi', hh]
        simp [hmem]
      · have : stepB l l1 i = false := by simp only [stepB, hg, hmem, decide_false, Bool.false_and]
        rw [this, Bool.false_and]; exact Ev.now _
theorem isChain_c (m : Int) (A : Option Addr) (c : Nat) (xs : List Int) (A1 : Option Addr) (c1 : Nat) (l1 : List Int) (w : World) (hr : RC w A xs.length xs) (hr1 : RC w A1 l1.length l1) (hc : xs.length ≤ c) (hc1 : l1.length ≤ c1) (hl1 : l1.length ≤ 4611686018427387904) (hi : isC m xs = true) :
    Calls Try.prog 69 #[.agg #[.int .i64 m, .slice A xs.length c], .slice A1 l1.length c1] w fun e w' => e = .returned (.bool (chainB xs l1)) ∧ Below w.heap.size w w' := by
  have hs := isC_small hi
  obtain ⟨k, hk⟩ := (chain_loop m xs l1 (by omega) (ascB_asc (isC_of hi).2.1) (isC_63 hi) hl1 _ 0 rfl (Nat.zero_le _) (fun h => absurd h (Nat.lt_irrefl 0))).rounds
  exact impl_Complex_isChain.calls k m A c xs A1 c1 l1 _ w hr hc hr1 hc1 hk

def isChainF (n : Int) (xs l1 : List Int) : Bool × Int := if isC n xs then (chainB xs l1, 0) else (false, 1)
set_option maxRecDepth 100000 in
theorem isChainX_c (m : Int) (A : Option Addr) (n c : Nat) (xs : List Int) (A1 : Option Addr) (n1 c1 : Nat) (l1 : List Int) (w : World) (hr : RC w A n xs) (hr1 : RC w A1 n1 l1) (hn : n ≤ 4611686018427387904) (hn1 : n1 ≤ 4611686018427387904) (hc : n ≤ c) (hc1 : n1 ≤ c1) :
    Calls Try.prog 33 #[.agg #[.int .i64 m, .slice A n c], .slice A1 n1 c1] w (BoCode w (isChainF m xs l1).1 (isChainF m xs l1).2) := by
  obtain rfl : xs.length = n := hr.1
  obtain rfl : l1.length = n1 := hr1.1
  have hbk := CxAt.new w m A xs.length c
  have hb1 : Below w.heap.size w (w.alloc (.cells #[.int .i64 m, .slice A xs.length c] 26)) := (Below.refl _ w).alloc (Nat.le_refl _) _
  have hcc := complexCode_c m A xs.length c xs (.func (.func 55) #[] #[]) true _ (Kd.C_below hr hb1) hn (fun _ => always_f _)
  have HK := Aside0.mk hbk
  have HB := Aside0.mk hb1
  have HR := Aside0.mk hr
  have HR1 := Aside0.mk hr1
  clear hr hr1 hbk hb1
  unfold isChainF
  cases hi : isC m xs with
  | false =>
    rw [hi] at hcc
    have HC := Aside0.mk hcc
    clear hcc hi
    unfold codeOf at HC
    go_enter Try.func33, Try.ntmps33
    go_wp2_with (go_at_call 54; refine HC.out.mono ?_; rintro e w2 ⟨rfl, hb2⟩; have HB2 := Aside0.mk (below_in HB.out hb2); clear hb2)
    go_ret2
    exact ⟨rfl, HB2.out⟩
  | true =>
    rw [hi] at hcc
    have HC := Aside0.mk hcc
    have HI := Aside0.mk hi
    clear hcc hi
    unfold codeOf at HC
    go_enter Try.func33, Try.ntmps33
    go_wp2_with (first
      | (go_at_call 54; refine HC.out.mono ?_; rintro e w2 ⟨rfl, hb2⟩; have HB2 := Aside0.mk (below_in HB.out hb2); have K2 := Aside0.mk (HK.out.below hb2); have k0 := K2.out.c0; have k1 := K2.out.c1; clear hb2)
      | (go_at_call 69; refine (isChain_c m A c xs A1 c1 l1 _ (Kd.C_below HR.out HB2.out) (Kd.C_below HR1.out HB2.out) hc hc1 hn1 HI.out).mono ?_; rintro e w3 ⟨rfl, hb3⟩; have HB3 := Aside0.mk (below_in HB2.out hb3); clear hb3))
    go_ret2
    exact ⟨rfl, HB3.out⟩

end Go.Proofs.Ytdkoioiiacljeaa.Im
