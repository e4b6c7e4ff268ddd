/- Words and lemmas for FnExactFillPairing, part 5: what the row's text comes to. -/
import Derived.Test.YtomdfjohnmikdaaZFnExactFillPairingd
namespace Go.Proofs.Ytomdfjohnmikdaa.QS
open Go.Proofs.Ytomdfjohnmikdaa.Cw Go.Proofs.Ytomdfjohnmikdaa.Kp Go.Proofs.Ytomdfjohnmikdaa.Ext Go.RowKit Go.Proofs.YtomdfjohnmikdaaW.PrintWords Go.Proofs.YtomdfjohnmikdaaW.PrintLast Go.Proofs.YtomdfjohnmikdaaW.PrintMore
attribute [local go_sem] max2_int min2_int max_two min_two max_three min_three max_four min_four   -- for this text's walks alone
set_option linter.unusedVariables false
set_option linter.unusedSimpArgs false
def laws_eqPairS.l0 : Nat → List (S73) → List (S73) → Int → Option (Bool)
 | 0, _, _, _ => none
 | k + 1, x0, x1, x5 => if x5 < (x0.length : Int) then (if 0 ≤ x5 then (if x5 < (x1.length : Int) then ((laws_eqPair.f ((rd_T73 x0 x5).f0) ((rd_T73 x0 x5).f1) ((rd_T73 x1 x5).f0) ((rd_T73 x1 x5).f1)).bind fun t133 => (if t133 = true then (laws_eqPairS.l0 k x0 x1 (wrap64 (x5 + 1))) else (some false))) else (none)) else (none)) else (some true)
def laws_eqPairS.f (k : Nat) (l0 : List (S73)) (l1 : List (S73)) : Option (Bool) := if (l0.length : Int) = (l1.length : Int) then (laws_eqPairS.l0 k l0 l1 0) else (some false)
def laws_eqPairS.T6 : Bool × List (List Nat × List Nat) := (true, [([], []), ([], []), ([0, 1], [0, 1]), ([2], [2]), ([], []), ([], []), ([4, 5], [4, 5]), ([6], [6]), ([3, 7], [3, 7]), ([8], [8])])
def laws_eqPairS.B6 : List Nat := [0, 0, 3, 7, 0, 0, 48, 112, 255, 511]
theorem laws_eqPairS.tab6 : rtab .any (opsOf Try.f27 6) = laws_eqPairS.T6 := by kernel_rfl
theorem laws_eqPairS.bits6 : waitsOk laws_eqPairS.T6.2 laws_eqPairS.B6 = true := by kernel_rfl
set_option maxHeartbeats 8000000 in
set_option maxRecDepth 100000 in
theorem laws_eqPairS.calls (k : Nat) (A0 : Option Addr) (c0 : Nat) (l0 : List (S73)) (A1 : Option Addr) (c1 : Nat) (l1 : List (S73)) (r : Bool) (w : World) (hr0 : Kd.C k73 w A0 l0.length l0) (hc0 : l0.length ≤ c0) (hr1 : Kd.C k73 w A1 l1.length l1) (hc1 : l1.length ≤ c1) (h : laws_eqPairS.f k l0 l1 = some r) :
  Calls Try.prog 27 #[.slice A0 l0.length c0, .slice A1 l1.length c1] w fun e w' => e = .returned (.bool r) ∧ Below w.heap.size w w' := by
 have hu73 := Try.underlying73
 have HR0 := Aside0.mk hr0
 have HC0 := Aside0.mk hc0
 clear hr0 hc0
 have HR1 := Aside0.mk hr1
 have HC1 := Aside0.mk hc1
 clear hr1 hc1
 have HB := Aside0.mk (Below.refl w.heap.size w)
 have H : (if (l0.length : Int) = (l1.length : Int) then (laws_eqPairS.l0 k l0 l1 0) else (some false)) = some r := h
 clear h
 by_cases c3 : (l0.length : Int) = (l1.length : Int)
 ·rw [if_pos c3] at H
  have c3b0 : ((l0.length : Int) == (l1.length : Int)) = true := beq_iff_eq.mpr c3
  have c3b1 : ((l0.length : Int) != (l1.length : Int)) = false := bne_eq_false_iff_eq.mpr c3
  have c3b2 : (l0.length == l1.length) = true := by first | simpa using c3 | (simp at c3 ⊢; omega)
  clear c3
  have H' := Aside0.mk H
  clear H
  go_enter Try.func27, Try.ntmps27
  go_wp2
  go_loopg [5] k (fun kq v5 w' => ∃ (x5_1 : Int), v5 = .int .i64 x5_1 ∧ Aside0 (laws_eqPairS.l0 kq l0 l1 x5_1 = some r) ∧ Aside0 (kq ≤ k) ∧ Aside0 (Below w.heap.size w w'))
  case atStart => exact ⟨(0), (by first | rfl | (simp; done) | (simp [*]; done)), H', ⟨Nat.le_refl _⟩, ⟨pH HB⟩⟩
  case round =>
   clear H'
   try clear c1
   try clear c2
   try clear p2
   try clear c3
   try clear c3b0
   try clear c3b1
   try clear c3b2
   obtain ⟨x5_1, rfl, HA, HK1, HB⟩ := hrel
   cases gk with
   | zero => exact absurd HA.out (by simp [laws_eqPairS.l0])
   | succ k1 =>
    have H := HA.out
    clear HA
    simp only [laws_eqPairS.l0] at H
    by_cases c4 : x5_1 < (l0.length : Int)
    ·rw [if_pos c4] at H
     have c4b0 : decide (x5_1 < (l0.length : Int)) = true := decide_eq_true c4
     clear c4
     by_cases c5 : 0 ≤ x5_1
     ·rw [if_pos c5] at H
      have c5b0 : decide (0 ≤ x5_1) = true := decide_eq_true c5
      clear c5
      by_cases c6 : x5_1 < (l1.length : Int)
      ·rw [if_pos c6] at H
       have c6b0 : decide (x5_1 < (l1.length : Int)) = true := decide_eq_true c6
       clear c6
       replace H := Option.bind_eq_some_iff.mp H
       obtain ⟨t133, A70, H⟩ := H
       try dsimp only at H
       have A7 := Aside0.mk A70
       clear A70
       by_cases c8 : t133 = true
       ·subst c8
        have H1 : (laws_eqPairS.l0 k1 l0 l1 (wrap64 (x5_1 + 1))) = some r := by rw [if_pos rfl] at H; exact H
        clear H
        have H := H1
        clear H1
        have H' := Aside0.mk H
        clear H
        try go_wp2
        replace HB := dH HB
        have p131 : 0 ≤ (x5_1 : Int) := of_decide_eq_true (by first | (with_reducible assumption) | assumption)
        have q131 : x5_1 < (l0.length : Int) := of_decide_eq_true (by first | (with_reducible assumption) | assumption)
        obtain ⟨ad131, e131, hx131_0, hx131_1⟩ := at_T73 HR0.out x5_1 p131 q131
        have hw131_1 := hx131_1
        have hw131_0 := hx131_0
        cases e131
        replace hx131_0 := cH HB hx131_0
        replace hx131_1 := cH HB hx131_1
        replace p131 := eq_true p131
        replace q131 := eq_true q131
        have p132 : 0 ≤ (x5_1 : Int) := of_decide_eq_true (by first | (with_reducible assumption) | assumption)
        have q132 : x5_1 < (l1.length : Int) := of_decide_eq_true (by first | (with_reducible assumption) | assumption)
        obtain ⟨ad132, e132, hx132_0, hx132_1⟩ := at_T73 HR1.out x5_1 p132 q132
        have hw132_1 := hx132_1
        have hw132_0 := hx132_0
        cases e132
        replace hx132_0 := cH HB hx132_0
        replace hx132_1 := cH HB hx132_1
        replace p132 := eq_true p132
        replace q132 := eq_true q132
        refine st_ 10 (S := fun w' => w'.cell? (ad131.add ((x5_1).toNat * 2)) = some (.int .i64 ((rd_T73 l0 x5_1).f0)) ∧ w'.cell? ⟨(ad131.add ((x5_1).toNat * 2)).block, (ad131.add ((x5_1).toNat * 2)).off + 1, none⟩ = some (.int .i64 ((rd_T73 l0 x5_1).f1)) ∧ w'.cell? (ad132.add ((x5_1).toNat * 2)) = some (.int .i64 ((rd_T73 l1 x5_1).f0)) ∧ w'.cell? ⟨(ad132.add ((x5_1).toNat * 2)).block, (ad132.add ((x5_1).toNat * 2)).off + 1, none⟩ = some (.int .i64 ((rd_T73 l1 x5_1).f1))) (ds := []) ⟨(cH HB hw131_0 :), (cH HB hw131_1 :), (cH HB hw132_0 :), (cH HB hw132_1 :)⟩ (fun hHeld => ?_); refine with_tabW laws_eqPairS.tab6 laws_eqPairS.bits6 (fun HT_ HW_ => ?_)
        generalize wr.drew = w9 at HB hx131_0 hx131_1 hx132_0 hx132_1 hHeld ⊢
        refine pu_ 0 17 1 HT_ ?_
        refine pu_ 1 18 3 HT_ ?_
        refine pu_ 2 19 7 HT_ ?_
        refine pu_ 4 21 23 HT_ ?_
        refine pu_ 5 22 55 HT_ ?_
        refine pu_ 6 23 119 HT_ ?_
        refine tk_ 3 20 127 HT_ HW_ hHeld ?_
        refine tk_ 7 24 255 HT_ HW_ hHeld ?_
        refine on_ 8 (some 25) 511 HT_ (fun K hK => ?_)
        refine ca_ Try.func69 #[.agg #[.int .i64 ((rd_T73 l0 x5_1).f0), .int .i64 ((rd_T73 l0 x5_1).f1)], .agg #[.int .i64 ((rd_T73 l1 x5_1).f0), .int .i64 ((rd_T73 l1 x5_1).f1)]] ?_
        with_reducible refine (laws_eqPair.calls ((rd_T73 l0 x5_1).f0) ((rd_T73 l0 x5_1).f1) ((rd_T73 l1 x5_1).f0) ((rd_T73 l1 x5_1).f1) true _ A7.out).mono ?_
        rintro e w10 ⟨rfl, hb⟩
        refine ⟨_, rfl, ?_⟩
        replace HB := sH HB hb
        (try clear hb)
        (try clear hb2)
        (try clear hk)
        (try clear hi)
        refine hK.out _ _ ⟨(cH HB hw131_0 :), (cH HB hw131_1 :), (cH HB hw132_0 :), (cH HB hw132_1 :)⟩ (fun hHeld => ?_)
        clear hK K
        refine nm_ ?_
        refine pu_ 9 26 1023 HT_ ?_
        refine dn_ HT_ ?_
        try go_wp2
        go_roundg k1
        case measure => have := HK1.out; omega
        case rel => exact ⟨(wrap64 (x5_1 + 1)), (by first | rfl | (simp; done) | (simp [*]; done)), H', ⟨by have := HK1.out; omega⟩, ⟨pH HB⟩⟩
       ·replace c8 := Bool.eq_false_iff.mpr c8
        subst c8
        have H1 : (some false) = some r := by rw [if_neg (show ¬ (false = true) by decide)] at H; exact H
        clear H
        have H := H1
        clear H1
        obtain rfl := Option.some.inj H
        try go_wp2
        replace HB := dH HB
        have p131 : 0 ≤ (x5_1 : Int) := of_decide_eq_true (by first | (with_reducible assumption) | assumption)
        have q131 : x5_1 < (l0.length : Int) := of_decide_eq_true (by first | (with_reducible assumption) | assumption)
        obtain ⟨ad131, e131, hx131_0, hx131_1⟩ := at_T73 HR0.out x5_1 p131 q131
        have hw131_1 := hx131_1
        have hw131_0 := hx131_0
        cases e131
        replace hx131_0 := cH HB hx131_0
        replace hx131_1 := cH HB hx131_1
        replace p131 := eq_true p131
        replace q131 := eq_true q131
        have p132 : 0 ≤ (x5_1 : Int) := of_decide_eq_true (by first | (with_reducible assumption) | assumption)
        have q132 : x5_1 < (l1.length : Int) := of_decide_eq_true (by first | (with_reducible assumption) | assumption)
        obtain ⟨ad132, e132, hx132_0, hx132_1⟩ := at_T73 HR1.out x5_1 p132 q132
        have hw132_1 := hx132_1
        have hw132_0 := hx132_0
        cases e132
        replace hx132_0 := cH HB hx132_0
        replace hx132_1 := cH HB hx132_1
        replace p132 := eq_true p132
        replace q132 := eq_true q132
        refine st_ 10 (S := fun w' => w'.cell? (ad131.add ((x5_1).toNat * 2)) = some (.int .i64 ((rd_T73 l0 x5_1).f0)) ∧ w'.cell? ⟨(ad131.add ((x5_1).toNat * 2)).block, (ad131.add ((x5_1).toNat * 2)).off + 1, none⟩ = some (.int .i64 ((rd_T73 l0 x5_1).f1)) ∧ w'.cell? (ad132.add ((x5_1).toNat * 2)) = some (.int .i64 ((rd_T73 l1 x5_1).f0)) ∧ w'.cell? ⟨(ad132.add ((x5_1).toNat * 2)).block, (ad132.add ((x5_1).toNat * 2)).off + 1, none⟩ = some (.int .i64 ((rd_T73 l1 x5_1).f1))) (ds := []) ⟨(cH HB hw131_0 :), (cH HB hw131_1 :), (cH HB hw132_0 :), (cH HB hw132_1 :)⟩ (fun hHeld => ?_); refine with_tabW laws_eqPairS.tab6 laws_eqPairS.bits6 (fun HT_ HW_ => ?_)
        generalize wr.drew = w11 at HB hx131_0 hx131_1 hx132_0 hx132_1 hHeld ⊢
        refine pu_ 0 17 1 HT_ ?_
        refine pu_ 1 18 3 HT_ ?_
        refine pu_ 2 19 7 HT_ ?_
        refine pu_ 4 21 23 HT_ ?_
        refine pu_ 5 22 55 HT_ ?_
        refine pu_ 6 23 119 HT_ ?_
        refine tk_ 3 20 127 HT_ HW_ hHeld ?_
        refine tk_ 7 24 255 HT_ HW_ hHeld ?_
        refine on_ 8 (some 25) 511 HT_ (fun K hK => ?_)
        refine ca_ Try.func69 #[.agg #[.int .i64 ((rd_T73 l0 x5_1).f0), .int .i64 ((rd_T73 l0 x5_1).f1)], .agg #[.int .i64 ((rd_T73 l1 x5_1).f0), .int .i64 ((rd_T73 l1 x5_1).f1)]] ?_
        with_reducible refine (laws_eqPair.calls ((rd_T73 l0 x5_1).f0) ((rd_T73 l0 x5_1).f1) ((rd_T73 l1 x5_1).f0) ((rd_T73 l1 x5_1).f1) false _ A7.out).mono ?_
        rintro e w12 ⟨rfl, hb⟩
        refine ⟨_, rfl, ?_⟩
        replace HB := sH HB hb
        (try clear hb)
        (try clear hb2)
        (try clear hk)
        (try clear hi)
        refine hK.out _ _ ⟨(cH HB hw131_0 :), (cH HB hw131_1 :), (cH HB hw132_0 :), (cH HB hw132_1 :)⟩ (fun hHeld => ?_)
        clear hK K
        refine nm_ ?_
        refine pu_ 9 26 1023 HT_ ?_
        refine dn_ HT_ ?_
        try go_wp2
        go_ret
        exact ⟨by first | rfl | (simp [errW_none, errW_some] <;> rfl) | (simp [*, errW_none, errW_some] <;> rfl) | (exfalso; simp_all), pH HB⟩
      ·rw [if_neg c6] at H
       exact absurd H (by simp)
     ·rw [if_neg c5] at H
      exact absurd H (by simp)
    ·rw [if_neg c4] at H
     have c4b0 : decide (x5_1 < (l0.length : Int)) = false := decide_eq_false c4
     clear c4
     obtain rfl := Option.some.inj H
     go_wp2
     go_ret
     exact ⟨by first | rfl | (simp [errW_none, errW_some] <;> rfl) | (simp [*, errW_none, errW_some] <;> rfl) | (exfalso; simp_all), pH HB⟩
 ·rw [if_neg c3] at H
  have c3b0 : ((l0.length : Int) == (l1.length : Int)) = false := beq_eq_false_iff_ne.mpr c3
  have c3b1 : ((l0.length : Int) != (l1.length : Int)) = true := bne_iff_ne.mpr c3
  have c3b2 : (l0.length == l1.length) = false := by first | simpa using c3 | (simp at c3 ⊢; omega)
  obtain rfl := Option.some.inj H
  go_enter Try.func27, Try.ntmps27
  go_wp2
  go_ret
  exact ⟨by first | rfl | (simp [errW_none, errW_some] <;> rfl) | (simp [*, errW_none, errW_some] <;> rfl) | (exfalso; simp_all), pH HB⟩
end Go.Proofs.Ytomdfjohnmikdaa.QS
namespace Go.Proofs.Ytomdfjohnmikdaa.QS
open Go.Proofs.Ytomdfjohnmikdaa.Cw Go.Proofs.Ytomdfjohnmikdaa.Kp Go.Proofs.Ytomdfjohnmikdaa.Ext Go.RowKit Go.Proofs.YtomdfjohnmikdaaW.PrintWords Go.Proofs.YtomdfjohnmikdaaW.PrintLast Go.Proofs.YtomdfjohnmikdaaW.PrintMore
attribute [local go_sem] max2_int min2_int max_two min_two max_three min_three max_four min_four   -- for this text's walks alone
set_option linter.unusedVariables false
set_option linter.unusedSimpArgs false
def laws_markInt64S.l0 : Nat → List Int → Int → Int → Option (Int × List Int)
 | 0, _, _, _ => none
 | k + 1, x0, x1, x5 => if x5 < (x0.length : Int) then (if 0 ≤ x5 then (laws_markInt64S.l0 k (x0.set (x5 : Int).toNat x1) (wrap64 (x1 + 1)) (wrap64 (x5 + 1))) else (none)) else (some (x1, x0))
def laws_markInt64S.f (k : Nat) (l0 : List Int) (a1 : Int) : Option (Int × List Int) := laws_markInt64S.l0 k l0 a1 0
set_option maxHeartbeats 8000000 in
set_option maxRecDepth 100000 in
theorem laws_markInt64S.calls (k : Nat) (P0_ : Nat → Prop) (u9000_ : Value) (l0 : List Int) (a1 : Int) (r1 : Int) (r2 : List Int) (w0 w : World) (hB : Below w0.heap.size w0 w) (ho0 : Kd.R (Kd.int .i64) 2 w w0.heap.size P0_ u9000_ l0) (h : laws_markInt64S.f k l0 a1 = some (r1, r2)) :
  Calls Try.prog 21 #[u9000_, .int .i64 a1] w fun e w' => e = .returned (.int .i64 r1) ∧ Kd.R (Kd.int .i64) 2 w' w0.heap.size (fun k_ => (P0_ k_ ∨ w.heap.size ≤ k_)) u9000_ r2 ∧ Below w0.heap.size w0 w' ∧ Kept w w' (fun k_ => P0_ k_) := by
 have HO0 := Aside0.mk (show Kd.R (Kd.int .i64) 2 w w0.heap.size (fun k_ => (P0_ k_ ∨ w.heap.size ≤ k_)) u9000_ l0 from Kd.R_mono ho0 (fun k_ hk => (.inl hk)))
 have HK := Aside0.mk (Kept.refl w (fun k_ => P0_ k_))
 have HW0 := Aside0.mk hB.size
 have HB := Aside0.mk hB
 clear hB
 have H : (laws_markInt64S.l0 k l0 a1 0) = some (r1, r2) := h
 clear h
 have H' := Aside0.mk H
 clear H
 go_enter Try.func21, Try.ntmps21
 go_wp2
 go_loopg [1, 5] k (fun kq v1 v5 w' => ∃ (x0_1 : List Int) (x1_1 : Int) (x5_1 : Int), v1 = .int .i64 x1_1 ∧ v5 = .int .i64 x5_1 ∧ Aside0 (laws_markInt64S.l0 kq x0_1 x1_1 x5_1 = some (r1, r2)) ∧ Aside0 (kq ≤ k) ∧ Aside0 (Kd.R (Kd.int .i64) 2 w' w0.heap.size (fun k_ => (P0_ k_ ∨ w.heap.size ≤ k_)) u9000_ x0_1) ∧ Aside0 (Kept w w' (fun k_ => P0_ k_)) ∧ Aside0 (Below w0.heap.size w0 w'))
 case atStart => exact ⟨(l0), (a1), (0), (by first | rfl | (simp; done) | (simp [*]; done)), (by first | rfl | (simp; done) | (simp [*]; done)), H', ⟨Nat.le_refl _⟩, ⟨by (with_reducible repeat (first | apply Kd.R_alloc | apply Kd.R_drewN | apply Kd.R_drew)); exact HO0.out⟩, ⟨by repeat (first | (with_reducible first | exact HK.out | apply Kept.alloc | apply Kept.drewN | apply Kept.drew) | exact HK.out)⟩, ⟨pH HB⟩⟩
 case round =>
  clear H'
  try clear c2
  try clear p2
  obtain ⟨x0_1, x1_1, x5_1, rfl, rfl, HA, HK1, HO_0, HK, HB⟩ := hrel
  cases gk with
  | zero => exact absurd HA.out (by simp [laws_markInt64S.l0])
  | succ k1 =>
   have H := HA.out
   clear HA
   simp only [laws_markInt64S.l0] at H
   by_cases c3 : x5_1 < (x0_1.length : Int)
   ·rw [if_pos c3] at H
    have c3b0 : decide (x5_1 < (x0_1.length : Int)) = true := decide_eq_true c3
    clear c3
    by_cases c4 : 0 ≤ x5_1
    ·rw [if_pos c4] at H
     have c4b0 : decide (0 ≤ x5_1) = true := decide_eq_true c4
     clear c4
     obtain ⟨y119, hy119⟩ : ∃ y_ : List Int, y_ = (x0_1.set (x5_1 : Int).toNat x1_1) := ⟨_, rfl⟩
     replace H : (laws_markInt64S.l0 k1 y119 (wrap64 (x1_1 + 1)) (wrap64 (x5_1 + 1))) = some (r1, r2) := by first | (rw [hy119]; with_reducible exact H) | (have H2_ := (Option.bind_some _ _).symm.trans H; rw [hy119]; with_reducible exact H2_) | (have H2_ := (Option.bind_some _ _).symm.trans H; with_reducible exact H2_) | with_reducible exact H | (rw [hy119]; exact H) | exact H
     have Ny119 := Aside0.mk hy119
     clear hy119
     have H' := Aside0.mk H
     clear H
     obtain ⟨Ao6, co6, eo6⟩ := Kd.R_slice HO_0.out
     subst eo6
     have p5 : 0 ≤ (x5_1 : Int) := of_decide_eq_true (by first | (with_reducible assumption) | assumption)
     have q5 : (x5_1 : Int) < ((x0_1.length : Int) : Int) := of_decide_eq_true (by first | (with_reducible assumption) | assumption)
     obtain ⟨go5, co5, eo5, gb5, gl5, cl5, HG5⟩ := Kd.R_form HO_0.out (by omega)
     (first | cases eo5 | (injection eo5 with ea_ en_ ec_; (first | subst ea_ | (injection ea_ with ea_; subst ea_)); subst ec_; clear en_))
     have GB5 := Aside0.mk gb5
     have GG5 := Aside0.mk HG5
     clear gb5 gl5 HG5
     have HMgo5 := Aside0.mk (show (P0_ go5 ∨ w.heap.size ≤ go5) from (HO_0.out.1 _ rfl))
     obtain ⟨hx5_0, hf5_0⟩ := Kd.R_celln 0 HO_0.out (x5_1 : Int) p5 q5
     replace p5 := eq_true p5
     replace q5 := eq_true q5
     have HP7 := Kd.R_putg HO_0.out (x5_1 : Int) x1_1
     go_wp2_with (first | ((with_reducible refine gate_store (t := 2) (p := 15) rfl ?_); refine store_event (t := 2) (p := 15) (v := ?vo_w8) (w1 := (wr.setCell ⟨go5, (x5_1 : Int).toNat, none⟩ (.int .i64 x1_1))) ?hg ?ho ?hn ?hr ?_; (case ho => rfl); (case hg => rfl); (case hn => rfl); (case hr => first | (go_simp; done) | (go_simp; rfl)); intro w8 hw; have hg : wr.grownBy w8 (some go5) := (by rw [hw]; exact HP7.2); have hp_ : Kd.R (Kd.int .i64) 2 w8 w0.heap.size (fun k_ => (P0_ k_ ∨ w.heap.size ≤ k_)) (.slice (some ⟨go5, 0, none⟩) x0_1.length co6) y119 := (by rw [hw, Ny119.out]; exact HP7.1); clear HP7; have n0_ := Aside0.mk (hp_); have n1_ := Aside0.mk ((by rw [hw]; exact below_set (HB.out) GB5.out : Below w0.heap.size w0 w8)); have n2_ := Aside0.mk (Kept.of_grown (S := (fun k_ => P0_ k_)) hg (by repeat (first | (with_reducible first | exact HK.out | apply Kept.alloc | apply Kept.drewN | apply Kept.drew) | exact HK.out)) (fun k_ e_ => (HO_0.out.1 k_ e_))); clear HO_0; clear HB; clear HK; have HO_0 := n0_; have HB := n1_; have HK := n2_; clear n0_ n1_ n2_; clear hg hw hp_))
     go_roundg k1
     case measure => have := HK1.out; omega
     case rel => exact ⟨(y119), (wrap64 (x1_1 + 1)), (wrap64 (x5_1 + 1)), (by first | rfl | (simp; done) | (simp [*]; done)), (by first | rfl | (simp; done) | (simp [*]; done)), H', ⟨by have := HK1.out; omega⟩, ⟨by (with_reducible repeat (first | apply Kd.R_alloc | apply Kd.R_drewN | apply Kd.R_drew)); exact HO_0.out⟩, ⟨by repeat (first | (with_reducible first | exact HK.out | apply Kept.alloc | apply Kept.drewN | apply Kept.drew) | exact HK.out)⟩, ⟨pH HB⟩⟩
    ·rw [if_neg c4] at H
     exact absurd H (by simp)
   ·rw [if_neg c3] at H
    have c3b0 : decide (x5_1 < (x0_1.length : Int)) = false := decide_eq_false c3
    clear c3
    simp only [Option.some.injEq, Prod.mk.injEq] at H
    obtain ⟨rfl, rfl⟩ := H
    obtain ⟨Ao9, co9, eo9⟩ := Kd.R_slice HO_0.out
    subst eo9
    go_wp2
    go_ret
    exact ⟨by first | rfl | (simp [errW_none, errW_some] <;> rfl) | (simp [*, errW_none, errW_some] <;> rfl) | (exfalso; simp_all), by (with_reducible repeat (first | apply Kd.R_alloc | apply Kd.R_drewN | apply Kd.R_drew)); exact HO_0.out, by repeat (first | (with_reducible first | exact HB.out | apply below_alloc | apply pw_below_drewN | apply below_drew1) | exact HB.out), by repeat (first | (with_reducible first | exact HK.out | apply Kept.alloc | apply Kept.drewN | apply Kept.drew) | exact HK.out)⟩
end Go.Proofs.Ytomdfjohnmikdaa.QS
namespace Go.Proofs.Ytomdfjohnmikdaa.QS
open Go.Proofs.Ytomdfjohnmikdaa.Cw Go.Proofs.Ytomdfjohnmikdaa.Kp Go.Proofs.Ytomdfjohnmikdaa.Ext Go.RowKit Go.Proofs.YtomdfjohnmikdaaW.PrintWords Go.Proofs.YtomdfjohnmikdaaW.PrintLast Go.Proofs.YtomdfjohnmikdaaW.PrintMore
attribute [local go_sem] max2_int min2_int max_two min_two max_three min_three max_four min_four   -- for this text's walks alone
set_option linter.unusedVariables false
set_option linter.unusedSimpArgs false
def laws_markComplex.f (k : Nat) (a0_0 : Int) (l0_1 : List Int) (a1 : Int) : Option (Int × List Int) := (laws_markInt64S.f k l0_1 a1).bind fun bt121 => (some (bt121.1, bt121.2))
set_option maxHeartbeats 8000000 in
set_option maxRecDepth 100000 in
theorem laws_markComplex.calls (k : Nat) (a0_0 : Int) (P0_1_ : Nat → Prop) (u9000_ : Value) (l0_1 : List Int) (a1 : Int) (r1 : Int) (r2 : List Int) (w0 w : World) (hB : Below w0.heap.size w0 w) (ho0_1 : Kd.R (Kd.int .i64) 2 w w0.heap.size P0_1_ u9000_ l0_1) (h : laws_markComplex.f k a0_0 l0_1 a1 = some (r1, r2)) :
  Calls Try.prog 20 #[.agg #[.int .i64 a0_0, u9000_], .int .i64 a1] w fun e w' => e = .returned (.int .i64 r1) ∧ Kd.R (Kd.int .i64) 2 w' w0.heap.size (fun k_ => (P0_1_ k_ ∨ w.heap.size ≤ k_)) u9000_ r2 ∧ Below w0.heap.size w0 w' ∧ Kept w w' (fun k_ => P0_1_ k_) := by
 have hu28 := Try.underlying28
 have HO0_1 := Aside0.mk (show Kd.R (Kd.int .i64) 2 w w0.heap.size (fun k_ => (P0_1_ k_ ∨ w.heap.size ≤ k_)) u9000_ l0_1 from Kd.R_mono ho0_1 (fun k_ hk => (.inl hk)))
 have HK := Aside0.mk (Kept.refl w (fun k_ => P0_1_ k_))
 have HW0 := Aside0.mk hB.size
 have HB := Aside0.mk hB
 clear hB
 have H : ((laws_markInt64S.f k l0_1 a1).bind fun bt121 => (some (bt121.1, bt121.2))) = some (r1, r2) := h
 clear h
 replace H := Option.bind_eq_some_iff.mp H
 obtain ⟨⟨t121, t122⟩, A30, H⟩ := H
 try dsimp only at H
 have A3 := Aside0.mk A30
 clear A30
 simp only [Option.some.injEq, Prod.mk.injEq] at H
 obtain ⟨rfl, rfl⟩ := H
 obtain ⟨Ao4, co4, eo4⟩ := Kd.R_slice HO0_1.out
 subst eo4
 go_enter Try.func20, Try.ntmps20
 go_wp2_with (first | ((with_reducible refine gate_dst (N := 2) rfl ?_); refine box_event ?hg (N := 2) ?hd (cs := #[.int .i64 a0_0, .slice Ao4 l0_1.length co4]) (t := 28) ?hr ?_; (case hd => rfl); (case hg => rfl); (case hr => first | (go_simp; done) | (go_simp; rfl)); intro gb120 hg w5 hbox hb; have n0_ := sR HO0_1 hb; have n1_ := Aside0.mk (Kept.below (S := (fun k_ => P0_1_ k_)) (by repeat (first | (with_reducible first | exact HK.out | apply Kept.alloc | apply Kept.drewN | apply Kept.drew) | exact HK.out)) hb); have n2_ := sH HB hb; have n3_ := Aside0.mk (hbox); have n4_ := Aside0.mk ((by rw [hg]; exact (by first | exact HK.out.1 | exact (show Kept w _ (fun k_ => P0_1_ k_) from by repeat (first | (with_reducible first | exact HK.out | apply Kept.alloc | apply Kept.drewN | apply Kept.drew) | exact HK.out)).1) : w.heap.size ≤ gb120)); have n5_ := Aside0.mk ((by rw [hg]; exact (below_size (pH HB)) : w0.heap.size ≤ gb120)); clear HO0_1; clear HK; clear HB; have HO0_1 := n0_; have HK := n1_; have HB := n2_; have BK120 := n3_; have GW120 := n4_; have GE120 := n5_; clear n0_ n1_ n2_ n3_ n4_ n5_; clear hb hbox hg; have hcz6_0 : w5.cell? ⟨gb120, 0, none⟩ = some (.int .i64 a0_0) := cB BK120 0; have hcz6_1 : w5.cell? ⟨gb120, 1, none⟩ = some (.slice Ao4 l0_1.length co4) := cB BK120 1; have hfz6_0 := zB BK120 0; have hfz6_1 := zB BK120 1) | ((with_reducible refine gate_callee (f := 21) rfl ?_); refine cl_ (some 8) Try.func21 #[.slice Ao4 l0_1.length co4, .int .i64 a1] ?_; (with_reducible refine (laws_markInt64S.calls k (fun k_ => some k_ = (.slice Ao4 l0_1.length co4 : Value).ownBlock) (.slice Ao4 l0_1.length co4) l0_1 a1 t121 t122 w0 _ ?side1 ?side2 A3.out).mono ?_); (case side1 => repeat (first | (with_reducible first | exact HB.out | apply below_alloc | apply pw_below_drewN | apply below_drew1 | refine below_set ?_ GE120.out) | exact HB.out)); (case side2 => exact Kd.R_tight rfl HO0_1.out); rintro e w7 ⟨rfl, hy0, hb, hkp⟩; refine ⟨_, rfl, ?_⟩; replace BK120 := Aside0.mk (blk_kept (pB BK120) hkp (fun hs_ => (fun e_ => (Kd.R_ne HO0_1.out BK120.out (by decide)) e_) hs_)); replace HK := Aside0.mk (Kept.then_ (S := (fun k_ => P0_1_ k_)) (by repeat (first | (with_reducible first | exact HK.out | apply Kept.alloc | apply Kept.drewN | apply Kept.drew | refine Kept.setCell ?_ (.inr GW120.out) _) | exact HK.out)) hkp (fun k_ hs_ => (fun e_ => (HO0_1.out.1 k_ e_.symm)) hs_)); replace HO0_1 := Aside0.mk (Kd.R_reok rfl hy0 (fun k_ e_ => HO0_1.out.1 k_ e_)); replace HB := Aside0.mk (hb); (try clear hb); (try clear hkp); (try clear hy0)))
 go_ret
 exact ⟨by first | rfl | (simp [errW_none, errW_some] <;> rfl) | (simp [*, errW_none, errW_some] <;> rfl) | (exfalso; simp_all), by (with_reducible repeat (first | apply Kd.R_alloc | apply Kd.R_drewN | apply Kd.R_drew)); exact HO0_1.out, by repeat (first | (with_reducible first | exact HB.out | apply below_alloc | apply pw_below_drewN | apply below_drew1 | refine below_set ?_ GE120.out) | exact HB.out), by repeat (first | (with_reducible first | exact HK.out | apply Kept.alloc | apply Kept.drewN | apply Kept.drew | refine Kept.setCell ?_ (.inr GW120.out) _) | exact HK.out)⟩
end Go.Proofs.Ytomdfjohnmikdaa.QS
namespace Go.Proofs.Ytomdfjohnmikdaa.QS
open Go.Proofs.Ytomdfjohnmikdaa.Cw Go.Proofs.Ytomdfjohnmikdaa.Kp Go.Proofs.Ytomdfjohnmikdaa.Ext Go.RowKit Go.Proofs.YtomdfjohnmikdaaW.PrintWords Go.Proofs.YtomdfjohnmikdaaW.PrintLast Go.Proofs.YtomdfjohnmikdaaW.PrintMore
attribute [local go_sem] max2_int min2_int max_two min_two max_three min_three max_four min_four   -- for this text's walks alone
set_option linter.unusedVariables false
set_option linter.unusedSimpArgs false
def laws_szInt64S.f (l0 : List Int) (a1 : Int) : Option (Int) := if (wrap64 (a1 - (l0.length : Int))) < 0 then (some (-1)) else (some (wrap64 (a1 - (l0.length : Int))))
set_option maxHeartbeats 8000000 in
set_option maxRecDepth 100000 in
theorem laws_szInt64S.calls (A0 : Option Addr) (c0 : Nat) (l0 : List Int) (a1 : Int) (r : Int) (w : World) (hr0 : Kd.C (Kd.int .i64) w A0 l0.length l0) (hc0 : l0.length ≤ c0) (h : laws_szInt64S.f l0 a1 = some r) :
  Calls Try.prog 49 #[.slice A0 l0.length c0, .int .i64 a1] w fun e w' => e = .returned (.int .i64 r) ∧ Drawn0 w w' := by
 have HR0 := Aside0.mk hr0
 have HC0 := Aside0.mk hc0
 clear hr0 hc0
 have H : (if (wrap64 (a1 - (l0.length : Int))) < 0 then (some (-1)) else (some (wrap64 (a1 - (l0.length : Int))))) = some r := h
 clear h
 by_cases c3 : (wrap64 (a1 - (l0.length : Int))) < 0
 ·rw [if_pos c3] at H
  have c3b0 : decide ((wrap64 (a1 - (l0.length : Int))) < 0) = true := decide_eq_true c3
  clear c3
  obtain rfl := Option.some.inj H
  go_enter Try.func49, Try.ntmps49
  go_wp2
  go_ret
  exact ⟨by first | rfl | (simp; done) | (simp [*]; done), by repeat (first | exact Drawn0.refl _ | apply Drawn0.step)⟩
 ·rw [if_neg c3] at H
  have c3b0 : decide ((wrap64 (a1 - (l0.length : Int))) < 0) = false := decide_eq_false c3
  clear c3
  obtain rfl := Option.some.inj H
  go_enter Try.func49, Try.ntmps49
  go_wp2
  go_ret
  exact ⟨by first | rfl | (simp; done) | (simp [*]; done), by repeat (first | exact Drawn0.refl _ | apply Drawn0.step)⟩
end Go.Proofs.Ytomdfjohnmikdaa.QS
namespace Go.Proofs.Ytomdfjohnmikdaa.QS
open Go.Proofs.Ytomdfjohnmikdaa.Cw Go.Proofs.Ytomdfjohnmikdaa.Kp Go.Proofs.Ytomdfjohnmikdaa.Ext Go.RowKit Go.Proofs.YtomdfjohnmikdaaW.PrintWords Go.Proofs.YtomdfjohnmikdaaW.PrintLast Go.Proofs.YtomdfjohnmikdaaW.PrintMore
attribute [local go_sem] max2_int min2_int max_two min_two max_three min_three max_four min_four   -- for this text's walks alone
set_option linter.unusedVariables false
set_option linter.unusedSimpArgs false
def laws_szComplex.f (a0_0 : Int) (l0_1 : List Int) (a1 : Int) : Option (Int) := (laws_szInt64S.f l0_1 a1).bind fun t102 => (if t102 < 0 then (some (-1)) else (some t102))
set_option maxHeartbeats 8000000 in
set_option maxRecDepth 100000 in
theorem laws_szComplex.calls (a0_0 : Int) (A0_1 : Option Addr) (c0_1 : Nat) (l0_1 : List Int) (a1 : Int) (r : Int) (w : World) (hr0_1 : Kd.C (Kd.int .i64) w A0_1 l0_1.length l0_1) (hc0_1 : l0_1.length ≤ c0_1) (h : laws_szComplex.f a0_0 l0_1 a1 = some r) :
  Calls Try.prog 13 #[.agg #[.int .i64 a0_0, .slice A0_1 l0_1.length c0_1], .int .i64 a1] w fun e w' => e = .returned (.int .i64 r) ∧ Below w.heap.size w w' := by
 have hu24 := Try.underlying24
 have HR0_1 := Aside0.mk hr0_1
 have HC0_1 := Aside0.mk hc0_1
 clear hr0_1 hc0_1
 have HB := Aside0.mk (Below.refl w.heap.size w)
 have H : ((laws_szInt64S.f l0_1 a1).bind fun t102 => (if t102 < 0 then (some (-1)) else (some t102))) = some r := h
 clear h
 replace H := Option.bind_eq_some_iff.mp H
 obtain ⟨t102, A30, H⟩ := H
 try dsimp only at H
 have A3 := Aside0.mk A30
 clear A30
 by_cases c4 : t102 < 0
 ·rw [if_pos c4] at H
  have c4b0 : decide (t102 < 0) = true := decide_eq_true c4
  clear c4
  obtain rfl := Option.some.inj H
  go_enter Try.func13, Try.ntmps13
  go_wp2_with (first | ((with_reducible refine gate_dst (N := 2) rfl ?_); refine box_event ?hg (N := 2) ?hd (cs := #[.int .i64 a0_0, .slice A0_1 l0_1.length c0_1]) (t := 24) ?hr ?_; (case hd => rfl); (case hg => rfl); (case hr => first | (go_simp; done) | (go_simp; rfl)); intro gb101 hg w5 hbox hb; have BK101 := Aside0.mk (hbox); have GW101 := gH HB hg; have GE101 := gH HB hg; replace HB := sH HB hb; clear hb hbox hg; have hcz6_0 : w5.cell? ⟨gb101, 0, none⟩ = some (.int .i64 a0_0) := cB BK101 0; have hcz6_1 : w5.cell? ⟨gb101, 1, none⟩ = some (.slice A0_1 l0_1.length c0_1) := cB BK101 1; have hfz6_0 := zB BK101 0; have hfz6_1 := zB BK101 1) | ((with_reducible refine gate_callee (f := 49) rfl ?_); refine cl_ (some 8) Try.func49 #[.slice A0_1 l0_1.length c0_1, .int .i64 a1] ?_; (with_reducible refine (laws_szInt64S.calls _ _ l0_1 a1 t102 _ ?side1 ?side2 A3.out).mono ?_); (case side1 => exact pC ((Kd.C_below HR0_1.out HB.out))); (case side2 => exact HC0_1.out); rintro e w' ⟨rfl, ⟨nd, rfl⟩⟩; refine ⟨_, rfl, ?_⟩))
  go_ret
  exact ⟨by first | rfl | (simp [errW_none, errW_some] <;> rfl) | (simp [*, errW_none, errW_some] <;> rfl) | (exfalso; simp_all), pH HB⟩
 ·rw [if_neg c4] at H
  have c4b0 : decide (t102 < 0) = false := decide_eq_false c4
  clear c4
  obtain rfl := Option.some.inj H
  go_enter Try.func13, Try.ntmps13
  go_wp2_with (first | ((with_reducible refine gate_dst (N := 2) rfl ?_); refine box_event ?hg (N := 2) ?hd (cs := #[.int .i64 a0_0, .slice A0_1 l0_1.length c0_1]) (t := 24) ?hr ?_; (case hd => rfl); (case hg => rfl); (case hr => first | (go_simp; done) | (go_simp; rfl)); intro gb101 hg w7 hbox hb; have BK101 := Aside0.mk (hbox); have GW101 := gH HB hg; have GE101 := gH HB hg; replace HB := sH HB hb; clear hb hbox hg; have hcz8_0 : w7.cell? ⟨gb101, 0, none⟩ = some (.int .i64 a0_0) := cB BK101 0; have hcz8_1 : w7.cell? ⟨gb101, 1, none⟩ = some (.slice A0_1 l0_1.length c0_1) := cB BK101 1; have hfz8_0 := zB BK101 0; have hfz8_1 := zB BK101 1) | ((with_reducible refine gate_callee (f := 49) rfl ?_); refine cl_ (some 8) Try.func49 #[.slice A0_1 l0_1.length c0_1, .int .i64 a1] ?_; (with_reducible refine (laws_szInt64S.calls _ _ l0_1 a1 t102 _ ?side1 ?side2 A3.out).mono ?_); (case side1 => exact pC ((Kd.C_below HR0_1.out HB.out))); (case side2 => exact HC0_1.out); rintro e w' ⟨rfl, ⟨nd, rfl⟩⟩; refine ⟨_, rfl, ?_⟩))
  go_ret
  exact ⟨by first | rfl | (simp [errW_none, errW_some] <;> rfl) | (simp [*, errW_none, errW_some] <;> rfl) | (exfalso; simp_all), pH HB⟩
end Go.Proofs.Ytomdfjohnmikdaa.QS
namespace Go.Proofs.Ytomdfjohnmikdaa.QS
open Go.Proofs.Ytomdfjohnmikdaa.Cw Go.Proofs.Ytomdfjohnmikdaa.Kp Go.Proofs.Ytomdfjohnmikdaa.Ext Go.RowKit Go.Proofs.YtomdfjohnmikdaaW.PrintWords Go.Proofs.YtomdfjohnmikdaaW.PrintLast Go.Proofs.YtomdfjohnmikdaaW.PrintMore
attribute [local go_sem] max2_int min2_int max_two min_two max_three min_three max_four min_four   -- for this text's walks alone
set_option linter.unusedVariables false
set_option linter.unusedSimpArgs false
def laws_szPairS.f (l0 : List (S72)) (a1 : Int) : Option (Int) := if (wrap64 (a1 - (l0.length : Int))) < 0 then (some (-1)) else (some (wrap64 (a1 - (l0.length : Int))))
set_option maxHeartbeats 8000000 in
set_option maxRecDepth 100000 in
theorem laws_szPairS.calls (A0 : Option Addr) (c0 : Nat) (l0 : List (S72)) (a1 : Int) (r : Int) (w : World) (hr0 : Kd.C k72 w A0 l0.length l0) (hc0 : l0.length ≤ c0) (h : laws_szPairS.f l0 a1 = some r) :
  Calls Try.prog 23 #[.slice A0 l0.length c0, .int .i64 a1] w fun e w' => e = .returned (.int .i64 r) ∧ Drawn0 w w' := by
 have HR0 := Aside0.mk hr0
 have HC0 := Aside0.mk hc0
 clear hr0 hc0
 have H : (if (wrap64 (a1 - (l0.length : Int))) < 0 then (some (-1)) else (some (wrap64 (a1 - (l0.length : Int))))) = some r := h
 clear h
 by_cases c3 : (wrap64 (a1 - (l0.length : Int))) < 0
 ·rw [if_pos c3] at H
  have c3b0 : decide ((wrap64 (a1 - (l0.length : Int))) < 0) = true := decide_eq_true c3
  clear c3
  obtain rfl := Option.some.inj H
  go_enter Try.func23, Try.ntmps23
  go_wp2
  go_ret
  exact ⟨by first | rfl | (simp; done) | (simp [*]; done), by repeat (first | exact Drawn0.refl _ | apply Drawn0.step)⟩
 ·rw [if_neg c3] at H
  have c3b0 : decide ((wrap64 (a1 - (l0.length : Int))) < 0) = false := decide_eq_false c3
  clear c3
  obtain rfl := Option.some.inj H
  go_enter Try.func23, Try.ntmps23
  go_wp2
  go_ret
  exact ⟨by first | rfl | (simp; done) | (simp [*]; done), by repeat (first | exact Drawn0.refl _ | apply Drawn0.step)⟩
end Go.Proofs.Ytomdfjohnmikdaa.QS
namespace Go.Proofs.Ytomdfjohnmikdaa.QS
open Go.Proofs.Ytomdfjohnmikdaa.Cw Go.Proofs.Ytomdfjohnmikdaa.Kp Go.Proofs.Ytomdfjohnmikdaa.Ext Go.RowKit Go.Proofs.YtomdfjohnmikdaaW.PrintWords Go.Proofs.YtomdfjohnmikdaaW.PrintLast Go.Proofs.YtomdfjohnmikdaaW.PrintMore
attribute [local go_sem] max2_int min2_int max_two min_two max_three min_three max_four min_four   -- for this text's walks alone
set_option linter.unusedVariables false
set_option linter.unusedSimpArgs false
def laws_toInt64S.l0 : Nat → List Int → List Int → Int → Option (List Int)
 | 0, _, _, _ => none
 | k + 1, x0, x3, x4 => if x4 < (x0.length : Int) then (if 0 ≤ x4 then (if x4 < (x3.length : Int) then (laws_toInt64S.l0 k x0 (x3.set (x4 : Int).toNat (rd x0 x4)) (wrap64 (x4 + 1))) else (none)) else (none)) else (some x3)
def laws_toInt64S.f (k : Nat) (l0 : List Int) : Option (List Int) := if 0 ≤ (l0.length : Int) then (if ((l0.length : Int) : Int).toNat ≤ 35184372088832 then (laws_toInt64S.l0 k l0 (List.replicate ((l0.length : Int) : Int).toNat 0) 0) else (none)) else (none)
set_option maxHeartbeats 8000000 in
set_option maxRecDepth 100000 in
theorem laws_toInt64S.calls (k : Nat) (A0 : Option Addr) (c0 : Nat) (l0 : List Int) (r : List Int) (w : World) (hr0 : Kd.C (Kd.int .i64) w A0 l0.length l0) (hc0 : l0.length ≤ c0) (h : laws_toInt64S.f k l0 = some r) :
  Calls Try.prog 16 #[.slice A0 l0.length c0] w fun e w' => ∃ v0_ : Value, e = .returned (v0_) ∧ Kd.R (Kd.int .i64) 2 w' w.heap.size (fun _ => True) v0_ r ∧ Below w.heap.size w w' := by
 have HR0 := Aside0.mk hr0
 have HC0 := Aside0.mk hc0
 clear hr0 hc0
 have HB := Aside0.mk (Below.refl w.heap.size w)
 have H : (if 0 ≤ (l0.length : Int) then (if ((l0.length : Int) : Int).toNat ≤ 35184372088832 then (laws_toInt64S.l0 k l0 (List.replicate ((l0.length : Int) : Int).toNat 0) 0) else (none)) else (none)) = some r := h
 clear h
 by_cases c2 : 0 ≤ (l0.length : Int)
 ·rw [if_pos c2] at H
  have c2b0 := eq_true c2
  have c2b1 : decide (0 ≤ (l0.length : Int)) = true := decide_eq_true c2
  clear c2
  by_cases c3 : ((l0.length : Int) : Int).toNat ≤ 35184372088832
  ·rw [if_pos c3] at H
   have c3b0 := eq_true c3
   have c3b1 : decide (((l0.length : Int) : Int).toNat ≤ 35184372088832) = true := decide_eq_true c3
   clear c3
   obtain ⟨y103, hy103⟩ : ∃ y_ : List Int, y_ = (List.replicate ((l0.length : Int) : Int).toNat 0) := ⟨_, rfl⟩
   replace H : (laws_toInt64S.l0 k l0 y103 0) = some r := by first | (rw [hy103]; with_reducible exact H) | (have H2_ := (Option.bind_some _ _).symm.trans H; rw [hy103]; with_reducible exact H2_) | (have H2_ := (Option.bind_some _ _).symm.trans H; with_reducible exact H2_) | with_reducible exact H | (rw [hy103]; exact H) | exact H
   have Ny103 := Aside0.mk hy103
   clear hy103
   have H' := Aside0.mk H
   clear H
   go_enter Try.func16, Try.ntmps16
   go_wp2_with (first | ((with_reducible refine gate_dst (N := 7) rfl ?_); refine Kd.R_make (Kd.int .i64) _ 2 rfl (N := 7) rfl 22 _ _ rfl (l0.length : Int) rfl rfl Try.underlying22 (.int .i64 0) 8 info2 rfl (by decide) (by omega) 0 (ok := fun _ => True) (okp := fun _ => True) rfl (fun _ hk => hk) trivial (of_decide_eq_true (by first | (with_reducible assumption) | assumption)) (Nat.le_trans (Nat.mul_le_mul_right _ (of_decide_eq_true (by first | (with_reducible assumption) | assumption) : (l0.length : Int).toNat ≤ 35184372088832)) (by omega)) (Below.refl _ _) (Nat.le_refl _) ?_; intro v104 w4 ho5 hb hg_ hnew_; clear hg_ hnew_; (first | rw [← Ny103.out] at ho5 | (simp only [Int.reduceToNat] at ho5; rw [← Ny103.out] at ho5)); have HO105 := Aside0.mk (Kd.R_lower ho5 (below_size (pH HB))); replace HB := sH HB hb; clear hb ho5))
   go_loopg [4] k (fun kq v4 w' => ∃ (x3_1 : List Int) (x4_1 : Int), v4 = .int .i64 x4_1 ∧ Aside0 (laws_toInt64S.l0 kq l0 x3_1 x4_1 = some r) ∧ Aside0 (kq ≤ k) ∧ Aside0 (Kd.R (Kd.int .i64) 2 w' w.heap.size (fun _ => True) v104 x3_1) ∧ Aside0 (Below w.heap.size w w'))
   case atStart => exact ⟨(y103), (0), (by first | rfl | (simp; done) | (simp [*]; done)), H', ⟨Nat.le_refl _⟩, ⟨by (with_reducible repeat (first | apply Kd.R_alloc | apply Kd.R_drewN | apply Kd.R_drew)); exact HO105.out⟩, ⟨pH HB⟩⟩
   case round =>
    clear H'
    try clear c1
    try clear c2
    try clear c2b0
    try clear c2b1
    try clear p2
    try clear c3
    try clear c3b0
    try clear c3b1
    obtain ⟨x3_1, x4_1, rfl, HA, HK1, HO_3, HB⟩ := hrel
    cases gk with
    | zero => exact absurd HA.out (by simp [laws_toInt64S.l0])
    | succ k1 =>
     have H := HA.out
     clear HA
     simp only [laws_toInt64S.l0] at H
     by_cases c6 : x4_1 < (l0.length : Int)
     ·rw [if_pos c6] at H
      have c6b0 : decide (x4_1 < (l0.length : Int)) = true := decide_eq_true c6
      clear c6
      by_cases c7 : 0 ≤ x4_1
      ·rw [if_pos c7] at H
       have c7b0 : decide (0 ≤ x4_1) = true := decide_eq_true c7
       clear c7
       by_cases c8 : x4_1 < (x3_1.length : Int)
       ·rw [if_pos c8] at H
        have c8b0 : decide (x4_1 < (x3_1.length : Int)) = true := decide_eq_true c8
        clear c8
        obtain ⟨y107, hy107⟩ : ∃ y_ : List Int, y_ = (x3_1.set (x4_1 : Int).toNat (rd l0 x4_1)) := ⟨_, rfl⟩
        replace H : (laws_toInt64S.l0 k1 l0 y107 (wrap64 (x4_1 + 1))) = some r := by first | (rw [hy107]; with_reducible exact H) | (have H2_ := (Option.bind_some _ _).symm.trans H; rw [hy107]; with_reducible exact H2_) | (have H2_ := (Option.bind_some _ _).symm.trans H; with_reducible exact H2_) | with_reducible exact H | (rw [hy107]; exact H) | exact H
        have Ny107 := Aside0.mk hy107
        clear hy107
        have H' := Aside0.mk H
        clear H
        have p106 : 0 ≤ (x4_1 : Int) := of_decide_eq_true (by first | (with_reducible assumption) | assumption)
        have q106 : x4_1 < (l0.length : Int) := of_decide_eq_true (by first | (with_reducible assumption) | assumption)
        obtain ⟨ad106, e106, hx106_0⟩ := Kd.at_int HR0.out x4_1 p106 q106
        cases e106
        replace hx106_0 := cH HB hx106_0
        replace p106 := eq_true p106
        replace q106 := eq_true q106
        have p9 : 0 ≤ (x4_1 : Int) := of_decide_eq_true (by first | (with_reducible assumption) | assumption)
        have q9 : (x4_1 : Int) < ((x3_1.length : Int) : Int) := of_decide_eq_true (by first | (with_reducible assumption) | assumption)
        obtain ⟨go9, co9, eo9, gb9, gl9, cl9, HG9⟩ := Kd.R_form HO_3.out (by omega)
        (first | cases eo9 | (injection eo9 with ea_ en_ ec_; (first | subst ea_ | (injection ea_ with ea_; subst ea_)); subst ec_; clear en_))
        have GB9 := Aside0.mk gb9
        have GG9 := Aside0.mk HG9
        clear gb9 gl9 HG9
        obtain ⟨hx9_0, hf9_0⟩ := Kd.R_celln 0 HO_3.out (x4_1 : Int) p9 q9
        replace p9 := eq_true p9
        replace q9 := eq_true q9
        have HP10 := Kd.R_putg HO_3.out (x4_1 : Int) (rd l0 x4_1)
        go_wp2_with (first | ((with_reducible refine gate_store (t := 2) (p := 20) rfl ?_); refine store_event (t := 2) (p := 20) (v := ?vo_w11) (w1 := (wr.setCell ⟨go9, (x4_1 : Int).toNat, none⟩ (.int .i64 (rd l0 x4_1)))) ?hg ?ho ?hn ?hr ?_; (case ho => rfl); (case hg => rfl); (case hn => rfl); (case hr => first | (go_simp; done) | (go_simp; rfl)); intro w11 hw; have hg : wr.grownBy w11 (some go9) := (by rw [hw]; exact HP10.2); have hp_ : Kd.R (Kd.int .i64) 2 w11 w.heap.size (fun _ => True) (.slice (some ⟨go9, 0, none⟩) x3_1.length co9) y107 := (by rw [hw, Ny107.out]; exact HP10.1); clear HP10; have n0_ := Aside0.mk (hp_); have n1_ := Aside0.mk ((by rw [hw]; exact below_set (HB.out) GB9.out : Below w.heap.size w w11)); clear HO_3; clear HB; have HO_3 := n0_; have HB := n1_; clear n0_ n1_; clear hg hw hp_))
        go_roundg k1
        case measure => have := HK1.out; omega
        case rel => exact ⟨(y107), (wrap64 (x4_1 + 1)), (by first | rfl | (simp; done) | (simp [*]; done)), H', ⟨by have := HK1.out; omega⟩, ⟨by (with_reducible repeat (first | apply Kd.R_alloc | apply Kd.R_drewN | apply Kd.R_drew)); exact HO_3.out⟩, ⟨pH HB⟩⟩
       ·rw [if_neg c8] at H
        exact absurd H (by simp)
      ·rw [if_neg c7] at H
       exact absurd H (by simp)
     ·rw [if_neg c6] at H
      have c6b0 : decide (x4_1 < (l0.length : Int)) = false := decide_eq_false c6
      clear c6
      obtain rfl := Option.some.inj H
      go_wp2
      go_ret
      exact ⟨_, by first | rfl | (simp [errW_none, errW_some] <;> rfl) | (simp [*, errW_none, errW_some] <;> rfl) | (exfalso; simp_all), by (with_reducible repeat (first | apply Kd.R_alloc | apply Kd.R_drewN | apply Kd.R_drew)); exact HO_3.out, pH HB⟩
  ·rw [if_neg c3] at H
   exact absurd H (by simp)
 ·rw [if_neg c2] at H
  exact absurd H (by simp)
end Go.Proofs.Ytomdfjohnmikdaa.QS
namespace Go.Proofs.Ytomdfjohnmikdaa.QS
open Go.Proofs.Ytomdfjohnmikdaa.Cw Go.Proofs.Ytomdfjohnmikdaa.Kp Go.Proofs.Ytomdfjohnmikdaa.Ext Go.RowKit Go.Proofs.YtomdfjohnmikdaaW.PrintWords Go.Proofs.YtomdfjohnmikdaaW.PrintLast Go.Proofs.YtomdfjohnmikdaaW.PrintMore
attribute [local go_sem] max2_int min2_int max_two min_two max_three min_three max_four min_four   -- for this text's walks alone
set_option linter.unusedVariables false
set_option linter.unusedSimpArgs false
def laws_toComplex.f (k : Nat) (a0_0 : Int) (l0_1 : List Int) : Option (Int × List Int) := (laws_toInt64S.f k l0_1).bind fun t111 => (some (a0_0, t111))
set_option maxHeartbeats 8000000 in
set_option maxRecDepth 100000 in
theorem laws_toComplex.calls (k : Nat) (a0_0 : Int) (A0_1 : Option Addr) (c0_1 : Nat) (l0_1 : List Int) (r1 : Int) (r2 : List Int) (w : World) (hr0_1 : Kd.C (Kd.int .i64) w A0_1 l0_1.length l0_1) (hc0_1 : l0_1.length ≤ c0_1) (h : laws_toComplex.f k a0_0 l0_1 = some (r1, r2)) :
  Calls Try.prog 15 #[.agg #[.int .i64 a0_0, .slice A0_1 l0_1.length c0_1]] w fun e w' => ∃ v1_ : Value, e = .returned (.agg #[.int .i64 r1, v1_]) ∧ Kd.R (Kd.int .i64) 2 w' w.heap.size (fun _ => True) v1_ r2 ∧ Below w.heap.size w w' := by
 have hu24 := Try.underlying24
 have hu28 := Try.underlying28
 have HR0_1 := Aside0.mk hr0_1
 have HC0_1 := Aside0.mk hc0_1
 clear hr0_1 hc0_1
 have HB := Aside0.mk (Below.refl w.heap.size w)
 have H : ((laws_toInt64S.f k l0_1).bind fun t111 => (some (a0_0, t111))) = some (r1, r2) := h
 clear h
 replace H := Option.bind_eq_some_iff.mp H
 obtain ⟨t111, A20, H⟩ := H
 try dsimp only at H
 have A2 := Aside0.mk A20
 clear A20
 simp only [Option.some.injEq, Prod.mk.injEq] at H
 obtain ⟨rfl, rfl⟩ := H
 go_enter Try.func15, Try.ntmps15
 go_wp2_with (first | ((with_reducible refine gate_dst (N := 1) rfl ?_); refine box_event ?hg (N := 1) ?hd (cs := #[.int .i64 a0_0, .slice A0_1 l0_1.length c0_1]) (t := 24) ?hr ?_; (case hd => rfl); (case hg => rfl); (case hr => first | (go_simp; done) | (go_simp; rfl)); intro gb108 hg w3 hbox hb; have BK108 := Aside0.mk (hbox); have GW108 := gH HB hg; have GE108 := gH HB hg; replace HB := sH HB hb; clear hb hbox hg) | ((with_reducible refine gate_dst (N := 2) rfl ?_); refine box_event ?hg (N := 2) ?hd (cs := #[.int .i64 0, .slice none 0 0]) (t := 28) ?hr ?_; (case hd => rfl); (case hg => rfl); (case hr => first | (go_simp; done) | (go_simp; rfl)); intro gb109 hg w4 hbox hb; have BK109 := Aside0.mk (hbox); have GW109 := gH HB hg; have GE109 := gH HB hg; replace HB := sH HB hb; have NB108_109 := nB BK108 hg; have NB109_108 := oB BK108 hg; replace BK108 := sB BK108 hb; clear hb hbox hg) | ((with_reducible refine gate_dst (N := 3) rfl ?_); refine box_event ?hg (N := 3) ?hd (cs := #[.int .i64 0, .slice none 0 0]) (t := 28) ?hr ?_; (case hd => rfl); (case hg => rfl); (case hr => first | (go_simp; done) | (go_simp; rfl)); intro gb110 hg w5 hbox hb; have BK110 := Aside0.mk (hbox); have GW110 := gH HB hg; have GE110 := gH HB hg; replace HB := sH HB hb; have NB108_110 := nB BK108 hg; have NB110_108 := oB BK108 hg; replace BK108 := sB BK108 hb; have NB109_110 := nB BK109 hg; have NB110_109 := oB BK109 hg; replace BK109 := sB BK109 hb; clear hb hbox hg; (try have hnb6 := NB108_109.out); (try have hnc6 := NB109_108.out); (try have hnb7 := NB108_110.out); (try have hnc7 := NB110_108.out); have hcz8_0 : w5.cell? ⟨gb108, 0, none⟩ = some (.int .i64 a0_0) := cB BK108 0; have hcz8_1 : w5.cell? ⟨gb108, 1, none⟩ = some (.slice A0_1 l0_1.length c0_1) := cB BK108 1; have hfz8_0 := zB BK108 0; have hfz8_1 := zB BK108 1; (try have hnb9 := NB110_109.out); (try have hnc9 := NB109_110.out); have hcz10_0 : w5.cell? ⟨gb110, 0, none⟩ = some (.int .i64 0) := cB BK110 0; have hcz10_1 : w5.cell? ⟨gb110, 1, none⟩ = some (.slice none 0 0) := cB BK110 1; have hfz10_0 := zB BK110 0; have hfz10_1 := zB BK110 1) | ((with_reducible refine gate_callee (f := 16) rfl ?_); refine cl_ (some 9) Try.func16 #[.slice A0_1 l0_1.length c0_1] ?_; (with_reducible refine (laws_toInt64S.calls k _ _ l0_1 t111 _ ?side1 ?side2 A2.out).mono ?_); (case side1 => exact Kd.C_below HR0_1.out (pH HB)); (case side2 => exact HC0_1.out); rintro e w11 ⟨v112, rfl, ho0, hb⟩; refine ⟨_, rfl, ?_⟩; have n0_ := Aside0.mk (Kd.R_lower ho0 (below_size (pH HB))); have n1_ := Aside0.mk (blk_below (g := gb108) (o := .cells #[.int .i64 a0_0, .slice A0_1 l0_1.length c0_1] 24 (0, 0)) (by (with_reducible repeat (first | refine blk_drewN ?_ _ | refine blk_drew ?_ | refine blk_alloc ?_ _)); refine blk_far ?_ NB108_110.out _; (with_reducible repeat (first | refine blk_drewN ?_ _ | refine blk_drew ?_ | refine blk_alloc ?_ _)); exact BK108.out) hb); have n2_ := Aside0.mk (blk_below (g := gb109) (o := .cells #[.int .i64 0, .slice none 0 0] 28 (0, 0)) (by (with_reducible repeat (first | refine blk_drewN ?_ _ | refine blk_drew ?_ | refine blk_alloc ?_ _)); refine blk_far ?_ NB109_110.out _; (with_reducible repeat (first | refine blk_drewN ?_ _ | refine blk_drew ?_ | refine blk_alloc ?_ _)); exact BK109.out) hb); have n3_ := Aside0.mk (blk_below (g := gb110) (o := .cells #[.int .i64 a0_0, .slice none 0 0] 28 (0, 0)) (by (with_reducible repeat (first | refine blk_drewN ?_ _ | refine blk_drew ?_ | refine blk_alloc ?_ _)); refine blk_put (cs := #[.int .i64 0, .slice none 0 0]) ?_ 0 _ rfl; (with_reducible repeat (first | refine blk_drewN ?_ _ | refine blk_drew ?_ | refine blk_alloc ?_ _)); exact BK110.out) hb); have n4_ := sH HB hb; clear BK108; clear BK109; clear BK110; clear HB; have HO113 := n0_; have BK108 := n1_; have BK109 := n2_; have BK110 := n3_; have HB := n4_; clear n0_ n1_ n2_ n3_ n4_; (try clear hb); (try clear hi); (try clear ho0); obtain ⟨Ao12, co12, eo12⟩ := Kd.R_slice HO113.out; subst eo12; have hcz13_0 : w11.cell? ⟨gb110, 0, none⟩ = some (.int .i64 a0_0) := cB BK110 0; have hcz13_1 : w11.cell? ⟨gb110, 1, none⟩ = some (.slice none 0 0) := cB BK110 1; have hfz13_0 := zB BK110 0; have hfz13_1 := zB BK110 1; have hcz14_0 : w11.cell? ⟨gb109, 0, none⟩ = some (.int .i64 0) := cB BK109 0; have hcz14_1 : w11.cell? ⟨gb109, 1, none⟩ = some (.slice none 0 0) := cB BK109 1; have hfz14_0 := zB BK109 0; have hfz14_1 := zB BK109 1))
 refine bodyPost_ret (results_cell_row rfl _ _ gb109 28 #[.int .i64 a0_0, .slice Ao12 t111.length co12] (0, 0) _ rfl (by (with_reducible repeat (first | refine blk_drewN ?_ _ | refine blk_drew ?_ | refine blk_alloc ?_ _)); refine blk_put (cs := #[.int .i64 a0_0, .slice none 0 0]) ?_ 1 _ rfl; (with_reducible repeat (first | refine blk_drewN ?_ _ | refine blk_drew ?_ | refine blk_alloc ?_ _)); refine blk_put (cs := #[.int .i64 0, .slice none 0 0]) ?_ 0 _ rfl; (with_reducible repeat (first | refine blk_drewN ?_ _ | refine blk_drew ?_ | refine blk_alloc ?_ _)); refine blk_far ?_ NB109_110.out _; (with_reducible repeat (first | refine blk_drewN ?_ _ | refine blk_drew ?_ | refine blk_alloc ?_ _)); exact BK109.out) Try.underlying28 rfl (by kernel_rfl)) rfl ?_
 exact ⟨_, by first | rfl | (simp [errW_none, errW_some] <;> rfl) | (simp [*, errW_none, errW_some] <;> rfl) | (exfalso; simp_all), by (with_reducible repeat (first | apply Kd.R_alloc | apply Kd.R_drewN | apply Kd.R_drew)); exact Kd.R_mono (Kd.R_far (p := ⟨gb109, 1, none⟩) (Kd.R_far (p := ⟨gb109, 0, none⟩) (Kd.R_far (p := ⟨gb110, 1, none⟩) (Kd.R_types (Kd.R_types HO113.out BK110.out (by decide)) BK109.out (by decide)) (fun _ hk => hk.1.2) (.slice Ao12 t111.length co12)) (fun _ hk => hk.2) (.int .i64 a0_0)) (fun _ hk => hk.2) (.slice Ao12 t111.length co12)) (fun _ hk => trivial), pH HB⟩
end Go.Proofs.Ytomdfjohnmikdaa.QS
namespace Go.Proofs.Ytomdfjohnmikdaa.QS
open Go.Proofs.Ytomdfjohnmikdaa.Cw Go.Proofs.Ytomdfjohnmikdaa.Kp Go.Proofs.Ytomdfjohnmikdaa.Ext Go.RowKit Go.Proofs.YtomdfjohnmikdaaW.PrintWords Go.Proofs.YtomdfjohnmikdaaW.PrintLast Go.Proofs.YtomdfjohnmikdaaW.PrintMore
attribute [local go_sem] max2_int min2_int max_two min_two max_three min_three max_four min_four   -- for this text's walks alone
set_option linter.unusedVariables false
set_option linter.unusedSimpArgs false
def laws_toPairS.l0 : Nat → List (S72) → List (S73) → Int → Option ((List (S73)))
 | 0, _, _, _ => none
 | k + 1, x0, x3, x4 => if x4 < (x0.length : Int) then (if 0 ≤ x4 then ((laws_toPair.f ((rd_T72 x0 x4).f0) ((rd_T72 x0 x4).f1)).bind fun bt128 => (if x4 < (x3.length : Int) then (laws_toPairS.l0 k x0 (x3.set (x4 : Int).toNat (⟨bt128.1, bt128.2⟩ : S73)) (wrap64 (x4 + 1))) else (none))) else (none)) else (some x3)
def laws_toPairS.f (k : Nat) (l0 : List (S72)) : Option ((List (S73))) := if 0 ≤ (l0.length : Int) then (if ((l0.length : Int) : Int).toNat ≤ 17592186044416 then (laws_toPairS.l0 k l0 (List.replicate ((l0.length : Int) : Int).toNat z73) 0) else (none)) else (none)
set_option maxHeartbeats 8000000 in
set_option maxRecDepth 100000 in
theorem laws_toPairS.calls (k : Nat) (A0 : Option Addr) (c0 : Nat) (l0 : List (S72)) (r : List (S73)) (w : World) (hr0 : Kd.C k72 w A0 l0.length l0) (hc0 : l0.length ≤ c0) (h : laws_toPairS.f k l0 = some r) :
  Calls Try.prog 25 #[.slice A0 l0.length c0] w fun e w' => ∃ v0_ : Value, e = .returned (v0_) ∧ Kd.R k73 73 w' w.heap.size (fun _ => True) v0_ r ∧ Below w.heap.size w w' := by
 have hu72 := Try.underlying72
 have hu73 := Try.underlying73
 have HR0 := Aside0.mk hr0
 have HC0 := Aside0.mk hc0
 clear hr0 hc0
 have HB := Aside0.mk (Below.refl w.heap.size w)
 have H : (if 0 ≤ (l0.length : Int) then (if ((l0.length : Int) : Int).toNat ≤ 17592186044416 then (laws_toPairS.l0 k l0 (List.replicate ((l0.length : Int) : Int).toNat z73) 0) else (none)) else (none)) = some r := h
 clear h
 by_cases c2 : 0 ≤ (l0.length : Int)
 ·rw [if_pos c2] at H
  have c2b0 := eq_true c2
  have c2b1 : decide (0 ≤ (l0.length : Int)) = true := decide_eq_true c2
  clear c2
  by_cases c3 : ((l0.length : Int) : Int).toNat ≤ 17592186044416
  ·rw [if_pos c3] at H
   have c3b0 := eq_true c3
   have c3b1 : decide (((l0.length : Int) : Int).toNat ≤ 17592186044416) = true := decide_eq_true c3
   clear c3
   obtain ⟨y124, hy124⟩ : ∃ y_ : List (S73), y_ = (List.replicate ((l0.length : Int) : Int).toNat z73) := ⟨_, rfl⟩
   replace H : (laws_toPairS.l0 k l0 y124 0) = some r := by first | (rw [hy124]; with_reducible exact H) | (have H2_ := (Option.bind_some _ _).symm.trans H; rw [hy124]; with_reducible exact H2_) | (have H2_ := (Option.bind_some _ _).symm.trans H; with_reducible exact H2_) | with_reducible exact H | (rw [hy124]; exact H) | exact H
   have Ny124 := Aside0.mk hy124
   clear hy124
   have H' := Aside0.mk H
   clear H
   go_enter Try.func25, Try.ntmps25
   go_wp2_with (first | ((with_reducible refine gate_dst (N := 7) rfl ?_); refine Kd.R_make k73 _ 73 rfl (N := 7) rfl 38 _ _ rfl (l0.length : Int) rfl rfl Try.underlying38 (.agg #[(.int .i64 0), (.int .i64 0)]) 16 info73 rfl (by decide) (by omega) z73 (ok := fun _ => True) (okp := fun _ => True) (k73_mkM _ _ _ z73 ) (fun _ hk => hk) trivial (of_decide_eq_true (by first | (with_reducible assumption) | assumption)) (Nat.le_trans (Nat.mul_le_mul_right _ (of_decide_eq_true (by first | (with_reducible assumption) | assumption) : (l0.length : Int).toNat ≤ 17592186044416)) (by omega)) (Below.refl _ _) (Nat.le_refl _) ?_; intro v125 w4 ho5 hb hg_ hnew_; clear hg_ hnew_; (first | rw [← Ny124.out] at ho5 | (simp only [Int.reduceToNat] at ho5; rw [← Ny124.out] at ho5)); have HO126 := Aside0.mk (Kd.R_lower ho5 (below_size (pH HB))); replace HB := sH HB hb; clear hb ho5))
   go_loopg [4] k (fun kq v4 w' => ∃ (x3_1 : List (S73)) (x4_1 : Int), v4 = .int .i64 x4_1 ∧ Aside0 (laws_toPairS.l0 kq l0 x3_1 x4_1 = some r) ∧ Aside0 (kq ≤ k) ∧ Aside0 (Kd.R k73 73 w' w.heap.size (fun _ => True) v125 x3_1) ∧ Aside0 (Below w.heap.size w w'))
   case atStart => exact ⟨(y124), (0), (by first | rfl | (simp; done) | (simp [*]; done)), H', ⟨Nat.le_refl _⟩, ⟨by (with_reducible repeat (first | apply Kd.R_alloc | apply Kd.R_drewN | apply Kd.R_drew)); exact HO126.out⟩, ⟨pH HB⟩⟩
   case round =>
    clear H'
    try clear c2
    try clear c2b0
    try clear c2b1
    try clear p2
    try clear c3
    try clear c3b0
    try clear c3b1
    obtain ⟨x3_1, x4_1, rfl, HA, HK1, HO_3, HB⟩ := hrel
    cases gk with
    | zero => exact absurd HA.out (by simp [laws_toPairS.l0])
    | succ k1 =>
     have H := HA.out
     clear HA
     simp only [laws_toPairS.l0] at H
     by_cases c6 : x4_1 < (l0.length : Int)
     ·rw [if_pos c6] at H
      have c6b0 : decide (x4_1 < (l0.length : Int)) = true := decide_eq_true c6
      clear c6
      by_cases c7 : 0 ≤ x4_1
      ·rw [if_pos c7] at H
       have c7b0 : decide (0 ≤ x4_1) = true := decide_eq_true c7
       clear c7
       replace H := Option.bind_eq_some_iff.mp H
       obtain ⟨⟨t128, t129⟩, A80, H⟩ := H
       try dsimp only at H
       have A8 := Aside0.mk A80
       clear A80
       by_cases c9 : x4_1 < (x3_1.length : Int)
       ·rw [if_pos c9] at H
        have c9b0 : decide (x4_1 < (x3_1.length : Int)) = true := decide_eq_true c9
        clear c9
        obtain ⟨y130, hy130⟩ : ∃ y_ : List (S73), y_ = (x3_1.set (x4_1 : Int).toNat (⟨t128, t129⟩ : S73)) := ⟨_, rfl⟩
        replace H : (laws_toPairS.l0 k1 l0 y130 (wrap64 (x4_1 + 1))) = some r := by first | (rw [hy130]; with_reducible exact H) | (have H2_ := (Option.bind_some _ _).symm.trans H; rw [hy130]; with_reducible exact H2_) | (have H2_ := (Option.bind_some _ _).symm.trans H; with_reducible exact H2_) | with_reducible exact H | (rw [hy130]; exact H) | exact H
        have Ny130 := Aside0.mk hy130
        clear hy130
        have H' := Aside0.mk H
        clear H
        have p127 : 0 ≤ (x4_1 : Int) := of_decide_eq_true (by first | (with_reducible assumption) | assumption)
        have q127 : x4_1 < (l0.length : Int) := of_decide_eq_true (by first | (with_reducible assumption) | assumption)
        obtain ⟨ad127, e127, hx127_0, hx127_1⟩ := at_T72 HR0.out x4_1 p127 q127
        cases e127
        replace hx127_0 := cH HB hx127_0
        replace hx127_1 := cH HB hx127_1
        replace p127 := eq_true p127
        replace q127 := eq_true q127
        go_wp2_with (first | ((with_reducible refine gate_callee (f := 64) rfl ?_); refine cl_ (some 20) Try.func64 #[.agg #[.int .i64 ((rd_T72 l0 x4_1).f0), .int .i64 ((rd_T72 l0 x4_1).f1)]] ?_; (with_reducible refine (laws_toPair.calls ((rd_T72 l0 x4_1).f0) ((rd_T72 l0 x4_1).f1) t128 t129 _ A8.out).mono ?_); rintro e w11 ⟨rfl, hb⟩; refine ⟨_, rfl, ?_⟩; replace HO_3 := sR HO_3 hb; replace HB := sH HB hb; (try clear hb); (try clear hi); have p10 : 0 ≤ (x4_1 : Int) := of_decide_eq_true (by first | (with_reducible assumption) | assumption); have q10 : (x4_1 : Int) < ((x3_1.length : Int) : Int) := of_decide_eq_true (by first | (with_reducible assumption) | assumption); obtain ⟨go10, co10, eo10, gb10, gl10, cl10, HG10⟩ := Kd.R_form HO_3.out (by omega); (first | cases eo10 | (injection eo10 with ea_ en_ ec_; (first | subst ea_ | (injection ea_ with ea_; subst ea_)); subst ec_; clear en_)); have GB10 := Aside0.mk gb10; have GG10 := Aside0.mk HG10; clear gb10 gl10 HG10; obtain ⟨ce10, hcl10, hM10, hcc10, hfr10⟩ := Kd.R_elem HO_3.out z73 (x4_1 : Int) p10 q10; obtain rfl := k73_openM hM10; have hx10_0 : w11.cell? ⟨go10, (x4_1 : Int).toNat * 2, none⟩ = some (.int .i64 ((rd_T73 x3_1 x4_1).f0)) := hcc10 0 _ rfl; have hx10_1 : w11.cell? ⟨go10, (x4_1 : Int).toNat * 2 + 1, none⟩ = some (.int .i64 ((rd_T73 x3_1 x4_1).f1)) := hcc10 1 _ rfl; have hf10_0 : w11.frozen? ⟨go10, (x4_1 : Int).toNat * 2, none⟩ = false := hfr10 0; have hf10_1 : w11.frozen? ⟨go10, (x4_1 : Int).toNat * 2 + 1, none⟩ = false := hfr10 1; clear hcl10 hcc10 hfr10 hM10; replace p10 := eq_true p10; replace q10 := eq_true q10; have HX12 := Aside0.mk (show Kd.R k73 73 w11 w.heap.size (fun _ => True) (.slice (some ⟨go10, 0, none⟩) x3_1.length co10) x3_1 from (pR HO_3)); obtain ⟨ce12, hcl12, hM12, hcc12, hfr12⟩ := Kd.R_elem HX12.out z73 (x4_1 : Int) (of_decide_eq_true (by first | (with_reducible assumption) | assumption)) (by have h_ : (x4_1 : Int) < ((x3_1.length : Int) : Int) := of_decide_eq_true (by first | (with_reducible assumption) | assumption); first | exact h_ | (have e_ := (Kd.R_reads' HO_3.out).1; omega) | simpa using h_); obtain rfl := k73_openM hM12; have HP12 := Kd.R_seg HX12.out (x4_1 : Int) (of_decide_eq_true (by first | (with_reducible assumption) | assumption)) (by have h_ : (x4_1 : Int) < ((x3_1.length : Int) : Int) := of_decide_eq_true (by first | (with_reducible assumption) | assumption); first | exact h_ | (have e_ := (Kd.R_reads' HO_3.out).1; omega) | simpa using h_) (seg := [.int .i64 t128, .int .i64 t129]) (j := 0) hcl12 hcc12 (show 2 ≤ 2 from by decide) (x' := (⟨t128, t129⟩ : S73)) (k73_mkM _ _ _ (⟨t128, t129⟩ : S73) ) (fun _ hk => hk); have hx12_0 := hcc12 0 _ rfl; (try simp only [show (k73).sz = 2 from rfl, Nat.mul_one, Nat.add_zero] at hx12_0); have hf12_0 := hfr12 0; (try simp only [show (k73).sz = 2 from rfl, Nat.mul_one, Nat.add_zero] at hf12_0); have hx12_1 := hcc12 1 _ rfl; (try simp only [show (k73).sz = 2 from rfl, Nat.mul_one, Nat.add_zero] at hx12_1); have hf12_1 := hfr12 1; (try simp only [show (k73).sz = 2 from rfl, Nat.mul_one, Nat.add_zero] at hf12_1); clear hcl12 hcc12 hfr12 hM12) | ((with_reducible refine gate_store (t := 73) (p := 21) rfl ?_); refine store_event (t := 73) (p := 21) (v := ?vo_w13) (w1 := ((w11.setCell ⟨go10, (x4_1 : Int).toNat * 2, none⟩ (.int .i64 t128)).setCell ⟨go10, (x4_1 : Int).toNat * 2 + 1, none⟩ (.int .i64 t129))) ?hg ?ho ?hn ?hr ?_; (case ho => rfl); (case hg => rfl); (case hn => rfl); (case hr => first | (go_simp; done) | (go_simp; rfl)); intro w13 hw; have hg : w11.grownBy w13 (some go10) := (by rw [hw]; exact HP12.2); have hp_ : Kd.R k73 73 w13 w.heap.size (fun _ => True) (.slice (some ⟨go10, 0, none⟩) x3_1.length co10) y130 := (by rw [hw, Ny130.out]; exact HP12.1); clear HP12; have n0_ := Aside0.mk (hp_); have n1_ := Aside0.mk ((by rw [hw]; exact below_set (below_set (HB.out) GB10.out) GB10.out : Below w.heap.size w w13)); clear HO_3; clear HB; have HO_3 := n0_; have HB := n1_; clear n0_ n1_; clear hg hw hp_))
        go_roundg k1
        case measure => have := HK1.out; omega
        case rel => exact ⟨(y130), (wrap64 (x4_1 + 1)), (by first | rfl | (simp; done) | (simp [*]; done)), H', ⟨by have := HK1.out; omega⟩, ⟨by (with_reducible repeat (first | apply Kd.R_alloc | apply Kd.R_drewN | apply Kd.R_drew)); exact HO_3.out⟩, ⟨pH HB⟩⟩
       ·rw [if_neg c9] at H
        exact absurd H (by simp)
      ·rw [if_neg c7] at H
       exact absurd H (by simp)
     ·rw [if_neg c6] at H
      have c6b0 : decide (x4_1 < (l0.length : Int)) = false := decide_eq_false c6
      clear c6
      obtain rfl := Option.some.inj H
      go_wp2
      go_ret
      exact ⟨_, by first | rfl | (simp [errW_none, errW_some] <;> rfl) | (simp [*, errW_none, errW_some] <;> rfl) | (exfalso; simp_all), by (with_reducible repeat (first | apply Kd.R_alloc | apply Kd.R_drewN | apply Kd.R_drew)); exact HO_3.out, pH HB⟩
  ·rw [if_neg c3] at H
   exact absurd H (by simp)
 ·rw [if_neg c2] at H
  exact absurd H (by simp)
end Go.Proofs.Ytomdfjohnmikdaa.QS
namespace Go.Proofs.Ytomdfjohnmikdaa.QFnExactFillPairing
open Go.Proofs.Ytomdfjohnmikdaa.Cw Go.Proofs.Ytomdfjohnmikdaa.Kp Go.Proofs.Ytomdfjohnmikdaa.Ext Go.Proofs.Ytomdfjohnmikdaa.QS Go.RowKit Go.Proofs.YtomdfjohnmikdaaW.PrintWords Go.Proofs.YtomdfjohnmikdaaW.PrintLast Go.Proofs.YtomdfjohnmikdaaW.PrintMore
attribute [local go_sem] max2_int min2_int max_two min_two max_three min_three max_four min_four   -- for this text's walks alone
set_option linter.unusedVariables false
set_option linter.unusedSimpArgs false
theorem info2 : (Try.prog.info? 2).map (fun i => (i.zero, i.size, i.bytes)) = some (some (.int .i64 0), 1, 8) := by kernel_rfl
theorem info4 : (Try.prog.info? 4).map (fun i => (i.zero, i.size, i.bytes)) = some (some (.bool false), 1, 1) := by kernel_rfl
theorem info73 : (Try.prog.info? 73).map (fun i => (i.zero, i.size, i.bytes)) = some (some (.agg #[(.int .i64 0), (.int .i64 0)]), 2, 16) := by kernel_rfl
end Go.Proofs.Ytomdfjohnmikdaa.QFnExactFillPairing
namespace Go.Proofs.Ytomdfjohnmikdaa.QFnExactFillPairing
open Go.Proofs.Ytomdfjohnmikdaa.Cw Go.Proofs.Ytomdfjohnmikdaa.Kp Go.Proofs.Ytomdfjohnmikdaa.Ext Go.Proofs.Ytomdfjohnmikdaa.QS Go.RowKit Go.Proofs.YtomdfjohnmikdaaW.PrintWords Go.Proofs.YtomdfjohnmikdaaW.PrintLast Go.Proofs.YtomdfjohnmikdaaW.PrintMore
attribute [local go_sem] max2_int min2_int max_two min_two max_three min_three max_four min_four   -- for this text's walks alone
set_option linter.unusedVariables false
set_option linter.unusedSimpArgs false
noncomputable def laws_FnExactFillPairing.f (k : Nat) (a0_0 : Int) (l0_1 : List Int) (l1 : List (S72)) : Option (Bool) := (laws_szComplex.f a0_0 l0_1 1048576).bind fun t322 => (if t322 < 0 then (some true) else ((laws_szPairS.f l1 t322).bind fun t323 => (if t323 < 0 then (some true) else ((laws_toComplex.f k a0_0 l0_1).bind fun bt324 => ((laws_toPairS.f k l1).bind fun t328 => ((spec_FillPairing.f k bt324.1 bt324.2 t328).bind fun bt331 => ((laws_toComplex.f k a0_0 l0_1).bind fun bt335 => ((laws_toPairS.f k l1).bind fun t340 => ((impl_FillPairing.f bt335.1 bt335.2 t340).bind fun bt343 => ((laws_eqPairS.f k bt343.1 bt331.1).bind fun t347 => (if t347 = true then (if bt343.2 = bt331.2 then ((laws_toComplex.f k a0_0 l0_1).bind fun bt348 => ((laws_eqComplex.f k bt335.1 bt335.2 bt348.1 bt348.2).bind fun t352 => (if t352 = true then ((laws_toPairS.f k l1).bind fun t353 => ((laws_eqPairS.f k t340 t353).bind fun t356 => (if t356 = true then ((laws_markComplex.f k bt335.1 bt335.2 1).bind fun bt357 => ((laws_markPairS.f t340 bt357.1).bind fun bt359 => (if bt359.1 < 0 then (none) else ((laws_eqPairS.f k bt343.1 bt331.1).bind fun t361 => (if t361 = true then ((laws_markPairS.f bt343.1 1).bind fun bt362 => ((laws_heldPairS.f bt362.2 1).bind fun t364 => (if t364 < 0 then (none) else (if t364 = bt362.1 then ((laws_toComplex.f k a0_0 l0_1).bind fun bt365 => ((laws_toPairS.f k l1).bind fun t369 => ((impl_FillPairing.f bt365.1 bt365.2 t369).bind fun bt372 => ((laws_eqPairS.f k bt372.1 bt331.1).bind fun t376 => (if t376 = true then (if bt372.2 = bt331.2 then ((laws_heldPairS.f bt362.2 1).bind fun t377 => (if t377 < 0 then (none) else (if t377 = bt362.1 then (some true) else (none)))) else (none)) else (none)))))) else (none))))) else (none)))))) else (none)))) else (none)))) else (none)) else (none))))))))))))
set_option maxHeartbeats 8000000 in
set_option maxRecDepth 100000 in
theorem laws_FnExactFillPairing.calls (k : Nat) (a0_0 : Int) (A0_1 : Option Addr) (c0_1 : Nat) (l0_1 : List Int) (A1 : Option Addr) (c1 : Nat) (l1 : List (S72)) (r : Bool) (w : World) (hr0_1 : Kd.C (Kd.int .i64) w A0_1 l0_1.length l0_1) (hc0_1 : l0_1.length ≤ c0_1) (hr1 : Kd.C k72 w A1 l1.length l1) (hc1 : l1.length ≤ c1) (h : laws_FnExactFillPairing.f k a0_0 l0_1 l1 = some r) :
  Calls Try.prog 4 #[.agg #[.int .i64 a0_0, .slice A0_1 l0_1.length c0_1], .slice A1 l1.length c1] w fun e w' => e = .returned (.bool r) ∧ Below w.heap.size w w' := by
 have hu24 := Try.underlying24
 have hu28 := Try.underlying28
 have HR0_1 := Aside0.mk hr0_1
 have HC0_1 := Aside0.mk hc0_1
 clear hr0_1 hc0_1
 have HR1 := Aside0.mk hr1
 have HC1 := Aside0.mk hc1
 clear hr1 hc1
 have HB := Aside0.mk (Below.refl w.heap.size w)
 have H : ((laws_szComplex.f a0_0 l0_1 1048576).bind fun t322 => (if t322 < 0 then (some true) else ((laws_szPairS.f l1 t322).bind fun t323 => (if t323 < 0 then (some true) else ((laws_toComplex.f k a0_0 l0_1).bind fun bt324 => ((laws_toPairS.f k l1).bind fun t328 => ((spec_FillPairing.f k bt324.1 bt324.2 t328).bind fun bt331 => ((laws_toComplex.f k a0_0 l0_1).bind fun bt335 => ((laws_toPairS.f k l1).bind fun t340 => ((impl_FillPairing.f bt335.1 bt335.2 t340).bind fun bt343 => ((laws_eqPairS.f k bt343.1 bt331.1).bind fun t347 => (if t347 = true then (if bt343.2 = bt331.2 then ((laws_toComplex.f k a0_0 l0_1).bind fun bt348 => ((laws_eqComplex.f k bt335.1 bt335.2 bt348.1 bt348.2).bind fun t352 => (if t352 = true then ((laws_toPairS.f k l1).bind fun t353 => ((laws_eqPairS.f k t340 t353).bind fun t356 => (if t356 = true then ((laws_markComplex.f k bt335.1 bt335.2 1).bind fun bt357 => ((laws_markPairS.f t340 bt357.1).bind fun bt359 => (if bt359.1 < 0 then (none) else ((laws_eqPairS.f k bt343.1 bt331.1).bind fun t361 => (if t361 = true then ((laws_markPairS.f bt343.1 1).bind fun bt362 => ((laws_heldPairS.f bt362.2 1).bind fun t364 => (if t364 < 0 then (none) else (if t364 = bt362.1 then ((laws_toComplex.f k a0_0 l0_1).bind fun bt365 => ((laws_toPairS.f k l1).bind fun t369 => ((impl_FillPairing.f bt365.1 bt365.2 t369).bind fun bt372 => ((laws_eqPairS.f k bt372.1 bt331.1).bind fun t376 => (if t376 = true then (if bt372.2 = bt331.2 then ((laws_heldPairS.f bt362.2 1).bind fun t377 => (if t377 < 0 then (none) else (if t377 = bt362.1 then (some true) else (none)))) else (none)) else (none)))))) else (none))))) else (none)))))) else (none)))) else (none)))) else (none)) else (none))))))))))))) = some r := h
 clear h
 replace H := Option.bind_eq_some_iff.mp H
 obtain ⟨t322, A30, H⟩ := H
 try dsimp only at H
 have A3 := Aside0.mk A30
 clear A30
 by_cases c4 : t322 < 0
 ·rw [if_pos c4] at H
  have c4b0 : decide (t322 < 0) = true := decide_eq_true c4
  clear c4
  obtain rfl := Option.some.inj H
  go_enter Try.func4, Try.ntmps4
  go_wp2_with (first | ((with_reducible refine gate_dst (N := 2) rfl ?_); refine box_event ?hg (N := 2) ?hd (cs := #[.int .i64 a0_0, .slice A0_1 l0_1.length c0_1]) (t := 24) ?hr ?_; (case hd => rfl); (case hg => rfl); (case hr => first | (go_simp; done) | (go_simp; rfl)); intro gb321 hg w5 hbox hb; have BK321 := Aside0.mk (hbox); have GW321 := gH HB hg; have GE321 := gH HB hg; replace HB := sH HB hb; clear hb hbox hg; have hcz6_0 : w5.cell? ⟨gb321, 0, none⟩ = some (.int .i64 a0_0) := cB BK321 0; have hcz6_1 : w5.cell? ⟨gb321, 1, none⟩ = some (.slice A0_1 l0_1.length c0_1) := cB BK321 1; have hfz6_0 := zB BK321 0; have hfz6_1 := zB BK321 1) | ((with_reducible refine gate_callee (f := 13) rfl ?_); refine cl_ (some 19) Try.func13 #[.agg #[.int .i64 a0_0, .slice A0_1 l0_1.length c0_1], .int .i64 1048576] ?_; (with_reducible refine (laws_szComplex.calls a0_0 _ _ l0_1 1048576 t322 _ ?side1 ?side2 A3.out).mono ?_); (case side1 => exact pC ((Kd.C_below HR0_1.out HB.out))); (case side2 => exact HC0_1.out); rintro e w7 ⟨rfl, hb⟩; refine ⟨_, rfl, ?_⟩; replace BK321 := sB BK321 hb; replace HB := sH HB hb; (try clear hb); (try clear hi)))
  go_ret
  exact ⟨by first | rfl | (simp [errW_none, errW_some] <;> rfl) | (simp [*, errW_none, errW_some] <;> rfl) | (exfalso; simp_all), pH HB⟩
 ·rw [if_neg c4] at H
  have c4b0 : decide (t322 < 0) = false := decide_eq_false c4
  clear c4
  replace H := Option.bind_eq_some_iff.mp H
  obtain ⟨t323, A80, H⟩ := H
  try dsimp only at H
  have A8 := Aside0.mk A80
  clear A80
  by_cases c9 : t323 < 0
  ·rw [if_pos c9] at H
   have c9b0 : decide (t323 < 0) = true := decide_eq_true c9
   clear c9
   obtain rfl := Option.some.inj H
   go_enter Try.func4, Try.ntmps4
   go_wp2_with (first | ((with_reducible refine gate_dst (N := 2) rfl ?_); refine box_event ?hg (N := 2) ?hd (cs := #[.int .i64 a0_0, .slice A0_1 l0_1.length c0_1]) (t := 24) ?hr ?_; (case hd => rfl); (case hg => rfl); (case hr => first | (go_simp; done) | (go_simp; rfl)); intro gb321 hg w10 hbox hb; have BK321 := Aside0.mk (hbox); have GW321 := gH HB hg; have GE321 := gH HB hg; replace HB := sH HB hb; clear hb hbox hg; have hcz11_0 : w10.cell? ⟨gb321, 0, none⟩ = some (.int .i64 a0_0) := cB BK321 0; have hcz11_1 : w10.cell? ⟨gb321, 1, none⟩ = some (.slice A0_1 l0_1.length c0_1) := cB BK321 1; have hfz11_0 := zB BK321 0; have hfz11_1 := zB BK321 1) | ((with_reducible refine gate_callee (f := 13) rfl ?_); refine cl_ (some 19) Try.func13 #[.agg #[.int .i64 a0_0, .slice A0_1 l0_1.length c0_1], .int .i64 1048576] ?_; (with_reducible refine (laws_szComplex.calls a0_0 _ _ l0_1 1048576 t322 _ ?side1 ?side2 A3.out).mono ?_); (case side1 => exact pC ((Kd.C_below HR0_1.out HB.out))); (case side2 => exact HC0_1.out); rintro e w12 ⟨rfl, hb⟩; refine ⟨_, rfl, ?_⟩; replace BK321 := sB BK321 hb; replace HB := sH HB hb; (try clear hb); (try clear hi)) | ((with_reducible refine gate_callee (f := 23) rfl ?_); refine cl_ (some 24) Try.func23 #[.slice A1 l1.length c1, .int .i64 t322] ?_; (with_reducible refine (laws_szPairS.calls _ _ l1 t322 t323 _ ?side1 ?side2 A8.out).mono ?_); (case side1 => exact pC ((Kd.C_below HR1.out HB.out))); (case side2 => exact HC1.out); rintro e w' ⟨rfl, ⟨nd, rfl⟩⟩; refine ⟨_, rfl, ?_⟩))
   go_ret
   exact ⟨by first | rfl | (simp [errW_none, errW_some] <;> rfl) | (simp [*, errW_none, errW_some] <;> rfl) | (exfalso; simp_all), pH HB⟩
  ·rw [if_neg c9] at H
   have c9b0 : decide (t323 < 0) = false := decide_eq_false c9
   clear c9
   replace H := Option.bind_eq_some_iff.mp H
   obtain ⟨⟨t324, t325⟩, A130, H⟩ := H
   try dsimp only at H
   have A13 := Aside0.mk A130
   clear A130
   replace H := Option.bind_eq_some_iff.mp H
   obtain ⟨t328, A140, H⟩ := H
   try dsimp only at H
   have A14 := Aside0.mk A140
   clear A140
   replace H := Option.bind_eq_some_iff.mp H
   obtain ⟨⟨t331, t334⟩, A150, H⟩ := H
   try dsimp only at H
   have A15 := Aside0.mk A150
   clear A150
   replace H := Option.bind_eq_some_iff.mp H
   obtain ⟨⟨t335, t336⟩, A160, H⟩ := H
   try dsimp only at H
   have A16 := Aside0.mk A160
   clear A160
   replace H := Option.bind_eq_some_iff.mp H
   obtain ⟨t340, A170, H⟩ := H
   try dsimp only at H
   have A17 := Aside0.mk A170
   clear A170
   replace H := Option.bind_eq_some_iff.mp H
   obtain ⟨⟨t343, t346⟩, A180, H⟩ := H
   try dsimp only at H
   have A18 := Aside0.mk A180
   clear A180
   replace H := Option.bind_eq_some_iff.mp H
   obtain ⟨t347, A190, H⟩ := H
   try dsimp only at H
   have A19 := Aside0.mk A190
   clear A190
   by_cases c20 : t347 = true
   ·subst c20
    have H1 : (if t346 = t334 then ((laws_toComplex.f k a0_0 l0_1).bind fun bt348 => ((laws_eqComplex.f k t335 t336 bt348.1 bt348.2).bind fun t352 => (if t352 = true then ((laws_toPairS.f k l1).bind fun t353 => ((laws_eqPairS.f k t340 t353).bind fun t356 => (if t356 = true then ((laws_markComplex.f k t335 t336 1).bind fun bt357 => ((laws_markPairS.f t340 bt357.1).bind fun bt359 => (if bt359.1 < 0 then (none) else ((laws_eqPairS.f k t343 t331).bind fun t361 => (if t361 = true then ((laws_markPairS.f t343 1).bind fun bt362 => ((laws_heldPairS.f bt362.2 1).bind fun t364 => (if t364 < 0 then (none) else (if t364 = bt362.1 then ((laws_toComplex.f k a0_0 l0_1).bind fun bt365 => ((laws_toPairS.f k l1).bind fun t369 => ((impl_FillPairing.f bt365.1 bt365.2 t369).bind fun bt372 => ((laws_eqPairS.f k bt372.1 t331).bind fun t376 => (if t376 = true then (if bt372.2 = t334 then ((laws_heldPairS.f bt362.2 1).bind fun t377 => (if t377 < 0 then (none) else (if t377 = bt362.1 then (some true) else (none)))) else (none)) else (none)))))) else (none))))) else (none)))))) else (none)))) else (none)))) else (none)) = some r := by rw [if_pos rfl] at H; exact H
    clear H
    have H := H1
    clear H1
    by_cases c21 : t346 = t334
    ·rw [if_pos c21] at H
     have c21b0 : (t346 == t334) = true := beq_iff_eq.mpr c21
     have c21b1 : (t346 != t334) = false := bne_eq_false_iff_eq.mpr c21
     clear c21
     replace H := Option.bind_eq_some_iff.mp H
     obtain ⟨⟨t348, t349⟩, A220, H⟩ := H
     try dsimp only at H
     have A22 := Aside0.mk A220
     clear A220
     replace H := Option.bind_eq_some_iff.mp H
     obtain ⟨t352, A230, H⟩ := H
     try dsimp only at H
     have A23 := Aside0.mk A230
     clear A230
     by_cases c24 : t352 = true
     ·subst c24
      have H1 : ((laws_toPairS.f k l1).bind fun t353 => ((laws_eqPairS.f k t340 t353).bind fun t356 => (if t356 = true then ((laws_markComplex.f k t335 t336 1).bind fun bt357 => ((laws_markPairS.f t340 bt357.1).bind fun bt359 => (if bt359.1 < 0 then (none) else ((laws_eqPairS.f k t343 t331).bind fun t361 => (if t361 = true then ((laws_markPairS.f t343 1).bind fun bt362 => ((laws_heldPairS.f bt362.2 1).bind fun t364 => (if t364 < 0 then (none) else (if t364 = bt362.1 then ((laws_toComplex.f k a0_0 l0_1).bind fun bt365 => ((laws_toPairS.f k l1).bind fun t369 => ((impl_FillPairing.f bt365.1 bt365.2 t369).bind fun bt372 => ((laws_eqPairS.f k bt372.1 t331).bind fun t376 => (if t376 = true then (if bt372.2 = t334 then ((laws_heldPairS.f bt362.2 1).bind fun t377 => (if t377 < 0 then (none) else (if t377 = bt362.1 then (some true) else (none)))) else (none)) else (none)))))) else (none))))) else (none)))))) else (none)))) = some r := by rw [if_pos rfl] at H; exact H
      clear H
      have H := H1
      clear H1
      replace H := Option.bind_eq_some_iff.mp H
      obtain ⟨t353, A250, H⟩ := H
      try dsimp only at H
      have A25 := Aside0.mk A250
      clear A250
      replace H := Option.bind_eq_some_iff.mp H
      obtain ⟨t356, A260, H⟩ := H
      try dsimp only at H
      have A26 := Aside0.mk A260
      clear A260
      by_cases c27 : t356 = true
      ·subst c27
       have H1 : ((laws_markComplex.f k t335 t336 1).bind fun bt357 => ((laws_markPairS.f t340 bt357.1).bind fun bt359 => (if bt359.1 < 0 then (none) else ((laws_eqPairS.f k t343 t331).bind fun t361 => (if t361 = true then ((laws_markPairS.f t343 1).bind fun bt362 => ((laws_heldPairS.f bt362.2 1).bind fun t364 => (if t364 < 0 then (none) else (if t364 = bt362.1 then ((laws_toComplex.f k a0_0 l0_1).bind fun bt365 => ((laws_toPairS.f k l1).bind fun t369 => ((impl_FillPairing.f bt365.1 bt365.2 t369).bind fun bt372 => ((laws_eqPairS.f k bt372.1 t331).bind fun t376 => (if t376 = true then (if bt372.2 = t334 then ((laws_heldPairS.f bt362.2 1).bind fun t377 => (if t377 < 0 then (none) else (if t377 = bt362.1 then (some true) else (none)))) else (none)) else (none)))))) else (none))))) else (none)))))) = some r := by rw [if_pos rfl] at H; exact H
       clear H
       have H := H1
       clear H1
       replace H := Option.bind_eq_some_iff.mp H
       obtain ⟨⟨t357, t358⟩, A280, H⟩ := H
       try dsimp only at H
       have A28 := Aside0.mk A280
       clear A280
       replace H := Option.bind_eq_some_iff.mp H
       obtain ⟨⟨t359, t360⟩, A290, H⟩ := H
       try dsimp only at H
       have A29 := Aside0.mk A290
       clear A290
       by_cases c30 : t359 < 0
       ·rw [if_pos c30] at H
        exact absurd H (by simp)
       ·rw [if_neg c30] at H
        have c30b0 : decide (t359 < 0) = false := decide_eq_false c30
        clear c30
        replace H := Option.bind_eq_some_iff.mp H
        obtain ⟨t361, A310, H⟩ := H
        try dsimp only at H
        have A31 := Aside0.mk A310
        clear A310
        by_cases c32 : t361 = true
        ·subst c32
         have H1 : ((laws_markPairS.f t343 1).bind fun bt362 => ((laws_heldPairS.f bt362.2 1).bind fun t364 => (if t364 < 0 then (none) else (if t364 = bt362.1 then ((laws_toComplex.f k a0_0 l0_1).bind fun bt365 => ((laws_toPairS.f k l1).bind fun t369 => ((impl_FillPairing.f bt365.1 bt365.2 t369).bind fun bt372 => ((laws_eqPairS.f k bt372.1 t331).bind fun t376 => (if t376 = true then (if bt372.2 = t334 then ((laws_heldPairS.f bt362.2 1).bind fun t377 => (if t377 < 0 then (none) else (if t377 = bt362.1 then (some true) else (none)))) else (none)) else (none)))))) else (none))))) = some r := by rw [if_pos rfl] at H; exact H
         clear H
         have H := H1
         clear H1
         replace H := Option.bind_eq_some_iff.mp H
         obtain ⟨⟨t362, t363⟩, A330, H⟩ := H
         try dsimp only at H
         have A33 := Aside0.mk A330
         clear A330
         replace H := Option.bind_eq_some_iff.mp H
         obtain ⟨t364, A340, H⟩ := H
         try dsimp only at H
         have A34 := Aside0.mk A340
         clear A340
         by_cases c35 : t364 < 0
         ·rw [if_pos c35] at H
          exact absurd H (by simp)
         ·rw [if_neg c35] at H
          have c35b0 : decide (t364 < 0) = false := decide_eq_false c35
          clear c35
          by_cases c36 : t364 = t362
          ·rw [if_pos c36] at H
           have c36b0 : (t364 == t362) = true := beq_iff_eq.mpr c36
           have c36b1 : (t364 != t362) = false := bne_eq_false_iff_eq.mpr c36
           clear c36
           replace H := Option.bind_eq_some_iff.mp H
           obtain ⟨⟨t365, t366⟩, A370, H⟩ := H
           try dsimp only at H
           have A37 := Aside0.mk A370
           clear A370
           replace H := Option.bind_eq_some_iff.mp H
           obtain ⟨t369, A380, H⟩ := H
           try dsimp only at H
           have A38 := Aside0.mk A380
           clear A380
           replace H := Option.bind_eq_some_iff.mp H
           obtain ⟨⟨t372, t375⟩, A390, H⟩ := H
           try dsimp only at H
           have A39 := Aside0.mk A390
           clear A390
           replace H := Option.bind_eq_some_iff.mp H
           obtain ⟨t376, A400, H⟩ := H
           try dsimp only at H
           have A40 := Aside0.mk A400
           clear A400
           by_cases c41 : t376 = true
           ·subst c41
            have H1 : (if t375 = t334 then ((laws_heldPairS.f t363 1).bind fun t377 => (if t377 < 0 then (none) else (if t377 = t362 then (some true) else (none)))) else (none)) = some r := by rw [if_pos rfl] at H; exact H
            clear H
            have H := H1
            clear H1
            by_cases c42 : t375 = t334
            ·rw [if_pos c42] at H
             have c42b0 : (t375 == t334) = true := beq_iff_eq.mpr c42
             have c42b1 : (t375 != t334) = false := bne_eq_false_iff_eq.mpr c42
             clear c42
             replace H := Option.bind_eq_some_iff.mp H
             obtain ⟨t377, A430, H⟩ := H
             try dsimp only at H
             have A43 := Aside0.mk A430
             clear A430
             by_cases c44 : t377 < 0
             ·rw [if_pos c44] at H
              exact absurd H (by simp)
             ·rw [if_neg c44] at H
              have c44b0 : decide (t377 < 0) = false := decide_eq_false c44
              clear c44
              by_cases c45 : t377 = t362
              ·rw [if_pos c45] at H
               have c45b0 : (t377 == t362) = true := beq_iff_eq.mpr c45
               have c45b1 : (t377 != t362) = false := bne_eq_false_iff_eq.mpr c45
               clear c45
               obtain rfl := Option.some.inj H
               go_enter Try.func4, Try.ntmps4
               try go_wp2_with (first | ((with_reducible refine gate_dst (N := 2) rfl ?_); refine box_event ?hg (N := 2) ?hd (cs := #[.int .i64 a0_0, .slice A0_1 l0_1.length c0_1]) (t := 24) ?hr ?_; (case hd => rfl); (case hg => rfl); (case hr => first | (go_simp; done) | (go_simp; rfl)); intro gb321 hg w46 hbox hb; have BK321 := Aside0.mk (hbox); have GW321 := gH HB hg; have GE321 := gH HB hg; replace HB := sH HB hb; clear hb hbox hg; have hcz47_0 : w46.cell? ⟨gb321, 0, none⟩ = some (.int .i64 a0_0) := cB BK321 0; have hcz47_1 : w46.cell? ⟨gb321, 1, none⟩ = some (.slice A0_1 l0_1.length c0_1) := cB BK321 1; have hfz47_0 := zB BK321 0; have hfz47_1 := zB BK321 1) | ((with_reducible refine gate_callee (f := 13) rfl ?_); refine cl_ (some 19) Try.func13 #[.agg #[.int .i64 a0_0, .slice A0_1 l0_1.length c0_1], .int .i64 1048576] ?_; (with_reducible refine (laws_szComplex.calls a0_0 _ _ l0_1 1048576 t322 _ ?side1 ?side2 A3.out).mono ?_); (case side1 => exact pC ((Kd.C_below HR0_1.out HB.out))); (case side2 => exact HC0_1.out); rintro e w48 ⟨rfl, hb⟩; refine ⟨_, rfl, ?_⟩; replace BK321 := sB BK321 hb; replace HB := sH HB hb; (try clear hb); (try clear hi)) | ((with_reducible refine gate_callee (f := 23) rfl ?_); refine cl_ (some 24) Try.func23 #[.slice A1 l1.length c1, .int .i64 t322] ?_; (with_reducible refine (laws_szPairS.calls _ _ l1 t322 t323 _ ?side1 ?side2 A8.out).mono ?_); (case side1 => exact pC ((Kd.C_below HR1.out HB.out))); (case side2 => exact HC1.out); rintro e w' ⟨rfl, ⟨nd, rfl⟩⟩; refine ⟨_, rfl, ?_⟩; (try (rw [drewN_self w48]; generalize hq_ : World.drewN w48 _ = w48; have n0_ : Aside0 (w48.heap[gb321]? = some (.cells #[.int .i64 a0_0, .slice A0_1 l0_1.length c0_1] 24 (0, 0))) := ⟨by rw [← hq_]; exact (pB BK321)⟩; have n1_ : Aside0 (Below w.heap.size w w48) := ⟨by rw [← hq_]; exact (pH HB)⟩; clear BK321 HB hq_; have BK321 := n0_; have HB := n1_; clear n0_ n1_)); (try (have hcz49_0 : w48.cell? ⟨gb321, 0, none⟩ = some (.int .i64 a0_0) := cB BK321 0; have hcz49_1 : w48.cell? ⟨gb321, 1, none⟩ = some (.slice A0_1 l0_1.length c0_1) := cB BK321 1; have hfz49_0 := zB BK321 0; have hfz49_1 := zB BK321 1)); have hcz50_0 : w48.cell? ⟨gb321, 0, none⟩ = some (.int .i64 a0_0) := cB BK321 0; have hcz50_1 : w48.cell? ⟨gb321, 1, none⟩ = some (.slice A0_1 l0_1.length c0_1) := cB BK321 1; have hfz50_0 := zB BK321 0; have hfz50_1 := zB BK321 1) | ((with_reducible refine gate_callee (f := 15) rfl ?_); refine cl_ (some 29) Try.func15 #[.agg #[.int .i64 a0_0, .slice A0_1 l0_1.length c0_1]] ?_; (with_reducible refine (laws_toComplex.calls k a0_0 _ _ l0_1 t324 t325 _ ?side1 ?side2 A13.out).mono ?_); (case side1 => exact pC ((Kd.C_below HR0_1.out HB.out))); (case side2 => exact HC0_1.out); rintro e w51 ⟨v326, rfl, ho0, hb⟩; refine ⟨_, rfl, ?_⟩; have HO327 := Aside0.mk (Kd.R_lower ho0 (below_size (pH HB))); replace BK321 := sB BK321 hb; replace HB := sH HB hb; (try clear hb); (try clear hi); (try clear ho0)) | ((with_reducible refine gate_callee (f := 25) rfl ?_); refine cl_ (some 31) Try.func25 #[.slice A1 l1.length c1] ?_; (with_reducible refine (laws_toPairS.calls k _ _ l1 t328 _ ?side1 ?side2 A14.out).mono ?_); (case side1 => exact pC ((Kd.C_below HR1.out HB.out))); (case side2 => exact HC1.out); rintro e w52 ⟨v329, rfl, ho0, hb⟩; refine ⟨_, rfl, ?_⟩; replace HO327 := sR HO327 hb; have HO330 := Aside0.mk (Kd.R_lower ho0 (below_size (pH HB))); replace BK321 := sB BK321 hb; replace HB := sH HB hb; (try clear hb); (try clear hi); (try clear ho0); obtain ⟨Ao53, co53, eo53⟩ := Kd.R_slice HO327.out; subst eo53; obtain ⟨Ao54, co54, eo54⟩ := Kd.R_slice HO330.out; subst eo54) | ((with_reducible refine gate_callee (f := 24) rfl ?_); refine cl_ (some 32) Try.func24 #[.agg #[.int .i64 t324, .slice Ao53 t325.length co53], .slice Ao54 t328.length co54] ?_; (with_reducible refine (spec_FillPairing.calls k t324 _ _ t325 _ _ t328 t331 t334 _ ?side1 ?side2 ?side3 ?side4 A15.out).mono ?_); (case side1 => exact pC ((Kd.R_reads' HO327.out).2.2)); (case side2 => exact (Kd.R_reads' HO327.out).2.1); (case side3 => exact pC ((Kd.R_reads' HO330.out).2.2)); (case side4 => exact (Kd.R_reads' HO330.out).2.1); rintro e w55 ⟨v332, rfl, ho0, hb⟩; refine ⟨_, rfl, ?_⟩; have HO333 := Aside0.mk (Kd.V_lower (Kd.V_mono (ok' := fun k_ => some k_ ≠ (.slice Ao53 t325.length co53 : Value).ownBlock ∧ some k_ ≠ (.slice Ao54 t328.length co54 : Value).ownBlock ∧ k_ ≠ gb321) ho0 (fun k_ hk_ => ⟨(Kd.fresh' (Kd.R_lt (pR HO327)) k_ hk_), (Kd.fresh' (Kd.R_lt (pR HO330)) k_ hk_), (Kd.freshB (g := gb321) (o := .cells #[.int .i64 a0_0, .slice A0_1 l0_1.length c0_1] 24 (0, 0)) (pB BK321) k_ hk_)⟩)) (below_size (pH HB))); replace HO327 := sR HO327 hb; replace HO330 := sR HO330 hb; replace BK321 := sB BK321 hb; replace HB := sH HB hb; (try clear hb); (try clear hi); (try clear ho0); have hcz56_0 : w55.cell? ⟨gb321, 0, none⟩ = some (.int .i64 a0_0) := cB BK321 0; have hcz56_1 : w55.cell? ⟨gb321, 1, none⟩ = some (.slice A0_1 l0_1.length c0_1) := cB BK321 1; have hfz56_0 := zB BK321 0; have hfz56_1 := zB BK321 1) | ((with_reducible refine gate_callee (f := 15) rfl ?_); refine cl_ (some 36) Try.func15 #[.agg #[.int .i64 a0_0, .slice A0_1 l0_1.length c0_1]] ?_; (with_reducible refine (laws_toComplex.calls k a0_0 _ _ l0_1 t335 t336 _ ?side1 ?side2 A16.out).mono ?_); (case side1 => exact pC ((Kd.C_below HR0_1.out HB.out))); (case side2 => exact HC0_1.out); rintro e w57 ⟨v337, rfl, ho0, hb⟩; refine ⟨_, rfl, ?_⟩; have n0_ := Aside0.mk (Kd.R_elder' (pR HO327) (Kd.R_base ho0) hb); have n1_ := sR HO330 hb; have n2_ := Aside0.mk (Kd.V_elder' (by (with_reducible repeat (first | apply Kd.V_alloc | apply Kd.V_drewN | apply Kd.V_drew)); exact HO333.out) (Kd.R_base ho0) hb); have n3_ := Aside0.mk (Kd.R_lower (Kd.R_new' ho0 (Kd.R_lt (pR HO327))) (below_size (pH HB))); have n4_ := sB BK321 hb; have n5_ := sH HB hb; clear HO327; clear HO330; clear HO333; clear BK321; clear HB; have HO327 := n0_; have HO330 := n1_; have HO333 := n2_; have HO338 := n3_; have BK321 := n4_; have HB := n5_; clear n0_ n1_ n2_ n3_ n4_ n5_; (try clear hb); (try clear hi); (try clear ho0)) | ((with_reducible refine gate_dst (N := 8) rfl ?_); refine box_event ?hg (N := 8) ?hd (cs := #[.int .i64 0, .slice none 0 0]) (t := 28) ?hr ?_; (case hd => rfl); (case hg => rfl); (case hr => first | (go_simp; done) | (go_simp; rfl)); intro gb339 hg w58 hbox hb; have n0_ := sR HO327 hb; have n1_ := sR HO330 hb; have n2_ := Aside0.mk (Kd.V_below (Kd.V_elderB (by (with_reducible repeat (first | apply Kd.V_alloc | apply Kd.V_drewN | apply Kd.V_drew)); exact HO333.out) gb339 (Nat.le_of_eq hg.symm)) hb); have n3_ := sR HO338 hb; have n4_ := sB BK321 hb; have n5_ := sH HB hb; have n6_ := Aside0.mk (hbox); have n7_ := gH HB hg; have n8_ := gH HB hg; have n9_ := nB BK321 hg; have n10_ := oB BK321 hg; clear HO327; clear HO330; clear HO333; clear HO338; clear BK321; clear HB; have HO327 := n0_; have HO330 := n1_; have HO333 := n2_; have HO338 := n3_; have BK321 := n4_; have HB := n5_; have BK339 := n6_; have GW339 := n7_; have GE339 := n8_; have NB321_339 := n9_; have NB339_321 := n10_; clear n0_ n1_ n2_ n3_ n4_ n5_ n6_ n7_ n8_ n9_ n10_; clear hb hbox hg; (try have hnb59 := NB339_321.out); (try have hnc59 := NB321_339.out); have hcz60_0 : w58.cell? ⟨gb339, 0, none⟩ = some (.int .i64 0) := cB BK339 0; have hcz60_1 : w58.cell? ⟨gb339, 1, none⟩ = some (.slice none 0 0) := cB BK339 1; have hfz60_0 := zB BK339 0; have hfz60_1 := zB BK339 1; obtain ⟨Ao61, co61, eo61⟩ := Kd.R_slice HO338.out; subst eo61) | ((with_reducible refine gate_callee (f := 25) rfl ?_); refine cl_ (some 38) Try.func25 #[.slice A1 l1.length c1] ?_; (with_reducible refine (laws_toPairS.calls k _ _ l1 t340 _ ?side1 ?side2 A17.out).mono ?_); (case side1 => exact Kd.C_below HR1.out (pH HB)); (case side2 => exact HC1.out); rintro e w62 ⟨v341, rfl, ho0, hb⟩; refine ⟨_, rfl, ?_⟩; have n0_ := Aside0.mk (Kd.R_below (by (with_reducible repeat (first | apply Kd.R_alloc | apply Kd.R_drewN | apply Kd.R_drew)); exact (Kd.R_mono (Kd.R_far (p := ⟨gb339, 1, none⟩) (Kd.R_far (p := ⟨gb339, 0, none⟩) (Kd.R_types HO327.out BK339.out (by decide)) (fun _ hk => hk.2) (.int .i64 t335)) (fun _ hk => hk.2) (.slice Ao61 t336.length co61)) (fun _ h_ => h_.1))) hb); have n1_ := Aside0.mk (Kd.R_elder' (by (with_reducible repeat (first | apply Kd.R_alloc | apply Kd.R_drewN | apply Kd.R_drew)); exact (Kd.R_mono (Kd.R_far (p := ⟨gb339, 1, none⟩) (Kd.R_far (p := ⟨gb339, 0, none⟩) (Kd.R_types HO330.out BK339.out (by decide)) (fun _ hk => hk.2) (.int .i64 t335)) (fun _ hk => hk.2) (.slice Ao61 t336.length co61)) (fun _ h_ => h_.1))) (Kd.R_base ho0) hb); have n2_ := Aside0.mk (Kd.V_elder' (by (with_reducible repeat (first | apply Kd.V_alloc | apply Kd.V_drewN | apply Kd.V_drew)); exact (Kd.V_mono (Kd.V_far (p := ⟨gb339, 1, none⟩) (Kd.V_far (p := ⟨gb339, 0, none⟩) (Kd.V_mono HO333.out (fun k_ hk => (⟨hk, hk.2⟩ : _ ∧ k_ ≠ gb339))) (fun _ hk => hk.2) (.int .i64 t335)) (fun _ hk => hk.2) (.slice Ao61 t336.length co61)) (fun _ h_ => h_.1))) (Kd.R_base ho0) hb); have n3_ := Aside0.mk (Kd.R_below (by (with_reducible repeat (first | apply Kd.R_alloc | apply Kd.R_drewN | apply Kd.R_drew)); exact (Kd.R_mono (Kd.R_far (p := ⟨gb339, 1, none⟩) (Kd.R_far (p := ⟨gb339, 0, none⟩) (Kd.R_types HO338.out BK339.out (by decide)) (fun _ hk => hk.2) (.int .i64 t335)) (fun _ hk => hk.2) (.slice Ao61 t336.length co61)) (fun _ h_ => h_.1))) hb); have n4_ := Aside0.mk (Kd.R_lower (Kd.R_new' ho0 (Kd.R_lt (by (with_reducible repeat (first | apply Kd.R_alloc | apply Kd.R_drewN | apply Kd.R_drew)); exact (Kd.R_mono (Kd.R_far (p := ⟨gb339, 1, none⟩) (Kd.R_far (p := ⟨gb339, 0, none⟩) (Kd.R_types HO330.out BK339.out (by decide)) (fun _ hk => hk.2) (.int .i64 t335)) (fun _ hk => hk.2) (.slice Ao61 t336.length co61)) (fun _ h_ => h_.1))))) (below_size (pH HB))); have n5_ := Aside0.mk (blk_below (g := gb321) (o := .cells #[.int .i64 a0_0, .slice A0_1 l0_1.length c0_1] 24 (0, 0)) (by (with_reducible repeat (first | refine blk_drewN ?_ _ | refine blk_drew ?_ | refine blk_alloc ?_ _)); refine blk_far ?_ NB321_339.out _; (with_reducible repeat (first | refine blk_drewN ?_ _ | refine blk_drew ?_ | refine blk_alloc ?_ _)); refine blk_far ?_ NB321_339.out _; (with_reducible repeat (first | refine blk_drewN ?_ _ | refine blk_drew ?_ | refine blk_alloc ?_ _)); exact BK321.out) hb); have n6_ := Aside0.mk (blk_below (g := gb339) (o := .cells #[.int .i64 t335, .slice Ao61 t336.length co61] 28 (0, 0)) (by (with_reducible repeat (first | refine blk_drewN ?_ _ | refine blk_drew ?_ | refine blk_alloc ?_ _)); refine blk_put (cs := #[.int .i64 t335, .slice none 0 0]) ?_ 1 _ rfl; (with_reducible repeat (first | refine blk_drewN ?_ _ | refine blk_drew ?_ | refine blk_alloc ?_ _)); refine blk_put (cs := #[.int .i64 0, .slice none 0 0]) ?_ 0 _ rfl; (with_reducible repeat (first | refine blk_drewN ?_ _ | refine blk_drew ?_ | refine blk_alloc ?_ _)); exact BK339.out) hb); have n7_ := sH HB hb; clear HO327; clear HO330; clear HO333; clear HO338; clear BK321; clear BK339; clear HB; have HO327 := n0_; have HO330 := n1_; have HO333 := n2_; have HO338 := n3_; have HO342 := n4_; have BK321 := n5_; have BK339 := n6_; have HB := n7_; clear n0_ n1_ n2_ n3_ n4_ n5_ n6_ n7_; (try clear hb); (try clear hi); (try clear ho0); have hcz63_0 : w62.cell? ⟨gb339, 0, none⟩ = some (.int .i64 t335) := cB BK339 0; have hcz63_1 : w62.cell? ⟨gb339, 1, none⟩ = some (.slice Ao61 t336.length co61) := cB BK339 1; have hfz63_0 := zB BK339 0; have hfz63_1 := zB BK339 1; obtain ⟨Ao64, co64, eo64⟩ := Kd.R_slice HO342.out; subst eo64) | ((with_reducible refine gate_callee (f := 26) rfl ?_); refine cl_ (some 42) Try.func26 #[.agg #[.int .i64 t335, .slice Ao61 t336.length co61], .slice Ao64 t340.length co64] ?_; (with_reducible refine (impl_FillPairing.calls t335 _ _ t336 _ _ t340 t343 t346 _ ?side1 ?side2 ?side3 ?side4 A18.out).mono ?_); (case side1 => exact pC ((Kd.R_reads' HO338.out).2.2)); (case side2 => exact (Kd.R_reads' HO338.out).2.1); (case side3 => exact pC ((Kd.R_reads' HO342.out).2.2)); (case side4 => exact (Kd.R_reads' HO342.out).2.1); rintro e w65 ⟨v344, rfl, ho0, hb⟩; refine ⟨_, rfl, ?_⟩; have n0_ := sR HO327 hb; have n1_ := Aside0.mk (Kd.R_elder' (pR HO330) (Kd.R_base ho0) hb); have n2_ := Aside0.mk (Kd.V_elder' (by (with_reducible repeat (first | apply Kd.V_alloc | apply Kd.V_drewN | apply Kd.V_drew)); exact HO333.out) (Kd.R_base ho0) hb); have n3_ := sR HO338 hb; have n4_ := Aside0.mk (Kd.R_elder' (pR HO342) (Kd.R_base ho0) hb); have n5_ := Aside0.mk (Kd.R_lower (Kd.R_new' (Kd.R_new' ho0 (Kd.R_lt (pR HO330))) (Kd.R_lt (pR HO342))) (below_size (pH HB))); have n6_ := sB BK321 hb; have n7_ := sB BK339 hb; have n8_ := sH HB hb; clear HO327; clear HO330; clear HO333; clear HO338; clear HO342; clear BK321; clear BK339; clear HB; have HO327 := n0_; have HO330 := n1_; have HO333 := n2_; have HO338 := n3_; have HO342 := n4_; have HO345 := n5_; have BK321 := n6_; have BK339 := n7_; have HB := n8_; clear n0_ n1_ n2_ n3_ n4_ n5_ n6_ n7_ n8_; (try clear hb); (try clear hi); (try clear ho0); obtain ⟨Ao66, co66, eo66⟩ := Kd.R_slice HO345.out; subst eo66; obtain ⟨Ao67, co67, eo67⟩ := Kd.V_slice HO333.out; subst eo67) | ((with_reducible refine gate_callee (f := 27) rfl ?_); refine cl_ (some 47) Try.func27 #[.slice Ao66 t343.length co66, .slice Ao67 t331.length co67] ?_; (with_reducible refine (laws_eqPairS.calls k _ _ t343 _ _ t331 true _ ?side1 ?side2 ?side3 ?side4 A19.out).mono ?_); (case side1 => exact pC ((Kd.R_reads' HO345.out).2.2)); (case side2 => exact (Kd.R_reads' HO345.out).2.1); (case side3 => exact pC ((Kd.V_reads' HO333.out).2.2)); (case side4 => exact (Kd.V_reads' HO333.out).2.1); rintro e w68 ⟨rfl, hb⟩; refine ⟨_, rfl, ?_⟩; have n0_ := sR HO327 hb; have n1_ := sR HO330 hb; have n2_ := Aside0.mk (Kd.V_below (by (with_reducible repeat (first | apply Kd.V_alloc | apply Kd.V_drewN | apply Kd.V_drew)); exact HO333.out) hb); have n3_ := sR HO338 hb; have n4_ := sR HO342 hb; have n5_ := sR HO345 hb; have n6_ := sB BK321 hb; have n7_ := sB BK339 hb; have n8_ := sH HB hb; clear HO327; clear HO330; clear HO333; clear HO338; clear HO342; clear HO345; clear BK321; clear BK339; clear HB; have HO327 := n0_; have HO330 := n1_; have HO333 := n2_; have HO338 := n3_; have HO342 := n4_; have HO345 := n5_; have BK321 := n6_; have BK339 := n7_; have HB := n8_; clear n0_ n1_ n2_ n3_ n4_ n5_ n6_ n7_ n8_; (try clear hb); (try clear hi)))
               replace HO327 := Aside0.mk (Kd.R_drew HO327.out)
               replace HO330 := Aside0.mk (Kd.R_drew HO330.out)
               replace HO333 := Aside0.mk (Kd.V_drew HO333.out)
               replace HO338 := Aside0.mk (Kd.R_drew HO338.out)
               replace HO342 := Aside0.mk (Kd.R_drew HO342.out)
               replace HO345 := Aside0.mk (Kd.R_drew HO345.out)
               replace BK321 := dB BK321
               replace BK339 := dB BK339
               replace HB := dH HB
               refine st_ 5 (S := fun w' => w'.cell? ⟨gb339, 0, none⟩ = some (.int .i64 t335) ∧ w'.cell? ⟨gb339, 1, none⟩ = some (.slice Ao61 t336.length co61) ∧ w'.cell? ⟨gb321, 0, none⟩ = some (.int .i64 a0_0) ∧ w'.cell? ⟨gb321, 1, none⟩ = some (.slice A0_1 l0_1.length c0_1)) (ds := []) ⟨cB BK339 0, cB BK339 1, cB BK321 0, cB BK321 1⟩ (fun hHeld => ?_)
               generalize w68.drew = w69 at HO327 HO330 HO333 HO338 HO342 HO345 BK321 BK339 HB hHeld ⊢
               refine take_ (i := 0) (N := some 54) (v := ?_) (a' := ?_) (mB 5 1) rfl rfl (by kernel_rfl) (fun _ _ _ h => h) (Or.inl ⟨by rfl, ?_⟩) hHeld ?_ ?_
               rotate_left
               ·rintro w' ⟨s0, s1, s2, s3⟩
                go_simp
                with_reducible rfl
               rotate_left
               ·simp only [Act.put, List.setIfInBounds_toArray, List.set_cons_zero, List.set_cons_succ, i64_w, i32_w]
                rfl
               refine take_ (i := 1) (N := some 55) (v := ?_) (a' := ?_) (mB 5 3) rfl rfl (by kernel_rfl) (fun _ _ _ h => h) (Or.inl ⟨by rfl, ?_⟩) hHeld ?_ ?_
               rotate_left
               ·rintro w' ⟨s0, s1, s2, s3⟩
                go_simp
                with_reducible rfl
               rotate_left
               ·simp only [Act.put, List.setIfInBounds_toArray, List.set_cons_zero, List.set_cons_succ, i64_w, i32_w]
                rfl
               refine one_ (i := 2) (N := some 56) (mB 5 7) rfl rfl (by kernel_rfl) (by decide) (fun K hK => ?_)
               refine ca_ Try.func15 #[.agg #[.int .i64 a0_0, .slice A0_1 l0_1.length c0_1]] ?_
               with_reducible refine (laws_toComplex.calls k a0_0 _ _ l0_1 t348 t349 _ ?side1 ?side2 A22.out).mono ?_
               (case side1 => exact pC ((Kd.C_below HR0_1.out HB.out)))
               (case side2 => exact HC0_1.out)
               rintro e w70 ⟨v350, rfl, ho0, hb⟩
               refine ⟨_, rfl, ?_⟩
               replace HO330 := sR HO330 hb
               replace HO333 := Aside0.mk (Kd.V_elder' (by (with_reducible repeat (first | apply Kd.V_alloc | apply Kd.V_drewN | apply Kd.V_drew)); exact HO333.out) (Kd.R_base ho0) hb)
               replace HO342 := sR HO342 hb
               replace HO345 := sR HO345 hb
               have HO351 := Aside0.mk (Kd.R_lower (Kd.R_new' (Kd.R_new' ho0 (Kd.R_lt (pR HO327))) (Kd.R_lt (pR HO338))) (below_size (pH HB)))
               replace HO327 := Aside0.mk (Kd.R_elder' (pR HO327) (Kd.R_base ho0) hb)
               replace HO338 := Aside0.mk (Kd.R_elder' (pR HO338) (Kd.R_base ho0) hb)
               replace BK321 := sB BK321 hb
               replace BK339 := sB BK339 hb
               replace HB := sH HB hb
               (try clear hb)
               (try clear hb2)
               (try clear hk)
               (try clear hi)
               (try clear ho0)
               obtain ⟨Ao71, co71, eo71⟩ := Kd.R_slice HO351.out
               (first | subst eo71 | (injection eo71 with f1_ f2_ f3_; have f4_ := f1_.symm; have f5_ := f3_.symm; clear f1_ f2_ f3_; subst f4_; subst f5_))
               refine hK.out _ _ ⟨cB BK339 0, cB BK339 1, cB BK321 0, cB BK321 1⟩ (fun hHeld => ?_)
               clear hK K
               refine nm_ ?_
               refine one_ (i := 3) (N := some 57) (mB 5 15) rfl rfl (by kernel_rfl) (by decide) (fun K hK => ?_)
               refine ca_ Try.func19 #[.agg #[.int .i64 t335, .slice Ao61 t336.length co61], .agg #[.int .i64 t348, .slice Ao71 t349.length co71]] ?_
               with_reducible refine (laws_eqComplex.calls k t335 _ _ t336 t348 _ _ t349 true _ ?side1 ?side2 ?side3 ?side4 A23.out).mono ?_
               (case side1 => exact pC ((Kd.R_reads' HO338.out).2.2))
               (case side2 => exact (Kd.R_reads' HO338.out).2.1)
               (case side3 => exact pC ((Kd.R_reads' HO351.out).2.2))
               (case side4 => exact (Kd.R_reads' HO351.out).2.1)
               rintro e w72 ⟨rfl, hb⟩
               refine ⟨_, rfl, ?_⟩
               replace HO327 := sR HO327 hb
               replace HO330 := sR HO330 hb
               replace HO333 := Aside0.mk (Kd.V_below (by (with_reducible repeat (first | apply Kd.V_alloc | apply Kd.V_drewN | apply Kd.V_drew)); exact HO333.out) hb)
               replace HO338 := sR HO338 hb
               replace HO342 := sR HO342 hb
               replace HO345 := sR HO345 hb
               replace HO351 := sR HO351 hb
               replace BK321 := sB BK321 hb
               replace BK339 := sB BK339 hb
               replace HB := sH HB hb
               (try clear hb)
               (try clear hb2)
               (try clear hk)
               (try clear hi)
               refine hK.out _ _ ⟨cB BK339 0, cB BK339 1, cB BK321 0, cB BK321 1⟩ (fun hHeld => ?_)
               clear hK K
               refine nm_ ?_
               refine pure_ (i := 4) (N := some 58) (v := ?_) (a' := ?_) (mB 5 31) rfl rfl (by kernel_rfl) (fun _ _ _ h => h) (Or.inl ⟨by rfl, ?_⟩) ?_ ?_
               rotate_left
               ·intro w'
                go_simp
                with_reducible rfl
               rotate_left
               ·simp only [Act.put, List.setIfInBounds_toArray, List.set_cons_zero, List.set_cons_succ, i64_w, i32_w]
                rfl
               refine done_ (by kernel_rfl) ?_
               try go_wp2_with (first | ((with_reducible refine gate_callee (f := 25) rfl ?_); refine cl_ (some 61) Try.func25 #[.slice A1 l1.length c1] ?_; (with_reducible refine (laws_toPairS.calls k _ _ l1 t353 _ ?side1 ?side2 A25.out).mono ?_); (case side1 => exact pC ((Kd.C_below HR1.out HB.out))); (case side2 => exact HC1.out); rintro e w73 ⟨v354, rfl, ho0, hb⟩; refine ⟨_, rfl, ?_⟩; have n0_ := sR HO327 hb; have n1_ := Aside0.mk (Kd.R_elder' (pR HO330) (Kd.R_base ho0) hb); have n2_ := Aside0.mk (Kd.V_elder' (by (with_reducible repeat (first | apply Kd.V_alloc | apply Kd.V_drewN | apply Kd.V_drew)); exact HO333.out) (Kd.R_base ho0) hb); have n3_ := sR HO338 hb; have n4_ := Aside0.mk (Kd.R_elder' (pR HO342) (Kd.R_base ho0) hb); have n5_ := Aside0.mk (Kd.R_elder' (pR HO345) (Kd.R_base ho0) hb); have n6_ := sR HO351 hb; have n7_ := Aside0.mk (Kd.R_lower (Kd.R_new' (Kd.R_new' (Kd.R_new' ho0 (Kd.R_lt (pR HO330))) (Kd.R_lt (pR HO342))) (Kd.R_lt (pR HO345))) (below_size (pH HB))); have n8_ := sB BK321 hb; have n9_ := sB BK339 hb; have n10_ := sH HB hb; clear HO327; clear HO330; clear HO333; clear HO338; clear HO342; clear HO345; clear HO351; clear BK321; clear BK339; clear HB; have HO327 := n0_; have HO330 := n1_; have HO333 := n2_; have HO338 := n3_; have HO342 := n4_; have HO345 := n5_; have HO351 := n6_; have HO355 := n7_; have BK321 := n8_; have BK339 := n9_; have HB := n10_; clear n0_ n1_ n2_ n3_ n4_ n5_ n6_ n7_ n8_ n9_ n10_; (try clear hb); (try clear hi); (try clear ho0); obtain ⟨Ao74, co74, eo74⟩ := Kd.R_slice HO355.out; subst eo74) | ((with_reducible refine gate_callee (f := 27) rfl ?_); refine cl_ (some 62) Try.func27 #[.slice Ao64 t340.length co64, .slice Ao74 t353.length co74] ?_; (with_reducible refine (laws_eqPairS.calls k _ _ t340 _ _ t353 true _ ?side1 ?side2 ?side3 ?side4 A26.out).mono ?_); (case side1 => exact pC ((Kd.R_reads' HO342.out).2.2)); (case side2 => exact (Kd.R_reads' HO342.out).2.1); (case side3 => exact pC ((Kd.R_reads' HO355.out).2.2)); (case side4 => exact (Kd.R_reads' HO355.out).2.1); rintro e w75 ⟨rfl, hb⟩; refine ⟨_, rfl, ?_⟩; have n0_ := sR HO327 hb; have n1_ := sR HO330 hb; have n2_ := Aside0.mk (Kd.V_below (by (with_reducible repeat (first | apply Kd.V_alloc | apply Kd.V_drewN | apply Kd.V_drew)); exact HO333.out) hb); have n3_ := sR HO338 hb; have n4_ := sR HO342 hb; have n5_ := sR HO345 hb; have n6_ := sR HO351 hb; have n7_ := sR HO355 hb; have n8_ := sB BK321 hb; have n9_ := sB BK339 hb; have n10_ := sH HB hb; clear HO327; clear HO330; clear HO333; clear HO338; clear HO342; clear HO345; clear HO351; clear HO355; clear BK321; clear BK339; clear HB; have HO327 := n0_; have HO330 := n1_; have HO333 := n2_; have HO338 := n3_; have HO342 := n4_; have HO345 := n5_; have HO351 := n6_; have HO355 := n7_; have BK321 := n8_; have BK339 := n9_; have HB := n10_; clear n0_ n1_ n2_ n3_ n4_ n5_ n6_ n7_ n8_ n9_ n10_; (try clear hb); (try clear hi); have hcz76_0 : w75.cell? ⟨gb339, 0, none⟩ = some (.int .i64 t335) := cB BK339 0; have hcz76_1 : w75.cell? ⟨gb339, 1, none⟩ = some (.slice Ao61 t336.length co61) := cB BK339 1; have hfz76_0 := zB BK339 0; have hfz76_1 := zB BK339 1) | ((with_reducible refine gate_callee (f := 20) rfl ?_); refine cl_ (some 66) Try.func20 #[.agg #[.int .i64 t335, .slice Ao61 t336.length co61], .int .i64 1] ?_; (with_reducible refine (laws_markComplex.calls k t335 (fun k_ => some k_ = (.slice Ao61 t336.length co61 : Value).ownBlock) (.slice Ao61 t336.length co61) t336 1 t357 t358 w _ ?side1 ?side2 A28.out).mono ?_); (case side1 => repeat (first | (with_reducible first | exact HB.out | apply below_alloc | apply pw_below_drewN | apply below_drew1 | refine below_set ?_ GE321.out | refine below_set ?_ GE339.out) | exact HB.out)); (case side2 => exact Kd.R_tight rfl HO338.out); rintro e w77 ⟨rfl, hy0, hb, hkp⟩; refine ⟨_, rfl, ?_⟩; replace BK321 := Aside0.mk (blk_kept (pB BK321) hkp (fun hs_ => (fun e_ => (Kd.R_ne HO338.out BK321.out (by decide)) e_) hs_)); replace HO327 := Aside0.mk (Kd.R_mono (ok' := fun k_ => some k_ ≠ (.slice Ao61 t336.length co61 : Value).ownBlock ∧ some k_ ≠ (.slice Ao71 t349.length co71 : Value).ownBlock) (Kd.R_keptB (HO327.out) hkp (fun k_ hk_ hs_ => (hk_.1.2) hs_)) (fun k_ hk_ => ⟨hk_.1.1.2, hk_.1.2⟩)); replace HO330 := Aside0.mk (Kd.R_mono (ok' := fun k_ => some k_ ≠ (.slice Ao64 t340.length co64 : Value).ownBlock ∧ some k_ ≠ (.slice Ao66 t343.length co66 : Value).ownBlock ∧ some k_ ≠ (.slice Ao74 t353.length co74 : Value).ownBlock) (Kd.R_keptB ((Kd.R_apart' HO330.out (Kd.R_typed HO338.out) (by decide))) hkp (fun k_ hk_ hs_ => (hk_.2) hs_)) (fun k_ hk_ => ⟨hk_.1.1.1.1.2, hk_.1.1.1.2, hk_.1.1.2⟩)); replace HO333 := Aside0.mk (Kd.V_mono (ok' := fun k_ => some k_ ≠ (.slice Ao53 t325.length co53 : Value).ownBlock ∧ some k_ ≠ (.slice Ao54 t328.length co54 : Value).ownBlock ∧ some k_ ≠ (.slice Ao61 t336.length co61 : Value).ownBlock ∧ some k_ ≠ (.slice Ao64 t340.length co64 : Value).ownBlock ∧ some k_ ≠ (.slice Ao66 t343.length co66 : Value).ownBlock ∧ some k_ ≠ (.slice Ao71 t349.length co71 : Value).ownBlock ∧ some k_ ≠ (.slice Ao74 t353.length co74 : Value).ownBlock ∧ k_ ≠ gb321 ∧ k_ ≠ gb339) (Kd.V_keptB (HO333.out) hkp (fun k_ hk_ hs_ => (hk_.1.1.1.1.1.2) hs_)) (fun k_ hk_ => ⟨hk_.1.1.1.1.1.1.1.1, hk_.1.1.1.1.1.1.1.2.1, hk_.1.1.1.1.1.1.2, hk_.1.1.1.1.2, hk_.1.1.1.2, hk_.1.1.2, hk_.1.2, hk_.1.1.1.1.1.1.1.2.2, hk_.1.1.1.1.1.2⟩)); replace BK339 := Aside0.mk (blk_kept (pB BK339) hkp (fun hs_ => (fun e_ => (Kd.R_ne HO338.out BK339.out (by decide)) e_) hs_)); replace HO342 := Aside0.mk (Kd.R_mono (ok' := fun k_ => some k_ ≠ (.slice Ao54 t328.length co54 : Value).ownBlock ∧ some k_ ≠ (.slice Ao66 t343.length co66 : Value).ownBlock ∧ some k_ ≠ (.slice Ao74 t353.length co74 : Value).ownBlock) (Kd.R_keptB ((Kd.R_apart' HO342.out (Kd.R_typed HO338.out) (by decide))) hkp (fun k_ hk_ hs_ => (hk_.2) hs_)) (fun k_ hk_ => ⟨hk_.1.1.1.1.2, hk_.1.1.1.2, hk_.1.1.2⟩)); replace HO345 := Aside0.mk (Kd.R_mono (ok' := fun k_ => some k_ ≠ (.slice Ao54 t328.length co54 : Value).ownBlock ∧ some k_ ≠ (.slice Ao64 t340.length co64 : Value).ownBlock ∧ some k_ ≠ (.slice Ao74 t353.length co74 : Value).ownBlock) (Kd.R_keptB ((Kd.R_apart' HO345.out (Kd.R_typed HO338.out) (by decide))) hkp (fun k_ hk_ hs_ => (hk_.2) hs_)) (fun k_ hk_ => ⟨hk_.1.1.1.1.2, hk_.1.1.1.2, hk_.1.1.2⟩)); replace HO351 := Aside0.mk (Kd.R_mono (ok' := fun k_ => some k_ ≠ (.slice Ao53 t325.length co53 : Value).ownBlock ∧ some k_ ≠ (.slice Ao61 t336.length co61 : Value).ownBlock) (Kd.R_keptB (HO351.out) hkp (fun k_ hk_ hs_ => (hk_.2) hs_)) (fun k_ hk_ => ⟨hk_.1.1.2, hk_.1.2⟩)); replace HO355 := Aside0.mk (Kd.R_mono (ok' := fun k_ => some k_ ≠ (.slice Ao54 t328.length co54 : Value).ownBlock ∧ some k_ ≠ (.slice Ao64 t340.length co64 : Value).ownBlock ∧ some k_ ≠ (.slice Ao66 t343.length co66 : Value).ownBlock) (Kd.R_keptB ((Kd.R_apart' HO355.out (Kd.R_typed HO338.out) (by decide))) hkp (fun k_ hk_ hs_ => (hk_.2) hs_)) (fun k_ hk_ => ⟨hk_.1.1.1.1.2, hk_.1.1.1.2, hk_.1.1.2⟩)); replace HO338 := Aside0.mk (Kd.R_reok rfl hy0 (fun k_ e_ => HO338.out.1 k_ e_)); replace HB := Aside0.mk (hb); (try clear hb); (try clear hkp); (try clear hy0)) | ((with_reducible refine gate_callee (f := 28) rfl ?_); refine cl_ (some 69) Try.func28 #[.slice Ao64 t340.length co64, .int .i64 t357] ?_; (with_reducible refine (laws_markPairS.calls (fun k_ => some k_ = (.slice Ao64 t340.length co64 : Value).ownBlock) (.slice Ao64 t340.length co64) t340 t357 t359 t360 w _ ?side1 ?side2 A29.out).mono ?_); (case side1 => repeat (first | (with_reducible first | exact HB.out | apply below_alloc | apply pw_below_drewN | apply below_drew1 | refine below_set ?_ GE321.out | refine below_set ?_ GE339.out) | exact HB.out)); (case side2 => exact Kd.R_tight rfl HO342.out); rintro e w78 ⟨rfl, hy0, hb, hkp⟩; refine ⟨_, rfl, ?_⟩; replace BK321 := Aside0.mk (blk_kept (pB BK321) hkp (fun hs_ => (fun e_ => (Kd.R_ne HO342.out BK321.out (by decide)) e_) hs_)); replace HO327 := Aside0.mk (Kd.R_mono (ok' := fun k_ => some k_ ≠ (.slice Ao61 t336.length co61 : Value).ownBlock ∧ some k_ ≠ (.slice Ao71 t349.length co71 : Value).ownBlock) (Kd.R_keptB ((Kd.R_apart' HO327.out (Kd.R_typed HO342.out) (by decide))) hkp (fun k_ hk_ hs_ => (hk_.2) hs_)) (fun k_ hk_ => ⟨hk_.1.1.1, hk_.1.1.2⟩)); replace HO330 := Aside0.mk (Kd.R_mono (ok' := fun k_ => some k_ ≠ (.slice Ao64 t340.length co64 : Value).ownBlock ∧ some k_ ≠ (.slice Ao66 t343.length co66 : Value).ownBlock ∧ some k_ ≠ (.slice Ao74 t353.length co74 : Value).ownBlock) (Kd.R_keptB (HO330.out) hkp (fun k_ hk_ hs_ => (hk_.1) hs_)) (fun k_ hk_ => ⟨hk_.1.1, hk_.1.2.1, hk_.1.2.2⟩)); replace HO333 := Aside0.mk (Kd.V_mono (ok' := fun k_ => some k_ ≠ (.slice Ao53 t325.length co53 : Value).ownBlock ∧ some k_ ≠ (.slice Ao54 t328.length co54 : Value).ownBlock ∧ some k_ ≠ (.slice Ao61 t336.length co61 : Value).ownBlock ∧ some k_ ≠ (.slice Ao64 t340.length co64 : Value).ownBlock ∧ some k_ ≠ (.slice Ao66 t343.length co66 : Value).ownBlock ∧ some k_ ≠ (.slice Ao71 t349.length co71 : Value).ownBlock ∧ some k_ ≠ (.slice Ao74 t353.length co74 : Value).ownBlock ∧ k_ ≠ gb321 ∧ k_ ≠ gb339) (Kd.V_keptB (HO333.out) hkp (fun k_ hk_ hs_ => (hk_.2.2.2.1) hs_)) (fun k_ hk_ => ⟨hk_.1.1, hk_.1.2.1, hk_.1.2.2.1, hk_.1.2.2.2.1, hk_.1.2.2.2.2.1, hk_.1.2.2.2.2.2.1, hk_.1.2.2.2.2.2.2.1, hk_.1.2.2.2.2.2.2.2.1, hk_.1.2.2.2.2.2.2.2.2⟩)); replace HO338 := Aside0.mk (Kd.R_mono (ok' := fun k_ => some k_ ≠ (.slice Ao53 t325.length co53 : Value).ownBlock ∧ some k_ ≠ (.slice Ao71 t349.length co71 : Value).ownBlock) (Kd.R_keptB ((Kd.R_apart' HO338.out (Kd.R_typed HO342.out) (by decide))) hkp (fun k_ hk_ hs_ => (hk_.2) hs_)) (fun k_ hk_ => ⟨hk_.1.1.1.2, hk_.1.1.2⟩)); replace BK339 := Aside0.mk (blk_kept (pB BK339) hkp (fun hs_ => (fun e_ => (Kd.R_ne HO342.out BK339.out (by decide)) e_) hs_)); replace HO345 := Aside0.mk (Kd.R_mono (ok' := fun k_ => some k_ ≠ (.slice Ao54 t328.length co54 : Value).ownBlock ∧ some k_ ≠ (.slice Ao64 t340.length co64 : Value).ownBlock ∧ some k_ ≠ (.slice Ao74 t353.length co74 : Value).ownBlock) (Kd.R_keptB (HO345.out) hkp (fun k_ hk_ hs_ => (hk_.2.1) hs_)) (fun k_ hk_ => ⟨hk_.1.1, hk_.1.2.1, hk_.1.2.2⟩)); replace HO351 := Aside0.mk (Kd.R_mono (ok' := fun k_ => some k_ ≠ (.slice Ao53 t325.length co53 : Value).ownBlock ∧ some k_ ≠ (.slice Ao61 t336.length co61 : Value).ownBlock) (Kd.R_keptB ((Kd.R_apart' HO351.out (Kd.R_typed HO342.out) (by decide))) hkp (fun k_ hk_ hs_ => (hk_.2) hs_)) (fun k_ hk_ => ⟨hk_.1.1.1, hk_.1.1.2⟩)); replace HO342 := Aside0.mk (Kd.R_reok rfl hy0 (fun k_ e_ => HO342.out.1 k_ e_)); replace HO355 := Aside0.mk (Kd.R_mono (ok' := fun k_ => some k_ ≠ (.slice Ao54 t328.length co54 : Value).ownBlock ∧ some k_ ≠ (.slice Ao64 t340.length co64 : Value).ownBlock ∧ some k_ ≠ (.slice Ao66 t343.length co66 : Value).ownBlock) (Kd.R_keptB (HO355.out) hkp (fun k_ hk_ hs_ => (hk_.2.1) hs_)) (fun k_ hk_ => ⟨hk_.1.1, hk_.1.2.1, hk_.1.2.2⟩)); replace HB := Aside0.mk (hb); (try clear hb); (try clear hkp); (try clear hy0)) | (go_at_call 27; (with_reducible refine (laws_eqPairS.calls k _ _ t343 _ _ t331 true _ ?side1 ?side2 ?side3 ?side4 A31.out).mono ?_); (case side1 => exact pC ((Kd.R_reads' HO345.out).2.2)); (case side2 => exact (Kd.R_reads' HO345.out).2.1); (case side3 => exact pC ((Kd.V_reads' HO333.out).2.2)); (case side4 => exact (Kd.V_reads' HO333.out).2.1); rintro e w79 ⟨rfl, hb⟩; have n0_ := sR HO327 hb; have n1_ := sR HO330 hb; have n2_ := Aside0.mk (Kd.V_below (by (with_reducible repeat (first | apply Kd.V_alloc | apply Kd.V_drewN | apply Kd.V_drew)); exact HO333.out) hb); have n3_ := sR HO338 hb; have n4_ := sR HO342 hb; have n5_ := sR HO345 hb; have n6_ := sR HO351 hb; have n7_ := sR HO355 hb; have n8_ := sB BK321 hb; have n9_ := sB BK339 hb; have n10_ := sH HB hb; clear HO327; clear HO330; clear HO333; clear HO338; clear HO342; clear HO345; clear HO351; clear HO355; clear BK321; clear BK339; clear HB; have HO327 := n0_; have HO330 := n1_; have HO333 := n2_; have HO338 := n3_; have HO342 := n4_; have HO345 := n5_; have HO351 := n6_; have HO355 := n7_; have BK321 := n8_; have BK339 := n9_; have HB := n10_; clear n0_ n1_ n2_ n3_ n4_ n5_ n6_ n7_ n8_ n9_ n10_; (try clear hb); (try clear hi)) | ((with_reducible refine gate_callee (f := 28) rfl ?_); refine cl_ (some 85) Try.func28 #[.slice Ao66 t343.length co66, .int .i64 1] ?_; (with_reducible refine (laws_markPairS.calls (fun k_ => some k_ = (.slice Ao66 t343.length co66 : Value).ownBlock) (.slice Ao66 t343.length co66) t343 1 t362 t363 w _ ?side1 ?side2 A33.out).mono ?_); (case side1 => repeat (first | (with_reducible first | exact HB.out | apply below_alloc | apply pw_below_drewN | apply below_drew1 | refine below_set ?_ GE321.out | refine below_set ?_ GE339.out) | exact HB.out)); (case side2 => exact Kd.R_tight rfl HO345.out); rintro e w80 ⟨rfl, hy0, hb, hkp⟩; refine ⟨_, rfl, ?_⟩; replace BK321 := Aside0.mk (blk_kept (pB BK321) hkp (fun hs_ => (fun e_ => (Kd.R_ne HO345.out BK321.out (by decide)) e_) hs_)); replace HO327 := Aside0.mk (Kd.R_mono (ok' := fun k_ => some k_ ≠ (.slice Ao61 t336.length co61 : Value).ownBlock ∧ some k_ ≠ (.slice Ao71 t349.length co71 : Value).ownBlock) (Kd.R_keptB ((Kd.R_apart' HO327.out (Kd.R_typed HO345.out) (by decide))) hkp (fun k_ hk_ hs_ => (hk_.2) hs_)) (fun k_ hk_ => ⟨hk_.1.1.1, hk_.1.1.2⟩)); replace HO330 := Aside0.mk (Kd.R_mono (ok' := fun k_ => some k_ ≠ (.slice Ao64 t340.length co64 : Value).ownBlock ∧ some k_ ≠ (.slice Ao66 t343.length co66 : Value).ownBlock ∧ some k_ ≠ (.slice Ao74 t353.length co74 : Value).ownBlock) (Kd.R_keptB (HO330.out) hkp (fun k_ hk_ hs_ => (hk_.2.1) hs_)) (fun k_ hk_ => ⟨hk_.1.1, hk_.1.2.1, hk_.1.2.2⟩)); replace HO333 := Aside0.mk (Kd.V_mono (ok' := fun k_ => some k_ ≠ (.slice Ao53 t325.length co53 : Value).ownBlock ∧ some k_ ≠ (.slice Ao54 t328.length co54 : Value).ownBlock ∧ some k_ ≠ (.slice Ao61 t336.length co61 : Value).ownBlock ∧ some k_ ≠ (.slice Ao64 t340.length co64 : Value).ownBlock ∧ some k_ ≠ (.slice Ao66 t343.length co66 : Value).ownBlock ∧ some k_ ≠ (.slice Ao71 t349.length co71 : Value).ownBlock ∧ some k_ ≠ (.slice Ao74 t353.length co74 : Value).ownBlock ∧ k_ ≠ gb321 ∧ k_ ≠ gb339) (Kd.V_keptB (HO333.out) hkp (fun k_ hk_ hs_ => (hk_.2.2.2.2.1) hs_)) (fun k_ hk_ => ⟨hk_.1.1, hk_.1.2.1, hk_.1.2.2.1, hk_.1.2.2.2.1, hk_.1.2.2.2.2.1, hk_.1.2.2.2.2.2.1, hk_.1.2.2.2.2.2.2.1, hk_.1.2.2.2.2.2.2.2.1, hk_.1.2.2.2.2.2.2.2.2⟩)); replace HO338 := Aside0.mk (Kd.R_mono (ok' := fun k_ => some k_ ≠ (.slice Ao53 t325.length co53 : Value).ownBlock ∧ some k_ ≠ (.slice Ao71 t349.length co71 : Value).ownBlock) (Kd.R_keptB ((Kd.R_apart' HO338.out (Kd.R_typed HO345.out) (by decide))) hkp (fun k_ hk_ hs_ => (hk_.2) hs_)) (fun k_ hk_ => ⟨hk_.1.1.1, hk_.1.1.2⟩)); replace BK339 := Aside0.mk (blk_kept (pB BK339) hkp (fun hs_ => (fun e_ => (Kd.R_ne HO345.out BK339.out (by decide)) e_) hs_)); replace HO342 := Aside0.mk (Kd.R_mono (ok' := fun k_ => some k_ ≠ (.slice Ao54 t328.length co54 : Value).ownBlock ∧ some k_ ≠ (.slice Ao66 t343.length co66 : Value).ownBlock ∧ some k_ ≠ (.slice Ao74 t353.length co74 : Value).ownBlock) (Kd.R_keptB (HO342.out) hkp (fun k_ hk_ hs_ => (hk_.2.1) hs_)) (fun k_ hk_ => ⟨hk_.1.1, hk_.1.2.1, hk_.1.2.2⟩)); replace HO351 := Aside0.mk (Kd.R_mono (ok' := fun k_ => some k_ ≠ (.slice Ao53 t325.length co53 : Value).ownBlock ∧ some k_ ≠ (.slice Ao61 t336.length co61 : Value).ownBlock) (Kd.R_keptB ((Kd.R_apart' HO351.out (Kd.R_typed HO345.out) (by decide))) hkp (fun k_ hk_ hs_ => (hk_.2) hs_)) (fun k_ hk_ => ⟨hk_.1.1.1, hk_.1.1.2⟩)); replace HO345 := Aside0.mk (Kd.R_reok rfl hy0 (fun k_ e_ => HO345.out.1 k_ e_)); replace HO355 := Aside0.mk (Kd.R_mono (ok' := fun k_ => some k_ ≠ (.slice Ao54 t328.length co54 : Value).ownBlock ∧ some k_ ≠ (.slice Ao64 t340.length co64 : Value).ownBlock ∧ some k_ ≠ (.slice Ao66 t343.length co66 : Value).ownBlock) (Kd.R_keptB (HO355.out) hkp (fun k_ hk_ hs_ => (hk_.2.2) hs_)) (fun k_ hk_ => ⟨hk_.1.1, hk_.1.2.1, hk_.1.2.2⟩)); replace HB := Aside0.mk (hb); (try clear hb); (try clear hkp); (try clear hy0)) | ((with_reducible refine gate_callee (f := 29) rfl ?_); refine cl_ (some 88) Try.func29 #[.slice Ao66 t363.length co66, .int .i64 1] (hargs := by (try simp only [List.map_toArray, List.map_cons, List.map_nil]); first | done | (rw [show t363.length = t343.length from (Kd.R_reads' HO345.out).1.symm] <;> rfl) | rfl | (simp only [List.length_drop, List.length_take]; rfl)) ?_; (with_reducible refine (laws_heldPairS.calls _ _ t363 1 t364 _ ?side1 ?side2 A34.out).mono ?_); (case side1 => exact pC ((Kd.R_reads' HO345.out).2.2)); (case side2 => rw [show t363.length = t343.length from (Kd.R_reads' HO345.out).1.symm]; exact (Kd.R_reads' HO345.out).2.1); rintro e w81 ⟨rfl, hb⟩; refine ⟨_, rfl, ?_⟩; have n0_ := sR HO327 hb; have n1_ := sR HO330 hb; have n2_ := Aside0.mk (Kd.V_below (by (with_reducible repeat (first | apply Kd.V_alloc | apply Kd.V_drewN | apply Kd.V_drew)); exact HO333.out) hb); have n3_ := sR HO338 hb; have n4_ := sR HO342 hb; have n5_ := sR HO345 hb; have n6_ := sR HO351 hb; have n7_ := sR HO355 hb; have n8_ := sB BK321 hb; have n9_ := sB BK339 hb; have n10_ := sH HB hb; clear HO327; clear HO330; clear HO333; clear HO338; clear HO342; clear HO345; clear HO351; clear HO355; clear BK321; clear BK339; clear HB; have HO327 := n0_; have HO330 := n1_; have HO333 := n2_; have HO338 := n3_; have HO342 := n4_; have HO345 := n5_; have HO351 := n6_; have HO355 := n7_; have BK321 := n8_; have BK339 := n9_; have HB := n10_; clear n0_ n1_ n2_ n3_ n4_ n5_ n6_ n7_ n8_ n9_ n10_; (try clear hb); (try clear hi); have hcz82_0 : w81.cell? ⟨gb321, 0, none⟩ = some (.int .i64 a0_0) := cB BK321 0; have hcz82_1 : w81.cell? ⟨gb321, 1, none⟩ = some (.slice A0_1 l0_1.length c0_1) := cB BK321 1; have hfz82_0 := zB BK321 0; have hfz82_1 := zB BK321 1) | ((with_reducible refine gate_callee (f := 15) rfl ?_); refine cl_ (some 96) Try.func15 #[.agg #[.int .i64 a0_0, .slice A0_1 l0_1.length c0_1]] ?_; (with_reducible refine (laws_toComplex.calls k a0_0 _ _ l0_1 t365 t366 _ ?side1 ?side2 A37.out).mono ?_); (case side1 => exact pC ((Kd.C_below HR0_1.out HB.out))); (case side2 => exact HC0_1.out); rintro e w83 ⟨v367, rfl, ho0, hb⟩; refine ⟨_, rfl, ?_⟩; have n0_ := Aside0.mk (Kd.R_elder' (pR HO327) (Kd.R_base ho0) hb); have n1_ := sR HO330 hb; have n2_ := Aside0.mk (Kd.V_elder' (by (with_reducible repeat (first | apply Kd.V_alloc | apply Kd.V_drewN | apply Kd.V_drew)); exact HO333.out) (Kd.R_base ho0) hb); have n3_ := Aside0.mk (Kd.R_elder' (pR HO338) (Kd.R_base ho0) hb); have n4_ := sR HO342 hb; have n5_ := sR HO345 hb; have n6_ := Aside0.mk (Kd.R_elder' (pR HO351) (Kd.R_base ho0) hb); have n7_ := sR HO355 hb; have n8_ := Aside0.mk (Kd.R_lower (Kd.R_new' (Kd.R_new' (Kd.R_new' ho0 (Kd.R_lt (pR HO327))) (Kd.R_lt (pR HO338))) (Kd.R_lt (pR HO351))) (below_size (pH HB))); have n9_ := sB BK321 hb; have n10_ := sB BK339 hb; have n11_ := sH HB hb; clear HO327; clear HO330; clear HO333; clear HO338; clear HO342; clear HO345; clear HO351; clear HO355; clear BK321; clear BK339; clear HB; have HO327 := n0_; have HO330 := n1_; have HO333 := n2_; have HO338 := n3_; have HO342 := n4_; have HO345 := n5_; have HO351 := n6_; have HO355 := n7_; have HO368 := n8_; have BK321 := n9_; have BK339 := n10_; have HB := n11_; clear n0_ n1_ n2_ n3_ n4_ n5_ n6_ n7_ n8_ n9_ n10_ n11_; (try clear hb); (try clear hi); (try clear ho0)) | ((with_reducible refine gate_callee (f := 25) rfl ?_); refine cl_ (some 98) Try.func25 #[.slice A1 l1.length c1] ?_; (with_reducible refine (laws_toPairS.calls k _ _ l1 t369 _ ?side1 ?side2 A38.out).mono ?_); (case side1 => exact pC ((Kd.C_below HR1.out HB.out))); (case side2 => exact HC1.out); rintro e w84 ⟨v370, rfl, ho0, hb⟩; refine ⟨_, rfl, ?_⟩; have n0_ := sR HO327 hb; have n1_ := Aside0.mk (Kd.R_elder' (pR HO330) (Kd.R_base ho0) hb); have n2_ := Aside0.mk (Kd.V_elder' (by (with_reducible repeat (first | apply Kd.V_alloc | apply Kd.V_drewN | apply Kd.V_drew)); exact HO333.out) (Kd.R_base ho0) hb); have n3_ := sR HO338 hb; have n4_ := Aside0.mk (Kd.R_elder' (pR HO342) (Kd.R_base ho0) hb); have n5_ := Aside0.mk (Kd.R_elder' (pR HO345) (Kd.R_base ho0) hb); have n6_ := sR HO351 hb; have n7_ := Aside0.mk (Kd.R_elder' (pR HO355) (Kd.R_base ho0) hb); have n8_ := sR HO368 hb; have n9_ := Aside0.mk (Kd.R_lower (Kd.R_new' (Kd.R_new' (Kd.R_new' (Kd.R_new' ho0 (Kd.R_lt (pR HO330))) (Kd.R_lt (pR HO342))) (Kd.R_lt (pR HO345))) (Kd.R_lt (pR HO355))) (below_size (pH HB))); have n10_ := sB BK321 hb; have n11_ := sB BK339 hb; have n12_ := sH HB hb; clear HO327; clear HO330; clear HO333; clear HO338; clear HO342; clear HO345; clear HO351; clear HO355; clear HO368; clear BK321; clear BK339; clear HB; have HO327 := n0_; have HO330 := n1_; have HO333 := n2_; have HO338 := n3_; have HO342 := n4_; have HO345 := n5_; have HO351 := n6_; have HO355 := n7_; have HO368 := n8_; have HO371 := n9_; have BK321 := n10_; have BK339 := n11_; have HB := n12_; clear n0_ n1_ n2_ n3_ n4_ n5_ n6_ n7_ n8_ n9_ n10_ n11_ n12_; (try clear hb); (try clear hi); (try clear ho0); obtain ⟨Ao85, co85, eo85⟩ := Kd.R_slice HO368.out; subst eo85; obtain ⟨Ao86, co86, eo86⟩ := Kd.R_slice HO371.out; subst eo86) | ((with_reducible refine gate_callee (f := 26) rfl ?_); refine cl_ (some 99) Try.func26 #[.agg #[.int .i64 t365, .slice Ao85 t366.length co85], .slice Ao86 t369.length co86] ?_; (with_reducible refine (impl_FillPairing.calls t365 _ _ t366 _ _ t369 t372 t375 _ ?side1 ?side2 ?side3 ?side4 A39.out).mono ?_); (case side1 => exact pC ((Kd.R_reads' HO368.out).2.2)); (case side2 => exact (Kd.R_reads' HO368.out).2.1); (case side3 => exact pC ((Kd.R_reads' HO371.out).2.2)); (case side4 => exact (Kd.R_reads' HO371.out).2.1); rintro e w87 ⟨v373, rfl, ho0, hb⟩; refine ⟨_, rfl, ?_⟩; have n0_ := sR HO327 hb; have n1_ := Aside0.mk (Kd.R_elder' (pR HO330) (Kd.R_base ho0) hb); have n2_ := Aside0.mk (Kd.V_elder' (by (with_reducible repeat (first | apply Kd.V_alloc | apply Kd.V_drewN | apply Kd.V_drew)); exact HO333.out) (Kd.R_base ho0) hb); have n3_ := sR HO338 hb; have n4_ := Aside0.mk (Kd.R_elder' (pR HO342) (Kd.R_base ho0) hb); have n5_ := Aside0.mk (Kd.R_elder' (pR HO345) (Kd.R_base ho0) hb); have n6_ := sR HO351 hb; have n7_ := Aside0.mk (Kd.R_elder' (pR HO355) (Kd.R_base ho0) hb); have n8_ := sR HO368 hb; have n9_ := Aside0.mk (Kd.R_elder' (pR HO371) (Kd.R_base ho0) hb); have n10_ := Aside0.mk (Kd.R_lower (Kd.R_new' (Kd.R_new' (Kd.R_new' (Kd.R_new' (Kd.R_new' ho0 (Kd.R_lt (pR HO330))) (Kd.R_lt (pR HO342))) (Kd.R_lt (pR HO345))) (Kd.R_lt (pR HO355))) (Kd.R_lt (pR HO371))) (below_size (pH HB))); have n11_ := sB BK321 hb; have n12_ := sB BK339 hb; have n13_ := sH HB hb; clear HO327; clear HO330; clear HO333; clear HO338; clear HO342; clear HO345; clear HO351; clear HO355; clear HO368; clear HO371; clear BK321; clear BK339; clear HB; have HO327 := n0_; have HO330 := n1_; have HO333 := n2_; have HO338 := n3_; have HO342 := n4_; have HO345 := n5_; have HO351 := n6_; have HO355 := n7_; have HO368 := n8_; have HO371 := n9_; have HO374 := n10_; have BK321 := n11_; have BK339 := n12_; have HB := n13_; clear n0_ n1_ n2_ n3_ n4_ n5_ n6_ n7_ n8_ n9_ n10_ n11_ n12_ n13_; (try clear hb); (try clear hi); (try clear ho0); obtain ⟨Ao88, co88, eo88⟩ := Kd.R_slice HO374.out; subst eo88) | ((with_reducible refine gate_callee (f := 27) rfl ?_); refine cl_ (some 104) Try.func27 #[.slice Ao88 t372.length co88, .slice Ao67 t331.length co67] ?_; (with_reducible refine (laws_eqPairS.calls k _ _ t372 _ _ t331 true _ ?side1 ?side2 ?side3 ?side4 A40.out).mono ?_); (case side1 => exact pC ((Kd.R_reads' HO374.out).2.2)); (case side2 => exact (Kd.R_reads' HO374.out).2.1); (case side3 => exact pC ((Kd.V_reads' HO333.out).2.2)); (case side4 => exact (Kd.V_reads' HO333.out).2.1); rintro e w89 ⟨rfl, hb⟩; refine ⟨_, rfl, ?_⟩; have n0_ := sR HO327 hb; have n1_ := sR HO330 hb; have n2_ := Aside0.mk (Kd.V_below (by (with_reducible repeat (first | apply Kd.V_alloc | apply Kd.V_drewN | apply Kd.V_drew)); exact HO333.out) hb); have n3_ := sR HO338 hb; have n4_ := sR HO342 hb; have n5_ := sR HO345 hb; have n6_ := sR HO351 hb; have n7_ := sR HO355 hb; have n8_ := sR HO368 hb; have n9_ := sR HO371 hb; have n10_ := sR HO374 hb; have n11_ := sB BK321 hb; have n12_ := sB BK339 hb; have n13_ := sH HB hb; clear HO327; clear HO330; clear HO333; clear HO338; clear HO342; clear HO345; clear HO351; clear HO355; clear HO368; clear HO371; clear HO374; clear BK321; clear BK339; clear HB; have HO327 := n0_; have HO330 := n1_; have HO333 := n2_; have HO338 := n3_; have HO342 := n4_; have HO345 := n5_; have HO351 := n6_; have HO355 := n7_; have HO368 := n8_; have HO371 := n9_; have HO374 := n10_; have BK321 := n11_; have BK339 := n12_; have HB := n13_; clear n0_ n1_ n2_ n3_ n4_ n5_ n6_ n7_ n8_ n9_ n10_ n11_ n12_ n13_; (try clear hb); (try clear hi)) | ((with_reducible refine gate_callee (f := 29) rfl ?_); refine cl_ (some 113) Try.func29 #[.slice Ao66 t363.length co66, .int .i64 1] (hargs := by (try simp only [List.map_toArray, List.map_cons, List.map_nil]); first | done | (rw [show t363.length = t343.length from (Kd.R_reads' HO345.out).1.symm] <;> rfl) | rfl | (simp only [List.length_drop, List.length_take]; rfl)) ?_; (with_reducible refine (laws_heldPairS.calls _ _ t363 1 t377 _ ?side1 ?side2 A43.out).mono ?_); (case side1 => exact pC ((Kd.R_reads' HO345.out).2.2)); (case side2 => rw [show t363.length = t343.length from (Kd.R_reads' HO345.out).1.symm]; exact (Kd.R_reads' HO345.out).2.1); rintro e w90 ⟨rfl, hb⟩; refine ⟨_, rfl, ?_⟩; have n0_ := sR HO327 hb; have n1_ := sR HO330 hb; have n2_ := Aside0.mk (Kd.V_below (by (with_reducible repeat (first | apply Kd.V_alloc | apply Kd.V_drewN | apply Kd.V_drew)); exact HO333.out) hb); have n3_ := sR HO338 hb; have n4_ := sR HO342 hb; have n5_ := sR HO345 hb; have n6_ := sR HO351 hb; have n7_ := sR HO355 hb; have n8_ := sR HO368 hb; have n9_ := sR HO371 hb; have n10_ := sR HO374 hb; have n11_ := sB BK321 hb; have n12_ := sB BK339 hb; have n13_ := sH HB hb; clear HO327; clear HO330; clear HO333; clear HO338; clear HO342; clear HO345; clear HO351; clear HO355; clear HO368; clear HO371; clear HO374; clear BK321; clear BK339; clear HB; have HO327 := n0_; have HO330 := n1_; have HO333 := n2_; have HO338 := n3_; have HO342 := n4_; have HO345 := n5_; have HO351 := n6_; have HO355 := n7_; have HO368 := n8_; have HO371 := n9_; have HO374 := n10_; have BK321 := n11_; have BK339 := n12_; have HB := n13_; clear n0_ n1_ n2_ n3_ n4_ n5_ n6_ n7_ n8_ n9_ n10_ n11_ n12_ n13_; (try clear hb); (try clear hi)))
               go_ret
               exact ⟨by first | rfl | (simp [errW_none, errW_some] <;> rfl) | (simp [*, errW_none, errW_some] <;> rfl) | (exfalso; simp_all), pH HB⟩
              ·rw [if_neg c45] at H
               exact absurd H (by simp)
            ·rw [if_neg c42] at H
             exact absurd H (by simp)
           ·replace c41 := Bool.eq_false_iff.mpr c41
            subst c41
            have H1 : (none) = some r := by rw [if_neg (show ¬ (false = true) by decide)] at H; exact H
            clear H
            have H := H1
            clear H1
            exact absurd H (by simp)
          ·rw [if_neg c36] at H
           exact absurd H (by simp)
        ·replace c32 := Bool.eq_false_iff.mpr c32
         subst c32
         have H1 : (none) = some r := by rw [if_neg (show ¬ (false = true) by decide)] at H; exact H
         clear H
         have H := H1
         clear H1
         exact absurd H (by simp)
      ·replace c27 := Bool.eq_false_iff.mpr c27
       subst c27
       have H1 : (none) = some r := by rw [if_neg (show ¬ (false = true) by decide)] at H; exact H
       clear H
       have H := H1
       clear H1
       exact absurd H (by simp)
     ·replace c24 := Bool.eq_false_iff.mpr c24
      subst c24
      have H1 : (none) = some r := by rw [if_neg (show ¬ (false = true) by decide)] at H; exact H
      clear H
      have H := H1
      clear H1
      exact absurd H (by simp)
    ·rw [if_neg c21] at H
     exact absurd H (by simp)
   ·replace c20 := Bool.eq_false_iff.mpr c20
    subst c20
    have H1 : (none) = some r := by rw [if_neg (show ¬ (false = true) by decide)] at H; exact H
    clear H
    have H := H1
    clear H1
    exact absurd H (by simp)
end Go.Proofs.Ytomdfjohnmikdaa.QFnExactFillPairing
namespace Go.Proofs.Ytomdfjohnmikdaa.QS
open Go.Proofs.Ytomdfjohnmikdaa.Cw Go.Proofs.Ytomdfjohnmikdaa.Kp Go.Proofs.Ytomdfjohnmikdaa.Ext Go.RowKit Go.Proofs.YtomdfjohnmikdaaW.PrintWords Go.Proofs.YtomdfjohnmikdaaW.PrintLast Go.Proofs.YtomdfjohnmikdaaW.PrintMore
attribute [local go_sem] max2_int min2_int max_two min_two max_three min_three max_four min_four   -- for this text's walks alone
set_option linter.unusedVariables false
set_option linter.unusedSimpArgs false
end Go.Proofs.Ytomdfjohnmikdaa.QS
namespace Go.Proofs.Ytomdfjohnmikdaa.Pu
set_option linter.unusedVariables false
set_option linter.unusedSimpArgs false
open Go.RowKit Go.Proofs.Ytomdfjohnmikdaa.QS Go.Proofs.YtomdfjohnmikdaaW.PrintWords Go.Proofs.YtomdfjohnmikdaaW.PrintLast Go.Proofs.YtomdfjohnmikdaaW.PrintMore
theorem w64 {x : Int} (h1 : -9223372036854775808 ≤ x) (h2 : x ≤ 9223372036854775807) : wrap64 x = x := by unfold wrap64; omega
theorem rd_at {l : List Int} {i : Nat} (h : i < l.length) : rd l (i : Int) = l[i] := by simp [rd, List.getD_eq_getElem?_getD, List.getElem?_eq_getElem h]
theorem sz_ints {l : List Int} (hm : l.length ≤ maxLen) {b : Int} (h0 : 0 ≤ b) (h1 : b ≤ 1048576) : laws_szInt64S.f l b = some (if b < (l.length : Int) then -1 else b - l.length) := by
  unfold laws_szInt64S.f
  simp only [maxLen] at hm
  rw [w64 (by omega) (by omega)]
  by_cases h : b < (l.length : Int)
  · rw [if_pos (by omega), if_pos h]
  · rw [if_neg (by omega), if_neg h]
theorem sz_cx {n : Int} {l : List Int} (hm : l.length ≤ maxLen) {b : Int} (h0 : 0 ≤ b) (h1 : b ≤ 1048576) : laws_szComplex.f n l b = some (if b < (l.length : Int) then -1 else b - l.length) := by
  unfold laws_szComplex.f
  rw [sz_ints hm h0 h1, Option.bind_some]
  by_cases h : b < (l.length : Int)
  · rw [if_pos h, if_pos (by omega)]
  · rw [if_neg h, if_neg (by omega)]
theorem toInt_loop (l : List Int) (hl : l.length ≤ 1048576) : ∀ d (i : Nat) (x3 : List Int) k, l.length - i = d → d < k → i ≤ l.length → x3.length = l.length → (∀ j, j < i → x3[j]? = l[j]?) → laws_toInt64S.l0 k l x3 i = some l := by
  intro d
  induction d with
  | zero =>
    intro i x3 k hd hk hi hx hj
    obtain ⟨k, rfl⟩ : ∃ m, k = m + 1 := ⟨k - 1, by omega⟩
    simp only [laws_toInt64S.l0]
    rw [if_neg (by omega)]
    congr 1
    apply List.ext_getElem?
    intro j
    rcases Nat.lt_or_ge j i with h | h
    · exact hj j h
    · rw [List.getElem?_eq_none (by omega), List.getElem?_eq_none (by omega)]
  | succ d ih =>
    intro i x3 k hd hk hi hx hj
    obtain ⟨k, rfl⟩ : ∃ m, k = m + 1 := ⟨k - 1, by omega⟩
    simp only [laws_toInt64S.l0]
    rw [if_pos (by omega), if_pos (by omega), if_pos (by omega), w64 (by omega) (by omega)]
    refine ih (i + 1) _ k (by omega) (by omega) (by omega) (by simpa using hx) (fun j hji => ?_)
    rw [Int.toNat_natCast, List.getElem?_set]
    split
    · rename_i h
      subst h
      rw [if_pos (by omega), rd_at (by omega), List.getElem?_eq_getElem (by omega)]
    · exact hj j (by omega)
theorem ev_toInt {l : List Int} (hl : l.length ≤ 1048576) : Ev (fun k => laws_toInt64S.f k l) l := by
  refine ⟨l.length + 1, fun k hk => ?_⟩
  dsimp only
  unfold laws_toInt64S.f
  rw [if_pos (by omega), if_pos (by omega)]
  exact toInt_loop l hl l.length 0 _ k (by omega) (by omega) (by omega) (by simp) (fun j hj => absurd hj (Nat.not_lt_zero _))
theorem ev_toComplex {n : Int} {l : List Int} (hl : l.length ≤ 1048576) : Ev (fun k => laws_toComplex.f k n l) (n, l) := by
  unfold laws_toComplex.f
  exact Ev.bind (f := fun _ t => some (n, t)) (ev_toInt hl) (Ev.now _)
theorem eqInt_loop (l : List Int) (hl : l.length ≤ 1048576) : ∀ d (i : Nat) k, l.length - i = d → d < k → i ≤ l.length → laws_eqInt64S.l0 k l l i = some true := by
  intro d
  induction d with
  | zero =>
    intro i k hd hk hi
    obtain ⟨k, rfl⟩ : ∃ m, k = m + 1 := ⟨k - 1, by omega⟩
    simp only [laws_eqInt64S.l0]
    rw [if_neg (by omega)]
  | succ d ih =>
    intro i k hd hk hi
    obtain ⟨k, rfl⟩ : ∃ m, k = m + 1 := ⟨k - 1, by omega⟩
    simp only [laws_eqInt64S.l0]
    rw [if_pos (by omega), if_pos (by omega), if_pos (by omega), if_pos trivial, w64 (by omega) (by omega)]
    exact ih (i + 1) k (by omega) (by omega) (by omega)
theorem ev_eqInt {l : List Int} (hl : l.length ≤ 1048576) : Ev (fun k => laws_eqInt64S.f k l l) true := by
  refine ⟨l.length + 1, fun k hk => ?_⟩
  dsimp only
  unfold laws_eqInt64S.f
  rw [if_pos rfl]
  exact eqInt_loop l hl l.length 0 k (by omega) (by omega) (by omega)
theorem ev_eqComplex {n : Int} {l : List Int} (hl : l.length ≤ 1048576) : Ev (fun k => laws_eqComplex.f k n l n l) true := by
  unfold laws_eqComplex.f
  simp only [if_true]
  exact Ev.bind (f := fun _ t => if t = true then some true else some false) (ev_eqInt hl) (by simp only [if_true]; exact Ev.now _)
def marks (m : Nat) (a : Int) : List Int := (List.range m).map fun j : Nat => a + (j : Int)
theorem marks_len (m : Nat) (a : Int) : (marks m a).length = m := by simp [marks]
theorem marks_at {m : Nat} {a : Int} {j : Nat} (h : j < m) : (marks m a)[j]? = some (a + (j : Int)) := by simp [marks, h]
theorem mark_loop (n : Nat) (hl : n ≤ 1048576) (a : Int) (ha : 0 ≤ a ∧ a ≤ 1073741824) : ∀ d (i : Nat) (x0 : List Int) k, n - i = d → d < k → i ≤ n → x0.length = n → (∀ j, j < i → x0[j]? = some (a + (j : Int))) → laws_markInt64S.l0 k x0 (a + (i : Int)) i = some (a + (n : Int), marks n a) := by
  intro d
  induction d with
  | zero =>
    intro i x0 k hd hk hi hx hj
    obtain ⟨k, rfl⟩ : ∃ m, k = m + 1 := ⟨k - 1, by omega⟩
    simp only [laws_markInt64S.l0]
    rw [if_neg (by omega), show i = n by omega]
    congr 2
    apply List.ext_getElem?
    intro j
    rcases Nat.lt_or_ge j n with h | h
    · rw [hj j (by omega), marks_at h]
    · rw [List.getElem?_eq_none (by omega), List.getElem?_eq_none (by rw [marks_len]; omega)]
  | succ d ih =>
    intro i x0 k hd hk hi hx hj
    obtain ⟨k, rfl⟩ : ∃ m, k = m + 1 := ⟨k - 1, by omega⟩
    simp only [laws_markInt64S.l0]
    rw [if_pos (by omega), if_pos (by omega), w64 (by omega) (by omega), w64 (by omega) (by omega)]
    have := ih (i + 1) (x0.set (i : Int).toNat (a + i)) k (by omega) (by omega) (by omega) (by simpa using hx) (fun j hji => ?_)
    · rw [show ((i + 1 : Nat) : Int) = (i : Int) + 1 by omega, show a + ((i : Int) + 1) = a + (i : Int) + 1 by omega] at this
      exact this
    · rw [Int.toNat_natCast, List.getElem?_set]
      split
      · rename_i h
        subst h
        rw [if_pos (by omega)]
      · exact hj j (by omega)
theorem ev_mark {l : List Int} (hl : l.length ≤ 1048576) {a : Int} (ha : 0 ≤ a ∧ a ≤ 1073741824) : Ev (fun k => laws_markInt64S.f k l a) (a + (l.length : Int), marks l.length a) := by
  refine ⟨l.length + 1, fun k hk => ?_⟩
  dsimp only
  unfold laws_markInt64S.f
  have := mark_loop l.length hl a ha l.length 0 l k (by omega) (by omega) (by omega) rfl (fun j hj => absurd hj (Nat.not_lt_zero _))
  rw [show a + ((0 : Nat) : Int) = a by omega] at this
  exact this
theorem ev_markComplex {n : Int} {l : List Int} (hl : l.length ≤ 1048576) {a : Int} (ha : 0 ≤ a ∧ a ≤ 1073741824) : Ev (fun k => laws_markComplex.f k n l a) (a + (l.length : Int), marks l.length a) := by
  unfold laws_markComplex.f
  exact Ev.bind (f := fun _ t => some (t.1, t.2)) (ev_mark hl ha) (Ev.now _)
end Go.Proofs.Ytomdfjohnmikdaa.Pu
namespace Go.Proofs.Ytomdfjohnmikdaa.Pu
set_option linter.unusedVariables false
set_option linter.unusedSimpArgs false
open Go.RowKit Go.Proofs.Ytomdfjohnmikdaa.QS Go.Proofs.Ytomdfjohnmikdaa.Im Go.Proofs.YtomdfjohnmikdaaW.PrintWords Go.Proofs.YtomdfjohnmikdaaW.PrintLast Go.Proofs.YtomdfjohnmikdaaW.PrintMore
theorem in_eq (a b c : Int) : spec_l01In.f a b c = some (withinB a b c) := by
  unfold spec_l01In.f withinB
  by_cases h : a ≥ b
  · rw [if_pos h, decide_eq_true (show b ≤ a by omega)]; rfl
  · rw [if_neg h, decide_eq_false (show ¬ b ≤ a by omega)]; rfl
theorem all_eq {n : Int} (h1 : 1 ≤ n) (h6 : n ≤ 6) : spec_l01All.f n = some (fullZ n) := by
  obtain rfl | rfl | rfl | rfl | rfl | rfl : n = 1 ∨ n = 2 ∨ n = 3 ∨ n = 4 ∨ n = 5 ∨ n = 6 := by omega
  all_goals decide +kernel
theorem below_all : ((List.range 64).all fun f => f == 0 || spec_l01Below.f 70 (f : Int) == some (bordersL (f : Int))) = true := by decide +kernel
theorem ev_below {f : Int} (h1 : 1 ≤ f) (h2 : f ≤ 63) : Ev (fun k => spec_l01Below.f k f) (bordersL f) := by
  obtain ⟨m, rfl⟩ := Int.eq_ofNat_of_zero_le (show 0 ≤ f by omega)
  have h := List.all_eq_true.1 below_all m (List.mem_range.2 (by omega))
  have h0 : (m == 0) = false := by simp; omega
  rw [h0, Bool.false_or] at h
  exact Ev.of (fun k => spec_l01Below.mono _ k) (k := 70) (by simpa using h)
theorem has_loop (n x : Int) (l : List Int) (hl : l.length ≤ maxLen) : ∀ d (i : Nat) k, l.length - i = d → d < k → i ≤ l.length → spec_l01Has.l0 k x i n l = some (decide (x ∈ l.drop i)) := by
  simp only [maxLen] at hl
  intro d
  induction d with
  | zero =>
    intro i k hd hk hi
    obtain ⟨k, rfl⟩ : ∃ m, k = m + 1 := ⟨k - 1, by omega⟩
    simp only [spec_l01Has.l0]
    rw [if_neg (by omega), List.drop_eq_nil_of_le (by omega)]
    rfl
  | succ d ih =>
    intro i k hd hk hi
    obtain ⟨k, rfl⟩ : ∃ m, k = m + 1 := ⟨k - 1, by omega⟩
    simp only [spec_l01Has.l0]
    rw [if_pos (by omega), if_pos (by omega), rd_at (show i < l.length by omega), List.drop_eq_getElem_cons (show i < l.length by omega)]
    by_cases hx : l[i] = x
    · rw [if_pos hx, hx]; simp
    · rw [if_neg hx, w64 (by omega) (by omega)]
      have := ih (i + 1) k (by omega) (by omega) (by omega)
      rw [show ((i + 1 : Nat) : Int) = (i : Int) + 1 by omega] at this
      rw [this]
      exact congrArg some (decide_eq_decide.2 ⟨fun h => List.mem_cons.2 (Or.inr h), fun h => (List.mem_cons.1 h).resolve_left (Ne.symm hx)⟩)
theorem ev_has {l : List Int} (hl : l.length ≤ maxLen) (n x : Int) : Ev (fun k => spec_l01Has.f k n l x) (decide (x ∈ l)) := by
  refine ⟨l.length + 1, fun k hk => ?_⟩
  dsimp only
  unfold spec_l01Has.f
  have := has_loop n x l hl l.length 0 k (by omega) (by omega) (by omega)
  rwa [List.drop_zero] at this
theorem is_l2 (n : Int) (l b : List Int) (hl : l.length ≤ maxLen) (hb : b.length ≤ maxLen) (x4 : Int) (R : Bool) (hR : Ev (fun k => spec_l01Is.l1 k (wrap64 (x4 + 1)) n l) R) :
    ∀ d (j : Nat), b.length - j = d → j ≤ b.length → Ev (fun k => spec_l01Is.l2 k x4 b j n l) (((b.drop j).all fun y => decide (y ∈ l)) && R) := by
  simp only [maxLen] at hb
  intro d
  induction d with
  | zero =>
    intro j hd hj
    refine Ev.step (f := fun k => spec_l01Is.l1 k (wrap64 (x4 + 1)) n l) (fun k => ?_) ?_
    · simp only [spec_l01Is.l2]; rw [if_neg (by omega)]
    · rw [List.drop_eq_nil_of_le (by omega)]; exact hR
  | succ d ih =>
    intro j hd hj
    refine Ev.step (f := fun k => (spec_l01Has.f k n l b[j]).bind fun t => if t = true then spec_l01Is.l2 k x4 b ((j + 1 : Nat) : Int) n l else some false) (fun k => ?_) ?_
    · simp only [spec_l01Is.l2]
      rw [if_pos (by omega), if_pos (by omega), rd_at (show j < b.length by omega), w64 (by omega) (by omega), show ((j + 1 : Nat) : Int) = (j : Int) + 1 by omega]
    · refine Ev.bind (ev_has hl n b[j]) ?_
      rw [List.drop_eq_getElem_cons (show j < b.length by omega), List.all_cons]
      by_cases hm : b[j] ∈ l
      · rw [decide_eq_true hm]
        simp only [if_true, Bool.true_and]
        exact ih (j + 1) (by omega) (by omega)
      · rw [decide_eq_false hm]
        simp only [Bool.false_and]
        exact Ev.now _
theorem borders_len6 {f : Int} : (bordersL f).length ≤ 6 := by
  unfold bordersL
  refine Nat.le_trans (bordersOf_len _ _) ?_
  rw [upto_length]
  exact verts_len f
theorem is_l1 (n : Int) (l : List Int) (hl : l.length ≤ maxLen) (hr : ∀ x ∈ l, 1 ≤ x ∧ x ≤ 63) :
    ∀ d (i : Nat), l.length - i = d → i ≤ l.length → Ev (fun k => spec_l01Is.l1 k i n l) ((l.drop i).all fun f => (bordersL f).all fun y => decide (y ∈ l)) := by
  have hl' := hl
  simp only [maxLen] at hl'
  intro d
  induction d with
  | zero =>
    intro i hd hi
    refine Ev.step (f := fun k => some true) (fun k => ?_) ?_
    · simp only [spec_l01Is.l1]; rw [if_neg (by omega)]
    · rw [List.drop_eq_nil_of_le (by omega)]; exact Ev.now _
  | succ d ih =>
    intro i hd hi
    have hi' : i < l.length := by omega
    refine Ev.step (f := fun k => (spec_l01Below.f k l[i]).bind fun t => spec_l01Is.l2 k i t 0 n l) (fun k => ?_) ?_
    · simp only [spec_l01Is.l1]
      rw [if_pos (by omega), if_pos (by omega), rd_at hi']
    · have hx := hr l[i] (List.getElem_mem hi')
      refine Ev.bind (ev_below hx.1 hx.2) ?_
      have h1 := ih (i + 1) (by omega) (by omega)
      rw [show ((i + 1 : Nat) : Int) = wrap64 ((i : Int) + 1) by rw [w64 (by omega) (by omega)]; omega] at h1
      have h2 := is_l2 n l (bordersL l[i]) hl (by have := @borders_len6 l[i]; simp only [maxLen]; omega) i _ h1 _ 0 rfl (Nat.zero_le _)
      rw [List.drop_zero] at h2
      rw [List.drop_eq_getElem_cons hi', List.all_cons]
      exact h2
theorem is_l0 (n : Int) (h1 : 1 ≤ n) (h6 : n ≤ 6) (l : List Int) (hl : l.length ≤ maxLen) :
    ∀ d (i : Nat), l.length - i = d → i ≤ l.length → (∀ j, j < i → okAt n l j = true) → Ev (fun k => spec_l01Is.l0 k i n l) (ascB n l && closedB l) := by
  have hl' := hl
  simp only [maxLen] at hl'
  have hF := fullZ_le h1 h6
  intro d
  induction d with
  | zero =>
    intro i hd hi hj
    refine Ev.step (f := fun k => spec_l01Is.l1 k 0 n l) (fun k => ?_) ?_
    · simp only [spec_l01Is.l0]; rw [if_neg (by omega)]
    · have ha : ∀ j, j < l.length → okAt n l j = true := fun j h => hj j (by omega)
      rw [ascB_yes ha, Bool.true_and]
      have hr : ∀ x ∈ l, 1 ≤ x ∧ x ≤ 63 := by
        intro x hx
        obtain ⟨j, hj', rfl⟩ := List.mem_iff_getElem.1 hx
        have := ha j hj'
        simp only [okAt, withinB, Bool.and_eq_true, decide_eq_true_eq, List.getElem?_eq_getElem hj', Option.getD_some] at this
        omega
      have := is_l1 n l hl hr l.length 0 (by omega) (Nat.zero_le _)
      rw [List.drop_zero] at this
      exact this
  | succ d ih =>
    intro i hd hi hj
    have hi' : i < l.length := by omega
    refine Ev.step (f := fun k => if okAt n l i = true then spec_l01Is.l0 k ((i + 1 : Nat) : Int) n l else some false) (fun k => ?_) ?_
    · simp only [spec_l01Is.l0]
      rw [if_pos (by omega), if_pos (by omega), all_eq h1 h6]
      simp only [Option.bind_some, in_eq, rd_at hi']
      have hg : l[i]?.getD 0 = l[i] := by rw [List.getElem?_eq_getElem hi']; rfl
      unfold okAt
      rw [hg]
      rw [show wrap64 ((i : Int) + 1) = ((i + 1 : Nat) : Int) by rw [w64 (by omega) (by omega)]; omega]
      cases hw : withinB l[i] 1 (fullZ n) with
      | false => simp
      | true =>
        simp only [if_true, Bool.true_and]
        rcases Nat.eq_zero_or_pos i with hz | hz
        · subst hz; simp
        · have hp : l[i - 1]?.getD 0 = l[i - 1] := by rw [List.getElem?_eq_getElem (by omega)]; rfl
          have hb : (i == 0) = false := by simp; omega
          rw [if_pos (by omega), w64 (by omega) (by omega), if_pos (by omega), if_pos (by omega), hp, hb, Bool.false_or, show ((i : Int) - 1) = ((i - 1 : Nat) : Int) by omega, rd_at (show i - 1 < l.length by omega)]
          by_cases hle : l[i] ≤ l[i - 1]
          · rw [if_pos hle, decide_eq_false (by omega)]; simp
          · rw [if_neg hle, decide_eq_true (by omega)]; simp
    · cases ho : okAt n l i with
      | true =>
        simp only [if_true]
        exact ih (i + 1) (by omega) (by omega) (okAt_next hj ho)
      | false =>
        rw [ascB_no hi' ho]
        simp only [Bool.false_and]
        exact Ev.now _
/-- IsComplex, the reference's. -/
theorem ev_is (n : Int) {l : List Int} (hl : l.length ≤ maxLen) : Ev (fun k => spec_l01Is.f k n l) (isC n l) := by
  unfold spec_l01Is.f isC
  simp only [in_eq, Option.bind_some]
  cases hw : withinB n 1 6 with
  | false => simp only [Bool.false_and]; exact Ev.now _
  | true =>
    simp only [if_true, Bool.true_and]
    have hn : 1 ≤ n ∧ n ≤ 6 := by simpa [withinB] using hw
    exact is_l0 n hn.1 hn.2 l hl l.length 0 (by omega) (Nat.zero_le _) (fun j hj => absurd hj (Nat.not_lt_zero _))
end Go.Proofs.Ytomdfjohnmikdaa.Pu
namespace Go.Proofs.Ytomdfjohnmikdaa.Pu
set_option linter.unusedVariables false
set_option linter.unusedSimpArgs false
open Go.RowKit Go.Proofs.Ytomdfjohnmikdaa.Kp Go.Proofs.Ytomdfjohnmikdaa.Ext Go.Proofs.Ytomdfjohnmikdaa.QS Go.Proofs.Ytomdfjohnmikdaa.Im Go.Proofs.YtomdfjohnmikdaaW.PrintWords Go.Proofs.YtomdfjohnmikdaaW.PrintLast Go.Proofs.YtomdfjohnmikdaaW.PrintMore
def FacesP (l : List Pr) : Prop := ∀ q ∈ l, (1 ≤ q.f0 ∧ q.f0 ≤ 63) ∧ 1 ≤ q.f1 ∧ q.f1 ≤ 63
def highZ (l : List Pr) (a : Int) : Int := ((l.find? fun q => q.f0 == a).map (·.f1)).getD 0
def nextZ (l : List Pr) (a : Int) : List Int := if highZ l a = 0 then [] else (bordersL (highZ l a)).filter fun y => !(y == a)
theorem border_all : ((List.range 64).all fun f => f == 0 || (bordersL (f : Int)).all fun y => decide (1 ≤ y) && decide (y ≤ 63)) = true := by decide +kernel
theorem border_range {f y : Int} (h1 : 1 ≤ f) (h2 : f ≤ 63) (hy : y ∈ bordersL f) : 1 ≤ y ∧ y ≤ 63 := by
  obtain ⟨m, rfl⟩ := Int.eq_ofNat_of_zero_le (show 0 ≤ f by omega)
  have h := List.all_eq_true.1 border_all m (List.mem_range.2 (by omega))
  have h0 : (m == 0) = false := by simp; omega
  rw [h0, Bool.false_or] at h
  simpa using List.all_eq_true.1 h y hy
theorem highZ_range {l : List Pr} (h : FacesP l) (a : Int) : highZ l a = 0 ∨ (1 ≤ highZ l a ∧ highZ l a ≤ 63) := by
  unfold highZ
  cases hq : l.find? (fun q => q.f0 == a) with
  | none => exact .inl rfl
  | some q => exact .inr (h q (List.mem_of_find?_eq_some hq)).2
theorem nextZ_range {l : List Pr} (h : FacesP l) {a y : Int} (hy : y ∈ nextZ l a) : 1 ≤ y ∧ y ≤ 63 := by
  unfold nextZ at hy
  rcases highZ_range h a with h0 | ⟨h1, h2⟩
  · rw [if_pos h0] at hy; cases hy
  · rw [if_neg (by omega)] at hy
    exact border_range h1 h2 (List.mem_filter.1 hy).1
theorem nextZ_len {l : List Pr} {a : Int} : (nextZ l a).length ≤ 6 := by
  unfold nextZ
  split
  · simp
  · exact Nat.le_trans (List.length_filter_le _ _) borders_len6
theorem fstP_none {p : Pr → Bool} {xs : List Pr} (h : xs.find? p = none) : firstP p xs = -1 := by
  rw [firstP, if_neg]
  intro ha
  obtain ⟨x, hx, hp⟩ := List.any_eq_true.1 ha
  exact List.find?_eq_none.1 h x hx hp
theorem fstP_some {p : Pr → Bool} {xs : List Pr} {q : Pr} (h : xs.find? p = some q) : ∃ i : Nat, firstP p xs = (i : Int) ∧ i < xs.length ∧ xs.getD i z73 = q := by
  have hq := List.find?_some h
  have hm := List.mem_of_find?_eq_some h
  have ha : xs.any p = true := List.any_eq_true.2 ⟨q, hm, hq⟩
  refine ⟨xs.findIdx p, by rw [firstP, if_pos ha], List.findIdx_lt_length_of_exists ⟨q, hm, hq⟩, ?_⟩
  rw [List.find?_eq_some_iff_getElem] at h
  obtain ⟨_, i, hi, he, hj⟩ := h
  have : xs.findIdx p = i := by
    rw [List.findIdx_eq hi]
    exact ⟨by rw [he]; exact hq, fun j hji => by simpa using hj j hji⟩
  rw [this, List.getD_eq_getElem?_getD, List.getElem?_eq_getElem hi]
  exact he
theorem find_ext {α : Type} {p p' : α → Bool} : ∀ (l : List α), (∀ q ∈ l, p q = p' q) → l.find? p = l.find? p'
  | [], _ => rfl
  | q :: l, h => by
    have h1 := h q (by simp)
    have h2 := find_ext l (fun x hx => h x (by simp [hx]))
    cases hp : p q with
    | true => rw [List.find?_cons_of_pos hp, List.find?_cons_of_pos (by rw [← h1]; exact hp)]
    | false => rw [List.find?_cons_of_neg (by simp [hp]), List.find?_cons_of_neg (by rw [← h1]; simp [hp]), h2]
theorem steps_f {l : List Pr} (hl : l.length ≤ 1048576) (hr : FacesP l) (a : Int) : QA.impl_steps.f l a = some (nextZ l a) := by
  obtain ⟨s1, p1⟩ := ofP_face (f := fun x y => QA.impl_steps_1.f x y a) (p := fun q : Pr => q.f0 == a) (fun x y _ _ _ _ => rfl)
  obtain ⟨s2, _, p2⟩ := ofI_face (f := fun x => QA.impl_steps_2.f x a) (p := fun x => x == a) (fun x _ _ => rfl)
  have hd : okDomP (QA.clo_200 a) l = true := by
    rw [okDomP, Bool.or_eq_true]
    refine .inr (List.all_eq_true.2 fun q hq => ?_)
    have := hr q hq
    simp; omega
  have hi : slices_IndexFunc_impl_Pair_impl_Pair.f l (QA.clo_200 a) = some (firstP (QA.clo_200 a).pP l) := by
    unfold slices_IndexFunc_impl_Pair_impl_Pair.f
    rw [if_pos ⟨by omega, s1, hd⟩]
  have hf : l.find? (QA.clo_200 a).pP = l.find? (fun q => q.f0 == a) := find_ext l (fun q hq => by have := hr q hq; exact p1 q (by omega) (by omega) (by omega) (by omega))
  unfold QA.impl_steps.f
  rw [hi, Option.bind_some]
  cases hq : l.find? (fun q => q.f0 == a) with
  | none =>
    rw [fstP_none (hf.trans hq), if_pos (by omega)]
    unfold nextZ highZ
    rw [hq]
    first | done | rfl
  | some q =>
    obtain ⟨i, e1, e2, e3⟩ := fstP_some (hf.trans hq)
    have hm := hr q (List.mem_of_find?_eq_some hq)
    have hz : highZ l a = q.f1 := by unfold highZ; rw [hq]; rfl
    have hrd : rd_T73 l (i : Int) = q := by rw [← e3]; rfl
    have hb : impl_borders.f q.f1 = some (bordersL q.f1) := by unfold impl_borders.f; rw [if_pos trivial]
    have hdom : okDom (QA.clo_201 a) (bordersL q.f1) = true := by
      rw [okDom, Bool.or_eq_true]
      refine .inr (List.all_eq_true.2 fun y hy => ?_)
      have := border_range hm.2.1 hm.2.2 hy
      simp; omega
    have hdel : slices_DeleteFunc_int64_int64.f (bordersL q.f1) (QA.clo_201 a) = some ((bordersL q.f1).filter fun x => !(QA.clo_201 a).pI x) := by
      unfold slices_DeleteFunc_int64_int64.f
      rw [if_pos ⟨by have := borders_len6 (f := q.f1); omega, s2, hdom⟩]
    rw [e1, if_neg (by omega), if_pos (by omega), if_pos (by omega), hrd, hb, Option.bind_some, hdel, Option.bind_some]
    unfold nextZ
    rw [hz, if_neg (by omega)]
    refine congrArg some (List.filter_congr fun y hy => ?_)
    have := border_range hm.2.1 hm.2.2 hy
    exact congrArg (!·) (p2 y (by omega) (by omega))
inductive Rch (l : List Pr) : Int → Int → Prop
  | one {x y : Int} : y ∈ nextZ l x → Rch l x y
  | more {x y z : Int} : y ∈ nextZ l x → Rch l y z → Rch l x z
theorem Rch.snoc {l : List Pr} {x y z : Int} (h : Rch l x y) (hz : z ∈ nextZ l y) : Rch l x z := by
  induction h with
  | one h => exact .more h (.one hz)
  | more h _ ih => exact .more h (ih hz)
theorem Rch.trans {l : List Pr} {x y z : Int} (h : Rch l x y) (k : Rch l y z) : Rch l x z := by
  induction h with
  | one h => exact .more h k
  | more h _ ih => exact .more h (ih k)
theorem Rch.range {l : List Pr} (hr : FacesP l) {x y : Int} (h : Rch l x y) : 1 ≤ y ∧ y ≤ 63 := by
  induction h with
  | one h => exact nextZ_range hr h
  | more _ _ ih => exact ih
theorem nodup_len : ∀ (n : Nat) (L : List Int), L.Nodup → (∀ x ∈ L, 1 ≤ x ∧ x ≤ (n : Int)) → L.length ≤ n := by
  intro n
  induction n with
  | zero =>
    intro L _ h
    cases L with
    | nil => simp
    | cons x L => have := h x (by simp); omega
  | succ n ih =>
    intro L hn h
    by_cases hm : ((n + 1 : Nat) : Int) ∈ L
    · have h1 := List.length_erase_of_mem hm
      have h2 := ih (L.erase ((n + 1 : Nat) : Int)) (hn.erase _) (fun x hx => by
        have hx' := (List.Nodup.mem_erase_iff hn).1 hx
        have := h x hx'.2
        have := hx'.1
        omega)
      omega
    · have := ih L hn (fun x hx => by
        have h1 := h x hx
        have : x ≠ ((n + 1 : Nat) : Int) := fun e => hm (e ▸ hx)
        omega)
      omega
def OkM (M : List (Int × Bool)) : Prop := (M.map (·.1)).Nodup ∧ ∀ p ∈ M, p.2 = true ∧ 1 ≤ p.1 ∧ p.1 ≤ 63
theorem OkM.len {M : List (Int × Bool)} (h : OkM M) : M.length ≤ 63 := by
  have := nodup_len 63 (M.map (·.1)) h.1 (fun x hx => by
    obtain ⟨p, hp, rfl⟩ := List.mem_map.1 hx
    have := h.2 p hp
    omega)
  simpa using this
theorem getM_false {M : List (Int × Bool)} (h0 : OkM M) {x : Int} (hx : ¬ getM M x = true) : x ∉ M.map (·.1) := by
  have h := h0.2
  clear h0
  induction M with
  | nil => simp
  | cons p M ih =>
    simp only [getM] at hx
    by_cases he : x = p.1
    · rw [if_pos he] at hx
      exact absurd (h p (by simp)).1 hx
    · rw [if_neg he] at hx
      have := ih hx (fun q hq => h q (by simp [hq]))
      simp only [List.map_cons, List.mem_cons]
      exact fun hh => hh.elim he this
theorem putM_new {M : List (Int × Bool)} {x : Int} (h : x ∉ M.map (·.1)) : putM M x true = M ++ [(x, true)] := by
  induction M with
  | nil => rfl
  | cons p M ih =>
    simp only [List.map_cons, List.mem_cons, not_or] at h
    simp only [putM, if_neg h.1, ih h.2, List.cons_append]
theorem okM_put {M : List (Int × Bool)} (h : OkM M) {x : Int} (hx : ¬ getM M x = true) (hr : 1 ≤ x ∧ x ≤ 63) : OkM (putM M x true) := by
  have hn := getM_false h hx
  rw [putM_new hn]
  refine ⟨?_, fun p hp => ?_⟩
  · rw [List.map_append, List.nodup_append]
    refine ⟨h.1, by simp, fun a ha b hb e => ?_⟩
    simp only [List.map_cons, List.map_nil, List.mem_singleton] at hb
    subst hb
    exact hn (e ▸ ha)
  · rcases List.mem_append.1 hp with hp | hp
    · exact h.2 p hp
    · obtain rfl := List.mem_singleton.1 hp
      exact ⟨rfl, hr⟩
theorem fold_spec : ∀ (fs : List Int) (M : List (Int × Bool)) (qs : List Int), OkM M → (∀ y ∈ fs, 1 ≤ y ∧ y ≤ 63) →
    OkM (fs.foldl stepM (M, qs)).1 ∧ (∀ y, getM (fs.foldl stepM (M, qs)).1 y = true ↔ getM M y = true ∨ y ∈ fs) ∧
    ∃ new, (fs.foldl stepM (M, qs)).2 = qs ++ new ∧ (fs.foldl stepM (M, qs)).1.length = M.length + new.length ∧ (∀ y ∈ new, y ∈ fs) ∧ (∀ y ∈ fs, getM M y = true ∨ y ∈ new)
  | [], M, qs, h, _ => ⟨h, fun y => by simp, [], by simp, by simp, by simp, by simp⟩
  | f :: fs, M, qs, h, hr => by
    rw [List.foldl_cons]
    by_cases hg : getM M f = true
    · rw [show stepM (M, qs) f = (M, qs) by unfold stepM; rw [if_pos hg]]
      obtain ⟨a, b, new, c, d, e, g⟩ := fold_spec fs M qs h (fun y hy => hr y (by simp [hy]))
      refine ⟨a, fun y => ?_, new, c, d, fun y hy => by simp [e y hy], fun y hy => ?_⟩
      · rw [b y, List.mem_cons]
        constructor
        · rintro (h1 | h1)
          · exact .inl h1
          · exact .inr (.inr h1)
        · rintro (h1 | rfl | h1)
          · exact .inl h1
          · exact .inl hg
          · exact .inr h1
      · rcases List.mem_cons.1 hy with rfl | hy
        · exact .inl hg
        · exact g y hy
    · rw [show stepM (M, qs) f = (putM M f true, qs ++ [f]) by unfold stepM; rw [if_neg hg]]
      have hk := okM_put h hg (hr f (by simp))
      obtain ⟨a, b, new, c, d, e, g⟩ := fold_spec fs (putM M f true) (qs ++ [f]) hk (fun y hy => hr y (by simp [hy]))
      refine ⟨a, fun y => ?_, f :: new, by rw [c]; simp, by rw [d, putM_new (getM_false h hg)]; simp; omega, fun y hy => ?_, fun y hy => ?_⟩
      · rw [b y, getM_put, List.mem_cons]
        by_cases hy : y = f
        · simp [hy]
        · simp [hy]
      · rcases List.mem_cons.1 hy with rfl | hy
        · simp
        · simp [e y hy]
      · rcases List.mem_cons.1 hy with rfl | hy
        · exact .inr (by simp)
        · rcases g y hy with h1 | h1
          · rw [getM_put] at h1
            by_cases hyf : y = f
            · exact .inr (by simp [hyf])
            · rw [if_neg hyf] at h1
              exact .inl h1
          · exact .inr (by simp [h1])
theorem bfs_spec {l : List Pr} (hl : l.length ≤ 1048576) (hr : FacesP l) (a : Int) : ∀ (d : Nat) (M : List (Int × Bool)) (qs : List Int), OkM M → qs.length + 63 - M.length = d → (∀ y, getM M y = true → Rch l a y) → (∀ x ∈ qs, x = a ∨ getM M x = true) →
    (∀ x, x = a ∨ getM M x = true → x ∈ qs ∨ ∀ y ∈ nextZ l x, getM M y = true) → d ≤ 900 → ∀ k, d < k → ∃ M', bfs l k M qs = some M' ∧ ∀ y, getM M' y = true ↔ Rch l a y := by
  intro d
  induction d with
  | zero =>
    intro M qs hM hd h1 h2 h3 hb k hk
    obtain ⟨k, rfl⟩ : ∃ m, k = m + 1 := ⟨k - 1, by omega⟩
    have := hM.len
    obtain rfl : qs = [] := List.eq_nil_of_length_eq_zero (by omega)
    refine ⟨M, rfl, fun y => ⟨h1 y, fun hy => ?_⟩⟩
    have key : ∀ x z, Rch l x z → (x = a ∨ getM M x = true) → getM M z = true := by
      intro x z hx
      induction hx with
      | one hy => exact fun hx => ((h3 _ hx).resolve_left (by simp)) _ hy
      | more hy _ ih => exact fun hx => ih (.inr (((h3 _ hx).resolve_left (by simp)) _ hy))
    exact key a y hy (.inl rfl)
  | succ d ih =>
    intro M qs hM hd h1 h2 h3 hb k hk
    obtain ⟨k, rfl⟩ : ∃ m, k = m + 1 := ⟨k - 1, by omega⟩
    have hlen := hM.len
    cases qs with
    | nil =>
      refine ⟨M, rfl, fun y => ⟨h1 y, fun hy => ?_⟩⟩
      have key : ∀ x z, Rch l x z → (x = a ∨ getM M x = true) → getM M z = true := by
        intro x z hx
        induction hx with
        | one hy => exact fun hx => ((h3 _ hx).resolve_left (by simp)) _ hy
        | more hy _ ih => exact fun hx => ih (.inr (((h3 _ hx).resolve_left (by simp)) _ hy))
      exact key a y hy (.inl rfl)
    | cons x qs =>
      simp only [List.length_cons] at hd
      have hn := nextZ_len (l := l) (a := x)
      obtain ⟨f1, f2, new, f3, f4, f5, f6⟩ := fold_spec (nextZ l x) M (x :: qs) hM (fun y hy => nextZ_range hr hy)
      simp only [bfs]
      rw [if_pos (by omega), steps_f hl hr, Option.bind_some, if_pos (by omega)]
      have hlen' := f1.len
      refine ih _ _ f1 (by rw [f3, f4]; simp; omega) (fun y hy => ?_) (fun z hz => ?_) (fun z hz => ?_) (by omega) k (by omega)
      · rcases (f2 y).1 hy with h | h
        · exact h1 y h
        · rcases h2 x (by simp) with rfl | hx
          · exact .one h
          · exact (h1 x hx).snoc h
      · rw [f3] at hz
        simp only [List.cons_append, List.drop_succ_cons, List.drop_zero, List.mem_append] at hz
        rcases hz with hz | hz
        · rcases h2 z (by simp [hz]) with h | h
          · exact .inl h
          · exact .inr ((f2 z).2 (.inl h))
        · exact .inr ((f2 z).2 (.inr (f5 z hz)))
      · rw [f3]
        simp only [List.cons_append, List.drop_succ_cons, List.drop_zero, List.mem_append]
        have hold : (z = a ∨ getM M z = true) → (z ∈ qs ∨ z ∈ new) ∨ ∀ y ∈ nextZ l z, getM (List.foldl stepM (M, x :: qs) (nextZ l x)).fst y = true := by
          intro hz
          rcases h3 z hz with h | h
          · rcases List.mem_cons.1 h with rfl | h
            · exact .inr (fun y hy => (f2 y).2 (.inr hy))
            · exact .inl (.inl h)
          · exact .inr (fun y hy => (f2 y).2 (.inl (h y hy)))
        rcases hz with hz | hz
        · exact hold (.inl hz)
        · rcases (f2 z).1 hz with h | h
          · exact hold (.inr h)
          · rcases f6 z h with h' | h'
            · exact hold (.inr h')
            · exact .inl (.inr h')
theorem bfs_ok {l : List Pr} (hl : l.length ≤ 1048576) (hr : FacesP l) (a : Int) : ∃ M, bfs l 1000 [] [a] = some M ∧ ∀ y, getM M y = true ↔ Rch l a y :=
  bfs_spec hl hr a 64 [] [a] ⟨by simp, by simp⟩ (by simp) (fun y hy => by simp [getM] at hy) (fun x hx => .inl (by simpa using hx)) (fun x hx => .inl (by rcases hx with rfl | hx; simp; simp [getM] at hx)) (by simp) 1000 (by omega)
theorem okBfs_of {l : List Pr} (hl : l.length ≤ 1048576) (hr : FacesP l) : okBfs l = true := by
  unfold okBfs
  rw [Bool.and_eq_true]
  refine ⟨decide_eq_true hl, List.all_eq_true.2 fun q _ => ?_⟩
  obtain ⟨M, h, _⟩ := bfs_ok hl hr q.f0
  rw [h]; rfl
theorem loopB_iff {l : List Pr} (hl : l.length ≤ 1048576) (hr : FacesP l) (a : Int) : loopB l a = true ↔ Rch l a a := by
  obtain ⟨M, h, h2⟩ := bfs_ok hl hr a
  unfold loopB
  rw [h]
  exact h2 a
end Go.Proofs.Ytomdfjohnmikdaa.Pu
namespace Go.Proofs.Ytomdfjohnmikdaa.Pu
set_option linter.unusedVariables false
set_option linter.unusedSimpArgs false
open Go.RowKit Go.Proofs.Ytomdfjohnmikdaa.Kp Go.Proofs.Ytomdfjohnmikdaa.Ext Go.Proofs.Ytomdfjohnmikdaa.QS Go.Proofs.Ytomdfjohnmikdaa.Im Go.Proofs.YtomdfjohnmikdaaW.PrintWords Go.Proofs.YtomdfjohnmikdaaW.PrintLast Go.Proofs.YtomdfjohnmikdaaW.PrintMore
theorem succ64 {i : Nat} (h : i ≤ 4611686018427387904) : wrap64 ((i : Int) + 1) = ((i + 1 : Nat) : Int) := by rw [w64 (by omega) (by omega)]; omega
theorem rdP_at {l : List Pr} {i : Nat} (h : i < l.length) : rd_T73 l (i : Int) = l[i] := by unfold rd_T73; rw [List.getD_eq_getElem?_getD, Int.toNat_natCast, List.getElem?_eq_getElem h]; rfl
theorem high_loop (l : List Pr) (a : Int) (hl : l.length ≤ 1048576) : ∀ d (i : Nat), l.length - i = d → i ≤ l.length → Ev (fun k => spec_l02High.l0 k l a i) (highZ (l.drop i) a) := by
  intro d
  induction d with
  | zero =>
    intro i hd hi
    rw [List.drop_eq_nil_of_le (by omega)]
    refine Ev.step (f := fun k => some 0) (fun k => ?_) (Ev.now _)
    simp only [spec_l02High.l0]; rw [if_neg (by omega)]
  | succ d ih =>
    intro i hd hi
    have hi' : i < l.length := by omega
    rw [List.drop_eq_getElem_cons hi']
    by_cases h : l[i].f0 = a
    · refine Ev.step (f := fun k => some l[i].f1) (fun k => ?_) (by unfold highZ; rw [List.find?_cons_of_pos (by simp [h])]; exact Ev.now _)
      simp only [spec_l02High.l0]; rw [if_pos (by omega), if_pos (by omega), rdP_at hi', if_pos h]
    · refine Ev.step (fun k => ?_) (by have := ih (i + 1) (by omega) (by omega); unfold highZ at this ⊢; rw [List.find?_cons_of_neg (by simp [h])]; exact this)
      simp only [spec_l02High.l0]; rw [if_pos (by omega), if_pos (by omega), rdP_at hi', if_neg h, succ64 (by omega)]
theorem ev_high {l : List Pr} (hl : l.length ≤ 1048576) (a : Int) : Ev (fun k => spec_l02High.f k l a) (highZ l a) := by
  unfold spec_l02High.f
  exact high_loop l a hl _ 0 rfl (Nat.zero_le _)
theorem next_loop (a : Int) (b : List Int) (hb : b.length ≤ 1000) : ∀ d (i : Nat) (acc : List Int), b.length - i = d → i ≤ b.length → acc.length ≤ i → Ev (fun k => spec_l02Next.l0 k a acc b i) (acc ++ (b.drop i).filter fun y => !(y == a)) := by
  intro d
  induction d with
  | zero =>
    intro i acc hd hi ha
    rw [List.drop_eq_nil_of_le (by omega)]
    refine Ev.step (f := fun k => some acc) (fun k => ?_) (by simpa using Ev.now acc)
    simp only [spec_l02Next.l0]; rw [if_neg (by omega)]
  | succ d ih =>
    intro i acc hd hi ha
    have hi' : i < b.length := by omega
    rw [List.drop_eq_getElem_cons hi', List.filter_cons]
    by_cases h : b[i] = a
    · refine Ev.step (f := fun k => spec_l02Next.l0 k a acc b ((i + 1 : Nat) : Int)) (fun k => ?_) (by have := ih (i + 1) acc (by omega) (by omega) (by omega); rw [h]; simpa using this)
      simp only [spec_l02Next.l0]; rw [if_pos (by omega), if_pos (by omega), rd_at hi', if_pos h, succ64 (by omega)]
    · refine Ev.step (f := fun k => spec_l02Next.l0 k a (acc ++ [b[i]]) b ((i + 1 : Nat) : Int)) (fun k => ?_) (by have := ih (i + 1) (acc ++ [b[i]]) (by omega) (by omega) (by simp; omega); simpa [h] using this)
      simp only [spec_l02Next.l0]; rw [if_pos (by omega), if_pos (by omega), rd_at hi', if_neg h, if_pos (by omega), succ64 (by omega)]
theorem ev_next {l : List Pr} (hl : l.length ≤ 1048576) (hr : FacesP l) (a : Int) : Ev (fun k => spec_l02Next.f k l a) (nextZ l a) := by
  unfold spec_l02Next.f nextZ
  refine Ev.bind (ev_high hl a) ?_
  simp only [Option.bind_some]
  by_cases h : highZ l a = 0
  · simp only [if_pos h]; exact Ev.now _
  · simp only [if_neg h]
    have hz := (highZ_range hr a).resolve_left h
    refine Ev.bind (ev_below hz.1 hz.2) ?_
    have := next_loop a (bordersL (highZ l a)) (by have := borders_len6 (f := highZ l a); omega) _ 0 [] rfl (Nat.zero_le _) (by simp)
    simpa using this
/-- The reference's stack. -/
theorem reached_loop {l : List Pr} (hl : l.length ≤ 1048576) (hr : FacesP l) (a : Int) : ∀ (d : Nat) (B : List Bool) (st : List Int), B.length = 64 → st.length + 7 * B.count false = d → d ≤ 1000 → (∀ x ∈ st, 1 ≤ x ∧ x ≤ 63) →
    (∀ y : Nat, B[y]?.getD false = true → Rch l a y) → (∀ x ∈ st, Rch l a x) → (∀ x : Nat, B[x]?.getD false = true → ∀ y ∈ nextZ l x, B[y.toNat]?.getD false = true ∨ y ∈ st) → (∀ y ∈ nextZ l a, B[y.toNat]?.getD false = true ∨ y ∈ st) →
    ∃ B' : List Bool, Ev (fun k => spec_l02Reached.l0 k l B st) B' ∧ B'.length = 64 ∧ ∀ y : Int, 1 ≤ y → y ≤ 63 → (B'[y.toNat]?.getD false = true ↔ Rch l a y) := by
  intro d
  induction d using Nat.strongRecOn with
  | _ d ih =>
    intro B st hB hd hdb hst h1 h2 h3 h4
    rcases List.eq_nil_or_concat st with rfl | ⟨rest, x, rfl⟩
    · refine ⟨B, Ev.step (f := fun k => some B) (fun k => ?_) (Ev.now _), hB, fun y hy1 hy2 => ⟨fun h => by have := h1 y.toNat h; rwa [Int.toNat_of_nonneg (by omega)] at this, fun hy => ?_⟩⟩
      · simp only [spec_l02Reached.l0]; rw [if_neg (by simp)]
      · have key : ∀ x z, Rch l x z → (∀ y ∈ nextZ l x, B[y.toNat]?.getD false = true) → B[z.toNat]?.getD false = true := by
          intro x z hx
          induction hx with
          | one hy => exact fun hx => hx _ hy
          | more hy hyz ih =>
            intro hx
            have hm := hx _ hy
            refine ih (fun u hu => ?_)
            have hyr := nextZ_range hr hy
            have := h3 _ hm u (by rw [Int.toNat_of_nonneg (by omega)]; exact hu)
            exact this.resolve_right (by simp)
        exact key a y hy (fun u hu => (h4 u hu).resolve_right (by simp))
    · rw [List.concat_eq_append] at *
      have hx := hst x (by simp)
      have hlen : (rest ++ [x]).length = rest.length + 1 := by simp
      have hw : wrap64 (((rest ++ [x]).length : Int) - 1) = (rest.length : Int) := by rw [w64 (by omega) (by omega)]; omega
      have htk : (rest ++ [x]).take ((rest.length : Int)).toNat = rest := by simp
      have hrd : rd (rest ++ [x]) (rest.length : Int) = x := by rw [rd_at (by simp)]; simp
      obtain ⟨m, rfl⟩ := Int.eq_ofNat_of_zero_le (show 0 ≤ x by omega)
      have hrb : rdOf false B (m : Int) = B[m]?.getD false := by simp [rdOf, List.getD_eq_getElem?_getD]
      have hmB : m < B.length := by omega
      by_cases hm : B[m]?.getD false = true
      · obtain ⟨B', e1, e2, e3⟩ := ih (d - 1) (by omega) B rest hB (by omega) (by omega) (fun y hy => hst y (by simp [hy])) h1 (fun y hy => h2 y (by simp [hy]))
          (fun y hy z hz => by
            rcases h3 y hy z hz with h | h
            · exact .inl h
            · rcases List.mem_append.1 h with h | h
              · exact .inr h
              · obtain rfl := List.mem_singleton.1 h
                exact .inl (by simpa using hm))
          (fun z hz => by
            rcases h4 z hz with h | h
            · exact .inl h
            · rcases List.mem_append.1 h with h | h
              · exact .inr h
              · obtain rfl := List.mem_singleton.1 h
                exact .inl (by simpa using hm))
        refine ⟨B', Ev.step (fun k => ?_) e1, e2, e3⟩
        simp only [spec_l02Reached.l0]
        rw [if_pos (by omega), hw, if_pos (by omega), if_pos (by omega), if_pos (by omega), htk, Option.bind_some, hrd, if_pos (by omega), if_pos (by omega), hrb, if_pos hm]
      · have hmf : B[m]?.getD false = false := by simpa using hm
        have hm2 : B[m] = false := by rw [List.getElem?_eq_getElem hmB] at hmf; simpa using hmf
        have hcnt : (B.set m true).count false + 1 = B.count false := by
          rw [List.count_set hmB]
          have : 0 < B.count false := List.count_pos_iff.2 (by rw [← hm2]; exact List.getElem_mem hmB)
          simp [hm2]
          omega
        have hn := nextZ_len (l := l) (a := (m : Int))
        have hset : ∀ y : Nat, ((B.set m true)[y]?.getD false = true) ↔ (y = m ∨ B[y]?.getD false = true) := by
          intro y
          rw [List.getElem?_set]
          by_cases hy : m = y
          · subst hy; simp [hmB]
          · rw [if_neg hy]
            constructor
            · exact fun h => .inr h
            · rintro (h | h)
              · exact absurd h.symm hy
              · exact h
        have hnew : ∀ y ∈ nextZ l (m : Int), y ∈ rest ++ nextZ l (m : Int) := fun y hy => by simp [hy]
        obtain ⟨B', e1, e2, e3⟩ := ih (rest.length + (nextZ l (m : Int)).length + 7 * (B.set m true).count false) (by simp at hd; omega) (B.set m true) (rest ++ nextZ l (m : Int)) (by simpa using hB) (by simp) (by simp at hd; omega)
          (fun y hy => by
            rcases List.mem_append.1 hy with h | h
            · exact hst y (by simp [h])
            · exact nextZ_range hr h)
          (fun y hy => by
            rcases (hset y).1 hy with rfl | h
            · exact h2 _ (by simp)
            · exact h1 y h)
          (fun y hy => by
            rcases List.mem_append.1 hy with h | h
            · exact h2 y (by simp [h])
            · exact (h2 (m : Int) (by simp)).snoc h)
          (fun y hy z hz => by
            rcases (hset y).1 hy with rfl | h
            · exact .inr (by simp [hz])
            · rcases h3 y h z hz with h | h
              · exact .inl ((hset _).2 (.inr h))
              · rcases List.mem_append.1 h with h | h
                · exact .inr (by simp [h])
                · obtain rfl := List.mem_singleton.1 h
                  exact .inl ((hset _).2 (.inl (by simp))))
          (fun z hz => by
            rcases h4 z hz with h | h
            · exact .inl ((hset _).2 (.inr h))
            · rcases List.mem_append.1 h with h | h
              · exact .inr (by simp [h])
              · obtain rfl := List.mem_singleton.1 h
                exact .inl ((hset _).2 (.inl (by simp))))
        refine ⟨B', Ev.step (f := fun k => (spec_l02Next.f k l (m : Int)).bind fun t => if rest.length + t.length < 17592186044416 then spec_l02Reached.l0 k l (B.set m true) (rest ++ t) else none) (fun k => ?_) (Ev.bind (ev_next hl hr _) ?_), e2, e3⟩
        · simp only [spec_l02Reached.l0]
          rw [if_pos (by omega), hw, if_pos (by omega), if_pos (by omega), if_pos (by omega), htk, Option.bind_some, hrd, if_pos (by omega), if_pos (by omega), hrb, if_neg hm]
          rfl
        · simp only [if_pos (show rest.length + (nextZ l (m : Int)).length < 17592186044416 by simp at hd; omega)]
          exact e1
theorem ev_reached {l : List Pr} (hl : l.length ≤ 1048576) (hr : FacesP l) (a : Int) : ∃ B : List Bool, Ev (fun k => spec_l02Reached.f k l a) B ∧ B.length = 64 ∧ ∀ y : Int, 1 ≤ y → y ≤ 63 → (B[y.toNat]?.getD false = true ↔ Rch l a y) := by
  have hn := nextZ_len (l := l) (a := a)
  have hf : ∀ y : Nat, ((List.replicate 64 false)[y]?.getD false = true) → False := fun y h => by
    rw [List.getElem?_replicate] at h
    split at h <;> simp at h
  obtain ⟨B, e1, e2, e3⟩ := reached_loop hl hr a _ (List.replicate 64 false) (nextZ l a) (by simp) rfl (by simp [List.count_replicate]; omega) (fun x hx => nextZ_range hr hx) (fun y hy => (hf y hy).elim) (fun x hx => .one hx) (fun y hy => (hf y hy).elim) (fun y hy => .inr hy)
  refine ⟨B, ?_, e2, e3⟩
  unfold spec_l02Reached.f
  simp only [show (64 : Nat) ≤ 281474976710656 from by decide, if_true]
  exact Ev.bind (ev_next hl hr a) e1
theorem acyc_loop {l : List Pr} (hl : l.length ≤ 1048576) (hr : FacesP l) : ∀ d (i : Nat), l.length - i = d → i ≤ l.length → Ev (fun k => spec_l02Acyclic.l0 k l i) ((l.drop i).all fun q => !loopB l q.f0) := by
  intro d
  induction d with
  | zero =>
    intro i hd hi
    rw [List.drop_eq_nil_of_le (by omega)]
    refine Ev.step (f := fun k => some true) (fun k => ?_) (Ev.now _)
    simp only [spec_l02Acyclic.l0]; rw [if_neg (by omega)]
  | succ d ih =>
    intro i hd hi
    have hi' : i < l.length := by omega
    have hq := hr _ (List.getElem_mem hi')
    obtain ⟨B, e1, e2, e3⟩ := ev_reached hl hr l[i].f0
    have e4 := e3 l[i].f0 (by omega) (by omega)
    rw [← loopB_iff hl hr] at e4
    rw [List.drop_eq_getElem_cons hi', List.all_cons]
    have hrb : rdOf false B l[i].f0 = loopB l l[i].f0 := by
      rw [show rdOf false B l[i].f0 = B[l[i].f0.toNat]?.getD false from by simp [rdOf, List.getD_eq_getElem?_getD], Bool.eq_iff_iff]
      exact e4
    refine Ev.step (f := fun k => (spec_l02Reached.f k l l[i].f0).bind fun t => if 0 ≤ l[i].f0 then if l[i].f0 < (t.length : Int) then if rdOf false t l[i].f0 = true then some false else spec_l02Acyclic.l0 k l ((i + 1 : Nat) : Int) else none else none) (fun k => ?_) (Ev.bind e1 ?_)
    · simp only [spec_l02Acyclic.l0]; rw [if_pos (by omega), if_pos (by omega), rdP_at hi', succ64 (by omega)]
    · simp only [if_pos (show 0 ≤ l[i].f0 by omega), if_pos (show l[i].f0 < (B.length : Int) by omega), hrb]
      cases loopB l l[i].f0 with
      | true => simp only [if_true]; exact Ev.now _
      | false => simp only [Bool.false_eq_true, if_false, Bool.not_false, Bool.true_and]; exact ih (i + 1) (by omega) (by omega)
theorem ev_acyclic {l : List Pr} (hl : l.length ≤ 1048576) (hr : FacesP l) : Ev (fun k => spec_l02Acyclic.f k l) (acycB l) := by
  unfold spec_l02Acyclic.f acycB
  exact acyc_loop hl hr _ 0 rfl (Nat.zero_le _)
end Go.Proofs.Ytomdfjohnmikdaa.Pu
namespace Go.Proofs.Ytomdfjohnmikdaa.QS
open Go.Proofs.Ytomdfjohnmikdaa.Cw Go.Proofs.Ytomdfjohnmikdaa.Kp Go.Proofs.Ytomdfjohnmikdaa.Ext Go.RowKit Go.Proofs.YtomdfjohnmikdaaW.PrintWords Go.Proofs.YtomdfjohnmikdaaW.PrintLast Go.Proofs.YtomdfjohnmikdaaW.PrintMore
attribute [local go_sem] max2_int min2_int max_two min_two max_three min_three max_four min_four   -- for this text's walks alone
set_option linter.unusedVariables false
set_option linter.unusedSimpArgs false
end Go.Proofs.Ytomdfjohnmikdaa.QS
namespace Go.Proofs.Ytomdfjohnmikdaa.Pu
set_option linter.unusedVariables false
set_option linter.unusedSimpArgs false
open Go.RowKit Go.Proofs.Ytomdfjohnmikdaa.QS Go.Proofs.Ytomdfjohnmikdaa.Im Go.Proofs.YtomdfjohnmikdaaW.PrintWords Go.Proofs.YtomdfjohnmikdaaW.PrintLast Go.Proofs.YtomdfjohnmikdaaW.PrintMore
theorem ones_all : ((List.range 64).all fun f => spec_l01Ones.f 8 (f : Int) == some (onesZ (f : Int))) = true := by decide +kernel
theorem ev_ones {x : Int} (h0 : 0 ≤ x) (h6 : x ≤ 63) : Ev (fun k => spec_l01Ones.f k x) (onesZ x) := by
  obtain ⟨m, rfl⟩ := Int.eq_ofNat_of_zero_le h0
  exact Ev.of (fun k => spec_l01Ones.mono _ k) (eq_of_beq (List.all_eq_true.1 ones_all m (List.mem_range.2 (by omega))))
theorem ones_le (x : Int) : 0 ≤ onesZ x ∧ onesZ x ≤ 6 := by
  have : (verts x).length ≤ 6 := verts_len x
  unfold onesZ; omega
def overP (f x : Int) : Bool := Go.bits .and .i64 x f == f && onesZ x == onesZ f + 1
theorem above_loop (n f : Int) (hf : 0 ≤ f ∧ f ≤ 63) (l : List Int) (hl : l.length ≤ 64) (hr : ∀ x ∈ l, 1 ≤ x ∧ x ≤ 63) : ∀ d (i : Nat) (acc : List Int), l.length - i = d → i ≤ l.length → acc.length ≤ i →
    Ev (fun k => spec_l01Above.l0 k f acc i n l) (acc ++ (l.drop i).filter (overP f)) := by
  intro d
  induction d with
  | zero =>
    intro i acc hd hi ha
    rw [List.drop_eq_nil_of_le (by omega), List.filter_nil, List.append_nil]
    refine Ev.step (f := fun k => some acc) (fun k => ?_) (Ev.now _)
    simp only [spec_l01Above.l0]; rw [if_neg (by omega)]
  | succ d ih =>
    intro i acc hd hi ha
    have hi' : i < l.length := by omega
    have hx := hr _ (List.getElem_mem hi')
    have hw : wrap64 ((i : Int) + 1) = ((i + 1 : Nat) : Int) := by rw [w64 (by omega) (by omega)]; omega
    rw [List.drop_eq_getElem_cons hi']
    by_cases hc : Go.bits .and .i64 l[i] f = f
    · refine Ev.step (f := fun k => (spec_l01Ones.f k l[i]).bind fun t262 => ((spec_l01Ones.f k f).bind fun t263 => (if t262 = (wrap64 (t263 + 1)) then (spec_l01Above.l0 k f (acc ++ [l[i]]) ((i + 1 : Nat) : Int) n l) else (spec_l01Above.l0 k f acc ((i + 1 : Nat) : Int) n l)))) (fun k => ?_) ?_
      · simp only [spec_l01Above.l0]
        rw [if_pos (by omega), if_pos (by omega), rd_at hi', if_pos hc, hw]
        simp only [if_pos (show acc.length < 17592186044416 by omega)]
      · refine Ev.bind (ev_ones (by omega) (by omega)) ?_
        refine Ev.bind (ev_ones hf.1 hf.2) ?_
        have h1 := ones_le f
        rw [w64 (by omega) (by omega)]
        by_cases ho : onesZ l[i] = onesZ f + 1
        · simp only [if_pos ho]
          rw [List.filter_cons_of_pos (by simp [overP, hc, ho])]
          have := ih (i + 1) (acc ++ [l[i]]) (by omega) (by omega) (by rw [List.length_append]; simp; omega)
          rw [List.append_assoc] at this
          exact this
        · simp only [if_neg ho]
          rw [List.filter_cons_of_neg (by simp [overP, ho])]
          exact ih (i + 1) acc (by omega) (by omega) (by omega)
    · refine Ev.step (f := fun k => spec_l01Above.l0 k f acc ((i + 1 : Nat) : Int) n l) (fun k => ?_) ?_
      · simp only [spec_l01Above.l0]
        rw [if_pos (by omega), if_pos (by omega), rd_at hi', if_neg hc, hw]
      · rw [List.filter_cons_of_neg (by simp [overP, hc])]
        exact ih (i + 1) acc (by omega) (by omega) (by omega)
theorem ev_above (n f : Int) (hf : 0 ≤ f ∧ f ≤ 63) {l : List Int} (hl : l.length ≤ 64) (hr : ∀ x ∈ l, 1 ≤ x ∧ x ≤ 63) : Ev (fun k => spec_l01Above.f k n l f) (l.filter (overP f)) := by
  have := above_loop n f hf l hl hr _ 0 [] rfl (Nat.zero_le _) (by simp)
  rw [List.drop_zero, List.nil_append] at this
  exact this
end Go.Proofs.Ytomdfjohnmikdaa.Pu
namespace Go.Proofs.Ytomdfjohnmikdaa.QS
open Go.Proofs.Ytomdfjohnmikdaa.Cw Go.Proofs.Ytomdfjohnmikdaa.Kp Go.Proofs.Ytomdfjohnmikdaa.Ext Go.RowKit Go.Proofs.YtomdfjohnmikdaaW.PrintWords Go.Proofs.YtomdfjohnmikdaaW.PrintLast Go.Proofs.YtomdfjohnmikdaaW.PrintMore
attribute [local go_sem] max2_int min2_int max_two min_two max_three min_three max_four min_four   -- for this text's walks alone
set_option linter.unusedVariables false
set_option linter.unusedSimpArgs false
end Go.Proofs.Ytomdfjohnmikdaa.QS
namespace Go.Proofs.Ytomdfjohnmikdaa.Pu
set_option linter.unusedVariables false
set_option linter.unusedSimpArgs false
open Go.RowKit Go.Proofs.Ytomdfjohnmikdaa.Kp Go.Proofs.Ytomdfjohnmikdaa.Ext Go.Proofs.Ytomdfjohnmikdaa.QS Go.Proofs.Ytomdfjohnmikdaa.Im Go.Proofs.YtomdfjohnmikdaaW.PrintWords Go.Proofs.YtomdfjohnmikdaaW.PrintLast Go.Proofs.YtomdfjohnmikdaaW.PrintMore
theorem inAnd_all : ((List.range 64).all fun f => (List.range 64).all fun g => (Go.bits .andNot .i64 (f : Int) (g : Int) == 0) == decide (Go.bits .and .i64 (f : Int) (g : Int) = (f : Int))) = true := by decide +kernel
theorem inAnd {f g : Int} (h0 : 0 ≤ f) (h1 : f ≤ 63) (g0 : 0 ≤ g) (g1 : g ≤ 63) : (Go.bits .andNot .i64 f g == 0) = decide (Go.bits .and .i64 f g = f) := by
  obtain ⟨m, rfl⟩ := Int.eq_ofNat_of_zero_le h0
  obtain ⟨k, rfl⟩ := Int.eq_ofNat_of_zero_le g0
  exact eq_of_beq (List.all_eq_true.1 (List.all_eq_true.1 inAnd_all m (List.mem_range.2 (by omega))) k (List.mem_range.2 (by omega)))
theorem ev_pair {n : Int} {xs : List Int} (hi : isC n xs = true) (p : Pr) : Ev (fun k => spec_l02Pair.f k n xs p.f0 p.f1) (pairB xs p) := by
  have hs := isC_small hi
  have r := isC_63 hi
  have hm : xs.length ≤ maxLen := by unfold maxLen; omega
  unfold spec_l02Pair.f pairB
  refine Ev.bind (ev_has hm n p.f0) ?_
  by_cases h0 : p.f0 ∈ xs
  · simp only [h0, decide_true, if_true, Bool.true_and]
    refine Ev.bind (ev_has hm n p.f1) ?_
    by_cases h1 : p.f1 ∈ xs
    · have a0 := r _ h0
      have a1 := r _ h1
      simp only [h1, decide_true, if_true, Bool.true_and]
      rw [inAnd (by omega) (by omega) (by omega) (by omega)]
      by_cases h2 : Go.bits .and .i64 p.f0 p.f1 = p.f0
      · simp only [h2, if_true, decide_true, Bool.true_and]
        refine Ev.bind (ev_ones (by omega) (by omega)) ?_
        refine Ev.bind (ev_ones (by omega) (by omega)) ?_
        have hv := verts_len p.f0
        rw [w64 (x := onesZ p.f0 + 1) (by unfold onesZ; omega) (by unfold onesZ; omega)]
        exact Ev.now _
      · simp only [h2, if_false, decide_false, Bool.false_and]
        exact Ev.now _
    · simp only [h1, decide_false, Bool.false_eq_true, if_false, Bool.false_and]
      exact Ev.now _
  · simp only [h0, decide_false, Bool.false_eq_true, if_false, Bool.false_and]
    exact Ev.now _
theorem less_f (p q : Pr) : spec_l02Less.f p.f0 p.f1 q.f0 q.f1 = some (decide (cmpP p q < 0)) := by
  unfold spec_l02Less.f cmpP cmpI
  by_cases h1 : p.f0 < q.f0
  · rw [if_pos h1]; simp [h1]
  · rw [if_neg h1]
    by_cases h2 : p.f0 = q.f0
    · rw [if_pos h2]
      by_cases h3 : p.f1 < q.f1
      · simp [h2, h3]
      · by_cases h4 : p.f1 > q.f1
        · simp [h2, h3, h4]
        · simp [h2, h3, h4]
    · rw [if_neg h2]
      have : p.f0 > q.f0 := by omega
      simp [h1, this]
theorem is2_l1 (n : Int) (xs : List Int) (l : List Pr) (hl : l.length ≤ 1048576) {i : Nat} (hi : i < l.length) (R : Bool) (hR : Ev (fun k => spec_l02Is.l0 k l ((i + 1 : Nat) : Int) n xs) R) :
    ∀ d (j : Nat), i - j = d → j ≤ i → Ev (fun k => spec_l02Is.l1 k l i j n xs) (!(((l.take i).drop j).any fun q => hasF l[i].f0 q || hasF l[i].f1 q) && R) := by
  intro d
  induction d with
  | zero =>
    intro j hd hj
    rw [List.drop_eq_nil_of_le (by rw [List.length_take]; omega)]
    refine Ev.step (f := fun k => spec_l02Is.l0 k l ((i + 1 : Nat) : Int) n xs) (fun k => ?_) (by simpa using hR)
    simp only [spec_l02Is.l1]; rw [if_neg (by omega), succ64 (by omega)]
  | succ d ih =>
    intro j hd hj
    have hj' : j < l.length := by omega
    have hjt : j < (l.take i).length := by rw [List.length_take]; omega
    rw [List.drop_eq_getElem_cons hjt, List.any_cons, List.getElem_take]
    cases hq : (hasF l[i].f0 l[j] || hasF l[i].f1 l[j]) with
    | true =>
      refine Ev.step (f := fun k => some false) (fun k => ?_) (by simpa using Ev.now false)
      simp only [spec_l02Is.l1]
      rw [if_pos (by omega), if_pos (by omega), if_pos (by omega), if_pos (by omega), if_pos (by omega), rdP_at hi, rdP_at hj']
      simp only [hasF, Bool.or_eq_true, beq_iff_eq] at hq
      by_cases h1 : l[i].f0 = l[j].f0
      · rw [if_pos h1]
      · rw [if_neg h1]
        by_cases h2 : l[i].f0 = l[j].f1
        · rw [if_pos h2]
        · rw [if_neg h2]
          by_cases h3 : l[i].f1 = l[j].f0
          · rw [if_pos h3]
          · rw [if_neg h3, if_pos (by simpa [h1, h2, h3] using hq)]
    | false =>
      refine Ev.step (f := fun k => spec_l02Is.l1 k l i ((j + 1 : Nat) : Int) n xs) (fun k => ?_) (by have := ih (j + 1) (by omega) (by omega); simpa using this)
      simp only [spec_l02Is.l1]
      rw [if_pos (by omega), if_pos (by omega), if_pos (by omega), if_pos (by omega), if_pos (by omega), rdP_at hi, rdP_at hj', succ64 (by omega)]
      simp only [hasF, Bool.or_eq_false_iff, beq_eq_false_iff_ne] at hq
      rw [if_neg hq.1.1, if_neg hq.1.2, if_neg hq.2.1, if_neg hq.2.2]
theorem any_or {α : Type} (p q : α → Bool) (l : List α) : (l.any fun x => p x || q x) = (l.any p || l.any q) := by
  induction l with
  | nil => rfl
  | cons a l ih => simp only [List.any_cons, ih]; cases p a <;> cases q a <;> cases l.any p <;> rfl
theorem is2_loop {n : Int} {xs : List Int} (hi : isC n xs = true) {l : List Pr} (hl : l.length ≤ 1048576) : ∀ d (i : Nat), l.length - i = d → i ≤ l.length → Ev (fun k => spec_l02Is.l0 k l i n xs) ((List.range' i d).all (okPairAt xs l)) := by
  intro d
  induction d with
  | zero =>
    intro i hd hi'
    refine Ev.step (f := fun k => some true) (fun k => ?_) (Ev.now _)
    simp only [spec_l02Is.l0]; rw [if_neg (by omega)]
  | succ d ih =>
    intro i hd hi'
    have hlt : i < l.length := by omega
    have hR := ih (i + 1) (by omega) (by omega)
    have hgd : l.getD i z73 = l[i] := by rw [List.getD_eq_getElem?_getD, List.getElem?_eq_getElem hlt]; rfl
    rw [List.range'_succ, List.all_cons]
    have hj0 := is2_l1 n xs l hl hlt _ hR _ 0 rfl (Nat.zero_le _)
    rw [List.drop_zero, any_or] at hj0
    have hno : Ev (fun k => spec_l02Is.j1 k l i true n xs) false := Ev.step (f := fun k => some false) (fun k => by simp only [spec_l02Is.j1, if_true]) (Ev.now _)
    have hyes : Ev (fun k => spec_l02Is.j1 k l i false n xs) (!((l.take i).any (hasF l[i].f0) || (l.take i).any (hasF l[i].f1)) && (List.range' (i + 1) d).all (okPairAt xs l)) := Ev.step (f := fun k => spec_l02Is.l1 k l i ((0 : Nat) : Int) n xs) (fun k => by simp only [spec_l02Is.j1, Bool.false_eq_true, if_false]; rfl) hj0
    have hrd : rd_T73 l (i : Int) = l[i] := rdP_at hlt
    refine Ev.step (f := fun k => (spec_l02Pair.f k n xs l[i].f0 l[i].f1).bind fun t => (if t = true then (if (i : Int) > 0 then (if 0 ≤ (wrap64 ((i : Int) - 1)) then (if (wrap64 ((i : Int) - 1)) < (l.length : Int) then ((spec_l02Less.f ((rd_T73 l (wrap64 ((i : Int) - 1))).f0) ((rd_T73 l (wrap64 ((i : Int) - 1))).f1) l[i].f0 l[i].f1).bind fun t577 => (spec_l02Is.j1 k l i (!t577) n xs)) else (none)) else (none)) else (spec_l02Is.j1 k l i false n xs)) else (spec_l02Is.j1 k l i true n xs))) (fun k => ?_) (Ev.bind (ev_pair hi l[i]) ?_)
    · simp only [spec_l02Is.l0]
      rw [if_pos (by omega), if_pos (by omega), hrd]
    · clear hj0 hR ih
      generalize (List.range' (i + 1) d).all (okPairAt xs l) = G at hyes ⊢
      unfold okPairAt
      rw [hgd]
      cases hp : pairB xs l[i] with
      | false => simp only [Bool.false_eq_true, if_false, Bool.false_and]; exact hno
      | true =>
        simp only [if_true, Bool.true_and]
        rcases i with _ | m
        · simp only [show ¬ (((0 : Nat) : Int) > 0) by omega, if_false]
          simpa using hyes
        · have hm : m < l.length := by omega
          have hw : wrap64 (((m + 1 : Nat) : Int) - 1) = (m : Int) := by rw [w64 (by omega) (by omega)]; omega
          have hgm : l.getD m z73 = l[m] := by rw [List.getD_eq_getElem?_getD, List.getElem?_eq_getElem hm]; rfl
          simp only [show (((m + 1 : Nat) : Int) > 0) by omega, if_true, hw, show (0 : Int) ≤ (m : Int) by omega, show (m : Int) < (l.length : Int) by omega, rdP_at hm, less_f, Option.bind_some, Nat.add_sub_cancel, hgm]
          by_cases hc : cmpP l[m] l[m + 1] < 0
          · simp only [hc, decide_true, Bool.not_true]
            simpa [Bool.and_assoc] using hyes
          · simp only [hc, decide_false, Bool.not_false]
            simpa using hno
theorem ev_is2 {n : Int} {xs : List Int} (hi : isC n xs = true) {l : List Pr} (hl : l.length ≤ 1048576) : Ev (fun k => spec_l02Is.f k n xs l) (pairingB xs l) := by
  unfold spec_l02Is.f pairingB
  rw [List.range_eq_range']
  exact is2_loop hi hl _ 0 rfl (Nat.zero_le _)
theorem cmpP_mem {n : Int} {xs : List Int} {l : List Pr} (h : pairingB xs l = true) : ∀ q ∈ l, q.f0 ∈ xs ∧ q.f1 ∈ xs := by
  intro q hq
  obtain ⟨i, hi, rfl⟩ := List.mem_iff_getElem.1 hq
  have h1 := List.all_eq_true.1 h i (List.mem_range.2 hi)
  unfold okPairAt at h1
  rw [show l.getD i z73 = l[i] by rw [List.getD_eq_getElem?_getD, List.getElem?_eq_getElem hi]; rfl] at h1
  have h2 := (Bool.and_eq_true _ _ ▸ h1).1
  unfold pairB at h2
  simp only [Bool.and_eq_true, decide_eq_true_eq] at h2
  exact ⟨h2.1, h2.2.1⟩
theorem facesP_of {n : Int} {xs : List Int} (hi : isC n xs = true) {l : List Pr} (h : pairingB xs l = true) : FacesP l := fun q hq => by
  have h1 := cmpP_mem (n := n) h q hq
  have r := isC_63 hi
  exact ⟨r _ h1.1, r _ h1.2⟩
def pcode (n : Int) (xs : List Int) (l : List Pr) : Int := if isC n xs then (if pairingB xs l then 0 else 2) else 1
theorem ev_pcode (n : Int) {xs : List Int} (hx : xs.length ≤ 1048576) {l : List Pr} (hl : l.length ≤ 1048576) : Ev (fun k => spec_l02Code.f k n xs l []) (pcode n xs l) := by
  unfold spec_l02Code.f pcode
  refine Ev.bind (ev_is n (by unfold maxLen; omega)) ?_
  cases hi : isC n xs with
  | false => exact Ev.now _
  | true =>
    simp only [if_true]
    refine Ev.bind (ev_is2 hi hl) ?_
    cases pairingB xs l with
    | false => exact Ev.now _
    | true =>
      simp only [if_true]
      exact Ev.step (f := fun _ => some 0) (fun k => by simp [spec_l02Code.l0]) (Ev.now _)
theorem pcode_zero {n : Int} {xs : List Int} {l : List Pr} (h : pcode n xs l = 0) : isC n xs = true ∧ pairingB xs l = true := by
  unfold pcode at h
  cases h1 : isC n xs <;> cases h2 : pairingB xs l <;> simp [h1, h2] at h ⊢
end Go.Proofs.Ytomdfjohnmikdaa.Pu
namespace Go.Proofs.Ytomdfjohnmikdaa.Pu
set_option linter.unusedVariables false
set_option linter.unusedSimpArgs false
open Go.RowKit Go.Proofs.Ytomdfjohnmikdaa.Kp Go.Proofs.Ytomdfjohnmikdaa.Ext Go.Proofs.Ytomdfjohnmikdaa.QS Go.Proofs.Ytomdfjohnmikdaa.Im Go.Proofs.YtomdfjohnmikdaaW.PrintWords Go.Proofs.YtomdfjohnmikdaaW.PrintLast Go.Proofs.YtomdfjohnmikdaaW.PrintMore
theorem cmp_lt (p q : Pr) : cmpP p q < 0 ↔ p.f0 < q.f0 ∨ (p.f0 = q.f0 ∧ p.f1 < q.f1) := by
  unfold cmpP cmpI
  by_cases h1 : p.f0 < q.f0
  · simp [h1]
  · by_cases h2 : p.f0 > q.f0
    · simp [h1, h2]; omega
    · have h3 : p.f0 = q.f0 := by omega
      by_cases h4 : p.f1 < q.f1
      · simp [h3, h4]
      · by_cases h5 : p.f1 > q.f1
        · simp [h3, h4, h5]
        · simp [h3, h4, h5]
theorem cmp_trans {p q r : Pr} (h1 : cmpP p q < 0) (h2 : cmpP q r < 0) : cmpP p r < 0 := by
  rw [cmp_lt] at *
  omega
theorem cmp_irr (p : Pr) : ¬ cmpP p p < 0 := by rw [cmp_lt]; omega
theorem cmp_asym {p q : Pr} (h1 : cmpP p q < 0) : ¬ cmpP q p < 0 := by rw [cmp_lt] at *; omega
theorem cmp_eq {p q : Pr} (h1 : ¬ cmpP p q < 0) (h2 : ¬ cmpP q p < 0) : p = q := by
  obtain ⟨a, b⟩ := p
  obtain ⟨c, d⟩ := q
  rw [cmp_lt] at *
  simp only at h1 h2
  simp; omega
abbrev SortedP (l : List Pr) : Prop := l.Pairwise (fun p q => cmpP p q < 0)
theorem getP {l : List Pr} {i : Nat} (hi : i < l.length) : l.getD i z73 = l[i] := by rw [List.getD_eq_getElem?_getD, List.getElem?_eq_getElem hi]; rfl
theorem pairing_at {xs : List Int} {l : List Pr} (h : pairingB xs l = true) {i : Nat} (hi : i < l.length) : pairB xs l[i] = true ∧ (∀ q ∈ l.take i, hasF l[i].f0 q = false ∧ hasF l[i].f1 q = false) ∧ (∀ (h0 : 0 < i), cmpP (l[i - 1]'(by omega)) l[i] < 0) := by
  have h1 := List.all_eq_true.1 h i (List.mem_range.2 hi)
  unfold okPairAt at h1
  rw [getP hi] at h1
  simp only [Bool.and_eq_true, Bool.not_eq_true', List.any_eq_false, Bool.or_eq_true, beq_iff_eq, decide_eq_true_eq] at h1
  refine ⟨h1.1, fun q hq => ⟨by simpa using h1.2.1 q hq, by simpa using h1.2.2.1 q hq⟩, fun h0 => ?_⟩
  have h2 := h1.2.2.2.resolve_left (by omega)
  rwa [getP (show i - 1 < l.length by omega)] at h2
theorem sorted_of {xs : List Int} {l : List Pr} (h : pairingB xs l = true) : SortedP l := by
  refine List.pairwise_iff_getElem.2 fun i j hi hj hij => ?_
  induction j with
  | zero => omega
  | succ j ih =>
    have h1 := (pairing_at h hj).2.2 (by omega)
    simp only [Nat.add_sub_cancel] at h1
    rcases Nat.lt_or_ge i j with h2 | h2
    · exact cmp_trans (ih (by omega) h2) h1
    · obtain rfl : i = j := by omega
      exact h1
theorem pairing_len {n : Int} {xs : List Int} (hi : isC n xs = true) {l : List Pr} (h : pairingB xs l = true) : l.length ≤ 63 := by
  have h1 := nodup_len 63 (l.map (·.f0)) (by
    unfold List.Nodup
    rw [List.pairwise_map]
    refine List.pairwise_iff_getElem.2 fun i j hi hj hij => ?_
    have h2 := ((pairing_at h hj).2.1 l[i] (by rw [List.mem_take_iff_getElem]; exact ⟨i, by omega, rfl⟩)).1
    intro e
    unfold hasF at h2
    rw [e] at h2
    simp at h2) (fun x hx => by
    obtain ⟨q, hq, rfl⟩ := List.mem_map.1 hx
    have := facesP_of hi h q hq
    omega)
  simpa using h1
theorem place_cut {p : Pr} : ∀ {l : List Pr}, SortedP l → ∀ j (hj : j < l.length), cmpP l[j] p < 0 ↔ j < placeP l p
  | [], _, j, hj => by simp at hj
  | q :: l, hs, j, hj => by
    obtain ⟨h1, h2⟩ := List.pairwise_cons.1 hs
    by_cases hq : cmpP q p < 0
    · have hp : placeP (q :: l) p = placeP l p + 1 := by unfold placeP; rw [List.takeWhile_cons_of_pos (by simpa using hq), List.length_cons]
      rw [hp]
      rcases j with _ | j
      · simpa using hq
      · have := place_cut (p := p) h2 j (by simpa using hj)
        rw [List.getElem_cons_succ, this]; omega
    · have hp : placeP (q :: l) p = 0 := by unfold placeP; rw [List.takeWhile_cons_of_neg (by simpa using hq)]; rfl
      rw [hp]
      refine ⟨fun h => ?_, fun h => absurd h (Nat.not_lt_zero _)⟩
      rcases j with _ | j
      · exact absurd h hq
      · exact absurd (cmp_trans (h1 _ (List.getElem_mem _)) h) hq
theorem cut_of {l : List Pr} (hs : SortedP l) (p : Pr) : cutB l p = true := by
  refine List.all_eq_true.2 fun j hj => ?_
  have hj' := List.mem_range.1 hj
  rw [getP hj', beq_iff_eq, decide_eq_decide]
  exact place_cut hs j hj'
theorem back_is {l : List Pr} {p : Pr} {b : Nat} : ∀ m, b ≤ m → m ≤ l.length → (∀ j (hj : j < l.length), b ≤ j → j < m → cmpP p l[j] < 0) → (∀ (h0 : 0 < b) (hl : b - 1 < l.length), ¬ cmpP p l[b - 1] < 0) → backP l p m = b
  | 0, hb, _, _, _ => by unfold backP; omega
  | m + 1, hb, hm, h1, h2 => by
    unfold backP
    rw [getP (show m < l.length by omega)]
    rcases Nat.lt_or_ge m b with h3 | h3
    · obtain rfl : b = m + 1 := by omega
      have := h2 (by omega) (by omega)
      simp only [Nat.add_sub_cancel] at this
      rw [if_neg this]
    · rw [if_pos (h1 m (by omega) h3 (by omega))]
      exact back_is m h3 (by omega) (fun j hj a b => h1 j hj a (by omega)) h2
theorem put_with {l : List Pr} (hs : SortedP l) (p : Pr) : putP l p = withP l p := by
  have hle := placeP_le l p
  by_cases hp : ∃ h : placeP l p < l.length, l[placeP l p] = p
  · obtain ⟨h, hp⟩ := hp
    have hb : backP l p l.length = placeP l p + 1 := back_is _ (by omega) (Nat.le_refl _) (fun j hj h1 _ => by
        have := List.pairwise_iff_getElem.1 hs (placeP l p) j h hj (by omega)
        rwa [hp] at this) (fun _ hl => by
        simp only [Nat.add_sub_cancel]
        rw [hp]; exact cmp_irr p)
    unfold putP withP
    rw [hb, List.take_succ_eq_append_getElem h, hp, List.append_assoc]
    congr 1
    rw [List.drop_eq_getElem_cons h, hp]
    rfl
  · have hb : backP l p l.length = placeP l p := back_is _ hle (Nat.le_refl _) (fun j hj h1 _ => by
        have h2 : ¬ cmpP l[j] p < 0 := fun h => by have := (place_cut hs j hj).1 h; omega
        refine Classical.byContradiction fun h3 => ?_
        have h4 := cmp_eq h3 h2
        rcases Nat.lt_or_ge (placeP l p) j with h5 | h5
        · have h6 := List.pairwise_iff_getElem.1 hs (placeP l p) j (by omega) hj h5
          rw [← h4] at h6
          have := (place_cut hs (placeP l p) (by omega)).1 h6
          omega
        · have h6 : j = placeP l p := by omega
          subst h6
          exact hp ⟨hj, h4.symm⟩) (fun h0 hl => by
        have := (place_cut (p := p) hs (placeP l p - 1) hl).2 (by omega)
        exact cmp_asym this)
    unfold putP withP
    rw [hb]
theorem with_end {l : List Pr} {p : Pr} (h : ∀ q ∈ l, cmpP q p < 0) : withP l p = l ++ [p] := by
  have hp : placeP l p = l.length := by
    unfold placeP
    refine congrArg List.length ?_
    induction l with
    | nil => rfl
    | cons a l ih => rw [List.takeWhile_cons_of_pos (by simpa using h a (by simp)), ih (fun q hq => h q (by simp [hq]))]
  unfold withP
  rw [hp, List.take_length, List.drop_length]
theorem ok_with {n : Int} {xs : List Int} (hi : isC n xs = true) {l : List Pr} (h : pairingB xs l = true) (p : Pr) : okWith n xs l p = true := by
  have hl := pairing_len hi h
  unfold okWith
  rw [hi, decide_eq_true (show l.length ≤ 1000000 by omega), cut_of (sorted_of h) p]
  cases hw : pairingB xs (withP l p) with
  | false => rfl
  | true => simp only [Bool.true_and, Bool.not_true, Bool.false_or]; exact okBfs_of (by rw [withP_len]; omega) (facesP_of hi hw)
theorem ev_with {n : Int} {xs : List Int} (hi : isC n xs = true) {l : List Pr} (hs : SortedP l) (hl : l.length ≤ 1000000) (p : Pr) : Ev (fun k => spec_l02With.f k n xs l p.f0 p.f1) (withP l p, pairingB xs (withP l p)) := by
  unfold spec_l02With.f
  simp only [if_pos hl]
  rw [show (⟨p.f0, p.f1⟩ : Pr) = p from rfl, put_with hs p]
  exact Ev.bind (ev_is2 hi (by rw [withP_len]; omega)) (Ev.now _)
theorem pair_over_all : ((List.range 64).all fun f => (List.range 64).all fun g => ((Go.bits .andNot .i64 (f : Int) (g : Int) == 0) && (onesZ (g : Int) == onesZ (f : Int) + 1)) == overP (f : Int) (g : Int)) = true := by decide +kernel
theorem pair_over {n : Int} {xs : List Int} (hi : isC n xs = true) {f g : Int} (hf : f ∈ xs) (hg : g ∈ xs) : pairB xs ⟨f, g⟩ = overP f g := by
  have r := isC_63 hi
  obtain ⟨a, rfl⟩ := Int.eq_ofNat_of_zero_le (show 0 ≤ f by have := r f hf; omega)
  obtain ⟨b, rfl⟩ := Int.eq_ofNat_of_zero_le (show 0 ≤ g by have := r g hg; omega)
  have h := List.all_eq_true.1 (List.all_eq_true.1 pair_over_all a (List.mem_range.2 (by have := r _ hf; omega))) b (List.mem_range.2 (by have := r _ hg; omega))
  unfold pairB
  simp only [hf, hg, decide_true, Bool.true_and]
  exact eq_of_beq h
def rowP (xs : List Int) (f : Int) : List Pr := (xs.filter (overP f)).map fun g => ⟨f, g⟩
def pairsL (xs : List Int) : List Pr := xs.flatMap (rowP xs)
theorem rowP_len (xs : List Int) (f : Int) : (rowP xs f).length ≤ xs.length := by
  unfold rowP
  rw [List.length_map]
  exact List.length_filter_le _ _
theorem flat_len {xs : List Int} : ∀ (l : List Int), (l.flatMap (rowP xs)).length ≤ l.length * xs.length
  | [] => by simp
  | a :: l => by
    have h1 := rowP_len xs a
    have h2 := flat_len (xs := xs) l
    rw [List.flatMap_cons, List.length_append, List.length_cons, Nat.succ_mul]
    omega
theorem pairs_sorted {n : Int} {xs : List Int} (hi : isC n xs = true) : SortedP (pairsL xs) := by
  have ha := ascB_asc (isC_of hi).2.1
  refine List.pairwise_flatMap.2 ⟨fun f hf => ?_, ?_⟩
  · unfold rowP
    rw [List.pairwise_map]
    refine List.Pairwise.filter _ (List.Pairwise.imp ?_ ha)
    intro a b hab
    rw [cmp_lt]
    exact .inr ⟨rfl, hab⟩
  · refine List.Pairwise.imp ?_ ha
    intro a b hab x hx y hy
    unfold rowP at hx hy
    obtain ⟨g, _, rfl⟩ := List.mem_map.1 hx
    obtain ⟨g', _, rfl⟩ := List.mem_map.1 hy
    rw [cmp_lt]
    exact .inl hab
/-- The reference's list of all pairs, the inner loop. -/
theorem all_l1 {n : Int} {xs : List Int} (hi : isC n xs = true) {i : Nat} (hil : i < xs.length) (R : List Pr)
    (hR : Ev (fun k => spec_l02All.l0 k ((xs.take (i + 1)).flatMap (rowP xs)) ((i + 1 : Nat) : Int) n xs) R) :
    ∀ d (j : Nat), (xs.filter (overP xs[i])).length - j = d → j ≤ (xs.filter (overP xs[i])).length →
      Ev (fun k => spec_l02All.l1 k ((xs.take i).flatMap (rowP xs) ++ ((xs.filter (overP xs[i])).take j).map fun g => (⟨xs[i], g⟩ : Pr)) i (xs.filter (overP xs[i])) j n xs) R := by
  have hx := isC_small hi
  have hfl : (xs.filter (overP xs[i])).length ≤ xs.length := List.length_filter_le _ _
  intro d
  induction d with
  | zero =>
    intro j hd hj
    refine Ev.step (fun k => ?_) hR
    simp only [spec_l02All.l1]
    rw [if_neg (by omega), succ64 (by omega), List.take_of_length_le (by omega : (xs.filter (overP xs[i])).length ≤ j), List.take_succ_eq_append_getElem hil, List.flatMap_append, List.flatMap_singleton]
    rfl
  | succ d ih =>
    intro j hd hj
    have hj' : j < (xs.filter (overP xs[i])).length := by omega
    have hlt : ∀ q ∈ (xs.take i).flatMap (rowP xs) ++ ((xs.filter (overP xs[i])).take j).map (fun g => (⟨xs[i], g⟩ : Pr)), cmpP q ⟨xs[i], (xs.filter (overP xs[i]))[j]⟩ < 0 := by
      have ha := ascB_asc (isC_of hi).2.1
      intro q hq
      rw [cmp_lt]
      rcases List.mem_append.1 hq with hq | hq
      · obtain ⟨f, hf, hq⟩ := List.mem_flatMap.1 hq
        obtain ⟨g, hg, rfl⟩ := List.mem_map.1 (show q ∈ (xs.filter (overP f)).map _ from hq)
        obtain ⟨m, hm, rfl⟩ := List.mem_take_iff_getElem.1 hf
        exact .inl (List.pairwise_iff_getElem.1 ha m i (by omega) hil (by omega))
      · obtain ⟨g, hg, rfl⟩ := List.mem_map.1 hq
        obtain ⟨m, hm, rfl⟩ := List.mem_take_iff_getElem.1 hg
        exact .inr ⟨rfl, List.pairwise_iff_getElem.1 (ha.filter _) m j (by omega) hj' (by omega)⟩
    have hsort : SortedP ((xs.take i).flatMap (rowP xs) ++ ((xs.filter (overP xs[i])).take j).map (fun g => (⟨xs[i], g⟩ : Pr))) := by
      refine (pairs_sorted hi).sublist ?_
      have hcut : pairsL xs = (xs.take i).flatMap (rowP xs) ++ (rowP xs xs[i] ++ (xs.drop (i + 1)).flatMap (rowP xs)) := by
        have h := List.take_append_drop i xs
        rw [List.drop_eq_getElem_cons hil] at h
        refine (congrArg (fun z => z.flatMap (rowP xs)) h.symm).trans ?_
        simp only [List.flatMap_append, List.flatMap_cons]
      rw [hcut]
      refine List.Sublist.append (List.Sublist.refl _) ?_
      refine List.Sublist.trans ?_ (List.sublist_append_left _ _)
      unfold rowP
      exact (List.take_sublist _ _).map _
    have hlen : ((xs.take i).flatMap (rowP xs) ++ ((xs.filter (overP xs[i])).take j).map (fun g => (⟨xs[i], g⟩ : Pr))).length ≤ 1000000 := by
      have h1 := flat_len (xs := xs) (xs.take i)
      have h2 : (xs.take i).length * xs.length ≤ 63 * 63 := Nat.mul_le_mul (by rw [List.length_take]; omega) hx
      rw [List.length_append, List.length_map, List.length_take]
      omega
    have hw := ev_with hi hsort hlen ⟨xs[i], (xs.filter (overP xs[i]))[j]⟩
    rw [with_end hlt] at hw
    refine Ev.step (f := fun k => (spec_l02With.f k n xs ((xs.take i).flatMap (rowP xs) ++ ((xs.filter (overP xs[i])).take j).map (fun g => (⟨xs[i], g⟩ : Pr))) xs[i] (xs.filter (overP xs[i]))[j]).bind fun bt => spec_l02All.l1 k bt.1 i (xs.filter (overP xs[i])) ((j + 1 : Nat) : Int) n xs) (fun k => ?_) (Ev.bind hw ?_)
    · simp only [spec_l02All.l1]
      rw [if_pos (by omega), if_pos (by omega), if_pos (by omega), if_pos (by omega), rd_at hil, rd_at hj', succ64 (by omega)]
    · have := ih (j + 1) (by omega) (by omega)
      rw [List.take_succ_eq_append_getElem hj', List.map_append, ← List.append_assoc] at this
      exact this
theorem all_l0 {n : Int} {xs : List Int} (hi : isC n xs = true) : ∀ d (i : Nat), xs.length - i = d → i ≤ xs.length → Ev (fun k => spec_l02All.l0 k ((xs.take i).flatMap (rowP xs)) (i : Int) n xs) (pairsL xs) := by
  have hx := isC_small hi
  intro d
  induction d with
  | zero =>
    intro i hd hil
    refine Ev.step (f := fun k => some (pairsL xs)) (fun k => ?_) (Ev.now _)
    simp only [spec_l02All.l0]
    rw [if_neg (by omega), List.take_of_length_le (by omega)]
    rfl
  | succ d ih =>
    intro i hd hil
    have hil' : i < xs.length := by omega
    refine Ev.step (f := fun k => (spec_l01Above.f k n xs xs[i]).bind fun t => spec_l02All.l1 k ((xs.take i).flatMap (rowP xs)) i t 0 n xs) (fun k => ?_) (Ev.bind (ev_above n xs[i] (by have := isC_63 hi xs[i] (List.getElem_mem hil'); omega) (by omega) (isC_63 hi)) ?_)
    · simp only [spec_l02All.l0]
      rw [if_pos (by omega), if_pos (by omega), rd_at hil']
    · have := all_l1 hi hil' (pairsL xs) (ih (i + 1) (by omega) (by omega)) _ 0 rfl (Nat.zero_le _)
      simpa using this
theorem ev_all {n : Int} {xs : List Int} (hi : isC n xs = true) : Ev (fun k => spec_l02All.f k n xs) (pairsL xs) := by
  unfold spec_l02All.f
  have := all_l0 hi _ 0 rfl (Nat.zero_le _)
  simpa using this
def okP (xs : List Int) (l : List Pr) (p : Pr) : Bool := pairingB xs (withP l p) && acycB (withP l p)
def stepP (xs : List Int) (l : List Pr) (p : Pr) : List Pr := if okP xs l p then withP l p else l
def fillP (xs : List Int) (l : List Pr) (ps : List Pr) : List Pr := ps.foldl (stepP xs) l
theorem step_pairing {xs : List Int} {l : List Pr} (h : pairingB xs l = true) (p : Pr) : pairingB xs (stepP xs l p) = true := by
  unfold stepP
  split
  · rename_i h1
    unfold okP at h1
    exact (Bool.and_eq_true _ _ ▸ h1).1
  · exact h
theorem fill_pairing {xs : List Int} : ∀ (ps : List Pr) {l : List Pr}, pairingB xs l = true → pairingB xs (fillP xs l ps) = true
  | [], _, h => h
  | p :: ps, l, h => fill_pairing ps (step_pairing h p)
theorem fill_loop {n : Int} {xs : List Int} (hi : isC n xs = true) {ps : List Pr} (hp : ps.length ≤ 1048576) : ∀ d (i : Nat) (l : List Pr), ps.length - i = d → i ≤ ps.length → pairingB xs l = true → Ev (fun k => spec_l02Fill.l0 k l ps (i : Int) n xs) (fillP xs l (ps.drop i)) := by
  intro d
  induction d with
  | zero =>
    intro i l hd hil hl
    rw [List.drop_eq_nil_of_le (by omega)]
    refine Ev.step (f := fun k => some l) (fun k => ?_) (Ev.now _)
    simp only [spec_l02Fill.l0]
    rw [if_neg (by omega)]
  | succ d ih =>
    intro i l hd hil hl
    have hil' : i < ps.length := by omega
    have hlen := pairing_len hi hl
    rw [List.drop_eq_getElem_cons hil']
    refine Ev.step (f := fun k => (spec_l02With.f k n xs l ps[i].f0 ps[i].f1).bind fun bt => (if bt.2 = true then ((spec_l02Acyclic.f k bt.1).bind fun t => (if t = true then (spec_l02Fill.l0 k bt.1 ps ((i + 1 : Nat) : Int) n xs) else (spec_l02Fill.l0 k l ps ((i + 1 : Nat) : Int) n xs))) else (spec_l02Fill.l0 k l ps ((i + 1 : Nat) : Int) n xs))) (fun k => ?_) (Ev.bind (ev_with hi (sorted_of hl) (by omega) ps[i]) ?_)
    · simp only [spec_l02Fill.l0]
      rw [if_pos (by omega), if_pos (by omega), rdP_at hil', succ64 (by omega)]
    · rw [show fillP xs l (ps[i] :: ps.drop (i + 1)) = fillP xs (stepP xs l ps[i]) (ps.drop (i + 1)) from rfl]
      cases hw : pairingB xs (withP l ps[i]) with
      | false =>
        have hs : stepP xs l ps[i] = l := by unfold stepP okP; rw [hw]; rfl
        rw [hs]
        simp only [Bool.false_eq_true, if_false]
        exact ih (i + 1) l (by omega) (by omega) hl
      | true =>
        simp only [if_true]
        refine Ev.bind (ev_acyclic (by rw [withP_len]; omega) (facesP_of hi hw)) ?_
        cases ha : acycB (withP l ps[i]) with
        | false =>
          have hs : stepP xs l ps[i] = l := by unfold stepP okP; rw [hw, ha]; rfl
          rw [hs]
          simp only [Bool.false_eq_true, if_false]
          exact ih (i + 1) l (by omega) (by omega) hl
        | true =>
          have hs : stepP xs l ps[i] = withP l ps[i] := by unfold stepP okP; rw [hw, ha]; rfl
          rw [hs]
          simp only [if_true]
          exact ih (i + 1) _ (by omega) (by omega) hw
theorem pairs_len {n : Int} {xs : List Int} (hi : isC n xs = true) : (pairsL xs).length ≤ 4000 := by
  have hx := isC_small hi
  have h1 := flat_len (xs := xs) xs
  have h2 : xs.length * xs.length ≤ 63 * 63 := Nat.mul_le_mul hx hx
  unfold pairsL
  omega
theorem ev_fill {n : Int} {xs : List Int} (hi : isC n xs = true) {l : List Pr} (h : pairingB xs l = true) : Ev (fun k => spec_l02Fill.f k n xs l) (fillP xs l (pairsL xs)) := by
  unfold spec_l02Fill.f
  have hp := pairs_len hi
  refine Ev.bind (ev_all hi) ?_
  have := fill_loop hi (ps := pairsL xs) (by omega) _ 0 l rfl (Nat.zero_le _) h
  simpa using this
/-- The reference's code of an acyclic pairing. -/
def acode (n : Int) (xs : List Int) (l : List Pr) : Int := if pcode n xs l = 0 then (if acycB l then 0 else 5) else pcode n xs l
theorem ev_code8 (n : Int) {xs : List Int} (hx : xs.length ≤ 1048576) {l : List Pr} (hl : l.length ≤ 1048576) : Ev (fun k => spec_l08Code.f k n xs l) (acode n xs l) := by
  unfold spec_l08Code.f acode
  refine Ev.bind (ev_pcode n hx hl) ?_
  by_cases h0 : pcode n xs l = 0
  · simp only [h0, if_true]
    obtain ⟨hi, hp⟩ := pcode_zero h0
    refine Ev.bind (ev_acyclic hl (facesP_of hi hp)) ?_
    cases acycB l <;> exact Ev.now _
  · simp only [if_neg h0]
    exact Ev.now _
end Go.Proofs.Ytomdfjohnmikdaa.Pu
namespace Go.Proofs.Ytomdfjohnmikdaa.Pu
set_option linter.unusedVariables false
set_option linter.unusedSimpArgs false
open Go.RowKit Go.Proofs.Ytomdfjohnmikdaa.Kp Go.Proofs.Ytomdfjohnmikdaa.Ext Go.Proofs.Ytomdfjohnmikdaa.QS Go.Proofs.Ytomdfjohnmikdaa.Im Go.Proofs.YtomdfjohnmikdaaW.PrintWords Go.Proofs.YtomdfjohnmikdaaW.PrintLast Go.Proofs.YtomdfjohnmikdaaW.PrintMore
theorem pcodeC_f (n : Int) {xs : List Int} (hx : xs.length ≤ 1048576) {l : List Pr} (hl : l.length ≤ 1048576) (b : Bool) : QC.impl_pairingCode.f n xs l b = some (if isC n xs then (if b && pairingB xs l then 0 else 2) else 1) := by
  unfold QC.impl_pairingCode.f impl_complexCode.f
  cases hi : isC n xs with
  | false =>
    rw [if_pos ⟨by omega, fun h => by cases h⟩]; rfl
  | true =>
    have hp : QC.impl_pairingCode_1.f b n xs l = some (b && pairingB xs l) := by
      unfold QC.impl_pairingCode_1.f impl_Complex_isPairing.f
      have hc : isC n xs = true ∧ l.length ≤ 1099511627776 := ⟨hi, by omega⟩
      cases b with
      | false => simp
      | true => simp [hc]
    unfold QC.clo_163
    rw [hp, if_pos ⟨by omega, fun _ => rfl⟩]
    cases b <;> cases pairingB xs l <;> rfl
theorem acodeC_f (n : Int) {xs : List Int} (hx : xs.length ≤ 1048576) {l : List Pr} (hl : l.length ≤ 1048576) : QC.impl_acyclicCode.f n xs l true = some (acode n xs l) := by
  unfold QC.impl_acyclicCode.f acode pcode
  rw [pcodeC_f n hx hl true, Option.bind_some]
  cases hi : isC n xs with
  | false => rfl
  | true =>
    cases hp : pairingB xs l with
    | false => rfl
    | true =>
      have ho := okBfs_of hl (facesP_of hi hp)
      unfold impl_Complex_isAcyclic.f
      rw [if_pos ho]
      cases acycB l <;> rfl
theorem pairsC_l1 {n : Int} {xs : List Int} (hi : isC n xs = true) {i : Nat} (hil : i < xs.length) (R : List Pr)
    (hR : Ev (fun k => QC.impl_Complex_pairs.l0 k ((xs.take (i + 1)).flatMap (rowP xs)) xs (xs.length : Int) ((i + 1 : Nat) : Int) n xs) R) :
    ∀ d (j : Nat), xs.length - j = d → j ≤ xs.length →
      Ev (fun k => QC.impl_Complex_pairs.l1 k ((xs.take i).flatMap (rowP xs) ++ ((xs.take j).filter (overP xs[i])).map fun g => (⟨xs[i], g⟩ : Pr)) xs[i] xs (xs.length : Int) (i : Int) xs (xs.length : Int) (j : Int) n xs) R := by
  have hx := isC_small hi
  intro d
  induction d with
  | zero =>
    intro j hd hj
    refine Ev.step (fun k => ?_) hR
    simp only [QC.impl_Complex_pairs.l1]
    rw [if_neg (by omega), succ64 (by omega), List.take_of_length_le (by omega : xs.length ≤ j), List.take_succ_eq_append_getElem hil, List.flatMap_append, List.flatMap_singleton]
    rfl
  | succ d ih =>
    intro j hd hj
    have hj' : j < xs.length := by omega
    have hlen : ((xs.take i).flatMap (rowP xs) ++ ((xs.take j).filter (overP xs[i])).map (fun g => (⟨xs[i], g⟩ : Pr))).length < 8796093022208 := by
      have h1 := flat_len (xs := xs) (xs.take i)
      have h2 : (xs.take i).length * xs.length ≤ 63 * 63 := Nat.mul_le_mul (by rw [List.length_take]; omega) hx
      have h3 : ((xs.take j).filter (overP xs[i])).length ≤ (xs.take j).length := List.length_filter_le _ _
      rw [List.length_take] at h3
      rw [List.length_append, List.length_map]
      omega
    have hpr : impl_Complex_isPair.f n xs xs[i] xs[j] = some (overP xs[i] xs[j]) := by
      unfold impl_Complex_isPair.f
      rw [if_pos hi, pair_over hi (List.getElem_mem hil) (List.getElem_mem hj')]
    have hih := ih (j + 1) (by omega) (by omega)
    rw [List.take_succ_eq_append_getElem hj', List.filter_append, List.map_append, ← List.append_assoc] at hih
    cases ho : overP xs[i] xs[j] with
    | true =>
      rw [show ([xs[j]].filter (overP xs[i])).map (fun g => (⟨xs[i], g⟩ : Pr)) = [⟨xs[i], xs[j]⟩] by simp [ho]] at hih
      refine Ev.step (fun k => ?_) hih
      simp only [QC.impl_Complex_pairs.l1]
      rw [if_pos (by omega), if_pos (by omega), if_pos (by omega), rd_at hj', hpr, ho, succ64 (by omega)]
      simp only [Option.bind_some, if_true]
      rw [if_pos hlen]
    | false =>
      rw [show ([xs[j]].filter (overP xs[i])).map (fun g => (⟨xs[i], g⟩ : Pr)) = [] by simp [ho], List.append_nil] at hih
      refine Ev.step (fun k => ?_) hih
      simp only [QC.impl_Complex_pairs.l1]
      rw [if_pos (by omega), if_pos (by omega), if_pos (by omega), rd_at hj', hpr, ho, succ64 (by omega)]
      simp only [Option.bind_some, Bool.false_eq_true, if_false]
theorem pairsC_l0 {n : Int} {xs : List Int} (hi : isC n xs = true) : ∀ d (i : Nat), xs.length - i = d → i ≤ xs.length → Ev (fun k => QC.impl_Complex_pairs.l0 k ((xs.take i).flatMap (rowP xs)) xs (xs.length : Int) (i : Int) n xs) (pairsL xs) := by
  have hx := isC_small hi
  intro d
  induction d with
  | zero =>
    intro i hd hil
    refine Ev.step (f := fun k => some (pairsL xs)) (fun k => ?_) (Ev.now _)
    simp only [QC.impl_Complex_pairs.l0]
    rw [if_neg (by omega), List.take_of_length_le (by omega)]
    rfl
  | succ d ih =>
    intro i hd hil
    have hil' : i < xs.length := by omega
    have := pairsC_l1 hi hil' (pairsL xs) (ih (i + 1) (by omega) (by omega)) _ 0 rfl (Nat.zero_le _)
    simp only [List.take_zero, List.filter_nil, List.map_nil, List.append_nil] at this
    refine Ev.step (fun k => ?_) this
    simp only [QC.impl_Complex_pairs.l0]
    rw [if_pos (by omega), if_pos (by omega), if_pos (by omega), rd_at hil']
    rfl
theorem ev_pairsC {n : Int} {xs : List Int} (hi : isC n xs = true) : Ev (fun k => QC.impl_Complex_pairs.f k n xs) (pairsL xs) := by
  unfold QC.impl_Complex_pairs.f
  have := pairsC_l0 hi _ 0 rfl (Nat.zero_le _)
  simpa using this
theorem withC_f {n : Int} {xs : List Int} (hi : isC n xs = true) {l : List Pr} (h : pairingB xs l = true) (p : Pr) : impl_Complex_with.f n xs l p.f0 p.f1 = some (withP l p, okP xs l p) := by
  unfold impl_Complex_with.f
  rw [show (⟨p.f0, p.f1⟩ : Pr) = p from rfl, if_pos (ok_with hi h p)]
  rfl
theorem fillC_l0 {n : Int} {xs : List Int} (hi : isC n xs = true) {ps : List Pr} (hp : ps.length ≤ 1048576) : ∀ d (i : Nat) (l : List Pr), ps.length - i = d → i ≤ ps.length → pairingB xs l = true → Ev (fun k => QC.impl_FillPairing.l0 k l ps (ps.length : Int) (i : Int) n xs) (fillP xs l (ps.drop i), 0) := by
  intro d
  induction d with
  | zero =>
    intro i l hd hil hl
    rw [List.drop_eq_nil_of_le (by omega)]
    refine Ev.step (f := fun k => some (l, 0)) (fun k => ?_) (Ev.now _)
    simp only [QC.impl_FillPairing.l0]
    rw [if_neg (by omega)]
  | succ d ih =>
    intro i l hd hil hl
    have hil' : i < ps.length := by omega
    rw [List.drop_eq_getElem_cons hil', show fillP xs l (ps[i] :: ps.drop (i + 1)) = fillP xs (stepP xs l ps[i]) (ps.drop (i + 1)) from rfl]
    have hw := withC_f hi hl ps[i]
    have hst := step_pairing (xs := xs) hl ps[i]
    cases ho : okP xs l ps[i] with
    | true =>
      have hs : stepP xs l ps[i] = withP l ps[i] := by unfold stepP; rw [if_pos ho]
      rw [ho] at hw
      rw [hs] at hst ⊢
      refine Ev.step (fun k => ?_) (ih (i + 1) _ (by omega) (by omega) hst)
      simp only [QC.impl_FillPairing.l0]
      rw [if_pos (by omega), if_pos (by omega), if_pos (by omega), rdP_at hil', hw, Option.bind_some, if_pos rfl, succ64 (by omega)]
    | false =>
      have hs : stepP xs l ps[i] = l := by unfold stepP; rw [if_neg (by rw [ho]; simp)]
      rw [ho] at hw
      rw [hs]
      refine Ev.step (fun k => ?_) (ih (i + 1) _ (by omega) (by omega) hl)
      simp only [QC.impl_FillPairing.l0]
      rw [if_pos (by omega), if_pos (by omega), if_pos (by omega), rdP_at hil', hw, Option.bind_some, if_neg (by simp), succ64 (by omega)]
theorem fill_law (n : Int) {xs : List Int} (hx : xs.length ≤ 1048576) {l : List Pr} (hl : l.length ≤ 1048576) : ∃ D : List Pr × Int, (D.1.length ≤ 1048576) ∧ Ev (fun k => QC.impl_FillPairing.f k n xs l) D ∧ Ev (fun k => spec_FillPairing.f k n xs l) D := by
  unfold QC.impl_FillPairing.f spec_FillPairing.f
  simp only [acodeC_f n hx hl, Option.bind_some]
  by_cases h0 : acode n xs l = 0
  · have hp0 : pcode n xs l = 0 := by
      unfold acode at h0
      by_cases hp : pcode n xs l = 0
      · exact hp
      · rwa [if_neg hp] at h0
    obtain ⟨hi, hp⟩ := pcode_zero hp0
    have hpl := pairs_len hi
    have hfp := fill_pairing (xs := xs) (pairsL xs) hp
    refine ⟨(fillP xs l (pairsL xs), 0), by have := pairing_len hi hfp; show (fillP xs l (pairsL xs)).length ≤ 1048576; omega, ?_, ?_⟩
    · simp only [if_pos h0]
      have hc : slices_Clone_impl_Pair_impl_Pair.f l = some l := by unfold slices_Clone_impl_Pair_impl_Pair.f; rw [if_pos hl]
      simp only [hc, Option.bind_some]
      refine Ev.bind (ev_pairsC hi) ?_
      have := fillC_l0 hi (ps := pairsL xs) (by omega) _ 0 l rfl (Nat.zero_le _) hp
      simpa using this
    · refine Ev.bind (ev_code8 n hx hl) ?_
      simp only [if_pos h0, List.nil_append, List.length_nil, Nat.zero_add]
      simp only [if_pos (show l.length < 8796093022208 by omega)]
      exact Ev.bind (ev_fill hi hp) (Ev.now _)
  · refine ⟨([], acode n xs l), by simp, ?_, ?_⟩
    · simp only [if_neg h0]; exact Ev.now _
    · refine Ev.bind (ev_code8 n hx hl) ?_
      simp only [if_neg h0]; exact Ev.now _
end Go.Proofs.Ytomdfjohnmikdaa.Pu
namespace Go.Proofs.Ytomdfjohnmikdaa.Pu
set_option linter.unusedVariables false
set_option linter.unusedSimpArgs false
open Go.RowKit Go.Proofs.Ytomdfjohnmikdaa.Kp Go.Proofs.Ytomdfjohnmikdaa.Ext Go.Proofs.Ytomdfjohnmikdaa.QS Go.Proofs.YtomdfjohnmikdaaW.PrintWords Go.Proofs.YtomdfjohnmikdaaW.PrintLast Go.Proofs.YtomdfjohnmikdaaW.PrintMore
theorem eqPair_loop (l : List Pr) (hl : l.length ≤ 1048576) : ∀ d (i : Nat), l.length - i = d → i ≤ l.length → Ev (fun k => laws_eqPairS.l0 k l l i) true := by
  intro d
  induction d with
  | zero =>
    intro i hd hi
    refine Ev.step (f := fun k => some true) (fun k => ?_) (Ev.now _)
    simp only [laws_eqPairS.l0]; rw [if_neg (by omega)]
  | succ d ih =>
    intro i hd hi
    refine Ev.step (fun k => ?_) (ih (i + 1) (by omega) (by omega))
    simp only [laws_eqPairS.l0]
    rw [if_pos (by omega), if_pos (by omega), if_pos (by omega), show wrap64 ((i : Int) + 1) = ((i + 1 : Nat) : Int) by rw [w64 (by omega) (by omega)]; omega]
    simp [laws_eqPair.f]
theorem ev_eqPairs {l : List Pr} (hl : l.length ≤ 1048576) : Ev (fun k => laws_eqPairS.f k l l) true := by
  unfold laws_eqPairS.f
  simp only [if_true]
  exact eqPair_loop l hl _ 0 rfl (Nat.zero_le _)
theorem markL_len (n : Nat) (a : Int) : (markL n a).length = n := by simp [markL]
theorem ev_markPairs {l : List Pr} {a : Int} (hl : l.length ≤ 1048576) (ha : 0 ≤ a ∧ a ≤ 1073741824) : Ev (fun _ => laws_markPairS.f l a) (a + 2 * (l.length : Int), markL l.length a) := by
  unfold laws_markPairS.f
  rw [if_pos ⟨ha.1, ha.2, by omega⟩]
  exact Ev.now _
theorem held_markL (n : Nat) (a : Int) : heldPr (markL n a) a = a + 2 * (n : Int) := by
  rw [heldPr_yes, markL_len]
  intro i hi
  rw [markL_len] at hi
  simp [okPr, markL, markAt, hi, List.getD_eq_getElem?_getD]
theorem ev_heldPairs {n : Nat} {a : Int} (hl : n ≤ 1048576) (ha : 0 ≤ a ∧ a ≤ 1073741824) : Ev (fun _ => laws_heldPairS.f (markL n a) a) (a + 2 * (n : Int)) := by
  unfold laws_heldPairS.f
  rw [if_pos ⟨ha.1, ha.2, by rw [markL_len]; omega⟩, held_markL]
  exact Ev.now _
end Go.Proofs.Ytomdfjohnmikdaa.Pu
namespace Go.Proofs.Ytomdfjohnmikdaa.Pu
set_option linter.unusedVariables false
set_option linter.unusedSimpArgs false
open Go.RowKit Go.Proofs.Ytomdfjohnmikdaa.Kp Go.Proofs.Ytomdfjohnmikdaa.Ext Go.Proofs.Ytomdfjohnmikdaa.QS Go.Proofs.YtomdfjohnmikdaaW.PrintWords Go.Proofs.YtomdfjohnmikdaaW.PrintLast Go.Proofs.YtomdfjohnmikdaaW.PrintMore
def toPr (q : S72) : Pr := ⟨q.f0, q.f1⟩
theorem sz_prs {l : List S72} (hm : l.length ≤ maxLen) {b : Int} (h0 : 0 ≤ b) (h1 : b ≤ 1048576) : laws_szPairS.f l b = some (if b < (l.length : Int) then -1 else b - l.length) := by
  unfold laws_szPairS.f
  simp only [maxLen] at hm
  rw [w64 (by omega) (by omega)]
  by_cases h : b < (l.length : Int)
  · rw [if_pos (by omega), if_pos h]
  · rw [if_neg (by omega), if_neg h]
theorem rdA_at {l : List S72} {i : Nat} (h : i < l.length) : rd_T72 l (i : Int) = l[i] := by unfold rd_T72; rw [List.getD_eq_getElem?_getD, Int.toNat_natCast, List.getElem?_eq_getElem h]; rfl
theorem toPair_loop (l : List S72) (hl : l.length ≤ 1048576) : ∀ d (i : Nat) (x3 : List Pr), l.length - i = d → i ≤ l.length → x3.length = l.length → (∀ j, j < i → x3[j]? = (l[j]?).map toPr) → Ev (fun k => laws_toPairS.l0 k l x3 i) (l.map toPr) := by
  intro d
  induction d with
  | zero =>
    intro i x3 hd hi hx hj
    have he : x3 = l.map toPr := by
      apply List.ext_getElem?
      intro j
      rw [List.getElem?_map]
      rcases Nat.lt_or_ge j i with h | h
      · exact hj j h
      · rw [List.getElem?_eq_none (by omega), List.getElem?_eq_none (by omega)]; rfl
    refine Ev.step (f := fun _ => some x3) (fun k => ?_) (by rw [he]; exact Ev.now _)
    simp only [laws_toPairS.l0]; rw [if_neg (by omega)]
  | succ d ih =>
    intro i x3 hd hi hx hj
    have hi' : i < l.length := by omega
    refine Ev.step (f := fun k => laws_toPairS.l0 k l (x3.set i (toPr l[i])) ((i + 1 : Nat) : Int)) (fun k => ?_) (ih (i + 1) (x3.set i (toPr l[i])) (by omega) (by omega) (by simpa using hx) (fun j hji => ?_))
    · simp only [laws_toPairS.l0]
      rw [if_pos (by omega), if_pos (by omega), rdA_at hi', show wrap64 ((i : Int) + 1) = ((i + 1 : Nat) : Int) by rw [w64 (by omega) (by omega)]; omega]
      simp only [laws_toPair.f, Option.bind_some]
      rw [if_pos (by omega), Int.toNat_natCast]
      rfl
    · rw [List.getElem?_set]
      by_cases h : i = j
      · subst h
        rw [if_pos rfl, if_pos (by omega), List.getElem?_eq_getElem hi']; rfl
      · rw [if_neg h]
        exact hj j (by omega)
theorem ev_toPairs {l : List S72} (hl : l.length ≤ 1048576) : Ev (fun k => laws_toPairS.f k l) (l.map toPr) := by
  unfold laws_toPairS.f
  simp only [show (0 : Int) ≤ (l.length : Int) by omega, if_true, show ((l.length : Int)).toNat ≤ 17592186044416 by omega]
  exact toPair_loop l hl _ 0 _ rfl (Nat.zero_le _) (by simp) (fun j hj => absurd hj (Nat.not_lt_zero _))
end Go.Proofs.Ytomdfjohnmikdaa.Pu
namespace Go.Proofs.Ytomdfjohnmikdaa.Pu
set_option linter.unusedVariables false
set_option linter.unusedSimpArgs false
open Go.RowKit Go.Proofs.Ytomdfjohnmikdaa.Kp Go.Proofs.Ytomdfjohnmikdaa.Ext Go.Proofs.Ytomdfjohnmikdaa.QS Go.Proofs.Ytomdfjohnmikdaa.Im Go.Proofs.Ytomdfjohnmikdaa.QFnExactFillPairing Go.Proofs.YtomdfjohnmikdaaW.PrintWords Go.Proofs.YtomdfjohnmikdaaW.PrintLast Go.Proofs.YtomdfjohnmikdaaW.PrintMore
theorem FnExactFillPairing (n0 : Int) (l0 : List Int) (_ : (Lit.int .i64 n0).wf = true) (hm0 : l0.length ≤ maxLen) (_ : ∀ x ∈ l0, (Lit.int .i64 x).wf = true) (l1 : List S72) (hm1 : l1.length ≤ maxLen) (hw1 : ∀ x ∈ l1, (Lit.int .i64 x.f0).wf = true ∧ (Lit.int .i64 x.f1).wf = true) : ∃ k, laws_FnExactFillPairing.f k n0 l0 l1 = some true := by
  apply Ev.rounds
  unfold laws_FnExactFillPairing.f
  by_cases hb0 : (1048576 : Int) < (l0.length : Int)
  · simp only [sz_cx hm0 (show (0 : Int) ≤ (1048576 : Int) by omega) (show (1048576 : Int) ≤ 1048576 by omega), Option.bind_some, if_pos hb0, show ((-1 : Int) < 0) = True by simp, if_true]
    exact Ev.now _
  simp only [sz_cx hm0 (show (0 : Int) ≤ (1048576 : Int) by omega) (show (1048576 : Int) ≤ 1048576 by omega), Option.bind_some, if_neg hb0, if_neg (show ¬ ((1048576 : Int) - (l0.length : Int) < 0) by omega)]
  by_cases hb1 : ((1048576 : Int) - (l0.length : Int)) < (l1.length : Int)
  · simp only [sz_prs hm1 (show (0 : Int) ≤ ((1048576 : Int) - (l0.length : Int)) by omega) (show ((1048576 : Int) - (l0.length : Int)) ≤ 1048576 by omega), Option.bind_some, if_pos hb1, show ((-1 : Int) < 0) = True by simp, if_true]
    exact Ev.now _
  simp only [sz_prs hm1 (show (0 : Int) ≤ ((1048576 : Int) - (l0.length : Int)) by omega) (show ((1048576 : Int) - (l0.length : Int)) ≤ 1048576 by omega), Option.bind_some, if_neg hb1, if_neg (show ¬ (((1048576 : Int) - (l0.length : Int)) - (l1.length : Int) < 0) by omega)]
  have hl0 : l0.length ≤ 1048576 := by omega
  have hl1 : l1.length ≤ 1048576 := by omega
  have hT := ev_toPairs hl1
  have hq1 : (l1.map toPr).length ≤ 1048576 := by simpa using hl1
  generalize l1.map toPr = q1 at hT hq1
  obtain ⟨D, hR0, hJ, hS⟩ := fill_law n0 hl0 hq1
  have hI := impl_FillPairing.come n0 l0 q1 hJ
  obtain ⟨r1, r2⟩ := D
  simp only at hR0
  have hca0 : 0 ≤ (1 : Int) ∧ (1 : Int) ≤ 1073741824 := by omega
  have hca1 : 0 ≤ 1 + (l0.length : Int) ∧ 1 + (l0.length : Int) ≤ 1073741824 := by omega
  have hna1 : ¬ (1 + (l0.length : Int) < 0) := by omega
  have hca2 : 0 ≤ 1 + (l0.length : Int) + 2 * (q1.length : Int) ∧ 1 + (l0.length : Int) + 2 * (q1.length : Int) ≤ 1073741824 := by omega
  have hna2 : ¬ (1 + (l0.length : Int) + 2 * (q1.length : Int) < 0) := by omega
  have hco0 : 0 ≤ (1 : Int) ∧ (1 : Int) ≤ 1073741824 := by omega
  have hco1 : 0 ≤ 1 + 2 * (r1.length : Int) ∧ 1 + 2 * (r1.length : Int) ≤ 1073741824 := by omega
  have hno1 : ¬ (1 + 2 * (r1.length : Int) < 0) := by omega
  repeat (first
      | (exact Ev.now _)
      | (refine Ev.bind (ev_toComplex hl0) ?_)
      | (refine Ev.bind hT ?_)
      | (refine Ev.bind hS ?_)
      | (refine Ev.bind (ev_eqPairs hR0) ?_)
      | (refine Ev.bind (ev_eqComplex hl0) ?_)
      | (refine Ev.bind (ev_eqPairs hq1) ?_)
      | (refine Ev.bind (ev_markComplex hl0 hca0) ?_)
      | (refine Ev.bind (ev_markPairs hq1 hca1) ?_)
      | (refine Ev.bind (ev_markPairs hR0 hco0) ?_)
      | (refine Ev.bind (ev_heldPairs hR0 hco0) ?_)
      | (simp only [hI, Option.bind_some, if_true, bne_self_eq_false, Bool.false_eq_true, if_false, if_neg hna1, if_neg hna2, if_neg hno1]))
end Go.Proofs.Ytomdfjohnmikdaa.Pu
