/- Words and lemmas for FnPairings, part 3: what the row's text comes to. -/
import Derived.Laws.BitsAllLaws
import Derived.Test.YtpnmifahfpmplaaGreatProg
import Derived.Below
import Derived.Deep.Draws
import Derived.Deep.AppendLies
import Derived.Maps.AppendAt
import Derived.OwnWalk
import Derived.Laws.BytesArg
import Derived.Laws.MakeOwn
import Derived.Laws.OwnMore
import Derived.Deep.OwnRows
import Derived.Tactics
import Derived.Lib.ConvBytes
import Derived.Laws.Slices
import Derived.WalkKit
import Derived.KernelRfl
import Derived.RowKit3
import Derived.Deep.LoopGhost
import Derived.Deep.QuietTactic
import Derived.BigQuiet
import Derived.WideLaws
import Derived.Deep.DeepCutAuto
import Derived.Deep.CutBlock
import Derived.Deep.RegionHeld3
import Derived.Laws.Rows
import Derived.Lib.AppendStr
import Derived.ArgAppend
import Derived.Laws.IdiomCopy
import Derived.OrdersHeld
import Derived.Laws.BitsLemmas
import Derived.RowKit
import Derived.Test.YtpnmifahfpmplaaGreatZFnPairingsb
set_option linter.unusedVariables false
set_option linter.unusedSimpArgs false
namespace Go.Proofs.YtpnmifahfpmplaaGreat.QS
open Cw Kp Ext Go.RowKit YtpnmifahfpmplaaGreatW.PrintWords YtpnmifahfpmplaaGreatW.PrintLast YtpnmifahfpmplaaGreatW.PrintMore
attribute [local go_sem] max2_int min2_int max_two min_two max_three min_three max_four min_four   -- for this text's walks alone
mutual
def spec_l01Named.l0 : Nat → ByteArray → List ByteArray → List ByteArray → Int → Option (Int × List Int × Bool)
 | 0, _, _, _, _ => none
 | k + 1, x0, x4, x5, x6 => if x6 < (x4.length : Int) then (if 0 ≤ x6 then (if (rdOf ByteArray.empty x4 x6).toList = x0.toList then (if x6 < (x5.length : Int) then (if 0 < ((rdOf ByteArray.empty x5 x6).size : Int) then (if 2 ≤ ((rdOf ByteArray.empty x5 x6).size : Int) then ((spec_l01Split.f k ((rdOf ByteArray.empty x5 x6).extract 2 (rdOf ByteArray.empty x5 x6).size) 44).bind fun t385 => (spec_l01Named.l1 k (wrap64 ((wrap64 (bt (rdOf ByteArray.empty x5 x6) 0)) - 48)) (([] : List Int)) t385 0)) else (none)) else (none)) else (none)) else (spec_l01Named.l0 k x0 x4 x5 (wrap64 (x6 + 1)))) else (none)) else (some (0, ([] : List Int), false))
def spec_l01Named.l1 : Nat → Int → List Int → List ByteArray → Int → Option (Int × List Int × Bool)
 | 0, _, _, _, _ => none
 | k + 1, x7, x8, x9, x10 => if x10 < (x9.length : Int) then (if 0 ≤ x10 then ((spec_l01Set.f k (rdOf ByteArray.empty x9 x10) x7).bind fun bt389 => (if x8.length < 17592186044416 then (spec_l01Named.l1 k x7 (x8 ++ [bt389.1]) x9 (wrap64 (x10 + 1))) else (none))) else (none)) else ((spec_l01Made.f k x7 x8).bind fun bt394 => (some (bt394.1, bt394.2, true)))
end
def spec_l01Named.f (k : Nat) (a0 : ByteArray) : Option (Int × List Int × Bool) := (spec_l01Names.f).bind fun t373 => ((spec_l01Known.f).bind fun t376 => (spec_l01Named.l0 k a0 t373 t376 0))
set_option maxHeartbeats 8000000 in
set_option maxRecDepth 100000 in
theorem spec_l01Named.calls (k : Nat) (a0 : ByteArray) (r1 : Int) (r2 : List Int) (r3 : Bool) (w : World) (h : spec_l01Named.f k a0 = some (r1, r2, r3)) :
  Calls Tryz.prog 99 #[.string a0] w fun e w' => ∃ v1_ : Value, e = .returned (.tuple #[.agg #[.int .i64 r1, v1_], .bool r3]) ∧ Kd.R (Kd.int .i64) 2 w' w.heap.size (fun _ => True) v1_ r2 ∧ Below w.heap.size w w' := by
 have hu26 := Tryz.underlying26
 have HB := Aside0.mk (Below.refl w.heap.size w)
 have H : ((spec_l01Names.f).bind fun t373 => ((spec_l01Known.f).bind fun t376 => (spec_l01Named.l0 k a0 t373 t376 0))) = some (r1, r2, r3) := h
 clear h
 replace H := Option.bind_eq_some_iff.mp H
 obtain ⟨t373, A20, H⟩ := H
 try dsimp only at H
 have A2 := Aside0.mk A20
 clear A20
 replace H := Option.bind_eq_some_iff.mp H
 obtain ⟨t376, A30, H⟩ := H
 try dsimp only at H
 have A3 := Aside0.mk A30
 clear A30
 have H' := Aside0.mk H
 clear H
 go_enter Tryz.func99, Tryz.ntmps99
 go_wp2_with (first | ((with_reducible refine gate_dst (N := 2) rfl ?_); refine box_event ?hg (N := 2) ?hd (cs := #[.int .i64 0, .slice none 0 0]) (t := 26) ?hr ?_; (case hd => rfl); (case hg => rfl); (case hr => first | (go_simp; done) | (go_simp; rfl)); intro gb372 hg w4 hbox hb; have BK372 := Aside0.mk (hbox); have GW372 := gH HB hg; have GE372 := gH HB hg; replace HB := sH HB hb; clear hb hbox hg) | ((with_reducible refine gate_callee (f := 98) rfl ?_); refine cl_ (some 13) Tryz.func98 #[] ?_; (with_reducible refine (spec_l01Names.calls  t373 _ A2.out).mono ?_); rintro e w5 ⟨v374, rfl, ho0, hb⟩; refine ⟨_, rfl, ?_⟩; have HO375 := Aside0.mk (Kd.R_lower ho0 (below_size (pH HB))); replace BK372 := sB BK372 hb; replace HB := sH HB hb; (try clear hb); (try clear hi); (try clear ho0)) | ((with_reducible refine gate_callee (f := 108) rfl ?_); refine cl_ (some 14) Tryz.func108 #[] ?_; (with_reducible refine (spec_l01Known.calls  t376 _ A3.out).mono ?_); rintro e w6 ⟨v377, rfl, ho0, hb⟩; refine ⟨_, rfl, ?_⟩; have HO378 := Aside0.mk (Kd.R_lower (Kd.R_new' ho0 (Kd.R_lt (pR HO375))) (below_size (pH HB))); replace HO375 := Aside0.mk (Kd.R_elder' (pR HO375) (Kd.R_base ho0) hb); replace BK372 := sB BK372 hb; replace HB := sH HB hb; (try clear hb); (try clear hi); (try clear ho0)))
 go_loopg [6] k (fun kq v6 w' => ∃ (x6_1 : Int) (x373000_1 : Int), v6 = .int .i64 x6_1 ∧ Aside0 (spec_l01Named.l0 kq a0 t373 t376 x6_1 = some (r1, r2, r3)) ∧ Aside0 (kq ≤ k) ∧ Aside0 (Kd.R Kd.string 9 w' w.heap.size (fun k_ => some k_ ≠ (v377 : Value).ownBlock) v374 t373) ∧ Aside0 (Kd.R Kd.string 9 w' w.heap.size (fun k_ => some k_ ≠ (v374 : Value).ownBlock) v377 t376) ∧ Aside0 (w'.heap[gb372]? = some (.cells #[.int .i64 x373000_1, (.slice none 0 0)] 26 (0, 0))) ∧ Aside0 (Below w.heap.size w w'))
 case atStart => exact ⟨(0), (0), (by first | rfl | (simp; done) | (simp [*]; done)), H', ⟨Nat.le_refl _⟩, ⟨by (with_reducible repeat (first | apply Kd.R_alloc | apply Kd.R_drewN | apply Kd.R_drew)); exact Kd.R_mono HO375.out (fun _ hk => hk.2)⟩, ⟨by (with_reducible repeat (first | apply Kd.R_alloc | apply Kd.R_drewN | apply Kd.R_drew)); exact Kd.R_mono HO378.out (fun _ hk => hk.2)⟩, ⟨pB BK372⟩, ⟨pH HB⟩⟩
 case round =>
  clear H'
  try clear c1
  try clear p2
  obtain ⟨x6_1, x373000_1, rfl, HA, HK1, HO_4, HO_5, BK372, HB⟩ := hrel
  cases gk with
  | zero => exact absurd HA.out (by simp [spec_l01Named.l0])
  | succ k1 =>
   have H := HA.out
   clear HA
   simp only [spec_l01Named.l0] at H
   by_cases c7 : x6_1 < (t373.length : Int)
   ·rw [if_pos c7] at H
    have c7b0 : decide (x6_1 < (t373.length : Int)) = true := decide_eq_true c7
    clear c7
    by_cases c8 : 0 ≤ x6_1
    ·rw [if_pos c8] at H
     have c8b0 : decide (0 ≤ x6_1) = true := decide_eq_true c8
     clear c8
     by_cases c9 : (rdOf ByteArray.empty t373 x6_1).toList = a0.toList
     ·rw [if_pos c9] at H
      have c9b0 : ((rdOf ByteArray.empty t373 x6_1).toList == a0.toList) = true := beq_iff_eq.mpr c9
      have c9b1 : ((rdOf ByteArray.empty t373 x6_1).toList != a0.toList) = false := bne_eq_false_iff_eq.mpr c9
      clear c9
      by_cases c10 : x6_1 < (t376.length : Int)
      ·rw [if_pos c10] at H
       have c10b0 : decide (x6_1 < (t376.length : Int)) = true := decide_eq_true c10
       clear c10
       by_cases c11 : 0 < ((rdOf ByteArray.empty t376 x6_1).size : Int)
       ·rw [if_pos c11] at H
        have c11b0 : decide (0 < ((rdOf ByteArray.empty t376 x6_1).size : Int)) = true := decide_eq_true c11
        have c11b1 : decide (0 < (rdOf ByteArray.empty t376 x6_1).size) = true := decide_eq_true (by omega)
        clear c11
        obtain ⟨y381, hy381⟩ : ∃ y_ : List Int, y_ = (([] : List Int)) := ⟨_, rfl⟩
        replace H : (if 2 ≤ ((rdOf ByteArray.empty t376 x6_1).size : Int) then ((spec_l01Split.f k1 ((rdOf ByteArray.empty t376 x6_1).extract 2 (rdOf ByteArray.empty t376 x6_1).size) 44).bind fun t385 => (spec_l01Named.l1 k1 (wrap64 ((wrap64 (bt (rdOf ByteArray.empty t376 x6_1) 0)) - 48)) y381 t385 0)) else (none)) = some (r1, r2, r3) := by first | (rw [hy381]; with_reducible exact H) | (have H2_ := (Option.bind_some _ _).symm.trans H; rw [hy381]; with_reducible exact H2_) | (have H2_ := (Option.bind_some _ _).symm.trans H; with_reducible exact H2_) | with_reducible exact H | (rw [hy381]; exact H) | exact H
        have Ny381 := Aside0.mk hy381
        clear hy381
        by_cases c13 : 2 ≤ ((rdOf ByteArray.empty t376 x6_1).size : Int)
        ·rw [if_pos c13] at H
         have c13b0 := eq_true c13
         have c13b1 : decide (2 ≤ ((rdOf ByteArray.empty t376 x6_1).size : Int)) = true := decide_eq_true c13
         clear c13
         replace H := Option.bind_eq_some_iff.mp H
         obtain ⟨t385, A140, H⟩ := H
         try dsimp only at H
         have A14 := Aside0.mk A140
         clear A140
         have H' := Aside0.mk H
         clear H
         obtain ⟨Ao15, co15, eo15⟩ := Kd.R_slice HO_4.out
         subst eo15
         have p379 : 0 ≤ (x6_1 : Int) := of_decide_eq_true (by first | (with_reducible assumption) | assumption)
         have q379 : x6_1 < (t373.length : Int) := of_decide_eq_true (by first | (with_reducible assumption) | assumption)
         obtain ⟨ad379, e379, hx379_0⟩ := Kd.at_string (Kd.R_reads' HO_4.out).2.2 x6_1 p379 q379
         cases e379
         replace p379 := eq_true p379
         replace q379 := eq_true q379
         obtain ⟨Ao16, co16, eo16⟩ := Kd.R_slice HO_5.out
         subst eo16
         have p380 : 0 ≤ (x6_1 : Int) := of_decide_eq_true (by first | (with_reducible assumption) | assumption)
         have q380 : x6_1 < (t376.length : Int) := of_decide_eq_true (by first | (with_reducible assumption) | assumption)
         obtain ⟨ad380, e380, hx380_0⟩ := Kd.at_string (Kd.R_reads' HO_5.out).2.2 x6_1 p380 q380
         cases e380
         replace p380 := eq_true p380
         replace q380 := eq_true q380
         have p12 : 0 ≤ (0 : Int) := (by omega)
         have q12 : 0 < (rdOf ByteArray.empty t376 x6_1).size := (by have : (0 : Int) < ((rdOf ByteArray.empty t376 x6_1).size : Int) := of_decide_eq_true (by first | (with_reducible assumption) | assumption); omega)
         have hx12 : ∀ h : 0 < (rdOf ByteArray.empty t376 x6_1).size, (((rdOf ByteArray.empty t376 x6_1)[0]'h).toNat : Int) = bt (rdOf ByteArray.empty t376 x6_1) 0 := bt_at (rdOf ByteArray.empty t376 x6_1) 0
         clear p12
         have qi12 : (0 < ((rdOf ByteArray.empty t376 x6_1).size : Int)) = True := eq_true (of_decide_eq_true (by first | (with_reducible assumption) | assumption))
         replace q12 := eq_true q12
         go_wp2_with (first | ((with_reducible refine gate_dst (N := 34) rfl ?_); refine Kd.R_lit (Kd.int .i64) _ 2 ?hg (N := 34) ?hd (xs := ([] : List Int)) (inner := []) (ok := fun _ => True) (okp := fun _ => True) ?hr ?hp (fun _ hk => hk) trivial (Below.refl _ _) (Nat.le_refl _) (by simp) ?_; (case hd => rfl); (case hg => rfl); (case hr => first | (go_simp; done) | (go_simp; rfl)); (case hp => exact (Reps.none _ _)); intro v382 w17 ho18 hb hg_ hnew_; clear hg_ hnew_; (first | rw [← Ny381.out] at ho18 | (simp only [Int.reduceToNat] at ho18; rw [← Ny381.out] at ho18)); replace HO_4 := sR HO_4 hb; replace HO_5 := sR HO_5 hb; have HO383 := Aside0.mk (Kd.R_lower ho18 (below_size (pH HB))); replace BK372 := sB BK372 hb; replace HB := sH HB hb; clear hb ho18; have p384 : 0 ≤ (x6_1 : Int) := of_decide_eq_true (by first | (with_reducible assumption) | assumption); have q384 : x6_1 < (t376.length : Int) := of_decide_eq_true (by first | (with_reducible assumption) | assumption); obtain ⟨ad384, e384, hx384_0⟩ := Kd.at_string (Kd.R_reads' HO_5.out).2.2 x6_1 p384 q384; obtain rfl : ad380 = ad384 := (by injection e384); replace p384 := eq_true p384; replace q384 := eq_true q384) | ((with_reducible refine gate_callee (f := 109) rfl ?_); refine cl_ (some 40) Tryz.func109 #[.string ((rdOf ByteArray.empty t376 x6_1).extract 2 (rdOf ByteArray.empty t376 x6_1).size), .int .u8 44] ?_; (with_reducible refine (spec_l01Split.calls k1 ((rdOf ByteArray.empty t376 x6_1).extract 2 (rdOf ByteArray.empty t376 x6_1).size) 44 t385 _ A14.out).mono ?_); rintro e w19 ⟨v386, rfl, ho0, hb⟩; refine ⟨_, rfl, ?_⟩; replace HO383 := sR HO383 hb; have HO387 := Aside0.mk (Kd.R_lower (Kd.R_new' (Kd.R_new' ho0 (Kd.R_lt (pR HO_4))) (Kd.R_lt (pR HO_5))) (below_size (pH HB))); replace HO_4 := Aside0.mk (Kd.R_elder' (pR HO_4) (Kd.R_base ho0) hb); replace HO_5 := Aside0.mk (Kd.R_elder' (pR HO_5) (Kd.R_base ho0) hb); replace BK372 := sB BK372 hb; replace HB := sH HB hb; (try clear hb); (try clear hi); (try clear ho0)))
         go_loopg [8, 10] k1 (fun kq v8 v10 w' => ∃ (x8_2 : List Int) (x10_2 : Int), v10 = .int .i64 x10_2 ∧ Aside0 (spec_l01Named.l1 kq (wrap64 ((wrap64 (bt (rdOf ByteArray.empty t376 x6_1) 0)) - 48)) x8_2 t385 x10_2 = some (r1, r2, r3)) ∧ Aside0 (kq ≤ k1) ∧ Aside0 (Kd.R (Kd.int .i64) 2 w' w.heap.size (fun _ => True) v8 x8_2) ∧ Aside0 (Kd.R Kd.string 9 w' w.heap.size (fun _ => True) v386 t385) ∧ Aside0 (w'.heap[gb372]? = some (.cells #[.int .i64 x373000_1, (.slice none 0 0)] 26 (0, 0))) ∧ Aside0 (Below w.heap.size w w'))
         case atStart => exact ⟨(y381), (0), (by first | rfl | (simp; done) | (simp [*]; done)), H', ⟨Nat.le_refl _⟩, ⟨by (with_reducible repeat (first | apply Kd.R_alloc | apply Kd.R_drewN | apply Kd.R_drew)); exact HO383.out⟩, ⟨by (with_reducible repeat (first | apply Kd.R_alloc | apply Kd.R_drewN | apply Kd.R_drew)); exact Kd.R_mono HO387.out (fun _ hk => trivial)⟩, ⟨pB BK372⟩, ⟨pH HB⟩⟩
         case round =>
          clear H'
          try clear c1
          try clear p1
          try clear q1
          try clear hx1
          try clear qi1
          try clear p2
          try clear p3
          try clear q3
          try clear hx3
          try clear p6
          try clear c7
          try clear c7b0
          try clear c8
          try clear c8b0
          try clear c9
          try clear c9b0
          try clear c9b1
          try clear c10
          try clear c10b0
          try clear c11
          try clear c11b0
          try clear c11b1
          try clear p12
          try clear q12
          try clear hx12
          try clear qi12
          try clear c13
          try clear c13b0
          try clear c13b1
          try clear hx379_0
          try clear hx380_0
          try clear hx384_0
          try clear p12
          try clear p2
          try clear p379
          try clear p380
          try clear p384
          try clear q12
          try clear q379
          try clear q380
          try clear q384
          obtain ⟨x8_2, x10_2, rfl, HA, HK2, HO_8, HO_9, BK372, HB⟩ := hrel
          cases gk with
          | zero => exact absurd HA.out (by simp [spec_l01Named.l1])
          | succ k2 =>
           have H := HA.out
           clear HA
           simp only [spec_l01Named.l1] at H
           by_cases c20 : x10_2 < (t385.length : Int)
           ·rw [if_pos c20] at H
            have c20b0 : decide (x10_2 < (t385.length : Int)) = true := decide_eq_true c20
            clear c20
            by_cases c21 : 0 ≤ x10_2
            ·rw [if_pos c21] at H
             have c21b0 : decide (0 ≤ x10_2) = true := decide_eq_true c21
             clear c21
             replace H := Option.bind_eq_some_iff.mp H
             obtain ⟨⟨t389, t390⟩, A220, H⟩ := H
             try dsimp only at H
             have A22 := Aside0.mk A220
             clear A220
             by_cases c23 : x8_2.length < 17592186044416
             ·rw [if_pos c23] at H
              have LMc23 := Aside0.mk c23
              clear c23
              obtain ⟨y391, hy391⟩ : ∃ y_ : List Int, y_ = (x8_2 ++ [t389]) := ⟨_, rfl⟩
              replace H : (spec_l01Named.l1 k2 (wrap64 ((wrap64 (bt (rdOf ByteArray.empty t376 x6_1) 0)) - 48)) y391 t385 (wrap64 (x10_2 + 1))) = some (r1, r2, r3) := by first | (rw [hy391]; with_reducible exact H) | (have H2_ := (Option.bind_some _ _).symm.trans H; rw [hy391]; with_reducible exact H2_) | (have H2_ := (Option.bind_some _ _).symm.trans H; with_reducible exact H2_) | with_reducible exact H | (rw [hy391]; exact H) | exact H
              have Ny391 := Aside0.mk hy391
              clear hy391
              have H' := Aside0.mk H
              clear H
              obtain ⟨Ao24, co24, eo24⟩ := Kd.R_slice HO_9.out
              subst eo24
              have p388 : 0 ≤ (x10_2 : Int) := of_decide_eq_true (by first | (with_reducible assumption) | assumption)
              have q388 : x10_2 < (t385.length : Int) := of_decide_eq_true (by first | (with_reducible assumption) | assumption)
              obtain ⟨ad388, e388, hx388_0⟩ := Kd.at_string (Kd.R_reads' HO_9.out).2.2 x10_2 p388 q388
              cases e388
              replace p388 := eq_true p388
              replace q388 := eq_true q388
              go_wp2_with (first | ((with_reducible refine gate_callee (f := 110) rfl ?_); refine cl_ (some 53) Tryz.func110 #[.string (rdOf ByteArray.empty t385 x10_2), .int .i64 (wrap64 ((wrap64 (bt (rdOf ByteArray.empty t376 x6_1) 0)) - 48))] ?_; (with_reducible refine (spec_l01Set.calls k2 (rdOf ByteArray.empty t385 x10_2) (wrap64 ((wrap64 (bt (rdOf ByteArray.empty t376 x6_1) 0)) - 48)) t389 t390 _ A22.out).mono ?_); rintro e w' ⟨rfl, ⟨nd, rfl⟩⟩; refine ⟨_, rfl, ?_⟩) | ((with_reducible refine gate_builtin (b := .append) (xs := #[.tmp 56, .tmp 58]) rfl ?_); at_builtin; refine Kd.R_append (Kd.int .i64) (w0 := w) w.heap.size rfl (.tmp 56) (.tmp 58) 24 2 (.int .i64 0) 8 rfl Tryz.underlying24 info2 rfl (by decide) (by omega) u8 x8_2 t389 [.int .i64 t389] (fun _ => True) (fun _ => False) rfl rfl ?aP (fun _ hk => hk.elim) ?aF ?aO ?aB ?aS ?aL ?_; (case aP => exact rfl); (case aB => exact (pH HB)); (case aF => exact (fun _ _ => trivial)); (case aO => exact (pR HO_8)); (case aS => exact (below_size (pH HB))); (case aL => have := LMc23.out; omega); intro v392 w25 ho hb hg hat; rw [← Ny391.out] at ho; replace HO_9 := Aside0.mk (Kd.R_over' (pR HO_9) (Kd.R_typed (pR HO_8)) (by decide) hg); replace BK372 := Aside0.mk (blk_grown (g := gb372) (o := .cells #[.int .i64 x373000_1, .slice none 0 0] 26 (0, 0)) (pB BK372) hg (Kd.R_ne HO_8.out BK372.out (by decide))); replace HB := Aside0.mk (hb); have HO393 := Aside0.mk (ho); clear HO_8; clear ho hb hg hat))
              go_roundg k2
              case measure => have := HK1.out; have := HK2.out; omega
              case rel => exact ⟨(y391), (wrap64 (x10_2 + 1)), (by first | rfl | (simp; done) | (simp [*]; done)), H', ⟨by have := HK1.out; have := HK2.out; omega⟩, ⟨by (with_reducible repeat (first | apply Kd.R_alloc | apply Kd.R_drewN | apply Kd.R_drew)); exact HO393.out⟩, ⟨by (with_reducible repeat (first | apply Kd.R_alloc | apply Kd.R_drewN | apply Kd.R_drew)); exact HO_9.out⟩, ⟨pB BK372⟩, ⟨pH HB⟩⟩
             ·rw [if_neg c23] at H
              exact absurd H (by simp)
            ·rw [if_neg c21] at H
             exact absurd H (by simp)
           ·rw [if_neg c20] at H
            have c20b0 : decide (x10_2 < (t385.length : Int)) = false := decide_eq_false c20
            clear c20
            replace H := Option.bind_eq_some_iff.mp H
            obtain ⟨⟨t394, t395⟩, A260, H⟩ := H
            try dsimp only at H
            have A26 := Aside0.mk A260
            clear A260
            simp only [Option.some.injEq, Prod.mk.injEq] at H
            obtain ⟨rfl, rfl, rfl⟩ := H
            obtain ⟨Ao27, co27, eo27⟩ := Kd.R_slice HO_9.out
            subst eo27
            obtain ⟨Ao28, co28, eo28⟩ := Kd.R_slice HO_8.out
            subst eo28
            go_wp2_with (first | ((with_reducible refine gate_callee (f := 102) rfl ?_); refine cl_ (some 62) Tryz.func102 #[.int .i64 (wrap64 ((wrap64 (bt (rdOf ByteArray.empty t376 x6_1) 0)) - 48)), .slice Ao28 x8_2.length co28] ?_; (with_reducible refine (spec_l01Made.calls k2 (wrap64 ((wrap64 (bt (rdOf ByteArray.empty t376 x6_1) 0)) - 48)) _ _ x8_2 t394 t395 _ ?side1 ?side2 A26.out).mono ?_); (case side1 => exact pC ((Kd.R_reads' HO_8.out).2.2)); (case side2 => exact (Kd.R_reads' HO_8.out).2.1); rintro e w29 ⟨v396, rfl, ho0, hb⟩; refine ⟨_, rfl, ?_⟩; replace HO_9 := sR HO_9 hb; have HO397 := Aside0.mk (Kd.R_lower (Kd.R_new' ho0 (Kd.R_lt (pR HO_8))) (below_size (pH HB))); replace HO_8 := Aside0.mk (Kd.R_elder' (pR HO_8) (Kd.R_base ho0) hb); replace BK372 := sB BK372 hb; replace HB := sH HB hb; (try clear hb); (try clear hi); (try clear ho0); have hcz30_0 : w29.cell? ⟨gb372, 0, none⟩ = some (.int .i64 x373000_1) := cB BK372 0; have hcz30_1 : w29.cell? ⟨gb372, 1, none⟩ = some (.slice none 0 0) := cB BK372 1; have hfz30_0 := zB BK372 0; have hfz30_1 := zB BK372 1; obtain ⟨Ao31, co31, eo31⟩ := Kd.R_slice HO397.out; subst eo31))
            refine bodyPost_ret (results_ct rfl _ _ gb372 26 #[.int .i64 t394, .slice Ao31 t395.length co31] (0, 0) _ rfl (by (with_reducible repeat (first | refine blk_drewN ?_ _ | refine blk_drew ?_ | refine blk_alloc ?_ _)); refine blk_put (cs := #[.int .i64 t394, .slice none 0 0]) ?_ 1 _ rfl; (with_reducible repeat (first | refine blk_drewN ?_ _ | refine blk_drew ?_ | refine blk_alloc ?_ _)); refine blk_put (cs := #[.int .i64 x373000_1, .slice none 0 0]) ?_ 0 _ rfl; (with_reducible repeat (first | refine blk_drewN ?_ _ | refine blk_drew ?_ | refine blk_alloc ?_ _)); exact BK372.out) Tryz.underlying26 rfl (by kernel_rfl)) rfl ?_
            exact ⟨_, by first | rfl | (simp [errW_none, errW_some] <;> rfl) | (simp [*, errW_none, errW_some] <;> rfl) | (exfalso; simp_all), by (with_reducible repeat (first | apply Kd.R_alloc | apply Kd.R_drewN | apply Kd.R_drew)); exact Kd.R_mono (Kd.R_far (p := ⟨gb372, 1, none⟩) (Kd.R_far (p := ⟨gb372, 0, none⟩) (Kd.R_types HO397.out BK372.out (by decide)) (fun _ hk => hk.2) (.int .i64 t394)) (fun _ hk => hk.2) (.slice Ao31 t395.length co31)) (fun _ hk => trivial), pH HB⟩
        ·rw [if_neg c13] at H
         exact absurd H (by simp)
       ·rw [if_neg c11] at H
        exact absurd H (by simp)
      ·rw [if_neg c10] at H
       exact absurd H (by simp)
     ·rw [if_neg c9] at H
      have c9b0 : ((rdOf ByteArray.empty t373 x6_1).toList == a0.toList) = false := beq_eq_false_iff_ne.mpr c9
      have c9b1 : ((rdOf ByteArray.empty t373 x6_1).toList != a0.toList) = true := bne_iff_ne.mpr c9
      have H' := Aside0.mk H
      clear H
      obtain ⟨Ao32, co32, eo32⟩ := Kd.R_slice HO_4.out
      subst eo32
      have p379 : 0 ≤ (x6_1 : Int) := of_decide_eq_true (by first | (with_reducible assumption) | assumption)
      have q379 : x6_1 < (t373.length : Int) := of_decide_eq_true (by first | (with_reducible assumption) | assumption)
      obtain ⟨ad379, e379, hx379_0⟩ := Kd.at_string (Kd.R_reads' HO_4.out).2.2 x6_1 p379 q379
      cases e379
      replace p379 := eq_true p379
      replace q379 := eq_true q379
      go_wp2
      go_roundg k1
      case measure => have := HK1.out; omega
      case rel => exact ⟨(wrap64 (x6_1 + 1)), (x373000_1), (by first | rfl | (simp; done) | (simp [*]; done)), H', ⟨by have := HK1.out; omega⟩, ⟨by (with_reducible repeat (first | apply Kd.R_alloc | apply Kd.R_drewN | apply Kd.R_drew)); exact HO_4.out⟩, ⟨by (with_reducible repeat (first | apply Kd.R_alloc | apply Kd.R_drewN | apply Kd.R_drew)); exact HO_5.out⟩, ⟨pB BK372⟩, ⟨pH HB⟩⟩
    ·rw [if_neg c8] at H
     exact absurd H (by simp)
   ·rw [if_neg c7] at H
    have c7b0 : decide (x6_1 < (t373.length : Int)) = false := decide_eq_false c7
    clear c7
    simp only [Option.some.injEq, Prod.mk.injEq] at H
    obtain ⟨rfl, rfl, rfl⟩ := H
    obtain ⟨Ao33, co33, eo33⟩ := Kd.R_slice HO_4.out
    subst eo33
    have hcz34_0 : wr.cell? ⟨gb372, 0, none⟩ = some (.int .i64 x373000_1) := cB BK372 0
    have hcz34_1 : wr.cell? ⟨gb372, 1, none⟩ = some (.slice none 0 0) := cB BK372 1
    have hfz34_0 := zB BK372 0
    have hfz34_1 := zB BK372 1
    go_wp2
    refine bodyPost_ret (results_ct rfl _ _ gb372 26 #[.int .i64 0, .slice none 0 0] (0, 0) _ rfl (by (with_reducible repeat (first | refine blk_drewN ?_ _ | refine blk_drew ?_ | refine blk_alloc ?_ _)); refine blk_put (cs := #[.int .i64 0, .slice none 0 0]) ?_ 1 _ rfl; (with_reducible repeat (first | refine blk_drewN ?_ _ | refine blk_drew ?_ | refine blk_alloc ?_ _)); refine blk_put (cs := #[.int .i64 x373000_1, .slice none 0 0]) ?_ 0 _ rfl; (with_reducible repeat (first | refine blk_drewN ?_ _ | refine blk_drew ?_ | refine blk_alloc ?_ _)); exact BK372.out) Tryz.underlying26 rfl (by kernel_rfl)) rfl ?_
    exact ⟨_, by first | rfl | (simp [errW_none, errW_some] <;> rfl) | (simp [*, errW_none, errW_some] <;> rfl) | (exfalso; simp_all), by first | exact Kd.R_nil _ _ _ _ _ | exact Kd.N_nil _ _ _ _ _ | exact Kd.V_nil _ _ _ _ _ | exact Kd.Q_nil _ _ _ _ _ | exact Kd.S_nil _ _ _ _ _, pH HB⟩
def spec_l01Moved.l0 : Nat → Int → List Int → Int → Int → Option (Int)
 | 0, _, _, _, _ => none
 | k + 1, x0, x1, x5, x6 => if x6 < (x1.length : Int) then (if 0 ≤ (IntKind.u64.wrap (x6)) then (if (Go.bits .and .i64 (shr .i64 x0 (IntKind.u64.wrap (x6))) 1) = 1 then (if 0 ≤ x6 then (if 0 ≤ (IntKind.u64.wrap (rd x1 x6)) then (spec_l01Moved.l0 k x0 x1 (Go.bits .or .i64 x5 (shl .i64 1 (IntKind.u64.wrap (rd x1 x6)))) (wrap64 (x6 + 1))) else (none)) else (none)) else (spec_l01Moved.l0 k x0 x1 x5 (wrap64 (x6 + 1)))) else (none)) else (some x5)
def spec_l01Moved.f (k : Nat) (a0 : Int) (l1 : List Int) : Option (Int) := spec_l01Moved.l0 k a0 l1 0 0
set_option maxHeartbeats 8000000 in
set_option maxRecDepth 100000 in
theorem spec_l01Moved.calls (k : Nat) (a0 : Int) (A1 : Option Addr) (c1 : Nat) (l1 : List Int) (r : Int) (w : World) (hr1 : Kd.C (Kd.int .i64) w A1 l1.length l1) (hc1 : l1.length ≤ c1) (h : spec_l01Moved.f k a0 l1 = some r) :
  Calls Tryz.prog 111 #[.int .i64 a0, .slice A1 l1.length c1] w fun e w' => e = .returned (.int .i64 r) ∧ Drawn0 w w' := by
 have HR1 := Aside0.mk hr1
 have HC1 := Aside0.mk hc1
 clear hr1 hc1
 have H : (spec_l01Moved.l0 k a0 l1 0 0) = some r := h
 clear h
 have H' := Aside0.mk H
 clear H
 go_enter Tryz.func111, Tryz.ntmps111
 go_wp2
 go_loopg [5, 6] k (fun kq v5 v6 w' => ∃ (x5_1 : Int) (x6_1 : Int), v5 = .int .i64 x5_1 ∧ v6 = .int .i64 x6_1 ∧ Aside0 (spec_l01Moved.l0 kq a0 l1 x5_1 x6_1 = some r) ∧ Aside0 (kq ≤ k) ∧ Drawn0 w w')
 case atStart => exact ⟨(0), (0), (by first | rfl | (simp; done) | (simp [*]; done)), (by first | rfl | (simp; done) | (simp [*]; done)), H', ⟨Nat.le_refl _⟩, by repeat (first | exact Drawn0.refl _ | apply Drawn0.step)⟩
 case round =>
  clear H'
  try clear c1
  try clear p2
  obtain ⟨x5_1, x6_1, rfl, rfl, HA, HK1, ⟨m1, rfl⟩⟩ := hrel
  cases gk with
  | zero => exact absurd HA.out (by simp [spec_l01Moved.l0])
  | succ k1 =>
   have H := HA.out
   clear HA
   simp only [spec_l01Moved.l0] at H
   by_cases c3 : x6_1 < (l1.length : Int)
   ·rw [if_pos c3] at H
    have c3b0 : decide (x6_1 < (l1.length : Int)) = true := decide_eq_true c3
    clear c3
    obtain ⟨ji4, hji4⟩ : ∃ j_ : Int, (IntKind.u64.wrap (x6_1)) = j_ := ⟨_, rfl⟩
    replace H : (if 0 ≤ (ji4) then (if (Go.bits .and .i64 (shr .i64 a0 (ji4)) 1) = 1 then (if 0 ≤ x6_1 then (if 0 ≤ (IntKind.u64.wrap (rd l1 x6_1)) then (spec_l01Moved.l0 k1 a0 l1 (Go.bits .or .i64 x5_1 (shl .i64 1 (IntKind.u64.wrap (rd l1 x6_1)))) (wrap64 (x6_1 + 1))) else (none)) else (none)) else (spec_l01Moved.l0 k1 a0 l1 x5_1 (wrap64 (x6_1 + 1)))) else (none)) = some r := by first | (rw [hji4] at H; exact H) | (simp only [hji4] at H ⊢; exact H)
    by_cases c5 : 0 ≤ (ji4)
    ·rw [if_pos c5] at H
     have c5b0 := eq_true c5
     have c5b1 : decide (0 ≤ (ji4)) = true := decide_eq_true c5
     clear c5
     obtain ⟨ji6, hji6⟩ : ∃ j_ : Int, (shr .i64 a0 (ji4)) = j_ := ⟨_, rfl⟩
     replace H : (if (Go.bits .and .i64 (ji6) 1) = 1 then (if 0 ≤ x6_1 then (if 0 ≤ (IntKind.u64.wrap (rd l1 x6_1)) then (spec_l01Moved.l0 k1 a0 l1 (Go.bits .or .i64 x5_1 (shl .i64 1 (IntKind.u64.wrap (rd l1 x6_1)))) (wrap64 (x6_1 + 1))) else (none)) else (none)) else (spec_l01Moved.l0 k1 a0 l1 x5_1 (wrap64 (x6_1 + 1)))) = some r := by first | (rw [hji6] at H; exact H) | (simp only [hji6] at H ⊢; exact H)
     have hji6_ : (a0 / 2 ^ min (ji4).toNat 64) = ji6 := hji6
     have hji6z : (ji4) ≤ 64 → (a0 / 2 ^ (ji4).toNat) = ji6 := shr_small hji6
     by_cases c7 : (Go.bits .and .i64 (ji6) 1) = 1
     ·rw [if_pos c7] at H
      have c7b0 : ((Go.bits .and .i64 (ji6) 1) == 1) = true := beq_iff_eq.mpr c7
      have c7b1 : ((Go.bits .and .i64 (ji6) 1) != 1) = false := bne_eq_false_iff_eq.mpr c7
      clear c7
      by_cases c8 : 0 ≤ x6_1
      ·rw [if_pos c8] at H
       have c8b0 : decide (0 ≤ x6_1) = true := decide_eq_true c8
       clear c8
       obtain ⟨ji9, hji9⟩ : ∃ j_ : Int, (IntKind.u64.wrap (rd l1 x6_1)) = j_ := ⟨_, rfl⟩
       replace H : (if 0 ≤ (ji9) then (spec_l01Moved.l0 k1 a0 l1 (Go.bits .or .i64 x5_1 (shl .i64 1 (ji9))) (wrap64 (x6_1 + 1))) else (none)) = some r := by first | (rw [hji9] at H; exact H) | (simp only [hji9] at H ⊢; exact H)
       by_cases c10 : 0 ≤ (ji9)
       ·rw [if_pos c10] at H
        have c10b0 := eq_true c10
        have c10b1 : decide (0 ≤ (ji9)) = true := decide_eq_true c10
        clear c10
        obtain ⟨ji11, hji11⟩ : ∃ j_ : Int, (shl .i64 1 (ji9)) = j_ := ⟨_, rfl⟩
        replace H : (spec_l01Moved.l0 k1 a0 l1 (Go.bits .or .i64 x5_1 (ji11)) (wrap64 (x6_1 + 1))) = some r := by first | (rw [hji11] at H; exact H) | (simp only [hji11] at H ⊢; exact H)
        have hji11_ : (IntKind.i64.wrap (1 * 2 ^ min (ji9).toNat 64)) = ji11 := hji11
        have hji11z : (ji9) ≤ 64 → (IntKind.i64.wrap (1 * 2 ^ (ji9).toNat)) = ji11 := shl_small hji11
        have hji11u : (IntKind.i64.wrap (2 ^ min (ji9).toNat 64)) = ji11 := by have h_ := hji11_; rw [Int.one_mul] at h_; exact h_
        have hji11v : (ji9) ≤ 64 → (IntKind.i64.wrap (2 ^ (ji9).toNat)) = ji11 := fun hle_ => by have h_ := hji11z hle_; rw [Int.one_mul] at h_; exact h_
        have hji11y : (wrap64 (1 * 2 ^ min (ji9).toNat 64)) = ji11 := (i64_w _).symm.trans hji11_
        have hji11x : (ji9) ≤ 64 → (wrap64 (1 * 2 ^ (ji9).toNat)) = ji11 := fun h_ => (i64_w _).symm.trans (hji11z h_)
        have H' := Aside0.mk H
        clear H
        have p398 : 0 ≤ (x6_1 : Int) := of_decide_eq_true (by first | (with_reducible assumption) | assumption)
        have q398 : x6_1 < (l1.length : Int) := of_decide_eq_true (by first | (with_reducible assumption) | assumption)
        obtain ⟨ad398, e398, hx398_0⟩ := Kd.at_int HR1.out x6_1 p398 q398
        cases e398
        replace p398 := eq_true p398
        replace q398 := eq_true q398
        go_wp2
        go_roundg k1
        case measure => have := HK1.out; omega
        case rel => exact ⟨(Go.bits .or .i64 x5_1 (ji11)), (wrap64 (x6_1 + 1)), (by first | rfl | (simp; done) | (simp only [← hji11] <;> (first | rfl | simp)) | (simp [*]; done)), (by first | rfl | (simp; done) | (simp [*]; done)), H', ⟨by have := HK1.out; omega⟩, by repeat (first | exact Drawn0.refl _ | apply Drawn0.step)⟩
       ·rw [if_neg c10] at H
        exact absurd H (by simp)
      ·rw [if_neg c8] at H
       exact absurd H (by simp)
     ·rw [if_neg c7] at H
      have c7b0 : ((Go.bits .and .i64 (ji6) 1) == 1) = false := beq_eq_false_iff_ne.mpr c7
      have c7b1 : ((Go.bits .and .i64 (ji6) 1) != 1) = true := bne_iff_ne.mpr c7
      have H' := Aside0.mk H
      clear H
      go_wp2
      go_roundg k1
      case measure => have := HK1.out; omega
      case rel => exact ⟨(x5_1), (wrap64 (x6_1 + 1)), (by first | rfl | (simp; done) | (simp [*]; done)), (by first | rfl | (simp; done) | (simp [*]; done)), H', ⟨by have := HK1.out; omega⟩, by repeat (first | exact Drawn0.refl _ | apply Drawn0.step)⟩
    ·rw [if_neg c5] at H
     exact absurd H (by simp)
   ·rw [if_neg c3] at H
    have c3b0 : decide (x6_1 < (l1.length : Int)) = false := decide_eq_false c3
    clear c3
    obtain rfl := Option.some.inj H
    go_wp2
    go_ret
    exact ⟨by first | rfl | (simp; done) | (simp [*]; done), by repeat (first | exact Drawn0.refl _ | apply Drawn0.step)⟩
def spec_l01Renamed.l0 : Nat → List Int → List Int → Int → Int → List Int → Option (Int × List Int)
 | 0, _, _, _, _, _ => none
 | k + 1, x1, x5, x6, x400000, x400001 => if x6 < (x400001.length : Int) then (if 0 ≤ x6 then ((spec_l01Moved.f k (rd x400001 x6) x1).bind fun t405 => (if x5.length < 17592186044416 then (spec_l01Renamed.l0 k x1 (x5 ++ [t405]) (wrap64 (x6 + 1)) x400000 x400001) else (none))) else (none)) else ((spec_l01Made.f k x400000 x5).bind fun bt409 => (some (bt409.1, bt409.2)))
def spec_l01Renamed.f (k : Nat) (a0_0 : Int) (l0_1 : List Int) (l1 : List Int) : Option (Int × List Int) := spec_l01Renamed.l0 k l1 (([] : List Int)) 0 a0_0 l0_1
set_option maxHeartbeats 8000000 in
set_option maxRecDepth 100000 in
theorem spec_l01Renamed.calls (k : Nat) (a0_0 : Int) (A0_1 : Option Addr) (c0_1 : Nat) (l0_1 : List Int) (A1 : Option Addr) (c1 : Nat) (l1 : List Int) (r1 : Int) (r2 : List Int) (w : World) (hr0_1 : Kd.C (Kd.int .i64) w A0_1 l0_1.length l0_1) (hc0_1 : l0_1.length ≤ c0_1) (hr1 : Kd.C (Kd.int .i64) w A1 l1.length l1) (hc1 : l1.length ≤ c1) (h : spec_l01Renamed.f k a0_0 l0_1 l1 = some (r1, r2)) :
  Calls Tryz.prog 100 #[.agg #[.int .i64 a0_0, .slice A0_1 l0_1.length c0_1], .slice A1 l1.length c1] w fun e w' => ∃ v1_ : Value, e = .returned (.agg #[.int .i64 r1, v1_]) ∧ Kd.R (Kd.int .i64) 2 w' w.heap.size (fun _ => True) v1_ r2 ∧ Below w.heap.size w w' := by
 have hu26 := Tryz.underlying26
 have HR0_1 := Aside0.mk hr0_1
 have HC0_1 := Aside0.mk hc0_1
 clear hr0_1 hc0_1
 have HR1 := Aside0.mk hr1
 have HC1 := Aside0.mk hc1
 clear hr1 hc1
 have HB := Aside0.mk (Below.refl w.heap.size w)
 have H : (spec_l01Renamed.l0 k l1 (([] : List Int)) 0 a0_0 l0_1) = some (r1, r2) := h
 clear h
 obtain ⟨y401, hy401⟩ : ∃ y_ : List Int, y_ = (([] : List Int)) := ⟨_, rfl⟩
 replace H : (spec_l01Renamed.l0 k l1 y401 0 a0_0 l0_1) = some (r1, r2) := by first | (rw [hy401]; with_reducible exact H) | (have H2_ := (Option.bind_some _ _).symm.trans H; rw [hy401]; with_reducible exact H2_) | (have H2_ := (Option.bind_some _ _).symm.trans H; with_reducible exact H2_) | with_reducible exact H | (rw [hy401]; exact H) | exact H
 have Ny401 := Aside0.mk hy401
 clear hy401
 have H' := Aside0.mk H
 clear H
 go_enter Tryz.func100, Tryz.ntmps100
 go_wp2_with (first | ((with_reducible refine gate_dst (N := 2) rfl ?_); refine box_event ?hg (N := 2) ?hd (cs := #[.int .i64 a0_0, .slice A0_1 l0_1.length c0_1]) (t := 26) ?hr ?_; (case hd => rfl); (case hg => rfl); (case hr => first | (go_simp; done) | (go_simp; rfl)); intro gb399 hg w3 hbox hb; have BK399 := Aside0.mk (hbox); have GW399 := gH HB hg; have GE399 := gH HB hg; replace HB := sH HB hb; clear hb hbox hg) | ((with_reducible refine gate_dst (N := 4) rfl ?_); refine box_event ?hg (N := 4) ?hd (cs := #[.int .i64 0, .slice none 0 0]) (t := 26) ?hr ?_; (case hd => rfl); (case hg => rfl); (case hr => first | (go_simp; done) | (go_simp; rfl)); intro gb400 hg w4 hbox hb; have BK400 := Aside0.mk (hbox); have GW400 := gH HB hg; have GE400 := gH HB hg; replace HB := sH HB hb; have NB399_400 := nB BK399 hg; have NB400_399 := oB BK399 hg; replace BK399 := sB BK399 hb; clear hb hbox hg) | ((with_reducible refine gate_dst (N := 7) rfl ?_); refine Kd.R_lit (Kd.int .i64) _ 2 ?hg (N := 7) ?hd (xs := ([] : List Int)) (inner := []) (ok := fun _ => True) (okp := fun _ => True) ?hr ?hp (fun _ hk => hk) trivial (Below.refl _ _) (Nat.le_refl _) (by simp) ?_; (case hd => rfl); (case hg => rfl); (case hr => first | (go_simp; done) | (go_simp; rfl)); (case hp => exact (Reps.none _ _)); intro v402 w5 ho6 hb hg_ hnew_; clear hg_ hnew_; (first | rw [← Ny401.out] at ho6 | (simp only [Int.reduceToNat] at ho6; rw [← Ny401.out] at ho6)); have HO403 := Aside0.mk (Kd.R_lower ho6 (below_size (pH HB))); replace BK399 := sB BK399 hb; replace BK400 := sB BK400 hb; replace HB := sH HB hb; clear hb ho6))
 go_loopg [5, 6] k (fun kq v5 v6 w' => ∃ (x5_1 : List Int) (x6_1 : Int), v6 = .int .i64 x6_1 ∧ Aside0 (spec_l01Renamed.l0 kq l1 x5_1 x6_1 a0_0 l0_1 = some (r1, r2)) ∧ Aside0 (kq ≤ k) ∧ Aside0 (Kd.R (Kd.int .i64) 2 w' w.heap.size (fun _ => True) v5 x5_1) ∧ Aside0 (w'.heap[gb399]? = some (.cells #[.int .i64 a0_0, (.slice A0_1 l0_1.length c0_1)] 26 (0, 0))) ∧ Aside0 (w'.heap[gb400]? = some (.cells #[.int .i64 0, (.slice none 0 0)] 26 (0, 0))) ∧ Aside0 (Below w.heap.size w w'))
 case atStart => exact ⟨(y401), (0), (by first | rfl | (simp; done) | (simp [*]; done)), H', ⟨Nat.le_refl _⟩, ⟨by (with_reducible repeat (first | apply Kd.R_alloc | apply Kd.R_drewN | apply Kd.R_drew)); exact HO403.out⟩, ⟨pB BK399⟩, ⟨pB BK400⟩, ⟨pH HB⟩⟩
 case round =>
  clear H'
  try clear c1
  try clear p2
  obtain ⟨x5_1, x6_1, rfl, HA, HK1, HO_5, BK399, BK400, HB⟩ := hrel
  cases gk with
  | zero => exact absurd HA.out (by simp [spec_l01Renamed.l0])
  | succ k1 =>
   have H := HA.out
   clear HA
   simp only [spec_l01Renamed.l0] at H
   by_cases c7 : x6_1 < (l0_1.length : Int)
   ·rw [if_pos c7] at H
    have c7b0 : decide (x6_1 < (l0_1.length : Int)) = true := decide_eq_true c7
    clear c7
    by_cases c8 : 0 ≤ x6_1
    ·rw [if_pos c8] at H
     have c8b0 : decide (0 ≤ x6_1) = true := decide_eq_true c8
     clear c8
     replace H := Option.bind_eq_some_iff.mp H
     obtain ⟨t405, A90, H⟩ := H
     try dsimp only at H
     have A9 := Aside0.mk A90
     clear A90
     by_cases c10 : x5_1.length < 17592186044416
     ·rw [if_pos c10] at H
      have LMc10 := Aside0.mk c10
      clear c10
      obtain ⟨y406, hy406⟩ : ∃ y_ : List Int, y_ = (x5_1 ++ [t405]) := ⟨_, rfl⟩
      replace H : (spec_l01Renamed.l0 k1 l1 y406 (wrap64 (x6_1 + 1)) a0_0 l0_1) = some (r1, r2) := by first | (rw [hy406]; with_reducible exact H) | (have H2_ := (Option.bind_some _ _).symm.trans H; rw [hy406]; with_reducible exact H2_) | (have H2_ := (Option.bind_some _ _).symm.trans H; with_reducible exact H2_) | with_reducible exact H | (rw [hy406]; exact H) | exact H
      have Ny406 := Aside0.mk hy406
      clear hy406
      have H' := Aside0.mk H
      clear H
      (try have hnb11 := NB399_400.out)
      (try have hnc11 := NB400_399.out)
      have hcz12_0 : wr.cell? ⟨gb399, 0, none⟩ = some (.int .i64 a0_0) := cB BK399 0
      have hcz12_1 : wr.cell? ⟨gb399, 1, none⟩ = some (.slice A0_1 l0_1.length c0_1) := cB BK399 1
      have hfz12_0 := zB BK399 0
      have hfz12_1 := zB BK399 1
      have p404 : 0 ≤ (x6_1 : Int) := of_decide_eq_true (by first | (with_reducible assumption) | assumption)
      have q404 : x6_1 < (l0_1.length : Int) := of_decide_eq_true (by first | (with_reducible assumption) | assumption)
      obtain ⟨ad404, e404, hx404_0⟩ := Kd.at_int HR0_1.out x6_1 p404 q404
      cases e404
      replace hx404_0 := cH HB hx404_0
      replace p404 := eq_true p404
      replace q404 := eq_true q404
      go_wp2_with (first | ((with_reducible refine gate_callee (f := 111) rfl ?_); refine cl_ (some 22) Tryz.func111 #[.int .i64 (rd l0_1 x6_1), .slice A1 l1.length c1] ?_; (with_reducible refine (spec_l01Moved.calls k1 (rd l0_1 x6_1) _ _ l1 t405 _ ?side1 ?side2 A9.out).mono ?_); (case side1 => exact pC ((Kd.C_below HR1.out HB.out))); (case side2 => exact HC1.out); rintro e w' ⟨rfl, ⟨nd, rfl⟩⟩; refine ⟨_, rfl, ?_⟩) | ((with_reducible refine gate_builtin (b := .append) (xs := #[.tmp 15, .tmp 23]) rfl ?_); at_builtin; refine Kd.R_append (Kd.int .i64) (w0 := w) w.heap.size rfl (.tmp 15) (.tmp 23) 24 2 (.int .i64 0) 8 rfl Tryz.underlying24 info2 rfl (by decide) (by omega) u5 x5_1 t405 [.int .i64 t405] (fun _ => True) (fun _ => False) rfl rfl ?aP (fun _ hk => hk.elim) ?aF ?aO ?aB ?aS ?aL ?_; (case aP => exact rfl); (case aB => exact (pH HB)); (case aF => exact (fun _ _ => trivial)); (case aO => exact (pR HO_5)); (case aS => exact (below_size (pH HB))); (case aL => have := LMc10.out; omega); intro v407 w13 ho hb hg hat; rw [← Ny406.out] at ho; replace BK399 := Aside0.mk (blk_grown (g := gb399) (o := .cells #[.int .i64 a0_0, .slice (some ad404) l0_1.length c0_1] 26 (0, 0)) (pB BK399) hg (Kd.R_ne HO_5.out BK399.out (by decide))); replace BK400 := Aside0.mk (blk_grown (g := gb400) (o := .cells #[.int .i64 0, .slice none 0 0] 26 (0, 0)) (pB BK400) hg (Kd.R_ne HO_5.out BK400.out (by decide))); replace HB := Aside0.mk (hb); have HO408 := Aside0.mk (ho); clear HO_5; clear ho hb hg hat))
      go_roundg k1
      case measure => have := HK1.out; omega
      case rel => exact ⟨(y406), (wrap64 (x6_1 + 1)), (by first | rfl | (simp; done) | (simp [*]; done)), H', ⟨by have := HK1.out; omega⟩, ⟨by (with_reducible repeat (first | apply Kd.R_alloc | apply Kd.R_drewN | apply Kd.R_drew)); exact HO408.out⟩, ⟨pB BK399⟩, ⟨pB BK400⟩, ⟨pH HB⟩⟩
     ·rw [if_neg c10] at H
      exact absurd H (by simp)
    ·rw [if_neg c8] at H
     exact absurd H (by simp)
   ·rw [if_neg c7] at H
    have c7b0 : decide (x6_1 < (l0_1.length : Int)) = false := decide_eq_false c7
    clear c7
    replace H := Option.bind_eq_some_iff.mp H
    obtain ⟨⟨t409, t410⟩, A140, H⟩ := H
    try dsimp only at H
    have A14 := Aside0.mk A140
    clear A140
    simp only [Option.some.injEq, Prod.mk.injEq] at H
    obtain ⟨rfl, rfl⟩ := H
    (try have hnb15 := NB399_400.out)
    (try have hnc15 := NB400_399.out)
    have hcz16_0 : wr.cell? ⟨gb399, 0, none⟩ = some (.int .i64 a0_0) := cB BK399 0
    have hcz16_1 : wr.cell? ⟨gb399, 1, none⟩ = some (.slice A0_1 l0_1.length c0_1) := cB BK399 1
    have hfz16_0 := zB BK399 0
    have hfz16_1 := zB BK399 1
    obtain ⟨Ao17, co17, eo17⟩ := Kd.R_slice HO_5.out
    subst eo17
    go_wp2_with (first | ((with_reducible refine gate_callee (f := 102) rfl ?_); refine cl_ (some 28) Tryz.func102 #[.int .i64 a0_0, .slice Ao17 x5_1.length co17] ?_; (with_reducible refine (spec_l01Made.calls k1 a0_0 _ _ x5_1 t409 t410 _ ?side1 ?side2 A14.out).mono ?_); (case side1 => exact pC ((Kd.R_reads' HO_5.out).2.2)); (case side2 => exact (Kd.R_reads' HO_5.out).2.1); rintro e w18 ⟨v411, rfl, ho0, hb⟩; refine ⟨_, rfl, ?_⟩; have HO412 := Aside0.mk (Kd.R_lower (Kd.R_new' ho0 (Kd.R_lt (pR HO_5))) (below_size (pH HB))); replace HO_5 := Aside0.mk (Kd.R_elder' (pR HO_5) (Kd.R_base ho0) hb); replace BK399 := sB BK399 hb; replace BK400 := sB BK400 hb; replace HB := sH HB hb; (try clear hb); (try clear hi); (try clear ho0); have hcz19_0 : w18.cell? ⟨gb400, 0, none⟩ = some (.int .i64 0) := cB BK400 0; have hcz19_1 : w18.cell? ⟨gb400, 1, none⟩ = some (.slice none 0 0) := cB BK400 1; have hfz19_0 := zB BK400 0; have hfz19_1 := zB BK400 1; obtain ⟨Ao20, co20, eo20⟩ := Kd.R_slice HO412.out; subst eo20))
    refine bodyPost_ret (results_cell_row rfl _ _ gb400 26 #[.int .i64 t409, .slice Ao20 t410.length co20] (0, 0) _ rfl (by (with_reducible repeat (first | refine blk_drewN ?_ _ | refine blk_drew ?_ | refine blk_alloc ?_ _)); refine blk_put (cs := #[.int .i64 t409, .slice none 0 0]) ?_ 1 _ rfl; (with_reducible repeat (first | refine blk_drewN ?_ _ | refine blk_drew ?_ | refine blk_alloc ?_ _)); refine blk_put (cs := #[.int .i64 0, .slice none 0 0]) ?_ 0 _ rfl; (with_reducible repeat (first | refine blk_drewN ?_ _ | refine blk_drew ?_ | refine blk_alloc ?_ _)); exact BK400.out) Tryz.underlying26 rfl (by kernel_rfl)) rfl ?_
    exact ⟨_, by first | rfl | (simp [errW_none, errW_some] <;> rfl) | (simp [*, errW_none, errW_some] <;> rfl) | (exfalso; simp_all), by (with_reducible repeat (first | apply Kd.R_alloc | apply Kd.R_drewN | apply Kd.R_drew)); exact Kd.R_mono (Kd.R_far (p := ⟨gb400, 1, none⟩) (Kd.R_far (p := ⟨gb400, 0, none⟩) (Kd.R_types HO412.out BK400.out (by decide)) (fun _ hk => hk.2) (.int .i64 t409)) (fun _ hk => hk.2) (.slice Ao20 t410.length co20)) (fun _ hk => trivial), pH HB⟩
end Go.Proofs.YtpnmifahfpmplaaGreat.QS
namespace Go.Proofs.YtpnmifahfpmplaaGreat.Pu
open Go.RowKit Kp Ext QS Im YtpnmifahfpmplaaGreatW.PrintWords YtpnmifahfpmplaaGreatW.PrintLast YtpnmifahfpmplaaGreatW.PrintMore
theorem bits_lo {u : Int} (h0 : 0 ≤ u) (h1 : u < 18446744073709551616) : 0 ≤ Go.bits .and .u64 u 16777215 ∧ Go.bits .and .u64 u 16777215 ≤ 16777215 := by
  rw [Go.u64_and u 16777215 h0 h1 (by omega) (by omega)]
  have := Nat.and_le_right (n := u.toNat) (m := (16777215 : Int).toNat)
  omega
theorem u64_rng (x : Int) : 0 ≤ IntKind.u64.wrap x ∧ IntKind.u64.wrap x < 18446744073709551616 := by
  rw [IntKind.wrap_u64]; omega
theorem next_f {f0 : List Int} {f1 f2 n : Int} (hb : ∀ x ∈ f0, 0 ≤ x ∧ x ≤ 255) (h1 : 0 ≤ f1) (hl : f0.length ≤ 1048576) : ∃ r a h, spec_l01Next.f f0 f1 f2 n = some (r, a, h) ∧ 0 ≤ a ∧ (n < 1 → r = 0) ∧ (1 ≤ n → 0 ≤ r ∧ r < n) := by
  unfold spec_l01Next.f
  by_cases hn : n < 1
  · rw [if_pos hn]
    exact ⟨_, _, _, rfl, h1, fun _ => rfl, fun h => by omega⟩
  · obtain ⟨U, hU⟩ : ∃ U, IntKind.u64.wrap (IntKind.u64.wrap (f2 * 6364136223846793005) + 1442695040888963407) = U := ⟨_, rfl⟩
    have hr := u64_rng (IntKind.u64.wrap (f2 * 6364136223846793005) + 1442695040888963407)
    rw [hU] at hr
    obtain ⟨B, hB⟩ : ∃ B, Go.bits .and .u64 (U / 8589934592) 16777215 = B := ⟨_, rfl⟩
    have hbb := bits_lo (u := U / 8589934592) (by omega) (by omega)
    rw [hB] at hbb
    have hw : wrap64 B = B := w64 (by omega) (by omega)
    rw [if_neg hn, hU, hB, hw]
    by_cases h2 : f1 < (f0.length : Int)
    · obtain ⟨i, rfl⟩ := Int.eq_ofNat_of_zero_le h1
      have hi : i < f0.length := by omega
      have hx := hb _ (List.getElem_mem hi)
      rw [if_pos h2, if_pos h1, if_neg (by omega), rd_at hi, w64 (x := f0[i]) (by omega) (by omega), w64 (x := B + f0[i]) (by omega) (by omega)]
      refine ⟨_, _, _, rfl, ?_, fun h => absurd h hn, fun _ => ⟨Int.tmod_nonneg _ (by omega), Int.tmod_lt_of_pos _ (by omega)⟩⟩
      rw [w64 (by omega) (by omega)]; omega
    · rw [if_neg h2, if_neg (by omega)]
      exact ⟨_, _, _, rfl, h1, fun h => absurd h hn, fun _ => ⟨Int.tmod_nonneg _ (by omega), Int.tmod_lt_of_pos _ (by omega)⟩⟩
theorem pick_f {f0 : List Int} {f1 f2 : Int} {l : List Int} (hb : ∀ x ∈ f0, 0 ≤ x ∧ x ≤ 255) (h1 : 0 ≤ f1) (hl : f0.length ≤ 1048576) (hne : 0 < l.length) (hlm : l.length ≤ 1048576) : ∃ r a h, spec_l01Pick.f f0 f1 f2 l = some (r, a, h) ∧ 0 ≤ a ∧ r ∈ l := by
  obtain ⟨r, a, h, e, h2, _, h3⟩ := next_f (n := (l.length : Int)) (f2 := f2) hb h1 hl
  obtain ⟨h4, h5⟩ := h3 (by omega)
  obtain ⟨i, rfl⟩ := Int.eq_ofNat_of_zero_le h4
  have hi : i < l.length := by omega
  refine ⟨l[i], a, h, ?_, h2, List.getElem_mem hi⟩
  unfold spec_l01Pick.f
  rw [e]
  simp only [Option.bind_some]
  rw [if_pos h4, if_pos h5, rd_at hi]
theorem all_ex {n : Int} (h0 : 0 ≤ n) (h6 : n ≤ 6) : ∃ t, spec_l01All.f n = some t ∧ 0 ≤ t ∧ t ≤ 63 := by
  have h : n = 0 ∨ n = 1 ∨ n = 2 ∨ n = 3 ∨ n = 4 ∨ n = 5 ∨ n = 6 := by omega
  rcases h with rfl | rfl | rfl | rfl | rfl | rfl | rfl <;> exact ⟨_, rfl, by decide +kernel, by decide +kernel⟩
theorem made_ex {n : Int} (h0 : 0 ≤ n) (h6 : n ≤ 6) (sets : List Int) (hl : sets.length ≤ 1048576) : ∃ ys : List Int, Ev (fun k => spec_l01Made.f k n sets) (n, ys) ∧ ys.length ≤ 63 := by
  obtain ⟨t, ht, ht0, ht6⟩ := all_ex h0 h6
  have key : ∀ d (f : Nat) (acc : List Int), 64 - f = d → 1 ≤ f → f ≤ 64 → acc.length + 1 ≤ f → ∃ ys : List Int, Ev (fun k => spec_l01Made.l0 k n sets (f : Int) n acc) (n, ys) ∧ ys.length ≤ 63 := by
    intro d
    induction d with
    | zero =>
      intro f acc hd h1 hf ha
      refine ⟨acc, Ev.step (f := fun k => some (n, acc)) (fun k => ?_) (Ev.now _), by omega⟩
      simp only [spec_l01Made.l0, ht, Option.bind_some]
      rw [if_neg (by omega)]
    | succ d ih =>
      intro f acc hd h1 hf ha
      have hw : wrap64 ((f : Int) + 1) = ((f + 1 : Nat) : Int) := by rw [w64 (by omega) (by omega)]; omega
      by_cases hft : (f : Int) ≤ t
      · have inner : ∀ e (j : Nat), sets.length - j = e → j ≤ sets.length → ∃ ys : List Int, Ev (fun k => spec_l01Made.l1 k n sets (f : Int) (j : Int) n acc) (n, ys) ∧ ys.length ≤ 63 := by
          intro e
          induction e with
          | zero =>
            intro j hj hjl
            obtain ⟨ys, e1, e2⟩ := ih (f + 1) acc (by omega) (by omega) (by omega) (by omega)
            refine ⟨ys, Ev.step (fun k => ?_) e1, e2⟩
            simp only [spec_l01Made.l1]; rw [if_neg (by omega), hw]
          | succ e ihj =>
            intro j hj hjl
            have hj' : j < sets.length := by omega
            by_cases hs : Go.bits .and .i64 (f : Int) (rd sets (j : Int)) = (f : Int)
            · obtain ⟨ys, e1, e2⟩ := ih (f + 1) (acc ++ [(f : Int)]) (by omega) (by omega) (by omega) (by simp; omega)
              refine ⟨ys, Ev.step (fun k => ?_) e1, e2⟩
              simp only [spec_l01Made.l1]; rw [if_pos (by omega), if_pos (by omega), if_pos hs, if_pos (by omega), hw]
            · obtain ⟨ys, e1, e2⟩ := ihj (j + 1) (by omega) (by omega)
              refine ⟨ys, Ev.step (fun k => ?_) e1, e2⟩
              simp only [spec_l01Made.l1]; rw [if_pos (by omega), if_pos (by omega), if_neg hs, show wrap64 ((j : Int) + 1) = ((j + 1 : Nat) : Int) by rw [w64 (by omega) (by omega)]; omega]
        obtain ⟨ys, e1, e2⟩ := inner _ 0 rfl (Nat.zero_le _)
        refine ⟨ys, Ev.step (fun k => ?_) e1, e2⟩
        simp only [spec_l01Made.l0, ht, Option.bind_some]
        rw [if_pos hft]
        rfl
      · refine ⟨acc, Ev.step (f := fun k => some (n, acc)) (fun k => ?_) (Ev.now _), by omega⟩
        simp only [spec_l01Made.l0, ht, Option.bind_some]
        rw [if_neg hft]
  unfold spec_l01Made.f
  exact key _ 1 [] rfl (by omega) (by omega) (by simp)
theorem moved_ex (f : Int) {p : List Int} (hp : p.length ≤ 1048576) : ∃ r, Ev (fun k => spec_l01Moved.f k f p) r := by
  have key : ∀ d (i : Nat) (acc : Int), p.length - i = d → i ≤ p.length → ∃ r, Ev (fun k => spec_l01Moved.l0 k f p acc (i : Int)) r := by
    intro d
    induction d with
    | zero =>
      intro i acc hd hi
      refine ⟨acc, Ev.step (f := fun k => some acc) (fun k => ?_) (Ev.now _)⟩
      simp only [spec_l01Moved.l0]; rw [if_neg (by omega)]
    | succ d ih =>
      intro i acc hd hi
      have hw : wrap64 ((i : Int) + 1) = ((i + 1 : Nat) : Int) := by rw [w64 (by omega) (by omega)]; omega
      have h1 := (u64_rng (i : Int)).1
      have h2 := (u64_rng (rd p (i : Int))).1
      by_cases hc : Go.bits .and .i64 (shr .i64 f (IntKind.u64.wrap (i : Int))) 1 = 1
      · obtain ⟨r, e⟩ := ih (i + 1) (Go.bits .or .i64 acc (shl .i64 1 (IntKind.u64.wrap (rd p (i : Int))))) (by omega) (by omega)
        refine ⟨r, Ev.step (fun k => ?_) e⟩
        simp only [spec_l01Moved.l0]; rw [if_pos (by omega), if_pos h1, if_pos hc, if_pos (by omega), if_pos h2, hw]
      · obtain ⟨r, e⟩ := ih (i + 1) acc (by omega) (by omega)
        refine ⟨r, Ev.step (fun k => ?_) e⟩
        simp only [spec_l01Moved.l0]; rw [if_pos (by omega), if_pos h1, if_neg hc, hw]
  unfold spec_l01Moved.f
  exact key _ 0 0 rfl (Nat.zero_le _)
theorem renamed_ex {n : Int} (h0 : 0 ≤ n) (h6 : n ≤ 6) {xs p : List Int} (hx : xs.length ≤ 1048576) (hp : p.length ≤ 1048576) : ∃ ys : List Int, Ev (fun k => spec_l01Renamed.f k n xs p) (n, ys) ∧ ys.length ≤ 63 := by
  have key : ∀ d (i : Nat) (acc : List Int), xs.length - i = d → i ≤ xs.length → acc.length ≤ i → ∃ ys : List Int, Ev (fun k => spec_l01Renamed.l0 k p acc (i : Int) n xs) (n, ys) ∧ ys.length ≤ 63 := by
    intro d
    induction d with
    | zero =>
      intro i acc hd hi ha
      obtain ⟨ys, e1, e2⟩ := made_ex h0 h6 acc (by omega)
      refine ⟨ys, Ev.step (f := fun k => (spec_l01Made.f k n acc).bind fun bt => some (bt.1, bt.2)) (fun k => ?_) (Ev.bind e1 (Ev.now _)), e2⟩
      simp only [spec_l01Renamed.l0]; rw [if_neg (by omega)]
    | succ d ih =>
      intro i acc hd hi ha
      have hi' : i < xs.length := by omega
      obtain ⟨r, er⟩ := moved_ex (rd xs (i : Int)) hp
      obtain ⟨ys, e1, e2⟩ := ih (i + 1) (acc ++ [r]) (by omega) (by omega) (by simp; omega)
      refine ⟨ys, Ev.step (f := fun k => (spec_l01Moved.f k (rd xs (i : Int)) p).bind fun t => if acc.length < 17592186044416 then spec_l01Renamed.l0 k p (acc ++ [t]) ((i + 1 : Nat) : Int) n xs else none) (fun k => ?_) (Ev.bind er ?_), e2⟩
      · simp only [spec_l01Renamed.l0]; rw [if_pos (by omega), if_pos (by omega), show wrap64 ((i : Int) + 1) = ((i + 1 : Nat) : Int) by rw [w64 (by omega) (by omega)]; omega]
      · simp only [if_pos (show acc.length < 17592186044416 by omega)]
        exact e1
  unfold spec_l01Renamed.f
  exact key _ 0 [] rfl (Nat.zero_le _) (by simp)
theorem split_ex {s : ByteArray} (b : Int) (hs : s.size ≤ 1000) : ∃ L : List ByteArray, Ev (fun k => spec_l01Split.f k s b) L ∧ L.length ≤ 1001 ∧ ∀ t ∈ L, t.size ≤ 1000 := by
  have ext : ∀ a c : Nat, (s.extract a c).size ≤ 1000 := fun a c => by rw [ByteArray.size_extract]; omega
  have put : ∀ {acc : List ByteArray} {u : ByteArray}, (∀ t ∈ acc, t.size ≤ 1000) → u.size ≤ 1000 → ∀ t ∈ acc ++ [u], t.size ≤ 1000 := fun h1 h2 t ht => by
    rcases List.mem_append.1 ht with h | h
    · exact h1 t h
    · rw [List.mem_singleton.1 h]; exact h2
  have key : ∀ d (i at_ : Nat) (acc : List ByteArray), s.size - i = d → i ≤ s.size → at_ ≤ i → acc.length ≤ i → (∀ t ∈ acc, t.size ≤ 1000) → ∃ L : List ByteArray, Ev (fun k => spec_l01Split.l0 k s b acc (at_ : Int) (i : Int)) L ∧ L.length ≤ 1001 ∧ ∀ t ∈ L, t.size ≤ 1000 := by
    intro d
    induction d with
    | zero =>
      intro i at_ acc hd hi ha hl hz
      refine ⟨acc ++ [s.extract at_ s.size], Ev.step (f := fun k => some (acc ++ [s.extract at_ s.size])) (fun k => ?_) (Ev.now _), by simp; omega, put hz (ext _ _)⟩
      simp only [spec_l01Split.l0]; rw [if_neg (by omega), if_pos (by omega), if_pos (by omega), if_pos (by omega)]
      rfl
    | succ d ih =>
      intro i at_ acc hd hi ha hl hz
      have hw : wrap64 ((i : Int) + 1) = ((i + 1 : Nat) : Int) := by rw [w64 (by omega) (by omega)]; omega
      by_cases hb : bt s (i : Int) = b
      · obtain ⟨L, e1, e2⟩ := ih (i + 1) (i + 1) (acc ++ [s.extract at_ i]) (by omega) (by omega) (by omega) (by simp; omega) (put hz (ext _ _))
        refine ⟨L, Ev.step (fun k => ?_) e1, e2⟩
        simp only [spec_l01Split.l0]; rw [if_pos (by omega), if_pos (by omega), if_pos hb, if_pos (by omega), if_pos (by omega), if_pos (by omega), if_pos (by omega), hw]
        rfl
      · obtain ⟨L, e1, e2⟩ := ih (i + 1) at_ acc (by omega) (by omega) (by omega) (by omega) hz
        refine ⟨L, Ev.step (fun k => ?_) e1, e2⟩
        simp only [spec_l01Split.l0]; rw [if_pos (by omega), if_pos (by omega), if_neg hb, hw]
  unfold spec_l01Split.f
  exact key _ 0 0 [] rfl (Nat.zero_le _) (Nat.le_refl _) (by simp) (by simp)
theorem set_ex {s : ByteArray} (n : Int) (hs : s.size ≤ 1048576) : ∃ r, Ev (fun k => spec_l01Set.f k s n) r := by
  have key : ∀ d (i : Nat) (acc before : Int), s.size - i = d → i ≤ s.size → ∃ r, Ev (fun k => spec_l01Set.l0 k s n acc before (i : Int)) r := by
    intro d
    induction d with
    | zero =>
      intro i acc before hd hi
      refine ⟨_, Ev.step (f := fun k => some (acc, decide (acc > 0))) (fun k => ?_) (Ev.now _)⟩
      simp only [spec_l01Set.l0]; rw [if_neg (by omega)]
    | succ d ih =>
      intro i acc before hd hi
      have hw : wrap64 ((i : Int) + 1) = ((i + 1 : Nat) : Int) := by rw [w64 (by omega) (by omega)]; omega
      obtain ⟨v, hv⟩ : ∃ v, wrap64 (wrap64 (bt s (i : Int)) - 48) = v := ⟨_, rfl⟩
      obtain ⟨t, ht⟩ : ∃ t, spec_l01In.f v (wrap64 (before + 1)) (wrap64 (n - 1)) = some t := by unfold spec_l01In.f; split <;> exact ⟨_, rfl⟩
      have h1 := (u64_rng v).1
      cases t with
      | true =>
        obtain ⟨r, e⟩ := ih (i + 1) (Go.bits .or .i64 acc (shl .i64 1 (IntKind.u64.wrap v))) v (by omega) (by omega)
        refine ⟨r, Ev.step (fun k => ?_) e⟩
        simp only [spec_l01Set.l0]; rw [if_pos (by omega), if_pos (by omega), hv, ht, Option.bind_some, if_pos rfl, if_pos h1, hw]
      | false =>
        refine ⟨_, Ev.step (f := fun k => some (0, false)) (fun k => ?_) (Ev.now _)⟩
        simp only [spec_l01Set.l0]; rw [if_pos (by omega), if_pos (by omega), hv, ht, Option.bind_some, if_neg (by simp)]
  unfold spec_l01Set.f
  exact key _ 0 0 (-1) rfl (Nat.zero_le _)
theorem named1_ex {n : Int} (h0 : 0 ≤ n) (h6 : n ≤ 6) {L : List ByteArray} (hl : L.length ≤ 1001) (hL : ∀ s ∈ L, s.size ≤ 1000) : ∃ ys b, Ev (fun k => spec_l01Named.l1 k n [] L 0) (n, ys, b) ∧ ys.length ≤ 63 := by
  have key : ∀ d (i : Nat) (acc : List Int), L.length - i = d → i ≤ L.length → acc.length ≤ i → ∃ ys b, Ev (fun k => spec_l01Named.l1 k n acc L (i : Int)) (n, ys, b) ∧ ys.length ≤ 63 := by
    intro d
    induction d with
    | zero =>
      intro i acc hd hi ha
      obtain ⟨ys, e1, e2⟩ := made_ex h0 h6 acc (by omega)
      refine ⟨ys, true, Ev.step (f := fun k => (spec_l01Made.f k n acc).bind fun bt => some (bt.1, bt.2, true)) (fun k => ?_) (Ev.bind e1 (Ev.now _)), e2⟩
      simp only [spec_l01Named.l1]; rw [if_neg (by omega)]
    | succ d ih =>
      intro i acc hd hi ha
      have hi' : i < L.length := by omega
      have hrd : rdOf ByteArray.empty L (i : Int) = L[i] := by simp [rdOf, List.getD_eq_getElem?_getD, hi']
      obtain ⟨r, er⟩ := set_ex (s := L[i]) n (by have := hL _ (List.getElem_mem hi'); omega)
      obtain ⟨ys, b, e1, e2⟩ := ih (i + 1) (acc ++ [r.1]) (by omega) (by omega) (by simp; omega)
      refine ⟨ys, b, Ev.step (f := fun k => (spec_l01Set.f k L[i] n).bind fun t => if acc.length < 17592186044416 then spec_l01Named.l1 k n (acc ++ [t.1]) L ((i + 1 : Nat) : Int) else none) (fun k => ?_) (Ev.bind er ?_), e2⟩
      · simp only [spec_l01Named.l1]; rw [if_pos (by omega), if_pos (by omega), hrd, show wrap64 ((i : Int) + 1) = ((i + 1 : Nat) : Int) by rw [w64 (by omega) (by omega)]; omega]
      · simp only [if_pos (show acc.length < 17592186044416 by omega)]
        exact e1
  exact key _ 0 [] rfl (Nat.zero_le _) (by simp)
theorem known_all : (match spec_l01Names.f, spec_l01Known.f with | some A, some B => (decide (A.length = 11) && decide (B.length = 11) && B.all fun s => decide (2 ≤ s.size) && (decide (s.size ≤ 1000) && (decide (48 ≤ bt s 0) && decide (bt s 0 ≤ 54)))) | _, _ => false) = true := by decide +kernel
theorem named_ex (a : ByteArray) : ∃ n ys b, Ev (fun k => spec_l01Named.f k a) (n, ys, b) ∧ 0 ≤ n ∧ n ≤ 6 ∧ ys.length ≤ 63 := by
  have hk := known_all
  cases hA : spec_l01Names.f with
  | none => rw [hA] at hk; exact absurd hk (by simp)
  | some A =>
    cases hB : spec_l01Known.f with
    | none => rw [hA, hB] at hk; exact absurd hk (by simp)
    | some B =>
      rw [hA, hB] at hk
      simp only [Bool.and_eq_true, decide_eq_true_eq] at hk
      obtain ⟨⟨hla, hlb⟩, hB2⟩ := hk
      have key : ∀ d (i : Nat), A.length - i = d → i ≤ A.length → ∃ n ys b, Ev (fun k => spec_l01Named.l0 k a A B (i : Int)) (n, ys, b) ∧ 0 ≤ n ∧ n ≤ 6 ∧ ys.length ≤ 63 := by
        intro d
        induction d with
        | zero =>
          intro i hd hi
          refine ⟨0, [], false, Ev.step (f := fun k => some (0, [], false)) (fun k => ?_) (Ev.now _), by omega, by omega, by simp⟩
          simp only [spec_l01Named.l0]; rw [if_neg (by omega)]
        | succ d ih =>
          intro i hd hi
          have hw : wrap64 ((i : Int) + 1) = ((i + 1 : Nat) : Int) := by rw [w64 (by omega) (by omega)]; omega
          by_cases hc : (rdOf ByteArray.empty A (i : Int)).toList = a.toList
          · have hib : i < B.length := by omega
            have hrd : rdOf ByteArray.empty B (i : Int) = B[i] := by simp [rdOf, List.getD_eq_getElem?_getD, hib]
            have h1 := List.all_eq_true.1 hB2 _ (List.getElem_mem hib)
            simp only [Bool.and_eq_true, decide_eq_true_eq] at h1
            obtain ⟨hs2, hs3, hs4, hs5⟩ := h1
            obtain ⟨L, e1, e2, e3⟩ := split_ex (s := B[i].extract 2 B[i].size) 44 (by rw [ByteArray.size_extract]; omega)
            have hv : wrap64 (wrap64 (bt B[i] 0) - 48) = bt B[i] 0 - 48 := by rw [w64 (x := bt B[i] 0) (by omega) (by omega), w64 (by omega) (by omega)]
            obtain ⟨ys, b, e4, e5⟩ := named1_ex (n := bt B[i] 0 - 48) (by omega) (by omega) e2 e3
            refine ⟨_, ys, b, Ev.step (f := fun k => (spec_l01Split.f k (B[i].extract 2 B[i].size) 44).bind fun t => spec_l01Named.l1 k (bt B[i] 0 - 48) [] t 0) (fun k => ?_) (Ev.bind e1 e4), by omega, by omega, e5⟩
            simp only [spec_l01Named.l0]; rw [if_pos (by omega), if_pos (by omega), if_pos hc, if_pos (by omega), hrd, if_pos (by omega), if_pos (by omega), hv]
          · obtain ⟨n, ys, b, e1, e2⟩ := ih (i + 1) (by omega) (by omega)
            refine ⟨n, ys, b, Ev.step (fun k => ?_) e1, e2⟩
            simp only [spec_l01Named.l0]; rw [if_pos (by omega), if_pos (by omega), if_neg hc, hw]
      unfold spec_l01Named.f
      rw [hA, hB]
      exact key _ 0 rfl (Nat.zero_le _)
end Go.Proofs.YtpnmifahfpmplaaGreat.Pu
namespace Go.Proofs.YtpnmifahfpmplaaGreat.Ext
open Go.RowKit Im YtpnmifahfpmplaaGreatW.PrintWords YtpnmifahfpmplaaGreatW.PrintLast YtpnmifahfpmplaaGreatW.PrintMore
def impl_Complex_has.f (a0_0 : Int) (l0_1 : List Int) (a1 : Int) : Option Bool := if l0_1.length ≤ 4611686018427387904 ∧ Asc l0_1 then some (decide (a1 ∈ l0_1)) else none
theorem impl_Complex_has.calls (a0_0 : Int) (A0_1 : Option Addr) (c0_1 : Nat) (l0_1 : List Int) (a1 : Int) (r : Bool) (w : World) (hr0_1 : Kd.C (Kd.int .i64) w A0_1 l0_1.length l0_1) (_hc0_1 : l0_1.length ≤ c0_1) (h : impl_Complex_has.f a0_0 l0_1 a1 = some r) :
    Calls Tryz.prog 75 #[.agg #[.int .i64 a0_0, .slice A0_1 l0_1.length c0_1], .int .i64 a1] w fun e w' => e = .returned (.bool r) ∧ Below w.heap.size w w' := by
  unfold impl_Complex_has.f at h
  by_cases hl : l0_1.length ≤ 4611686018427387904 ∧ Asc l0_1
  · rw [if_pos hl] at h
    obtain rfl := Option.some.inj h
    exact has_c a0_0 A0_1 l0_1.length c0_1 l0_1 a1 w hr0_1 hl.1 hl.2
  · rw [if_neg hl] at h; cases h
end Go.Proofs.YtpnmifahfpmplaaGreat.Ext
namespace Go.Proofs.YtpnmifahfpmplaaGreat.QI
open Kp Ext Go.RowKit YtpnmifahfpmplaaGreatW.PrintWords YtpnmifahfpmplaaGreatW.PrintLast YtpnmifahfpmplaaGreatW.PrintMore
attribute [local go_sem] max2_int min2_int max_two min_two max_three min_three max_four min_four   -- for this text's walks alone
def errW : Option Int → Value
  | none => .nilIface
  | some c => .iface 0 (.int .i64 c)
theorem errW_none : errW none = .nilIface := rfl
theorem errW_some (c : Int) : errW (some c) = .iface 0 (.int .i64 c) := rfl
def bits_OnesCount64.f (a0 : Int) : Option (Int) := some (Go.bits .and .i64 (wrap64 (IntKind.u64.wrap ((IntKind.u64.wrap ((IntKind.u64.wrap ((Go.bits .and .u64 (IntKind.u64.wrap (((IntKind.u64.wrap ((Go.bits .and .u64 ((IntKind.u64.wrap ((Go.bits .and .u64 (a0 / 2) 6148914691236517205) + (Go.bits .and .u64 a0 6148914691236517205))) / 4) 3689348814741910323) + (Go.bits .and .u64 (IntKind.u64.wrap ((Go.bits .and .u64 (a0 / 2) 6148914691236517205) + (Go.bits .and .u64 a0 6148914691236517205))) 3689348814741910323))) / 16) + (IntKind.u64.wrap ((Go.bits .and .u64 ((IntKind.u64.wrap ((Go.bits .and .u64 (a0 / 2) 6148914691236517205) + (Go.bits .and .u64 a0 6148914691236517205))) / 4) 3689348814741910323) + (Go.bits .and .u64 (IntKind.u64.wrap ((Go.bits .and .u64 (a0 / 2) 6148914691236517205) + (Go.bits .and .u64 a0 6148914691236517205))) 3689348814741910323))))) 1085102592571150095) + ((Go.bits .and .u64 (IntKind.u64.wrap (((IntKind.u64.wrap ((Go.bits .and .u64 ((IntKind.u64.wrap ((Go.bits .and .u64 (a0 / 2) 6148914691236517205) + (Go.bits .and .u64 a0 6148914691236517205))) / 4) 3689348814741910323) + (Go.bits .and .u64 (IntKind.u64.wrap ((Go.bits .and .u64 (a0 / 2) 6148914691236517205) + (Go.bits .and .u64 a0 6148914691236517205))) 3689348814741910323))) / 16) + (IntKind.u64.wrap ((Go.bits .and .u64 ((IntKind.u64.wrap ((Go.bits .and .u64 (a0 / 2) 6148914691236517205) + (Go.bits .and .u64 a0 6148914691236517205))) / 4) 3689348814741910323) + (Go.bits .and .u64 (IntKind.u64.wrap ((Go.bits .and .u64 (a0 / 2) 6148914691236517205) + (Go.bits .and .u64 a0 6148914691236517205))) 3689348814741910323))))) 1085102592571150095) / 256))) + ((IntKind.u64.wrap ((Go.bits .and .u64 (IntKind.u64.wrap (((IntKind.u64.wrap ((Go.bits .and .u64 ((IntKind.u64.wrap ((Go.bits .and .u64 (a0 / 2) 6148914691236517205) + (Go.bits .and .u64 a0 6148914691236517205))) / 4) 3689348814741910323) + (Go.bits .and .u64 (IntKind.u64.wrap ((Go.bits .and .u64 (a0 / 2) 6148914691236517205) + (Go.bits .and .u64 a0 6148914691236517205))) 3689348814741910323))) / 16) + (IntKind.u64.wrap ((Go.bits .and .u64 ((IntKind.u64.wrap ((Go.bits .and .u64 (a0 / 2) 6148914691236517205) + (Go.bits .and .u64 a0 6148914691236517205))) / 4) 3689348814741910323) + (Go.bits .and .u64 (IntKind.u64.wrap ((Go.bits .and .u64 (a0 / 2) 6148914691236517205) + (Go.bits .and .u64 a0 6148914691236517205))) 3689348814741910323))))) 1085102592571150095) + ((Go.bits .and .u64 (IntKind.u64.wrap (((IntKind.u64.wrap ((Go.bits .and .u64 ((IntKind.u64.wrap ((Go.bits .and .u64 (a0 / 2) 6148914691236517205) + (Go.bits .and .u64 a0 6148914691236517205))) / 4) 3689348814741910323) + (Go.bits .and .u64 (IntKind.u64.wrap ((Go.bits .and .u64 (a0 / 2) 6148914691236517205) + (Go.bits .and .u64 a0 6148914691236517205))) 3689348814741910323))) / 16) + (IntKind.u64.wrap ((Go.bits .and .u64 ((IntKind.u64.wrap ((Go.bits .and .u64 (a0 / 2) 6148914691236517205) + (Go.bits .and .u64 a0 6148914691236517205))) / 4) 3689348814741910323) + (Go.bits .and .u64 (IntKind.u64.wrap ((Go.bits .and .u64 (a0 / 2) 6148914691236517205) + (Go.bits .and .u64 a0 6148914691236517205))) 3689348814741910323))))) 1085102592571150095) / 256))) / 65536))) + ((IntKind.u64.wrap ((IntKind.u64.wrap ((Go.bits .and .u64 (IntKind.u64.wrap (((IntKind.u64.wrap ((Go.bits .and .u64 ((IntKind.u64.wrap ((Go.bits .and .u64 (a0 / 2) 6148914691236517205) + (Go.bits .and .u64 a0 6148914691236517205))) / 4) 3689348814741910323) + (Go.bits .and .u64 (IntKind.u64.wrap ((Go.bits .and .u64 (a0 / 2) 6148914691236517205) + (Go.bits .and .u64 a0 6148914691236517205))) 3689348814741910323))) / 16) + (IntKind.u64.wrap ((Go.bits .and .u64 ((IntKind.u64.wrap ((Go.bits .and .u64 (a0 / 2) 6148914691236517205) + (Go.bits .and .u64 a0 6148914691236517205))) / 4) 3689348814741910323) + (Go.bits .and .u64 (IntKind.u64.wrap ((Go.bits .and .u64 (a0 / 2) 6148914691236517205) + (Go.bits .and .u64 a0 6148914691236517205))) 3689348814741910323))))) 1085102592571150095) + ((Go.bits .and .u64 (IntKind.u64.wrap (((IntKind.u64.wrap ((Go.bits .and .u64 ((IntKind.u64.wrap ((Go.bits .and .u64 (a0 / 2) 6148914691236517205) + (Go.bits .and .u64 a0 6148914691236517205))) / 4) 3689348814741910323) + (Go.bits .and .u64 (IntKind.u64.wrap ((Go.bits .and .u64 (a0 / 2) 6148914691236517205) + (Go.bits .and .u64 a0 6148914691236517205))) 3689348814741910323))) / 16) + (IntKind.u64.wrap ((Go.bits .and .u64 ((IntKind.u64.wrap ((Go.bits .and .u64 (a0 / 2) 6148914691236517205) + (Go.bits .and .u64 a0 6148914691236517205))) / 4) 3689348814741910323) + (Go.bits .and .u64 (IntKind.u64.wrap ((Go.bits .and .u64 (a0 / 2) 6148914691236517205) + (Go.bits .and .u64 a0 6148914691236517205))) 3689348814741910323))))) 1085102592571150095) / 256))) + ((IntKind.u64.wrap ((Go.bits .and .u64 (IntKind.u64.wrap (((IntKind.u64.wrap ((Go.bits .and .u64 ((IntKind.u64.wrap ((Go.bits .and .u64 (a0 / 2) 6148914691236517205) + (Go.bits .and .u64 a0 6148914691236517205))) / 4) 3689348814741910323) + (Go.bits .and .u64 (IntKind.u64.wrap ((Go.bits .and .u64 (a0 / 2) 6148914691236517205) + (Go.bits .and .u64 a0 6148914691236517205))) 3689348814741910323))) / 16) + (IntKind.u64.wrap ((Go.bits .and .u64 ((IntKind.u64.wrap ((Go.bits .and .u64 (a0 / 2) 6148914691236517205) + (Go.bits .and .u64 a0 6148914691236517205))) / 4) 3689348814741910323) + (Go.bits .and .u64 (IntKind.u64.wrap ((Go.bits .and .u64 (a0 / 2) 6148914691236517205) + (Go.bits .and .u64 a0 6148914691236517205))) 3689348814741910323))))) 1085102592571150095) + ((Go.bits .and .u64 (IntKind.u64.wrap (((IntKind.u64.wrap ((Go.bits .and .u64 ((IntKind.u64.wrap ((Go.bits .and .u64 (a0 / 2) 6148914691236517205) + (Go.bits .and .u64 a0 6148914691236517205))) / 4) 3689348814741910323) + (Go.bits .and .u64 (IntKind.u64.wrap ((Go.bits .and .u64 (a0 / 2) 6148914691236517205) + (Go.bits .and .u64 a0 6148914691236517205))) 3689348814741910323))) / 16) + (IntKind.u64.wrap ((Go.bits .and .u64 ((IntKind.u64.wrap ((Go.bits .and .u64 (a0 / 2) 6148914691236517205) + (Go.bits .and .u64 a0 6148914691236517205))) / 4) 3689348814741910323) + (Go.bits .and .u64 (IntKind.u64.wrap ((Go.bits .and .u64 (a0 / 2) 6148914691236517205) + (Go.bits .and .u64 a0 6148914691236517205))) 3689348814741910323))))) 1085102592571150095) / 256))) / 65536))) / 4294967296)))) 127)
set_option maxHeartbeats 8000000 in
set_option maxRecDepth 100000 in
theorem bits_OnesCount64.calls (a0 : Int) (r : Int) (w : World) (h : bits_OnesCount64.f a0 = some r) :
    Calls Tryz.prog 87 #[.int .u64 a0] w fun e w' => e = .returned (.int .i64 r) ∧ Drawn0 w w' := by
  have H : (some (Go.bits .and .i64 (wrap64 (IntKind.u64.wrap ((IntKind.u64.wrap ((IntKind.u64.wrap ((Go.bits .and .u64 (IntKind.u64.wrap (((IntKind.u64.wrap ((Go.bits .and .u64 ((IntKind.u64.wrap ((Go.bits .and .u64 (a0 / 2) 6148914691236517205) + (Go.bits .and .u64 a0 6148914691236517205))) / 4) 3689348814741910323) + (Go.bits .and .u64 (IntKind.u64.wrap ((Go.bits .and .u64 (a0 / 2) 6148914691236517205) + (Go.bits .and .u64 a0 6148914691236517205))) 3689348814741910323))) / 16) + (IntKind.u64.wrap ((Go.bits .and .u64 ((IntKind.u64.wrap ((Go.bits .and .u64 (a0 / 2) 6148914691236517205) + (Go.bits .and .u64 a0 6148914691236517205))) / 4) 3689348814741910323) + (Go.bits .and .u64 (IntKind.u64.wrap ((Go.bits .and .u64 (a0 / 2) 6148914691236517205) + (Go.bits .and .u64 a0 6148914691236517205))) 3689348814741910323))))) 1085102592571150095) + ((Go.bits .and .u64 (IntKind.u64.wrap (((IntKind.u64.wrap ((Go.bits .and .u64 ((IntKind.u64.wrap ((Go.bits .and .u64 (a0 / 2) 6148914691236517205) + (Go.bits .and .u64 a0 6148914691236517205))) / 4) 3689348814741910323) + (Go.bits .and .u64 (IntKind.u64.wrap ((Go.bits .and .u64 (a0 / 2) 6148914691236517205) + (Go.bits .and .u64 a0 6148914691236517205))) 3689348814741910323))) / 16) + (IntKind.u64.wrap ((Go.bits .and .u64 ((IntKind.u64.wrap ((Go.bits .and .u64 (a0 / 2) 6148914691236517205) + (Go.bits .and .u64 a0 6148914691236517205))) / 4) 3689348814741910323) + (Go.bits .and .u64 (IntKind.u64.wrap ((Go.bits .and .u64 (a0 / 2) 6148914691236517205) + (Go.bits .and .u64 a0 6148914691236517205))) 3689348814741910323))))) 1085102592571150095) / 256))) + ((IntKind.u64.wrap ((Go.bits .and .u64 (IntKind.u64.wrap (((IntKind.u64.wrap ((Go.bits .and .u64 ((IntKind.u64.wrap ((Go.bits .and .u64 (a0 / 2) 6148914691236517205) + (Go.bits .and .u64 a0 6148914691236517205))) / 4) 3689348814741910323) + (Go.bits .and .u64 (IntKind.u64.wrap ((Go.bits .and .u64 (a0 / 2) 6148914691236517205) + (Go.bits .and .u64 a0 6148914691236517205))) 3689348814741910323))) / 16) + (IntKind.u64.wrap ((Go.bits .and .u64 ((IntKind.u64.wrap ((Go.bits .and .u64 (a0 / 2) 6148914691236517205) + (Go.bits .and .u64 a0 6148914691236517205))) / 4) 3689348814741910323) + (Go.bits .and .u64 (IntKind.u64.wrap ((Go.bits .and .u64 (a0 / 2) 6148914691236517205) + (Go.bits .and .u64 a0 6148914691236517205))) 3689348814741910323))))) 1085102592571150095) + ((Go.bits .and .u64 (IntKind.u64.wrap (((IntKind.u64.wrap ((Go.bits .and .u64 ((IntKind.u64.wrap ((Go.bits .and .u64 (a0 / 2) 6148914691236517205) + (Go.bits .and .u64 a0 6148914691236517205))) / 4) 3689348814741910323) + (Go.bits .and .u64 (IntKind.u64.wrap ((Go.bits .and .u64 (a0 / 2) 6148914691236517205) + (Go.bits .and .u64 a0 6148914691236517205))) 3689348814741910323))) / 16) + (IntKind.u64.wrap ((Go.bits .and .u64 ((IntKind.u64.wrap ((Go.bits .and .u64 (a0 / 2) 6148914691236517205) + (Go.bits .and .u64 a0 6148914691236517205))) / 4) 3689348814741910323) + (Go.bits .and .u64 (IntKind.u64.wrap ((Go.bits .and .u64 (a0 / 2) 6148914691236517205) + (Go.bits .and .u64 a0 6148914691236517205))) 3689348814741910323))))) 1085102592571150095) / 256))) / 65536))) + ((IntKind.u64.wrap ((IntKind.u64.wrap ((Go.bits .and .u64 (IntKind.u64.wrap (((IntKind.u64.wrap ((Go.bits .and .u64 ((IntKind.u64.wrap ((Go.bits .and .u64 (a0 / 2) 6148914691236517205) + (Go.bits .and .u64 a0 6148914691236517205))) / 4) 3689348814741910323) + (Go.bits .and .u64 (IntKind.u64.wrap ((Go.bits .and .u64 (a0 / 2) 6148914691236517205) + (Go.bits .and .u64 a0 6148914691236517205))) 3689348814741910323))) / 16) + (IntKind.u64.wrap ((Go.bits .and .u64 ((IntKind.u64.wrap ((Go.bits .and .u64 (a0 / 2) 6148914691236517205) + (Go.bits .and .u64 a0 6148914691236517205))) / 4) 3689348814741910323) + (Go.bits .and .u64 (IntKind.u64.wrap ((Go.bits .and .u64 (a0 / 2) 6148914691236517205) + (Go.bits .and .u64 a0 6148914691236517205))) 3689348814741910323))))) 1085102592571150095) + ((Go.bits .and .u64 (IntKind.u64.wrap (((IntKind.u64.wrap ((Go.bits .and .u64 ((IntKind.u64.wrap ((Go.bits .and .u64 (a0 / 2) 6148914691236517205) + (Go.bits .and .u64 a0 6148914691236517205))) / 4) 3689348814741910323) + (Go.bits .and .u64 (IntKind.u64.wrap ((Go.bits .and .u64 (a0 / 2) 6148914691236517205) + (Go.bits .and .u64 a0 6148914691236517205))) 3689348814741910323))) / 16) + (IntKind.u64.wrap ((Go.bits .and .u64 ((IntKind.u64.wrap ((Go.bits .and .u64 (a0 / 2) 6148914691236517205) + (Go.bits .and .u64 a0 6148914691236517205))) / 4) 3689348814741910323) + (Go.bits .and .u64 (IntKind.u64.wrap ((Go.bits .and .u64 (a0 / 2) 6148914691236517205) + (Go.bits .and .u64 a0 6148914691236517205))) 3689348814741910323))))) 1085102592571150095) / 256))) + ((IntKind.u64.wrap ((Go.bits .and .u64 (IntKind.u64.wrap (((IntKind.u64.wrap ((Go.bits .and .u64 ((IntKind.u64.wrap ((Go.bits .and .u64 (a0 / 2) 6148914691236517205) + (Go.bits .and .u64 a0 6148914691236517205))) / 4) 3689348814741910323) + (Go.bits .and .u64 (IntKind.u64.wrap ((Go.bits .and .u64 (a0 / 2) 6148914691236517205) + (Go.bits .and .u64 a0 6148914691236517205))) 3689348814741910323))) / 16) + (IntKind.u64.wrap ((Go.bits .and .u64 ((IntKind.u64.wrap ((Go.bits .and .u64 (a0 / 2) 6148914691236517205) + (Go.bits .and .u64 a0 6148914691236517205))) / 4) 3689348814741910323) + (Go.bits .and .u64 (IntKind.u64.wrap ((Go.bits .and .u64 (a0 / 2) 6148914691236517205) + (Go.bits .and .u64 a0 6148914691236517205))) 3689348814741910323))))) 1085102592571150095) + ((Go.bits .and .u64 (IntKind.u64.wrap (((IntKind.u64.wrap ((Go.bits .and .u64 ((IntKind.u64.wrap ((Go.bits .and .u64 (a0 / 2) 6148914691236517205) + (Go.bits .and .u64 a0 6148914691236517205))) / 4) 3689348814741910323) + (Go.bits .and .u64 (IntKind.u64.wrap ((Go.bits .and .u64 (a0 / 2) 6148914691236517205) + (Go.bits .and .u64 a0 6148914691236517205))) 3689348814741910323))) / 16) + (IntKind.u64.wrap ((Go.bits .and .u64 ((IntKind.u64.wrap ((Go.bits .and .u64 (a0 / 2) 6148914691236517205) + (Go.bits .and .u64 a0 6148914691236517205))) / 4) 3689348814741910323) + (Go.bits .and .u64 (IntKind.u64.wrap ((Go.bits .and .u64 (a0 / 2) 6148914691236517205) + (Go.bits .and .u64 a0 6148914691236517205))) 3689348814741910323))))) 1085102592571150095) / 256))) / 65536))) / 4294967296)))) 127)) = some r := h
  clear h
  obtain rfl := Option.some.inj H
  go_enter Tryz.func87, Tryz.ntmps87
  go_wp2
  go_ret
  exact ⟨by first | rfl | (simp; done) | (simp [*]; done), by repeat (first | exact Drawn0.refl _ | apply Drawn0.step)⟩
def impl_size.f (a0 : Int) : Option (Int) := (bits_OnesCount64.f (IntKind.u64.wrap (a0))).bind fun t101 => (some t101)
set_option maxHeartbeats 8000000 in
set_option maxRecDepth 100000 in
theorem impl_size.calls (a0 : Int) (r : Int) (w : World) (h : impl_size.f a0 = some r) :
    Calls Tryz.prog 67 #[.int .i64 a0] w fun e w' => e = .returned (.int .i64 r) ∧ Drawn0 w w' := by
  have H : ((bits_OnesCount64.f (IntKind.u64.wrap (a0))).bind fun t101 => (some t101)) = some r := h
  clear h
  replace H := Option.bind_eq_some_iff.mp H
  obtain ⟨t101, A20, H⟩ := H
  replace H : (some t101) = some r := H
  have A2 := Aside0.mk A20
  clear A20
  obtain rfl := Option.some.inj H
  go_enter Tryz.func67, Tryz.ntmps67
  go_wp2_with (first | ((with_reducible refine gate_callee (f := 87) rfl ?_); refine goesL_ (some 5) rfl rfl Tryz.func87 (by kernel_rfl) rfl #[.int .u64 (IntKind.u64.wrap (a0))] rfl (by (try simp only [List.map_toArray, List.map_cons, List.map_nil]); first | done | rfl | (simp only [List.length_drop, List.length_take]; rfl)) ?_; (with_reducible refine (bits_OnesCount64.calls (IntKind.u64.wrap (a0)) t101 _ A2.out).mono ?_); rintro e w' ⟨rfl, ⟨nd, rfl⟩⟩; refine ⟨_, rfl, ?_⟩))
  go_ret
  exact ⟨by first | rfl | (simp; done) | (simp [*]; done), by repeat (first | exact Drawn0.refl _ | apply Drawn0.step)⟩
def impl_dimension.f (a0 : Int) : Option (Int) := (impl_size.f a0).bind fun t102 => (some (wrap64 (t102 - 1)))
set_option maxHeartbeats 8000000 in
set_option maxRecDepth 100000 in
theorem impl_dimension.calls (a0 : Int) (r : Int) (w : World) (h : impl_dimension.f a0 = some r) :
    Calls Tryz.prog 46 #[.int .i64 a0] w fun e w' => e = .returned (.int .i64 r) ∧ Drawn0 w w' := by
  have H : ((impl_size.f a0).bind fun t102 => (some (wrap64 (t102 - 1)))) = some r := h
  clear h
  replace H := Option.bind_eq_some_iff.mp H
  obtain ⟨t102, A20, H⟩ := H
  replace H : (some (wrap64 (t102 - 1))) = some r := H
  have A2 := Aside0.mk A20
  clear A20
  obtain rfl := Option.some.inj H
  go_enter Tryz.func46, Tryz.ntmps46
  go_wp2_with (first | ((with_reducible refine gate_callee (f := 67) rfl ?_); refine goesL_ (some 4) rfl rfl Tryz.func67 (by kernel_rfl) rfl #[.int .i64 a0] rfl (by (try simp only [List.map_toArray, List.map_cons, List.map_nil]); first | done | rfl | (simp only [List.length_drop, List.length_take]; rfl)) ?_; (with_reducible refine (impl_size.calls a0 t102 _ A2.out).mono ?_); rintro e w' ⟨rfl, ⟨nd, rfl⟩⟩; refine ⟨_, rfl, ?_⟩))
  go_ret
  exact ⟨by first | rfl | (simp; done) | (simp [*]; done), by repeat (first | exact Drawn0.refl _ | apply Drawn0.step)⟩
def impl_Complex_dimension.l0 : Nat → Int → List Int → Int → Int → Option (Int)
  | 0, _, _, _, _ => none
  | k + 1, x3, x7, x8, x9 => if x9 < x8 then (if 0 ≤ x9 then (if x9 < (x7.length : Int) then ((impl_dimension.f (rd x7 x9)).bind fun t105 => (impl_Complex_dimension.l0 k (mx x3 t105) x7 x8 (wrap64 (x9 + 1)))) else (none)) else (none)) else (some x3)
def impl_Complex_dimension.f (k : Nat) (a0_0 : Int) (l0_1 : List Int) : Option (Int) := impl_Complex_dimension.l0 k (-1) l0_1 (l0_1.length : Int) 0
set_option maxHeartbeats 8000000 in
set_option maxRecDepth 100000 in
theorem impl_Complex_dimension.calls (k : Nat) (a0_0 : Int) (A0_1 : Option Addr) (c0_1 : Nat) (l0_1 : List Int) (r : Int) (w : World) (hr0_1 : Kd.C (Kd.int .i64) w A0_1 l0_1.length l0_1) (hc0_1 : l0_1.length ≤ c0_1) (h : impl_Complex_dimension.f k a0_0 l0_1 = some r) :
    Calls Tryz.prog 45 #[.agg #[.int .i64 a0_0, .slice A0_1 l0_1.length c0_1]] w fun e w' => e = .returned (.int .i64 r) ∧ Below w.heap.size w w' := by
  have hu26 := Tryz.underlying26
  have HR0_1 := Aside0.mk hr0_1
  have HC0_1 := Aside0.mk hc0_1
  clear hr0_1 hc0_1
  have HB := Aside0.mk (Below.refl w.heap.size w)
  have H : (impl_Complex_dimension.l0 k (-1) l0_1 (l0_1.length : Int) 0) = some r := h
  clear h
  have H' := Aside0.mk H
  clear H
  go_enter Tryz.func45, Tryz.ntmps45
  go_wp2_with (first | ((with_reducible refine gate_dst (N := 1) rfl ?_); refine box_event ?hg (N := 1) ?hd (cs := #[.int .i64 a0_0, .slice A0_1 l0_1.length c0_1]) (t := 26) ?hr ?_; (case hd => rfl); (case hg => rfl); (case hr => first | (go_simp; done) | (go_simp; rfl)); intro gb103 hg w2 hbox hb; have n0_ := Aside0.mk (below_step (by repeat (first | (with_reducible first | exact HB.out | apply below_alloc | apply pw_below_drewN | apply below_drew1) | exact HB.out)) hb); have n1_ := Aside0.mk (hbox); have n2_ := Aside0.mk ((by rw [hg]; exact (below_size (by repeat (first | (with_reducible first | exact HB.out | apply below_alloc | apply pw_below_drewN | apply below_drew1) | exact HB.out))) : w.heap.size ≤ gb103)); have n3_ := Aside0.mk ((by rw [hg]; exact (below_size (by repeat (first | (with_reducible first | exact HB.out | apply below_alloc | apply pw_below_drewN | apply below_drew1) | exact HB.out))) : w.heap.size ≤ gb103)); clear HB; have HB := n0_; have BK103 := n1_; have GW103 := n2_; have GE103 := n3_; clear n0_ n1_ n2_ n3_; clear hb hbox hg; have hcz3_0 : w2.cell? ⟨gb103, 0, none⟩ = some (.int .i64 a0_0) := (blk_cell BK103.out 0).trans rfl; have hcz3_1 : w2.cell? ⟨gb103, 1, none⟩ = some (.slice A0_1 l0_1.length c0_1) := (blk_cell BK103.out 1).trans rfl; have hfz3_0 := blk_frozen BK103.out 0; have hfz3_1 := blk_frozen BK103.out 1))
  go_loopg [3, 9] k (fun kq v3 v9 w' => ∃ (x3_1 : Int) (x9_1 : Int), v3 = .int .i64 x3_1 ∧ v9 = .int .i64 x9_1 ∧ Aside0 (impl_Complex_dimension.l0 kq x3_1 l0_1 (l0_1.length : Int) x9_1 = some r) ∧ Aside0 (kq ≤ k) ∧ Aside0 (w'.heap[gb103]? = some (.cells #[.int .i64 a0_0, (.slice A0_1 l0_1.length c0_1)] 26 (0, 0))) ∧ Aside0 (Below w.heap.size w w'))
  case atStart => exact ⟨((-1)), (0), (by first | rfl | (simp; done) | (simp [*]; done)), (by first | rfl | (simp; done) | (simp [*]; done)), H', ⟨Nat.le_refl _⟩, ⟨by (with_reducible repeat (first | refine blk_drewN ?_ _ | refine blk_drew ?_ | refine blk_alloc ?_ _)); exact BK103.out⟩, ⟨by repeat (first | (with_reducible first | exact HB.out | apply below_alloc | apply pw_below_drewN | apply below_drew1 | refine below_set ?_ GE103.out) | exact HB.out)⟩⟩
  case round =>
    clear H'
    try clear p2
    try clear hcz3_0
    try clear hcz3_1
    try clear hfz3_0
    try clear hfz3_1
    obtain ⟨x3_1, x9_1, rfl, rfl, HA, HK1, BK103, HB⟩ := hrel
    cases gk with
    | zero => exact absurd HA.out (by simp [impl_Complex_dimension.l0])
    | succ k1 =>
      have H := HA.out
      clear HA
      simp only [impl_Complex_dimension.l0] at H
      by_cases c4 : x9_1 < (l0_1.length : Int)
      · rw [if_pos c4] at H
        have c4b0 : decide (x9_1 < (l0_1.length : Int)) = true := decide_eq_true c4
        clear c4
        by_cases c5 : 0 ≤ x9_1
        · rw [if_pos c5] at H
          have c5b0 : decide (0 ≤ x9_1) = true := decide_eq_true c5
          clear c5
          by_cases c6 : x9_1 < (l0_1.length : Int)
          · rw [if_pos c6] at H
            have c6b0 : decide (x9_1 < (l0_1.length : Int)) = true := decide_eq_true c6
            clear c6
            replace H := Option.bind_eq_some_iff.mp H
            obtain ⟨t105, A70, H⟩ := H
            replace H : (impl_Complex_dimension.l0 k1 (mx x3_1 t105) l0_1 (l0_1.length : Int) (wrap64 (x9_1 + 1))) = some r := H
            have A7 := Aside0.mk A70
            clear A70
            obtain ⟨ji8, hji8⟩ : ∃ j_ : Int, (mx x3_1 t105) = j_ := ⟨_, rfl⟩
            replace H : (impl_Complex_dimension.l0 k1 ji8 l0_1 (l0_1.length : Int) (wrap64 (x9_1 + 1))) = some r := by first | (rw [hji8] at H; exact H) | (simp only [hji8] at H ⊢; exact H)
            (try rw [hji8] at A7)
            have hji8_ : (if x3_1 < t105 then t105 else x3_1) = ji8 := hji8
            have H' := Aside0.mk H
            clear H
            have p104 : 0 ≤ (x9_1 : Int) := of_decide_eq_true (by first | (with_reducible assumption) | assumption)
            have q104 : x9_1 < (l0_1.length : Int) := of_decide_eq_true (by first | (with_reducible assumption) | assumption)
            obtain ⟨ad104, e104, hx104_0⟩ := Kd.at_int HR0_1.out x9_1 p104 q104
            cases e104
            replace hx104_0 := (HB.out.cell (World.block_lt_of_cell? w _ hx104_0)).trans hx104_0
            replace p104 := eq_true p104
            replace q104 := eq_true q104
            go_wp2_with (first | ((with_reducible refine gate_callee (f := 46) rfl ?_); refine goesL_ (some 15) rfl rfl Tryz.func46 (by kernel_rfl) rfl #[.int .i64 (rd l0_1 x9_1)] rfl (by (try simp only [List.map_toArray, List.map_cons, List.map_nil]); first | done | rfl | (simp only [List.length_drop, List.length_take]; rfl)) ?_; (with_reducible refine (impl_dimension.calls (rd l0_1 x9_1) t105 _ A7.out).mono ?_); rintro e w' ⟨rfl, ⟨nd, rfl⟩⟩; refine ⟨_, rfl, ?_⟩))
            go_roundg k1
            case measure => have := HK1.out; omega
            case rel => exact ⟨(ji8), (wrap64 (x9_1 + 1)), (by first | rfl | (simp; done) | (simp only [← hji8] <;> (first | rfl | simp)) | (simp [*]; done)), (by first | rfl | (simp; done) | (simp [*]; done)), H', ⟨by have := HK1.out; omega⟩, ⟨by (with_reducible repeat (first | refine blk_drewN ?_ _ | refine blk_drew ?_ | refine blk_alloc ?_ _)); exact BK103.out⟩, ⟨by repeat (first | (with_reducible first | exact HB.out | apply below_alloc | apply pw_below_drewN | apply below_drew1 | refine below_set ?_ GE103.out) | exact HB.out)⟩⟩
          · rw [if_neg c6] at H
            exact absurd H (by simp)
        · rw [if_neg c5] at H
          exact absurd H (by simp)
      · rw [if_neg c4] at H
        have c4b0 : decide (x9_1 < (l0_1.length : Int)) = false := decide_eq_false c4
        clear c4
        obtain rfl := Option.some.inj H
        go_wp2
        go_ret
        exact ⟨by first | rfl | (simp [errW_none, errW_some] <;> rfl) | (simp [*, errW_none, errW_some] <;> rfl), by repeat (first | (with_reducible first | exact HB.out | apply below_alloc | apply pw_below_drewN | apply below_drew1 | refine below_set ?_ GE103.out) | exact HB.out)⟩
end Go.Proofs.YtpnmifahfpmplaaGreat.QI
namespace Go.Proofs.YtpnmifahfpmplaaGreat.Im
open Go.RowKit Go.Shelf QI Ext YtpnmifahfpmplaaGreatW.PrintWords YtpnmifahfpmplaaGreatW.PrintLast YtpnmifahfpmplaaGreatW.PrintMore
def onesZ (x : Int) : Int := ((verts x).length : Int)
theorem size_all : ((List.range 64).all fun f => impl_size.f (f : Int) == some (onesZ (f : Int))) = true := by decide +kernel
theorem size_eq {x : Int} (h0 : 0 ≤ x) (h6 : x ≤ 63) : impl_size.f x = some (onesZ x) := by
  obtain ⟨m, rfl⟩ := Int.eq_ofNat_of_zero_le h0
  exact eq_of_beq (List.all_eq_true.1 size_all m (List.mem_range.2 (by omega)))
theorem isC_63 {n : Int} {l : List Int} (h : isC n l = true) : ∀ x ∈ l, 1 ≤ x ∧ x ≤ 63 := by
  obtain ⟨⟨h1, h6⟩, ha, _⟩ := isC_of h
  intro x hx
  obtain ⟨i, hi, rfl⟩ := List.mem_iff_getElem.1 hx
  have h2 := List.all_eq_true.1 ha i (List.mem_range.2 hi)
  simp only [okAt, List.getElem?_eq_getElem hi, Option.getD_some, withinB, Bool.and_eq_true, decide_eq_true_eq] at h2
  have hF : fullZ n ≤ 63 := by
    obtain rfl | rfl | rfl | rfl | rfl | rfl : n = 1 ∨ n = 2 ∨ n = 3 ∨ n = 4 ∨ n = 5 ∨ n = 6 := by omega
    all_goals decide +kernel
  omega
theorem w64' {x : Int} (h1 : -9223372036854775808 ≤ x) (h2 : x ≤ 9223372036854775807) : wrap64 x = x := by unfold wrap64; omega
theorem rd_at' {l : List Int} {i : Nat} (h : i < l.length) : rd l (i : Int) = l[i] := by simp [rd, List.getD_eq_getElem?_getD, List.getElem?_eq_getElem h]
theorem dim_eq {x : Int} (h0 : 0 ≤ x) (h6 : x ≤ 63) : impl_dimension.f x = some (onesZ x - 1) := by
  unfold impl_dimension.f
  rw [size_eq h0 h6]
  have : (verts x).length ≤ 6 := verts_len x
  simp only [Option.bind_some]
  rw [w64' (by unfold onesZ; omega) (by unfold onesZ; omega)]
def dimL (l : List Int) : Int := l.foldl (fun a x => max a (onesZ x - 1)) (-1)
theorem dim_loop (l : List Int) (hr : ∀ x ∈ l, 1 ≤ x ∧ x ≤ 63) (hm : l.length ≤ 4611686018427387904) :
    ∀ d (i : Nat) (a : Int), l.length - i = d → i ≤ l.length → Ev (fun k => impl_Complex_dimension.l0 k a l (l.length : Int) i) ((l.drop i).foldl (fun a x => max a (onesZ x - 1)) a) := by
  intro d
  induction d with
  | zero =>
    intro i a hd hi
    rw [List.drop_eq_nil_of_le (by omega)]
    refine Ev.step (f := fun k => some a) (fun k => ?_) (Ev.now _)
    simp only [impl_Complex_dimension.l0]; rw [if_neg (by omega)]
  | succ d ih =>
    intro i a hd hi
    have hi' : i < l.length := by omega
    have hx := hr _ (List.getElem_mem hi')
    rw [List.drop_eq_getElem_cons hi', List.foldl_cons]
    refine Ev.step (f := fun k => impl_Complex_dimension.l0 k (max a (onesZ l[i] - 1)) l (l.length : Int) ((i + 1 : Nat) : Int)) (fun k => ?_) (ih (i + 1) _ (by omega) (by omega))
    simp only [impl_Complex_dimension.l0]
    rw [if_pos (by omega), if_pos (by omega), if_pos (by omega), rd_at' hi', dim_eq (by omega) (by omega)]
    simp only [Option.bind_some]
    rw [show wrap64 ((i : Int) + 1) = ((i + 1 : Nat) : Int) by rw [w64' (by omega) (by omega)]; omega, show mx a (onesZ l[i] - 1) = max a (onesZ l[i] - 1) by unfold mx; split <;> omega]
theorem dimension_c (m : Int) (A : Option Addr) (c : Nat) (xs : List Int) (w : World) (hr : RC w A xs.length xs) (hc : xs.length ≤ c) (hi : isC m xs = true) :
    Calls Tryz.prog 45 #[.agg #[.int .i64 m, .slice A xs.length c]] w fun e w' => e = .returned (.int .i64 (dimL xs)) ∧ Below w.heap.size w w' := by
  obtain ⟨k, hk⟩ := (dim_loop xs (isC_63 hi) (by have := isC_small hi; omega) _ 0 (-1) rfl (Nat.zero_le _)).rounds
  exact impl_Complex_dimension.calls k m A c xs _ w hr hc hk
end Go.Proofs.YtpnmifahfpmplaaGreat.Im
namespace Go.Proofs.YtpnmifahfpmplaaGreat.QS
open Cw Kp Ext Go.RowKit YtpnmifahfpmplaaGreatW.PrintWords YtpnmifahfpmplaaGreatW.PrintLast YtpnmifahfpmplaaGreatW.PrintMore
attribute [local go_sem] max2_int min2_int max_two min_two max_three min_three max_four min_four   -- for this text's walks alone
def spec_l01Ones.l0 : Nat → Int → Int → Option (Int)
 | 0, _, _ => none
 | k + 1, x0, x3 => if x0 > 0 then (spec_l01Ones.l0 k (wrap64 (Int.tdiv x0 2)) (wrap64 (x3 + (Int.tmod x0 2)))) else (some x3)
def spec_l01Ones.f (k : Nat) (a0 : Int) : Option (Int) := spec_l01Ones.l0 k a0 0
theorem spec_l01Ones.mono_l : ∀ k, (∀ y0 y1, LeO (spec_l01Ones.l0 k y0 y1) (spec_l01Ones.l0 (k + 1) y0 y1))
 | 0 => fun _ _ r h => by simp [spec_l01Ones.l0] at h
 | k + 1 => by
  have ih0 := spec_l01Ones.mono_l k
  ·intro y0 y1
   unfold spec_l01Ones.l0
   repeat' first
   | (with_reducible exact ih0 _ _)
   | (with_reducible exact LeO.refl _)
   | (with_reducible exact LeO.none _)
   | (with_reducible refine LeO.ite ?_ ?_)
   | (with_reducible refine LeO.bind ?_ (fun _ => ?_))
   | exact ih0 _ _
   | exact LeO.none _
   | refine LeO.ite ?_ ?_
   | refine LeO.bind ?_ (fun _ => ?_)
theorem spec_l01Ones.mono : ∀ a0 k, LeO (spec_l01Ones.f k a0) (spec_l01Ones.f (k + 1) a0) := by
 intro a0 k
 have ih0 := spec_l01Ones.mono_l k
 unfold spec_l01Ones.f
 repeat' first
   | (with_reducible exact ih0 _ _)
   | (with_reducible exact LeO.refl _)
   | (with_reducible exact LeO.none _)
   | (with_reducible refine LeO.ite ?_ ?_)
   | (with_reducible refine LeO.bind ?_ (fun _ => ?_))
   | exact ih0 _ _
   | exact LeO.none _
   | refine LeO.ite ?_ ?_
   | refine LeO.bind ?_ (fun _ => ?_)
set_option maxHeartbeats 8000000 in
set_option maxRecDepth 100000 in
theorem spec_l01Ones.calls (k : Nat) (a0 : Int) (r : Int) (w : World) (h : spec_l01Ones.f k a0 = some r) :
  Calls Tryz.prog 68 #[.int .i64 a0] w fun e w' => e = .returned (.int .i64 r) ∧ Drawn0 w w' := by
 have H : (spec_l01Ones.l0 k a0 0) = some r := h
 clear h
 have H' := Aside0.mk H
 clear H
 go_enter Tryz.func68, Tryz.ntmps68
 go_wp2
 go_loopg [0, 3] k (fun kq v0 v3 w' => ∃ (x0_1 : Int) (x3_1 : Int), v0 = .int .i64 x0_1 ∧ v3 = .int .i64 x3_1 ∧ Aside0 (spec_l01Ones.l0 kq x0_1 x3_1 = some r) ∧ Aside0 (kq ≤ k) ∧ Drawn0 w w')
 case atStart => exact ⟨(a0), (0), (by first | rfl | (simp; done) | (simp [*]; done)), (by first | rfl | (simp; done) | (simp [*]; done)), H', ⟨Nat.le_refl _⟩, by repeat (first | exact Drawn0.refl _ | apply Drawn0.step)⟩
 case round =>
  clear H'
  obtain ⟨x0_1, x3_1, rfl, rfl, HA, HK1, ⟨m1, rfl⟩⟩ := hrel
  cases gk with
  | zero => exact absurd HA.out (by simp [spec_l01Ones.l0])
  | succ k1 =>
   have H := HA.out
   clear HA
   simp only [spec_l01Ones.l0] at H
   by_cases c2 : x0_1 > 0
   ·rw [if_pos c2] at H
    have c2b0 : decide (0 < x0_1) = true := decide_eq_true c2
    clear c2
    have H' := Aside0.mk H
    clear H
    go_wp2
    go_roundg k1
    case measure => have := HK1.out; omega
    case rel => exact ⟨(wrap64 (Int.tdiv x0_1 2)), (wrap64 (x3_1 + (Int.tmod x0_1 2))), (by first | rfl | (simp; done) | (simp [*]; done)), (by first | rfl | (simp; done) | (simp [*]; done)), H', ⟨by have := HK1.out; omega⟩, by repeat (first | exact Drawn0.refl _ | apply Drawn0.step)⟩
   ·rw [if_neg c2] at H
    have c2b0 : decide (0 < x0_1) = false := decide_eq_false c2
    clear c2
    obtain rfl := Option.some.inj H
    go_wp2
    go_ret
    exact ⟨by first | rfl | (simp; done) | (simp [*]; done), by repeat (first | exact Drawn0.refl _ | apply Drawn0.step)⟩
def spec_l01Above.l0 : Nat → Int → List Int → Int → Int → List Int → Option (List Int)
 | 0, _, _, _, _, _ => none
 | k + 1, x1, x5, x6, x300000, x300001 => if x6 < (x300001.length : Int) then (if 0 ≤ x6 then (if (Go.bits .and .i64 (rd x300001 x6) x1) = x1 then ((spec_l01Ones.f k (rd x300001 x6)).bind fun t305 => ((spec_l01Ones.f k x1).bind fun t306 => (if t305 = (wrap64 (t306 + 1)) then (if x5.length < 17592186044416 then (spec_l01Above.l0 k x1 (x5 ++ [rd x300001 x6]) (wrap64 (x6 + 1)) x300000 x300001) else (none)) else (spec_l01Above.l0 k x1 x5 (wrap64 (x6 + 1)) x300000 x300001)))) else (spec_l01Above.l0 k x1 x5 (wrap64 (x6 + 1)) x300000 x300001)) else (none)) else (some x5)
def spec_l01Above.f (k : Nat) (a0_0 : Int) (l0_1 : List Int) (a1 : Int) : Option (List Int) := spec_l01Above.l0 k a1 (([] : List Int)) 0 a0_0 l0_1
set_option maxHeartbeats 8000000 in
set_option maxRecDepth 100000 in
theorem spec_l01Above.calls (k : Nat) (a0_0 : Int) (A0_1 : Option Addr) (c0_1 : Nat) (l0_1 : List Int) (a1 : Int) (r : List Int) (w : World) (hr0_1 : Kd.C (Kd.int .i64) w A0_1 l0_1.length l0_1) (hc0_1 : l0_1.length ≤ c0_1) (h : spec_l01Above.f k a0_0 l0_1 a1 = some r) :
  Calls Tryz.prog 103 #[.agg #[.int .i64 a0_0, .slice A0_1 l0_1.length c0_1], .int .i64 a1] w fun e w' => ∃ v0_ : Value, e = .returned (v0_) ∧ Kd.R (Kd.int .i64) 2 w' w.heap.size (fun _ => True) v0_ r ∧ Below w.heap.size w w' := by
 have hu26 := Tryz.underlying26
 have HR0_1 := Aside0.mk hr0_1
 have HC0_1 := Aside0.mk hc0_1
 clear hr0_1 hc0_1
 have HB := Aside0.mk (Below.refl w.heap.size w)
 have H : (spec_l01Above.l0 k a1 (([] : List Int)) 0 a0_0 l0_1) = some r := h
 clear h
 obtain ⟨y300, hy300⟩ : ∃ y_ : List Int, y_ = (([] : List Int)) := ⟨_, rfl⟩
 replace H : (spec_l01Above.l0 k a1 y300 0 a0_0 l0_1) = some r := by first | (rw [hy300]; with_reducible exact H) | (have H2_ := (Option.bind_some _ _).symm.trans H; rw [hy300]; with_reducible exact H2_) | (have H2_ := (Option.bind_some _ _).symm.trans H; with_reducible exact H2_) | with_reducible exact H | (rw [hy300]; exact H) | exact H
 have Ny300 := Aside0.mk hy300
 clear hy300
 have H' := Aside0.mk H
 clear H
 go_enter Tryz.func103, Tryz.ntmps103
 go_wp2_with (first | ((with_reducible refine gate_dst (N := 2) rfl ?_); refine box_event ?hg (N := 2) ?hd (cs := #[.int .i64 a0_0, .slice A0_1 l0_1.length c0_1]) (t := 26) ?hr ?_; (case hd => rfl); (case hg => rfl); (case hr => first | (go_simp; done) | (go_simp; rfl)); intro gb299 hg w3 hbox hb; have BK299 := Aside0.mk (hbox); have GW299 := gH HB hg; have GE299 := gH HB hg; replace HB := sH HB hb; clear hb hbox hg) | ((with_reducible refine gate_dst (N := 7) rfl ?_); refine Kd.R_lit (Kd.int .i64) _ 2 ?hg (N := 7) ?hd (xs := ([] : List Int)) (inner := []) (ok := fun _ => True) (okp := fun _ => True) ?hr ?hp (fun _ hk => hk) trivial (Below.refl _ _) (Nat.le_refl _) (by simp) ?_; (case hd => rfl); (case hg => rfl); (case hr => first | (go_simp; done) | (go_simp; rfl)); (case hp => exact (Reps.none _ _)); intro v301 w4 ho5 hb hg_ hnew_; clear hg_ hnew_; (first | rw [← Ny300.out] at ho5 | (simp only [Int.reduceToNat] at ho5; rw [← Ny300.out] at ho5)); have HO302 := Aside0.mk (Kd.R_lower ho5 (below_size (pH HB))); replace BK299 := sB BK299 hb; replace HB := sH HB hb; clear hb ho5))
 go_loopg [5, 6] k (fun kq v5 v6 w' => ∃ (x5_1 : List Int) (x6_1 : Int), v6 = .int .i64 x6_1 ∧ Aside0 (spec_l01Above.l0 kq a1 x5_1 x6_1 a0_0 l0_1 = some r) ∧ Aside0 (kq ≤ k) ∧ Aside0 (Kd.R (Kd.int .i64) 2 w' w.heap.size (fun _ => True) v5 x5_1) ∧ Aside0 (w'.heap[gb299]? = some (.cells #[.int .i64 a0_0, (.slice A0_1 l0_1.length c0_1)] 26 (0, 0))) ∧ Aside0 (Below w.heap.size w w'))
 case atStart => exact ⟨(y300), (0), (by first | rfl | (simp; done) | (simp [*]; done)), H', ⟨Nat.le_refl _⟩, ⟨by (with_reducible repeat (first | apply Kd.R_alloc | apply Kd.R_drewN | apply Kd.R_drew)); exact HO302.out⟩, ⟨pB BK299⟩, ⟨pH HB⟩⟩
 case round =>
  clear H'
  try clear c1
  try clear p2
  obtain ⟨x5_1, x6_1, rfl, HA, HK1, HO_5, BK299, HB⟩ := hrel
  cases gk with
  | zero => exact absurd HA.out (by simp [spec_l01Above.l0])
  | succ k1 =>
   have H := HA.out
   clear HA
   simp only [spec_l01Above.l0] at H
   by_cases c6 : x6_1 < (l0_1.length : Int)
   ·rw [if_pos c6] at H
    have c6b0 : decide (x6_1 < (l0_1.length : Int)) = true := decide_eq_true c6
    clear c6
    by_cases c7 : 0 ≤ x6_1
    ·rw [if_pos c7] at H
     have c7b0 : decide (0 ≤ x6_1) = true := decide_eq_true c7
     clear c7
     by_cases c8 : (Go.bits .and .i64 (rd l0_1 x6_1) a1) = a1
     ·rw [if_pos c8] at H
      have c8b0 : ((Go.bits .and .i64 (rd l0_1 x6_1) a1) == a1) = true := beq_iff_eq.mpr c8
      have c8b1 : ((Go.bits .and .i64 (rd l0_1 x6_1) a1) != a1) = false := bne_eq_false_iff_eq.mpr c8
      clear c8
      replace H := Option.bind_eq_some_iff.mp H
      obtain ⟨t305, A90, H⟩ := H
      try dsimp only at H
      have A9 := Aside0.mk A90
      clear A90
      replace H := Option.bind_eq_some_iff.mp H
      obtain ⟨t306, A100, H⟩ := H
      try dsimp only at H
      have A10 := Aside0.mk A100
      clear A100
      by_cases c11 : t305 = (wrap64 (t306 + 1))
      ·rw [if_pos c11] at H
       have c11b0 : (t305 == (wrap64 (t306 + 1))) = true := beq_iff_eq.mpr c11
       have c11b1 : (t305 != (wrap64 (t306 + 1))) = false := bne_eq_false_iff_eq.mpr c11
       clear c11
       by_cases c12 : x5_1.length < 17592186044416
       ·rw [if_pos c12] at H
        have LMc12 := Aside0.mk c12
        clear c12
        obtain ⟨y308, hy308⟩ : ∃ y_ : List Int, y_ = (x5_1 ++ [rd l0_1 x6_1]) := ⟨_, rfl⟩
        replace H : (spec_l01Above.l0 k1 a1 y308 (wrap64 (x6_1 + 1)) a0_0 l0_1) = some r := by first | (rw [hy308]; with_reducible exact H) | (have H2_ := (Option.bind_some _ _).symm.trans H; rw [hy308]; with_reducible exact H2_) | (have H2_ := (Option.bind_some _ _).symm.trans H; with_reducible exact H2_) | with_reducible exact H | (rw [hy308]; exact H) | exact H
        have Ny308 := Aside0.mk hy308
        clear hy308
        have H' := Aside0.mk H
        clear H
        have hcz13_0 : wr.cell? ⟨gb299, 0, none⟩ = some (.int .i64 a0_0) := cB BK299 0
        have hcz13_1 : wr.cell? ⟨gb299, 1, none⟩ = some (.slice A0_1 l0_1.length c0_1) := cB BK299 1
        have hfz13_0 := zB BK299 0
        have hfz13_1 := zB BK299 1
        have p303 : 0 ≤ (x6_1 : Int) := of_decide_eq_true (by first | (with_reducible assumption) | assumption)
        have q303 : x6_1 < (l0_1.length : Int) := of_decide_eq_true (by first | (with_reducible assumption) | assumption)
        obtain ⟨ad303, e303, hx303_0⟩ := Kd.at_int HR0_1.out x6_1 p303 q303
        cases e303
        replace hx303_0 := cH HB hx303_0
        replace p303 := eq_true p303
        replace q303 := eq_true q303
        have p304 : 0 ≤ (x6_1 : Int) := of_decide_eq_true (by first | (with_reducible assumption) | assumption)
        have q304 : x6_1 < (l0_1.length : Int) := of_decide_eq_true (by first | (with_reducible assumption) | assumption)
        obtain ⟨ad304, e304, hx304_0⟩ := Kd.at_int HR0_1.out x6_1 p304 q304
        obtain rfl : ad303 = ad304 := (by injection e304)
        replace hx304_0 := cH HB hx304_0
        replace p304 := eq_true p304
        replace q304 := eq_true q304
        go_wp2_with (first | (go_at_call 68; (with_reducible refine (spec_l01Ones.calls k1 (rd l0_1 x6_1) t305 _ A9.out).mono ?_); rintro e w' ⟨rfl, ⟨nd, rfl⟩⟩) | (go_at_call 68; (with_reducible refine (spec_l01Ones.calls k1 a1 t306 _ A10.out).mono ?_); rintro e w' ⟨rfl, ⟨nd, rfl⟩⟩; have p307 : 0 ≤ (x6_1 : Int) := of_decide_eq_true (by first | (with_reducible assumption) | assumption); have q307 : x6_1 < (l0_1.length : Int) := of_decide_eq_true (by first | (with_reducible assumption) | assumption); obtain ⟨ad307, e307, hx307_0⟩ := Kd.at_int HR0_1.out x6_1 p307 q307; obtain rfl : ad303 = ad307 := (by injection e307); replace hx307_0 := cH HB hx307_0; replace p307 := eq_true p307; replace q307 := eq_true q307) | ((with_reducible refine gate_builtin (b := .append) (xs := #[.tmp 36, .tmp 42]) rfl ?_); at_builtin; refine Kd.R_append (Kd.int .i64) (w0 := w) w.heap.size rfl (.tmp 36) (.tmp 42) 24 2 (.int .i64 0) 8 rfl Tryz.underlying24 info2 rfl (by decide) (by omega) u5 x5_1 (rd l0_1 x6_1) [.int .i64 (rd l0_1 x6_1)] (fun _ => True) (fun _ => False) rfl rfl ?aP (fun _ hk => hk.elim) ?aF ?aO ?aB ?aS ?aL ?_; (case aP => exact rfl); (case aB => exact (pH HB)); (case aF => exact (fun _ _ => trivial)); (case aO => exact (pR HO_5)); (case aS => exact (below_size (pH HB))); (case aL => have := LMc12.out; omega); intro v309 w14 ho hb hg hat; rw [← Ny308.out] at ho; replace BK299 := Aside0.mk (blk_grown (g := gb299) (o := .cells #[.int .i64 a0_0, .slice (some ad303) l0_1.length c0_1] 26 (0, 0)) (pB BK299) hg (Kd.R_ne HO_5.out BK299.out (by decide))); replace HB := Aside0.mk (hb); have HO310 := Aside0.mk (ho); clear HO_5; clear ho hb hg hat))
        go_roundg k1
        case measure => have := HK1.out; omega
        case rel => exact ⟨(y308), (wrap64 (x6_1 + 1)), (by first | rfl | (simp; done) | (simp [*]; done)), H', ⟨by have := HK1.out; omega⟩, ⟨by (with_reducible repeat (first | apply Kd.R_alloc | apply Kd.R_drewN | apply Kd.R_drew)); exact HO310.out⟩, ⟨pB BK299⟩, ⟨pH HB⟩⟩
       ·rw [if_neg c12] at H
        exact absurd H (by simp)
      ·rw [if_neg c11] at H
       have c11b0 : (t305 == (wrap64 (t306 + 1))) = false := beq_eq_false_iff_ne.mpr c11
       have c11b1 : (t305 != (wrap64 (t306 + 1))) = true := bne_iff_ne.mpr c11
       have H' := Aside0.mk H
       clear H
       have hcz15_0 : wr.cell? ⟨gb299, 0, none⟩ = some (.int .i64 a0_0) := cB BK299 0
       have hcz15_1 : wr.cell? ⟨gb299, 1, none⟩ = some (.slice A0_1 l0_1.length c0_1) := cB BK299 1
       have hfz15_0 := zB BK299 0
       have hfz15_1 := zB BK299 1
       have p303 : 0 ≤ (x6_1 : Int) := of_decide_eq_true (by first | (with_reducible assumption) | assumption)
       have q303 : x6_1 < (l0_1.length : Int) := of_decide_eq_true (by first | (with_reducible assumption) | assumption)
       obtain ⟨ad303, e303, hx303_0⟩ := Kd.at_int HR0_1.out x6_1 p303 q303
       cases e303
       replace hx303_0 := cH HB hx303_0
       replace p303 := eq_true p303
       replace q303 := eq_true q303
       have p304 : 0 ≤ (x6_1 : Int) := of_decide_eq_true (by first | (with_reducible assumption) | assumption)
       have q304 : x6_1 < (l0_1.length : Int) := of_decide_eq_true (by first | (with_reducible assumption) | assumption)
       obtain ⟨ad304, e304, hx304_0⟩ := Kd.at_int HR0_1.out x6_1 p304 q304
       obtain rfl : ad303 = ad304 := (by injection e304)
       replace hx304_0 := cH HB hx304_0
       replace p304 := eq_true p304
       replace q304 := eq_true q304
       go_wp2_with (first | (go_at_call 68; (with_reducible refine (spec_l01Ones.calls k1 (rd l0_1 x6_1) t305 _ A9.out).mono ?_); rintro e w' ⟨rfl, ⟨nd, rfl⟩⟩) | (go_at_call 68; (with_reducible refine (spec_l01Ones.calls k1 a1 t306 _ A10.out).mono ?_); rintro e w' ⟨rfl, ⟨nd, rfl⟩⟩))
       go_roundg k1
       case measure => have := HK1.out; omega
       case rel => exact ⟨(x5_1), (wrap64 (x6_1 + 1)), (by first | rfl | (simp; done) | (simp [*]; done)), H', ⟨by have := HK1.out; omega⟩, ⟨by (with_reducible repeat (first | apply Kd.R_alloc | apply Kd.R_drewN | apply Kd.R_drew)); exact HO_5.out⟩, ⟨pB BK299⟩, ⟨pH HB⟩⟩
     ·rw [if_neg c8] at H
      have c8b0 : ((Go.bits .and .i64 (rd l0_1 x6_1) a1) == a1) = false := beq_eq_false_iff_ne.mpr c8
      have c8b1 : ((Go.bits .and .i64 (rd l0_1 x6_1) a1) != a1) = true := bne_iff_ne.mpr c8
      have H' := Aside0.mk H
      clear H
      have hcz16_0 : wr.cell? ⟨gb299, 0, none⟩ = some (.int .i64 a0_0) := cB BK299 0
      have hcz16_1 : wr.cell? ⟨gb299, 1, none⟩ = some (.slice A0_1 l0_1.length c0_1) := cB BK299 1
      have hfz16_0 := zB BK299 0
      have hfz16_1 := zB BK299 1
      have p303 : 0 ≤ (x6_1 : Int) := of_decide_eq_true (by first | (with_reducible assumption) | assumption)
      have q303 : x6_1 < (l0_1.length : Int) := of_decide_eq_true (by first | (with_reducible assumption) | assumption)
      obtain ⟨ad303, e303, hx303_0⟩ := Kd.at_int HR0_1.out x6_1 p303 q303
      cases e303
      replace hx303_0 := cH HB hx303_0
      replace p303 := eq_true p303
      replace q303 := eq_true q303
      go_wp2
      go_roundg k1
      case measure => have := HK1.out; omega
      case rel => exact ⟨(x5_1), (wrap64 (x6_1 + 1)), (by first | rfl | (simp; done) | (simp [*]; done)), H', ⟨by have := HK1.out; omega⟩, ⟨by (with_reducible repeat (first | apply Kd.R_alloc | apply Kd.R_drewN | apply Kd.R_drew)); exact HO_5.out⟩, ⟨pB BK299⟩, ⟨pH HB⟩⟩
    ·rw [if_neg c7] at H
     exact absurd H (by simp)
   ·rw [if_neg c6] at H
    have c6b0 : decide (x6_1 < (l0_1.length : Int)) = false := decide_eq_false c6
    clear c6
    obtain rfl := Option.some.inj H
    have hcz17_0 : wr.cell? ⟨gb299, 0, none⟩ = some (.int .i64 a0_0) := cB BK299 0
    have hcz17_1 : wr.cell? ⟨gb299, 1, none⟩ = some (.slice A0_1 l0_1.length c0_1) := cB BK299 1
    have hfz17_0 := zB BK299 0
    have hfz17_1 := zB BK299 1
    go_wp2
    go_ret
    exact ⟨_, by first | rfl | (simp [errW_none, errW_some] <;> rfl) | (simp [*, errW_none, errW_some] <;> rfl) | (exfalso; simp_all), by (with_reducible repeat (first | apply Kd.R_alloc | apply Kd.R_drewN | apply Kd.R_drew)); exact HO_5.out, pH HB⟩
end Go.Proofs.YtpnmifahfpmplaaGreat.QS
namespace Go.Proofs.YtpnmifahfpmplaaGreat.Pu
open Go.RowKit QS Im YtpnmifahfpmplaaGreatW.PrintWords YtpnmifahfpmplaaGreatW.PrintLast YtpnmifahfpmplaaGreatW.PrintMore
theorem ones_all : ((List.range 64).all fun f => spec_l01Ones.f 8 (f : Int) == some (onesZ (f : Int))) = true := by decide +kernel
theorem ev_ones {x : Int} (h0 : 0 ≤ x) (h6 : x ≤ 63) : Ev (fun k => spec_l01Ones.f k x) (onesZ x) := by
  obtain ⟨m, rfl⟩ := Int.eq_ofNat_of_zero_le h0
  exact Ev.of (fun k => spec_l01Ones.mono _ k) (eq_of_beq (List.all_eq_true.1 ones_all m (List.mem_range.2 (by omega))))
theorem ones_le (x : Int) : 0 ≤ onesZ x ∧ onesZ x ≤ 6 := by
  have : (verts x).length ≤ 6 := verts_len x
  unfold onesZ; omega
def overP (f x : Int) : Bool := Go.bits .and .i64 x f == f && onesZ x == onesZ f + 1
theorem above_loop (n f : Int) (hf : 0 ≤ f ∧ f ≤ 63) (l : List Int) (hl : l.length ≤ 64) (hr : ∀ x ∈ l, 1 ≤ x ∧ x ≤ 63) : ∀ d (i : Nat) (acc : List Int), l.length - i = d → i ≤ l.length → acc.length ≤ i →
    Ev (fun k => spec_l01Above.l0 k f acc i n l) (acc ++ (l.drop i).filter (overP f)) := by
  intro d
  induction d with
  | zero =>
    intro i acc hd hi ha
    rw [List.drop_eq_nil_of_le (by omega), List.filter_nil, List.append_nil]
    refine Ev.step (f := fun k => some acc) (fun k => ?_) (Ev.now _)
    simp only [spec_l01Above.l0]; rw [if_neg (by omega)]
  | succ d ih =>
    intro i acc hd hi ha
    have hi' : i < l.length := by omega
    have hx := hr _ (List.getElem_mem hi')
    have hw : wrap64 ((i : Int) + 1) = ((i + 1 : Nat) : Int) := by rw [w64 (by omega) (by omega)]; omega
    rw [List.drop_eq_getElem_cons hi']
    by_cases hc : Go.bits .and .i64 l[i] f = f
    · refine Ev.step (f := fun k => (spec_l01Ones.f k l[i]).bind fun t262 => ((spec_l01Ones.f k f).bind fun t263 => (if t262 = (wrap64 (t263 + 1)) then (spec_l01Above.l0 k f (acc ++ [l[i]]) ((i + 1 : Nat) : Int) n l) else (spec_l01Above.l0 k f acc ((i + 1 : Nat) : Int) n l)))) (fun k => ?_) ?_
      · simp only [spec_l01Above.l0]
        rw [if_pos (by omega), if_pos (by omega), rd_at hi', if_pos hc, hw]
        simp only [if_pos (show acc.length < 17592186044416 by omega)]
      · refine Ev.bind (ev_ones (by omega) (by omega)) ?_
        refine Ev.bind (ev_ones hf.1 hf.2) ?_
        have h1 := ones_le f
        rw [w64 (by omega) (by omega)]
        by_cases ho : onesZ l[i] = onesZ f + 1
        · simp only [if_pos ho]
          rw [List.filter_cons_of_pos (by simp [overP, hc, ho])]
          have := ih (i + 1) (acc ++ [l[i]]) (by omega) (by omega) (by rw [List.length_append]; simp; omega)
          rw [List.append_assoc] at this
          exact this
        · simp only [if_neg ho]
          rw [List.filter_cons_of_neg (by simp [overP, ho])]
          exact ih (i + 1) acc (by omega) (by omega) (by omega)
    · refine Ev.step (f := fun k => spec_l01Above.l0 k f acc ((i + 1 : Nat) : Int) n l) (fun k => ?_) ?_
      · simp only [spec_l01Above.l0]
        rw [if_pos (by omega), if_pos (by omega), rd_at hi', if_neg hc, hw]
      · rw [List.filter_cons_of_neg (by simp [overP, hc])]
        exact ih (i + 1) acc (by omega) (by omega) (by omega)
theorem ev_above (n f : Int) (hf : 0 ≤ f ∧ f ≤ 63) {l : List Int} (hl : l.length ≤ 64) (hr : ∀ x ∈ l, 1 ≤ x ∧ x ≤ 63) : Ev (fun k => spec_l01Above.f k n l f) (l.filter (overP f)) := by
  have := above_loop n f hf l hl hr _ 0 [] rfl (Nat.zero_le _) (by simp)
  rw [List.drop_zero, List.nil_append] at this
  exact this
end Go.Proofs.YtpnmifahfpmplaaGreat.Pu
namespace Go.Proofs.YtpnmifahfpmplaaGreat.QS
open Cw Kp Ext Go.RowKit YtpnmifahfpmplaaGreatW.PrintWords YtpnmifahfpmplaaGreatW.PrintLast YtpnmifahfpmplaaGreatW.PrintMore
attribute [local go_sem] max2_int min2_int max_two min_two max_three min_three max_four min_four   -- for this text's walks alone
def spec_l01Own.f (l0 : List Int) : Option (List Int) := (some (([] : List Int) : List Int)).bind fun y340 => (if y340.length + l0.length < 17592186044416 then (some (y340 ++ l0)) else (none))
set_option maxHeartbeats 8000000 in
set_option maxRecDepth 100000 in
theorem spec_l01Own.calls (A0 : Option Addr) (c0 : Nat) (l0 : List Int) (r : List Int) (w : World) (hr0 : Kd.C (Kd.int .i64) w A0 l0.length l0) (hc0 : l0.length ≤ c0) (h : spec_l01Own.f l0 = some r) :
  Calls Tryz.prog 97 #[.slice A0 l0.length c0] w fun e w' => ∃ v0_ : Value, e = .returned (v0_) ∧ Kd.R (Kd.int .i64) 2 w' w.heap.size (fun _ => True) v0_ r ∧ Below w.heap.size w w' := by
 have HR0 := Aside0.mk hr0
 have HC0 := Aside0.mk hc0
 clear hr0 hc0
 have HB := Aside0.mk (Below.refl w.heap.size w)
 have H : ((some (([] : List Int) : List Int)).bind fun y340 => (if y340.length + l0.length < 17592186044416 then (some (y340 ++ l0)) else (none))) = some r := h
 clear h
 obtain ⟨y340, hy340⟩ : ∃ y_ : List Int, y_ = (([] : List Int)) := ⟨_, rfl⟩
 replace H : (if y340.length + l0.length < 17592186044416 then (some (y340 ++ l0)) else (none)) = some r := by first | (rw [hy340]; with_reducible exact H) | (have H2_ := (Option.bind_some _ _).symm.trans H; rw [hy340]; with_reducible exact H2_) | (have H2_ := (Option.bind_some _ _).symm.trans H; with_reducible exact H2_) | with_reducible exact H | (rw [hy340]; exact H) | exact H
 have Ny340 := Aside0.mk hy340
 clear hy340
 by_cases c2 : y340.length + l0.length < 17592186044416
 ·rw [if_pos c2] at H
  have LMc2 := Aside0.mk c2
  clear c2
  obtain ⟨y343, hy343⟩ : ∃ y_ : List Int, y_ = (y340 ++ l0) := ⟨_, rfl⟩
  replace H : (some y343) = some r := by first | (rw [hy343]; with_reducible exact H) | (have H2_ := (Option.bind_some _ _).symm.trans H; rw [hy343]; with_reducible exact H2_) | (have H2_ := (Option.bind_some _ _).symm.trans H; with_reducible exact H2_) | with_reducible exact H | (rw [hy343]; exact H) | exact H
  have Ny343 := Aside0.mk hy343
  clear hy343
  obtain rfl := Option.some.inj H
  go_enter Tryz.func97, Tryz.ntmps97
  go_wp2_with (first | ((with_reducible refine gate_dst (N := 3) rfl ?_); refine Kd.R_lit (Kd.int .i64) _ 2 ?hg (N := 3) ?hd (xs := ([] : List Int)) (inner := []) (ok := fun _ => True) (okp := fun _ => True) ?hr ?hp (fun _ hk => hk) trivial (Below.refl _ _) (Nat.le_refl _) (by simp) ?_; (case hd => rfl); (case hg => rfl); (case hr => first | (go_simp; done) | (go_simp; rfl)); (case hp => exact (Reps.none _ _)); intro v341 w3 ho4 hb hg_ hnew_; clear hg_ hnew_; (first | rw [← Ny340.out] at ho4 | (simp only [Int.reduceToNat] at ho4; rw [← Ny340.out] at ho4)); have HO342 := Aside0.mk (Kd.R_lower ho4 (below_size (pH HB))); replace HB := sH HB hb; clear hb ho4) | ((with_reducible refine gate_builtin (b := .append) (xs := #[.tmp 3, .tmp 4]) rfl ?_); at_builtin; refine Kd.R_append_rows (Kd.int .i64) (w0 := w) w.heap.size rfl (.tmp 3) (.tmp 4) 24 2 (.int .i64 0) 8 rfl Tryz.underlying24 info2 rfl (by decide) (by omega) v341 y340 l0 _ _ _ (fun _ => True) (fun _ => False) rfl rfl ?aO ?aR (fun _ _ h => h) (fun _ h => h.elim) ?aF ?aB ?aS ?aL ?_; (case aR => exact pC ((Kd.C_below HR0.out HB.out))); (case aB => exact (pH HB)); (case aF => exact (fun _ _ => trivial)); (case aO => exact (pR HO342)); (case aS => exact (below_size (pH HB))); (case aL => have := LMc2.out; omega); intro v344 w5 ho hb hg hat; rw [← Ny343.out] at ho; replace HB := Aside0.mk (hb); have HO345 := Aside0.mk (ho); clear HO342; clear ho hb hg hat))
  go_ret
  exact ⟨_, by first | rfl | (simp [errW_none, errW_some] <;> rfl) | (simp [*, errW_none, errW_some] <;> rfl) | (exfalso; simp_all), by (with_reducible repeat (first | apply Kd.R_alloc | apply Kd.R_drewN | apply Kd.R_drew)); exact HO345.out, pH HB⟩
 ·rw [if_neg c2] at H
  exact absurd H (by simp)
end Go.Proofs.YtpnmifahfpmplaaGreat.QS
namespace Go.Proofs.YtpnmifahfpmplaaGreat.Im
open Go.RowKit Go.Shelf Kp Cw Ext QS Pu YtpnmifahfpmplaaGreatW.PrintWords YtpnmifahfpmplaaGreatW.PrintLast YtpnmifahfpmplaaGreatW.PrintMore
structure Src (w0 W : World) (y : Nat) : Prop where
  is : ∃ f0 f1 f2, IsS75 w0 W y f0 f1 f2 ∧ (∀ x ∈ f0, 0 ≤ x ∧ x ≤ 255) ∧ 0 ≤ f1 ∧ f0.length ≤ 1048576
  hb : Below w0.heap.size w0 W
section
variable {w0 w W W' : World} {y : Nat}
theorem Src.ge (h : Src w0 W y) : w0.heap.size ≤ y := by obtain ⟨⟨_, _, _, h1, _⟩, _⟩ := h; exact h1.ge
theorem Src.lt (h : Src w0 W y) : y < W.heap.size := by obtain ⟨⟨_, _, _, h1, _⟩, _⟩ := h; exact h1.lt
theorem Src.at_ (h : Src w0 W y) (e : W'.heap[y]? = W.heap[y]?) (hb : Below w0.heap.size w0 W') : Src w0 W' y := by
  obtain ⟨⟨f0, f1, f2, ⟨A, c, h1, h2, h3⟩, h4⟩, _⟩ := h
  exact ⟨⟨f0, f1, f2, ⟨A, c, e.trans h1, h2, h3⟩, h4⟩, hb⟩
def SrcTo (w0 W : World) (y : Nat) (W' : World) : Prop := Src w0 W' y ∧ KeepBut W W' y none
structure Dr (w0 w : World) (y : Nat) (W : World) : Prop where
  s : Src w0 W y
  k : KeepBut w W y none
  hy : y < w.heap.size
theorem Dr.start (h : Src w0 w y) : Dr w0 w y w := ⟨h, KeepBut.refl _ _ _, h.lt⟩
theorem Dr.src (h : Dr w0 w y W) (p : SrcTo w0 W y W') : Dr w0 w y W' := ⟨p.1, h.k.trans p.2 (.inl rfl), h.hy⟩
theorem Dr.up (h : Dr w0 w y W) (hb : Below w.heap.size W W') : Dr w0 w y W' :=
  ⟨h.s.at_ (hb.block _ h.hy) (h.s.hb.trans (hb.mono (Nat.le_trans h.s.ge (Nat.le_of_lt h.hy)))), ⟨Nat.le_trans h.k.1 hb.size, fun i hi hn hr => (hb.block i hi).trans (h.k.2 i hi hn hr)⟩, h.hy⟩
theorem Dr.on (h : Dr w0 w y W) (hb : Below W.heap.size W W') : Dr w0 w y W' := h.up (hb.mono h.k.1)
theorem Dr.to (h : Dr w0 w y W) : SrcTo w0 w y W := ⟨h.s, h.k⟩
theorem Src.on (h : Src w0 W y) (hb : Below W.heap.size W W') : Src w0 W' y := ((Dr.start h).on hb).s
theorem SrcTo.from (h : SrcTo w0 W y W') (hw : Below w.heap.size w W) (hy : y < w.heap.size) : SrcTo w0 w y W' := ⟨h.1, (KeepBut.of_below hw _ _).trans h.2 (.inl rfl)⟩
theorem SrcTo.size (h : SrcTo w0 W y W') : W.heap.size ≤ W'.heap.size := h.2.1
theorem RO.src {base : Nat} {v : Value} {xs : List Int} (h : RO W base v xs) (hS : Src w0 W y) (p : SrcTo w0 W y W') : RO W' base v xs := by
  obtain ⟨⟨_, _, _, h1, _⟩, _⟩ := hS
  exact Kd.R_mono (Kd.R_keep (h1.apart h (by decide)) p.2 (fun _ h => h.2)) (fun _ _ => trivial)
theorem CxAt.src {b : Nat} {n : Int} {A : Option Addr} {len c : Nat} (h : CxAt W b n A len c) (hne : b ≠ y) (p : SrcTo w0 W y W') : CxAt W' b n A len c := p.2.blk h hne (by simp)
end
theorem next_c (w0 : World) (y : Nat) (n : Int) (W : World) (h : Src w0 W y) : Calls Tryz.prog 62 #[.pointer (some ⟨y, 0, none⟩), .int .i64 n] W fun e w' => ∃ r, e = .returned (.int .i64 r) ∧ ((n < 1 → r = 0) ∧ (1 ≤ n → 0 ≤ r ∧ r < n)) ∧ SrcTo w0 W y w' := by
  obtain ⟨⟨f0, f1, f2, h1, h2, h3, h4⟩, hb⟩ := h
  obtain ⟨r, a, q, e, e1, e2, e3⟩ := next_f (n := n) (f2 := f2) h2 h3 h4
  refine (spec_l01Next.calls y f0 f1 f2 n r a q w0 W h1 hb e).mono ?_
  rintro e' w' ⟨rfl, hi, hb', hk⟩
  exact ⟨r, rfl, ⟨e2, e3⟩, ⟨⟨f0, a, q, hi, h2, e1, h4⟩, hb'⟩, hk⟩
theorem rowLit (W : World) (l : List Int) (hm : l.length ≤ 100) : RO (W.alloc (.cells (l.map (Value.int .i64)).toArray 2)) W.heap.size (.slice (some ⟨W.heap.size, 0, none⟩) l.length l.length) l := by
  refine RO.of_row ?_
  have := World.ownsRow_lit (base := W.heap.size) (e := 2) (size := 1) W (l.map (Value.int .i64)).toArray l.length (Nat.le_refl _) (by unfold maxLen; omega) (by simp)
  simpa using this
theorem pick_c (w0 : World) (y : Nat) (l : List Int) (W : World) (h : Src w0 W y) (b : Nat) (hbk : W.heap.size = b) (hl : 0 < l.length) (hm : l.length ≤ 100) : Calls Tryz.prog 96 #[.pointer (some ⟨y, 0, none⟩), .slice (some ⟨b, 0, none⟩) l.length l.length] (W.alloc (.cells (l.map (Value.int .i64)).toArray 2)) fun e w' => ∃ r, e = .returned (.int .i64 r) ∧ r ∈ l ∧ SrcTo w0 W y w' := by
  subst hbk
  have hb0 := below_alloc (Below.refl W.heap.size W) (.cells (l.map (Value.int .i64)).toArray 2)
  have hy := h.lt
  obtain ⟨⟨f0, f1, f2, h1, h2, h3, h4⟩, hb⟩ := h.on hb0
  obtain ⟨r, a, q, e, e1, e2⟩ := pick_f (f2 := f2) h2 h3 h4 hl (by omega)
  refine (spec_l01Pick.calls y f0 f1 f2 _ _ l r a q w0 _ h1 hb (Kd.R_reads' (rowLit W l hm)).2.2 (Nat.le_refl _) (fun ad ha _ => ?_) e).mono ?_
  · injection ha with ha; subst ha; exact Nat.ne_of_gt hy
  · rintro e' w' ⟨rfl, hi, hb', hk⟩
    exact ⟨r, rfl, e2, SrcTo.from ⟨⟨⟨f0, a, q, hi, h2, e1, h4⟩, hb'⟩, hk⟩ hb0 hy⟩
theorem all_c (n : Int) (h0 : 0 ≤ n) (h6 : n ≤ 6) (w : World) : Calls Tryz.prog 52 #[.int .i64 n] w fun e w' => ∃ t, e = .returned (.int .i64 t) ∧ (0 ≤ t ∧ t ≤ 63) ∧ Below w.heap.size w w' := by
  obtain ⟨t, e, h1, h2⟩ := all_ex h0 h6
  refine (spec_l01All.calls n t w e).mono ?_
  rintro e' w' ⟨rfl, ⟨nd, rfl⟩⟩
  exact ⟨t, rfl, ⟨h1, h2⟩, pw_below_drewN (Below.refl _ _) nd⟩
theorem ones_c {x : Int} (h0 : 0 ≤ x) (h6 : x ≤ 63) (w : World) : Calls Tryz.prog 68 #[.int .i64 x] w fun e w' => e = .returned (.int .i64 (onesZ x)) ∧ Below w.heap.size w w' := by
  obtain ⟨k, hk⟩ := (ev_ones h0 h6).rounds
  refine (spec_l01Ones.calls k x _ w hk).mono ?_
  rintro e' w' ⟨rfl, ⟨nd, rfl⟩⟩
  exact ⟨rfl, pw_below_drewN (Below.refl _ _) nd⟩
theorem made_cx (n : Int) (A : Option Addr) (c : Nat) (xs : List Int) (w : World) (h0 : 0 ≤ n) (h6 : n ≤ 6) (hr : RC w A xs.length xs) (hc : xs.length ≤ c) (hl : xs.length ≤ 1048576) : Calls Tryz.prog 102 #[.int .i64 n, .slice A xs.length c] w fun e w' => ∃ v ys, e = .returned (.agg #[.int .i64 n, v]) ∧ RO w' w.heap.size v ys ∧ ys.length ≤ 63 ∧ Below w.heap.size w w' := by
  obtain ⟨ys, e, h1⟩ := made_ex h0 h6 xs hl
  obtain ⟨k, hk⟩ := e.rounds
  refine (spec_l01Made.calls k n A c xs n ys w hr hc hk).mono ?_
  rintro e' w' ⟨v, rfl, hv, hb⟩
  exact ⟨v, ys, rfl, hv, h1, hb⟩
theorem renamed_c (n : Int) (A : Option Addr) (c : Nat) (xs : List Int) (A1 : Option Addr) (c1 : Nat) (p : List Int) (w : World) (h0 : 0 ≤ n) (h6 : n ≤ 6) (hr : RC w A xs.length xs) (hc : xs.length ≤ c) (hl : xs.length ≤ 1048576) (hr1 : RC w A1 p.length p) (hc1 : p.length ≤ c1) (hl1 : p.length ≤ 1048576) :
    Calls Tryz.prog 100 #[.agg #[.int .i64 n, .slice A xs.length c], .slice A1 p.length c1] w fun e w' => ∃ v ys, e = .returned (.agg #[.int .i64 n, v]) ∧ RO w' w.heap.size v ys ∧ ys.length ≤ 63 ∧ Below w.heap.size w w' := by
  obtain ⟨ys, e, h1⟩ := renamed_ex h0 h6 hl hl1
  obtain ⟨k, hk⟩ := e.rounds
  refine (spec_l01Renamed.calls k n A c xs A1 c1 p n ys w hr hc hr1 hc1 hk).mono ?_
  rintro e' w' ⟨v, rfl, hv, hb⟩
  exact ⟨v, ys, rfl, hv, h1, hb⟩
theorem named_c (s : ByteArray) (w : World) : Calls Tryz.prog 99 #[.string s] w fun e w' => ∃ n v ys b, e = .returned (.tuple #[.agg #[.int .i64 n, v], .bool b]) ∧ (0 ≤ n ∧ n ≤ 6) ∧ RO w' w.heap.size v ys ∧ ys.length ≤ 63 ∧ Below w.heap.size w w' := by
  obtain ⟨n, ys, b, e, h0, h6, h1⟩ := named_ex s
  obtain ⟨k, hk⟩ := e.rounds
  refine (spec_l01Named.calls k s n ys b w hk).mono ?_
  rintro e' w' ⟨v, rfl, hv, hb⟩
  exact ⟨n, v, ys, b, rfl, ⟨h0, h6⟩, hv, h1, hb⟩
theorem own_c (A : Option Addr) (m c : Nat) (xs : List Int) (w : World) (hm : xs.length = m) (hr : RC w A m xs) (hc : m ≤ c) (hl : m ≤ 1048576) : Calls Tryz.prog 97 #[.slice A m c] w fun e w' => ∃ v, e = .returned v ∧ RO w' w.heap.size v xs ∧ Below w.heap.size w w' := by
  subst hm
  have h : spec_l01Own.f xs = some xs := by
    unfold spec_l01Own.f
    simp [show xs.length < 17592186044416 by omega]
  exact spec_l01Own.calls A c xs xs w hr hc h
section
variable {ops : Array Oper} {o : Oper} {a : Act} {Q : Exit → Act → World → Prop} {K : Act → World → Prop}
theorem ap64R {w0 W : World} (base : Nat) (s x : Operand) (v : Value) (xs : List Int) (y : Int)
    (hs : a.eval s = v) (hx : a.eval x = .slice (some ⟨W.heap.size, 0, none⟩) 1 1) (HO : RO W base v xs) (HB : Below base w0 W) (hbase : base ≤ W.heap.size) (hl : xs.length ≤ 17592186044415)
    (h : ∀ v1 w1, RO w1 base v1 (xs ++ [y]) → Below base w0 w1 → W.grownBy w1 v.ownBlock → (v1.ownBlock = v.ownBlock ∨ ∃ b, v1.ownBlock = some b ∧ W.heap.size ≤ b) → K (a.put o.dst v1) w1)
    (hw : Region.wanted o (yielded ops a.tmps) = true := by rfl) (ho : o.op = .call { callee := .builtin .append, args := #[s, x], argTypes := #[24, 24] } := by rfl) :
    if Region.wanted o (yielded ops a.tmps) = true then Oper.wp Tryz.prog o a (W.alloc (.cells #[.int .i64 y] 2)) K Q else K (a.put o.dst undef) (W.alloc (.cells #[.int .i64 y] 2)) :=
  Kd.R_append_step (Kd.int .i64) base hw s x 24 2 (.int .i64 0) 8 ho Tryz.underlying24 info64 rfl (by decide) (by decide) v xs y [.int .i64 y] (fun _ => True) (fun _ => False) hs hx rfl (fun _ hk => hk.elim) (fun _ _ => trivial) HO HB hbase (by omega) h
theorem ap64sR {w0 W : World} (base : Nat) (s x : Operand) (v : Value) (xs ys : List Int) (A : Option Addr) (m c : Nat)
    (hs : a.eval s = v) (hx : a.eval x = .slice A m c) (HO : RO W base v xs) (HR : RC W A m ys) (HB : Below base w0 W) (hbase : base ≤ W.heap.size) (hl : xs.length + m ≤ 17592186044415)
    (h : ∀ v1 w1, RO w1 base v1 (xs ++ ys) → Below base w0 w1 → W.grownBy w1 v.ownBlock → (v1.ownBlock = v.ownBlock ∨ ∃ b, v1.ownBlock = some b ∧ W.heap.size ≤ b) → K (a.put o.dst v1) w1)
    (hw : Region.wanted o (yielded ops a.tmps) = true := by rfl) (ho : o.op = .call { callee := .builtin .append, args := #[s, x], argTypes := #[24, 24] } := by rfl) :
    if Region.wanted o (yielded ops a.tmps) = true then Oper.wp Tryz.prog o a W K Q else K (a.put o.dst undef) W :=
  Kd.R_append_rows_step (Kd.int .i64) base hw s x 24 2 (.int .i64 0) 8 ho Tryz.underlying24 info64 rfl (by decide) (by decide) v xs ys A m c (fun _ => True) (fun _ => False) hs hx HO HR (fun _ _ h => h) (fun _ h => h.elim) (fun _ _ => trivial) HB hbase (by omega) h
end
theorem cutFrom (A : Option Addr) (n c m : Nat) (hm : m ≤ n) (W : World) : (Instr.slice 24 (.slice A n c) (some (.int .i64 (m : Int))) none none).run Tryz.prog W = .ok (.slice (if c = m then A else A.map (·.add (m * 1))) (n - m) (c - m)) W := by
  obtain ⟨i0, hi0, hz0, hzs, hzb⟩ := info_parts info64
  have := cut_from 24 2 .i64 Tryz.underlying24 hi0 1 hzs A n c (m : Int) (by omega) (by omega) W
  rw [Int.toNat_natCast] at this
  exact this
theorem cutTo (A : Option Addr) (n c m : Nat) (hm : m ≤ n) (hc : n ≤ c) (W : World) : (Instr.slice 24 (.slice A n c) none (some (.int .i64 (m : Int))) none).run Tryz.prog W = .ok (.slice A m c) W := by
  obtain ⟨i0, hi0, hz0, hzs, hzb⟩ := info_parts info64
  have := cut_to 24 2 .i64 Tryz.underlying24 hi0 A n c (m : Int) (by omega) (by omega) hc W
  rw [Int.toNat_natCast] at this
  exact this
theorem RC.drop {w : World} {A : Option Addr} {c m : Nat} {xs : List Int} (h : RC w A xs.length xs) (hm : m ≤ xs.length) (hc : xs.length ≤ c) : RC w (if c = m then A else A.map (·.add (m * 1))) (xs.length - m) (xs.drop m) := by
  have := Kd.C_drop h hm hc
  rw [List.length_drop] at this
  exact this
theorem RC.take {w : World} {A : Option Addr} {m : Nat} {xs : List Int} (h : RC w A xs.length xs) (hm : m ≤ xs.length) : RC w A m (xs.take m) := by
  have := Kd.C_take h hm
  rw [List.length_take, Nat.min_eq_left hm] at this
  exact this
theorem drop_low {f : Int} (h1 : 1 ≤ f) (h6 : f ≤ 63) : 0 ≤ Go.bits .and .i64 f (f - 1) ∧ Go.bits .and .i64 f (f - 1) < f := by
  have key : ((List.range 64).all fun m => m == 0 || (decide (0 ≤ Go.bits .and .i64 (m : Int) ((m : Int) - 1)) && decide (Go.bits .and .i64 (m : Int) ((m : Int) - 1) < (m : Int)))) = true := by decide +kernel
  obtain ⟨m, rfl⟩ := Int.eq_ofNat_of_zero_le (show 0 ≤ f by omega)
  have h := List.all_eq_true.1 key m (List.mem_range.2 (by omega))
  have h0 : (m == 0) = false := by simp; omega
  rw [h0, Bool.false_or, Bool.and_eq_true, decide_eq_true_eq, decide_eq_true_eq] at h
  exact h
def DrawC (w0 w : World) (y bs m : Nat) (n0 : Int → Prop) (e : Ending) (w' : World) : Prop := ∃ n v ys, e = .returned (.agg #[.int .i64 n, v]) ∧ n0 n ∧ RO w' bs v ys ∧ ys.length ≤ m ∧ SrcTo w0 w y w'
theorem drawC_end {w0 w W : World} {y b bs m : Nat} {A A0 : Option Addr} {a n : Int} {c l0 c0 : Nat} {ys : List Int} (hx : CxAt W b a A0 l0 c0) (hb : w.heap.size ≤ b) (hd : Dr w0 w y W) (hv : RO W bs (.slice A ys.length c) ys) (hl : ys.length ≤ m) {n0 : Int → Prop} (hn : n0 n) :
    DrawC w0 w y bs m n0 (.returned (.agg #[.int .i64 n, .slice A ys.length c])) ((W.setCell ⟨b, 0, none⟩ (.int .i64 n)).setCell ⟨b, 1, none⟩ (.slice A ys.length c)) :=
  ⟨n, _, ys, rfl, hn, (hv.set hx _ _).set (hx.set0 _) _ _, hl, ((hd.up ((Below.refl w.heap.size W).setCell (p := ⟨b, 0, none⟩) hb _)).up ((Below.refl _ _).setCell (p := ⟨b, 1, none⟩) hb _)).to⟩
set_option maxRecDepth 100000 in
set_option maxHeartbeats 8000000 in
theorem drawOf_c (w0 : World) (y : Nat) (n : Int) (w : World) (h0 : 0 ≤ n) (h6 : n ≤ 6) (hS : Src w0 w y) :
    Calls Tryz.prog 83 #[.pointer (some ⟨y, 0, none⟩), .int .i64 n] w (DrawC w0 w y w.heap.size 63 fun m => m = n) := by
  have HD := Aside0.mk (Dr.start hS)
  have HD1 := Aside0.mk (HD.out.on (below_alloc (below_alloc (Below.refl _ _) (.cells #[.int .i64 0, .slice none 0 0] 26)) (.cells #[] 2)))
  have HX := Aside0.mk ((CxAt.new w 0 none 0 0).below (below_alloc (Below.refl _ _) (.cells #[] 2)))
  have HO : Aside0 (RO ((w.alloc (.cells #[.int .i64 0, .slice none 0 0] 26)).alloc (.cells #[] 2)) w.heap.size (.slice (some ⟨w.heap.size + 1, 0, none⟩) 0 0) []) := ⟨by simpa using RO.made (w.alloc (.cells #[.int .i64 0, .slice none 0 0] 26)) w.heap.size 0 #[] (by simp) (by simp) rfl⟩
  have HY : Aside0 (w.heap.size ≠ y) := ⟨Nat.ne_of_gt HD.out.hy⟩
  clear hS
  go_enter Tryz.func83, Tryz.ntmps83
  go_wp2_with (first
    | (go_at_call 96; refine (pick_c w0 y [2, 3, 3, 4] _ HD1.out.s _ (by simp) (by decide) (by decide)).mono ?_; rintro e w1 ⟨r1, rfl, hr1, hp⟩; have HR1 := Aside0.mk hr1; have HD2 := Aside0.mk (HD1.out.src hp); have HO2 := Aside0.mk (RO.src HO.out HD1.out.s hp); have HX2 := Aside0.mk (HX.out.src HY.out hp); clear hr1 hp HD1 HX HO)
    | (go_at_call 96; refine (pick_c w0 y [3, 7, 12] _ HD2.out.s _ rfl (by decide) (by decide)).mono ?_; rintro e w2 ⟨r2, rfl, hr2, hp⟩; have HR2 := Aside0.mk hr2; have HD3 := Aside0.mk (HD2.out.src hp); have HO3 := Aside0.mk (RO.src HO2.out HD2.out.s hp); have HX3 := Aside0.mk (HX2.out.src HY.out hp); clear hr2 hp HD2 HX2 HO2)
    | (go_at_call 62; refine (next_c w0 y r2 _ HD3.out.s).mono ?_; rintro e w3 ⟨k0, rfl, hk0, hp⟩; have HK0 := Aside0.mk hk0; have HD4 := Aside0.mk (HD3.out.src hp); have HO4 := Aside0.mk (RO.src HO3.out HD3.out.s hp); have HX4 := Aside0.mk (HX3.out.src HY.out hp); clear hk0 hp HD3 HX3 HO3))
  have hk : 0 ≤ k0 ∧ k0 ≤ 12 := by
    have h1 := HR2.out
    have h2 := HK0.out
    simp only [List.mem_cons, List.not_mem_nil, or_false] at h1
    omega
  have hs : 2 ≤ r1 ∧ r1 ≤ 4 := by
    have h1 := HR1.out
    simp only [List.mem_cons, List.not_mem_nil, or_false] at h1
    omega
  clear HR2 HK0 HR1
  obtain ⟨k0, rfl⟩ := Int.eq_ofNat_of_zero_le hk.1
  go_loopw [5, 7] (fun s5 s7 wr => ∃ (k : Nat) (v : Value) (sets : List Int), s7 = .int .i64 k ∧ s5 = v ∧ sets.length + k ≤ 13 ∧ Aside0 (RO wr w.heap.size v sets) ∧ Aside0 (Dr w0 w y wr) ∧ Aside0 (CxAt wr w.heap.size 0 none 0 0)) (fun _ s7 _ => (intOf s7).toNat)
  case atStart => exact ⟨k0, _, [], rfl, rfl, by simp; omega, HO4, HD4, HX4⟩
  case round =>
    clear HO4 HD4 HX4 HD hk
    obtain ⟨k, v, sets, rfl, rfl, hl, HO, HD, HX⟩ := hrel
    obtain ⟨Av, cv, rfl⟩ := Kd.R_slice HO.out
    by_cases hk0 : 0 < k
    · have hkz : (0 : Int) < (k : Int) := by omega
      go_wp2_with (first
        | (go_at_call 52; refine (all_c n h0 h6 _).mono ?_; rintro e w4 ⟨t, rfl, ht, hb⟩; have HT := Aside0.mk ht; have HO1 := Aside0.mk (Kd.R_below HO.out hb); have HD1 := Aside0.mk (HD.out.on hb); have HX1 := Aside0.mk (HX.out.below hb); clear ht hb HO HD HX)
        | (go_at_call 62; refine (next_c w0 y t _ HD1.out.s).mono ?_; rintro e w5 ⟨f, rfl, hf, hp⟩; have hf3 : 0 ≤ f ∧ f ≤ 62 := (by have := HT.out; omega); obtain ⟨f, rfl⟩ := Int.eq_ofNat_of_zero_le hf3.1; have HO2 := Aside0.mk (RO.src HO1.out HD1.out.s hp); have HD2 := Aside0.mk (HD1.out.src hp); have HX2 := Aside0.mk (HX1.out.src HY.out hp); clear hf hp HD1 HX1 HO1 HT))
      go_loopw [8] (fun s8 wr => ∃ g : Nat, s8 = .int .i64 g ∧ g ≤ 63 ∧ Aside0 (RO wr w.heap.size (.slice Av sets.length cv) sets) ∧ Aside0 (Dr w0 w y wr) ∧ Aside0 (CxAt wr w.heap.size 0 none 0 0)) (fun s8 _ => (intOf s8).toNat)
      case atStart => exact ⟨1 + f, by go_num, by omega, HO2, HD2, HX2⟩
      case round =>
        clear HO2 HD2 HX2 hf3
        obtain ⟨g, rfl, hg, HO, HD, HX⟩ := hrel
        by_cases ho : r1 < onesZ (g : Int)
        · have hg1 : 1 ≤ g := by
            rcases Nat.eq_zero_or_pos g with rfl | h
            · have : onesZ ((0 : Nat) : Int) = 0 := by decide +kernel
              omega
            · exact h
          have hd := drop_low (f := (g : Int)) (by omega) (by omega)
          obtain ⟨g', hg'⟩ := Int.eq_ofNat_of_zero_le hd.1
          rw [hg'] at hd
          go_wp2_with (go_at_call 68; refine (ones_c (x := (g : Int)) (by omega) (by omega) _).mono ?_; rintro e w6 ⟨rfl, hb⟩; have HO1 := Aside0.mk (Kd.R_below HO.out hb); have HD1 := Aside0.mk (HD.out.on hb); have HX1 := Aside0.mk (HX.out.below hb); clear hb HO HD HX)
          go_roundw
          case measure => simp [intOf]; omega
          case rel => exact ⟨g', by go_num, by omega, HO1, HD1, HX1⟩
        · go_wp2_with (first
            | (go_at_call 68; refine (ones_c (x := (g : Int)) (by omega) (by omega) _).mono ?_; rintro e w6 ⟨rfl, hb⟩; have HO1 := Aside0.mk (Kd.R_below HO.out hb); have HD1 := Aside0.mk (HD.out.on hb); have HX1 := Aside0.mk (HX.out.below hb); clear hb HO HD HX)
            | (at_builtin; refine ap64 w.heap.size rfl (.tmp 35) (.tmp 37) 24 rfl Tryz.underlying24 info64 _ _ _ rfl rfl HO1.out (Below.refl w.heap.size _) HD1.out.k.1 (by omega) ?_; intro v7 w7 ho hb hg hat; have HO7 := Aside0.mk ho; have HD7 := Aside0.mk (HD1.out.up hb); have HX7 := Aside0.mk (HX1.out.grown hg HO1.out); clear ho hb hg hat HO1 HD1 HX1))
          go_roundw
          case measure => simp [intOf]; omega
          case rel => exact ⟨k - 1, _, _, by go_num, rfl, by simp; omega, HO7, HD7, HX7⟩
    · obtain rfl : k = 0 := by omega
      go_wp2_with (go_at_call 102; refine (made_cx n Av cv sets _ h0 h6 (Kd.R_reads' HO.out).2.2 (Kd.R_reads' HO.out).2.1 (by omega)).mono ?_; rintro e w4 ⟨v4, ys, rfl, hv, hys, hb⟩; obtain ⟨A4, c4, rfl⟩ := Kd.R_slice hv; have HV4 := Aside0.mk (Kd.R_lower hv HD.out.k.1); have HD4 := Aside0.mk (HD.out.on hb); have HX4 := Aside0.mk (HX.out.below hb); have m0 := HX4.out.c0; have m1 := HX4.out.c1; have f0 := HX4.out.fz0; have f1 := HX4.out.fz; clear hv hb HO HD HX)
      have hX := HX4.out.set2 n A4 ys.length c4
      have x0 := hX.c0
      have x1 := hX.c1
      refine bodyPost_ret (v := .agg #[.int .i64 n, .slice A4 ys.length c4]) (by simp [results, Tryz.results83, go_sem, x0, x1]) rfl (drawC_end HX4.out (Nat.le_refl _) HD4.out HV4.out hys rfl)
theorem all1_c (n : Int) (w : World) : Calls Tryz.prog 52 #[.int .i64 n] w fun e w' => ∃ t, e = .returned (.int .i64 t) ∧ Below w.heap.size w w' := by
  have h : spec_l01All.f n = some (wrap64 ((shl .i64 1 (IntKind.u64.wrap n)) - 1)) := by unfold spec_l01All.f; rw [if_pos (u64_rng n).1]
  refine (spec_l01All.calls n _ w h).mono ?_
  rintro e' w' ⟨rfl, ⟨nd, rfl⟩⟩
  exact ⟨_, rfl, pw_below_drewN (Below.refl _ _) nd⟩
set_option maxRecDepth 100000 in
set_option maxHeartbeats 8000000 in
theorem bad_c (w0 : World) (y : Nat) (n : Int) (A : Option Addr) (c : Nat) (xs : List Int) (bs : Nat) (w : World) (hS : Src w0 w y) (hV : RO w bs (.slice A xs.length c) xs) (hbs : bs ≤ w.heap.size) (hl : xs.length ≤ 63) :
    Calls Tryz.prog 81 #[.pointer (some ⟨y, 0, none⟩), .agg #[.int .i64 n, .slice A xs.length c]] w (DrawC w0 w y bs 64 fun _ => True) := by
  have HD := Aside0.mk ((Dr.start hS).on (below_alloc (below_alloc (Below.refl _ _) (.cells #[.int .i64 n, .slice A xs.length c] 26)) (.cells #[.int .i64 0, .slice none 0 0] 26)))
  have HX := Aside0.mk ((CxAt.new w n A xs.length c).below (below_alloc (Below.refl _ _) (.cells #[.int .i64 0, .slice none 0 0] 26)))
  have HR : Aside0 (CxAt ((w.alloc (.cells #[.int .i64 n, .slice A xs.length c] 26)).alloc (.cells #[.int .i64 0, .slice none 0 0] 26)) (w.heap.size + 1) 0 none 0 0) := ⟨by simpa using CxAt.new (w.alloc (.cells #[.int .i64 n, .slice A xs.length c] 26)) 0 none 0 0⟩
  have HV := Aside0.mk (Kd.R_below hV (below_alloc (below_alloc (Below.refl _ _) (.cells #[.int .i64 n, .slice A xs.length c] 26)) (.cells #[.int .i64 0, .slice none 0 0] 26)))
  have HY : Aside0 (w.heap.size ≠ y ∧ w.heap.size + 1 ≠ y) := ⟨by have := hS.lt; omega⟩
  have HBS := Aside0.mk hbs
  clear hS hV hbs
  go_enter Tryz.func81, Tryz.ntmps81
  go_upto_region 2 with (go_at_call 62; refine (next_c w0 y 50 _ HD.out.s).mono ?_; rintro e w1 ⟨r, rfl, hr, hp⟩; clear hr; have HXn := Aside0.mk (HX.out.src HY.out.1 hp); have HRn := Aside0.mk (HR.out.src HY.out.2 hp); have HVn := Aside0.mk (RO.src HV.out HD.out.s hp); have HDn := Aside0.mk (HD.out.src hp); clear HX HR HV HD; have HX := HXn; have HR := HRn; have HV := HVn; have HD := HDn; clear HXn HRn HVn HDn hp)
  by_cases h0 : r = 0
  · subst h0
    go_upto_region 3 with fail
    have HXd := Aside0.mk (HX.out.below (below_drew (Below.refl _ _))); have HRd := Aside0.mk (HR.out.below (below_drew (Below.refl _ _))); have HVd := Aside0.mk (Kd.R_drew HV.out); have HDd := Aside0.mk (HD.out.on (below_drew (Below.refl _ _))); clear HX HR HV HD; have HX := HXd; have HR := HRd; have HV := HVd; have HD := HDd; clear HXd HRd HVd HDd
    refine st_ 8 (S := fun w' => w'.cell? ⟨w.heap.size, 0, none⟩ = some (.int .i64 n) ∧ w'.cell? ⟨w.heap.size, 1, none⟩ = some (.slice A xs.length c)) (ds := []) ⟨HX.out.c0, HX.out.c1⟩ (fun hHeld => ?_)
    refine with_tabW (T := (true, [([], []), ([], []), ([0, 1], [0, 1]), ([], []), ([3], [3]), ([4, 2], [4]), ([2, 5], [2, 5]), ([6, 5, 0, 1, 2, 3, 4, 5, 6], [6])])) (B := [0, 0, 3, 0, 8, 31, 63, 127]) (by kernel_rfl) (by kernel_rfl) (fun HT_ HW_ => ?_)
    refine pd_ 0 9 1 HT_ ?_
    refine pd_ 3 12 9 HT_ ?_
    refine tk_ 4 13 25 HT_ HW_ hHeld ?_
    refine on_ 1 (some 10) 27 HT_ (fun K hK => ?_)
    (refine value_ (by rfl) rfl (v := .slice (some ⟨(w1.drew).heap.size, 0, none⟩) 3 3) (w1 := (w1.drew).alloc (.cells #[.int .i64 0, .int .i64 7, .int .i64 (-1)] 2)) (by go_simp) ?_)
    refine hK.out _ _ ⟨(HX.out.below (below_alloc (Below.refl _ _) (.cells #[.int .i64 0, .int .i64 7, .int .i64 (-1)] 2))).c0, (HX.out.below (below_alloc (Below.refl _ _) (.cells #[.int .i64 0, .int .i64 7, .int .i64 (-1)] 2))).c1⟩ (fun hHeld => ?_)
    clear hK K
    refine nm_ ?_
    refine on_ 2 (some 11) 31 HT_ (fun K hK => ?_)
    refine ca_ Tryz.func96 #[.pointer (some ⟨y, 0, none⟩), .slice (some ⟨(w1.drew).heap.size, 0, none⟩) 3 3] ?_
    refine (pick_c w0 y [0, 7, -1] _ HD.out.s _ rfl (by simp) (by simp)).mono ?_; rintro e wz2 ⟨r2, rfl, hr2, hp⟩; clear hr2; have HXn := Aside0.mk (HX.out.src HY.out.1 hp); have HRn := Aside0.mk (HR.out.src HY.out.2 hp); have HVn := Aside0.mk (RO.src HV.out HD.out.s hp); have HDn := Aside0.mk (HD.out.src hp); clear HX HR HV HD; have HX := HXn; have HR := HRn; have HV := HVn; have HD := HDn; clear HXn HRn HVn HDn hp
    refine ⟨_, rfl, ?_⟩
    refine hK.out _ _ ⟨HX.out.c0, HX.out.c1⟩ (fun hHeld => ?_)
    clear hK K
    refine nm_ ?_
    refine on_ 5 (some 14) 63 HT_ (fun K hK => ?_)
    refine ca_ Tryz.func97 #[.slice A xs.length c] ?_
    refine (own_c A xs.length c xs _ (rfl) ((Kd.R_reads' HV.out).2.2) ((Kd.R_reads' HV.out).2.1) (by omega)).mono ?_; rintro e wz3 ⟨v4, rfl, hv, hb⟩; have HO := Aside0.mk (Kd.R_lower hv (Nat.le_trans HBS.out HD.out.k.1)); clear hv; have HXn := Aside0.mk (HX.out.below hb); have HRn := Aside0.mk (HR.out.below hb); have HVn := Aside0.mk (Kd.R_below HV.out hb); have HDn := Aside0.mk (HD.out.on hb); clear HX HR HV HD; have HX := HXn; have HR := HRn; have HV := HVn; have HD := HDn; clear HXn HRn HVn HDn hb; obtain ⟨A4, c4, rfl⟩ := Kd.R_slice HO.out
    refine ⟨_, rfl, ?_⟩
    refine hK.out _ _ ⟨HX.out.c0, HX.out.c1⟩ (fun hHeld => ?_)
    clear hK K
    refine nm_ ?_
    refine pd_ 6 15 127 HT_ ?_
    refine on_ 7 none 255 HT_ (fun K hK => ?_)
    (have m0 := HR.out.c0; have m1 := HR.out.c1; have f0 := HR.out.fz0; have f1 := HR.out.fz; refine skip_ (by rfl) rfl (w1 := ((wz3).setCell ⟨w.heap.size + 1, 0, none⟩ (.int .i64 r2)).setCell ⟨w.heap.size + 1, 1, none⟩ (.slice A4 xs.length c4)) (by go_simp) ?_; clear m0 m1 f0 f1)
    refine hK.out _ _ ⟨((HX.out.far (by omega) _).far (by omega) _).c0, ((HX.out.far (by omega) _).far (by omega) _).c1⟩ (fun hHeld => ?_)
    clear hK K
    refine dn_ HT_ ?_
    go_wp2
    have hX := HR.out.set2 r2 A4 xs.length c4
    have x0 := hX.c0
    have x1 := hX.c1
    refine bodyPost_ret (v := .agg #[.int .i64 r2, .slice A4 xs.length c4]) (by simp [results, Tryz.results81, go_sem, x0, x1]) rfl (drawC_end HR.out (Nat.le_succ _) HD.out HO.out (by omega) trivial)
  by_cases h1 : r = 1
  · subst h1
    have hlz : xs.length = 0 ∨ 0 < xs.length := by omega
    rcases hlz with hlz | hlz
    · have hgt : ¬ ((0 : Int) < (xs.length : Int)) := by omega
      clear hlz
      have hx0 := HX.out.c0
      have hx1 := HX.out.c1
      have m0 := HR.out.c0
      have m1 := HR.out.c1
      have f0 := HR.out.fz0
      have f1 := HR.out.fz
      go_wp2
      have hX := HR.out.set2 n A xs.length c
      have x0 := hX.c0
      have x1 := hX.c1
      refine bodyPost_ret (v := .agg #[.int .i64 n, .slice A xs.length c]) (by simp [results, Tryz.results81, go_sem, x0, x1]) rfl (drawC_end HR.out (Nat.le_succ _) HD.out HV.out (by omega) trivial)
    · have hgt : (0 : Int) < (xs.length : Int) := by omega
      have hx0 := HX.out.c0
      have hx1 := HX.out.c1
      go_upto_region 6 with fail
      clear hx0 hx1
      have HXd := Aside0.mk (HX.out.below (below_drew (Below.refl _ _))); have HRd := Aside0.mk (HR.out.below (below_drew (Below.refl _ _))); have HVd := Aside0.mk (Kd.R_drew HV.out); have HDd := Aside0.mk (HD.out.on (below_drew (Below.refl _ _))); clear HX HR HV HD; have HX := HXd; have HR := HRd; have HV := HVd; have HD := HDd; clear HXd HRd HVd HDd
      have HLE : Aside0 (1 ≤ xs.length) := ⟨by omega⟩
      have hcut := fun W => cutFrom A xs.length c 1 HLE.out W
      rw [show ((1 : Nat) : Int) = 1 from rfl] at hcut
      obtain ⟨D, hD⟩ : ∃ D, D = (if c = 1 then A else A.map (·.add (1 * 1))) := ⟨_, rfl⟩
      rw [← hD] at hcut
      have HDD := Aside0.mk hD
      clear hD
      refine st_ 8 (S := fun w' => w'.cell? ⟨w.heap.size, 0, none⟩ = some (.int .i64 n) ∧ w'.cell? ⟨w.heap.size, 1, none⟩ = some (.slice A xs.length c)) (ds := []) ⟨HX.out.c0, HX.out.c1⟩ (fun hHeld => ?_)
      refine with_tabW (T := (true, [([], []), ([0], [0]), ([], []), ([2], [2]), ([3], [3]), ([4], [4]), ([1, 5], [1, 5]), ([6, 5, 0, 1, 2, 3, 4, 5, 6], [6])])) (B := [0, 1, 0, 4, 12, 28, 63, 127]) (by kernel_rfl) (by kernel_rfl) (fun HT_ HW_ => ?_)
      refine pd_ 0 22 1 HT_ ?_
      refine pd_ 2 24 5 HT_ ?_
      refine tk_ 1 23 7 HT_ HW_ hHeld ?_
      refine tk_ 3 25 15 HT_ HW_ hHeld ?_
      refine pd_ 4 26 31 HT_ ?_
      refine on_ 5 (some 27) 63 HT_ (fun K hK => ?_)
      refine ca_ Tryz.func97 #[.slice D (xs.length - 1) (c - 1)] ?_
      refine (own_c D (xs.length - 1) (c - 1) (xs.drop 1) _ (by simp) (by rw [HDD.out]; exact RC.drop (Kd.R_reads' HV.out).2.2 HLE.out (Kd.R_reads' HV.out).2.1) (Nat.sub_le_sub_right (Kd.R_reads' HV.out).2.1 1) (by have := HLE.out; omega)).mono ?_; rintro e wz1 ⟨v4, rfl, hv, hb⟩; have HO := Aside0.mk (Kd.R_lower hv (Nat.le_trans HBS.out HD.out.k.1)); clear hv; have HXn := Aside0.mk (HX.out.below hb); have HRn := Aside0.mk (HR.out.below hb); have HVn := Aside0.mk (Kd.R_below HV.out hb); have HDn := Aside0.mk (HD.out.on hb); clear HX HR HV HD; have HX := HXn; have HR := HRn; have HV := HVn; have HD := HDn; clear HXn HRn HVn HDn hb; obtain ⟨A4, c4, hv4⟩ := Kd.R_slice HO.out; rw [List.length_drop] at hv4; subst hv4
      refine ⟨_, rfl, ?_⟩
      refine hK.out _ _ ⟨HX.out.c0, HX.out.c1⟩ (fun hHeld => ?_)
      clear hK K
      refine nm_ ?_
      refine pd_ 6 28 127 HT_ ?_
      refine on_ 7 none 255 HT_ (fun K hK => ?_)
      (have m0 := HR.out.c0; have m1 := HR.out.c1; have f0 := HR.out.fz0; have f1 := HR.out.fz; refine skip_ (by rfl) rfl (w1 := ((wz1).setCell ⟨w.heap.size + 1, 0, none⟩ (.int .i64 n)).setCell ⟨w.heap.size + 1, 1, none⟩ (.slice A4 (xs.length - 1) c4)) (by go_simp) ?_; clear m0 m1 f0 f1)
      refine hK.out _ _ ⟨((HX.out.far (by omega) _).far (by omega) _).c0, ((HX.out.far (by omega) _).far (by omega) _).c1⟩ (fun hHeld => ?_)
      clear hK K
      refine dn_ HT_ ?_
      go_wp2
      have hld : (xs.drop 1).length = xs.length - 1 := by simp
      have hX := HR.out.set2 n A4 (xs.length - 1) c4
      have x0 := hX.c0
      have x1 := hX.c1
      refine bodyPost_ret (v := .agg #[.int .i64 n, .slice A4 (xs.length - 1) c4]) (by simp [results, Tryz.results81, go_sem, x0, x1]) rfl (by rw [← hld]; exact drawC_end HR.out (Nat.le_succ _) HD.out (by rw [hld]; exact HO.out) (by rw [hld]; omega) trivial)
  by_cases h2 : r = 2
  · subst h2
    go_upto_region 8 with fail
    have HXd := Aside0.mk (HX.out.below (below_drew (Below.refl _ _))); have HRd := Aside0.mk (HR.out.below (below_drew (Below.refl _ _))); have HVd := Aside0.mk (Kd.R_drew HV.out); have HDd := Aside0.mk (HD.out.on (below_drew (Below.refl _ _))); clear HX HR HV HD; have HX := HXd; have HR := HRd; have HV := HVd; have HD := HDd; clear HXd HRd HVd HDd
    refine st_ 19 (S := fun w' => w'.cell? ⟨w.heap.size, 0, none⟩ = some (.int .i64 n) ∧ w'.cell? ⟨w.heap.size, 1, none⟩ = some (.slice A xs.length c)) (ds := []) ⟨HX.out.c0, HX.out.c1⟩ (fun hHeld => ?_)
    refine with_tabW (T := (true, [([], []), ([0], [0]), ([], []), ([2], [2]), ([3], [3]), ([], []), ([], []), ([6], [6]), ([7, 4], [7]), ([8], [8]), ([], []), ([10], [10]), ([11, 8], [11]), ([9, 12], [9, 12]), ([5, 13, 12], [5, 13]), ([14], [14]), ([4, 15, 14], [4, 15]), ([1, 16], [1, 16]), ([17, 16, 0, 1, 2, 3, 4, 5, 6, 7, 8, 9, 10, 11, 12, 13, 14, 15, 16, 17], [17])])) (B := [0, 1, 0, 4, 12, 0, 0, 64, 220, 476, 0, 1024, 3548, 8156, 16380, 32764, 65532, 131071, 262143]) (by kernel_rfl) (by kernel_rfl) (fun HT_ HW_ => ?_)
    refine pd_ 0 31 1 HT_ ?_
    refine pd_ 2 33 5 HT_ ?_
    refine pd_ 5 36 37 HT_ ?_
    refine pd_ 6 37 101 HT_ ?_
    refine pd_ 10 41 1125 HT_ ?_
    refine tk_ 1 32 1127 HT_ HW_ hHeld ?_
    refine tk_ 3 34 1135 HT_ HW_ hHeld ?_
    refine tk_ 7 38 1263 HT_ HW_ hHeld ?_
    refine tk_ 11 42 3311 HT_ HW_ hHeld ?_
    refine on_ 4 (some 35) 3327 HT_ (fun K hK => ?_)
    refine ca_ Tryz.func97 #[.slice A xs.length c] ?_
    refine (own_c A xs.length c xs _ (rfl) ((Kd.R_reads' HV.out).2.2) ((Kd.R_reads' HV.out).2.1) (by omega)).mono ?_; rintro e wz1 ⟨v4, rfl, hv, hb⟩; have HO := Aside0.mk (Kd.R_lower hv (HD.out.k.1)); clear hv; have HXn := Aside0.mk (HX.out.below hb); have HRn := Aside0.mk (HR.out.below hb); have HVn := Aside0.mk (Kd.R_below HV.out hb); have HDn := Aside0.mk (HD.out.on hb); clear HX HR HV HD; have HX := HXn; have HR := HRn; have HV := HVn; have HD := HDn; clear HXn HRn HVn HDn hb; obtain ⟨A4, c4, rfl⟩ := Kd.R_slice HO.out
    refine ⟨_, rfl, ?_⟩
    refine hK.out _ _ ⟨HX.out.c0, HX.out.c1⟩ (fun hHeld => ?_)
    clear hK K
    refine nm_ ?_
    refine on_ 8 (some 39) 3583 HT_ (fun K hK => ?_)
    refine ca_ Tryz.func52 #[.int .i64 n] ?_
    refine (all1_c n _).mono ?_; rintro e wz2 ⟨t1, rfl, hb⟩; obtain ⟨u1, hu1⟩ : ∃ u1, IntKind.i64.wrap (t1 + 1) = u1 := ⟨_, rfl⟩; have hu2 : wrap64 (t1 + 1) = u1 := (i64_w _).symm.trans hu1; have HXn := Aside0.mk (HX.out.below hb); have HRn := Aside0.mk (HR.out.below hb); have HVn := Aside0.mk (Kd.R_below HV.out hb); have HDn := Aside0.mk (HD.out.on hb); have HOn := Aside0.mk (Kd.R_below HO.out hb); clear HX HR HV HD HO; have HX := HXn; have HR := HRn; have HV := HVn; have HD := HDn; have HO := HOn; clear HXn HRn HVn HDn HOn hb
    refine ⟨_, rfl, ?_⟩
    refine hK.out _ _ ⟨HX.out.c0, HX.out.c1⟩ (fun hHeld => ?_)
    clear hK K
    refine nm_ ?_
    refine pd_ 9 40 4095 HT_ ?_
    refine on_ 12 (some 43) 8191 HT_ (fun K hK => ?_)
    refine ca_ Tryz.func52 #[.int .i64 n] ?_
    refine (all1_c n _).mono ?_; rintro e wz3 ⟨t2, rfl, hb⟩; have HXn := Aside0.mk (HX.out.below hb); have HRn := Aside0.mk (HR.out.below hb); have HVn := Aside0.mk (Kd.R_below HV.out hb); have HDn := Aside0.mk (HD.out.on hb); have HOn := Aside0.mk (Kd.R_below HO.out hb); clear HX HR HV HD HO; have HX := HXn; have HR := HRn; have HV := HVn; have HD := HDn; have HO := HOn; clear HXn HRn HVn HDn HOn hb
    refine ⟨_, rfl, ?_⟩
    refine hK.out _ _ ⟨HX.out.c0, HX.out.c1⟩ (fun hHeld => ?_)
    clear hK K
    refine nm_ ?_
    refine on_ 13 (some 44) 16383 HT_ (fun K hK => ?_)
    (refine value_ (by rfl) rfl (v := .slice (some ⟨(wz3).heap.size, 0, none⟩) 4 4) (w1 := (wz3).alloc (.cells #[.int .i64 0, .int .i64 u1, .int .i64 t2, .int .i64 1] 2)) (by go_simp) ?_)
    refine hK.out _ _ ⟨(HX.out.below (below_alloc (Below.refl _ _) (.cells #[.int .i64 0, .int .i64 u1, .int .i64 t2, .int .i64 1] 2))).c0, (HX.out.below (below_alloc (Below.refl _ _) (.cells #[.int .i64 0, .int .i64 u1, .int .i64 t2, .int .i64 1] 2))).c1⟩ (fun hHeld => ?_)
    clear hK K
    refine nm_ ?_
    refine on_ 14 (some 45) 32767 HT_ (fun K hK => ?_)
    refine ca_ Tryz.func96 #[.pointer (some ⟨y, 0, none⟩), .slice (some ⟨(wz3).heap.size, 0, none⟩) 4 4] ?_
    refine (pick_c w0 y [0, u1, t2, 1] _ HD.out.s _ rfl (by simp) (by simp)).mono ?_; rintro e wz5 ⟨r2, rfl, hr2, hp⟩; clear hr2; have HXn := Aside0.mk (HX.out.src HY.out.1 hp); have HRn := Aside0.mk (HR.out.src HY.out.2 hp); have HVn := Aside0.mk (RO.src HV.out HD.out.s hp); have HDn := Aside0.mk (HD.out.src hp); have HOn := Aside0.mk (RO.src HO.out HD.out.s hp); clear HX HR HV HD HO; have HX := HXn; have HR := HRn; have HV := HVn; have HD := HDn; have HO := HOn; clear HXn HRn HVn HDn HOn hp
    refine ⟨_, rfl, ?_⟩
    refine hK.out _ _ ⟨HX.out.c0, HX.out.c1⟩ (fun hHeld => ?_)
    clear hK K
    refine nm_ ?_
    refine on_ 15 (some 46) 65535 HT_ (fun K hK => ?_)
    (refine value_ (by rfl) rfl (v := .slice (some ⟨(wz5).heap.size, 0, none⟩) 1 1) (w1 := (wz5).alloc (.cells #[.int .i64 r2] 2)) (by go_simp) ?_)
    refine hK.out _ _ ⟨(HX.out.below (below_alloc (Below.refl _ _) (.cells #[.int .i64 r2] 2))).c0, (HX.out.below (below_alloc (Below.refl _ _) (.cells #[.int .i64 r2] 2))).c1⟩ (fun hHeld => ?_)
    clear hK K
    refine nm_ ?_
    refine on_ 16 (some 47) 131071 HT_ (fun K hK => ?_)
    (refine ap64R w.heap.size (.tmp 35) (.tmp 46) _ xs r2 rfl rfl HO.out (Below.refl w.heap.size _) HD.out.k.1 (by omega) ?_; intro v6 wz7 ho hb hg hat; have HO6 := Aside0.mk ho; have HXn := Aside0.mk (HX.out.grown hg HO.out); have HRn := Aside0.mk (HR.out.grown hg HO.out); have HDn := Aside0.mk (HD.out.up hb); clear HX HR HD HO HV ho hb hg hat; have HX := HXn; have HR := HRn; have HD := HDn; clear HXn HRn HDn; obtain ⟨A6, c6, hv6⟩ := Kd.R_slice HO6.out; rw [show (xs ++ [r2]).length = xs.length + 1 by simp] at hv6; subst hv6)
    refine hK.out _ _ ⟨HX.out.c0, HX.out.c1⟩ (fun hHeld => ?_)
    clear hK K
    refine nm_ ?_
    refine pd_ 17 48 262143 HT_ ?_
    refine on_ 18 none 524287 HT_ (fun K hK => ?_)
    (have m0 := HR.out.c0; have m1 := HR.out.c1; have f0 := HR.out.fz0; have f1 := HR.out.fz; refine skip_ (by rfl) rfl (w1 := ((wz7).setCell ⟨w.heap.size + 1, 0, none⟩ (.int .i64 n)).setCell ⟨w.heap.size + 1, 1, none⟩ (.slice A6 (xs.length + 1) c6)) (by go_simp) ?_; clear m0 m1 f0 f1)
    refine hK.out _ _ ⟨((HX.out.far (by omega) _).far (by omega) _).c0, ((HX.out.far (by omega) _).far (by omega) _).c1⟩ (fun hHeld => ?_)
    clear hK K
    refine dn_ HT_ ?_
    go_wp2
    have hld : (xs ++ [r2]).length = xs.length + 1 := by simp
    have hX := HR.out.set2 n A6 (xs.length + 1) c6
    have x0 := hX.c0
    have x1 := hX.c1
    refine bodyPost_ret (v := .agg #[.int .i64 n, .slice A6 (xs.length + 1) c6]) (by simp [results, Tryz.results81, go_sem, x0, x1]) rfl (by rw [← hld]; exact drawC_end HR.out (Nat.le_succ _) HD.out (by rw [hld]; exact Kd.R_lower HO6.out HBS.out) (by simp; omega) trivial)
  · have hr0 : (r == 0) = false := beq_eq_false_iff_ne.2 h0
    have hr1 : (r == 1) = false := beq_eq_false_iff_ne.2 h1
    have hr2 : (r == 2) = false := beq_eq_false_iff_ne.2 h2
    clear h0 h1 h2
    have hx0 := HX.out.c0
    have hx1 := HX.out.c1
    have m0 := HR.out.c0
    have m1 := HR.out.c1
    have f0 := HR.out.fz0
    have f1 := HR.out.fz
    go_wp2
    have hX := HR.out.set2 n A xs.length c
    have x0 := hX.c0
    have x1 := hX.c1
    refine bodyPost_ret (v := .agg #[.int .i64 n, .slice A xs.length c]) (by simp [results, Tryz.results81, go_sem, x0, x1]) rfl (drawC_end HR.out (Nat.le_succ _) HD.out HV.out (by omega) trivial)
end Go.Proofs.YtpnmifahfpmplaaGreat.Im
namespace Go.Proofs.YtpnmifahfpmplaaGreat.Im
open Go.RowKit Go.Shelf Cw YtpnmifahfpmplaaGreatW.PrintWords YtpnmifahfpmplaaGreatW.PrintLast YtpnmifahfpmplaaGreatW.PrintMore
section
variable {P : Program} {ops : Array Oper} {Q : Exit → Act → World → Prop} {S : World → Prop} {ds : List Nat} {md : Region.Mode} {T : Bool × List (List Nat × List Nat)} {n m fuel : Nat} {a : Act} {w : World} {oi oj : Oper}
theorem tw_ (i j : Nat) (Ni Nj : Option Tmp) (mi mj : Nat) (hT : Aside0 (rtab md ops = T))
    (h1 : ∀ K : Act → World → Prop, Shut (∀ a' w', S w' → (S w' → wpAnyLast P md ops Q S ds fuel (mB n mi) a' w') → K a' w') → if Region.wanted oi (yielded ops a.tmps) = true then Oper.wp P oi a w K Q else K (a.put Ni undef) w)
    (h2 : ∀ K : Act → World → Prop, Shut (∀ a' w', S w' → (S w' → wpAnyLast P md ops Q S ds fuel (mB n mj) a' w') → K a' w') → if Region.wanted oj (yielded ops a.tmps) = true then Oper.wp P oj a w K Q else K (a.put Nj undef) w)
    (hi : ops[i]? = some oi := by rfl) (hj : ops[j]? = some oj := by rfl) (hNi : oi.dst = Ni := by rfl) (hNj : oj.dst = Nj := by rfl)
    (hc : (readyT T.2 (mB n m).toList == [i, j] && (mB n m).toList.set i true == (mB n mi).toList && (mB n m).toList.set j true == (mB n mj).toList) = true := by kernel_rfl) (hdi : i ∉ ds := by decide) (hdj : j ∉ ds := by decide) :
    wpAnyLast P md ops Q S ds (fuel + 1) (mB n m) a w := two_ (mB n mi) (mB n mj) hi hj hNi hNj (two_of hT.out hc) hdi hdj h1 h2
end
section
variable {P : Program} {ops : Array Oper} {Q : Exit → Act → World → Prop} {S : World → Prop} {ds : List Nat} {md : Region.Mode} {T : Bool × List (List Nat × List Nat)} {n m fuel : Nat} {a : Act} {w : World} {oi : Oper}
theorem la_ (i : Nat) (N : Option Tmp) (m' : Nat) (hT : Aside0 (rtab md ops = T))
    (h : ∀ K : Act → World → Prop, Shut (∀ a' w', wpAnyLast P md ops Q S ds fuel (mB n m') a' w' → K a' w') → if Region.wanted oi (yielded ops a.tmps) = true then Oper.wp P oi a w K Q else K (a.put N undef) w)
    (hi : ops[i]? = some oi := by rfl) (hN : oi.dst = N := by rfl) (hc : (readyT T.2 (mB n m).toList == [i] && (mB n m).toList.set i true == (mB n m').toList) = true := by kernel_rfl) (hd : i ∈ ds := by decide) :
    wpAnyLast P md ops Q S ds (fuel + 1) (mB n m) a w := last_ (mB n m') hi hN (one_of hT.out hc) hd h
end
end Go.Proofs.YtpnmifahfpmplaaGreat.Im
namespace Go.Proofs.YtpnmifahfpmplaaGreat.Im
open Go.RowKit Go.Shelf Kp Cw Ext QS Pu YtpnmifahfpmplaaGreatW.PrintWords YtpnmifahfpmplaaGreatW.PrintLast YtpnmifahfpmplaaGreatW.PrintMore
set_option maxRecDepth 100000 in
set_option maxHeartbeats 8000000 in
theorem order_c (w0 : World) (y : Nat) (n : Nat) (w : World) (h6 : n ≤ 64) (hS : Src w0 w y) :
    Calls Tryz.prog 101 #[.pointer (some ⟨y, 0, none⟩), .int .i64 n] w fun e w' => ∃ v p, e = .returned v ∧ RO w' w.heap.size v p ∧ (p.length = n ∧ ∀ x ∈ p, 0 ≤ x ∧ x < (n : Int)) ∧ SrcTo w0 w y w' := by
  have HD := Aside0.mk ((Dr.start hS).on (below_alloc (Below.refl _ _) (.cells #[] 2)))
  have HO := Aside0.mk (RO.made w w.heap.size 0 #[] (Nat.le_refl _) (by simp) rfl)
  clear hS
  go_enter Tryz.func101, Tryz.ntmps101
  go_wp2
  go_loopw [5, 6] (fun s5 s6 wr => ∃ (i : Nat) (v : Value) (p : List Int), s6 = .int .i64 i ∧ s5 = v ∧ i ≤ n ∧ Aside0 (p.length = i ∧ ∀ x ∈ p, 0 ≤ x ∧ x < (i : Int)) ∧ Aside0 (RO wr w.heap.size v p) ∧ Aside0 (Dr w0 w y wr)) (fun _ s6 _ => n - (intOf s6).toNat)
  case atStart => exact ⟨0, _, [], rfl, rfl, Nat.zero_le _, ⟨rfl, by simp⟩, HO, HD⟩
  case round =>
    clear HO HD
    obtain ⟨i, v, p, rfl, rfl, hin, HP, HO, HD⟩ := hrel
    obtain ⟨A5, c5, rfl⟩ := Kd.R_slice HO.out
    by_cases hlt : i < n
    · have hltz : (i : Int) < (n : Int) := by omega
      go_upto_region 6 with (go_at_call 62; refine (next_c w0 y ((i : Int) + 1) _ HD.out.s).mono ?_; rintro e w1 ⟨r, rfl, hr, hp⟩; have hr2 := hr.2 (by omega); obtain ⟨m, rfl⟩ := Int.eq_ofNat_of_zero_le hr2.1; have HM : Aside0 (m ≤ i) := ⟨by omega⟩; have HO1 := Aside0.mk (RO.src HO.out HD.out.s hp); have HD1 := Aside0.mk (HD.out.src hp); clear hr hr2 hp HD HO)
      have HRC := Aside0.mk (Kd.R_reads' (Kd.R_drew HO1.out)).2.2
      have HCC := Aside0.mk (Kd.R_reads' HO1.out).2.1
      have HB := Aside0.mk (Below.refl w1.drew.heap.size w1.drew)
      have hmp : m ≤ p.length := by have := HM.out; have := HP.out.1; omega
      have HMP := Aside0.mk hmp
      have hcT := cutTo A5 p.length c5 m hmp HCC.out
      have hcF := cutFrom A5 p.length c5 m hmp
      obtain ⟨D, hD⟩ : ∃ D, D = (if c5 = m then A5 else A5.map (·.add (m * 1))) := ⟨_, rfl⟩
      rw [← hD] at hcF
      have HDD := Aside0.mk hD
      have hpl : p.length ≤ 64 := by have := HP.out.1; omega
      have HPL := Aside0.mk hpl
      clear hD hmp hpl
      refine st_ 12 (S := fun w' => True) (ds := []) trivial (fun hHeld => ?_)
      refine with_tabW (T := (true, [([], []), ([], []), ([0, 1], [0, 1]), ([2], [2]), ([], []), ([4], [4]), ([3, 5, 3], [3, 5]), ([], []), ([], []), ([7, 8], [7, 8]), ([6, 9, 6], [6, 9]), ([10, 10, 0, 1, 2, 3, 4, 5, 6, 7, 8, 9, 10], [0, 7, 10])])) (B := [0, 0, 3, 7, 0, 16, 63, 0, 0, 384, 1023, 2047]) (by kernel_rfl) (by kernel_rfl) (fun HT_ HW_ => ?_)
      refine pd_ 0 18 1 HT_ ?_
      refine pd_ 1 19 3 HT_ ?_
      refine pd_ 2 20 7 HT_ ?_
      refine pd_ 4 22 23 HT_ ?_
      refine pd_ 7 25 151 HT_ ?_
      refine pd_ 8 26 407 HT_ ?_
      refine pd_ 9 27 919 HT_ ?_
      refine tw_ 3 5 (some 21) (some 23) 927 951 HT_ (fun K hK => ?_) (fun K hK => ?_)
      refine ca_ Tryz.func97 #[.slice A5 m c5] ?_
      refine (own_c A5 m c5 (p.take m) _ (by rw [List.length_take]; exact Nat.min_eq_left HMP.out) (RC.take (Kd.C_below HRC.out HB.out) HMP.out) (Nat.le_trans HMP.out HCC.out) (by have := HMP.out; have := HPL.out; omega)).mono ?_; rintro e wz1 ⟨v3, rfl, hv, hb⟩; have HO3 := Aside0.mk (Kd.R_lower hv HB.out.size); have HBn := Aside0.mk (below_in HB.out hb); clear HB hv hb; have HB := HBn; clear HBn
      refine ⟨_, rfl, ?_⟩
      refine hK.out _ _ trivial (fun hHeld => ?_)
      clear hK K
      refine nm_ ?_
      refine on_ 5 (some 23) 959 HT_ (fun K hK => ?_)
      (refine value_ (by rfl) rfl (v := .slice (some ⟨(wz1).heap.size, 0, none⟩) 1 1) (w1 := (wz1).alloc (.cells #[.int .i64 i] 2)) (by go_simp) ?_; have hb := below_alloc (Below.refl (wz1).heap.size (wz1)) (.cells #[.int .i64 i] 2); have HL : Aside0 (RC ((wz1).alloc (.cells #[.int .i64 i] 2)) (some ⟨(wz1).heap.size, 0, none⟩) 1 [(i : Int)]) := ⟨(Kd.R_reads' (rowLit (wz1) [(i : Int)] (by simp))).2.2⟩; generalize (wz1).alloc (.cells #[.int .i64 i] 2) = wz2 at hb HL ⊢; generalize (some (⟨(wz1).heap.size, 0, none⟩ : Addr)) = AL at HL ⊢; have HBn := Aside0.mk (below_in HB.out hb); have HO3n := Aside0.mk (Kd.R_below HO3.out hb); clear HB hb HO3; have HB := HBn; have HO3 := HO3n; clear HBn HO3n)
      refine hK.out _ _ trivial (fun hHeld => ?_)
      clear hK K
      refine nm_ ?_
      refine on_ 6 (some 24) 1023 HT_ (fun K hK => ?_)
      (refine ap64sR w1.drew.heap.size (.tmp 21) (.tmp 23) _ (p.take m) [(i : Int)] AL 1 1 rfl rfl HO3.out HL.out HB.out HB.out.size (by have := HPL.out; simp; omega) ?_; intro v6 wz3 ho hb hg hat; have HO6 := Aside0.mk ho; have HBn := Aside0.mk hb; clear HB ho hb hg hat HO3 HL; have HB := HBn; clear HBn)
      refine hK.out _ _ trivial (fun hHeld => ?_)
      clear hK K
      refine nm_ ?_
      refine on_ 10 (some 28) 2047 HT_ (fun K hK => ?_)
      (refine ap64sR w1.drew.heap.size (.tmp 24) (.tmp 27) _ (p.take m ++ [(i : Int)]) (p.drop m) D (p.length - m) (c5 - m) rfl rfl HO6.out (by rw [HDD.out]; exact RC.drop (Kd.C_below HRC.out HB.out) HMP.out HCC.out) HB.out HB.out.size (by have := HPL.out; simp; omega) ?_; intro v7 wz4 ho hb hg hat; have HO7 := Aside0.mk ho; have HBn := Aside0.mk hb; clear HB ho hb hg hat HO6; have HB := HBn; clear HBn)
      refine hK.out _ _ trivial (fun hHeld => ?_)
      clear hK K
      refine nm_ ?_
      refine pd_ 11 5 4095 HT_ ?_
      refine dn_ HT_ ?_
      rotate_left
      (refine value_ (by rfl) rfl (v := .slice (some ⟨(w1.drew).heap.size, 0, none⟩) 1 1) (w1 := (w1.drew).alloc (.cells #[.int .i64 i] 2)) (by go_simp) ?_; have hb := below_alloc (Below.refl (w1.drew).heap.size (w1.drew)) (.cells #[.int .i64 i] 2); have HL : Aside0 (RC ((w1.drew).alloc (.cells #[.int .i64 i] 2)) (some ⟨(w1.drew).heap.size, 0, none⟩) 1 [(i : Int)]) := ⟨(Kd.R_reads' (rowLit (w1.drew) [(i : Int)] (by simp))).2.2⟩; generalize (w1.drew).alloc (.cells #[.int .i64 i] 2) = wz1 at hb HL ⊢; generalize (some (⟨(w1.drew).heap.size, 0, none⟩ : Addr)) = AL at HL ⊢; have HBn := Aside0.mk (below_in HB.out hb); clear HB hb; have HB := HBn; clear HBn)
      refine hK.out _ _ trivial (fun hHeld => ?_)
      clear hK K
      refine nm_ ?_
      refine on_ 3 (some 21) 959 HT_ (fun K hK => ?_)
      refine ca_ Tryz.func97 #[.slice A5 m c5] ?_
      refine (own_c A5 m c5 (p.take m) _ (by rw [List.length_take]; exact Nat.min_eq_left HMP.out) (RC.take (Kd.C_below HRC.out HB.out) HMP.out) (Nat.le_trans HMP.out HCC.out) (by have := HMP.out; have := HPL.out; omega)).mono ?_; rintro e wz2 ⟨v3, rfl, hv, hb⟩; have HO3 := Aside0.mk (Kd.R_lower hv HB.out.size); have HBn := Aside0.mk (below_in HB.out hb); have HLn := Aside0.mk (Kd.C_below HL.out hb); clear HB hv hb HL; have HB := HBn; have HL := HLn; clear HBn HLn
      refine ⟨_, rfl, ?_⟩
      refine hK.out _ _ trivial (fun hHeld => ?_)
      clear hK K
      refine nm_ ?_
      refine on_ 6 (some 24) 1023 HT_ (fun K hK => ?_)
      (refine ap64sR w1.drew.heap.size (.tmp 21) (.tmp 23) _ (p.take m) [(i : Int)] AL 1 1 rfl rfl HO3.out HL.out HB.out HB.out.size (by have := HPL.out; simp; omega) ?_; intro v6 wz3 ho hb hg hat; have HO6 := Aside0.mk ho; have HBn := Aside0.mk hb; clear HB ho hb hg hat HO3 HL; have HB := HBn; clear HBn)
      refine hK.out _ _ trivial (fun hHeld => ?_)
      clear hK K
      refine nm_ ?_
      refine on_ 10 (some 28) 2047 HT_ (fun K hK => ?_)
      (refine ap64sR w1.drew.heap.size (.tmp 24) (.tmp 27) _ (p.take m ++ [(i : Int)]) (p.drop m) D (p.length - m) (c5 - m) rfl rfl HO6.out (by rw [HDD.out]; exact RC.drop (Kd.C_below HRC.out HB.out) HMP.out HCC.out) HB.out HB.out.size (by have := HPL.out; simp; omega) ?_; intro v7 wz4 ho hb hg hat; have HO7 := Aside0.mk ho; have HBn := Aside0.mk hb; clear HB ho hb hg hat HO6; have HB := HBn; clear HBn)
      refine hK.out _ _ trivial (fun hHeld => ?_)
      clear hK K
      refine nm_ ?_
      refine pd_ 11 5 4095 HT_ ?_
      refine dn_ HT_ ?_
      rotate_left
      all_goals
        go_wp2
        go_roundw
        case measure => simp [intOf]; omega
        case rel =>
          refine ⟨i + 1, _, _, by go_num, rfl, by omega, ⟨⟨?_, ?_⟩⟩, ⟨Kd.R_lower HO7.out HD1.out.k.1⟩, ⟨(HD1.out.on (below_drew (Below.refl _ _))).on HB.out⟩⟩
          · have := HP.out.1
            have := HMP.out
            simp; omega
          · intro x hx
            simp only [List.mem_append, List.mem_singleton] at hx
            rcases hx with (hx | rfl) | hx
            · have := HP.out.2 x (List.mem_of_mem_take hx); omega
            · omega
            · have := HP.out.2 x (List.mem_of_mem_drop hx); omega
    · obtain rfl : i = n := by omega
      have hltz : ¬ ((i : Int) < (i : Int)) := by omega
      go_wp2
      go_ret
      exact ⟨_, rfl, p, HO.out, HP.out, HD.out.to⟩
set_option maxRecDepth 100000 in
set_option maxHeartbeats 8000000 in
theorem small_c (w0 : World) (y : Nat) (w : World) (hS : Src w0 w y) :
    Calls Tryz.prog 63 #[.pointer (some ⟨y, 0, none⟩)] w (DrawC w0 w y w.heap.size 63 fun n => 0 ≤ n ∧ n ≤ 6) := by
  have HY : Aside0 (w.heap.size ≠ y) := ⟨Nat.ne_of_gt hS.lt⟩
  have HD := Aside0.mk ((Dr.start hS).on (below_alloc (Below.refl _ _) (.cells #[.int .i64 0, .slice none 0 0] 26)))
  have HX := Aside0.mk (CxAt.new w 0 none 0 0)
  clear hS
  go_enter Tryz.func63, Tryz.ntmps63
  go_wp2_with (first
    | (go_at_call 62; refine (next_c w0 y 4 _ HD.out.s).mono ?_; rintro e w1 ⟨r, rfl, hr, hp⟩; have hr2 := hr.2 (by omega); have HD2 := Aside0.mk (HD.out.src hp); have HX2 := Aside0.mk (HX.out.src HY.out hp); clear hr hp HD HX)
    | (go_at_call 83; refine (drawOf_c w0 y (1 + r) _ (by omega) (by omega) HD2.out.s).mono ?_; rintro e w2 ⟨n, v, ys, rfl, hn, hv, hl, hp⟩; subst hn; obtain ⟨A, c, rfl⟩ := Kd.R_slice hv; have HV := Aside0.mk (Kd.R_lower hv HD2.out.k.1); have HL := Aside0.mk hl; have HD3 := Aside0.mk (HD2.out.src hp); have HX3 := Aside0.mk (HX2.out.src HY.out hp); have m0 := HX3.out.c0; have m1 := HX3.out.c1; have f0 := HX3.out.fz0; have f1 := HX3.out.fz; clear hv hl hp HD2 HX2))
  have hX := HX3.out.set2 (1 + r) A ys.length c
  have x0 := hX.c0
  have x1 := hX.c1
  refine bodyPost_ret (v := .agg #[.int .i64 (1 + r), .slice A ys.length c]) (by simp [results, Tryz.results63, go_sem, x0, x1]) rfl (drawC_end HX3.out (Nat.le_refl _) HD3.out HV.out HL.out (by omega))
theorem names_ex : ∃ L, spec_l01Names.f = some L ∧ L.length = 11 := by
  have hk := known_all
  cases hA : spec_l01Names.f with
  | none => rw [hA] at hk; exact absurd hk (by simp)
  | some A =>
    cases hB : spec_l01Known.f with
    | none => rw [hA, hB] at hk; exact absurd hk (by simp)
    | some B =>
      rw [hA, hB] at hk
      simp only [Bool.and_eq_true, decide_eq_true_eq] at hk
      exact ⟨A, rfl, hk.1.1⟩
theorem R_src {α : Type} {d : Kd α} {e : TypeId} {w0 W W' : World} {y base : Nat} {v : Value} {xs : List α} (h : d.R e W base (fun _ => True) v xs) (ht : ∀ q, q ∈ e :: d.E → q ≠ 75) (hS : Src w0 W y) (p : SrcTo w0 W y W') : d.R e W' base (fun _ => True) v xs := by
  obtain ⟨⟨_, _, _, h1, _⟩, _⟩ := hS
  exact Kd.R_mono (Kd.R_keep (h1.apart h ht) p.2 (fun _ h => h.2)) (fun _ _ => trivial)
set_option maxRecDepth 100000 in
set_option maxHeartbeats 8000000 in
theorem draw_c (w0 : World) (y : Nat) (w : World) (hS : Src w0 w y) :
    Calls Tryz.prog 82 #[.pointer (some ⟨y, 0, none⟩)] w (DrawC w0 w y w.heap.size 63 fun n => 0 ≤ n ∧ n ≤ 6) := by
  have HY : Aside0 (w.heap.size ≠ y) := ⟨Nat.ne_of_gt hS.lt⟩
  have HD := Aside0.mk ((Dr.start hS).on (below_alloc (Below.refl _ _) (.cells #[.int .i64 0, .slice none 0 0] 26)))
  have HX := Aside0.mk (CxAt.new w 0 none 0 0)
  obtain ⟨L, hL, hL11⟩ := names_ex
  have HN := Aside0.mk hL
  have HN11 := Aside0.mk hL11
  clear hS hL hL11
  go_enter Tryz.func82, Tryz.ntmps82
  go_upto_region 2 with (first
    | (go_at_call 62; refine (next_c w0 y 3 _ HD.out.s).mono ?_; rintro e w1 ⟨r, rfl, hr, hp⟩; clear hr; have HD1 := Aside0.mk (HD.out.src hp); have HX1 := Aside0.mk (HX.out.src HY.out hp); clear hp HD HX)
    | (go_at_call 96; refine (pick_c w0 y [1, 2, 3, 4, 4, 5, 5, 6, 6] _ HD1.out.s _ rfl (by decide) (by decide)).mono ?_; rintro e w2 ⟨n, rfl, hn, hp⟩; have hn16 : 0 ≤ n ∧ n ≤ 6 := (by simp only [List.mem_cons, List.not_mem_nil, or_false] at hn; omega); have HD2 := Aside0.mk (HD1.out.src hp); have HX2 := Aside0.mk (HX1.out.src HY.out hp); clear hn hp HD1 HX1)
    | (go_at_call 83; refine (drawOf_c w0 y n _ hn16.1 hn16.2 HD2.out.s).mono ?_; rintro e w2 ⟨n', v, ys, rfl, hn, hv, hl, hp⟩; subst hn; obtain ⟨A, c, rfl⟩ := Kd.R_slice hv; have HV := Aside0.mk (Kd.R_lower hv HD2.out.k.1); have HL := Aside0.mk hl; have HD3 := Aside0.mk (HD2.out.src hp); have HX3 := Aside0.mk (HX2.out.src HY.out hp); have m0 := HX3.out.c0; have m1 := HX3.out.c1; have f0 := HX3.out.fz0; have f1 := HX3.out.fz; clear hv hl hp HD2 HX2))
  · go_upto_region 4 with (first
      | (go_at_call 98; refine (spec_l01Names.calls L _ HN.out).mono ?_; rintro e w2 ⟨v2, rfl, hv, hb⟩; have HD2 := Aside0.mk (HD1.out.on hb); have HX2 := Aside0.mk (HX1.out.below hb); obtain ⟨ad, c2, hv2⟩ := Kd.R_slice1 hv (by have := HN11.out; omega); subst hv2; have HLN := Aside0.mk (Kd.R_lower hv HD1.out.k.1); clear hv hb HD1 HX1)
      | (go_at_call 62; refine (next_c w0 y (L.length : Int) _ HD2.out.s).mono ?_; rintro e w3 ⟨r3, rfl, hr, hp⟩; have hr3 := hr.2 (by have := HN11.out; omega); have HD3 := Aside0.mk (HD2.out.src hp); have HX3 := Aside0.mk (HX2.out.src HY.out hp); have HLN3 := Aside0.mk (R_src HLN.out (by decide) HD2.out.s hp); have hcell := Kd.foot_string (Kd.R_reads' HLN3.out).2.2 r3 hr3.1 hr3.2; clear hr hp HD2 HX2 HLN)
      | (go_at_call 99; refine (named_c _ _).mono ?_; rintro e w4 ⟨n, v4, ys, b4, rfl, hn, hv, hl, hb⟩; obtain ⟨A, c, rfl⟩ := Kd.R_slice hv; have HV := Aside0.mk (Kd.R_lower hv HD3.out.k.1); have HNN := Aside0.mk hn; have HL := Aside0.mk hl; have HD4 := Aside0.mk (HD3.out.on hb); have HX4 := Aside0.mk (HX3.out.below hb); clear hn hv hl hb HD3 HX3 hcell HLN3))
    obtain ⟨n, rfl⟩ := Int.eq_ofNat_of_zero_le HNN.out.1
    have HY4 : Aside0 (w4.heap.size ≠ y) := ⟨Nat.ne_of_gt HD4.out.s.lt⟩
    have hb5 := (below_alloc (Below.refl w4.heap.size w4) (.cells #[.int .i64 (n : Int), .slice A ys.length c] 26)).drew
    have HT := Aside0.mk ((CxAt.new w4 n A ys.length c).below (below_drew (Below.refl _ _)))
    have HD := Aside0.mk (HD4.out.on hb5)
    have HX := Aside0.mk (HX4.out.below hb5)
    have HO := Aside0.mk (Kd.R_below HV.out hb5)
    have HNE : Aside0 (w4.heap.size ≠ w.heap.size) := ⟨Nat.ne_of_gt HX4.out.lt⟩
    clear hb5 HD4 HX4 HV
    refine st_ 7 (S := fun w' => w'.cell? ⟨w4.heap.size, 0, none⟩ = some (.int .i64 (n : Int)) ∧ w'.cell? ⟨w4.heap.size, 1, none⟩ = some (.slice A ys.length c)) (ds := []) ⟨HT.out.c0, HT.out.c1⟩ (fun hHeld => ?_)
    refine with_tabW (T := (true, [([], []), ([], []), ([], []), ([2], [2]), ([1, 3], [1, 3]), ([0, 4, 4], [0, 4]), ([5, 5, 0, 1, 2, 3, 4, 5], [5])])) (B := [0, 0, 0, 4, 14, 31, 63]) (by kernel_rfl) (by kernel_rfl) (fun HT_ HW_ => ?_)
    refine pd_ 1 22 2 HT_ ?_
    refine pd_ 2 23 6 HT_ ?_
    refine tk_ 0 21 7 HT_ HW_ hHeld ?_
    refine tk_ 3 24 15 HT_ HW_ hHeld ?_
    refine on_ 4 (some 25) 31 HT_ (fun K hK => ?_)
    refine ca_ Tryz.func101 #[.pointer (some ⟨y, 0, none⟩), .int .i64 (n : Int)] ?_
    refine (order_c w0 y n _ (by have := HNN.out; omega) HD.out.s).mono ?_; rintro e wz1 ⟨vp, p, rfl, hv, hpl, hp⟩; obtain ⟨Ap, cp, rfl⟩ := Kd.R_slice hv; have HP := Aside0.mk (Kd.R_lower hv HD.out.k.1); have HPL := Aside0.mk hpl.1; have HOn := Aside0.mk (RO.src HO.out HD.out.s hp); have HTn := Aside0.mk (HT.out.src HY4.out hp); have HXn := Aside0.mk (HX.out.src HY.out hp); have HDn := Aside0.mk (HD.out.src hp); clear hv hpl hp HO HT HX HD; have HO := HOn; have HT := HTn; have HX := HXn; have HD := HDn; clear HOn HTn HXn HDn
    refine ⟨_, rfl, ?_⟩
    refine hK.out _ _ ⟨HT.out.c0, HT.out.c1⟩ (fun hHeld => ?_)
    clear hK K
    refine nm_ ?_
    refine on_ 5 (some 26) 63 HT_ (fun K hK => ?_)
    refine ca_ Tryz.func100 #[.agg #[.int .i64 (n : Int), .slice A ys.length c], .slice Ap p.length cp] ?_
    refine (renamed_c n A c ys Ap cp p _ HNN.out.1 HNN.out.2 (Kd.R_reads' HO.out).2.2 (Kd.R_reads' HO.out).2.1 (by have := HL.out; omega) (Kd.R_reads' HP.out).2.2 (Kd.R_reads' HP.out).2.1 (by have := HPL.out; have := HNN.out; omega)).mono ?_; rintro e wz2 ⟨v6, zs, rfl, hv, hl, hb⟩; obtain ⟨A6, c6, rfl⟩ := Kd.R_slice hv; have HV6 := Aside0.mk (Kd.R_lower hv HD.out.k.1); have HL6 := Aside0.mk hl; have HTn := Aside0.mk (HT.out.below hb); have HXn := Aside0.mk (HX.out.below hb); have HDn := Aside0.mk (HD.out.on hb); clear hv hl hb HO HP HT HX HD; have HT := HTn; have HX := HXn; have HD := HDn; clear HTn HXn HDn
    refine ⟨_, rfl, ?_⟩
    refine hK.out _ _ ⟨HT.out.c0, HT.out.c1⟩ (fun hHeld => ?_)
    clear hK K
    refine nm_ ?_
    refine on_ 6 none 127 HT_ (fun K hK => ?_)
    (have m0 := HX.out.c0; have m1 := HX.out.c1; have f0 := HX.out.fz0; have f1 := HX.out.fz; refine skip_ (by rfl) rfl (w1 := ((wz2).setCell ⟨w.heap.size, 0, none⟩ (.int .i64 (n : Int))).setCell ⟨w.heap.size, 1, none⟩ (.slice A6 zs.length c6)) (by go_simp) ?_; clear m0 m1 f0 f1)
    refine hK.out _ _ ⟨((HT.out.far HNE.out _).far HNE.out _).c0, ((HT.out.far HNE.out _).far HNE.out _).c1⟩ (fun hHeld => ?_)
    clear hK K
    refine dn_ HT_ ?_
    go_wp2
    have hX := HX.out.set2 (n : Int) A6 zs.length c6
    have x0 := hX.c0
    have x1 := hX.c1
    refine bodyPost_ret (v := .agg #[.int .i64 (n : Int), .slice A6 zs.length c6]) (by simp [results, Tryz.results82, go_sem, x0, x1]) rfl (drawC_end HX.out (Nat.le_refl _) HD.out HV6.out HL6.out HNN.out)
  · have hX := HX3.out.set2 n' A ys.length c
    have x0 := hX.c0
    have x1 := hX.c1
    refine bodyPost_ret (v := .agg #[.int .i64 n', .slice A ys.length c]) (by simp [results, Tryz.results82, go_sem, x0, x1]) rfl (drawC_end HX3.out (Nat.le_refl _) HD3.out HV.out HL.out hn16)
set_option maxRecDepth 100000 in
set_option maxHeartbeats 8000000 in
theorem spoil_c (w0 : World) (y : Nat) (w : World) (hS : Src w0 w y) :
    Calls Tryz.prog 61 #[.pointer (some ⟨y, 0, none⟩)] w (DrawC w0 w y w.heap.size 64 fun _ => True) := by
  have HY : Aside0 (w.heap.size ≠ y) := ⟨Nat.ne_of_gt hS.lt⟩
  have HD := Aside0.mk ((Dr.start hS).on (below_alloc (Below.refl _ _) (.cells #[.int .i64 0, .slice none 0 0] 26)))
  have HX := Aside0.mk (CxAt.new w 0 none 0 0)
  clear hS
  go_enter Tryz.func61, Tryz.ntmps61
  go_wp2_with (first
    | (go_at_call 82; refine (draw_c w0 y _ HD.out.s).mono ?_; rintro e w1 ⟨n, v, ys, rfl, hn, hv, hl, hp⟩; obtain ⟨A, c, rfl⟩ := Kd.R_slice hv; have HV := Aside0.mk (Kd.R_lower hv HD.out.k.1); have HL := Aside0.mk hl; have HD2 := Aside0.mk (HD.out.src hp); have HX2 := Aside0.mk (HX.out.src HY.out hp); clear hn hv hl hp HD HX)
    | (go_at_call 81; refine (bad_c w0 y n A c ys w.heap.size _ HD2.out.s HV.out HD2.out.k.1 HL.out).mono ?_; rintro e w2 ⟨n2, v2, zs, rfl, hn, hv, hl, hp⟩; obtain ⟨A2, c2, rfl⟩ := Kd.R_slice hv; have HV2 := Aside0.mk hv; have HL2 := Aside0.mk hl; have HD3 := Aside0.mk (HD2.out.src hp); have HX3 := Aside0.mk (HX2.out.src HY.out hp); have m0 := HX3.out.c0; have m1 := HX3.out.c1; have f0 := HX3.out.fz0; have f1 := HX3.out.fz; clear hn hv hl hp HD2 HX2 HV))
  have hX := HX3.out.set2 n2 A2 zs.length c2
  have x0 := hX.c0
  have x1 := hX.c1
  refine bodyPost_ret (v := .agg #[.int .i64 n2, .slice A2 zs.length c2]) (by simp [results, Tryz.results61, go_sem, x0, x1]) rfl (drawC_end HX3.out (Nat.le_refl _) HD3.out HV2.out HL2.out trivial)
set_option maxRecDepth 100000 in
set_option maxHeartbeats 8000000 in
theorem from_c (A : Option Addr) (c : Nat) (l : List Int) (w : World) (hr : Kd.C (Kd.int .u8) w A l.length l) (hc : l.length ≤ c) (hl : l.length ≤ 4096) (hb : ∀ x ∈ l, 0 ≤ x ∧ x ≤ 255) :
    Calls Tryz.prog 37 #[.slice A l.length c] w fun e w' => ∃ y, e = .returned (.pointer (some ⟨y, 0, none⟩)) ∧ Src w w' y := by
  have hS0 := fun h => IsS75.new w w A c l 0 h (Below.refl _ _) hr
  have HS0 := Aside0.mk hS0
  have HR := Aside0.mk hr
  have HBY := Aside0.mk hb
  clear hS0 hr hb
  go_enter Tryz.func37, Tryz.ntmps37
  go_wp2
  go_loopw [4] (fun s4 wr => ∃ i : Nat, s4 = .int .i64 i ∧ i ≤ l.length ∧ Aside0 (∃ h, IsS75 w wr w.heap.size l 0 h) ∧ Aside0 (Below w.heap.size w wr)) (fun s4 _ => l.length - (intOf s4).toNat)
  case atStart => exact ⟨0, rfl, Nat.zero_le _, ⟨_, HS0.out _⟩, ⟨below_alloc (Below.refl _ _) _⟩⟩
  case round =>
    clear HS0
    obtain ⟨i, rfl, hi, HS, HB⟩ := hrel
    by_cases hlt : i < l.length
    · have hltz : (i : Int) < (l.length : Int) := by omega
      have hl4 : (i : Int) < 4096 := by omega
      obtain ⟨h, hS⟩ := HS.out
      have hc2 : wr.cell? ⟨w.heap.size, 2, none⟩ = some (.int .u64 h) := by obtain ⟨A', c', hblk, _⟩ := hS; exact cellS75_2 hblk
      have hf2 : wr.frozen? ⟨w.heap.size, 2, none⟩ = false := by obtain ⟨A', c', hblk, _⟩ := hS; exact blk_frozen hblk 2
      obtain ⟨ad, hA, hcl⟩ := Kd.at_int HR.out (i : Int) (by omega) (by omega)
      subst hA
      rw [Int.toNat_natCast] at hcl
      obtain ⟨x, hx⟩ : ∃ x, rd l (i : Int) = x := ⟨_, rfl⟩
      rw [hx] at hcl
      have hcl2 := pw_cell_below HB.out hcl
      have HF2 := Aside0.mk hf2
      have HS2 := Aside0.mk hS
      clear hcl hx HS hf2 hS
      go_upto_region 5 with fail
      refine st_ 16 (S := fun w' => w'.cell? ⟨w.heap.size, 2, none⟩ = some (.int .u64 h) ∧ w'.cell? (ad.add i) = some (.int .u8 x)) (ds := [15]) ⟨hc2, hcl2⟩ (fun hHeld => ?_)
      refine with_tabW (T := (true, [([], []), ([], []), ([1], [1]), ([2], [2]), ([3], [3]), ([4], [4]), ([], []), ([], []), ([6, 7], [6, 7]), ([8], [8]), ([9], [9]), ([5, 10], [5, 10]), ([11], [11]), ([0, 0, 1, 2, 3, 4, 5, 6, 7, 8, 9, 10, 11, 12], [0]), ([13, 0, 1, 2, 3, 4, 5, 6, 7, 8, 9, 10, 11, 12], [13]), ([14, 12, 0, 1, 2, 3, 4, 5, 6, 7, 8, 9, 10, 11, 12], [12, 14])])) (B := [0, 0, 2, 6, 14, 30, 0, 0, 192, 448, 960, 2046, 4094, 8191, 16383, 32767]) (by kernel_rfl) (by kernel_rfl) (fun HT_ HW_ => ?_)
      refine pd_ 0 22 1 HT_ ?_
      refine pd_ 1 23 3 HT_ ?_
      refine pd_ 2 24 7 HT_ ?_
      refine pd_ 3 25 15 HT_ ?_
      refine pd_ 6 28 79 HT_ ?_
      refine pd_ 7 29 207 HT_ ?_
      refine pd_ 8 30 463 HT_ ?_
      refine tk_ 4 26 479 HT_ HW_ hHeld ?_
      refine pd_ 5 27 511 HT_ ?_
      refine tk_ 9 31 1023 HT_ HW_ hHeld ?_
      refine pd_ 10 32 2047 HT_ ?_
      refine pd_ 11 33 4095 HT_ ?_
      refine pd_ 12 34 8191 HT_ ?_
      refine pd_ 13 35 16383 HT_ ?_
      refine pd_ 14 36 32767 HT_ ?_
      refine la_ 15 none 65535 HT_ (fun K hK => ?_)
      (have hc2' : wr.drew.cell? ⟨w.heap.size, 2, none⟩ = some (.int .u64 h) := hc2; have hf2' : wr.drew.frozen? ⟨w.heap.size, 2, none⟩ = false := HF2.out; refine skip_ (by rfl) rfl (w1 := wr.drew.setCell ⟨w.heap.size, 2, none⟩ (.int .u64 (IntKind.u64.wrap (IntKind.u64.wrap (IntKind.u64.wrap (h * 1099511628211) + IntKind.u64.wrap x) + 173)))) (by go_simp) ?_; clear hc2' hf2')
      refine hK.out _ _ ?_
      clear hK K
      refine dn_ HT_ ?_
      clear hc2 hcl2
      go_wp2
      go_roundw
      case measure => simp [intOf]; omega
      case rel => exact ⟨i + 1, by go_num, by omega, ⟨_, HS2.out.drew.set_2 _⟩, ⟨HB.out.drew.setCell (p := ⟨w.heap.size, 2, none⟩) (Nat.le_refl _) _⟩⟩
    · obtain rfl : i = l.length := by omega
      have hltz : ¬ ((l.length : Int) < (l.length : Int)) := by omega
      go_wp2
      go_ret
      obtain ⟨h, hS⟩ := HS.out
      exact ⟨_, rfl, ⟨⟨l, 0, h, hS, HBY.out, Int.le_refl _, by omega⟩, HB.out⟩⟩
end Go.Proofs.YtpnmifahfpmplaaGreat.Im
namespace Go.Proofs.YtpnmifahfpmplaaGreat.Im
open Go.RowKit Kp YtpnmifahfpmplaaGreatW.PrintWords YtpnmifahfpmplaaGreatW.PrintLast YtpnmifahfpmplaaGreatW.PrintMore
def FnP (P : Program) (fv : Value) (dom : Pr → Prop) (p : Pr → Bool) (w : World) : Prop :=
  ∃ g fs lb, fv = .func (.func g) fs lb ∧ (∀ args w, (callFunc g args).run P w = .ok (.enter g args) w) ∧
    ∀ W (x : Pr), Below w.heap.size w W → dom x → Calls P g (fs ++ #[.agg #[.int .i64 x.f0, .int .i64 x.f1]] ++ lb) W fun e w' => e = .returned (.bool (p x)) ∧ Below W.heap.size W w'
theorem FnP.later {P : Program} {fv : Value} {dom : Pr → Prop} {p : Pr → Bool} {w w1 : World} (h : FnP P fv dom p w) (hb : Below w.heap.size w w1) : FnP P fv dom p w1 := by
  obtain ⟨g, fs, lb, he, hg, hc⟩ := h
  exact ⟨g, fs, lb, he, hg, fun W x hW hx => hc W x (hb.trans (hW.mono hb.size)) hx⟩
end Go.Proofs.YtpnmifahfpmplaaGreat.Im
namespace Go.Proofs.YtpnmifahfpmplaaGreat.Ext
open Go.RowKit Im Kp YtpnmifahfpmplaaGreatW.PrintWords YtpnmifahfpmplaaGreatW.PrintLast YtpnmifahfpmplaaGreatW.PrintMore
structure Pred where
  sort : Nat
  u : Bool
  full : Bool
  pI : Int → Bool
  pP : Pr → Bool
def Pred.nul (u : Bool) : Pred := ⟨0, u, true, fun _ => true, fun _ => true⟩
def Pred.int (p : Int → Bool) : Pred := ⟨1, true, true, p, fun _ => true⟩
def Pred.face (p : Int → Bool) : Pred := ⟨1, true, false, p, fun _ => true⟩
def Pred.bad : Pred := ⟨9, true, true, fun _ => true, fun _ => true⟩
def Pred.dom (a : Pred) (x : Int) : Prop := a.full = true ∨ (0 ≤ x ∧ x ≤ 63)
def Pred.facePr (p : Pr → Bool) : Pred := ⟨2, true, false, fun _ => true, p⟩
def Pred.domP (a : Pred) (x : Pr) : Prop := a.full = true ∨ ((0 ≤ x.f0 ∧ x.f0 ≤ 63) ∧ (0 ≤ x.f1 ∧ x.f1 ≤ 63))
def okDom (a : Pred) (l : List Int) : Bool := a.full || l.all fun x => decide (0 ≤ x) && decide (x ≤ 63)
def okDomP (a : Pred) (l : List Pr) : Bool := a.full || l.all fun x => (decide (0 ≤ x.f0) && decide (x.f0 ≤ 63)) && (decide (0 ≤ x.f1) && decide (x.f1 ≤ 63))
theorem okDom_mem {a : Pred} {l : List Int} (h : okDom a l = true) : ∀ x ∈ l, a.dom x := by
  intro x hx
  rcases Bool.or_eq_true _ _ ▸ h with h | h
  · exact .inl h
  · have := List.all_eq_true.1 h x hx
    simp only [Bool.and_eq_true, decide_eq_true_eq] at this
    exact .inr this
theorem okDomP_mem {a : Pred} {l : List Pr} (h : okDomP a l = true) : ∀ x ∈ l, a.domP x := by
  intro x hx
  rcases Bool.or_eq_true _ _ ▸ h with h | h
  · exact .inl h
  · have := List.all_eq_true.1 h x hx
    simp only [Bool.and_eq_true, decide_eq_true_eq] at this
    exact .inr this
def FnOk (F : Value) (a : Pred) (w : World) : Prop :=
  (a.sort = 0 → FnU Tryz.prog F a.u w) ∧ (a.sort = 1 → FnB Tryz.prog F a.dom a.pI w) ∧ (a.sort = 2 → FnP Tryz.prog F a.domP a.pP w)
theorem FnOk.later {F : Value} {a : Pred} {w w1 : World} (h : FnOk F a w) (hb : Below w.heap.size w w1) : FnOk F a w1 :=
  ⟨fun e => (h.1 e).later hb, fun e => (h.2.1 e).later hb, fun e => (h.2.2 e).later hb⟩
theorem FnOk.nul {F : Value} {u : Bool} {w : World} (h : FnU Tryz.prog F u w) : FnOk F (Pred.nul u) w := ⟨fun _ => h, fun e => (by cases e), fun e => (by cases e)⟩
theorem FnOk.int {F : Value} {p : Int → Bool} {w : World} (h : FnB Tryz.prog F (fun _ => True) p w) : FnOk F (Pred.int p) w := ⟨fun e => (by cases e), fun _ => (by
    obtain ⟨g, fs, lb, he, hg, hc⟩ := h
    exact ⟨g, fs, lb, he, hg, fun W x hW _ => hc W x hW trivial⟩), fun e => (by cases e)⟩
theorem FnOk.face {F : Value} {p : Int → Bool} {w : World} (h : FnB Tryz.prog F (fun x => 0 ≤ x ∧ x ≤ 63) p w) : FnOk F (Pred.face p) w := ⟨fun e => (by cases e), fun _ => (by
    obtain ⟨g, fs, lb, he, hg, hc⟩ := h
    exact ⟨g, fs, lb, he, hg, fun W x hW hx => hc W x hW (hx.resolve_left (fun h_ => by cases h_))⟩), fun e => (by cases e)⟩
theorem FnOk.bad (F : Value) (w : World) : FnOk F Pred.bad w := ⟨fun e => (by cases e), fun e => (by cases e), fun e => (by cases e)⟩
theorem FnOk.facePr {F : Value} {p : Pr → Bool} {w : World} (h : FnP Tryz.prog F (fun x => (0 ≤ x.f0 ∧ x.f0 ≤ 63) ∧ (0 ≤ x.f1 ∧ x.f1 ≤ 63)) p w) : FnOk F (Pred.facePr p) w := ⟨fun e => (by cases e), fun e => (by cases e), fun _ => (by
    obtain ⟨g, fs, lb, he, hg, hc⟩ := h
    exact ⟨g, fs, lb, he, hg, fun W x hW hx => hc W x hW (hx.resolve_left (fun h_ => by cases h_))⟩)⟩
def Pred.ofU : Option Bool → Pred
  | some b => Pred.nul b
  | none => Pred.bad
def Pred.ofI (f : Int → Option Bool) : Pred := if ((List.range 64).all fun x => (f (x : Int)).isSome) = true then Pred.face (fun x => (f x).getD false) else Pred.bad
def Pred.ofP (f : Int → Int → Option Bool) : Pred := if ((List.range 64).all fun x => (List.range 64).all fun y => (f (x : Int) (y : Int)).isSome) = true then Pred.facePr (fun q => (f q.f0 q.f1).getD false) else Pred.bad
theorem ofI_face {f : Int → Option Bool} {p : Int → Bool} (h : ∀ x, 0 ≤ x → x ≤ 63 → f x = some (p x)) : (Pred.ofI f).sort = 1 ∧ (Pred.ofI f).u = true ∧ ∀ x, 0 ≤ x → x ≤ 63 → (Pred.ofI f).pI x = p x := by
  have hc : ((List.range 64).all fun x => (f (x : Int)).isSome) = true := List.all_eq_true.2 fun m hm => by
    have := List.mem_range.1 hm
    rw [h m (by omega) (by omega)]; rfl
  unfold Pred.ofI
  rw [if_pos hc]
  exact ⟨rfl, rfl, fun x h0 h6 => by simp only [Pred.face]; rw [h x h0 h6]; rfl⟩
theorem ofP_face {f : Int → Int → Option Bool} {p : Pr → Bool} (h : ∀ x y, 0 ≤ x → x ≤ 63 → 0 ≤ y → y ≤ 63 → f x y = some (p ⟨x, y⟩)) : (Pred.ofP f).sort = 2 ∧ ∀ q : Pr, 0 ≤ q.f0 → q.f0 ≤ 63 → 0 ≤ q.f1 → q.f1 ≤ 63 → (Pred.ofP f).pP q = p q := by
  have hc : ((List.range 64).all fun x => (List.range 64).all fun y => (f (x : Int) (y : Int)).isSome) = true := List.all_eq_true.2 fun m hm => List.all_eq_true.2 fun m1 hm1 => by
    have := List.mem_range.1 hm
    have := List.mem_range.1 hm1
    rw [h m m1 (by omega) (by omega) (by omega) (by omega)]; rfl
  unfold Pred.ofP
  rw [if_pos hc]
  exact ⟨rfl, fun q h0 h6 h1 h7 => by simp only [Pred.facePr]; rw [h q.f0 q.f1 h0 h6 h1 h7]; rfl⟩
theorem FnOk.ofU {o : Option Bool} {g : FuncId} {fs lb : Array Value} {W : World} (he : ∀ args w, (callFunc g args).run Tryz.prog w = .ok (.enter g args) w)
    (h : ∀ V b, Below W.heap.size W V → o = some b → Calls Tryz.prog g (fs ++ #[] ++ lb) V fun e w' => e = .returned (.bool b) ∧ Below V.heap.size V w') : FnOk (.func (.func g) fs lb) (Pred.ofU o) W := by
  cases o with
  | none => exact FnOk.bad _ _
  | some b => exact FnOk.nul ⟨g, fs, lb, rfl, he, fun V hV => h V b hV rfl⟩
theorem FnOk.ofI {f : Int → Option Bool} {g : FuncId} {fs lb : Array Value} {W : World} (he : ∀ args w, (callFunc g args).run Tryz.prog w = .ok (.enter g args) w)
    (h : ∀ V x b, Below W.heap.size W V → f x = some b → Calls Tryz.prog g (fs ++ #[.int .i64 x] ++ lb) V fun e w' => e = .returned (.bool b) ∧ Below V.heap.size V w') : FnOk (.func (.func g) fs lb) (Pred.ofI f) W := by
  unfold Pred.ofI
  split
  · rename_i hc
    refine FnOk.face ⟨g, fs, lb, rfl, he, fun V x hV hx => ?_⟩
    obtain ⟨m, rfl⟩ := Int.eq_ofNat_of_zero_le hx.1
    obtain ⟨b, hr⟩ := Option.isSome_iff_exists.1 (List.all_eq_true.1 hc m (List.mem_range.2 (by omega)))
    have := h V m b hV hr
    simp only [hr, Option.getD_some]
    exact this
  · exact FnOk.bad _ _
theorem FnOk.ofP {f : Int → Int → Option Bool} {g : FuncId} {fs lb : Array Value} {W : World} (he : ∀ args w, (callFunc g args).run Tryz.prog w = .ok (.enter g args) w)
    (h : ∀ V x y b, Below W.heap.size W V → f x y = some b → Calls Tryz.prog g (fs ++ #[.agg #[.int .i64 x, .int .i64 y]] ++ lb) V fun e w' => e = .returned (.bool b) ∧ Below V.heap.size V w') : FnOk (.func (.func g) fs lb) (Pred.ofP f) W := by
  unfold Pred.ofP
  split
  · rename_i hc
    refine FnOk.facePr ⟨g, fs, lb, rfl, he, fun V x hV hx => ?_⟩
    obtain ⟨x0, x1⟩ := x
    obtain ⟨⟨a0, a1⟩, b0, b1⟩ := hx
    simp only at a0 a1 b0 b1
    obtain ⟨m, rfl⟩ := Int.eq_ofNat_of_zero_le a0
    obtain ⟨m1, rfl⟩ := Int.eq_ofNat_of_zero_le b0
    obtain ⟨b, hr⟩ := Option.isSome_iff_exists.1 (List.all_eq_true.1 (List.all_eq_true.1 hc m (List.mem_range.2 (by omega))) m1 (List.mem_range.2 (by omega)))
    have := h V m m1 b hV hr
    simp only [hr, Option.getD_some]
    exact this
  · exact FnOk.bad _ _
end Go.Proofs.YtpnmifahfpmplaaGreat.Ext
namespace Go.Proofs.YtpnmifahfpmplaaGreat.Im
open Go.RowKit Go.Shelf Kp Ext YtpnmifahfpmplaaGreatW.PrintWords YtpnmifahfpmplaaGreatW.PrintLast YtpnmifahfpmplaaGreatW.PrintMore
def firstP (p : Pr → Bool) (xs : List Pr) : Int := if xs.any p then (xs.findIdx p : Int) else -1
theorem firstP_hit {p : Pr → Bool} {xs : List Pr} {k : Nat} {y : Pr} (hk : k < xs.length) (hy : xs.getD k z57 = y) (hp : p y = true) (hb : ∀ j, j < k → p (xs.getD j z57) = false) : firstP p xs = (k : Int) := by
  have hxk : xs[k] = y := by rw [List.getD_eq_getElem?_getD, List.getElem?_eq_getElem hk] at hy; simpa using hy
  have ha : xs.any p = true := List.any_eq_true.2 ⟨xs[k], List.getElem_mem hk, by rw [hxk]; exact hp⟩
  have hf : xs.findIdx p = k := by
    rw [List.findIdx_eq hk]
    refine ⟨by rw [hxk]; exact hp, fun j hj => ?_⟩
    have := hb j hj
    rw [List.getD_eq_getElem?_getD, List.getElem?_eq_getElem (show j < xs.length by omega)] at this
    simpa using this
  rw [firstP, if_pos ha, hf]
theorem firstP_miss {p : Pr → Bool} {xs : List Pr} (hb : ∀ j, j < xs.length → p (xs.getD j z57) = false) : firstP p xs = -1 := by
  have ha : ¬ xs.any p = true := by
    intro h
    obtain ⟨x, hx, hp⟩ := List.any_eq_true.1 h
    obtain ⟨j, hj, rfl⟩ := List.mem_iff_getElem.1 hx
    have := hb j hj
    rw [List.getD_eq_getElem?_getD, List.getElem?_eq_getElem hj] at this
    simp at this
    rw [this] at hp; cases hp
  rw [firstP, if_neg ha]
set_option maxRecDepth 100000 in
set_option maxHeartbeats 1000000 in
theorem indexPair_c (A : Option Addr) (c : Nat) (xs : List Pr) (fv : Value) (dom : Pr → Prop) (p : Pr → Bool) (w : World) (hr : Kd.C k57 w A xs.length xs) (hf : FnP Tryz.prog fv dom p w) (hd : ∀ x ∈ xs, dom x) (hl : xs.length ≤ 1099511627776) :
    Calls Tryz.prog 66 #[.slice A xs.length c, fv] w fun e w' => e = .returned (.int .i64 (firstP p xs)) ∧ Below w.heap.size w w' := by
  obtain ⟨g, fs, lb, rfl, eg, hcall⟩ := hf
  have HR := Aside0.mk hr
  have HC := Aside0.mk hcall
  have HD := Aside0.mk hd
  clear hr hcall hd
  go_enter Tryz.func66, Tryz.ntmps66
  go_wp2
  go_loopw [5, 8] (fun _ i wr => ∃ k : Nat, k ≤ xs.length ∧ i = .int .i64 k ∧ Aside0 (Below w.heap.size w wr) ∧ Aside0 (∀ j, j < k → p (xs.getD j z57) = false)) (fun _ i _ => xs.length - (intOf i).toNat)
  case atStart => exact ⟨0, by omega, rfl, ⟨Below.refl _ _⟩, ⟨fun j hj => absurd hj (Nat.not_lt_zero _)⟩⟩
  case round =>
    obtain ⟨k, hk, rfl, hB, hA⟩ := hrel
    by_cases hlt : k < xs.length
    · have hltz : (k : Int) < (xs.length : Int) := by omega
      obtain ⟨ad, rfl, h0, h1⟩ := pair_at (Kd.C_below HR.out hB.out) k hlt
      obtain ⟨y, hy⟩ : ∃ y, xs.getD k z57 = y := ⟨_, rfl⟩
      rw [hy] at h0 h1
      have HY := Aside0.mk hy
      have hdy : dom y := by
        rw [← hy, List.getD_eq_getElem?_getD, List.getElem?_eq_getElem hlt]
        exact HD.out _ (List.getElem_mem hlt)
      have hcy := HC.out wr y hB.out hdy
      clear hy hdy
      have HCY := Aside0.mk hcy
      clear hcy
      cases hq : p y with
      | true =>
        rw [hq] at HCY
        have HQ := Aside0.mk hq
        clear hq
        go_wp2_with (go_at_fn g; refine HCY.out.mono ?_; rintro e w' ⟨rfl, hb⟩; have HB2 := Aside0.mk hb; clear hb)
        go_ret
        refine ⟨?_, below_in hB.out HB2.out⟩
        rw [firstP_hit hlt HY.out HQ.out hA.out]; rfl
      | false =>
        rw [hq] at HCY
        have HQ := Aside0.mk hq
        clear hq
        go_wp2_with (go_at_fn g; refine HCY.out.mono ?_; rintro e w' ⟨rfl, hb⟩; have HB2 := Aside0.mk hb; clear hb)
        go_roundw
        case measure => simp [intOf]; omega
        case rel =>
          refine ⟨k + 1, by omega, by go_num, ⟨below_in hB.out HB2.out⟩, ⟨fun j hj => ?_⟩⟩
          rcases Nat.lt_or_ge j k with h | h
          · exact hA.out j h
          · obtain rfl : j = k := by omega
            rw [HY.out]; exact HQ.out
    · obtain rfl : k = xs.length := by omega
      have hltz : ¬ (xs.length : Int) < (xs.length : Int) := by omega
      go_wp2
      go_ret
      refine ⟨?_, hB.out⟩
      rw [firstP_miss hA.out]; rfl
end Go.Proofs.YtpnmifahfpmplaaGreat.Im
namespace Go.Proofs.YtpnmifahfpmplaaGreat.Ext
open Go.RowKit Im Kp YtpnmifahfpmplaaGreatW.PrintWords YtpnmifahfpmplaaGreatW.PrintLast YtpnmifahfpmplaaGreatW.PrintMore
def fnp (g : FuncId) : Pred :=
  if g = 27 then Pred.nul true else
  Pred.nul false
theorem fnp_ok_27 (w : World) : FnOk (.func (.func 27) #[] #[]) (fnp 27) w := FnOk.nul (u := true) (always_f w)
end Go.Proofs.YtpnmifahfpmplaaGreat.Ext
namespace Go.Proofs.YtpnmifahfpmplaaGreat.Im
open Go.RowKit Go.Shelf Ext YtpnmifahfpmplaaGreatW.PrintWords YtpnmifahfpmplaaGreatW.PrintLast YtpnmifahfpmplaaGreatW.PrintMore
theorem kept_cells {g : Nat} {w : World} {S : Nat → Prop} (hg : S g) : ∀ (vs : List Value) (k : Nat) (W : World), Kept w W S → Kept w (W.setCells g k vs) S
  | [], _, W, h => h
  | v :: vs, k, W, h => kept_cells hg vs (k + 1) _ (Kept.setCell (p := ⟨g, k, none⟩) h (.inl hg) v)
theorem RO.ok {W : World} {base : Nat} {v : Value} {xs : List Int} {ok : Nat → Prop} (h : RO W base v xs) (hk : ∀ k, v.ownBlock = some k → ok k) : Kd.R (Kd.int .i64) 2 W base ok v xs :=
  Kd.R_mono (Kd.R_tight rfl h) (fun k e => hk k e.symm)
set_option maxRecDepth 100000 in
set_option maxHeartbeats 4000000 in
theorem deleteFuncK_c (S : Nat → Prop) (v : Value) (xs : List Int) (fv : Value) (a : Pred) (w0 w : World) (HBw : Below w0.heap.size w0 w) (hoS : Kd.R (Kd.int .i64) 2 w w0.heap.size S v xs) (hn : xs.length ≤ 1048576)
    (hfn : ∀ W_, Kept w W_ S → FnOk fv a W_) (hs : a.sort = 1) (hd : ∀ x ∈ xs, a.dom x) :
    Calls Tryz.prog 39 #[v, fv] w fun e w' => ∃ v', e = .returned v' ∧ Kd.R (Kd.int .i64) 2 w' w0.heap.size (fun k_ => (S k_ ∨ w.heap.size ≤ k_)) v' (xs.filter fun x => !a.pI x) ∧ Below w0.heap.size w0 w' ∧ Kept w w' S := by
  have hfw := (hfn w (Kept.refl w S)).2.1 hs
  have ho : RO w w0.heap.size v xs := Kd.R_mono hoS (fun _ _ => trivial)
  have hS := hoS.1
  clear hoS
  obtain ⟨A0, c0, rfl⟩ := Kd.R_slice ho
  have hix := indexFunc_c A0 xs.length c0 xs fv a.dom a.pI w (Kd.R_reads' ho).2.2 hfw hd
  obtain ⟨g, fs, lb, rfl, eg, _⟩ := hfw
  have hcall : ∀ W x, Kept w W S → a.dom x → Calls Tryz.prog g (fs ++ #[.int .i64 x] ++ lb) W fun e w' => e = .returned (.bool (a.pI x)) ∧ Below W.heap.size W w' := by
    intro W x hK hx
    obtain ⟨g', fs', lb', he, _, hc⟩ := (hfn W hK).2.1 hs
    injection he with h1 h2 h3
    injection h1 with h1
    subst h1; subst h2; subst h3
    exact hc W x (Below.refl _ _) hx
  clear hfn
  obtain ⟨p, hp⟩ : ∃ p, a.pI = p := ⟨_, rfl⟩
  obtain ⟨dom, hdm⟩ : ∃ dom, a.dom = dom := ⟨_, rfl⟩
  rw [hp, hdm] at hcall
  rw [hp] at hix ⊢
  rw [hdm] at hd
  clear hp hdm hs
  cases hany : xs.any p with
  | false =>
    have he : firstI p xs = -1 := by unfold firstI; rw [hany]; rfl
    have hfl : (xs.filter fun x => !p x) = xs := by
      refine List.filter_eq_self.2 fun x hx => ?_
      have := List.any_eq_false.1 hany x hx
      simpa using this
    rw [he] at hix
    rw [hfl]
    have HI := Aside0.mk hix
    have HO := Aside0.mk ho
    have HB := Aside0.mk HBw
    have HS := Aside0.mk hS
    clear hix ho HBw hcall hany he hfl hS
    go_enter Tryz.func39, Tryz.ntmps39
    go_wp2_with (go_at_call 65; refine HI.out.mono ?_; rintro e w' ⟨rfl, hb⟩)
    go_ret
    exact ⟨_, rfl, RO.ok (Kd.R_below HO.out hb) (fun k hk => .inl (HS.out k hk)), HB.out.trans (hb.mono HB.out.size), Kept.of_below hb _⟩
  | true =>
    obtain ⟨i, hi, hil, hpi, hbi⟩ := firstI_at hany
    rw [hi] at hix
    obtain ⟨gg, cap, hvf, hgb, hgl, _⟩ := Kd.R_form ho (by omega)
    obtain ⟨rfl, rfl⟩ : A0 = some ⟨gg, 0, none⟩ ∧ c0 = cap := by injection hvf with h1 h2 h3; exact ⟨h1, h3⟩
    have hgS : S gg := hS gg rfl
    have hcapn := (Kd.R_reads' ho).2.1
    have HI := Aside0.mk hix
    have HO := Aside0.mk ho
    have HB := Aside0.mk HBw
    have HC := Aside0.mk hcall
    have HD := Aside0.mk hd
    have HP := Aside0.mk hpi
    have HF := Aside0.mk (filter_first hbi (Nat.le_of_lt hil))
    have HG := Aside0.mk hgb
    have HGS := Aside0.mk hgS
    obtain ⟨n, hnx⟩ : ∃ n, xs.length = n := ⟨_, rfl⟩
    have HN := Aside0.mk hnx
    rw [hnx] at hil hn hcapn ⊢
    rw [hnx] at HI HO
    clear hix ho HBw hcall hany hi hd hpi hbi hvf hgb hgl hnx hS hgS
    go_enter Tryz.func39, Tryz.ntmps39
    go_wp2_with (go_at_call 65; refine HI.out.mono ?_; rintro e w1 ⟨rfl, hb⟩; have HO1 := Aside0.mk (Kd.R_below HO.out hb); have HB1 := Aside0.mk (HB.out.trans (hb.mono HB.out.size)); have HK1 := Aside0.mk (Kept.of_below hb S); clear hb)
    have hst := DI.start (p := p) (by rw [HN.out]; exact hil) HP.out HF.out
    have HS := Aside0.mk hst
    clear hst
    go_loopw [5, 6] (fun vk vj wr => ∃ (k j : Nat) (ys : List Int), vk = .int .i64 k ∧ vj = .int .i64 j ∧ k < j ∧ j ≤ n ∧ Aside0 (DI (fun x => !p x) xs ys k j) ∧ Aside0 (RO wr w0.heap.size (.slice (some ⟨gg, 0, none⟩) n c0) ys) ∧ Aside0 (Below w0.heap.size w0 wr) ∧ Aside0 (Kept w wr S)) (fun _ vj _ => n - (intOf vj).toNat)
    case atStart => exact ⟨i, i + 1, xs, rfl, by go_num, by omega, by omega, HS, HO1, HB1, HK1⟩
    case round =>
      obtain ⟨k, j, ys, rfl, rfl, hkj, hjn, hD, hO, hBr, hKr⟩ := hrel
      by_cases hlt : j < n
      · have hltz : (j : Int) < (n : Int) := by omega
        have hcf := RO.cell hO.out hlt
        have hce := hcf.1
        have hkf := RO.cell hO.out (show k < n by omega)
        have hkc := hkf.1
        have hkz := hkf.2
        have hx := hD.out.at_
        have hjx : j < xs.length := by rw [HN.out]; exact hlt
        obtain ⟨y, hy⟩ : ∃ y, xs[j]?.getD 0 = y := ⟨_, rfl⟩
        rw [hx, hy] at hce
        have hdy : dom y := by
          rw [List.getElem?_eq_getElem hjx] at hy
          rw [← hy]
          exact HD.out _ (List.getElem_mem hjx)
        have hcy := HC.out wr y hKr.out hdy
        have HY := Aside0.mk hy
        have HJ := Aside0.mk hjx
        clear hy hx hdy hcf hkf hjx
        have HCY := Aside0.mk hcy
        clear hcy
        cases hq : p y with
        | true =>
          rw [hq] at HCY
          have HQ := Aside0.mk hq
          clear hq
          go_wp2_with (go_at_fn g; refine HCY.out.mono ?_; rintro e w' ⟨rfl, hb⟩; have HO2 := Aside0.mk (Kd.R_below hO.out hb); have HB2 := Aside0.mk (hBr.out.trans (hb.mono hBr.out.size)); have HK2 := Aside0.mk (Kept.below hKr.out hb); clear hb)
          go_roundw
          case measure => simp [intOf]; omega
          case rel =>
            exact ⟨_, _, _, _, _, _, _, _, _, _, _, _, _, _, _, _, _, _, _, _, _, _, _, ⟨k, j + 1, ys, rfl, by go_num, by omega, by omega, ⟨hD.out.skip HJ.out (by rw [HY.out, HQ.out]; rfl)⟩, HO2, HB2, HK2⟩, rfl⟩
        | false =>
          rw [hq] at HCY
          have HQ := Aside0.mk hq
          clear hq
          go_wp2_with (go_at_fn g; refine HCY.out.mono ?_; rintro e w' ⟨rfl, hb⟩; have HO2 := Aside0.mk (Kd.R_below hO.out hb); have HB2 := Aside0.mk (hBr.out.trans (hb.mono hBr.out.size)); have HK2 := Aside0.mk (Kept.below hKr.out hb); have hk2 := RO.cell HO2.out (show k < n by omega); have hkc2 := hk2.1; have hkz2 := hk2.2; clear hb hk2)
          go_roundw
          case measure => simp [intOf]; omega
          case rel => exact ⟨_, _, _, _, _, _, _, _, _, _, _, _, _, _, _, _, _, _, _, _, _, _, _, ⟨k + 1, j + 1, ys.set k y, by go_num, by go_num, by omega, by omega, ⟨by have := hD.out.keep HJ.out (by rw [HY.out, HQ.out]; rfl); rw [HY.out] at this; exact this⟩, ⟨RO.put HO2.out k y⟩, ⟨HB2.out.setCell (p := ⟨gg, k, none⟩) HG.out _⟩, ⟨Kept.setCell (p := ⟨gg, k, none⟩) HK2.out (.inl HGS.out) _⟩⟩, rfl⟩
      · obtain rfl : j = n := by omega
        have hltz : ¬ (j : Int) < (j : Int) := by omega
        have hcl : ∀ ty, (Builtin.clear_ #[24] ty #[.slice (some ⟨gg, k, none⟩) (j - k) (c0 - k)]).run Tryz.prog wr = .ok (.tuple #[]) (wr.setCells gg k (List.replicate (j - k) (.int .i64 0))) := fun ty =>
          Lib.run_clear_slice wr _ _ ty (.int .i64 0) Tryz.underlying24 (fun w => by kernel_rfl) rfl rfl gg k _ _ (by omega) (fun m hm => by rw [(RO.cell hO.out (show k + m < j by omega)).1]; rfl) (fun m hm => (RO.cell hO.out (show k + m < j by omega)).2)
        go_wp2
        go_ret
        obtain ⟨zs, hz, hR⟩ := RO.zeros (j - k) k _ _ hO.out
        refine ⟨_, rfl, RO.ok ?_ (fun k_ hk_ => .inl (by injection hk_ with hk_; rw [← hk_]; exact HGS.out)), below_cells HG.out _ _ _ hBr.out, kept_cells HGS.out _ _ _ hKr.out⟩
        have ht := Kd.R_take hR (m := k) (by have := (Kd.R_reads' hR).1; omega)
        rw [hz, hD.out.done, List.take_of_length_le (by rw [HN.out]; exact Nat.le_refl _)] at ht
        exact ht
end Go.Proofs.YtpnmifahfpmplaaGreat.Im
namespace Go.Proofs.YtpnmifahfpmplaaGreat.Ext
open Go.RowKit Im  YtpnmifahfpmplaaGreatW.PrintWords YtpnmifahfpmplaaGreatW.PrintLast YtpnmifahfpmplaaGreatW.PrintMore
def impl_complexCode.f (a0_0 : Int) (l0_1 : List Int) (a1 : Pred) : Option (Int) := if l0_1.length ≤ 4611686018427387904 ∧ (isC a0_0 l0_1 = true → a1.sort = 0) then some (codeOf (isC a0_0 l0_1) a1.u) else none
theorem impl_complexCode.calls (a0_0 : Int) (A0_1 : Option Addr) (c0_1 : Nat) (l0_1 : List Int) (F1 : Value) (a1 : Pred) (r : Int) (w : World) (hr0_1 : Kd.C (Kd.int .i64) w A0_1 l0_1.length l0_1) (_hc0_1 : l0_1.length ≤ c0_1) (hq1 : FnOk F1 a1 w) (h : impl_complexCode.f a0_0 l0_1 a1 = some r) :
    Calls Tryz.prog 26 #[.agg #[.int .i64 a0_0, .slice A0_1 l0_1.length c0_1], F1] w fun e w' => e = .returned (.int .i64 r) ∧ Below w.heap.size w w' := by
  unfold impl_complexCode.f at h
  by_cases hl : l0_1.length ≤ 4611686018427387904 ∧ (isC a0_0 l0_1 = true → a1.sort = 0)
  · rw [if_pos hl] at h
    have hd := Option.some.inj h
    rw [← hd]
    exact complexCode_c a0_0 A0_1 l0_1.length c0_1 l0_1 _ a1.u w hr0_1 hl.1 (fun h => hq1.1 (hl.2 h))
  · rw [if_neg hl] at h; cases h
def slices_Clone_int64_int64.f (l0 : List Int) : Option (List Int) := if l0.length ≤ 1048576 then some (l0) else none
theorem slices_Clone_int64_int64.calls (A0 : Option Addr) (c0 : Nat) (l0 : List Int) (r : List Int) (w : World) (hr0 : Kd.C (Kd.int .i64) w A0 l0.length l0) (_hc0 : l0.length ≤ c0) (h : slices_Clone_int64_int64.f l0 = some r) :
    Calls Tryz.prog 40 #[.slice A0 l0.length c0] w fun e w' => ∃ v0_ : Value, e = .returned (v0_) ∧ Kd.R (Kd.int .i64) 2 w' w.heap.size (fun _ => True) v0_ r ∧ Below w.heap.size w w' := by
  unfold slices_Clone_int64_int64.f at h
  by_cases hl : l0.length ≤ 1048576
  · rw [if_pos hl] at h
    have hd := Option.some.inj h
    rw [← hd]
    exact clone_c A0 l0.length c0 l0 w hr0 hl
  · rw [if_neg hl] at h; cases h
end Go.Proofs.YtpnmifahfpmplaaGreat.Ext
namespace Go.Proofs.YtpnmifahfpmplaaGreat.Ext
open Go.RowKit Im Kp YtpnmifahfpmplaaGreatW.PrintWords YtpnmifahfpmplaaGreatW.PrintLast YtpnmifahfpmplaaGreatW.PrintMore
def slices_DeleteFunc_int64_int64.f (l0 : List Int) (a1 : Pred) : Option (List Int) := if l0.length ≤ 1048576 ∧ a1.sort = 1 ∧ okDom a1 l0 = true then some (l0.filter fun x => !a1.pI x) else none
theorem slices_DeleteFunc_int64_int64.calls (P0_ : Nat → Prop) (u9000_ : Value) (l0 : List Int) (F1 : Value) (a1 : Pred) (r : List Int) (w0 w : World) (hB : Below w0.heap.size w0 w) (ho0 : Kd.R (Kd.int .i64) 2 w w0.heap.size P0_ u9000_ l0) (hq1 : ∀ W_, Kept w W_ (fun k_ => P0_ k_) → FnOk F1 a1 W_) (h : slices_DeleteFunc_int64_int64.f l0 a1 = some r) :
    Calls Tryz.prog 39 #[u9000_, F1] w fun e w' => ∃ v0_ : Value, e = .returned (v0_) ∧ Kd.R (Kd.int .i64) 2 w' w0.heap.size (fun k_ => (P0_ k_ ∨ w.heap.size ≤ k_)) v0_ r ∧ Below w0.heap.size w0 w' ∧ Kept w w' (fun k_ => P0_ k_) := by
  unfold slices_DeleteFunc_int64_int64.f at h
  by_cases hl : l0.length ≤ 1048576 ∧ a1.sort = 1 ∧ okDom a1 l0 = true
  · rw [if_pos hl] at h
    have hd := Option.some.inj h
    rw [← hd]
    exact deleteFuncK_c P0_ u9000_ l0 F1 a1 w0 w hB ho0 hl.1 hq1 hl.2.1 (okDom_mem hl.2.2)
  · rw [if_neg hl] at h; cases h
def impl_isIn.f (a0 : Int) (a1 : Int) : Option (Bool) := if True then some (Go.bits .andNot .i64 a0 a1 == 0) else none
theorem impl_isIn.calls (a0 : Int) (a1 : Int) (r : Bool) (w : World)  (h : impl_isIn.f a0 a1 = some r) :
    Calls Tryz.prog 76 #[.int .i64 a0, .int .i64 a1] w fun e w' => e = .returned (.bool r) ∧ Below w.heap.size w w' := by
  unfold impl_isIn.f at h
  by_cases hl : True
  · rw [if_pos hl] at h
    have hd := Option.some.inj h
    rw [← hd]
    exact (isIn_c a0 a1 w).mono (by rintro e w' ⟨rfl, rfl⟩; exact ⟨rfl, Below.refl _ _⟩)
  · rw [if_neg hl] at h; cases h
def impl_borders.f (a0 : Int) : Option (List Int) := if True then some (bordersL a0) else none
theorem impl_borders.calls (a0 : Int) (r : List Int) (w : World)  (h : impl_borders.f a0 = some r) :
    Calls Tryz.prog 74 #[.int .i64 a0] w fun e w' => ∃ v0_ : Value, e = .returned (v0_) ∧ Kd.R (Kd.int .i64) 2 w' w.heap.size (fun _ => True) v0_ r ∧ Below w.heap.size w w' := by
  unfold impl_borders.f at h
  by_cases hl : True
  · rw [if_pos hl] at h
    have hd := Option.some.inj h
    rw [← hd]
    exact borders_c a0 w
  · rw [if_neg hl] at h; cases h
def slices_IndexFunc_impl_Pair_impl_Pair.f (l0 : List S57) (a1 : Pred) : Option (Int) := if l0.length ≤ 1099511627776 ∧ a1.sort = 2 ∧ okDomP a1 l0 = true then some (firstP a1.pP l0) else none
theorem slices_IndexFunc_impl_Pair_impl_Pair.calls (A0 : Option Addr) (c0 : Nat) (l0 : List S57) (F1 : Value) (a1 : Pred) (r : Int) (w : World) (hr0 : Kd.C k57 w A0 l0.length l0) (_hc0 : l0.length ≤ c0) (hq1 : FnOk F1 a1 w) (h : slices_IndexFunc_impl_Pair_impl_Pair.f l0 a1 = some r) :
    Calls Tryz.prog 66 #[.slice A0 l0.length c0, F1] w fun e w' => e = .returned (.int .i64 r) ∧ Below w.heap.size w w' := by
  unfold slices_IndexFunc_impl_Pair_impl_Pair.f at h
  by_cases hl : l0.length ≤ 1099511627776 ∧ a1.sort = 2 ∧ okDomP a1 l0 = true
  · rw [if_pos hl] at h
    have hd := Option.some.inj h
    rw [← hd]
    exact indexPair_c A0 c0 l0 F1 a1.domP a1.pP w hr0 (hq1.2.2 hl.2.1) (okDomP_mem hl.2.2) hl.1
  · rw [if_neg hl] at h; cases h
end Go.Proofs.YtpnmifahfpmplaaGreat.Ext
namespace Go.Proofs.YtpnmifahfpmplaaGreat.QA
open Cw Kp Ext Go.RowKit YtpnmifahfpmplaaGreatW.PrintWords YtpnmifahfpmplaaGreatW.PrintLast YtpnmifahfpmplaaGreatW.PrintMore
attribute [local go_sem] max2_int min2_int max_two min_two max_three min_three max_four min_four   -- for this text's walks alone
def errW : Option Int → Value
 | none => .nilIface
 | some c => .iface 0 (.int .i64 c)
theorem errW_none : errW none = .nilIface := rfl
theorem errW_some (c : Int) : errW (some c) = .iface 0 (.int .i64 c) := rfl
open Go.Proofs.YtpnmifahfpmplaaGreat.QI (bits_OnesCount64.f)
set_option maxHeartbeats 8000000 in
set_option maxRecDepth 100000 in
theorem bits_OnesCount64.calls (a0 : Int) (r : Int) (w : World) (h : bits_OnesCount64.f a0 = some r) :
  Calls Tryz.prog 87 #[.int .u64 a0] w fun e w' => e = .returned (.int .i64 r) ∧ Drawn0 w w' := by
 have H : (some (Go.bits .and .i64 (wrap64 (IntKind.u64.wrap ((IntKind.u64.wrap ((IntKind.u64.wrap ((Go.bits .and .u64 (IntKind.u64.wrap (((IntKind.u64.wrap ((Go.bits .and .u64 ((IntKind.u64.wrap ((Go.bits .and .u64 (a0 / 2) 6148914691236517205) + (Go.bits .and .u64 a0 6148914691236517205))) / 4) 3689348814741910323) + (Go.bits .and .u64 (IntKind.u64.wrap ((Go.bits .and .u64 (a0 / 2) 6148914691236517205) + (Go.bits .and .u64 a0 6148914691236517205))) 3689348814741910323))) / 16) + (IntKind.u64.wrap ((Go.bits .and .u64 ((IntKind.u64.wrap ((Go.bits .and .u64 (a0 / 2) 6148914691236517205) + (Go.bits .and .u64 a0 6148914691236517205))) / 4) 3689348814741910323) + (Go.bits .and .u64 (IntKind.u64.wrap ((Go.bits .and .u64 (a0 / 2) 6148914691236517205) + (Go.bits .and .u64 a0 6148914691236517205))) 3689348814741910323))))) 1085102592571150095) + ((Go.bits .and .u64 (IntKind.u64.wrap (((IntKind.u64.wrap ((Go.bits .and .u64 ((IntKind.u64.wrap ((Go.bits .and .u64 (a0 / 2) 6148914691236517205) + (Go.bits .and .u64 a0 6148914691236517205))) / 4) 3689348814741910323) + (Go.bits .and .u64 (IntKind.u64.wrap ((Go.bits .and .u64 (a0 / 2) 6148914691236517205) + (Go.bits .and .u64 a0 6148914691236517205))) 3689348814741910323))) / 16) + (IntKind.u64.wrap ((Go.bits .and .u64 ((IntKind.u64.wrap ((Go.bits .and .u64 (a0 / 2) 6148914691236517205) + (Go.bits .and .u64 a0 6148914691236517205))) / 4) 3689348814741910323) + (Go.bits .and .u64 (IntKind.u64.wrap ((Go.bits .and .u64 (a0 / 2) 6148914691236517205) + (Go.bits .and .u64 a0 6148914691236517205))) 3689348814741910323))))) 1085102592571150095) / 256))) + ((IntKind.u64.wrap ((Go.bits .and .u64 (IntKind.u64.wrap (((IntKind.u64.wrap ((Go.bits .and .u64 ((IntKind.u64.wrap ((Go.bits .and .u64 (a0 / 2) 6148914691236517205) + (Go.bits .and .u64 a0 6148914691236517205))) / 4) 3689348814741910323) + (Go.bits .and .u64 (IntKind.u64.wrap ((Go.bits .and .u64 (a0 / 2) 6148914691236517205) + (Go.bits .and .u64 a0 6148914691236517205))) 3689348814741910323))) / 16) + (IntKind.u64.wrap ((Go.bits .and .u64 ((IntKind.u64.wrap ((Go.bits .and .u64 (a0 / 2) 6148914691236517205) + (Go.bits .and .u64 a0 6148914691236517205))) / 4) 3689348814741910323) + (Go.bits .and .u64 (IntKind.u64.wrap ((Go.bits .and .u64 (a0 / 2) 6148914691236517205) + (Go.bits .and .u64 a0 6148914691236517205))) 3689348814741910323))))) 1085102592571150095) + ((Go.bits .and .u64 (IntKind.u64.wrap (((IntKind.u64.wrap ((Go.bits .and .u64 ((IntKind.u64.wrap ((Go.bits .and .u64 (a0 / 2) 6148914691236517205) + (Go.bits .and .u64 a0 6148914691236517205))) / 4) 3689348814741910323) + (Go.bits .and .u64 (IntKind.u64.wrap ((Go.bits .and .u64 (a0 / 2) 6148914691236517205) + (Go.bits .and .u64 a0 6148914691236517205))) 3689348814741910323))) / 16) + (IntKind.u64.wrap ((Go.bits .and .u64 ((IntKind.u64.wrap ((Go.bits .and .u64 (a0 / 2) 6148914691236517205) + (Go.bits .and .u64 a0 6148914691236517205))) / 4) 3689348814741910323) + (Go.bits .and .u64 (IntKind.u64.wrap ((Go.bits .and .u64 (a0 / 2) 6148914691236517205) + (Go.bits .and .u64 a0 6148914691236517205))) 3689348814741910323))))) 1085102592571150095) / 256))) / 65536))) + ((IntKind.u64.wrap ((IntKind.u64.wrap ((Go.bits .and .u64 (IntKind.u64.wrap (((IntKind.u64.wrap ((Go.bits .and .u64 ((IntKind.u64.wrap ((Go.bits .and .u64 (a0 / 2) 6148914691236517205) + (Go.bits .and .u64 a0 6148914691236517205))) / 4) 3689348814741910323) + (Go.bits .and .u64 (IntKind.u64.wrap ((Go.bits .and .u64 (a0 / 2) 6148914691236517205) + (Go.bits .and .u64 a0 6148914691236517205))) 3689348814741910323))) / 16) + (IntKind.u64.wrap ((Go.bits .and .u64 ((IntKind.u64.wrap ((Go.bits .and .u64 (a0 / 2) 6148914691236517205) + (Go.bits .and .u64 a0 6148914691236517205))) / 4) 3689348814741910323) + (Go.bits .and .u64 (IntKind.u64.wrap ((Go.bits .and .u64 (a0 / 2) 6148914691236517205) + (Go.bits .and .u64 a0 6148914691236517205))) 3689348814741910323))))) 1085102592571150095) + ((Go.bits .and .u64 (IntKind.u64.wrap (((IntKind.u64.wrap ((Go.bits .and .u64 ((IntKind.u64.wrap ((Go.bits .and .u64 (a0 / 2) 6148914691236517205) + (Go.bits .and .u64 a0 6148914691236517205))) / 4) 3689348814741910323) + (Go.bits .and .u64 (IntKind.u64.wrap ((Go.bits .and .u64 (a0 / 2) 6148914691236517205) + (Go.bits .and .u64 a0 6148914691236517205))) 3689348814741910323))) / 16) + (IntKind.u64.wrap ((Go.bits .and .u64 ((IntKind.u64.wrap ((Go.bits .and .u64 (a0 / 2) 6148914691236517205) + (Go.bits .and .u64 a0 6148914691236517205))) / 4) 3689348814741910323) + (Go.bits .and .u64 (IntKind.u64.wrap ((Go.bits .and .u64 (a0 / 2) 6148914691236517205) + (Go.bits .and .u64 a0 6148914691236517205))) 3689348814741910323))))) 1085102592571150095) / 256))) + ((IntKind.u64.wrap ((Go.bits .and .u64 (IntKind.u64.wrap (((IntKind.u64.wrap ((Go.bits .and .u64 ((IntKind.u64.wrap ((Go.bits .and .u64 (a0 / 2) 6148914691236517205) + (Go.bits .and .u64 a0 6148914691236517205))) / 4) 3689348814741910323) + (Go.bits .and .u64 (IntKind.u64.wrap ((Go.bits .and .u64 (a0 / 2) 6148914691236517205) + (Go.bits .and .u64 a0 6148914691236517205))) 3689348814741910323))) / 16) + (IntKind.u64.wrap ((Go.bits .and .u64 ((IntKind.u64.wrap ((Go.bits .and .u64 (a0 / 2) 6148914691236517205) + (Go.bits .and .u64 a0 6148914691236517205))) / 4) 3689348814741910323) + (Go.bits .and .u64 (IntKind.u64.wrap ((Go.bits .and .u64 (a0 / 2) 6148914691236517205) + (Go.bits .and .u64 a0 6148914691236517205))) 3689348814741910323))))) 1085102592571150095) + ((Go.bits .and .u64 (IntKind.u64.wrap (((IntKind.u64.wrap ((Go.bits .and .u64 ((IntKind.u64.wrap ((Go.bits .and .u64 (a0 / 2) 6148914691236517205) + (Go.bits .and .u64 a0 6148914691236517205))) / 4) 3689348814741910323) + (Go.bits .and .u64 (IntKind.u64.wrap ((Go.bits .and .u64 (a0 / 2) 6148914691236517205) + (Go.bits .and .u64 a0 6148914691236517205))) 3689348814741910323))) / 16) + (IntKind.u64.wrap ((Go.bits .and .u64 ((IntKind.u64.wrap ((Go.bits .and .u64 (a0 / 2) 6148914691236517205) + (Go.bits .and .u64 a0 6148914691236517205))) / 4) 3689348814741910323) + (Go.bits .and .u64 (IntKind.u64.wrap ((Go.bits .and .u64 (a0 / 2) 6148914691236517205) + (Go.bits .and .u64 a0 6148914691236517205))) 3689348814741910323))))) 1085102592571150095) / 256))) / 65536))) / 4294967296)))) 127)) = some r := h
 clear h
 obtain rfl := Option.some.inj H
 go_enter Tryz.func87, Tryz.ntmps87
 go_wp2
 go_ret
 exact ⟨by first | rfl | (simp; done) | (simp [*]; done), by repeat (first | exact Drawn0.refl _ | apply Drawn0.step)⟩
open Go.Proofs.YtpnmifahfpmplaaGreat.QI (impl_size.f)
set_option maxHeartbeats 8000000 in
set_option maxRecDepth 100000 in
theorem impl_size.calls (a0 : Int) (r : Int) (w : World) (h : impl_size.f a0 = some r) :
  Calls Tryz.prog 67 #[.int .i64 a0] w fun e w' => e = .returned (.int .i64 r) ∧ Drawn0 w w' := by
 have H : ((bits_OnesCount64.f (IntKind.u64.wrap (a0))).bind fun t101 => (some t101)) = some r := h
 clear h
 replace H := Option.bind_eq_some_iff.mp H
 obtain ⟨t101, A20, H⟩ := H
 try dsimp only at H
 have A2 := Aside0.mk A20
 clear A20
 obtain rfl := Option.some.inj H
 go_enter Tryz.func67, Tryz.ntmps67
 go_wp2_with (first | ((with_reducible refine gate_callee (f := 87) rfl ?_); refine cl_ (some 5) Tryz.func87 #[.int .u64 (IntKind.u64.wrap (a0))] ?_; (with_reducible refine (bits_OnesCount64.calls (IntKind.u64.wrap (a0)) t101 _ A2.out).mono ?_); rintro e w' ⟨rfl, ⟨nd, rfl⟩⟩; refine ⟨_, rfl, ?_⟩))
 go_ret
 exact ⟨by first | rfl | (simp; done) | (simp [*]; done), by repeat (first | exact Drawn0.refl _ | apply Drawn0.step)⟩
def impl_Complex_isPair.f (a0_0 : Int) (l0_1 : List Int) (a1_0 : Int) (a1_1 : Int) : Option (Bool) := (impl_Complex_has.f a0_0 l0_1 a1_0).bind fun t104 => (if t104 = true then ((impl_Complex_has.f a0_0 l0_1 a1_1).bind fun t105 => (if t105 = true then ((impl_isIn.f a1_0 a1_1).bind fun t106 => (if t106 = true then ((impl_size.f a1_1).bind fun t107 => ((impl_size.f a1_0).bind fun t108 => (some (t107 == (wrap64 (t108 + 1)))))) else (some false))) else (some false))) else (some false))
def impl_Complex_isPair.T1 : Bool × List (List Nat × List Nat) := (true, [([], []), ([], []), ([1], [1]), ([0, 2], [0, 2]), ([3, 3], [3]), ([4], [4]), ([4], [4]), ([6, 4], [4, 6]), ([5, 7, 4, 4], [4, 5, 7]), ([4, 8], [4, 8]), ([9, 8], [9]), ([10], [10]), ([11, 10], [10, 11]), ([10], [10]), ([13, 10], [10, 13]), ([12, 14, 10, 10], [10, 12, 14]), ([10, 15], [10, 15]), ([16, 15], [16]), ([17], [17]), ([18, 17], [17, 18]), ([19, 17, 17], [17, 19]), ([17], [17]), ([21, 17], [17, 21]), ([22, 20, 17], [17, 22]), ([23, 17], [17, 23]), ([20, 24, 17], [17, 20, 24]), ([17, 25], [17, 25]), ([26, 23, 0, 1, 2, 3, 4, 5, 6, 7, 8, 9, 10, 11, 12, 13, 14, 15, 16, 17, 18, 19, 20, 21, 22, 23, 24, 25, 26], [26])])
def impl_Complex_isPair.B1 : List Nat := [0, 0, 2, 7, 15, 31, 31, 95, 255, 511, 1023, 2047, 4095, 2047, 10239, 32767, 65535, 131071, 262143, 524287, 1048575, 262143, 2359295, 8388607, 16777215, 33554431, 67108863, 134217727]
theorem impl_Complex_isPair.tab1 : rtab .any (opsOf Tryz.f49 1) = impl_Complex_isPair.T1 := by kernel_rfl
theorem impl_Complex_isPair.bits1 : waitsOk impl_Complex_isPair.T1.2 impl_Complex_isPair.B1 = true := by kernel_rfl
set_option maxHeartbeats 8000000 in
set_option maxRecDepth 100000 in
theorem impl_Complex_isPair.calls (a0_0 : Int) (A0_1 : Option Addr) (c0_1 : Nat) (l0_1 : List Int) (a1_0 : Int) (a1_1 : Int) (r : Bool) (w : World) (hr0_1 : Kd.C (Kd.int .i64) w A0_1 l0_1.length l0_1) (hc0_1 : l0_1.length ≤ c0_1) (h : impl_Complex_isPair.f a0_0 l0_1 a1_0 a1_1 = some r) :
  Calls Tryz.prog 49 #[.agg #[.int .i64 a0_0, .slice A0_1 l0_1.length c0_1], .agg #[.int .i64 a1_0, .int .i64 a1_1]] w fun e w' => e = .returned (.bool r) ∧ Below w.heap.size w w' := by
 have hu26 := Tryz.underlying26
 have hu57 := Tryz.underlying57
 have HR0_1 := Aside0.mk hr0_1
 have HC0_1 := Aside0.mk hc0_1
 clear hr0_1 hc0_1
 have HB := Aside0.mk (Below.refl w.heap.size w)
 have H : ((impl_Complex_has.f a0_0 l0_1 a1_0).bind fun t104 => (if t104 = true then ((impl_Complex_has.f a0_0 l0_1 a1_1).bind fun t105 => (if t105 = true then ((impl_isIn.f a1_0 a1_1).bind fun t106 => (if t106 = true then ((impl_size.f a1_1).bind fun t107 => ((impl_size.f a1_0).bind fun t108 => (some (t107 == (wrap64 (t108 + 1)))))) else (some false))) else (some false))) else (some false))) = some r := h
 clear h
 replace H := Option.bind_eq_some_iff.mp H
 obtain ⟨t104, A30, H⟩ := H
 try dsimp only at H
 have A3 := Aside0.mk A30
 clear A30
 by_cases c4 : t104 = true
 ·subst c4
  have H1 : ((impl_Complex_has.f a0_0 l0_1 a1_1).bind fun t105 => (if t105 = true then ((impl_isIn.f a1_0 a1_1).bind fun t106 => (if t106 = true then ((impl_size.f a1_1).bind fun t107 => ((impl_size.f a1_0).bind fun t108 => (some (t107 == (wrap64 (t108 + 1)))))) else (some false))) else (some false))) = some r := by rw [if_pos rfl] at H; exact H
  clear H
  have H := H1
  clear H1
  replace H := Option.bind_eq_some_iff.mp H
  obtain ⟨t105, A50, H⟩ := H
  try dsimp only at H
  have A5 := Aside0.mk A50
  clear A50
  by_cases c6 : t105 = true
  ·subst c6
   have H1 : ((impl_isIn.f a1_0 a1_1).bind fun t106 => (if t106 = true then ((impl_size.f a1_1).bind fun t107 => ((impl_size.f a1_0).bind fun t108 => (some (t107 == (wrap64 (t108 + 1)))))) else (some false))) = some r := by rw [if_pos rfl] at H; exact H
   clear H
   have H := H1
   clear H1
   replace H := Option.bind_eq_some_iff.mp H
   obtain ⟨t106, A70, H⟩ := H
   try dsimp only at H
   have A7 := Aside0.mk A70
   clear A70
   by_cases c8 : t106 = true
   ·subst c8
    have H1 : ((impl_size.f a1_1).bind fun t107 => ((impl_size.f a1_0).bind fun t108 => (some (t107 == (wrap64 (t108 + 1)))))) = some r := by rw [if_pos rfl] at H; exact H
    clear H
    have H := H1
    clear H1
    replace H := Option.bind_eq_some_iff.mp H
    obtain ⟨t107, A90, H⟩ := H
    try dsimp only at H
    have A9 := Aside0.mk A90
    clear A90
    replace H := Option.bind_eq_some_iff.mp H
    obtain ⟨t108, A100, H⟩ := H
    try dsimp only at H
    have A10 := Aside0.mk A100
    clear A100
    obtain rfl := Option.some.inj H
    go_enter Tryz.func49, Tryz.ntmps49
    try go_wp2_with (first | ((with_reducible refine gate_dst (N := 2) rfl ?_); refine box_event ?hg (N := 2) ?hd (cs := #[.int .i64 a0_0, .slice A0_1 l0_1.length c0_1]) (t := 26) ?hr ?_; (case hd => rfl); (case hg => rfl); (case hr => first | (go_simp; done) | (go_simp; rfl)); intro gb102 hg w11 hbox hb; have BK102 := Aside0.mk (hbox); have GW102 := gH HB hg; have GE102 := gH HB hg; replace HB := sH HB hb; clear hb hbox hg) | ((with_reducible refine gate_dst (N := 3) rfl ?_); refine box_event ?hg (N := 3) ?hd (cs := #[.int .i64 a1_0, .int .i64 a1_1]) (t := 57) ?hr ?_; (case hd => rfl); (case hg => rfl); (case hr => first | (go_simp; done) | (go_simp; rfl)); intro gb103 hg w12 hbox hb; have BK103 := Aside0.mk (hbox); have GW103 := gH HB hg; have GE103 := gH HB hg; replace HB := sH HB hb; have NB102_103 := nB BK102 hg; have NB103_102 := oB BK102 hg; replace BK102 := sB BK102 hb; clear hb hbox hg))
    replace BK102 := dB BK102
    replace BK103 := dB BK103
    replace HB := dH HB
    refine st_ 28 (S := fun w' => w'.cell? ⟨gb102, 0, none⟩ = some (.int .i64 a0_0) ∧ w'.cell? ⟨gb102, 1, none⟩ = some (.slice A0_1 l0_1.length c0_1) ∧ w'.cell? ⟨gb103, 0, none⟩ = some (.int .i64 a1_0) ∧ w'.cell? ⟨gb103, 1, none⟩ = some (.int .i64 a1_1)) (ds := []) ⟨cB BK102 0, cB BK102 1, cB BK103 0, cB BK103 1⟩ (fun hHeld => ?_); refine with_tabW impl_Complex_isPair.tab1 impl_Complex_isPair.bits1 (fun HT_ HW_ => ?_)
    generalize w12.drew = w13 at BK102 BK103 HB hHeld ⊢
    refine pu_ 1 6 2 HT_ ?_
    refine tk_ 0 5 3 HT_ HW_ hHeld ?_
    refine tk_ 2 7 7 HT_ HW_ hHeld ?_
    refine on_ 3 (some 8) 15 HT_ (fun K hK => ?_)
    refine ca_ Tryz.func75 #[.agg #[.int .i64 a0_0, .slice A0_1 l0_1.length c0_1], .int .i64 a1_0] ?_
    with_reducible refine (impl_Complex_has.calls a0_0 _ _ l0_1 a1_0 true _ ?side1 ?side2 A3.out).mono ?_
    (case side1 => exact pC ((Kd.C_below HR0_1.out HB.out)))
    (case side2 => exact HC0_1.out)
    rintro e w14 ⟨rfl, hb⟩
    refine ⟨_, rfl, ?_⟩
    replace BK102 := sB BK102 hb
    replace BK103 := sB BK103 hb
    replace HB := sH HB hb
    (try clear hb)
    (try clear hb2)
    (try clear hk)
    (try clear hi)
    refine hK.out _ _ ⟨cB BK102 0, cB BK102 1, cB BK103 0, cB BK103 1⟩ (fun hHeld => ?_)
    clear hK K
    refine nm_ ?_
    refine pu_ 4 9 31 HT_ ?_
    refine pu_ 6 11 95 HT_ ?_
    refine tk_ 5 10 127 HT_ HW_ hHeld ?_
    refine tk_ 7 12 255 HT_ HW_ hHeld ?_
    refine on_ 8 (some 13) 511 HT_ (fun K hK => ?_)
    refine ca_ Tryz.func75 #[.agg #[.int .i64 a0_0, .slice A0_1 l0_1.length c0_1], .int .i64 a1_1] ?_
    with_reducible refine (impl_Complex_has.calls a0_0 _ _ l0_1 a1_1 true _ ?side1 ?side2 A5.out).mono ?_
    (case side1 => exact pC ((Kd.C_below HR0_1.out HB.out)))
    (case side2 => exact HC0_1.out)
    rintro e w15 ⟨rfl, hb⟩
    refine ⟨_, rfl, ?_⟩
    replace BK102 := sB BK102 hb
    replace BK103 := sB BK103 hb
    replace HB := sH HB hb
    (try clear hb)
    (try clear hb2)
    (try clear hk)
    (try clear hi)
    refine hK.out _ _ ⟨cB BK102 0, cB BK102 1, cB BK103 0, cB BK103 1⟩ (fun hHeld => ?_)
    clear hK K
    refine nm_ ?_
    refine pu_ 9 14 1023 HT_ ?_
    refine pu_ 10 15 2047 HT_ ?_
    refine pu_ 11 16 4095 HT_ ?_
    refine pu_ 13 18 12287 HT_ ?_
    refine tk_ 12 17 16383 HT_ HW_ hHeld ?_
    refine tk_ 14 19 32767 HT_ HW_ hHeld ?_
    refine on_ 15 (some 20) 65535 HT_ (fun K hK => ?_)
    refine ca_ Tryz.func76 #[.int .i64 a1_0, .int .i64 a1_1] ?_
    with_reducible refine (impl_isIn.calls a1_0 a1_1 true _ A7.out).mono ?_
    rintro e w16 ⟨rfl, hb⟩
    refine ⟨_, rfl, ?_⟩
    replace BK102 := sB BK102 hb
    replace BK103 := sB BK103 hb
    replace HB := sH HB hb
    (try clear hb)
    (try clear hb2)
    (try clear hk)
    (try clear hi)
    refine hK.out _ _ ⟨cB BK102 0, cB BK102 1, cB BK103 0, cB BK103 1⟩ (fun hHeld => ?_)
    clear hK K
    refine nm_ ?_
    refine pu_ 16 21 131071 HT_ ?_
    refine pu_ 17 22 262143 HT_ ?_
    refine pu_ 18 23 524287 HT_ ?_
    refine pu_ 21 26 2621439 HT_ ?_
    refine tk_ 19 24 3145727 HT_ HW_ hHeld ?_
    refine tk_ 22 27 7340031 HT_ HW_ hHeld ?_
    refine on_ 20 (some 25) 8388607 HT_ (fun K hK => ?_)
    refine ca_ Tryz.func67 #[.int .i64 a1_1] ?_
    with_reducible refine (impl_size.calls a1_1 t107 _ A9.out).mono ?_
    rintro e w' ⟨rfl, ⟨nd, rfl⟩⟩
    refine ⟨_, rfl, ?_⟩
    refine hK.out _ _ ⟨cB BK102 0, cB BK102 1, cB BK103 0, cB BK103 1⟩ (fun hHeld => ?_)
    clear hK K
    refine nm_ ?_
    refine on_ 23 (some 28) 16777215 HT_ (fun K hK => ?_)
    refine ca_ Tryz.func67 #[.int .i64 a1_0] ?_
    with_reducible refine (impl_size.calls a1_0 t108 _ A10.out).mono ?_
    rintro e w' ⟨rfl, ⟨nd, rfl⟩⟩
    refine ⟨_, rfl, ?_⟩
    refine hK.out _ _ ⟨cB BK102 0, cB BK102 1, cB BK103 0, cB BK103 1⟩ (fun hHeld => ?_)
    clear hK K
    refine nm_ ?_
    refine pu_ 24 29 33554431 HT_ ?_
    refine pu_ 25 30 67108863 HT_ ?_
    refine pu_ 26 31 134217727 HT_ ?_
    refine pu_ 27 4 268435455 HT_ ?_
    refine dn_ HT_ ?_
    try go_wp2
    go_ret
    exact ⟨by first | rfl | (simp [errW_none, errW_some] <;> rfl) | (simp [*, errW_none, errW_some] <;> rfl) | (exfalso; simp_all), pH HB⟩
   ·replace c8 := Bool.eq_false_iff.mpr c8
    subst c8
    have H1 : (some false) = some r := by rw [if_neg (show ¬ (false = true) by decide)] at H; exact H
    clear H
    have H := H1
    clear H1
    obtain rfl := Option.some.inj H
    go_enter Tryz.func49, Tryz.ntmps49
    try go_wp2_with (first | ((with_reducible refine gate_dst (N := 2) rfl ?_); refine box_event ?hg (N := 2) ?hd (cs := #[.int .i64 a0_0, .slice A0_1 l0_1.length c0_1]) (t := 26) ?hr ?_; (case hd => rfl); (case hg => rfl); (case hr => first | (go_simp; done) | (go_simp; rfl)); intro gb102 hg w17 hbox hb; have BK102 := Aside0.mk (hbox); have GW102 := gH HB hg; have GE102 := gH HB hg; replace HB := sH HB hb; clear hb hbox hg) | ((with_reducible refine gate_dst (N := 3) rfl ?_); refine box_event ?hg (N := 3) ?hd (cs := #[.int .i64 a1_0, .int .i64 a1_1]) (t := 57) ?hr ?_; (case hd => rfl); (case hg => rfl); (case hr => first | (go_simp; done) | (go_simp; rfl)); intro gb103 hg w18 hbox hb; have BK103 := Aside0.mk (hbox); have GW103 := gH HB hg; have GE103 := gH HB hg; replace HB := sH HB hb; have NB102_103 := nB BK102 hg; have NB103_102 := oB BK102 hg; replace BK102 := sB BK102 hb; clear hb hbox hg))
    replace BK102 := dB BK102
    replace BK103 := dB BK103
    replace HB := dH HB
    refine st_ 28 (S := fun w' => w'.cell? ⟨gb102, 0, none⟩ = some (.int .i64 a0_0) ∧ w'.cell? ⟨gb102, 1, none⟩ = some (.slice A0_1 l0_1.length c0_1) ∧ w'.cell? ⟨gb103, 0, none⟩ = some (.int .i64 a1_0) ∧ w'.cell? ⟨gb103, 1, none⟩ = some (.int .i64 a1_1)) (ds := []) ⟨cB BK102 0, cB BK102 1, cB BK103 0, cB BK103 1⟩ (fun hHeld => ?_); refine with_tabW impl_Complex_isPair.tab1 impl_Complex_isPair.bits1 (fun HT_ HW_ => ?_)
    generalize w18.drew = w19 at BK102 BK103 HB hHeld ⊢
    refine pu_ 1 6 2 HT_ ?_
    refine tk_ 0 5 3 HT_ HW_ hHeld ?_
    refine tk_ 2 7 7 HT_ HW_ hHeld ?_
    refine on_ 3 (some 8) 15 HT_ (fun K hK => ?_)
    refine ca_ Tryz.func75 #[.agg #[.int .i64 a0_0, .slice A0_1 l0_1.length c0_1], .int .i64 a1_0] ?_
    with_reducible refine (impl_Complex_has.calls a0_0 _ _ l0_1 a1_0 true _ ?side1 ?side2 A3.out).mono ?_
    (case side1 => exact pC ((Kd.C_below HR0_1.out HB.out)))
    (case side2 => exact HC0_1.out)
    rintro e w20 ⟨rfl, hb⟩
    refine ⟨_, rfl, ?_⟩
    replace BK102 := sB BK102 hb
    replace BK103 := sB BK103 hb
    replace HB := sH HB hb
    (try clear hb)
    (try clear hb2)
    (try clear hk)
    (try clear hi)
    refine hK.out _ _ ⟨cB BK102 0, cB BK102 1, cB BK103 0, cB BK103 1⟩ (fun hHeld => ?_)
    clear hK K
    refine nm_ ?_
    refine pu_ 4 9 31 HT_ ?_
    refine pu_ 6 11 95 HT_ ?_
    refine tk_ 5 10 127 HT_ HW_ hHeld ?_
    refine tk_ 7 12 255 HT_ HW_ hHeld ?_
    refine on_ 8 (some 13) 511 HT_ (fun K hK => ?_)
    refine ca_ Tryz.func75 #[.agg #[.int .i64 a0_0, .slice A0_1 l0_1.length c0_1], .int .i64 a1_1] ?_
    with_reducible refine (impl_Complex_has.calls a0_0 _ _ l0_1 a1_1 true _ ?side1 ?side2 A5.out).mono ?_
    (case side1 => exact pC ((Kd.C_below HR0_1.out HB.out)))
    (case side2 => exact HC0_1.out)
    rintro e w21 ⟨rfl, hb⟩
    refine ⟨_, rfl, ?_⟩
    replace BK102 := sB BK102 hb
    replace BK103 := sB BK103 hb
    replace HB := sH HB hb
    (try clear hb)
    (try clear hb2)
    (try clear hk)
    (try clear hi)
    refine hK.out _ _ ⟨cB BK102 0, cB BK102 1, cB BK103 0, cB BK103 1⟩ (fun hHeld => ?_)
    clear hK K
    refine nm_ ?_
    refine pu_ 9 14 1023 HT_ ?_
    refine pu_ 10 15 2047 HT_ ?_
    refine pu_ 11 16 4095 HT_ ?_
    refine pu_ 13 18 12287 HT_ ?_
    refine tk_ 12 17 16383 HT_ HW_ hHeld ?_
    refine tk_ 14 19 32767 HT_ HW_ hHeld ?_
    refine on_ 15 (some 20) 65535 HT_ (fun K hK => ?_)
    refine ca_ Tryz.func76 #[.int .i64 a1_0, .int .i64 a1_1] ?_
    with_reducible refine (impl_isIn.calls a1_0 a1_1 false _ A7.out).mono ?_
    rintro e w22 ⟨rfl, hb⟩
    refine ⟨_, rfl, ?_⟩
    replace BK102 := sB BK102 hb
    replace BK103 := sB BK103 hb
    replace HB := sH HB hb
    (try clear hb)
    (try clear hb2)
    (try clear hk)
    (try clear hi)
    refine hK.out _ _ ⟨cB BK102 0, cB BK102 1, cB BK103 0, cB BK103 1⟩ (fun hHeld => ?_)
    clear hK K
    refine nm_ ?_
    refine pu_ 16 21 131071 HT_ ?_
    refine pu_ 17 22 262143 HT_ ?_
    refine pn_ 18 23 524287 HT_ ?_
    refine pn_ 19 24 1048575 HT_ ?_
    refine pn_ 20 25 2097151 HT_ ?_
    refine pn_ 21 26 4194303 HT_ ?_
    refine pn_ 22 27 8388607 HT_ ?_
    refine pn_ 23 28 16777215 HT_ ?_
    refine pn_ 24 29 33554431 HT_ ?_
    refine pn_ 25 30 67108863 HT_ ?_
    refine pu_ 26 31 134217727 HT_ ?_
    refine pu_ 27 4 268435455 HT_ ?_
    refine dn_ HT_ ?_
    try go_wp2
    go_ret
    exact ⟨by first | rfl | (simp [errW_none, errW_some] <;> rfl) | (simp [*, errW_none, errW_some] <;> rfl) | (exfalso; simp_all), pH HB⟩
  ·replace c6 := Bool.eq_false_iff.mpr c6
   subst c6
   have H1 : (some false) = some r := by rw [if_neg (show ¬ (false = true) by decide)] at H; exact H
   clear H
   have H := H1
   clear H1
   obtain rfl := Option.some.inj H
   go_enter Tryz.func49, Tryz.ntmps49
   try go_wp2_with (first | ((with_reducible refine gate_dst (N := 2) rfl ?_); refine box_event ?hg (N := 2) ?hd (cs := #[.int .i64 a0_0, .slice A0_1 l0_1.length c0_1]) (t := 26) ?hr ?_; (case hd => rfl); (case hg => rfl); (case hr => first | (go_simp; done) | (go_simp; rfl)); intro gb102 hg w23 hbox hb; have BK102 := Aside0.mk (hbox); have GW102 := gH HB hg; have GE102 := gH HB hg; replace HB := sH HB hb; clear hb hbox hg) | ((with_reducible refine gate_dst (N := 3) rfl ?_); refine box_event ?hg (N := 3) ?hd (cs := #[.int .i64 a1_0, .int .i64 a1_1]) (t := 57) ?hr ?_; (case hd => rfl); (case hg => rfl); (case hr => first | (go_simp; done) | (go_simp; rfl)); intro gb103 hg w24 hbox hb; have BK103 := Aside0.mk (hbox); have GW103 := gH HB hg; have GE103 := gH HB hg; replace HB := sH HB hb; have NB102_103 := nB BK102 hg; have NB103_102 := oB BK102 hg; replace BK102 := sB BK102 hb; clear hb hbox hg))
   replace BK102 := dB BK102
   replace BK103 := dB BK103
   replace HB := dH HB
   refine st_ 28 (S := fun w' => w'.cell? ⟨gb102, 0, none⟩ = some (.int .i64 a0_0) ∧ w'.cell? ⟨gb102, 1, none⟩ = some (.slice A0_1 l0_1.length c0_1) ∧ w'.cell? ⟨gb103, 0, none⟩ = some (.int .i64 a1_0) ∧ w'.cell? ⟨gb103, 1, none⟩ = some (.int .i64 a1_1)) (ds := []) ⟨cB BK102 0, cB BK102 1, cB BK103 0, cB BK103 1⟩ (fun hHeld => ?_); refine with_tabW impl_Complex_isPair.tab1 impl_Complex_isPair.bits1 (fun HT_ HW_ => ?_)
   generalize w24.drew = w25 at BK102 BK103 HB hHeld ⊢
   refine pu_ 1 6 2 HT_ ?_
   refine tk_ 0 5 3 HT_ HW_ hHeld ?_
   refine tk_ 2 7 7 HT_ HW_ hHeld ?_
   refine on_ 3 (some 8) 15 HT_ (fun K hK => ?_)
   refine ca_ Tryz.func75 #[.agg #[.int .i64 a0_0, .slice A0_1 l0_1.length c0_1], .int .i64 a1_0] ?_
   with_reducible refine (impl_Complex_has.calls a0_0 _ _ l0_1 a1_0 true _ ?side1 ?side2 A3.out).mono ?_
   (case side1 => exact pC ((Kd.C_below HR0_1.out HB.out)))
   (case side2 => exact HC0_1.out)
   rintro e w26 ⟨rfl, hb⟩
   refine ⟨_, rfl, ?_⟩
   replace BK102 := sB BK102 hb
   replace BK103 := sB BK103 hb
   replace HB := sH HB hb
   (try clear hb)
   (try clear hb2)
   (try clear hk)
   (try clear hi)
   refine hK.out _ _ ⟨cB BK102 0, cB BK102 1, cB BK103 0, cB BK103 1⟩ (fun hHeld => ?_)
   clear hK K
   refine nm_ ?_
   refine pu_ 4 9 31 HT_ ?_
   refine pu_ 6 11 95 HT_ ?_
   refine tk_ 5 10 127 HT_ HW_ hHeld ?_
   refine tk_ 7 12 255 HT_ HW_ hHeld ?_
   refine on_ 8 (some 13) 511 HT_ (fun K hK => ?_)
   refine ca_ Tryz.func75 #[.agg #[.int .i64 a0_0, .slice A0_1 l0_1.length c0_1], .int .i64 a1_1] ?_
   with_reducible refine (impl_Complex_has.calls a0_0 _ _ l0_1 a1_1 false _ ?side1 ?side2 A5.out).mono ?_
   (case side1 => exact pC ((Kd.C_below HR0_1.out HB.out)))
   (case side2 => exact HC0_1.out)
   rintro e w27 ⟨rfl, hb⟩
   refine ⟨_, rfl, ?_⟩
   replace BK102 := sB BK102 hb
   replace BK103 := sB BK103 hb
   replace HB := sH HB hb
   (try clear hb)
   (try clear hb2)
   (try clear hk)
   (try clear hi)
   refine hK.out _ _ ⟨cB BK102 0, cB BK102 1, cB BK103 0, cB BK103 1⟩ (fun hHeld => ?_)
   clear hK K
   refine nm_ ?_
   refine pu_ 9 14 1023 HT_ ?_
   refine pu_ 10 15 2047 HT_ ?_
   refine pn_ 11 16 4095 HT_ ?_
   refine pn_ 12 17 8191 HT_ ?_
   refine pn_ 13 18 16383 HT_ ?_
   refine pn_ 14 19 32767 HT_ ?_
   refine pn_ 15 20 65535 HT_ ?_
   refine pu_ 16 21 131071 HT_ ?_
   refine pu_ 17 22 262143 HT_ ?_
   refine pn_ 18 23 524287 HT_ ?_
   refine pn_ 19 24 1048575 HT_ ?_
   refine pn_ 20 25 2097151 HT_ ?_
   refine pn_ 21 26 4194303 HT_ ?_
   refine pn_ 22 27 8388607 HT_ ?_
   refine pn_ 23 28 16777215 HT_ ?_
   refine pn_ 24 29 33554431 HT_ ?_
   refine pn_ 25 30 67108863 HT_ ?_
   refine pu_ 26 31 134217727 HT_ ?_
   refine pu_ 27 4 268435455 HT_ ?_
   refine dn_ HT_ ?_
   try go_wp2
   go_ret
   exact ⟨by first | rfl | (simp [errW_none, errW_some] <;> rfl) | (simp [*, errW_none, errW_some] <;> rfl) | (exfalso; simp_all), pH HB⟩
 ·replace c4 := Bool.eq_false_iff.mpr c4
  subst c4
  have H1 : (some false) = some r := by rw [if_neg (show ¬ (false = true) by decide)] at H; exact H
  clear H
  have H := H1
  clear H1
  obtain rfl := Option.some.inj H
  go_enter Tryz.func49, Tryz.ntmps49
  try go_wp2_with (first | ((with_reducible refine gate_dst (N := 2) rfl ?_); refine box_event ?hg (N := 2) ?hd (cs := #[.int .i64 a0_0, .slice A0_1 l0_1.length c0_1]) (t := 26) ?hr ?_; (case hd => rfl); (case hg => rfl); (case hr => first | (go_simp; done) | (go_simp; rfl)); intro gb102 hg w28 hbox hb; have BK102 := Aside0.mk (hbox); have GW102 := gH HB hg; have GE102 := gH HB hg; replace HB := sH HB hb; clear hb hbox hg) | ((with_reducible refine gate_dst (N := 3) rfl ?_); refine box_event ?hg (N := 3) ?hd (cs := #[.int .i64 a1_0, .int .i64 a1_1]) (t := 57) ?hr ?_; (case hd => rfl); (case hg => rfl); (case hr => first | (go_simp; done) | (go_simp; rfl)); intro gb103 hg w29 hbox hb; have BK103 := Aside0.mk (hbox); have GW103 := gH HB hg; have GE103 := gH HB hg; replace HB := sH HB hb; have NB102_103 := nB BK102 hg; have NB103_102 := oB BK102 hg; replace BK102 := sB BK102 hb; clear hb hbox hg))
  replace BK102 := dB BK102
  replace BK103 := dB BK103
  replace HB := dH HB
  refine st_ 28 (S := fun w' => w'.cell? ⟨gb102, 0, none⟩ = some (.int .i64 a0_0) ∧ w'.cell? ⟨gb102, 1, none⟩ = some (.slice A0_1 l0_1.length c0_1) ∧ w'.cell? ⟨gb103, 0, none⟩ = some (.int .i64 a1_0) ∧ w'.cell? ⟨gb103, 1, none⟩ = some (.int .i64 a1_1)) (ds := []) ⟨cB BK102 0, cB BK102 1, cB BK103 0, cB BK103 1⟩ (fun hHeld => ?_); refine with_tabW impl_Complex_isPair.tab1 impl_Complex_isPair.bits1 (fun HT_ HW_ => ?_)
  generalize w29.drew = w30 at BK102 BK103 HB hHeld ⊢
  refine pu_ 1 6 2 HT_ ?_
  refine tk_ 0 5 3 HT_ HW_ hHeld ?_
  refine tk_ 2 7 7 HT_ HW_ hHeld ?_
  refine on_ 3 (some 8) 15 HT_ (fun K hK => ?_)
  refine ca_ Tryz.func75 #[.agg #[.int .i64 a0_0, .slice A0_1 l0_1.length c0_1], .int .i64 a1_0] ?_
  with_reducible refine (impl_Complex_has.calls a0_0 _ _ l0_1 a1_0 false _ ?side1 ?side2 A3.out).mono ?_
  (case side1 => exact pC ((Kd.C_below HR0_1.out HB.out)))
  (case side2 => exact HC0_1.out)
  rintro e w31 ⟨rfl, hb⟩
  refine ⟨_, rfl, ?_⟩
  replace BK102 := sB BK102 hb
  replace BK103 := sB BK103 hb
  replace HB := sH HB hb
  (try clear hb)
  (try clear hb2)
  (try clear hk)
  (try clear hi)
  refine hK.out _ _ ⟨cB BK102 0, cB BK102 1, cB BK103 0, cB BK103 1⟩ (fun hHeld => ?_)
  clear hK K
  refine nm_ ?_
  refine pu_ 4 9 31 HT_ ?_
  refine pn_ 5 10 63 HT_ ?_
  refine pn_ 6 11 127 HT_ ?_
  refine pn_ 7 12 255 HT_ ?_
  refine pn_ 8 13 511 HT_ ?_
  refine pu_ 9 14 1023 HT_ ?_
  refine pu_ 10 15 2047 HT_ ?_
  refine pn_ 11 16 4095 HT_ ?_
  refine pn_ 12 17 8191 HT_ ?_
  refine pn_ 13 18 16383 HT_ ?_
  refine pn_ 14 19 32767 HT_ ?_
  refine pn_ 15 20 65535 HT_ ?_
  refine pu_ 16 21 131071 HT_ ?_
  refine pu_ 17 22 262143 HT_ ?_
  refine pn_ 18 23 524287 HT_ ?_
  refine pn_ 19 24 1048575 HT_ ?_
  refine pn_ 20 25 2097151 HT_ ?_
  refine pn_ 21 26 4194303 HT_ ?_
  refine pn_ 22 27 8388607 HT_ ?_
  refine pn_ 23 28 16777215 HT_ ?_
  refine pn_ 24 29 33554431 HT_ ?_
  refine pn_ 25 30 67108863 HT_ ?_
  refine pu_ 26 31 134217727 HT_ ?_
  refine pu_ 27 4 268435455 HT_ ?_
  refine dn_ HT_ ?_
  try go_wp2
  go_ret
  exact ⟨by first | rfl | (simp [errW_none, errW_some] <;> rfl) | (simp [*, errW_none, errW_some] <;> rfl) | (exfalso; simp_all), pH HB⟩
def cmp_isNaN_int64.f (a0 : Int) : Option (Bool) := some (a0 != a0)
set_option maxHeartbeats 8000000 in
set_option maxRecDepth 100000 in
theorem cmp_isNaN_int64.calls (a0 : Int) (r : Bool) (w : World) (h : cmp_isNaN_int64.f a0 = some r) :
  Calls Tryz.prog 107 #[.int .i64 a0] w fun e w' => e = .returned (.bool r) ∧ Drawn0 w w' := by
 have H : (some (a0 != a0)) = some r := h
 clear h
 obtain rfl := Option.some.inj H
 go_enter Tryz.func107, Tryz.ntmps107
 go_wp2
 go_ret
 exact ⟨by first | rfl | (simp; done) | (simp [*]; done), by repeat (first | exact Drawn0.refl _ | apply Drawn0.step)⟩
def cmp_Compare_int64.f (a0 : Int) (a1 : Int) : Option (Int) := (cmp_isNaN_int64.f a0).bind fun t109 => ((cmp_isNaN_int64.f a1).bind fun t110 => (if t109 = true then (if t110 = true then (some 0) else (some (-1))) else (if t110 = true then (some 1) else (if a0 < a1 then (some (-1)) else (if a0 > a1 then (some 1) else (some 0))))))
set_option maxHeartbeats 8000000 in
set_option maxRecDepth 100000 in
theorem cmp_Compare_int64.calls (a0 : Int) (a1 : Int) (r : Int) (w : World) (h : cmp_Compare_int64.f a0 a1 = some r) :
  Calls Tryz.prog 93 #[.int .i64 a0, .int .i64 a1] w fun e w' => e = .returned (.int .i64 r) ∧ Drawn0 w w' := by
 have H : ((cmp_isNaN_int64.f a0).bind fun t109 => ((cmp_isNaN_int64.f a1).bind fun t110 => (if t109 = true then (if t110 = true then (some 0) else (some (-1))) else (if t110 = true then (some 1) else (if a0 < a1 then (some (-1)) else (if a0 > a1 then (some 1) else (some 0))))))) = some r := h
 clear h
 replace H := Option.bind_eq_some_iff.mp H
 obtain ⟨t109, A30, H⟩ := H
 try dsimp only at H
 have A3 := Aside0.mk A30
 clear A30
 replace H := Option.bind_eq_some_iff.mp H
 obtain ⟨t110, A40, H⟩ := H
 try dsimp only at H
 have A4 := Aside0.mk A40
 clear A40
 by_cases c5 : t109 = true
 ·subst c5
  have H1 : (if t110 = true then (some 0) else (some (-1))) = some r := by rw [if_pos rfl] at H; exact H
  clear H
  have H := H1
  clear H1
  by_cases c6 : t110 = true
  ·subst c6
   have H1 : (some 0) = some r := by rw [if_pos rfl] at H; exact H
   clear H
   have H := H1
   clear H1
   obtain rfl := Option.some.inj H
   go_enter Tryz.func93, Tryz.ntmps93
   go_wp2_with (first | ((with_reducible refine gate_callee (f := 107) rfl ?_); refine cl_ (some 8) Tryz.func107 #[.int .i64 a0] ?_; (with_reducible refine (cmp_isNaN_int64.calls a0 true _ A3.out).mono ?_); rintro e w' ⟨rfl, ⟨nd, rfl⟩⟩; refine ⟨_, rfl, ?_⟩) | ((with_reducible refine gate_callee (f := 107) rfl ?_); refine cl_ (some 10) Tryz.func107 #[.int .i64 a1] ?_; (with_reducible refine (cmp_isNaN_int64.calls a1 true _ A4.out).mono ?_); rintro e w' ⟨rfl, ⟨nd, rfl⟩⟩; refine ⟨_, rfl, ?_⟩))
   go_ret
   exact ⟨by first | rfl | (simp; done) | (simp [*]; done), by repeat (first | exact Drawn0.refl _ | apply Drawn0.step)⟩
  ·replace c6 := Bool.eq_false_iff.mpr c6
   subst c6
   have H1 : (some (-1)) = some r := by rw [if_neg (show ¬ (false = true) by decide)] at H; exact H
   clear H
   have H := H1
   clear H1
   obtain rfl := Option.some.inj H
   go_enter Tryz.func93, Tryz.ntmps93
   go_wp2_with (first | ((with_reducible refine gate_callee (f := 107) rfl ?_); refine cl_ (some 8) Tryz.func107 #[.int .i64 a0] ?_; (with_reducible refine (cmp_isNaN_int64.calls a0 true _ A3.out).mono ?_); rintro e w' ⟨rfl, ⟨nd, rfl⟩⟩; refine ⟨_, rfl, ?_⟩) | ((with_reducible refine gate_callee (f := 107) rfl ?_); refine cl_ (some 10) Tryz.func107 #[.int .i64 a1] ?_; (with_reducible refine (cmp_isNaN_int64.calls a1 false _ A4.out).mono ?_); rintro e w' ⟨rfl, ⟨nd, rfl⟩⟩; refine ⟨_, rfl, ?_⟩))
   go_ret
   exact ⟨by first | rfl | (simp; done) | (simp [*]; done), by repeat (first | exact Drawn0.refl _ | apply Drawn0.step)⟩
 ·replace c5 := Bool.eq_false_iff.mpr c5
  subst c5
  have H1 : (if t110 = true then (some 1) else (if a0 < a1 then (some (-1)) else (if a0 > a1 then (some 1) else (some 0)))) = some r := by rw [if_neg (show ¬ (false = true) by decide)] at H; exact H
  clear H
  have H := H1
  clear H1
  by_cases c7 : t110 = true
  ·subst c7
   have H1 : (some 1) = some r := by rw [if_pos rfl] at H; exact H
   clear H
   have H := H1
   clear H1
   obtain rfl := Option.some.inj H
   go_enter Tryz.func93, Tryz.ntmps93
   go_wp2_with (first | ((with_reducible refine gate_callee (f := 107) rfl ?_); refine cl_ (some 8) Tryz.func107 #[.int .i64 a0] ?_; (with_reducible refine (cmp_isNaN_int64.calls a0 false _ A3.out).mono ?_); rintro e w' ⟨rfl, ⟨nd, rfl⟩⟩; refine ⟨_, rfl, ?_⟩) | ((with_reducible refine gate_callee (f := 107) rfl ?_); refine cl_ (some 10) Tryz.func107 #[.int .i64 a1] ?_; (with_reducible refine (cmp_isNaN_int64.calls a1 true _ A4.out).mono ?_); rintro e w' ⟨rfl, ⟨nd, rfl⟩⟩; refine ⟨_, rfl, ?_⟩))
   go_ret
   exact ⟨by first | rfl | (simp; done) | (simp [*]; done), by repeat (first | exact Drawn0.refl _ | apply Drawn0.step)⟩
  ·replace c7 := Bool.eq_false_iff.mpr c7
   subst c7
   have H1 : (if a0 < a1 then (some (-1)) else (if a0 > a1 then (some 1) else (some 0))) = some r := by rw [if_neg (show ¬ (false = true) by decide)] at H; exact H
   clear H
   have H := H1
   clear H1
   by_cases c8 : a0 < a1
   ·rw [if_pos c8] at H
    have c8b0 : decide (a0 < a1) = true := decide_eq_true c8
    clear c8
    obtain rfl := Option.some.inj H
    go_enter Tryz.func93, Tryz.ntmps93
    go_wp2_with (first | ((with_reducible refine gate_callee (f := 107) rfl ?_); refine cl_ (some 8) Tryz.func107 #[.int .i64 a0] ?_; (with_reducible refine (cmp_isNaN_int64.calls a0 false _ A3.out).mono ?_); rintro e w' ⟨rfl, ⟨nd, rfl⟩⟩; refine ⟨_, rfl, ?_⟩) | ((with_reducible refine gate_callee (f := 107) rfl ?_); refine cl_ (some 10) Tryz.func107 #[.int .i64 a1] ?_; (with_reducible refine (cmp_isNaN_int64.calls a1 false _ A4.out).mono ?_); rintro e w' ⟨rfl, ⟨nd, rfl⟩⟩; refine ⟨_, rfl, ?_⟩))
    go_ret
    exact ⟨by first | rfl | (simp; done) | (simp [*]; done), by repeat (first | exact Drawn0.refl _ | apply Drawn0.step)⟩
   ·rw [if_neg c8] at H
    have c8b0 : decide (a0 < a1) = false := decide_eq_false c8
    clear c8
    by_cases c9 : a0 > a1
    ·rw [if_pos c9] at H
     have c9b0 : decide (a1 < a0) = true := decide_eq_true c9
     clear c9
     obtain rfl := Option.some.inj H
     go_enter Tryz.func93, Tryz.ntmps93
     go_wp2_with (first | ((with_reducible refine gate_callee (f := 107) rfl ?_); refine cl_ (some 8) Tryz.func107 #[.int .i64 a0] ?_; (with_reducible refine (cmp_isNaN_int64.calls a0 false _ A3.out).mono ?_); rintro e w' ⟨rfl, ⟨nd, rfl⟩⟩; refine ⟨_, rfl, ?_⟩) | ((with_reducible refine gate_callee (f := 107) rfl ?_); refine cl_ (some 10) Tryz.func107 #[.int .i64 a1] ?_; (with_reducible refine (cmp_isNaN_int64.calls a1 false _ A4.out).mono ?_); rintro e w' ⟨rfl, ⟨nd, rfl⟩⟩; refine ⟨_, rfl, ?_⟩))
     go_ret
     exact ⟨by first | rfl | (simp; done) | (simp [*]; done), by repeat (first | exact Drawn0.refl _ | apply Drawn0.step)⟩
    ·rw [if_neg c9] at H
     have c9b0 : decide (a1 < a0) = false := decide_eq_false c9
     clear c9
     obtain rfl := Option.some.inj H
     go_enter Tryz.func93, Tryz.ntmps93
     go_wp2_with (first | ((with_reducible refine gate_callee (f := 107) rfl ?_); refine cl_ (some 8) Tryz.func107 #[.int .i64 a0] ?_; (with_reducible refine (cmp_isNaN_int64.calls a0 false _ A3.out).mono ?_); rintro e w' ⟨rfl, ⟨nd, rfl⟩⟩; refine ⟨_, rfl, ?_⟩) | ((with_reducible refine gate_callee (f := 107) rfl ?_); refine cl_ (some 10) Tryz.func107 #[.int .i64 a1] ?_; (with_reducible refine (cmp_isNaN_int64.calls a1 false _ A4.out).mono ?_); rintro e w' ⟨rfl, ⟨nd, rfl⟩⟩; refine ⟨_, rfl, ?_⟩))
     go_ret
     exact ⟨by first | rfl | (simp; done) | (simp [*]; done), by repeat (first | exact Drawn0.refl _ | apply Drawn0.step)⟩
def slices_Compare_int64_int64.l0 : Nat → List Int → List Int → List Int → Int → Int → Option (Int)
 | 0, _, _, _, _, _ => none
 | k + 1, x0, x1, x9, x10, x11 => if x11 < x10 then (if 0 ≤ x11 then (if x11 < (x9.length : Int) then (if x11 ≥ (x1.length : Int) then (some 1) else (if x11 < (x1.length : Int) then ((cmp_Compare_int64.f (rd x9 x11) (rd x1 x11)).bind fun t113 => (if t113 = 0 then (slices_Compare_int64_int64.l0 k x0 x1 x9 x10 (wrap64 (x11 + 1))) else (some t113))) else (none))) else (none)) else (none)) else (if (x0.length : Int) < (x1.length : Int) then (some (-1)) else (some 0))
def slices_Compare_int64_int64.f (k : Nat) (l0 : List Int) (l1 : List Int) : Option (Int) := slices_Compare_int64_int64.l0 k l0 l1 l0 (l0.length : Int) 0
set_option maxHeartbeats 8000000 in
set_option maxRecDepth 100000 in
theorem slices_Compare_int64_int64.calls (k : Nat) (A0 : Option Addr) (c0 : Nat) (l0 : List Int) (A1 : Option Addr) (c1 : Nat) (l1 : List Int) (r : Int) (w : World) (hr0 : Kd.C (Kd.int .i64) w A0 l0.length l0) (hc0 : l0.length ≤ c0) (hr1 : Kd.C (Kd.int .i64) w A1 l1.length l1) (hc1 : l1.length ≤ c1) (h : slices_Compare_int64_int64.f k l0 l1 = some r) :
  Calls Tryz.prog 77 #[.slice A0 l0.length c0, .slice A1 l1.length c1] w fun e w' => e = .returned (.int .i64 r) ∧ Drawn0 w w' := by
 have HR0 := Aside0.mk hr0
 have HC0 := Aside0.mk hc0
 clear hr0 hc0
 have HR1 := Aside0.mk hr1
 have HC1 := Aside0.mk hc1
 clear hr1 hc1
 have H : (slices_Compare_int64_int64.l0 k l0 l1 l0 (l0.length : Int) 0) = some r := h
 clear h
 have H' := Aside0.mk H
 clear H
 go_enter Tryz.func77, Tryz.ntmps77
 go_wp2
 go_loopg [11] k (fun kq v11 w' => ∃ (x11_1 : Int), v11 = .int .i64 x11_1 ∧ Aside0 (slices_Compare_int64_int64.l0 kq l0 l1 l0 (l0.length : Int) x11_1 = some r) ∧ Aside0 (kq ≤ k) ∧ Drawn0 w w')
 case atStart => exact ⟨(0), (by first | rfl | (simp; done) | (simp [*]; done)), H', ⟨Nat.le_refl _⟩, by repeat (first | exact Drawn0.refl _ | apply Drawn0.step)⟩
 case round =>
  clear H'
  try clear c1
  try clear p2
  obtain ⟨x11_1, rfl, HA, HK1, ⟨m1, rfl⟩⟩ := hrel
  cases gk with
  | zero => exact absurd HA.out (by simp [slices_Compare_int64_int64.l0])
  | succ k1 =>
   have H := HA.out
   clear HA
   simp only [slices_Compare_int64_int64.l0] at H
   by_cases c3 : x11_1 < (l0.length : Int)
   ·rw [if_pos c3] at H
    have c3b0 : decide (x11_1 < (l0.length : Int)) = true := decide_eq_true c3
    clear c3
    by_cases c4 : 0 ≤ x11_1
    ·rw [if_pos c4] at H
     have c4b0 : decide (0 ≤ x11_1) = true := decide_eq_true c4
     clear c4
     by_cases c5 : x11_1 < (l0.length : Int)
     ·rw [if_pos c5] at H
      have c5b0 : decide (x11_1 < (l0.length : Int)) = true := decide_eq_true c5
      clear c5
      by_cases c6 : x11_1 ≥ (l1.length : Int)
      ·rw [if_pos c6] at H
       have c6b0 : decide ((l1.length : Int) ≤ x11_1) = true := decide_eq_true c6
       clear c6
       obtain rfl := Option.some.inj H
       have p111 : 0 ≤ (x11_1 : Int) := of_decide_eq_true (by first | (with_reducible assumption) | assumption)
       have q111 : x11_1 < (l0.length : Int) := of_decide_eq_true (by first | (with_reducible assumption) | assumption)
       obtain ⟨ad111, e111, hx111_0⟩ := Kd.at_int HR0.out x11_1 p111 q111
       cases e111
       replace p111 := eq_true p111
       replace q111 := eq_true q111
       go_wp2
       go_ret
       exact ⟨by first | rfl | (simp; done) | (simp [*]; done), by repeat (first | exact Drawn0.refl _ | apply Drawn0.step)⟩
      ·rw [if_neg c6] at H
       have c6b0 : decide ((l1.length : Int) ≤ x11_1) = false := decide_eq_false c6
       clear c6
       by_cases c7 : x11_1 < (l1.length : Int)
       ·rw [if_pos c7] at H
        have c7b0 : decide (x11_1 < (l1.length : Int)) = true := decide_eq_true c7
        clear c7
        replace H := Option.bind_eq_some_iff.mp H
        obtain ⟨t113, A80, H⟩ := H
        try dsimp only at H
        have A8 := Aside0.mk A80
        clear A80
        by_cases c9 : t113 = 0
        ·rw [if_pos c9] at H
         have c9b0 : (t113 == 0) = true := beq_iff_eq.mpr c9
         have c9b1 : (t113 != 0) = false := bne_eq_false_iff_eq.mpr c9
         clear c9
         have H' := Aside0.mk H
         clear H
         have p111 : 0 ≤ (x11_1 : Int) := of_decide_eq_true (by first | (with_reducible assumption) | assumption)
         have q111 : x11_1 < (l0.length : Int) := of_decide_eq_true (by first | (with_reducible assumption) | assumption)
         obtain ⟨ad111, e111, hx111_0⟩ := Kd.at_int HR0.out x11_1 p111 q111
         cases e111
         replace p111 := eq_true p111
         replace q111 := eq_true q111
         have p112 : 0 ≤ (x11_1 : Int) := of_decide_eq_true (by first | (with_reducible assumption) | assumption)
         have q112 : x11_1 < (l1.length : Int) := of_decide_eq_true (by first | (with_reducible assumption) | assumption)
         obtain ⟨ad112, e112, hx112_0⟩ := Kd.at_int HR1.out x11_1 p112 q112
         cases e112
         replace p112 := eq_true p112
         replace q112 := eq_true q112
         go_wp2_with (first | ((with_reducible refine gate_callee (f := 93) rfl ?_); refine cl_ (some 26) Tryz.func93 #[.int .i64 (rd l0 x11_1), .int .i64 (rd l1 x11_1)] ?_; (with_reducible refine (cmp_Compare_int64.calls (rd l0 x11_1) (rd l1 x11_1) t113 _ A8.out).mono ?_); rintro e w' ⟨rfl, ⟨nd, rfl⟩⟩; refine ⟨_, rfl, ?_⟩))
         go_roundg k1
         case measure => have := HK1.out; omega
         case rel => exact ⟨(wrap64 (x11_1 + 1)), (by first | rfl | (simp; done) | (simp [*]; done)), H', ⟨by have := HK1.out; omega⟩, by repeat (first | exact Drawn0.refl _ | apply Drawn0.step)⟩
        ·rw [if_neg c9] at H
         have c9b0 : (t113 == 0) = false := beq_eq_false_iff_ne.mpr c9
         have c9b1 : (t113 != 0) = true := bne_iff_ne.mpr c9
         obtain rfl := Option.some.inj H
         have p111 : 0 ≤ (x11_1 : Int) := of_decide_eq_true (by first | (with_reducible assumption) | assumption)
         have q111 : x11_1 < (l0.length : Int) := of_decide_eq_true (by first | (with_reducible assumption) | assumption)
         obtain ⟨ad111, e111, hx111_0⟩ := Kd.at_int HR0.out x11_1 p111 q111
         cases e111
         replace p111 := eq_true p111
         replace q111 := eq_true q111
         have p112 : 0 ≤ (x11_1 : Int) := of_decide_eq_true (by first | (with_reducible assumption) | assumption)
         have q112 : x11_1 < (l1.length : Int) := of_decide_eq_true (by first | (with_reducible assumption) | assumption)
         obtain ⟨ad112, e112, hx112_0⟩ := Kd.at_int HR1.out x11_1 p112 q112
         cases e112
         replace p112 := eq_true p112
         replace q112 := eq_true q112
         go_wp2_with (first | ((with_reducible refine gate_callee (f := 93) rfl ?_); refine cl_ (some 26) Tryz.func93 #[.int .i64 (rd l0 x11_1), .int .i64 (rd l1 x11_1)] ?_; (with_reducible refine (cmp_Compare_int64.calls (rd l0 x11_1) (rd l1 x11_1) t113 _ A8.out).mono ?_); rintro e w' ⟨rfl, ⟨nd, rfl⟩⟩; refine ⟨_, rfl, ?_⟩))
         go_ret
         exact ⟨by first | rfl | (simp; done) | (simp [*]; done), by repeat (first | exact Drawn0.refl _ | apply Drawn0.step)⟩
       ·rw [if_neg c7] at H
        exact absurd H (by simp)
     ·rw [if_neg c5] at H
      exact absurd H (by simp)
    ·rw [if_neg c4] at H
     exact absurd H (by simp)
   ·rw [if_neg c3] at H
    have c3b0 : decide (x11_1 < (l0.length : Int)) = false := decide_eq_false c3
    clear c3
    by_cases c10 : (l0.length : Int) < (l1.length : Int)
    ·rw [if_pos c10] at H
     have c10b0 : decide ((l0.length : Int) < (l1.length : Int)) = true := decide_eq_true c10
     have c10b1 : decide (l0.length < l1.length) = true := decide_eq_true (Int.ofNat_lt.mp c10)
     clear c10
     obtain rfl := Option.some.inj H
     go_wp2
     go_ret
     exact ⟨by first | rfl | (simp; done) | (simp [*]; done), by repeat (first | exact Drawn0.refl _ | apply Drawn0.step)⟩
    ·rw [if_neg c10] at H
     have c10b0 : decide ((l0.length : Int) < (l1.length : Int)) = false := decide_eq_false c10
     have c10b1 : decide (l0.length < l1.length) = false := decide_eq_false (fun h => c10 (Int.ofNat_lt.mpr h))
     clear c10
     obtain rfl := Option.some.inj H
     go_wp2
     go_ret
     exact ⟨by first | rfl | (simp; done) | (simp [*]; done), by repeat (first | exact Drawn0.refl _ | apply Drawn0.step)⟩
def impl_steps_1.f (a0_0 : Int) (a0_1 : Int) (a1_0 : Int) : Option (Bool) := some (a0_0 == a1_0)
set_option maxHeartbeats 8000000 in
set_option maxRecDepth 100000 in
theorem impl_steps_1.calls (a0_0 : Int) (a0_1 : Int) (g1 : Nat) (a1_0 : Int) (r : Bool) (w : World) (hb1 : w.heap[g1]? = some (.cells #[.int .i64 a1_0] 2 (0, 0))) (h : impl_steps_1.f a0_0 a0_1 a1_0 = some r) :
  Calls Tryz.prog 94 #[.agg #[.int .i64 a0_0, .int .i64 a0_1], .pointer (some ⟨g1, 0, none⟩)] w fun e w' => e = .returned (.bool r) ∧ Below w.heap.size w w' := by
 have hu57 := Tryz.underlying57
 have BK114 := Aside0.mk hb1
 clear hb1
 have HB := Aside0.mk (Below.refl w.heap.size w)
 have H : (some (a0_0 == a1_0)) = some r := h
 clear h
 obtain rfl := Option.some.inj H
 go_enter Tryz.func94, Tryz.ntmps94
 go_wp2_with (first | ((with_reducible refine gate_dst (N := 2) rfl ?_); refine box_event ?hg (N := 2) ?hd (cs := #[.int .i64 a0_0, .int .i64 a0_1]) (t := 57) ?hr ?_; (case hd => rfl); (case hg => rfl); (case hr => first | (go_simp; done) | (go_simp; rfl)); intro gb115 hg w3 hbox hb; have BK115 := Aside0.mk (hbox); have GW115 := gH HB hg; have GE115 := gH HB hg; replace HB := sH HB hb; have NB114_115 := nB BK114 hg; have NB115_114 := oB BK114 hg; replace BK114 := sB BK114 hb; clear hb hbox hg; (try have hnb4 := NB115_114.out); (try have hnc4 := NB114_115.out); have hcz5_0 : w3.cell? ⟨gb115, 0, none⟩ = some (.int .i64 a0_0) := cB BK115 0; have hcz5_1 : w3.cell? ⟨gb115, 1, none⟩ = some (.int .i64 a0_1) := cB BK115 1; have hfz5_0 := zB BK115 0; have hfz5_1 := zB BK115 1; have hcz6_0 : w3.cell? ⟨g1, 0, none⟩ = some (.int .i64 a1_0) := cB BK114 0; have hfz6_0 := zB BK114 0))
 go_ret
 exact ⟨by first | rfl | (simp [errW_none, errW_some] <;> rfl) | (simp [*, errW_none, errW_some] <;> rfl) | (exfalso; simp_all), pH HB⟩
def clo_94 (a1_0 : Int) : Pred := Pred.ofP (fun x y => impl_steps_1.f x y a1_0)
set_option maxRecDepth 100000 in
theorem clo_ok_94 {W : World} {g1 : Nat} {a1_0 : Int} (hb1 : W.heap[g1]? = some (.cells #[.int .i64 a1_0] 2 (0, 0)))  : FnOk (.func (.func 94) #[] #[.pointer (some ⟨g1, 0, none⟩)]) (clo_94 a1_0) W :=
 FnOk.ofP (enters_of Tryz.func94 (by kernel_rfl) rfl) (fun V x y b hV hr => by
  show Calls Tryz.prog 94 #[.agg #[.int .i64 x, .int .i64 y], .pointer (some ⟨g1, 0, none⟩)] V _
  exact (impl_steps_1.calls x y g1 a1_0 b V ((hV.block g1 (blk_lt hb1)).trans hb1) hr).mono (fun e w' h_ => ⟨h_.1, h_.2⟩))
def impl_steps_2.f (a0 : Int) (a1_0 : Int) : Option (Bool) := some (a0 == a1_0)
set_option maxHeartbeats 8000000 in
set_option maxRecDepth 100000 in
theorem impl_steps_2.calls (a0 : Int) (g1 : Nat) (a1_0 : Int) (r : Bool) (w : World) (hb1 : w.heap[g1]? = some (.cells #[.int .i64 a1_0] 2 (0, 0))) (h : impl_steps_2.f a0 a1_0 = some r) :
  Calls Tryz.prog 95 #[.int .i64 a0, .pointer (some ⟨g1, 0, none⟩)] w fun e w' => e = .returned (.bool r) ∧ Drawn0 w w' := by
 have BK116 := Aside0.mk hb1
 clear hb1
 have H : (some (a0 == a1_0)) = some r := h
 clear h
 obtain rfl := Option.some.inj H
 have hcz3_0 : w.cell? ⟨g1, 0, none⟩ = some (.int .i64 a1_0) := cB BK116 0
 have hfz3_0 := zB BK116 0
 go_enter Tryz.func95, Tryz.ntmps95
 go_wp2
 go_ret
 exact ⟨by first | rfl | (simp; done) | (simp [*]; done), by repeat (first | exact Drawn0.refl _ | apply Drawn0.step)⟩
def clo_95 (a1_0 : Int) : Pred := Pred.ofI (fun x => impl_steps_2.f x a1_0)
set_option maxRecDepth 100000 in
theorem clo_ok_95 {W : World} {g1 : Nat} {a1_0 : Int} (hb1 : W.heap[g1]? = some (.cells #[.int .i64 a1_0] 2 (0, 0)))  : FnOk (.func (.func 95) #[] #[.pointer (some ⟨g1, 0, none⟩)]) (clo_95 a1_0) W :=
 FnOk.ofI (enters_of Tryz.func95 (by kernel_rfl) rfl) (fun V x b hV hr => by
  show Calls Tryz.prog 95 #[.int .i64 x, .pointer (some ⟨g1, 0, none⟩)] V _
  exact (impl_steps_2.calls x g1 a1_0 b V ((hV.block g1 (blk_lt hb1)).trans hb1) hr).mono (fun e w' h_ => ⟨h_.1, h_.2.below⟩))
def impl_steps.f (l0 : List (S57)) (a1 : Int) : Option (List Int) := (slices_IndexFunc_impl_Pair_impl_Pair.f l0 (clo_94 a1)).bind fun t118 => (if t118 < 0 then (some ([] : List Int)) else (if 0 ≤ t118 then (if t118 < (l0.length : Int) then ((impl_borders.f ((rd_T57 l0 t118).f1)).bind fun t120 => ((slices_DeleteFunc_int64_int64.f t120 (clo_95 a1)).bind fun t123 => (some t123))) else (none)) else (none)))
set_option maxHeartbeats 8000000 in
set_option maxRecDepth 100000 in
theorem impl_steps.calls (A0 : Option Addr) (c0 : Nat) (l0 : List (S57)) (a1 : Int) (r : List Int) (w : World) (hr0 : Kd.C k57 w A0 l0.length l0) (hc0 : l0.length ≤ c0) (h : impl_steps.f l0 a1 = some r) :
  Calls Tryz.prog 79 #[.slice A0 l0.length c0, .int .i64 a1] w fun e w' => ∃ v0_ : Value, e = .returned (v0_) ∧ Kd.R (Kd.int .i64) 2 w' w.heap.size (fun _ => True) v0_ r ∧ Below w.heap.size w w' := by
 have HR0 := Aside0.mk hr0
 have HC0 := Aside0.mk hc0
 clear hr0 hc0
 have HB := Aside0.mk (Below.refl w.heap.size w)
 have H : ((slices_IndexFunc_impl_Pair_impl_Pair.f l0 (clo_94 a1)).bind fun t118 => (if t118 < 0 then (some ([] : List Int)) else (if 0 ≤ t118 then (if t118 < (l0.length : Int) then ((impl_borders.f ((rd_T57 l0 t118).f1)).bind fun t120 => ((slices_DeleteFunc_int64_int64.f t120 (clo_95 a1)).bind fun t123 => (some t123))) else (none)) else (none)))) = some r := h
 clear h
 replace H := Option.bind_eq_some_iff.mp H
 obtain ⟨t118, A30, H⟩ := H
 try dsimp only at H
 have A3 := Aside0.mk A30
 clear A30
 by_cases c4 : t118 < 0
 ·rw [if_pos c4] at H
  have c4b0 : decide (t118 < 0) = true := decide_eq_true c4
  clear c4
  obtain rfl := Option.some.inj H
  go_enter Tryz.func79, Tryz.ntmps79
  go_wp2_with (first | ((with_reducible refine gate_dst (N := 3) rfl ?_); refine box_event ?hg (N := 3) ?hd (cs := #[.int .i64 a1]) (t := 2) ?hr ?_; (case hd => rfl); (case hg => rfl); (case hr => first | (go_simp; done) | (go_simp; rfl)); intro gb117 hg w5 hbox hb; have BK117 := Aside0.mk (hbox); have GW117 := gH HB hg; have GE117 := gH HB hg; replace HB := sH HB hb; clear hb hbox hg) | ((with_reducible refine gate_callee (f := 66) rfl ?_); refine cl_ (some 8) Tryz.func66 #[.slice A0 l0.length c0, .func (.func 94) #[] #[.pointer (some ⟨gb117, 0, none⟩)]] ?_; (with_reducible refine (slices_IndexFunc_impl_Pair_impl_Pair.calls _ _ l0 _ (clo_94 a1) t118 _ ?side1 ?side2 ?side3 A3.out).mono ?_); (case side1 => exact pC ((Kd.C_below HR0.out HB.out))); (case side2 => exact HC0.out); (case side3 => exact clo_ok_94 (pB BK117) ); rintro e w6 ⟨rfl, hb⟩; refine ⟨_, rfl, ?_⟩; replace BK117 := sB BK117 hb; replace HB := sH HB hb; (try clear hb); (try clear hi)))
  go_ret
  exact ⟨_, by first | rfl | (simp [errW_none, errW_some] <;> rfl) | (simp [*, errW_none, errW_some] <;> rfl) | (exfalso; simp_all), by first | exact Kd.R_nil _ _ _ _ _ | exact Kd.N_nil _ _ _ _ _ | exact Kd.V_nil _ _ _ _ _ | exact Kd.Q_nil _ _ _ _ _ | exact Kd.S_nil _ _ _ _ _, pH HB⟩
 ·rw [if_neg c4] at H
  have c4b0 : decide (t118 < 0) = false := decide_eq_false c4
  clear c4
  by_cases c7 : 0 ≤ t118
  ·rw [if_pos c7] at H
   have c7b0 : decide (0 ≤ t118) = true := decide_eq_true c7
   clear c7
   by_cases c8 : t118 < (l0.length : Int)
   ·rw [if_pos c8] at H
    have c8b0 : decide (t118 < (l0.length : Int)) = true := decide_eq_true c8
    clear c8
    replace H := Option.bind_eq_some_iff.mp H
    obtain ⟨t120, A90, H⟩ := H
    try dsimp only at H
    have A9 := Aside0.mk A90
    clear A90
    replace H := Option.bind_eq_some_iff.mp H
    obtain ⟨t123, A100, H⟩ := H
    try dsimp only at H
    have A10 := Aside0.mk A100
    clear A100
    obtain rfl := Option.some.inj H
    go_enter Tryz.func79, Tryz.ntmps79
    go_wp2_with (first | ((with_reducible refine gate_dst (N := 3) rfl ?_); refine box_event ?hg (N := 3) ?hd (cs := #[.int .i64 a1]) (t := 2) ?hr ?_; (case hd => rfl); (case hg => rfl); (case hr => first | (go_simp; done) | (go_simp; rfl)); intro gb117 hg w11 hbox hb; have BK117 := Aside0.mk (hbox); have GW117 := gH HB hg; have GE117 := gH HB hg; replace HB := sH HB hb; clear hb hbox hg) | ((with_reducible refine gate_callee (f := 66) rfl ?_); refine cl_ (some 8) Tryz.func66 #[.slice A0 l0.length c0, .func (.func 94) #[] #[.pointer (some ⟨gb117, 0, none⟩)]] ?_; (with_reducible refine (slices_IndexFunc_impl_Pair_impl_Pair.calls _ _ l0 _ (clo_94 a1) t118 _ ?side1 ?side2 ?side3 A3.out).mono ?_); (case side1 => exact pC ((Kd.C_below HR0.out HB.out))); (case side2 => exact HC0.out); (case side3 => exact clo_ok_94 (pB BK117) ); rintro e w12 ⟨rfl, hb⟩; refine ⟨_, rfl, ?_⟩; replace BK117 := sB BK117 hb; replace HB := sH HB hb; (try clear hb); (try clear hi); have p119 : 0 ≤ (t118 : Int) := of_decide_eq_true (by first | (with_reducible assumption) | assumption); have q119 : t118 < (l0.length : Int) := of_decide_eq_true (by first | (with_reducible assumption) | assumption); obtain ⟨ad119, e119, hx119_0, hx119_1⟩ := at_T57 HR0.out t118 p119 q119; cases e119; replace hx119_0 := cH HB hx119_0; replace hx119_1 := cH HB hx119_1; replace p119 := eq_true p119; replace q119 := eq_true q119) | ((with_reducible refine gate_callee (f := 74) rfl ?_); refine cl_ (some 16) Tryz.func74 #[.int .i64 ((rd_T57 l0 t118).f1)] ?_; (with_reducible refine (impl_borders.calls ((rd_T57 l0 t118).f1) t120 _ A9.out).mono ?_); rintro e w13 ⟨v121, rfl, ho0, hb⟩; refine ⟨_, rfl, ?_⟩; have HO122 := Aside0.mk (Kd.R_lower (Kd.R_newB ho0 (g := gb117) (o := .cells #[.int .i64 a1] 2 (0, 0)) (pB BK117)) (below_size (pH HB))); replace BK117 := sB BK117 hb; replace HB := sH HB hb; (try clear hb); (try clear hi); (try clear ho0); obtain ⟨Ao14, co14, eo14⟩ := Kd.R_slice HO122.out; subst eo14) | ((with_reducible refine gate_callee (f := 39) rfl ?_); refine cl_ (some 18) Tryz.func39 #[.slice Ao14 t120.length co14, .func (.func 95) #[] #[.pointer (some ⟨gb117, 0, none⟩)]] ?_; (with_reducible refine (slices_DeleteFunc_int64_int64.calls (fun k_ => some k_ = (.slice Ao14 t120.length co14 : Value).ownBlock) (.slice Ao14 t120.length co14) t120 _ (clo_95 a1) t123 w _ ?side1 ?side2 ?side3 A10.out).mono ?_); (case side1 => repeat (first | (with_reducible first | exact HB.out | apply below_alloc | apply pw_below_drewN | apply below_drew1 | refine below_set ?_ GE117.out) | exact HB.out)); (case side2 => exact Kd.R_tight rfl HO122.out); (case side3 => intro W_ hK_; exact clo_ok_95 (blk_kept (pB BK117) hK_ (fun hs_ => (fun e_ => (Kd.R_away HO122.out (fun _ hk => hk.2)) e_) hs_)) ); rintro e w15 ⟨v124, rfl, ho0, hb, hkp⟩; refine ⟨_, rfl, ?_⟩; have n0_ := Aside0.mk (blk_kept (pB BK117) hkp (fun hs_ => (fun e_ => (Kd.R_away HO122.out (fun _ hk => hk.2)) e_) hs_)); have n1_ := Aside0.mk (Kd.R_mono (ok' := fun k_ => k_ ≠ gb117) ho0 (fun k_ hk_ => Or.elim hk_ (fun hs_ => fun e_ => (Kd.R_away HO122.out (fun _ hk => hk.2)) (by rw [← e_]; exact hs_)) (fun hn_ => (Kd.freshB (g := gb117) (o := .cells #[.int .i64 a1] 2 (0, 0)) (pB BK117) k_ hn_)))); have n2_ := Aside0.mk (hb); clear BK117; clear HB; clear HO122; have BK117 := n0_; have HO125 := n1_; have HB := n2_; clear n0_ n1_ n2_; (try clear hb); (try clear hkp); (try clear ho0)))
    go_ret
    exact ⟨_, by first | rfl | (simp [errW_none, errW_some] <;> rfl) | (simp [*, errW_none, errW_some] <;> rfl) | (exfalso; simp_all), by (with_reducible repeat (first | apply Kd.R_alloc | apply Kd.R_drewN | apply Kd.R_drew)); exact Kd.R_mono HO125.out (fun _ hk => trivial), pH HB⟩
   ·rw [if_neg c8] at H
    exact absurd H (by simp)
  ·rw [if_neg c7] at H
   exact absurd H (by simp)
end Go.Proofs.YtpnmifahfpmplaaGreat.QA
