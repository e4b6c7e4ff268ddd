/- Words and lemmas for FnExactFirstShelling, part 4: what the row's text comes to. -/
import Derived.Test.YtomdfjohnmikdaaProg
import Derived.Below
import Derived.Deep.Draws
import Derived.Deep.AppendLies
import Derived.Maps.AppendAt
import Derived.OwnWalk
import Derived.Laws.BytesArg
import Derived.Laws.MakeOwn
import Derived.Laws.OwnMore
import Derived.Deep.OwnRows
import Derived.Tactics
import Derived.Lib.ConvBytes
import Derived.Laws.Slices
import Derived.WalkKit
import Derived.KernelRfl
import Derived.RowKit3
import Derived.Deep.LoopGhost
import Derived.Deep.QuietTactic
import Derived.BigQuiet
import Derived.WideLaws
import Derived.Deep.DeepCutAuto
import Derived.Deep.CutBlock
import Derived.Deep.RegionHeld3
import Derived.Laws.Rows
import Derived.Lib.AppendStr
import Derived.ArgAppend
import Derived.Laws.IdiomCopy
import Derived.OrdersHeld
import Derived.Laws.BitsLemmas
import Derived.RowKit
import Derived.MapKept
import Derived.Carry
import Derived.Test.YtomdfjohnmikdaaZFnExactFirstShellingc
namespace Go.Proofs.Ytomdfjohnmikdaa.QS
open Go.Proofs.Ytomdfjohnmikdaa.Cw Go.Proofs.Ytomdfjohnmikdaa.Kp Go.Proofs.Ytomdfjohnmikdaa.Ext Go.RowKit Go.Proofs.YtomdfjohnmikdaaW.PrintWords Go.Proofs.YtomdfjohnmikdaaW.PrintLast Go.Proofs.YtomdfjohnmikdaaW.PrintMore
attribute [local go_sem] max2_int min2_int max_two min_two max_three min_three max_four min_four   -- for this text's walks alone
set_option linter.unusedVariables false
set_option linter.unusedSimpArgs false
def spec_FirstShelling.f (k : Nat) (a0_0 : Int) (l0_1 : List Int) : Option (List Int × Int) := (spec_l01Is.f k a0_0 l0_1).bind fun t636 => (if t636 = true then ((spec_l07Pure.f k a0_0 l0_1).bind fun t637 => (if t637 = true then ((spec_l01Facets.f k a0_0 l0_1).bind fun t638 => (if (t638.length : Int) > 12 then (some (([] : List Int), 3)) else (if 0 ≤ (IntKind.u64.wrap ((t638.length : Int))) then (if 0 ≤ (shl .i64 1 (IntKind.u64.wrap ((t638.length : Int)))) then (if (shl .i64 1 (IntKind.u64.wrap ((t638.length : Int))) : Int).toNat ≤ 281474976710656 then ((spec_l07Find.f k t638 (([] : List Int)) 0 (List.replicate (shl .i64 1 (IntKind.u64.wrap ((t638.length : Int))) : Int).toNat false)).bind fun bt647 => (if bt647.2.1 = true then (some (bt647.1, 0)) else (some (([] : List Int), 4)))) else (none)) else (none)) else (none)))) else (some (([] : List Int), 5)))) else (some (([] : List Int), 1)))
set_option maxHeartbeats 8000000 in
set_option maxRecDepth 100000 in
theorem spec_FirstShelling.calls (k : Nat) (a0_0 : Int) (A0_1 : Option Addr) (c0_1 : Nat) (l0_1 : List Int) (r1 : List Int) (r2 : Int) (w : World) (hr0_1 : Kd.C (Kd.int .i64) w A0_1 l0_1.length l0_1) (hc0_1 : l0_1.length ≤ c0_1) (h : spec_FirstShelling.f k a0_0 l0_1 = some (r1, r2)) :
  Calls Try.prog 34 #[.agg #[.int .i64 a0_0, .slice A0_1 l0_1.length c0_1]] w fun e w' => ∃ v0_ : Value, e = .returned (.tuple #[v0_, .int .i64 r2]) ∧ Kd.R (Kd.int .i64) 2 w' w.heap.size (fun _ => True) v0_ r1 ∧ Below w.heap.size w w' := by
 have hu28 := Try.underlying28
 have HR0_1 := Aside0.mk hr0_1
 have HC0_1 := Aside0.mk hc0_1
 clear hr0_1 hc0_1
 have HB := Aside0.mk (Below.refl w.heap.size w)
 have H : ((spec_l01Is.f k a0_0 l0_1).bind fun t636 => (if t636 = true then ((spec_l07Pure.f k a0_0 l0_1).bind fun t637 => (if t637 = true then ((spec_l01Facets.f k a0_0 l0_1).bind fun t638 => (if (t638.length : Int) > 12 then (some (([] : List Int), 3)) else (if 0 ≤ (IntKind.u64.wrap ((t638.length : Int))) then (if 0 ≤ (shl .i64 1 (IntKind.u64.wrap ((t638.length : Int)))) then (if (shl .i64 1 (IntKind.u64.wrap ((t638.length : Int))) : Int).toNat ≤ 281474976710656 then ((spec_l07Find.f k t638 (([] : List Int)) 0 (List.replicate (shl .i64 1 (IntKind.u64.wrap ((t638.length : Int))) : Int).toNat false)).bind fun bt647 => (if bt647.2.1 = true then (some (bt647.1, 0)) else (some (([] : List Int), 4)))) else (none)) else (none)) else (none)))) else (some (([] : List Int), 5)))) else (some (([] : List Int), 1)))) = some (r1, r2) := h
 clear h
 replace H := Option.bind_eq_some_iff.mp H
 obtain ⟨t636, A20, H⟩ := H
 try dsimp only at H
 have A2 := Aside0.mk A20
 clear A20
 by_cases c3 : t636 = true
 ·subst c3
  have H1 : ((spec_l07Pure.f k a0_0 l0_1).bind fun t637 => (if t637 = true then ((spec_l01Facets.f k a0_0 l0_1).bind fun t638 => (if (t638.length : Int) > 12 then (some (([] : List Int), 3)) else (if 0 ≤ (IntKind.u64.wrap ((t638.length : Int))) then (if 0 ≤ (shl .i64 1 (IntKind.u64.wrap ((t638.length : Int)))) then (if (shl .i64 1 (IntKind.u64.wrap ((t638.length : Int))) : Int).toNat ≤ 281474976710656 then ((spec_l07Find.f k t638 (([] : List Int)) 0 (List.replicate (shl .i64 1 (IntKind.u64.wrap ((t638.length : Int))) : Int).toNat false)).bind fun bt647 => (if bt647.2.1 = true then (some (bt647.1, 0)) else (some (([] : List Int), 4)))) else (none)) else (none)) else (none)))) else (some (([] : List Int), 5)))) = some (r1, r2) := by rw [if_pos rfl] at H; exact H
  clear H
  have H := H1
  clear H1
  replace H := Option.bind_eq_some_iff.mp H
  obtain ⟨t637, A40, H⟩ := H
  try dsimp only at H
  have A4 := Aside0.mk A40
  clear A40
  by_cases c5 : t637 = true
  ·subst c5
   have H1 : ((spec_l01Facets.f k a0_0 l0_1).bind fun t638 => (if (t638.length : Int) > 12 then (some (([] : List Int), 3)) else (if 0 ≤ (IntKind.u64.wrap ((t638.length : Int))) then (if 0 ≤ (shl .i64 1 (IntKind.u64.wrap ((t638.length : Int)))) then (if (shl .i64 1 (IntKind.u64.wrap ((t638.length : Int))) : Int).toNat ≤ 281474976710656 then ((spec_l07Find.f k t638 (([] : List Int)) 0 (List.replicate (shl .i64 1 (IntKind.u64.wrap ((t638.length : Int))) : Int).toNat false)).bind fun bt647 => (if bt647.2.1 = true then (some (bt647.1, 0)) else (some (([] : List Int), 4)))) else (none)) else (none)) else (none)))) = some (r1, r2) := by rw [if_pos rfl] at H; exact H
   clear H
   have H := H1
   clear H1
   replace H := Option.bind_eq_some_iff.mp H
   obtain ⟨t638, A60, H⟩ := H
   try dsimp only at H
   have A6 := Aside0.mk A60
   clear A60
   by_cases c7 : (t638.length : Int) > 12
   ·rw [if_pos c7] at H
    have c7b0 : decide (12 < (t638.length : Int)) = true := decide_eq_true c7
    have c7b1 : decide (12 < t638.length) = true := decide_eq_true (by omega)
    clear c7
    simp only [Option.some.injEq, Prod.mk.injEq] at H
    obtain ⟨rfl, rfl⟩ := H
    go_enter Try.func34, Try.ntmps34
    go_wp2_with (first | ((with_reducible refine gate_dst (N := 1) rfl ?_); refine box_event ?hg (N := 1) ?hd (cs := #[.int .i64 a0_0, .slice A0_1 l0_1.length c0_1]) (t := 28) ?hr ?_; (case hd => rfl); (case hg => rfl); (case hr => first | (go_simp; done) | (go_simp; rfl)); intro gb635 hg w8 hbox hb; have BK635 := Aside0.mk (hbox); have GW635 := gH HB hg; have GE635 := gH HB hg; replace HB := sH HB hb; clear hb hbox hg; have hcz9_0 : w8.cell? ⟨gb635, 0, none⟩ = some (.int .i64 a0_0) := cB BK635 0; have hcz9_1 : w8.cell? ⟨gb635, 1, none⟩ = some (.slice A0_1 l0_1.length c0_1) := cB BK635 1; have hfz9_0 := zB BK635 0; have hfz9_1 := zB BK635 1) | ((with_reducible refine gate_callee (f := 50) rfl ?_); refine cl_ (some 9) Try.func50 #[.agg #[.int .i64 a0_0, .slice A0_1 l0_1.length c0_1]] ?_; (with_reducible refine (spec_l01Is.calls k a0_0 _ _ l0_1 true _ ?side1 ?side2 A2.out).mono ?_); (case side1 => exact pC ((Kd.C_below HR0_1.out HB.out))); (case side2 => exact HC0_1.out); rintro e w10 ⟨rfl, hb⟩; refine ⟨_, rfl, ?_⟩; replace BK635 := sB BK635 hb; replace HB := sH HB hb; (try clear hb); (try clear hi); have hcz11_0 : w10.cell? ⟨gb635, 0, none⟩ = some (.int .i64 a0_0) := cB BK635 0; have hcz11_1 : w10.cell? ⟨gb635, 1, none⟩ = some (.slice A0_1 l0_1.length c0_1) := cB BK635 1; have hfz11_0 := zB BK635 0; have hfz11_1 := zB BK635 1) | ((with_reducible refine gate_callee (f := 80) rfl ?_); refine cl_ (some 13) Try.func80 #[.agg #[.int .i64 a0_0, .slice A0_1 l0_1.length c0_1]] ?_; (with_reducible refine (spec_l07Pure.calls k a0_0 _ _ l0_1 true _ ?side1 ?side2 A4.out).mono ?_); (case side1 => exact pC ((Kd.C_below HR0_1.out HB.out))); (case side2 => exact HC0_1.out); rintro e w12 ⟨rfl, hb⟩; refine ⟨_, rfl, ?_⟩; replace BK635 := sB BK635 hb; replace HB := sH HB hb; (try clear hb); (try clear hi); have hcz13_0 : w12.cell? ⟨gb635, 0, none⟩ = some (.int .i64 a0_0) := cB BK635 0; have hcz13_1 : w12.cell? ⟨gb635, 1, none⟩ = some (.slice A0_1 l0_1.length c0_1) := cB BK635 1; have hfz13_0 := zB BK635 0; have hfz13_1 := zB BK635 1) | ((with_reducible refine gate_callee (f := 81) rfl ?_); refine cl_ (some 16) Try.func81 #[.agg #[.int .i64 a0_0, .slice A0_1 l0_1.length c0_1]] ?_; (with_reducible refine (spec_l01Facets.calls k a0_0 _ _ l0_1 t638 _ ?side1 ?side2 A6.out).mono ?_); (case side1 => exact pC ((Kd.C_below HR0_1.out HB.out))); (case side2 => exact HC0_1.out); rintro e w14 ⟨v639, rfl, ho0, hb⟩; refine ⟨_, rfl, ?_⟩; have HO640 := Aside0.mk (Kd.R_lower ho0 (below_size (pH HB))); replace BK635 := sB BK635 hb; replace HB := sH HB hb; (try clear hb); (try clear hi); (try clear ho0); obtain ⟨Ao15, co15, eo15⟩ := Kd.R_slice HO640.out; subst eo15))
    go_ret2
    exact ⟨_, by first | rfl | (simp [errW_none, errW_some] <;> rfl) | (simp [*, errW_none, errW_some] <;> rfl) | (exfalso; simp_all), by first | exact Kd.R_nil _ _ _ _ _ | exact Kd.N_nil _ _ _ _ _ | exact Kd.V_nil _ _ _ _ _ | exact Kd.Q_nil _ _ _ _ _ | exact Kd.S_nil _ _ _ _ _, pH HB⟩
   ·rw [if_neg c7] at H
    have c7b0 : decide (12 < (t638.length : Int)) = false := decide_eq_false c7
    have c7b1 : decide (12 < t638.length) = false := decide_eq_false (by omega)
    clear c7
    obtain ⟨y641, hy641⟩ : ∃ y_ : List Int, y_ = (([] : List Int)) := ⟨_, rfl⟩
    replace H : (if 0 ≤ (IntKind.u64.wrap ((t638.length : Int))) then (if 0 ≤ (shl .i64 1 (IntKind.u64.wrap ((t638.length : Int)))) then (if (shl .i64 1 (IntKind.u64.wrap ((t638.length : Int))) : Int).toNat ≤ 281474976710656 then ((spec_l07Find.f k t638 y641 0 (List.replicate (shl .i64 1 (IntKind.u64.wrap ((t638.length : Int))) : Int).toNat false)).bind fun bt647 => (if bt647.2.1 = true then (some (bt647.1, 0)) else (some (([] : List Int), 4)))) else (none)) else (none)) else (none)) = some (r1, r2) := by first | (rw [hy641]; with_reducible exact H) | (have H2_ := (Option.bind_some _ _).symm.trans H; rw [hy641]; with_reducible exact H2_) | (have H2_ := (Option.bind_some _ _).symm.trans H; with_reducible exact H2_) | with_reducible exact H | (rw [hy641]; exact H) | exact H
    have Ny641 := Aside0.mk hy641
    clear hy641
    obtain ⟨ji16, hji16⟩ : ∃ j_ : Int, (IntKind.u64.wrap ((t638.length : Int))) = j_ := ⟨_, rfl⟩
    replace H : (if 0 ≤ (ji16) then (if 0 ≤ (shl .i64 1 (ji16)) then (if (shl .i64 1 (ji16) : Int).toNat ≤ 281474976710656 then ((spec_l07Find.f k t638 y641 0 (List.replicate (shl .i64 1 (ji16) : Int).toNat false)).bind fun bt647 => (if bt647.2.1 = true then (some (bt647.1, 0)) else (some (([] : List Int), 4)))) else (none)) else (none)) else (none)) = some (r1, r2) := by first | (rw [hji16] at H; exact H) | (simp only [hji16] at H ⊢; exact H)
    (try rw [hji16] at A2)
    (try rw [hji16] at A4)
    (try rw [hji16] at A6)
    by_cases c17 : 0 ≤ (ji16)
    ·rw [if_pos c17] at H
     have c17b0 := eq_true c17
     have c17b1 : decide (0 ≤ (ji16)) = true := decide_eq_true c17
     clear c17
     obtain ⟨ji18, hji18⟩ : ∃ j_ : Int, (shl .i64 1 (ji16)) = j_ := ⟨_, rfl⟩
     replace H : (if 0 ≤ (ji18) then (if (ji18 : Int).toNat ≤ 281474976710656 then ((spec_l07Find.f k t638 y641 0 (List.replicate (ji18 : Int).toNat false)).bind fun bt647 => (if bt647.2.1 = true then (some (bt647.1, 0)) else (some (([] : List Int), 4)))) else (none)) else (none)) = some (r1, r2) := by first | (rw [hji18] at H; exact H) | (simp only [hji18] at H ⊢; exact H)
     (try rw [hji18] at A2)
     (try rw [hji18] at A4)
     (try rw [hji18] at A6)
     have hji18_ : (IntKind.i64.wrap (1 * 2 ^ min (ji16).toNat 64)) = ji18 := hji18
     have hji18z : (ji16) ≤ 64 → (IntKind.i64.wrap (1 * 2 ^ (ji16).toNat)) = ji18 := shl_small hji18
     have hji18u : (IntKind.i64.wrap (2 ^ min (ji16).toNat 64)) = ji18 := by have h_ := hji18_; rw [Int.one_mul] at h_; exact h_
     have hji18v : (ji16) ≤ 64 → (IntKind.i64.wrap (2 ^ (ji16).toNat)) = ji18 := fun hle_ => by have h_ := hji18z hle_; rw [Int.one_mul] at h_; exact h_
     have hji18y : (wrap64 (1 * 2 ^ min (ji16).toNat 64)) = ji18 := (i64_w _).symm.trans hji18_
     have hji18x : (ji16) ≤ 64 → (wrap64 (1 * 2 ^ (ji16).toNat)) = ji18 := fun h_ => (i64_w _).symm.trans (hji18z h_)
     by_cases c19 : 0 ≤ (ji18)
     ·rw [if_pos c19] at H
      have c19b0 := eq_true c19
      have c19b1 : decide (0 ≤ (ji18)) = true := decide_eq_true c19
      clear c19
      by_cases c20 : (ji18 : Int).toNat ≤ 281474976710656
      ·rw [if_pos c20] at H
       have c20b0 := eq_true c20
       have c20b1 : decide ((ji18 : Int).toNat ≤ 281474976710656) = true := decide_eq_true c20
       clear c20
       obtain ⟨y644, hy644⟩ : ∃ y_ : List Bool, y_ = (List.replicate (ji18 : Int).toNat false) := ⟨_, rfl⟩
       replace H : ((spec_l07Find.f k t638 y641 0 y644).bind fun bt647 => (if bt647.2.1 = true then (some (bt647.1, 0)) else (some (([] : List Int), 4)))) = some (r1, r2) := by first | (rw [hy644]; with_reducible exact H) | (have H2_ := (Option.bind_some _ _).symm.trans H; rw [hy644]; with_reducible exact H2_) | (have H2_ := (Option.bind_some _ _).symm.trans H; with_reducible exact H2_) | with_reducible exact H | (rw [hy644]; exact H) | exact H
       have Ny644 := Aside0.mk hy644
       clear hy644
       replace H := Option.bind_eq_some_iff.mp H
       obtain ⟨⟨t647, t650, t651⟩, A210, H⟩ := H
       try dsimp only at H
       have A21 := Aside0.mk A210
       clear A210
       by_cases c22 : t650 = true
       ·subst c22
        have H1 : (some (t647, 0)) = some (r1, r2) := by rw [if_pos rfl] at H; exact H
        clear H
        have H := H1
        clear H1
        simp only [Option.some.injEq, Prod.mk.injEq] at H
        obtain ⟨rfl, rfl⟩ := H
        go_enter Try.func34, Try.ntmps34
        go_wp2_with (first | ((with_reducible refine gate_dst (N := 1) rfl ?_); refine box_event ?hg (N := 1) ?hd (cs := #[.int .i64 a0_0, .slice A0_1 l0_1.length c0_1]) (t := 28) ?hr ?_; (case hd => rfl); (case hg => rfl); (case hr => first | (go_simp; done) | (go_simp; rfl)); intro gb635 hg w23 hbox hb; have BK635 := Aside0.mk (hbox); have GW635 := gH HB hg; have GE635 := gH HB hg; replace HB := sH HB hb; clear hb hbox hg; have hcz24_0 : w23.cell? ⟨gb635, 0, none⟩ = some (.int .i64 a0_0) := cB BK635 0; have hcz24_1 : w23.cell? ⟨gb635, 1, none⟩ = some (.slice A0_1 l0_1.length c0_1) := cB BK635 1; have hfz24_0 := zB BK635 0; have hfz24_1 := zB BK635 1) | ((with_reducible refine gate_callee (f := 50) rfl ?_); refine cl_ (some 9) Try.func50 #[.agg #[.int .i64 a0_0, .slice A0_1 l0_1.length c0_1]] ?_; (with_reducible refine (spec_l01Is.calls k a0_0 _ _ l0_1 true _ ?side1 ?side2 A2.out).mono ?_); (case side1 => exact pC ((Kd.C_below HR0_1.out HB.out))); (case side2 => exact HC0_1.out); rintro e w25 ⟨rfl, hb⟩; refine ⟨_, rfl, ?_⟩; replace BK635 := sB BK635 hb; replace HB := sH HB hb; (try clear hb); (try clear hi); have hcz26_0 : w25.cell? ⟨gb635, 0, none⟩ = some (.int .i64 a0_0) := cB BK635 0; have hcz26_1 : w25.cell? ⟨gb635, 1, none⟩ = some (.slice A0_1 l0_1.length c0_1) := cB BK635 1; have hfz26_0 := zB BK635 0; have hfz26_1 := zB BK635 1) | ((with_reducible refine gate_callee (f := 80) rfl ?_); refine cl_ (some 13) Try.func80 #[.agg #[.int .i64 a0_0, .slice A0_1 l0_1.length c0_1]] ?_; (with_reducible refine (spec_l07Pure.calls k a0_0 _ _ l0_1 true _ ?side1 ?side2 A4.out).mono ?_); (case side1 => exact pC ((Kd.C_below HR0_1.out HB.out))); (case side2 => exact HC0_1.out); rintro e w27 ⟨rfl, hb⟩; refine ⟨_, rfl, ?_⟩; replace BK635 := sB BK635 hb; replace HB := sH HB hb; (try clear hb); (try clear hi); have hcz28_0 : w27.cell? ⟨gb635, 0, none⟩ = some (.int .i64 a0_0) := cB BK635 0; have hcz28_1 : w27.cell? ⟨gb635, 1, none⟩ = some (.slice A0_1 l0_1.length c0_1) := cB BK635 1; have hfz28_0 := zB BK635 0; have hfz28_1 := zB BK635 1) | ((with_reducible refine gate_callee (f := 81) rfl ?_); refine cl_ (some 16) Try.func81 #[.agg #[.int .i64 a0_0, .slice A0_1 l0_1.length c0_1]] ?_; (with_reducible refine (spec_l01Facets.calls k a0_0 _ _ l0_1 t638 _ ?side1 ?side2 A6.out).mono ?_); (case side1 => exact pC ((Kd.C_below HR0_1.out HB.out))); (case side2 => exact HC0_1.out); rintro e w29 ⟨v639, rfl, ho0, hb⟩; refine ⟨_, rfl, ?_⟩; have HO640 := Aside0.mk (Kd.R_lower ho0 (below_size (pH HB))); replace BK635 := sB BK635 hb; replace HB := sH HB hb; (try clear hb); (try clear hi); (try clear ho0); obtain ⟨Ao30, co30, eo30⟩ := Kd.R_slice HO640.out; subst eo30) | ((with_reducible refine gate_dst (N := 22) rfl ?_); refine Kd.R_lit (Kd.int .i64) _ 2 ?hg (N := 22) ?hd (xs := ([] : List Int)) (inner := []) (ok := fun _ => True) (okp := fun _ => True) ?hr ?hp (fun _ hk => hk) trivial (Below.refl _ _) (Nat.le_refl _) (by simp) ?_; (case hd => rfl); (case hg => rfl); (case hr => first | (go_simp; done) | (go_simp; rfl)); (case hp => exact (Reps.none _ _)); intro v642 w31 ho32 hb hg_ hnew_; clear hg_ hnew_; (first | rw [← Ny641.out] at ho32 | (simp only [Int.reduceToNat] at ho32; rw [← Ny641.out] at ho32)); have HO643 := Aside0.mk (Kd.R_lower (Kd.R_new' ho32 (Kd.R_lt (pR HO640))) (below_size (pH HB))); replace HO640 := Aside0.mk (Kd.R_elder' (pR HO640) (Kd.R_base ho32) hb); replace BK635 := sB BK635 hb; replace HB := sH HB hb; clear hb ho32) | ((with_reducible refine gate_dst (N := 27) rfl ?_); refine Kd.R_make Kd.bool _ 4 rfl (N := 27) rfl 93 _ _ rfl ji18 rfl rfl Try.underlying93 (.bool false) 1 info4 rfl (by decide) (by omega) false (ok := fun _ => True) (okp := fun _ => True) rfl (fun _ hk => hk) trivial (of_decide_eq_true (by first | (with_reducible assumption) | assumption)) (Nat.le_trans (Nat.mul_le_mul_right _ (of_decide_eq_true (by first | (with_reducible assumption) | assumption) : ji18.toNat ≤ 281474976710656)) (by omega)) (Below.refl _ _) (Nat.le_refl _) ?_; intro v645 w33 ho34 hb hg_ hnew_; clear hg_ hnew_; (first | rw [← Ny644.out] at ho34 | (simp only [Int.reduceToNat] at ho34; rw [← Ny644.out] at ho34)); replace HO640 := sR HO640 hb; replace HO643 := sR HO643 hb; have HO646 := Aside0.mk (Kd.R_lower ho34 (below_size (pH HB))); replace BK635 := sB BK635 hb; replace HB := sH HB hb; clear hb ho34; obtain ⟨Ao35, co35, eo35⟩ := Kd.R_slice HO643.out; subst eo35; obtain ⟨Ao36, co36, eo36⟩ := Kd.R_slice HO646.out; subst eo36) | ((with_reducible refine gate_callee (f := 82) rfl ?_); refine cl_ (some 28) Try.func82 #[.slice Ao30 t638.length co30, .slice Ao35 y641.length co35, .int .i64 0, .slice Ao36 y644.length co36] ?_; (with_reducible refine (spec_l07Find.calls k _ _ t638 (fun k_ => some k_ = (.slice Ao35 y641.length co35 : Value).ownBlock) (.slice Ao35 y641.length co35) y641 0 (fun k_ => some k_ = (.slice Ao36 y644.length co36 : Value).ownBlock) (.slice Ao36 y644.length co36) y644 t647 true t651 w _ ?side1 ?side2 ?side3 ?side4 ?side5 A21.out).mono ?_); (case side1 => repeat (first | (with_reducible first | exact HB.out | apply below_alloc | apply pw_below_drewN | apply below_drew1 | refine below_set ?_ GE635.out) | exact HB.out)); (case side2 => exact Kd.C_kept_own ((Kd.R_apart' HO640.out (Kd.R_typed HO646.out) (by decide))) (fun k_ hk_ hs_ => Or.elim hs_ (fun e_ => (hk_.1.2) e_) (fun e_ => (hk_.2) e_))); (case side3 => exact (Kd.R_reads' HO640.out).2.1); (case side4 => exact Kd.R_tight rfl HO643.out); (case side5 => exact Kd.R_tight rfl HO646.out); rintro e w37 ⟨v648, rfl, ho0, hy0, hb, hkp⟩; refine ⟨_, rfl, ?_⟩; replace BK635 := Aside0.mk (blk_kept (pB BK635) hkp (fun hs_ => Or.elim hs_ (fun e_ => (fun e_ => (Kd.R_ne HO643.out BK635.out (by decide)) e_) e_) (fun e_ => (fun e_ => (Kd.R_ne HO646.out BK635.out (by decide)) e_) e_))); have HO649 := Aside0.mk (Kd.R_mono (ok' := fun k_ => some k_ ≠ (.slice Ao30 t638.length co30 : Value).ownBlock) ho0 (fun k_ hk_ => Or.elim hk_ (fun hs_ => Or.elim hs_ (fun hs_ => fun e_ => ((((Kd.R_apart' HO640.out (Kd.R_typed HO646.out) (by decide))).1 k_ e_.symm).1.2) hs_) (fun hs_ => fun e_ => ((((Kd.R_apart' HO640.out (Kd.R_typed HO646.out) (by decide))).1 k_ e_.symm).2) hs_)) (fun hn_ => (Kd.fresh' (Kd.R_lt (pR HO640)) k_ hn_)))); replace HO640 := Aside0.mk (Kd.R_mono (ok' := fun k_ => some k_ ≠ (v648 : Value).ownBlock) (Kd.R_keptB ((Kd.R_apart' HO640.out (Kd.R_typed HO646.out) (by decide))) hkp (fun k_ hk_ hs_ => Or.elim hs_ (fun e_ => (hk_.1.2) e_) (fun e_ => (hk_.2) e_))) (fun k_ hk_ => fun e_ => Or.elim (ho0.1 k_ e_.symm) (fun hs_ => hk_.2.1 hs_) (fun hn_ => Nat.not_le.2 hk_.2.2 hn_))); replace HO646 := Aside0.mk (Kd.R_reok rfl hy0 (fun k_ e_ => HO646.out.1 k_ e_)); replace HB := Aside0.mk (hb); clear HO643; (try clear hb); (try clear hkp); (try clear ho0); (try clear hy0)))
        go_ret2
        exact ⟨_, by first | rfl | (simp [errW_none, errW_some] <;> rfl) | (simp only [← hji16, ← hji18]; first | rfl | (simp [errW_none, errW_some] <;> rfl)) | (simp [*, errW_none, errW_some] <;> rfl) | (exfalso; simp_all), by (with_reducible repeat (first | apply Kd.R_alloc | apply Kd.R_drewN | apply Kd.R_drew)); exact Kd.R_mono HO649.out (fun _ hk => trivial), pH HB⟩
       ·replace c22 := Bool.eq_false_iff.mpr c22
        subst c22
        have H1 : (some (([] : List Int), 4)) = some (r1, r2) := by rw [if_neg (show ¬ (false = true) by decide)] at H; exact H
        clear H
        have H := H1
        clear H1
        simp only [Option.some.injEq, Prod.mk.injEq] at H
        obtain ⟨rfl, rfl⟩ := H
        go_enter Try.func34, Try.ntmps34
        go_wp2_with (first | ((with_reducible refine gate_dst (N := 1) rfl ?_); refine box_event ?hg (N := 1) ?hd (cs := #[.int .i64 a0_0, .slice A0_1 l0_1.length c0_1]) (t := 28) ?hr ?_; (case hd => rfl); (case hg => rfl); (case hr => first | (go_simp; done) | (go_simp; rfl)); intro gb635 hg w38 hbox hb; have BK635 := Aside0.mk (hbox); have GW635 := gH HB hg; have GE635 := gH HB hg; replace HB := sH HB hb; clear hb hbox hg; have hcz39_0 : w38.cell? ⟨gb635, 0, none⟩ = some (.int .i64 a0_0) := cB BK635 0; have hcz39_1 : w38.cell? ⟨gb635, 1, none⟩ = some (.slice A0_1 l0_1.length c0_1) := cB BK635 1; have hfz39_0 := zB BK635 0; have hfz39_1 := zB BK635 1) | ((with_reducible refine gate_callee (f := 50) rfl ?_); refine cl_ (some 9) Try.func50 #[.agg #[.int .i64 a0_0, .slice A0_1 l0_1.length c0_1]] ?_; (with_reducible refine (spec_l01Is.calls k a0_0 _ _ l0_1 true _ ?side1 ?side2 A2.out).mono ?_); (case side1 => exact pC ((Kd.C_below HR0_1.out HB.out))); (case side2 => exact HC0_1.out); rintro e w40 ⟨rfl, hb⟩; refine ⟨_, rfl, ?_⟩; replace BK635 := sB BK635 hb; replace HB := sH HB hb; (try clear hb); (try clear hi); have hcz41_0 : w40.cell? ⟨gb635, 0, none⟩ = some (.int .i64 a0_0) := cB BK635 0; have hcz41_1 : w40.cell? ⟨gb635, 1, none⟩ = some (.slice A0_1 l0_1.length c0_1) := cB BK635 1; have hfz41_0 := zB BK635 0; have hfz41_1 := zB BK635 1) | ((with_reducible refine gate_callee (f := 80) rfl ?_); refine cl_ (some 13) Try.func80 #[.agg #[.int .i64 a0_0, .slice A0_1 l0_1.length c0_1]] ?_; (with_reducible refine (spec_l07Pure.calls k a0_0 _ _ l0_1 true _ ?side1 ?side2 A4.out).mono ?_); (case side1 => exact pC ((Kd.C_below HR0_1.out HB.out))); (case side2 => exact HC0_1.out); rintro e w42 ⟨rfl, hb⟩; refine ⟨_, rfl, ?_⟩; replace BK635 := sB BK635 hb; replace HB := sH HB hb; (try clear hb); (try clear hi); have hcz43_0 : w42.cell? ⟨gb635, 0, none⟩ = some (.int .i64 a0_0) := cB BK635 0; have hcz43_1 : w42.cell? ⟨gb635, 1, none⟩ = some (.slice A0_1 l0_1.length c0_1) := cB BK635 1; have hfz43_0 := zB BK635 0; have hfz43_1 := zB BK635 1) | ((with_reducible refine gate_callee (f := 81) rfl ?_); refine cl_ (some 16) Try.func81 #[.agg #[.int .i64 a0_0, .slice A0_1 l0_1.length c0_1]] ?_; (with_reducible refine (spec_l01Facets.calls k a0_0 _ _ l0_1 t638 _ ?side1 ?side2 A6.out).mono ?_); (case side1 => exact pC ((Kd.C_below HR0_1.out HB.out))); (case side2 => exact HC0_1.out); rintro e w44 ⟨v639, rfl, ho0, hb⟩; refine ⟨_, rfl, ?_⟩; have HO640 := Aside0.mk (Kd.R_lower ho0 (below_size (pH HB))); replace BK635 := sB BK635 hb; replace HB := sH HB hb; (try clear hb); (try clear hi); (try clear ho0); obtain ⟨Ao45, co45, eo45⟩ := Kd.R_slice HO640.out; subst eo45) | ((with_reducible refine gate_dst (N := 22) rfl ?_); refine Kd.R_lit (Kd.int .i64) _ 2 ?hg (N := 22) ?hd (xs := ([] : List Int)) (inner := []) (ok := fun _ => True) (okp := fun _ => True) ?hr ?hp (fun _ hk => hk) trivial (Below.refl _ _) (Nat.le_refl _) (by simp) ?_; (case hd => rfl); (case hg => rfl); (case hr => first | (go_simp; done) | (go_simp; rfl)); (case hp => exact (Reps.none _ _)); intro v642 w46 ho47 hb hg_ hnew_; clear hg_ hnew_; (first | rw [← Ny641.out] at ho47 | (simp only [Int.reduceToNat] at ho47; rw [← Ny641.out] at ho47)); have HO643 := Aside0.mk (Kd.R_lower (Kd.R_new' ho47 (Kd.R_lt (pR HO640))) (below_size (pH HB))); replace HO640 := Aside0.mk (Kd.R_elder' (pR HO640) (Kd.R_base ho47) hb); replace BK635 := sB BK635 hb; replace HB := sH HB hb; clear hb ho47) | ((with_reducible refine gate_dst (N := 27) rfl ?_); refine Kd.R_make Kd.bool _ 4 rfl (N := 27) rfl 93 _ _ rfl ji18 rfl rfl Try.underlying93 (.bool false) 1 info4 rfl (by decide) (by omega) false (ok := fun _ => True) (okp := fun _ => True) rfl (fun _ hk => hk) trivial (of_decide_eq_true (by first | (with_reducible assumption) | assumption)) (Nat.le_trans (Nat.mul_le_mul_right _ (of_decide_eq_true (by first | (with_reducible assumption) | assumption) : ji18.toNat ≤ 281474976710656)) (by omega)) (Below.refl _ _) (Nat.le_refl _) ?_; intro v645 w48 ho49 hb hg_ hnew_; clear hg_ hnew_; (first | rw [← Ny644.out] at ho49 | (simp only [Int.reduceToNat] at ho49; rw [← Ny644.out] at ho49)); replace HO640 := sR HO640 hb; replace HO643 := sR HO643 hb; have HO646 := Aside0.mk (Kd.R_lower ho49 (below_size (pH HB))); replace BK635 := sB BK635 hb; replace HB := sH HB hb; clear hb ho49; obtain ⟨Ao50, co50, eo50⟩ := Kd.R_slice HO643.out; subst eo50; obtain ⟨Ao51, co51, eo51⟩ := Kd.R_slice HO646.out; subst eo51) | ((with_reducible refine gate_callee (f := 82) rfl ?_); refine cl_ (some 28) Try.func82 #[.slice Ao45 t638.length co45, .slice Ao50 y641.length co50, .int .i64 0, .slice Ao51 y644.length co51] ?_; (with_reducible refine (spec_l07Find.calls k _ _ t638 (fun k_ => some k_ = (.slice Ao50 y641.length co50 : Value).ownBlock) (.slice Ao50 y641.length co50) y641 0 (fun k_ => some k_ = (.slice Ao51 y644.length co51 : Value).ownBlock) (.slice Ao51 y644.length co51) y644 t647 false t651 w _ ?side1 ?side2 ?side3 ?side4 ?side5 A21.out).mono ?_); (case side1 => repeat (first | (with_reducible first | exact HB.out | apply below_alloc | apply pw_below_drewN | apply below_drew1 | refine below_set ?_ GE635.out) | exact HB.out)); (case side2 => exact Kd.C_kept_own ((Kd.R_apart' HO640.out (Kd.R_typed HO646.out) (by decide))) (fun k_ hk_ hs_ => Or.elim hs_ (fun e_ => (hk_.1.2) e_) (fun e_ => (hk_.2) e_))); (case side3 => exact (Kd.R_reads' HO640.out).2.1); (case side4 => exact Kd.R_tight rfl HO643.out); (case side5 => exact Kd.R_tight rfl HO646.out); rintro e w52 ⟨v648, rfl, ho0, hy0, hb, hkp⟩; refine ⟨_, rfl, ?_⟩; replace BK635 := Aside0.mk (blk_kept (pB BK635) hkp (fun hs_ => Or.elim hs_ (fun e_ => (fun e_ => (Kd.R_ne HO643.out BK635.out (by decide)) e_) e_) (fun e_ => (fun e_ => (Kd.R_ne HO646.out BK635.out (by decide)) e_) e_))); have HO649 := Aside0.mk (Kd.R_mono (ok' := fun k_ => some k_ ≠ (.slice Ao45 t638.length co45 : Value).ownBlock) ho0 (fun k_ hk_ => Or.elim hk_ (fun hs_ => Or.elim hs_ (fun hs_ => fun e_ => ((((Kd.R_apart' HO640.out (Kd.R_typed HO646.out) (by decide))).1 k_ e_.symm).1.2) hs_) (fun hs_ => fun e_ => ((((Kd.R_apart' HO640.out (Kd.R_typed HO646.out) (by decide))).1 k_ e_.symm).2) hs_)) (fun hn_ => (Kd.fresh' (Kd.R_lt (pR HO640)) k_ hn_)))); replace HO640 := Aside0.mk (Kd.R_mono (ok' := fun k_ => some k_ ≠ (v648 : Value).ownBlock) (Kd.R_keptB ((Kd.R_apart' HO640.out (Kd.R_typed HO646.out) (by decide))) hkp (fun k_ hk_ hs_ => Or.elim hs_ (fun e_ => (hk_.1.2) e_) (fun e_ => (hk_.2) e_))) (fun k_ hk_ => fun e_ => Or.elim (ho0.1 k_ e_.symm) (fun hs_ => hk_.2.1 hs_) (fun hn_ => Nat.not_le.2 hk_.2.2 hn_))); replace HO646 := Aside0.mk (Kd.R_reok rfl hy0 (fun k_ e_ => HO646.out.1 k_ e_)); replace HB := Aside0.mk (hb); clear HO643; (try clear hb); (try clear hkp); (try clear ho0); (try clear hy0)))
        go_ret2
        exact ⟨_, by first | rfl | (simp [errW_none, errW_some] <;> rfl) | (simp only [← hji16, ← hji18]; first | rfl | (simp [errW_none, errW_some] <;> rfl)) | (simp [*, errW_none, errW_some] <;> rfl) | (exfalso; simp_all), by first | exact Kd.R_nil _ _ _ _ _ | exact Kd.N_nil _ _ _ _ _ | exact Kd.V_nil _ _ _ _ _ | exact Kd.Q_nil _ _ _ _ _ | exact Kd.S_nil _ _ _ _ _, pH HB⟩
      ·rw [if_neg c20] at H
       exact absurd H (by simp)
     ·rw [if_neg c19] at H
      exact absurd H (by simp)
    ·rw [if_neg c17] at H
     exact absurd H (by simp)
  ·replace c5 := Bool.eq_false_iff.mpr c5
   subst c5
   have H1 : (some (([] : List Int), 5)) = some (r1, r2) := by rw [if_neg (show ¬ (false = true) by decide)] at H; exact H
   clear H
   have H := H1
   clear H1
   simp only [Option.some.injEq, Prod.mk.injEq] at H
   obtain ⟨rfl, rfl⟩ := H
   go_enter Try.func34, Try.ntmps34
   go_wp2_with (first | ((with_reducible refine gate_dst (N := 1) rfl ?_); refine box_event ?hg (N := 1) ?hd (cs := #[.int .i64 a0_0, .slice A0_1 l0_1.length c0_1]) (t := 28) ?hr ?_; (case hd => rfl); (case hg => rfl); (case hr => first | (go_simp; done) | (go_simp; rfl)); intro gb635 hg w53 hbox hb; have BK635 := Aside0.mk (hbox); have GW635 := gH HB hg; have GE635 := gH HB hg; replace HB := sH HB hb; clear hb hbox hg; have hcz54_0 : w53.cell? ⟨gb635, 0, none⟩ = some (.int .i64 a0_0) := cB BK635 0; have hcz54_1 : w53.cell? ⟨gb635, 1, none⟩ = some (.slice A0_1 l0_1.length c0_1) := cB BK635 1; have hfz54_0 := zB BK635 0; have hfz54_1 := zB BK635 1) | ((with_reducible refine gate_callee (f := 50) rfl ?_); refine cl_ (some 9) Try.func50 #[.agg #[.int .i64 a0_0, .slice A0_1 l0_1.length c0_1]] ?_; (with_reducible refine (spec_l01Is.calls k a0_0 _ _ l0_1 true _ ?side1 ?side2 A2.out).mono ?_); (case side1 => exact pC ((Kd.C_below HR0_1.out HB.out))); (case side2 => exact HC0_1.out); rintro e w55 ⟨rfl, hb⟩; refine ⟨_, rfl, ?_⟩; replace BK635 := sB BK635 hb; replace HB := sH HB hb; (try clear hb); (try clear hi); have hcz56_0 : w55.cell? ⟨gb635, 0, none⟩ = some (.int .i64 a0_0) := cB BK635 0; have hcz56_1 : w55.cell? ⟨gb635, 1, none⟩ = some (.slice A0_1 l0_1.length c0_1) := cB BK635 1; have hfz56_0 := zB BK635 0; have hfz56_1 := zB BK635 1) | ((with_reducible refine gate_callee (f := 80) rfl ?_); refine cl_ (some 13) Try.func80 #[.agg #[.int .i64 a0_0, .slice A0_1 l0_1.length c0_1]] ?_; (with_reducible refine (spec_l07Pure.calls k a0_0 _ _ l0_1 false _ ?side1 ?side2 A4.out).mono ?_); (case side1 => exact pC ((Kd.C_below HR0_1.out HB.out))); (case side2 => exact HC0_1.out); rintro e w57 ⟨rfl, hb⟩; refine ⟨_, rfl, ?_⟩; replace BK635 := sB BK635 hb; replace HB := sH HB hb; (try clear hb); (try clear hi)))
   go_ret2
   exact ⟨_, by first | rfl | (simp [errW_none, errW_some] <;> rfl) | (simp [*, errW_none, errW_some] <;> rfl) | (exfalso; simp_all), by first | exact Kd.R_nil _ _ _ _ _ | exact Kd.N_nil _ _ _ _ _ | exact Kd.V_nil _ _ _ _ _ | exact Kd.Q_nil _ _ _ _ _ | exact Kd.S_nil _ _ _ _ _, pH HB⟩
 ·replace c3 := Bool.eq_false_iff.mpr c3
  subst c3
  have H1 : (some (([] : List Int), 1)) = some (r1, r2) := by rw [if_neg (show ¬ (false = true) by decide)] at H; exact H
  clear H
  have H := H1
  clear H1
  simp only [Option.some.injEq, Prod.mk.injEq] at H
  obtain ⟨rfl, rfl⟩ := H
  go_enter Try.func34, Try.ntmps34
  go_wp2_with (first | ((with_reducible refine gate_dst (N := 1) rfl ?_); refine box_event ?hg (N := 1) ?hd (cs := #[.int .i64 a0_0, .slice A0_1 l0_1.length c0_1]) (t := 28) ?hr ?_; (case hd => rfl); (case hg => rfl); (case hr => first | (go_simp; done) | (go_simp; rfl)); intro gb635 hg w58 hbox hb; have BK635 := Aside0.mk (hbox); have GW635 := gH HB hg; have GE635 := gH HB hg; replace HB := sH HB hb; clear hb hbox hg; have hcz59_0 : w58.cell? ⟨gb635, 0, none⟩ = some (.int .i64 a0_0) := cB BK635 0; have hcz59_1 : w58.cell? ⟨gb635, 1, none⟩ = some (.slice A0_1 l0_1.length c0_1) := cB BK635 1; have hfz59_0 := zB BK635 0; have hfz59_1 := zB BK635 1) | ((with_reducible refine gate_callee (f := 50) rfl ?_); refine cl_ (some 9) Try.func50 #[.agg #[.int .i64 a0_0, .slice A0_1 l0_1.length c0_1]] ?_; (with_reducible refine (spec_l01Is.calls k a0_0 _ _ l0_1 false _ ?side1 ?side2 A2.out).mono ?_); (case side1 => exact pC ((Kd.C_below HR0_1.out HB.out))); (case side2 => exact HC0_1.out); rintro e w60 ⟨rfl, hb⟩; refine ⟨_, rfl, ?_⟩; replace BK635 := sB BK635 hb; replace HB := sH HB hb; (try clear hb); (try clear hi)))
  go_ret2
  exact ⟨_, by first | rfl | (simp [errW_none, errW_some] <;> rfl) | (simp [*, errW_none, errW_some] <;> rfl) | (exfalso; simp_all), by first | exact Kd.R_nil _ _ _ _ _ | exact Kd.N_nil _ _ _ _ _ | exact Kd.V_nil _ _ _ _ _ | exact Kd.Q_nil _ _ _ _ _ | exact Kd.S_nil _ _ _ _ _, pH HB⟩
end Go.Proofs.Ytomdfjohnmikdaa.QS
namespace Go.Proofs.Ytomdfjohnmikdaa.Pu
set_option linter.unusedVariables false
set_option linter.unusedSimpArgs false
open Go.RowKit Go.Proofs.Ytomdfjohnmikdaa.Ext Go.Proofs.Ytomdfjohnmikdaa.QS Go.Proofs.Ytomdfjohnmikdaa.Im Go.Proofs.YtomdfjohnmikdaaW.PrintWords Go.Proofs.YtomdfjohnmikdaaW.PrintLast Go.Proofs.YtomdfjohnmikdaaW.PrintMore
/-- One round after another: which facet stands next. -/
def loopF (fs : List Int) (rec : List Int → Nat → List Bool → List Int × Bool × List Bool) (ls : List Int) (u : Nat) : List Nat → List Bool → List Int × Bool × List Bool
  | [], dead => ([], false, dead.set u true)
  | i :: is, dead => if u.testBit i = true then loopF fs rec ls u is dead else if nextB ls (fs.getD i 0) = true then (if (rec (ls ++ [fs.getD i 0]) (u ||| 2 ^ i) dead).2.1 = true then rec (ls ++ [fs.getD i 0]) (u ||| 2 ^ i) dead else loopF fs rec ls u is (rec (ls ++ [fs.getD i 0]) (u ||| 2 ^ i) dead).2.2) else loopF fs rec ls u is dead
/-- d facets more are to be found. -/
def findF (fs : List Int) : Nat → List Int → Nat → List Bool → List Int × Bool × List Bool
  | 0, ls, _, dead => (ls, true, dead)
  | d + 1, ls, u, dead => if dead.getD u false = true then ([], false, dead) else loopF fs (findF fs d) ls u (List.range fs.length) dead
theorem loopF_dead {fs : List Int} {rec : List Int → Nat → List Bool → List Int × Bool × List Bool} (hr : ∀ ls u dead, (rec ls u dead).2.2.length = dead.length) (ls : List Int) (u : Nat) : ∀ (is : List Nat) (dead : List Bool), (loopF fs rec ls u is dead).2.2.length = dead.length
  | [], dead => by simp [loopF]
  | i :: is, dead => by
    unfold loopF
    split
    · exact loopF_dead hr ls u is dead
    · split
      · split
        · exact hr _ _ _
        · rw [loopF_dead hr ls u is]; exact hr _ _ _
      · exact loopF_dead hr ls u is dead
theorem findF_dead (fs : List Int) : ∀ (d : Nat) (ls : List Int) (u : Nat) (dead : List Bool), (findF fs d ls u dead).2.2.length = dead.length
  | 0, _, _, _ => rfl
  | d + 1, ls, u, dead => by
    unfold findF
    split
    · rfl
    · exact loopF_dead (findF_dead fs d) ls u _ dead
theorem set_bit {u i : Nat} (hu : u < 4096) (hi : i < 12) : 0 ≤ IntKind.u64.wrap (i : Int) ∧ (Go.bits .and .i64 (shr .i64 (u : Int) (IntKind.u64.wrap (i : Int))) 1 = 1 ↔ u.testBit i = true) ∧ Go.bits .or .i64 (u : Int) (shl .i64 1 (IntKind.u64.wrap (i : Int))) = ((u ||| 2 ^ i : Nat) : Int) ∧ u ||| 2 ^ i < 4096 := by
  have hw : IntKind.u64.wrap (i : Int) = (i : Int) := by rw [IntKind.wrap_u64]; omega
  have hp : 2 ^ i < 2 ^ 12 := Nat.pow_lt_pow_right (by decide) hi
  have hk : ∀ n : Int, 0 ≤ n → n < 2 ^ 12 → IntKind.i64.wrap n = n := fun n h1 h2 => by rw [IntKind.wrap_i64]; omega
  have hs : shr .i64 (u : Int) (i : Int) = ((u / 2 ^ i : Nat) : Int) := by
    unfold shr
    rw [show min ((i : Int)).toNat IntKind.i64.bits = i by simp [IntKind.bits]; omega]
    simp
  have hs2 : shl .i64 1 (i : Int) = ((2 ^ i : Nat) : Int) := by
    unfold shl
    rw [show min ((i : Int)).toNat IntKind.i64.bits = i by simp [IntKind.bits]; omega, Int.one_mul, show (2 : Int) ^ i = ((2 ^ i : Nat) : Int) by simp]
    generalize 2 ^ i = p at hp ⊢
    exact hk _ (by omega) (by omega)
  have hd : u / 2 ^ i < 2 ^ 12 := Nat.lt_of_le_of_lt (Nat.div_le_self _ _) hu
  refine ⟨by rw [hw]; omega, ?_, ?_, Nat.or_lt_two_pow (n := 12) hu hp⟩
  · rw [hw, hs, show (1 : Int) = ((1 : Nat) : Int) from rfl, (bits_nat .i64 12 (by decide) hk _ 1 hd (by decide)).1, Nat.and_one_is_mod, Nat.testBit_eq_decide_div_mod_eq]
    rw [decide_eq_true_eq]
    omega
  · rw [hw, hs2, (bits_nat .i64 12 (by decide) hk u (2 ^ i) hu hp).2]
theorem ev_own (l : List Int) (hl : l.length ≤ 1048576) : spec_l01Own.f l = some l := by
  unfold spec_l01Own.f
  rw [Option.bind_some, if_pos (by simp; omega)]
  simp
theorem getD_at' {fs : List Int} {i : Nat} (h : i < fs.length) : fs.getD i 0 = fs[i] := by rw [List.getD_eq_getElem?_getD, List.getElem?_eq_getElem h]; rfl
set_option maxHeartbeats 2000000 in
theorem find_loop {fs : List Int} (hn : fs.length ≤ 12) (hfs : ∀ x ∈ fs, 0 ≤ x ∧ x ≤ 63) {rec : List Int → Nat → List Bool → List Int × Bool × List Bool} (hrl : ∀ ls u dead, (rec ls u dead).2.2.length = dead.length) {ls : List Int} (hls : ls.length ≤ 12) (hlf : ∀ x ∈ ls, 0 ≤ x ∧ x ≤ 63) {u N : Nat} (hu : u < N) (hN : N ≤ 4096)
    (hrec : ∀ i, i < fs.length → ∀ dead : List Bool, dead.length = N → Ev (fun k => spec_l07Find.f k fs (ls ++ [fs.getD i 0]) ((u ||| 2 ^ i : Nat) : Int) dead) (rec (ls ++ [fs.getD i 0]) (u ||| 2 ^ i) dead)) :
    ∀ d (i : Nat) (dead : List Bool), fs.length - i = d → i ≤ fs.length → dead.length = N → Ev (fun k => spec_l07Find.l0 k fs ls (u : Int) dead (i : Int)) (loopF fs rec ls u (List.range' i (fs.length - i)) dead) := by
  have hu12 : u < 4096 := Nat.lt_of_lt_of_le hu hN
  intro d
  induction d with
  | zero =>
    intro i dead hd hi hdl
    obtain rfl : i = fs.length := by omega
    rw [Nat.sub_self]
    refine Ev.step (f := fun k => some ([], false, dead.set u true)) (fun k => ?_) (Ev.now _)
    simp only [spec_l07Find.l0]
    rw [if_neg (by omega), if_pos (by omega), if_pos (by omega), Int.toNat_natCast]
  | succ d ih =>
    intro i dead hd hi hdl
    have hi' : i < fs.length := by omega
    have HSB := Aside0.mk (set_bit (i := i) hu12 (by omega))
    have hsucc : wrap64 ((i : Int) + 1) = ((i + 1 : Nat) : Int) := by rw [w64 (by omega) (by omega)]; omega
    rw [show fs.length - i = (fs.length - (i + 1)) + 1 by omega, List.range'_succ]
    have hih := fun dead hdl => ih (i + 1) dead (by omega) (by omega) hdl
    unfold loopF
    by_cases ht : u.testBit i = true
    · rw [if_pos ht]
      refine Ev.step (fun k => ?_) (hih dead hdl)
      simp only [spec_l07Find.l0]
      rw [if_pos (by omega), if_pos HSB.out.1, if_pos (HSB.out.2.1.2 ht), hsucc]
    · rw [if_neg ht, getD_at' hi']
      have hfi := hfs _ (List.getElem_mem hi')
      have hg := ev_goes (before := ls) (by omega) fs[i]
      have hgn := goes_next (before := ls) hfi hlf
      have hre := hrec i hi' dead hdl
      rw [getD_at' hi'] at hre
      have hrel := hrl (ls ++ [fs[i]]) (u ||| 2 ^ i) dead
      cases hb : nextB ls fs[i] with
      | false =>
        rw [if_neg Bool.false_ne_true]
        refine Ev.step (f := fun k => (spec_l07Goes.f k ls fs[i]).bind fun bt618 => if bt618.1 = true then (spec_l07Find.f k fs (ls ++ [fs[i]]) ((u ||| 2 ^ i : Nat) : Int) dead).bind fun bt630 => if bt630.2.1 = true then some (bt630.1, true, bt630.2.2) else spec_l07Find.l0 k fs ls (u : Int) bt630.2.2 ((i + 1 : Nat) : Int) else spec_l07Find.l0 k fs ls (u : Int) dead ((i + 1 : Nat) : Int)) (fun k => ?_) (Ev.bind hg ?_)
        · simp only [spec_l07Find.l0]
          rw [if_pos (by omega), if_pos HSB.out.1, if_neg (fun h => ht (HSB.out.2.1.1 h)), if_pos (by omega), rd_at hi', hsucc, HSB.out.2.2.1]
          simp only [ev_own ls (by omega), Option.bind_some, List.length_singleton, if_pos (show ls.length + 1 < 17592186044416 by omega)]
        · rw [hgn, hb]
          simp only [Bool.false_eq_true, if_false]
          exact hih dead hdl
      | true =>
        rw [if_pos rfl]
        refine Ev.step (f := fun k => (spec_l07Goes.f k ls fs[i]).bind fun bt618 => if bt618.1 = true then (spec_l07Find.f k fs (ls ++ [fs[i]]) ((u ||| 2 ^ i : Nat) : Int) dead).bind fun bt630 => if bt630.2.1 = true then some (bt630.1, true, bt630.2.2) else spec_l07Find.l0 k fs ls (u : Int) bt630.2.2 ((i + 1 : Nat) : Int) else spec_l07Find.l0 k fs ls (u : Int) dead ((i + 1 : Nat) : Int)) (fun k => ?_) (Ev.bind hg ?_)
        · simp only [spec_l07Find.l0]
          rw [if_pos (by omega), if_pos HSB.out.1, if_neg (fun h => ht (HSB.out.2.1.1 h)), if_pos (by omega), rd_at hi', hsucc, HSB.out.2.2.1]
          simp only [ev_own ls (by omega), Option.bind_some, List.length_singleton, if_pos (show ls.length + 1 < 17592186044416 by omega)]
        · rw [hgn, hb]
          simp only [if_true]
          refine Ev.bind hre ?_
          generalize rec (ls ++ [fs[i]]) (u ||| 2 ^ i) dead = r at hrel ⊢
          obtain ⟨r1, r2, r3⟩ := r
          simp only at hrel ⊢
          cases r2 with
          | true => simp only [if_true]; exact Ev.now _
          | false =>
            simp only [Bool.false_eq_true, if_false]
            exact hih r3 (by omega)
theorem ev_find {fs : List Int} (hn : fs.length ≤ 12) (hfs : ∀ x ∈ fs, 0 ≤ x ∧ x ≤ 63) {N : Nat} (hN : N ≤ 4096) (hor : ∀ u i, u < N → i < fs.length → u ||| 2 ^ i < N) : ∀ (d : Nat) (ls : List Int) (u : Nat) (dead : List Bool), ls.length + d = fs.length → (∀ x ∈ ls, 0 ≤ x ∧ x ≤ 63) → u < N → dead.length = N → Ev (fun k => spec_l07Find.f k fs ls (u : Int) dead) (findF fs d ls u dead) := by
  have HOR := Aside0.mk hor
  clear hor
  intro d
  induction d with
  | zero =>
    intro ls u dead hd hlf hu hdl
    refine Ev.step (f := fun k => some (ls, true, dead)) (fun k => ?_) (Ev.now _)
    simp only [spec_l07Find.f]
    rw [if_pos (by omega)]
  | succ d ih =>
    intro ls u dead hd hlf hu hdl
    unfold findF
    by_cases hde : dead.getD u false = true
    · rw [if_pos hde]
      refine Ev.step (f := fun k => some ([], false, dead)) (fun k => ?_) (Ev.now _)
      simp only [spec_l07Find.f]
      rw [if_neg (by omega), if_pos (by omega), if_pos (by omega), if_pos (by unfold rdOf; rw [Int.toNat_natCast]; exact hde)]
    · rw [if_neg hde, List.range_eq_range']
      have := find_loop hn hfs (rec := findF fs d) (findF_dead fs d) (ls := ls) (by omega) hlf hu hN (fun i hi dead' hdl' => ih _ _ dead' (by rw [List.length_append, List.length_singleton]; omega) (fun x hx => by
        rcases List.mem_append.1 hx with h | h
        · exact hlf x h
        · rw [List.mem_singleton.1 h, getD_at' hi]; exact hfs _ (List.getElem_mem hi)) (HOR.out u i hu hi) hdl') _ 0 dead rfl (Nat.zero_le _) hdl
      refine Ev.step (fun k => ?_) this
      simp only [spec_l07Find.f]
      rw [if_neg (by omega), if_pos (by omega), if_pos (by omega), if_neg (by unfold rdOf; rw [Int.toNat_natCast]; exact hde)]
      rfl
theorem or_lt {n u i : Nat} (hu : u < 2 ^ n) (hi : i < n) : u ||| 2 ^ i < 2 ^ n := Nat.or_lt_two_pow hu (Nat.pow_lt_pow_right (by decide) hi)
/-- What both come to. -/
def shellF (n : Int) (xs : List Int) : List Int × Int := if isC n xs = true then (if pureB xs = true then (if 12 < (facetsL xs).length then ([], 3) else if (findF (facetsL xs) (facetsL xs).length [] 0 (List.replicate (2 ^ (facetsL xs).length) false)).2.1 = true then ((findF (facetsL xs) (facetsL xs).length [] 0 (List.replicate (2 ^ (facetsL xs).length) false)).1, 0) else ([], 4)) else ([], 5)) else ([], 1)
theorem ev_shell (n : Int) {xs : List Int} (hx : xs.length ≤ maxLen) : Ev (fun k => spec_FirstShelling.f k n xs) (shellF n xs) := by
  unfold spec_FirstShelling.f shellF
  refine Ev.bind (ev_is n hx) ?_
  cases hi : isC n xs with
  | false => simp only [Bool.false_eq_true, if_false]; exact Ev.now _
  | true =>
    simp only [if_true]
    refine Ev.bind (ev_pure hi) ?_
    cases hp : pureB xs with
    | false => simp only [Bool.false_eq_true, if_false]; exact Ev.now _
    | true =>
      simp only [if_true]
      refine Ev.bind (ev_facets hi) ?_
      have hf63 : ∀ x ∈ facetsL xs, 0 ≤ x ∧ x ≤ 63 := fun x hx => by have := isC_63 hi x (List.mem_filter.1 hx).1; omega
      generalize facetsL xs = fs at hf63 ⊢
      by_cases h12 : 12 < fs.length
      · rw [if_pos h12]
        simp only [if_pos (show (fs.length : Int) > 12 by omega)]
        exact Ev.now _
      · rw [if_neg h12]
        have hw : IntKind.u64.wrap (fs.length : Int) = (fs.length : Int) := by rw [IntKind.wrap_u64]; omega
        have hp : 2 ^ fs.length ≤ 2 ^ 12 := Nat.pow_le_pow_right (by decide) (by omega)
        have hs : shl .i64 1 (fs.length : Int) = ((2 ^ fs.length : Nat) : Int) := by
          unfold shl
          rw [show min ((fs.length : Int)).toNat IntKind.i64.bits = fs.length by simp [IntKind.bits]; omega, Int.one_mul, show (2 : Int) ^ fs.length = ((2 ^ fs.length : Nat) : Int) by simp, IntKind.wrap_i64]
          generalize 2 ^ fs.length = p at hp ⊢
          omega
        simp only [if_neg (show ¬ (fs.length : Int) > 12 by omega), hw, hs, if_pos (show (0 : Int) ≤ (fs.length : Int) by omega), if_pos (Int.natCast_nonneg (2 ^ fs.length)), Int.toNat_natCast, if_pos (show 2 ^ fs.length ≤ 281474976710656 by omega)]
        refine Ev.bind (ev_find (by omega) hf63 (N := 2 ^ fs.length) hp (fun u i hu hi => or_lt hu hi) fs.length [] 0 (List.replicate (2 ^ fs.length) false) (by simp) (fun x hx => by cases hx) (Nat.two_pow_pos _) (by simp)) ?_
        generalize findF fs fs.length [] 0 (List.replicate (2 ^ fs.length) false) = r
        obtain ⟨r1, r2, r3⟩ := r
        cases r2 with
        | true => simp only [if_true]; exact Ev.now _
        | false => simp only [Bool.false_eq_true, if_false]; exact Ev.now _
end Go.Proofs.Ytomdfjohnmikdaa.Pu
namespace Go.Proofs.Ytomdfjohnmikdaa.Im
set_option linter.unusedVariables false
set_option linter.unusedSimpArgs false
open Go.RowKit Go.Shelf Go.Proofs.Ytomdfjohnmikdaa.Cw Go.Proofs.YtomdfjohnmikdaaW.PrintWords Go.Proofs.YtomdfjohnmikdaaW.PrintLast Go.Proofs.YtomdfjohnmikdaaW.PrintMore
section
variable {P : Program} {ops : Array Oper} {Q : Exit → Act → World → Prop} {S : World → Prop} {ds : List Nat} {md : Region.Mode} {T : Bool × List (List Nat × List Nat)} {n m fuel : Nat} {a : Act} {w : World} {oi : Oper}
/-- The only one that may come up, the last that reads or writes what is held. -/
theorem la_ (i : Nat) (N : Option Tmp) (m' : Nat) (hT : Aside0 (rtab md ops = T))
    (h : ∀ K : Act → World → Prop, Shut (∀ a' w', wpAnyLast P md ops Q S ds fuel (mB n m') a' w' → K a' w') → if Region.wanted oi (yielded ops a.tmps) = true then Oper.wp P oi a w K Q else K (a.put N undef) w)
    (hi : ops[i]? = some oi := by rfl) (hN : oi.dst = N := by rfl) (hc : (readyT T.2 (mB n m).toList == [i] && (mB n m).toList.set i true == (mB n m').toList) = true := by kernel_rfl) (hd : i ∈ ds := by decide) :
    wpAnyLast P md ops Q S ds (fuel + 1) (mB n m) a w := last_ (mB n m') hi hN (one_of hT.out hc) hd h
end
theorem nd_inj {α : Type} {l : List α} (h : l.Nodup) {x y : Nat} (hx : x < l.length) (hy : y < l.length) (e : l[x] = l[y]) : x = y := by
  have hp := List.pairwise_iff_getElem.1 (List.nodup_iff_pairwise_ne.1 h)
  rcases Nat.lt_trichotomy x y with h1 | h1 | h1
  · exact absurd e (hp x y hx hy h1)
  · exact h1
  · exact absurd e.symm (hp y x hy hx h1)
/-- A row of m numbers that is a block of its own. -/
def rowV (m x : Nat) : Value := .slice (some ⟨x, 0, none⟩) m m
def numV (l : List Int) : List Value := l.map fun v => Value.int .i64 v
/-- The outer row. -/
def MxO (w : World) (base b cap : Nat) (bs : List Nat) (m : Nat) : Prop :=
  base ≤ b ∧ bs.length ≤ cap ∧ cap ≤ maxLen ∧ ∃ rest : List Value, rest.length = cap - bs.length ∧ w.heap[b]? = some (.cells (bs.map (rowV m) ++ rest).toArray 22 (0, 0))
/-- The inner rows. -/
def MxI (w : World) (base : Nat) (bs : List Nat) (m : Nat) (M : List (List Int)) : Prop :=
  bs.length = M.length ∧ bs.Nodup ∧ ∀ i (h1 : i < bs.length) (h2 : i < M.length), base ≤ bs[i] ∧ M[i].length = m ∧ w.heap[bs[i]]? = some (.cells (numV M[i]).toArray 2 (0, 0))
section
variable {w w1 : World} {base b cap m : Nat} {bs : List Nat} {M : List (List Int)}
theorem MxO.below (h : MxO w base b cap bs m) (hb : Below w.heap.size w w1) : MxO w1 base b cap bs m := by
  obtain ⟨h1, h2, h3, rest, h4, h5⟩ := h
  exact ⟨h1, h2, h3, rest, h4, (hb.block b (blk_lt h5)).trans h5⟩
theorem MxO.drew (h : MxO w base b cap bs m) : MxO w.drew base b cap bs m := h
theorem MxI.below (h : MxI w base bs m M) (hb : Below w.heap.size w w1) : MxI w1 base bs m M := by
  refine ⟨h.1, h.2.1, fun i h1 h2 => ?_⟩
  obtain ⟨a1, a2, a3⟩ := h.2.2 i h1 h2
  exact ⟨a1, a2, (hb.block _ (blk_lt a3)).trans a3⟩
theorem MxI.drew (h : MxI w base bs m M) : MxI w.drew base bs m M := h
theorem MxO.cell (h : MxO w base b cap bs m) {i : Nat} (hi : i < bs.length) : w.cell? ⟨b, i, none⟩ = some (rowV m bs[i]) ∧ w.frozen? ⟨b, i, none⟩ = false := by
  obtain ⟨h1, h2, h3, rest, h4, h5⟩ := h
  refine ⟨(cell_of_row w b i _ _ _ h5).trans ?_, blk_frozen h5 i⟩
  simp [List.getElem?_append_left, hi]
theorem MxO.far (h : MxO w base b cap bs m) {x j : Nat} (hne : b ≠ x) (u : Value) : MxO (w.setCell ⟨x, j, none⟩ u) base b cap bs m := by
  obtain ⟨h1, h2, h3, rest, h4, h5⟩ := h
  exact ⟨h1, h2, h3, rest, h4, (Below.heap_setCell w ⟨x, j, none⟩ u b hne).trans h5⟩
theorem MxO.put (h : MxO w base b cap bs m) {i : Nat} (hi : i < bs.length) (y : Nat) : MxO (w.setCell ⟨b, i, none⟩ (rowV m y)) base b cap (bs.set i y) m := by
  obtain ⟨h1, h2, h3, rest, h4, h5⟩ := h
  refine ⟨h1, by simpa using h2, h3, rest, by simpa using h4, ?_⟩
  have := blk_put h5 i (rowV m y) rfl
  rw [this]
  congr 2
  apply Array.ext'
  simp [List.set_append_left, hi]
theorem MxI.len (h : MxI w base bs m M) : bs.length = M.length := h.1
theorem MxI.row (h : MxI w base bs m M) {i : Nat} (hi : i < M.length) : M[i].length = m := (h.2.2 i (by rw [h.1]; exact hi) hi).2.1
theorem MxI.cell (h : MxI w base bs m M) {i j : Nat} (hb : i < bs.length) (hi : i < M.length) (hj : j < m) : w.cell? ⟨bs[i], j, none⟩ = some (.int .i64 (M[i][j]'(by rw [h.row hi]; exact hj))) ∧ w.frozen? ⟨bs[i], j, none⟩ = false := by
  obtain ⟨a1, a2, a3⟩ := h.2.2 i hb hi
  refine ⟨(cell_of_row w _ j _ _ _ a3).trans ?_, blk_frozen a3 j⟩
  have hj' : j < M[i].length := by rw [a2]; exact hj
  simp [numV, hj']
theorem MxI.ne (h : MxI w base bs m M) (ho : MxO w base b cap bs m) {i : Nat} (hi : i < bs.length) : b ≠ bs[i] := by
  obtain ⟨_, _, a3⟩ := h.2.2 i hi (by rw [← h.1]; exact hi)
  obtain ⟨_, _, _, rest, _, h5⟩ := ho
  exact blk_ne h5 a3 (by decide)
theorem MxI.ne' {bs' : List Nat} (h : MxI w base bs m M) (ho : MxO w base b cap bs' m) {i : Nat} (hi : i < bs.length) : b ≠ bs[i] := by
  obtain ⟨_, _, a3⟩ := h.2.2 i hi (by rw [← h.1]; exact hi)
  obtain ⟨_, _, _, rest, _, h5⟩ := ho
  exact blk_ne h5 a3 (by decide)
theorem MxI.outer {bs' : List Nat} (h : MxI w base bs m M) (ho : MxO w base b cap bs' m) (j : Nat) (u : Value) : MxI (w.setCell ⟨b, j, none⟩ u) base bs m M := by
  refine ⟨h.1, h.2.1, fun i h1 h2 => ?_⟩
  obtain ⟨a1, a2, a3⟩ := h.2.2 i h1 h2
  exact ⟨a1, a2, (Below.heap_setCell w ⟨b, j, none⟩ u _ (h.ne' ho h1).symm).trans a3⟩
theorem MxI.put (h : MxI w base bs m M) {i j : Nat} (hb : i < bs.length) (hi : i < M.length) (hj : j < m) (v : Int) : MxI (w.setCell ⟨bs[i], j, none⟩ (.int .i64 v)) base bs m (M.set i (M[i].set j v)) := by
  refine ⟨by simpa using h.1, h.2.1, fun k h1 h2 => ?_⟩
  have h2' : k < M.length := by simpa using h2
  obtain ⟨a1, a2, a3⟩ := h.2.2 k h1 h2'
  by_cases hk : k = i
  · subst hk
    refine ⟨a1, by simpa using a2, ?_⟩
    have := blk_put a3 j (.int .i64 v) rfl
    rw [this]
    congr 2
    apply Array.ext'
    simp [numV, List.map_set]
  · have hne : bs[k] ≠ bs[i] := fun e => hk (nd_inj h.2.1 h1 hb e)
    rw [List.getElem_set_ne (Ne.symm hk)]
    exact ⟨a1, a2, (Below.heap_setCell w ⟨bs[i], j, none⟩ _ _ hne).trans a3⟩
end
end Go.Proofs.Ytomdfjohnmikdaa.Im
namespace Go.Proofs.Ytomdfjohnmikdaa.Im
set_option linter.unusedVariables false
set_option linter.unusedSimpArgs false
def Bit (x : Int) : Prop := x = 0 ∨ x = 1
def Bits (M : List (List Int)) : Prop := ∀ row ∈ M, ∀ x ∈ row, Bit x
end Go.Proofs.Ytomdfjohnmikdaa.Im
namespace Go.Proofs.Ytomdfjohnmikdaa.Im
set_option linter.unusedVariables false
set_option linter.unusedSimpArgs false
open Go.RowKit Go.Shelf Go.Proofs.Ytomdfjohnmikdaa.Cw Go.Proofs.YtomdfjohnmikdaaW.PrintWords Go.Proofs.YtomdfjohnmikdaaW.PrintLast Go.Proofs.YtomdfjohnmikdaaW.PrintMore
/-- What is known of the matrix in memory. -/
def MxAll (w : World) (base b cap : Nat) (bs : List Nat) (n m : Nat) (M : List (List Int)) : Prop := M.length = n ∧ bs.length = n ∧ Bits M ∧ MxO w base b cap bs m ∧ MxI w base bs m M
theorem MxAll.put {w : World} {base b cap n m : Nat} {bs : List Nat} {M : List (List Int)} (h : MxAll w base b cap bs n m M) {i j x : Nat} (hi : i < n) (hj : j < m) (hx : ∃ h1 : i < bs.length, bs[i] = x) {v : Int} (hv : Bit v) : MxAll (w.setCell ⟨x, j, none⟩ (.int .i64 v)) base b cap bs n m (M.set i ((M.getD i []).set j v)) := by
  obtain ⟨h1, h2, h3, h4, h5⟩ := h
  obtain ⟨hb, rfl⟩ := hx
  have hg : M.getD i [] = M[i] := by rw [List.getD_eq_getElem?_getD, List.getElem?_eq_getElem (by omega)]; rfl
  have hp := h5.put (i := i) (j := j) hb (by omega) hj v
  rw [hg]
  refine ⟨by simpa using h1, h2, fun row hrow => ?_, h4.far (h5.ne h4 hb) _, hp⟩
  rcases List.mem_or_eq_of_mem_set hrow with h6 | rfl
  · exact h3 _ h6
  · intro u hu
    rcases List.mem_or_eq_of_mem_set hu with h7 | rfl
    · exact h3 _ (List.getElem_mem (by omega)) u h7
    · exact hv
theorem MxAll.below {w w1 : World} {base b cap n m : Nat} {bs : List Nat} {M : List (List Int)} (h : MxAll w base b cap bs n m M) (hb : Below w.heap.size w w1) : MxAll w1 base b cap bs n m M := ⟨h.1, h.2.1, h.2.2.1, h.2.2.2.1.below hb, h.2.2.2.2.below hb⟩
theorem MxAll.base {w : World} {base b cap n m : Nat} {bs : List Nat} {M : List (List Int)} (h : MxAll w base b cap bs n m M) {i x : Nat} (hi : i < n) (hx : ∃ h1 : i < bs.length, bs[i] = x) : base ≤ x := by
  obtain ⟨hb, rfl⟩ := hx
  exact (h.2.2.2.2.2.2 i hb (by have := h.1; omega)).1
end Go.Proofs.Ytomdfjohnmikdaa.Im
namespace Go.Proofs.Ytomdfjohnmikdaa.Im
set_option linter.unusedVariables false
set_option linter.unusedSimpArgs false
open Go.RowKit Go.Shelf Go.Proofs.Ytomdfjohnmikdaa.Cw Go.Proofs.YtomdfjohnmikdaaW.PrintWords Go.Proofs.YtomdfjohnmikdaaW.PrintLast Go.Proofs.YtomdfjohnmikdaaW.PrintMore
/-- The outer row, while it grows. -/
abbrev MxW (w : World) (base : Nat) (v : Value) (bs : List Nat) (m : Nat) : Prop := w.ownsRow base 22 1 v bs.length (encs (rowV m) bs)
theorem MxW.ne {w : World} {base : Nat} {v : Value} {bs : List Nat} {m y : Nat} {cells : Array Value} (h : MxW w base v bs m) (hy : w.heap[y]? = some (.cells cells 2 (0, 0))) : v.ownBlock ≠ some y := fun e => by
  obtain ⟨cs, hc⟩ := own_typed h y e
  exact blk_ne hc hy (by decide) rfl
theorem MxI.block {w : World} {base : Nat} {bs : List Nat} {m : Nat} {M : List (List Int)} (h : MxI w base bs m M) {i : Nat} (hi : i < bs.length) : ∃ cells, w.heap[bs[i]]? = some (.cells cells 2 (0, 0)) := ⟨_, (h.2.2 i hi (by rw [← h.1]; exact hi)).2.2⟩
theorem MxI.grown {w w1 : World} {base base' : Nat} {bs bs' : List Nat} {m : Nat} {M : List (List Int)} {v : Value} (h : MxI w base bs m M) (ho : MxW w base' v bs' m) (hg : w.grownBy w1 v.ownBlock) : MxI w1 base bs m M := by
  refine ⟨h.1, h.2.1, fun i h1 h2 => ?_⟩
  obtain ⟨a1, a2, a3⟩ := h.2.2 i h1 h2
  exact ⟨a1, a2, (hg.block _ (blk_lt a3) (fun e => ho.ne a3 e.symm)).trans a3⟩
/-- A row more, of zeros. -/
theorem MxI.snoc {w : World} {base : Nat} {bs : List Nat} {m : Nat} {M : List (List Int)} (h : MxI w base bs m M) (hb : base ≤ w.heap.size) : MxI (w.alloc (.cells (numV (List.replicate m 0)).toArray 2)) base (bs ++ [w.heap.size]) m (M ++ [List.replicate m 0]) := by
  have hlt : ∀ x ∈ bs, x < w.heap.size := fun x hx => by
    obtain ⟨i, hi, rfl⟩ := List.mem_iff_getElem.1 hx
    obtain ⟨c, hc⟩ := h.block hi
    exact blk_lt hc
  refine ⟨by simp [h.1], ?_, fun i h1 h2 => ?_⟩
  · rw [List.nodup_append]
    refine ⟨h.2.1, by simp, fun a ha b hb' => ?_⟩
    obtain rfl : b = w.heap.size := by simpa using hb'
    exact Nat.ne_of_lt (hlt a ha)
  · by_cases hi : i < bs.length
    · have h2' : i < M.length := by rw [← h.1]; exact hi
      obtain ⟨a1, a2, a3⟩ := h.2.2 i hi h2'
      rw [List.getElem_append_left hi, List.getElem_append_left h2']
      exact ⟨a1, a2, ((below_alloc (Below.refl w.heap.size w) _).block _ (blk_lt a3)).trans a3⟩
    · have he : i = bs.length := by simp at h1; omega
      subst he
      have e1 : (bs ++ [w.heap.size])[bs.length]'h1 = w.heap.size := by simp
      have e2 : (M ++ [List.replicate m (0 : Int)])[bs.length]'h2 = List.replicate m 0 := by
        rw [List.getElem_append_right (by rw [h.1]; exact Nat.le_refl _)]
        simp
      rw [e1, e2]
      exact ⟨hb, by simp, heap_alloc_new w _⟩
/-- The finished matrix. -/
theorem MxAll.of {w : World} {base : Nat} {v : Value} {bs : List Nat} {m : Nat} {M : List (List Int)} (ho : MxW w base v bs m) (hi : MxI w base bs m M) (hb : Bits M) (hn : 0 < M.length) : ∃ b cap, v = .slice (some ⟨b, 0, none⟩) M.length cap ∧ MxAll w base b cap bs M.length m M := by
  have hl := hi.1
  rcases ho.2 with ⟨_, h0⟩ | ⟨g, cap, cur, rfl, hbg, hg, h1, h2, h3, h4⟩
  · omega
  · refine ⟨g, cap, by rw [hl], rfl, hl, hb, ⟨hbg, h1, h2, cur.toList.drop bs.length, ?_, ?_⟩, hi⟩
    · rw [List.length_drop, Array.length_toList, h3]; omega
    · rw [Nat.mul_one] at h4
      rw [hg]
      congr 2
      apply Array.ext'
      have h5 : bs.map (rowV m) = cur.toList.take bs.length := h4.symm
      rw [h5, List.toList_toArray, List.take_append_drop]
end Go.Proofs.Ytomdfjohnmikdaa.Im
namespace Go.Proofs.Ytomdfjohnmikdaa.QA
open Go.Proofs.Ytomdfjohnmikdaa.Cw Go.Proofs.Ytomdfjohnmikdaa.Kp Go.Proofs.Ytomdfjohnmikdaa.Ext Go.RowKit Go.Proofs.YtomdfjohnmikdaaW.PrintWords Go.Proofs.YtomdfjohnmikdaaW.PrintLast Go.Proofs.YtomdfjohnmikdaaW.PrintMore
attribute [local go_sem] max2_int min2_int max_two min_two max_three min_three max_four min_four   -- for this text's walks alone
set_option linter.unusedVariables false
set_option linter.unusedSimpArgs false
def errW : Option Int → Value
 | none => .nilIface
 | some c => .iface 0 (.int .i64 c)
theorem errW_none : errW none = .nilIface := rfl
theorem errW_some (c : Int) : errW (some c) = .iface 0 (.int .i64 c) := rfl
end Go.Proofs.Ytomdfjohnmikdaa.QA
namespace Go.Proofs.Ytomdfjohnmikdaa.QA
open Go.Proofs.Ytomdfjohnmikdaa.Cw Go.Proofs.Ytomdfjohnmikdaa.Kp Go.Proofs.Ytomdfjohnmikdaa.Ext Go.RowKit Go.Proofs.YtomdfjohnmikdaaW.PrintWords Go.Proofs.YtomdfjohnmikdaaW.PrintLast Go.Proofs.YtomdfjohnmikdaaW.PrintMore
attribute [local go_sem] max2_int min2_int max_two min_two max_three min_three max_four min_four   -- for this text's walks alone
set_option linter.unusedVariables false
set_option linter.unusedSimpArgs false
def bits_OnesCount64.f (a0 : Int) : Option (Int) := some (Go.bits .and .i64 (wrap64 (IntKind.u64.wrap ((IntKind.u64.wrap ((IntKind.u64.wrap ((Go.bits .and .u64 (IntKind.u64.wrap (((IntKind.u64.wrap ((Go.bits .and .u64 ((IntKind.u64.wrap ((Go.bits .and .u64 (a0 / 2) 6148914691236517205) + (Go.bits .and .u64 a0 6148914691236517205))) / 4) 3689348814741910323) + (Go.bits .and .u64 (IntKind.u64.wrap ((Go.bits .and .u64 (a0 / 2) 6148914691236517205) + (Go.bits .and .u64 a0 6148914691236517205))) 3689348814741910323))) / 16) + (IntKind.u64.wrap ((Go.bits .and .u64 ((IntKind.u64.wrap ((Go.bits .and .u64 (a0 / 2) 6148914691236517205) + (Go.bits .and .u64 a0 6148914691236517205))) / 4) 3689348814741910323) + (Go.bits .and .u64 (IntKind.u64.wrap ((Go.bits .and .u64 (a0 / 2) 6148914691236517205) + (Go.bits .and .u64 a0 6148914691236517205))) 3689348814741910323))))) 1085102592571150095) + ((Go.bits .and .u64 (IntKind.u64.wrap (((IntKind.u64.wrap ((Go.bits .and .u64 ((IntKind.u64.wrap ((Go.bits .and .u64 (a0 / 2) 6148914691236517205) + (Go.bits .and .u64 a0 6148914691236517205))) / 4) 3689348814741910323) + (Go.bits .and .u64 (IntKind.u64.wrap ((Go.bits .and .u64 (a0 / 2) 6148914691236517205) + (Go.bits .and .u64 a0 6148914691236517205))) 3689348814741910323))) / 16) + (IntKind.u64.wrap ((Go.bits .and .u64 ((IntKind.u64.wrap ((Go.bits .and .u64 (a0 / 2) 6148914691236517205) + (Go.bits .and .u64 a0 6148914691236517205))) / 4) 3689348814741910323) + (Go.bits .and .u64 (IntKind.u64.wrap ((Go.bits .and .u64 (a0 / 2) 6148914691236517205) + (Go.bits .and .u64 a0 6148914691236517205))) 3689348814741910323))))) 1085102592571150095) / 256))) + ((IntKind.u64.wrap ((Go.bits .and .u64 (IntKind.u64.wrap (((IntKind.u64.wrap ((Go.bits .and .u64 ((IntKind.u64.wrap ((Go.bits .and .u64 (a0 / 2) 6148914691236517205) + (Go.bits .and .u64 a0 6148914691236517205))) / 4) 3689348814741910323) + (Go.bits .and .u64 (IntKind.u64.wrap ((Go.bits .and .u64 (a0 / 2) 6148914691236517205) + (Go.bits .and .u64 a0 6148914691236517205))) 3689348814741910323))) / 16) + (IntKind.u64.wrap ((Go.bits .and .u64 ((IntKind.u64.wrap ((Go.bits .and .u64 (a0 / 2) 6148914691236517205) + (Go.bits .and .u64 a0 6148914691236517205))) / 4) 3689348814741910323) + (Go.bits .and .u64 (IntKind.u64.wrap ((Go.bits .and .u64 (a0 / 2) 6148914691236517205) + (Go.bits .and .u64 a0 6148914691236517205))) 3689348814741910323))))) 1085102592571150095) + ((Go.bits .and .u64 (IntKind.u64.wrap (((IntKind.u64.wrap ((Go.bits .and .u64 ((IntKind.u64.wrap ((Go.bits .and .u64 (a0 / 2) 6148914691236517205) + (Go.bits .and .u64 a0 6148914691236517205))) / 4) 3689348814741910323) + (Go.bits .and .u64 (IntKind.u64.wrap ((Go.bits .and .u64 (a0 / 2) 6148914691236517205) + (Go.bits .and .u64 a0 6148914691236517205))) 3689348814741910323))) / 16) + (IntKind.u64.wrap ((Go.bits .and .u64 ((IntKind.u64.wrap ((Go.bits .and .u64 (a0 / 2) 6148914691236517205) + (Go.bits .and .u64 a0 6148914691236517205))) / 4) 3689348814741910323) + (Go.bits .and .u64 (IntKind.u64.wrap ((Go.bits .and .u64 (a0 / 2) 6148914691236517205) + (Go.bits .and .u64 a0 6148914691236517205))) 3689348814741910323))))) 1085102592571150095) / 256))) / 65536))) + ((IntKind.u64.wrap ((IntKind.u64.wrap ((Go.bits .and .u64 (IntKind.u64.wrap (((IntKind.u64.wrap ((Go.bits .and .u64 ((IntKind.u64.wrap ((Go.bits .and .u64 (a0 / 2) 6148914691236517205) + (Go.bits .and .u64 a0 6148914691236517205))) / 4) 3689348814741910323) + (Go.bits .and .u64 (IntKind.u64.wrap ((Go.bits .and .u64 (a0 / 2) 6148914691236517205) + (Go.bits .and .u64 a0 6148914691236517205))) 3689348814741910323))) / 16) + (IntKind.u64.wrap ((Go.bits .and .u64 ((IntKind.u64.wrap ((Go.bits .and .u64 (a0 / 2) 6148914691236517205) + (Go.bits .and .u64 a0 6148914691236517205))) / 4) 3689348814741910323) + (Go.bits .and .u64 (IntKind.u64.wrap ((Go.bits .and .u64 (a0 / 2) 6148914691236517205) + (Go.bits .and .u64 a0 6148914691236517205))) 3689348814741910323))))) 1085102592571150095) + ((Go.bits .and .u64 (IntKind.u64.wrap (((IntKind.u64.wrap ((Go.bits .and .u64 ((IntKind.u64.wrap ((Go.bits .and .u64 (a0 / 2) 6148914691236517205) + (Go.bits .and .u64 a0 6148914691236517205))) / 4) 3689348814741910323) + (Go.bits .and .u64 (IntKind.u64.wrap ((Go.bits .and .u64 (a0 / 2) 6148914691236517205) + (Go.bits .and .u64 a0 6148914691236517205))) 3689348814741910323))) / 16) + (IntKind.u64.wrap ((Go.bits .and .u64 ((IntKind.u64.wrap ((Go.bits .and .u64 (a0 / 2) 6148914691236517205) + (Go.bits .and .u64 a0 6148914691236517205))) / 4) 3689348814741910323) + (Go.bits .and .u64 (IntKind.u64.wrap ((Go.bits .and .u64 (a0 / 2) 6148914691236517205) + (Go.bits .and .u64 a0 6148914691236517205))) 3689348814741910323))))) 1085102592571150095) / 256))) + ((IntKind.u64.wrap ((Go.bits .and .u64 (IntKind.u64.wrap (((IntKind.u64.wrap ((Go.bits .and .u64 ((IntKind.u64.wrap ((Go.bits .and .u64 (a0 / 2) 6148914691236517205) + (Go.bits .and .u64 a0 6148914691236517205))) / 4) 3689348814741910323) + (Go.bits .and .u64 (IntKind.u64.wrap ((Go.bits .and .u64 (a0 / 2) 6148914691236517205) + (Go.bits .and .u64 a0 6148914691236517205))) 3689348814741910323))) / 16) + (IntKind.u64.wrap ((Go.bits .and .u64 ((IntKind.u64.wrap ((Go.bits .and .u64 (a0 / 2) 6148914691236517205) + (Go.bits .and .u64 a0 6148914691236517205))) / 4) 3689348814741910323) + (Go.bits .and .u64 (IntKind.u64.wrap ((Go.bits .and .u64 (a0 / 2) 6148914691236517205) + (Go.bits .and .u64 a0 6148914691236517205))) 3689348814741910323))))) 1085102592571150095) + ((Go.bits .and .u64 (IntKind.u64.wrap (((IntKind.u64.wrap ((Go.bits .and .u64 ((IntKind.u64.wrap ((Go.bits .and .u64 (a0 / 2) 6148914691236517205) + (Go.bits .and .u64 a0 6148914691236517205))) / 4) 3689348814741910323) + (Go.bits .and .u64 (IntKind.u64.wrap ((Go.bits .and .u64 (a0 / 2) 6148914691236517205) + (Go.bits .and .u64 a0 6148914691236517205))) 3689348814741910323))) / 16) + (IntKind.u64.wrap ((Go.bits .and .u64 ((IntKind.u64.wrap ((Go.bits .and .u64 (a0 / 2) 6148914691236517205) + (Go.bits .and .u64 a0 6148914691236517205))) / 4) 3689348814741910323) + (Go.bits .and .u64 (IntKind.u64.wrap ((Go.bits .and .u64 (a0 / 2) 6148914691236517205) + (Go.bits .and .u64 a0 6148914691236517205))) 3689348814741910323))))) 1085102592571150095) / 256))) / 65536))) / 4294967296)))) 127)
def impl_size.f (a0 : Int) : Option (Int) := (bits_OnesCount64.f (IntKind.u64.wrap (a0))).bind fun t101 => (some t101)
end Go.Proofs.Ytomdfjohnmikdaa.QA
namespace Go.Proofs.Ytomdfjohnmikdaa.Im
set_option linter.unusedVariables false
set_option linter.unusedSimpArgs false
open Go.RowKit Go.MapKept Go.Proofs.YtomdfjohnmikdaaW.PrintWords Go.Proofs.YtomdfjohnmikdaaW.PrintLast Go.Proofs.YtomdfjohnmikdaaW.PrintMore
def entV (p : Int × Bool) : Value × Value := (.int .i64 p.1, .bool p.2)
/-- Block b is a map with these entries, in the order of their making. -/
def MapB (w : World) (b : Nat) (M : List (Int × Bool)) : Prop := ∃ es clock, w.heap[b]? = some (.map es clock) ∧ es.toList.map (fun e => (e.key, e.val)) = M.map entV
def getM : List (Int × Bool) → Int → Bool
  | [], _ => false
  | p :: M, k => if k = p.1 then p.2 else getM M k
def putM : List (Int × Bool) → Int → Bool → List (Int × Bool)
  | [], k, v => [(k, v)]
  | p :: M, k, v => if k = p.1 then (k, v) :: M else p :: putM M k v
theorem getM_put (M : List (Int × Bool)) (k x : Int) (v : Bool) : getM (putM M k v) x = if x = k then v else getM M x := by
  induction M with
  | nil => simp [putM, getM]
  | cons p M ih =>
    unfold putM
    by_cases h : k = p.1
    · rw [if_pos h]
      simp only [getM]
      by_cases hx : x = k
      · rw [if_pos hx, if_pos hx]
      · rw [if_neg hx, if_neg hx, if_neg (by rw [← h]; exact hx)]
    · rw [if_neg h]
      simp only [getM, ih]
      by_cases hx : x = p.1
      · rw [if_pos hx, if_neg (by rw [hx]; exact fun e => h e.symm)]
        rw [if_pos hx]
      · rw [if_neg hx, if_neg hx]
theorem MapB.lt {w : World} {b : Nat} {M : List (Int × Bool)} (h : MapB w b M) : b < w.heap.size := by
  obtain ⟨es, c, hb, _⟩ := h
  exact (Array.getElem?_eq_some_iff.1 hb).1
theorem MapB.below {w w1 : World} {b : Nat} {M : List (Int × Bool)} (h : MapB w b M) (hb : Below w.heap.size w w1) : MapB w1 b M := by
  have hl := h.lt
  obtain ⟨es, c, h1, h2⟩ := h
  exact ⟨es, c, (hb.block b hl).trans h1, h2⟩
theorem MapB.drew {w : World} {b : Nat} {M : List (Int × Bool)} (h : MapB w b M) : MapB w.drew b M := h
theorem MapB.drewN {w : World} {b : Nat} {M : List (Int × Bool)} (h : MapB w b M) (n : Nat) : MapB (w.drewN n) b M := h
theorem MapB.alloc {w : World} {b : Nat} {M : List (Int × Bool)} (h : MapB w b M) (o : Obj) : MapB (w.alloc o) b M := h.below (below_alloc (Below.refl _ _) o)
theorem MapB.made (w : World) : MapB (w.alloc (.map #[] 0)) w.heap.size [] := ⟨#[], 0, (heap_alloc w _).1, rfl⟩
theorem MapB.far {w : World} {b : Nat} {M : List (Int × Bool)} (h : MapB w b M) {p : Addr} (hp : b ≠ p.block) (u : Value) : MapB (w.setCell p u) b M := by
  obtain ⟨es, c, h1, h2⟩ := h
  exact ⟨es, c, (Below.heap_setCell w p u b hp).trans h1, h2⟩
/-- Block b is no block of cells. -/
theorem MapB.ne {w : World} {b g : Nat} {M : List (Int × Bool)} (h : MapB w b M) {cs : Array Value} {t : TypeId} {fr : Nat × Nat} (hg : w.heap[g]? = some (.cells cs t fr)) : b ≠ g := by
  rintro rfl
  obtain ⟨es, c, h1, _⟩ := h
  rw [hg] at h1
  cases h1
theorem findNow_entV (k : Int) : ∀ (es : List MapEntry) (M : List (Int × Bool)) (i : Nat), es.map (fun e => (e.key, e.val)) = M.map entV →
    (getM M k = false ∧ (∀ v, putM M k v = M ++ [(k, v)]) ∧ Instr.findNow (.int .i64) (.int .i64 k) es i = some none) ∨
    (∃ j e, es[j]? = some e ∧ e.key = .int .i64 k ∧ e.val = .bool (getM M k) ∧ (∀ v, (putM M k v).map entV = (M.map entV).set j (.int .i64 k, .bool v)) ∧ Instr.findNow (.int .i64) (.int .i64 k) es i = some (some (i + j, .bool (getM M k))))
  | [], [], i, _ => .inl ⟨rfl, fun _ => rfl, rfl⟩
  | [], _ :: _, _, h => by simp at h
  | _ :: _, [], _, h => by simp at h
  | e :: es, p :: M, i, h => by
    simp only [List.map_cons, List.cons.injEq] at h
    obtain ⟨h1, h2⟩ := h
    have hk : e.key = .int .i64 p.1 := congrArg Prod.fst h1
    have hv : e.val = .bool p.2 := congrArg Prod.snd h1
    by_cases hp : k = p.1
    · refine .inr ⟨0, e, rfl, by rw [hk, hp], by simp [getM, hp, hv], fun v => by simp [putM, hp, entV], ?_⟩
      simp [Instr.findNow, Instr.sameNow, hk, hp, hv, getM]
    · have hf : Instr.sameNow (.int .i64) (.int .i64 k) e.key = some false := by simp [Instr.sameNow, hk, hp]
      rcases findNow_entV k es M (i + 1) h2 with ⟨a1, a2, a3⟩ | ⟨j, e', a1, a2, a3, a4, a5⟩
      · refine .inl ⟨by simp [getM, hp, a1], fun v => by simp [putM, hp, a2], ?_⟩
        simp [Instr.findNow, hf, a3]
      · refine .inr ⟨j + 1, e', by simpa using a1, a2, by simp [getM, hp, a3], fun v => by simp [putM, hp, a4], ?_⟩
        simp only [Instr.findNow, hf, a5, getM, if_neg hp]
        congr 3
        omega
section
variable {P : Program} {w : World} {t k e : TypeId} {b : Nat} {M : List (Int × Bool)}
theorem MapB.look (h : MapB w b M) (ht : P.underlying t = some (.map k e)) (hk : P.underlying k = some (.int .i64)) (hz : (zeroValue e).run P w = .ok (.bool false) w) (x : Int) :
    (Instr.lookup t (.map (some b)) (.int .i64 x) false).run P w = .ok (.bool (getM M x)) w := by
  obtain ⟨es, c, h1, h2⟩ := h
  have hc : ∀ em, (Instr.checkKey em 10000 k (.int .i64 x)).run P w = .ok () w := fun em => run_checkKey hk (by simp [IsKey]) em 9999
  rcases findNow_entV x es.toList M 0 h2 with ⟨a1, _, a3⟩ | ⟨j, e', _, _, _, _, a5⟩
  · have hf := run_findKey (w := w) hk a3
    simp [Instr.lookup, run_underlying ht, Go.MapKept.run_getObj_map h1, hc, hf, hz, Result.andThen, a1]
  · have hf := run_findKey (w := w) hk a5
    simp [Instr.lookup, run_underlying ht, Go.MapKept.run_getObj_map h1, hc, hf, Result.andThen]
theorem MapB.put (h : MapB w b M) (ht : P.underlying t = some (.map k e)) (hk : P.underlying k = some (.int .i64)) (x : Int) (v : Bool) :
    ∃ w', (Instr.mapUpdate t (.map (some b)) (.int .i64 x) (.bool v)).run P w = .ok () w' ∧ MapB w' b (putM M x v) ∧ w.grownBy w' (some b) ∧ w'.heap.size = w.heap.size := by
  obtain ⟨es, c, h1, h2⟩ := h
  have hc : (Instr.checkKey false 10000 k (.int .i64 x)).run P w = .ok () w := run_checkKey hk (by simp [IsKey]) false 9999
  have hg : ∀ o, w.grownBy { w with heap := w.heap.setIfInBounds b o } (some b) := fun o => ⟨rfl, rfl, rfl, by simp, fun i _ hi => (heap_set h1).2 i (fun q => hi (by rw [q]))⟩
  rcases findNow_entV x es.toList M 0 h2 with ⟨a1, a2, a3⟩ | ⟨j, e', a1, a2, a3, a4, a5⟩
  · have hf := run_findKey (w := w) hk a3
    refine ⟨{ w with heap := w.heap.setIfInBounds b (.map (es.push { key := .int .i64 x, val := .bool v, born := c }) (c + 1)) }, ?_, ⟨_, _, (heap_set h1).1, ?_⟩, hg _, by simp⟩
    · simp [Instr.mapUpdate, run_underlying ht, Go.MapKept.run_getObj_map h1, hc, hf, Go.MapKept.run_setObj_map _ h1, Result.andThen]
    · simp [a2, h2, entV]
  · have hf := run_findKey (w := w) hk a5
    have hj : es[j]? = some e' := by simpa using a1
    refine ⟨{ w with heap := w.heap.setIfInBounds b (.map (es.modify j fun q => { q with key := .int .i64 x, val := .bool v }) c) }, ?_, ⟨_, _, (heap_set h1).1, ?_⟩, hg _, by simp⟩
    · simp [Instr.mapUpdate, run_underlying ht, Go.MapKept.run_getObj_map h1, hc, hf, Instr.keyThatStays, Instr.sameBits, hj, a2, Go.MapKept.run_setObj_map _ h1, Result.andThen]
    · rw [a4, ← h2]
      apply List.ext_getElem?
      intro m
      simp only [Array.toList_modify, List.getElem?_map, List.getElem?_modify, List.getElem?_set, List.length_map]
      by_cases hm : j = m
      · subst hm
        have : j < es.toList.length := (List.getElem?_eq_some_iff.1 a1).1
        rw [a1]
        simpa using this
      · cases hq : es.toList[m]? <;> simp [hm]
end
end Go.Proofs.Ytomdfjohnmikdaa.Im
namespace Go.Proofs.Ytomdfjohnmikdaa.Im
set_option linter.unusedVariables false
set_option linter.unusedSimpArgs false
open Go.RowKit Go.Shelf Go.Proofs.Ytomdfjohnmikdaa.Kp Go.Proofs.Ytomdfjohnmikdaa.Ext Go.Proofs.Ytomdfjohnmikdaa.Cw Go.Proofs.YtomdfjohnmikdaaW.PrintWords Go.Proofs.YtomdfjohnmikdaaW.PrintLast Go.Proofs.YtomdfjohnmikdaaW.PrintMore
end Go.Proofs.Ytomdfjohnmikdaa.Im
namespace Go.Proofs.Ytomdfjohnmikdaa.Im
set_option linter.unusedVariables false
set_option linter.unusedSimpArgs false
open Go.RowKit Go.Shelf Go.Proofs.Ytomdfjohnmikdaa.Kp Go.Proofs.Ytomdfjohnmikdaa.Ext Go.Proofs.Ytomdfjohnmikdaa.Cw Go.Proofs.YtomdfjohnmikdaaW.PrintWords Go.Proofs.YtomdfjohnmikdaaW.PrintLast Go.Proofs.YtomdfjohnmikdaaW.PrintMore
section
variable {P : Program} {ops : Array Oper} {Q : Exit → Act → World → Prop} {a : Act} {w : World} {oi : Oper}
end
section
variable {P : Program} {ops : Array Oper} {Q : Exit → Act → World → Prop} {S : World → Prop} {ds : List Nat} {md : Region.Mode} {T : Bool × List (List Nat × List Nat)} {n m fuel : Nat} {a : Act} {w : World} {oi oj : Oper}
end
end Go.Proofs.Ytomdfjohnmikdaa.Im
namespace Go.Proofs.Ytomdfjohnmikdaa.Im
set_option linter.unusedVariables false
set_option linter.unusedSimpArgs false
open Go.RowKit Go.Shelf Go.Proofs.Ytomdfjohnmikdaa.Kp Go.Proofs.Ytomdfjohnmikdaa.Ext Go.Proofs.Ytomdfjohnmikdaa.Cw Go.Proofs.YtomdfjohnmikdaaW.PrintWords Go.Proofs.YtomdfjohnmikdaaW.PrintLast Go.Proofs.YtomdfjohnmikdaaW.PrintMore
end Go.Proofs.Ytomdfjohnmikdaa.Im
namespace Go.Proofs.Ytomdfjohnmikdaa.QS
open Go.Proofs.Ytomdfjohnmikdaa.Cw Go.Proofs.Ytomdfjohnmikdaa.Kp Go.Proofs.Ytomdfjohnmikdaa.Ext Go.RowKit Go.Proofs.YtomdfjohnmikdaaW.PrintWords Go.Proofs.YtomdfjohnmikdaaW.PrintLast Go.Proofs.YtomdfjohnmikdaaW.PrintMore
attribute [local go_sem] max2_int min2_int max_two min_two max_three min_three max_four min_four   -- for this text's walks alone
set_option linter.unusedVariables false
set_option linter.unusedSimpArgs false
end Go.Proofs.Ytomdfjohnmikdaa.QS
namespace Go.Proofs.Ytomdfjohnmikdaa.QS
open Go.Proofs.Ytomdfjohnmikdaa.Cw Go.Proofs.Ytomdfjohnmikdaa.Kp Go.Proofs.Ytomdfjohnmikdaa.Ext Go.RowKit Go.Proofs.YtomdfjohnmikdaaW.PrintWords Go.Proofs.YtomdfjohnmikdaaW.PrintLast Go.Proofs.YtomdfjohnmikdaaW.PrintMore
attribute [local go_sem] max2_int min2_int max_two min_two max_three min_three max_four min_four   -- for this text's walks alone
set_option linter.unusedVariables false
set_option linter.unusedSimpArgs false
end Go.Proofs.Ytomdfjohnmikdaa.QS
namespace Go.Proofs.Ytomdfjohnmikdaa.QS
open Go.Proofs.Ytomdfjohnmikdaa.Cw Go.Proofs.Ytomdfjohnmikdaa.Kp Go.Proofs.Ytomdfjohnmikdaa.Ext Go.RowKit Go.Proofs.YtomdfjohnmikdaaW.PrintWords Go.Proofs.YtomdfjohnmikdaaW.PrintLast Go.Proofs.YtomdfjohnmikdaaW.PrintMore
attribute [local go_sem] max2_int min2_int max_two min_two max_three min_three max_four min_four   -- for this text's walks alone
set_option linter.unusedVariables false
set_option linter.unusedSimpArgs false
end Go.Proofs.Ytomdfjohnmikdaa.QS
namespace Go.Proofs.Ytomdfjohnmikdaa.Im
set_option linter.unusedVariables false
set_option linter.unusedSimpArgs false
open Go.RowKit Go.Shelf Go.Proofs.Ytomdfjohnmikdaa.Cw Go.Proofs.YtomdfjohnmikdaaW.PrintWords Go.Proofs.YtomdfjohnmikdaaW.PrintLast Go.Proofs.YtomdfjohnmikdaaW.PrintMore
abbrev RI (w : World) (base : Nat) (ok : Nat → Prop) (v : Value) (xs : List Int) : Prop := Kd.R (Kd.int .i64) 2 w base ok v xs
theorem RI.low {w : World} {base base' : Nat} {v : Value} {xs : List Int} (h : RI w base (fun _ => True) v xs) (hb : base' ≤ base) : RI w base' (fun k => k < w.heap.size) v xs := Kd.R_lower (Kd.R_mono (Kd.R_bound h) (fun k hk => hk.2.2.1)) hb
/-- Two rows that were there before the matrix grew. -/
def Two (W : World) (base Y : Nat) (v7 : Value) (F : List Int) (v8 : Value) (C : List Int) : Prop := RI W base (fun k => k < Y) v7 F ∧ RI W base (fun k => k < Y) v8 C ∧ Y ≤ W.heap.size
section
variable {W W1 : World} {base Y : Nat} {v7 v8 : Value} {F C : List Int}
theorem Two.of (h7 : RI W base (fun _ => True) v7 F) (h8 : RI W base (fun _ => True) v8 C) : ∃ Y, Two W base Y v7 F v8 C := ⟨_, RI.low h7 (Nat.le_refl _), RI.low h8 (Nat.le_refl _), Nat.le_refl _⟩
theorem Two.below (h : Two W base Y v7 F v8 C) (hb : Below W.heap.size W W1) : Two W1 base Y v7 F v8 C := ⟨Kd.R_below h.1 hb, Kd.R_below h.2.1 hb, Nat.le_trans h.2.2 hb.size⟩
theorem Two.far (h : Two W base Y v7 F v8 C) {y : Nat} (hy : Y ≤ y) (j : Nat) (u : Value) : Two (W.setCell ⟨y, j, none⟩ u) base Y v7 F v8 C :=
  ⟨Kd.R_far h.1 (p := ⟨y, j, none⟩) (fun k hk => Nat.ne_of_lt (Nat.lt_of_lt_of_le hk hy)) u, Kd.R_far h.2.1 (p := ⟨y, j, none⟩) (fun k hk => Nat.ne_of_lt (Nat.lt_of_lt_of_le hk hy)) u, by simpa using h.2.2⟩
theorem Two.grown (h : Two W base Y v7 F v8 C) {base' m : Nat} {bs : List Nat} {v : Value} (ho : MxW W base' v bs m) (hg : W.grownBy W1 v.ownBlock) : Two W1 base Y v7 F v8 C :=
  ⟨Kd.R_over' h.1 (fun k hk => own_typed ho k hk) (by decide) hg, Kd.R_over' h.2.1 (fun k hk => own_typed ho k hk) (by decide) hg, Nat.le_trans h.2.2 hg.size⟩
end
end Go.Proofs.Ytomdfjohnmikdaa.Im
namespace Go.Proofs.Ytomdfjohnmikdaa.Im
set_option linter.unusedVariables false
set_option linter.unusedSimpArgs false
open Go.RowKit Go.Shelf Go.Proofs.Ytomdfjohnmikdaa.Cw Go.Proofs.Ytomdfjohnmikdaa.Ext Go.Proofs.Ytomdfjohnmikdaa.Pu Go.Proofs.YtomdfjohnmikdaaW.PrintWords Go.Proofs.YtomdfjohnmikdaaW.PrintLast Go.Proofs.YtomdfjohnmikdaaW.PrintMore
theorem RI.row {w : World} {base : Nat} {ok : Nat → Prop} {v : Value} {xs : List Int} (h : RI w base ok v xs) : w.ownsRow base 2 1 v xs.length (xs.map (Value.int .i64)) := RO.row (Kd.R_mono h (fun _ _ => trivial))
theorem RI.of_row {w : World} {base : Nat} {ok : Nat → Prop} {v : Value} {xs : List Int} (h0 : ∀ k, v.ownBlock = some k → ok k) (h : w.ownsRow base 2 1 v xs.length (xs.map (Value.int .i64))) : RI w base ok v xs := by
  refine ⟨h0, xs.map (Value.int .i64), h, ⟨by simp [Kd.int, Kd.scalar], fun j p hp => ?_⟩⟩
  obtain ⟨hj, rfl⟩ := List.getElem?_eq_some_iff.1 hp
  show ((xs.map (Value.int .i64)).drop (j * 1)).take 1 = [Value.int .i64 xs[j]]
  rw [Nat.mul_one, List.drop_eq_getElem_cons (by simpa using hj)]
  simp
/-- The last element is cut off. -/
theorem RI.cut {w : World} {base : Nat} {ok : Nat → Prop} {v : Value} {xs : List Int} {x : Int} (h : RI w base ok v (xs ++ [x])) : ∃ g cap, v = .slice (some ⟨g, 0, none⟩) (xs.length + 1) cap ∧ xs.length + 1 ≤ cap ∧ RI w base ok (.slice (some ⟨g, 0, none⟩) xs.length cap) xs := by
  have hr := h.row
  obtain ⟨h0, _⟩ := h
  rw [List.length_append, List.length_singleton] at hr
  rcases hr.2 with ⟨_, h1⟩ | ⟨g, cap, cur, rfl, hb, hg, h1, h2, h3, h4⟩
  · omega
  · refine ⟨g, cap, rfl, h1, RI.of_row (fun k hk => h0 k hk) ⟨by simp, .inr ⟨g, cap, cur, rfl, hb, hg, by omega, h2, h3, ?_⟩⟩⟩
    have e := congrArg (List.take (xs.length * 1)) h4
    rw [List.take_take, Nat.min_eq_left (by omega), List.map_append, List.take_append_of_le_length (by simp), List.take_of_length_le (l := xs.map (Value.int .i64)) (by simp)] at e
    exact e
/-- The closure. -/
def growV (yl yf yd yg : Nat) : Value := .func (.func 85) #[] #[.pointer (some ⟨yl, 0, none⟩), .pointer (some ⟨yf, 0, none⟩), .pointer (some ⟨yd, 0, none⟩), .pointer (some ⟨yg, 0, none⟩)]
/-- What the closure's variables hold. -/
structure GS (W : World) (base Y yl yf yd yg ym : Nat) (v : Value) (ls fs : List Int) (A : Option Addr) (c : Nat) (M : List (Int × Bool)) : Prop where
  bl : W.heap[yl]? = some (.cells #[v] 22 (0, 0))
  bf : W.heap[yf]? = some (.cells #[.slice A fs.length c] 22 (0, 0))
  bd : W.heap[yd]? = some (.cells #[.map (some ym)] 97 (0, 0))
  bg : W.heap[yg]? = some (.cells #[growV yl yf yd yg] 98 (0, 0))
  ne : yl ≠ yf
  l0 : base ≤ yl
  m0 : base ≤ ym
  y0 : base ≤ Y
  y1 : Y ≤ W.heap.size
  mp : MapB W ym M
  rl : RI W base (fun k => Y ≤ k) v ls
  rf : RI W base (fun k => k < Y) (.slice A fs.length c) fs
section
variable {W W1 : World} {base Y yl yf yd yg ym : Nat} {v : Value} {ls fs : List Int} {A : Option Addr} {c : Nat} {M : List (Int × Bool)}
theorem GS.below (h : GS W base Y yl yf yd yg ym v ls fs A c M) (hb : Below W.heap.size W W1) : GS W1 base Y yl yf yd yg ym v ls fs A c M :=
  ⟨(hb.block _ (blk_lt h.bl)).trans h.bl, (hb.block _ (blk_lt h.bf)).trans h.bf, (hb.block _ (blk_lt h.bd)).trans h.bd, (hb.block _ (blk_lt h.bg)).trans h.bg, h.ne, h.l0, h.m0, h.y0, Nat.le_trans h.y1 hb.size, h.mp.below hb, Kd.R_below h.rl hb, Kd.R_below h.rf hb⟩
theorem GS.drew (h : GS W base Y yl yf yd yg ym v ls fs A c M) : GS W.drew base Y yl yf yd yg ym v ls fs A c M := ⟨h.bl, h.bf, h.bd, h.bg, h.ne, h.l0, h.m0, h.y0, h.y1, h.mp, h.rl, h.rf⟩
theorem GS.cl (h : GS W base Y yl yf yd yg ym v ls fs A c M) : W.cell? ⟨yl, 0, none⟩ = some v ∧ W.frozen? ⟨yl, 0, none⟩ = false := ⟨(cell_of_row W yl 0 _ _ _ h.bl).trans rfl, blk_frozen h.bl 0⟩
theorem GS.cf (h : GS W base Y yl yf yd yg ym v ls fs A c M) : W.cell? ⟨yf, 0, none⟩ = some (.slice A fs.length c) := (cell_of_row W yf 0 _ _ _ h.bf).trans rfl
theorem GS.cd (h : GS W base Y yl yf yd yg ym v ls fs A c M) : W.cell? ⟨yd, 0, none⟩ = some (.map (some ym)) := (cell_of_row W yd 0 _ _ _ h.bd).trans rfl
theorem GS.cg (h : GS W base Y yl yf yd yg ym v ls fs A c M) : W.cell? ⟨yg, 0, none⟩ = some (growV yl yf yd yg) := (cell_of_row W yg 0 _ _ _ h.bg).trans rfl
/-- The list's variable is set to another row. -/
theorem GS.set (h : GS W base Y yl yf yd yg ym v ls fs A c M) {v1 : Value} {ls1 : List Int} (hr : RI W base (fun k => Y ≤ k) v1 ls1) : GS (W.setCell ⟨yl, 0, none⟩ v1) base Y yl yf yd yg ym v1 ls1 fs A c M := by
  have hfar : ∀ (k : Nat) (cells : Array Value) (t : TypeId), W.heap[k]? = some (.cells cells t (0, 0)) → t ≠ 22 → (W.setCell ⟨yl, 0, none⟩ v1).heap[k]? = some (.cells cells t (0, 0)) := fun k cells t hk ht => (Below.heap_setCell W ⟨yl, 0, none⟩ v1 k (blk_ne hk h.bl ht)).trans hk
  have hty : ∀ {ok : Nat → Prop} {u : Value} {us : List Int}, RI W base ok u us → RI (W.setCell ⟨yl, 0, none⟩ v1) base ok u us := fun hu => Kd.R_mono (Kd.R_far (Kd.R_bound hu) (p := ⟨yl, 0, none⟩) (fun k hk => by
    obtain ⟨_, _, _, q, hq, cells, hc⟩ := hk
    refine blk_ne hc h.bl ?_
    rintro rfl
    revert hq
    decide) v1) (fun k hk => hk.1)
  exact ⟨blk_put h.bl 0 v1 rfl, (Below.heap_setCell W ⟨yl, 0, none⟩ v1 yf (Ne.symm h.ne)).trans h.bf, hfar _ _ _ h.bd (by decide), hfar _ _ _ h.bg (by decide), h.ne, h.l0, h.m0, h.y0, by simpa using h.y1, h.mp.far (p := ⟨yl, 0, none⟩) (h.mp.ne h.bl) v1, hty hr, hty h.rf⟩
/-- An append to the list has gone through. -/
theorem GS.grown (h : GS W base Y yl yf yd yg ym v ls fs A c M) {v1 : Value} {ls1 : List Int} (hg : W.grownBy W1 v.ownBlock) (hr : RI W1 base (fun k => Y ≤ k) v1 ls1) : GS (W1.setCell ⟨yl, 0, none⟩ v1) base Y yl yf yd yg ym v1 ls1 fs A c M := by
  obtain ⟨inner, ho⟩ := Kd.R_own h.rl
  have hblk : ∀ (k : Nat) (cells : Array Value) (t : TypeId), W.heap[k]? = some (.cells cells t (0, 0)) → t ≠ 2 → W1.heap[k]? = some (.cells cells t (0, 0)) := fun k cells t hk ht => (hg.block k (blk_lt hk) (Kd.R_ne h.rl hk (fun e => ht e.symm))).trans hk
  have h1 : RI W1 base (fun k => k < Y) (.slice A fs.length c) fs := Kd.R_grown h.rf hg (fun k hk e => by
    have := h.rl.1 k e.symm
    omega)
  have hm : MapB W1 ym M := by
    have hl := h.mp.lt
    have hne : some ym ≠ v.ownBlock := fun e => by
      obtain ⟨cells, hc⟩ := own_typed ho ym e.symm
      exact h.mp.ne hc rfl
    obtain ⟨es, q, h2, h3⟩ := h.mp
    exact ⟨es, q, (hg.block ym hl hne).trans h2, h3⟩
  have hfar : ∀ (k : Nat) (cells : Array Value) (t : TypeId), W1.heap[k]? = some (.cells cells t (0, 0)) → t ≠ 22 → (W1.setCell ⟨yl, 0, none⟩ v1).heap[k]? = some (.cells cells t (0, 0)) := fun k cells t hk ht => (Below.heap_setCell W1 ⟨yl, 0, none⟩ v1 k (blk_ne hk (hblk _ _ _ h.bl (by decide)) ht)).trans hk
  have hty : ∀ {ok : Nat → Prop} {u : Value} {us : List Int}, RI W1 base ok u us → RI (W1.setCell ⟨yl, 0, none⟩ v1) base ok u us := fun hu => Kd.R_mono (Kd.R_far (Kd.R_bound hu) (p := ⟨yl, 0, none⟩) (fun k hk => by
    obtain ⟨_, _, _, q, hq, cells, hc⟩ := hk
    refine blk_ne hc (hblk _ _ _ h.bl (by decide)) ?_
    rintro rfl
    revert hq
    decide) v1) (fun k hk => hk.1)
  exact ⟨blk_put (hblk _ _ _ h.bl (by decide)) 0 v1 rfl, (Below.heap_setCell W1 ⟨yl, 0, none⟩ v1 yf (Ne.symm h.ne)).trans (hblk _ _ _ h.bf (by decide)), hfar _ _ _ (hblk _ _ _ h.bd (by decide)) (by decide), hfar _ _ _ (hblk _ _ _ h.bg (by decide)) (by decide), h.ne, h.l0, h.m0, h.y0, by have := hg.size; simp; exact Nat.le_trans h.y1 this, hm.far (p := ⟨yl, 0, none⟩) (hm.ne (hblk _ _ _ h.bl (by decide))) v1, hty hr, hty h1⟩
/-- The map has been written. -/
theorem GS.put (h : GS W base Y yl yf yd yg ym v ls fs A c M) (hg : W.grownBy W1 (some ym)) (hs : W1.heap.size = W.heap.size) {M1 : List (Int × Bool)} (hm : MapB W1 ym M1) : GS W1 base Y yl yf yd yg ym v ls fs A c M1 := by
  have hblk : ∀ (k : Nat) (cells : Array Value) (t : TypeId), W.heap[k]? = some (.cells cells t (0, 0)) → W1.heap[k]? = some (.cells cells t (0, 0)) := fun k cells t hk => (hg.block k (blk_lt hk) (fun e => h.mp.ne (b := ym) (by injection e with e; rw [← e]; exact hk) rfl)).trans hk
  have hr : ∀ {ok : Nat → Prop} {u : Value} {us : List Int}, RI W base ok u us → RI W1 base ok u us := fun hu => Kd.R_mono (Kd.R_step (Kd.R_bound hu) (fun k hk hlt => hg.block k hlt (fun e => by
    obtain ⟨_, _, _, q, _, cells, hc⟩ := hk
    injection e with e
    subst e
    exact h.mp.ne hc rfl))) (fun k hk => hk.1)
  exact ⟨hblk _ _ _ h.bl, hblk _ _ _ h.bf, hblk _ _ _ h.bd, hblk _ _ _ h.bg, h.ne, h.l0, h.m0, h.y0, by rw [hs]; exact h.y1, hm, hr h.rl, hr h.rf⟩
end
/-- The map tells what the list of flags tells. -/
def MD (M : List (Int × Bool)) (dead : List Bool) (N : Nat) : Prop := dead.length = N ∧ ∀ u : Nat, u < N → getM M (u : Int) = dead.getD u false
theorem MD.set {M : List (Int × Bool)} {dead : List Bool} {N u : Nat} (h : MD M dead N) (hu : u < N) : MD (putM M (u : Int) true) (dead.set u true) N := by
  refine ⟨by simpa using h.1, fun x hx => ?_⟩
  rw [getM_put, List.getD_eq_getElem?_getD, List.getElem?_set]
  by_cases he : (x : Int) = (u : Int)
  · rw [if_pos he, if_pos (by omega), if_pos (by have := h.1; omega)]; rfl
  · rw [if_neg he, if_neg (by omega), h.2 x hx, List.getD_eq_getElem?_getD]
theorem lookD {w : World} {b : Nat} {M : List (Int × Bool)} {v : Bool} (h : MapB w b M) {x : Int} (hv : getM M x = v) : (Instr.lookup 97 (.map (some b)) (.int .i64 x) false).run Try.prog w = .ok (.bool v) w := by
  rw [← hv]
  exact h.look Try.underlying97 Try.underlying3 (by kernel_rfl) x
theorem putD {w : World} {b : Nat} {M : List (Int × Bool)} (h : MapB w b M) (x : Int) (v : Bool) : ∃ w', (Instr.mapUpdate 97 (.map (some b)) (.int .i64 x) (.bool v)).run Try.prog w = .ok () w' ∧ MapB w' b (putM M x v) ∧ w.grownBy w' (some b) ∧ w'.heap.size = w.heap.size :=
  h.put Try.underlying97 Try.underlying3 x v
section
variable {P : Program} {ops : Array Oper} {Q : Exit → Act → World → Prop} {a : Act} {w : World} {oi : Oper}
/-- A call of a closure, in a region that draws. -/
theorem caW_ {N : Option Tmp} {K : Act → World → Prop} {f : FuncId} {fn : Func} {k : Operand} {az : Array Operand} {ts : Array TypeId} {lb : Array Value} (hf : P.funcs[f]? = some fn) (args : Array Value)
    (h : Calls P f args w fun e w' => ∃ v, e = .returned v ∧ K (a.put N v) w') (hname : (fn.name == "runtime.NumGoroutine") = false := by kernel_rfl) (hb : fn.body.isSome = true := by rfl)
    (hw : Region.wanted oi (yielded ops a.tmps) = true := by rfl) (hN : oi.dst = N := by rfl) (hop : oi.op = .call { callee := .value k, args := az, argTypes := ts } := by rfl)
    (hev : a.eval k = .func (.func f) #[] lb := by rfl)
    (hargs : az.map a.eval ++ lb = args := by ((try simp only [List.map_toArray, List.map_cons, List.map_nil]); first | done | rfl)) : if Region.wanted oi (yielded ops a.tmps) = true then Oper.wp P oi a w K Q else K (a.put N undef) w := by
  refine call_ f args hw hN ?_ h
  have he := enters_ hf hname hb args w
  unfold execOp
  simp [hop, resolve, Deferred.ofValue, invoke, hev, hargs, he]
end
theorem set_bit2 {u i : Nat} (hu : u < 4096) (hi : i < 12) : Go.bits .and .i64 ((u : Int) / 2 ^ i) 1 = 1 ↔ u.testBit i = true := by
  have h := (set_bit hu hi).2.1
  rw [show IntKind.u64.wrap (i : Int) = (i : Int) by rw [IntKind.wrap_u64]; omega] at h
  unfold shr at h
  rw [show min ((i : Int)).toNat IntKind.i64.bits = i by simp [IntKind.bits]; omega] at h
  exact h
theorem or_bit {u i : Nat} (hu : u < 4096) (hi : i < 12) : Go.bits .or .i64 (u : Int) (wrap64 (2 ^ i)) = ((u ||| 2 ^ i : Nat) : Int) := by
  have h := (set_bit hu hi).2.2.1
  rw [show IntKind.u64.wrap (i : Int) = (i : Int) by rw [IntKind.wrap_u64]; omega] at h
  unfold shl at h
  rw [show min ((i : Int)).toNat IntKind.i64.bits = i by simp [IntKind.bits]; omega, Int.one_mul, Go.IntWalk.i64_left] at h
  exact h
section
variable {fs ls : List Int} {rec : List Int → Nat → List Bool → List Int × Bool × List Bool} {u i : Nat} {dead : List Bool} {f : Int}
theorem loop_skip (hi : i < fs.length) (ht : u.testBit i = true) : loopF fs rec ls u (List.range' i (fs.length - i)) dead = loopF fs rec ls u (List.range' (i + 1) (fs.length - (i + 1))) dead := by
  rw [show fs.length - i = (fs.length - (i + 1)) + 1 by omega, List.range'_succ, loopF, if_pos ht]
theorem loop_no (hi : i < fs.length) (ht : ¬ u.testBit i = true) (hf : fs.getD i 0 = f) (hn : nextB ls f = false) : loopF fs rec ls u (List.range' i (fs.length - i)) dead = loopF fs rec ls u (List.range' (i + 1) (fs.length - (i + 1))) dead := by
  rw [show fs.length - i = (fs.length - (i + 1)) + 1 by omega, List.range'_succ, loopF, if_neg ht, hf, hn, if_neg Bool.false_ne_true]
theorem loop_hit (hi : i < fs.length) (ht : ¬ u.testBit i = true) (hf : fs.getD i 0 = f) (hn : nextB ls f = true) (hr : (rec (ls ++ [f]) (u ||| 2 ^ i) dead).2.1 = true) : loopF fs rec ls u (List.range' i (fs.length - i)) dead = rec (ls ++ [f]) (u ||| 2 ^ i) dead := by
  rw [show fs.length - i = (fs.length - (i + 1)) + 1 by omega, List.range'_succ, loopF, if_neg ht, hf, hn, if_pos rfl, if_pos hr]
theorem loop_miss (hi : i < fs.length) (ht : ¬ u.testBit i = true) (hf : fs.getD i 0 = f) (hn : nextB ls f = true) (hr : (rec (ls ++ [f]) (u ||| 2 ^ i) dead).2.1 = false) : loopF fs rec ls u (List.range' i (fs.length - i)) dead = loopF fs rec ls u (List.range' (i + 1) (fs.length - (i + 1))) (rec (ls ++ [f]) (u ||| 2 ^ i) dead).2.2 := by
  rw [show fs.length - i = (fs.length - (i + 1)) + 1 by omega, List.range'_succ, loopF, if_neg ht, hf, hn, if_pos rfl, if_neg (by rw [hr]; exact Bool.false_ne_true)]
end
theorem GS.clg {W W1 : World} {base Y yl yf yd yg ym : Nat} {v : Value} {ls fs : List Int} {A : Option Addr} {c : Nat} {M : List (Int × Bool)} (h : GS W base Y yl yf yd yg ym v ls fs A c M) (hg : W.grownBy W1 v.ownBlock) : W1.cell? ⟨yl, 0, none⟩ = some v ∧ W1.frozen? ⟨yl, 0, none⟩ = false := by
  have hb : W1.heap[yl]? = some (.cells #[v] 22 (0, 0)) := (hg.block yl (blk_lt h.bl) (Kd.R_ne h.rl h.bl (by decide))).trans h.bl
  exact ⟨(cell_of_row W1 yl 0 _ _ _ hb).trans rfl, blk_frozen hb 0⟩
/-- What the closure leaves. -/
def GrowPost (W : World) (base Y yl yf yd yg ym N : Nat) (ls fs : List Int) (A : Option Addr) (c : Nat) (R : List Int × Bool × List Bool) (e : Ending) (W' : World) : Prop :=
  e = .returned (.bool R.2.1) ∧ ∃ v' M', GS W' base Y yl yf yd yg ym v' (if R.2.1 = true then R.1 else ls) fs A c M' ∧ MD M' R.2.2 N ∧ Below base W W'
abbrev growA (u yl yf yd yg : Nat) : Array Value := #[.int .i64 u, .pointer (some ⟨yl, 0, none⟩), .pointer (some ⟨yf, 0, none⟩), .pointer (some ⟨yd, 0, none⟩), .pointer (some ⟨yg, 0, none⟩)]
/-- The closure, as it stands one facet further. -/
def GrowOk (fs : List Int) (base Y yl yf yd yg ym N d : Nat) (A : Option Addr) (c : Nat) : Prop := ∀ (ls : List Int) (u : Nat) (dead : List Bool) (v : Value) (M : List (Int × Bool)) (W : World), GS W base Y yl yf yd yg ym v ls fs A c M → MD M dead N → ls.length + d = fs.length → (∀ x ∈ ls, 0 ≤ x ∧ x ≤ 63) → u < N →
  Calls Try.prog 85 (growA u yl yf yd yg) W (GrowPost W base Y yl yf yd yg ym N ls fs A c (findF fs d ls u dead))
set_option maxRecDepth 100000 in
set_option maxHeartbeats 8000000 in
theorem grow_zero (fs : List Int) (hn : fs.length ≤ 12) (base Y yl yf yd yg ym N : Nat) (A : Option Addr) (c : Nat) : GrowOk fs base Y yl yf yd yg ym N 0 A c := by
  intro ls u dead v M W hg hm hd hlf hu
  have HG := Aside0.mk hg
  have HM := Aside0.mk hm
  have hcl := hg.cl.1
  have hcf := hg.cf
  obtain ⟨Al, cl, rfl⟩ := Kd.R_slice hg.rl
  have hlen : (ls.length : Int) = (fs.length : Int) := by omega
  clear hg hm
  go_enter Try.func85, Try.ntmps85
  go_wp2
  go_ret
  exact ⟨rfl, _, _, HG.out, HM.out, Below.refl _ _⟩
set_option maxRecDepth 100000 in
set_option maxHeartbeats 8000000 in
theorem grow_succ (fs : List Int) (hn : fs.length ≤ 12) (hfs : ∀ x ∈ fs, 0 ≤ x ∧ x ≤ 63) (base Y yl yf yd yg ym N : Nat) (hN : N ≤ 4096) (hor : ∀ u i, u < N → i < fs.length → u ||| 2 ^ i < N) (A : Option Addr) (c : Nat) (d : Nat) (ih : GrowOk fs base Y yl yf yd yg ym N d A c) : GrowOk fs base Y yl yf yd yg ym N (d + 1) A c := by
  intro ls u dead v M W hg hm hd hlf hu
  have HG := Aside0.mk hg
  have HM := Aside0.mk hm
  have HIH := Aside0.mk ih
  have HOR := Aside0.mk hor
  have HFS := Aside0.mk hfs
  have HLF := Aside0.mk hlf
  have hcl := hg.cl.1
  have hcf := hg.cf
  have hcd := hg.cd
  obtain ⟨Al, cl, rfl⟩ := Kd.R_slice hg.rl
  have hlen : ((ls.length : Int) == (fs.length : Int)) = false := beq_eq_false_iff_ne.2 (by omega)
  have hlk := hm.2 u hu
  unfold findF
  cases hde : dead.getD u false with
  | true =>
    rw [hde] at hlk
    have hl := fun w' (h : MapB w' ym M) => lookD h hlk
    have hl0 := lookD hg.mp hlk
    rw [if_pos rfl]
    clear hg hm hor hfs ih hlf hde hlk
    go_enter Try.func85, Try.ntmps85
    go_wp2
    go_ret
    exact ⟨rfl, _, _, HG.out, HM.out, Below.refl _ _⟩
  | false =>
    rw [hde] at hlk
    have hl0 := lookD hg.mp hlk
    rw [if_neg Bool.false_ne_true]
    obtain ⟨R, hR⟩ : ∃ R, loopF fs (findF fs d) ls u (List.range fs.length) dead = R := ⟨_, rfl⟩
    have hR2 : R = loopF fs (findF fs d) ls u (List.range' 0 (fs.length - 0)) dead := by rw [← hR, List.range_eq_range']; rfl
    rw [hR]
    have HR0 := Aside0.mk hR2
    clear hg hm hor hfs ih hlf hde hlk hR hR2
    go_enter Try.func85, Try.ntmps85
    go_wp2
    go_loopw [19] (fun s19 wr => ∃ (i : Nat) (v : Value) (dead : List Bool) (M : List (Int × Bool)), i ≤ fs.length ∧ s19 = .int .i64 i ∧ Aside0 (R = loopF fs (findF fs d) ls u (List.range' i (fs.length - i)) dead) ∧ Aside0 (GS wr base Y yl yf yd yg ym v ls fs A c M) ∧ Aside0 (MD M dead N) ∧ Aside0 (Below base W wr)) (fun s19 _ => fs.length - (intOf s19).toNat)
    case atStart => exact ⟨0, _, dead, M, by omega, rfl, HR0, HG, HM, ⟨(Below.refl _ _).mono (Nat.le_trans HG.out.y0 HG.out.y1)⟩⟩
    case round =>
      clear HR0 HG HM hcl hcf hcd hl0
      obtain ⟨i, v, dead, M, hil, rfl, HR, HG, HM, HB⟩ := hrel
      by_cases hi : i < fs.length
      · have hiz : (i : Int) < (fs.length : Int) := by omega
        obtain ⟨af, rfl, hf0⟩ := Kd.at_int (Kd.R_reads' HG.out.rf).2.2 i (by omega) (by omega)
        obtain ⟨f, hf⟩ : ∃ f, rd fs i = f := ⟨_, rfl⟩
        rw [hf, show ((i : Int)).toNat = i by omega] at hf0
        have hcl := HG.out.cl.1
        obtain ⟨Al, cl, rfl⟩ := Kd.R_slice HG.out.rl
        have hfg : fs.getD i 0 = f := by rw [getD_at' hi, ← rd_at' hi, hf]
        have hff : 0 ≤ f ∧ f ≤ 63 := by rw [← hfg, getD_at' hi]; exact HFS.out _ (List.getElem_mem hi)
        have hi12 : i < 12 := by omega
        have hu12 : u < 4096 := by omega
        by_cases ht : u.testBit i = true
        · have hbit := (set_bit2 hu12 hi12).2 ht
          have HRN := Aside0.mk (HR.out.trans (loop_skip hi ht))
          clear HR ht
          go_wp2
          exact ⟨⟨i + 1, _, dead, M, by omega, by go_num, HRN, HG, HM, HB⟩, by simp [intOf]; omega⟩
        · have hbit := mt (set_bit2 hu12 hi12).1 ht
          have HT := Aside0.mk ht
          obtain ⟨kn, hkn⟩ := (ev_next (before := ls) (by omega) hff HLF.out).rounds
          cases hnb : nextB ls f with
          | false =>
            rw [hnb] at hkn
            have HKN := Aside0.mk hkn
            have HRN := Aside0.mk (HR.out.trans (loop_no hi ht hfg hnb))
            clear HR ht hkn hnb
            go_wp2_with (go_at_call 86; refine (QH.impl_isNext.calls kn Al cl ls f false _ (Kd.R_reads' HG.out.rl).2.2 (Kd.R_reads' HG.out.rl).2.1 HKN.out).mono ?_; rintro e w5 ⟨rfl, hb⟩; have HG5 := Aside0.mk (HG.out.below hb); have HB5 := Aside0.mk (HB.out.trans (hb.mono (Nat.le_trans HG.out.y0 HG.out.y1))); clear hb HG HB)
            exact ⟨⟨i + 1, _, dead, M, by omega, by go_num, HRN, HG5, HM, HB5⟩, by simp [intOf]; omega⟩
          | true =>
            have HNB := Aside0.mk hnb
            rw [hnb] at hkn
            have HKN := Aside0.mk hkn
            clear ht hkn hnb
            have HFG := Aside0.mk hfg
            clear hfg
            go_upto_region 10 with (first
              | (go_at_call 86; refine (QH.impl_isNext.calls kn Al cl ls f true _ (Kd.R_reads' HG.out.rl).2.2 (Kd.R_reads' HG.out.rl).2.1 HKN.out).mono ?_; rintro e w5 ⟨rfl, hb⟩; have HG5 := Aside0.mk (HG.out.below hb); have HB5 := Aside0.mk (HB.out.trans (hb.mono (Nat.le_trans HG.out.y0 HG.out.y1))); have hcl5 := HG5.out.cl.1; clear hb HG HB hcl)
              | ((with_reducible refine gate_builtin (b := .append) (xs := #[.tmp 35, .tmp 37]) rfl ?_); at_builtin; refine Kd.R_append (Kd.int .i64) (w0 := W) base rfl (.tmp 35) (.tmp 37) 22 2 (.int .i64 0) 8 rfl Try.underlying22 info64 rfl (by decide) (by decide) (.slice Al ls.length cl) ls f [.int .i64 f] (fun k => Y ≤ k) (fun _ => False) rfl rfl rfl (fun _ hk => hk.elim) (fun k hk => Nat.le_trans HG5.out.y1 hk) HG5.out.rl HB5.out (Nat.le_trans HG5.out.y0 HG5.out.y1) (by omega) ?_; intro v6 w6 ho6 hb6 hg6 hat6; obtain ⟨A6, c6, rfl⟩ := Kd.R_slice ho6; have HG6 := Aside0.mk (HG5.out.grown hg6 ho6); obtain ⟨hc6, hf6⟩ := HG5.out.clg hg6; have HB6 := Aside0.mk (hb6.setCell (p := ⟨yl, 0, none⟩) HG5.out.l0 (.slice A6 (ls ++ [f]).length c6)); clear ho6 hb6 hg6 hat6 HG5 HB5 hcl5))
            rw [List.length_append, List.length_singleton] at HG6 HB6
            clear hc6 hf6
            generalize w6.setCell ⟨yl, 0, none⟩ (.slice A6 (ls.length + 1) c6) = w7 at HG6 HB6 ⊢
            have hcg := HG6.out.cg
            obtain ⟨u2, hu2⟩ : ∃ u2, u ||| 2 ^ i = u2 := ⟨_, rfl⟩
            have hu2N : u2 < N := by rw [← hu2]; exact HOR.out u i hu hi
            have hor3 : Go.bits .or .i64 (u : Int) (wrap64 (2 ^ i)) = (u2 : Int) := by rw [← hu2]; exact or_bit hu12 hi12
            obtain ⟨r, hr⟩ : ∃ r, findF fs d (ls ++ [f]) u2 dead = r := ⟨_, rfl⟩
            have hcall := HIH.out (ls ++ [f]) u2 dead _ M w7.drew HG6.out.drew HM.out (by rw [List.length_append, List.length_singleton]; omega) (fun x hx => by
              rcases List.mem_append.1 hx with h | h
              · exact HLF.out x h
              · rw [List.mem_singleton.1 h]; exact hff) hu2N
            rw [hr] at hcall
            have HCALL := Aside0.mk hcall
            have HRT := Aside0.mk (fun h => HR.out.trans (loop_hit (rec := findF fs d) (dead := dead) hi HT.out HFG.out HNB.out h))
            have HRF := Aside0.mk (fun h => HR.out.trans (loop_miss (rec := findF fs d) (dead := dead) hi HT.out HFG.out HNB.out h))
            rw [hu2, hr] at HRT HRF
            clear hcall hr hu2 HR
            obtain ⟨r1, r2, r3⟩ := r
            cases r2 with
            | true =>
              obtain rfl := HRT.out rfl
              refine st_ 6 (S := fun w' => w'.cell? ⟨yg, 0, none⟩ = some (growV yl yf yd yg)) (ds := [5]) hcg (fun hHeld => ?_)
              refine with_tabW (T := (true, [([], []), ([], []), ([], []), ([2], [2]), ([1, 3], [1, 3]), ([0, 4], [0, 4])])) (B := [0, 0, 0, 4, 14, 31]) (by kernel_rfl) (by kernel_rfl) (fun HT_ HW_ => ?_)
              refine pd_ 1 40 2 HT_ ?_
              refine pd_ 2 41 6 HT_ ?_
              refine pd_ 3 42 14 HT_ ?_
              refine pd_ 4 43 30 HT_ ?_
              refine tk_ 0 39 31 HT_ HW_ hHeld ?_
              refine la_ 5 (some 44) 63 HT_ (fun K hK => ?_)
              refine caW_ Try.func85 #[.int .i64 u2, .pointer (some ⟨yl, 0, none⟩), .pointer (some ⟨yf, 0, none⟩), .pointer (some ⟨yd, 0, none⟩), .pointer (some ⟨yg, 0, none⟩)] ?_
              refine HCALL.out.mono ?_; rintro e w8 ⟨rfl, v8, M8, hg8, hm8, hb8⟩; have HG8 := Aside0.mk hg8; have HM8 := Aside0.mk hm8; have HB8 := Aside0.mk (HB6.out.drew.trans hb8); clear hg8 hm8 hb8 HG6 HB6 HCALL hcg
              refine ⟨_, rfl, ?_⟩
              refine hK.out _ _ ?_
              clear hK K
              refine nm_ ?_
              refine dn_ HT_ ?_
              go_wp2
              go_ret
              exact ⟨rfl, _, _, HG8.out, HM8.out, HB8.out⟩
            | false =>
              have HRN := Aside0.mk (HRF.out rfl)
              refine st_ 6 (S := fun w' => w'.cell? ⟨yg, 0, none⟩ = some (growV yl yf yd yg)) (ds := [5]) hcg (fun hHeld => ?_)
              refine with_tabW (T := (true, [([], []), ([], []), ([], []), ([2], [2]), ([1, 3], [1, 3]), ([0, 4], [0, 4])])) (B := [0, 0, 0, 4, 14, 31]) (by kernel_rfl) (by kernel_rfl) (fun HT_ HW_ => ?_)
              refine pd_ 1 40 2 HT_ ?_
              refine pd_ 2 41 6 HT_ ?_
              refine pd_ 3 42 14 HT_ ?_
              refine pd_ 4 43 30 HT_ ?_
              refine tk_ 0 39 31 HT_ HW_ hHeld ?_
              refine la_ 5 (some 44) 63 HT_ (fun K hK => ?_)
              refine caW_ Try.func85 #[.int .i64 u2, .pointer (some ⟨yl, 0, none⟩), .pointer (some ⟨yf, 0, none⟩), .pointer (some ⟨yd, 0, none⟩), .pointer (some ⟨yg, 0, none⟩)] ?_
              refine HCALL.out.mono ?_; rintro e w8 ⟨rfl, v8, M8, hg8, hm8, hb8⟩; have HG8 := Aside0.mk hg8; have HM8 := Aside0.mk hm8; have HB8 := Aside0.mk (HB6.out.drew.trans hb8); clear hg8 hm8 hb8 HG6 HB6 HCALL hcg
              refine ⟨_, rfl, ?_⟩
              refine hK.out _ _ ?_
              clear hK K
              refine nm_ ?_
              refine dn_ HT_ ?_
              obtain ⟨g9, cap9, rfl, hcap9, hcut9⟩ := RI.cut HG8.out.rl
              have HG9 := Aside0.mk (HG8.out.set hcut9)
              have HB9 := Aside0.mk (HB8.out.setCell (p := ⟨yl, 0, none⟩) HG8.out.l0 (.slice (some ⟨g9, 0, none⟩) ls.length cap9))
              obtain ⟨hc9, hf9⟩ := HG8.out.cl
              clear hcut9 HG8 HB8 HRT HRF
              go_wp2
              exact ⟨⟨i + 1, _, r3, M8, by omega, by go_num, HRN, HG9, HM8, HB9⟩, by simp [intOf]; omega⟩
      · obtain rfl : i = fs.length := by omega
        have hiz : ¬ (fs.length : Int) < (fs.length : Int) := by omega
        rw [Nat.sub_self] at HR
        have hR := HR.out
        simp only [List.range'_zero, loopF] at hR
        subst hR
        obtain ⟨w3, hrun, hM3, hg3, hz3⟩ := putD HG.out.mp (u : Int) true
        have hcd := HG.out.cd
        have HG3 := Aside0.mk (HG.out.put hg3 hz3 hM3)
        have HM3 := Aside0.mk (HM.out.set hu)
        have HB3 := Aside0.mk (HB.out.grown hg3 (Nat.le_trans HG.out.y0 HG.out.y1) (fun k hk => by injection hk with hk; have := HG.out.m0; omega))
        clear hg3 hM3 hz3 HG HM HB HR
        go_wp2
        go_ret
        exact ⟨rfl, _, _, HG3.out, HM3.out, HB3.out⟩
theorem grow_all (fs : List Int) (hn : fs.length ≤ 12) (hfs : ∀ x ∈ fs, 0 ≤ x ∧ x ≤ 63) (base Y yl yf yd yg ym N : Nat) (hN : N ≤ 4096) (hor : ∀ u i, u < N → i < fs.length → u ||| 2 ^ i < N) (A : Option Addr) (c : Nat) : ∀ d, GrowOk fs base Y yl yf yd yg ym N d A c
  | 0 => grow_zero fs hn base Y yl yf yd yg ym N A c
  | d + 1 => grow_succ fs hn hfs base Y yl yf yd yg ym N hN hor A c d (grow_all fs hn hfs base Y yl yf yd yg ym N hN hor A c d)
end Go.Proofs.Ytomdfjohnmikdaa.Im
namespace Go.Proofs.Ytomdfjohnmikdaa.Ext
set_option linter.unusedVariables false
set_option linter.unusedSimpArgs false
open Go.RowKit Go.Proofs.Ytomdfjohnmikdaa.Im Go.Proofs.YtomdfjohnmikdaaW.PrintWords Go.Proofs.YtomdfjohnmikdaaW.PrintLast Go.Proofs.YtomdfjohnmikdaaW.PrintMore
def impl_Complex_facets.f (a0_0 : Int) (l0_1 : List Int) : Option (List Int) := if isC a0_0 l0_1 = true then some (facetsL l0_1) else none
theorem impl_Complex_facets.calls (a0_0 : Int) (A0_1 : Option Addr) (c0_1 : Nat) (l0_1 : List Int) (r : List Int) (w : World) (hr0_1 : Kd.C (Kd.int .i64) w A0_1 l0_1.length l0_1) (_hc0_1 : l0_1.length ≤ c0_1) (h : impl_Complex_facets.f a0_0 l0_1 = some r) :
    Calls Try.prog 84 #[.agg #[.int .i64 a0_0, .slice A0_1 l0_1.length c0_1]] w fun e w' => ∃ v0_ : Value, e = .returned (v0_) ∧ Kd.R (Kd.int .i64) 2 w' w.heap.size (fun _ => True) v0_ r ∧ Below w.heap.size w w' := by
  unfold impl_Complex_facets.f at h
  by_cases hl : isC a0_0 l0_1 = true
  · rw [if_pos hl] at h
    obtain rfl := Option.some.inj h
    exact facets_c a0_0 A0_1 l0_1.length c0_1 l0_1 w hr0_1 hl
  · rw [if_neg hl] at h; cases h
end Go.Proofs.Ytomdfjohnmikdaa.Ext
namespace Go.Proofs.Ytomdfjohnmikdaa.Ext
set_option linter.unusedVariables false
set_option linter.unusedSimpArgs false
open Go.RowKit Go.Proofs.Ytomdfjohnmikdaa.Im Go.Proofs.Ytomdfjohnmikdaa.Kp Go.Proofs.YtomdfjohnmikdaaW.PrintWords Go.Proofs.YtomdfjohnmikdaaW.PrintLast Go.Proofs.YtomdfjohnmikdaaW.PrintMore
def impl_Complex_isPure.f (a0_0 : Int) (l0_1 : List Int) : Option (Bool) := if isC a0_0 l0_1 = true then some (pureB l0_1) else none
theorem impl_Complex_isPure.calls (a0_0 : Int) (A0_1 : Option Addr) (c0_1 : Nat) (l0_1 : List Int) (r : Bool) (w : World) (hr0_1 : Kd.C (Kd.int .i64) w A0_1 l0_1.length l0_1) (_hc0_1 : l0_1.length ≤ c0_1) (h : impl_Complex_isPure.f a0_0 l0_1 = some r) :
    Calls Try.prog 133 #[.agg #[.int .i64 a0_0, .slice A0_1 l0_1.length c0_1]] w fun e w' => e = .returned (.bool r) ∧ Below w.heap.size w w' := by
  unfold impl_Complex_isPure.f at h
  by_cases hl : isC a0_0 l0_1 = true
  · rw [if_pos hl] at h
    have hd := Option.some.inj h
    rw [← hd]
    exact isPure_c a0_0 A0_1 l0_1.length c0_1 l0_1 w hr0_1 _hc0_1 hl
  · rw [if_neg hl] at h; cases h
end Go.Proofs.Ytomdfjohnmikdaa.Ext
namespace Go.Proofs.Ytomdfjohnmikdaa.QJ
open Go.Proofs.Ytomdfjohnmikdaa.Cw Go.Proofs.Ytomdfjohnmikdaa.Kp Go.Proofs.Ytomdfjohnmikdaa.Ext Go.RowKit Go.Proofs.YtomdfjohnmikdaaW.PrintWords Go.Proofs.YtomdfjohnmikdaaW.PrintLast Go.Proofs.YtomdfjohnmikdaaW.PrintMore
attribute [local go_sem] max2_int min2_int max_two min_two max_three min_three max_four min_four   -- for this text's walks alone
set_option linter.unusedVariables false
set_option linter.unusedSimpArgs false
def errW : Option Int → Value
 | none => .nilIface
 | some c => .iface 0 (.int .i64 c)
theorem errW_none : errW none = .nilIface := rfl
theorem errW_some (c : Int) : errW (some c) = .iface 0 (.int .i64 c) := rfl
end Go.Proofs.Ytomdfjohnmikdaa.QJ
namespace Go.Proofs.Ytomdfjohnmikdaa.QJ
open Go.Proofs.Ytomdfjohnmikdaa.Cw Go.Proofs.Ytomdfjohnmikdaa.Kp Go.Proofs.Ytomdfjohnmikdaa.Ext Go.RowKit Go.Proofs.YtomdfjohnmikdaaW.PrintWords Go.Proofs.YtomdfjohnmikdaaW.PrintLast Go.Proofs.YtomdfjohnmikdaaW.PrintMore
attribute [local go_sem] max2_int min2_int max_two min_two max_three min_three max_four min_four   -- for this text's walks alone
set_option linter.unusedVariables false
set_option linter.unusedSimpArgs false
def impl_pureCode.f (a0_0 : Int) (l0_1 : List Int) : Option (Int) := (impl_complexCode.f a0_0 l0_1 (fnp 127)).bind fun t102 => (if t102 = 0 then ((impl_Complex_isPure.f a0_0 l0_1).bind fun t103 => (if t103 = true then (some 0) else (some 5))) else (some t102))
set_option maxHeartbeats 8000000 in
set_option maxRecDepth 100000 in
theorem impl_pureCode.calls (a0_0 : Int) (A0_1 : Option Addr) (c0_1 : Nat) (l0_1 : List Int) (r : Int) (w : World) (hr0_1 : Kd.C (Kd.int .i64) w A0_1 l0_1.length l0_1) (hc0_1 : l0_1.length ≤ c0_1) (h : impl_pureCode.f a0_0 l0_1 = some r) :
  Calls Try.prog 83 #[.agg #[.int .i64 a0_0, .slice A0_1 l0_1.length c0_1]] w fun e w' => e = .returned (.int .i64 r) ∧ Below w.heap.size w w' := by
 have hu28 := Try.underlying28
 have HR0_1 := Aside0.mk hr0_1
 have HC0_1 := Aside0.mk hc0_1
 clear hr0_1 hc0_1
 have HB := Aside0.mk (Below.refl w.heap.size w)
 have H : ((impl_complexCode.f a0_0 l0_1 (fnp 127)).bind fun t102 => (if t102 = 0 then ((impl_Complex_isPure.f a0_0 l0_1).bind fun t103 => (if t103 = true then (some 0) else (some 5))) else (some t102))) = some r := h
 clear h
 replace H := Option.bind_eq_some_iff.mp H
 obtain ⟨t102, A20, H⟩ := H
 try dsimp only at H
 have A2 := Aside0.mk A20
 clear A20
 by_cases c3 : t102 = 0
 ·rw [if_pos c3] at H
  have c3b0 : (t102 == 0) = true := beq_iff_eq.mpr c3
  have c3b1 : (t102 != 0) = false := bne_eq_false_iff_eq.mpr c3
  clear c3
  replace H := Option.bind_eq_some_iff.mp H
  obtain ⟨t103, A40, H⟩ := H
  try dsimp only at H
  have A4 := Aside0.mk A40
  clear A40
  by_cases c5 : t103 = true
  ·subst c5
   have H1 : (some 0) = some r := by rw [if_pos rfl] at H; exact H
   clear H
   have H := H1
   clear H1
   obtain rfl := Option.some.inj H
   go_enter Try.func83, Try.ntmps83
   go_wp2_with (first | ((with_reducible refine gate_dst (N := 1) rfl ?_); refine box_event ?hg (N := 1) ?hd (cs := #[.int .i64 a0_0, .slice A0_1 l0_1.length c0_1]) (t := 28) ?hr ?_; (case hd => rfl); (case hg => rfl); (case hr => first | (go_simp; done) | (go_simp; rfl)); intro gb101 hg w6 hbox hb; have BK101 := Aside0.mk (hbox); have GW101 := gH HB hg; have GE101 := gH HB hg; replace HB := sH HB hb; clear hb hbox hg; have hcz7_0 : w6.cell? ⟨gb101, 0, none⟩ = some (.int .i64 a0_0) := cB BK101 0; have hcz7_1 : w6.cell? ⟨gb101, 1, none⟩ = some (.slice A0_1 l0_1.length c0_1) := cB BK101 1; have hfz7_0 := zB BK101 0; have hfz7_1 := zB BK101 1) | ((with_reducible refine gate_callee (f := 53) rfl ?_); refine cl_ (some 5) Try.func53 #[.agg #[.int .i64 a0_0, .slice A0_1 l0_1.length c0_1], .func (.func 127) #[] #[]] ?_; (with_reducible refine (impl_complexCode.calls a0_0 _ _ l0_1 _ (fnp 127) t102 _ ?side1 ?side2 ?side3 A2.out).mono ?_); (case side1 => exact pC ((Kd.C_below HR0_1.out HB.out))); (case side2 => exact HC0_1.out); (case side3 => exact fnp_ok_127 _); rintro e w8 ⟨rfl, hb⟩; refine ⟨_, rfl, ?_⟩; replace BK101 := sB BK101 hb; replace HB := sH HB hb; (try clear hb); (try clear hi); have hcz9_0 : w8.cell? ⟨gb101, 0, none⟩ = some (.int .i64 a0_0) := cB BK101 0; have hcz9_1 : w8.cell? ⟨gb101, 1, none⟩ = some (.slice A0_1 l0_1.length c0_1) := cB BK101 1; have hfz9_0 := zB BK101 0; have hfz9_1 := zB BK101 1) | ((with_reducible refine gate_callee (f := 133) rfl ?_); refine cl_ (some 10) Try.func133 #[.agg #[.int .i64 a0_0, .slice A0_1 l0_1.length c0_1]] ?_; (with_reducible refine (impl_Complex_isPure.calls a0_0 _ _ l0_1 true _ ?side1 ?side2 A4.out).mono ?_); (case side1 => exact pC ((Kd.C_below HR0_1.out HB.out))); (case side2 => exact HC0_1.out); rintro e w10 ⟨rfl, hb⟩; refine ⟨_, rfl, ?_⟩; replace BK101 := sB BK101 hb; replace HB := sH HB hb; (try clear hb); (try clear hi)))
   go_ret
   exact ⟨by first | rfl | (simp [errW_none, errW_some] <;> rfl) | (simp [*, errW_none, errW_some] <;> rfl) | (exfalso; simp_all), pH HB⟩
  ·replace c5 := Bool.eq_false_iff.mpr c5
   subst c5
   have H1 : (some 5) = some r := by rw [if_neg (show ¬ (false = true) by decide)] at H; exact H
   clear H
   have H := H1
   clear H1
   obtain rfl := Option.some.inj H
   go_enter Try.func83, Try.ntmps83
   go_wp2_with (first | ((with_reducible refine gate_dst (N := 1) rfl ?_); refine box_event ?hg (N := 1) ?hd (cs := #[.int .i64 a0_0, .slice A0_1 l0_1.length c0_1]) (t := 28) ?hr ?_; (case hd => rfl); (case hg => rfl); (case hr => first | (go_simp; done) | (go_simp; rfl)); intro gb101 hg w11 hbox hb; have BK101 := Aside0.mk (hbox); have GW101 := gH HB hg; have GE101 := gH HB hg; replace HB := sH HB hb; clear hb hbox hg; have hcz12_0 : w11.cell? ⟨gb101, 0, none⟩ = some (.int .i64 a0_0) := cB BK101 0; have hcz12_1 : w11.cell? ⟨gb101, 1, none⟩ = some (.slice A0_1 l0_1.length c0_1) := cB BK101 1; have hfz12_0 := zB BK101 0; have hfz12_1 := zB BK101 1) | ((with_reducible refine gate_callee (f := 53) rfl ?_); refine cl_ (some 5) Try.func53 #[.agg #[.int .i64 a0_0, .slice A0_1 l0_1.length c0_1], .func (.func 127) #[] #[]] ?_; (with_reducible refine (impl_complexCode.calls a0_0 _ _ l0_1 _ (fnp 127) t102 _ ?side1 ?side2 ?side3 A2.out).mono ?_); (case side1 => exact pC ((Kd.C_below HR0_1.out HB.out))); (case side2 => exact HC0_1.out); (case side3 => exact fnp_ok_127 _); rintro e w13 ⟨rfl, hb⟩; refine ⟨_, rfl, ?_⟩; replace BK101 := sB BK101 hb; replace HB := sH HB hb; (try clear hb); (try clear hi); have hcz14_0 : w13.cell? ⟨gb101, 0, none⟩ = some (.int .i64 a0_0) := cB BK101 0; have hcz14_1 : w13.cell? ⟨gb101, 1, none⟩ = some (.slice A0_1 l0_1.length c0_1) := cB BK101 1; have hfz14_0 := zB BK101 0; have hfz14_1 := zB BK101 1) | ((with_reducible refine gate_callee (f := 133) rfl ?_); refine cl_ (some 10) Try.func133 #[.agg #[.int .i64 a0_0, .slice A0_1 l0_1.length c0_1]] ?_; (with_reducible refine (impl_Complex_isPure.calls a0_0 _ _ l0_1 false _ ?side1 ?side2 A4.out).mono ?_); (case side1 => exact pC ((Kd.C_below HR0_1.out HB.out))); (case side2 => exact HC0_1.out); rintro e w15 ⟨rfl, hb⟩; refine ⟨_, rfl, ?_⟩; replace BK101 := sB BK101 hb; replace HB := sH HB hb; (try clear hb); (try clear hi)))
   go_ret
   exact ⟨by first | rfl | (simp [errW_none, errW_some] <;> rfl) | (simp [*, errW_none, errW_some] <;> rfl) | (exfalso; simp_all), pH HB⟩
 ·rw [if_neg c3] at H
  have c3b0 : (t102 == 0) = false := beq_eq_false_iff_ne.mpr c3
  have c3b1 : (t102 != 0) = true := bne_iff_ne.mpr c3
  obtain rfl := Option.some.inj H
  go_enter Try.func83, Try.ntmps83
  go_wp2_with (first | ((with_reducible refine gate_dst (N := 1) rfl ?_); refine box_event ?hg (N := 1) ?hd (cs := #[.int .i64 a0_0, .slice A0_1 l0_1.length c0_1]) (t := 28) ?hr ?_; (case hd => rfl); (case hg => rfl); (case hr => first | (go_simp; done) | (go_simp; rfl)); intro gb101 hg w16 hbox hb; have BK101 := Aside0.mk (hbox); have GW101 := gH HB hg; have GE101 := gH HB hg; replace HB := sH HB hb; clear hb hbox hg; have hcz17_0 : w16.cell? ⟨gb101, 0, none⟩ = some (.int .i64 a0_0) := cB BK101 0; have hcz17_1 : w16.cell? ⟨gb101, 1, none⟩ = some (.slice A0_1 l0_1.length c0_1) := cB BK101 1; have hfz17_0 := zB BK101 0; have hfz17_1 := zB BK101 1) | ((with_reducible refine gate_callee (f := 53) rfl ?_); refine cl_ (some 5) Try.func53 #[.agg #[.int .i64 a0_0, .slice A0_1 l0_1.length c0_1], .func (.func 127) #[] #[]] ?_; (with_reducible refine (impl_complexCode.calls a0_0 _ _ l0_1 _ (fnp 127) t102 _ ?side1 ?side2 ?side3 A2.out).mono ?_); (case side1 => exact pC ((Kd.C_below HR0_1.out HB.out))); (case side2 => exact HC0_1.out); (case side3 => exact fnp_ok_127 _); rintro e w18 ⟨rfl, hb⟩; refine ⟨_, rfl, ?_⟩; replace BK101 := sB BK101 hb; replace HB := sH HB hb; (try clear hb); (try clear hi)))
  go_ret
  exact ⟨by first | rfl | (simp [errW_none, errW_some] <;> rfl) | (simp [*, errW_none, errW_some] <;> rfl) | (exfalso; simp_all), pH HB⟩
end Go.Proofs.Ytomdfjohnmikdaa.QJ
namespace Go.Proofs.Ytomdfjohnmikdaa.Im
set_option linter.unusedVariables false
set_option linter.unusedSimpArgs false
open Go.RowKit Go.Shelf Go.Proofs.Ytomdfjohnmikdaa.Cw Go.Proofs.Ytomdfjohnmikdaa.Ext Go.Proofs.Ytomdfjohnmikdaa.Pu Go.Proofs.YtomdfjohnmikdaaW.PrintWords Go.Proofs.YtomdfjohnmikdaaW.PrintLast Go.Proofs.YtomdfjohnmikdaaW.PrintMore
theorem run_store_func {P : Program} {w : World} {a : Addr} {m : Mode} (f : Fn) (fs lb : Array Value) : (store a (.func f fs lb) m).run P w = stored P w a (.func f fs lb) m := run_store P w a _ m rfl
attribute [local go_sem] run_store_func
def pureZ (n : Int) (xs : List Int) : Int := if isC n xs = true then (if pureB xs = true then 0 else 5) else 1
theorem pureCode_f (n : Int) {xs : List Int} (hx : xs.length ≤ 1048576) : QJ.impl_pureCode.f n xs = some (pureZ n xs) := by
  unfold QJ.impl_pureCode.f pureZ
  have hcode : impl_complexCode.f n xs (fnp 127) = some (codeOf (isC n xs) true) := by unfold impl_complexCode.f; rw [if_pos ⟨by omega, fun _ => rfl⟩]; rfl
  rw [hcode, Option.bind_some]
  cases hi : isC n xs with
  | false => rfl
  | true =>
    unfold impl_Complex_isPure.f
    rw [if_pos hi]
    cases pureB xs <;> rfl
def fvN (s : Nat) : Value := growV (s + 1 + 1 + 1) s (s + 1 + 1) (s + 1 + 1 + 1 + 1)
/-- The five blocks that are made for the search. -/
def W5 (w2 : World) (fv : Value) : World := ((((w2.alloc (.cells #[fv] 22)).alloc (.map #[] 0)).alloc (.cells #[.map (some (w2.heap.size + 1))] 97)).alloc (.cells #[.slice none 0 0] 22)).alloc (.cells #[fvN w2.heap.size] 98)
theorem W5_new (w2 : World) (fv : Value) : (W5 w2 fv).heap[w2.heap.size]? = some (.cells #[fv] 22 (0, 0)) ∧ MapB (W5 w2 fv) (w2.heap.size + 1) [] ∧ (W5 w2 fv).heap[w2.heap.size + 1 + 1]? = some (.cells #[.map (some (w2.heap.size + 1))] 97 (0, 0)) ∧ (W5 w2 fv).heap[w2.heap.size + 1 + 1 + 1]? = some (.cells #[.slice none 0 0] 22 (0, 0)) ∧ (W5 w2 fv).heap[w2.heap.size + 1 + 1 + 1 + 1]? = some (.cells #[fvN w2.heap.size] 98 (0, 0)) ∧ Below w2.heap.size w2 (W5 w2 fv) := by
  have hs : ∀ (W : World) (o : Obj), (W.alloc o).heap.size = W.heap.size + 1 := fun W o => by simp
  have hb : ∀ (W : World) (o : Obj), Below W.heap.size W (W.alloc o) := fun W o => below_alloc (Below.refl _ _) o
  have k : ∀ {W : World} {o p : Obj} {j : Nat}, W.heap[j]? = some o → (W.alloc p).heap[j]? = some o := fun {W o p j} h => (hb W p).block j (Array.getElem?_eq_some_iff.1 h).1 |>.trans h
  have h1 := heap_alloc_new w2 (.cells #[fv] 22)
  have h2 := MapB.made (w2.alloc (.cells #[fv] 22))
  rw [hs] at h2
  have h3 := heap_alloc_new ((w2.alloc (.cells #[fv] 22)).alloc (.map #[] 0)) (.cells #[.map (some (w2.heap.size + 1))] 97)
  rw [hs, hs] at h3
  have h4 := heap_alloc_new (((w2.alloc (.cells #[fv] 22)).alloc (.map #[] 0)).alloc (.cells #[.map (some (w2.heap.size + 1))] 97)) (.cells #[.slice none 0 0] 22)
  rw [hs, hs, hs] at h4
  have h5 := heap_alloc_new ((((w2.alloc (.cells #[fv] 22)).alloc (.map #[] 0)).alloc (.cells #[.map (some (w2.heap.size + 1))] 97)).alloc (.cells #[.slice none 0 0] 22)) (.cells #[fvN w2.heap.size] 98)
  rw [hs, hs, hs, hs] at h5
  refine ⟨k (k (k (k h1))), ((h2.alloc _).alloc _).alloc _, k (k h3), k h4, h5, ?_⟩
  exact below_alloc (below_alloc (below_alloc (below_alloc (below_alloc (Below.refl _ _) _) _) _) _) _
theorem W5_gs {w2 : World} {base : Nat} {A : Option Addr} {c : Nat} {fs : List Int} (hb : base ≤ w2.heap.size) (hf : RI w2 base (fun k => k < w2.heap.size) (.slice A fs.length c) fs) :
    GS (W5 w2 (.slice A fs.length c)) base w2.heap.size (w2.heap.size + 1 + 1 + 1) w2.heap.size (w2.heap.size + 1 + 1) (w2.heap.size + 1 + 1 + 1 + 1) (w2.heap.size + 1) (.slice none 0 0) [] fs A c [] ∧ Below base w2 (W5 w2 (.slice A fs.length c)) := by
  obtain ⟨h1, h2, h3, h4, h5, hB⟩ := W5_new w2 (.slice A fs.length c)
  exact ⟨⟨h4, h1, h3, h5, by omega, by omega, by omega, hb, hB.size, h2, Kd.R_nil _ _ _ _ _, Kd.R_below hf hB⟩, hB.mono hb⟩
theorem W5_call {w2 : World} {base : Nat} {A : Option Addr} {c : Nat} {fs : List Int} (hn : fs.length ≤ 12) (hfs : ∀ x ∈ fs, 0 ≤ x ∧ x ≤ 63) (hb : base ≤ w2.heap.size) (hf : RI w2 base (fun k => k < w2.heap.size) (.slice A fs.length c) fs) :
    Calls Try.prog 85 #[.int .i64 0, .pointer (some ⟨w2.heap.size + 1 + 1 + 1, 0, none⟩), .pointer (some ⟨w2.heap.size, 0, none⟩), .pointer (some ⟨w2.heap.size + 1 + 1, 0, none⟩), .pointer (some ⟨w2.heap.size + 1 + 1 + 1 + 1, 0, none⟩)] (W5 w2 (.slice A fs.length c))
      (GrowPost (W5 w2 (.slice A fs.length c)) base w2.heap.size (w2.heap.size + 1 + 1 + 1) w2.heap.size (w2.heap.size + 1 + 1) (w2.heap.size + 1 + 1 + 1 + 1) (w2.heap.size + 1) (2 ^ fs.length) [] fs A c (findF fs fs.length [] 0 (List.replicate (2 ^ fs.length) false))) :=
  grow_all fs hn hfs base w2.heap.size (w2.heap.size + 1 + 1 + 1) w2.heap.size (w2.heap.size + 1 + 1) (w2.heap.size + 1 + 1 + 1 + 1) (w2.heap.size + 1) (2 ^ fs.length) (Nat.pow_le_pow_right (by decide) hn : 2 ^ fs.length ≤ 2 ^ 12) (fun u i hu hi => or_lt hu hi) A c fs.length [] 0 (List.replicate (2 ^ fs.length) false) (.slice none 0 0) [] _ (W5_gs hb hf).1
    ⟨by simp, fun u hu => by rw [List.getD_eq_getElem?_getD, List.getElem?_replicate_of_lt hu]; rfl⟩ (by simp) (fun x hx => by cases hx) (Nat.two_pow_pos _)
set_option maxRecDepth 100000 in
set_option maxHeartbeats 8000000 in
theorem shell_c (n : Int) (A : Option Addr) (c : Nat) (xs : List Int) (w : World) (hr : RC w A xs.length xs) (hc : xs.length ≤ c) (hx : xs.length ≤ 1048576) :
    Calls Try.prog 35 #[.agg #[.int .i64 n, .slice A xs.length c]] w fun e w' => ∃ v, e = .returned (.tuple #[v, .int .i64 (shellF n xs).2]) ∧ RO w' w.heap.size v (shellF n xs).1 ∧ Below w.heap.size w w' := by
  have HX := Aside0.mk (CxAt.new w n A xs.length c)
  have HB := Aside0.mk (below_alloc (Below.refl w.heap.size w) (.cells #[.int .i64 n, .slice A xs.length c] 28))
  have HR := Aside0.mk hr
  have HC := Aside0.mk hc
  have hx0 := HX.out.c0
  have hx1 := HX.out.c1
  have HPC := Aside0.mk (pureCode_f n hx)
  obtain ⟨R, hR⟩ : ∃ R, shellF n xs = R := ⟨_, rfl⟩
  rw [hR]
  clear hr hc
  have hmm := @run_makeMap Try.prog
  by_cases hz : pureZ n xs = 0
  · have hi : isC n xs = true := by
      cases h : isC n xs with
      | true => rfl
      | false => unfold pureZ at hz; rw [h, if_neg Bool.false_ne_true] at hz; exact absurd hz (by decide)
    have hp : pureB xs = true := by
      cases h : pureB xs with
      | true => rfl
      | false => unfold pureZ at hz; rw [hi, h] at hz; exact absurd hz (by decide)
    rw [hz] at HPC
    have hfc : impl_Complex_facets.f n xs = some (facetsL xs) := by unfold impl_Complex_facets.f; rw [if_pos hi]
    have hf63 : ∀ x ∈ facetsL xs, 0 ≤ x ∧ x ≤ 63 := fun x hx => by have := isC_63 hi x (List.mem_filter.1 hx).1; omega
    have hfl : (facetsL xs).length ≤ xs.length := List.length_filter_le _ _
    have hR2 : R = if 12 < (facetsL xs).length then ([], 3) else if (findF (facetsL xs) (facetsL xs).length [] 0 (List.replicate (2 ^ (facetsL xs).length) false)).2.1 = true then ((findF (facetsL xs) (facetsL xs).length [] 0 (List.replicate (2 ^ (facetsL xs).length) false)).1, 0) else ([], 4) := by
      rw [← hR]; unfold shellF; rw [if_pos hi, if_pos hp]
    generalize facetsL xs = fs at hfc hf63 hfl hR2
    have HFC := Aside0.mk hfc
    clear hfc hR hz hi hp
    by_cases h12 : 12 < fs.length
    · have h12z : (fs.length : Int) > 12 := by omega
      rw [if_pos h12] at hR2
      subst hR2
      clear hf63
      go_enter Try.func35, Try.ntmps35
      go_wp2_with (first
        | (go_at_call 84; refine (impl_Complex_facets.calls n A c xs fs _ (Kd.C_below HR.out HB1.out) HC.out HFC.out).mono ?_; rintro e w2 ⟨v2, rfl, hv, hb⟩; have HB2 := Aside0.mk (below_in HB1.out hb); obtain ⟨A2, c2, rfl⟩ := Kd.R_slice hv; clear hb hv)
        | (go_at_call 83; refine (QJ.impl_pureCode.calls n A c xs 0 _ (Kd.C_below HR.out HB.out) HC.out HPC.out).mono ?_; rintro e w1 ⟨rfl, hb⟩; have HB1 := Aside0.mk (below_in HB.out hb); have HX1 := Aside0.mk (HX.out.below hb); have hy0 := HX1.out.c0; have hy1 := HX1.out.c1; clear hb hx0 hx1))
      go_ret2
      exact ⟨_, rfl, Kd.R_nil _ _ _ _ _, HB2.out.alloc HB2.out.size _⟩
    · have h12z : ¬ (fs.length : Int) > 12 := by omega
      rw [if_neg h12] at hR2
      have HF63 := Aside0.mk hf63
      have h12' : fs.length ≤ 12 := by omega
      obtain ⟨r, hr⟩ : ∃ r, findF fs fs.length [] 0 (List.replicate (2 ^ fs.length) false) = r := ⟨_, rfl⟩
      rw [hr] at hR2
      have HRE := Aside0.mk hr
      obtain ⟨r1, r2, r3⟩ := r
      have HR2 := Aside0.mk hR2
      clear hR2 hf63 hr
      cases r2 with
      | true =>
        obtain rfl : R = (r1, 0) := HR2.out.trans (if_pos rfl)
        go_enter Try.func35, Try.ntmps35
        go_wp2_with (first
          | (go_at_call 85; refine HCALL.out.mono ?_; rintro e w9 ⟨rfl, v9, M9, hg9, hm9, hb9⟩; have HG9 := Aside0.mk hg9; have HB9 := Aside0.mk (hB5.out.trans hb9); have hcl9 := hg9.cl.1; clear hg9 hm9 hb9 HCALL hB5)
          | (go_at_call 84; refine (impl_Complex_facets.calls n A c xs fs _ (Kd.C_below HR.out HB1.out) HC.out HFC.out).mono ?_; rintro e w2 ⟨v2, rfl, hv, hb⟩; have HB2 := Aside0.mk (below_in HB1.out hb); have HV := Aside0.mk (Kd.R_lower (Kd.R_mono (Kd.R_bound hv) (fun k hk => hk.2.2.1)) HB1.out.size); obtain ⟨A2, c2, rfl⟩ := Kd.R_slice HV.out; have hcall := W5_call h12' HF63.out HB2.out.size HV.out; have hB5 := Aside0.mk (HB2.out.trans (W5_gs HB2.out.size HV.out).2); rw [HRE.out] at hcall; simp only [W5, fvN, growV] at hcall hB5; have HCALL := Aside0.mk hcall; clear hb hv hcall)
          | (go_at_call 83; refine (QJ.impl_pureCode.calls n A c xs 0 _ (Kd.C_below HR.out HB.out) HC.out HPC.out).mono ?_; rintro e w1 ⟨rfl, hb⟩; have HB1 := Aside0.mk (below_in HB.out hb); have HX1 := Aside0.mk (HX.out.below hb); have hy0 := HX1.out.c0; have hy1 := HX1.out.c1; clear hb hx0 hx1))
        go_ret2
        exact ⟨_, rfl, Kd.R_mono HG9.out.rl (fun _ _ => trivial), HB9.out⟩
      | false =>
        obtain rfl : R = ([], 4) := HR2.out.trans (if_neg Bool.false_ne_true)
        go_enter Try.func35, Try.ntmps35
        go_wp2_with (first
          | (go_at_call 85; refine HCALL.out.mono ?_; rintro e w9 ⟨rfl, v9, M9, hg9, hm9, hb9⟩; have HG9 := Aside0.mk hg9; have HB9 := Aside0.mk (hB5.out.trans hb9); have hcl9 := hg9.cl.1; clear hg9 hm9 hb9 HCALL hB5)
          | (go_at_call 84; refine (impl_Complex_facets.calls n A c xs fs _ (Kd.C_below HR.out HB1.out) HC.out HFC.out).mono ?_; rintro e w2 ⟨v2, rfl, hv, hb⟩; have HB2 := Aside0.mk (below_in HB1.out hb); have HV := Aside0.mk (Kd.R_lower (Kd.R_mono (Kd.R_bound hv) (fun k hk => hk.2.2.1)) HB1.out.size); obtain ⟨A2, c2, rfl⟩ := Kd.R_slice HV.out; have hcall := W5_call h12' HF63.out HB2.out.size HV.out; have hB5 := Aside0.mk (HB2.out.trans (W5_gs HB2.out.size HV.out).2); rw [HRE.out] at hcall; simp only [W5, fvN, growV] at hcall hB5; have HCALL := Aside0.mk hcall; clear hb hv hcall)
          | (go_at_call 83; refine (QJ.impl_pureCode.calls n A c xs 0 _ (Kd.C_below HR.out HB.out) HC.out HPC.out).mono ?_; rintro e w1 ⟨rfl, hb⟩; have HB1 := Aside0.mk (below_in HB.out hb); have HX1 := Aside0.mk (HX.out.below hb); have hy0 := HX1.out.c0; have hy1 := HX1.out.c1; clear hb hx0 hx1))
        go_ret2
        exact ⟨_, rfl, Kd.R_nil _ _ _ _ _, HB9.out⟩
  · obtain rfl : R = ([], pureZ n xs) := by
      rw [← hR]
      unfold shellF pureZ at *
      cases h : isC n xs with
      | false => rfl
      | true =>
        rw [h] at hz
        cases h2 : pureB xs with
        | false => rfl
        | true => rw [h2] at hz; exact absurd rfl hz
    obtain ⟨z, hzz⟩ : ∃ z, pureZ n xs = z := ⟨_, rfl⟩
    rw [hzz] at HPC hz ⊢
    have hz1 : (z == 0) = false := beq_eq_false_iff_ne.2 hz
    clear hR hzz
    go_enter Try.func35, Try.ntmps35
    go_wp2_with (go_at_call 83; refine (QJ.impl_pureCode.calls n A c xs z _ (Kd.C_below HR.out HB.out) HC.out HPC.out).mono ?_; rintro e w1 ⟨rfl, hb⟩; have HB1 := Aside0.mk (below_in HB.out hb); clear hb)
    go_ret2
    exact ⟨_, rfl, Kd.R_nil _ _ _ _ _, HB1.out⟩
end Go.Proofs.Ytomdfjohnmikdaa.Im
namespace Go.Proofs.Ytomdfjohnmikdaa.Ext
set_option linter.unusedVariables false
set_option linter.unusedSimpArgs false
open Go.RowKit Go.Proofs.Ytomdfjohnmikdaa.Im Go.Proofs.Ytomdfjohnmikdaa.Pu Go.Proofs.YtomdfjohnmikdaaW.PrintWords Go.Proofs.YtomdfjohnmikdaaW.PrintLast Go.Proofs.YtomdfjohnmikdaaW.PrintMore
def impl_FirstShelling.f (a0_0 : Int) (l0_1 : List Int) : Option (List Int × Int) := if l0_1.length ≤ 1048576 then some (shellF a0_0 l0_1) else none
theorem impl_FirstShelling.calls (a0_0 : Int) (A0_1 : Option Addr) (c0_1 : Nat) (l0_1 : List Int) (r1 : List Int) (r2 : Int) (w : World) (hr0_1 : Kd.C (Kd.int .i64) w A0_1 l0_1.length l0_1) (_hc0_1 : l0_1.length ≤ c0_1) (h : impl_FirstShelling.f a0_0 l0_1 = some (r1, r2)) :
    Calls Try.prog 35 #[.agg #[.int .i64 a0_0, .slice A0_1 l0_1.length c0_1]] w fun e w' => ∃ v0_ : Value, e = .returned (.tuple #[v0_, .int .i64 r2]) ∧ Kd.R (Kd.int .i64) 2 w' w.heap.size (fun _ => True) v0_ r1 ∧ Below w.heap.size w w' := by
  unfold impl_FirstShelling.f at h
  by_cases hl : l0_1.length ≤ 1048576
  · rw [if_pos hl] at h
    have hd := Option.some.inj h
    have := shell_c a0_0 A0_1 c0_1 l0_1 w hr0_1 _hc0_1 hl
    rw [hd] at this
    exact this
  · rw [if_neg hl] at h; cases h
end Go.Proofs.Ytomdfjohnmikdaa.Ext
namespace Go.Proofs.Ytomdfjohnmikdaa.QFnExactFirstShelling
open Go.Proofs.Ytomdfjohnmikdaa.Cw Go.Proofs.Ytomdfjohnmikdaa.Kp Go.Proofs.Ytomdfjohnmikdaa.Ext Go.Proofs.Ytomdfjohnmikdaa.QS Go.RowKit Go.Proofs.YtomdfjohnmikdaaW.PrintWords Go.Proofs.YtomdfjohnmikdaaW.PrintLast Go.Proofs.YtomdfjohnmikdaaW.PrintMore
attribute [local go_sem] max2_int min2_int max_two min_two max_three min_three max_four min_four   -- for this text's walks alone
set_option linter.unusedVariables false
set_option linter.unusedSimpArgs false
theorem info2 : (Try.prog.info? 2).map (fun i => (i.zero, i.size, i.bytes)) = some (some (.int .i64 0), 1, 8) := by kernel_rfl
theorem info4 : (Try.prog.info? 4).map (fun i => (i.zero, i.size, i.bytes)) = some (some (.bool false), 1, 1) := by kernel_rfl
end Go.Proofs.Ytomdfjohnmikdaa.QFnExactFirstShelling
namespace Go.Proofs.Ytomdfjohnmikdaa.QFnExactFirstShelling
open Go.Proofs.Ytomdfjohnmikdaa.Cw Go.Proofs.Ytomdfjohnmikdaa.Kp Go.Proofs.Ytomdfjohnmikdaa.Ext Go.Proofs.Ytomdfjohnmikdaa.QS Go.RowKit Go.Proofs.YtomdfjohnmikdaaW.PrintWords Go.Proofs.YtomdfjohnmikdaaW.PrintLast Go.Proofs.YtomdfjohnmikdaaW.PrintMore
attribute [local go_sem] max2_int min2_int max_two min_two max_three min_three max_four min_four   -- for this text's walks alone
set_option linter.unusedVariables false
set_option linter.unusedSimpArgs false
def laws_FnExactFirstShelling.f (k : Nat) (a0_0 : Int) (l0_1 : List Int) : Option (Bool) := (laws_szComplex.f a0_0 l0_1 1048576).bind fun t223 => (if t223 < 0 then (some true) else ((laws_toComplex.f k a0_0 l0_1).bind fun bt224 => ((spec_FirstShelling.f k bt224.1 bt224.2).bind fun bt228 => ((laws_toComplex.f k a0_0 l0_1).bind fun bt232 => ((impl_FirstShelling.f bt232.1 bt232.2).bind fun bt237 => ((laws_eqInt64S.f k bt237.1 bt228.1).bind fun t241 => (if t241 = true then (if bt237.2 = bt228.2 then ((laws_toComplex.f k a0_0 l0_1).bind fun bt242 => ((laws_eqComplex.f k bt232.1 bt232.2 bt242.1 bt242.2).bind fun t246 => (if t246 = true then ((laws_markComplex.f k bt232.1 bt232.2 1).bind fun bt247 => (if bt247.1 < 0 then (none) else ((laws_eqInt64S.f k bt237.1 bt228.1).bind fun t249 => (if t249 = true then ((laws_markInt64S.f k bt237.1 1).bind fun bt250 => ((laws_heldInt64S.f k bt250.2 1).bind fun t252 => (if t252 < 0 then (none) else (if t252 = bt250.1 then ((laws_toComplex.f k a0_0 l0_1).bind fun bt253 => ((impl_FirstShelling.f bt253.1 bt253.2).bind fun bt257 => ((laws_eqInt64S.f k bt257.1 bt228.1).bind fun t261 => (if t261 = true then (if bt257.2 = bt228.2 then ((laws_heldInt64S.f k bt250.2 1).bind fun t262 => (if t262 < 0 then (none) else (if t262 = bt250.1 then (some true) else (none)))) else (none)) else (none))))) else (none))))) else (none))))) else (none)))) else (none)) else (none))))))))
set_option maxHeartbeats 8000000 in
set_option maxRecDepth 100000 in
theorem laws_FnExactFirstShelling.calls (k : Nat) (a0_0 : Int) (A0_1 : Option Addr) (c0_1 : Nat) (l0_1 : List Int) (r : Bool) (w : World) (hr0_1 : Kd.C (Kd.int .i64) w A0_1 l0_1.length l0_1) (hc0_1 : l0_1.length ≤ c0_1) (h : laws_FnExactFirstShelling.f k a0_0 l0_1 = some r) :
  Calls Try.prog 7 #[.agg #[.int .i64 a0_0, .slice A0_1 l0_1.length c0_1]] w fun e w' => e = .returned (.bool r) ∧ Below w.heap.size w w' := by
 have hu24 := Try.underlying24
 have hu28 := Try.underlying28
 have HR0_1 := Aside0.mk hr0_1
 have HC0_1 := Aside0.mk hc0_1
 clear hr0_1 hc0_1
 have HB := Aside0.mk (Below.refl w.heap.size w)
 have H : ((laws_szComplex.f a0_0 l0_1 1048576).bind fun t223 => (if t223 < 0 then (some true) else ((laws_toComplex.f k a0_0 l0_1).bind fun bt224 => ((spec_FirstShelling.f k bt224.1 bt224.2).bind fun bt228 => ((laws_toComplex.f k a0_0 l0_1).bind fun bt232 => ((impl_FirstShelling.f bt232.1 bt232.2).bind fun bt237 => ((laws_eqInt64S.f k bt237.1 bt228.1).bind fun t241 => (if t241 = true then (if bt237.2 = bt228.2 then ((laws_toComplex.f k a0_0 l0_1).bind fun bt242 => ((laws_eqComplex.f k bt232.1 bt232.2 bt242.1 bt242.2).bind fun t246 => (if t246 = true then ((laws_markComplex.f k bt232.1 bt232.2 1).bind fun bt247 => (if bt247.1 < 0 then (none) else ((laws_eqInt64S.f k bt237.1 bt228.1).bind fun t249 => (if t249 = true then ((laws_markInt64S.f k bt237.1 1).bind fun bt250 => ((laws_heldInt64S.f k bt250.2 1).bind fun t252 => (if t252 < 0 then (none) else (if t252 = bt250.1 then ((laws_toComplex.f k a0_0 l0_1).bind fun bt253 => ((impl_FirstShelling.f bt253.1 bt253.2).bind fun bt257 => ((laws_eqInt64S.f k bt257.1 bt228.1).bind fun t261 => (if t261 = true then (if bt257.2 = bt228.2 then ((laws_heldInt64S.f k bt250.2 1).bind fun t262 => (if t262 < 0 then (none) else (if t262 = bt250.1 then (some true) else (none)))) else (none)) else (none))))) else (none))))) else (none))))) else (none)))) else (none)) else (none))))))))) = some r := h
 clear h
 replace H := Option.bind_eq_some_iff.mp H
 obtain ⟨t223, A20, H⟩ := H
 try dsimp only at H
 have A2 := Aside0.mk A20
 clear A20
 by_cases c3 : t223 < 0
 ·rw [if_pos c3] at H
  have c3b0 : decide (t223 < 0) = true := decide_eq_true c3
  clear c3
  obtain rfl := Option.some.inj H
  go_enter Try.func7, Try.ntmps7
  go_wp2_with (first | ((with_reducible refine gate_dst (N := 1) rfl ?_); refine box_event ?hg (N := 1) ?hd (cs := #[.int .i64 a0_0, .slice A0_1 l0_1.length c0_1]) (t := 24) ?hr ?_; (case hd => rfl); (case hg => rfl); (case hr => first | (go_simp; done) | (go_simp; rfl)); intro gb222 hg w4 hbox hb; have BK222 := Aside0.mk (hbox); have GW222 := gH HB hg; have GE222 := gH HB hg; replace HB := sH HB hb; clear hb hbox hg; have hcz5_0 : w4.cell? ⟨gb222, 0, none⟩ = some (.int .i64 a0_0) := cB BK222 0; have hcz5_1 : w4.cell? ⟨gb222, 1, none⟩ = some (.slice A0_1 l0_1.length c0_1) := cB BK222 1; have hfz5_0 := zB BK222 0; have hfz5_1 := zB BK222 1) | ((with_reducible refine gate_callee (f := 13) rfl ?_); refine cl_ (some 16) Try.func13 #[.agg #[.int .i64 a0_0, .slice A0_1 l0_1.length c0_1], .int .i64 1048576] ?_; (with_reducible refine (laws_szComplex.calls a0_0 _ _ l0_1 1048576 t223 _ ?side1 ?side2 A2.out).mono ?_); (case side1 => exact pC ((Kd.C_below HR0_1.out HB.out))); (case side2 => exact HC0_1.out); rintro e w6 ⟨rfl, hb⟩; refine ⟨_, rfl, ?_⟩; replace BK222 := sB BK222 hb; replace HB := sH HB hb; (try clear hb); (try clear hi)))
  go_ret
  exact ⟨by first | rfl | (simp [errW_none, errW_some] <;> rfl) | (simp [*, errW_none, errW_some] <;> rfl) | (exfalso; simp_all), pH HB⟩
 ·rw [if_neg c3] at H
  have c3b0 : decide (t223 < 0) = false := decide_eq_false c3
  clear c3
  replace H := Option.bind_eq_some_iff.mp H
  obtain ⟨⟨t224, t225⟩, A70, H⟩ := H
  try dsimp only at H
  have A7 := Aside0.mk A70
  clear A70
  replace H := Option.bind_eq_some_iff.mp H
  obtain ⟨⟨t228, t231⟩, A80, H⟩ := H
  try dsimp only at H
  have A8 := Aside0.mk A80
  clear A80
  replace H := Option.bind_eq_some_iff.mp H
  obtain ⟨⟨t232, t233⟩, A90, H⟩ := H
  try dsimp only at H
  have A9 := Aside0.mk A90
  clear A90
  replace H := Option.bind_eq_some_iff.mp H
  obtain ⟨⟨t237, t240⟩, A100, H⟩ := H
  try dsimp only at H
  have A10 := Aside0.mk A100
  clear A100
  replace H := Option.bind_eq_some_iff.mp H
  obtain ⟨t241, A110, H⟩ := H
  try dsimp only at H
  have A11 := Aside0.mk A110
  clear A110
  by_cases c12 : t241 = true
  ·subst c12
   have H1 : (if t240 = t231 then ((laws_toComplex.f k a0_0 l0_1).bind fun bt242 => ((laws_eqComplex.f k t232 t233 bt242.1 bt242.2).bind fun t246 => (if t246 = true then ((laws_markComplex.f k t232 t233 1).bind fun bt247 => (if bt247.1 < 0 then (none) else ((laws_eqInt64S.f k t237 t228).bind fun t249 => (if t249 = true then ((laws_markInt64S.f k t237 1).bind fun bt250 => ((laws_heldInt64S.f k bt250.2 1).bind fun t252 => (if t252 < 0 then (none) else (if t252 = bt250.1 then ((laws_toComplex.f k a0_0 l0_1).bind fun bt253 => ((impl_FirstShelling.f bt253.1 bt253.2).bind fun bt257 => ((laws_eqInt64S.f k bt257.1 t228).bind fun t261 => (if t261 = true then (if bt257.2 = t231 then ((laws_heldInt64S.f k bt250.2 1).bind fun t262 => (if t262 < 0 then (none) else (if t262 = bt250.1 then (some true) else (none)))) else (none)) else (none))))) else (none))))) else (none))))) else (none)))) else (none)) = some r := by rw [if_pos rfl] at H; exact H
   clear H
   have H := H1
   clear H1
   by_cases c13 : t240 = t231
   ·rw [if_pos c13] at H
    have c13b0 : (t240 == t231) = true := beq_iff_eq.mpr c13
    have c13b1 : (t240 != t231) = false := bne_eq_false_iff_eq.mpr c13
    clear c13
    replace H := Option.bind_eq_some_iff.mp H
    obtain ⟨⟨t242, t243⟩, A140, H⟩ := H
    try dsimp only at H
    have A14 := Aside0.mk A140
    clear A140
    replace H := Option.bind_eq_some_iff.mp H
    obtain ⟨t246, A150, H⟩ := H
    try dsimp only at H
    have A15 := Aside0.mk A150
    clear A150
    by_cases c16 : t246 = true
    ·subst c16
     have H1 : ((laws_markComplex.f k t232 t233 1).bind fun bt247 => (if bt247.1 < 0 then (none) else ((laws_eqInt64S.f k t237 t228).bind fun t249 => (if t249 = true then ((laws_markInt64S.f k t237 1).bind fun bt250 => ((laws_heldInt64S.f k bt250.2 1).bind fun t252 => (if t252 < 0 then (none) else (if t252 = bt250.1 then ((laws_toComplex.f k a0_0 l0_1).bind fun bt253 => ((impl_FirstShelling.f bt253.1 bt253.2).bind fun bt257 => ((laws_eqInt64S.f k bt257.1 t228).bind fun t261 => (if t261 = true then (if bt257.2 = t231 then ((laws_heldInt64S.f k bt250.2 1).bind fun t262 => (if t262 < 0 then (none) else (if t262 = bt250.1 then (some true) else (none)))) else (none)) else (none))))) else (none))))) else (none))))) = some r := by rw [if_pos rfl] at H; exact H
     clear H
     have H := H1
     clear H1
     replace H := Option.bind_eq_some_iff.mp H
     obtain ⟨⟨t247, t248⟩, A170, H⟩ := H
     try dsimp only at H
     have A17 := Aside0.mk A170
     clear A170
     by_cases c18 : t247 < 0
     ·rw [if_pos c18] at H
      exact absurd H (by simp)
     ·rw [if_neg c18] at H
      have c18b0 : decide (t247 < 0) = false := decide_eq_false c18
      clear c18
      replace H := Option.bind_eq_some_iff.mp H
      obtain ⟨t249, A190, H⟩ := H
      try dsimp only at H
      have A19 := Aside0.mk A190
      clear A190
      by_cases c20 : t249 = true
      ·subst c20
       have H1 : ((laws_markInt64S.f k t237 1).bind fun bt250 => ((laws_heldInt64S.f k bt250.2 1).bind fun t252 => (if t252 < 0 then (none) else (if t252 = bt250.1 then ((laws_toComplex.f k a0_0 l0_1).bind fun bt253 => ((impl_FirstShelling.f bt253.1 bt253.2).bind fun bt257 => ((laws_eqInt64S.f k bt257.1 t228).bind fun t261 => (if t261 = true then (if bt257.2 = t231 then ((laws_heldInt64S.f k bt250.2 1).bind fun t262 => (if t262 < 0 then (none) else (if t262 = bt250.1 then (some true) else (none)))) else (none)) else (none))))) else (none))))) = some r := by rw [if_pos rfl] at H; exact H
       clear H
       have H := H1
       clear H1
       replace H := Option.bind_eq_some_iff.mp H
       obtain ⟨⟨t250, t251⟩, A210, H⟩ := H
       try dsimp only at H
       have A21 := Aside0.mk A210
       clear A210
       replace H := Option.bind_eq_some_iff.mp H
       obtain ⟨t252, A220, H⟩ := H
       try dsimp only at H
       have A22 := Aside0.mk A220
       clear A220
       by_cases c23 : t252 < 0
       ·rw [if_pos c23] at H
        exact absurd H (by simp)
       ·rw [if_neg c23] at H
        have c23b0 : decide (t252 < 0) = false := decide_eq_false c23
        clear c23
        by_cases c24 : t252 = t250
        ·rw [if_pos c24] at H
         have c24b0 : (t252 == t250) = true := beq_iff_eq.mpr c24
         have c24b1 : (t252 != t250) = false := bne_eq_false_iff_eq.mpr c24
         clear c24
         replace H := Option.bind_eq_some_iff.mp H
         obtain ⟨⟨t253, t254⟩, A250, H⟩ := H
         try dsimp only at H
         have A25 := Aside0.mk A250
         clear A250
         replace H := Option.bind_eq_some_iff.mp H
         obtain ⟨⟨t257, t260⟩, A260, H⟩ := H
         try dsimp only at H
         have A26 := Aside0.mk A260
         clear A260
         replace H := Option.bind_eq_some_iff.mp H
         obtain ⟨t261, A270, H⟩ := H
         try dsimp only at H
         have A27 := Aside0.mk A270
         clear A270
         by_cases c28 : t261 = true
         ·subst c28
          have H1 : (if t260 = t231 then ((laws_heldInt64S.f k t251 1).bind fun t262 => (if t262 < 0 then (none) else (if t262 = t250 then (some true) else (none)))) else (none)) = some r := by rw [if_pos rfl] at H; exact H
          clear H
          have H := H1
          clear H1
          by_cases c29 : t260 = t231
          ·rw [if_pos c29] at H
           have c29b0 : (t260 == t231) = true := beq_iff_eq.mpr c29
           have c29b1 : (t260 != t231) = false := bne_eq_false_iff_eq.mpr c29
           clear c29
           replace H := Option.bind_eq_some_iff.mp H
           obtain ⟨t262, A300, H⟩ := H
           try dsimp only at H
           have A30 := Aside0.mk A300
           clear A300
           by_cases c31 : t262 < 0
           ·rw [if_pos c31] at H
            exact absurd H (by simp)
           ·rw [if_neg c31] at H
            have c31b0 : decide (t262 < 0) = false := decide_eq_false c31
            clear c31
            by_cases c32 : t262 = t250
            ·rw [if_pos c32] at H
             have c32b0 : (t262 == t250) = true := beq_iff_eq.mpr c32
             have c32b1 : (t262 != t250) = false := bne_eq_false_iff_eq.mpr c32
             clear c32
             obtain rfl := Option.some.inj H
             go_enter Try.func7, Try.ntmps7
             try go_wp2_with (first | ((with_reducible refine gate_dst (N := 1) rfl ?_); refine box_event ?hg (N := 1) ?hd (cs := #[.int .i64 a0_0, .slice A0_1 l0_1.length c0_1]) (t := 24) ?hr ?_; (case hd => rfl); (case hg => rfl); (case hr => first | (go_simp; done) | (go_simp; rfl)); intro gb222 hg w33 hbox hb; have BK222 := Aside0.mk (hbox); have GW222 := gH HB hg; have GE222 := gH HB hg; replace HB := sH HB hb; clear hb hbox hg; have hcz34_0 : w33.cell? ⟨gb222, 0, none⟩ = some (.int .i64 a0_0) := cB BK222 0; have hcz34_1 : w33.cell? ⟨gb222, 1, none⟩ = some (.slice A0_1 l0_1.length c0_1) := cB BK222 1; have hfz34_0 := zB BK222 0; have hfz34_1 := zB BK222 1) | ((with_reducible refine gate_callee (f := 13) rfl ?_); refine cl_ (some 16) Try.func13 #[.agg #[.int .i64 a0_0, .slice A0_1 l0_1.length c0_1], .int .i64 1048576] ?_; (with_reducible refine (laws_szComplex.calls a0_0 _ _ l0_1 1048576 t223 _ ?side1 ?side2 A2.out).mono ?_); (case side1 => exact pC ((Kd.C_below HR0_1.out HB.out))); (case side2 => exact HC0_1.out); rintro e w35 ⟨rfl, hb⟩; refine ⟨_, rfl, ?_⟩; replace BK222 := sB BK222 hb; replace HB := sH HB hb; (try clear hb); (try clear hi); have hcz36_0 : w35.cell? ⟨gb222, 0, none⟩ = some (.int .i64 a0_0) := cB BK222 0; have hcz36_1 : w35.cell? ⟨gb222, 1, none⟩ = some (.slice A0_1 l0_1.length c0_1) := cB BK222 1; have hfz36_0 := zB BK222 0; have hfz36_1 := zB BK222 1) | ((with_reducible refine gate_callee (f := 15) rfl ?_); refine cl_ (some 21) Try.func15 #[.agg #[.int .i64 a0_0, .slice A0_1 l0_1.length c0_1]] ?_; (with_reducible refine (laws_toComplex.calls k a0_0 _ _ l0_1 t224 t225 _ ?side1 ?side2 A7.out).mono ?_); (case side1 => exact pC ((Kd.C_below HR0_1.out HB.out))); (case side2 => exact HC0_1.out); rintro e w37 ⟨v226, rfl, ho0, hb⟩; refine ⟨_, rfl, ?_⟩; have HO227 := Aside0.mk (Kd.R_lower ho0 (below_size (pH HB))); replace BK222 := sB BK222 hb; replace HB := sH HB hb; (try clear hb); (try clear hi); (try clear ho0); obtain ⟨Ao38, co38, eo38⟩ := Kd.R_slice HO227.out; subst eo38) | ((with_reducible refine gate_callee (f := 34) rfl ?_); refine cl_ (some 22) Try.func34 #[.agg #[.int .i64 t224, .slice Ao38 t225.length co38]] ?_; (with_reducible refine (spec_FirstShelling.calls k t224 _ _ t225 t228 t231 _ ?side1 ?side2 A8.out).mono ?_); (case side1 => exact pC ((Kd.R_reads' HO227.out).2.2)); (case side2 => exact (Kd.R_reads' HO227.out).2.1); rintro e w39 ⟨v229, rfl, ho0, hb⟩; refine ⟨_, rfl, ?_⟩; have HO230 := Aside0.mk (Kd.R_lower (Kd.R_new' ho0 (Kd.R_lt (pR HO227))) (below_size (pH HB))); replace HO227 := Aside0.mk (Kd.R_elder' (pR HO227) (Kd.R_base ho0) hb); replace BK222 := sB BK222 hb; replace HB := sH HB hb; (try clear hb); (try clear hi); (try clear ho0); have hcz40_0 : w39.cell? ⟨gb222, 0, none⟩ = some (.int .i64 a0_0) := cB BK222 0; have hcz40_1 : w39.cell? ⟨gb222, 1, none⟩ = some (.slice A0_1 l0_1.length c0_1) := cB BK222 1; have hfz40_0 := zB BK222 0; have hfz40_1 := zB BK222 1) | ((with_reducible refine gate_callee (f := 15) rfl ?_); refine cl_ (some 26) Try.func15 #[.agg #[.int .i64 a0_0, .slice A0_1 l0_1.length c0_1]] ?_; (with_reducible refine (laws_toComplex.calls k a0_0 _ _ l0_1 t232 t233 _ ?side1 ?side2 A9.out).mono ?_); (case side1 => exact pC ((Kd.C_below HR0_1.out HB.out))); (case side2 => exact HC0_1.out); rintro e w41 ⟨v234, rfl, ho0, hb⟩; refine ⟨_, rfl, ?_⟩; have HO235 := Aside0.mk (Kd.R_lower (Kd.R_new' (Kd.R_new' ho0 (Kd.R_lt (pR HO227))) (Kd.R_lt (pR HO230))) (below_size (pH HB))); replace HO227 := Aside0.mk (Kd.R_elder' (pR HO227) (Kd.R_base ho0) hb); replace HO230 := Aside0.mk (Kd.R_elder' (pR HO230) (Kd.R_base ho0) hb); replace BK222 := sB BK222 hb; replace HB := sH HB hb; (try clear hb); (try clear hi); (try clear ho0)) | ((with_reducible refine gate_dst (N := 6) rfl ?_); refine box_event ?hg (N := 6) ?hd (cs := #[.int .i64 0, .slice none 0 0]) (t := 28) ?hr ?_; (case hd => rfl); (case hg => rfl); (case hr => first | (go_simp; done) | (go_simp; rfl)); intro gb236 hg w42 hbox hb; replace HO227 := sR HO227 hb; replace HO230 := sR HO230 hb; replace HO235 := sR HO235 hb; have BK236 := Aside0.mk (hbox); have GW236 := gH HB hg; have GE236 := gH HB hg; replace HB := sH HB hb; have NB222_236 := nB BK222 hg; have NB236_222 := oB BK222 hg; replace BK222 := sB BK222 hb; clear hb hbox hg; (try have hnb43 := NB236_222.out); (try have hnc43 := NB222_236.out); have hcz44_0 : w42.cell? ⟨gb236, 0, none⟩ = some (.int .i64 0) := cB BK236 0; have hcz44_1 : w42.cell? ⟨gb236, 1, none⟩ = some (.slice none 0 0) := cB BK236 1; have hfz44_0 := zB BK236 0; have hfz44_1 := zB BK236 1; obtain ⟨Ao45, co45, eo45⟩ := Kd.R_slice HO235.out; subst eo45) | ((with_reducible refine gate_callee (f := 35) rfl ?_); refine cl_ (some 29) Try.func35 #[.agg #[.int .i64 t232, .slice Ao45 t233.length co45]] ?_; (with_reducible refine (impl_FirstShelling.calls t232 _ _ t233 t237 t240 _ ?side1 ?side2 A10.out).mono ?_); (case side1 => refine (Kd.R_reads' (e := 2) (base := w.heap.size) (ok := fun k_ => ((True ∧ some k_ ≠ (.slice Ao38 t225.length co38 : Value).ownBlock) ∧ some k_ ≠ (v229 : Value).ownBlock)) (n := t233.length) (c := co45) ?_).2.2; exact (by (with_reducible repeat (first | apply Kd.R_alloc | apply Kd.R_drewN | apply Kd.R_drew)); exact (Kd.R_mono (Kd.R_far (p := ⟨gb236, 1, none⟩) (Kd.R_far (p := ⟨gb236, 0, none⟩) (Kd.R_types HO235.out BK236.out (by decide)) (fun _ hk => hk.2) (.int .i64 t232)) (fun _ hk => hk.2) (.slice Ao45 t233.length co45)) (fun _ h_ => h_.1)))); (case side2 => exact (Kd.R_reads' HO235.out).2.1); rintro e w46 ⟨v238, rfl, ho0, hb⟩; refine ⟨_, rfl, ?_⟩; have n0_ := Aside0.mk (Kd.R_elder' (by (with_reducible repeat (first | apply Kd.R_alloc | apply Kd.R_drewN | apply Kd.R_drew)); exact (Kd.R_mono (Kd.R_far (p := ⟨gb236, 1, none⟩) (Kd.R_far (p := ⟨gb236, 0, none⟩) (Kd.R_types HO227.out BK236.out (by decide)) (fun _ hk => hk.2) (.int .i64 t232)) (fun _ hk => hk.2) (.slice Ao45 t233.length co45)) (fun _ h_ => h_.1))) (Kd.R_base ho0) hb); have n1_ := Aside0.mk (Kd.R_elder' (by (with_reducible repeat (first | apply Kd.R_alloc | apply Kd.R_drewN | apply Kd.R_drew)); exact (Kd.R_mono (Kd.R_far (p := ⟨gb236, 1, none⟩) (Kd.R_far (p := ⟨gb236, 0, none⟩) (Kd.R_types HO230.out BK236.out (by decide)) (fun _ hk => hk.2) (.int .i64 t232)) (fun _ hk => hk.2) (.slice Ao45 t233.length co45)) (fun _ h_ => h_.1))) (Kd.R_base ho0) hb); have n2_ := Aside0.mk (Kd.R_elder' (by (with_reducible repeat (first | apply Kd.R_alloc | apply Kd.R_drewN | apply Kd.R_drew)); exact (Kd.R_mono (Kd.R_far (p := ⟨gb236, 1, none⟩) (Kd.R_far (p := ⟨gb236, 0, none⟩) (Kd.R_types HO235.out BK236.out (by decide)) (fun _ hk => hk.2) (.int .i64 t232)) (fun _ hk => hk.2) (.slice Ao45 t233.length co45)) (fun _ h_ => h_.1))) (Kd.R_base ho0) hb); have n3_ := Aside0.mk (Kd.R_lower (Kd.R_new' (Kd.R_new' (Kd.R_new' ho0 (Kd.R_lt (by (with_reducible repeat (first | apply Kd.R_alloc | apply Kd.R_drewN | apply Kd.R_drew)); exact (Kd.R_mono (Kd.R_far (p := ⟨gb236, 1, none⟩) (Kd.R_far (p := ⟨gb236, 0, none⟩) (Kd.R_types HO227.out BK236.out (by decide)) (fun _ hk => hk.2) (.int .i64 t232)) (fun _ hk => hk.2) (.slice Ao45 t233.length co45)) (fun _ h_ => h_.1))))) (Kd.R_lt (by (with_reducible repeat (first | apply Kd.R_alloc | apply Kd.R_drewN | apply Kd.R_drew)); exact (Kd.R_mono (Kd.R_far (p := ⟨gb236, 1, none⟩) (Kd.R_far (p := ⟨gb236, 0, none⟩) (Kd.R_types HO230.out BK236.out (by decide)) (fun _ hk => hk.2) (.int .i64 t232)) (fun _ hk => hk.2) (.slice Ao45 t233.length co45)) (fun _ h_ => h_.1))))) (Kd.R_lt (by (with_reducible repeat (first | apply Kd.R_alloc | apply Kd.R_drewN | apply Kd.R_drew)); exact (Kd.R_mono (Kd.R_far (p := ⟨gb236, 1, none⟩) (Kd.R_far (p := ⟨gb236, 0, none⟩) (Kd.R_types HO235.out BK236.out (by decide)) (fun _ hk => hk.2) (.int .i64 t232)) (fun _ hk => hk.2) (.slice Ao45 t233.length co45)) (fun _ h_ => h_.1))))) (below_size (pH HB))); have n4_ := Aside0.mk (blk_below (g := gb222) (o := .cells #[.int .i64 a0_0, .slice A0_1 l0_1.length c0_1] 24 (0, 0)) (by (with_reducible repeat (first | refine blk_drewN ?_ _ | refine blk_drew ?_ | refine blk_alloc ?_ _)); refine blk_far ?_ NB222_236.out _; (with_reducible repeat (first | refine blk_drewN ?_ _ | refine blk_drew ?_ | refine blk_alloc ?_ _)); refine blk_far ?_ NB222_236.out _; (with_reducible repeat (first | refine blk_drewN ?_ _ | refine blk_drew ?_ | refine blk_alloc ?_ _)); exact BK222.out) hb); have n5_ := Aside0.mk (blk_below (g := gb236) (o := .cells #[.int .i64 t232, .slice Ao45 t233.length co45] 28 (0, 0)) (by (with_reducible repeat (first | refine blk_drewN ?_ _ | refine blk_drew ?_ | refine blk_alloc ?_ _)); refine blk_put (cs := #[.int .i64 t232, .slice none 0 0]) ?_ 1 _ rfl; (with_reducible repeat (first | refine blk_drewN ?_ _ | refine blk_drew ?_ | refine blk_alloc ?_ _)); refine blk_put (cs := #[.int .i64 0, .slice none 0 0]) ?_ 0 _ rfl; (with_reducible repeat (first | refine blk_drewN ?_ _ | refine blk_drew ?_ | refine blk_alloc ?_ _)); exact BK236.out) hb); have n6_ := sH HB hb; clear HO227; clear HO230; clear HO235; clear BK222; clear BK236; clear HB; have HO227 := n0_; have HO230 := n1_; have HO235 := n2_; have HO239 := n3_; have BK222 := n4_; have BK236 := n5_; have HB := n6_; clear n0_ n1_ n2_ n3_ n4_ n5_ n6_; (try clear hb); (try clear hi); (try clear ho0); obtain ⟨Ao47, co47, eo47⟩ := Kd.R_slice HO239.out; subst eo47; obtain ⟨Ao48, co48, eo48⟩ := Kd.R_slice HO230.out; subst eo48) | ((with_reducible refine gate_callee (f := 18) rfl ?_); refine cl_ (some 34) Try.func18 #[.slice Ao47 t237.length co47, .slice Ao48 t228.length co48] ?_; (with_reducible refine (laws_eqInt64S.calls k _ _ t237 _ _ t228 true _ ?side1 ?side2 ?side3 ?side4 A11.out).mono ?_); (case side1 => exact pC ((Kd.R_reads' HO239.out).2.2)); (case side2 => exact (Kd.R_reads' HO239.out).2.1); (case side3 => exact pC ((Kd.R_reads' HO230.out).2.2)); (case side4 => exact (Kd.R_reads' HO230.out).2.1); rintro e w' ⟨rfl, ⟨nd, rfl⟩⟩; refine ⟨_, rfl, ?_⟩))
             (try (rw [drewN_self w46]; generalize hq_ : World.drewN w46 _ = w46; have n0_ : Aside0 (Kd.R (Kd.int .i64) 2 w46 w.heap.size (fun k_ => some k_ ≠ (.slice Ao48 t228.length co48 : Value).ownBlock ∧ some k_ ≠ (.slice Ao45 t233.length co45 : Value).ownBlock ∧ some k_ ≠ (.slice Ao47 t237.length co47 : Value).ownBlock) (.slice Ao38 t225.length co38) t225) := ⟨by rw [← hq_]; exact (by (with_reducible repeat (first | apply Kd.R_alloc | apply Kd.R_drewN | apply Kd.R_drew)); exact Kd.R_mono HO227.out (fun _ hk => ⟨hk.1.1.2, ⟨hk.1.2, hk.2⟩⟩))⟩; have n1_ : Aside0 (Kd.R (Kd.int .i64) 2 w46 w.heap.size (fun k_ => some k_ ≠ (.slice Ao38 t225.length co38 : Value).ownBlock ∧ some k_ ≠ (.slice Ao45 t233.length co45 : Value).ownBlock ∧ some k_ ≠ (.slice Ao47 t237.length co47 : Value).ownBlock) (.slice Ao48 t228.length co48) t228) := ⟨by rw [← hq_]; exact (by (with_reducible repeat (first | apply Kd.R_alloc | apply Kd.R_drewN | apply Kd.R_drew)); exact Kd.R_mono HO230.out (fun _ hk => ⟨hk.1.1.2, ⟨hk.1.2, hk.2⟩⟩))⟩; have n2_ : Aside0 (Kd.R (Kd.int .i64) 2 w46 w.heap.size (fun k_ => some k_ ≠ (.slice Ao38 t225.length co38 : Value).ownBlock ∧ some k_ ≠ (.slice Ao48 t228.length co48 : Value).ownBlock ∧ some k_ ≠ (.slice Ao47 t237.length co47 : Value).ownBlock) (.slice Ao45 t233.length co45) t233) := ⟨by rw [← hq_]; exact (by (with_reducible repeat (first | apply Kd.R_alloc | apply Kd.R_drewN | apply Kd.R_drew)); exact Kd.R_mono HO235.out (fun _ hk => ⟨hk.1.1.2, ⟨hk.1.2, hk.2⟩⟩))⟩; have n3_ : Aside0 (Kd.R (Kd.int .i64) 2 w46 w.heap.size (fun k_ => some k_ ≠ (.slice Ao38 t225.length co38 : Value).ownBlock ∧ some k_ ≠ (.slice Ao48 t228.length co48 : Value).ownBlock ∧ some k_ ≠ (.slice Ao45 t233.length co45 : Value).ownBlock) (.slice Ao47 t237.length co47) t237) := ⟨by rw [← hq_]; exact (by (with_reducible repeat (first | apply Kd.R_alloc | apply Kd.R_drewN | apply Kd.R_drew)); exact Kd.R_mono HO239.out (fun _ hk => ⟨hk.1.1.2, ⟨hk.1.2, hk.2⟩⟩))⟩; have n4_ : Aside0 (w46.heap[gb222]? = some (.cells #[.int .i64 a0_0, .slice A0_1 l0_1.length c0_1] 24 (0, 0))) := ⟨by rw [← hq_]; exact (pB BK222)⟩; have n5_ : Aside0 (w46.heap[gb236]? = some (.cells #[.int .i64 t232, .slice Ao45 t233.length co45] 28 (0, 0))) := ⟨by rw [← hq_]; exact (pB BK236)⟩; have n6_ : Aside0 (Below w.heap.size w w46) := ⟨by rw [← hq_]; exact (pH HB)⟩; clear HO227 HO230 HO235 HO239 BK222 BK236 HB hq_; have HO227 := n0_; have HO230 := n1_; have HO235 := n2_; have HO239 := n3_; have BK222 := n4_; have BK236 := n5_; have HB := n6_; clear n0_ n1_ n2_ n3_ n4_ n5_ n6_))
             (try (have hcz49_0 : w46.cell? ⟨gb222, 0, none⟩ = some (.int .i64 a0_0) := cB BK222 0; have hcz49_1 : w46.cell? ⟨gb222, 1, none⟩ = some (.slice A0_1 l0_1.length c0_1) := cB BK222 1; have hfz49_0 := zB BK222 0; have hfz49_1 := zB BK222 1))
             (try (have hcz50_0 : w46.cell? ⟨gb236, 0, none⟩ = some (.int .i64 t232) := cB BK236 0; have hcz50_1 : w46.cell? ⟨gb236, 1, none⟩ = some (.slice Ao45 t233.length co45) := cB BK236 1; have hfz50_0 := zB BK236 0; have hfz50_1 := zB BK236 1))
             replace HO227 := Aside0.mk (Kd.R_drew HO227.out)
             replace HO230 := Aside0.mk (Kd.R_drew HO230.out)
             replace HO235 := Aside0.mk (Kd.R_drew HO235.out)
             replace HO239 := Aside0.mk (Kd.R_drew HO239.out)
             replace BK222 := dB BK222
             replace BK236 := dB BK236
             replace HB := dH HB
             refine st_ 5 (S := fun w' => w'.cell? ⟨gb236, 0, none⟩ = some (.int .i64 t232) ∧ w'.cell? ⟨gb236, 1, none⟩ = some (.slice Ao45 t233.length co45) ∧ w'.cell? ⟨gb222, 0, none⟩ = some (.int .i64 a0_0) ∧ w'.cell? ⟨gb222, 1, none⟩ = some (.slice A0_1 l0_1.length c0_1)) (ds := []) ⟨cB BK236 0, cB BK236 1, cB BK222 0, cB BK222 1⟩ (fun hHeld => ?_)
             generalize w46.drew = w51 at HO227 HO230 HO235 HO239 BK222 BK236 HB hHeld ⊢
             refine take_ (i := 0) (N := some 41) (v := ?_) (a' := ?_) (mB 5 1) rfl rfl (by kernel_rfl) (fun _ _ _ h => h) (Or.inl ⟨by rfl, ?_⟩) hHeld ?_ ?_
             rotate_left
             ·rintro w' ⟨s0, s1, s2, s3⟩
              go_simp
              with_reducible rfl
             rotate_left
             ·simp only [Act.put, List.setIfInBounds_toArray, List.set_cons_zero, List.set_cons_succ, i64_w, i32_w]
              rfl
             refine take_ (i := 1) (N := some 42) (v := ?_) (a' := ?_) (mB 5 3) rfl rfl (by kernel_rfl) (fun _ _ _ h => h) (Or.inl ⟨by rfl, ?_⟩) hHeld ?_ ?_
             rotate_left
             ·rintro w' ⟨s0, s1, s2, s3⟩
              go_simp
              with_reducible rfl
             rotate_left
             ·simp only [Act.put, List.setIfInBounds_toArray, List.set_cons_zero, List.set_cons_succ, i64_w, i32_w]
              rfl
             refine one_ (i := 2) (N := some 43) (mB 5 7) rfl rfl (by kernel_rfl) (by decide) (fun K hK => ?_)
             refine ca_ Try.func15 #[.agg #[.int .i64 a0_0, .slice A0_1 l0_1.length c0_1]] ?_
             with_reducible refine (laws_toComplex.calls k a0_0 _ _ l0_1 t242 t243 _ ?side1 ?side2 A14.out).mono ?_
             (case side1 => exact pC ((Kd.C_below HR0_1.out HB.out)))
             (case side2 => exact HC0_1.out)
             rintro e w52 ⟨v244, rfl, ho0, hb⟩
             refine ⟨_, rfl, ?_⟩
             have HO245 := Aside0.mk (Kd.R_lower (Kd.R_new' (Kd.R_new' (Kd.R_new' (Kd.R_new' ho0 (Kd.R_lt (pR HO227))) (Kd.R_lt (pR HO230))) (Kd.R_lt (pR HO235))) (Kd.R_lt (pR HO239))) (below_size (pH HB)))
             replace HO227 := Aside0.mk (Kd.R_elder' (pR HO227) (Kd.R_base ho0) hb)
             replace HO230 := Aside0.mk (Kd.R_elder' (pR HO230) (Kd.R_base ho0) hb)
             replace HO235 := Aside0.mk (Kd.R_elder' (pR HO235) (Kd.R_base ho0) hb)
             replace HO239 := Aside0.mk (Kd.R_elder' (pR HO239) (Kd.R_base ho0) hb)
             replace BK222 := sB BK222 hb
             replace BK236 := sB BK236 hb
             replace HB := sH HB hb
             (try clear hb)
             (try clear hb2)
             (try clear hk)
             (try clear hi)
             (try clear ho0)
             obtain ⟨Ao53, co53, eo53⟩ := Kd.R_slice HO245.out
             (first | subst eo53 | (injection eo53 with f1_ f2_ f3_; have f4_ := f1_.symm; have f5_ := f3_.symm; clear f1_ f2_ f3_; subst f4_; subst f5_))
             refine hK.out _ _ ⟨cB BK236 0, cB BK236 1, cB BK222 0, cB BK222 1⟩ (fun hHeld => ?_)
             clear hK K
             refine nm_ ?_
             refine one_ (i := 3) (N := some 44) (mB 5 15) rfl rfl (by kernel_rfl) (by decide) (fun K hK => ?_)
             refine ca_ Try.func19 #[.agg #[.int .i64 t232, .slice Ao45 t233.length co45], .agg #[.int .i64 t242, .slice Ao53 t243.length co53]] ?_
             with_reducible refine (laws_eqComplex.calls k t232 _ _ t233 t242 _ _ t243 true _ ?side1 ?side2 ?side3 ?side4 A15.out).mono ?_
             (case side1 => exact pC ((Kd.R_reads' HO235.out).2.2))
             (case side2 => exact (Kd.R_reads' HO235.out).2.1)
             (case side3 => exact pC ((Kd.R_reads' HO245.out).2.2))
             (case side4 => exact (Kd.R_reads' HO245.out).2.1)
             rintro e w54 ⟨rfl, hb⟩
             refine ⟨_, rfl, ?_⟩
             replace HO227 := sR HO227 hb
             replace HO230 := sR HO230 hb
             replace HO235 := sR HO235 hb
             replace HO239 := sR HO239 hb
             replace HO245 := sR HO245 hb
             replace BK222 := sB BK222 hb
             replace BK236 := sB BK236 hb
             replace HB := sH HB hb
             (try clear hb)
             (try clear hb2)
             (try clear hk)
             (try clear hi)
             refine hK.out _ _ ⟨cB BK236 0, cB BK236 1, cB BK222 0, cB BK222 1⟩ (fun hHeld => ?_)
             clear hK K
             refine nm_ ?_
             refine pure_ (i := 4) (N := some 45) (v := ?_) (a' := ?_) (mB 5 31) rfl rfl (by kernel_rfl) (fun _ _ _ h => h) (Or.inl ⟨by rfl, ?_⟩) ?_ ?_
             rotate_left
             ·intro w'
              go_simp
              with_reducible rfl
             rotate_left
             ·simp only [Act.put, List.setIfInBounds_toArray, List.set_cons_zero, List.set_cons_succ, i64_w, i32_w]
              rfl
             refine done_ (by kernel_rfl) ?_
             have hcz55_0 : w54.cell? ⟨gb236, 0, none⟩ = some (.int .i64 t232) := cB BK236 0
             have hcz55_1 : w54.cell? ⟨gb236, 1, none⟩ = some (.slice Ao45 t233.length co45) := cB BK236 1
             have hfz55_0 := zB BK236 0
             have hfz55_1 := zB BK236 1
             try go_wp2_with (first | ((with_reducible refine gate_callee (f := 20) rfl ?_); refine cl_ (some 48) Try.func20 #[.agg #[.int .i64 t232, .slice Ao45 t233.length co45], .int .i64 1] ?_; (with_reducible refine (laws_markComplex.calls k t232 (fun k_ => some k_ = (.slice Ao45 t233.length co45 : Value).ownBlock) (.slice Ao45 t233.length co45) t233 1 t247 t248 w _ ?side1 ?side2 A17.out).mono ?_); (case side1 => repeat (first | (with_reducible first | exact HB.out | apply below_alloc | apply pw_below_drewN | apply below_drew1 | refine below_set ?_ GE222.out | refine below_set ?_ GE236.out) | exact HB.out)); (case side2 => exact Kd.R_tight rfl HO235.out); rintro e w56 ⟨rfl, hy0, hb, hkp⟩; refine ⟨_, rfl, ?_⟩; replace BK222 := Aside0.mk (blk_kept (pB BK222) hkp (fun hs_ => (fun e_ => (Kd.R_ne HO235.out BK222.out (by decide)) e_) hs_)); replace HO227 := Aside0.mk (Kd.R_mono (ok' := fun k_ => some k_ ≠ (.slice Ao48 t228.length co48 : Value).ownBlock ∧ some k_ ≠ (.slice Ao45 t233.length co45 : Value).ownBlock ∧ some k_ ≠ (.slice Ao47 t237.length co47 : Value).ownBlock ∧ some k_ ≠ (.slice Ao53 t243.length co53 : Value).ownBlock) (Kd.R_keptB (HO227.out) hkp (fun k_ hk_ hs_ => (hk_.1.2.1) hs_)) (fun k_ hk_ => ⟨hk_.1.1.1, hk_.1.1.2.1, hk_.1.1.2.2, hk_.1.2⟩)); replace HO230 := Aside0.mk (Kd.R_mono (ok' := fun k_ => some k_ ≠ (.slice Ao38 t225.length co38 : Value).ownBlock ∧ some k_ ≠ (.slice Ao45 t233.length co45 : Value).ownBlock ∧ some k_ ≠ (.slice Ao47 t237.length co47 : Value).ownBlock ∧ some k_ ≠ (.slice Ao53 t243.length co53 : Value).ownBlock) (Kd.R_keptB (HO230.out) hkp (fun k_ hk_ hs_ => (hk_.1.2.1) hs_)) (fun k_ hk_ => ⟨hk_.1.1.1, hk_.1.1.2.1, hk_.1.1.2.2, hk_.1.2⟩)); replace BK236 := Aside0.mk (blk_kept (pB BK236) hkp (fun hs_ => (fun e_ => (Kd.R_ne HO235.out BK236.out (by decide)) e_) hs_)); replace HO235 := Aside0.mk (Kd.R_reok rfl hy0 (fun k_ e_ => HO235.out.1 k_ e_)); replace HO239 := Aside0.mk (Kd.R_mono (ok' := fun k_ => some k_ ≠ (.slice Ao38 t225.length co38 : Value).ownBlock ∧ some k_ ≠ (.slice Ao48 t228.length co48 : Value).ownBlock ∧ some k_ ≠ (.slice Ao45 t233.length co45 : Value).ownBlock ∧ some k_ ≠ (.slice Ao53 t243.length co53 : Value).ownBlock) (Kd.R_keptB (HO239.out) hkp (fun k_ hk_ hs_ => (hk_.1.2.2) hs_)) (fun k_ hk_ => ⟨hk_.1.1.1, hk_.1.1.2.1, hk_.1.1.2.2, hk_.1.2⟩)); replace HO245 := Aside0.mk (Kd.R_mono (ok' := fun k_ => some k_ ≠ (.slice Ao38 t225.length co38 : Value).ownBlock ∧ some k_ ≠ (.slice Ao48 t228.length co48 : Value).ownBlock ∧ some k_ ≠ (.slice Ao45 t233.length co45 : Value).ownBlock ∧ some k_ ≠ (.slice Ao47 t237.length co47 : Value).ownBlock) (Kd.R_keptB (HO245.out) hkp (fun k_ hk_ hs_ => (hk_.1.2) hs_)) (fun k_ hk_ => ⟨hk_.1.1.1.1.2, hk_.1.1.1.2, hk_.1.1.2, hk_.1.2⟩)); replace HB := Aside0.mk (hb); (try clear hb); (try clear hkp); (try clear hy0); have nD_ := Aside0.mk (Kd.R_mono (ok' := fun k_ => some k_ ≠ (.slice Ao45 t233.length co45 : Value).ownBlock ∧ some k_ ≠ (.slice Ao47 t237.length co47 : Value).ownBlock) HO230.out (fun k_ hk => ⟨hk.2.1, hk.2.2.1⟩)); clear HO230; have HO230 := nD_; clear nD_; have nD_ := Aside0.mk (Kd.R_mono (ok' := fun k_ => some k_ ≠ (.slice Ao48 t228.length co48 : Value).ownBlock ∧ some k_ ≠ (.slice Ao47 t237.length co47 : Value).ownBlock) HO235.out (fun k_ hk => ⟨hk.1.2.1, hk.1.2.2⟩)); clear HO235; have HO235 := nD_; clear nD_; have nD_ := Aside0.mk (Kd.R_mono (ok' := fun k_ => some k_ ≠ (.slice Ao48 t228.length co48 : Value).ownBlock ∧ some k_ ≠ (.slice Ao45 t233.length co45 : Value).ownBlock) HO239.out (fun k_ hk => ⟨hk.2.1, hk.2.2.1⟩)); clear HO239; have HO239 := nD_; clear nD_; clear HO227 HO245) | (go_at_call 18; (with_reducible refine (laws_eqInt64S.calls k _ _ t237 _ _ t228 true _ ?side1 ?side2 ?side3 ?side4 A19.out).mono ?_); (case side1 => exact pC ((Kd.R_reads' HO239.out).2.2)); (case side2 => exact (Kd.R_reads' HO239.out).2.1); (case side3 => exact pC ((Kd.R_reads' HO230.out).2.2)); (case side4 => exact (Kd.R_reads' HO230.out).2.1); rintro e w' ⟨rfl, ⟨nd, rfl⟩⟩) | ((with_reducible refine gate_callee (f := 21) rfl ?_); refine cl_ (some 64) Try.func21 #[.slice Ao47 t237.length co47, .int .i64 1] ?_; (with_reducible refine (laws_markInt64S.calls k (fun k_ => some k_ = (.slice Ao47 t237.length co47 : Value).ownBlock) (.slice Ao47 t237.length co47) t237 1 t250 t251 w _ ?side1 ?side2 A21.out).mono ?_); (case side1 => repeat (first | (with_reducible first | exact HB.out | apply below_alloc | apply pw_below_drewN | apply below_drew1 | refine below_set ?_ GE222.out | refine below_set ?_ GE236.out) | exact HB.out)); (case side2 => exact Kd.R_tight rfl HO239.out); rintro e w57 ⟨rfl, hy0, hb, hkp⟩; refine ⟨_, rfl, ?_⟩; replace BK222 := Aside0.mk (blk_kept (pB BK222) hkp (fun hs_ => (fun e_ => (Kd.R_ne HO239.out BK222.out (by decide)) e_) hs_)); replace HO230 := Aside0.mk (Kd.R_mono (ok' := fun k_ => some k_ ≠ (.slice Ao45 t233.length co45 : Value).ownBlock ∧ some k_ ≠ (.slice Ao47 t237.length co47 : Value).ownBlock) (Kd.R_keptB (HO230.out) hkp (fun k_ hk_ hs_ => (hk_.2) hs_)) (fun k_ hk_ => ⟨hk_.1.1, hk_.1.2⟩)); replace HO235 := Aside0.mk (Kd.R_mono (ok' := fun k_ => some k_ ≠ (.slice Ao48 t228.length co48 : Value).ownBlock ∧ some k_ ≠ (.slice Ao47 t237.length co47 : Value).ownBlock) (Kd.R_keptB (HO235.out) hkp (fun k_ hk_ hs_ => (hk_.2) hs_)) (fun k_ hk_ => ⟨hk_.1.1, hk_.1.2⟩)); replace BK236 := Aside0.mk (blk_kept (pB BK236) hkp (fun hs_ => (fun e_ => (Kd.R_ne HO239.out BK236.out (by decide)) e_) hs_)); replace HO239 := Aside0.mk (Kd.R_reok rfl hy0 (fun k_ e_ => HO239.out.1 k_ e_)); replace HB := Aside0.mk (hb); (try clear hb); (try clear hkp); (try clear hy0)) | ((with_reducible refine gate_callee (f := 22) rfl ?_); refine cl_ (some 67) Try.func22 #[.slice Ao47 t251.length co47, .int .i64 1] (hargs := by (try simp only [List.map_toArray, List.map_cons, List.map_nil]); first | done | (rw [show t251.length = t237.length from (Kd.R_reads' HO239.out).1.symm] <;> rfl) | rfl | (simp only [List.length_drop, List.length_take]; rfl)) ?_; (with_reducible refine (laws_heldInt64S.calls k _ _ t251 1 t252 _ ?side1 ?side2 A22.out).mono ?_); (case side1 => exact pC ((Kd.R_reads' HO239.out).2.2)); (case side2 => rw [show t251.length = t237.length from (Kd.R_reads' HO239.out).1.symm]; exact (Kd.R_reads' HO239.out).2.1); rintro e w' ⟨rfl, ⟨nd, rfl⟩⟩; refine ⟨_, rfl, ?_⟩; have hcz58_0 : w57.cell? ⟨gb222, 0, none⟩ = some (.int .i64 a0_0) := cB BK222 0; have hcz58_1 : w57.cell? ⟨gb222, 1, none⟩ = some (.slice A0_1 l0_1.length c0_1) := cB BK222 1; have hfz58_0 := zB BK222 0; have hfz58_1 := zB BK222 1) | ((with_reducible refine gate_callee (f := 15) rfl ?_); refine cl_ (some 75) Try.func15 #[.agg #[.int .i64 a0_0, .slice A0_1 l0_1.length c0_1]] ?_; (with_reducible refine (laws_toComplex.calls k a0_0 _ _ l0_1 t253 t254 _ ?side1 ?side2 A25.out).mono ?_); (case side1 => exact pC ((Kd.C_below HR0_1.out (pH HB)))); (case side2 => exact HC0_1.out); rintro e w59 ⟨v255, rfl, ho0, hb⟩; refine ⟨_, rfl, ?_⟩; have HO256 := Aside0.mk (Kd.R_lower (Kd.R_new' (Kd.R_new' (Kd.R_new' ho0 (Kd.R_lt (pR HO230))) (Kd.R_lt (pR HO235))) (Kd.R_lt (pR HO239))) (below_size (pH HB))); replace HO230 := Aside0.mk (Kd.R_elder' (pR HO230) (Kd.R_base ho0) hb); replace HO235 := Aside0.mk (Kd.R_elder' (pR HO235) (Kd.R_base ho0) hb); replace HO239 := Aside0.mk (Kd.R_elder' (pR HO239) (Kd.R_base ho0) hb); replace BK222 := sB BK222 hb; replace BK236 := sB BK236 hb; replace HB := sH HB hb; (try clear hb); (try clear hi); (try clear ho0); obtain ⟨Ao60, co60, eo60⟩ := Kd.R_slice HO256.out; subst eo60) | ((with_reducible refine gate_callee (f := 35) rfl ?_); refine cl_ (some 76) Try.func35 #[.agg #[.int .i64 t253, .slice Ao60 t254.length co60]] ?_; (with_reducible refine (impl_FirstShelling.calls t253 _ _ t254 t257 t260 _ ?side1 ?side2 A26.out).mono ?_); (case side1 => exact pC ((Kd.R_reads' HO256.out).2.2)); (case side2 => exact (Kd.R_reads' HO256.out).2.1); rintro e w61 ⟨v258, rfl, ho0, hb⟩; refine ⟨_, rfl, ?_⟩; have HO259 := Aside0.mk (Kd.R_lower (Kd.R_new' (Kd.R_new' (Kd.R_new' (Kd.R_new' ho0 (Kd.R_lt (pR HO230))) (Kd.R_lt (pR HO235))) (Kd.R_lt (pR HO239))) (Kd.R_lt (pR HO256))) (below_size (pH HB))); replace HO230 := Aside0.mk (Kd.R_elder' (pR HO230) (Kd.R_base ho0) hb); replace HO235 := Aside0.mk (Kd.R_elder' (pR HO235) (Kd.R_base ho0) hb); replace HO239 := Aside0.mk (Kd.R_elder' (pR HO239) (Kd.R_base ho0) hb); replace HO256 := Aside0.mk (Kd.R_elder' (pR HO256) (Kd.R_base ho0) hb); replace BK222 := sB BK222 hb; replace BK236 := sB BK236 hb; replace HB := sH HB hb; (try clear hb); (try clear hi); (try clear ho0); have nD_ := Aside0.mk (Kd.R_mono (ok' := fun k_ => some k_ ≠ (.slice Ao45 t233.length co45 : Value).ownBlock ∧ some k_ ≠ (.slice Ao47 t237.length co47 : Value).ownBlock ∧ some k_ ≠ (v258 : Value).ownBlock) HO230.out (fun k_ hk => ⟨hk.1.1.1, ⟨hk.1.1.2, hk.2⟩⟩)); clear HO230; have HO230 := nD_; clear nD_; have nD_ := Aside0.mk (Kd.R_mono (ok' := fun k_ => some k_ ≠ (.slice Ao48 t228.length co48 : Value).ownBlock ∧ some k_ ≠ (.slice Ao47 t237.length co47 : Value).ownBlock ∧ some k_ ≠ (v258 : Value).ownBlock) HO235.out (fun k_ hk => ⟨hk.1.1.1, ⟨hk.1.1.2, hk.2⟩⟩)); clear HO235; have HO235 := nD_; clear nD_; have nD_ := Aside0.mk (Kd.R_mono (ok' := fun k_ => some k_ ≠ (.slice Ao48 t228.length co48 : Value).ownBlock ∧ some k_ ≠ (.slice Ao45 t233.length co45 : Value).ownBlock ∧ some k_ ≠ (v258 : Value).ownBlock) HO239.out (fun k_ hk => ⟨hk.1.1.1, ⟨hk.1.1.2, hk.2⟩⟩)); clear HO239; have HO239 := nD_; clear nD_; have nD_ := Aside0.mk (Kd.R_mono (ok' := fun k_ => some k_ ≠ (.slice Ao48 t228.length co48 : Value).ownBlock ∧ some k_ ≠ (.slice Ao45 t233.length co45 : Value).ownBlock ∧ some k_ ≠ (.slice Ao47 t237.length co47 : Value).ownBlock) HO259.out (fun k_ hk => ⟨hk.1.1.1.2, ⟨hk.1.1.2, hk.1.2⟩⟩)); clear HO259; have HO259 := nD_; clear nD_; clear HO256; obtain ⟨Ao62, co62, eo62⟩ := Kd.R_slice HO259.out; subst eo62) | ((with_reducible refine gate_callee (f := 18) rfl ?_); refine cl_ (some 81) Try.func18 #[.slice Ao62 t257.length co62, .slice Ao48 t228.length co48] ?_; (with_reducible refine (laws_eqInt64S.calls k _ _ t257 _ _ t228 true _ ?side1 ?side2 ?side3 ?side4 A27.out).mono ?_); (case side1 => exact pC ((Kd.R_reads' HO259.out).2.2)); (case side2 => exact (Kd.R_reads' HO259.out).2.1); (case side3 => exact pC ((Kd.R_reads' HO230.out).2.2)); (case side4 => exact (Kd.R_reads' HO230.out).2.1); rintro e w' ⟨rfl, ⟨nd, rfl⟩⟩; refine ⟨_, rfl, ?_⟩) | ((with_reducible refine gate_callee (f := 22) rfl ?_); refine cl_ (some 90) Try.func22 #[.slice Ao47 t251.length co47, .int .i64 1] (hargs := by (try simp only [List.map_toArray, List.map_cons, List.map_nil]); first | done | (rw [show t251.length = t237.length from (Kd.R_reads' HO239.out).1.symm] <;> rfl) | rfl | (simp only [List.length_drop, List.length_take]; rfl)) ?_; (with_reducible refine (laws_heldInt64S.calls k _ _ t251 1 t262 _ ?side1 ?side2 A30.out).mono ?_); (case side1 => exact pC ((Kd.R_reads' HO239.out).2.2)); (case side2 => rw [show t251.length = t237.length from (Kd.R_reads' HO239.out).1.symm]; exact (Kd.R_reads' HO239.out).2.1); rintro e w' ⟨rfl, ⟨nd, rfl⟩⟩; refine ⟨_, rfl, ?_⟩))
             go_ret
             exact ⟨by first | rfl | (simp [errW_none, errW_some] <;> rfl) | (simp [*, errW_none, errW_some] <;> rfl) | (exfalso; simp_all), pH HB⟩
            ·rw [if_neg c32] at H
             exact absurd H (by simp)
          ·rw [if_neg c29] at H
           exact absurd H (by simp)
         ·replace c28 := Bool.eq_false_iff.mpr c28
          subst c28
          have H1 : (none) = some r := by rw [if_neg (show ¬ (false = true) by decide)] at H; exact H
          clear H
          have H := H1
          clear H1
          exact absurd H (by simp)
        ·rw [if_neg c24] at H
         exact absurd H (by simp)
      ·replace c20 := Bool.eq_false_iff.mpr c20
       subst c20
       have H1 : (none) = some r := by rw [if_neg (show ¬ (false = true) by decide)] at H; exact H
       clear H
       have H := H1
       clear H1
       exact absurd H (by simp)
    ·replace c16 := Bool.eq_false_iff.mpr c16
     subst c16
     have H1 : (none) = some r := by rw [if_neg (show ¬ (false = true) by decide)] at H; exact H
     clear H
     have H := H1
     clear H1
     exact absurd H (by simp)
   ·rw [if_neg c13] at H
    exact absurd H (by simp)
  ·replace c12 := Bool.eq_false_iff.mpr c12
   subst c12
   have H1 : (none) = some r := by rw [if_neg (show ¬ (false = true) by decide)] at H; exact H
   clear H
   have H := H1
   clear H1
   exact absurd H (by simp)
end Go.Proofs.Ytomdfjohnmikdaa.QFnExactFirstShelling
namespace Go.Proofs.Ytomdfjohnmikdaa.Pu
set_option linter.unusedVariables false
set_option linter.unusedSimpArgs false
open Go.RowKit Go.Proofs.Ytomdfjohnmikdaa.Ext Go.Proofs.Ytomdfjohnmikdaa.QS Go.Proofs.Ytomdfjohnmikdaa.Im Go.Proofs.Ytomdfjohnmikdaa.QFnExactFirstShelling Go.Proofs.YtomdfjohnmikdaaW.PrintWords Go.Proofs.YtomdfjohnmikdaaW.PrintLast Go.Proofs.YtomdfjohnmikdaaW.PrintMore
theorem findF_len (fs : List Int) : ∀ (d : Nat) (ls : List Int) (u : Nat) (dead : List Bool), (findF fs d ls u dead).1.length ≤ ls.length + d
  | 0, ls, _, _ => by simp [findF]
  | d + 1, ls, u, dead => by
    have key : ∀ (is : List Nat) (dead : List Bool), (loopF fs (findF fs d) ls u is dead).1.length ≤ ls.length + (d + 1) := by
      intro is
      induction is with
      | nil => intro dead; simp [loopF]
      | cons i is ih =>
        intro dead
        unfold loopF
        split
        · exact ih dead
        · split
          · split
            · have := findF_len fs d (ls ++ [fs.getD i 0]) (u ||| 2 ^ i) dead
              rw [List.length_append, List.length_singleton] at this
              omega
            · exact ih _
          · exact ih dead
    unfold findF
    split
    · simp
    · exact key _ _
theorem pure_len (n : Int) (l : List Int) : (shellF n l).1.length ≤ 1048576 := by
  unfold shellF
  split
  · split
    · split
      · simp
      · rename_i h12
        split
        · have := findF_len (facetsL l) (facetsL l).length [] 0 (List.replicate (2 ^ (facetsL l).length) false)
          simp only [List.length_nil] at this
          show (findF (facetsL l) (facetsL l).length [] 0 (List.replicate (2 ^ (facetsL l).length) false)).1.length ≤ 1048576
          omega
        · simp
    · simp
  · simp
theorem ev_spec (n : Int) {l : List Int} (hl : l.length ≤ maxLen) : Ev (fun k => spec_FirstShelling.f k n l) (shellF n l) := ev_shell n hl
theorem FnExactFirstShelling (n0 : Int) (l0 : List Int) (_ : (Lit.int .i64 n0).wf = true) (hm0 : l0.length ≤ maxLen) (_ : ∀ x ∈ l0, (Lit.int .i64 x).wf = true) : ∃ k, laws_FnExactFirstShelling.f k n0 l0 = some true := by
  apply Ev.rounds
  unfold laws_FnExactFirstShelling.f
  by_cases hb0 : (1048576 : Int) < (l0.length : Int)
  · simp only [sz_cx hm0 (show (0 : Int) ≤ (1048576 : Int) by omega) (show (1048576 : Int) ≤ 1048576 by omega), Option.bind_some, if_pos hb0, show ((-1 : Int) < 0) = True by simp, if_true]
    exact Ev.now _
  simp only [sz_cx hm0 (show (0 : Int) ≤ (1048576 : Int) by omega) (show (1048576 : Int) ≤ 1048576 by omega), Option.bind_some, if_neg hb0, if_neg (show ¬ ((1048576 : Int) - (l0.length : Int) < 0) by omega)]
  have hl0 : l0.length ≤ 1048576 := by omega
  have hS := ev_spec n0 hm0
  have hI : impl_FirstShelling.f n0 l0 = some (shellF n0 l0) := by unfold impl_FirstShelling.f; rw [if_pos (by first | omega | exact ⟨by omega, by omega⟩)]
  have hR := pure_len n0 l0
  generalize shellF n0 l0 = D at hS hI hR
  obtain ⟨r1, r2⟩ := D
  simp only at hR
  have hR0 := hR
  have hca0 : 0 ≤ (1 : Int) ∧ (1 : Int) ≤ 1073741824 := by omega
  have hca1 : 0 ≤ 1 + (l0.length : Int) ∧ 1 + (l0.length : Int) ≤ 1073741824 := by omega
  have hna1 : ¬ (1 + (l0.length : Int) < 0) := by omega
  have hco0 : 0 ≤ (1 : Int) ∧ (1 : Int) ≤ 1073741824 := by omega
  have hco1 : 0 ≤ 1 + (r1.length : Int) ∧ 1 + (r1.length : Int) ≤ 1073741824 := by omega
  have hno1 : ¬ (1 + (r1.length : Int) < 0) := by omega
  repeat (first
      | (exact Ev.now _)
      | (refine Ev.bind (ev_toComplex hl0) ?_)
      | (refine Ev.bind hS ?_)
      | (refine Ev.bind (ev_eqInt hR0) ?_)
      | (refine Ev.bind (ev_eqComplex hl0) ?_)
      | (refine Ev.bind (ev_markComplex hl0 hca0) ?_)
      | (refine Ev.bind (ev_mark hR0 hco0) ?_)
      | (refine Ev.bind (ev_held hR0 hco0) ?_)
      | (simp only [hI, Option.bind_some, if_true, bne_self_eq_false, Bool.false_eq_true, if_false, if_neg hna1, if_neg hno1]))
end Go.Proofs.Ytomdfjohnmikdaa.Pu
