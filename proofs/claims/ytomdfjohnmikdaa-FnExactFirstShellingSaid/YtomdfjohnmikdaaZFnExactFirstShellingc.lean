/- Words and lemmas for FnExactFirstShelling, part 3: what the row's text comes to. -/
import Derived.Test.YtomdfjohnmikdaaProg
import Derived.Below
import Derived.Deep.Draws
import Derived.Deep.AppendLies
import Derived.Maps.AppendAt
import Derived.OwnWalk
import Derived.Laws.BytesArg
import Derived.Laws.MakeOwn
import Derived.Laws.OwnMore
import Derived.Deep.OwnRows
import Derived.Tactics
import Derived.Lib.ConvBytes
import Derived.Laws.Slices
import Derived.WalkKit
import Derived.KernelRfl
import Derived.RowKit3
import Derived.Deep.LoopGhost
import Derived.Deep.QuietTactic
import Derived.BigQuiet
import Derived.WideLaws
import Derived.Deep.DeepCutAuto
import Derived.Deep.CutBlock
import Derived.Deep.RegionHeld3
import Derived.Laws.Rows
import Derived.Lib.AppendStr
import Derived.ArgAppend
import Derived.Laws.IdiomCopy
import Derived.OrdersHeld
import Derived.Laws.BitsLemmas
import Derived.RowKit
import Derived.Test.YtomdfjohnmikdaaZFnExactFirstShellingb
namespace Go.Proofs.Ytomdfjohnmikdaa.Im
set_option linter.unusedVariables false
set_option linter.unusedSimpArgs false
open Go.RowKit Go.Shelf Go.Proofs.Ytomdfjohnmikdaa.QI Go.Proofs.Ytomdfjohnmikdaa.Ext Go.Proofs.YtomdfjohnmikdaaW.PrintWords Go.Proofs.YtomdfjohnmikdaaW.PrintLast Go.Proofs.YtomdfjohnmikdaaW.PrintMore
def onesZ (x : Int) : Int := ((verts x).length : Int)
theorem size_all : ((List.range 64).all fun f => impl_size.f (f : Int) == some (onesZ (f : Int))) = true := by decide +kernel
theorem size_eq {x : Int} (h0 : 0 ≤ x) (h6 : x ≤ 63) : impl_size.f x = some (onesZ x) := by
  obtain ⟨m, rfl⟩ := Int.eq_ofNat_of_zero_le h0
  exact eq_of_beq (List.all_eq_true.1 size_all m (List.mem_range.2 (by omega)))
theorem isC_63 {n : Int} {l : List Int} (h : isC n l = true) : ∀ x ∈ l, 1 ≤ x ∧ x ≤ 63 := by
  obtain ⟨⟨h1, h6⟩, ha, _⟩ := isC_of h
  intro x hx
  obtain ⟨i, hi, rfl⟩ := List.mem_iff_getElem.1 hx
  have h2 := List.all_eq_true.1 ha i (List.mem_range.2 hi)
  simp only [okAt, List.getElem?_eq_getElem hi, Option.getD_some, withinB, Bool.and_eq_true, decide_eq_true_eq] at h2
  have hF : fullZ n ≤ 63 := by
    obtain rfl | rfl | rfl | rfl | rfl | rfl : n = 1 ∨ n = 2 ∨ n = 3 ∨ n = 4 ∨ n = 5 ∨ n = 6 := by omega
    all_goals decide +kernel
  omega
theorem w64' {x : Int} (h1 : -9223372036854775808 ≤ x) (h2 : x ≤ 9223372036854775807) : wrap64 x = x := by unfold wrap64; omega
theorem rd_at' {l : List Int} {i : Nat} (h : i < l.length) : rd l (i : Int) = l[i] := by simp [rd, List.getD_eq_getElem?_getD, List.getElem?_eq_getElem h]
end Go.Proofs.Ytomdfjohnmikdaa.Im
namespace Go.Proofs.Ytomdfjohnmikdaa.Im
set_option linter.unusedVariables false
set_option linter.unusedSimpArgs false
open Go.RowKit Go.Shelf Go.Proofs.Ytomdfjohnmikdaa.QI Go.Proofs.Ytomdfjohnmikdaa.Ext Go.Proofs.YtomdfjohnmikdaaW.PrintWords Go.Proofs.YtomdfjohnmikdaaW.PrintLast Go.Proofs.YtomdfjohnmikdaaW.PrintMore
def inB (f x : Int) : Bool := f != x && (Go.bits .andNot .i64 f x == 0)
theorem facets11_f (b : Nat) (f : Int) (w : World) (hb : Boxed w b 2 (.int .i64 f)) :
    FnB Try.prog (.func (.func 135) #[] #[.pointer (some ⟨b, 0, none⟩)]) (fun _ => True) (inB f) w := by
  refine ⟨_, _, _, rfl, enters_of Try.func135 (by kernel_rfl) rfl, fun W x hW hx => ?_⟩
  have hcell : W.cell? ⟨b, 0, none⟩ = some (.int .i64 f) := (hW.cell (p := ⟨b, 0, none⟩) hb.lt).trans hb.cell
  have HC := Aside0.mk (isIn_c f x W)
  have HE : Aside0 (inB f x = (f != x && (Go.bits .andNot .i64 f x == 0))) := ⟨rfl⟩
  clear hW hx hb
  show Calls Try.prog 135 #[.int .i64 x, .pointer (some ⟨b, 0, none⟩)] W fun e w' => e = .returned (.bool (inB f x)) ∧ Below W.heap.size W w'
  generalize (Go.bits .andNot .i64 f x == 0) = r at HC HE
  cases h1 : (f != x) with
  | false =>
    go_enter Try.func135, Try.ntmps135
    go_wp2
    go_ret
    exact ⟨by rw [HE.out, h1]; rfl, Below.refl _ _⟩
  | true =>
    go_enter Try.func135, Try.ntmps135
    go_wp2_with (go_at_call 92; refine HC.out.mono ?_; rintro e w1 ⟨rfl, rfl⟩)
    go_ret
    exact ⟨by rw [HE.out, h1]; rfl, Below.refl _ _⟩
def biggerB (xs : List Int) (x : Int) : Bool := xs.any (inB x)
set_option maxRecDepth 100000 in
theorem facets1_f (b : Nat) (m : Int) (A : Option Addr) (n c : Nat) (xs : List Int) (w : World) (hb : CxAt w b m A n c) (hr : RC w A n xs) :
    FnB Try.prog (.func (.func 134) #[] #[.pointer (some ⟨b, 0, none⟩)]) (fun _ => True) (biggerB xs) w := by
  refine ⟨_, _, _, rfl, enters_of Try.func134 (by kernel_rfl) rfl, fun W x hW hx => ?_⟩
  have hb1 : Below W.heap.size W (W.alloc (.cells #[.int .i64 x] 2)) := (Below.refl _ W).alloc (Nat.le_refl _) _
  have hk := (hb.below hW).below hb1
  have HC := Aside0.mk (containsFunc_c A n c xs _ _ _ _ (Kd.C_below (Kd.C_below hr hW) hb1) (facets11_f W.heap.size x _ (Boxed.new W _ _)) (fun _ _ => trivial))
  have h1 := hk.c1
  have HB := Aside0.mk hb1
  have HE : Aside0 (biggerB xs x = xs.any (inB x)) := ⟨rfl⟩
  clear hW hx hb hr hk hb1
  show Calls Try.prog 134 #[.int .i64 x, .pointer (some ⟨b, 0, none⟩)] W fun e w' => e = .returned (.bool (biggerB xs x)) ∧ Below W.heap.size W w'
  rw [HE.out]
  generalize xs.any (inB x) = r at HC ⊢
  go_enter Try.func134, Try.ntmps134
  go_wp2_with (go_at_call 90; refine HC.out.mono ?_; rintro e w1 ⟨rfl, hb⟩)
  go_ret
  exact ⟨rfl, below_in HB.out hb⟩
def facetsL (xs : List Int) : List Int := xs.filter fun x => !biggerB xs x
set_option maxRecDepth 100000 in
theorem facets_c (m : Int) (A : Option Addr) (n c : Nat) (xs : List Int) (w : World) (hr : RC w A n xs) (hi : isC m xs = true) :
    Calls Try.prog 84 #[.agg #[.int .i64 m, .slice A n c]] w (SlOnly w.heap.size w (facetsL xs)) := by
  have hl := isC_small hi
  have hbk := CxAt.new w m A n c
  have hb1 : Below w.heap.size w (w.alloc (.cells #[.int .i64 m, .slice A n c] 28)) := (Below.refl _ w).alloc (Nat.le_refl _) _
  have hc := clone_c A n c xs _ (Kd.C_below hr hb1) (by have := hr.1; omega)
  have hd := fun v W HB ho => deleteFunc_c (w.alloc (.cells #[.int .i64 m, .slice A n c] 28)) v xs _ (fun _ => True) _ W HB ho (by omega) (facets1_f w.heap.size m A n c xs _ hbk (Kd.C_below hr hb1)) (fun _ _ => trivial)
  have l1 := hbk.c1
  have HC := Aside0.mk hc
  have HD := Lib.hid hd
  have HB := Aside0.mk hb1
  have HE : Aside0 (facetsL xs = xs.filter fun x => !biggerB xs x) := ⟨rfl⟩
  clear hc hb1 hbk hr hi hl hd
  rw [HE.out]
  go_enter Try.func84, Try.ntmps84
  go_wp2_with (first
    | (go_at_call 122; refine HC.out.mono ?_; rintro e w2 ⟨v, rfl, hv, hb2⟩; have HV := Aside0.mk hv; have HB2 := Aside0.mk hb2; clear hv hb2)
    | (go_at_call 121; refine (HD.out _ _ HB2.out HV.out).mono ?_; rintro e w3 ⟨v3, rfl, hv, hb3⟩; have HV3 := Aside0.mk hv; have HB3 := Aside0.mk hb3; clear hv hb3))
  go_ret
  exact ⟨_, rfl, Kd.R_lower HV3.out HB.out.size, HB.out.trans (HB3.out.mono HB.out.size)⟩
theorem dim_eq {x : Int} (h0 : 0 ≤ x) (h6 : x ≤ 63) : impl_dimension.f x = some (onesZ x - 1) := by
  unfold impl_dimension.f
  rw [size_eq h0 h6]
  have : (verts x).length ≤ 6 := verts_len x
  simp only [Option.bind_some]
  rw [w64' (by unfold onesZ; omega) (by unfold onesZ; omega)]
def dimL (l : List Int) : Int := l.foldl (fun a x => max a (onesZ x - 1)) (-1)
theorem dim_loop (l : List Int) (hr : ∀ x ∈ l, 1 ≤ x ∧ x ≤ 63) (hm : l.length ≤ 4611686018427387904) :
    ∀ d (i : Nat) (a : Int), l.length - i = d → i ≤ l.length → Ev (fun k => impl_Complex_dimension.l0 k a l (l.length : Int) i) ((l.drop i).foldl (fun a x => max a (onesZ x - 1)) a) := by
  intro d
  induction d with
  | zero =>
    intro i a hd hi
    rw [List.drop_eq_nil_of_le (by omega)]
    refine Ev.step (f := fun k => some a) (fun k => ?_) (Ev.now _)
    simp only [impl_Complex_dimension.l0]; rw [if_neg (by omega)]
  | succ d ih =>
    intro i a hd hi
    have hi' : i < l.length := by omega
    have hx := hr _ (List.getElem_mem hi')
    rw [List.drop_eq_getElem_cons hi', List.foldl_cons]
    refine Ev.step (f := fun k => impl_Complex_dimension.l0 k (max a (onesZ l[i] - 1)) l (l.length : Int) ((i + 1 : Nat) : Int)) (fun k => ?_) (ih (i + 1) _ (by omega) (by omega))
    simp only [impl_Complex_dimension.l0]
    rw [if_pos (by omega), if_pos (by omega), if_pos (by omega), rd_at' hi', dim_eq (by omega) (by omega)]
    simp only [Option.bind_some]
    rw [show wrap64 ((i : Int) + 1) = ((i + 1 : Nat) : Int) by rw [w64' (by omega) (by omega)]; omega, show mx a (onesZ l[i] - 1) = max a (onesZ l[i] - 1) by unfold mx; split <;> omega]
theorem dimension_c (m : Int) (A : Option Addr) (c : Nat) (xs : List Int) (w : World) (hr : RC w A xs.length xs) (hc : xs.length ≤ c) (hi : isC m xs = true) :
    Calls Try.prog 56 #[.agg #[.int .i64 m, .slice A xs.length c]] w fun e w' => e = .returned (.int .i64 (dimL xs)) ∧ Below w.heap.size w w' := by
  obtain ⟨k, hk⟩ := (dim_loop xs (isC_63 hi) (by have := isC_small hi; omega) _ 0 (-1) rfl (Nat.zero_le _)).rounds
  exact impl_Complex_dimension.calls k m A c xs _ w hr hc hk
theorem dimensionOf_c (x : Int) (w : World) (h0 : 0 ≤ x) (h6 : x ≤ 63) : Calls Try.prog 107 #[.int .i64 x] w fun e w' => e = .returned (.int .i64 (onesZ x - 1)) ∧ Below w.heap.size w w' :=
  (impl_dimension.calls x _ w (dim_eq h0 h6)).mono fun e w' h => ⟨h.1, h.2.below⟩
def pureP (xs : List Int) (x : Int) : Bool := onesZ x - 1 == dimL xs
set_option maxRecDepth 100000 in
set_option maxHeartbeats 1000000 in
theorem isPure1_f (b : Nat) (m : Int) (A : Option Addr) (n c : Nat) (xs : List Int) (w : World) (hb : CxAt w b m A n c) (hr : RC w A n xs) (hc : n ≤ c) (hi : isC m xs = true) :
    FnB Try.prog (.func (.func 173) #[] #[.pointer (some ⟨b, 0, none⟩)]) (fun x => 1 ≤ x ∧ x ≤ 63) (pureP xs) w := by
  refine ⟨_, _, _, rfl, enters_of Try.func173 (by kernel_rfl) rfl, fun W x hW hx => ?_⟩
  obtain rfl : xs.length = n := hr.1
  have hr' := Kd.C_below hr hW
  have hb' := hb.below hW
  have h0 := hb'.c0
  have h1 := hb'.c1
  have HBK := Aside0.mk hb'
  have HD := Lib.hid (fun W' => dimensionOf_c x W' (by omega) hx.2)
  have HM := Lib.hid (fun W' (hB : Below W.heap.size W W') => dimension_c m A c xs W' (Kd.C_below hr' hB) hc hi)
  have HE : Aside0 (pureP xs x = (onesZ x - 1 == dimL xs)) := ⟨rfl⟩
  clear hb hr hW hb' hr' hx hi
  show Calls Try.prog 173 #[.int .i64 x, .pointer (some ⟨b, 0, none⟩)] W fun e w' => e = .returned (.bool (pureP xs x)) ∧ Below W.heap.size W w'
  generalize onesZ x - 1 = r at HD HE
  generalize dimL xs = q at HM HE
  go_enter Try.func173, Try.ntmps173
  go_wp2
  go_region_held3 (fun w' : World => w'.cell? ⟨b, 0, none⟩ = some (.int .i64 m) ∧ w'.cell? ⟨b, 1, none⟩ = some (.slice A xs.length c)) (first | exact ⟨h0, h1⟩ | exact HBK.out.keep (by assumption)) (first | (go_at_call 107; refine (HD.out _).mono ?_; rintro e w1 ⟨rfl, hb1⟩; first | have hbw := undrew hb1 | have hbx := below_in hbw hb1) | (go_at_call 56; refine (HM.out _ hbw).mono ?_; rintro e w3 ⟨rfl, hb3⟩; have hby := below_in hbw hb3))
  go_wp2
  go_ret
  exact ⟨by rw [HE.out]; rfl, hby⟩
def pureB (xs : List Int) : Bool := (facetsL xs).all (pureP xs)
set_option maxRecDepth 100000 in
theorem isPure_c (m : Int) (A : Option Addr) (n c : Nat) (xs : List Int) (w : World) (hr : RC w A n xs) (hc : n ≤ c) (hi : isC m xs = true) :
    Calls Try.prog 133 #[.agg #[.int .i64 m, .slice A n c]] w fun e w' => e = .returned (.bool (pureB xs)) ∧ Below w.heap.size w w' := by
  have hbk := CxAt.new w m A n c
  have hb1 : Below w.heap.size w (w.alloc (.cells #[.int .i64 m, .slice A n c] 28)) := (Below.refl _ w).alloc (Nat.le_refl _) _
  have hf := facets_c m A n c xs _ (Kd.C_below hr hb1) hi
  have h63 := isC_63 hi
  have ha := fun W A3 c3 (hB : Below (w.alloc (.cells #[.int .i64 m, .slice A n c] 28)).heap.size (w.alloc (.cells #[.int .i64 m, .slice A n c] 28)) W) (hv : RC W A3 (facetsL xs).length (facetsL xs)) => areAll_c A3 (facetsL xs).length c3 (facetsL xs) _ (fun x => 1 ≤ x ∧ x ≤ 63) (pureP xs) W hv (isPure1_f w.heap.size m A n c xs W (hbk.below hB) (Kd.C_below hr (below_in hb1 hB)) hc hi) (fun x hx => h63 x (List.mem_filter.1 hx).1)
  have l0 := hbk.c0
  have l1 := hbk.c1
  have HF := Aside0.mk hf
  have HA := Lib.hid ha
  have HB := Aside0.mk hb1
  have HE : Aside0 (pureB xs = (facetsL xs).all (pureP xs)) := ⟨rfl⟩
  clear hf ha hb1 hbk hr hi h63
  rw [HE.out]
  generalize (facetsL xs).all (pureP xs) = r at HA ⊢
  go_enter Try.func133, Try.ntmps133
  go_wp2_with (first
    | (go_at_call 84; refine HF.out.mono ?_; rintro e w2 ⟨v, rfl, hv, hb2⟩; obtain ⟨A2, c2, rfl⟩ := Kd.R_slice hv; have HV := Aside0.mk (Kd.R_reads' hv).2.2; have HB2 := Aside0.mk hb2; clear hv hb2)
    | (go_at_call 57; refine (HA.out _ _ _ HB2.out HV.out).mono ?_; rintro e w3 ⟨rfl, hb3⟩; have HB3 := Aside0.mk (below_in HB2.out hb3); clear hb3))
  go_ret
  exact ⟨rfl, below_in HB.out HB3.out⟩
end Go.Proofs.Ytomdfjohnmikdaa.Im
namespace Go.Proofs.Ytomdfjohnmikdaa.QS
open Go.Proofs.Ytomdfjohnmikdaa.Cw Go.Proofs.Ytomdfjohnmikdaa.Kp Go.Proofs.Ytomdfjohnmikdaa.Ext Go.RowKit Go.Proofs.YtomdfjohnmikdaaW.PrintWords Go.Proofs.YtomdfjohnmikdaaW.PrintLast Go.Proofs.YtomdfjohnmikdaaW.PrintMore
attribute [local go_sem] max2_int min2_int max_two min_two max_three min_three max_four min_four   -- for this text's walks alone
set_option linter.unusedVariables false
set_option linter.unusedSimpArgs false
def spec_l01Ones.l0 : Nat → Int → Int → Option (Int)
 | 0, _, _ => none
 | k + 1, x0, x3 => if x0 > 0 then (spec_l01Ones.l0 k (wrap64 (Int.tdiv x0 2)) (wrap64 (x3 + (Int.tmod x0 2)))) else (some x3)
def spec_l01Ones.f (k : Nat) (a0 : Int) : Option (Int) := spec_l01Ones.l0 k a0 0
theorem spec_l01Ones.mono_l : ∀ k, (∀ y0 y1, LeO (spec_l01Ones.l0 k y0 y1) (spec_l01Ones.l0 (k + 1) y0 y1))
 | 0 => fun _ _ r h => by simp [spec_l01Ones.l0] at h
 | k + 1 => by
  have ih0 := spec_l01Ones.mono_l k
  ·intro y0 y1
   unfold spec_l01Ones.l0
   repeat' first
   | (with_reducible exact ih0 _ _)
   | (with_reducible exact LeO.refl _)
   | (with_reducible exact LeO.none _)
   | (with_reducible refine LeO.ite ?_ ?_)
   | (with_reducible refine LeO.bind ?_ (fun _ => ?_))
   | exact ih0 _ _
   | exact LeO.none _
   | refine LeO.ite ?_ ?_
   | refine LeO.bind ?_ (fun _ => ?_)
theorem spec_l01Ones.mono : ∀ a0 k, LeO (spec_l01Ones.f k a0) (spec_l01Ones.f (k + 1) a0) := by
 intro a0 k
 have ih0 := spec_l01Ones.mono_l k
 unfold spec_l01Ones.f
 repeat' first
   | (with_reducible exact ih0 _ _)
   | (with_reducible exact LeO.refl _)
   | (with_reducible exact LeO.none _)
   | (with_reducible refine LeO.ite ?_ ?_)
   | (with_reducible refine LeO.bind ?_ (fun _ => ?_))
   | exact ih0 _ _
   | exact LeO.none _
   | refine LeO.ite ?_ ?_
   | refine LeO.bind ?_ (fun _ => ?_)
set_option maxHeartbeats 8000000 in
set_option maxRecDepth 100000 in
theorem spec_l01Ones.calls (k : Nat) (a0 : Int) (r : Int) (w : World) (h : spec_l01Ones.f k a0 = some r) :
  Calls Try.prog 129 #[.int .i64 a0] w fun e w' => e = .returned (.int .i64 r) ∧ Drawn0 w w' := by
 have H : (spec_l01Ones.l0 k a0 0) = some r := h
 clear h
 have H' := Aside0.mk H
 clear H
 go_enter Try.func129, Try.ntmps129
 go_wp2
 go_loopg [0, 3] k (fun kq v0 v3 w' => ∃ (x0_1 : Int) (x3_1 : Int), v0 = .int .i64 x0_1 ∧ v3 = .int .i64 x3_1 ∧ Aside0 (spec_l01Ones.l0 kq x0_1 x3_1 = some r) ∧ Aside0 (kq ≤ k) ∧ Drawn0 w w')
 case atStart => exact ⟨(a0), (0), (by first | rfl | (simp; done) | (simp [*]; done)), (by first | rfl | (simp; done) | (simp [*]; done)), H', ⟨Nat.le_refl _⟩, by repeat (first | exact Drawn0.refl _ | apply Drawn0.step)⟩
 case round =>
  clear H'
  try clear c1
  obtain ⟨x0_1, x3_1, rfl, rfl, HA, HK1, ⟨m1, rfl⟩⟩ := hrel
  cases gk with
  | zero => exact absurd HA.out (by simp [spec_l01Ones.l0])
  | succ k1 =>
   have H := HA.out
   clear HA
   simp only [spec_l01Ones.l0] at H
   by_cases c2 : x0_1 > 0
   ·rw [if_pos c2] at H
    have c2b0 : decide (0 < x0_1) = true := decide_eq_true c2
    clear c2
    have H' := Aside0.mk H
    clear H
    go_wp2
    go_roundg k1
    case measure => have := HK1.out; omega
    case rel => exact ⟨(wrap64 (Int.tdiv x0_1 2)), (wrap64 (x3_1 + (Int.tmod x0_1 2))), (by first | rfl | (simp; done) | (simp [*]; done)), (by first | rfl | (simp; done) | (simp [*]; done)), H', ⟨by have := HK1.out; omega⟩, by repeat (first | exact Drawn0.refl _ | apply Drawn0.step)⟩
   ·rw [if_neg c2] at H
    have c2b0 : decide (0 < x0_1) = false := decide_eq_false c2
    clear c2
    obtain rfl := Option.some.inj H
    go_wp2
    go_ret
    exact ⟨by first | rfl | (simp; done) | (simp [*]; done), by repeat (first | exact Drawn0.refl _ | apply Drawn0.step)⟩
end Go.Proofs.Ytomdfjohnmikdaa.QS
namespace Go.Proofs.Ytomdfjohnmikdaa.QS
open Go.Proofs.Ytomdfjohnmikdaa.Cw Go.Proofs.Ytomdfjohnmikdaa.Kp Go.Proofs.Ytomdfjohnmikdaa.Ext Go.RowKit Go.Proofs.YtomdfjohnmikdaaW.PrintWords Go.Proofs.YtomdfjohnmikdaaW.PrintLast Go.Proofs.YtomdfjohnmikdaaW.PrintMore
attribute [local go_sem] max2_int min2_int max_two min_two max_three min_three max_four min_four   -- for this text's walks alone
set_option linter.unusedVariables false
set_option linter.unusedSimpArgs false
def spec_l01Above.l0 : Nat → Int → List Int → Int → Int → List Int → Option (List Int)
 | 0, _, _, _, _, _ => none
 | k + 1, x1, x5, x6, x351000, x351001 => if x6 < (x351001.length : Int) then (if 0 ≤ x6 then (if (Go.bits .and .i64 (rd x351001 x6) x1) = x1 then ((spec_l01Ones.f k (rd x351001 x6)).bind fun t356 => ((spec_l01Ones.f k x1).bind fun t357 => (if t356 = (wrap64 (t357 + 1)) then (if x5.length < 17592186044416 then (spec_l01Above.l0 k x1 (x5 ++ [rd x351001 x6]) (wrap64 (x6 + 1)) x351000 x351001) else (none)) else (spec_l01Above.l0 k x1 x5 (wrap64 (x6 + 1)) x351000 x351001)))) else (spec_l01Above.l0 k x1 x5 (wrap64 (x6 + 1)) x351000 x351001)) else (none)) else (some x5)
def spec_l01Above.f (k : Nat) (a0_0 : Int) (l0_1 : List Int) (a1 : Int) : Option (List Int) := spec_l01Above.l0 k a1 (([] : List Int)) 0 a0_0 l0_1
set_option maxHeartbeats 8000000 in
set_option maxRecDepth 100000 in
theorem spec_l01Above.calls (k : Nat) (a0_0 : Int) (A0_1 : Option Addr) (c0_1 : Nat) (l0_1 : List Int) (a1 : Int) (r : List Int) (w : World) (hr0_1 : Kd.C (Kd.int .i64) w A0_1 l0_1.length l0_1) (hc0_1 : l0_1.length ≤ c0_1) (h : spec_l01Above.f k a0_0 l0_1 a1 = some r) :
  Calls Try.prog 130 #[.agg #[.int .i64 a0_0, .slice A0_1 l0_1.length c0_1], .int .i64 a1] w fun e w' => ∃ v0_ : Value, e = .returned (v0_) ∧ Kd.R (Kd.int .i64) 2 w' w.heap.size (fun _ => True) v0_ r ∧ Below w.heap.size w w' := by
 have hu28 := Try.underlying28
 have HR0_1 := Aside0.mk hr0_1
 have HC0_1 := Aside0.mk hc0_1
 clear hr0_1 hc0_1
 have HB := Aside0.mk (Below.refl w.heap.size w)
 have H : (spec_l01Above.l0 k a1 (([] : List Int)) 0 a0_0 l0_1) = some r := h
 clear h
 obtain ⟨y351, hy351⟩ : ∃ y_ : List Int, y_ = (([] : List Int)) := ⟨_, rfl⟩
 replace H : (spec_l01Above.l0 k a1 y351 0 a0_0 l0_1) = some r := by first | (rw [hy351]; with_reducible exact H) | (have H2_ := (Option.bind_some _ _).symm.trans H; rw [hy351]; with_reducible exact H2_) | (have H2_ := (Option.bind_some _ _).symm.trans H; with_reducible exact H2_) | with_reducible exact H | (rw [hy351]; exact H) | exact H
 have Ny351 := Aside0.mk hy351
 clear hy351
 have H' := Aside0.mk H
 clear H
 go_enter Try.func130, Try.ntmps130
 go_wp2_with (first | ((with_reducible refine gate_dst (N := 2) rfl ?_); refine box_event ?hg (N := 2) ?hd (cs := #[.int .i64 a0_0, .slice A0_1 l0_1.length c0_1]) (t := 28) ?hr ?_; (case hd => rfl); (case hg => rfl); (case hr => first | (go_simp; done) | (go_simp; rfl)); intro gb350 hg w3 hbox hb; have BK350 := Aside0.mk (hbox); have GW350 := gH HB hg; have GE350 := gH HB hg; replace HB := sH HB hb; clear hb hbox hg) | ((with_reducible refine gate_dst (N := 7) rfl ?_); refine Kd.R_lit (Kd.int .i64) _ 2 ?hg (N := 7) ?hd (xs := ([] : List Int)) (inner := []) (ok := fun _ => True) (okp := fun _ => True) ?hr ?hp (fun _ hk => hk) trivial (Below.refl _ _) (Nat.le_refl _) (by simp) ?_; (case hd => rfl); (case hg => rfl); (case hr => first | (go_simp; done) | (go_simp; rfl)); (case hp => exact (Reps.none _ _)); intro v352 w4 ho5 hb hg_ hnew_; clear hg_ hnew_; (first | rw [← Ny351.out] at ho5 | (simp only [Int.reduceToNat] at ho5; rw [← Ny351.out] at ho5)); have HO353 := Aside0.mk (Kd.R_lower ho5 (below_size (pH HB))); replace BK350 := sB BK350 hb; replace HB := sH HB hb; clear hb ho5))
 go_loopg [5, 6] k (fun kq v5 v6 w' => ∃ (x5_1 : List Int) (x6_1 : Int), v6 = .int .i64 x6_1 ∧ Aside0 (spec_l01Above.l0 kq a1 x5_1 x6_1 a0_0 l0_1 = some r) ∧ Aside0 (kq ≤ k) ∧ Aside0 (Kd.R (Kd.int .i64) 2 w' w.heap.size (fun _ => True) v5 x5_1) ∧ Aside0 (w'.heap[gb350]? = some (.cells #[.int .i64 a0_0, (.slice A0_1 l0_1.length c0_1)] 28 (0, 0))) ∧ Aside0 (Below w.heap.size w w'))
 case atStart => exact ⟨(y351), (0), (by first | rfl | (simp; done) | (simp [*]; done)), H', ⟨Nat.le_refl _⟩, ⟨by (with_reducible repeat (first | apply Kd.R_alloc | apply Kd.R_drewN | apply Kd.R_drew)); exact HO353.out⟩, ⟨pB BK350⟩, ⟨pH HB⟩⟩
 case round =>
  clear H'
  try clear c1
  try clear p2
  obtain ⟨x5_1, x6_1, rfl, HA, HK1, HO_5, BK350, HB⟩ := hrel
  cases gk with
  | zero => exact absurd HA.out (by simp [spec_l01Above.l0])
  | succ k1 =>
   have H := HA.out
   clear HA
   simp only [spec_l01Above.l0] at H
   by_cases c6 : x6_1 < (l0_1.length : Int)
   ·rw [if_pos c6] at H
    have c6b0 : decide (x6_1 < (l0_1.length : Int)) = true := decide_eq_true c6
    clear c6
    by_cases c7 : 0 ≤ x6_1
    ·rw [if_pos c7] at H
     have c7b0 : decide (0 ≤ x6_1) = true := decide_eq_true c7
     clear c7
     by_cases c8 : (Go.bits .and .i64 (rd l0_1 x6_1) a1) = a1
     ·rw [if_pos c8] at H
      have c8b0 : ((Go.bits .and .i64 (rd l0_1 x6_1) a1) == a1) = true := beq_iff_eq.mpr c8
      have c8b1 : ((Go.bits .and .i64 (rd l0_1 x6_1) a1) != a1) = false := bne_eq_false_iff_eq.mpr c8
      clear c8
      replace H := Option.bind_eq_some_iff.mp H
      obtain ⟨t356, A90, H⟩ := H
      try dsimp only at H
      have A9 := Aside0.mk A90
      clear A90
      replace H := Option.bind_eq_some_iff.mp H
      obtain ⟨t357, A100, H⟩ := H
      try dsimp only at H
      have A10 := Aside0.mk A100
      clear A100
      by_cases c11 : t356 = (wrap64 (t357 + 1))
      ·rw [if_pos c11] at H
       have c11b0 : (t356 == (wrap64 (t357 + 1))) = true := beq_iff_eq.mpr c11
       have c11b1 : (t356 != (wrap64 (t357 + 1))) = false := bne_eq_false_iff_eq.mpr c11
       clear c11
       by_cases c12 : x5_1.length < 17592186044416
       ·rw [if_pos c12] at H
        have LMc12 := Aside0.mk c12
        clear c12
        obtain ⟨y359, hy359⟩ : ∃ y_ : List Int, y_ = (x5_1 ++ [rd l0_1 x6_1]) := ⟨_, rfl⟩
        replace H : (spec_l01Above.l0 k1 a1 y359 (wrap64 (x6_1 + 1)) a0_0 l0_1) = some r := by first | (rw [hy359]; with_reducible exact H) | (have H2_ := (Option.bind_some _ _).symm.trans H; rw [hy359]; with_reducible exact H2_) | (have H2_ := (Option.bind_some _ _).symm.trans H; with_reducible exact H2_) | with_reducible exact H | (rw [hy359]; exact H) | exact H
        have Ny359 := Aside0.mk hy359
        clear hy359
        have H' := Aside0.mk H
        clear H
        have hcz13_0 : wr.cell? ⟨gb350, 0, none⟩ = some (.int .i64 a0_0) := cB BK350 0
        have hcz13_1 : wr.cell? ⟨gb350, 1, none⟩ = some (.slice A0_1 l0_1.length c0_1) := cB BK350 1
        have hfz13_0 := zB BK350 0
        have hfz13_1 := zB BK350 1
        have p354 : 0 ≤ (x6_1 : Int) := of_decide_eq_true (by first | (with_reducible assumption) | assumption)
        have q354 : x6_1 < (l0_1.length : Int) := of_decide_eq_true (by first | (with_reducible assumption) | assumption)
        obtain ⟨ad354, e354, hx354_0⟩ := Kd.at_int HR0_1.out x6_1 p354 q354
        cases e354
        replace hx354_0 := cH HB hx354_0
        replace p354 := eq_true p354
        replace q354 := eq_true q354
        have p355 : 0 ≤ (x6_1 : Int) := of_decide_eq_true (by first | (with_reducible assumption) | assumption)
        have q355 : x6_1 < (l0_1.length : Int) := of_decide_eq_true (by first | (with_reducible assumption) | assumption)
        obtain ⟨ad355, e355, hx355_0⟩ := Kd.at_int HR0_1.out x6_1 p355 q355
        obtain rfl : ad354 = ad355 := (by injection e355)
        replace hx355_0 := cH HB hx355_0
        replace p355 := eq_true p355
        replace q355 := eq_true q355
        go_wp2_with (first | (go_at_call 129; (with_reducible refine (spec_l01Ones.calls k1 (rd l0_1 x6_1) t356 _ A9.out).mono ?_); rintro e w' ⟨rfl, ⟨nd, rfl⟩⟩) | (go_at_call 129; (with_reducible refine (spec_l01Ones.calls k1 a1 t357 _ A10.out).mono ?_); rintro e w' ⟨rfl, ⟨nd, rfl⟩⟩; have p358 : 0 ≤ (x6_1 : Int) := of_decide_eq_true (by first | (with_reducible assumption) | assumption); have q358 : x6_1 < (l0_1.length : Int) := of_decide_eq_true (by first | (with_reducible assumption) | assumption); obtain ⟨ad358, e358, hx358_0⟩ := Kd.at_int HR0_1.out x6_1 p358 q358; obtain rfl : ad354 = ad358 := (by injection e358); replace hx358_0 := cH HB hx358_0; replace p358 := eq_true p358; replace q358 := eq_true q358) | ((with_reducible refine gate_builtin (b := .append) (xs := #[.tmp 36, .tmp 42]) rfl ?_); at_builtin; refine Kd.R_append (Kd.int .i64) (w0 := w) w.heap.size rfl (.tmp 36) (.tmp 42) 22 2 (.int .i64 0) 8 rfl Try.underlying22 info2 rfl (by decide) (by omega) u5 x5_1 (rd l0_1 x6_1) [.int .i64 (rd l0_1 x6_1)] (fun _ => True) (fun _ => False) rfl rfl ?aP (fun _ hk => hk.elim) ?aF ?aO ?aB ?aS ?aL ?_; (case aP => exact rfl); (case aB => exact (pH HB)); (case aF => exact (fun _ _ => trivial)); (case aO => exact (pR HO_5)); (case aS => exact (below_size (pH HB))); (case aL => have := LMc12.out; omega); intro v360 w14 ho hb hg hat; rw [← Ny359.out] at ho; replace BK350 := Aside0.mk (blk_grown (g := gb350) (o := .cells #[.int .i64 a0_0, .slice (some ad354) l0_1.length c0_1] 28 (0, 0)) (pB BK350) hg (Kd.R_ne HO_5.out BK350.out (by decide))); replace HB := Aside0.mk (hb); have HO361 := Aside0.mk (ho); clear HO_5; clear ho hb hg hat))
        go_roundg k1
        case measure => have := HK1.out; omega
        case rel => exact ⟨(y359), (wrap64 (x6_1 + 1)), (by first | rfl | (simp; done) | (simp [*]; done)), H', ⟨by have := HK1.out; omega⟩, ⟨by (with_reducible repeat (first | apply Kd.R_alloc | apply Kd.R_drewN | apply Kd.R_drew)); exact HO361.out⟩, ⟨pB BK350⟩, ⟨pH HB⟩⟩
       ·rw [if_neg c12] at H
        exact absurd H (by simp)
      ·rw [if_neg c11] at H
       have c11b0 : (t356 == (wrap64 (t357 + 1))) = false := beq_eq_false_iff_ne.mpr c11
       have c11b1 : (t356 != (wrap64 (t357 + 1))) = true := bne_iff_ne.mpr c11
       have H' := Aside0.mk H
       clear H
       have hcz15_0 : wr.cell? ⟨gb350, 0, none⟩ = some (.int .i64 a0_0) := cB BK350 0
       have hcz15_1 : wr.cell? ⟨gb350, 1, none⟩ = some (.slice A0_1 l0_1.length c0_1) := cB BK350 1
       have hfz15_0 := zB BK350 0
       have hfz15_1 := zB BK350 1
       have p354 : 0 ≤ (x6_1 : Int) := of_decide_eq_true (by first | (with_reducible assumption) | assumption)
       have q354 : x6_1 < (l0_1.length : Int) := of_decide_eq_true (by first | (with_reducible assumption) | assumption)
       obtain ⟨ad354, e354, hx354_0⟩ := Kd.at_int HR0_1.out x6_1 p354 q354
       cases e354
       replace hx354_0 := cH HB hx354_0
       replace p354 := eq_true p354
       replace q354 := eq_true q354
       have p355 : 0 ≤ (x6_1 : Int) := of_decide_eq_true (by first | (with_reducible assumption) | assumption)
       have q355 : x6_1 < (l0_1.length : Int) := of_decide_eq_true (by first | (with_reducible assumption) | assumption)
       obtain ⟨ad355, e355, hx355_0⟩ := Kd.at_int HR0_1.out x6_1 p355 q355
       obtain rfl : ad354 = ad355 := (by injection e355)
       replace hx355_0 := cH HB hx355_0
       replace p355 := eq_true p355
       replace q355 := eq_true q355
       go_wp2_with (first | (go_at_call 129; (with_reducible refine (spec_l01Ones.calls k1 (rd l0_1 x6_1) t356 _ A9.out).mono ?_); rintro e w' ⟨rfl, ⟨nd, rfl⟩⟩) | (go_at_call 129; (with_reducible refine (spec_l01Ones.calls k1 a1 t357 _ A10.out).mono ?_); rintro e w' ⟨rfl, ⟨nd, rfl⟩⟩))
       go_roundg k1
       case measure => have := HK1.out; omega
       case rel => exact ⟨(x5_1), (wrap64 (x6_1 + 1)), (by first | rfl | (simp; done) | (simp [*]; done)), H', ⟨by have := HK1.out; omega⟩, ⟨by (with_reducible repeat (first | apply Kd.R_alloc | apply Kd.R_drewN | apply Kd.R_drew)); exact HO_5.out⟩, ⟨pB BK350⟩, ⟨pH HB⟩⟩
     ·rw [if_neg c8] at H
      have c8b0 : ((Go.bits .and .i64 (rd l0_1 x6_1) a1) == a1) = false := beq_eq_false_iff_ne.mpr c8
      have c8b1 : ((Go.bits .and .i64 (rd l0_1 x6_1) a1) != a1) = true := bne_iff_ne.mpr c8
      have H' := Aside0.mk H
      clear H
      have hcz16_0 : wr.cell? ⟨gb350, 0, none⟩ = some (.int .i64 a0_0) := cB BK350 0
      have hcz16_1 : wr.cell? ⟨gb350, 1, none⟩ = some (.slice A0_1 l0_1.length c0_1) := cB BK350 1
      have hfz16_0 := zB BK350 0
      have hfz16_1 := zB BK350 1
      have p354 : 0 ≤ (x6_1 : Int) := of_decide_eq_true (by first | (with_reducible assumption) | assumption)
      have q354 : x6_1 < (l0_1.length : Int) := of_decide_eq_true (by first | (with_reducible assumption) | assumption)
      obtain ⟨ad354, e354, hx354_0⟩ := Kd.at_int HR0_1.out x6_1 p354 q354
      cases e354
      replace hx354_0 := cH HB hx354_0
      replace p354 := eq_true p354
      replace q354 := eq_true q354
      go_wp2
      go_roundg k1
      case measure => have := HK1.out; omega
      case rel => exact ⟨(x5_1), (wrap64 (x6_1 + 1)), (by first | rfl | (simp; done) | (simp [*]; done)), H', ⟨by have := HK1.out; omega⟩, ⟨by (with_reducible repeat (first | apply Kd.R_alloc | apply Kd.R_drewN | apply Kd.R_drew)); exact HO_5.out⟩, ⟨pB BK350⟩, ⟨pH HB⟩⟩
    ·rw [if_neg c7] at H
     exact absurd H (by simp)
   ·rw [if_neg c6] at H
    have c6b0 : decide (x6_1 < (l0_1.length : Int)) = false := decide_eq_false c6
    clear c6
    obtain rfl := Option.some.inj H
    have hcz17_0 : wr.cell? ⟨gb350, 0, none⟩ = some (.int .i64 a0_0) := cB BK350 0
    have hcz17_1 : wr.cell? ⟨gb350, 1, none⟩ = some (.slice A0_1 l0_1.length c0_1) := cB BK350 1
    have hfz17_0 := zB BK350 0
    have hfz17_1 := zB BK350 1
    go_wp2
    go_ret
    exact ⟨_, by first | rfl | (simp [errW_none, errW_some] <;> rfl) | (simp [*, errW_none, errW_some] <;> rfl) | (exfalso; simp_all), by (with_reducible repeat (first | apply Kd.R_alloc | apply Kd.R_drewN | apply Kd.R_drew)); exact HO_5.out, pH HB⟩
end Go.Proofs.Ytomdfjohnmikdaa.QS
namespace Go.Proofs.Ytomdfjohnmikdaa.QS
open Go.Proofs.Ytomdfjohnmikdaa.Cw Go.Proofs.Ytomdfjohnmikdaa.Kp Go.Proofs.Ytomdfjohnmikdaa.Ext Go.RowKit Go.Proofs.YtomdfjohnmikdaaW.PrintWords Go.Proofs.YtomdfjohnmikdaaW.PrintLast Go.Proofs.YtomdfjohnmikdaaW.PrintMore
attribute [local go_sem] max2_int min2_int max_two min_two max_three min_three max_four min_four   -- for this text's walks alone
set_option linter.unusedVariables false
set_option linter.unusedSimpArgs false
def spec_l01Facets.l0 : Nat → List Int → Int → Int → List Int → Option (List Int)
 | 0, _, _, _, _ => none
 | k + 1, x3, x4, x588000, x588001 => if x4 < (x588001.length : Int) then (if 0 ≤ x4 then ((spec_l01Above.f k x588000 x588001 (rd x588001 x4)).bind fun t592 => (if (t592.length : Int) = 0 then (if x3.length < 17592186044416 then (spec_l01Facets.l0 k (x3 ++ [rd x588001 x4]) (wrap64 (x4 + 1)) x588000 x588001) else (none)) else (spec_l01Facets.l0 k x3 (wrap64 (x4 + 1)) x588000 x588001))) else (none)) else (some x3)
def spec_l01Facets.f (k : Nat) (a0_0 : Int) (l0_1 : List Int) : Option (List Int) := spec_l01Facets.l0 k (([] : List Int)) 0 a0_0 l0_1
def spec_l01Facets.T5 : Bool × List (List Nat × List Nat) := (true, [([], []), ([], []), ([1], [1]), ([], []), ([2, 3], [2, 3]), ([4], [4]), ([0, 5], [0, 5]), ([6], [6]), ([7], [7])])
def spec_l01Facets.B5 : List Nat := [0, 0, 2, 0, 14, 30, 63, 127, 255]
theorem spec_l01Facets.tab5 : rtab .any (opsOf Try.f81 5) = spec_l01Facets.T5 := by kernel_rfl
theorem spec_l01Facets.bits5 : waitsOk spec_l01Facets.T5.2 spec_l01Facets.B5 = true := by kernel_rfl
set_option maxHeartbeats 8000000 in
set_option maxRecDepth 100000 in
theorem spec_l01Facets.calls (k : Nat) (a0_0 : Int) (A0_1 : Option Addr) (c0_1 : Nat) (l0_1 : List Int) (r : List Int) (w : World) (hr0_1 : Kd.C (Kd.int .i64) w A0_1 l0_1.length l0_1) (hc0_1 : l0_1.length ≤ c0_1) (h : spec_l01Facets.f k a0_0 l0_1 = some r) :
  Calls Try.prog 81 #[.agg #[.int .i64 a0_0, .slice A0_1 l0_1.length c0_1]] w fun e w' => ∃ v0_ : Value, e = .returned (v0_) ∧ Kd.R (Kd.int .i64) 2 w' w.heap.size (fun _ => True) v0_ r ∧ Below w.heap.size w w' := by
 have hu28 := Try.underlying28
 have HR0_1 := Aside0.mk hr0_1
 have HC0_1 := Aside0.mk hc0_1
 clear hr0_1 hc0_1
 have HB := Aside0.mk (Below.refl w.heap.size w)
 have H : (spec_l01Facets.l0 k (([] : List Int)) 0 a0_0 l0_1) = some r := h
 clear h
 obtain ⟨y588, hy588⟩ : ∃ y_ : List Int, y_ = (([] : List Int)) := ⟨_, rfl⟩
 replace H : (spec_l01Facets.l0 k y588 0 a0_0 l0_1) = some r := by first | (rw [hy588]; with_reducible exact H) | (have H2_ := (Option.bind_some _ _).symm.trans H; rw [hy588]; with_reducible exact H2_) | (have H2_ := (Option.bind_some _ _).symm.trans H; with_reducible exact H2_) | with_reducible exact H | (rw [hy588]; exact H) | exact H
 have Ny588 := Aside0.mk hy588
 clear hy588
 have H' := Aside0.mk H
 clear H
 go_enter Try.func81, Try.ntmps81
 go_wp2_with (first | ((with_reducible refine gate_dst (N := 1) rfl ?_); refine box_event ?hg (N := 1) ?hd (cs := #[.int .i64 a0_0, .slice A0_1 l0_1.length c0_1]) (t := 28) ?hr ?_; (case hd => rfl); (case hg => rfl); (case hr => first | (go_simp; done) | (go_simp; rfl)); intro gb587 hg w2 hbox hb; have BK587 := Aside0.mk (hbox); have GW587 := gH HB hg; have GE587 := gH HB hg; replace HB := sH HB hb; clear hb hbox hg) | ((with_reducible refine gate_dst (N := 5) rfl ?_); refine Kd.R_lit (Kd.int .i64) _ 2 ?hg (N := 5) ?hd (xs := ([] : List Int)) (inner := []) (ok := fun _ => True) (okp := fun _ => True) ?hr ?hp (fun _ hk => hk) trivial (Below.refl _ _) (Nat.le_refl _) (by simp) ?_; (case hd => rfl); (case hg => rfl); (case hr => first | (go_simp; done) | (go_simp; rfl)); (case hp => exact (Reps.none _ _)); intro v589 w3 ho4 hb hg_ hnew_; clear hg_ hnew_; (first | rw [← Ny588.out] at ho4 | (simp only [Int.reduceToNat] at ho4; rw [← Ny588.out] at ho4)); have HO590 := Aside0.mk (Kd.R_lower ho4 (below_size (pH HB))); replace BK587 := sB BK587 hb; replace HB := sH HB hb; clear hb ho4))
 go_loopg [3, 4] k (fun kq v3 v4 w' => ∃ (x3_1 : List Int) (x4_1 : Int), v4 = .int .i64 x4_1 ∧ Aside0 (spec_l01Facets.l0 kq x3_1 x4_1 a0_0 l0_1 = some r) ∧ Aside0 (kq ≤ k) ∧ Aside0 (Kd.R (Kd.int .i64) 2 w' w.heap.size (fun _ => True) v3 x3_1) ∧ Aside0 (w'.heap[gb587]? = some (.cells #[.int .i64 a0_0, (.slice A0_1 l0_1.length c0_1)] 28 (0, 0))) ∧ Aside0 (Below w.heap.size w w'))
 case atStart => exact ⟨(y588), (0), (by first | rfl | (simp; done) | (simp [*]; done)), H', ⟨Nat.le_refl _⟩, ⟨by (with_reducible repeat (first | apply Kd.R_alloc | apply Kd.R_drewN | apply Kd.R_drew)); exact HO590.out⟩, ⟨pB BK587⟩, ⟨pH HB⟩⟩
 case round =>
  clear H'
  try clear p2
  obtain ⟨x3_1, x4_1, rfl, HA, HK1, HO_3, BK587, HB⟩ := hrel
  cases gk with
  | zero => exact absurd HA.out (by simp [spec_l01Facets.l0])
  | succ k1 =>
   have H := HA.out
   clear HA
   simp only [spec_l01Facets.l0] at H
   by_cases c5 : x4_1 < (l0_1.length : Int)
   ·rw [if_pos c5] at H
    have c5b0 : decide (x4_1 < (l0_1.length : Int)) = true := decide_eq_true c5
    clear c5
    by_cases c6 : 0 ≤ x4_1
    ·rw [if_pos c6] at H
     have c6b0 : decide (0 ≤ x4_1) = true := decide_eq_true c6
     clear c6
     replace H := Option.bind_eq_some_iff.mp H
     obtain ⟨t592, A70, H⟩ := H
     try dsimp only at H
     have A7 := Aside0.mk A70
     clear A70
     by_cases c8 : (t592.length : Int) = 0
     ·rw [if_pos c8] at H
      have c8b0 : ((t592.length : Int) == 0) = true := beq_iff_eq.mpr c8
      have c8b1 : ((t592.length : Int) != 0) = false := bne_eq_false_iff_eq.mpr c8
      clear c8
      by_cases c9 : x3_1.length < 17592186044416
      ·rw [if_pos c9] at H
       have LMc9 := Aside0.mk c9
       clear c9
       obtain ⟨y596, hy596⟩ : ∃ y_ : List Int, y_ = (x3_1 ++ [rd l0_1 x4_1]) := ⟨_, rfl⟩
       replace H : (spec_l01Facets.l0 k1 y596 (wrap64 (x4_1 + 1)) a0_0 l0_1) = some r := by first | (rw [hy596]; with_reducible exact H) | (have H2_ := (Option.bind_some _ _).symm.trans H; rw [hy596]; with_reducible exact H2_) | (have H2_ := (Option.bind_some _ _).symm.trans H; with_reducible exact H2_) | with_reducible exact H | (rw [hy596]; exact H) | exact H
       have Ny596 := Aside0.mk hy596
       clear hy596
       have H' := Aside0.mk H
       clear H
       have hcz10_0 : wr.cell? ⟨gb587, 0, none⟩ = some (.int .i64 a0_0) := cB BK587 0
       have hcz10_1 : wr.cell? ⟨gb587, 1, none⟩ = some (.slice A0_1 l0_1.length c0_1) := cB BK587 1
       have hfz10_0 := zB BK587 0
       have hfz10_1 := zB BK587 1
       try go_wp2
       replace HO_3 := Aside0.mk (Kd.R_drew HO_3.out)
       replace BK587 := dB BK587
       replace HB := dH HB
       have p591 : 0 ≤ (x4_1 : Int) := of_decide_eq_true (by first | (with_reducible assumption) | assumption)
       have q591 : x4_1 < (l0_1.length : Int) := of_decide_eq_true (by first | (with_reducible assumption) | assumption)
       obtain ⟨ad591, e591, hx591_0⟩ := Kd.at_int HR0_1.out x4_1 p591 q591
       have hw591_0 := hx591_0
       cases e591
       replace hx591_0 := cH HB hx591_0
       replace p591 := eq_true p591
       replace q591 := eq_true q591
       refine st_ 9 (S := fun w' => w'.cell? ⟨gb587, 0, none⟩ = some (.int .i64 a0_0) ∧ w'.cell? ⟨gb587, 1, none⟩ = some (.slice (some ad591) l0_1.length c0_1) ∧ w'.cell? (ad591.add (x4_1).toNat) = some (.int .i64 (rd l0_1 x4_1))) (ds := []) ⟨cB BK587 0, cB BK587 1, (cH HB hw591_0 :)⟩ (fun hHeld => ?_); refine with_tabW spec_l01Facets.tab5 spec_l01Facets.bits5 (fun HT_ HW_ => ?_)
       generalize wr.drew = w11 at HO_3 BK587 HB hx591_0 hHeld ⊢
       refine pu_ 1 14 2 HT_ ?_
       refine pu_ 3 16 10 HT_ ?_
       refine tk_ 0 13 11 HT_ HW_ hHeld ?_
       refine tk_ 2 15 15 HT_ HW_ hHeld ?_
       refine pu_ 4 17 31 HT_ ?_
       refine tk_ 5 18 63 HT_ HW_ hHeld ?_
       refine on_ 6 (some 19) 127 HT_ (fun K hK => ?_)
       refine ca_ Try.func130 #[.agg #[.int .i64 a0_0, .slice (some ad591) l0_1.length c0_1], .int .i64 (rd l0_1 x4_1)] ?_
       with_reducible refine (spec_l01Above.calls k1 a0_0 _ _ l0_1 (rd l0_1 x4_1) t592 _ ?side1 ?side2 A7.out).mono ?_
       (case side1 => exact pC ((Kd.C_below HR0_1.out HB.out)))
       (case side2 => exact HC0_1.out)
       rintro e w12 ⟨v593, rfl, ho0, hb⟩
       refine ⟨_, rfl, ?_⟩
       have HO594 := Aside0.mk (Kd.R_lower (Kd.R_new' ho0 (Kd.R_lt (pR HO_3))) (below_size (pH HB)))
       replace HO_3 := Aside0.mk (Kd.R_elder' (pR HO_3) (Kd.R_base ho0) hb)
       replace BK587 := sB BK587 hb
       replace HB := sH HB hb
       (try clear hb)
       (try clear hb2)
       (try clear hk)
       (try clear hi)
       (try clear ho0)
       obtain ⟨Ao13, co13, eo13⟩ := Kd.R_slice HO594.out
       (first | subst eo13 | (injection eo13 with f1_ f2_ f3_; have f4_ := f1_.symm; have f5_ := f3_.symm; clear f1_ f2_ f3_; subst f4_; subst f5_))
       refine hK.out _ _ ⟨cB BK587 0, cB BK587 1, (cH HB hw591_0 :)⟩ (fun hHeld => ?_)
       clear hK K
       refine nm_ ?_
       refine pu_ 7 20 255 HT_ ?_
       refine pu_ 8 21 511 HT_ ?_
       refine dn_ HT_ ?_
       have hcz14_0 : w12.cell? ⟨gb587, 0, none⟩ = some (.int .i64 a0_0) := cB BK587 0
       have hcz14_1 : w12.cell? ⟨gb587, 1, none⟩ = some (.slice (some ad591) l0_1.length c0_1) := cB BK587 1
       have hfz14_0 := zB BK587 0
       have hfz14_1 := zB BK587 1
       have p595 : 0 ≤ (x4_1 : Int) := of_decide_eq_true (by first | (with_reducible assumption) | assumption)
       have q595 : x4_1 < (l0_1.length : Int) := of_decide_eq_true (by first | (with_reducible assumption) | assumption)
       obtain ⟨ad595, e595, hx595_0⟩ := Kd.at_int HR0_1.out x4_1 p595 q595
       obtain rfl : ad591 = ad595 := (by injection e595)
       replace hx595_0 := cH HB hx595_0
       replace p595 := eq_true p595
       replace q595 := eq_true q595
       try go_wp2_with (first | ((with_reducible refine gate_builtin (b := .append) (xs := #[.tmp 22, .tmp 28]) rfl ?_); at_builtin; refine Kd.R_append (Kd.int .i64) (w0 := w) w.heap.size rfl (.tmp 22) (.tmp 28) 22 2 (.int .i64 0) 8 rfl Try.underlying22 info2 rfl (by decide) (by omega) u3 x3_1 (rd l0_1 x4_1) [.int .i64 (rd l0_1 x4_1)] (fun k_ => some k_ ≠ (.slice Ao13 t592.length co13 : Value).ownBlock) (fun _ => False) rfl rfl ?aP (fun _ hk => hk.elim) ?aF ?aO ?aB ?aS ?aL ?_; (case aP => exact rfl); (case aB => exact (pH HB)); (case aF => exact (fun k_ hk => Kd.fresh' (Kd.R_lt (pR HO594)) k_ hk)); (case aO => exact (by (with_reducible repeat (first | apply Kd.R_alloc | apply Kd.R_drewN | apply Kd.R_drew)); exact Kd.R_mono HO_3.out (fun _ hk => hk.2))); (case aS => exact (below_size (pH HB))); (case aL => have := LMc9.out; omega); intro v597 w15 ho hb hg hat; rw [← Ny596.out] at ho; replace BK587 := Aside0.mk (blk_grown (g := gb587) (o := .cells #[.int .i64 a0_0, .slice (some ad591) l0_1.length c0_1] 28 (0, 0)) (pB BK587) hg (Kd.R_ne HO_3.out BK587.out (by decide))); replace HO594 := Aside0.mk (Kd.R_after (ok := (fun _ => True)) (pR HO594) hg hat); replace HB := Aside0.mk (hb); have HO598 := Aside0.mk (ho); clear HO_3; clear ho hb hg hat))
       go_roundg k1
       case measure => have := HK1.out; omega
       case rel => exact ⟨(y596), (wrap64 (x4_1 + 1)), (by first | rfl | (simp; done) | (simp [*]; done)), H', ⟨by have := HK1.out; omega⟩, ⟨by (with_reducible repeat (first | apply Kd.R_alloc | apply Kd.R_drewN | apply Kd.R_drew)); exact Kd.R_mono HO598.out (fun _ hk => trivial)⟩, ⟨pB BK587⟩, ⟨pH HB⟩⟩
      ·rw [if_neg c9] at H
       exact absurd H (by simp)
     ·rw [if_neg c8] at H
      have c8b0 : ((t592.length : Int) == 0) = false := beq_eq_false_iff_ne.mpr c8
      have c8b1 : ((t592.length : Int) != 0) = true := bne_iff_ne.mpr c8
      have c8b2 : ¬ (t592 = []) := fun h_ => c8 (by rw [h_]; rfl)
      have H' := Aside0.mk H
      clear H
      have hcz16_0 : wr.cell? ⟨gb587, 0, none⟩ = some (.int .i64 a0_0) := cB BK587 0
      have hcz16_1 : wr.cell? ⟨gb587, 1, none⟩ = some (.slice A0_1 l0_1.length c0_1) := cB BK587 1
      have hfz16_0 := zB BK587 0
      have hfz16_1 := zB BK587 1
      try go_wp2
      replace HO_3 := Aside0.mk (Kd.R_drew HO_3.out)
      replace BK587 := dB BK587
      replace HB := dH HB
      have p591 : 0 ≤ (x4_1 : Int) := of_decide_eq_true (by first | (with_reducible assumption) | assumption)
      have q591 : x4_1 < (l0_1.length : Int) := of_decide_eq_true (by first | (with_reducible assumption) | assumption)
      obtain ⟨ad591, e591, hx591_0⟩ := Kd.at_int HR0_1.out x4_1 p591 q591
      have hw591_0 := hx591_0
      cases e591
      replace hx591_0 := cH HB hx591_0
      replace p591 := eq_true p591
      replace q591 := eq_true q591
      refine st_ 9 (S := fun w' => w'.cell? ⟨gb587, 0, none⟩ = some (.int .i64 a0_0) ∧ w'.cell? ⟨gb587, 1, none⟩ = some (.slice (some ad591) l0_1.length c0_1) ∧ w'.cell? (ad591.add (x4_1).toNat) = some (.int .i64 (rd l0_1 x4_1))) (ds := []) ⟨cB BK587 0, cB BK587 1, (cH HB hw591_0 :)⟩ (fun hHeld => ?_); refine with_tabW spec_l01Facets.tab5 spec_l01Facets.bits5 (fun HT_ HW_ => ?_)
      generalize wr.drew = w17 at HO_3 BK587 HB hx591_0 hHeld ⊢
      refine pu_ 1 14 2 HT_ ?_
      refine pu_ 3 16 10 HT_ ?_
      refine tk_ 0 13 11 HT_ HW_ hHeld ?_
      refine tk_ 2 15 15 HT_ HW_ hHeld ?_
      refine pu_ 4 17 31 HT_ ?_
      refine tk_ 5 18 63 HT_ HW_ hHeld ?_
      refine on_ 6 (some 19) 127 HT_ (fun K hK => ?_)
      refine ca_ Try.func130 #[.agg #[.int .i64 a0_0, .slice (some ad591) l0_1.length c0_1], .int .i64 (rd l0_1 x4_1)] ?_
      with_reducible refine (spec_l01Above.calls k1 a0_0 _ _ l0_1 (rd l0_1 x4_1) t592 _ ?side1 ?side2 A7.out).mono ?_
      (case side1 => exact pC ((Kd.C_below HR0_1.out HB.out)))
      (case side2 => exact HC0_1.out)
      rintro e w18 ⟨v593, rfl, ho0, hb⟩
      refine ⟨_, rfl, ?_⟩
      have HO594 := Aside0.mk (Kd.R_lower (Kd.R_new' ho0 (Kd.R_lt (pR HO_3))) (below_size (pH HB)))
      replace HO_3 := Aside0.mk (Kd.R_elder' (pR HO_3) (Kd.R_base ho0) hb)
      replace BK587 := sB BK587 hb
      replace HB := sH HB hb
      (try clear hb)
      (try clear hb2)
      (try clear hk)
      (try clear hi)
      (try clear ho0)
      obtain ⟨Ao19, co19, eo19⟩ := Kd.R_slice HO594.out
      (first | subst eo19 | (injection eo19 with f1_ f2_ f3_; have f4_ := f1_.symm; have f5_ := f3_.symm; clear f1_ f2_ f3_; subst f4_; subst f5_))
      refine hK.out _ _ ⟨cB BK587 0, cB BK587 1, (cH HB hw591_0 :)⟩ (fun hHeld => ?_)
      clear hK K
      refine nm_ ?_
      refine pu_ 7 20 255 HT_ ?_
      refine pu_ 8 21 511 HT_ ?_
      refine dn_ HT_ ?_
      try go_wp2
      go_roundg k1
      case measure => have := HK1.out; omega
      case rel => exact ⟨(x3_1), (wrap64 (x4_1 + 1)), (by first | rfl | (simp; done) | (simp [*]; done)), H', ⟨by have := HK1.out; omega⟩, ⟨by (with_reducible repeat (first | apply Kd.R_alloc | apply Kd.R_drewN | apply Kd.R_drew)); exact Kd.R_mono HO_3.out (fun _ hk => trivial)⟩, ⟨pB BK587⟩, ⟨pH HB⟩⟩
    ·rw [if_neg c6] at H
     exact absurd H (by simp)
   ·rw [if_neg c5] at H
    have c5b0 : decide (x4_1 < (l0_1.length : Int)) = false := decide_eq_false c5
    clear c5
    obtain rfl := Option.some.inj H
    have hcz20_0 : wr.cell? ⟨gb587, 0, none⟩ = some (.int .i64 a0_0) := cB BK587 0
    have hcz20_1 : wr.cell? ⟨gb587, 1, none⟩ = some (.slice A0_1 l0_1.length c0_1) := cB BK587 1
    have hfz20_0 := zB BK587 0
    have hfz20_1 := zB BK587 1
    go_wp2
    go_ret
    exact ⟨_, by first | rfl | (simp [errW_none, errW_some] <;> rfl) | (simp [*, errW_none, errW_some] <;> rfl) | (exfalso; simp_all), by (with_reducible repeat (first | apply Kd.R_alloc | apply Kd.R_drewN | apply Kd.R_drew)); exact HO_3.out, pH HB⟩
end Go.Proofs.Ytomdfjohnmikdaa.QS
namespace Go.Proofs.Ytomdfjohnmikdaa.Pu
set_option linter.unusedVariables false
set_option linter.unusedSimpArgs false
open Go.RowKit Go.Proofs.Ytomdfjohnmikdaa.QS Go.Proofs.Ytomdfjohnmikdaa.Im Go.Proofs.YtomdfjohnmikdaaW.PrintWords Go.Proofs.YtomdfjohnmikdaaW.PrintLast Go.Proofs.YtomdfjohnmikdaaW.PrintMore
theorem ones_all : ((List.range 64).all fun f => spec_l01Ones.f 8 (f : Int) == some (onesZ (f : Int))) = true := by decide +kernel
theorem ev_ones {x : Int} (h0 : 0 ≤ x) (h6 : x ≤ 63) : Ev (fun k => spec_l01Ones.f k x) (onesZ x) := by
  obtain ⟨m, rfl⟩ := Int.eq_ofNat_of_zero_le h0
  exact Ev.of (fun k => spec_l01Ones.mono _ k) (eq_of_beq (List.all_eq_true.1 ones_all m (List.mem_range.2 (by omega))))
theorem ones_le (x : Int) : 0 ≤ onesZ x ∧ onesZ x ≤ 6 := by
  have : (verts x).length ≤ 6 := verts_len x
  unfold onesZ; omega
def overP (f x : Int) : Bool := Go.bits .and .i64 x f == f && onesZ x == onesZ f + 1
theorem above_loop (n f : Int) (hf : 0 ≤ f ∧ f ≤ 63) (l : List Int) (hl : l.length ≤ 64) (hr : ∀ x ∈ l, 1 ≤ x ∧ x ≤ 63) : ∀ d (i : Nat) (acc : List Int), l.length - i = d → i ≤ l.length → acc.length ≤ i →
    Ev (fun k => spec_l01Above.l0 k f acc i n l) (acc ++ (l.drop i).filter (overP f)) := by
  intro d
  induction d with
  | zero =>
    intro i acc hd hi ha
    rw [List.drop_eq_nil_of_le (by omega), List.filter_nil, List.append_nil]
    refine Ev.step (f := fun k => some acc) (fun k => ?_) (Ev.now _)
    simp only [spec_l01Above.l0]; rw [if_neg (by omega)]
  | succ d ih =>
    intro i acc hd hi ha
    have hi' : i < l.length := by omega
    have hx := hr _ (List.getElem_mem hi')
    have hw : wrap64 ((i : Int) + 1) = ((i + 1 : Nat) : Int) := by rw [w64 (by omega) (by omega)]; omega
    rw [List.drop_eq_getElem_cons hi']
    by_cases hc : Go.bits .and .i64 l[i] f = f
    · refine Ev.step (f := fun k => (spec_l01Ones.f k l[i]).bind fun t262 => ((spec_l01Ones.f k f).bind fun t263 => (if t262 = (wrap64 (t263 + 1)) then (spec_l01Above.l0 k f (acc ++ [l[i]]) ((i + 1 : Nat) : Int) n l) else (spec_l01Above.l0 k f acc ((i + 1 : Nat) : Int) n l)))) (fun k => ?_) ?_
      · simp only [spec_l01Above.l0]
        rw [if_pos (by omega), if_pos (by omega), rd_at hi', if_pos hc, hw]
        simp only [if_pos (show acc.length < 17592186044416 by omega)]
      · refine Ev.bind (ev_ones (by omega) (by omega)) ?_
        refine Ev.bind (ev_ones hf.1 hf.2) ?_
        have h1 := ones_le f
        rw [w64 (by omega) (by omega)]
        by_cases ho : onesZ l[i] = onesZ f + 1
        · simp only [if_pos ho]
          rw [List.filter_cons_of_pos (by simp [overP, hc, ho])]
          have := ih (i + 1) (acc ++ [l[i]]) (by omega) (by omega) (by rw [List.length_append]; simp; omega)
          rw [List.append_assoc] at this
          exact this
        · simp only [if_neg ho]
          rw [List.filter_cons_of_neg (by simp [overP, ho])]
          exact ih (i + 1) acc (by omega) (by omega) (by omega)
    · refine Ev.step (f := fun k => spec_l01Above.l0 k f acc ((i + 1 : Nat) : Int) n l) (fun k => ?_) ?_
      · simp only [spec_l01Above.l0]
        rw [if_pos (by omega), if_pos (by omega), rd_at hi', if_neg hc, hw]
      · rw [List.filter_cons_of_neg (by simp [overP, hc])]
        exact ih (i + 1) acc (by omega) (by omega) (by omega)
theorem ev_above (n f : Int) (hf : 0 ≤ f ∧ f ≤ 63) {l : List Int} (hl : l.length ≤ 64) (hr : ∀ x ∈ l, 1 ≤ x ∧ x ≤ 63) : Ev (fun k => spec_l01Above.f k n l f) (l.filter (overP f)) := by
  have := above_loop n f hf l hl hr _ 0 [] rfl (Nat.zero_le _) (by simp)
  rw [List.drop_zero, List.nil_append] at this
  exact this
/-- A face above another, by more than one vertex: a border of it lies above, too. -/
theorem down_all : ((List.range 64).all fun g => (List.range 64).all fun f => f == 0 || !(inB (f : Int) (g : Int)) || overP (f : Int) (g : Int) || (bordersL (g : Int)).any fun h => inB (f : Int) h && decide (1 ≤ h) && decide (h < (g : Int))) = true := by decide +kernel
theorem over_all : ((List.range 64).all fun g => (List.range 64).all fun f => !(overP (f : Int) (g : Int)) || inB (f : Int) (g : Int)) = true := by decide +kernel
theorem over_in {f g : Int} (hf : 0 ≤ f ∧ f ≤ 63) (hg : 0 ≤ g ∧ g ≤ 63) (h : overP f g = true) : inB f g = true := by
  obtain ⟨a, rfl⟩ := Int.eq_ofNat_of_zero_le hf.1
  obtain ⟨b, rfl⟩ := Int.eq_ofNat_of_zero_le hg.1
  have h2 := List.all_eq_true.1 (List.all_eq_true.1 over_all b (List.mem_range.2 (by omega))) a (List.mem_range.2 (by omega))
  rw [h] at h2
  simpa using h2
theorem in_over {l : List Int} (hc : closedB l = true) (hr : ∀ x ∈ l, 1 ≤ x ∧ x ≤ 63) {f : Int} (hf : 1 ≤ f ∧ f ≤ 63) : ∀ (G : Nat) (g : Int), g.toNat ≤ G → g ∈ l → inB f g = true → ∃ h ∈ l, overP f h = true := by
  intro G
  induction G with
  | zero => intro g hG hg _; have := hr g hg; omega
  | succ G ih =>
    intro g hG hg hi
    have hgr := hr g hg
    by_cases ho : overP f g = true
    · exact ⟨g, hg, ho⟩
    · obtain ⟨a, rfl⟩ := Int.eq_ofNat_of_zero_le (show 0 ≤ f by omega)
      obtain ⟨b, rfl⟩ := Int.eq_ofNat_of_zero_le (show 0 ≤ g by omega)
      have h2 := List.all_eq_true.1 (List.all_eq_true.1 down_all b (List.mem_range.2 (by omega))) a (List.mem_range.2 (by omega))
      have ha : (a == 0) = false := by simp; omega
      rw [ha, hi, Bool.eq_false_iff.2 ho] at h2
      simp only [Bool.not_true, Bool.or_false, Bool.false_or] at h2
      obtain ⟨h, hh, hp⟩ := List.any_eq_true.1 h2
      simp only [Bool.and_eq_true, decide_eq_true_eq] at hp
      have hcl := of_decide_eq_true (List.all_eq_true.1 (List.all_eq_true.1 hc _ hg) h hh)
      exact ih h (by omega) hcl hp.1.1
theorem above_bigger {n : Int} {l : List Int} (hi : isC n l = true) {f : Int} (hf : f ∈ l) : ((l.filter (overP f)).length : Int) = 0 ↔ biggerB l f = false := by
  have hr := isC_63 hi
  obtain ⟨_, _, hc⟩ := isC_of hi
  constructor
  · intro h
    have h0 : l.filter (overP f) = [] := List.eq_nil_of_length_eq_zero (by omega)
    cases hb : biggerB l f with
    | false => rfl
    | true =>
      obtain ⟨g, hg, hp⟩ := List.any_eq_true.1 hb
      obtain ⟨h, hh, ho⟩ := in_over hc hr (hr f hf) _ g (Nat.le_refl _) hg hp
      have : h ∈ l.filter (overP f) := List.mem_filter.2 ⟨hh, ho⟩
      rw [h0] at this
      cases this
  · intro hb
    have : l.filter (overP f) = [] := by
      refine List.filter_eq_nil_iff.2 fun x hx ho => ?_
      have hx2 := hr x hx
      have hf2 := hr f hf
      have := over_in (f := f) (g := x) (by omega) (by omega) ho
      have h3 := List.any_eq_false.1 hb x hx
      exact h3 this
    rw [this]; rfl
theorem facets_loop {n : Int} {l : List Int} (hi : isC n l = true) : ∀ d (i : Nat) (acc : List Int), l.length - i = d → i ≤ l.length → acc.length ≤ i →
    Ev (fun k => spec_l01Facets.l0 k acc i n l) (acc ++ (l.drop i).filter (fun x => !biggerB l x)) := by
  have hl := isC_len hi
  have hr := isC_63 hi
  intro d
  induction d with
  | zero =>
    intro i acc hd hi ha
    rw [List.drop_eq_nil_of_le (by omega), List.filter_nil, List.append_nil]
    refine Ev.step (f := fun k => some acc) (fun k => ?_) (Ev.now _)
    simp only [spec_l01Facets.l0]; rw [if_neg (by omega)]
  | succ d ih =>
    intro i acc hd hii ha
    have hi' : i < l.length := by omega
    have hx := hr _ (List.getElem_mem hi')
    have hw : wrap64 ((i : Int) + 1) = ((i + 1 : Nat) : Int) := by rw [w64 (by omega) (by omega)]; omega
    rw [List.drop_eq_getElem_cons hi']
    refine Ev.step (f := fun k => (spec_l01Above.f k n l l[i]).bind fun t273 => (if (t273.length : Int) = 0 then (spec_l01Facets.l0 k (acc ++ [l[i]]) ((i + 1 : Nat) : Int) n l) else (spec_l01Facets.l0 k acc ((i + 1 : Nat) : Int) n l))) (fun k => ?_) ?_
    · simp only [spec_l01Facets.l0]
      rw [if_pos (by omega), if_pos (by omega), rd_at hi', hw]
      simp only [if_pos (show acc.length < 17592186044416 by omega)]
    · refine Ev.bind (ev_above n l[i] (by omega) hl hr) ?_
      have hab := above_bigger hi (List.getElem_mem hi')
      cases hb : biggerB l l[i] with
      | false =>
        simp only [if_pos (hab.2 hb)]
        rw [List.filter_cons_of_pos (by simp [hb])]
        have := ih (i + 1) (acc ++ [l[i]]) (by omega) (by omega) (by rw [List.length_append]; simp; omega)
        rw [List.append_assoc] at this
        exact this
      | true =>
        simp only [if_neg (fun h => by have := hab.1 h; rw [hb] at this; cases this)]
        rw [List.filter_cons_of_neg (by simp [hb])]
        exact ih (i + 1) acc (by omega) (by omega) (by omega)
theorem ev_facets {n : Int} {l : List Int} (hi : isC n l = true) : Ev (fun k => spec_l01Facets.f k n l) (facetsL l) := by
  have := facets_loop hi _ 0 [] rfl (Nat.zero_le _) (by simp)
  rw [List.drop_zero, List.nil_append] at this
  exact this
end Go.Proofs.Ytomdfjohnmikdaa.Pu
namespace Go.Proofs.Ytomdfjohnmikdaa.Im
set_option linter.unusedVariables false
set_option linter.unusedSimpArgs false
open Go.RowKit Go.Proofs.Ytomdfjohnmikdaa.Kp Go.Proofs.YtomdfjohnmikdaaW.PrintWords Go.Proofs.YtomdfjohnmikdaaW.PrintLast Go.Proofs.YtomdfjohnmikdaaW.PrintMore
/-- A function value that says p of pairs, in each world that has come of w by growth alone. -/
def FnP (P : Program) (fv : Value) (dom : Pr → Prop) (p : Pr → Bool) (w : World) : Prop :=
  ∃ g fs lb, fv = .func (.func g) fs lb ∧ (∀ args w, (callFunc g args).run P w = .ok (.enter g args) w) ∧
    ∀ W (x : Pr), Below w.heap.size w W → dom x → Calls P g (fs ++ #[.agg #[.int .i64 x.f0, .int .i64 x.f1]] ++ lb) W fun e w' => e = .returned (.bool (p x)) ∧ Below W.heap.size W w'
theorem FnP.later {P : Program} {fv : Value} {dom : Pr → Prop} {p : Pr → Bool} {w w1 : World} (h : FnP P fv dom p w) (hb : Below w.heap.size w w1) : FnP P fv dom p w1 := by
  obtain ⟨g, fs, lb, he, hg, hc⟩ := h
  exact ⟨g, fs, lb, he, hg, fun W x hW hx => hc W x (hb.trans (hW.mono hb.size)) hx⟩
end Go.Proofs.Ytomdfjohnmikdaa.Im
namespace Go.Proofs.Ytomdfjohnmikdaa.Ext
set_option linter.unusedVariables false
set_option linter.unusedSimpArgs false
open Go.RowKit Go.Proofs.Ytomdfjohnmikdaa.Im Go.Proofs.Ytomdfjohnmikdaa.Kp Go.Proofs.YtomdfjohnmikdaaW.PrintWords Go.Proofs.YtomdfjohnmikdaaW.PrintLast Go.Proofs.YtomdfjohnmikdaaW.PrintMore
/-- What a function value answers: without arguments (0), of a whole number (1), of a pair (2). -/
structure Pred where
  sort : Nat
  u : Bool
  full : Bool
  pI : Int → Bool
  pP : Pr → Bool
def Pred.nul (u : Bool) : Pred := ⟨0, u, true, fun _ => true, fun _ => true⟩
def Pred.int (p : Int → Bool) : Pred := ⟨1, true, true, p, fun _ => true⟩
/-- of faces alone -/
def Pred.face (p : Int → Bool) : Pred := ⟨1, true, false, p, fun _ => true⟩
/-- of which nothing is known -/
def Pred.bad : Pred := ⟨9, true, true, fun _ => true, fun _ => true⟩
def Pred.dom (a : Pred) (x : Int) : Prop := a.full = true ∨ (0 ≤ x ∧ x ≤ 63)
def Pred.domP (a : Pred) (x : Pr) : Prop := a.full = true ∨ ((0 ≤ x.f0 ∧ x.f0 ≤ 63) ∧ (0 ≤ x.f1 ∧ x.f1 ≤ 63))
def okDom (a : Pred) (l : List Int) : Bool := a.full || l.all fun x => decide (0 ≤ x) && decide (x ≤ 63)
theorem okDom_mem {a : Pred} {l : List Int} (h : okDom a l = true) : ∀ x ∈ l, a.dom x := by
  intro x hx
  rcases Bool.or_eq_true _ _ ▸ h with h | h
  · exact .inl h
  · have := List.all_eq_true.1 h x hx
    simp only [Bool.and_eq_true, decide_eq_true_eq] at this
    exact .inr this
def FnOk (F : Value) (a : Pred) (w : World) : Prop :=
  (a.sort = 0 → FnU Try.prog F a.u w) ∧ (a.sort = 1 → FnB Try.prog F a.dom a.pI w) ∧ (a.sort = 2 → FnP Try.prog F a.domP a.pP w)
theorem FnOk.later {F : Value} {a : Pred} {w w1 : World} (h : FnOk F a w) (hb : Below w.heap.size w w1) : FnOk F a w1 :=
  ⟨fun e => (h.1 e).later hb, fun e => (h.2.1 e).later hb, fun e => (h.2.2 e).later hb⟩
theorem FnOk.nul {F : Value} {u : Bool} {w : World} (h : FnU Try.prog F u w) : FnOk F (Pred.nul u) w := ⟨fun _ => h, fun e => (by cases e), fun e => (by cases e)⟩
theorem FnOk.int {F : Value} {p : Int → Bool} {w : World} (h : FnB Try.prog F (fun _ => True) p w) : FnOk F (Pred.int p) w := ⟨fun e => (by cases e), fun _ => (by
    obtain ⟨g, fs, lb, he, hg, hc⟩ := h
    exact ⟨g, fs, lb, he, hg, fun W x hW _ => hc W x hW trivial⟩), fun e => (by cases e)⟩
theorem FnOk.face {F : Value} {p : Int → Bool} {w : World} (h : FnB Try.prog F (fun x => 0 ≤ x ∧ x ≤ 63) p w) : FnOk F (Pred.face p) w := ⟨fun e => (by cases e), fun _ => (by
    obtain ⟨g, fs, lb, he, hg, hc⟩ := h
    exact ⟨g, fs, lb, he, hg, fun W x hW hx => hc W x hW (hx.resolve_left (fun h_ => by cases h_))⟩), fun e => (by cases e)⟩
theorem FnOk.bad (F : Value) (w : World) : FnOk F Pred.bad w := ⟨fun e => (by cases e), fun e => (by cases e), fun e => (by cases e)⟩
def Pred.ofI (f : Int → Option Bool) : Pred := if ((List.range 64).all fun x => (f (x : Int)).isSome) = true then Pred.face (fun x => (f x).getD false) else Pred.bad
theorem ofI_face {f : Int → Option Bool} {p : Int → Bool} (h : ∀ x, 0 ≤ x → x ≤ 63 → f x = some (p x)) : (Pred.ofI f).sort = 1 ∧ (Pred.ofI f).u = true ∧ ∀ x, 0 ≤ x → x ≤ 63 → (Pred.ofI f).pI x = p x := by
  have hc : ((List.range 64).all fun x => (f (x : Int)).isSome) = true := List.all_eq_true.2 fun m hm => by
    have := List.mem_range.1 hm
    rw [h m (by omega) (by omega)]; rfl
  unfold Pred.ofI
  rw [if_pos hc]
  exact ⟨rfl, rfl, fun x h0 h6 => by simp only [Pred.face]; rw [h x h0 h6]; rfl⟩
theorem FnOk.ofI {f : Int → Option Bool} {g : FuncId} {fs lb : Array Value} {W : World} (he : ∀ args w, (callFunc g args).run Try.prog w = .ok (.enter g args) w)
    (h : ∀ V x b, Below W.heap.size W V → f x = some b → Calls Try.prog g (fs ++ #[.int .i64 x] ++ lb) V fun e w' => e = .returned (.bool b) ∧ Below V.heap.size V w') : FnOk (.func (.func g) fs lb) (Pred.ofI f) W := by
  unfold Pred.ofI
  split
  · rename_i hc
    refine FnOk.face ⟨g, fs, lb, rfl, he, fun V x hV hx => ?_⟩
    obtain ⟨m, rfl⟩ := Int.eq_ofNat_of_zero_le hx.1
    obtain ⟨b, hr⟩ := Option.isSome_iff_exists.1 (List.all_eq_true.1 hc m (List.mem_range.2 (by omega)))
    have := h V m b hV hr
    simp only [hr, Option.getD_some]
    exact this
  · exact FnOk.bad _ _
end Go.Proofs.Ytomdfjohnmikdaa.Ext
namespace Go.Proofs.Ytomdfjohnmikdaa.Im
set_option linter.unusedVariables false
set_option linter.unusedSimpArgs false
open Go.RowKit Go.Shelf Go.Proofs.Ytomdfjohnmikdaa.Kp Go.Proofs.Ytomdfjohnmikdaa.Ext Go.Proofs.YtomdfjohnmikdaaW.PrintWords Go.Proofs.YtomdfjohnmikdaaW.PrintLast Go.Proofs.YtomdfjohnmikdaaW.PrintMore
end Go.Proofs.Ytomdfjohnmikdaa.Im
namespace Go.Proofs.Ytomdfjohnmikdaa.Ext
set_option linter.unusedVariables false
set_option linter.unusedSimpArgs false
open Go.RowKit Go.Proofs.Ytomdfjohnmikdaa.Im Go.Proofs.Ytomdfjohnmikdaa.Kp Go.Proofs.YtomdfjohnmikdaaW.PrintWords Go.Proofs.YtomdfjohnmikdaaW.PrintLast Go.Proofs.YtomdfjohnmikdaaW.PrintMore
def fnp (g : FuncId) : Pred :=
  if g = 127 then Pred.nul true else
  if g = 58 then Pred.int (fun x => withinB x 0 1000) else
  Pred.nul false
theorem fnp_ok_127 (w : World) : FnOk (.func (.func 127) #[] #[]) (fnp 127) w := FnOk.nul (u := true) (always_f w)
end Go.Proofs.Ytomdfjohnmikdaa.Ext
namespace Go.Proofs.Ytomdfjohnmikdaa.Im
set_option linter.unusedVariables false
set_option linter.unusedSimpArgs false
open Go.RowKit Go.Shelf Go.Proofs.Ytomdfjohnmikdaa.Ext Go.Proofs.YtomdfjohnmikdaaW.PrintWords Go.Proofs.YtomdfjohnmikdaaW.PrintLast Go.Proofs.YtomdfjohnmikdaaW.PrintMore
theorem RO.ok {W : World} {base : Nat} {v : Value} {xs : List Int} {ok : Nat → Prop} (h : RO W base v xs) (hk : ∀ k, v.ownBlock = some k → ok k) : Kd.R (Kd.int .i64) 2 W base ok v xs :=
  Kd.R_mono (Kd.R_tight rfl h) (fun k e => hk k e.symm)
end Go.Proofs.Ytomdfjohnmikdaa.Im
namespace Go.Proofs.Ytomdfjohnmikdaa.Ext
set_option linter.unusedVariables false
set_option linter.unusedSimpArgs false
open Go.RowKit Go.Proofs.Ytomdfjohnmikdaa.Im  Go.Proofs.YtomdfjohnmikdaaW.PrintWords Go.Proofs.YtomdfjohnmikdaaW.PrintLast Go.Proofs.YtomdfjohnmikdaaW.PrintMore
def impl_complexCode.f (a0_0 : Int) (l0_1 : List Int) (a1 : Pred) : Option (Int) := if l0_1.length ≤ 4611686018427387904 ∧ (isC a0_0 l0_1 = true → a1.sort = 0) then some (codeOf (isC a0_0 l0_1) a1.u) else none
theorem impl_complexCode.calls (a0_0 : Int) (A0_1 : Option Addr) (c0_1 : Nat) (l0_1 : List Int) (F1 : Value) (a1 : Pred) (r : Int) (w : World) (hr0_1 : Kd.C (Kd.int .i64) w A0_1 l0_1.length l0_1) (_hc0_1 : l0_1.length ≤ c0_1) (hq1 : FnOk F1 a1 w) (h : impl_complexCode.f a0_0 l0_1 a1 = some r) :
    Calls Try.prog 53 #[.agg #[.int .i64 a0_0, .slice A0_1 l0_1.length c0_1], F1] w fun e w' => e = .returned (.int .i64 r) ∧ Below w.heap.size w w' := by
  unfold impl_complexCode.f at h
  by_cases hl : l0_1.length ≤ 4611686018427387904 ∧ (isC a0_0 l0_1 = true → a1.sort = 0)
  · rw [if_pos hl] at h
    have hd := Option.some.inj h
    rw [← hd]
    exact complexCode_c a0_0 A0_1 l0_1.length c0_1 l0_1 _ a1.u w hr0_1 hl.1 (fun h => hq1.1 (hl.2 h))
  · rw [if_neg hl] at h; cases h
end Go.Proofs.Ytomdfjohnmikdaa.Ext
namespace Go.Proofs.Ytomdfjohnmikdaa.Ext
set_option linter.unusedVariables false
set_option linter.unusedSimpArgs false
open Go.RowKit Go.Proofs.Ytomdfjohnmikdaa.Im  Go.Proofs.YtomdfjohnmikdaaW.PrintWords Go.Proofs.YtomdfjohnmikdaaW.PrintLast Go.Proofs.YtomdfjohnmikdaaW.PrintMore
end Go.Proofs.Ytomdfjohnmikdaa.Ext
namespace Go.Proofs.Ytomdfjohnmikdaa.Ext
set_option linter.unusedVariables false
set_option linter.unusedSimpArgs false
open Go.RowKit Go.Proofs.Ytomdfjohnmikdaa.Im Go.Proofs.Ytomdfjohnmikdaa.Kp Go.Proofs.YtomdfjohnmikdaaW.PrintWords Go.Proofs.YtomdfjohnmikdaaW.PrintLast Go.Proofs.YtomdfjohnmikdaaW.PrintMore
def impl_isIn.f (a0 : Int) (a1 : Int) : Option (Bool) := if True then some (Go.bits .andNot .i64 a0 a1 == 0) else none
theorem impl_isIn.calls (a0 : Int) (a1 : Int) (r : Bool) (w : World)  (h : impl_isIn.f a0 a1 = some r) :
    Calls Try.prog 92 #[.int .i64 a0, .int .i64 a1] w fun e w' => e = .returned (.bool r) ∧ Below w.heap.size w w' := by
  unfold impl_isIn.f at h
  by_cases hl : True
  · rw [if_pos hl] at h
    have hd := Option.some.inj h
    rw [← hd]
    exact (isIn_c a0 a1 w).mono (by rintro e w' ⟨rfl, rfl⟩; exact ⟨rfl, Below.refl _ _⟩)
  · rw [if_neg hl] at h; cases h
def impl_areAll_int64.f (l0 : List Int) (a1 : Pred) : Option (Bool) := if l0.length ≤ 1099511627776 ∧ a1.sort = 1 ∧ okDom a1 l0 = true then some (l0.all a1.pI) else none
theorem impl_areAll_int64.calls (A0 : Option Addr) (c0 : Nat) (l0 : List Int) (F1 : Value) (a1 : Pred) (r : Bool) (w : World) (hr0 : Kd.C (Kd.int .i64) w A0 l0.length l0) (_hc0 : l0.length ≤ c0) (hq1 : FnOk F1 a1 w) (h : impl_areAll_int64.f l0 a1 = some r) :
    Calls Try.prog 57 #[.slice A0 l0.length c0, F1] w fun e w' => e = .returned (.bool r) ∧ Below w.heap.size w w' := by
  unfold impl_areAll_int64.f at h
  by_cases hl : l0.length ≤ 1099511627776 ∧ a1.sort = 1 ∧ okDom a1 l0 = true
  · rw [if_pos hl] at h
    have hd := Option.some.inj h
    rw [← hd]
    exact areAll_c A0 l0.length c0 l0 F1 a1.dom a1.pI w hr0 (hq1.2.1 hl.2.1) (okDom_mem hl.2.2)
  · rw [if_neg hl] at h; cases h
def slices_ContainsFunc_int64_int64.f (l0 : List Int) (a1 : Pred) : Option (Bool) := if l0.length ≤ 1099511627776 ∧ a1.sort = 1 ∧ okDom a1 l0 = true then some (l0.any a1.pI) else none
theorem slices_ContainsFunc_int64_int64.calls (A0 : Option Addr) (c0 : Nat) (l0 : List Int) (F1 : Value) (a1 : Pred) (r : Bool) (w : World) (hr0 : Kd.C (Kd.int .i64) w A0 l0.length l0) (_hc0 : l0.length ≤ c0) (hq1 : FnOk F1 a1 w) (h : slices_ContainsFunc_int64_int64.f l0 a1 = some r) :
    Calls Try.prog 90 #[.slice A0 l0.length c0, F1] w fun e w' => e = .returned (.bool r) ∧ Below w.heap.size w w' := by
  unfold slices_ContainsFunc_int64_int64.f at h
  by_cases hl : l0.length ≤ 1099511627776 ∧ a1.sort = 1 ∧ okDom a1 l0 = true
  · rw [if_pos hl] at h
    have hd := Option.some.inj h
    rw [← hd]
    exact containsFunc_c A0 l0.length c0 l0 F1 a1.dom a1.pI w hr0 (hq1.2.1 hl.2.1) (okDom_mem hl.2.2)
  · rw [if_neg hl] at h; cases h
end Go.Proofs.Ytomdfjohnmikdaa.Ext
namespace Go.Proofs.Ytomdfjohnmikdaa.QH
open Go.Proofs.Ytomdfjohnmikdaa.Cw Go.Proofs.Ytomdfjohnmikdaa.Kp Go.Proofs.Ytomdfjohnmikdaa.Ext Go.RowKit Go.Proofs.YtomdfjohnmikdaaW.PrintWords Go.Proofs.YtomdfjohnmikdaaW.PrintLast Go.Proofs.YtomdfjohnmikdaaW.PrintMore
attribute [local go_sem] max2_int min2_int max_two min_two max_three min_three max_four min_four   -- for this text's walks alone
set_option linter.unusedVariables false
set_option linter.unusedSimpArgs false
def errW : Option Int → Value
 | none => .nilIface
 | some c => .iface 0 (.int .i64 c)
theorem errW_none : errW none = .nilIface := rfl
theorem errW_some (c : Int) : errW (some c) = .iface 0 (.int .i64 c) := rfl
theorem info2 : (Try.prog.info? 2).map (fun i => (i.zero, i.size, i.bytes)) = some (some (.int .i64 0), 1, 8) := by kernel_rfl
end Go.Proofs.Ytomdfjohnmikdaa.QH
namespace Go.Proofs.Ytomdfjohnmikdaa.QH
open Go.Proofs.Ytomdfjohnmikdaa.Cw Go.Proofs.Ytomdfjohnmikdaa.Kp Go.Proofs.Ytomdfjohnmikdaa.Ext Go.RowKit Go.Proofs.YtomdfjohnmikdaaW.PrintWords Go.Proofs.YtomdfjohnmikdaaW.PrintLast Go.Proofs.YtomdfjohnmikdaaW.PrintMore
attribute [local go_sem] max2_int min2_int max_two min_two max_three min_three max_four min_four   -- for this text's walks alone
set_option linter.unusedVariables false
set_option linter.unusedSimpArgs false
def bits_OnesCount64.f (a0 : Int) : Option (Int) := some (Go.bits .and .i64 (wrap64 (IntKind.u64.wrap ((IntKind.u64.wrap ((IntKind.u64.wrap ((Go.bits .and .u64 (IntKind.u64.wrap (((IntKind.u64.wrap ((Go.bits .and .u64 ((IntKind.u64.wrap ((Go.bits .and .u64 (a0 / 2) 6148914691236517205) + (Go.bits .and .u64 a0 6148914691236517205))) / 4) 3689348814741910323) + (Go.bits .and .u64 (IntKind.u64.wrap ((Go.bits .and .u64 (a0 / 2) 6148914691236517205) + (Go.bits .and .u64 a0 6148914691236517205))) 3689348814741910323))) / 16) + (IntKind.u64.wrap ((Go.bits .and .u64 ((IntKind.u64.wrap ((Go.bits .and .u64 (a0 / 2) 6148914691236517205) + (Go.bits .and .u64 a0 6148914691236517205))) / 4) 3689348814741910323) + (Go.bits .and .u64 (IntKind.u64.wrap ((Go.bits .and .u64 (a0 / 2) 6148914691236517205) + (Go.bits .and .u64 a0 6148914691236517205))) 3689348814741910323))))) 1085102592571150095) + ((Go.bits .and .u64 (IntKind.u64.wrap (((IntKind.u64.wrap ((Go.bits .and .u64 ((IntKind.u64.wrap ((Go.bits .and .u64 (a0 / 2) 6148914691236517205) + (Go.bits .and .u64 a0 6148914691236517205))) / 4) 3689348814741910323) + (Go.bits .and .u64 (IntKind.u64.wrap ((Go.bits .and .u64 (a0 / 2) 6148914691236517205) + (Go.bits .and .u64 a0 6148914691236517205))) 3689348814741910323))) / 16) + (IntKind.u64.wrap ((Go.bits .and .u64 ((IntKind.u64.wrap ((Go.bits .and .u64 (a0 / 2) 6148914691236517205) + (Go.bits .and .u64 a0 6148914691236517205))) / 4) 3689348814741910323) + (Go.bits .and .u64 (IntKind.u64.wrap ((Go.bits .and .u64 (a0 / 2) 6148914691236517205) + (Go.bits .and .u64 a0 6148914691236517205))) 3689348814741910323))))) 1085102592571150095) / 256))) + ((IntKind.u64.wrap ((Go.bits .and .u64 (IntKind.u64.wrap (((IntKind.u64.wrap ((Go.bits .and .u64 ((IntKind.u64.wrap ((Go.bits .and .u64 (a0 / 2) 6148914691236517205) + (Go.bits .and .u64 a0 6148914691236517205))) / 4) 3689348814741910323) + (Go.bits .and .u64 (IntKind.u64.wrap ((Go.bits .and .u64 (a0 / 2) 6148914691236517205) + (Go.bits .and .u64 a0 6148914691236517205))) 3689348814741910323))) / 16) + (IntKind.u64.wrap ((Go.bits .and .u64 ((IntKind.u64.wrap ((Go.bits .and .u64 (a0 / 2) 6148914691236517205) + (Go.bits .and .u64 a0 6148914691236517205))) / 4) 3689348814741910323) + (Go.bits .and .u64 (IntKind.u64.wrap ((Go.bits .and .u64 (a0 / 2) 6148914691236517205) + (Go.bits .and .u64 a0 6148914691236517205))) 3689348814741910323))))) 1085102592571150095) + ((Go.bits .and .u64 (IntKind.u64.wrap (((IntKind.u64.wrap ((Go.bits .and .u64 ((IntKind.u64.wrap ((Go.bits .and .u64 (a0 / 2) 6148914691236517205) + (Go.bits .and .u64 a0 6148914691236517205))) / 4) 3689348814741910323) + (Go.bits .and .u64 (IntKind.u64.wrap ((Go.bits .and .u64 (a0 / 2) 6148914691236517205) + (Go.bits .and .u64 a0 6148914691236517205))) 3689348814741910323))) / 16) + (IntKind.u64.wrap ((Go.bits .and .u64 ((IntKind.u64.wrap ((Go.bits .and .u64 (a0 / 2) 6148914691236517205) + (Go.bits .and .u64 a0 6148914691236517205))) / 4) 3689348814741910323) + (Go.bits .and .u64 (IntKind.u64.wrap ((Go.bits .and .u64 (a0 / 2) 6148914691236517205) + (Go.bits .and .u64 a0 6148914691236517205))) 3689348814741910323))))) 1085102592571150095) / 256))) / 65536))) + ((IntKind.u64.wrap ((IntKind.u64.wrap ((Go.bits .and .u64 (IntKind.u64.wrap (((IntKind.u64.wrap ((Go.bits .and .u64 ((IntKind.u64.wrap ((Go.bits .and .u64 (a0 / 2) 6148914691236517205) + (Go.bits .and .u64 a0 6148914691236517205))) / 4) 3689348814741910323) + (Go.bits .and .u64 (IntKind.u64.wrap ((Go.bits .and .u64 (a0 / 2) 6148914691236517205) + (Go.bits .and .u64 a0 6148914691236517205))) 3689348814741910323))) / 16) + (IntKind.u64.wrap ((Go.bits .and .u64 ((IntKind.u64.wrap ((Go.bits .and .u64 (a0 / 2) 6148914691236517205) + (Go.bits .and .u64 a0 6148914691236517205))) / 4) 3689348814741910323) + (Go.bits .and .u64 (IntKind.u64.wrap ((Go.bits .and .u64 (a0 / 2) 6148914691236517205) + (Go.bits .and .u64 a0 6148914691236517205))) 3689348814741910323))))) 1085102592571150095) + ((Go.bits .and .u64 (IntKind.u64.wrap (((IntKind.u64.wrap ((Go.bits .and .u64 ((IntKind.u64.wrap ((Go.bits .and .u64 (a0 / 2) 6148914691236517205) + (Go.bits .and .u64 a0 6148914691236517205))) / 4) 3689348814741910323) + (Go.bits .and .u64 (IntKind.u64.wrap ((Go.bits .and .u64 (a0 / 2) 6148914691236517205) + (Go.bits .and .u64 a0 6148914691236517205))) 3689348814741910323))) / 16) + (IntKind.u64.wrap ((Go.bits .and .u64 ((IntKind.u64.wrap ((Go.bits .and .u64 (a0 / 2) 6148914691236517205) + (Go.bits .and .u64 a0 6148914691236517205))) / 4) 3689348814741910323) + (Go.bits .and .u64 (IntKind.u64.wrap ((Go.bits .and .u64 (a0 / 2) 6148914691236517205) + (Go.bits .and .u64 a0 6148914691236517205))) 3689348814741910323))))) 1085102592571150095) / 256))) + ((IntKind.u64.wrap ((Go.bits .and .u64 (IntKind.u64.wrap (((IntKind.u64.wrap ((Go.bits .and .u64 ((IntKind.u64.wrap ((Go.bits .and .u64 (a0 / 2) 6148914691236517205) + (Go.bits .and .u64 a0 6148914691236517205))) / 4) 3689348814741910323) + (Go.bits .and .u64 (IntKind.u64.wrap ((Go.bits .and .u64 (a0 / 2) 6148914691236517205) + (Go.bits .and .u64 a0 6148914691236517205))) 3689348814741910323))) / 16) + (IntKind.u64.wrap ((Go.bits .and .u64 ((IntKind.u64.wrap ((Go.bits .and .u64 (a0 / 2) 6148914691236517205) + (Go.bits .and .u64 a0 6148914691236517205))) / 4) 3689348814741910323) + (Go.bits .and .u64 (IntKind.u64.wrap ((Go.bits .and .u64 (a0 / 2) 6148914691236517205) + (Go.bits .and .u64 a0 6148914691236517205))) 3689348814741910323))))) 1085102592571150095) + ((Go.bits .and .u64 (IntKind.u64.wrap (((IntKind.u64.wrap ((Go.bits .and .u64 ((IntKind.u64.wrap ((Go.bits .and .u64 (a0 / 2) 6148914691236517205) + (Go.bits .and .u64 a0 6148914691236517205))) / 4) 3689348814741910323) + (Go.bits .and .u64 (IntKind.u64.wrap ((Go.bits .and .u64 (a0 / 2) 6148914691236517205) + (Go.bits .and .u64 a0 6148914691236517205))) 3689348814741910323))) / 16) + (IntKind.u64.wrap ((Go.bits .and .u64 ((IntKind.u64.wrap ((Go.bits .and .u64 (a0 / 2) 6148914691236517205) + (Go.bits .and .u64 a0 6148914691236517205))) / 4) 3689348814741910323) + (Go.bits .and .u64 (IntKind.u64.wrap ((Go.bits .and .u64 (a0 / 2) 6148914691236517205) + (Go.bits .and .u64 a0 6148914691236517205))) 3689348814741910323))))) 1085102592571150095) / 256))) / 65536))) / 4294967296)))) 127)
set_option maxHeartbeats 8000000 in
set_option maxRecDepth 100000 in
theorem bits_OnesCount64.calls (a0 : Int) (r : Int) (w : World) (h : bits_OnesCount64.f a0 = some r) :
  Calls Try.prog 174 #[.int .u64 a0] w fun e w' => e = .returned (.int .i64 r) ∧ Drawn0 w w' := by
 have H : (some (Go.bits .and .i64 (wrap64 (IntKind.u64.wrap ((IntKind.u64.wrap ((IntKind.u64.wrap ((Go.bits .and .u64 (IntKind.u64.wrap (((IntKind.u64.wrap ((Go.bits .and .u64 ((IntKind.u64.wrap ((Go.bits .and .u64 (a0 / 2) 6148914691236517205) + (Go.bits .and .u64 a0 6148914691236517205))) / 4) 3689348814741910323) + (Go.bits .and .u64 (IntKind.u64.wrap ((Go.bits .and .u64 (a0 / 2) 6148914691236517205) + (Go.bits .and .u64 a0 6148914691236517205))) 3689348814741910323))) / 16) + (IntKind.u64.wrap ((Go.bits .and .u64 ((IntKind.u64.wrap ((Go.bits .and .u64 (a0 / 2) 6148914691236517205) + (Go.bits .and .u64 a0 6148914691236517205))) / 4) 3689348814741910323) + (Go.bits .and .u64 (IntKind.u64.wrap ((Go.bits .and .u64 (a0 / 2) 6148914691236517205) + (Go.bits .and .u64 a0 6148914691236517205))) 3689348814741910323))))) 1085102592571150095) + ((Go.bits .and .u64 (IntKind.u64.wrap (((IntKind.u64.wrap ((Go.bits .and .u64 ((IntKind.u64.wrap ((Go.bits .and .u64 (a0 / 2) 6148914691236517205) + (Go.bits .and .u64 a0 6148914691236517205))) / 4) 3689348814741910323) + (Go.bits .and .u64 (IntKind.u64.wrap ((Go.bits .and .u64 (a0 / 2) 6148914691236517205) + (Go.bits .and .u64 a0 6148914691236517205))) 3689348814741910323))) / 16) + (IntKind.u64.wrap ((Go.bits .and .u64 ((IntKind.u64.wrap ((Go.bits .and .u64 (a0 / 2) 6148914691236517205) + (Go.bits .and .u64 a0 6148914691236517205))) / 4) 3689348814741910323) + (Go.bits .and .u64 (IntKind.u64.wrap ((Go.bits .and .u64 (a0 / 2) 6148914691236517205) + (Go.bits .and .u64 a0 6148914691236517205))) 3689348814741910323))))) 1085102592571150095) / 256))) + ((IntKind.u64.wrap ((Go.bits .and .u64 (IntKind.u64.wrap (((IntKind.u64.wrap ((Go.bits .and .u64 ((IntKind.u64.wrap ((Go.bits .and .u64 (a0 / 2) 6148914691236517205) + (Go.bits .and .u64 a0 6148914691236517205))) / 4) 3689348814741910323) + (Go.bits .and .u64 (IntKind.u64.wrap ((Go.bits .and .u64 (a0 / 2) 6148914691236517205) + (Go.bits .and .u64 a0 6148914691236517205))) 3689348814741910323))) / 16) + (IntKind.u64.wrap ((Go.bits .and .u64 ((IntKind.u64.wrap ((Go.bits .and .u64 (a0 / 2) 6148914691236517205) + (Go.bits .and .u64 a0 6148914691236517205))) / 4) 3689348814741910323) + (Go.bits .and .u64 (IntKind.u64.wrap ((Go.bits .and .u64 (a0 / 2) 6148914691236517205) + (Go.bits .and .u64 a0 6148914691236517205))) 3689348814741910323))))) 1085102592571150095) + ((Go.bits .and .u64 (IntKind.u64.wrap (((IntKind.u64.wrap ((Go.bits .and .u64 ((IntKind.u64.wrap ((Go.bits .and .u64 (a0 / 2) 6148914691236517205) + (Go.bits .and .u64 a0 6148914691236517205))) / 4) 3689348814741910323) + (Go.bits .and .u64 (IntKind.u64.wrap ((Go.bits .and .u64 (a0 / 2) 6148914691236517205) + (Go.bits .and .u64 a0 6148914691236517205))) 3689348814741910323))) / 16) + (IntKind.u64.wrap ((Go.bits .and .u64 ((IntKind.u64.wrap ((Go.bits .and .u64 (a0 / 2) 6148914691236517205) + (Go.bits .and .u64 a0 6148914691236517205))) / 4) 3689348814741910323) + (Go.bits .and .u64 (IntKind.u64.wrap ((Go.bits .and .u64 (a0 / 2) 6148914691236517205) + (Go.bits .and .u64 a0 6148914691236517205))) 3689348814741910323))))) 1085102592571150095) / 256))) / 65536))) + ((IntKind.u64.wrap ((IntKind.u64.wrap ((Go.bits .and .u64 (IntKind.u64.wrap (((IntKind.u64.wrap ((Go.bits .and .u64 ((IntKind.u64.wrap ((Go.bits .and .u64 (a0 / 2) 6148914691236517205) + (Go.bits .and .u64 a0 6148914691236517205))) / 4) 3689348814741910323) + (Go.bits .and .u64 (IntKind.u64.wrap ((Go.bits .and .u64 (a0 / 2) 6148914691236517205) + (Go.bits .and .u64 a0 6148914691236517205))) 3689348814741910323))) / 16) + (IntKind.u64.wrap ((Go.bits .and .u64 ((IntKind.u64.wrap ((Go.bits .and .u64 (a0 / 2) 6148914691236517205) + (Go.bits .and .u64 a0 6148914691236517205))) / 4) 3689348814741910323) + (Go.bits .and .u64 (IntKind.u64.wrap ((Go.bits .and .u64 (a0 / 2) 6148914691236517205) + (Go.bits .and .u64 a0 6148914691236517205))) 3689348814741910323))))) 1085102592571150095) + ((Go.bits .and .u64 (IntKind.u64.wrap (((IntKind.u64.wrap ((Go.bits .and .u64 ((IntKind.u64.wrap ((Go.bits .and .u64 (a0 / 2) 6148914691236517205) + (Go.bits .and .u64 a0 6148914691236517205))) / 4) 3689348814741910323) + (Go.bits .and .u64 (IntKind.u64.wrap ((Go.bits .and .u64 (a0 / 2) 6148914691236517205) + (Go.bits .and .u64 a0 6148914691236517205))) 3689348814741910323))) / 16) + (IntKind.u64.wrap ((Go.bits .and .u64 ((IntKind.u64.wrap ((Go.bits .and .u64 (a0 / 2) 6148914691236517205) + (Go.bits .and .u64 a0 6148914691236517205))) / 4) 3689348814741910323) + (Go.bits .and .u64 (IntKind.u64.wrap ((Go.bits .and .u64 (a0 / 2) 6148914691236517205) + (Go.bits .and .u64 a0 6148914691236517205))) 3689348814741910323))))) 1085102592571150095) / 256))) + ((IntKind.u64.wrap ((Go.bits .and .u64 (IntKind.u64.wrap (((IntKind.u64.wrap ((Go.bits .and .u64 ((IntKind.u64.wrap ((Go.bits .and .u64 (a0 / 2) 6148914691236517205) + (Go.bits .and .u64 a0 6148914691236517205))) / 4) 3689348814741910323) + (Go.bits .and .u64 (IntKind.u64.wrap ((Go.bits .and .u64 (a0 / 2) 6148914691236517205) + (Go.bits .and .u64 a0 6148914691236517205))) 3689348814741910323))) / 16) + (IntKind.u64.wrap ((Go.bits .and .u64 ((IntKind.u64.wrap ((Go.bits .and .u64 (a0 / 2) 6148914691236517205) + (Go.bits .and .u64 a0 6148914691236517205))) / 4) 3689348814741910323) + (Go.bits .and .u64 (IntKind.u64.wrap ((Go.bits .and .u64 (a0 / 2) 6148914691236517205) + (Go.bits .and .u64 a0 6148914691236517205))) 3689348814741910323))))) 1085102592571150095) + ((Go.bits .and .u64 (IntKind.u64.wrap (((IntKind.u64.wrap ((Go.bits .and .u64 ((IntKind.u64.wrap ((Go.bits .and .u64 (a0 / 2) 6148914691236517205) + (Go.bits .and .u64 a0 6148914691236517205))) / 4) 3689348814741910323) + (Go.bits .and .u64 (IntKind.u64.wrap ((Go.bits .and .u64 (a0 / 2) 6148914691236517205) + (Go.bits .and .u64 a0 6148914691236517205))) 3689348814741910323))) / 16) + (IntKind.u64.wrap ((Go.bits .and .u64 ((IntKind.u64.wrap ((Go.bits .and .u64 (a0 / 2) 6148914691236517205) + (Go.bits .and .u64 a0 6148914691236517205))) / 4) 3689348814741910323) + (Go.bits .and .u64 (IntKind.u64.wrap ((Go.bits .and .u64 (a0 / 2) 6148914691236517205) + (Go.bits .and .u64 a0 6148914691236517205))) 3689348814741910323))))) 1085102592571150095) / 256))) / 65536))) / 4294967296)))) 127)) = some r := h
 clear h
 obtain rfl := Option.some.inj H
 go_enter Try.func174, Try.ntmps174
 go_wp2
 go_ret
 exact ⟨by first | rfl | (simp; done) | (simp [*]; done), by repeat (first | exact Drawn0.refl _ | apply Drawn0.step)⟩
def impl_size.f (a0 : Int) : Option (Int) := (bits_OnesCount64.f (IntKind.u64.wrap (a0))).bind fun t101 => (some t101)
set_option maxHeartbeats 8000000 in
set_option maxRecDepth 100000 in
theorem impl_size.calls (a0 : Int) (r : Int) (w : World) (h : impl_size.f a0 = some r) :
  Calls Try.prog 136 #[.int .i64 a0] w fun e w' => e = .returned (.int .i64 r) ∧ Drawn0 w w' := by
 have H : ((bits_OnesCount64.f (IntKind.u64.wrap (a0))).bind fun t101 => (some t101)) = some r := h
 clear h
 replace H := Option.bind_eq_some_iff.mp H
 obtain ⟨t101, A20, H⟩ := H
 try dsimp only at H
 have A2 := Aside0.mk A20
 clear A20
 obtain rfl := Option.some.inj H
 go_enter Try.func136, Try.ntmps136
 go_wp2_with (first | ((with_reducible refine gate_callee (f := 174) rfl ?_); refine cl_ (some 5) Try.func174 #[.int .u64 (IntKind.u64.wrap (a0))] ?_; (with_reducible refine (bits_OnesCount64.calls (IntKind.u64.wrap (a0)) t101 _ A2.out).mono ?_); rintro e w' ⟨rfl, ⟨nd, rfl⟩⟩; refine ⟨_, rfl, ?_⟩))
 go_ret
 exact ⟨by first | rfl | (simp; done) | (simp [*]; done), by repeat (first | exact Drawn0.refl _ | apply Drawn0.step)⟩
def impl_isNext_1_1.f (a0 : Int) (a1_0 : Int) (a2_0 : Int) : Option (Bool) := (impl_isIn.f (Go.bits .and .i64 a1_0 a2_0) a0).bind fun t104 => (some t104)
set_option maxHeartbeats 8000000 in
set_option maxRecDepth 100000 in
theorem impl_isNext_1_1.calls (a0 : Int) (g1 : Nat) (a1_0 : Int) (g2 : Nat) (a2_0 : Int) (r : Bool) (w : World) (hb1 : w.heap[g1]? = some (.cells #[.int .i64 a1_0] 2 (0, 0))) (hb2 : w.heap[g2]? = some (.cells #[.int .i64 a2_0] 2 (0, 0))) (h : impl_isNext_1_1.f a0 a1_0 a2_0 = some r) :
  Calls Try.prog 138 #[.int .i64 a0, .pointer (some ⟨g1, 0, none⟩), .pointer (some ⟨g2, 0, none⟩)] w fun e w' => e = .returned (.bool r) ∧ Below w.heap.size w w' := by
 have BK102 := Aside0.mk hb1
 clear hb1
 have BK103 := Aside0.mk hb2
 clear hb2
 have HB := Aside0.mk (Below.refl w.heap.size w)
 have H : ((impl_isIn.f (Go.bits .and .i64 a1_0 a2_0) a0).bind fun t104 => (some t104)) = some r := h
 clear h
 replace H := Option.bind_eq_some_iff.mp H
 obtain ⟨t104, A40, H⟩ := H
 try dsimp only at H
 have A4 := Aside0.mk A40
 clear A40
 obtain rfl := Option.some.inj H
 (try have hnb5 := NB102_103.out)
 (try have hnc5 := NB103_102.out)
 have hcz6_0 : w.cell? ⟨g1, 0, none⟩ = some (.int .i64 a1_0) := cB BK102 0
 have hfz6_0 := zB BK102 0
 have hcz7_0 : w.cell? ⟨g2, 0, none⟩ = some (.int .i64 a2_0) := cB BK103 0
 have hfz7_0 := zB BK103 0
 go_enter Try.func138, Try.ntmps138
 go_wp2_with (first | ((with_reducible refine gate_callee (f := 92) rfl ?_); refine cl_ (some 9) Try.func92 #[.int .i64 (Go.bits .and .i64 a1_0 a2_0), .int .i64 a0] ?_; (with_reducible refine (impl_isIn.calls (Go.bits .and .i64 a1_0 a2_0) a0 t104 _ A4.out).mono ?_); rintro e w8 ⟨rfl, hb⟩; refine ⟨_, rfl, ?_⟩; replace BK102 := sB BK102 hb; replace BK103 := sB BK103 hb; replace HB := sH HB hb; (try clear hb); (try clear hi)))
 go_ret
 exact ⟨by first | rfl | (simp [errW_none, errW_some] <;> rfl) | (simp [*, errW_none, errW_some] <;> rfl) | (exfalso; simp_all), pH HB⟩
def clo_138 (a1_0 : Int) (a2_0 : Int) : Pred := Pred.ofI (fun x => impl_isNext_1_1.f x a1_0 a2_0)
set_option maxRecDepth 100000 in
theorem clo_ok_138 {W : World} {g1 : Nat} {a1_0 : Int} {g2 : Nat} {a2_0 : Int} (hb1 : W.heap[g1]? = some (.cells #[.int .i64 a1_0] 2 (0, 0))) (hb2 : W.heap[g2]? = some (.cells #[.int .i64 a2_0] 2 (0, 0)))  : FnOk (.func (.func 138) #[] #[.pointer (some ⟨g1, 0, none⟩), .pointer (some ⟨g2, 0, none⟩)]) (clo_138 a1_0 a2_0) W :=
 FnOk.ofI (enters_of Try.func138 (by kernel_rfl) rfl) (fun V x b hV hr => by
  show Calls Try.prog 138 #[.int .i64 x, .pointer (some ⟨g1, 0, none⟩), .pointer (some ⟨g2, 0, none⟩)] V _
  exact (impl_isNext_1_1.calls x g1 a1_0 g2 a2_0 b V ((hV.block g1 (blk_lt hb1)).trans hb1) ((hV.block g2 (blk_lt hb2)).trans hb2) hr).mono (fun e w' h_ => ⟨h_.1, h_.2⟩))
def impl_isNext_1.f (a0 : Int) (l1_0 : List Int) (a2_0 : Int) : Option (Bool) := (slices_ContainsFunc_int64_int64.f l1_0 (clo_138 a2_0 a0)).bind fun t108 => (some t108)
set_option maxHeartbeats 8000000 in
set_option maxRecDepth 100000 in
theorem impl_isNext_1.calls (a0 : Int) (g1 : Nat) (A1_0 : Option Addr) (c1_0 : Nat) (l1_0 : List Int) (g2 : Nat) (a2_0 : Int) (r : Bool) (w : World) (hb1 : w.heap[g1]? = some (.cells #[.slice A1_0 l1_0.length c1_0] 22 (0, 0))) (hr1_0 : Kd.C (Kd.int .i64) w A1_0 l1_0.length l1_0) (hc1_0 : l1_0.length ≤ c1_0) (hb2 : w.heap[g2]? = some (.cells #[.int .i64 a2_0] 2 (0, 0))) (h : impl_isNext_1.f a0 l1_0 a2_0 = some r) :
  Calls Try.prog 137 #[.int .i64 a0, .pointer (some ⟨g1, 0, none⟩), .pointer (some ⟨g2, 0, none⟩)] w fun e w' => e = .returned (.bool r) ∧ Below w.heap.size w w' := by
 have HR1_0 := Aside0.mk hr1_0
 have HC1_0 := Aside0.mk hc1_0
 clear hr1_0 hc1_0
 have BK105 := Aside0.mk hb1
 clear hb1
 have BK106 := Aside0.mk hb2
 clear hb2
 have HB := Aside0.mk (Below.refl w.heap.size w)
 have H : ((slices_ContainsFunc_int64_int64.f l1_0 (clo_138 a2_0 a0)).bind fun t108 => (some t108)) = some r := h
 clear h
 replace H := Option.bind_eq_some_iff.mp H
 obtain ⟨t108, A40, H⟩ := H
 try dsimp only at H
 have A4 := Aside0.mk A40
 clear A40
 obtain rfl := Option.some.inj H
 go_enter Try.func137, Try.ntmps137
 go_wp2_with (first | ((with_reducible refine gate_dst (N := 3) rfl ?_); refine box_event ?hg (N := 3) ?hd (cs := #[.int .i64 a0]) (t := 2) ?hr ?_; (case hd => rfl); (case hg => rfl); (case hr => first | (go_simp; done) | (go_simp; rfl)); intro gb107 hg w5 hbox hb; have BK107 := Aside0.mk (hbox); have GW107 := gH HB hg; have GE107 := gH HB hg; replace HB := sH HB hb; have NB105_107 := nB BK105 hg; have NB107_105 := oB BK105 hg; replace BK105 := sB BK105 hb; have NB106_107 := nB BK106 hg; have NB107_106 := oB BK106 hg; replace BK106 := sB BK106 hb; clear hb hbox hg; (try have hnb6 := NB105_106.out); (try have hnc6 := NB106_105.out); (try have hnb7 := NB105_107.out); (try have hnc7 := NB107_105.out); have hcz8_0 : w5.cell? ⟨g1, 0, none⟩ = some (.slice A1_0 l1_0.length c1_0) := cB BK105 0; have hfz8_0 := zB BK105 0) | ((with_reducible refine gate_callee (f := 90) rfl ?_); refine cl_ (some 7) Try.func90 #[.slice A1_0 l1_0.length c1_0, .func (.func 138) #[] #[.pointer (some ⟨g2, 0, none⟩), .pointer (some ⟨gb107, 0, none⟩)]] ?_; (with_reducible refine (slices_ContainsFunc_int64_int64.calls _ _ l1_0 _ (clo_138 a2_0 a0) t108 _ ?side1 ?side2 ?side3 A4.out).mono ?_); (case side1 => exact pC ((Kd.C_below HR1_0.out HB.out))); (case side2 => exact HC1_0.out); (case side3 => exact clo_ok_138 (pB BK106) (pB BK107) ); rintro e w9 ⟨rfl, hb⟩; refine ⟨_, rfl, ?_⟩; replace BK105 := sB BK105 hb; replace BK106 := sB BK106 hb; replace BK107 := sB BK107 hb; replace HB := sH HB hb; (try clear hb); (try clear hi)))
 go_ret
 exact ⟨by first | rfl | (simp [errW_none, errW_some] <;> rfl) | (simp [*, errW_none, errW_some] <;> rfl) | (exfalso; simp_all), pH HB⟩
def clo_137 (l1_0 : List Int) (a2_0 : Int) : Pred := Pred.ofI (fun x => impl_isNext_1.f x l1_0 a2_0)
set_option maxRecDepth 100000 in
theorem clo_ok_137 {W : World} {g1 : Nat} {A1_0 : Option Addr} {c1_0 : Nat} {l1_0 : List Int} {g2 : Nat} {a2_0 : Int} (hb1 : W.heap[g1]? = some (.cells #[.slice A1_0 l1_0.length c1_0] 22 (0, 0))) (hb2 : W.heap[g2]? = some (.cells #[.int .i64 a2_0] 2 (0, 0))) (hr1_0 : Kd.C (Kd.int .i64) W A1_0 l1_0.length l1_0) (hc1_0 : l1_0.length ≤ c1_0) : FnOk (.func (.func 137) #[] #[.pointer (some ⟨g1, 0, none⟩), .pointer (some ⟨g2, 0, none⟩)]) (clo_137 l1_0 a2_0) W :=
 FnOk.ofI (enters_of Try.func137 (by kernel_rfl) rfl) (fun V x b hV hr => by
  show Calls Try.prog 137 #[.int .i64 x, .pointer (some ⟨g1, 0, none⟩), .pointer (some ⟨g2, 0, none⟩)] V _
  exact (impl_isNext_1.calls x g1 A1_0 c1_0 l1_0 g2 a2_0 b V ((hV.block g1 (blk_lt hb1)).trans hb1) (Kd.C_below hr1_0 hV) hc1_0 ((hV.block g2 (blk_lt hb2)).trans hb2) hr).mono (fun e w' h_ => ⟨h_.1, h_.2⟩))
def impl_isNext.l0 : Nat → List Int → List Int → Int → Int → Int → List Int → Option (Bool)
 | 0, _, _, _, _, _, _ => none
 | k + 1, x0, x8, x9, x10, x110000, x111000 => if x10 < x9 then (if 0 ≤ x10 then (if x10 < (x8.length : Int) then ((impl_size.f (Go.bits .and .i64 x110000 (rd x8 x10))).bind fun t113 => ((impl_size.f x110000).bind fun t114 => (if t113 = (wrap64 (t114 - 1)) then (if x111000.length < 17592186044416 then (impl_isNext.l0 k x0 x8 x9 (wrap64 (x10 + 1)) x110000 (x111000 ++ [Go.bits .and .i64 x110000 (rd x8 x10)])) else (none)) else (impl_isNext.l0 k x0 x8 x9 (wrap64 (x10 + 1)) x110000 x111000)))) else (none)) else (none)) else ((impl_areAll_int64.f x0 (clo_137 x111000 x110000)).bind fun t111 => (some t111))
def impl_isNext.f (k : Nat) (l0 : List Int) (a1 : Int) : Option (Bool) := impl_isNext.l0 k l0 l0 (l0.length : Int) 0 a1 ([] : List Int)
set_option maxHeartbeats 8000000 in
set_option maxRecDepth 100000 in
theorem impl_isNext.calls (k : Nat) (A0 : Option Addr) (c0 : Nat) (l0 : List Int) (a1 : Int) (r : Bool) (w : World) (hr0 : Kd.C (Kd.int .i64) w A0 l0.length l0) (hc0 : l0.length ≤ c0) (h : impl_isNext.f k l0 a1 = some r) :
  Calls Try.prog 86 #[.slice A0 l0.length c0, .int .i64 a1] w fun e w' => e = .returned (.bool r) ∧ Below w.heap.size w w' := by
 have HR0 := Aside0.mk hr0
 have HC0 := Aside0.mk hc0
 clear hr0 hc0
 have HB := Aside0.mk (Below.refl w.heap.size w)
 have H : (impl_isNext.l0 k l0 l0 (l0.length : Int) 0 a1 ([] : List Int)) = some r := h
 clear h
 have H' := Aside0.mk H
 clear H
 go_enter Try.func86, Try.ntmps86
 go_wp2_with (first | ((with_reducible refine gate_dst (N := 3) rfl ?_); refine box_event ?hg (N := 3) ?hd (cs := #[.int .i64 a1]) (t := 2) ?hr ?_; (case hd => rfl); (case hg => rfl); (case hr => first | (go_simp; done) | (go_simp; rfl)); intro gb109 hg w3 hbox hb; have BK109 := Aside0.mk (hbox); have GW109 := gH HB hg; have GE109 := gH HB hg; replace HB := sH HB hb; clear hb hbox hg) | ((with_reducible refine gate_dst (N := 5) rfl ?_); refine box_event ?hg (N := 5) ?hd (cs := #[.slice none 0 0]) (t := 22) ?hr ?_; (case hd => rfl); (case hg => rfl); (case hr => first | (go_simp; done) | (go_simp; rfl)); intro gb110 hg w4 hbox hb; have BK110 := Aside0.mk (hbox); have GW110 := gH HB hg; have GE110 := gH HB hg; replace HB := sH HB hb; have NB109_110 := nB BK109 hg; have NB110_109 := oB BK109 hg; replace BK109 := sB BK109 hb; clear hb hbox hg))
 repeat (go_quiet (first | ((with_reducible refine gate_dst (N := 3) rfl ?_); refine box_event ?hg (N := 3) ?hd (cs := #[.int .i64 a1]) (t := 2) ?hr ?_; (case hd => rfl); (case hg => rfl); (case hr => first | (go_simp; done) | (go_simp; rfl)); intro gb109 hg w3 hbox hb; have BK109 := Aside0.mk (hbox); have GW109 := gH HB hg; have GE109 := gH HB hg; replace HB := sH HB hb; clear hb hbox hg) | ((with_reducible refine gate_dst (N := 5) rfl ?_); refine box_event ?hg (N := 5) ?hd (cs := #[.slice none 0 0]) (t := 22) ?hr ?_; (case hd => rfl); (case hg => rfl); (case hr => first | (go_simp; done) | (go_simp; rfl)); intro gb110 hg w4 hbox hb; have BK110 := Aside0.mk (hbox); have GW110 := gH HB hg; have GE110 := gH HB hg; replace HB := sH HB hb; have NB109_110 := nB BK109 hg; have NB110_109 := oB BK109 hg; replace BK109 := sB BK109 hb; clear hb hbox hg)); try go_wp2_with (first | ((with_reducible refine gate_dst (N := 3) rfl ?_); refine box_event ?hg (N := 3) ?hd (cs := #[.int .i64 a1]) (t := 2) ?hr ?_; (case hd => rfl); (case hg => rfl); (case hr => first | (go_simp; done) | (go_simp; rfl)); intro gb109 hg w3 hbox hb; have BK109 := Aside0.mk (hbox); have GW109 := gH HB hg; have GE109 := gH HB hg; replace HB := sH HB hb; clear hb hbox hg) | ((with_reducible refine gate_dst (N := 5) rfl ?_); refine box_event ?hg (N := 5) ?hd (cs := #[.slice none 0 0]) (t := 22) ?hr ?_; (case hd => rfl); (case hg => rfl); (case hr => first | (go_simp; done) | (go_simp; rfl)); intro gb110 hg w4 hbox hb; have BK110 := Aside0.mk (hbox); have GW110 := gH HB hg; have GE110 := gH HB hg; replace HB := sH HB hb; have NB109_110 := nB BK109 hg; have NB110_109 := oB BK109 hg; replace BK109 := sB BK109 hb; clear hb hbox hg)))
 go_loopg [10] k (fun kq v10 w' => ∃ (x10_1 : Int) (x111000_1 : List Int) (u111000 : Value), v10 = .int .i64 x10_1 ∧ Aside0 (impl_isNext.l0 kq l0 l0 (l0.length : Int) x10_1 a1 x111000_1 = some r) ∧ Aside0 (kq ≤ k) ∧ Aside0 (Kd.R (Kd.int .i64) 2 w' w.heap.size (fun k_ => k_ ≠ gb109) u111000 x111000_1) ∧ Aside0 (w'.heap[gb109]? = some (.cells #[.int .i64 a1] 2 (0, 0))) ∧ Aside0 (w'.heap[gb110]? = some (.cells #[u111000] 22 (0, 0))) ∧ Aside0 (Below w.heap.size w w'))
 case atStart => exact ⟨(0), (([] : List Int)), (.slice none 0 0), (by first | rfl | (simp; done) | (simp [*]; done)), H', ⟨Nat.le_refl _⟩, ⟨by first | exact Kd.R_nil _ _ _ _ _ | exact Kd.N_nil _ _ _ _ _ | exact Kd.V_nil _ _ _ _ _ | exact Kd.Q_nil _ _ _ _ _ | exact Kd.S_nil _ _ _ _ _⟩, ⟨pB BK109⟩, ⟨pB BK110⟩, ⟨pH HB⟩⟩
 case round =>
  clear H'
  try clear p2
  obtain ⟨x10_1, x111000_1, u111000, rfl, HA, HK1, HO_111000, BK109, BK110, HB⟩ := hrel
  cases gk with
  | zero => exact absurd HA.out (by simp [impl_isNext.l0])
  | succ k1 =>
   have H := HA.out
   clear HA
   simp only [impl_isNext.l0] at H
   by_cases c5 : x10_1 < (l0.length : Int)
   ·rw [if_pos c5] at H
    have c5b0 : decide (x10_1 < (l0.length : Int)) = true := decide_eq_true c5
    clear c5
    by_cases c6 : 0 ≤ x10_1
    ·rw [if_pos c6] at H
     have c6b0 : decide (0 ≤ x10_1) = true := decide_eq_true c6
     clear c6
     by_cases c7 : x10_1 < (l0.length : Int)
     ·rw [if_pos c7] at H
      have c7b0 : decide (x10_1 < (l0.length : Int)) = true := decide_eq_true c7
      clear c7
      replace H := Option.bind_eq_some_iff.mp H
      obtain ⟨t113, A80, H⟩ := H
      try dsimp only at H
      have A8 := Aside0.mk A80
      clear A80
      replace H := Option.bind_eq_some_iff.mp H
      obtain ⟨t114, A90, H⟩ := H
      try dsimp only at H
      have A9 := Aside0.mk A90
      clear A90
      by_cases c10 : t113 = (wrap64 (t114 - 1))
      ·rw [if_pos c10] at H
       have c10b0 : (t113 == (wrap64 (t114 - 1))) = true := beq_iff_eq.mpr c10
       (try have c10b0w : (t113 == (IntKind.i64.wrap (t114 - 1))) = true := by (simp only [Go.IntWalk.i64_left]; exact c10b0))
       have c10b1 : (t113 != (wrap64 (t114 - 1))) = false := bne_eq_false_iff_eq.mpr c10
       (try have c10b1w : (t113 != (IntKind.i64.wrap (t114 - 1))) = false := by (simp only [Go.IntWalk.i64_left]; exact c10b1))
       clear c10
       by_cases c11 : x111000_1.length < 17592186044416
       ·rw [if_pos c11] at H
        have LMc11 := Aside0.mk c11
        clear c11
        obtain ⟨y115, hy115⟩ : ∃ y_ : List Int, y_ = (x111000_1 ++ [Go.bits .and .i64 a1 (rd l0 x10_1)]) := ⟨_, rfl⟩
        replace H : (impl_isNext.l0 k1 l0 l0 (l0.length : Int) (wrap64 (x10_1 + 1)) a1 y115) = some r := by first | (rw [hy115]; with_reducible exact H) | (have H2_ := (Option.bind_some _ _).symm.trans H; rw [hy115]; with_reducible exact H2_) | (have H2_ := (Option.bind_some _ _).symm.trans H; with_reducible exact H2_) | with_reducible exact H | (rw [hy115]; exact H) | exact H
        have Ny115 := Aside0.mk hy115
        clear hy115
        have H' := Aside0.mk H
        clear H
        have p112 : 0 ≤ (x10_1 : Int) := of_decide_eq_true (by first | (with_reducible assumption) | assumption)
        have q112 : x10_1 < (l0.length : Int) := of_decide_eq_true (by first | (with_reducible assumption) | assumption)
        obtain ⟨ad112, e112, hx112_0⟩ := Kd.at_int HR0.out x10_1 p112 q112
        cases e112
        replace hx112_0 := cH HB hx112_0
        replace p112 := eq_true p112
        replace q112 := eq_true q112
        (try have hnb12 := NB109_110.out)
        (try have hnc12 := NB110_109.out)
        have hcz13_0 : wr.cell? ⟨gb109, 0, none⟩ = some (.int .i64 a1) := cB BK109 0
        have hfz13_0 := zB BK109 0
        go_wp2_with (first | (go_at_call 136; (with_reducible refine (impl_size.calls (Go.bits .and .i64 a1 (rd l0 x10_1)) t113 _ A8.out).mono ?_); rintro e w' ⟨rfl, ⟨nd, rfl⟩⟩; (try first | exact ⟨rfl, _, World.drewN_drewN _ _ _⟩ | exact ⟨rfl, _, Eq.trans (World.drewN_drewN _ _ _) (congrArg (World.drewN _) (Nat.add_assoc _ _ _))⟩)) | (go_at_call 136; (with_reducible refine (impl_size.calls a1 t114 _ A9.out).mono ?_); rintro e w' ⟨rfl, ⟨nd, rfl⟩⟩; (try first | exact ⟨rfl, _, World.drewN_drewN _ _ _⟩ | exact ⟨rfl, _, Eq.trans (World.drewN_drewN _ _ _) (congrArg (World.drewN _) (Nat.add_assoc _ _ _))⟩); have hcz14_0 : wr.cell? ⟨gb110, 0, none⟩ = some (u111000) := cB BK110 0; have hfz14_0 := zB BK110 0) | ((with_reducible refine gate_builtin (b := .append) (xs := #[.tmp 22, .tmp 26]) rfl ?_); at_builtin; refine Kd.R_append (Kd.int .i64) (w0 := w) w.heap.size rfl (.tmp 22) (.tmp 26) 22 2 (.int .i64 0) 8 rfl Try.underlying22 info2 rfl (by decide) (by omega) u111000 x111000_1 (Go.bits .and .i64 a1 (rd l0 x10_1)) [.int .i64 (Go.bits .and .i64 a1 (rd l0 x10_1))] (fun k_ => k_ ≠ gb109) (fun _ => False) rfl rfl ?aP (fun _ hk => hk.elim) ?aF ?aO ?aB ?aS ?aL ?_; (case aP => exact rfl); (case aB => exact (pH HB)); (case aF => exact (fun k_ hk => Kd.freshB (g := gb109) (o := .cells #[.int .i64 a1] 2 (0, 0)) (pB BK109) k_ hk)); (case aO => exact (pR HO_111000)); (case aS => exact (below_size (pH HB))); (case aL => have := LMc11.out; omega); intro v116 w15 ho hb hg hat; rw [← Ny115.out] at ho; replace BK109 := Aside0.mk (blk_grown (g := gb109) (o := .cells #[.int .i64 a1] 2 (0, 0)) (pB BK109) hg (Kd.R_away HO_111000.out (fun _ hk => hk))); replace BK110 := Aside0.mk (blk_grown (g := gb110) (o := .cells #[u111000] 22 (0, 0)) (pB BK110) hg (Kd.R_ne HO_111000.out BK110.out (by decide))); replace HB := Aside0.mk (hb); have HO117 := Aside0.mk (ho); clear HO_111000; clear ho hb hg hat; obtain ⟨Ao16, co16, eo16⟩ := Kd.R_slice HO117.out; subst eo16; have hcz17_0 : w15.cell? ⟨gb110, 0, none⟩ = some (u111000) := cB BK110 0; have hfz17_0 := zB BK110 0))
        repeat (go_quiet (first | (go_at_call 136; (with_reducible refine (impl_size.calls (Go.bits .and .i64 a1 (rd l0 x10_1)) t113 _ A8.out).mono ?_); rintro e w' ⟨rfl, ⟨nd, rfl⟩⟩; (try first | exact ⟨rfl, _, World.drewN_drewN _ _ _⟩ | exact ⟨rfl, _, Eq.trans (World.drewN_drewN _ _ _) (congrArg (World.drewN _) (Nat.add_assoc _ _ _))⟩)) | (go_at_call 136; (with_reducible refine (impl_size.calls a1 t114 _ A9.out).mono ?_); rintro e w' ⟨rfl, ⟨nd, rfl⟩⟩; (try first | exact ⟨rfl, _, World.drewN_drewN _ _ _⟩ | exact ⟨rfl, _, Eq.trans (World.drewN_drewN _ _ _) (congrArg (World.drewN _) (Nat.add_assoc _ _ _))⟩); have hcz14_0 : wr.cell? ⟨gb110, 0, none⟩ = some (u111000) := cB BK110 0; have hfz14_0 := zB BK110 0) | ((with_reducible refine gate_builtin (b := .append) (xs := #[.tmp 22, .tmp 26]) rfl ?_); at_builtin; refine Kd.R_append (Kd.int .i64) (w0 := w) w.heap.size rfl (.tmp 22) (.tmp 26) 22 2 (.int .i64 0) 8 rfl Try.underlying22 info2 rfl (by decide) (by omega) u111000 x111000_1 (Go.bits .and .i64 a1 (rd l0 x10_1)) [.int .i64 (Go.bits .and .i64 a1 (rd l0 x10_1))] (fun k_ => k_ ≠ gb109) (fun _ => False) rfl rfl ?aP (fun _ hk => hk.elim) ?aF ?aO ?aB ?aS ?aL ?_; (case aP => exact rfl); (case aB => exact (pH HB)); (case aF => exact (fun k_ hk => Kd.freshB (g := gb109) (o := .cells #[.int .i64 a1] 2 (0, 0)) (pB BK109) k_ hk)); (case aO => exact (pR HO_111000)); (case aS => exact (below_size (pH HB))); (case aL => have := LMc11.out; omega); intro v116 w15 ho hb hg hat; rw [← Ny115.out] at ho; replace BK109 := Aside0.mk (blk_grown (g := gb109) (o := .cells #[.int .i64 a1] 2 (0, 0)) (pB BK109) hg (Kd.R_away HO_111000.out (fun _ hk => hk))); replace BK110 := Aside0.mk (blk_grown (g := gb110) (o := .cells #[u111000] 22 (0, 0)) (pB BK110) hg (Kd.R_ne HO_111000.out BK110.out (by decide))); replace HB := Aside0.mk (hb); have HO117 := Aside0.mk (ho); clear HO_111000; clear ho hb hg hat; obtain ⟨Ao16, co16, eo16⟩ := Kd.R_slice HO117.out; subst eo16; have hcz17_0 : w15.cell? ⟨gb110, 0, none⟩ = some (u111000) := cB BK110 0; have hfz17_0 := zB BK110 0)); try go_wp2_with (first | (go_at_call 136; (with_reducible refine (impl_size.calls (Go.bits .and .i64 a1 (rd l0 x10_1)) t113 _ A8.out).mono ?_); rintro e w' ⟨rfl, ⟨nd, rfl⟩⟩; (try first | exact ⟨rfl, _, World.drewN_drewN _ _ _⟩ | exact ⟨rfl, _, Eq.trans (World.drewN_drewN _ _ _) (congrArg (World.drewN _) (Nat.add_assoc _ _ _))⟩)) | (go_at_call 136; (with_reducible refine (impl_size.calls a1 t114 _ A9.out).mono ?_); rintro e w' ⟨rfl, ⟨nd, rfl⟩⟩; (try first | exact ⟨rfl, _, World.drewN_drewN _ _ _⟩ | exact ⟨rfl, _, Eq.trans (World.drewN_drewN _ _ _) (congrArg (World.drewN _) (Nat.add_assoc _ _ _))⟩); have hcz14_0 : wr.cell? ⟨gb110, 0, none⟩ = some (u111000) := cB BK110 0; have hfz14_0 := zB BK110 0) | ((with_reducible refine gate_builtin (b := .append) (xs := #[.tmp 22, .tmp 26]) rfl ?_); at_builtin; refine Kd.R_append (Kd.int .i64) (w0 := w) w.heap.size rfl (.tmp 22) (.tmp 26) 22 2 (.int .i64 0) 8 rfl Try.underlying22 info2 rfl (by decide) (by omega) u111000 x111000_1 (Go.bits .and .i64 a1 (rd l0 x10_1)) [.int .i64 (Go.bits .and .i64 a1 (rd l0 x10_1))] (fun k_ => k_ ≠ gb109) (fun _ => False) rfl rfl ?aP (fun _ hk => hk.elim) ?aF ?aO ?aB ?aS ?aL ?_; (case aP => exact rfl); (case aB => exact (pH HB)); (case aF => exact (fun k_ hk => Kd.freshB (g := gb109) (o := .cells #[.int .i64 a1] 2 (0, 0)) (pB BK109) k_ hk)); (case aO => exact (pR HO_111000)); (case aS => exact (below_size (pH HB))); (case aL => have := LMc11.out; omega); intro v116 w15 ho hb hg hat; rw [← Ny115.out] at ho; replace BK109 := Aside0.mk (blk_grown (g := gb109) (o := .cells #[.int .i64 a1] 2 (0, 0)) (pB BK109) hg (Kd.R_away HO_111000.out (fun _ hk => hk))); replace BK110 := Aside0.mk (blk_grown (g := gb110) (o := .cells #[u111000] 22 (0, 0)) (pB BK110) hg (Kd.R_ne HO_111000.out BK110.out (by decide))); replace HB := Aside0.mk (hb); have HO117 := Aside0.mk (ho); clear HO_111000; clear ho hb hg hat; obtain ⟨Ao16, co16, eo16⟩ := Kd.R_slice HO117.out; subst eo16; have hcz17_0 : w15.cell? ⟨gb110, 0, none⟩ = some (u111000) := cB BK110 0; have hfz17_0 := zB BK110 0)))
        go_roundg k1
        case measure => have := HK1.out; omega
        case rel => exact ⟨(wrap64 (x10_1 + 1)), (y115), (.slice Ao16 y115.length co16), (by first | rfl | (simp; done) | (simp [*]; done)), H', ⟨by have := HK1.out; omega⟩, ⟨by (with_reducible repeat (first | apply Kd.R_alloc | apply Kd.R_drewN | apply Kd.R_drew)); exact Kd.R_mono (Kd.R_far (p := ⟨gb110, 0, none⟩) (Kd.R_types HO117.out BK110.out (by decide)) (fun _ hk => hk.2) (.slice Ao16 y115.length co16)) (fun _ hk => hk.1)⟩, ⟨by (with_reducible repeat (first | refine blk_drewN ?_ _ | refine blk_drew ?_ | refine blk_alloc ?_ _)); refine blk_far ?_ NB109_110.out _; (with_reducible repeat (first | refine blk_drewN ?_ _ | refine blk_drew ?_ | refine blk_alloc ?_ _)); exact BK109.out⟩, ⟨by (with_reducible repeat (first | refine blk_drewN ?_ _ | refine blk_drew ?_ | refine blk_alloc ?_ _)); refine blk_put (cs := #[u111000]) ?_ 0 _ rfl; (with_reducible repeat (first | refine blk_drewN ?_ _ | refine blk_drew ?_ | refine blk_alloc ?_ _)); exact BK110.out⟩, ⟨pH HB⟩⟩
       ·rw [if_neg c11] at H
        exact absurd H (by simp)
      ·rw [if_neg c10] at H
       have c10b0 : (t113 == (wrap64 (t114 - 1))) = false := beq_eq_false_iff_ne.mpr c10
       (try have c10b0w : (t113 == (IntKind.i64.wrap (t114 - 1))) = false := by (simp only [Go.IntWalk.i64_left]; exact c10b0))
       have c10b1 : (t113 != (wrap64 (t114 - 1))) = true := bne_iff_ne.mpr c10
       (try have c10b1w : (t113 != (IntKind.i64.wrap (t114 - 1))) = true := by (simp only [Go.IntWalk.i64_left]; exact c10b1))
       have H' := Aside0.mk H
       clear H
       have p112 : 0 ≤ (x10_1 : Int) := of_decide_eq_true (by first | (with_reducible assumption) | assumption)
       have q112 : x10_1 < (l0.length : Int) := of_decide_eq_true (by first | (with_reducible assumption) | assumption)
       obtain ⟨ad112, e112, hx112_0⟩ := Kd.at_int HR0.out x10_1 p112 q112
       cases e112
       replace hx112_0 := cH HB hx112_0
       replace p112 := eq_true p112
       replace q112 := eq_true q112
       (try have hnb18 := NB109_110.out)
       (try have hnc18 := NB110_109.out)
       have hcz19_0 : wr.cell? ⟨gb109, 0, none⟩ = some (.int .i64 a1) := cB BK109 0
       have hfz19_0 := zB BK109 0
       go_wp2_with (first | (go_at_call 136; (with_reducible refine (impl_size.calls (Go.bits .and .i64 a1 (rd l0 x10_1)) t113 _ A8.out).mono ?_); rintro e w' ⟨rfl, ⟨nd, rfl⟩⟩; (try first | exact ⟨rfl, _, World.drewN_drewN _ _ _⟩ | exact ⟨rfl, _, Eq.trans (World.drewN_drewN _ _ _) (congrArg (World.drewN _) (Nat.add_assoc _ _ _))⟩)) | (go_at_call 136; (with_reducible refine (impl_size.calls a1 t114 _ A9.out).mono ?_); rintro e w' ⟨rfl, ⟨nd, rfl⟩⟩; (try first | exact ⟨rfl, _, World.drewN_drewN _ _ _⟩ | exact ⟨rfl, _, Eq.trans (World.drewN_drewN _ _ _) (congrArg (World.drewN _) (Nat.add_assoc _ _ _))⟩)))
       repeat (go_quiet (first | (go_at_call 136; (with_reducible refine (impl_size.calls (Go.bits .and .i64 a1 (rd l0 x10_1)) t113 _ A8.out).mono ?_); rintro e w' ⟨rfl, ⟨nd, rfl⟩⟩; (try first | exact ⟨rfl, _, World.drewN_drewN _ _ _⟩ | exact ⟨rfl, _, Eq.trans (World.drewN_drewN _ _ _) (congrArg (World.drewN _) (Nat.add_assoc _ _ _))⟩)) | (go_at_call 136; (with_reducible refine (impl_size.calls a1 t114 _ A9.out).mono ?_); rintro e w' ⟨rfl, ⟨nd, rfl⟩⟩; (try first | exact ⟨rfl, _, World.drewN_drewN _ _ _⟩ | exact ⟨rfl, _, Eq.trans (World.drewN_drewN _ _ _) (congrArg (World.drewN _) (Nat.add_assoc _ _ _))⟩))); try go_wp2_with (first | (go_at_call 136; (with_reducible refine (impl_size.calls (Go.bits .and .i64 a1 (rd l0 x10_1)) t113 _ A8.out).mono ?_); rintro e w' ⟨rfl, ⟨nd, rfl⟩⟩; (try first | exact ⟨rfl, _, World.drewN_drewN _ _ _⟩ | exact ⟨rfl, _, Eq.trans (World.drewN_drewN _ _ _) (congrArg (World.drewN _) (Nat.add_assoc _ _ _))⟩)) | (go_at_call 136; (with_reducible refine (impl_size.calls a1 t114 _ A9.out).mono ?_); rintro e w' ⟨rfl, ⟨nd, rfl⟩⟩; (try first | exact ⟨rfl, _, World.drewN_drewN _ _ _⟩ | exact ⟨rfl, _, Eq.trans (World.drewN_drewN _ _ _) (congrArg (World.drewN _) (Nat.add_assoc _ _ _))⟩))))
       go_roundg k1
       case measure => have := HK1.out; omega
       case rel => exact ⟨(wrap64 (x10_1 + 1)), (x111000_1), (u111000), (by first | rfl | (simp; done) | (simp [*]; done)), H', ⟨by have := HK1.out; omega⟩, ⟨by (with_reducible repeat (first | apply Kd.R_alloc | apply Kd.R_drewN | apply Kd.R_drew)); exact HO_111000.out⟩, ⟨pB BK109⟩, ⟨pB BK110⟩, ⟨pH HB⟩⟩
     ·rw [if_neg c7] at H
      exact absurd H (by simp)
    ·rw [if_neg c6] at H
     exact absurd H (by simp)
   ·rw [if_neg c5] at H
    have c5b0 : decide (x10_1 < (l0.length : Int)) = false := decide_eq_false c5
    clear c5
    replace H := Option.bind_eq_some_iff.mp H
    obtain ⟨t111, A200, H⟩ := H
    try dsimp only at H
    have A20 := Aside0.mk A200
    clear A200
    obtain rfl := Option.some.inj H
    obtain ⟨Ao21, co21, eo21⟩ := Kd.R_slice HO_111000.out
    subst eo21
    go_wp2_with (first | (go_at_call 57; (with_reducible refine (impl_areAll_int64.calls _ _ l0 _ (clo_137 x111000_1 a1) t111 _ ?side1 ?side2 ?side3 A20.out).mono ?_); (case side1 => exact pC ((Kd.C_below HR0.out HB.out))); (case side2 => exact HC0.out); (case side3 => exact clo_ok_137 (pB BK110) (pB BK109) (by exact pC ((Kd.R_reads' HO_111000.out).2.2)) (by exact (Kd.R_reads' HO_111000.out).2.1)); rintro e w22 ⟨rfl, hb⟩; replace HO_111000 := sR HO_111000 hb; replace BK109 := sB BK109 hb; replace BK110 := sB BK110 hb; replace HB := sH HB hb; (try clear hb); (try clear hi)))
    repeat (go_quiet (first | (go_at_call 57; (with_reducible refine (impl_areAll_int64.calls _ _ l0 _ (clo_137 x111000_1 a1) t111 _ ?side1 ?side2 ?side3 A20.out).mono ?_); (case side1 => exact pC ((Kd.C_below HR0.out HB.out))); (case side2 => exact HC0.out); (case side3 => exact clo_ok_137 (pB BK110) (pB BK109) (by exact pC ((Kd.R_reads' HO_111000.out).2.2)) (by exact (Kd.R_reads' HO_111000.out).2.1)); rintro e w22 ⟨rfl, hb⟩; replace HO_111000 := sR HO_111000 hb; replace BK109 := sB BK109 hb; replace BK110 := sB BK110 hb; replace HB := sH HB hb; (try clear hb); (try clear hi))); try go_wp2_with (first | (go_at_call 57; (with_reducible refine (impl_areAll_int64.calls _ _ l0 _ (clo_137 x111000_1 a1) t111 _ ?side1 ?side2 ?side3 A20.out).mono ?_); (case side1 => exact pC ((Kd.C_below HR0.out HB.out))); (case side2 => exact HC0.out); (case side3 => exact clo_ok_137 (pB BK110) (pB BK109) (by exact pC ((Kd.R_reads' HO_111000.out).2.2)) (by exact (Kd.R_reads' HO_111000.out).2.1)); rintro e w22 ⟨rfl, hb⟩; replace HO_111000 := sR HO_111000 hb; replace BK109 := sB BK109 hb; replace BK110 := sB BK110 hb; replace HB := sH HB hb; (try clear hb); (try clear hi))))
    go_ret
    exact ⟨by first | rfl | (simp [errW_none, errW_some] <;> rfl) | (simp [*, errW_none, errW_some] <;> rfl) | (exfalso; simp_all), pH HB⟩
end Go.Proofs.Ytomdfjohnmikdaa.QH
namespace Go.Proofs.Ytomdfjohnmikdaa.QS
open Go.Proofs.Ytomdfjohnmikdaa.Cw Go.Proofs.Ytomdfjohnmikdaa.Kp Go.Proofs.Ytomdfjohnmikdaa.Ext Go.RowKit Go.Proofs.YtomdfjohnmikdaaW.PrintWords Go.Proofs.YtomdfjohnmikdaaW.PrintLast Go.Proofs.YtomdfjohnmikdaaW.PrintMore
attribute [local go_sem] max2_int min2_int max_two min_two max_three min_three max_four min_four   -- for this text's walks alone
set_option linter.unusedVariables false
set_option linter.unusedSimpArgs false
mutual
def spec_l07Goes.l0 : Nat → List Int → Int → Int → Int → Option (Bool × Int)
 | 0, _, _, _, _ => none
 | k + 1, x0, x1, x6, x7 => if x7 < 6 then (if 0 ≤ (IntKind.u64.wrap (x7)) then (if (Go.bits .and .i64 x1 (shl .i64 1 (IntKind.u64.wrap (x7)))) = 0 then (spec_l07Goes.l0 k x0 x1 x6 (wrap64 (x7 + 1))) else (spec_l07Goes.l1 k x0 x1 x6 x7 (shl .i64 1 (IntKind.u64.wrap (x7))) 0)) else (none)) else (spec_l07Goes.l2 k x0 x6 0)
def spec_l07Goes.l1 : Nat → List Int → Int → Int → Int → Int → Int → Option (Bool × Int)
 | 0, _, _, _, _, _, _ => none
 | k + 1, x0, x1, x6, x7, x8, x9 => if x9 < (x0.length : Int) then (if 0 ≤ x9 then (if (Go.bits .and .i64 (rd x0 x9) (wrap64 (x1 - x8))) = (wrap64 (x1 - x8)) then (spec_l07Goes.l1 k x0 x1 (Go.bits .or .i64 x6 x8) x7 x8 (wrap64 (x9 + 1))) else (spec_l07Goes.l1 k x0 x1 x6 x7 x8 (wrap64 (x9 + 1)))) else (none)) else (spec_l07Goes.l0 k x0 x1 x6 (wrap64 (x7 + 1)))
def spec_l07Goes.l2 : Nat → List Int → Int → Int → Option (Bool × Int)
 | 0, _, _, _ => none
 | k + 1, x0, x6, x10 => if x10 < (x0.length : Int) then (if 0 ≤ x10 then (if (Go.bits .and .i64 (rd x0 x10) x6) = x6 then (some (false, x6)) else (spec_l07Goes.l2 k x0 x6 (wrap64 (x10 + 1)))) else (none)) else (some (true, x6))
end
def spec_l07Goes.f (k : Nat) (l0 : List Int) (a1 : Int) : Option (Bool × Int) := spec_l07Goes.l0 k l0 a1 0 0
set_option maxHeartbeats 8000000 in
set_option maxRecDepth 100000 in
theorem spec_l07Goes.calls (k : Nat) (A0 : Option Addr) (c0 : Nat) (l0 : List Int) (a1 : Int) (r1 : Bool) (r2 : Int) (w : World) (hr0 : Kd.C (Kd.int .i64) w A0 l0.length l0) (hc0 : l0.length ≤ c0) (h : spec_l07Goes.f k l0 a1 = some (r1, r2)) :
  Calls Try.prog 131 #[.slice A0 l0.length c0, .int .i64 a1] w fun e w' => e = .returned (.tuple #[.bool r1, .int .i64 r2]) ∧ Drawn0 w w' := by
 have HR0 := Aside0.mk hr0
 have HC0 := Aside0.mk hc0
 clear hr0 hc0
 have H : (spec_l07Goes.l0 k l0 a1 0 0) = some (r1, r2) := h
 clear h
 have H' := Aside0.mk H
 clear H
 go_enter Try.func131, Try.ntmps131
 go_wp2
 go_loopg [6, 7] k (fun kq v6 v7 w' => ∃ (x6_1 : Int) (x7_1 : Int), v6 = .int .i64 x6_1 ∧ v7 = .int .i64 x7_1 ∧ Aside0 (spec_l07Goes.l0 kq l0 a1 x6_1 x7_1 = some (r1, r2)) ∧ Aside0 (kq ≤ k) ∧ Drawn0 w w')
 case atStart => exact ⟨(0), (0), (by first | rfl | (simp; done) | (simp [*]; done)), (by first | rfl | (simp; done) | (simp [*]; done)), H', ⟨Nat.le_refl _⟩, by repeat (first | exact Drawn0.refl _ | apply Drawn0.step)⟩
 case round =>
  clear H'
  try clear c1
  try clear p2
  obtain ⟨x6_1, x7_1, rfl, rfl, HA, HK1, ⟨m1, rfl⟩⟩ := hrel
  cases gk with
  | zero => exact absurd HA.out (by simp [spec_l07Goes.l0])
  | succ k1 =>
   have H := HA.out
   clear HA
   simp only [spec_l07Goes.l0] at H
   by_cases c3 : x7_1 < 6
   ·rw [if_pos c3] at H
    have c3b0 : decide (x7_1 < 6) = true := decide_eq_true c3
    clear c3
    obtain ⟨ji4, hji4⟩ : ∃ j_ : Int, (IntKind.u64.wrap (x7_1)) = j_ := ⟨_, rfl⟩
    replace H : (if 0 ≤ (ji4) then (if (Go.bits .and .i64 a1 (shl .i64 1 (ji4))) = 0 then (spec_l07Goes.l0 k1 l0 a1 x6_1 (wrap64 (x7_1 + 1))) else (spec_l07Goes.l1 k1 l0 a1 x6_1 x7_1 (shl .i64 1 (ji4)) 0)) else (none)) = some (r1, r2) := by first | (rw [hji4] at H; exact H) | (simp only [hji4] at H ⊢; exact H)
    by_cases c5 : 0 ≤ (ji4)
    ·rw [if_pos c5] at H
     have c5b0 := eq_true c5
     have c5b1 : decide (0 ≤ (ji4)) = true := decide_eq_true c5
     clear c5
     obtain ⟨ji6, hji6⟩ : ∃ j_ : Int, (shl .i64 1 (ji4)) = j_ := ⟨_, rfl⟩
     replace H : (if (Go.bits .and .i64 a1 (ji6)) = 0 then (spec_l07Goes.l0 k1 l0 a1 x6_1 (wrap64 (x7_1 + 1))) else (spec_l07Goes.l1 k1 l0 a1 x6_1 x7_1 ji6 0)) = some (r1, r2) := by first | (rw [hji6] at H; exact H) | (simp only [hji6] at H ⊢; exact H)
     have hji6_ : (IntKind.i64.wrap (1 * 2 ^ min (ji4).toNat 64)) = ji6 := hji6
     have hji6z : (ji4) ≤ 64 → (IntKind.i64.wrap (1 * 2 ^ (ji4).toNat)) = ji6 := shl_small hji6
     have hji6u : (IntKind.i64.wrap (2 ^ min (ji4).toNat 64)) = ji6 := by have h_ := hji6_; rw [Int.one_mul] at h_; exact h_
     have hji6v : (ji4) ≤ 64 → (IntKind.i64.wrap (2 ^ (ji4).toNat)) = ji6 := fun hle_ => by have h_ := hji6z hle_; rw [Int.one_mul] at h_; exact h_
     have hji6y : (wrap64 (1 * 2 ^ min (ji4).toNat 64)) = ji6 := (i64_w _).symm.trans hji6_
     have hji6x : (ji4) ≤ 64 → (wrap64 (1 * 2 ^ (ji4).toNat)) = ji6 := fun h_ => (i64_w _).symm.trans (hji6z h_)
     by_cases c7 : (Go.bits .and .i64 a1 (ji6)) = 0
     ·rw [if_pos c7] at H
      have c7b0 : ((Go.bits .and .i64 a1 (ji6)) == 0) = true := beq_iff_eq.mpr c7
      have c7b1 : ((Go.bits .and .i64 a1 (ji6)) != 0) = false := bne_eq_false_iff_eq.mpr c7
      clear c7
      have H' := Aside0.mk H
      clear H
      go_wp2
      go_roundg k1
      case measure => have := HK1.out; omega
      case rel => exact ⟨(x6_1), (wrap64 (x7_1 + 1)), (by first | rfl | (simp; done) | (simp [*]; done)), (by first | rfl | (simp; done) | (simp [*]; done)), H', ⟨by have := HK1.out; omega⟩, by repeat (first | exact Drawn0.refl _ | apply Drawn0.step)⟩
     ·rw [if_neg c7] at H
      have c7b0 : ((Go.bits .and .i64 a1 (ji6)) == 0) = false := beq_eq_false_iff_ne.mpr c7
      have c7b1 : ((Go.bits .and .i64 a1 (ji6)) != 0) = true := bne_iff_ne.mpr c7
      have H' := Aside0.mk H
      clear H
      go_wp2
      go_loopg [6, 9] k1 (fun kq v6 v9 w' => ∃ (x6_2 : Int) (x9_2 : Int), v6 = .int .i64 x6_2 ∧ v9 = .int .i64 x9_2 ∧ Aside0 (spec_l07Goes.l1 kq l0 a1 x6_2 x7_1 ji6 x9_2 = some (r1, r2)) ∧ Aside0 (kq ≤ k1) ∧ Drawn0 w w')
      case atStart => exact ⟨(x6_1), (0), (by first | rfl | (simp; done) | (simp [*]; done)), (by first | rfl | (simp; done) | (simp [*]; done)), H', ⟨Nat.le_refl _⟩, by repeat (first | exact Drawn0.refl _ | apply Drawn0.step)⟩
      case round =>
       clear H'
       try clear c1
       try clear p2
       try clear c3
       try clear c3b0
       try clear c5
       try clear c5b0
       try clear c5b1
       try clear p6
       try clear c7
       try clear c7b0
       try clear c7b1
       try clear p2
       obtain ⟨x6_2, x9_2, rfl, rfl, HA, HK2, ⟨m2, rfl⟩⟩ := hrel
       cases gk with
       | zero => exact absurd HA.out (by simp [spec_l07Goes.l1])
       | succ k2 =>
        have H := HA.out
        clear HA
        simp only [spec_l07Goes.l1] at H
        by_cases c8 : x9_2 < (l0.length : Int)
        ·rw [if_pos c8] at H
         have c8b0 : decide (x9_2 < (l0.length : Int)) = true := decide_eq_true c8
         clear c8
         by_cases c9 : 0 ≤ x9_2
         ·rw [if_pos c9] at H
          have c9b0 : decide (0 ≤ x9_2) = true := decide_eq_true c9
          clear c9
          by_cases c10 : (Go.bits .and .i64 (rd l0 x9_2) (wrap64 (a1 - ji6))) = (wrap64 (a1 - ji6))
          ·rw [if_pos c10] at H
           have c10b0 : ((Go.bits .and .i64 (rd l0 x9_2) (wrap64 (a1 - ji6))) == (wrap64 (a1 - ji6))) = true := beq_iff_eq.mpr c10
           have c10b1 : ((Go.bits .and .i64 (rd l0 x9_2) (wrap64 (a1 - ji6))) != (wrap64 (a1 - ji6))) = false := bne_eq_false_iff_eq.mpr c10
           clear c10
           have H' := Aside0.mk H
           clear H
           have p607 : 0 ≤ (x9_2 : Int) := of_decide_eq_true (by first | (with_reducible assumption) | assumption)
           have q607 : x9_2 < (l0.length : Int) := of_decide_eq_true (by first | (with_reducible assumption) | assumption)
           obtain ⟨ad607, e607, hx607_0⟩ := Kd.at_int HR0.out x9_2 p607 q607
           cases e607
           replace p607 := eq_true p607
           replace q607 := eq_true q607
           go_wp2
           go_roundg k2
           case measure => have := HK1.out; have := HK2.out; omega
           case rel => exact ⟨(Go.bits .or .i64 x6_2 ji6), (wrap64 (x9_2 + 1)), (by first | rfl | (simp; done) | (simp only [← hji6] <;> (first | rfl | simp)) | (simp [*]; done)), (by first | rfl | (simp; done) | (simp [*]; done)), H', ⟨by have := HK1.out; have := HK2.out; omega⟩, by repeat (first | exact Drawn0.refl _ | apply Drawn0.step)⟩
          ·rw [if_neg c10] at H
           have c10b0 : ((Go.bits .and .i64 (rd l0 x9_2) (wrap64 (a1 - ji6))) == (wrap64 (a1 - ji6))) = false := beq_eq_false_iff_ne.mpr c10
           have c10b1 : ((Go.bits .and .i64 (rd l0 x9_2) (wrap64 (a1 - ji6))) != (wrap64 (a1 - ji6))) = true := bne_iff_ne.mpr c10
           have H' := Aside0.mk H
           clear H
           have p607 : 0 ≤ (x9_2 : Int) := of_decide_eq_true (by first | (with_reducible assumption) | assumption)
           have q607 : x9_2 < (l0.length : Int) := of_decide_eq_true (by first | (with_reducible assumption) | assumption)
           obtain ⟨ad607, e607, hx607_0⟩ := Kd.at_int HR0.out x9_2 p607 q607
           cases e607
           replace p607 := eq_true p607
           replace q607 := eq_true q607
           go_wp2
           go_roundg k2
           case measure => have := HK1.out; have := HK2.out; omega
           case rel => exact ⟨(x6_2), (wrap64 (x9_2 + 1)), (by first | rfl | (simp; done) | (simp [*]; done)), (by first | rfl | (simp; done) | (simp [*]; done)), H', ⟨by have := HK1.out; have := HK2.out; omega⟩, by repeat (first | exact Drawn0.refl _ | apply Drawn0.step)⟩
         ·rw [if_neg c9] at H
          exact absurd H (by simp)
        ·rw [if_neg c8] at H
         have c8b0 : decide (x9_2 < (l0.length : Int)) = false := decide_eq_false c8
         clear c8
         have H' := Aside0.mk H
         clear H
         go_wp2
         go_roundg k2
         case measure => have := HK1.out; have := HK2.out; omega
         case rel => exact ⟨(x6_2), (wrap64 (x7_1 + 1)), (by first | rfl | (simp; done) | (simp [*]; done)), (by first | rfl | (simp; done) | (simp [*]; done)), H', ⟨by have := HK1.out; have := HK2.out; omega⟩, by repeat (first | exact Drawn0.refl _ | apply Drawn0.step)⟩
    ·rw [if_neg c5] at H
     exact absurd H (by simp)
   ·rw [if_neg c3] at H
    have c3b0 : decide (x7_1 < 6) = false := decide_eq_false c3
    clear c3
    have H' := Aside0.mk H
    clear H
    go_wp2
    go_loopg [10] k1 (fun kq v10 w' => ∃ (x10_2 : Int), v10 = .int .i64 x10_2 ∧ Aside0 (spec_l07Goes.l2 kq l0 x6_1 x10_2 = some (r1, r2)) ∧ Aside0 (kq ≤ k1) ∧ Drawn0 w w')
    case atStart => exact ⟨(0), (by first | rfl | (simp; done) | (simp [*]; done)), H', ⟨Nat.le_refl _⟩, by repeat (first | exact Drawn0.refl _ | apply Drawn0.step)⟩
    case round =>
     clear H'
     try clear c1
     try clear p2
     try clear c3
     try clear c3b0
     try clear c5
     try clear c5b0
     try clear c5b1
     try clear p6
     try clear q6
     try clear hx6
     try clear c7
     try clear c7b0
     try clear c7b1
     try clear c8
     try clear c8b0
     try clear c9
     try clear c9b0
     try clear c10
     try clear c10b0
     try clear c10b1
     try clear hx607_0
     try clear p2
     try clear p6
     try clear p607
     try clear q607
     obtain ⟨x10_2, rfl, HA, HK2, ⟨m2, rfl⟩⟩ := hrel
     cases gk with
     | zero => exact absurd HA.out (by simp [spec_l07Goes.l2])
     | succ k2 =>
      have H := HA.out
      clear HA
      simp only [spec_l07Goes.l2] at H
      by_cases c11 : x10_2 < (l0.length : Int)
      ·rw [if_pos c11] at H
       have c11b0 : decide (x10_2 < (l0.length : Int)) = true := decide_eq_true c11
       clear c11
       by_cases c12 : 0 ≤ x10_2
       ·rw [if_pos c12] at H
        have c12b0 : decide (0 ≤ x10_2) = true := decide_eq_true c12
        clear c12
        by_cases c13 : (Go.bits .and .i64 (rd l0 x10_2) x6_1) = x6_1
        ·rw [if_pos c13] at H
         have c13b0 : ((Go.bits .and .i64 (rd l0 x10_2) x6_1) == x6_1) = true := beq_iff_eq.mpr c13
         have c13b1 : ((Go.bits .and .i64 (rd l0 x10_2) x6_1) != x6_1) = false := bne_eq_false_iff_eq.mpr c13
         clear c13
         simp only [Option.some.injEq, Prod.mk.injEq] at H
         obtain ⟨rfl, rfl⟩ := H
         have p608 : 0 ≤ (x10_2 : Int) := of_decide_eq_true (by first | (with_reducible assumption) | assumption)
         have q608 : x10_2 < (l0.length : Int) := of_decide_eq_true (by first | (with_reducible assumption) | assumption)
         obtain ⟨ad608, e608, hx608_0⟩ := Kd.at_int HR0.out x10_2 p608 q608
         cases e608
         replace p608 := eq_true p608
         replace q608 := eq_true q608
         go_wp2
         go_ret2
         exact ⟨by first | rfl | (simp; done) | (simp [*]; done), by repeat (first | exact Drawn0.refl _ | apply Drawn0.step)⟩
        ·rw [if_neg c13] at H
         have c13b0 : ((Go.bits .and .i64 (rd l0 x10_2) x6_1) == x6_1) = false := beq_eq_false_iff_ne.mpr c13
         have c13b1 : ((Go.bits .and .i64 (rd l0 x10_2) x6_1) != x6_1) = true := bne_iff_ne.mpr c13
         have H' := Aside0.mk H
         clear H
         have p608 : 0 ≤ (x10_2 : Int) := of_decide_eq_true (by first | (with_reducible assumption) | assumption)
         have q608 : x10_2 < (l0.length : Int) := of_decide_eq_true (by first | (with_reducible assumption) | assumption)
         obtain ⟨ad608, e608, hx608_0⟩ := Kd.at_int HR0.out x10_2 p608 q608
         cases e608
         replace p608 := eq_true p608
         replace q608 := eq_true q608
         go_wp2
         go_roundg k2
         case measure => have := HK1.out; have := HK2.out; omega
         case rel => exact ⟨(wrap64 (x10_2 + 1)), (by first | rfl | (simp; done) | (simp [*]; done)), H', ⟨by have := HK1.out; have := HK2.out; omega⟩, by repeat (first | exact Drawn0.refl _ | apply Drawn0.step)⟩
       ·rw [if_neg c12] at H
        exact absurd H (by simp)
      ·rw [if_neg c11] at H
       have c11b0 : decide (x10_2 < (l0.length : Int)) = false := decide_eq_false c11
       clear c11
       simp only [Option.some.injEq, Prod.mk.injEq] at H
       obtain ⟨rfl, rfl⟩ := H
       go_wp2
       go_ret2
       exact ⟨by first | rfl | (simp; done) | (simp [*]; done), by repeat (first | exact Drawn0.refl _ | apply Drawn0.step)⟩
end Go.Proofs.Ytomdfjohnmikdaa.QS
namespace Go.Proofs.Ytomdfjohnmikdaa.Pu
set_option linter.unusedVariables false
set_option linter.unusedSimpArgs false
open Go.RowKit Go.Proofs.Ytomdfjohnmikdaa.Ext Go.Proofs.Ytomdfjohnmikdaa.QS Go.Proofs.Ytomdfjohnmikdaa.Im Go.Proofs.YtomdfjohnmikdaaW.PrintWords Go.Proofs.YtomdfjohnmikdaaW.PrintLast Go.Proofs.YtomdfjohnmikdaaW.PrintMore
abbrev aI (x y : Int) : Int := Go.bits .and .i64 x y
abbrev nI (x y : Int) : Int := Go.bits .andNot .i64 x y
abbrev oI (x y : Int) : Int := Go.bits .or .i64 x y
def stepV (before : List Int) (f : Int) (R : Int) (v : Nat) : Int := if aI f (2 ^ v) = 0 then R else before.foldl (fun R b => if aI b (wrap64 (f - 2 ^ v)) = wrap64 (f - 2 ^ v) then oI R (2 ^ v) else R) R
def restr (before : List Int) (f : Int) : Int := (List.range 6).foldl (stepV before f) 0
def goesB (before : List Int) (f : Int) : Bool × Int := (!(before.any fun b => aI b (restr before f) == restr before f), restr before f)
theorem shl_v {v : Nat} (h : v < 6) : 0 ≤ IntKind.u64.wrap (v : Int) ∧ shl .i64 1 (IntKind.u64.wrap (v : Int)) = 2 ^ v := by
  obtain rfl | rfl | rfl | rfl | rfl | rfl : v = 0 ∨ v = 1 ∨ v = 2 ∨ v = 3 ∨ v = 4 ∨ v = 5 := by omega
  all_goals decide +kernel
theorem goes_l2 {before : List Int} (hl : before.length ≤ 1048576) (R : Int) : ∀ d (i : Nat), before.length - i = d → i ≤ before.length → Ev (fun k => spec_l07Goes.l2 k before R (i : Int)) (!((before.drop i).any fun b => aI b R == R), R) := by
  intro d
  induction d with
  | zero =>
    intro i hd hi
    rw [List.drop_eq_nil_of_le (by omega)]
    refine Ev.step (f := fun k => some (true, R)) (fun k => ?_) (Ev.now _)
    simp only [spec_l07Goes.l2]; rw [if_neg (by omega)]
  | succ d ih =>
    intro i hd hi
    have hi' : i < before.length := by omega
    rw [List.drop_eq_getElem_cons hi', List.any_cons]
    by_cases h : aI before[i] R = R
    · rw [show (aI before[i] R == R) = true from beq_iff_eq.2 h, Bool.true_or]
      refine Ev.step (f := fun k => some (false, R)) (fun k => ?_) (Ev.now _)
      simp only [spec_l07Goes.l2]
      rw [if_pos (by omega), if_pos (by omega), rd_at hi', if_pos h]
    · rw [show (aI before[i] R == R) = false from beq_eq_false_iff_ne.2 h, Bool.false_or]
      refine Ev.step (fun k => ?_) (ih (i + 1) (by omega) (by omega))
      simp only [spec_l07Goes.l2]
      rw [if_pos (by omega), if_pos (by omega), rd_at hi', if_neg h, show wrap64 ((i : Int) + 1) = ((i + 1 : Nat) : Int) by rw [w64 (by omega) (by omega)]; omega]
theorem goes_l1 {before : List Int} (hl : before.length ≤ 1048576) (f : Int) {v : Nat} (hv : v < 6) (D : Bool × Int) : ∀ d (i : Nat) (R : Int), before.length - i = d → i ≤ before.length →
    Ev (fun k => spec_l07Goes.l0 k before f ((before.drop i).foldl (fun R b => if aI b (wrap64 (f - 2 ^ v)) = wrap64 (f - 2 ^ v) then oI R (2 ^ v) else R) R) ((v + 1 : Nat) : Int)) D →
    Ev (fun k => spec_l07Goes.l1 k before f R (v : Int) (2 ^ v) (i : Int)) D := by
  intro d
  induction d with
  | zero =>
    intro i R hd hi hR
    rw [List.drop_eq_nil_of_le (by omega)] at hR
    refine Ev.step (fun k => ?_) hR
    simp only [spec_l07Goes.l1]
    rw [if_neg (by omega), show wrap64 ((v : Int) + 1) = ((v + 1 : Nat) : Int) by rw [w64 (by omega) (by omega)]; omega]
    rfl
  | succ d ih =>
    intro i R hd hi hR
    have hi' : i < before.length := by omega
    rw [List.drop_eq_getElem_cons hi', List.foldl_cons] at hR
    by_cases h : aI before[i] (wrap64 (f - 2 ^ v)) = wrap64 (f - 2 ^ v)
    · rw [if_pos h] at hR
      refine Ev.step (fun k => ?_) (ih (i + 1) _ (by omega) (by omega) hR)
      simp only [spec_l07Goes.l1]
      rw [if_pos (by omega), if_pos (by omega), rd_at hi', if_pos h, show wrap64 ((i : Int) + 1) = ((i + 1 : Nat) : Int) by rw [w64 (by omega) (by omega)]; omega]
    · rw [if_neg h] at hR
      refine Ev.step (fun k => ?_) (ih (i + 1) _ (by omega) (by omega) hR)
      simp only [spec_l07Goes.l1]
      rw [if_pos (by omega), if_pos (by omega), rd_at hi', if_neg h, show wrap64 ((i : Int) + 1) = ((i + 1 : Nat) : Int) by rw [w64 (by omega) (by omega)]; omega]
theorem goes_l0 {before : List Int} (hl : before.length ≤ 1048576) (f : Int) : ∀ d (v : Nat) (R : Int), 6 - v = d → v ≤ 6 → (List.range' v (6 - v)).foldl (stepV before f) R = restr before f → Ev (fun k => spec_l07Goes.l0 k before f R (v : Int)) (goesB before f) := by
  intro d
  induction d with
  | zero =>
    intro v R hd hv hR
    obtain rfl : v = 6 := by omega
    have hR' : R = restr before f := hR
    subst hR'
    refine Ev.step (fun k => ?_) (goes_l2 hl (restr before f) _ 0 rfl (Nat.zero_le _))
    simp only [spec_l07Goes.l0]
    rw [if_neg (by omega)]
    rfl
  | succ d ih =>
    intro v R hd hv hR
    have hv' : v < 6 := by omega
    obtain ⟨h1, h2⟩ := shl_v hv'
    rw [show 6 - v = (6 - (v + 1)) + 1 by omega, List.range'_succ, List.foldl_cons] at hR
    have hih := ih (v + 1) (stepV before f R v) (by omega) (by omega) hR
    by_cases h : aI f (2 ^ v) = 0
    · rw [show stepV before f R v = R by unfold stepV; rw [if_pos h]] at hih
      refine Ev.step (fun k => ?_) hih
      simp only [spec_l07Goes.l0]
      rw [if_pos (by omega), if_pos h1, h2, if_pos h, show wrap64 ((v : Int) + 1) = ((v + 1 : Nat) : Int) by rw [w64 (by omega) (by omega)]; omega]
    · rw [show stepV before f R v = before.foldl (fun R b => if aI b (wrap64 (f - 2 ^ v)) = wrap64 (f - 2 ^ v) then oI R (2 ^ v) else R) R by unfold stepV; rw [if_neg h]] at hih
      refine Ev.step (fun k => ?_) (goes_l1 hl f hv' _ _ 0 R rfl (Nat.zero_le _) (by rw [List.drop_zero]; exact hih))
      simp only [spec_l07Goes.l0]
      rw [if_pos (by omega), if_pos h1, h2, if_neg h]
      rfl
theorem ev_goes {before : List Int} (hl : before.length ≤ 1048576) (f : Int) : Ev (fun k => spec_l07Goes.f k before f) (goesB before f) := by
  unfold spec_l07Goes.f
  exact goes_l0 hl f _ 0 0 rfl (Nat.zero_le _) (by rw [restr, List.range_eq_range'])
def wallsN (before : List Int) (f : Int) : List Int := (before.filter fun h => onesZ (aI f h) == onesZ f - 1).map fun h => aI f h
def nextB (before : List Int) (f : Int) : Bool := before.all fun g => (wallsN before f).any fun w => nI (aI f g) w == 0
theorem and_rng_all : ((List.range 64).all fun f => (List.range 64).all fun g => decide (0 ≤ aI (f : Int) (g : Int)) && decide (aI (f : Int) (g : Int) ≤ 63)) = true := by decide +kernel
theorem and_rng {f g : Int} (h1 : 0 ≤ f ∧ f ≤ 63) (h2 : 0 ≤ g ∧ g ≤ 63) : 0 ≤ aI f g ∧ aI f g ≤ 63 := by
  obtain ⟨a, rfl⟩ := Int.eq_ofNat_of_zero_le h1.1
  obtain ⟨b, rfl⟩ := Int.eq_ofNat_of_zero_le h2.1
  have h := List.all_eq_true.1 (List.all_eq_true.1 and_rng_all a (List.mem_range.2 (by omega))) b (List.mem_range.2 (by omega))
  simpa using h
theorem sizeH_eq {x : Int} (h0 : 0 ≤ x) (h6 : x ≤ 63) : QH.impl_size.f x = some (onesZ x) := size_eq h0 h6
theorem okDomN {l : List Int} (h : ∀ x ∈ l, 0 ≤ x ∧ x ≤ 63) (a : Pred) : okDom a l = true := by
  rw [okDom, Bool.or_eq_true]
  refine .inr (List.all_eq_true.2 fun x hx => ?_)
  have := h x hx
  simp; omega
theorem walls_rng {before : List Int} {f : Int} (hf : 0 ≤ f ∧ f ≤ 63) (hb : ∀ x ∈ before, 0 ≤ x ∧ x ≤ 63) : ∀ x ∈ wallsN before f, 0 ≤ x ∧ x ≤ 63 := by
  intro x hx
  unfold wallsN at hx
  obtain ⟨h, hh, rfl⟩ := List.mem_map.1 hx
  exact and_rng hf (hb h (List.mem_filter.1 hh).1)
theorem any_congr_mem {α : Type} {p q : α → Bool} {l : List α} (h : ∀ x ∈ l, p x = q x) : l.any p = l.any q := by
  induction l with
  | nil => rfl
  | cons a l ih => rw [List.any_cons, List.any_cons, h a (by simp), ih (fun x hx => h x (by simp [hx]))]
theorem all_congr_mem' {α : Type} {p q : α → Bool} {l : List α} (h : ∀ x ∈ l, p x = q x) : l.all p = l.all q := by
  induction l with
  | nil => rfl
  | cons a l ih => rw [List.all_cons, List.all_cons, h a (by simp), ih (fun x hx => h x (by simp [hx]))]
theorem next_end {before : List Int} (hl : before.length ≤ 1048576) {f : Int} (hf : 0 ≤ f ∧ f ≤ 63) (hb : ∀ x ∈ before, 0 ≤ x ∧ x ≤ 63) : impl_areAll_int64.f before (QH.clo_137 (wallsN before f) f) = some (nextB before f) := by
  have hwl : (wallsN before f).length ≤ before.length := by unfold wallsN; rw [List.length_map]; exact List.length_filter_le _ _
  obtain ⟨s1, _, p1⟩ := ofI_face (f := fun x => QH.impl_isNext_1.f x (wallsN before f) f) (p := fun g => (wallsN before f).any fun w => nI (aI f g) w == 0) fun g h0 h6 => by
    obtain ⟨t1, _, q1⟩ := ofI_face (f := fun x => QH.impl_isNext_1_1.f x f g) (p := fun w => nI (aI f g) w == 0) fun w g0 g6 => by
      unfold QH.impl_isNext_1_1.f impl_isIn.f
      rw [if_pos trivial]; rfl
    unfold QH.impl_isNext_1.f slices_ContainsFunc_int64_int64.f
    rw [if_pos ⟨by omega, t1, okDomN (walls_rng hf hb) _⟩, Option.bind_some]
    exact congrArg some (any_congr_mem fun w hw => q1 w (walls_rng hf hb w hw).1 (walls_rng hf hb w hw).2)
  unfold impl_areAll_int64.f
  rw [if_pos ⟨by omega, s1, okDomN hb _⟩]
  exact congrArg some (all_congr_mem' fun g hg => p1 g (hb g hg).1 (hb g hg).2)
theorem next_loop {before : List Int} (hl : before.length ≤ 1048576) {f : Int} (hf : 0 ≤ f ∧ f ≤ 63) (hb : ∀ x ∈ before, 0 ≤ x ∧ x ≤ 63) : ∀ d (i : Nat), before.length - i = d → i ≤ before.length → Ev (fun k => QH.impl_isNext.l0 k before before (before.length : Int) (i : Int) f (wallsN (before.take i) f)) (nextB before f) := by
  intro d
  induction d with
  | zero =>
    intro i hd hi
    rw [List.take_of_length_le (by omega)]
    refine Ev.step (f := fun k => some (nextB before f)) (fun k => ?_) (Ev.now _)
    simp only [QH.impl_isNext.l0]
    rw [if_neg (by omega), next_end hl hf hb, Option.bind_some]
  | succ d ih =>
    intro i hd hi
    have hi' : i < before.length := by omega
    have hbi := hb _ (List.getElem_mem hi')
    have hr := and_rng hf hbi
    have ho : wrap64 (onesZ f - 1) = onesZ f - 1 := by
      have : (verts f).length ≤ 6 := verts_len f
      have h0 : 0 ≤ onesZ f := by unfold onesZ; omega
      have h6 : onesZ f ≤ 6 := by unfold onesZ; omega
      exact w64 (by omega) (by omega)
    have hih := ih (i + 1) (by omega) (by omega)
    have hwl : (wallsN (before.take i) f).length ≤ (before.take i).length := by unfold wallsN; rw [List.length_map]; exact List.length_filter_le _ _
    rw [List.length_take] at hwl
    have hw : wallsN (before.take (i + 1)) f = wallsN (before.take i) f ++ (if onesZ (aI f before[i]) = onesZ f - 1 then [aI f before[i]] else []) := by
      unfold wallsN
      rw [List.take_succ_eq_append_getElem hi', List.filter_append, List.map_append]
      congr 1
      by_cases h : onesZ (aI f before[i]) = onesZ f - 1
      · rw [if_pos h, List.filter_cons_of_pos (by simpa using h)]; rfl
      · rw [if_neg h, List.filter_cons_of_neg (by simpa using h)]; rfl
    rw [hw] at hih
    by_cases h : onesZ (aI f before[i]) = onesZ f - 1
    · rw [if_pos h] at hih
      refine Ev.step (fun k => ?_) hih
      simp only [QH.impl_isNext.l0]
      rw [if_pos (by omega), if_pos (by omega), if_pos (by omega), rd_at hi', sizeH_eq hr.1 hr.2, Option.bind_some, sizeH_eq hf.1 hf.2, Option.bind_some, ho, if_pos h, if_pos (by omega), show wrap64 ((i : Int) + 1) = ((i + 1 : Nat) : Int) by rw [w64 (by omega) (by omega)]; omega]
    · rw [if_neg h, List.append_nil] at hih
      refine Ev.step (fun k => ?_) hih
      simp only [QH.impl_isNext.l0]
      rw [if_pos (by omega), if_pos (by omega), if_pos (by omega), rd_at hi', sizeH_eq hr.1 hr.2, Option.bind_some, sizeH_eq hf.1 hf.2, Option.bind_some, ho, if_neg h, show wrap64 ((i : Int) + 1) = ((i + 1 : Nat) : Int) by rw [w64 (by omega) (by omega)]; omega]
theorem ev_next {before : List Int} (hl : before.length ≤ 1048576) {f : Int} (hf : 0 ≤ f ∧ f ≤ 63) (hb : ∀ x ∈ before, 0 ≤ x ∧ x ≤ 63) : Ev (fun k => QH.impl_isNext.f k before f) (nextB before f) := by
  unfold QH.impl_isNext.f
  exact next_loop hl hf hb _ 0 rfl (Nat.zero_le _)
def hv (x : Int) (v : Nat) : Bool := bitB x v
theorem fa_all : ((List.range 64).all fun f => (List.range 6).all fun v => (decide (aI (f : Int) (2 ^ v) = 0) == !(hv (f : Int) v)) && (!(hv (f : Int) v) || (wrap64 ((f : Int) - 2 ^ v) == (f : Int) - 2 ^ v && decide (0 ≤ (f : Int) - 2 ^ v)))) = true := by decide +kernel
theorem fb_all : ((List.range 64).all fun f => (List.range 6).all fun v => !(hv (f : Int) v) || (List.range 64).all fun b => decide (aI (b : Int) ((f : Int) - 2 ^ v) = (f : Int) - 2 ^ v) == (decide (aI (f : Int) (b : Int) = (f : Int) - 2 ^ v) || decide (aI (f : Int) (b : Int) = (f : Int)))) = true := by decide +kernel
theorem fc_all : ((List.range 64).all fun f => (List.range 6).all fun v => !(hv (f : Int) v) || (List.range 64).all fun g => (nI (aI (f : Int) (g : Int)) ((f : Int) - 2 ^ v) == 0) == !(hv (g : Int) v)) = true := by decide +kernel
theorem fd_all : ((List.range 64).all fun f => (List.range 64).all fun h => (onesZ (aI (f : Int) (h : Int)) == onesZ (f : Int) - 1) == (List.range 6).any fun v => hv (f : Int) v && decide (aI (f : Int) (h : Int) = (f : Int) - 2 ^ v)) = true := by decide +kernel
theorem ff_all : ((List.range 64).all fun R => (List.range 6).all fun u => decide (0 ≤ oI (R : Int) (2 ^ u)) && decide (oI (R : Int) (2 ^ u) ≤ 63) && (List.range 6).all fun v => hv (oI (R : Int) (2 ^ u)) v == (hv (R : Int) v || v == u)) = true := by decide +kernel
theorem fg_all : ((List.range 64).all fun g => (List.range 64).all fun R => (aI (g : Int) (R : Int) == (R : Int)) == (List.range 6).all fun v => !(hv (R : Int) v) || hv (g : Int) v) = true := by decide +kernel
theorem fh_all : ((List.range 64).all fun f => (List.range 64).all fun b => (aI (f : Int) (b : Int) == (f : Int)) == (List.range 6).all fun v => !(hv (f : Int) v) || hv (b : Int) v) = true := by decide +kernel
theorem fz_all : ((List.range 6).all fun v => !(hv 0 v)) = true := by decide +kernel
section
variable {f g b R : Int} {v u : Nat}
theorem nat_of {x : Int} (h : 0 ≤ x ∧ x ≤ 63) : ∃ a : Nat, x = (a : Int) ∧ a < 64 := by
  obtain ⟨a, rfl⟩ := Int.eq_ofNat_of_zero_le h.1
  exact ⟨a, rfl, by omega⟩
theorem fa (hf : 0 ≤ f ∧ f ≤ 63) (hv' : v < 6) : (aI f (2 ^ v) = 0 ↔ hv f v = false) ∧ (hv f v = true → wrap64 (f - 2 ^ v) = f - 2 ^ v) := by
  obtain ⟨a, rfl, ha⟩ := nat_of hf
  have h := List.all_eq_true.1 (List.all_eq_true.1 fa_all a (List.mem_range.2 ha)) v (List.mem_range.2 hv')
  rw [Bool.and_eq_true] at h
  refine ⟨?_, fun h1 => ?_⟩
  · have h2 := eq_of_beq h.1
    cases hz : hv (a : Int) v with
    | true => rw [hz] at h2; exact ⟨fun h3 => (by rw [decide_eq_true h3] at h2; exact absurd h2 (by decide)), fun h3 => (by cases h3)⟩
    | false => rw [hz] at h2; exact ⟨fun _ => rfl, fun _ => of_decide_eq_true h2⟩
  · have h2 := h.2
    rw [h1] at h2
    simp only [Bool.not_true, Bool.false_or, Bool.and_eq_true] at h2
    exact eq_of_beq h2.1
theorem fb (hf : 0 ≤ f ∧ f ≤ 63) (hb : 0 ≤ b ∧ b ≤ 63) (hv' : v < 6) (h1 : hv f v = true) : aI b (f - 2 ^ v) = f - 2 ^ v ↔ (aI f b = f - 2 ^ v ∨ aI f b = f) := by
  obtain ⟨a, rfl, ha⟩ := nat_of hf
  obtain ⟨c, rfl, hc⟩ := nat_of hb
  have h := List.all_eq_true.1 (List.all_eq_true.1 fb_all a (List.mem_range.2 ha)) v (List.mem_range.2 hv')
  rw [h1, Bool.not_true, Bool.false_or] at h
  have h2 := eq_of_beq (List.all_eq_true.1 h c (List.mem_range.2 hc))
  rw [Bool.eq_iff_iff] at h2
  simpa using h2
theorem fc (hf : 0 ≤ f ∧ f ≤ 63) (hg : 0 ≤ g ∧ g ≤ 63) (hv' : v < 6) (h1 : hv f v = true) : (nI (aI f g) (f - 2 ^ v) == 0) = !(hv g v) := by
  obtain ⟨a, rfl, ha⟩ := nat_of hf
  obtain ⟨c, rfl, hc⟩ := nat_of hg
  have h := List.all_eq_true.1 (List.all_eq_true.1 fc_all a (List.mem_range.2 ha)) v (List.mem_range.2 hv')
  rw [h1, Bool.not_true, Bool.false_or] at h
  exact eq_of_beq (List.all_eq_true.1 h c (List.mem_range.2 hc))
theorem fd (hf : 0 ≤ f ∧ f ≤ 63) (hg : 0 ≤ g ∧ g ≤ 63) : onesZ (aI f g) = onesZ f - 1 ↔ ∃ v, v < 6 ∧ hv f v = true ∧ aI f g = f - 2 ^ v := by
  obtain ⟨a, rfl, ha⟩ := nat_of hf
  obtain ⟨c, rfl, hc⟩ := nat_of hg
  have h := eq_of_beq (List.all_eq_true.1 (List.all_eq_true.1 fd_all a (List.mem_range.2 ha)) c (List.mem_range.2 hc))
  rw [Bool.eq_iff_iff, beq_iff_eq, List.any_eq_true] at h
  rw [h]
  refine ⟨fun ⟨v, hv', h2⟩ => ?_, fun ⟨v, hv', h2, h3⟩ => ⟨v, List.mem_range.2 hv', ?_⟩⟩
  · rw [Bool.and_eq_true] at h2
    exact ⟨v, List.mem_range.1 hv', h2.1, of_decide_eq_true h2.2⟩
  · rw [h2, decide_eq_true h3]; rfl
theorem ff (hR : 0 ≤ R ∧ R ≤ 63) (hu : u < 6) : (0 ≤ oI R (2 ^ u) ∧ oI R (2 ^ u) ≤ 63) ∧ ∀ v, v < 6 → hv (oI R (2 ^ u)) v = (hv R v || v == u) := by
  obtain ⟨a, rfl, ha⟩ := nat_of hR
  have h := List.all_eq_true.1 (List.all_eq_true.1 ff_all a (List.mem_range.2 ha)) u (List.mem_range.2 hu)
  rw [Bool.and_eq_true, Bool.and_eq_true] at h
  exact ⟨⟨of_decide_eq_true h.1.1, of_decide_eq_true h.1.2⟩, fun v hv' => eq_of_beq (List.all_eq_true.1 h.2 v (List.mem_range.2 hv'))⟩
theorem fg (hg : 0 ≤ g ∧ g ≤ 63) (hR : 0 ≤ R ∧ R ≤ 63) : (aI g R == R) = (List.range 6).all fun v => !(hv R v) || hv g v := by
  obtain ⟨a, rfl, ha⟩ := nat_of hg
  obtain ⟨c, rfl, hc⟩ := nat_of hR
  exact eq_of_beq (List.all_eq_true.1 (List.all_eq_true.1 fg_all a (List.mem_range.2 ha)) c (List.mem_range.2 hc))
theorem fh (hf : 0 ≤ f ∧ f ≤ 63) (hb : 0 ≤ b ∧ b ≤ 63) : (aI f b == f) = (List.range 6).all fun v => !(hv f v) || hv b v := by
  obtain ⟨a, rfl, ha⟩ := nat_of hf
  obtain ⟨c, rfl, hc⟩ := nat_of hb
  exact eq_of_beq (List.all_eq_true.1 (List.all_eq_true.1 fh_all a (List.mem_range.2 ha)) c (List.mem_range.2 hc))
end
/-- Whether a vertex is in the restriction. -/
def inR (before : List Int) (f : Int) (v : Nat) : Bool := hv f v && before.any fun b => decide (aI b (f - 2 ^ v) = f - 2 ^ v)
theorem fold_or {f : Int} {v : Nat} (hv' : v < 6) (t : Int → Prop) [DecidablePred t] : ∀ (l : List Int) (R : Int), 0 ≤ R ∧ R ≤ 63 → (0 ≤ l.foldl (fun R b => if t b then oI R (2 ^ v) else R) R ∧ l.foldl (fun R b => if t b then oI R (2 ^ v) else R) R ≤ 63) ∧ ∀ u, u < 6 → hv (l.foldl (fun R b => if t b then oI R (2 ^ v) else R) R) u = (hv R u || (u == v && l.any fun b => decide (t b)))
  | [], R, hR => ⟨hR, fun u _ => by simp⟩
  | b :: l, R, hR => by
    rw [List.foldl_cons]
    by_cases h : t b
    · rw [if_pos h]
      obtain ⟨h1, h2⟩ := ff hR hv'
      obtain ⟨h3, h4⟩ := fold_or (f := f) hv' t l _ h1
      refine ⟨h3, fun u hu => ?_⟩
      rw [h4 u hu, h2 u hu, List.any_cons, decide_eq_true h, Bool.true_or, Bool.and_true]
      cases hv R u <;> cases hz : (u == v) <;> simp
    · rw [if_neg h]
      obtain ⟨h3, h4⟩ := fold_or (f := f) hv' t l R hR
      refine ⟨h3, fun u hu => ?_⟩
      rw [h4 u hu, List.any_cons, decide_eq_false h, Bool.false_or]
theorem restr_bits {before : List Int} {f : Int} (hf : 0 ≤ f ∧ f ≤ 63) : (0 ≤ restr before f ∧ restr before f ≤ 63) ∧ ∀ u, u < 6 → hv (restr before f) u = inR before f u := by
  have key : ∀ m, m ≤ 6 → (0 ≤ (List.range m).foldl (stepV before f) 0 ∧ (List.range m).foldl (stepV before f) 0 ≤ 63) ∧ ∀ u, u < 6 → hv ((List.range m).foldl (stepV before f) 0) u = (decide (u < m) && inR before f u) := by
    intro m
    induction m with
    | zero =>
      intro _
      refine ⟨⟨by simp, by simp⟩, fun u hu => ?_⟩
      have := List.all_eq_true.1 fz_all u (List.mem_range.2 hu)
      simp only [List.range_zero, List.foldl_nil]
      simpa using this
    | succ m ih =>
      intro hm
      obtain ⟨h1, h2⟩ := ih (by omega)
      rw [List.range_succ, List.foldl_append, List.foldl_cons, List.foldl_nil]
      generalize (List.range m).foldl (stepV before f) 0 = R at h1 h2
      obtain ⟨a1, a2⟩ := fa hf (v := m) (by omega)
      unfold stepV
      by_cases hz : hv f m = true
      · have hne : ¬ aI f (2 ^ m) = 0 := fun h => by rw [a1.1 h] at hz; cases hz
        rw [if_neg hne, a2 hz]
        obtain ⟨h3, h4⟩ := fold_or (f := f) (v := m) (by omega) (fun b => aI b (f - 2 ^ m) = f - 2 ^ m) before R h1
        refine ⟨h3, fun u hu => ?_⟩
        rw [h4 u hu, h2 u hu]
        by_cases hum : u = m
        · subst hum
          simp [inR, hz]
        · have e1 : (u == m) = false := by simpa using hum
          have e2 : decide (u < m + 1) = decide (u < m) := by rw [decide_eq_decide]; omega
          rw [e1, e2, Bool.false_and, Bool.or_false]
      · have hzf : hv f m = false := by simpa using hz
        rw [if_pos (a1.2 hzf)]
        refine ⟨h1, fun u hu => ?_⟩
        rw [h2 u hu]
        by_cases hum : u = m
        · subst hum
          simp [inR, hzf]
        · have e2 : decide (u < m + 1) = decide (u < m) := by rw [decide_eq_decide]; omega
          rw [e2]
  obtain ⟨h1, h2⟩ := key 6 (Nat.le_refl _)
  exact ⟨h1, fun u hu => by rw [show restr before f = (List.range 6).foldl (stepV before f) 0 from rfl, h2 u hu, decide_eq_true hu, Bool.true_and]⟩
theorem goes_next {before : List Int} {f : Int} (hf : 0 ≤ f ∧ f ≤ 63) (hb : ∀ x ∈ before, 0 ≤ x ∧ x ≤ 63) : (goesB before f).1 = nextB before f := by
  obtain ⟨r1, r2⟩ := restr_bits (before := before) hf
  have hany : ∀ g, (0 ≤ g ∧ g ≤ 63) → ((aI g (restr before f) == restr before f) = true ↔ ∀ v, v < 6 → inR before f v = true → hv g v = true) := fun g hg => by
    rw [fg hg r1, List.all_eq_true]
    refine ⟨fun h v hv' h1 => ?_, fun h v hv' => ?_⟩
    · have := h v (List.mem_range.2 hv')
      rw [r2 v hv', h1] at this
      simpa using this
    · have hv'' := List.mem_range.1 hv'
      rw [r2 v hv'']
      cases hi : inR before f v with
      | false => rfl
      | true => rw [h v hv'' hi]; rfl
  have hwall : ∀ g, (0 ≤ g ∧ g ≤ 63) → ((wallsN before f).any (fun w => nI (aI f g) w == 0) = true ↔ ∃ v, v < 6 ∧ hv f v = true ∧ (∃ h ∈ before, aI f h = f - 2 ^ v) ∧ hv g v = false) := fun g hg => by
    rw [List.any_eq_true]
    unfold wallsN
    refine ⟨fun ⟨w, hw, h1⟩ => ?_, fun ⟨v, hv', h1, ⟨h, hh, h2⟩, h3⟩ => ⟨aI f h, List.mem_map.2 ⟨h, List.mem_filter.2 ⟨hh, ?_⟩, rfl⟩, ?_⟩⟩
    · obtain ⟨h, hh, rfl⟩ := List.mem_map.1 hw
      obtain ⟨hh1, hh2⟩ := List.mem_filter.1 hh
      obtain ⟨v, hv', g1, g2⟩ := (fd hf (hb h hh1)).1 (eq_of_beq hh2)
      rw [g2, fc hf hg hv' g1] at h1
      exact ⟨v, hv', g1, ⟨h, hh1, g2⟩, by simpa using h1⟩
    · rw [beq_iff_eq]
      exact (fd hf (hb h hh)).2 ⟨v, hv', h1, h2⟩
    · rw [h2, fc hf hg hv' h1, h3]; rfl
  rw [Bool.eq_iff_iff]
  unfold nextB
  rw [List.all_eq_true]
  show (!(before.any fun b => aI b (restr before f) == restr before f)) = true ↔ _
  rw [Bool.not_eq_true', List.any_eq_false]
  by_cases hc : ∃ b ∈ before, aI f b = f
  · obtain ⟨b, hbm, hbe⟩ := hc
    have hbb : ∀ v, v < 6 → hv f v = true → hv b v = true := fun v hv' h1 => by
      have h := fh hf (hb b hbm)
      rw [hbe, beq_self_eq_true] at h
      have h2 := List.all_eq_true.1 h.symm v (List.mem_range.2 hv')
      rw [h1] at h2
      simpa using h2
    refine ⟨fun h => ?_, fun h => ?_⟩
    · exfalso
      refine h b hbm ((hany b (hb b hbm)).2 fun v hv' h1 => ?_)
      unfold inR at h1
      rw [Bool.and_eq_true] at h1
      exact hbb v hv' h1.1
    · exfalso
      obtain ⟨v, hv', h1, _, h3⟩ := (hwall b (hb b hbm)).1 (h b hbm)
      rw [hbb v hv' h1] at h3
      cases h3
  · have hin : ∀ v, v < 6 → (inR before f v = true ↔ hv f v = true ∧ ∃ h ∈ before, aI f h = f - 2 ^ v) := fun v hv' => by
      unfold inR
      rw [Bool.and_eq_true, List.any_eq_true]
      refine ⟨fun ⟨h1, b, hbm, h2⟩ => ⟨h1, b, hbm, ?_⟩, fun ⟨h1, b, hbm, h2⟩ => ⟨h1, b, hbm, decide_eq_true ((fb hf (hb b hbm) hv' h1).2 (.inl h2))⟩⟩
      rcases (fb hf (hb b hbm) hv' h1).1 (of_decide_eq_true h2) with h3 | h3
      · exact h3
      · exact absurd ⟨b, hbm, h3⟩ hc
    refine ⟨fun h g hg => (hwall g (hb g hg)).2 ?_, fun h g hg hcon => ?_⟩
    · have h1 := h g hg
      rw [hany g (hb g hg)] at h1
      have h2 : ∃ v, v < 6 ∧ inR before f v = true ∧ hv g v = false := Classical.byContradiction fun hn => h1 fun v hv' hi => by
        cases hz : hv g v with
        | true => rfl
        | false => exact absurd ⟨v, hv', hi, hz⟩ hn
      obtain ⟨v, hv', hi, hz⟩ := h2
      obtain ⟨a1, a2⟩ := (hin v hv').1 hi
      exact ⟨v, hv', a1, a2, hz⟩
    · obtain ⟨v, hv', h1, h2, h3⟩ := (hwall g (hb g hg)).1 (h g hg)
      have h4 := (hany g (hb g hg)).1 hcon v hv' ((hin v hv').2 ⟨h1, h2⟩)
      rw [h4] at h3
      cases h3
end Go.Proofs.Ytomdfjohnmikdaa.Pu
namespace Go.Proofs.Ytomdfjohnmikdaa.QS
open Go.Proofs.Ytomdfjohnmikdaa.Cw Go.Proofs.Ytomdfjohnmikdaa.Kp Go.Proofs.Ytomdfjohnmikdaa.Ext Go.RowKit Go.Proofs.YtomdfjohnmikdaaW.PrintWords Go.Proofs.YtomdfjohnmikdaaW.PrintLast Go.Proofs.YtomdfjohnmikdaaW.PrintMore
attribute [local go_sem] max2_int min2_int max_two min_two max_three min_three max_four min_four   -- for this text's walks alone
set_option linter.unusedVariables false
set_option linter.unusedSimpArgs false
def spec_l07Pure.l0 : Nat → List Int → Int → Option (Bool)
 | 0, _, _ => none
 | k + 1, x3, x4 => if x4 < (x3.length : Int) then (if 0 ≤ x4 then ((spec_l01Ones.f k (rd x3 x4)).bind fun t604 => (if 0 < (x3.length : Int) then ((spec_l01Ones.f k (rd x3 0)).bind fun t606 => (if t604 = t606 then (spec_l07Pure.l0 k x3 (wrap64 (x4 + 1))) else (some false))) else (none))) else (none)) else (some true)
def spec_l07Pure.f (k : Nat) (a0_0 : Int) (l0_1 : List Int) : Option (Bool) := (spec_l01Facets.f k a0_0 l0_1).bind fun t600 => (spec_l07Pure.l0 k t600 0)
set_option maxHeartbeats 8000000 in
set_option maxRecDepth 100000 in
theorem spec_l07Pure.calls (k : Nat) (a0_0 : Int) (A0_1 : Option Addr) (c0_1 : Nat) (l0_1 : List Int) (r : Bool) (w : World) (hr0_1 : Kd.C (Kd.int .i64) w A0_1 l0_1.length l0_1) (hc0_1 : l0_1.length ≤ c0_1) (h : spec_l07Pure.f k a0_0 l0_1 = some r) :
  Calls Try.prog 80 #[.agg #[.int .i64 a0_0, .slice A0_1 l0_1.length c0_1]] w fun e w' => e = .returned (.bool r) ∧ Below w.heap.size w w' := by
 have hu28 := Try.underlying28
 have HR0_1 := Aside0.mk hr0_1
 have HC0_1 := Aside0.mk hc0_1
 clear hr0_1 hc0_1
 have HB := Aside0.mk (Below.refl w.heap.size w)
 have H : ((spec_l01Facets.f k a0_0 l0_1).bind fun t600 => (spec_l07Pure.l0 k t600 0)) = some r := h
 clear h
 replace H := Option.bind_eq_some_iff.mp H
 obtain ⟨t600, A20, H⟩ := H
 try dsimp only at H
 have A2 := Aside0.mk A20
 clear A20
 have H' := Aside0.mk H
 clear H
 go_enter Try.func80, Try.ntmps80
 go_wp2_with (first | ((with_reducible refine gate_dst (N := 1) rfl ?_); refine box_event ?hg (N := 1) ?hd (cs := #[.int .i64 a0_0, .slice A0_1 l0_1.length c0_1]) (t := 28) ?hr ?_; (case hd => rfl); (case hg => rfl); (case hr => first | (go_simp; done) | (go_simp; rfl)); intro gb599 hg w3 hbox hb; have BK599 := Aside0.mk (hbox); have GW599 := gH HB hg; have GE599 := gH HB hg; replace HB := sH HB hb; clear hb hbox hg; have hcz4_0 : w3.cell? ⟨gb599, 0, none⟩ = some (.int .i64 a0_0) := cB BK599 0; have hcz4_1 : w3.cell? ⟨gb599, 1, none⟩ = some (.slice A0_1 l0_1.length c0_1) := cB BK599 1; have hfz4_0 := zB BK599 0; have hfz4_1 := zB BK599 1) | (go_at_call 81; (with_reducible refine (spec_l01Facets.calls k a0_0 _ _ l0_1 t600 _ ?side1 ?side2 A2.out).mono ?_); (case side1 => exact pC ((Kd.C_below HR0_1.out HB.out))); (case side2 => exact HC0_1.out); rintro e w5 ⟨v601, rfl, ho0, hb⟩; have HO602 := Aside0.mk (Kd.R_lower ho0 (below_size (pH HB))); replace BK599 := sB BK599 hb; replace HB := sH HB hb; (try clear hb); (try clear hi); (try clear ho0)))
 repeat (go_quiet (first | ((with_reducible refine gate_dst (N := 1) rfl ?_); refine box_event ?hg (N := 1) ?hd (cs := #[.int .i64 a0_0, .slice A0_1 l0_1.length c0_1]) (t := 28) ?hr ?_; (case hd => rfl); (case hg => rfl); (case hr => first | (go_simp; done) | (go_simp; rfl)); intro gb599 hg w3 hbox hb; have BK599 := Aside0.mk (hbox); have GW599 := gH HB hg; have GE599 := gH HB hg; replace HB := sH HB hb; clear hb hbox hg; have hcz4_0 : w3.cell? ⟨gb599, 0, none⟩ = some (.int .i64 a0_0) := cB BK599 0; have hcz4_1 : w3.cell? ⟨gb599, 1, none⟩ = some (.slice A0_1 l0_1.length c0_1) := cB BK599 1; have hfz4_0 := zB BK599 0; have hfz4_1 := zB BK599 1) | (go_at_call 81; (with_reducible refine (spec_l01Facets.calls k a0_0 _ _ l0_1 t600 _ ?side1 ?side2 A2.out).mono ?_); (case side1 => exact pC ((Kd.C_below HR0_1.out HB.out))); (case side2 => exact HC0_1.out); rintro e w5 ⟨v601, rfl, ho0, hb⟩; have HO602 := Aside0.mk (Kd.R_lower ho0 (below_size (pH HB))); replace BK599 := sB BK599 hb; replace HB := sH HB hb; (try clear hb); (try clear hi); (try clear ho0))); try go_wp2_with (first | ((with_reducible refine gate_dst (N := 1) rfl ?_); refine box_event ?hg (N := 1) ?hd (cs := #[.int .i64 a0_0, .slice A0_1 l0_1.length c0_1]) (t := 28) ?hr ?_; (case hd => rfl); (case hg => rfl); (case hr => first | (go_simp; done) | (go_simp; rfl)); intro gb599 hg w3 hbox hb; have BK599 := Aside0.mk (hbox); have GW599 := gH HB hg; have GE599 := gH HB hg; replace HB := sH HB hb; clear hb hbox hg; have hcz4_0 : w3.cell? ⟨gb599, 0, none⟩ = some (.int .i64 a0_0) := cB BK599 0; have hcz4_1 : w3.cell? ⟨gb599, 1, none⟩ = some (.slice A0_1 l0_1.length c0_1) := cB BK599 1; have hfz4_0 := zB BK599 0; have hfz4_1 := zB BK599 1) | (go_at_call 81; (with_reducible refine (spec_l01Facets.calls k a0_0 _ _ l0_1 t600 _ ?side1 ?side2 A2.out).mono ?_); (case side1 => exact pC ((Kd.C_below HR0_1.out HB.out))); (case side2 => exact HC0_1.out); rintro e w5 ⟨v601, rfl, ho0, hb⟩; have HO602 := Aside0.mk (Kd.R_lower ho0 (below_size (pH HB))); replace BK599 := sB BK599 hb; replace HB := sH HB hb; (try clear hb); (try clear hi); (try clear ho0))))
 go_loopg [4] k (fun kq v4 w' => ∃ (x4_1 : Int), v4 = .int .i64 x4_1 ∧ Aside0 (spec_l07Pure.l0 kq t600 x4_1 = some r) ∧ Aside0 (kq ≤ k) ∧ Aside0 (Kd.R (Kd.int .i64) 2 w' w.heap.size (fun _ => True) v601 t600) ∧ Aside0 (w'.heap[gb599]? = some (.cells #[.int .i64 a0_0, (.slice A0_1 l0_1.length c0_1)] 28 (0, 0))) ∧ Aside0 (Below w.heap.size w w'))
 case atStart => exact ⟨(0), (by first | rfl | (simp; done) | (simp [*]; done)), H', ⟨Nat.le_refl _⟩, ⟨by (with_reducible repeat (first | apply Kd.R_alloc | apply Kd.R_drewN | apply Kd.R_drew)); exact HO602.out⟩, ⟨pB BK599⟩, ⟨pH HB⟩⟩
 case round =>
  clear H'
  try clear p2
  try clear hcz4_0
  try clear hcz4_1
  try clear hfz4_0
  try clear hfz4_1
  obtain ⟨x4_1, rfl, HA, HK1, HO_3, BK599, HB⟩ := hrel
  cases gk with
  | zero => exact absurd HA.out (by simp [spec_l07Pure.l0])
  | succ k1 =>
   have H := HA.out
   clear HA
   simp only [spec_l07Pure.l0] at H
   by_cases c6 : x4_1 < (t600.length : Int)
   ·rw [if_pos c6] at H
    have c6b0 : decide (x4_1 < (t600.length : Int)) = true := decide_eq_true c6
    clear c6
    by_cases c7 : 0 ≤ x4_1
    ·rw [if_pos c7] at H
     have c7b0 : decide (0 ≤ x4_1) = true := decide_eq_true c7
     clear c7
     replace H := Option.bind_eq_some_iff.mp H
     obtain ⟨t604, A80, H⟩ := H
     try dsimp only at H
     have A8 := Aside0.mk A80
     clear A80
     by_cases c9 : 0 < (t600.length : Int)
     ·rw [if_pos c9] at H
      have c9b0 : decide (0 < (t600.length : Int)) = true := decide_eq_true c9
      have c9b1 : decide (0 < t600.length) = true := decide_eq_true (by omega)
      clear c9
      replace H := Option.bind_eq_some_iff.mp H
      obtain ⟨t606, A100, H⟩ := H
      try dsimp only at H
      have A10 := Aside0.mk A100
      clear A100
      by_cases c11 : t604 = t606
      ·rw [if_pos c11] at H
       have c11b0 : (t604 == t606) = true := beq_iff_eq.mpr c11
       have c11b1 : (t604 != t606) = false := bne_eq_false_iff_eq.mpr c11
       clear c11
       have H' := Aside0.mk H
       clear H
       obtain ⟨Ao12, co12, eo12⟩ := Kd.R_slice HO_3.out
       subst eo12
       have p603 : 0 ≤ (x4_1 : Int) := of_decide_eq_true (by first | (with_reducible assumption) | assumption)
       have q603 : x4_1 < (t600.length : Int) := of_decide_eq_true (by first | (with_reducible assumption) | assumption)
       obtain ⟨ad603, e603, hx603_0⟩ := Kd.at_int (Kd.R_reads' HO_3.out).2.2 x4_1 p603 q603
       cases e603
       replace p603 := eq_true p603
       replace q603 := eq_true q603
       go_wp2_with (first | (go_at_call 129; (with_reducible refine (spec_l01Ones.calls k1 (rd t600 x4_1) t604 _ A8.out).mono ?_); rintro e w' ⟨rfl, ⟨nd, rfl⟩⟩; (try first | exact ⟨rfl, _, World.drewN_drewN _ _ _⟩ | exact ⟨rfl, _, Eq.trans (World.drewN_drewN _ _ _) (congrArg (World.drewN _) (Nat.add_assoc _ _ _))⟩); have p605 : 0 ≤ (0 : Int) := (by omega); have q605 : 0 < (t600.length : Int) := of_decide_eq_true (by first | (with_reducible assumption) | assumption); obtain ⟨ad605, e605, hx605_0⟩ := Kd.at_int (Kd.R_reads' HO_3.out).2.2 0 p605 q605; obtain rfl : ad603 = ad605 := (by injection e605); have qi605 : (0 < t600.length) = True := eq_true (by omega); (try rw [show ((0 : Int)).toNat = 0 from rfl] at hx605_0); (try rw [Addr.add_zero'] at hx605_0); replace p605 := eq_true p605; replace q605 := eq_true q605) | (go_at_call 129; (with_reducible refine (spec_l01Ones.calls k1 (rd t600 0) t606 _ A10.out).mono ?_); rintro e w' ⟨rfl, ⟨nd, rfl⟩⟩; (try first | exact ⟨rfl, _, World.drewN_drewN _ _ _⟩ | exact ⟨rfl, _, Eq.trans (World.drewN_drewN _ _ _) (congrArg (World.drewN _) (Nat.add_assoc _ _ _))⟩)))
       repeat (go_quiet (first | (go_at_call 129; (with_reducible refine (spec_l01Ones.calls k1 (rd t600 x4_1) t604 _ A8.out).mono ?_); rintro e w' ⟨rfl, ⟨nd, rfl⟩⟩; (try first | exact ⟨rfl, _, World.drewN_drewN _ _ _⟩ | exact ⟨rfl, _, Eq.trans (World.drewN_drewN _ _ _) (congrArg (World.drewN _) (Nat.add_assoc _ _ _))⟩); have p605 : 0 ≤ (0 : Int) := (by omega); have q605 : 0 < (t600.length : Int) := of_decide_eq_true (by first | (with_reducible assumption) | assumption); obtain ⟨ad605, e605, hx605_0⟩ := Kd.at_int (Kd.R_reads' HO_3.out).2.2 0 p605 q605; obtain rfl : ad603 = ad605 := (by injection e605); have qi605 : (0 < t600.length) = True := eq_true (by omega); (try rw [show ((0 : Int)).toNat = 0 from rfl] at hx605_0); (try rw [Addr.add_zero'] at hx605_0); replace p605 := eq_true p605; replace q605 := eq_true q605) | (go_at_call 129; (with_reducible refine (spec_l01Ones.calls k1 (rd t600 0) t606 _ A10.out).mono ?_); rintro e w' ⟨rfl, ⟨nd, rfl⟩⟩; (try first | exact ⟨rfl, _, World.drewN_drewN _ _ _⟩ | exact ⟨rfl, _, Eq.trans (World.drewN_drewN _ _ _) (congrArg (World.drewN _) (Nat.add_assoc _ _ _))⟩))); try go_wp2_with (first | (go_at_call 129; (with_reducible refine (spec_l01Ones.calls k1 (rd t600 x4_1) t604 _ A8.out).mono ?_); rintro e w' ⟨rfl, ⟨nd, rfl⟩⟩; (try first | exact ⟨rfl, _, World.drewN_drewN _ _ _⟩ | exact ⟨rfl, _, Eq.trans (World.drewN_drewN _ _ _) (congrArg (World.drewN _) (Nat.add_assoc _ _ _))⟩); have p605 : 0 ≤ (0 : Int) := (by omega); have q605 : 0 < (t600.length : Int) := of_decide_eq_true (by first | (with_reducible assumption) | assumption); obtain ⟨ad605, e605, hx605_0⟩ := Kd.at_int (Kd.R_reads' HO_3.out).2.2 0 p605 q605; obtain rfl : ad603 = ad605 := (by injection e605); have qi605 : (0 < t600.length) = True := eq_true (by omega); (try rw [show ((0 : Int)).toNat = 0 from rfl] at hx605_0); (try rw [Addr.add_zero'] at hx605_0); replace p605 := eq_true p605; replace q605 := eq_true q605) | (go_at_call 129; (with_reducible refine (spec_l01Ones.calls k1 (rd t600 0) t606 _ A10.out).mono ?_); rintro e w' ⟨rfl, ⟨nd, rfl⟩⟩; (try first | exact ⟨rfl, _, World.drewN_drewN _ _ _⟩ | exact ⟨rfl, _, Eq.trans (World.drewN_drewN _ _ _) (congrArg (World.drewN _) (Nat.add_assoc _ _ _))⟩))))
       go_roundg k1
       case measure => have := HK1.out; omega
       case rel => exact ⟨(wrap64 (x4_1 + 1)), (by first | rfl | (simp; done) | (simp [*]; done)), H', ⟨by have := HK1.out; omega⟩, ⟨by (with_reducible repeat (first | apply Kd.R_alloc | apply Kd.R_drewN | apply Kd.R_drew)); exact HO_3.out⟩, ⟨pB BK599⟩, ⟨pH HB⟩⟩
      ·rw [if_neg c11] at H
       have c11b0 : (t604 == t606) = false := beq_eq_false_iff_ne.mpr c11
       have c11b1 : (t604 != t606) = true := bne_iff_ne.mpr c11
       obtain rfl := Option.some.inj H
       obtain ⟨Ao13, co13, eo13⟩ := Kd.R_slice HO_3.out
       subst eo13
       have p603 : 0 ≤ (x4_1 : Int) := of_decide_eq_true (by first | (with_reducible assumption) | assumption)
       have q603 : x4_1 < (t600.length : Int) := of_decide_eq_true (by first | (with_reducible assumption) | assumption)
       obtain ⟨ad603, e603, hx603_0⟩ := Kd.at_int (Kd.R_reads' HO_3.out).2.2 x4_1 p603 q603
       cases e603
       replace p603 := eq_true p603
       replace q603 := eq_true q603
       go_wp2_with (first | (go_at_call 129; (with_reducible refine (spec_l01Ones.calls k1 (rd t600 x4_1) t604 _ A8.out).mono ?_); rintro e w' ⟨rfl, ⟨nd, rfl⟩⟩; (try first | exact ⟨rfl, _, World.drewN_drewN _ _ _⟩ | exact ⟨rfl, _, Eq.trans (World.drewN_drewN _ _ _) (congrArg (World.drewN _) (Nat.add_assoc _ _ _))⟩); have p605 : 0 ≤ (0 : Int) := (by omega); have q605 : 0 < (t600.length : Int) := of_decide_eq_true (by first | (with_reducible assumption) | assumption); obtain ⟨ad605, e605, hx605_0⟩ := Kd.at_int (Kd.R_reads' HO_3.out).2.2 0 p605 q605; obtain rfl : ad603 = ad605 := (by injection e605); have qi605 : (0 < t600.length) = True := eq_true (by omega); (try rw [show ((0 : Int)).toNat = 0 from rfl] at hx605_0); (try rw [Addr.add_zero'] at hx605_0); replace p605 := eq_true p605; replace q605 := eq_true q605) | (go_at_call 129; (with_reducible refine (spec_l01Ones.calls k1 (rd t600 0) t606 _ A10.out).mono ?_); rintro e w' ⟨rfl, ⟨nd, rfl⟩⟩; (try first | exact ⟨rfl, _, World.drewN_drewN _ _ _⟩ | exact ⟨rfl, _, Eq.trans (World.drewN_drewN _ _ _) (congrArg (World.drewN _) (Nat.add_assoc _ _ _))⟩)))
       repeat (go_quiet (first | (go_at_call 129; (with_reducible refine (spec_l01Ones.calls k1 (rd t600 x4_1) t604 _ A8.out).mono ?_); rintro e w' ⟨rfl, ⟨nd, rfl⟩⟩; (try first | exact ⟨rfl, _, World.drewN_drewN _ _ _⟩ | exact ⟨rfl, _, Eq.trans (World.drewN_drewN _ _ _) (congrArg (World.drewN _) (Nat.add_assoc _ _ _))⟩); have p605 : 0 ≤ (0 : Int) := (by omega); have q605 : 0 < (t600.length : Int) := of_decide_eq_true (by first | (with_reducible assumption) | assumption); obtain ⟨ad605, e605, hx605_0⟩ := Kd.at_int (Kd.R_reads' HO_3.out).2.2 0 p605 q605; obtain rfl : ad603 = ad605 := (by injection e605); have qi605 : (0 < t600.length) = True := eq_true (by omega); (try rw [show ((0 : Int)).toNat = 0 from rfl] at hx605_0); (try rw [Addr.add_zero'] at hx605_0); replace p605 := eq_true p605; replace q605 := eq_true q605) | (go_at_call 129; (with_reducible refine (spec_l01Ones.calls k1 (rd t600 0) t606 _ A10.out).mono ?_); rintro e w' ⟨rfl, ⟨nd, rfl⟩⟩; (try first | exact ⟨rfl, _, World.drewN_drewN _ _ _⟩ | exact ⟨rfl, _, Eq.trans (World.drewN_drewN _ _ _) (congrArg (World.drewN _) (Nat.add_assoc _ _ _))⟩))); try go_wp2_with (first | (go_at_call 129; (with_reducible refine (spec_l01Ones.calls k1 (rd t600 x4_1) t604 _ A8.out).mono ?_); rintro e w' ⟨rfl, ⟨nd, rfl⟩⟩; (try first | exact ⟨rfl, _, World.drewN_drewN _ _ _⟩ | exact ⟨rfl, _, Eq.trans (World.drewN_drewN _ _ _) (congrArg (World.drewN _) (Nat.add_assoc _ _ _))⟩); have p605 : 0 ≤ (0 : Int) := (by omega); have q605 : 0 < (t600.length : Int) := of_decide_eq_true (by first | (with_reducible assumption) | assumption); obtain ⟨ad605, e605, hx605_0⟩ := Kd.at_int (Kd.R_reads' HO_3.out).2.2 0 p605 q605; obtain rfl : ad603 = ad605 := (by injection e605); have qi605 : (0 < t600.length) = True := eq_true (by omega); (try rw [show ((0 : Int)).toNat = 0 from rfl] at hx605_0); (try rw [Addr.add_zero'] at hx605_0); replace p605 := eq_true p605; replace q605 := eq_true q605) | (go_at_call 129; (with_reducible refine (spec_l01Ones.calls k1 (rd t600 0) t606 _ A10.out).mono ?_); rintro e w' ⟨rfl, ⟨nd, rfl⟩⟩; (try first | exact ⟨rfl, _, World.drewN_drewN _ _ _⟩ | exact ⟨rfl, _, Eq.trans (World.drewN_drewN _ _ _) (congrArg (World.drewN _) (Nat.add_assoc _ _ _))⟩))))
       go_ret
       exact ⟨by first | rfl | (simp [errW_none, errW_some] <;> rfl) | (simp [*, errW_none, errW_some] <;> rfl) | (exfalso; simp_all), pH HB⟩
     ·rw [if_neg c9] at H
      exact absurd H (by simp)
    ·rw [if_neg c7] at H
     exact absurd H (by simp)
   ·rw [if_neg c6] at H
    have c6b0 : decide (x4_1 < (t600.length : Int)) = false := decide_eq_false c6
    clear c6
    obtain rfl := Option.some.inj H
    obtain ⟨Ao14, co14, eo14⟩ := Kd.R_slice HO_3.out
    subst eo14
    go_wp2
    repeat (go_quiet (fail); try go_wp2)
    go_ret
    exact ⟨by first | rfl | (simp [errW_none, errW_some] <;> rfl) | (simp [*, errW_none, errW_some] <;> rfl) | (exfalso; simp_all), pH HB⟩
end Go.Proofs.Ytomdfjohnmikdaa.QS
namespace Go.Proofs.Ytomdfjohnmikdaa.Pu
set_option linter.unusedVariables false
set_option linter.unusedSimpArgs false
open Go.RowKit Go.Proofs.Ytomdfjohnmikdaa.QS Go.Proofs.Ytomdfjohnmikdaa.Im Go.Proofs.YtomdfjohnmikdaaW.PrintWords Go.Proofs.YtomdfjohnmikdaaW.PrintLast Go.Proofs.YtomdfjohnmikdaaW.PrintMore
theorem fold_max (g : Int → Int) : ∀ (l : List Int) (a : Int), a ≤ l.foldl (fun a x => max a (g x)) a ∧ (∀ x ∈ l, g x ≤ l.foldl (fun a x => max a (g x)) a) ∧ (l.foldl (fun a x => max a (g x)) a = a ∨ ∃ x ∈ l, g x = l.foldl (fun a x => max a (g x)) a)
  | [], a => ⟨Int.le_refl _, fun x hx => (by cases hx), .inl rfl⟩
  | y :: l, a => by
    obtain ⟨h1, h2, h3⟩ := fold_max g l (max a (g y))
    rw [List.foldl_cons]
    refine ⟨by omega, fun x hx => ?_, ?_⟩
    · rcases List.mem_cons.1 hx with rfl | hx
      · omega
      · exact h2 x hx
    · rcases h3 with h3 | ⟨x, hx, h3⟩
      · by_cases hm : max a (g y) = a
        · exact .inl (h3.trans hm)
        · exact .inr ⟨y, List.mem_cons_self, by omega⟩
      · exact .inr ⟨x, List.mem_cons_of_mem _ hx, h3⟩
theorem top_facet {n : Int} {l : List Int} (hi : isC n l = true) (hne : l ≠ []) : ∃ x ∈ facetsL l, onesZ x - 1 = dimL l := by
  have hr := isC_63 hi
  obtain ⟨_, _, hc⟩ := isC_of hi
  obtain ⟨h1, h2, h3⟩ := fold_max (fun x => onesZ x - 1) l (-1)
  have ht : ∃ x ∈ l, onesZ x - 1 = dimL l := by
    rcases h3 with h3 | h3
    · obtain ⟨y, r, rfl⟩ := List.exists_cons_of_ne_nil hne
      have h4 := h2 y List.mem_cons_self
      have h5 := ones_le y
      exact ⟨y, List.mem_cons_self, by unfold dimL; rw [h3] at h4 ⊢; omega⟩
    · exact h3
  obtain ⟨x, hx, hd⟩ := ht
  refine ⟨x, List.mem_filter.2 ⟨hx, ?_⟩, hd⟩
  cases hb : biggerB l x with
  | false => rfl
  | true =>
    exfalso
    obtain ⟨g, hg, hp⟩ := List.any_eq_true.1 hb
    obtain ⟨h, hh, ho⟩ := in_over hc hr (hr x hx) _ g (Nat.le_refl _) hg hp
    have h4 := h2 h hh
    simp only [overP, Bool.and_eq_true] at ho
    have h5 := eq_of_beq ho.2
    unfold dimL at hd
    omega
theorem pure_eq {n : Int} {l : List Int} (hi : isC n l = true) : ((facetsL l).all fun x => onesZ x == onesZ ((facetsL l)[0]?.getD 0)) = pureB l := by
  unfold pureB
  by_cases hne : l = []
  · subst hne; rfl
  · obtain ⟨y, hy, hd⟩ := top_facet hi hne
    have hpos : 0 < (facetsL l).length := List.length_pos_of_mem hy
    have h0 : (facetsL l)[0]?.getD 0 ∈ facetsL l := by rw [List.getElem?_eq_getElem hpos]; exact List.getElem_mem hpos
    rw [Bool.eq_iff_iff, List.all_eq_true, List.all_eq_true]
    constructor
    · intro h x hx
      have h1 := eq_of_beq (h x hx)
      have h2 := eq_of_beq (h y hy)
      unfold pureP
      rw [h1, ← h2, hd]; exact beq_self_eq_true _
    · intro h x hx
      have h1 := eq_of_beq (h x hx)
      have h2 := eq_of_beq (h _ h0)
      have : onesZ x = onesZ ((facetsL l)[0]?.getD 0) := by omega
      rw [this]; exact beq_self_eq_true _
theorem pure_loop (fs : List Int) (hl : fs.length ≤ 64) (hr : ∀ x ∈ fs, 1 ≤ x ∧ x ≤ 63) : ∀ d (i : Nat), fs.length - i = d → i ≤ fs.length →
    Ev (fun k => spec_l07Pure.l0 k fs i) ((fs.drop i).all fun x => onesZ x == onesZ (fs[0]?.getD 0)) := by
  intro d
  induction d with
  | zero =>
    intro i hd hi
    rw [List.drop_eq_nil_of_le (by omega)]
    refine Ev.step (f := fun k => some true) (fun k => ?_) (Ev.now _)
    simp only [spec_l07Pure.l0]; rw [if_neg (by omega)]
  | succ d ih =>
    intro i hd hi
    have hi' : i < fs.length := by omega
    have h0' : 0 < fs.length := by omega
    have hx := hr _ (List.getElem_mem hi')
    have hx0 := hr _ (List.getElem_mem h0')
    have hw : wrap64 ((i : Int) + 1) = ((i + 1 : Nat) : Int) := by rw [w64 (by omega) (by omega)]; omega
    have hR0 : rd fs 0 = fs[0] := rd_at (i := 0) h0'
    have hg0 : fs[0]?.getD 0 = fs[0] := by rw [List.getElem?_eq_getElem h0']; rfl
    rw [List.drop_eq_getElem_cons hi', List.all_cons, hg0]
    refine Ev.step (f := fun k => (spec_l01Ones.f k fs[i]).bind fun t285 => ((spec_l01Ones.f k fs[0]).bind fun t287 => (if t285 = t287 then (spec_l07Pure.l0 k fs ((i + 1 : Nat) : Int)) else (some false)))) (fun k => ?_) ?_
    · simp only [spec_l07Pure.l0]
      rw [if_pos (by omega), if_pos (by omega), rd_at hi', hw, hR0]
      simp only [if_pos (show (0 : Int) < (fs.length : Int) by omega)]
    · refine Ev.bind (ev_ones (by omega) (by omega)) ?_
      refine Ev.bind (ev_ones (by omega) (by omega)) ?_
      by_cases ho : onesZ fs[i] = onesZ fs[0]
      · simp only [if_pos ho]
        have := ih (i + 1) (by omega) (by omega)
        rw [hg0] at this
        rw [beq_iff_eq.2 ho, Bool.true_and]
        exact this
      · simp only [if_neg ho]
        rw [beq_eq_false_iff_ne.2 ho, Bool.false_and]
        exact Ev.now _
theorem ev_pure {n : Int} {l : List Int} (hi : isC n l = true) : Ev (fun k => spec_l07Pure.f k n l) (pureB l) := by
  unfold spec_l07Pure.f
  have hr := isC_63 hi
  have hp := pure_loop (facetsL l) (Nat.le_trans (List.length_filter_le _ _) (isC_len hi)) (fun x hx => hr x (List.mem_filter.1 hx).1) _ 0 rfl (Nat.zero_le _)
  rw [List.drop_zero, pure_eq hi] at hp
  exact Ev.bind (f := fun k t => spec_l07Pure.l0 k t 0) (ev_facets hi) hp
end Go.Proofs.Ytomdfjohnmikdaa.Pu
namespace Go.Proofs.Ytomdfjohnmikdaa.QS
open Go.Proofs.Ytomdfjohnmikdaa.Cw Go.Proofs.Ytomdfjohnmikdaa.Kp Go.Proofs.Ytomdfjohnmikdaa.Ext Go.RowKit Go.Proofs.YtomdfjohnmikdaaW.PrintWords Go.Proofs.YtomdfjohnmikdaaW.PrintLast Go.Proofs.YtomdfjohnmikdaaW.PrintMore
attribute [local go_sem] max2_int min2_int max_two min_two max_three min_three max_four min_four   -- for this text's walks alone
set_option linter.unusedVariables false
set_option linter.unusedSimpArgs false
def spec_l01Own.f (l0 : List Int) : Option (List Int) := (some (([] : List Int) : List Int)).bind fun y609 => (if y609.length + l0.length < 17592186044416 then (some (y609 ++ l0)) else (none))
set_option maxHeartbeats 8000000 in
set_option maxRecDepth 100000 in
theorem spec_l01Own.calls (A0 : Option Addr) (c0 : Nat) (l0 : List Int) (r : List Int) (w : World) (hr0 : Kd.C (Kd.int .i64) w A0 l0.length l0) (hc0 : l0.length ≤ c0) (h : spec_l01Own.f l0 = some r) :
  Calls Try.prog 132 #[.slice A0 l0.length c0] w fun e w' => ∃ v0_ : Value, e = .returned (v0_) ∧ Kd.R (Kd.int .i64) 2 w' w.heap.size (fun _ => True) v0_ r ∧ Below w.heap.size w w' := by
 have HR0 := Aside0.mk hr0
 have HC0 := Aside0.mk hc0
 clear hr0 hc0
 have HB := Aside0.mk (Below.refl w.heap.size w)
 have H : ((some (([] : List Int) : List Int)).bind fun y609 => (if y609.length + l0.length < 17592186044416 then (some (y609 ++ l0)) else (none))) = some r := h
 clear h
 obtain ⟨y609, hy609⟩ : ∃ y_ : List Int, y_ = (([] : List Int)) := ⟨_, rfl⟩
 replace H : (if y609.length + l0.length < 17592186044416 then (some (y609 ++ l0)) else (none)) = some r := by first | (rw [hy609]; with_reducible exact H) | (have H2_ := (Option.bind_some _ _).symm.trans H; rw [hy609]; with_reducible exact H2_) | (have H2_ := (Option.bind_some _ _).symm.trans H; with_reducible exact H2_) | with_reducible exact H | (rw [hy609]; exact H) | exact H
 have Ny609 := Aside0.mk hy609
 clear hy609
 by_cases c2 : y609.length + l0.length < 17592186044416
 ·rw [if_pos c2] at H
  have LMc2 := Aside0.mk c2
  clear c2
  obtain ⟨y612, hy612⟩ : ∃ y_ : List Int, y_ = (y609 ++ l0) := ⟨_, rfl⟩
  replace H : (some y612) = some r := by first | (rw [hy612]; with_reducible exact H) | (have H2_ := (Option.bind_some _ _).symm.trans H; rw [hy612]; with_reducible exact H2_) | (have H2_ := (Option.bind_some _ _).symm.trans H; with_reducible exact H2_) | with_reducible exact H | (rw [hy612]; exact H) | exact H
  have Ny612 := Aside0.mk hy612
  clear hy612
  obtain rfl := Option.some.inj H
  go_enter Try.func132, Try.ntmps132
  go_wp2_with (first | ((with_reducible refine gate_dst (N := 3) rfl ?_); refine Kd.R_lit (Kd.int .i64) _ 2 ?hg (N := 3) ?hd (xs := ([] : List Int)) (inner := []) (ok := fun _ => True) (okp := fun _ => True) ?hr ?hp (fun _ hk => hk) trivial (Below.refl _ _) (Nat.le_refl _) (by simp) ?_; (case hd => rfl); (case hg => rfl); (case hr => first | (go_simp; done) | (go_simp; rfl)); (case hp => exact (Reps.none _ _)); intro v610 w3 ho4 hb hg_ hnew_; clear hg_ hnew_; (first | rw [← Ny609.out] at ho4 | (simp only [Int.reduceToNat] at ho4; rw [← Ny609.out] at ho4)); have HO611 := Aside0.mk (Kd.R_lower ho4 (below_size (pH HB))); replace HB := sH HB hb; clear hb ho4) | ((with_reducible refine gate_builtin (b := .append) (xs := #[.tmp 3, .tmp 4]) rfl ?_); at_builtin; refine Kd.R_append_rows (Kd.int .i64) (w0 := w) w.heap.size rfl (.tmp 3) (.tmp 4) 22 2 (.int .i64 0) 8 rfl Try.underlying22 info2 rfl (by decide) (by omega) v610 y609 l0 _ _ _ (fun _ => True) (fun _ => False) rfl rfl ?aO ?aR (fun _ _ h => h) (fun _ h => h.elim) ?aF ?aB ?aS ?aL ?_; (case aR => exact pC ((Kd.C_below HR0.out HB.out))); (case aB => exact (pH HB)); (case aF => exact (fun _ _ => trivial)); (case aO => exact (pR HO611)); (case aS => exact (below_size (pH HB))); (case aL => have := LMc2.out; omega); intro v613 w5 ho hb hg hat; rw [← Ny612.out] at ho; replace HB := Aside0.mk (hb); have HO614 := Aside0.mk (ho); clear HO611; clear ho hb hg hat))
  go_ret
  exact ⟨_, by first | rfl | (simp [errW_none, errW_some] <;> rfl) | (simp [*, errW_none, errW_some] <;> rfl) | (exfalso; simp_all), by (with_reducible repeat (first | apply Kd.R_alloc | apply Kd.R_drewN | apply Kd.R_drew)); exact HO614.out, pH HB⟩
 ·rw [if_neg c2] at H
  exact absurd H (by simp)
end Go.Proofs.Ytomdfjohnmikdaa.QS
namespace Go.Proofs.Ytomdfjohnmikdaa.QS
open Go.Proofs.Ytomdfjohnmikdaa.Cw Go.Proofs.Ytomdfjohnmikdaa.Kp Go.Proofs.Ytomdfjohnmikdaa.Ext Go.RowKit Go.Proofs.YtomdfjohnmikdaaW.PrintWords Go.Proofs.YtomdfjohnmikdaaW.PrintLast Go.Proofs.YtomdfjohnmikdaaW.PrintMore
attribute [local go_sem] max2_int min2_int max_two min_two max_three min_three max_four min_four   -- for this text's walks alone
set_option linter.unusedVariables false
set_option linter.unusedSimpArgs false
mutual
def spec_l07Find.l0 : Nat → List Int → List Int → Int → List Bool → Int → Option (List Int × Bool × List Bool)
 | 0, _, _, _, _, _ => none
 | k + 1, x0, x1, x2, x3, x10 => if x10 < (x0.length : Int) then (if 0 ≤ (IntKind.u64.wrap (x10)) then (if (Go.bits .and .i64 (shr .i64 x2 (IntKind.u64.wrap (x10))) 1) = 1 then (spec_l07Find.l0 k x0 x1 x2 x3 (wrap64 (x10 + 1))) else (if 0 ≤ x10 then ((spec_l07Goes.f k x1 (rd x0 x10)).bind fun bt618 => (if bt618.1 = true then ((spec_l01Own.f x1).bind fun t620 => ((some (([rd x0 x10] : List Int) : List Int)).bind fun y624 => (if t620.length + y624.length < 17592186044416 then ((spec_l07Find.f k x0 (t620 ++ y624) (Go.bits .or .i64 x2 (shl .i64 1 (IntKind.u64.wrap (x10)))) x3).bind fun bt630 => (if bt630.2.1 = true then (some (bt630.1, true, bt630.2.2)) else (spec_l07Find.l0 k x0 x1 x2 bt630.2.2 (wrap64 (x10 + 1))))) else (none)))) else (spec_l07Find.l0 k x0 x1 x2 x3 (wrap64 (x10 + 1))))) else (none))) else (none)) else (if 0 ≤ x2 then (if x2 < (x3.length : Int) then (some (([] : List Int), false, (x3.set (x2 : Int).toNat true))) else (none)) else (none))
def spec_l07Find.f : Nat → List Int → List Int → Int → List Bool → Option (List Int × Bool × List Bool)
 | 0, _, _, _, _ => none
 | k + 1, l0, l1, a2, l3 => if (l1.length : Int) = (l0.length : Int) then (some (l1, true, l3)) else (if 0 ≤ a2 then (if a2 < (l3.length : Int) then (if rdOf false l3 a2 = true then (some (([] : List Int), false, l3)) else (spec_l07Find.l0 k l0 l1 a2 l3 0)) else (none)) else (none))
end
def spec_l07Find.T11 : Bool × List (List Nat × List Nat) := (true, [([], []), ([], []), ([1], [1]), ([], []), ([], []), ([3, 4], [3, 4]), ([5], [5]), ([6], [6]), ([2, 7, 2], [2, 7]), ([], []), ([], []), ([10], [10]), ([11], [11]), ([9, 12], [9, 12]), ([], []), ([0, 8, 13, 14, 8], [0, 8, 13, 14]), ([15], [15]), ([16], [16]), ([16], [16]), ([17, 15, 0, 1, 2, 3, 4, 5, 6, 7, 8, 9, 10, 11, 12, 13, 14, 15, 16, 17], [17]), ([18, 19, 0, 1, 2, 3, 4, 5, 6, 7, 8, 9, 10, 11, 12, 13, 14, 15, 16, 17, 18, 19], [18])])
def spec_l07Find.B11 : List Nat := [0, 0, 2, 0, 0, 24, 56, 120, 254, 0, 0, 1024, 3072, 7680, 0, 32767, 65535, 131071, 131071, 262143, 1048575]
theorem spec_l07Find.tab11 : rtab .any (opsOf Try.f82 11) = spec_l07Find.T11 := by kernel_rfl
theorem spec_l07Find.bits11 : waitsOk spec_l07Find.T11.2 spec_l07Find.B11 = true := by kernel_rfl
set_option maxHeartbeats 8000000 in
set_option maxRecDepth 100000 in
theorem spec_l07Find.calls (k : Nat) : ∀ (A0 : Option Addr) (c0 : Nat) (l0 : List Int) (P1_ : Nat → Prop) (u9000_ : Value) (l1 : List Int) (a2 : Int) (P3_ : Nat → Prop) (u9001_ : Value) (l3 : List Bool) (r1 : List Int) (r2 : Bool) (r3 : List Bool) (w0 w : World) (hB : Below w0.heap.size w0 w) (hr0 : ∀ W_, Kept w W_ (fun k_ => P1_ k_ ∨ P3_ k_) → Kd.C (Kd.int .i64) W_ A0 l0.length l0) (hc0 : l0.length ≤ c0) (ho1 : Kd.R (Kd.int .i64) 2 w w0.heap.size P1_ u9000_ l1) (ho3 : Kd.R Kd.bool 4 w w0.heap.size P3_ u9001_ l3) (h : spec_l07Find.f k l0 l1 a2 l3 = some (r1, r2, r3)),
  Calls Try.prog 82 #[.slice A0 l0.length c0, u9000_, .int .i64 a2, u9001_] w fun e w' => ∃ v0_ : Value, e = .returned (.tuple #[v0_, .bool r2]) ∧ Kd.R (Kd.int .i64) 2 w' w0.heap.size (fun k_ => ((P1_ k_ ∨ P3_ k_) ∨ w.heap.size ≤ k_)) v0_ r1 ∧ Kd.R Kd.bool 4 w' w0.heap.size (fun k_ => ((P1_ k_ ∨ P3_ k_) ∨ w.heap.size ≤ k_)) u9001_ r3 ∧ Below w0.heap.size w0 w' ∧ Kept w w' (fun k_ => P1_ k_ ∨ P3_ k_) := by
 induction k using Nat.strongRecOn with
 | _ k ih =>
 intro A0 c0 l0 P1_ u9000_ l1 a2 P3_ u9001_ l3 r1 r2 r3 w0 w hB hr0 hc0 ho1 ho3 h
 cases k with
 | zero => exact absurd h (by simp [spec_l07Find.f])
 | succ k =>
 simp only [spec_l07Find.f] at h
 have HR0 := Aside0.mk hr0
 have HC0 := Aside0.mk hc0
 clear hr0 hc0
 have HO1 := Aside0.mk (show Kd.R (Kd.int .i64) 2 w w0.heap.size (fun k_ => ((P1_ k_ ∨ P3_ k_) ∨ w.heap.size ≤ k_)) u9000_ l1 from Kd.R_mono ho1 (fun k_ hk => (.inl (.inl hk))))
 have HO3 := Aside0.mk (show Kd.R Kd.bool 4 w w0.heap.size (fun k_ => ((P1_ k_ ∨ P3_ k_) ∨ w.heap.size ≤ k_)) u9001_ l3 from Kd.R_mono ho3 (fun k_ hk => (.inl (.inr hk))))
 have HK := Aside0.mk (Kept.refl w (fun k_ => P1_ k_ ∨ P3_ k_))
 have HW0 := Aside0.mk hB.size
 have HB := Aside0.mk hB
 clear hB
 have H : (if (l1.length : Int) = (l0.length : Int) then (some (l1, true, l3)) else (if 0 ≤ a2 then (if a2 < (l3.length : Int) then (if rdOf false l3 a2 = true then (some (([] : List Int), false, l3)) else (spec_l07Find.l0 k l0 l1 a2 l3 0)) else (none)) else (none))) = some (r1, r2, r3) := h
 clear h
 by_cases c5 : (l1.length : Int) = (l0.length : Int)
 ·rw [if_pos c5] at H
  have c5b0 : ((l1.length : Int) == (l0.length : Int)) = true := beq_iff_eq.mpr c5
  have c5b1 : ((l1.length : Int) != (l0.length : Int)) = false := bne_eq_false_iff_eq.mpr c5
  have c5b2 : (l1.length == l0.length) = true := by first | simpa using c5 | (simp at c5 ⊢; omega)
  clear c5
  simp only [Option.some.injEq, Prod.mk.injEq] at H
  obtain ⟨rfl, rfl, rfl⟩ := H
  obtain ⟨Ao6, co6, eo6⟩ := Kd.R_slice HO1.out
  subst eo6
  go_enter Try.func82, Try.ntmps82
  go_wp2
  go_ret2
  exact ⟨_, by first | rfl | (simp [errW_none, errW_some] <;> rfl) | (simp [*, errW_none, errW_some] <;> rfl) | (exfalso; simp_all), by (with_reducible repeat (first | apply Kd.R_alloc | apply Kd.R_drewN | apply Kd.R_drew)); exact HO1.out, by (with_reducible repeat (first | apply Kd.R_alloc | apply Kd.R_drewN | apply Kd.R_drew)); exact HO3.out, by repeat (first | (with_reducible first | exact HB.out | apply below_alloc | apply pw_below_drewN | apply below_drew1) | exact HB.out), by repeat (first | (with_reducible first | exact HK.out | apply Kept.alloc | apply Kept.drewN | apply Kept.drew) | exact HK.out)⟩
 ·rw [if_neg c5] at H
  have c5b0 : ((l1.length : Int) == (l0.length : Int)) = false := beq_eq_false_iff_ne.mpr c5
  have c5b1 : ((l1.length : Int) != (l0.length : Int)) = true := bne_iff_ne.mpr c5
  have c5b2 : (l1.length == l0.length) = false := by first | simpa using c5 | (simp at c5 ⊢; omega)
  by_cases c7 : 0 ≤ a2
  ·rw [if_pos c7] at H
   have c7b0 : decide (0 ≤ a2) = true := decide_eq_true c7
   clear c7
   by_cases c8 : a2 < (l3.length : Int)
   ·rw [if_pos c8] at H
    have c8b0 : decide (a2 < (l3.length : Int)) = true := decide_eq_true c8
    clear c8
    obtain ⟨bq9, hbq9⟩ : ∃ b_ : Bool, b_ = (rdOf false l3 a2) := ⟨_, rfl⟩
    replace H : (if bq9 = true then (some (([] : List Int), false, l3)) else (spec_l07Find.l0 k l0 l1 a2 l3 0)) = some (r1, r2, r3) := by rw [← hbq9] at H; exact H
    have Nbq9 := Aside0.mk hbq9
    clear hbq9
    by_cases c10 : bq9 = true
    ·subst c10
     have H1 : (some (([] : List Int), false, l3)) = some (r1, r2, r3) := by rw [if_pos rfl] at H; exact H
     clear H
     have H := H1
     clear H1
     simp only [Option.some.injEq, Prod.mk.injEq] at H
     obtain ⟨rfl, rfl, rfl⟩ := H
     obtain ⟨Ao11, co11, eo11⟩ := Kd.R_slice HO1.out
     subst eo11
     obtain ⟨Ao12, co12, eo12⟩ := Kd.R_slice HO3.out
     subst eo12
     have p615 : 0 ≤ (a2 : Int) := of_decide_eq_true (by first | (with_reducible assumption) | assumption)
     have q615 : a2 < (l3.length : Int) := of_decide_eq_true (by first | (with_reducible assumption) | assumption)
     obtain ⟨ad615, e615, hx615_0⟩ := Kd.at_bool (Kd.R_reads' HO3.out).2.2 a2 p615 q615
     (try rw [← Nbq9.out] at hx615_0)
     cases e615
     replace p615 := eq_true p615
     replace q615 := eq_true q615
     go_enter Try.func82, Try.ntmps82
     go_wp2
     go_ret2
     exact ⟨_, by first | rfl | (simp [errW_none, errW_some] <;> rfl) | (simp [*, errW_none, errW_some] <;> rfl) | (exfalso; simp_all), by first | exact Kd.R_nil _ _ _ _ _ | exact Kd.N_nil _ _ _ _ _ | exact Kd.V_nil _ _ _ _ _ | exact Kd.Q_nil _ _ _ _ _ | exact Kd.S_nil _ _ _ _ _, by (with_reducible repeat (first | apply Kd.R_alloc | apply Kd.R_drewN | apply Kd.R_drew)); exact HO3.out, by repeat (first | (with_reducible first | exact HB.out | apply below_alloc | apply pw_below_drewN | apply below_drew1) | exact HB.out), by repeat (first | (with_reducible first | exact HK.out | apply Kept.alloc | apply Kept.drewN | apply Kept.drew) | exact HK.out)⟩
    ·replace c10 := Bool.eq_false_iff.mpr c10
     subst c10
     have H1 : (spec_l07Find.l0 k l0 l1 a2 l3 0) = some (r1, r2, r3) := by rw [if_neg (show ¬ (false = true) by decide)] at H; exact H
     clear H
     have H := H1
     clear H1
     have H' := Aside0.mk H
     clear H
     obtain ⟨Ao13, co13, eo13⟩ := Kd.R_slice HO1.out
     subst eo13
     obtain ⟨Ao14, co14, eo14⟩ := Kd.R_slice HO3.out
     subst eo14
     have p615 : 0 ≤ (a2 : Int) := of_decide_eq_true (by first | (with_reducible assumption) | assumption)
     have q615 : a2 < (l3.length : Int) := of_decide_eq_true (by first | (with_reducible assumption) | assumption)
     obtain ⟨ad615, e615, hx615_0⟩ := Kd.at_bool (Kd.R_reads' HO3.out).2.2 a2 p615 q615
     (try rw [← Nbq9.out] at hx615_0)
     cases e615
     replace p615 := eq_true p615
     replace q615 := eq_true q615
     go_enter Try.func82, Try.ntmps82
     go_wp2
     go_loopg [10] k (fun kq v10 w' => ∃ (x3_1 : List Bool) (x10_1 : Int), v10 = .int .i64 x10_1 ∧ Aside0 (spec_l07Find.l0 kq l0 l1 a2 x3_1 x10_1 = some (r1, r2, r3)) ∧ Aside0 (kq ≤ k) ∧ Aside0 (Kd.R (Kd.int .i64) 2 w' w0.heap.size (fun k_ => ((P1_ k_ ∨ P3_ k_) ∨ w.heap.size ≤ k_)) (.slice Ao13 l1.length co13) l1) ∧ Aside0 (Kd.R Kd.bool 4 w' w0.heap.size (fun k_ => ((P1_ k_ ∨ P3_ k_) ∨ w.heap.size ≤ k_)) (.slice (some ad615) l3.length co14) x3_1) ∧ Aside0 (Kept w w' (fun k_ => P1_ k_ ∨ P3_ k_)) ∧ Aside0 (Below w0.heap.size w0 w'))
     case atStart => exact ⟨(l3), (0), (by first | rfl | (simp; done) | (simp [*]; done)), H', ⟨Nat.le_refl _⟩, ⟨by (with_reducible repeat (first | apply Kd.R_alloc | apply Kd.R_drewN | apply Kd.R_drew)); exact HO1.out⟩, ⟨by (with_reducible repeat (first | apply Kd.R_alloc | apply Kd.R_drewN | apply Kd.R_drew)); exact HO3.out⟩, ⟨by repeat (first | (with_reducible first | exact HK.out | apply Kept.alloc | apply Kept.drewN | apply Kept.drew) | exact HK.out)⟩, ⟨pH HB⟩⟩
     case round =>
      clear H'
      try clear c1
      try clear p2
      try clear c5
      try clear c5b0
      try clear c5b1
      try clear c5b2
      try clear p6
      try clear q6
      try clear hx6
      try clear c7
      try clear c7b0
      try clear c8
      try clear c8b0
      try clear q9
      try clear c10
      try clear hx615_0
      try clear p615
      try clear q615
      obtain ⟨x3_1, x10_1, rfl, HA, HK1, HO_1, HO_3, HK, HB⟩ := hrel
      have hl3_1 := (Kd.R_reads' HO_3.out).1
      rw [hl3_1] at HO_3
      (try simp only [hl3_1])
      (try simp only [hl3_1] at HO_1)
      cases gk with
      | zero => exact absurd HA.out (by simp [spec_l07Find.l0])
      | succ k1 =>
       have H := HA.out
       clear HA
       simp only [spec_l07Find.l0] at H
       by_cases c15 : x10_1 < (l0.length : Int)
       ·rw [if_pos c15] at H
        have c15b0 : decide (x10_1 < (l0.length : Int)) = true := decide_eq_true c15
        (try (have c15z0_hl3_1 := c15b0; simp only [hl3_1] at c15z0_hl3_1))
        clear c15
        obtain ⟨ji16, hji16⟩ : ∃ j_ : Int, (IntKind.u64.wrap (x10_1)) = j_ := ⟨_, rfl⟩
        replace H : (if 0 ≤ (ji16) then (if (Go.bits .and .i64 (shr .i64 a2 (ji16)) 1) = 1 then (spec_l07Find.l0 k1 l0 l1 a2 x3_1 (wrap64 (x10_1 + 1))) else (if 0 ≤ x10_1 then ((spec_l07Goes.f k1 l1 (rd l0 x10_1)).bind fun bt618 => (if bt618.1 = true then ((spec_l01Own.f l1).bind fun t620 => ((some (([rd l0 x10_1] : List Int) : List Int)).bind fun y624 => (if t620.length + y624.length < 17592186044416 then ((spec_l07Find.f k1 l0 (t620 ++ y624) (Go.bits .or .i64 a2 (shl .i64 1 (ji16))) x3_1).bind fun bt630 => (if bt630.2.1 = true then (some (bt630.1, true, bt630.2.2)) else (spec_l07Find.l0 k1 l0 l1 a2 bt630.2.2 (wrap64 (x10_1 + 1))))) else (none)))) else (spec_l07Find.l0 k1 l0 l1 a2 x3_1 (wrap64 (x10_1 + 1))))) else (none))) else (none)) = some (r1, r2, r3) := by first | (rw [hji16] at H; exact H) | (simp only [hji16] at H ⊢; exact H)
        by_cases c17 : 0 ≤ (ji16)
        ·rw [if_pos c17] at H
         have c17b0 := eq_true c17
         have c17b1 : decide (0 ≤ (ji16)) = true := decide_eq_true c17
         clear c17
         obtain ⟨ji18, hji18⟩ : ∃ j_ : Int, (shr .i64 a2 (ji16)) = j_ := ⟨_, rfl⟩
         replace H : (if (Go.bits .and .i64 (ji18) 1) = 1 then (spec_l07Find.l0 k1 l0 l1 a2 x3_1 (wrap64 (x10_1 + 1))) else (if 0 ≤ x10_1 then ((spec_l07Goes.f k1 l1 (rd l0 x10_1)).bind fun bt618 => (if bt618.1 = true then ((spec_l01Own.f l1).bind fun t620 => ((some (([rd l0 x10_1] : List Int) : List Int)).bind fun y624 => (if t620.length + y624.length < 17592186044416 then ((spec_l07Find.f k1 l0 (t620 ++ y624) (Go.bits .or .i64 a2 (shl .i64 1 (ji16))) x3_1).bind fun bt630 => (if bt630.2.1 = true then (some (bt630.1, true, bt630.2.2)) else (spec_l07Find.l0 k1 l0 l1 a2 bt630.2.2 (wrap64 (x10_1 + 1))))) else (none)))) else (spec_l07Find.l0 k1 l0 l1 a2 x3_1 (wrap64 (x10_1 + 1))))) else (none))) = some (r1, r2, r3) := by first | (rw [hji18] at H; exact H) | (simp only [hji18] at H ⊢; exact H)
         have hji18_ : (a2 / 2 ^ min (ji16).toNat 64) = ji18 := hji18
         have hji18z : (ji16) ≤ 64 → (a2 / 2 ^ (ji16).toNat) = ji18 := shr_small hji18
         by_cases c19 : (Go.bits .and .i64 (ji18) 1) = 1
         ·rw [if_pos c19] at H
          have c19b0 : ((Go.bits .and .i64 (ji18) 1) == 1) = true := beq_iff_eq.mpr c19
          have c19b1 : ((Go.bits .and .i64 (ji18) 1) != 1) = false := bne_eq_false_iff_eq.mpr c19
          clear c19
          have H' := Aside0.mk H
          clear H
          go_wp2
          (try simp only [← hl3_1])
          go_roundg k1
          case measure => have := HK1.out; omega
          case rel => exact ⟨(x3_1), (wrap64 (x10_1 + 1)), (by first | rfl | (simp; done) | (simp [*]; done)), H', ⟨by have := HK1.out; omega⟩, ⟨by (try simp only [hl3_1]); (with_reducible repeat (first | apply Kd.R_alloc | apply Kd.R_drewN | apply Kd.R_drew)); exact HO_1.out⟩, ⟨by (try simp only [hl3_1]); (with_reducible repeat (first | apply Kd.R_alloc | apply Kd.R_drewN | apply Kd.R_drew)); exact HO_3.out⟩, ⟨by repeat (first | (with_reducible first | exact HK.out | apply Kept.alloc | apply Kept.drewN | apply Kept.drew) | exact HK.out)⟩, ⟨pH HB⟩⟩
         ·rw [if_neg c19] at H
          have c19b0 : ((Go.bits .and .i64 (ji18) 1) == 1) = false := beq_eq_false_iff_ne.mpr c19
          have c19b1 : ((Go.bits .and .i64 (ji18) 1) != 1) = true := bne_iff_ne.mpr c19
          by_cases c20 : 0 ≤ x10_1
          ·rw [if_pos c20] at H
           have c20b0 : decide (0 ≤ x10_1) = true := decide_eq_true c20
           clear c20
           replace H := Option.bind_eq_some_iff.mp H
           obtain ⟨⟨t618, t619⟩, A210, H⟩ := H
           try dsimp only at H
           have A21 := Aside0.mk A210
           clear A210
           by_cases c22 : t618 = true
           ·subst c22
            have H1 : ((spec_l01Own.f l1).bind fun t620 => ((some (([rd l0 x10_1] : List Int) : List Int)).bind fun y624 => (if t620.length + y624.length < 17592186044416 then ((spec_l07Find.f k1 l0 (t620 ++ y624) (Go.bits .or .i64 a2 (shl .i64 1 (ji16))) x3_1).bind fun bt630 => (if bt630.2.1 = true then (some (bt630.1, true, bt630.2.2)) else (spec_l07Find.l0 k1 l0 l1 a2 bt630.2.2 (wrap64 (x10_1 + 1))))) else (none)))) = some (r1, r2, r3) := by rw [if_pos rfl] at H; exact H
            clear H
            have H := H1
            clear H1
            replace H := Option.bind_eq_some_iff.mp H
            obtain ⟨t620, A230, H⟩ := H
            try dsimp only at H
            have A23 := Aside0.mk A230
            clear A230
            obtain ⟨y624, hy624⟩ : ∃ y_ : List Int, y_ = (([rd l0 x10_1] : List Int)) := ⟨_, rfl⟩
            replace H : (if t620.length + y624.length < 17592186044416 then ((spec_l07Find.f k1 l0 (t620 ++ y624) (Go.bits .or .i64 a2 (shl .i64 1 (ji16))) x3_1).bind fun bt630 => (if bt630.2.1 = true then (some (bt630.1, true, bt630.2.2)) else (spec_l07Find.l0 k1 l0 l1 a2 bt630.2.2 (wrap64 (x10_1 + 1))))) else (none)) = some (r1, r2, r3) := by first | (rw [hy624]; with_reducible exact H) | (have H2_ := (Option.bind_some _ _).symm.trans H; rw [hy624]; with_reducible exact H2_) | (have H2_ := (Option.bind_some _ _).symm.trans H; with_reducible exact H2_) | with_reducible exact H | (rw [hy624]; exact H) | exact H
            have Ny624 := Aside0.mk hy624
            clear hy624
            by_cases c24 : t620.length + y624.length < 17592186044416
            ·rw [if_pos c24] at H
             have LMc24 := Aside0.mk c24
             clear c24
             obtain ⟨y627, hy627⟩ : ∃ y_ : List Int, y_ = (t620 ++ y624) := ⟨_, rfl⟩
             replace H : ((spec_l07Find.f k1 l0 y627 (Go.bits .or .i64 a2 (shl .i64 1 (ji16))) x3_1).bind fun bt630 => (if bt630.2.1 = true then (some (bt630.1, true, bt630.2.2)) else (spec_l07Find.l0 k1 l0 l1 a2 bt630.2.2 (wrap64 (x10_1 + 1))))) = some (r1, r2, r3) := by first | (rw [hy627]; with_reducible exact H) | (have H2_ := (Option.bind_some _ _).symm.trans H; rw [hy627]; with_reducible exact H2_) | (have H2_ := (Option.bind_some _ _).symm.trans H; with_reducible exact H2_) | with_reducible exact H | (rw [hy627]; exact H) | exact H
             have Ny627 := Aside0.mk hy627
             clear hy627
             have c25b0 := eq_true (of_decide_eq_true (by first | (with_reducible assumption) | assumption) : 0 ≤ (ji16))
             obtain ⟨ji26, hji26⟩ : ∃ j_ : Int, (shl .i64 1 (ji16)) = j_ := ⟨_, rfl⟩
             replace H : ((spec_l07Find.f k1 l0 y627 (Go.bits .or .i64 a2 (ji26)) x3_1).bind fun bt630 => (if bt630.2.1 = true then (some (bt630.1, true, bt630.2.2)) else (spec_l07Find.l0 k1 l0 l1 a2 bt630.2.2 (wrap64 (x10_1 + 1))))) = some (r1, r2, r3) := by first | (rw [hji26] at H; exact H) | (simp only [hji26] at H ⊢; exact H)
             (try rw [hji26] at A21)
             (try rw [hji26] at A23)
             have hji26_ : (IntKind.i64.wrap (1 * 2 ^ min (ji16).toNat 64)) = ji26 := hji26
             have hji26z : (ji16) ≤ 64 → (IntKind.i64.wrap (1 * 2 ^ (ji16).toNat)) = ji26 := shl_small hji26
             have hji26u : (IntKind.i64.wrap (2 ^ min (ji16).toNat 64)) = ji26 := by have h_ := hji26_; rw [Int.one_mul] at h_; exact h_
             have hji26v : (ji16) ≤ 64 → (IntKind.i64.wrap (2 ^ (ji16).toNat)) = ji26 := fun hle_ => by have h_ := hji26z hle_; rw [Int.one_mul] at h_; exact h_
             have hji26y : (wrap64 (1 * 2 ^ min (ji16).toNat 64)) = ji26 := (i64_w _).symm.trans hji26_
             have hji26x : (ji16) ≤ 64 → (wrap64 (1 * 2 ^ (ji16).toNat)) = ji26 := fun h_ => (i64_w _).symm.trans (hji26z h_)
             replace H := Option.bind_eq_some_iff.mp H
             obtain ⟨⟨t630, t633, t634⟩, A270, H⟩ := H
             try dsimp only at H
             have A27 := Aside0.mk A270
             clear A270
             by_cases c28 : t633 = true
             ·subst c28
              have H1 : (some (t630, true, t634)) = some (r1, r2, r3) := by rw [if_pos rfl] at H; exact H
              clear H
              have H := H1
              clear H1
              simp only [Option.some.injEq, Prod.mk.injEq] at H
              obtain ⟨rfl, rfl, rfl⟩ := H
              have p617 : 0 ≤ (x10_1 : Int) := of_decide_eq_true (by first | (with_reducible assumption) | assumption)
              have q617 : x10_1 < (l0.length : Int) := of_decide_eq_true (by first | (with_reducible assumption) | assumption)
              obtain ⟨ad617, e617, hx617_0⟩ := Kd.at_int (Kd.C_kept_now HR0.out HK.out) x10_1 p617 q617
              cases e617
              replace p617 := eq_true p617
              replace q617 := eq_true q617
              try go_wp2_with (first | ((with_reducible refine gate_callee (f := 131) rfl ?_); refine cl_ (some 43) Try.func131 #[.slice Ao13 l1.length co13, .int .i64 (rd l0 x10_1)] ?_; (with_reducible refine (spec_l07Goes.calls k1 _ _ l1 (rd l0 x10_1) true t619 _ ?side1 ?side2 A21.out).mono ?_); (case side1 => exact pC ((Kd.R_reads' HO_1.out).2.2)); (case side2 => exact (Kd.R_reads' HO_1.out).2.1); rintro e w' ⟨rfl, ⟨nd, rfl⟩⟩; refine ⟨_, rfl, ?_⟩))
              (try (rw [drewN_self wr]; generalize hq_ : World.drewN wr _ = wr; have n0_ : Aside0 (Kd.R (Kd.int .i64) 2 wr w0.heap.size (fun k_ => ((P1_ k_ ∨ P3_ k_) ∨ w.heap.size ≤ k_)) (.slice Ao13 l1.length co13) l1) := ⟨by rw [← hq_]; exact (pR HO_1)⟩; have n1_ : Aside0 (Kd.R Kd.bool 4 wr w0.heap.size (fun k_ => ((P1_ k_ ∨ P3_ k_) ∨ w.heap.size ≤ k_)) (.slice (some ad615) x3_1.length co14) x3_1) := ⟨by rw [← hq_]; exact (pR HO_3)⟩; have n2_ : Aside0 (Kept w wr (fun k_ => P1_ k_ ∨ P3_ k_)) := ⟨by rw [← hq_]; exact (by repeat (first | (with_reducible first | exact HK.out | apply Kept.alloc | apply Kept.drewN | apply Kept.drew) | exact HK.out))⟩; have n3_ : Aside0 (Below w0.heap.size w0 wr) := ⟨by rw [← hq_]; exact (pH HB)⟩; clear HO_1 HO_3 HK HB hq_; have HO_1 := n0_; have HO_3 := n1_; have HK := n2_; have HB := n3_; clear n0_ n1_ n2_ n3_))
              replace HO_1 := Aside0.mk (Kd.R_drew HO_1.out)
              replace HO_3 := Aside0.mk (Kd.R_drew HO_3.out)
              replace HK := Aside0.mk (Kept.drew HK.out)
              replace HB := dH HB
              have p623 : 0 ≤ (x10_1 : Int) := of_decide_eq_true (by first | (with_reducible assumption) | assumption)
              have q623 : x10_1 < (l0.length : Int) := of_decide_eq_true (by first | (with_reducible assumption) | assumption)
              obtain ⟨ad623, e623, hx623_0⟩ := Kd.at_int (Kd.C_kept_now HR0.out HK.out) x10_1 p623 q623
              have hw623_0 := hx623_0
              obtain rfl : ad617 = ad623 := (by injection e623)
              replace p623 := eq_true p623
              replace q623 := eq_true q623
              refine st_ 21 (S := fun w' => w'.cell? (ad617.add (x10_1).toNat) = some (.int .i64 (rd l0 x10_1))) (ds := []) ((Kd.foot_int (HR0.out _ (by repeat (first | exact HK.out | apply Kept.alloc | apply Kept.drewN | apply Kept.drew))) x10_1 (of_eq_true p623) (of_eq_true q623))) (fun hHeld => ?_); refine with_tabW spec_l07Find.tab11 spec_l07Find.bits11 (fun HT_ HW_ => ?_)
              generalize wr.drew = w29 at HO_1 HO_3 HK HB hx623_0 hHeld ⊢
              refine pu_ 0 49 1 HT_ ?_
              refine pu_ 1 50 3 HT_ ?_
              refine pu_ 3 52 11 HT_ ?_
              refine pu_ 4 53 27 HT_ ?_
              refine pu_ 5 54 59 HT_ ?_
              refine pu_ 9 58 571 HT_ ?_
              refine pu_ 10 59 1595 HT_ ?_
              refine pu_ 11 60 3643 HT_ ?_
              refine pu_ 12 61 7739 HT_ ?_
              refine pu_ 13 62 15931 HT_ ?_
              refine pu_ 14 63 32315 HT_ ?_
              refine take_ (i := 6) (N := some 55) (v := ?_) (a' := ?_) (mB 21 32379) rfl rfl (take_ofW HT_.out HW_.out (by kernel_rfl)) (fun _ _ _ h => h) (Or.inl ⟨by rfl, ?_⟩) hHeld ?_ ?_
              rotate_left
              ·intro w' s0
               go_simp
               with_reducible rfl
              rotate_left
              ·simp only [Act.put, List.setIfInBounds_toArray, List.set_cons_zero, List.set_cons_succ, i64_w, i32_w]
               rfl
              refine join_ (σ := Value × Value) 7 (mB 21 32511) (fun s_ => [(51, s_.1), (56, s_.2)]) (fun s_ w' => (w'.cell? (ad617.add (x10_1).toNat) = some (.int .i64 (rd l0 x10_1))) ∧ (Kd.R (Kd.int .i64) 2 w' w0.heap.size (fun k_ => ((P1_ k_ ∨ P3_ k_) ∨ w.heap.size ≤ k_) ∧ some k_ ≠ (s_.2 : Value).ownBlock ∧ some k_ ≠ (.slice Ao13 l1.length co13 : Value).ownBlock) s_.1 t620) ∧ (Kd.R (Kd.int .i64) 2 w' w0.heap.size (fun k_ => ((P1_ k_ ∨ P3_ k_) ∨ w.heap.size ≤ k_) ∧ some k_ ≠ (s_.1 : Value).ownBlock ∧ some k_ ≠ (.slice Ao13 l1.length co13 : Value).ownBlock) s_.2 y624) ∧ (Kd.R (Kd.int .i64) 2 w' w0.heap.size (fun k_ => ((P1_ k_ ∨ P3_ k_) ∨ w.heap.size ≤ k_) ∧ some k_ ≠ (s_.1 : Value).ownBlock ∧ some k_ ≠ (s_.2 : Value).ownBlock) (.slice Ao13 l1.length co13) l1) ∧ (Kd.R Kd.bool 4 w' w0.heap.size (fun k_ => ((P1_ k_ ∨ P3_ k_) ∨ w.heap.size ≤ k_)) (.slice (some ad615) x3_1.length co14) x3_1) ∧ (Kept w w' (fun k_ => P1_ k_ ∨ P3_ k_)) ∧ (Below w0.heap.size w0 w')) ?_ ?_
              rotate_left
              ·intro hCont
               refine two_ (i := 2) (j := 7) (Ni := some 51) (Nj := some 56) (mB 21 32383) (mB 21 32507) rfl rfl rfl rfl (two_of HT_.out (by kernel_rfl)) (by decide) (by decide) (fun K hK => ?_) (fun K hK => ?_)
               ·skip
                refine ca_ Try.func132 #[.slice Ao13 l1.length co13] ?_
                with_reducible refine (spec_l01Own.calls _ _ l1 t620 _ ?side1 ?side2 A23.out).mono ?_
                (case side1 => exact pC ((Kd.R_reads' HO_1.out).2.2))
                (case side2 => exact (Kd.R_reads' HO_1.out).2.1)
                rintro e w30 ⟨v621, rfl, ho0, hb⟩
                refine ⟨_, rfl, ?_⟩
                replace HO_3 := sR HO_3 hb
                have HO622 := Aside0.mk (Kd.R_lower (Kd.R_new' (Kd.R_newM (M := fun k_ => ((P1_ k_ ∨ P3_ k_) ∨ w.heap.size ≤ k_)) ho0 (by first | exact HK.out.1 | exact (show Kept w _ (fun k_ => P1_ k_ ∨ P3_ k_) from by repeat (first | (with_reducible first | exact HK.out | apply Kept.alloc | apply Kept.drewN | apply Kept.drew) | exact HK.out)).1) (fun k_ h_ => .inr h_)) (Kd.R_lt (pR HO_1))) (below_size (pH HB)))
                replace HO_1 := Aside0.mk (Kd.R_elder' (pR HO_1) (Kd.R_base ho0) hb)
                replace HK := Aside0.mk (Kept.below (S := (fun k_ => P1_ k_ ∨ P3_ k_)) (by repeat (first | (with_reducible first | exact HK.out | apply Kept.alloc | apply Kept.drewN | apply Kept.drew) | exact HK.out)) hb)
                replace HB := sH HB hb
                (try clear hb)
                (try clear hb2)
                (try clear hk)
                (try clear hi)
                (try clear ho0)
                refine hK.out _ _ ((Kd.foot_int (HR0.out _ (by repeat (first | exact HK.out | apply Kept.alloc | apply Kept.drewN | apply Kept.drew))) x10_1 (of_eq_true p623) (of_eq_true q623))) (fun hHeld => ?_)
                clear hK K
                refine nm_ ?_
                refine on_ 7 (some 56) 32511 HT_ (fun K hK => ?_)
                refine Kd.R_lit_step (Kd.int .i64) _ 2 ?hg (N := 56) ?hd (xs := ([rd l0 x10_1] : List Int)) (inner := [.int .i64 (rd l0 x10_1)]) (ok := fun _ => True) (okp := fun _ => True) ?hr ?hp (fun _ hk => hk) trivial (Below.refl _ _) (Nat.le_refl _) (by simp) ?_; (case hd => rfl); (case hg => rfl); (case hr => first | (go_simp; done) | (go_simp; rfl)); (case hp => exact (Reps.one (show Kd.M (Kd.int .i64) _ _ _ (rd l0 x10_1) [.int .i64 (rd l0 x10_1)] from rfl) (Reps.none _ _)))
                intro v625 w31 ho32 hb hg_ hnew_
                clear hg_ hnew_
                (first | rw [← Ny624.out] at ho32 | (simp only [Int.reduceToNat] at ho32; rw [← Ny624.out] at ho32))
                replace HO_3 := sR HO_3 hb
                have HO626 := Aside0.mk (Kd.R_lower (Kd.R_new' (Kd.R_new' (Kd.R_newM (M := fun k_ => ((P1_ k_ ∨ P3_ k_) ∨ w.heap.size ≤ k_)) ho32 (by first | exact HK.out.1 | exact (show Kept w _ (fun k_ => P1_ k_ ∨ P3_ k_) from by repeat (first | (with_reducible first | exact HK.out | apply Kept.alloc | apply Kept.drewN | apply Kept.drew) | exact HK.out)).1) (fun k_ h_ => .inr h_)) (Kd.R_lt (pR HO_1))) (Kd.R_lt (pR HO622))) (below_size (pH HB)))
                replace HO_1 := Aside0.mk (Kd.R_elder' (pR HO_1) (Kd.R_base ho32) hb)
                replace HO622 := Aside0.mk (Kd.R_elder' (pR HO622) (Kd.R_base ho32) hb)
                replace HK := Aside0.mk (Kept.below (S := (fun k_ => P1_ k_ ∨ P3_ k_)) (by repeat (first | (with_reducible first | exact HK.out | apply Kept.alloc | apply Kept.drewN | apply Kept.drew) | exact HK.out)) hb)
                replace HB := sH HB hb
                clear hb ho32
                refine hK.out _ _ ((Kd.foot_int (HR0.out _ (by repeat (first | exact HK.out | apply Kept.alloc | apply Kept.drewN | apply Kept.drew))) x10_1 (of_eq_true p623) (of_eq_true q623))) (fun hHeld => ?_)
                clear hK K
                refine nm_ ?_
                exact norm_ (by simp only [putAll, Act.put, List.setIfInBounds_toArray, List.set_cons_zero, List.set_cons_succ]) (hCont (v621, v625) _ ⟨hHeld, (by (with_reducible repeat (first | apply Kd.R_alloc | apply Kd.R_drewN | apply Kd.R_drew)); exact Kd.R_mono HO622.out (fun _ hk => ⟨hk.1.1.1, ⟨hk.2, hk.1.2⟩⟩)), (by (with_reducible repeat (first | apply Kd.R_alloc | apply Kd.R_drewN | apply Kd.R_drew)); exact Kd.R_mono HO626.out (fun _ hk => ⟨hk.1.1.1, ⟨hk.2, hk.1.2⟩⟩)), (by (with_reducible repeat (first | apply Kd.R_alloc | apply Kd.R_drewN | apply Kd.R_drew)); exact Kd.R_mono HO_1.out (fun _ hk => ⟨hk.1.1, ⟨hk.1.2, hk.2⟩⟩)), (pR HO_3), (by repeat (first | (with_reducible first | exact HK.out | apply Kept.alloc | apply Kept.drewN | apply Kept.drew) | exact HK.out)), (pH HB)⟩)
               ·skip
                refine Kd.R_lit_step (Kd.int .i64) _ 2 ?hg (N := 56) ?hd (xs := ([rd l0 x10_1] : List Int)) (inner := [.int .i64 (rd l0 x10_1)]) (ok := fun _ => True) (okp := fun _ => True) ?hr ?hp (fun _ hk => hk) trivial (Below.refl _ _) (Nat.le_refl _) (by simp) ?_; (case hd => rfl); (case hg => rfl); (case hr => first | (go_simp; done) | (go_simp; rfl)); (case hp => exact (Reps.one (show Kd.M (Kd.int .i64) _ _ _ (rd l0 x10_1) [.int .i64 (rd l0 x10_1)] from rfl) (Reps.none _ _)))
                intro v625 w30 ho31 hb hg_ hnew_
                clear hg_ hnew_
                (first | rw [← Ny624.out] at ho31 | (simp only [Int.reduceToNat] at ho31; rw [← Ny624.out] at ho31))
                replace HO_3 := sR HO_3 hb
                have HO626 := Aside0.mk (Kd.R_lower (Kd.R_new' (Kd.R_newM (M := fun k_ => ((P1_ k_ ∨ P3_ k_) ∨ w.heap.size ≤ k_)) ho31 (by first | exact HK.out.1 | exact (show Kept w _ (fun k_ => P1_ k_ ∨ P3_ k_) from by repeat (first | (with_reducible first | exact HK.out | apply Kept.alloc | apply Kept.drewN | apply Kept.drew) | exact HK.out)).1) (fun k_ h_ => .inr h_)) (Kd.R_lt (pR HO_1))) (below_size (pH HB)))
                replace HO_1 := Aside0.mk (Kd.R_elder' (pR HO_1) (Kd.R_base ho31) hb)
                replace HK := Aside0.mk (Kept.below (S := (fun k_ => P1_ k_ ∨ P3_ k_)) (by repeat (first | (with_reducible first | exact HK.out | apply Kept.alloc | apply Kept.drewN | apply Kept.drew) | exact HK.out)) hb)
                replace HB := sH HB hb
                clear hb ho31
                refine hK.out _ _ ((Kd.foot_int (HR0.out _ (by repeat (first | exact HK.out | apply Kept.alloc | apply Kept.drewN | apply Kept.drew))) x10_1 (of_eq_true p623) (of_eq_true q623))) (fun hHeld => ?_)
                clear hK K
                refine nm_ ?_
                refine on_ 2 (some 51) 32511 HT_ (fun K hK => ?_)
                refine ca_ Try.func132 #[.slice Ao13 l1.length co13] ?_
                with_reducible refine (spec_l01Own.calls _ _ l1 t620 _ ?side1 ?side2 A23.out).mono ?_
                (case side1 => exact pC ((Kd.R_reads' HO_1.out).2.2))
                (case side2 => exact (Kd.R_reads' HO_1.out).2.1)
                rintro e w32 ⟨v621, rfl, ho0, hb⟩
                refine ⟨_, rfl, ?_⟩
                replace HO_3 := sR HO_3 hb
                have HO622 := Aside0.mk (Kd.R_lower (Kd.R_new' (Kd.R_new' (Kd.R_newM (M := fun k_ => ((P1_ k_ ∨ P3_ k_) ∨ w.heap.size ≤ k_)) ho0 (by first | exact HK.out.1 | exact (show Kept w _ (fun k_ => P1_ k_ ∨ P3_ k_) from by repeat (first | (with_reducible first | exact HK.out | apply Kept.alloc | apply Kept.drewN | apply Kept.drew) | exact HK.out)).1) (fun k_ h_ => .inr h_)) (Kd.R_lt (pR HO_1))) (Kd.R_lt (pR HO626))) (below_size (pH HB)))
                replace HO_1 := Aside0.mk (Kd.R_elder' (pR HO_1) (Kd.R_base ho0) hb)
                replace HO626 := Aside0.mk (Kd.R_elder' (pR HO626) (Kd.R_base ho0) hb)
                replace HK := Aside0.mk (Kept.below (S := (fun k_ => P1_ k_ ∨ P3_ k_)) (by repeat (first | (with_reducible first | exact HK.out | apply Kept.alloc | apply Kept.drewN | apply Kept.drew) | exact HK.out)) hb)
                replace HB := sH HB hb
                (try clear hb)
                (try clear hb2)
                (try clear hk)
                (try clear hi)
                (try clear ho0)
                refine hK.out _ _ ((Kd.foot_int (HR0.out _ (by repeat (first | exact HK.out | apply Kept.alloc | apply Kept.drewN | apply Kept.drew))) x10_1 (of_eq_true p623) (of_eq_true q623))) (fun hHeld => ?_)
                clear hK K
                refine nm_ ?_
                exact norm_ (by simp only [putAll, Act.put, List.setIfInBounds_toArray, List.set_cons_zero, List.set_cons_succ]) (hCont (v621, v625) _ ⟨hHeld, (by (with_reducible repeat (first | apply Kd.R_alloc | apply Kd.R_drewN | apply Kd.R_drew)); exact Kd.R_mono HO622.out (fun _ hk => ⟨hk.1.1.1, ⟨hk.2, hk.1.2⟩⟩)), (by (with_reducible repeat (first | apply Kd.R_alloc | apply Kd.R_drewN | apply Kd.R_drew)); exact Kd.R_mono HO626.out (fun _ hk => ⟨hk.1.1.1, ⟨hk.2, hk.1.2⟩⟩)), (by (with_reducible repeat (first | apply Kd.R_alloc | apply Kd.R_drewN | apply Kd.R_drew)); exact Kd.R_mono HO_1.out (fun _ hk => ⟨hk.1.1, ⟨hk.2, hk.1.2⟩⟩)), (pR HO_3), (by repeat (first | (with_reducible first | exact HK.out | apply Kept.alloc | apply Kept.drewN | apply Kept.drew) | exact HK.out)), (pH HB)⟩)
              rintro ⟨v621, v625⟩ w33 ⟨hS_, h0_, h1_, h2_, h3_, h4_, h5_⟩
              have n0_ : Aside0 (Kd.R (Kd.int .i64) 2 w33 w0.heap.size (fun k_ => ((P1_ k_ ∨ P3_ k_) ∨ w.heap.size ≤ k_) ∧ some k_ ≠ (v625 : Value).ownBlock ∧ some k_ ≠ (.slice Ao13 l1.length co13 : Value).ownBlock) v621 t620) := ⟨h0_⟩
              have n1_ : Aside0 (Kd.R (Kd.int .i64) 2 w33 w0.heap.size (fun k_ => ((P1_ k_ ∨ P3_ k_) ∨ w.heap.size ≤ k_) ∧ some k_ ≠ (v621 : Value).ownBlock ∧ some k_ ≠ (.slice Ao13 l1.length co13 : Value).ownBlock) v625 y624) := ⟨h1_⟩
              have n2_ : Aside0 (Kd.R (Kd.int .i64) 2 w33 w0.heap.size (fun k_ => ((P1_ k_ ∨ P3_ k_) ∨ w.heap.size ≤ k_) ∧ some k_ ≠ (v621 : Value).ownBlock ∧ some k_ ≠ (v625 : Value).ownBlock) (.slice Ao13 l1.length co13) l1) := ⟨h2_⟩
              have n3_ : Aside0 (Kd.R Kd.bool 4 w33 w0.heap.size (fun k_ => ((P1_ k_ ∨ P3_ k_) ∨ w.heap.size ≤ k_)) (.slice (some ad615) x3_1.length co14) x3_1) := ⟨h3_⟩
              have n4_ : Aside0 (Kept w w33 (fun k_ => P1_ k_ ∨ P3_ k_)) := ⟨h4_⟩
              have n5_ : Aside0 (Below w0.heap.size w0 w33) := ⟨h5_⟩
              clear HO_1
              clear HO_3
              clear HK
              clear HB
              clear h0_ h1_ h2_ h3_ h4_ h5_
              have HO622 := n0_
              have HO626 := n1_
              have HO_1 := n2_
              have HO_3 := n3_
              have HK := n4_
              have HB := n5_
              clear n0_ n1_ n2_ n3_ n4_ n5_
              have hHeld : w33.cell? (ad617.add (x10_1).toNat) = some (.int .i64 (rd l0 x10_1)) := hS_
              obtain ⟨Ao35, co35, eo35⟩ := Kd.R_slice HO626.out
              (first | subst eo35 | (injection eo35 with f1_ f2_ f3_; have f4_ := f1_.symm; have f5_ := f3_.symm; clear f1_ f2_ f3_; subst f4_; subst f5_))
              refine norm_ (a' := ?_) ?_ ?_
              rotate_left
              ·simp only [putAll, Act.put, List.setIfInBounds_toArray, List.set_cons_zero, List.set_cons_succ]
               rfl
              refine on_ 8 (some 57) 32767 HT_ (fun K hK => ?_)
              refine Kd.R_append_rows_step (Kd.int .i64) (w0 := w0) w0.heap.size (by rfl) (.tmp 51) (.tmp 56) 22 2 (.int .i64 0) 8 rfl Try.underlying22 info2 rfl (by decide) (by omega) v621 t620 y624 _ _ _ (fun k_ => ((P1_ k_ ∨ P3_ k_) ∨ w.heap.size ≤ k_) ∧ some k_ ≠ (.slice Ao13 l1.length co13 : Value).ownBlock ∧ some k_ ≠ (.slice Ao35 y624.length co35 : Value).ownBlock) (fun _ => False) rfl rfl ?aO ?aR (fun _ _ h => h) (fun _ h => h.elim) ?aF ?aB ?aS ?aL ?_
              (case aR => exact pC ((Kd.R_reads' HO626.out).2.2))
              (case aB => exact (pH HB))
              (case aF => exact (fun k_ hk => ⟨(.inr (Nat.le_trans (by first | exact HK.out.1 | exact (show Kept w _ (fun k_ => P1_ k_ ∨ P3_ k_) from by repeat (first | (with_reducible first | exact HK.out | apply Kept.alloc | apply Kept.drewN | apply Kept.drew) | exact HK.out)).1) hk)), Kd.fresh' (Kd.R_lt (pR HO_1)) k_ hk, Kd.fresh' (Kd.R_lt (pR HO626)) k_ hk⟩))
              (case aO => exact (by (with_reducible repeat (first | apply Kd.R_alloc | apply Kd.R_drewN | apply Kd.R_drew)); exact Kd.R_mono HO622.out (fun _ hk => ⟨hk.1, ⟨hk.2.2, hk.2.1⟩⟩)))
              (case aS => exact (below_size (pH HB)))
              (case aL => have := LMc24.out; omega)
              intro v628 w34 ho hb hg hat
              rw [← Ny627.out] at ho
              replace HO_1 := Aside0.mk (Kd.R_after (ok := (fun k_ => ((P1_ k_ ∨ P3_ k_) ∨ w.heap.size ≤ k_) ∧ some k_ ≠ (.slice Ao35 y624.length co35 : Value).ownBlock)) (by (with_reducible repeat (first | apply Kd.R_alloc | apply Kd.R_drewN | apply Kd.R_drew)); exact Kd.R_mono HO_1.out (fun _ hk => ⟨⟨hk.1, hk.2.2⟩, hk.2.1⟩)) hg hat)
              replace HO_3 := Aside0.mk (Kd.R_over' (pR HO_3) (Kd.R_typed (pR HO622)) (by decide) hg)
              replace HO626 := Aside0.mk (Kd.R_after (ok := (fun k_ => ((P1_ k_ ∨ P3_ k_) ∨ w.heap.size ≤ k_) ∧ some k_ ≠ (.slice Ao13 l1.length co13 : Value).ownBlock)) (by (with_reducible repeat (first | apply Kd.R_alloc | apply Kd.R_drewN | apply Kd.R_drew)); exact Kd.R_mono HO626.out (fun _ hk => ⟨⟨hk.1, hk.2.2⟩, hk.2.1⟩)) hg hat)
              replace HB := Aside0.mk (hb)
              replace HK := Aside0.mk (Kept.of_grown (S := (fun k_ => P1_ k_ ∨ P3_ k_)) hg (by repeat (first | (with_reducible first | exact HK.out | apply Kept.alloc | apply Kept.drewN | apply Kept.drew) | exact HK.out)) (fun k_ e_ => (HO622.out.1 k_ e_).1))
              have HO629 := Aside0.mk (ho)
              clear HO622
              clear ho hb hg hat
              obtain ⟨Ao36, co36, eo36⟩ := Kd.R_slice HO629.out
              (first | subst eo36 | (injection eo36 with f1_ f2_ f3_; have f4_ := f1_.symm; have f5_ := f3_.symm; clear f1_ f2_ f3_; subst f4_; subst f5_))
              refine hK.out _ _ ((Kd.foot_int (HR0.out _ (by repeat (first | exact HK.out | apply Kept.alloc | apply Kept.drewN | apply Kept.drew))) x10_1 (of_eq_true p623) (of_eq_true q623))) (fun hHeld => ?_)
              clear hK K
              refine nm_ ?_
              refine on_ 15 (some 64) 65535 HT_ (fun K hK => ?_)
              refine ca_ Try.func82 #[.slice (some ad617) l0.length c0, .slice Ao36 y627.length co36, .int .i64 (Go.bits .or .i64 a2 (ji26)), .slice (some ad615) x3_1.length co14] (hargs := by (try simp only [List.map_toArray, List.map_cons, List.map_nil]); first | done | (simp only [hji26]; rfl) | rfl | (simp only [List.length_drop, List.length_take]; rfl)) ?_
              with_reducible refine (ih k1 (by have := HK1.out; omega) _ _ l0 (fun k_ => some k_ = (.slice Ao36 y627.length co36 : Value).ownBlock) (.slice Ao36 y627.length co36) y627 (Go.bits .or .i64 a2 (ji26)) (fun k_ => some k_ = (.slice (some ad615) x3_1.length co14 : Value).ownBlock) (.slice (some ad615) x3_1.length co14) x3_1 t630 true t634 w0 _ ?side1 ?side2 ?side3 ?side4 ?side5 A27.out).mono ?_
              (case side1 => repeat (first | (with_reducible first | exact HB.out | apply below_alloc | apply pw_below_drewN | apply below_drew1) | exact HB.out))
              (case side2 => exact Kd.C_kept_call HR0.out (by repeat (first | (with_reducible first | exact HK.out | apply Kept.alloc | apply Kept.drewN | apply Kept.drew) | exact HK.out)) (fun k_ hs_ => Or.elim hs_ (fun e_ => (fun e_ => (HO629.out.1 k_ e_.symm).1) e_) (fun e_ => (fun e_ => (HO_3.out.1 k_ e_.symm)) e_)))
              (case side3 => exact HC0.out)
              (case side4 => exact Kd.R_tight rfl HO629.out)
              (case side5 => exact Kd.R_tight rfl HO_3.out)
              rintro e w37 ⟨v631, rfl, ho0, hy0, hb, hkp⟩
              refine ⟨_, rfl, ?_⟩
              have HO632 := Aside0.mk (Kd.R_mono (ok' := fun k_ => ((P1_ k_ ∨ P3_ k_) ∨ w.heap.size ≤ k_) ∧ some k_ ≠ (.slice Ao13 l1.length co13 : Value).ownBlock ∧ some k_ ≠ (.slice Ao35 y624.length co35 : Value).ownBlock) ho0 (fun k_ hk_ => ⟨Or.elim hk_ (fun hs_ => Or.elim hs_ (fun hs_ => (HO629.out.1 k_ (hs_).symm).1) (fun hs_ => (HO_3.out.1 k_ (hs_).symm))) (fun hn_ => (.inr (Nat.le_trans (by first | exact HK.out.1 | exact (show Kept w _ (fun k_ => P1_ k_ ∨ P3_ k_) from by repeat (first | (with_reducible first | exact HK.out | apply Kept.alloc | apply Kept.drewN | apply Kept.drew) | exact HK.out)).1) hn_))), Or.elim hk_ (fun hs_ => Or.elim hs_ (fun hs_ => fun e_ => ((((Kd.R_apart' HO_1.out (Kd.R_typed HO_3.out) (by decide))).1 k_ e_.symm).1.2) hs_) (fun hs_ => fun e_ => ((((Kd.R_apart' HO_1.out (Kd.R_typed HO_3.out) (by decide))).1 k_ e_.symm).2) hs_)) (fun hn_ => (Kd.fresh' (Kd.R_lt (pR HO_1)) k_ hn_)), Or.elim hk_ (fun hs_ => Or.elim hs_ (fun hs_ => fun e_ => ((((Kd.R_apart' HO626.out (Kd.R_typed HO_3.out) (by decide))).1 k_ e_.symm).1.2) hs_) (fun hs_ => fun e_ => ((((Kd.R_apart' HO626.out (Kd.R_typed HO_3.out) (by decide))).1 k_ e_.symm).2) hs_)) (fun hn_ => (Kd.fresh' (Kd.R_lt (pR HO626)) k_ hn_))⟩))
              replace HO_1 := Aside0.mk (Kd.R_mono (ok' := fun k_ => ((P1_ k_ ∨ P3_ k_) ∨ w.heap.size ≤ k_) ∧ some k_ ≠ (.slice Ao35 y624.length co35 : Value).ownBlock ∧ some k_ ≠ (v631 : Value).ownBlock) (Kd.R_keptB ((Kd.R_apart' HO_1.out (Kd.R_typed HO_3.out) (by decide))) hkp (fun k_ hk_ hs_ => Or.elim hs_ (fun e_ => (hk_.1.2) e_) (fun e_ => (hk_.2) e_))) (fun k_ hk_ => ⟨hk_.1.1.1.1, hk_.1.1.1.2, fun e_ => Or.elim (ho0.1 k_ e_.symm) (fun hs_ => hk_.2.1 hs_) (fun hn_ => Nat.not_le.2 hk_.2.2 hn_)⟩))
              replace HO626 := Aside0.mk (Kd.R_mono (ok' := fun k_ => ((P1_ k_ ∨ P3_ k_) ∨ w.heap.size ≤ k_) ∧ some k_ ≠ (.slice Ao13 l1.length co13 : Value).ownBlock ∧ some k_ ≠ (v631 : Value).ownBlock) (Kd.R_keptB ((Kd.R_apart' HO626.out (Kd.R_typed HO_3.out) (by decide))) hkp (fun k_ hk_ hs_ => Or.elim hs_ (fun e_ => (hk_.1.2) e_) (fun e_ => (hk_.2) e_))) (fun k_ hk_ => ⟨hk_.1.1.1.1, hk_.1.1.1.2, fun e_ => Or.elim (ho0.1 k_ e_.symm) (fun hs_ => hk_.2.1 hs_) (fun hn_ => Nat.not_le.2 hk_.2.2 hn_)⟩))
              replace HK := Aside0.mk (Kept.then_ (S := (fun k_ => P1_ k_ ∨ P3_ k_)) (by repeat (first | (with_reducible first | exact HK.out | apply Kept.alloc | apply Kept.drewN | apply Kept.drew) | exact HK.out)) hkp (fun k_ hs_ => Or.elim hs_ (fun e_ => (fun e_ => (HO629.out.1 k_ e_.symm).1) e_) (fun e_ => (fun e_ => (HO_3.out.1 k_ e_.symm)) e_)))
              replace HO_3 := Aside0.mk (Kd.R_reok rfl hy0 (fun k_ e_ => HO_3.out.1 k_ e_))
              replace HB := Aside0.mk (hb)
              clear HO629
              (try clear hb)
              (try clear hkp)
              (try clear ho0)
              (try clear hy0)
              refine hK.out _ _ ((Kd.foot_int (HR0.out _ (by repeat (first | exact HK.out | apply Kept.alloc | apply Kept.drewN | apply Kept.drew))) x10_1 (of_eq_true p623) (of_eq_true q623))) (fun hHeld => ?_)
              clear hK K
              refine nm_ ?_
              refine pu_ 16 48 131071 HT_ ?_
              refine pu_ 17 65 262143 HT_ ?_
              refine pu_ 18 66 524287 HT_ ?_
              refine pu_ 19 13 1048575 HT_ ?_
              refine pu_ 20 14 2097151 HT_ ?_
              refine dn_ HT_ ?_
              try go_wp2
              go_ret2
              exact ⟨_, by first | rfl | (simp [errW_none, errW_some] <;> rfl) | (simp only [← hji16, ← hji18, ← hji26]; first | rfl | (simp [errW_none, errW_some] <;> rfl)) | (simp [*, errW_none, errW_some] <;> rfl) | (exfalso; simp_all), by (with_reducible repeat (first | apply Kd.R_alloc | apply Kd.R_drewN | apply Kd.R_drew)); exact Kd.R_mono HO632.out (fun _ hk => hk.1), (by first | exact (pR HO_3) | (simp only [hl3_1]; exact (pR HO_3))), by repeat (first | (with_reducible first | exact HB.out | apply below_alloc | apply pw_below_drewN | apply below_drew1) | exact HB.out), by repeat (first | (with_reducible first | exact HK.out | apply Kept.alloc | apply Kept.drewN | apply Kept.drew) | exact HK.out)⟩
             ·replace c28 := Bool.eq_false_iff.mpr c28
              subst c28
              have H1 : (spec_l07Find.l0 k1 l0 l1 a2 t634 (wrap64 (x10_1 + 1))) = some (r1, r2, r3) := by rw [if_neg (show ¬ (false = true) by decide)] at H; exact H
              clear H
              have H := H1
              clear H1
              have H' := Aside0.mk H
              clear H
              have p617 : 0 ≤ (x10_1 : Int) := of_decide_eq_true (by first | (with_reducible assumption) | assumption)
              have q617 : x10_1 < (l0.length : Int) := of_decide_eq_true (by first | (with_reducible assumption) | assumption)
              obtain ⟨ad617, e617, hx617_0⟩ := Kd.at_int (Kd.C_kept_now HR0.out HK.out) x10_1 p617 q617
              cases e617
              replace p617 := eq_true p617
              replace q617 := eq_true q617
              try go_wp2_with (first | ((with_reducible refine gate_callee (f := 131) rfl ?_); refine cl_ (some 43) Try.func131 #[.slice Ao13 l1.length co13, .int .i64 (rd l0 x10_1)] ?_; (with_reducible refine (spec_l07Goes.calls k1 _ _ l1 (rd l0 x10_1) true t619 _ ?side1 ?side2 A21.out).mono ?_); (case side1 => exact pC ((Kd.R_reads' HO_1.out).2.2)); (case side2 => exact (Kd.R_reads' HO_1.out).2.1); rintro e w' ⟨rfl, ⟨nd, rfl⟩⟩; refine ⟨_, rfl, ?_⟩))
              (try (rw [drewN_self wr]; generalize hq_ : World.drewN wr _ = wr; have n0_ : Aside0 (Kd.R (Kd.int .i64) 2 wr w0.heap.size (fun k_ => ((P1_ k_ ∨ P3_ k_) ∨ w.heap.size ≤ k_)) (.slice Ao13 l1.length co13) l1) := ⟨by rw [← hq_]; exact (pR HO_1)⟩; have n1_ : Aside0 (Kd.R Kd.bool 4 wr w0.heap.size (fun k_ => ((P1_ k_ ∨ P3_ k_) ∨ w.heap.size ≤ k_)) (.slice (some ad615) x3_1.length co14) x3_1) := ⟨by rw [← hq_]; exact (pR HO_3)⟩; have n2_ : Aside0 (Kept w wr (fun k_ => P1_ k_ ∨ P3_ k_)) := ⟨by rw [← hq_]; exact (by repeat (first | (with_reducible first | exact HK.out | apply Kept.alloc | apply Kept.drewN | apply Kept.drew) | exact HK.out))⟩; have n3_ : Aside0 (Below w0.heap.size w0 wr) := ⟨by rw [← hq_]; exact (pH HB)⟩; clear HO_1 HO_3 HK HB hq_; have HO_1 := n0_; have HO_3 := n1_; have HK := n2_; have HB := n3_; clear n0_ n1_ n2_ n3_))
              replace HO_1 := Aside0.mk (Kd.R_drew HO_1.out)
              replace HO_3 := Aside0.mk (Kd.R_drew HO_3.out)
              replace HK := Aside0.mk (Kept.drew HK.out)
              replace HB := dH HB
              have p623 : 0 ≤ (x10_1 : Int) := of_decide_eq_true (by first | (with_reducible assumption) | assumption)
              have q623 : x10_1 < (l0.length : Int) := of_decide_eq_true (by first | (with_reducible assumption) | assumption)
              obtain ⟨ad623, e623, hx623_0⟩ := Kd.at_int (Kd.C_kept_now HR0.out HK.out) x10_1 p623 q623
              have hw623_0 := hx623_0
              obtain rfl : ad617 = ad623 := (by injection e623)
              replace p623 := eq_true p623
              replace q623 := eq_true q623
              refine st_ 21 (S := fun w' => w'.cell? (ad617.add (x10_1).toNat) = some (.int .i64 (rd l0 x10_1))) (ds := []) ((Kd.foot_int (HR0.out _ (by repeat (first | exact HK.out | apply Kept.alloc | apply Kept.drewN | apply Kept.drew))) x10_1 (of_eq_true p623) (of_eq_true q623))) (fun hHeld => ?_); refine with_tabW spec_l07Find.tab11 spec_l07Find.bits11 (fun HT_ HW_ => ?_)
              generalize wr.drew = w38 at HO_1 HO_3 HK HB hx623_0 hHeld ⊢
              refine pu_ 0 49 1 HT_ ?_
              refine pu_ 1 50 3 HT_ ?_
              refine pu_ 3 52 11 HT_ ?_
              refine pu_ 4 53 27 HT_ ?_
              refine pu_ 5 54 59 HT_ ?_
              refine pu_ 9 58 571 HT_ ?_
              refine pu_ 10 59 1595 HT_ ?_
              refine pu_ 11 60 3643 HT_ ?_
              refine pu_ 12 61 7739 HT_ ?_
              refine pu_ 13 62 15931 HT_ ?_
              refine pu_ 14 63 32315 HT_ ?_
              refine take_ (i := 6) (N := some 55) (v := ?_) (a' := ?_) (mB 21 32379) rfl rfl (take_ofW HT_.out HW_.out (by kernel_rfl)) (fun _ _ _ h => h) (Or.inl ⟨by rfl, ?_⟩) hHeld ?_ ?_
              rotate_left
              ·intro w' s0
               go_simp
               with_reducible rfl
              rotate_left
              ·simp only [Act.put, List.setIfInBounds_toArray, List.set_cons_zero, List.set_cons_succ, i64_w, i32_w]
               rfl
              refine join_ (σ := Value × Value) 7 (mB 21 32511) (fun s_ => [(51, s_.1), (56, s_.2)]) (fun s_ w' => (w'.cell? (ad617.add (x10_1).toNat) = some (.int .i64 (rd l0 x10_1))) ∧ (Kd.R (Kd.int .i64) 2 w' w0.heap.size (fun k_ => ((P1_ k_ ∨ P3_ k_) ∨ w.heap.size ≤ k_) ∧ some k_ ≠ (s_.2 : Value).ownBlock ∧ some k_ ≠ (.slice Ao13 l1.length co13 : Value).ownBlock) s_.1 t620) ∧ (Kd.R (Kd.int .i64) 2 w' w0.heap.size (fun k_ => ((P1_ k_ ∨ P3_ k_) ∨ w.heap.size ≤ k_) ∧ some k_ ≠ (s_.1 : Value).ownBlock ∧ some k_ ≠ (.slice Ao13 l1.length co13 : Value).ownBlock) s_.2 y624) ∧ (Kd.R (Kd.int .i64) 2 w' w0.heap.size (fun k_ => ((P1_ k_ ∨ P3_ k_) ∨ w.heap.size ≤ k_) ∧ some k_ ≠ (s_.1 : Value).ownBlock ∧ some k_ ≠ (s_.2 : Value).ownBlock) (.slice Ao13 l1.length co13) l1) ∧ (Kd.R Kd.bool 4 w' w0.heap.size (fun k_ => ((P1_ k_ ∨ P3_ k_) ∨ w.heap.size ≤ k_)) (.slice (some ad615) x3_1.length co14) x3_1) ∧ (Kept w w' (fun k_ => P1_ k_ ∨ P3_ k_)) ∧ (Below w0.heap.size w0 w')) ?_ ?_
              rotate_left
              ·intro hCont
               refine two_ (i := 2) (j := 7) (Ni := some 51) (Nj := some 56) (mB 21 32383) (mB 21 32507) rfl rfl rfl rfl (two_of HT_.out (by kernel_rfl)) (by decide) (by decide) (fun K hK => ?_) (fun K hK => ?_)
               ·skip
                refine ca_ Try.func132 #[.slice Ao13 l1.length co13] ?_
                with_reducible refine (spec_l01Own.calls _ _ l1 t620 _ ?side1 ?side2 A23.out).mono ?_
                (case side1 => exact pC ((Kd.R_reads' HO_1.out).2.2))
                (case side2 => exact (Kd.R_reads' HO_1.out).2.1)
                rintro e w39 ⟨v621, rfl, ho0, hb⟩
                refine ⟨_, rfl, ?_⟩
                replace HO_3 := sR HO_3 hb
                have HO622 := Aside0.mk (Kd.R_lower (Kd.R_new' (Kd.R_newM (M := fun k_ => ((P1_ k_ ∨ P3_ k_) ∨ w.heap.size ≤ k_)) ho0 (by first | exact HK.out.1 | exact (show Kept w _ (fun k_ => P1_ k_ ∨ P3_ k_) from by repeat (first | (with_reducible first | exact HK.out | apply Kept.alloc | apply Kept.drewN | apply Kept.drew) | exact HK.out)).1) (fun k_ h_ => .inr h_)) (Kd.R_lt (pR HO_1))) (below_size (pH HB)))
                replace HO_1 := Aside0.mk (Kd.R_elder' (pR HO_1) (Kd.R_base ho0) hb)
                replace HK := Aside0.mk (Kept.below (S := (fun k_ => P1_ k_ ∨ P3_ k_)) (by repeat (first | (with_reducible first | exact HK.out | apply Kept.alloc | apply Kept.drewN | apply Kept.drew) | exact HK.out)) hb)
                replace HB := sH HB hb
                (try clear hb)
                (try clear hb2)
                (try clear hk)
                (try clear hi)
                (try clear ho0)
                refine hK.out _ _ ((Kd.foot_int (HR0.out _ (by repeat (first | exact HK.out | apply Kept.alloc | apply Kept.drewN | apply Kept.drew))) x10_1 (of_eq_true p623) (of_eq_true q623))) (fun hHeld => ?_)
                clear hK K
                refine nm_ ?_
                refine on_ 7 (some 56) 32511 HT_ (fun K hK => ?_)
                refine Kd.R_lit_step (Kd.int .i64) _ 2 ?hg (N := 56) ?hd (xs := ([rd l0 x10_1] : List Int)) (inner := [.int .i64 (rd l0 x10_1)]) (ok := fun _ => True) (okp := fun _ => True) ?hr ?hp (fun _ hk => hk) trivial (Below.refl _ _) (Nat.le_refl _) (by simp) ?_; (case hd => rfl); (case hg => rfl); (case hr => first | (go_simp; done) | (go_simp; rfl)); (case hp => exact (Reps.one (show Kd.M (Kd.int .i64) _ _ _ (rd l0 x10_1) [.int .i64 (rd l0 x10_1)] from rfl) (Reps.none _ _)))
                intro v625 w40 ho41 hb hg_ hnew_
                clear hg_ hnew_
                (first | rw [← Ny624.out] at ho41 | (simp only [Int.reduceToNat] at ho41; rw [← Ny624.out] at ho41))
                replace HO_3 := sR HO_3 hb
                have HO626 := Aside0.mk (Kd.R_lower (Kd.R_new' (Kd.R_new' (Kd.R_newM (M := fun k_ => ((P1_ k_ ∨ P3_ k_) ∨ w.heap.size ≤ k_)) ho41 (by first | exact HK.out.1 | exact (show Kept w _ (fun k_ => P1_ k_ ∨ P3_ k_) from by repeat (first | (with_reducible first | exact HK.out | apply Kept.alloc | apply Kept.drewN | apply Kept.drew) | exact HK.out)).1) (fun k_ h_ => .inr h_)) (Kd.R_lt (pR HO_1))) (Kd.R_lt (pR HO622))) (below_size (pH HB)))
                replace HO_1 := Aside0.mk (Kd.R_elder' (pR HO_1) (Kd.R_base ho41) hb)
                replace HO622 := Aside0.mk (Kd.R_elder' (pR HO622) (Kd.R_base ho41) hb)
                replace HK := Aside0.mk (Kept.below (S := (fun k_ => P1_ k_ ∨ P3_ k_)) (by repeat (first | (with_reducible first | exact HK.out | apply Kept.alloc | apply Kept.drewN | apply Kept.drew) | exact HK.out)) hb)
                replace HB := sH HB hb
                clear hb ho41
                refine hK.out _ _ ((Kd.foot_int (HR0.out _ (by repeat (first | exact HK.out | apply Kept.alloc | apply Kept.drewN | apply Kept.drew))) x10_1 (of_eq_true p623) (of_eq_true q623))) (fun hHeld => ?_)
                clear hK K
                refine nm_ ?_
                exact norm_ (by simp only [putAll, Act.put, List.setIfInBounds_toArray, List.set_cons_zero, List.set_cons_succ]) (hCont (v621, v625) _ ⟨hHeld, (by (with_reducible repeat (first | apply Kd.R_alloc | apply Kd.R_drewN | apply Kd.R_drew)); exact Kd.R_mono HO622.out (fun _ hk => ⟨hk.1.1.1, ⟨hk.2, hk.1.2⟩⟩)), (by (with_reducible repeat (first | apply Kd.R_alloc | apply Kd.R_drewN | apply Kd.R_drew)); exact Kd.R_mono HO626.out (fun _ hk => ⟨hk.1.1.1, ⟨hk.2, hk.1.2⟩⟩)), (by (with_reducible repeat (first | apply Kd.R_alloc | apply Kd.R_drewN | apply Kd.R_drew)); exact Kd.R_mono HO_1.out (fun _ hk => ⟨hk.1.1, ⟨hk.1.2, hk.2⟩⟩)), (pR HO_3), (by repeat (first | (with_reducible first | exact HK.out | apply Kept.alloc | apply Kept.drewN | apply Kept.drew) | exact HK.out)), (pH HB)⟩)
               ·skip
                refine Kd.R_lit_step (Kd.int .i64) _ 2 ?hg (N := 56) ?hd (xs := ([rd l0 x10_1] : List Int)) (inner := [.int .i64 (rd l0 x10_1)]) (ok := fun _ => True) (okp := fun _ => True) ?hr ?hp (fun _ hk => hk) trivial (Below.refl _ _) (Nat.le_refl _) (by simp) ?_; (case hd => rfl); (case hg => rfl); (case hr => first | (go_simp; done) | (go_simp; rfl)); (case hp => exact (Reps.one (show Kd.M (Kd.int .i64) _ _ _ (rd l0 x10_1) [.int .i64 (rd l0 x10_1)] from rfl) (Reps.none _ _)))
                intro v625 w39 ho40 hb hg_ hnew_
                clear hg_ hnew_
                (first | rw [← Ny624.out] at ho40 | (simp only [Int.reduceToNat] at ho40; rw [← Ny624.out] at ho40))
                replace HO_3 := sR HO_3 hb
                have HO626 := Aside0.mk (Kd.R_lower (Kd.R_new' (Kd.R_newM (M := fun k_ => ((P1_ k_ ∨ P3_ k_) ∨ w.heap.size ≤ k_)) ho40 (by first | exact HK.out.1 | exact (show Kept w _ (fun k_ => P1_ k_ ∨ P3_ k_) from by repeat (first | (with_reducible first | exact HK.out | apply Kept.alloc | apply Kept.drewN | apply Kept.drew) | exact HK.out)).1) (fun k_ h_ => .inr h_)) (Kd.R_lt (pR HO_1))) (below_size (pH HB)))
                replace HO_1 := Aside0.mk (Kd.R_elder' (pR HO_1) (Kd.R_base ho40) hb)
                replace HK := Aside0.mk (Kept.below (S := (fun k_ => P1_ k_ ∨ P3_ k_)) (by repeat (first | (with_reducible first | exact HK.out | apply Kept.alloc | apply Kept.drewN | apply Kept.drew) | exact HK.out)) hb)
                replace HB := sH HB hb
                clear hb ho40
                refine hK.out _ _ ((Kd.foot_int (HR0.out _ (by repeat (first | exact HK.out | apply Kept.alloc | apply Kept.drewN | apply Kept.drew))) x10_1 (of_eq_true p623) (of_eq_true q623))) (fun hHeld => ?_)
                clear hK K
                refine nm_ ?_
                refine on_ 2 (some 51) 32511 HT_ (fun K hK => ?_)
                refine ca_ Try.func132 #[.slice Ao13 l1.length co13] ?_
                with_reducible refine (spec_l01Own.calls _ _ l1 t620 _ ?side1 ?side2 A23.out).mono ?_
                (case side1 => exact pC ((Kd.R_reads' HO_1.out).2.2))
                (case side2 => exact (Kd.R_reads' HO_1.out).2.1)
                rintro e w41 ⟨v621, rfl, ho0, hb⟩
                refine ⟨_, rfl, ?_⟩
                replace HO_3 := sR HO_3 hb
                have HO622 := Aside0.mk (Kd.R_lower (Kd.R_new' (Kd.R_new' (Kd.R_newM (M := fun k_ => ((P1_ k_ ∨ P3_ k_) ∨ w.heap.size ≤ k_)) ho0 (by first | exact HK.out.1 | exact (show Kept w _ (fun k_ => P1_ k_ ∨ P3_ k_) from by repeat (first | (with_reducible first | exact HK.out | apply Kept.alloc | apply Kept.drewN | apply Kept.drew) | exact HK.out)).1) (fun k_ h_ => .inr h_)) (Kd.R_lt (pR HO_1))) (Kd.R_lt (pR HO626))) (below_size (pH HB)))
                replace HO_1 := Aside0.mk (Kd.R_elder' (pR HO_1) (Kd.R_base ho0) hb)
                replace HO626 := Aside0.mk (Kd.R_elder' (pR HO626) (Kd.R_base ho0) hb)
                replace HK := Aside0.mk (Kept.below (S := (fun k_ => P1_ k_ ∨ P3_ k_)) (by repeat (first | (with_reducible first | exact HK.out | apply Kept.alloc | apply Kept.drewN | apply Kept.drew) | exact HK.out)) hb)
                replace HB := sH HB hb
                (try clear hb)
                (try clear hb2)
                (try clear hk)
                (try clear hi)
                (try clear ho0)
                refine hK.out _ _ ((Kd.foot_int (HR0.out _ (by repeat (first | exact HK.out | apply Kept.alloc | apply Kept.drewN | apply Kept.drew))) x10_1 (of_eq_true p623) (of_eq_true q623))) (fun hHeld => ?_)
                clear hK K
                refine nm_ ?_
                exact norm_ (by simp only [putAll, Act.put, List.setIfInBounds_toArray, List.set_cons_zero, List.set_cons_succ]) (hCont (v621, v625) _ ⟨hHeld, (by (with_reducible repeat (first | apply Kd.R_alloc | apply Kd.R_drewN | apply Kd.R_drew)); exact Kd.R_mono HO622.out (fun _ hk => ⟨hk.1.1.1, ⟨hk.2, hk.1.2⟩⟩)), (by (with_reducible repeat (first | apply Kd.R_alloc | apply Kd.R_drewN | apply Kd.R_drew)); exact Kd.R_mono HO626.out (fun _ hk => ⟨hk.1.1.1, ⟨hk.2, hk.1.2⟩⟩)), (by (with_reducible repeat (first | apply Kd.R_alloc | apply Kd.R_drewN | apply Kd.R_drew)); exact Kd.R_mono HO_1.out (fun _ hk => ⟨hk.1.1, ⟨hk.2, hk.1.2⟩⟩)), (pR HO_3), (by repeat (first | (with_reducible first | exact HK.out | apply Kept.alloc | apply Kept.drewN | apply Kept.drew) | exact HK.out)), (pH HB)⟩)
              rintro ⟨v621, v625⟩ w42 ⟨hS_, h0_, h1_, h2_, h3_, h4_, h5_⟩
              have n0_ : Aside0 (Kd.R (Kd.int .i64) 2 w42 w0.heap.size (fun k_ => ((P1_ k_ ∨ P3_ k_) ∨ w.heap.size ≤ k_) ∧ some k_ ≠ (v625 : Value).ownBlock ∧ some k_ ≠ (.slice Ao13 l1.length co13 : Value).ownBlock) v621 t620) := ⟨h0_⟩
              have n1_ : Aside0 (Kd.R (Kd.int .i64) 2 w42 w0.heap.size (fun k_ => ((P1_ k_ ∨ P3_ k_) ∨ w.heap.size ≤ k_) ∧ some k_ ≠ (v621 : Value).ownBlock ∧ some k_ ≠ (.slice Ao13 l1.length co13 : Value).ownBlock) v625 y624) := ⟨h1_⟩
              have n2_ : Aside0 (Kd.R (Kd.int .i64) 2 w42 w0.heap.size (fun k_ => ((P1_ k_ ∨ P3_ k_) ∨ w.heap.size ≤ k_) ∧ some k_ ≠ (v621 : Value).ownBlock ∧ some k_ ≠ (v625 : Value).ownBlock) (.slice Ao13 l1.length co13) l1) := ⟨h2_⟩
              have n3_ : Aside0 (Kd.R Kd.bool 4 w42 w0.heap.size (fun k_ => ((P1_ k_ ∨ P3_ k_) ∨ w.heap.size ≤ k_)) (.slice (some ad615) x3_1.length co14) x3_1) := ⟨h3_⟩
              have n4_ : Aside0 (Kept w w42 (fun k_ => P1_ k_ ∨ P3_ k_)) := ⟨h4_⟩
              have n5_ : Aside0 (Below w0.heap.size w0 w42) := ⟨h5_⟩
              clear HO_1
              clear HO_3
              clear HK
              clear HB
              clear h0_ h1_ h2_ h3_ h4_ h5_
              have HO622 := n0_
              have HO626 := n1_
              have HO_1 := n2_
              have HO_3 := n3_
              have HK := n4_
              have HB := n5_
              clear n0_ n1_ n2_ n3_ n4_ n5_
              have hHeld : w42.cell? (ad617.add (x10_1).toNat) = some (.int .i64 (rd l0 x10_1)) := hS_
              obtain ⟨Ao44, co44, eo44⟩ := Kd.R_slice HO626.out
              (first | subst eo44 | (injection eo44 with f1_ f2_ f3_; have f4_ := f1_.symm; have f5_ := f3_.symm; clear f1_ f2_ f3_; subst f4_; subst f5_))
              refine norm_ (a' := ?_) ?_ ?_
              rotate_left
              ·simp only [putAll, Act.put, List.setIfInBounds_toArray, List.set_cons_zero, List.set_cons_succ]
               rfl
              refine on_ 8 (some 57) 32767 HT_ (fun K hK => ?_)
              refine Kd.R_append_rows_step (Kd.int .i64) (w0 := w0) w0.heap.size (by rfl) (.tmp 51) (.tmp 56) 22 2 (.int .i64 0) 8 rfl Try.underlying22 info2 rfl (by decide) (by omega) v621 t620 y624 _ _ _ (fun k_ => ((P1_ k_ ∨ P3_ k_) ∨ w.heap.size ≤ k_) ∧ some k_ ≠ (.slice Ao13 l1.length co13 : Value).ownBlock ∧ some k_ ≠ (.slice Ao44 y624.length co44 : Value).ownBlock) (fun _ => False) rfl rfl ?aO ?aR (fun _ _ h => h) (fun _ h => h.elim) ?aF ?aB ?aS ?aL ?_
              (case aR => exact pC ((Kd.R_reads' HO626.out).2.2))
              (case aB => exact (pH HB))
              (case aF => exact (fun k_ hk => ⟨(.inr (Nat.le_trans (by first | exact HK.out.1 | exact (show Kept w _ (fun k_ => P1_ k_ ∨ P3_ k_) from by repeat (first | (with_reducible first | exact HK.out | apply Kept.alloc | apply Kept.drewN | apply Kept.drew) | exact HK.out)).1) hk)), Kd.fresh' (Kd.R_lt (pR HO_1)) k_ hk, Kd.fresh' (Kd.R_lt (pR HO626)) k_ hk⟩))
              (case aO => exact (by (with_reducible repeat (first | apply Kd.R_alloc | apply Kd.R_drewN | apply Kd.R_drew)); exact Kd.R_mono HO622.out (fun _ hk => ⟨hk.1, ⟨hk.2.2, hk.2.1⟩⟩)))
              (case aS => exact (below_size (pH HB)))
              (case aL => have := LMc24.out; omega)
              intro v628 w43 ho hb hg hat
              rw [← Ny627.out] at ho
              replace HO_1 := Aside0.mk (Kd.R_after (ok := (fun k_ => ((P1_ k_ ∨ P3_ k_) ∨ w.heap.size ≤ k_) ∧ some k_ ≠ (.slice Ao44 y624.length co44 : Value).ownBlock)) (by (with_reducible repeat (first | apply Kd.R_alloc | apply Kd.R_drewN | apply Kd.R_drew)); exact Kd.R_mono HO_1.out (fun _ hk => ⟨⟨hk.1, hk.2.2⟩, hk.2.1⟩)) hg hat)
              replace HO_3 := Aside0.mk (Kd.R_over' (pR HO_3) (Kd.R_typed (pR HO622)) (by decide) hg)
              replace HO626 := Aside0.mk (Kd.R_after (ok := (fun k_ => ((P1_ k_ ∨ P3_ k_) ∨ w.heap.size ≤ k_) ∧ some k_ ≠ (.slice Ao13 l1.length co13 : Value).ownBlock)) (by (with_reducible repeat (first | apply Kd.R_alloc | apply Kd.R_drewN | apply Kd.R_drew)); exact Kd.R_mono HO626.out (fun _ hk => ⟨⟨hk.1, hk.2.2⟩, hk.2.1⟩)) hg hat)
              replace HB := Aside0.mk (hb)
              replace HK := Aside0.mk (Kept.of_grown (S := (fun k_ => P1_ k_ ∨ P3_ k_)) hg (by repeat (first | (with_reducible first | exact HK.out | apply Kept.alloc | apply Kept.drewN | apply Kept.drew) | exact HK.out)) (fun k_ e_ => (HO622.out.1 k_ e_).1))
              have HO629 := Aside0.mk (ho)
              clear HO622
              clear ho hb hg hat
              obtain ⟨Ao45, co45, eo45⟩ := Kd.R_slice HO629.out
              (first | subst eo45 | (injection eo45 with f1_ f2_ f3_; have f4_ := f1_.symm; have f5_ := f3_.symm; clear f1_ f2_ f3_; subst f4_; subst f5_))
              refine hK.out _ _ ((Kd.foot_int (HR0.out _ (by repeat (first | exact HK.out | apply Kept.alloc | apply Kept.drewN | apply Kept.drew))) x10_1 (of_eq_true p623) (of_eq_true q623))) (fun hHeld => ?_)
              clear hK K
              refine nm_ ?_
              refine on_ 15 (some 64) 65535 HT_ (fun K hK => ?_)
              refine ca_ Try.func82 #[.slice (some ad617) l0.length c0, .slice Ao45 y627.length co45, .int .i64 (Go.bits .or .i64 a2 (ji26)), .slice (some ad615) x3_1.length co14] (hargs := by (try simp only [List.map_toArray, List.map_cons, List.map_nil]); first | done | (simp only [hji26]; rfl) | rfl | (simp only [List.length_drop, List.length_take]; rfl)) ?_
              with_reducible refine (ih k1 (by have := HK1.out; omega) _ _ l0 (fun k_ => some k_ = (.slice Ao45 y627.length co45 : Value).ownBlock) (.slice Ao45 y627.length co45) y627 (Go.bits .or .i64 a2 (ji26)) (fun k_ => some k_ = (.slice (some ad615) x3_1.length co14 : Value).ownBlock) (.slice (some ad615) x3_1.length co14) x3_1 t630 false t634 w0 _ ?side1 ?side2 ?side3 ?side4 ?side5 A27.out).mono ?_
              (case side1 => repeat (first | (with_reducible first | exact HB.out | apply below_alloc | apply pw_below_drewN | apply below_drew1) | exact HB.out))
              (case side2 => exact Kd.C_kept_call HR0.out (by repeat (first | (with_reducible first | exact HK.out | apply Kept.alloc | apply Kept.drewN | apply Kept.drew) | exact HK.out)) (fun k_ hs_ => Or.elim hs_ (fun e_ => (fun e_ => (HO629.out.1 k_ e_.symm).1) e_) (fun e_ => (fun e_ => (HO_3.out.1 k_ e_.symm)) e_)))
              (case side3 => exact HC0.out)
              (case side4 => exact Kd.R_tight rfl HO629.out)
              (case side5 => exact Kd.R_tight rfl HO_3.out)
              rintro e w46 ⟨v631, rfl, ho0, hy0, hb, hkp⟩
              refine ⟨_, rfl, ?_⟩
              have HO632 := Aside0.mk (Kd.R_mono (ok' := fun k_ => ((P1_ k_ ∨ P3_ k_) ∨ w.heap.size ≤ k_) ∧ some k_ ≠ (.slice Ao13 l1.length co13 : Value).ownBlock ∧ some k_ ≠ (.slice Ao44 y624.length co44 : Value).ownBlock) ho0 (fun k_ hk_ => ⟨Or.elim hk_ (fun hs_ => Or.elim hs_ (fun hs_ => (HO629.out.1 k_ (hs_).symm).1) (fun hs_ => (HO_3.out.1 k_ (hs_).symm))) (fun hn_ => (.inr (Nat.le_trans (by first | exact HK.out.1 | exact (show Kept w _ (fun k_ => P1_ k_ ∨ P3_ k_) from by repeat (first | (with_reducible first | exact HK.out | apply Kept.alloc | apply Kept.drewN | apply Kept.drew) | exact HK.out)).1) hn_))), Or.elim hk_ (fun hs_ => Or.elim hs_ (fun hs_ => fun e_ => ((((Kd.R_apart' HO_1.out (Kd.R_typed HO_3.out) (by decide))).1 k_ e_.symm).1.2) hs_) (fun hs_ => fun e_ => ((((Kd.R_apart' HO_1.out (Kd.R_typed HO_3.out) (by decide))).1 k_ e_.symm).2) hs_)) (fun hn_ => (Kd.fresh' (Kd.R_lt (pR HO_1)) k_ hn_)), Or.elim hk_ (fun hs_ => Or.elim hs_ (fun hs_ => fun e_ => ((((Kd.R_apart' HO626.out (Kd.R_typed HO_3.out) (by decide))).1 k_ e_.symm).1.2) hs_) (fun hs_ => fun e_ => ((((Kd.R_apart' HO626.out (Kd.R_typed HO_3.out) (by decide))).1 k_ e_.symm).2) hs_)) (fun hn_ => (Kd.fresh' (Kd.R_lt (pR HO626)) k_ hn_))⟩))
              replace HO_1 := Aside0.mk (Kd.R_mono (ok' := fun k_ => ((P1_ k_ ∨ P3_ k_) ∨ w.heap.size ≤ k_) ∧ some k_ ≠ (.slice Ao44 y624.length co44 : Value).ownBlock ∧ some k_ ≠ (v631 : Value).ownBlock) (Kd.R_keptB ((Kd.R_apart' HO_1.out (Kd.R_typed HO_3.out) (by decide))) hkp (fun k_ hk_ hs_ => Or.elim hs_ (fun e_ => (hk_.1.2) e_) (fun e_ => (hk_.2) e_))) (fun k_ hk_ => ⟨hk_.1.1.1.1, hk_.1.1.1.2, fun e_ => Or.elim (ho0.1 k_ e_.symm) (fun hs_ => hk_.2.1 hs_) (fun hn_ => Nat.not_le.2 hk_.2.2 hn_)⟩))
              replace HO626 := Aside0.mk (Kd.R_mono (ok' := fun k_ => ((P1_ k_ ∨ P3_ k_) ∨ w.heap.size ≤ k_) ∧ some k_ ≠ (.slice Ao13 l1.length co13 : Value).ownBlock ∧ some k_ ≠ (v631 : Value).ownBlock) (Kd.R_keptB ((Kd.R_apart' HO626.out (Kd.R_typed HO_3.out) (by decide))) hkp (fun k_ hk_ hs_ => Or.elim hs_ (fun e_ => (hk_.1.2) e_) (fun e_ => (hk_.2) e_))) (fun k_ hk_ => ⟨hk_.1.1.1.1, hk_.1.1.1.2, fun e_ => Or.elim (ho0.1 k_ e_.symm) (fun hs_ => hk_.2.1 hs_) (fun hn_ => Nat.not_le.2 hk_.2.2 hn_)⟩))
              replace HK := Aside0.mk (Kept.then_ (S := (fun k_ => P1_ k_ ∨ P3_ k_)) (by repeat (first | (with_reducible first | exact HK.out | apply Kept.alloc | apply Kept.drewN | apply Kept.drew) | exact HK.out)) hkp (fun k_ hs_ => Or.elim hs_ (fun e_ => (fun e_ => (HO629.out.1 k_ e_.symm).1) e_) (fun e_ => (fun e_ => (HO_3.out.1 k_ e_.symm)) e_)))
              replace HO_3 := Aside0.mk (Kd.R_reok rfl hy0 (fun k_ e_ => HO_3.out.1 k_ e_))
              replace HB := Aside0.mk (hb)
              clear HO629
              (try clear hb)
              (try clear hkp)
              (try clear ho0)
              (try clear hy0)
              refine hK.out _ _ ((Kd.foot_int (HR0.out _ (by repeat (first | exact HK.out | apply Kept.alloc | apply Kept.drewN | apply Kept.drew))) x10_1 (of_eq_true p623) (of_eq_true q623))) (fun hHeld => ?_)
              clear hK K
              refine nm_ ?_
              refine pu_ 16 48 131071 HT_ ?_
              refine pu_ 17 65 262143 HT_ ?_
              refine pu_ 18 66 524287 HT_ ?_
              refine pu_ 19 13 1048575 HT_ ?_
              refine pu_ 20 14 2097151 HT_ ?_
              refine dn_ HT_ ?_
              try go_wp2
              (try simp only [← hl3_1])
              go_roundg k1
              case measure => have := HK1.out; omega
              case rel => exact ⟨(t634), (wrap64 (x10_1 + 1)), (by first | rfl | (simp; done) | (simp [*]; done)), H', ⟨by have := HK1.out; omega⟩, ⟨by (try simp only [hl3_1]); (with_reducible repeat (first | apply Kd.R_alloc | apply Kd.R_drewN | apply Kd.R_drew)); exact Kd.R_mono HO_1.out (fun _ hk => hk.1)⟩, ⟨by (try simp only [hl3_1]); (with_reducible repeat (first | apply Kd.R_alloc | apply Kd.R_drewN | apply Kd.R_drew)); exact HO_3.out⟩, ⟨by repeat (first | (with_reducible first | exact HK.out | apply Kept.alloc | apply Kept.drewN | apply Kept.drew) | exact HK.out)⟩, ⟨pH HB⟩⟩
            ·rw [if_neg c24] at H
             exact absurd H (by simp)
           ·replace c22 := Bool.eq_false_iff.mpr c22
            subst c22
            have H1 : (spec_l07Find.l0 k1 l0 l1 a2 x3_1 (wrap64 (x10_1 + 1))) = some (r1, r2, r3) := by rw [if_neg (show ¬ (false = true) by decide)] at H; exact H
            clear H
            have H := H1
            clear H1
            have H' := Aside0.mk H
            clear H
            have p617 : 0 ≤ (x10_1 : Int) := of_decide_eq_true (by first | (with_reducible assumption) | assumption)
            have q617 : x10_1 < (l0.length : Int) := of_decide_eq_true (by first | (with_reducible assumption) | assumption)
            obtain ⟨ad617, e617, hx617_0⟩ := Kd.at_int (Kd.C_kept_now HR0.out HK.out) x10_1 p617 q617
            cases e617
            replace p617 := eq_true p617
            replace q617 := eq_true q617
            go_wp2_with (first | ((with_reducible refine gate_callee (f := 131) rfl ?_); refine cl_ (some 43) Try.func131 #[.slice Ao13 l1.length co13, .int .i64 (rd l0 x10_1)] ?_; (with_reducible refine (spec_l07Goes.calls k1 _ _ l1 (rd l0 x10_1) false t619 _ ?side1 ?side2 A21.out).mono ?_); (case side1 => exact pC ((Kd.R_reads' HO_1.out).2.2)); (case side2 => exact (Kd.R_reads' HO_1.out).2.1); rintro e w' ⟨rfl, ⟨nd, rfl⟩⟩; refine ⟨_, rfl, ?_⟩))
            (try simp only [← hl3_1])
            go_roundg k1
            case measure => have := HK1.out; omega
            case rel => exact ⟨(x3_1), (wrap64 (x10_1 + 1)), (by first | rfl | (simp; done) | (simp [*]; done)), H', ⟨by have := HK1.out; omega⟩, ⟨by (try simp only [hl3_1]); (with_reducible repeat (first | apply Kd.R_alloc | apply Kd.R_drewN | apply Kd.R_drew)); exact HO_1.out⟩, ⟨by (try simp only [hl3_1]); (with_reducible repeat (first | apply Kd.R_alloc | apply Kd.R_drewN | apply Kd.R_drew)); exact HO_3.out⟩, ⟨by repeat (first | (with_reducible first | exact HK.out | apply Kept.alloc | apply Kept.drewN | apply Kept.drew) | exact HK.out)⟩, ⟨pH HB⟩⟩
          ·rw [if_neg c20] at H
           exact absurd H (by simp)
        ·rw [if_neg c17] at H
         exact absurd H (by simp)
       ·rw [if_neg c15] at H
        have c15b0 : decide (x10_1 < (l0.length : Int)) = false := decide_eq_false c15
        (try (have c15z0_hl3_1 := c15b0; simp only [hl3_1] at c15z0_hl3_1))
        clear c15
        by_cases c47 : 0 ≤ a2
        ·rw [if_pos c47] at H
         have c47b0 : decide (0 ≤ a2) = true := decide_eq_true c47
         clear c47
         by_cases c48 : a2 < (x3_1.length : Int)
         ·rw [if_pos c48] at H
          have c48b0 : decide (a2 < (x3_1.length : Int)) = true := decide_eq_true c48
          (try (have c48z0_hl3_1 := c48b0; simp only [hl3_1] at c48z0_hl3_1))
          clear c48
          obtain ⟨y616, hy616⟩ : ∃ y_ : List Bool, y_ = (x3_1.set (a2 : Int).toNat true) := ⟨_, rfl⟩
          replace H : (some (([] : List Int), false, y616)) = some (r1, r2, r3) := by first | (rw [hy616]; with_reducible exact H) | (have H2_ := (Option.bind_some _ _).symm.trans H; rw [hy616]; with_reducible exact H2_) | (have H2_ := (Option.bind_some _ _).symm.trans H; with_reducible exact H2_) | with_reducible exact H | (rw [hy616]; exact H) | exact H
          have Ny616 := Aside0.mk hy616
          clear hy616
          simp only [Option.some.injEq, Prod.mk.injEq] at H
          obtain ⟨rfl, rfl, rfl⟩ := H
          have p49 : 0 ≤ (a2 : Int) := of_decide_eq_true (by first | (with_reducible assumption) | assumption)
          have q49 : (a2 : Int) < ((x3_1.length : Int) : Int) := of_decide_eq_true (by first | (with_reducible assumption) | assumption)
          obtain ⟨go49, co49, eo49, gb49, gl49, cl49, HG49⟩ := Kd.R_form HO_3.out (by omega)
          (first | cases eo49 | (injection eo49 with ea_ en_ ec_; (first | subst ea_ | (injection ea_ with ea_; subst ea_)); subst ec_; clear en_))
          have GB49 := Aside0.mk gb49
          have GG49 := Aside0.mk HG49
          clear gb49 gl49 HG49
          have HMgo49 := Aside0.mk (show ((P1_ go49 ∨ P3_ go49) ∨ w.heap.size ≤ go49) from (HO_3.out.1 _ rfl))
          (first | simp only [add_plain] at hx615_0 | skip)
          obtain ⟨hx49_0, hf49_0⟩ := Kd.R_celln false HO_3.out (a2 : Int) p49 q49
          replace p49 := eq_true p49
          replace q49 := eq_true q49
          have HP50 := Kd.R_putg HO_3.out (a2 : Int) true
          go_wp2_with (first | ((with_reducible refine gate_store (t := 4) (p := 71) rfl ?_); refine store_event (t := 4) (p := 71) (v := ?vo_w51) (w1 := (wr.setCell ⟨go49, (a2 : Int).toNat, none⟩ (.bool true))) ?hg ?ho ?hn ?hr ?_; (case ho => rfl); (case hg => rfl); (case hn => rfl); (case hr => first | (go_simp; done) | (go_simp; rfl)); intro w51 hw; have hg : wr.grownBy w51 (some go49) := (by rw [hw]; exact HP50.2); have hp_ : Kd.R Kd.bool 4 w51 w0.heap.size (fun k_ => ((P1_ k_ ∨ P3_ k_) ∨ w.heap.size ≤ k_)) (.slice (some ⟨go49, 0, none⟩) x3_1.length co14) y616 := (by rw [hw, Ny616.out]; exact HP50.1); clear HP50; have n0_ := Aside0.mk (Kd.R_over' (v := (.slice (some ⟨go49, 0, none⟩) x3_1.length co14)) (pR HO_1) (Kd.R_typed HO_3.out) (by decide) hg); have n1_ := Aside0.mk (hp_); have n2_ := Aside0.mk ((by rw [hw]; exact below_set (HB.out) GB49.out : Below w0.heap.size w0 w51)); have n3_ := Aside0.mk (Kept.of_grown (S := (fun k_ => P1_ k_ ∨ P3_ k_)) hg (by repeat (first | (with_reducible first | exact HK.out | apply Kept.alloc | apply Kept.drewN | apply Kept.drew) | exact HK.out)) (fun k_ e_ => (HO_3.out.1 k_ e_))); clear HO_1; clear HO_3; clear HB; clear HK; have HO_1 := n0_; have HO_3 := n1_; have HB := n2_; have HK := n3_; clear n0_ n1_ n2_ n3_; clear hg hw hp_))
          go_ret2
          exact ⟨_, by first | rfl | (simp [errW_none, errW_some] <;> rfl) | (simp [*, errW_none, errW_some] <;> rfl) | (exfalso; simp_all), by first | exact Kd.R_nil _ _ _ _ _ | exact Kd.N_nil _ _ _ _ _ | exact Kd.V_nil _ _ _ _ _ | exact Kd.Q_nil _ _ _ _ _ | exact Kd.S_nil _ _ _ _ _, (by first | exact (pR HO_3) | (simp only [hl3_1]; exact (pR HO_3))), by repeat (first | (with_reducible first | exact HB.out | apply below_alloc | apply pw_below_drewN | apply below_drew1) | exact HB.out), by repeat (first | (with_reducible first | exact HK.out | apply Kept.alloc | apply Kept.drewN | apply Kept.drew) | exact HK.out)⟩
         ·rw [if_neg c48] at H
          exact absurd H (by simp)
        ·rw [if_neg c47] at H
         exact absurd H (by simp)
   ·rw [if_neg c8] at H
    exact absurd H (by simp)
  ·rw [if_neg c7] at H
   exact absurd H (by simp)
end Go.Proofs.Ytomdfjohnmikdaa.QS
