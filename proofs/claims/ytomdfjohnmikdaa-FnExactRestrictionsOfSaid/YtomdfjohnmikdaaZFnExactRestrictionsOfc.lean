/- Words and lemmas for FnExactRestrictionsOf, part 3: what the row's text comes to. -/
import Derived.Test.YtomdfjohnmikdaaProg
import Derived.Below
import Derived.Deep.Draws
import Derived.Deep.AppendLies
import Derived.Maps.AppendAt
import Derived.OwnWalk
import Derived.Laws.BytesArg
import Derived.Laws.MakeOwn
import Derived.Laws.OwnMore
import Derived.Deep.OwnRows
import Derived.Tactics
import Derived.Lib.ConvBytes
import Derived.Laws.Slices
import Derived.WalkKit
import Derived.KernelRfl
import Derived.RowKit3
import Derived.Deep.LoopGhost
import Derived.Deep.QuietTactic
import Derived.BigQuiet
import Derived.WideLaws
import Derived.Deep.DeepCutAuto
import Derived.Deep.CutBlock
import Derived.Deep.RegionHeld3
import Derived.Laws.Rows
import Derived.Lib.AppendStr
import Derived.ArgAppend
import Derived.Laws.IdiomCopy
import Derived.OrdersHeld
import Derived.Laws.BitsLemmas
import Derived.RowKit
import Derived.MapKept
import Derived.Carry
import Derived.Shelf.SortM.Plain
import Derived.Shelf.SortM.SortNone
import Derived.Sort.OwnSortedInts
import Derived.Test.YtomdfjohnmikdaaZFnExactRestrictionsOfb
namespace Go.Proofs.Ytomdfjohnmikdaa.Im
set_option linter.unusedVariables false
set_option linter.unusedSimpArgs false
open Go.RowKit Go.Shelf Go.Proofs.Ytomdfjohnmikdaa.QI Go.Proofs.Ytomdfjohnmikdaa.Ext Go.Proofs.YtomdfjohnmikdaaW.PrintWords Go.Proofs.YtomdfjohnmikdaaW.PrintLast Go.Proofs.YtomdfjohnmikdaaW.PrintMore
def onesZ (x : Int) : Int := ((verts x).length : Int)
theorem size_all : ((List.range 64).all fun f => impl_size.f (f : Int) == some (onesZ (f : Int))) = true := by decide +kernel
theorem size_eq {x : Int} (h0 : 0 ≤ x) (h6 : x ≤ 63) : impl_size.f x = some (onesZ x) := by
  obtain ⟨m, rfl⟩ := Int.eq_ofNat_of_zero_le h0
  exact eq_of_beq (List.all_eq_true.1 size_all m (List.mem_range.2 (by omega)))
theorem isC_63 {n : Int} {l : List Int} (h : isC n l = true) : ∀ x ∈ l, 1 ≤ x ∧ x ≤ 63 := by
  obtain ⟨⟨h1, h6⟩, ha, _⟩ := isC_of h
  intro x hx
  obtain ⟨i, hi, rfl⟩ := List.mem_iff_getElem.1 hx
  have h2 := List.all_eq_true.1 ha i (List.mem_range.2 hi)
  simp only [okAt, List.getElem?_eq_getElem hi, Option.getD_some, withinB, Bool.and_eq_true, decide_eq_true_eq] at h2
  have hF : fullZ n ≤ 63 := by
    obtain rfl | rfl | rfl | rfl | rfl | rfl : n = 1 ∨ n = 2 ∨ n = 3 ∨ n = 4 ∨ n = 5 ∨ n = 6 := by omega
    all_goals decide +kernel
  omega
theorem w64' {x : Int} (h1 : -9223372036854775808 ≤ x) (h2 : x ≤ 9223372036854775807) : wrap64 x = x := by unfold wrap64; omega
theorem rd_at' {l : List Int} {i : Nat} (h : i < l.length) : rd l (i : Int) = l[i] := by simp [rd, List.getD_eq_getElem?_getD, List.getElem?_eq_getElem h]
end Go.Proofs.Ytomdfjohnmikdaa.Im
namespace Go.Proofs.Ytomdfjohnmikdaa.Im
set_option linter.unusedVariables false
set_option linter.unusedSimpArgs false
open Go.RowKit Go.Shelf Go.Proofs.Ytomdfjohnmikdaa.QI Go.Proofs.Ytomdfjohnmikdaa.Ext Go.Proofs.YtomdfjohnmikdaaW.PrintWords Go.Proofs.YtomdfjohnmikdaaW.PrintLast Go.Proofs.YtomdfjohnmikdaaW.PrintMore
def inB (f x : Int) : Bool := f != x && (Go.bits .andNot .i64 f x == 0)
theorem facets11_f (b : Nat) (f : Int) (w : World) (hb : Boxed w b 2 (.int .i64 f)) :
    FnB Try.prog (.func (.func 135) #[] #[.pointer (some ⟨b, 0, none⟩)]) (fun _ => True) (inB f) w := by
  refine ⟨_, _, _, rfl, enters_of Try.func135 (by kernel_rfl) rfl, fun W x hW hx => ?_⟩
  have hcell : W.cell? ⟨b, 0, none⟩ = some (.int .i64 f) := (hW.cell (p := ⟨b, 0, none⟩) hb.lt).trans hb.cell
  have HC := Aside0.mk (isIn_c f x W)
  have HE : Aside0 (inB f x = (f != x && (Go.bits .andNot .i64 f x == 0))) := ⟨rfl⟩
  clear hW hx hb
  show Calls Try.prog 135 #[.int .i64 x, .pointer (some ⟨b, 0, none⟩)] W fun e w' => e = .returned (.bool (inB f x)) ∧ Below W.heap.size W w'
  generalize (Go.bits .andNot .i64 f x == 0) = r at HC HE
  cases h1 : (f != x) with
  | false =>
    go_enter Try.func135, Try.ntmps135
    go_wp2
    go_ret
    exact ⟨by rw [HE.out, h1]; rfl, Below.refl _ _⟩
  | true =>
    go_enter Try.func135, Try.ntmps135
    go_wp2_with (go_at_call 92; refine HC.out.mono ?_; rintro e w1 ⟨rfl, rfl⟩)
    go_ret
    exact ⟨by rw [HE.out, h1]; rfl, Below.refl _ _⟩
def biggerB (xs : List Int) (x : Int) : Bool := xs.any (inB x)
set_option maxRecDepth 100000 in
theorem facets1_f (b : Nat) (m : Int) (A : Option Addr) (n c : Nat) (xs : List Int) (w : World) (hb : CxAt w b m A n c) (hr : RC w A n xs) :
    FnB Try.prog (.func (.func 134) #[] #[.pointer (some ⟨b, 0, none⟩)]) (fun _ => True) (biggerB xs) w := by
  refine ⟨_, _, _, rfl, enters_of Try.func134 (by kernel_rfl) rfl, fun W x hW hx => ?_⟩
  have hb1 : Below W.heap.size W (W.alloc (.cells #[.int .i64 x] 2)) := (Below.refl _ W).alloc (Nat.le_refl _) _
  have hk := (hb.below hW).below hb1
  have HC := Aside0.mk (containsFunc_c A n c xs _ _ _ _ (Kd.C_below (Kd.C_below hr hW) hb1) (facets11_f W.heap.size x _ (Boxed.new W _ _)) (fun _ _ => trivial))
  have h1 := hk.c1
  have HB := Aside0.mk hb1
  have HE : Aside0 (biggerB xs x = xs.any (inB x)) := ⟨rfl⟩
  clear hW hx hb hr hk hb1
  show Calls Try.prog 134 #[.int .i64 x, .pointer (some ⟨b, 0, none⟩)] W fun e w' => e = .returned (.bool (biggerB xs x)) ∧ Below W.heap.size W w'
  rw [HE.out]
  generalize xs.any (inB x) = r at HC ⊢
  go_enter Try.func134, Try.ntmps134
  go_wp2_with (go_at_call 90; refine HC.out.mono ?_; rintro e w1 ⟨rfl, hb⟩)
  go_ret
  exact ⟨rfl, below_in HB.out hb⟩
def facetsL (xs : List Int) : List Int := xs.filter fun x => !biggerB xs x
set_option maxRecDepth 100000 in
theorem facets_c (m : Int) (A : Option Addr) (n c : Nat) (xs : List Int) (w : World) (hr : RC w A n xs) (hi : isC m xs = true) :
    Calls Try.prog 84 #[.agg #[.int .i64 m, .slice A n c]] w (SlOnly w.heap.size w (facetsL xs)) := by
  have hl := isC_small hi
  have hbk := CxAt.new w m A n c
  have hb1 : Below w.heap.size w (w.alloc (.cells #[.int .i64 m, .slice A n c] 28)) := (Below.refl _ w).alloc (Nat.le_refl _) _
  have hc := clone_c A n c xs _ (Kd.C_below hr hb1) (by have := hr.1; omega)
  have hd := fun v W HB ho => deleteFunc_c (w.alloc (.cells #[.int .i64 m, .slice A n c] 28)) v xs _ (fun _ => True) _ W HB ho (by omega) (facets1_f w.heap.size m A n c xs _ hbk (Kd.C_below hr hb1)) (fun _ _ => trivial)
  have l1 := hbk.c1
  have HC := Aside0.mk hc
  have HD := Lib.hid hd
  have HB := Aside0.mk hb1
  have HE : Aside0 (facetsL xs = xs.filter fun x => !biggerB xs x) := ⟨rfl⟩
  clear hc hb1 hbk hr hi hl hd
  rw [HE.out]
  go_enter Try.func84, Try.ntmps84
  go_wp2_with (first
    | (go_at_call 122; refine HC.out.mono ?_; rintro e w2 ⟨v, rfl, hv, hb2⟩; have HV := Aside0.mk hv; have HB2 := Aside0.mk hb2; clear hv hb2)
    | (go_at_call 121; refine (HD.out _ _ HB2.out HV.out).mono ?_; rintro e w3 ⟨v3, rfl, hv, hb3⟩; have HV3 := Aside0.mk hv; have HB3 := Aside0.mk hb3; clear hv hb3))
  go_ret
  exact ⟨_, rfl, Kd.R_lower HV3.out HB.out.size, HB.out.trans (HB3.out.mono HB.out.size)⟩
theorem dim_eq {x : Int} (h0 : 0 ≤ x) (h6 : x ≤ 63) : impl_dimension.f x = some (onesZ x - 1) := by
  unfold impl_dimension.f
  rw [size_eq h0 h6]
  have : (verts x).length ≤ 6 := verts_len x
  simp only [Option.bind_some]
  rw [w64' (by unfold onesZ; omega) (by unfold onesZ; omega)]
def dimL (l : List Int) : Int := l.foldl (fun a x => max a (onesZ x - 1)) (-1)
theorem dim_loop (l : List Int) (hr : ∀ x ∈ l, 1 ≤ x ∧ x ≤ 63) (hm : l.length ≤ 4611686018427387904) :
    ∀ d (i : Nat) (a : Int), l.length - i = d → i ≤ l.length → Ev (fun k => impl_Complex_dimension.l0 k a l (l.length : Int) i) ((l.drop i).foldl (fun a x => max a (onesZ x - 1)) a) := by
  intro d
  induction d with
  | zero =>
    intro i a hd hi
    rw [List.drop_eq_nil_of_le (by omega)]
    refine Ev.step (f := fun k => some a) (fun k => ?_) (Ev.now _)
    simp only [impl_Complex_dimension.l0]; rw [if_neg (by omega)]
  | succ d ih =>
    intro i a hd hi
    have hi' : i < l.length := by omega
    have hx := hr _ (List.getElem_mem hi')
    rw [List.drop_eq_getElem_cons hi', List.foldl_cons]
    refine Ev.step (f := fun k => impl_Complex_dimension.l0 k (max a (onesZ l[i] - 1)) l (l.length : Int) ((i + 1 : Nat) : Int)) (fun k => ?_) (ih (i + 1) _ (by omega) (by omega))
    simp only [impl_Complex_dimension.l0]
    rw [if_pos (by omega), if_pos (by omega), if_pos (by omega), rd_at' hi', dim_eq (by omega) (by omega)]
    simp only [Option.bind_some]
    rw [show wrap64 ((i : Int) + 1) = ((i + 1 : Nat) : Int) by rw [w64' (by omega) (by omega)]; omega, show mx a (onesZ l[i] - 1) = max a (onesZ l[i] - 1) by unfold mx; split <;> omega]
theorem dimension_c (m : Int) (A : Option Addr) (c : Nat) (xs : List Int) (w : World) (hr : RC w A xs.length xs) (hc : xs.length ≤ c) (hi : isC m xs = true) :
    Calls Try.prog 56 #[.agg #[.int .i64 m, .slice A xs.length c]] w fun e w' => e = .returned (.int .i64 (dimL xs)) ∧ Below w.heap.size w w' := by
  obtain ⟨k, hk⟩ := (dim_loop xs (isC_63 hi) (by have := isC_small hi; omega) _ 0 (-1) rfl (Nat.zero_le _)).rounds
  exact impl_Complex_dimension.calls k m A c xs _ w hr hc hk
theorem dimensionOf_c (x : Int) (w : World) (h0 : 0 ≤ x) (h6 : x ≤ 63) : Calls Try.prog 107 #[.int .i64 x] w fun e w' => e = .returned (.int .i64 (onesZ x - 1)) ∧ Below w.heap.size w w' :=
  (impl_dimension.calls x _ w (dim_eq h0 h6)).mono fun e w' h => ⟨h.1, h.2.below⟩
def pureP (xs : List Int) (x : Int) : Bool := onesZ x - 1 == dimL xs
set_option maxRecDepth 100000 in
set_option maxHeartbeats 1000000 in
theorem isPure1_f (b : Nat) (m : Int) (A : Option Addr) (n c : Nat) (xs : List Int) (w : World) (hb : CxAt w b m A n c) (hr : RC w A n xs) (hc : n ≤ c) (hi : isC m xs = true) :
    FnB Try.prog (.func (.func 173) #[] #[.pointer (some ⟨b, 0, none⟩)]) (fun x => 1 ≤ x ∧ x ≤ 63) (pureP xs) w := by
  refine ⟨_, _, _, rfl, enters_of Try.func173 (by kernel_rfl) rfl, fun W x hW hx => ?_⟩
  obtain rfl : xs.length = n := hr.1
  have hr' := Kd.C_below hr hW
  have hb' := hb.below hW
  have h0 := hb'.c0
  have h1 := hb'.c1
  have HBK := Aside0.mk hb'
  have HD := Lib.hid (fun W' => dimensionOf_c x W' (by omega) hx.2)
  have HM := Lib.hid (fun W' (hB : Below W.heap.size W W') => dimension_c m A c xs W' (Kd.C_below hr' hB) hc hi)
  have HE : Aside0 (pureP xs x = (onesZ x - 1 == dimL xs)) := ⟨rfl⟩
  clear hb hr hW hb' hr' hx hi
  show Calls Try.prog 173 #[.int .i64 x, .pointer (some ⟨b, 0, none⟩)] W fun e w' => e = .returned (.bool (pureP xs x)) ∧ Below W.heap.size W w'
  generalize onesZ x - 1 = r at HD HE
  generalize dimL xs = q at HM HE
  go_enter Try.func173, Try.ntmps173
  go_wp2
  go_region_held3 (fun w' : World => w'.cell? ⟨b, 0, none⟩ = some (.int .i64 m) ∧ w'.cell? ⟨b, 1, none⟩ = some (.slice A xs.length c)) (first | exact ⟨h0, h1⟩ | exact HBK.out.keep (by assumption)) (first | (go_at_call 107; refine (HD.out _).mono ?_; rintro e w1 ⟨rfl, hb1⟩; first | have hbw := undrew hb1 | have hbx := below_in hbw hb1) | (go_at_call 56; refine (HM.out _ hbw).mono ?_; rintro e w3 ⟨rfl, hb3⟩; have hby := below_in hbw hb3))
  go_wp2
  go_ret
  exact ⟨by rw [HE.out]; rfl, hby⟩
def pureB (xs : List Int) : Bool := (facetsL xs).all (pureP xs)
set_option maxRecDepth 100000 in
theorem isPure_c (m : Int) (A : Option Addr) (n c : Nat) (xs : List Int) (w : World) (hr : RC w A n xs) (hc : n ≤ c) (hi : isC m xs = true) :
    Calls Try.prog 133 #[.agg #[.int .i64 m, .slice A n c]] w fun e w' => e = .returned (.bool (pureB xs)) ∧ Below w.heap.size w w' := by
  have hbk := CxAt.new w m A n c
  have hb1 : Below w.heap.size w (w.alloc (.cells #[.int .i64 m, .slice A n c] 28)) := (Below.refl _ w).alloc (Nat.le_refl _) _
  have hf := facets_c m A n c xs _ (Kd.C_below hr hb1) hi
  have h63 := isC_63 hi
  have ha := fun W A3 c3 (hB : Below (w.alloc (.cells #[.int .i64 m, .slice A n c] 28)).heap.size (w.alloc (.cells #[.int .i64 m, .slice A n c] 28)) W) (hv : RC W A3 (facetsL xs).length (facetsL xs)) => areAll_c A3 (facetsL xs).length c3 (facetsL xs) _ (fun x => 1 ≤ x ∧ x ≤ 63) (pureP xs) W hv (isPure1_f w.heap.size m A n c xs W (hbk.below hB) (Kd.C_below hr (below_in hb1 hB)) hc hi) (fun x hx => h63 x (List.mem_filter.1 hx).1)
  have l0 := hbk.c0
  have l1 := hbk.c1
  have HF := Aside0.mk hf
  have HA := Lib.hid ha
  have HB := Aside0.mk hb1
  have HE : Aside0 (pureB xs = (facetsL xs).all (pureP xs)) := ⟨rfl⟩
  clear hf ha hb1 hbk hr hi h63
  rw [HE.out]
  generalize (facetsL xs).all (pureP xs) = r at HA ⊢
  go_enter Try.func133, Try.ntmps133
  go_wp2_with (first
    | (go_at_call 84; refine HF.out.mono ?_; rintro e w2 ⟨v, rfl, hv, hb2⟩; obtain ⟨A2, c2, rfl⟩ := Kd.R_slice hv; have HV := Aside0.mk (Kd.R_reads' hv).2.2; have HB2 := Aside0.mk hb2; clear hv hb2)
    | (go_at_call 57; refine (HA.out _ _ _ HB2.out HV.out).mono ?_; rintro e w3 ⟨rfl, hb3⟩; have HB3 := Aside0.mk (below_in HB2.out hb3); clear hb3))
  go_ret
  exact ⟨rfl, below_in HB.out HB3.out⟩
end Go.Proofs.Ytomdfjohnmikdaa.Im
namespace Go.Proofs.Ytomdfjohnmikdaa.QS
open Go.Proofs.Ytomdfjohnmikdaa.Cw Go.Proofs.Ytomdfjohnmikdaa.Kp Go.Proofs.Ytomdfjohnmikdaa.Ext Go.RowKit Go.Proofs.YtomdfjohnmikdaaW.PrintWords Go.Proofs.YtomdfjohnmikdaaW.PrintLast Go.Proofs.YtomdfjohnmikdaaW.PrintMore
attribute [local go_sem] max2_int min2_int max_two min_two max_three min_three max_four min_four   -- for this text's walks alone
set_option linter.unusedVariables false
set_option linter.unusedSimpArgs false
def spec_l01Ones.l0 : Nat → Int → Int → Option (Int)
 | 0, _, _ => none
 | k + 1, x0, x3 => if x0 > 0 then (spec_l01Ones.l0 k (wrap64 (Int.tdiv x0 2)) (wrap64 (x3 + (Int.tmod x0 2)))) else (some x3)
def spec_l01Ones.f (k : Nat) (a0 : Int) : Option (Int) := spec_l01Ones.l0 k a0 0
theorem spec_l01Ones.mono_l : ∀ k, (∀ y0 y1, LeO (spec_l01Ones.l0 k y0 y1) (spec_l01Ones.l0 (k + 1) y0 y1))
 | 0 => fun _ _ r h => by simp [spec_l01Ones.l0] at h
 | k + 1 => by
  have ih0 := spec_l01Ones.mono_l k
  ·intro y0 y1
   unfold spec_l01Ones.l0
   repeat' first
   | (with_reducible exact ih0 _ _)
   | (with_reducible exact LeO.refl _)
   | (with_reducible exact LeO.none _)
   | (with_reducible refine LeO.ite ?_ ?_)
   | (with_reducible refine LeO.bind ?_ (fun _ => ?_))
   | exact ih0 _ _
   | exact LeO.none _
   | refine LeO.ite ?_ ?_
   | refine LeO.bind ?_ (fun _ => ?_)
theorem spec_l01Ones.mono : ∀ a0 k, LeO (spec_l01Ones.f k a0) (spec_l01Ones.f (k + 1) a0) := by
 intro a0 k
 have ih0 := spec_l01Ones.mono_l k
 unfold spec_l01Ones.f
 repeat' first
   | (with_reducible exact ih0 _ _)
   | (with_reducible exact LeO.refl _)
   | (with_reducible exact LeO.none _)
   | (with_reducible refine LeO.ite ?_ ?_)
   | (with_reducible refine LeO.bind ?_ (fun _ => ?_))
   | exact ih0 _ _
   | exact LeO.none _
   | refine LeO.ite ?_ ?_
   | refine LeO.bind ?_ (fun _ => ?_)
set_option maxHeartbeats 8000000 in
set_option maxRecDepth 100000 in
theorem spec_l01Ones.calls (k : Nat) (a0 : Int) (r : Int) (w : World) (h : spec_l01Ones.f k a0 = some r) :
  Calls Try.prog 129 #[.int .i64 a0] w fun e w' => e = .returned (.int .i64 r) ∧ Drawn0 w w' := by
 have H : (spec_l01Ones.l0 k a0 0) = some r := h
 clear h
 have H' := Aside0.mk H
 clear H
 go_enter Try.func129, Try.ntmps129
 go_wp2
 go_loopg [0, 3] k (fun kq v0 v3 w' => ∃ (x0_1 : Int) (x3_1 : Int), v0 = .int .i64 x0_1 ∧ v3 = .int .i64 x3_1 ∧ Aside0 (spec_l01Ones.l0 kq x0_1 x3_1 = some r) ∧ Aside0 (kq ≤ k) ∧ Drawn0 w w')
 case atStart => exact ⟨(a0), (0), (by first | rfl | (simp; done) | (simp [*]; done)), (by first | rfl | (simp; done) | (simp [*]; done)), H', ⟨Nat.le_refl _⟩, by repeat (first | exact Drawn0.refl _ | apply Drawn0.step)⟩
 case round =>
  clear H'
  try clear c1
  obtain ⟨x0_1, x3_1, rfl, rfl, HA, HK1, ⟨m1, rfl⟩⟩ := hrel
  cases gk with
  | zero => exact absurd HA.out (by simp [spec_l01Ones.l0])
  | succ k1 =>
   have H := HA.out
   clear HA
   simp only [spec_l01Ones.l0] at H
   by_cases c2 : x0_1 > 0
   ·rw [if_pos c2] at H
    have c2b0 : decide (0 < x0_1) = true := decide_eq_true c2
    clear c2
    have H' := Aside0.mk H
    clear H
    go_wp2
    go_roundg k1
    case measure => have := HK1.out; omega
    case rel => exact ⟨(wrap64 (Int.tdiv x0_1 2)), (wrap64 (x3_1 + (Int.tmod x0_1 2))), (by first | rfl | (simp; done) | (simp [*]; done)), (by first | rfl | (simp; done) | (simp [*]; done)), H', ⟨by have := HK1.out; omega⟩, by repeat (first | exact Drawn0.refl _ | apply Drawn0.step)⟩
   ·rw [if_neg c2] at H
    have c2b0 : decide (0 < x0_1) = false := decide_eq_false c2
    clear c2
    obtain rfl := Option.some.inj H
    go_wp2
    go_ret
    exact ⟨by first | rfl | (simp; done) | (simp [*]; done), by repeat (first | exact Drawn0.refl _ | apply Drawn0.step)⟩
end Go.Proofs.Ytomdfjohnmikdaa.QS
namespace Go.Proofs.Ytomdfjohnmikdaa.QS
open Go.Proofs.Ytomdfjohnmikdaa.Cw Go.Proofs.Ytomdfjohnmikdaa.Kp Go.Proofs.Ytomdfjohnmikdaa.Ext Go.RowKit Go.Proofs.YtomdfjohnmikdaaW.PrintWords Go.Proofs.YtomdfjohnmikdaaW.PrintLast Go.Proofs.YtomdfjohnmikdaaW.PrintMore
attribute [local go_sem] max2_int min2_int max_two min_two max_three min_three max_four min_four   -- for this text's walks alone
set_option linter.unusedVariables false
set_option linter.unusedSimpArgs false
def spec_l01Above.l0 : Nat → Int → List Int → Int → Int → List Int → Option (List Int)
 | 0, _, _, _, _, _ => none
 | k + 1, x1, x5, x6, x351000, x351001 => if x6 < (x351001.length : Int) then (if 0 ≤ x6 then (if (Go.bits .and .i64 (rd x351001 x6) x1) = x1 then ((spec_l01Ones.f k (rd x351001 x6)).bind fun t356 => ((spec_l01Ones.f k x1).bind fun t357 => (if t356 = (wrap64 (t357 + 1)) then (if x5.length < 17592186044416 then (spec_l01Above.l0 k x1 (x5 ++ [rd x351001 x6]) (wrap64 (x6 + 1)) x351000 x351001) else (none)) else (spec_l01Above.l0 k x1 x5 (wrap64 (x6 + 1)) x351000 x351001)))) else (spec_l01Above.l0 k x1 x5 (wrap64 (x6 + 1)) x351000 x351001)) else (none)) else (some x5)
def spec_l01Above.f (k : Nat) (a0_0 : Int) (l0_1 : List Int) (a1 : Int) : Option (List Int) := spec_l01Above.l0 k a1 (([] : List Int)) 0 a0_0 l0_1
set_option maxHeartbeats 8000000 in
set_option maxRecDepth 100000 in
theorem spec_l01Above.calls (k : Nat) (a0_0 : Int) (A0_1 : Option Addr) (c0_1 : Nat) (l0_1 : List Int) (a1 : Int) (r : List Int) (w : World) (hr0_1 : Kd.C (Kd.int .i64) w A0_1 l0_1.length l0_1) (hc0_1 : l0_1.length ≤ c0_1) (h : spec_l01Above.f k a0_0 l0_1 a1 = some r) :
  Calls Try.prog 130 #[.agg #[.int .i64 a0_0, .slice A0_1 l0_1.length c0_1], .int .i64 a1] w fun e w' => ∃ v0_ : Value, e = .returned (v0_) ∧ Kd.R (Kd.int .i64) 2 w' w.heap.size (fun _ => True) v0_ r ∧ Below w.heap.size w w' := by
 have hu28 := Try.underlying28
 have HR0_1 := Aside0.mk hr0_1
 have HC0_1 := Aside0.mk hc0_1
 clear hr0_1 hc0_1
 have HB := Aside0.mk (Below.refl w.heap.size w)
 have H : (spec_l01Above.l0 k a1 (([] : List Int)) 0 a0_0 l0_1) = some r := h
 clear h
 obtain ⟨y351, hy351⟩ : ∃ y_ : List Int, y_ = (([] : List Int)) := ⟨_, rfl⟩
 replace H : (spec_l01Above.l0 k a1 y351 0 a0_0 l0_1) = some r := by first | (rw [hy351]; with_reducible exact H) | (have H2_ := (Option.bind_some _ _).symm.trans H; rw [hy351]; with_reducible exact H2_) | (have H2_ := (Option.bind_some _ _).symm.trans H; with_reducible exact H2_) | with_reducible exact H | (rw [hy351]; exact H) | exact H
 have Ny351 := Aside0.mk hy351
 clear hy351
 have H' := Aside0.mk H
 clear H
 go_enter Try.func130, Try.ntmps130
 go_wp2_with (first | ((with_reducible refine gate_dst (N := 2) rfl ?_); refine box_event ?hg (N := 2) ?hd (cs := #[.int .i64 a0_0, .slice A0_1 l0_1.length c0_1]) (t := 28) ?hr ?_; (case hd => rfl); (case hg => rfl); (case hr => first | (go_simp; done) | (go_simp; rfl)); intro gb350 hg w3 hbox hb; have BK350 := Aside0.mk (hbox); have GW350 := gH HB hg; have GE350 := gH HB hg; replace HB := sH HB hb; clear hb hbox hg) | ((with_reducible refine gate_dst (N := 7) rfl ?_); refine Kd.R_lit (Kd.int .i64) _ 2 ?hg (N := 7) ?hd (xs := ([] : List Int)) (inner := []) (ok := fun _ => True) (okp := fun _ => True) ?hr ?hp (fun _ hk => hk) trivial (Below.refl _ _) (Nat.le_refl _) (by simp) ?_; (case hd => rfl); (case hg => rfl); (case hr => first | (go_simp; done) | (go_simp; rfl)); (case hp => exact (Reps.none _ _)); intro v352 w4 ho5 hb hg_ hnew_; clear hg_ hnew_; (first | rw [← Ny351.out] at ho5 | (simp only [Int.reduceToNat] at ho5; rw [← Ny351.out] at ho5)); have HO353 := Aside0.mk (Kd.R_lower ho5 (below_size (pH HB))); replace BK350 := sB BK350 hb; replace HB := sH HB hb; clear hb ho5))
 go_loopg [5, 6] k (fun kq v5 v6 w' => ∃ (x5_1 : List Int) (x6_1 : Int), v6 = .int .i64 x6_1 ∧ Aside0 (spec_l01Above.l0 kq a1 x5_1 x6_1 a0_0 l0_1 = some r) ∧ Aside0 (kq ≤ k) ∧ Aside0 (Kd.R (Kd.int .i64) 2 w' w.heap.size (fun _ => True) v5 x5_1) ∧ Aside0 (w'.heap[gb350]? = some (.cells #[.int .i64 a0_0, (.slice A0_1 l0_1.length c0_1)] 28 (0, 0))) ∧ Aside0 (Below w.heap.size w w'))
 case atStart => exact ⟨(y351), (0), (by first | rfl | (simp; done) | (simp [*]; done)), H', ⟨Nat.le_refl _⟩, ⟨by (with_reducible repeat (first | apply Kd.R_alloc | apply Kd.R_drewN | apply Kd.R_drew)); exact HO353.out⟩, ⟨pB BK350⟩, ⟨pH HB⟩⟩
 case round =>
  clear H'
  try clear c1
  try clear p2
  obtain ⟨x5_1, x6_1, rfl, HA, HK1, HO_5, BK350, HB⟩ := hrel
  cases gk with
  | zero => exact absurd HA.out (by simp [spec_l01Above.l0])
  | succ k1 =>
   have H := HA.out
   clear HA
   simp only [spec_l01Above.l0] at H
   by_cases c6 : x6_1 < (l0_1.length : Int)
   ·rw [if_pos c6] at H
    have c6b0 : decide (x6_1 < (l0_1.length : Int)) = true := decide_eq_true c6
    clear c6
    by_cases c7 : 0 ≤ x6_1
    ·rw [if_pos c7] at H
     have c7b0 : decide (0 ≤ x6_1) = true := decide_eq_true c7
     clear c7
     by_cases c8 : (Go.bits .and .i64 (rd l0_1 x6_1) a1) = a1
     ·rw [if_pos c8] at H
      have c8b0 : ((Go.bits .and .i64 (rd l0_1 x6_1) a1) == a1) = true := beq_iff_eq.mpr c8
      have c8b1 : ((Go.bits .and .i64 (rd l0_1 x6_1) a1) != a1) = false := bne_eq_false_iff_eq.mpr c8
      clear c8
      replace H := Option.bind_eq_some_iff.mp H
      obtain ⟨t356, A90, H⟩ := H
      try dsimp only at H
      have A9 := Aside0.mk A90
      clear A90
      replace H := Option.bind_eq_some_iff.mp H
      obtain ⟨t357, A100, H⟩ := H
      try dsimp only at H
      have A10 := Aside0.mk A100
      clear A100
      by_cases c11 : t356 = (wrap64 (t357 + 1))
      ·rw [if_pos c11] at H
       have c11b0 : (t356 == (wrap64 (t357 + 1))) = true := beq_iff_eq.mpr c11
       have c11b1 : (t356 != (wrap64 (t357 + 1))) = false := bne_eq_false_iff_eq.mpr c11
       clear c11
       by_cases c12 : x5_1.length < 17592186044416
       ·rw [if_pos c12] at H
        have LMc12 := Aside0.mk c12
        clear c12
        obtain ⟨y359, hy359⟩ : ∃ y_ : List Int, y_ = (x5_1 ++ [rd l0_1 x6_1]) := ⟨_, rfl⟩
        replace H : (spec_l01Above.l0 k1 a1 y359 (wrap64 (x6_1 + 1)) a0_0 l0_1) = some r := by first | (rw [hy359]; with_reducible exact H) | (have H2_ := (Option.bind_some _ _).symm.trans H; rw [hy359]; with_reducible exact H2_) | (have H2_ := (Option.bind_some _ _).symm.trans H; with_reducible exact H2_) | with_reducible exact H | (rw [hy359]; exact H) | exact H
        have Ny359 := Aside0.mk hy359
        clear hy359
        have H' := Aside0.mk H
        clear H
        have hcz13_0 : wr.cell? ⟨gb350, 0, none⟩ = some (.int .i64 a0_0) := cB BK350 0
        have hcz13_1 : wr.cell? ⟨gb350, 1, none⟩ = some (.slice A0_1 l0_1.length c0_1) := cB BK350 1
        have hfz13_0 := zB BK350 0
        have hfz13_1 := zB BK350 1
        have p354 : 0 ≤ (x6_1 : Int) := of_decide_eq_true (by first | (with_reducible assumption) | assumption)
        have q354 : x6_1 < (l0_1.length : Int) := of_decide_eq_true (by first | (with_reducible assumption) | assumption)
        obtain ⟨ad354, e354, hx354_0⟩ := Kd.at_int HR0_1.out x6_1 p354 q354
        cases e354
        replace hx354_0 := cH HB hx354_0
        replace p354 := eq_true p354
        replace q354 := eq_true q354
        have p355 : 0 ≤ (x6_1 : Int) := of_decide_eq_true (by first | (with_reducible assumption) | assumption)
        have q355 : x6_1 < (l0_1.length : Int) := of_decide_eq_true (by first | (with_reducible assumption) | assumption)
        obtain ⟨ad355, e355, hx355_0⟩ := Kd.at_int HR0_1.out x6_1 p355 q355
        obtain rfl : ad354 = ad355 := (by injection e355)
        replace hx355_0 := cH HB hx355_0
        replace p355 := eq_true p355
        replace q355 := eq_true q355
        go_wp2_with (first | (go_at_call 129; (with_reducible refine (spec_l01Ones.calls k1 (rd l0_1 x6_1) t356 _ A9.out).mono ?_); rintro e w' ⟨rfl, ⟨nd, rfl⟩⟩) | (go_at_call 129; (with_reducible refine (spec_l01Ones.calls k1 a1 t357 _ A10.out).mono ?_); rintro e w' ⟨rfl, ⟨nd, rfl⟩⟩; have p358 : 0 ≤ (x6_1 : Int) := of_decide_eq_true (by first | (with_reducible assumption) | assumption); have q358 : x6_1 < (l0_1.length : Int) := of_decide_eq_true (by first | (with_reducible assumption) | assumption); obtain ⟨ad358, e358, hx358_0⟩ := Kd.at_int HR0_1.out x6_1 p358 q358; obtain rfl : ad354 = ad358 := (by injection e358); replace hx358_0 := cH HB hx358_0; replace p358 := eq_true p358; replace q358 := eq_true q358) | ((with_reducible refine gate_builtin (b := .append) (xs := #[.tmp 36, .tmp 42]) rfl ?_); at_builtin; refine Kd.R_append (Kd.int .i64) (w0 := w) w.heap.size rfl (.tmp 36) (.tmp 42) 22 2 (.int .i64 0) 8 rfl Try.underlying22 info2 rfl (by decide) (by omega) u5 x5_1 (rd l0_1 x6_1) [.int .i64 (rd l0_1 x6_1)] (fun _ => True) (fun _ => False) rfl rfl ?aP (fun _ hk => hk.elim) ?aF ?aO ?aB ?aS ?aL ?_; (case aP => exact rfl); (case aB => exact (pH HB)); (case aF => exact (fun _ _ => trivial)); (case aO => exact (pR HO_5)); (case aS => exact (below_size (pH HB))); (case aL => have := LMc12.out; omega); intro v360 w14 ho hb hg hat; rw [← Ny359.out] at ho; replace BK350 := Aside0.mk (blk_grown (g := gb350) (o := .cells #[.int .i64 a0_0, .slice (some ad354) l0_1.length c0_1] 28 (0, 0)) (pB BK350) hg (Kd.R_ne HO_5.out BK350.out (by decide))); replace HB := Aside0.mk (hb); have HO361 := Aside0.mk (ho); clear HO_5; clear ho hb hg hat))
        go_roundg k1
        case measure => have := HK1.out; omega
        case rel => exact ⟨(y359), (wrap64 (x6_1 + 1)), (by first | rfl | (simp; done) | (simp [*]; done)), H', ⟨by have := HK1.out; omega⟩, ⟨by (with_reducible repeat (first | apply Kd.R_alloc | apply Kd.R_drewN | apply Kd.R_drew)); exact HO361.out⟩, ⟨pB BK350⟩, ⟨pH HB⟩⟩
       ·rw [if_neg c12] at H
        exact absurd H (by simp)
      ·rw [if_neg c11] at H
       have c11b0 : (t356 == (wrap64 (t357 + 1))) = false := beq_eq_false_iff_ne.mpr c11
       have c11b1 : (t356 != (wrap64 (t357 + 1))) = true := bne_iff_ne.mpr c11
       have H' := Aside0.mk H
       clear H
       have hcz15_0 : wr.cell? ⟨gb350, 0, none⟩ = some (.int .i64 a0_0) := cB BK350 0
       have hcz15_1 : wr.cell? ⟨gb350, 1, none⟩ = some (.slice A0_1 l0_1.length c0_1) := cB BK350 1
       have hfz15_0 := zB BK350 0
       have hfz15_1 := zB BK350 1
       have p354 : 0 ≤ (x6_1 : Int) := of_decide_eq_true (by first | (with_reducible assumption) | assumption)
       have q354 : x6_1 < (l0_1.length : Int) := of_decide_eq_true (by first | (with_reducible assumption) | assumption)
       obtain ⟨ad354, e354, hx354_0⟩ := Kd.at_int HR0_1.out x6_1 p354 q354
       cases e354
       replace hx354_0 := cH HB hx354_0
       replace p354 := eq_true p354
       replace q354 := eq_true q354
       have p355 : 0 ≤ (x6_1 : Int) := of_decide_eq_true (by first | (with_reducible assumption) | assumption)
       have q355 : x6_1 < (l0_1.length : Int) := of_decide_eq_true (by first | (with_reducible assumption) | assumption)
       obtain ⟨ad355, e355, hx355_0⟩ := Kd.at_int HR0_1.out x6_1 p355 q355
       obtain rfl : ad354 = ad355 := (by injection e355)
       replace hx355_0 := cH HB hx355_0
       replace p355 := eq_true p355
       replace q355 := eq_true q355
       go_wp2_with (first | (go_at_call 129; (with_reducible refine (spec_l01Ones.calls k1 (rd l0_1 x6_1) t356 _ A9.out).mono ?_); rintro e w' ⟨rfl, ⟨nd, rfl⟩⟩) | (go_at_call 129; (with_reducible refine (spec_l01Ones.calls k1 a1 t357 _ A10.out).mono ?_); rintro e w' ⟨rfl, ⟨nd, rfl⟩⟩))
       go_roundg k1
       case measure => have := HK1.out; omega
       case rel => exact ⟨(x5_1), (wrap64 (x6_1 + 1)), (by first | rfl | (simp; done) | (simp [*]; done)), H', ⟨by have := HK1.out; omega⟩, ⟨by (with_reducible repeat (first | apply Kd.R_alloc | apply Kd.R_drewN | apply Kd.R_drew)); exact HO_5.out⟩, ⟨pB BK350⟩, ⟨pH HB⟩⟩
     ·rw [if_neg c8] at H
      have c8b0 : ((Go.bits .and .i64 (rd l0_1 x6_1) a1) == a1) = false := beq_eq_false_iff_ne.mpr c8
      have c8b1 : ((Go.bits .and .i64 (rd l0_1 x6_1) a1) != a1) = true := bne_iff_ne.mpr c8
      have H' := Aside0.mk H
      clear H
      have hcz16_0 : wr.cell? ⟨gb350, 0, none⟩ = some (.int .i64 a0_0) := cB BK350 0
      have hcz16_1 : wr.cell? ⟨gb350, 1, none⟩ = some (.slice A0_1 l0_1.length c0_1) := cB BK350 1
      have hfz16_0 := zB BK350 0
      have hfz16_1 := zB BK350 1
      have p354 : 0 ≤ (x6_1 : Int) := of_decide_eq_true (by first | (with_reducible assumption) | assumption)
      have q354 : x6_1 < (l0_1.length : Int) := of_decide_eq_true (by first | (with_reducible assumption) | assumption)
      obtain ⟨ad354, e354, hx354_0⟩ := Kd.at_int HR0_1.out x6_1 p354 q354
      cases e354
      replace hx354_0 := cH HB hx354_0
      replace p354 := eq_true p354
      replace q354 := eq_true q354
      go_wp2
      go_roundg k1
      case measure => have := HK1.out; omega
      case rel => exact ⟨(x5_1), (wrap64 (x6_1 + 1)), (by first | rfl | (simp; done) | (simp [*]; done)), H', ⟨by have := HK1.out; omega⟩, ⟨by (with_reducible repeat (first | apply Kd.R_alloc | apply Kd.R_drewN | apply Kd.R_drew)); exact HO_5.out⟩, ⟨pB BK350⟩, ⟨pH HB⟩⟩
    ·rw [if_neg c7] at H
     exact absurd H (by simp)
   ·rw [if_neg c6] at H
    have c6b0 : decide (x6_1 < (l0_1.length : Int)) = false := decide_eq_false c6
    clear c6
    obtain rfl := Option.some.inj H
    have hcz17_0 : wr.cell? ⟨gb350, 0, none⟩ = some (.int .i64 a0_0) := cB BK350 0
    have hcz17_1 : wr.cell? ⟨gb350, 1, none⟩ = some (.slice A0_1 l0_1.length c0_1) := cB BK350 1
    have hfz17_0 := zB BK350 0
    have hfz17_1 := zB BK350 1
    go_wp2
    go_ret
    exact ⟨_, by first | rfl | (simp [errW_none, errW_some] <;> rfl) | (simp [*, errW_none, errW_some] <;> rfl) | (exfalso; simp_all), by (with_reducible repeat (first | apply Kd.R_alloc | apply Kd.R_drewN | apply Kd.R_drew)); exact HO_5.out, pH HB⟩
end Go.Proofs.Ytomdfjohnmikdaa.QS
namespace Go.Proofs.Ytomdfjohnmikdaa.QS
open Go.Proofs.Ytomdfjohnmikdaa.Cw Go.Proofs.Ytomdfjohnmikdaa.Kp Go.Proofs.Ytomdfjohnmikdaa.Ext Go.RowKit Go.Proofs.YtomdfjohnmikdaaW.PrintWords Go.Proofs.YtomdfjohnmikdaaW.PrintLast Go.Proofs.YtomdfjohnmikdaaW.PrintMore
attribute [local go_sem] max2_int min2_int max_two min_two max_three min_three max_four min_four   -- for this text's walks alone
set_option linter.unusedVariables false
set_option linter.unusedSimpArgs false
def spec_l01Facets.l0 : Nat → List Int → Int → Int → List Int → Option (List Int)
 | 0, _, _, _, _ => none
 | k + 1, x3, x4, x588000, x588001 => if x4 < (x588001.length : Int) then (if 0 ≤ x4 then ((spec_l01Above.f k x588000 x588001 (rd x588001 x4)).bind fun t592 => (if (t592.length : Int) = 0 then (if x3.length < 17592186044416 then (spec_l01Facets.l0 k (x3 ++ [rd x588001 x4]) (wrap64 (x4 + 1)) x588000 x588001) else (none)) else (spec_l01Facets.l0 k x3 (wrap64 (x4 + 1)) x588000 x588001))) else (none)) else (some x3)
def spec_l01Facets.f (k : Nat) (a0_0 : Int) (l0_1 : List Int) : Option (List Int) := spec_l01Facets.l0 k (([] : List Int)) 0 a0_0 l0_1
def spec_l01Facets.T5 : Bool × List (List Nat × List Nat) := (true, [([], []), ([], []), ([1], [1]), ([], []), ([2, 3], [2, 3]), ([4], [4]), ([0, 5], [0, 5]), ([6], [6]), ([7], [7])])
def spec_l01Facets.B5 : List Nat := [0, 0, 2, 0, 14, 30, 63, 127, 255]
theorem spec_l01Facets.tab5 : rtab .any (opsOf Try.f81 5) = spec_l01Facets.T5 := by kernel_rfl
theorem spec_l01Facets.bits5 : waitsOk spec_l01Facets.T5.2 spec_l01Facets.B5 = true := by kernel_rfl
set_option maxHeartbeats 8000000 in
set_option maxRecDepth 100000 in
theorem spec_l01Facets.calls (k : Nat) (a0_0 : Int) (A0_1 : Option Addr) (c0_1 : Nat) (l0_1 : List Int) (r : List Int) (w : World) (hr0_1 : Kd.C (Kd.int .i64) w A0_1 l0_1.length l0_1) (hc0_1 : l0_1.length ≤ c0_1) (h : spec_l01Facets.f k a0_0 l0_1 = some r) :
  Calls Try.prog 81 #[.agg #[.int .i64 a0_0, .slice A0_1 l0_1.length c0_1]] w fun e w' => ∃ v0_ : Value, e = .returned (v0_) ∧ Kd.R (Kd.int .i64) 2 w' w.heap.size (fun _ => True) v0_ r ∧ Below w.heap.size w w' := by
 have hu28 := Try.underlying28
 have HR0_1 := Aside0.mk hr0_1
 have HC0_1 := Aside0.mk hc0_1
 clear hr0_1 hc0_1
 have HB := Aside0.mk (Below.refl w.heap.size w)
 have H : (spec_l01Facets.l0 k (([] : List Int)) 0 a0_0 l0_1) = some r := h
 clear h
 obtain ⟨y588, hy588⟩ : ∃ y_ : List Int, y_ = (([] : List Int)) := ⟨_, rfl⟩
 replace H : (spec_l01Facets.l0 k y588 0 a0_0 l0_1) = some r := by first | (rw [hy588]; with_reducible exact H) | (have H2_ := (Option.bind_some _ _).symm.trans H; rw [hy588]; with_reducible exact H2_) | (have H2_ := (Option.bind_some _ _).symm.trans H; with_reducible exact H2_) | with_reducible exact H | (rw [hy588]; exact H) | exact H
 have Ny588 := Aside0.mk hy588
 clear hy588
 have H' := Aside0.mk H
 clear H
 go_enter Try.func81, Try.ntmps81
 go_wp2_with (first | ((with_reducible refine gate_dst (N := 1) rfl ?_); refine box_event ?hg (N := 1) ?hd (cs := #[.int .i64 a0_0, .slice A0_1 l0_1.length c0_1]) (t := 28) ?hr ?_; (case hd => rfl); (case hg => rfl); (case hr => first | (go_simp; done) | (go_simp; rfl)); intro gb587 hg w2 hbox hb; have BK587 := Aside0.mk (hbox); have GW587 := gH HB hg; have GE587 := gH HB hg; replace HB := sH HB hb; clear hb hbox hg) | ((with_reducible refine gate_dst (N := 5) rfl ?_); refine Kd.R_lit (Kd.int .i64) _ 2 ?hg (N := 5) ?hd (xs := ([] : List Int)) (inner := []) (ok := fun _ => True) (okp := fun _ => True) ?hr ?hp (fun _ hk => hk) trivial (Below.refl _ _) (Nat.le_refl _) (by simp) ?_; (case hd => rfl); (case hg => rfl); (case hr => first | (go_simp; done) | (go_simp; rfl)); (case hp => exact (Reps.none _ _)); intro v589 w3 ho4 hb hg_ hnew_; clear hg_ hnew_; (first | rw [← Ny588.out] at ho4 | (simp only [Int.reduceToNat] at ho4; rw [← Ny588.out] at ho4)); have HO590 := Aside0.mk (Kd.R_lower ho4 (below_size (pH HB))); replace BK587 := sB BK587 hb; replace HB := sH HB hb; clear hb ho4))
 go_loopg [3, 4] k (fun kq v3 v4 w' => ∃ (x3_1 : List Int) (x4_1 : Int), v4 = .int .i64 x4_1 ∧ Aside0 (spec_l01Facets.l0 kq x3_1 x4_1 a0_0 l0_1 = some r) ∧ Aside0 (kq ≤ k) ∧ Aside0 (Kd.R (Kd.int .i64) 2 w' w.heap.size (fun _ => True) v3 x3_1) ∧ Aside0 (w'.heap[gb587]? = some (.cells #[.int .i64 a0_0, (.slice A0_1 l0_1.length c0_1)] 28 (0, 0))) ∧ Aside0 (Below w.heap.size w w'))
 case atStart => exact ⟨(y588), (0), (by first | rfl | (simp; done) | (simp [*]; done)), H', ⟨Nat.le_refl _⟩, ⟨by (with_reducible repeat (first | apply Kd.R_alloc | apply Kd.R_drewN | apply Kd.R_drew)); exact HO590.out⟩, ⟨pB BK587⟩, ⟨pH HB⟩⟩
 case round =>
  clear H'
  try clear p2
  obtain ⟨x3_1, x4_1, rfl, HA, HK1, HO_3, BK587, HB⟩ := hrel
  cases gk with
  | zero => exact absurd HA.out (by simp [spec_l01Facets.l0])
  | succ k1 =>
   have H := HA.out
   clear HA
   simp only [spec_l01Facets.l0] at H
   by_cases c5 : x4_1 < (l0_1.length : Int)
   ·rw [if_pos c5] at H
    have c5b0 : decide (x4_1 < (l0_1.length : Int)) = true := decide_eq_true c5
    clear c5
    by_cases c6 : 0 ≤ x4_1
    ·rw [if_pos c6] at H
     have c6b0 : decide (0 ≤ x4_1) = true := decide_eq_true c6
     clear c6
     replace H := Option.bind_eq_some_iff.mp H
     obtain ⟨t592, A70, H⟩ := H
     try dsimp only at H
     have A7 := Aside0.mk A70
     clear A70
     by_cases c8 : (t592.length : Int) = 0
     ·rw [if_pos c8] at H
      have c8b0 : ((t592.length : Int) == 0) = true := beq_iff_eq.mpr c8
      have c8b1 : ((t592.length : Int) != 0) = false := bne_eq_false_iff_eq.mpr c8
      clear c8
      by_cases c9 : x3_1.length < 17592186044416
      ·rw [if_pos c9] at H
       have LMc9 := Aside0.mk c9
       clear c9
       obtain ⟨y596, hy596⟩ : ∃ y_ : List Int, y_ = (x3_1 ++ [rd l0_1 x4_1]) := ⟨_, rfl⟩
       replace H : (spec_l01Facets.l0 k1 y596 (wrap64 (x4_1 + 1)) a0_0 l0_1) = some r := by first | (rw [hy596]; with_reducible exact H) | (have H2_ := (Option.bind_some _ _).symm.trans H; rw [hy596]; with_reducible exact H2_) | (have H2_ := (Option.bind_some _ _).symm.trans H; with_reducible exact H2_) | with_reducible exact H | (rw [hy596]; exact H) | exact H
       have Ny596 := Aside0.mk hy596
       clear hy596
       have H' := Aside0.mk H
       clear H
       have hcz10_0 : wr.cell? ⟨gb587, 0, none⟩ = some (.int .i64 a0_0) := cB BK587 0
       have hcz10_1 : wr.cell? ⟨gb587, 1, none⟩ = some (.slice A0_1 l0_1.length c0_1) := cB BK587 1
       have hfz10_0 := zB BK587 0
       have hfz10_1 := zB BK587 1
       try go_wp2
       replace HO_3 := Aside0.mk (Kd.R_drew HO_3.out)
       replace BK587 := dB BK587
       replace HB := dH HB
       have p591 : 0 ≤ (x4_1 : Int) := of_decide_eq_true (by first | (with_reducible assumption) | assumption)
       have q591 : x4_1 < (l0_1.length : Int) := of_decide_eq_true (by first | (with_reducible assumption) | assumption)
       obtain ⟨ad591, e591, hx591_0⟩ := Kd.at_int HR0_1.out x4_1 p591 q591
       have hw591_0 := hx591_0
       cases e591
       replace hx591_0 := cH HB hx591_0
       replace p591 := eq_true p591
       replace q591 := eq_true q591
       refine st_ 9 (S := fun w' => w'.cell? ⟨gb587, 0, none⟩ = some (.int .i64 a0_0) ∧ w'.cell? ⟨gb587, 1, none⟩ = some (.slice (some ad591) l0_1.length c0_1) ∧ w'.cell? (ad591.add (x4_1).toNat) = some (.int .i64 (rd l0_1 x4_1))) (ds := []) ⟨cB BK587 0, cB BK587 1, (cH HB hw591_0 :)⟩ (fun hHeld => ?_); refine with_tabW spec_l01Facets.tab5 spec_l01Facets.bits5 (fun HT_ HW_ => ?_)
       generalize wr.drew = w11 at HO_3 BK587 HB hx591_0 hHeld ⊢
       refine pu_ 1 14 2 HT_ ?_
       refine pu_ 3 16 10 HT_ ?_
       refine tk_ 0 13 11 HT_ HW_ hHeld ?_
       refine tk_ 2 15 15 HT_ HW_ hHeld ?_
       refine pu_ 4 17 31 HT_ ?_
       refine tk_ 5 18 63 HT_ HW_ hHeld ?_
       refine on_ 6 (some 19) 127 HT_ (fun K hK => ?_)
       refine ca_ Try.func130 #[.agg #[.int .i64 a0_0, .slice (some ad591) l0_1.length c0_1], .int .i64 (rd l0_1 x4_1)] ?_
       with_reducible refine (spec_l01Above.calls k1 a0_0 _ _ l0_1 (rd l0_1 x4_1) t592 _ ?side1 ?side2 A7.out).mono ?_
       (case side1 => exact pC ((Kd.C_below HR0_1.out HB.out)))
       (case side2 => exact HC0_1.out)
       rintro e w12 ⟨v593, rfl, ho0, hb⟩
       refine ⟨_, rfl, ?_⟩
       have HO594 := Aside0.mk (Kd.R_lower (Kd.R_new' ho0 (Kd.R_lt (pR HO_3))) (below_size (pH HB)))
       replace HO_3 := Aside0.mk (Kd.R_elder' (pR HO_3) (Kd.R_base ho0) hb)
       replace BK587 := sB BK587 hb
       replace HB := sH HB hb
       (try clear hb)
       (try clear hb2)
       (try clear hk)
       (try clear hi)
       (try clear ho0)
       obtain ⟨Ao13, co13, eo13⟩ := Kd.R_slice HO594.out
       (first | subst eo13 | (injection eo13 with f1_ f2_ f3_; have f4_ := f1_.symm; have f5_ := f3_.symm; clear f1_ f2_ f3_; subst f4_; subst f5_))
       refine hK.out _ _ ⟨cB BK587 0, cB BK587 1, (cH HB hw591_0 :)⟩ (fun hHeld => ?_)
       clear hK K
       refine nm_ ?_
       refine pu_ 7 20 255 HT_ ?_
       refine pu_ 8 21 511 HT_ ?_
       refine dn_ HT_ ?_
       have hcz14_0 : w12.cell? ⟨gb587, 0, none⟩ = some (.int .i64 a0_0) := cB BK587 0
       have hcz14_1 : w12.cell? ⟨gb587, 1, none⟩ = some (.slice (some ad591) l0_1.length c0_1) := cB BK587 1
       have hfz14_0 := zB BK587 0
       have hfz14_1 := zB BK587 1
       have p595 : 0 ≤ (x4_1 : Int) := of_decide_eq_true (by first | (with_reducible assumption) | assumption)
       have q595 : x4_1 < (l0_1.length : Int) := of_decide_eq_true (by first | (with_reducible assumption) | assumption)
       obtain ⟨ad595, e595, hx595_0⟩ := Kd.at_int HR0_1.out x4_1 p595 q595
       obtain rfl : ad591 = ad595 := (by injection e595)
       replace hx595_0 := cH HB hx595_0
       replace p595 := eq_true p595
       replace q595 := eq_true q595
       try go_wp2_with (first | ((with_reducible refine gate_builtin (b := .append) (xs := #[.tmp 22, .tmp 28]) rfl ?_); at_builtin; refine Kd.R_append (Kd.int .i64) (w0 := w) w.heap.size rfl (.tmp 22) (.tmp 28) 22 2 (.int .i64 0) 8 rfl Try.underlying22 info2 rfl (by decide) (by omega) u3 x3_1 (rd l0_1 x4_1) [.int .i64 (rd l0_1 x4_1)] (fun k_ => some k_ ≠ (.slice Ao13 t592.length co13 : Value).ownBlock) (fun _ => False) rfl rfl ?aP (fun _ hk => hk.elim) ?aF ?aO ?aB ?aS ?aL ?_; (case aP => exact rfl); (case aB => exact (pH HB)); (case aF => exact (fun k_ hk => Kd.fresh' (Kd.R_lt (pR HO594)) k_ hk)); (case aO => exact (by (with_reducible repeat (first | apply Kd.R_alloc | apply Kd.R_drewN | apply Kd.R_drew)); exact Kd.R_mono HO_3.out (fun _ hk => hk.2))); (case aS => exact (below_size (pH HB))); (case aL => have := LMc9.out; omega); intro v597 w15 ho hb hg hat; rw [← Ny596.out] at ho; replace BK587 := Aside0.mk (blk_grown (g := gb587) (o := .cells #[.int .i64 a0_0, .slice (some ad591) l0_1.length c0_1] 28 (0, 0)) (pB BK587) hg (Kd.R_ne HO_3.out BK587.out (by decide))); replace HO594 := Aside0.mk (Kd.R_after (ok := (fun _ => True)) (pR HO594) hg hat); replace HB := Aside0.mk (hb); have HO598 := Aside0.mk (ho); clear HO_3; clear ho hb hg hat))
       go_roundg k1
       case measure => have := HK1.out; omega
       case rel => exact ⟨(y596), (wrap64 (x4_1 + 1)), (by first | rfl | (simp; done) | (simp [*]; done)), H', ⟨by have := HK1.out; omega⟩, ⟨by (with_reducible repeat (first | apply Kd.R_alloc | apply Kd.R_drewN | apply Kd.R_drew)); exact Kd.R_mono HO598.out (fun _ hk => trivial)⟩, ⟨pB BK587⟩, ⟨pH HB⟩⟩
      ·rw [if_neg c9] at H
       exact absurd H (by simp)
     ·rw [if_neg c8] at H
      have c8b0 : ((t592.length : Int) == 0) = false := beq_eq_false_iff_ne.mpr c8
      have c8b1 : ((t592.length : Int) != 0) = true := bne_iff_ne.mpr c8
      have c8b2 : ¬ (t592 = []) := fun h_ => c8 (by rw [h_]; rfl)
      have H' := Aside0.mk H
      clear H
      have hcz16_0 : wr.cell? ⟨gb587, 0, none⟩ = some (.int .i64 a0_0) := cB BK587 0
      have hcz16_1 : wr.cell? ⟨gb587, 1, none⟩ = some (.slice A0_1 l0_1.length c0_1) := cB BK587 1
      have hfz16_0 := zB BK587 0
      have hfz16_1 := zB BK587 1
      try go_wp2
      replace HO_3 := Aside0.mk (Kd.R_drew HO_3.out)
      replace BK587 := dB BK587
      replace HB := dH HB
      have p591 : 0 ≤ (x4_1 : Int) := of_decide_eq_true (by first | (with_reducible assumption) | assumption)
      have q591 : x4_1 < (l0_1.length : Int) := of_decide_eq_true (by first | (with_reducible assumption) | assumption)
      obtain ⟨ad591, e591, hx591_0⟩ := Kd.at_int HR0_1.out x4_1 p591 q591
      have hw591_0 := hx591_0
      cases e591
      replace hx591_0 := cH HB hx591_0
      replace p591 := eq_true p591
      replace q591 := eq_true q591
      refine st_ 9 (S := fun w' => w'.cell? ⟨gb587, 0, none⟩ = some (.int .i64 a0_0) ∧ w'.cell? ⟨gb587, 1, none⟩ = some (.slice (some ad591) l0_1.length c0_1) ∧ w'.cell? (ad591.add (x4_1).toNat) = some (.int .i64 (rd l0_1 x4_1))) (ds := []) ⟨cB BK587 0, cB BK587 1, (cH HB hw591_0 :)⟩ (fun hHeld => ?_); refine with_tabW spec_l01Facets.tab5 spec_l01Facets.bits5 (fun HT_ HW_ => ?_)
      generalize wr.drew = w17 at HO_3 BK587 HB hx591_0 hHeld ⊢
      refine pu_ 1 14 2 HT_ ?_
      refine pu_ 3 16 10 HT_ ?_
      refine tk_ 0 13 11 HT_ HW_ hHeld ?_
      refine tk_ 2 15 15 HT_ HW_ hHeld ?_
      refine pu_ 4 17 31 HT_ ?_
      refine tk_ 5 18 63 HT_ HW_ hHeld ?_
      refine on_ 6 (some 19) 127 HT_ (fun K hK => ?_)
      refine ca_ Try.func130 #[.agg #[.int .i64 a0_0, .slice (some ad591) l0_1.length c0_1], .int .i64 (rd l0_1 x4_1)] ?_
      with_reducible refine (spec_l01Above.calls k1 a0_0 _ _ l0_1 (rd l0_1 x4_1) t592 _ ?side1 ?side2 A7.out).mono ?_
      (case side1 => exact pC ((Kd.C_below HR0_1.out HB.out)))
      (case side2 => exact HC0_1.out)
      rintro e w18 ⟨v593, rfl, ho0, hb⟩
      refine ⟨_, rfl, ?_⟩
      have HO594 := Aside0.mk (Kd.R_lower (Kd.R_new' ho0 (Kd.R_lt (pR HO_3))) (below_size (pH HB)))
      replace HO_3 := Aside0.mk (Kd.R_elder' (pR HO_3) (Kd.R_base ho0) hb)
      replace BK587 := sB BK587 hb
      replace HB := sH HB hb
      (try clear hb)
      (try clear hb2)
      (try clear hk)
      (try clear hi)
      (try clear ho0)
      obtain ⟨Ao19, co19, eo19⟩ := Kd.R_slice HO594.out
      (first | subst eo19 | (injection eo19 with f1_ f2_ f3_; have f4_ := f1_.symm; have f5_ := f3_.symm; clear f1_ f2_ f3_; subst f4_; subst f5_))
      refine hK.out _ _ ⟨cB BK587 0, cB BK587 1, (cH HB hw591_0 :)⟩ (fun hHeld => ?_)
      clear hK K
      refine nm_ ?_
      refine pu_ 7 20 255 HT_ ?_
      refine pu_ 8 21 511 HT_ ?_
      refine dn_ HT_ ?_
      try go_wp2
      go_roundg k1
      case measure => have := HK1.out; omega
      case rel => exact ⟨(x3_1), (wrap64 (x4_1 + 1)), (by first | rfl | (simp; done) | (simp [*]; done)), H', ⟨by have := HK1.out; omega⟩, ⟨by (with_reducible repeat (first | apply Kd.R_alloc | apply Kd.R_drewN | apply Kd.R_drew)); exact Kd.R_mono HO_3.out (fun _ hk => trivial)⟩, ⟨pB BK587⟩, ⟨pH HB⟩⟩
    ·rw [if_neg c6] at H
     exact absurd H (by simp)
   ·rw [if_neg c5] at H
    have c5b0 : decide (x4_1 < (l0_1.length : Int)) = false := decide_eq_false c5
    clear c5
    obtain rfl := Option.some.inj H
    have hcz20_0 : wr.cell? ⟨gb587, 0, none⟩ = some (.int .i64 a0_0) := cB BK587 0
    have hcz20_1 : wr.cell? ⟨gb587, 1, none⟩ = some (.slice A0_1 l0_1.length c0_1) := cB BK587 1
    have hfz20_0 := zB BK587 0
    have hfz20_1 := zB BK587 1
    go_wp2
    go_ret
    exact ⟨_, by first | rfl | (simp [errW_none, errW_some] <;> rfl) | (simp [*, errW_none, errW_some] <;> rfl) | (exfalso; simp_all), by (with_reducible repeat (first | apply Kd.R_alloc | apply Kd.R_drewN | apply Kd.R_drew)); exact HO_3.out, pH HB⟩
end Go.Proofs.Ytomdfjohnmikdaa.QS
namespace Go.Proofs.Ytomdfjohnmikdaa.Pu
set_option linter.unusedVariables false
set_option linter.unusedSimpArgs false
open Go.RowKit Go.Proofs.Ytomdfjohnmikdaa.QS Go.Proofs.Ytomdfjohnmikdaa.Im Go.Proofs.YtomdfjohnmikdaaW.PrintWords Go.Proofs.YtomdfjohnmikdaaW.PrintLast Go.Proofs.YtomdfjohnmikdaaW.PrintMore
theorem ones_all : ((List.range 64).all fun f => spec_l01Ones.f 8 (f : Int) == some (onesZ (f : Int))) = true := by decide +kernel
theorem ev_ones {x : Int} (h0 : 0 ≤ x) (h6 : x ≤ 63) : Ev (fun k => spec_l01Ones.f k x) (onesZ x) := by
  obtain ⟨m, rfl⟩ := Int.eq_ofNat_of_zero_le h0
  exact Ev.of (fun k => spec_l01Ones.mono _ k) (eq_of_beq (List.all_eq_true.1 ones_all m (List.mem_range.2 (by omega))))
theorem ones_le (x : Int) : 0 ≤ onesZ x ∧ onesZ x ≤ 6 := by
  have : (verts x).length ≤ 6 := verts_len x
  unfold onesZ; omega
def overP (f x : Int) : Bool := Go.bits .and .i64 x f == f && onesZ x == onesZ f + 1
theorem above_loop (n f : Int) (hf : 0 ≤ f ∧ f ≤ 63) (l : List Int) (hl : l.length ≤ 64) (hr : ∀ x ∈ l, 1 ≤ x ∧ x ≤ 63) : ∀ d (i : Nat) (acc : List Int), l.length - i = d → i ≤ l.length → acc.length ≤ i →
    Ev (fun k => spec_l01Above.l0 k f acc i n l) (acc ++ (l.drop i).filter (overP f)) := by
  intro d
  induction d with
  | zero =>
    intro i acc hd hi ha
    rw [List.drop_eq_nil_of_le (by omega), List.filter_nil, List.append_nil]
    refine Ev.step (f := fun k => some acc) (fun k => ?_) (Ev.now _)
    simp only [spec_l01Above.l0]; rw [if_neg (by omega)]
  | succ d ih =>
    intro i acc hd hi ha
    have hi' : i < l.length := by omega
    have hx := hr _ (List.getElem_mem hi')
    have hw : wrap64 ((i : Int) + 1) = ((i + 1 : Nat) : Int) := by rw [w64 (by omega) (by omega)]; omega
    rw [List.drop_eq_getElem_cons hi']
    by_cases hc : Go.bits .and .i64 l[i] f = f
    · refine Ev.step (f := fun k => (spec_l01Ones.f k l[i]).bind fun t262 => ((spec_l01Ones.f k f).bind fun t263 => (if t262 = (wrap64 (t263 + 1)) then (spec_l01Above.l0 k f (acc ++ [l[i]]) ((i + 1 : Nat) : Int) n l) else (spec_l01Above.l0 k f acc ((i + 1 : Nat) : Int) n l)))) (fun k => ?_) ?_
      · simp only [spec_l01Above.l0]
        rw [if_pos (by omega), if_pos (by omega), rd_at hi', if_pos hc, hw]
        simp only [if_pos (show acc.length < 17592186044416 by omega)]
      · refine Ev.bind (ev_ones (by omega) (by omega)) ?_
        refine Ev.bind (ev_ones hf.1 hf.2) ?_
        have h1 := ones_le f
        rw [w64 (by omega) (by omega)]
        by_cases ho : onesZ l[i] = onesZ f + 1
        · simp only [if_pos ho]
          rw [List.filter_cons_of_pos (by simp [overP, hc, ho])]
          have := ih (i + 1) (acc ++ [l[i]]) (by omega) (by omega) (by rw [List.length_append]; simp; omega)
          rw [List.append_assoc] at this
          exact this
        · simp only [if_neg ho]
          rw [List.filter_cons_of_neg (by simp [overP, ho])]
          exact ih (i + 1) acc (by omega) (by omega) (by omega)
    · refine Ev.step (f := fun k => spec_l01Above.l0 k f acc ((i + 1 : Nat) : Int) n l) (fun k => ?_) ?_
      · simp only [spec_l01Above.l0]
        rw [if_pos (by omega), if_pos (by omega), rd_at hi', if_neg hc, hw]
      · rw [List.filter_cons_of_neg (by simp [overP, hc])]
        exact ih (i + 1) acc (by omega) (by omega) (by omega)
theorem ev_above (n f : Int) (hf : 0 ≤ f ∧ f ≤ 63) {l : List Int} (hl : l.length ≤ 64) (hr : ∀ x ∈ l, 1 ≤ x ∧ x ≤ 63) : Ev (fun k => spec_l01Above.f k n l f) (l.filter (overP f)) := by
  have := above_loop n f hf l hl hr _ 0 [] rfl (Nat.zero_le _) (by simp)
  rw [List.drop_zero, List.nil_append] at this
  exact this
/-- A face above another, by more than one vertex: a border of it lies above, too. -/
theorem down_all : ((List.range 64).all fun g => (List.range 64).all fun f => f == 0 || !(inB (f : Int) (g : Int)) || overP (f : Int) (g : Int) || (bordersL (g : Int)).any fun h => inB (f : Int) h && decide (1 ≤ h) && decide (h < (g : Int))) = true := by decide +kernel
theorem over_all : ((List.range 64).all fun g => (List.range 64).all fun f => !(overP (f : Int) (g : Int)) || inB (f : Int) (g : Int)) = true := by decide +kernel
theorem over_in {f g : Int} (hf : 0 ≤ f ∧ f ≤ 63) (hg : 0 ≤ g ∧ g ≤ 63) (h : overP f g = true) : inB f g = true := by
  obtain ⟨a, rfl⟩ := Int.eq_ofNat_of_zero_le hf.1
  obtain ⟨b, rfl⟩ := Int.eq_ofNat_of_zero_le hg.1
  have h2 := List.all_eq_true.1 (List.all_eq_true.1 over_all b (List.mem_range.2 (by omega))) a (List.mem_range.2 (by omega))
  rw [h] at h2
  simpa using h2
theorem in_over {l : List Int} (hc : closedB l = true) (hr : ∀ x ∈ l, 1 ≤ x ∧ x ≤ 63) {f : Int} (hf : 1 ≤ f ∧ f ≤ 63) : ∀ (G : Nat) (g : Int), g.toNat ≤ G → g ∈ l → inB f g = true → ∃ h ∈ l, overP f h = true := by
  intro G
  induction G with
  | zero => intro g hG hg _; have := hr g hg; omega
  | succ G ih =>
    intro g hG hg hi
    have hgr := hr g hg
    by_cases ho : overP f g = true
    · exact ⟨g, hg, ho⟩
    · obtain ⟨a, rfl⟩ := Int.eq_ofNat_of_zero_le (show 0 ≤ f by omega)
      obtain ⟨b, rfl⟩ := Int.eq_ofNat_of_zero_le (show 0 ≤ g by omega)
      have h2 := List.all_eq_true.1 (List.all_eq_true.1 down_all b (List.mem_range.2 (by omega))) a (List.mem_range.2 (by omega))
      have ha : (a == 0) = false := by simp; omega
      rw [ha, hi, Bool.eq_false_iff.2 ho] at h2
      simp only [Bool.not_true, Bool.or_false, Bool.false_or] at h2
      obtain ⟨h, hh, hp⟩ := List.any_eq_true.1 h2
      simp only [Bool.and_eq_true, decide_eq_true_eq] at hp
      have hcl := of_decide_eq_true (List.all_eq_true.1 (List.all_eq_true.1 hc _ hg) h hh)
      exact ih h (by omega) hcl hp.1.1
theorem above_bigger {n : Int} {l : List Int} (hi : isC n l = true) {f : Int} (hf : f ∈ l) : ((l.filter (overP f)).length : Int) = 0 ↔ biggerB l f = false := by
  have hr := isC_63 hi
  obtain ⟨_, _, hc⟩ := isC_of hi
  constructor
  · intro h
    have h0 : l.filter (overP f) = [] := List.eq_nil_of_length_eq_zero (by omega)
    cases hb : biggerB l f with
    | false => rfl
    | true =>
      obtain ⟨g, hg, hp⟩ := List.any_eq_true.1 hb
      obtain ⟨h, hh, ho⟩ := in_over hc hr (hr f hf) _ g (Nat.le_refl _) hg hp
      have : h ∈ l.filter (overP f) := List.mem_filter.2 ⟨hh, ho⟩
      rw [h0] at this
      cases this
  · intro hb
    have : l.filter (overP f) = [] := by
      refine List.filter_eq_nil_iff.2 fun x hx ho => ?_
      have hx2 := hr x hx
      have hf2 := hr f hf
      have := over_in (f := f) (g := x) (by omega) (by omega) ho
      have h3 := List.any_eq_false.1 hb x hx
      exact h3 this
    rw [this]; rfl
theorem facets_loop {n : Int} {l : List Int} (hi : isC n l = true) : ∀ d (i : Nat) (acc : List Int), l.length - i = d → i ≤ l.length → acc.length ≤ i →
    Ev (fun k => spec_l01Facets.l0 k acc i n l) (acc ++ (l.drop i).filter (fun x => !biggerB l x)) := by
  have hl := isC_len hi
  have hr := isC_63 hi
  intro d
  induction d with
  | zero =>
    intro i acc hd hi ha
    rw [List.drop_eq_nil_of_le (by omega), List.filter_nil, List.append_nil]
    refine Ev.step (f := fun k => some acc) (fun k => ?_) (Ev.now _)
    simp only [spec_l01Facets.l0]; rw [if_neg (by omega)]
  | succ d ih =>
    intro i acc hd hii ha
    have hi' : i < l.length := by omega
    have hx := hr _ (List.getElem_mem hi')
    have hw : wrap64 ((i : Int) + 1) = ((i + 1 : Nat) : Int) := by rw [w64 (by omega) (by omega)]; omega
    rw [List.drop_eq_getElem_cons hi']
    refine Ev.step (f := fun k => (spec_l01Above.f k n l l[i]).bind fun t273 => (if (t273.length : Int) = 0 then (spec_l01Facets.l0 k (acc ++ [l[i]]) ((i + 1 : Nat) : Int) n l) else (spec_l01Facets.l0 k acc ((i + 1 : Nat) : Int) n l))) (fun k => ?_) ?_
    · simp only [spec_l01Facets.l0]
      rw [if_pos (by omega), if_pos (by omega), rd_at hi', hw]
      simp only [if_pos (show acc.length < 17592186044416 by omega)]
    · refine Ev.bind (ev_above n l[i] (by omega) hl hr) ?_
      have hab := above_bigger hi (List.getElem_mem hi')
      cases hb : biggerB l l[i] with
      | false =>
        simp only [if_pos (hab.2 hb)]
        rw [List.filter_cons_of_pos (by simp [hb])]
        have := ih (i + 1) (acc ++ [l[i]]) (by omega) (by omega) (by rw [List.length_append]; simp; omega)
        rw [List.append_assoc] at this
        exact this
      | true =>
        simp only [if_neg (fun h => by have := hab.1 h; rw [hb] at this; cases this)]
        rw [List.filter_cons_of_neg (by simp [hb])]
        exact ih (i + 1) acc (by omega) (by omega) (by omega)
theorem ev_facets {n : Int} {l : List Int} (hi : isC n l = true) : Ev (fun k => spec_l01Facets.f k n l) (facetsL l) := by
  have := facets_loop hi _ 0 [] rfl (Nat.zero_le _) (by simp)
  rw [List.drop_zero, List.nil_append] at this
  exact this
end Go.Proofs.Ytomdfjohnmikdaa.Pu
namespace Go.Proofs.Ytomdfjohnmikdaa.Im
set_option linter.unusedVariables false
set_option linter.unusedSimpArgs false
open Go.RowKit Go.Proofs.Ytomdfjohnmikdaa.Kp Go.Proofs.YtomdfjohnmikdaaW.PrintWords Go.Proofs.YtomdfjohnmikdaaW.PrintLast Go.Proofs.YtomdfjohnmikdaaW.PrintMore
/-- A function value that says p of pairs, in each world that has come of w by growth alone. -/
def FnP (P : Program) (fv : Value) (dom : Pr → Prop) (p : Pr → Bool) (w : World) : Prop :=
  ∃ g fs lb, fv = .func (.func g) fs lb ∧ (∀ args w, (callFunc g args).run P w = .ok (.enter g args) w) ∧
    ∀ W (x : Pr), Below w.heap.size w W → dom x → Calls P g (fs ++ #[.agg #[.int .i64 x.f0, .int .i64 x.f1]] ++ lb) W fun e w' => e = .returned (.bool (p x)) ∧ Below W.heap.size W w'
theorem FnP.later {P : Program} {fv : Value} {dom : Pr → Prop} {p : Pr → Bool} {w w1 : World} (h : FnP P fv dom p w) (hb : Below w.heap.size w w1) : FnP P fv dom p w1 := by
  obtain ⟨g, fs, lb, he, hg, hc⟩ := h
  exact ⟨g, fs, lb, he, hg, fun W x hW hx => hc W x (hb.trans (hW.mono hb.size)) hx⟩
end Go.Proofs.Ytomdfjohnmikdaa.Im
namespace Go.Proofs.Ytomdfjohnmikdaa.Ext
set_option linter.unusedVariables false
set_option linter.unusedSimpArgs false
open Go.RowKit Go.Proofs.Ytomdfjohnmikdaa.Im Go.Proofs.Ytomdfjohnmikdaa.Kp Go.Proofs.YtomdfjohnmikdaaW.PrintWords Go.Proofs.YtomdfjohnmikdaaW.PrintLast Go.Proofs.YtomdfjohnmikdaaW.PrintMore
/-- What a function value answers: without arguments (0), of a whole number (1), of a pair (2). -/
structure Pred where
  sort : Nat
  u : Bool
  full : Bool
  pI : Int → Bool
  pP : Pr → Bool
def Pred.nul (u : Bool) : Pred := ⟨0, u, true, fun _ => true, fun _ => true⟩
def Pred.int (p : Int → Bool) : Pred := ⟨1, true, true, p, fun _ => true⟩
/-- of faces alone -/
def Pred.face (p : Int → Bool) : Pred := ⟨1, true, false, p, fun _ => true⟩
/-- of which nothing is known -/
def Pred.bad : Pred := ⟨9, true, true, fun _ => true, fun _ => true⟩
def Pred.dom (a : Pred) (x : Int) : Prop := a.full = true ∨ (0 ≤ x ∧ x ≤ 63)
def Pred.domP (a : Pred) (x : Pr) : Prop := a.full = true ∨ ((0 ≤ x.f0 ∧ x.f0 ≤ 63) ∧ (0 ≤ x.f1 ∧ x.f1 ≤ 63))
def okDom (a : Pred) (l : List Int) : Bool := a.full || l.all fun x => decide (0 ≤ x) && decide (x ≤ 63)
theorem okDom_mem {a : Pred} {l : List Int} (h : okDom a l = true) : ∀ x ∈ l, a.dom x := by
  intro x hx
  rcases Bool.or_eq_true _ _ ▸ h with h | h
  · exact .inl h
  · have := List.all_eq_true.1 h x hx
    simp only [Bool.and_eq_true, decide_eq_true_eq] at this
    exact .inr this
def FnOk (F : Value) (a : Pred) (w : World) : Prop :=
  (a.sort = 0 → FnU Try.prog F a.u w) ∧ (a.sort = 1 → FnB Try.prog F a.dom a.pI w) ∧ (a.sort = 2 → FnP Try.prog F a.domP a.pP w)
theorem FnOk.later {F : Value} {a : Pred} {w w1 : World} (h : FnOk F a w) (hb : Below w.heap.size w w1) : FnOk F a w1 :=
  ⟨fun e => (h.1 e).later hb, fun e => (h.2.1 e).later hb, fun e => (h.2.2 e).later hb⟩
theorem FnOk.nul {F : Value} {u : Bool} {w : World} (h : FnU Try.prog F u w) : FnOk F (Pred.nul u) w := ⟨fun _ => h, fun e => (by cases e), fun e => (by cases e)⟩
theorem FnOk.int {F : Value} {p : Int → Bool} {w : World} (h : FnB Try.prog F (fun _ => True) p w) : FnOk F (Pred.int p) w := ⟨fun e => (by cases e), fun _ => (by
    obtain ⟨g, fs, lb, he, hg, hc⟩ := h
    exact ⟨g, fs, lb, he, hg, fun W x hW _ => hc W x hW trivial⟩), fun e => (by cases e)⟩
theorem FnOk.face {F : Value} {p : Int → Bool} {w : World} (h : FnB Try.prog F (fun x => 0 ≤ x ∧ x ≤ 63) p w) : FnOk F (Pred.face p) w := ⟨fun e => (by cases e), fun _ => (by
    obtain ⟨g, fs, lb, he, hg, hc⟩ := h
    exact ⟨g, fs, lb, he, hg, fun W x hW hx => hc W x hW (hx.resolve_left (fun h_ => by cases h_))⟩), fun e => (by cases e)⟩
theorem FnOk.bad (F : Value) (w : World) : FnOk F Pred.bad w := ⟨fun e => (by cases e), fun e => (by cases e), fun e => (by cases e)⟩
def Pred.ofI (f : Int → Option Bool) : Pred := if ((List.range 64).all fun x => (f (x : Int)).isSome) = true then Pred.face (fun x => (f x).getD false) else Pred.bad
theorem ofI_face {f : Int → Option Bool} {p : Int → Bool} (h : ∀ x, 0 ≤ x → x ≤ 63 → f x = some (p x)) : (Pred.ofI f).sort = 1 ∧ (Pred.ofI f).u = true ∧ ∀ x, 0 ≤ x → x ≤ 63 → (Pred.ofI f).pI x = p x := by
  have hc : ((List.range 64).all fun x => (f (x : Int)).isSome) = true := List.all_eq_true.2 fun m hm => by
    have := List.mem_range.1 hm
    rw [h m (by omega) (by omega)]; rfl
  unfold Pred.ofI
  rw [if_pos hc]
  exact ⟨rfl, rfl, fun x h0 h6 => by simp only [Pred.face]; rw [h x h0 h6]; rfl⟩
theorem FnOk.ofI {f : Int → Option Bool} {g : FuncId} {fs lb : Array Value} {W : World} (he : ∀ args w, (callFunc g args).run Try.prog w = .ok (.enter g args) w)
    (h : ∀ V x b, Below W.heap.size W V → f x = some b → Calls Try.prog g (fs ++ #[.int .i64 x] ++ lb) V fun e w' => e = .returned (.bool b) ∧ Below V.heap.size V w') : FnOk (.func (.func g) fs lb) (Pred.ofI f) W := by
  unfold Pred.ofI
  split
  · rename_i hc
    refine FnOk.face ⟨g, fs, lb, rfl, he, fun V x hV hx => ?_⟩
    obtain ⟨m, rfl⟩ := Int.eq_ofNat_of_zero_le hx.1
    obtain ⟨b, hr⟩ := Option.isSome_iff_exists.1 (List.all_eq_true.1 hc m (List.mem_range.2 (by omega)))
    have := h V m b hV hr
    simp only [hr, Option.getD_some]
    exact this
  · exact FnOk.bad _ _
end Go.Proofs.Ytomdfjohnmikdaa.Ext
namespace Go.Proofs.Ytomdfjohnmikdaa.Im
set_option linter.unusedVariables false
set_option linter.unusedSimpArgs false
open Go.RowKit Go.Shelf Go.Proofs.Ytomdfjohnmikdaa.Kp Go.Proofs.Ytomdfjohnmikdaa.Ext Go.Proofs.YtomdfjohnmikdaaW.PrintWords Go.Proofs.YtomdfjohnmikdaaW.PrintLast Go.Proofs.YtomdfjohnmikdaaW.PrintMore
end Go.Proofs.Ytomdfjohnmikdaa.Im
namespace Go.Proofs.Ytomdfjohnmikdaa.Ext
set_option linter.unusedVariables false
set_option linter.unusedSimpArgs false
open Go.RowKit Go.Proofs.Ytomdfjohnmikdaa.Im Go.Proofs.Ytomdfjohnmikdaa.Kp Go.Proofs.YtomdfjohnmikdaaW.PrintWords Go.Proofs.YtomdfjohnmikdaaW.PrintLast Go.Proofs.YtomdfjohnmikdaaW.PrintMore
def fnp (g : FuncId) : Pred :=
  if g = 127 then Pred.nul true else
  if g = 58 then Pred.int (fun x => withinB x 0 1000) else
  Pred.nul false
theorem fnp_ok_127 (w : World) : FnOk (.func (.func 127) #[] #[]) (fnp 127) w := FnOk.nul (u := true) (always_f w)
end Go.Proofs.Ytomdfjohnmikdaa.Ext
namespace Go.Proofs.Ytomdfjohnmikdaa.Im
set_option linter.unusedVariables false
set_option linter.unusedSimpArgs false
open Go.RowKit Go.Shelf Go.Proofs.Ytomdfjohnmikdaa.Ext Go.Proofs.YtomdfjohnmikdaaW.PrintWords Go.Proofs.YtomdfjohnmikdaaW.PrintLast Go.Proofs.YtomdfjohnmikdaaW.PrintMore
theorem RO.ok {W : World} {base : Nat} {v : Value} {xs : List Int} {ok : Nat → Prop} (h : RO W base v xs) (hk : ∀ k, v.ownBlock = some k → ok k) : Kd.R (Kd.int .i64) 2 W base ok v xs :=
  Kd.R_mono (Kd.R_tight rfl h) (fun k e => hk k e.symm)
end Go.Proofs.Ytomdfjohnmikdaa.Im
namespace Go.Proofs.Ytomdfjohnmikdaa.Ext
set_option linter.unusedVariables false
set_option linter.unusedSimpArgs false
open Go.RowKit Go.Proofs.Ytomdfjohnmikdaa.Im  Go.Proofs.YtomdfjohnmikdaaW.PrintWords Go.Proofs.YtomdfjohnmikdaaW.PrintLast Go.Proofs.YtomdfjohnmikdaaW.PrintMore
def impl_complexCode.f (a0_0 : Int) (l0_1 : List Int) (a1 : Pred) : Option (Int) := if l0_1.length ≤ 4611686018427387904 ∧ (isC a0_0 l0_1 = true → a1.sort = 0) then some (codeOf (isC a0_0 l0_1) a1.u) else none
theorem impl_complexCode.calls (a0_0 : Int) (A0_1 : Option Addr) (c0_1 : Nat) (l0_1 : List Int) (F1 : Value) (a1 : Pred) (r : Int) (w : World) (hr0_1 : Kd.C (Kd.int .i64) w A0_1 l0_1.length l0_1) (_hc0_1 : l0_1.length ≤ c0_1) (hq1 : FnOk F1 a1 w) (h : impl_complexCode.f a0_0 l0_1 a1 = some r) :
    Calls Try.prog 53 #[.agg #[.int .i64 a0_0, .slice A0_1 l0_1.length c0_1], F1] w fun e w' => e = .returned (.int .i64 r) ∧ Below w.heap.size w w' := by
  unfold impl_complexCode.f at h
  by_cases hl : l0_1.length ≤ 4611686018427387904 ∧ (isC a0_0 l0_1 = true → a1.sort = 0)
  · rw [if_pos hl] at h
    have hd := Option.some.inj h
    rw [← hd]
    exact complexCode_c a0_0 A0_1 l0_1.length c0_1 l0_1 _ a1.u w hr0_1 hl.1 (fun h => hq1.1 (hl.2 h))
  · rw [if_neg hl] at h; cases h
end Go.Proofs.Ytomdfjohnmikdaa.Ext
namespace Go.Proofs.Ytomdfjohnmikdaa.Ext
set_option linter.unusedVariables false
set_option linter.unusedSimpArgs false
open Go.RowKit Go.Proofs.Ytomdfjohnmikdaa.Im  Go.Proofs.YtomdfjohnmikdaaW.PrintWords Go.Proofs.YtomdfjohnmikdaaW.PrintLast Go.Proofs.YtomdfjohnmikdaaW.PrintMore
end Go.Proofs.Ytomdfjohnmikdaa.Ext
namespace Go.Proofs.Ytomdfjohnmikdaa.Ext
set_option linter.unusedVariables false
set_option linter.unusedSimpArgs false
open Go.RowKit Go.Proofs.Ytomdfjohnmikdaa.Im Go.Proofs.Ytomdfjohnmikdaa.Kp Go.Proofs.YtomdfjohnmikdaaW.PrintWords Go.Proofs.YtomdfjohnmikdaaW.PrintLast Go.Proofs.YtomdfjohnmikdaaW.PrintMore
def impl_isIn.f (a0 : Int) (a1 : Int) : Option (Bool) := if True then some (Go.bits .andNot .i64 a0 a1 == 0) else none
theorem impl_isIn.calls (a0 : Int) (a1 : Int) (r : Bool) (w : World)  (h : impl_isIn.f a0 a1 = some r) :
    Calls Try.prog 92 #[.int .i64 a0, .int .i64 a1] w fun e w' => e = .returned (.bool r) ∧ Below w.heap.size w w' := by
  unfold impl_isIn.f at h
  by_cases hl : True
  · rw [if_pos hl] at h
    have hd := Option.some.inj h
    rw [← hd]
    exact (isIn_c a0 a1 w).mono (by rintro e w' ⟨rfl, rfl⟩; exact ⟨rfl, Below.refl _ _⟩)
  · rw [if_neg hl] at h; cases h
def impl_areAll_int64.f (l0 : List Int) (a1 : Pred) : Option (Bool) := if l0.length ≤ 1099511627776 ∧ a1.sort = 1 ∧ okDom a1 l0 = true then some (l0.all a1.pI) else none
theorem impl_areAll_int64.calls (A0 : Option Addr) (c0 : Nat) (l0 : List Int) (F1 : Value) (a1 : Pred) (r : Bool) (w : World) (hr0 : Kd.C (Kd.int .i64) w A0 l0.length l0) (_hc0 : l0.length ≤ c0) (hq1 : FnOk F1 a1 w) (h : impl_areAll_int64.f l0 a1 = some r) :
    Calls Try.prog 57 #[.slice A0 l0.length c0, F1] w fun e w' => e = .returned (.bool r) ∧ Below w.heap.size w w' := by
  unfold impl_areAll_int64.f at h
  by_cases hl : l0.length ≤ 1099511627776 ∧ a1.sort = 1 ∧ okDom a1 l0 = true
  · rw [if_pos hl] at h
    have hd := Option.some.inj h
    rw [← hd]
    exact areAll_c A0 l0.length c0 l0 F1 a1.dom a1.pI w hr0 (hq1.2.1 hl.2.1) (okDom_mem hl.2.2)
  · rw [if_neg hl] at h; cases h
def slices_ContainsFunc_int64_int64.f (l0 : List Int) (a1 : Pred) : Option (Bool) := if l0.length ≤ 1099511627776 ∧ a1.sort = 1 ∧ okDom a1 l0 = true then some (l0.any a1.pI) else none
theorem slices_ContainsFunc_int64_int64.calls (A0 : Option Addr) (c0 : Nat) (l0 : List Int) (F1 : Value) (a1 : Pred) (r : Bool) (w : World) (hr0 : Kd.C (Kd.int .i64) w A0 l0.length l0) (_hc0 : l0.length ≤ c0) (hq1 : FnOk F1 a1 w) (h : slices_ContainsFunc_int64_int64.f l0 a1 = some r) :
    Calls Try.prog 90 #[.slice A0 l0.length c0, F1] w fun e w' => e = .returned (.bool r) ∧ Below w.heap.size w w' := by
  unfold slices_ContainsFunc_int64_int64.f at h
  by_cases hl : l0.length ≤ 1099511627776 ∧ a1.sort = 1 ∧ okDom a1 l0 = true
  · rw [if_pos hl] at h
    have hd := Option.some.inj h
    rw [← hd]
    exact containsFunc_c A0 l0.length c0 l0 F1 a1.dom a1.pI w hr0 (hq1.2.1 hl.2.1) (okDom_mem hl.2.2)
  · rw [if_neg hl] at h; cases h
end Go.Proofs.Ytomdfjohnmikdaa.Ext
namespace Go.Proofs.Ytomdfjohnmikdaa.QH
open Go.Proofs.Ytomdfjohnmikdaa.Cw Go.Proofs.Ytomdfjohnmikdaa.Kp Go.Proofs.Ytomdfjohnmikdaa.Ext Go.RowKit Go.Proofs.YtomdfjohnmikdaaW.PrintWords Go.Proofs.YtomdfjohnmikdaaW.PrintLast Go.Proofs.YtomdfjohnmikdaaW.PrintMore
attribute [local go_sem] max2_int min2_int max_two min_two max_three min_three max_four min_four   -- for this text's walks alone
set_option linter.unusedVariables false
set_option linter.unusedSimpArgs false
def errW : Option Int → Value
 | none => .nilIface
 | some c => .iface 0 (.int .i64 c)
theorem errW_none : errW none = .nilIface := rfl
theorem errW_some (c : Int) : errW (some c) = .iface 0 (.int .i64 c) := rfl
theorem info2 : (Try.prog.info? 2).map (fun i => (i.zero, i.size, i.bytes)) = some (some (.int .i64 0), 1, 8) := by kernel_rfl
end Go.Proofs.Ytomdfjohnmikdaa.QH
namespace Go.Proofs.Ytomdfjohnmikdaa.QH
open Go.Proofs.Ytomdfjohnmikdaa.Cw Go.Proofs.Ytomdfjohnmikdaa.Kp Go.Proofs.Ytomdfjohnmikdaa.Ext Go.RowKit Go.Proofs.YtomdfjohnmikdaaW.PrintWords Go.Proofs.YtomdfjohnmikdaaW.PrintLast Go.Proofs.YtomdfjohnmikdaaW.PrintMore
attribute [local go_sem] max2_int min2_int max_two min_two max_three min_three max_four min_four   -- for this text's walks alone
set_option linter.unusedVariables false
set_option linter.unusedSimpArgs false
def bits_OnesCount64.f (a0 : Int) : Option (Int) := some (Go.bits .and .i64 (wrap64 (IntKind.u64.wrap ((IntKind.u64.wrap ((IntKind.u64.wrap ((Go.bits .and .u64 (IntKind.u64.wrap (((IntKind.u64.wrap ((Go.bits .and .u64 ((IntKind.u64.wrap ((Go.bits .and .u64 (a0 / 2) 6148914691236517205) + (Go.bits .and .u64 a0 6148914691236517205))) / 4) 3689348814741910323) + (Go.bits .and .u64 (IntKind.u64.wrap ((Go.bits .and .u64 (a0 / 2) 6148914691236517205) + (Go.bits .and .u64 a0 6148914691236517205))) 3689348814741910323))) / 16) + (IntKind.u64.wrap ((Go.bits .and .u64 ((IntKind.u64.wrap ((Go.bits .and .u64 (a0 / 2) 6148914691236517205) + (Go.bits .and .u64 a0 6148914691236517205))) / 4) 3689348814741910323) + (Go.bits .and .u64 (IntKind.u64.wrap ((Go.bits .and .u64 (a0 / 2) 6148914691236517205) + (Go.bits .and .u64 a0 6148914691236517205))) 3689348814741910323))))) 1085102592571150095) + ((Go.bits .and .u64 (IntKind.u64.wrap (((IntKind.u64.wrap ((Go.bits .and .u64 ((IntKind.u64.wrap ((Go.bits .and .u64 (a0 / 2) 6148914691236517205) + (Go.bits .and .u64 a0 6148914691236517205))) / 4) 3689348814741910323) + (Go.bits .and .u64 (IntKind.u64.wrap ((Go.bits .and .u64 (a0 / 2) 6148914691236517205) + (Go.bits .and .u64 a0 6148914691236517205))) 3689348814741910323))) / 16) + (IntKind.u64.wrap ((Go.bits .and .u64 ((IntKind.u64.wrap ((Go.bits .and .u64 (a0 / 2) 6148914691236517205) + (Go.bits .and .u64 a0 6148914691236517205))) / 4) 3689348814741910323) + (Go.bits .and .u64 (IntKind.u64.wrap ((Go.bits .and .u64 (a0 / 2) 6148914691236517205) + (Go.bits .and .u64 a0 6148914691236517205))) 3689348814741910323))))) 1085102592571150095) / 256))) + ((IntKind.u64.wrap ((Go.bits .and .u64 (IntKind.u64.wrap (((IntKind.u64.wrap ((Go.bits .and .u64 ((IntKind.u64.wrap ((Go.bits .and .u64 (a0 / 2) 6148914691236517205) + (Go.bits .and .u64 a0 6148914691236517205))) / 4) 3689348814741910323) + (Go.bits .and .u64 (IntKind.u64.wrap ((Go.bits .and .u64 (a0 / 2) 6148914691236517205) + (Go.bits .and .u64 a0 6148914691236517205))) 3689348814741910323))) / 16) + (IntKind.u64.wrap ((Go.bits .and .u64 ((IntKind.u64.wrap ((Go.bits .and .u64 (a0 / 2) 6148914691236517205) + (Go.bits .and .u64 a0 6148914691236517205))) / 4) 3689348814741910323) + (Go.bits .and .u64 (IntKind.u64.wrap ((Go.bits .and .u64 (a0 / 2) 6148914691236517205) + (Go.bits .and .u64 a0 6148914691236517205))) 3689348814741910323))))) 1085102592571150095) + ((Go.bits .and .u64 (IntKind.u64.wrap (((IntKind.u64.wrap ((Go.bits .and .u64 ((IntKind.u64.wrap ((Go.bits .and .u64 (a0 / 2) 6148914691236517205) + (Go.bits .and .u64 a0 6148914691236517205))) / 4) 3689348814741910323) + (Go.bits .and .u64 (IntKind.u64.wrap ((Go.bits .and .u64 (a0 / 2) 6148914691236517205) + (Go.bits .and .u64 a0 6148914691236517205))) 3689348814741910323))) / 16) + (IntKind.u64.wrap ((Go.bits .and .u64 ((IntKind.u64.wrap ((Go.bits .and .u64 (a0 / 2) 6148914691236517205) + (Go.bits .and .u64 a0 6148914691236517205))) / 4) 3689348814741910323) + (Go.bits .and .u64 (IntKind.u64.wrap ((Go.bits .and .u64 (a0 / 2) 6148914691236517205) + (Go.bits .and .u64 a0 6148914691236517205))) 3689348814741910323))))) 1085102592571150095) / 256))) / 65536))) + ((IntKind.u64.wrap ((IntKind.u64.wrap ((Go.bits .and .u64 (IntKind.u64.wrap (((IntKind.u64.wrap ((Go.bits .and .u64 ((IntKind.u64.wrap ((Go.bits .and .u64 (a0 / 2) 6148914691236517205) + (Go.bits .and .u64 a0 6148914691236517205))) / 4) 3689348814741910323) + (Go.bits .and .u64 (IntKind.u64.wrap ((Go.bits .and .u64 (a0 / 2) 6148914691236517205) + (Go.bits .and .u64 a0 6148914691236517205))) 3689348814741910323))) / 16) + (IntKind.u64.wrap ((Go.bits .and .u64 ((IntKind.u64.wrap ((Go.bits .and .u64 (a0 / 2) 6148914691236517205) + (Go.bits .and .u64 a0 6148914691236517205))) / 4) 3689348814741910323) + (Go.bits .and .u64 (IntKind.u64.wrap ((Go.bits .and .u64 (a0 / 2) 6148914691236517205) + (Go.bits .and .u64 a0 6148914691236517205))) 3689348814741910323))))) 1085102592571150095) + ((Go.bits .and .u64 (IntKind.u64.wrap (((IntKind.u64.wrap ((Go.bits .and .u64 ((IntKind.u64.wrap ((Go.bits .and .u64 (a0 / 2) 6148914691236517205) + (Go.bits .and .u64 a0 6148914691236517205))) / 4) 3689348814741910323) + (Go.bits .and .u64 (IntKind.u64.wrap ((Go.bits .and .u64 (a0 / 2) 6148914691236517205) + (Go.bits .and .u64 a0 6148914691236517205))) 3689348814741910323))) / 16) + (IntKind.u64.wrap ((Go.bits .and .u64 ((IntKind.u64.wrap ((Go.bits .and .u64 (a0 / 2) 6148914691236517205) + (Go.bits .and .u64 a0 6148914691236517205))) / 4) 3689348814741910323) + (Go.bits .and .u64 (IntKind.u64.wrap ((Go.bits .and .u64 (a0 / 2) 6148914691236517205) + (Go.bits .and .u64 a0 6148914691236517205))) 3689348814741910323))))) 1085102592571150095) / 256))) + ((IntKind.u64.wrap ((Go.bits .and .u64 (IntKind.u64.wrap (((IntKind.u64.wrap ((Go.bits .and .u64 ((IntKind.u64.wrap ((Go.bits .and .u64 (a0 / 2) 6148914691236517205) + (Go.bits .and .u64 a0 6148914691236517205))) / 4) 3689348814741910323) + (Go.bits .and .u64 (IntKind.u64.wrap ((Go.bits .and .u64 (a0 / 2) 6148914691236517205) + (Go.bits .and .u64 a0 6148914691236517205))) 3689348814741910323))) / 16) + (IntKind.u64.wrap ((Go.bits .and .u64 ((IntKind.u64.wrap ((Go.bits .and .u64 (a0 / 2) 6148914691236517205) + (Go.bits .and .u64 a0 6148914691236517205))) / 4) 3689348814741910323) + (Go.bits .and .u64 (IntKind.u64.wrap ((Go.bits .and .u64 (a0 / 2) 6148914691236517205) + (Go.bits .and .u64 a0 6148914691236517205))) 3689348814741910323))))) 1085102592571150095) + ((Go.bits .and .u64 (IntKind.u64.wrap (((IntKind.u64.wrap ((Go.bits .and .u64 ((IntKind.u64.wrap ((Go.bits .and .u64 (a0 / 2) 6148914691236517205) + (Go.bits .and .u64 a0 6148914691236517205))) / 4) 3689348814741910323) + (Go.bits .and .u64 (IntKind.u64.wrap ((Go.bits .and .u64 (a0 / 2) 6148914691236517205) + (Go.bits .and .u64 a0 6148914691236517205))) 3689348814741910323))) / 16) + (IntKind.u64.wrap ((Go.bits .and .u64 ((IntKind.u64.wrap ((Go.bits .and .u64 (a0 / 2) 6148914691236517205) + (Go.bits .and .u64 a0 6148914691236517205))) / 4) 3689348814741910323) + (Go.bits .and .u64 (IntKind.u64.wrap ((Go.bits .and .u64 (a0 / 2) 6148914691236517205) + (Go.bits .and .u64 a0 6148914691236517205))) 3689348814741910323))))) 1085102592571150095) / 256))) / 65536))) / 4294967296)))) 127)
set_option maxHeartbeats 8000000 in
set_option maxRecDepth 100000 in
theorem bits_OnesCount64.calls (a0 : Int) (r : Int) (w : World) (h : bits_OnesCount64.f a0 = some r) :
  Calls Try.prog 174 #[.int .u64 a0] w fun e w' => e = .returned (.int .i64 r) ∧ Drawn0 w w' := by
 have H : (some (Go.bits .and .i64 (wrap64 (IntKind.u64.wrap ((IntKind.u64.wrap ((IntKind.u64.wrap ((Go.bits .and .u64 (IntKind.u64.wrap (((IntKind.u64.wrap ((Go.bits .and .u64 ((IntKind.u64.wrap ((Go.bits .and .u64 (a0 / 2) 6148914691236517205) + (Go.bits .and .u64 a0 6148914691236517205))) / 4) 3689348814741910323) + (Go.bits .and .u64 (IntKind.u64.wrap ((Go.bits .and .u64 (a0 / 2) 6148914691236517205) + (Go.bits .and .u64 a0 6148914691236517205))) 3689348814741910323))) / 16) + (IntKind.u64.wrap ((Go.bits .and .u64 ((IntKind.u64.wrap ((Go.bits .and .u64 (a0 / 2) 6148914691236517205) + (Go.bits .and .u64 a0 6148914691236517205))) / 4) 3689348814741910323) + (Go.bits .and .u64 (IntKind.u64.wrap ((Go.bits .and .u64 (a0 / 2) 6148914691236517205) + (Go.bits .and .u64 a0 6148914691236517205))) 3689348814741910323))))) 1085102592571150095) + ((Go.bits .and .u64 (IntKind.u64.wrap (((IntKind.u64.wrap ((Go.bits .and .u64 ((IntKind.u64.wrap ((Go.bits .and .u64 (a0 / 2) 6148914691236517205) + (Go.bits .and .u64 a0 6148914691236517205))) / 4) 3689348814741910323) + (Go.bits .and .u64 (IntKind.u64.wrap ((Go.bits .and .u64 (a0 / 2) 6148914691236517205) + (Go.bits .and .u64 a0 6148914691236517205))) 3689348814741910323))) / 16) + (IntKind.u64.wrap ((Go.bits .and .u64 ((IntKind.u64.wrap ((Go.bits .and .u64 (a0 / 2) 6148914691236517205) + (Go.bits .and .u64 a0 6148914691236517205))) / 4) 3689348814741910323) + (Go.bits .and .u64 (IntKind.u64.wrap ((Go.bits .and .u64 (a0 / 2) 6148914691236517205) + (Go.bits .and .u64 a0 6148914691236517205))) 3689348814741910323))))) 1085102592571150095) / 256))) + ((IntKind.u64.wrap ((Go.bits .and .u64 (IntKind.u64.wrap (((IntKind.u64.wrap ((Go.bits .and .u64 ((IntKind.u64.wrap ((Go.bits .and .u64 (a0 / 2) 6148914691236517205) + (Go.bits .and .u64 a0 6148914691236517205))) / 4) 3689348814741910323) + (Go.bits .and .u64 (IntKind.u64.wrap ((Go.bits .and .u64 (a0 / 2) 6148914691236517205) + (Go.bits .and .u64 a0 6148914691236517205))) 3689348814741910323))) / 16) + (IntKind.u64.wrap ((Go.bits .and .u64 ((IntKind.u64.wrap ((Go.bits .and .u64 (a0 / 2) 6148914691236517205) + (Go.bits .and .u64 a0 6148914691236517205))) / 4) 3689348814741910323) + (Go.bits .and .u64 (IntKind.u64.wrap ((Go.bits .and .u64 (a0 / 2) 6148914691236517205) + (Go.bits .and .u64 a0 6148914691236517205))) 3689348814741910323))))) 1085102592571150095) + ((Go.bits .and .u64 (IntKind.u64.wrap (((IntKind.u64.wrap ((Go.bits .and .u64 ((IntKind.u64.wrap ((Go.bits .and .u64 (a0 / 2) 6148914691236517205) + (Go.bits .and .u64 a0 6148914691236517205))) / 4) 3689348814741910323) + (Go.bits .and .u64 (IntKind.u64.wrap ((Go.bits .and .u64 (a0 / 2) 6148914691236517205) + (Go.bits .and .u64 a0 6148914691236517205))) 3689348814741910323))) / 16) + (IntKind.u64.wrap ((Go.bits .and .u64 ((IntKind.u64.wrap ((Go.bits .and .u64 (a0 / 2) 6148914691236517205) + (Go.bits .and .u64 a0 6148914691236517205))) / 4) 3689348814741910323) + (Go.bits .and .u64 (IntKind.u64.wrap ((Go.bits .and .u64 (a0 / 2) 6148914691236517205) + (Go.bits .and .u64 a0 6148914691236517205))) 3689348814741910323))))) 1085102592571150095) / 256))) / 65536))) + ((IntKind.u64.wrap ((IntKind.u64.wrap ((Go.bits .and .u64 (IntKind.u64.wrap (((IntKind.u64.wrap ((Go.bits .and .u64 ((IntKind.u64.wrap ((Go.bits .and .u64 (a0 / 2) 6148914691236517205) + (Go.bits .and .u64 a0 6148914691236517205))) / 4) 3689348814741910323) + (Go.bits .and .u64 (IntKind.u64.wrap ((Go.bits .and .u64 (a0 / 2) 6148914691236517205) + (Go.bits .and .u64 a0 6148914691236517205))) 3689348814741910323))) / 16) + (IntKind.u64.wrap ((Go.bits .and .u64 ((IntKind.u64.wrap ((Go.bits .and .u64 (a0 / 2) 6148914691236517205) + (Go.bits .and .u64 a0 6148914691236517205))) / 4) 3689348814741910323) + (Go.bits .and .u64 (IntKind.u64.wrap ((Go.bits .and .u64 (a0 / 2) 6148914691236517205) + (Go.bits .and .u64 a0 6148914691236517205))) 3689348814741910323))))) 1085102592571150095) + ((Go.bits .and .u64 (IntKind.u64.wrap (((IntKind.u64.wrap ((Go.bits .and .u64 ((IntKind.u64.wrap ((Go.bits .and .u64 (a0 / 2) 6148914691236517205) + (Go.bits .and .u64 a0 6148914691236517205))) / 4) 3689348814741910323) + (Go.bits .and .u64 (IntKind.u64.wrap ((Go.bits .and .u64 (a0 / 2) 6148914691236517205) + (Go.bits .and .u64 a0 6148914691236517205))) 3689348814741910323))) / 16) + (IntKind.u64.wrap ((Go.bits .and .u64 ((IntKind.u64.wrap ((Go.bits .and .u64 (a0 / 2) 6148914691236517205) + (Go.bits .and .u64 a0 6148914691236517205))) / 4) 3689348814741910323) + (Go.bits .and .u64 (IntKind.u64.wrap ((Go.bits .and .u64 (a0 / 2) 6148914691236517205) + (Go.bits .and .u64 a0 6148914691236517205))) 3689348814741910323))))) 1085102592571150095) / 256))) + ((IntKind.u64.wrap ((Go.bits .and .u64 (IntKind.u64.wrap (((IntKind.u64.wrap ((Go.bits .and .u64 ((IntKind.u64.wrap ((Go.bits .and .u64 (a0 / 2) 6148914691236517205) + (Go.bits .and .u64 a0 6148914691236517205))) / 4) 3689348814741910323) + (Go.bits .and .u64 (IntKind.u64.wrap ((Go.bits .and .u64 (a0 / 2) 6148914691236517205) + (Go.bits .and .u64 a0 6148914691236517205))) 3689348814741910323))) / 16) + (IntKind.u64.wrap ((Go.bits .and .u64 ((IntKind.u64.wrap ((Go.bits .and .u64 (a0 / 2) 6148914691236517205) + (Go.bits .and .u64 a0 6148914691236517205))) / 4) 3689348814741910323) + (Go.bits .and .u64 (IntKind.u64.wrap ((Go.bits .and .u64 (a0 / 2) 6148914691236517205) + (Go.bits .and .u64 a0 6148914691236517205))) 3689348814741910323))))) 1085102592571150095) + ((Go.bits .and .u64 (IntKind.u64.wrap (((IntKind.u64.wrap ((Go.bits .and .u64 ((IntKind.u64.wrap ((Go.bits .and .u64 (a0 / 2) 6148914691236517205) + (Go.bits .and .u64 a0 6148914691236517205))) / 4) 3689348814741910323) + (Go.bits .and .u64 (IntKind.u64.wrap ((Go.bits .and .u64 (a0 / 2) 6148914691236517205) + (Go.bits .and .u64 a0 6148914691236517205))) 3689348814741910323))) / 16) + (IntKind.u64.wrap ((Go.bits .and .u64 ((IntKind.u64.wrap ((Go.bits .and .u64 (a0 / 2) 6148914691236517205) + (Go.bits .and .u64 a0 6148914691236517205))) / 4) 3689348814741910323) + (Go.bits .and .u64 (IntKind.u64.wrap ((Go.bits .and .u64 (a0 / 2) 6148914691236517205) + (Go.bits .and .u64 a0 6148914691236517205))) 3689348814741910323))))) 1085102592571150095) / 256))) / 65536))) / 4294967296)))) 127)) = some r := h
 clear h
 obtain rfl := Option.some.inj H
 go_enter Try.func174, Try.ntmps174
 go_wp2
 go_ret
 exact ⟨by first | rfl | (simp; done) | (simp [*]; done), by repeat (first | exact Drawn0.refl _ | apply Drawn0.step)⟩
def impl_size.f (a0 : Int) : Option (Int) := (bits_OnesCount64.f (IntKind.u64.wrap (a0))).bind fun t101 => (some t101)
set_option maxHeartbeats 8000000 in
set_option maxRecDepth 100000 in
theorem impl_size.calls (a0 : Int) (r : Int) (w : World) (h : impl_size.f a0 = some r) :
  Calls Try.prog 136 #[.int .i64 a0] w fun e w' => e = .returned (.int .i64 r) ∧ Drawn0 w w' := by
 have H : ((bits_OnesCount64.f (IntKind.u64.wrap (a0))).bind fun t101 => (some t101)) = some r := h
 clear h
 replace H := Option.bind_eq_some_iff.mp H
 obtain ⟨t101, A20, H⟩ := H
 try dsimp only at H
 have A2 := Aside0.mk A20
 clear A20
 obtain rfl := Option.some.inj H
 go_enter Try.func136, Try.ntmps136
 go_wp2_with (first | ((with_reducible refine gate_callee (f := 174) rfl ?_); refine cl_ (some 5) Try.func174 #[.int .u64 (IntKind.u64.wrap (a0))] ?_; (with_reducible refine (bits_OnesCount64.calls (IntKind.u64.wrap (a0)) t101 _ A2.out).mono ?_); rintro e w' ⟨rfl, ⟨nd, rfl⟩⟩; refine ⟨_, rfl, ?_⟩))
 go_ret
 exact ⟨by first | rfl | (simp; done) | (simp [*]; done), by repeat (first | exact Drawn0.refl _ | apply Drawn0.step)⟩
def impl_isNext_1_1.f (a0 : Int) (a1_0 : Int) (a2_0 : Int) : Option (Bool) := (impl_isIn.f (Go.bits .and .i64 a1_0 a2_0) a0).bind fun t104 => (some t104)
set_option maxHeartbeats 8000000 in
set_option maxRecDepth 100000 in
theorem impl_isNext_1_1.calls (a0 : Int) (g1 : Nat) (a1_0 : Int) (g2 : Nat) (a2_0 : Int) (r : Bool) (w : World) (hb1 : w.heap[g1]? = some (.cells #[.int .i64 a1_0] 2 (0, 0))) (hb2 : w.heap[g2]? = some (.cells #[.int .i64 a2_0] 2 (0, 0))) (h : impl_isNext_1_1.f a0 a1_0 a2_0 = some r) :
  Calls Try.prog 138 #[.int .i64 a0, .pointer (some ⟨g1, 0, none⟩), .pointer (some ⟨g2, 0, none⟩)] w fun e w' => e = .returned (.bool r) ∧ Below w.heap.size w w' := by
 have BK102 := Aside0.mk hb1
 clear hb1
 have BK103 := Aside0.mk hb2
 clear hb2
 have HB := Aside0.mk (Below.refl w.heap.size w)
 have H : ((impl_isIn.f (Go.bits .and .i64 a1_0 a2_0) a0).bind fun t104 => (some t104)) = some r := h
 clear h
 replace H := Option.bind_eq_some_iff.mp H
 obtain ⟨t104, A40, H⟩ := H
 try dsimp only at H
 have A4 := Aside0.mk A40
 clear A40
 obtain rfl := Option.some.inj H
 (try have hnb5 := NB102_103.out)
 (try have hnc5 := NB103_102.out)
 have hcz6_0 : w.cell? ⟨g1, 0, none⟩ = some (.int .i64 a1_0) := cB BK102 0
 have hfz6_0 := zB BK102 0
 have hcz7_0 : w.cell? ⟨g2, 0, none⟩ = some (.int .i64 a2_0) := cB BK103 0
 have hfz7_0 := zB BK103 0
 go_enter Try.func138, Try.ntmps138
 go_wp2_with (first | ((with_reducible refine gate_callee (f := 92) rfl ?_); refine cl_ (some 9) Try.func92 #[.int .i64 (Go.bits .and .i64 a1_0 a2_0), .int .i64 a0] ?_; (with_reducible refine (impl_isIn.calls (Go.bits .and .i64 a1_0 a2_0) a0 t104 _ A4.out).mono ?_); rintro e w8 ⟨rfl, hb⟩; refine ⟨_, rfl, ?_⟩; replace BK102 := sB BK102 hb; replace BK103 := sB BK103 hb; replace HB := sH HB hb; (try clear hb); (try clear hi)))
 go_ret
 exact ⟨by first | rfl | (simp [errW_none, errW_some] <;> rfl) | (simp [*, errW_none, errW_some] <;> rfl) | (exfalso; simp_all), pH HB⟩
def clo_138 (a1_0 : Int) (a2_0 : Int) : Pred := Pred.ofI (fun x => impl_isNext_1_1.f x a1_0 a2_0)
set_option maxRecDepth 100000 in
theorem clo_ok_138 {W : World} {g1 : Nat} {a1_0 : Int} {g2 : Nat} {a2_0 : Int} (hb1 : W.heap[g1]? = some (.cells #[.int .i64 a1_0] 2 (0, 0))) (hb2 : W.heap[g2]? = some (.cells #[.int .i64 a2_0] 2 (0, 0)))  : FnOk (.func (.func 138) #[] #[.pointer (some ⟨g1, 0, none⟩), .pointer (some ⟨g2, 0, none⟩)]) (clo_138 a1_0 a2_0) W :=
 FnOk.ofI (enters_of Try.func138 (by kernel_rfl) rfl) (fun V x b hV hr => by
  show Calls Try.prog 138 #[.int .i64 x, .pointer (some ⟨g1, 0, none⟩), .pointer (some ⟨g2, 0, none⟩)] V _
  exact (impl_isNext_1_1.calls x g1 a1_0 g2 a2_0 b V ((hV.block g1 (blk_lt hb1)).trans hb1) ((hV.block g2 (blk_lt hb2)).trans hb2) hr).mono (fun e w' h_ => ⟨h_.1, h_.2⟩))
def impl_isNext_1.f (a0 : Int) (l1_0 : List Int) (a2_0 : Int) : Option (Bool) := (slices_ContainsFunc_int64_int64.f l1_0 (clo_138 a2_0 a0)).bind fun t108 => (some t108)
set_option maxHeartbeats 8000000 in
set_option maxRecDepth 100000 in
theorem impl_isNext_1.calls (a0 : Int) (g1 : Nat) (A1_0 : Option Addr) (c1_0 : Nat) (l1_0 : List Int) (g2 : Nat) (a2_0 : Int) (r : Bool) (w : World) (hb1 : w.heap[g1]? = some (.cells #[.slice A1_0 l1_0.length c1_0] 22 (0, 0))) (hr1_0 : Kd.C (Kd.int .i64) w A1_0 l1_0.length l1_0) (hc1_0 : l1_0.length ≤ c1_0) (hb2 : w.heap[g2]? = some (.cells #[.int .i64 a2_0] 2 (0, 0))) (h : impl_isNext_1.f a0 l1_0 a2_0 = some r) :
  Calls Try.prog 137 #[.int .i64 a0, .pointer (some ⟨g1, 0, none⟩), .pointer (some ⟨g2, 0, none⟩)] w fun e w' => e = .returned (.bool r) ∧ Below w.heap.size w w' := by
 have HR1_0 := Aside0.mk hr1_0
 have HC1_0 := Aside0.mk hc1_0
 clear hr1_0 hc1_0
 have BK105 := Aside0.mk hb1
 clear hb1
 have BK106 := Aside0.mk hb2
 clear hb2
 have HB := Aside0.mk (Below.refl w.heap.size w)
 have H : ((slices_ContainsFunc_int64_int64.f l1_0 (clo_138 a2_0 a0)).bind fun t108 => (some t108)) = some r := h
 clear h
 replace H := Option.bind_eq_some_iff.mp H
 obtain ⟨t108, A40, H⟩ := H
 try dsimp only at H
 have A4 := Aside0.mk A40
 clear A40
 obtain rfl := Option.some.inj H
 go_enter Try.func137, Try.ntmps137
 go_wp2_with (first | ((with_reducible refine gate_dst (N := 3) rfl ?_); refine box_event ?hg (N := 3) ?hd (cs := #[.int .i64 a0]) (t := 2) ?hr ?_; (case hd => rfl); (case hg => rfl); (case hr => first | (go_simp; done) | (go_simp; rfl)); intro gb107 hg w5 hbox hb; have BK107 := Aside0.mk (hbox); have GW107 := gH HB hg; have GE107 := gH HB hg; replace HB := sH HB hb; have NB105_107 := nB BK105 hg; have NB107_105 := oB BK105 hg; replace BK105 := sB BK105 hb; have NB106_107 := nB BK106 hg; have NB107_106 := oB BK106 hg; replace BK106 := sB BK106 hb; clear hb hbox hg; (try have hnb6 := NB105_106.out); (try have hnc6 := NB106_105.out); (try have hnb7 := NB105_107.out); (try have hnc7 := NB107_105.out); have hcz8_0 : w5.cell? ⟨g1, 0, none⟩ = some (.slice A1_0 l1_0.length c1_0) := cB BK105 0; have hfz8_0 := zB BK105 0) | ((with_reducible refine gate_callee (f := 90) rfl ?_); refine cl_ (some 7) Try.func90 #[.slice A1_0 l1_0.length c1_0, .func (.func 138) #[] #[.pointer (some ⟨g2, 0, none⟩), .pointer (some ⟨gb107, 0, none⟩)]] ?_; (with_reducible refine (slices_ContainsFunc_int64_int64.calls _ _ l1_0 _ (clo_138 a2_0 a0) t108 _ ?side1 ?side2 ?side3 A4.out).mono ?_); (case side1 => exact pC ((Kd.C_below HR1_0.out HB.out))); (case side2 => exact HC1_0.out); (case side3 => exact clo_ok_138 (pB BK106) (pB BK107) ); rintro e w9 ⟨rfl, hb⟩; refine ⟨_, rfl, ?_⟩; replace BK105 := sB BK105 hb; replace BK106 := sB BK106 hb; replace BK107 := sB BK107 hb; replace HB := sH HB hb; (try clear hb); (try clear hi)))
 go_ret
 exact ⟨by first | rfl | (simp [errW_none, errW_some] <;> rfl) | (simp [*, errW_none, errW_some] <;> rfl) | (exfalso; simp_all), pH HB⟩
def clo_137 (l1_0 : List Int) (a2_0 : Int) : Pred := Pred.ofI (fun x => impl_isNext_1.f x l1_0 a2_0)
set_option maxRecDepth 100000 in
theorem clo_ok_137 {W : World} {g1 : Nat} {A1_0 : Option Addr} {c1_0 : Nat} {l1_0 : List Int} {g2 : Nat} {a2_0 : Int} (hb1 : W.heap[g1]? = some (.cells #[.slice A1_0 l1_0.length c1_0] 22 (0, 0))) (hb2 : W.heap[g2]? = some (.cells #[.int .i64 a2_0] 2 (0, 0))) (hr1_0 : Kd.C (Kd.int .i64) W A1_0 l1_0.length l1_0) (hc1_0 : l1_0.length ≤ c1_0) : FnOk (.func (.func 137) #[] #[.pointer (some ⟨g1, 0, none⟩), .pointer (some ⟨g2, 0, none⟩)]) (clo_137 l1_0 a2_0) W :=
 FnOk.ofI (enters_of Try.func137 (by kernel_rfl) rfl) (fun V x b hV hr => by
  show Calls Try.prog 137 #[.int .i64 x, .pointer (some ⟨g1, 0, none⟩), .pointer (some ⟨g2, 0, none⟩)] V _
  exact (impl_isNext_1.calls x g1 A1_0 c1_0 l1_0 g2 a2_0 b V ((hV.block g1 (blk_lt hb1)).trans hb1) (Kd.C_below hr1_0 hV) hc1_0 ((hV.block g2 (blk_lt hb2)).trans hb2) hr).mono (fun e w' h_ => ⟨h_.1, h_.2⟩))
def impl_isNext.l0 : Nat → List Int → List Int → Int → Int → Int → List Int → Option (Bool)
 | 0, _, _, _, _, _, _ => none
 | k + 1, x0, x8, x9, x10, x110000, x111000 => if x10 < x9 then (if 0 ≤ x10 then (if x10 < (x8.length : Int) then ((impl_size.f (Go.bits .and .i64 x110000 (rd x8 x10))).bind fun t113 => ((impl_size.f x110000).bind fun t114 => (if t113 = (wrap64 (t114 - 1)) then (if x111000.length < 17592186044416 then (impl_isNext.l0 k x0 x8 x9 (wrap64 (x10 + 1)) x110000 (x111000 ++ [Go.bits .and .i64 x110000 (rd x8 x10)])) else (none)) else (impl_isNext.l0 k x0 x8 x9 (wrap64 (x10 + 1)) x110000 x111000)))) else (none)) else (none)) else ((impl_areAll_int64.f x0 (clo_137 x111000 x110000)).bind fun t111 => (some t111))
def impl_isNext.f (k : Nat) (l0 : List Int) (a1 : Int) : Option (Bool) := impl_isNext.l0 k l0 l0 (l0.length : Int) 0 a1 ([] : List Int)
set_option maxHeartbeats 8000000 in
set_option maxRecDepth 100000 in
theorem impl_isNext.calls (k : Nat) (A0 : Option Addr) (c0 : Nat) (l0 : List Int) (a1 : Int) (r : Bool) (w : World) (hr0 : Kd.C (Kd.int .i64) w A0 l0.length l0) (hc0 : l0.length ≤ c0) (h : impl_isNext.f k l0 a1 = some r) :
  Calls Try.prog 86 #[.slice A0 l0.length c0, .int .i64 a1] w fun e w' => e = .returned (.bool r) ∧ Below w.heap.size w w' := by
 have HR0 := Aside0.mk hr0
 have HC0 := Aside0.mk hc0
 clear hr0 hc0
 have HB := Aside0.mk (Below.refl w.heap.size w)
 have H : (impl_isNext.l0 k l0 l0 (l0.length : Int) 0 a1 ([] : List Int)) = some r := h
 clear h
 have H' := Aside0.mk H
 clear H
 go_enter Try.func86, Try.ntmps86
 go_wp2_with (first | ((with_reducible refine gate_dst (N := 3) rfl ?_); refine box_event ?hg (N := 3) ?hd (cs := #[.int .i64 a1]) (t := 2) ?hr ?_; (case hd => rfl); (case hg => rfl); (case hr => first | (go_simp; done) | (go_simp; rfl)); intro gb109 hg w3 hbox hb; have BK109 := Aside0.mk (hbox); have GW109 := gH HB hg; have GE109 := gH HB hg; replace HB := sH HB hb; clear hb hbox hg) | ((with_reducible refine gate_dst (N := 5) rfl ?_); refine box_event ?hg (N := 5) ?hd (cs := #[.slice none 0 0]) (t := 22) ?hr ?_; (case hd => rfl); (case hg => rfl); (case hr => first | (go_simp; done) | (go_simp; rfl)); intro gb110 hg w4 hbox hb; have BK110 := Aside0.mk (hbox); have GW110 := gH HB hg; have GE110 := gH HB hg; replace HB := sH HB hb; have NB109_110 := nB BK109 hg; have NB110_109 := oB BK109 hg; replace BK109 := sB BK109 hb; clear hb hbox hg))
 repeat (go_quiet (first | ((with_reducible refine gate_dst (N := 3) rfl ?_); refine box_event ?hg (N := 3) ?hd (cs := #[.int .i64 a1]) (t := 2) ?hr ?_; (case hd => rfl); (case hg => rfl); (case hr => first | (go_simp; done) | (go_simp; rfl)); intro gb109 hg w3 hbox hb; have BK109 := Aside0.mk (hbox); have GW109 := gH HB hg; have GE109 := gH HB hg; replace HB := sH HB hb; clear hb hbox hg) | ((with_reducible refine gate_dst (N := 5) rfl ?_); refine box_event ?hg (N := 5) ?hd (cs := #[.slice none 0 0]) (t := 22) ?hr ?_; (case hd => rfl); (case hg => rfl); (case hr => first | (go_simp; done) | (go_simp; rfl)); intro gb110 hg w4 hbox hb; have BK110 := Aside0.mk (hbox); have GW110 := gH HB hg; have GE110 := gH HB hg; replace HB := sH HB hb; have NB109_110 := nB BK109 hg; have NB110_109 := oB BK109 hg; replace BK109 := sB BK109 hb; clear hb hbox hg)); try go_wp2_with (first | ((with_reducible refine gate_dst (N := 3) rfl ?_); refine box_event ?hg (N := 3) ?hd (cs := #[.int .i64 a1]) (t := 2) ?hr ?_; (case hd => rfl); (case hg => rfl); (case hr => first | (go_simp; done) | (go_simp; rfl)); intro gb109 hg w3 hbox hb; have BK109 := Aside0.mk (hbox); have GW109 := gH HB hg; have GE109 := gH HB hg; replace HB := sH HB hb; clear hb hbox hg) | ((with_reducible refine gate_dst (N := 5) rfl ?_); refine box_event ?hg (N := 5) ?hd (cs := #[.slice none 0 0]) (t := 22) ?hr ?_; (case hd => rfl); (case hg => rfl); (case hr => first | (go_simp; done) | (go_simp; rfl)); intro gb110 hg w4 hbox hb; have BK110 := Aside0.mk (hbox); have GW110 := gH HB hg; have GE110 := gH HB hg; replace HB := sH HB hb; have NB109_110 := nB BK109 hg; have NB110_109 := oB BK109 hg; replace BK109 := sB BK109 hb; clear hb hbox hg)))
 go_loopg [10] k (fun kq v10 w' => ∃ (x10_1 : Int) (x111000_1 : List Int) (u111000 : Value), v10 = .int .i64 x10_1 ∧ Aside0 (impl_isNext.l0 kq l0 l0 (l0.length : Int) x10_1 a1 x111000_1 = some r) ∧ Aside0 (kq ≤ k) ∧ Aside0 (Kd.R (Kd.int .i64) 2 w' w.heap.size (fun k_ => k_ ≠ gb109) u111000 x111000_1) ∧ Aside0 (w'.heap[gb109]? = some (.cells #[.int .i64 a1] 2 (0, 0))) ∧ Aside0 (w'.heap[gb110]? = some (.cells #[u111000] 22 (0, 0))) ∧ Aside0 (Below w.heap.size w w'))
 case atStart => exact ⟨(0), (([] : List Int)), (.slice none 0 0), (by first | rfl | (simp; done) | (simp [*]; done)), H', ⟨Nat.le_refl _⟩, ⟨by first | exact Kd.R_nil _ _ _ _ _ | exact Kd.N_nil _ _ _ _ _ | exact Kd.V_nil _ _ _ _ _ | exact Kd.Q_nil _ _ _ _ _ | exact Kd.S_nil _ _ _ _ _⟩, ⟨pB BK109⟩, ⟨pB BK110⟩, ⟨pH HB⟩⟩
 case round =>
  clear H'
  try clear p2
  obtain ⟨x10_1, x111000_1, u111000, rfl, HA, HK1, HO_111000, BK109, BK110, HB⟩ := hrel
  cases gk with
  | zero => exact absurd HA.out (by simp [impl_isNext.l0])
  | succ k1 =>
   have H := HA.out
   clear HA
   simp only [impl_isNext.l0] at H
   by_cases c5 : x10_1 < (l0.length : Int)
   ·rw [if_pos c5] at H
    have c5b0 : decide (x10_1 < (l0.length : Int)) = true := decide_eq_true c5
    clear c5
    by_cases c6 : 0 ≤ x10_1
    ·rw [if_pos c6] at H
     have c6b0 : decide (0 ≤ x10_1) = true := decide_eq_true c6
     clear c6
     by_cases c7 : x10_1 < (l0.length : Int)
     ·rw [if_pos c7] at H
      have c7b0 : decide (x10_1 < (l0.length : Int)) = true := decide_eq_true c7
      clear c7
      replace H := Option.bind_eq_some_iff.mp H
      obtain ⟨t113, A80, H⟩ := H
      try dsimp only at H
      have A8 := Aside0.mk A80
      clear A80
      replace H := Option.bind_eq_some_iff.mp H
      obtain ⟨t114, A90, H⟩ := H
      try dsimp only at H
      have A9 := Aside0.mk A90
      clear A90
      by_cases c10 : t113 = (wrap64 (t114 - 1))
      ·rw [if_pos c10] at H
       have c10b0 : (t113 == (wrap64 (t114 - 1))) = true := beq_iff_eq.mpr c10
       (try have c10b0w : (t113 == (IntKind.i64.wrap (t114 - 1))) = true := by (simp only [Go.IntWalk.i64_left]; exact c10b0))
       have c10b1 : (t113 != (wrap64 (t114 - 1))) = false := bne_eq_false_iff_eq.mpr c10
       (try have c10b1w : (t113 != (IntKind.i64.wrap (t114 - 1))) = false := by (simp only [Go.IntWalk.i64_left]; exact c10b1))
       clear c10
       by_cases c11 : x111000_1.length < 17592186044416
       ·rw [if_pos c11] at H
        have LMc11 := Aside0.mk c11
        clear c11
        obtain ⟨y115, hy115⟩ : ∃ y_ : List Int, y_ = (x111000_1 ++ [Go.bits .and .i64 a1 (rd l0 x10_1)]) := ⟨_, rfl⟩
        replace H : (impl_isNext.l0 k1 l0 l0 (l0.length : Int) (wrap64 (x10_1 + 1)) a1 y115) = some r := by first | (rw [hy115]; with_reducible exact H) | (have H2_ := (Option.bind_some _ _).symm.trans H; rw [hy115]; with_reducible exact H2_) | (have H2_ := (Option.bind_some _ _).symm.trans H; with_reducible exact H2_) | with_reducible exact H | (rw [hy115]; exact H) | exact H
        have Ny115 := Aside0.mk hy115
        clear hy115
        have H' := Aside0.mk H
        clear H
        have p112 : 0 ≤ (x10_1 : Int) := of_decide_eq_true (by first | (with_reducible assumption) | assumption)
        have q112 : x10_1 < (l0.length : Int) := of_decide_eq_true (by first | (with_reducible assumption) | assumption)
        obtain ⟨ad112, e112, hx112_0⟩ := Kd.at_int HR0.out x10_1 p112 q112
        cases e112
        replace hx112_0 := cH HB hx112_0
        replace p112 := eq_true p112
        replace q112 := eq_true q112
        (try have hnb12 := NB109_110.out)
        (try have hnc12 := NB110_109.out)
        have hcz13_0 : wr.cell? ⟨gb109, 0, none⟩ = some (.int .i64 a1) := cB BK109 0
        have hfz13_0 := zB BK109 0
        go_wp2_with (first | (go_at_call 136; (with_reducible refine (impl_size.calls (Go.bits .and .i64 a1 (rd l0 x10_1)) t113 _ A8.out).mono ?_); rintro e w' ⟨rfl, ⟨nd, rfl⟩⟩; (try first | exact ⟨rfl, _, World.drewN_drewN _ _ _⟩ | exact ⟨rfl, _, Eq.trans (World.drewN_drewN _ _ _) (congrArg (World.drewN _) (Nat.add_assoc _ _ _))⟩)) | (go_at_call 136; (with_reducible refine (impl_size.calls a1 t114 _ A9.out).mono ?_); rintro e w' ⟨rfl, ⟨nd, rfl⟩⟩; (try first | exact ⟨rfl, _, World.drewN_drewN _ _ _⟩ | exact ⟨rfl, _, Eq.trans (World.drewN_drewN _ _ _) (congrArg (World.drewN _) (Nat.add_assoc _ _ _))⟩); have hcz14_0 : wr.cell? ⟨gb110, 0, none⟩ = some (u111000) := cB BK110 0; have hfz14_0 := zB BK110 0) | ((with_reducible refine gate_builtin (b := .append) (xs := #[.tmp 22, .tmp 26]) rfl ?_); at_builtin; refine Kd.R_append (Kd.int .i64) (w0 := w) w.heap.size rfl (.tmp 22) (.tmp 26) 22 2 (.int .i64 0) 8 rfl Try.underlying22 info2 rfl (by decide) (by omega) u111000 x111000_1 (Go.bits .and .i64 a1 (rd l0 x10_1)) [.int .i64 (Go.bits .and .i64 a1 (rd l0 x10_1))] (fun k_ => k_ ≠ gb109) (fun _ => False) rfl rfl ?aP (fun _ hk => hk.elim) ?aF ?aO ?aB ?aS ?aL ?_; (case aP => exact rfl); (case aB => exact (pH HB)); (case aF => exact (fun k_ hk => Kd.freshB (g := gb109) (o := .cells #[.int .i64 a1] 2 (0, 0)) (pB BK109) k_ hk)); (case aO => exact (pR HO_111000)); (case aS => exact (below_size (pH HB))); (case aL => have := LMc11.out; omega); intro v116 w15 ho hb hg hat; rw [← Ny115.out] at ho; replace BK109 := Aside0.mk (blk_grown (g := gb109) (o := .cells #[.int .i64 a1] 2 (0, 0)) (pB BK109) hg (Kd.R_away HO_111000.out (fun _ hk => hk))); replace BK110 := Aside0.mk (blk_grown (g := gb110) (o := .cells #[u111000] 22 (0, 0)) (pB BK110) hg (Kd.R_ne HO_111000.out BK110.out (by decide))); replace HB := Aside0.mk (hb); have HO117 := Aside0.mk (ho); clear HO_111000; clear ho hb hg hat; obtain ⟨Ao16, co16, eo16⟩ := Kd.R_slice HO117.out; subst eo16; have hcz17_0 : w15.cell? ⟨gb110, 0, none⟩ = some (u111000) := cB BK110 0; have hfz17_0 := zB BK110 0))
        repeat (go_quiet (first | (go_at_call 136; (with_reducible refine (impl_size.calls (Go.bits .and .i64 a1 (rd l0 x10_1)) t113 _ A8.out).mono ?_); rintro e w' ⟨rfl, ⟨nd, rfl⟩⟩; (try first | exact ⟨rfl, _, World.drewN_drewN _ _ _⟩ | exact ⟨rfl, _, Eq.trans (World.drewN_drewN _ _ _) (congrArg (World.drewN _) (Nat.add_assoc _ _ _))⟩)) | (go_at_call 136; (with_reducible refine (impl_size.calls a1 t114 _ A9.out).mono ?_); rintro e w' ⟨rfl, ⟨nd, rfl⟩⟩; (try first | exact ⟨rfl, _, World.drewN_drewN _ _ _⟩ | exact ⟨rfl, _, Eq.trans (World.drewN_drewN _ _ _) (congrArg (World.drewN _) (Nat.add_assoc _ _ _))⟩); have hcz14_0 : wr.cell? ⟨gb110, 0, none⟩ = some (u111000) := cB BK110 0; have hfz14_0 := zB BK110 0) | ((with_reducible refine gate_builtin (b := .append) (xs := #[.tmp 22, .tmp 26]) rfl ?_); at_builtin; refine Kd.R_append (Kd.int .i64) (w0 := w) w.heap.size rfl (.tmp 22) (.tmp 26) 22 2 (.int .i64 0) 8 rfl Try.underlying22 info2 rfl (by decide) (by omega) u111000 x111000_1 (Go.bits .and .i64 a1 (rd l0 x10_1)) [.int .i64 (Go.bits .and .i64 a1 (rd l0 x10_1))] (fun k_ => k_ ≠ gb109) (fun _ => False) rfl rfl ?aP (fun _ hk => hk.elim) ?aF ?aO ?aB ?aS ?aL ?_; (case aP => exact rfl); (case aB => exact (pH HB)); (case aF => exact (fun k_ hk => Kd.freshB (g := gb109) (o := .cells #[.int .i64 a1] 2 (0, 0)) (pB BK109) k_ hk)); (case aO => exact (pR HO_111000)); (case aS => exact (below_size (pH HB))); (case aL => have := LMc11.out; omega); intro v116 w15 ho hb hg hat; rw [← Ny115.out] at ho; replace BK109 := Aside0.mk (blk_grown (g := gb109) (o := .cells #[.int .i64 a1] 2 (0, 0)) (pB BK109) hg (Kd.R_away HO_111000.out (fun _ hk => hk))); replace BK110 := Aside0.mk (blk_grown (g := gb110) (o := .cells #[u111000] 22 (0, 0)) (pB BK110) hg (Kd.R_ne HO_111000.out BK110.out (by decide))); replace HB := Aside0.mk (hb); have HO117 := Aside0.mk (ho); clear HO_111000; clear ho hb hg hat; obtain ⟨Ao16, co16, eo16⟩ := Kd.R_slice HO117.out; subst eo16; have hcz17_0 : w15.cell? ⟨gb110, 0, none⟩ = some (u111000) := cB BK110 0; have hfz17_0 := zB BK110 0)); try go_wp2_with (first | (go_at_call 136; (with_reducible refine (impl_size.calls (Go.bits .and .i64 a1 (rd l0 x10_1)) t113 _ A8.out).mono ?_); rintro e w' ⟨rfl, ⟨nd, rfl⟩⟩; (try first | exact ⟨rfl, _, World.drewN_drewN _ _ _⟩ | exact ⟨rfl, _, Eq.trans (World.drewN_drewN _ _ _) (congrArg (World.drewN _) (Nat.add_assoc _ _ _))⟩)) | (go_at_call 136; (with_reducible refine (impl_size.calls a1 t114 _ A9.out).mono ?_); rintro e w' ⟨rfl, ⟨nd, rfl⟩⟩; (try first | exact ⟨rfl, _, World.drewN_drewN _ _ _⟩ | exact ⟨rfl, _, Eq.trans (World.drewN_drewN _ _ _) (congrArg (World.drewN _) (Nat.add_assoc _ _ _))⟩); have hcz14_0 : wr.cell? ⟨gb110, 0, none⟩ = some (u111000) := cB BK110 0; have hfz14_0 := zB BK110 0) | ((with_reducible refine gate_builtin (b := .append) (xs := #[.tmp 22, .tmp 26]) rfl ?_); at_builtin; refine Kd.R_append (Kd.int .i64) (w0 := w) w.heap.size rfl (.tmp 22) (.tmp 26) 22 2 (.int .i64 0) 8 rfl Try.underlying22 info2 rfl (by decide) (by omega) u111000 x111000_1 (Go.bits .and .i64 a1 (rd l0 x10_1)) [.int .i64 (Go.bits .and .i64 a1 (rd l0 x10_1))] (fun k_ => k_ ≠ gb109) (fun _ => False) rfl rfl ?aP (fun _ hk => hk.elim) ?aF ?aO ?aB ?aS ?aL ?_; (case aP => exact rfl); (case aB => exact (pH HB)); (case aF => exact (fun k_ hk => Kd.freshB (g := gb109) (o := .cells #[.int .i64 a1] 2 (0, 0)) (pB BK109) k_ hk)); (case aO => exact (pR HO_111000)); (case aS => exact (below_size (pH HB))); (case aL => have := LMc11.out; omega); intro v116 w15 ho hb hg hat; rw [← Ny115.out] at ho; replace BK109 := Aside0.mk (blk_grown (g := gb109) (o := .cells #[.int .i64 a1] 2 (0, 0)) (pB BK109) hg (Kd.R_away HO_111000.out (fun _ hk => hk))); replace BK110 := Aside0.mk (blk_grown (g := gb110) (o := .cells #[u111000] 22 (0, 0)) (pB BK110) hg (Kd.R_ne HO_111000.out BK110.out (by decide))); replace HB := Aside0.mk (hb); have HO117 := Aside0.mk (ho); clear HO_111000; clear ho hb hg hat; obtain ⟨Ao16, co16, eo16⟩ := Kd.R_slice HO117.out; subst eo16; have hcz17_0 : w15.cell? ⟨gb110, 0, none⟩ = some (u111000) := cB BK110 0; have hfz17_0 := zB BK110 0)))
        go_roundg k1
        case measure => have := HK1.out; omega
        case rel => exact ⟨(wrap64 (x10_1 + 1)), (y115), (.slice Ao16 y115.length co16), (by first | rfl | (simp; done) | (simp [*]; done)), H', ⟨by have := HK1.out; omega⟩, ⟨by (with_reducible repeat (first | apply Kd.R_alloc | apply Kd.R_drewN | apply Kd.R_drew)); exact Kd.R_mono (Kd.R_far (p := ⟨gb110, 0, none⟩) (Kd.R_types HO117.out BK110.out (by decide)) (fun _ hk => hk.2) (.slice Ao16 y115.length co16)) (fun _ hk => hk.1)⟩, ⟨by (with_reducible repeat (first | refine blk_drewN ?_ _ | refine blk_drew ?_ | refine blk_alloc ?_ _)); refine blk_far ?_ NB109_110.out _; (with_reducible repeat (first | refine blk_drewN ?_ _ | refine blk_drew ?_ | refine blk_alloc ?_ _)); exact BK109.out⟩, ⟨by (with_reducible repeat (first | refine blk_drewN ?_ _ | refine blk_drew ?_ | refine blk_alloc ?_ _)); refine blk_put (cs := #[u111000]) ?_ 0 _ rfl; (with_reducible repeat (first | refine blk_drewN ?_ _ | refine blk_drew ?_ | refine blk_alloc ?_ _)); exact BK110.out⟩, ⟨pH HB⟩⟩
       ·rw [if_neg c11] at H
        exact absurd H (by simp)
      ·rw [if_neg c10] at H
       have c10b0 : (t113 == (wrap64 (t114 - 1))) = false := beq_eq_false_iff_ne.mpr c10
       (try have c10b0w : (t113 == (IntKind.i64.wrap (t114 - 1))) = false := by (simp only [Go.IntWalk.i64_left]; exact c10b0))
       have c10b1 : (t113 != (wrap64 (t114 - 1))) = true := bne_iff_ne.mpr c10
       (try have c10b1w : (t113 != (IntKind.i64.wrap (t114 - 1))) = true := by (simp only [Go.IntWalk.i64_left]; exact c10b1))
       have H' := Aside0.mk H
       clear H
       have p112 : 0 ≤ (x10_1 : Int) := of_decide_eq_true (by first | (with_reducible assumption) | assumption)
       have q112 : x10_1 < (l0.length : Int) := of_decide_eq_true (by first | (with_reducible assumption) | assumption)
       obtain ⟨ad112, e112, hx112_0⟩ := Kd.at_int HR0.out x10_1 p112 q112
       cases e112
       replace hx112_0 := cH HB hx112_0
       replace p112 := eq_true p112
       replace q112 := eq_true q112
       (try have hnb18 := NB109_110.out)
       (try have hnc18 := NB110_109.out)
       have hcz19_0 : wr.cell? ⟨gb109, 0, none⟩ = some (.int .i64 a1) := cB BK109 0
       have hfz19_0 := zB BK109 0
       go_wp2_with (first | (go_at_call 136; (with_reducible refine (impl_size.calls (Go.bits .and .i64 a1 (rd l0 x10_1)) t113 _ A8.out).mono ?_); rintro e w' ⟨rfl, ⟨nd, rfl⟩⟩; (try first | exact ⟨rfl, _, World.drewN_drewN _ _ _⟩ | exact ⟨rfl, _, Eq.trans (World.drewN_drewN _ _ _) (congrArg (World.drewN _) (Nat.add_assoc _ _ _))⟩)) | (go_at_call 136; (with_reducible refine (impl_size.calls a1 t114 _ A9.out).mono ?_); rintro e w' ⟨rfl, ⟨nd, rfl⟩⟩; (try first | exact ⟨rfl, _, World.drewN_drewN _ _ _⟩ | exact ⟨rfl, _, Eq.trans (World.drewN_drewN _ _ _) (congrArg (World.drewN _) (Nat.add_assoc _ _ _))⟩)))
       repeat (go_quiet (first | (go_at_call 136; (with_reducible refine (impl_size.calls (Go.bits .and .i64 a1 (rd l0 x10_1)) t113 _ A8.out).mono ?_); rintro e w' ⟨rfl, ⟨nd, rfl⟩⟩; (try first | exact ⟨rfl, _, World.drewN_drewN _ _ _⟩ | exact ⟨rfl, _, Eq.trans (World.drewN_drewN _ _ _) (congrArg (World.drewN _) (Nat.add_assoc _ _ _))⟩)) | (go_at_call 136; (with_reducible refine (impl_size.calls a1 t114 _ A9.out).mono ?_); rintro e w' ⟨rfl, ⟨nd, rfl⟩⟩; (try first | exact ⟨rfl, _, World.drewN_drewN _ _ _⟩ | exact ⟨rfl, _, Eq.trans (World.drewN_drewN _ _ _) (congrArg (World.drewN _) (Nat.add_assoc _ _ _))⟩))); try go_wp2_with (first | (go_at_call 136; (with_reducible refine (impl_size.calls (Go.bits .and .i64 a1 (rd l0 x10_1)) t113 _ A8.out).mono ?_); rintro e w' ⟨rfl, ⟨nd, rfl⟩⟩; (try first | exact ⟨rfl, _, World.drewN_drewN _ _ _⟩ | exact ⟨rfl, _, Eq.trans (World.drewN_drewN _ _ _) (congrArg (World.drewN _) (Nat.add_assoc _ _ _))⟩)) | (go_at_call 136; (with_reducible refine (impl_size.calls a1 t114 _ A9.out).mono ?_); rintro e w' ⟨rfl, ⟨nd, rfl⟩⟩; (try first | exact ⟨rfl, _, World.drewN_drewN _ _ _⟩ | exact ⟨rfl, _, Eq.trans (World.drewN_drewN _ _ _) (congrArg (World.drewN _) (Nat.add_assoc _ _ _))⟩))))
       go_roundg k1
       case measure => have := HK1.out; omega
       case rel => exact ⟨(wrap64 (x10_1 + 1)), (x111000_1), (u111000), (by first | rfl | (simp; done) | (simp [*]; done)), H', ⟨by have := HK1.out; omega⟩, ⟨by (with_reducible repeat (first | apply Kd.R_alloc | apply Kd.R_drewN | apply Kd.R_drew)); exact HO_111000.out⟩, ⟨pB BK109⟩, ⟨pB BK110⟩, ⟨pH HB⟩⟩
     ·rw [if_neg c7] at H
      exact absurd H (by simp)
    ·rw [if_neg c6] at H
     exact absurd H (by simp)
   ·rw [if_neg c5] at H
    have c5b0 : decide (x10_1 < (l0.length : Int)) = false := decide_eq_false c5
    clear c5
    replace H := Option.bind_eq_some_iff.mp H
    obtain ⟨t111, A200, H⟩ := H
    try dsimp only at H
    have A20 := Aside0.mk A200
    clear A200
    obtain rfl := Option.some.inj H
    obtain ⟨Ao21, co21, eo21⟩ := Kd.R_slice HO_111000.out
    subst eo21
    go_wp2_with (first | (go_at_call 57; (with_reducible refine (impl_areAll_int64.calls _ _ l0 _ (clo_137 x111000_1 a1) t111 _ ?side1 ?side2 ?side3 A20.out).mono ?_); (case side1 => exact pC ((Kd.C_below HR0.out HB.out))); (case side2 => exact HC0.out); (case side3 => exact clo_ok_137 (pB BK110) (pB BK109) (by exact pC ((Kd.R_reads' HO_111000.out).2.2)) (by exact (Kd.R_reads' HO_111000.out).2.1)); rintro e w22 ⟨rfl, hb⟩; replace HO_111000 := sR HO_111000 hb; replace BK109 := sB BK109 hb; replace BK110 := sB BK110 hb; replace HB := sH HB hb; (try clear hb); (try clear hi)))
    repeat (go_quiet (first | (go_at_call 57; (with_reducible refine (impl_areAll_int64.calls _ _ l0 _ (clo_137 x111000_1 a1) t111 _ ?side1 ?side2 ?side3 A20.out).mono ?_); (case side1 => exact pC ((Kd.C_below HR0.out HB.out))); (case side2 => exact HC0.out); (case side3 => exact clo_ok_137 (pB BK110) (pB BK109) (by exact pC ((Kd.R_reads' HO_111000.out).2.2)) (by exact (Kd.R_reads' HO_111000.out).2.1)); rintro e w22 ⟨rfl, hb⟩; replace HO_111000 := sR HO_111000 hb; replace BK109 := sB BK109 hb; replace BK110 := sB BK110 hb; replace HB := sH HB hb; (try clear hb); (try clear hi))); try go_wp2_with (first | (go_at_call 57; (with_reducible refine (impl_areAll_int64.calls _ _ l0 _ (clo_137 x111000_1 a1) t111 _ ?side1 ?side2 ?side3 A20.out).mono ?_); (case side1 => exact pC ((Kd.C_below HR0.out HB.out))); (case side2 => exact HC0.out); (case side3 => exact clo_ok_137 (pB BK110) (pB BK109) (by exact pC ((Kd.R_reads' HO_111000.out).2.2)) (by exact (Kd.R_reads' HO_111000.out).2.1)); rintro e w22 ⟨rfl, hb⟩; replace HO_111000 := sR HO_111000 hb; replace BK109 := sB BK109 hb; replace BK110 := sB BK110 hb; replace HB := sH HB hb; (try clear hb); (try clear hi))))
    go_ret
    exact ⟨by first | rfl | (simp [errW_none, errW_some] <;> rfl) | (simp [*, errW_none, errW_some] <;> rfl) | (exfalso; simp_all), pH HB⟩
end Go.Proofs.Ytomdfjohnmikdaa.QH
namespace Go.Proofs.Ytomdfjohnmikdaa.QS
open Go.Proofs.Ytomdfjohnmikdaa.Cw Go.Proofs.Ytomdfjohnmikdaa.Kp Go.Proofs.Ytomdfjohnmikdaa.Ext Go.RowKit Go.Proofs.YtomdfjohnmikdaaW.PrintWords Go.Proofs.YtomdfjohnmikdaaW.PrintLast Go.Proofs.YtomdfjohnmikdaaW.PrintMore
attribute [local go_sem] max2_int min2_int max_two min_two max_three min_three max_four min_four   -- for this text's walks alone
set_option linter.unusedVariables false
set_option linter.unusedSimpArgs false
mutual
def spec_l07Goes.l0 : Nat → List Int → Int → Int → Int → Option (Bool × Int)
 | 0, _, _, _, _ => none
 | k + 1, x0, x1, x6, x7 => if x7 < 6 then (if 0 ≤ (IntKind.u64.wrap (x7)) then (if (Go.bits .and .i64 x1 (shl .i64 1 (IntKind.u64.wrap (x7)))) = 0 then (spec_l07Goes.l0 k x0 x1 x6 (wrap64 (x7 + 1))) else (spec_l07Goes.l1 k x0 x1 x6 x7 (shl .i64 1 (IntKind.u64.wrap (x7))) 0)) else (none)) else (spec_l07Goes.l2 k x0 x6 0)
def spec_l07Goes.l1 : Nat → List Int → Int → Int → Int → Int → Int → Option (Bool × Int)
 | 0, _, _, _, _, _, _ => none
 | k + 1, x0, x1, x6, x7, x8, x9 => if x9 < (x0.length : Int) then (if 0 ≤ x9 then (if (Go.bits .and .i64 (rd x0 x9) (wrap64 (x1 - x8))) = (wrap64 (x1 - x8)) then (spec_l07Goes.l1 k x0 x1 (Go.bits .or .i64 x6 x8) x7 x8 (wrap64 (x9 + 1))) else (spec_l07Goes.l1 k x0 x1 x6 x7 x8 (wrap64 (x9 + 1)))) else (none)) else (spec_l07Goes.l0 k x0 x1 x6 (wrap64 (x7 + 1)))
def spec_l07Goes.l2 : Nat → List Int → Int → Int → Option (Bool × Int)
 | 0, _, _, _ => none
 | k + 1, x0, x6, x10 => if x10 < (x0.length : Int) then (if 0 ≤ x10 then (if (Go.bits .and .i64 (rd x0 x10) x6) = x6 then (some (false, x6)) else (spec_l07Goes.l2 k x0 x6 (wrap64 (x10 + 1)))) else (none)) else (some (true, x6))
end
def spec_l07Goes.f (k : Nat) (l0 : List Int) (a1 : Int) : Option (Bool × Int) := spec_l07Goes.l0 k l0 a1 0 0
set_option maxHeartbeats 8000000 in
set_option maxRecDepth 100000 in
theorem spec_l07Goes.calls (k : Nat) (A0 : Option Addr) (c0 : Nat) (l0 : List Int) (a1 : Int) (r1 : Bool) (r2 : Int) (w : World) (hr0 : Kd.C (Kd.int .i64) w A0 l0.length l0) (hc0 : l0.length ≤ c0) (h : spec_l07Goes.f k l0 a1 = some (r1, r2)) :
  Calls Try.prog 131 #[.slice A0 l0.length c0, .int .i64 a1] w fun e w' => e = .returned (.tuple #[.bool r1, .int .i64 r2]) ∧ Drawn0 w w' := by
 have HR0 := Aside0.mk hr0
 have HC0 := Aside0.mk hc0
 clear hr0 hc0
 have H : (spec_l07Goes.l0 k l0 a1 0 0) = some (r1, r2) := h
 clear h
 have H' := Aside0.mk H
 clear H
 go_enter Try.func131, Try.ntmps131
 go_wp2
 go_loopg [6, 7] k (fun kq v6 v7 w' => ∃ (x6_1 : Int) (x7_1 : Int), v6 = .int .i64 x6_1 ∧ v7 = .int .i64 x7_1 ∧ Aside0 (spec_l07Goes.l0 kq l0 a1 x6_1 x7_1 = some (r1, r2)) ∧ Aside0 (kq ≤ k) ∧ Drawn0 w w')
 case atStart => exact ⟨(0), (0), (by first | rfl | (simp; done) | (simp [*]; done)), (by first | rfl | (simp; done) | (simp [*]; done)), H', ⟨Nat.le_refl _⟩, by repeat (first | exact Drawn0.refl _ | apply Drawn0.step)⟩
 case round =>
  clear H'
  try clear c1
  try clear p2
  obtain ⟨x6_1, x7_1, rfl, rfl, HA, HK1, ⟨m1, rfl⟩⟩ := hrel
  cases gk with
  | zero => exact absurd HA.out (by simp [spec_l07Goes.l0])
  | succ k1 =>
   have H := HA.out
   clear HA
   simp only [spec_l07Goes.l0] at H
   by_cases c3 : x7_1 < 6
   ·rw [if_pos c3] at H
    have c3b0 : decide (x7_1 < 6) = true := decide_eq_true c3
    clear c3
    obtain ⟨ji4, hji4⟩ : ∃ j_ : Int, (IntKind.u64.wrap (x7_1)) = j_ := ⟨_, rfl⟩
    replace H : (if 0 ≤ (ji4) then (if (Go.bits .and .i64 a1 (shl .i64 1 (ji4))) = 0 then (spec_l07Goes.l0 k1 l0 a1 x6_1 (wrap64 (x7_1 + 1))) else (spec_l07Goes.l1 k1 l0 a1 x6_1 x7_1 (shl .i64 1 (ji4)) 0)) else (none)) = some (r1, r2) := by first | (rw [hji4] at H; exact H) | (simp only [hji4] at H ⊢; exact H)
    by_cases c5 : 0 ≤ (ji4)
    ·rw [if_pos c5] at H
     have c5b0 := eq_true c5
     have c5b1 : decide (0 ≤ (ji4)) = true := decide_eq_true c5
     clear c5
     obtain ⟨ji6, hji6⟩ : ∃ j_ : Int, (shl .i64 1 (ji4)) = j_ := ⟨_, rfl⟩
     replace H : (if (Go.bits .and .i64 a1 (ji6)) = 0 then (spec_l07Goes.l0 k1 l0 a1 x6_1 (wrap64 (x7_1 + 1))) else (spec_l07Goes.l1 k1 l0 a1 x6_1 x7_1 ji6 0)) = some (r1, r2) := by first | (rw [hji6] at H; exact H) | (simp only [hji6] at H ⊢; exact H)
     have hji6_ : (IntKind.i64.wrap (1 * 2 ^ min (ji4).toNat 64)) = ji6 := hji6
     have hji6z : (ji4) ≤ 64 → (IntKind.i64.wrap (1 * 2 ^ (ji4).toNat)) = ji6 := shl_small hji6
     have hji6u : (IntKind.i64.wrap (2 ^ min (ji4).toNat 64)) = ji6 := by have h_ := hji6_; rw [Int.one_mul] at h_; exact h_
     have hji6v : (ji4) ≤ 64 → (IntKind.i64.wrap (2 ^ (ji4).toNat)) = ji6 := fun hle_ => by have h_ := hji6z hle_; rw [Int.one_mul] at h_; exact h_
     have hji6y : (wrap64 (1 * 2 ^ min (ji4).toNat 64)) = ji6 := (i64_w _).symm.trans hji6_
     have hji6x : (ji4) ≤ 64 → (wrap64 (1 * 2 ^ (ji4).toNat)) = ji6 := fun h_ => (i64_w _).symm.trans (hji6z h_)
     by_cases c7 : (Go.bits .and .i64 a1 (ji6)) = 0
     ·rw [if_pos c7] at H
      have c7b0 : ((Go.bits .and .i64 a1 (ji6)) == 0) = true := beq_iff_eq.mpr c7
      have c7b1 : ((Go.bits .and .i64 a1 (ji6)) != 0) = false := bne_eq_false_iff_eq.mpr c7
      clear c7
      have H' := Aside0.mk H
      clear H
      go_wp2
      go_roundg k1
      case measure => have := HK1.out; omega
      case rel => exact ⟨(x6_1), (wrap64 (x7_1 + 1)), (by first | rfl | (simp; done) | (simp [*]; done)), (by first | rfl | (simp; done) | (simp [*]; done)), H', ⟨by have := HK1.out; omega⟩, by repeat (first | exact Drawn0.refl _ | apply Drawn0.step)⟩
     ·rw [if_neg c7] at H
      have c7b0 : ((Go.bits .and .i64 a1 (ji6)) == 0) = false := beq_eq_false_iff_ne.mpr c7
      have c7b1 : ((Go.bits .and .i64 a1 (ji6)) != 0) = true := bne_iff_ne.mpr c7
      have H' := Aside0.mk H
      clear H
      go_wp2
      go_loopg [6, 9] k1 (fun kq v6 v9 w' => ∃ (x6_2 : Int) (x9_2 : Int), v6 = .int .i64 x6_2 ∧ v9 = .int .i64 x9_2 ∧ Aside0 (spec_l07Goes.l1 kq l0 a1 x6_2 x7_1 ji6 x9_2 = some (r1, r2)) ∧ Aside0 (kq ≤ k1) ∧ Drawn0 w w')
      case atStart => exact ⟨(x6_1), (0), (by first | rfl | (simp; done) | (simp [*]; done)), (by first | rfl | (simp; done) | (simp [*]; done)), H', ⟨Nat.le_refl _⟩, by repeat (first | exact Drawn0.refl _ | apply Drawn0.step)⟩
      case round =>
       clear H'
       try clear c1
       try clear p2
       try clear c3
       try clear c3b0
       try clear c5
       try clear c5b0
       try clear c5b1
       try clear p6
       try clear c7
       try clear c7b0
       try clear c7b1
       try clear p2
       obtain ⟨x6_2, x9_2, rfl, rfl, HA, HK2, ⟨m2, rfl⟩⟩ := hrel
       cases gk with
       | zero => exact absurd HA.out (by simp [spec_l07Goes.l1])
       | succ k2 =>
        have H := HA.out
        clear HA
        simp only [spec_l07Goes.l1] at H
        by_cases c8 : x9_2 < (l0.length : Int)
        ·rw [if_pos c8] at H
         have c8b0 : decide (x9_2 < (l0.length : Int)) = true := decide_eq_true c8
         clear c8
         by_cases c9 : 0 ≤ x9_2
         ·rw [if_pos c9] at H
          have c9b0 : decide (0 ≤ x9_2) = true := decide_eq_true c9
          clear c9
          by_cases c10 : (Go.bits .and .i64 (rd l0 x9_2) (wrap64 (a1 - ji6))) = (wrap64 (a1 - ji6))
          ·rw [if_pos c10] at H
           have c10b0 : ((Go.bits .and .i64 (rd l0 x9_2) (wrap64 (a1 - ji6))) == (wrap64 (a1 - ji6))) = true := beq_iff_eq.mpr c10
           have c10b1 : ((Go.bits .and .i64 (rd l0 x9_2) (wrap64 (a1 - ji6))) != (wrap64 (a1 - ji6))) = false := bne_eq_false_iff_eq.mpr c10
           clear c10
           have H' := Aside0.mk H
           clear H
           have p607 : 0 ≤ (x9_2 : Int) := of_decide_eq_true (by first | (with_reducible assumption) | assumption)
           have q607 : x9_2 < (l0.length : Int) := of_decide_eq_true (by first | (with_reducible assumption) | assumption)
           obtain ⟨ad607, e607, hx607_0⟩ := Kd.at_int HR0.out x9_2 p607 q607
           cases e607
           replace p607 := eq_true p607
           replace q607 := eq_true q607
           go_wp2
           go_roundg k2
           case measure => have := HK1.out; have := HK2.out; omega
           case rel => exact ⟨(Go.bits .or .i64 x6_2 ji6), (wrap64 (x9_2 + 1)), (by first | rfl | (simp; done) | (simp only [← hji6] <;> (first | rfl | simp)) | (simp [*]; done)), (by first | rfl | (simp; done) | (simp [*]; done)), H', ⟨by have := HK1.out; have := HK2.out; omega⟩, by repeat (first | exact Drawn0.refl _ | apply Drawn0.step)⟩
          ·rw [if_neg c10] at H
           have c10b0 : ((Go.bits .and .i64 (rd l0 x9_2) (wrap64 (a1 - ji6))) == (wrap64 (a1 - ji6))) = false := beq_eq_false_iff_ne.mpr c10
           have c10b1 : ((Go.bits .and .i64 (rd l0 x9_2) (wrap64 (a1 - ji6))) != (wrap64 (a1 - ji6))) = true := bne_iff_ne.mpr c10
           have H' := Aside0.mk H
           clear H
           have p607 : 0 ≤ (x9_2 : Int) := of_decide_eq_true (by first | (with_reducible assumption) | assumption)
           have q607 : x9_2 < (l0.length : Int) := of_decide_eq_true (by first | (with_reducible assumption) | assumption)
           obtain ⟨ad607, e607, hx607_0⟩ := Kd.at_int HR0.out x9_2 p607 q607
           cases e607
           replace p607 := eq_true p607
           replace q607 := eq_true q607
           go_wp2
           go_roundg k2
           case measure => have := HK1.out; have := HK2.out; omega
           case rel => exact ⟨(x6_2), (wrap64 (x9_2 + 1)), (by first | rfl | (simp; done) | (simp [*]; done)), (by first | rfl | (simp; done) | (simp [*]; done)), H', ⟨by have := HK1.out; have := HK2.out; omega⟩, by repeat (first | exact Drawn0.refl _ | apply Drawn0.step)⟩
         ·rw [if_neg c9] at H
          exact absurd H (by simp)
        ·rw [if_neg c8] at H
         have c8b0 : decide (x9_2 < (l0.length : Int)) = false := decide_eq_false c8
         clear c8
         have H' := Aside0.mk H
         clear H
         go_wp2
         go_roundg k2
         case measure => have := HK1.out; have := HK2.out; omega
         case rel => exact ⟨(x6_2), (wrap64 (x7_1 + 1)), (by first | rfl | (simp; done) | (simp [*]; done)), (by first | rfl | (simp; done) | (simp [*]; done)), H', ⟨by have := HK1.out; have := HK2.out; omega⟩, by repeat (first | exact Drawn0.refl _ | apply Drawn0.step)⟩
    ·rw [if_neg c5] at H
     exact absurd H (by simp)
   ·rw [if_neg c3] at H
    have c3b0 : decide (x7_1 < 6) = false := decide_eq_false c3
    clear c3
    have H' := Aside0.mk H
    clear H
    go_wp2
    go_loopg [10] k1 (fun kq v10 w' => ∃ (x10_2 : Int), v10 = .int .i64 x10_2 ∧ Aside0 (spec_l07Goes.l2 kq l0 x6_1 x10_2 = some (r1, r2)) ∧ Aside0 (kq ≤ k1) ∧ Drawn0 w w')
    case atStart => exact ⟨(0), (by first | rfl | (simp; done) | (simp [*]; done)), H', ⟨Nat.le_refl _⟩, by repeat (first | exact Drawn0.refl _ | apply Drawn0.step)⟩
    case round =>
     clear H'
     try clear c1
     try clear p2
     try clear c3
     try clear c3b0
     try clear c5
     try clear c5b0
     try clear c5b1
     try clear p6
     try clear q6
     try clear hx6
     try clear c7
     try clear c7b0
     try clear c7b1
     try clear c8
     try clear c8b0
     try clear c9
     try clear c9b0
     try clear c10
     try clear c10b0
     try clear c10b1
     try clear hx607_0
     try clear p2
     try clear p6
     try clear p607
     try clear q607
     obtain ⟨x10_2, rfl, HA, HK2, ⟨m2, rfl⟩⟩ := hrel
     cases gk with
     | zero => exact absurd HA.out (by simp [spec_l07Goes.l2])
     | succ k2 =>
      have H := HA.out
      clear HA
      simp only [spec_l07Goes.l2] at H
      by_cases c11 : x10_2 < (l0.length : Int)
      ·rw [if_pos c11] at H
       have c11b0 : decide (x10_2 < (l0.length : Int)) = true := decide_eq_true c11
       clear c11
       by_cases c12 : 0 ≤ x10_2
       ·rw [if_pos c12] at H
        have c12b0 : decide (0 ≤ x10_2) = true := decide_eq_true c12
        clear c12
        by_cases c13 : (Go.bits .and .i64 (rd l0 x10_2) x6_1) = x6_1
        ·rw [if_pos c13] at H
         have c13b0 : ((Go.bits .and .i64 (rd l0 x10_2) x6_1) == x6_1) = true := beq_iff_eq.mpr c13
         have c13b1 : ((Go.bits .and .i64 (rd l0 x10_2) x6_1) != x6_1) = false := bne_eq_false_iff_eq.mpr c13
         clear c13
         simp only [Option.some.injEq, Prod.mk.injEq] at H
         obtain ⟨rfl, rfl⟩ := H
         have p608 : 0 ≤ (x10_2 : Int) := of_decide_eq_true (by first | (with_reducible assumption) | assumption)
         have q608 : x10_2 < (l0.length : Int) := of_decide_eq_true (by first | (with_reducible assumption) | assumption)
         obtain ⟨ad608, e608, hx608_0⟩ := Kd.at_int HR0.out x10_2 p608 q608
         cases e608
         replace p608 := eq_true p608
         replace q608 := eq_true q608
         go_wp2
         go_ret2
         exact ⟨by first | rfl | (simp; done) | (simp [*]; done), by repeat (first | exact Drawn0.refl _ | apply Drawn0.step)⟩
        ·rw [if_neg c13] at H
         have c13b0 : ((Go.bits .and .i64 (rd l0 x10_2) x6_1) == x6_1) = false := beq_eq_false_iff_ne.mpr c13
         have c13b1 : ((Go.bits .and .i64 (rd l0 x10_2) x6_1) != x6_1) = true := bne_iff_ne.mpr c13
         have H' := Aside0.mk H
         clear H
         have p608 : 0 ≤ (x10_2 : Int) := of_decide_eq_true (by first | (with_reducible assumption) | assumption)
         have q608 : x10_2 < (l0.length : Int) := of_decide_eq_true (by first | (with_reducible assumption) | assumption)
         obtain ⟨ad608, e608, hx608_0⟩ := Kd.at_int HR0.out x10_2 p608 q608
         cases e608
         replace p608 := eq_true p608
         replace q608 := eq_true q608
         go_wp2
         go_roundg k2
         case measure => have := HK1.out; have := HK2.out; omega
         case rel => exact ⟨(wrap64 (x10_2 + 1)), (by first | rfl | (simp; done) | (simp [*]; done)), H', ⟨by have := HK1.out; have := HK2.out; omega⟩, by repeat (first | exact Drawn0.refl _ | apply Drawn0.step)⟩
       ·rw [if_neg c12] at H
        exact absurd H (by simp)
      ·rw [if_neg c11] at H
       have c11b0 : decide (x10_2 < (l0.length : Int)) = false := decide_eq_false c11
       clear c11
       simp only [Option.some.injEq, Prod.mk.injEq] at H
       obtain ⟨rfl, rfl⟩ := H
       go_wp2
       go_ret2
       exact ⟨by first | rfl | (simp; done) | (simp [*]; done), by repeat (first | exact Drawn0.refl _ | apply Drawn0.step)⟩
end Go.Proofs.Ytomdfjohnmikdaa.QS
namespace Go.Proofs.Ytomdfjohnmikdaa.Pu
set_option linter.unusedVariables false
set_option linter.unusedSimpArgs false
open Go.RowKit Go.Proofs.Ytomdfjohnmikdaa.Ext Go.Proofs.Ytomdfjohnmikdaa.QS Go.Proofs.Ytomdfjohnmikdaa.Im Go.Proofs.YtomdfjohnmikdaaW.PrintWords Go.Proofs.YtomdfjohnmikdaaW.PrintLast Go.Proofs.YtomdfjohnmikdaaW.PrintMore
abbrev aI (x y : Int) : Int := Go.bits .and .i64 x y
abbrev nI (x y : Int) : Int := Go.bits .andNot .i64 x y
abbrev oI (x y : Int) : Int := Go.bits .or .i64 x y
def stepV (before : List Int) (f : Int) (R : Int) (v : Nat) : Int := if aI f (2 ^ v) = 0 then R else before.foldl (fun R b => if aI b (wrap64 (f - 2 ^ v)) = wrap64 (f - 2 ^ v) then oI R (2 ^ v) else R) R
def restr (before : List Int) (f : Int) : Int := (List.range 6).foldl (stepV before f) 0
def goesB (before : List Int) (f : Int) : Bool × Int := (!(before.any fun b => aI b (restr before f) == restr before f), restr before f)
theorem shl_v {v : Nat} (h : v < 6) : 0 ≤ IntKind.u64.wrap (v : Int) ∧ shl .i64 1 (IntKind.u64.wrap (v : Int)) = 2 ^ v := by
  obtain rfl | rfl | rfl | rfl | rfl | rfl : v = 0 ∨ v = 1 ∨ v = 2 ∨ v = 3 ∨ v = 4 ∨ v = 5 := by omega
  all_goals decide +kernel
theorem goes_l2 {before : List Int} (hl : before.length ≤ 1048576) (R : Int) : ∀ d (i : Nat), before.length - i = d → i ≤ before.length → Ev (fun k => spec_l07Goes.l2 k before R (i : Int)) (!((before.drop i).any fun b => aI b R == R), R) := by
  intro d
  induction d with
  | zero =>
    intro i hd hi
    rw [List.drop_eq_nil_of_le (by omega)]
    refine Ev.step (f := fun k => some (true, R)) (fun k => ?_) (Ev.now _)
    simp only [spec_l07Goes.l2]; rw [if_neg (by omega)]
  | succ d ih =>
    intro i hd hi
    have hi' : i < before.length := by omega
    rw [List.drop_eq_getElem_cons hi', List.any_cons]
    by_cases h : aI before[i] R = R
    · rw [show (aI before[i] R == R) = true from beq_iff_eq.2 h, Bool.true_or]
      refine Ev.step (f := fun k => some (false, R)) (fun k => ?_) (Ev.now _)
      simp only [spec_l07Goes.l2]
      rw [if_pos (by omega), if_pos (by omega), rd_at hi', if_pos h]
    · rw [show (aI before[i] R == R) = false from beq_eq_false_iff_ne.2 h, Bool.false_or]
      refine Ev.step (fun k => ?_) (ih (i + 1) (by omega) (by omega))
      simp only [spec_l07Goes.l2]
      rw [if_pos (by omega), if_pos (by omega), rd_at hi', if_neg h, show wrap64 ((i : Int) + 1) = ((i + 1 : Nat) : Int) by rw [w64 (by omega) (by omega)]; omega]
theorem goes_l1 {before : List Int} (hl : before.length ≤ 1048576) (f : Int) {v : Nat} (hv : v < 6) (D : Bool × Int) : ∀ d (i : Nat) (R : Int), before.length - i = d → i ≤ before.length →
    Ev (fun k => spec_l07Goes.l0 k before f ((before.drop i).foldl (fun R b => if aI b (wrap64 (f - 2 ^ v)) = wrap64 (f - 2 ^ v) then oI R (2 ^ v) else R) R) ((v + 1 : Nat) : Int)) D →
    Ev (fun k => spec_l07Goes.l1 k before f R (v : Int) (2 ^ v) (i : Int)) D := by
  intro d
  induction d with
  | zero =>
    intro i R hd hi hR
    rw [List.drop_eq_nil_of_le (by omega)] at hR
    refine Ev.step (fun k => ?_) hR
    simp only [spec_l07Goes.l1]
    rw [if_neg (by omega), show wrap64 ((v : Int) + 1) = ((v + 1 : Nat) : Int) by rw [w64 (by omega) (by omega)]; omega]
    rfl
  | succ d ih =>
    intro i R hd hi hR
    have hi' : i < before.length := by omega
    rw [List.drop_eq_getElem_cons hi', List.foldl_cons] at hR
    by_cases h : aI before[i] (wrap64 (f - 2 ^ v)) = wrap64 (f - 2 ^ v)
    · rw [if_pos h] at hR
      refine Ev.step (fun k => ?_) (ih (i + 1) _ (by omega) (by omega) hR)
      simp only [spec_l07Goes.l1]
      rw [if_pos (by omega), if_pos (by omega), rd_at hi', if_pos h, show wrap64 ((i : Int) + 1) = ((i + 1 : Nat) : Int) by rw [w64 (by omega) (by omega)]; omega]
    · rw [if_neg h] at hR
      refine Ev.step (fun k => ?_) (ih (i + 1) _ (by omega) (by omega) hR)
      simp only [spec_l07Goes.l1]
      rw [if_pos (by omega), if_pos (by omega), rd_at hi', if_neg h, show wrap64 ((i : Int) + 1) = ((i + 1 : Nat) : Int) by rw [w64 (by omega) (by omega)]; omega]
theorem goes_l0 {before : List Int} (hl : before.length ≤ 1048576) (f : Int) : ∀ d (v : Nat) (R : Int), 6 - v = d → v ≤ 6 → (List.range' v (6 - v)).foldl (stepV before f) R = restr before f → Ev (fun k => spec_l07Goes.l0 k before f R (v : Int)) (goesB before f) := by
  intro d
  induction d with
  | zero =>
    intro v R hd hv hR
    obtain rfl : v = 6 := by omega
    have hR' : R = restr before f := hR
    subst hR'
    refine Ev.step (fun k => ?_) (goes_l2 hl (restr before f) _ 0 rfl (Nat.zero_le _))
    simp only [spec_l07Goes.l0]
    rw [if_neg (by omega)]
    rfl
  | succ d ih =>
    intro v R hd hv hR
    have hv' : v < 6 := by omega
    obtain ⟨h1, h2⟩ := shl_v hv'
    rw [show 6 - v = (6 - (v + 1)) + 1 by omega, List.range'_succ, List.foldl_cons] at hR
    have hih := ih (v + 1) (stepV before f R v) (by omega) (by omega) hR
    by_cases h : aI f (2 ^ v) = 0
    · rw [show stepV before f R v = R by unfold stepV; rw [if_pos h]] at hih
      refine Ev.step (fun k => ?_) hih
      simp only [spec_l07Goes.l0]
      rw [if_pos (by omega), if_pos h1, h2, if_pos h, show wrap64 ((v : Int) + 1) = ((v + 1 : Nat) : Int) by rw [w64 (by omega) (by omega)]; omega]
    · rw [show stepV before f R v = before.foldl (fun R b => if aI b (wrap64 (f - 2 ^ v)) = wrap64 (f - 2 ^ v) then oI R (2 ^ v) else R) R by unfold stepV; rw [if_neg h]] at hih
      refine Ev.step (fun k => ?_) (goes_l1 hl f hv' _ _ 0 R rfl (Nat.zero_le _) (by rw [List.drop_zero]; exact hih))
      simp only [spec_l07Goes.l0]
      rw [if_pos (by omega), if_pos h1, h2, if_neg h]
      rfl
theorem ev_goes {before : List Int} (hl : before.length ≤ 1048576) (f : Int) : Ev (fun k => spec_l07Goes.f k before f) (goesB before f) := by
  unfold spec_l07Goes.f
  exact goes_l0 hl f _ 0 0 rfl (Nat.zero_le _) (by rw [restr, List.range_eq_range'])
def wallsN (before : List Int) (f : Int) : List Int := (before.filter fun h => onesZ (aI f h) == onesZ f - 1).map fun h => aI f h
def nextB (before : List Int) (f : Int) : Bool := before.all fun g => (wallsN before f).any fun w => nI (aI f g) w == 0
theorem and_rng_all : ((List.range 64).all fun f => (List.range 64).all fun g => decide (0 ≤ aI (f : Int) (g : Int)) && decide (aI (f : Int) (g : Int) ≤ 63)) = true := by decide +kernel
theorem and_rng {f g : Int} (h1 : 0 ≤ f ∧ f ≤ 63) (h2 : 0 ≤ g ∧ g ≤ 63) : 0 ≤ aI f g ∧ aI f g ≤ 63 := by
  obtain ⟨a, rfl⟩ := Int.eq_ofNat_of_zero_le h1.1
  obtain ⟨b, rfl⟩ := Int.eq_ofNat_of_zero_le h2.1
  have h := List.all_eq_true.1 (List.all_eq_true.1 and_rng_all a (List.mem_range.2 (by omega))) b (List.mem_range.2 (by omega))
  simpa using h
theorem sizeH_eq {x : Int} (h0 : 0 ≤ x) (h6 : x ≤ 63) : QH.impl_size.f x = some (onesZ x) := size_eq h0 h6
theorem okDomN {l : List Int} (h : ∀ x ∈ l, 0 ≤ x ∧ x ≤ 63) (a : Pred) : okDom a l = true := by
  rw [okDom, Bool.or_eq_true]
  refine .inr (List.all_eq_true.2 fun x hx => ?_)
  have := h x hx
  simp; omega
theorem walls_rng {before : List Int} {f : Int} (hf : 0 ≤ f ∧ f ≤ 63) (hb : ∀ x ∈ before, 0 ≤ x ∧ x ≤ 63) : ∀ x ∈ wallsN before f, 0 ≤ x ∧ x ≤ 63 := by
  intro x hx
  unfold wallsN at hx
  obtain ⟨h, hh, rfl⟩ := List.mem_map.1 hx
  exact and_rng hf (hb h (List.mem_filter.1 hh).1)
theorem any_congr_mem {α : Type} {p q : α → Bool} {l : List α} (h : ∀ x ∈ l, p x = q x) : l.any p = l.any q := by
  induction l with
  | nil => rfl
  | cons a l ih => rw [List.any_cons, List.any_cons, h a (by simp), ih (fun x hx => h x (by simp [hx]))]
theorem all_congr_mem' {α : Type} {p q : α → Bool} {l : List α} (h : ∀ x ∈ l, p x = q x) : l.all p = l.all q := by
  induction l with
  | nil => rfl
  | cons a l ih => rw [List.all_cons, List.all_cons, h a (by simp), ih (fun x hx => h x (by simp [hx]))]
theorem next_end {before : List Int} (hl : before.length ≤ 1048576) {f : Int} (hf : 0 ≤ f ∧ f ≤ 63) (hb : ∀ x ∈ before, 0 ≤ x ∧ x ≤ 63) : impl_areAll_int64.f before (QH.clo_137 (wallsN before f) f) = some (nextB before f) := by
  have hwl : (wallsN before f).length ≤ before.length := by unfold wallsN; rw [List.length_map]; exact List.length_filter_le _ _
  obtain ⟨s1, _, p1⟩ := ofI_face (f := fun x => QH.impl_isNext_1.f x (wallsN before f) f) (p := fun g => (wallsN before f).any fun w => nI (aI f g) w == 0) fun g h0 h6 => by
    obtain ⟨t1, _, q1⟩ := ofI_face (f := fun x => QH.impl_isNext_1_1.f x f g) (p := fun w => nI (aI f g) w == 0) fun w g0 g6 => by
      unfold QH.impl_isNext_1_1.f impl_isIn.f
      rw [if_pos trivial]; rfl
    unfold QH.impl_isNext_1.f slices_ContainsFunc_int64_int64.f
    rw [if_pos ⟨by omega, t1, okDomN (walls_rng hf hb) _⟩, Option.bind_some]
    exact congrArg some (any_congr_mem fun w hw => q1 w (walls_rng hf hb w hw).1 (walls_rng hf hb w hw).2)
  unfold impl_areAll_int64.f
  rw [if_pos ⟨by omega, s1, okDomN hb _⟩]
  exact congrArg some (all_congr_mem' fun g hg => p1 g (hb g hg).1 (hb g hg).2)
theorem next_loop {before : List Int} (hl : before.length ≤ 1048576) {f : Int} (hf : 0 ≤ f ∧ f ≤ 63) (hb : ∀ x ∈ before, 0 ≤ x ∧ x ≤ 63) : ∀ d (i : Nat), before.length - i = d → i ≤ before.length → Ev (fun k => QH.impl_isNext.l0 k before before (before.length : Int) (i : Int) f (wallsN (before.take i) f)) (nextB before f) := by
  intro d
  induction d with
  | zero =>
    intro i hd hi
    rw [List.take_of_length_le (by omega)]
    refine Ev.step (f := fun k => some (nextB before f)) (fun k => ?_) (Ev.now _)
    simp only [QH.impl_isNext.l0]
    rw [if_neg (by omega), next_end hl hf hb, Option.bind_some]
  | succ d ih =>
    intro i hd hi
    have hi' : i < before.length := by omega
    have hbi := hb _ (List.getElem_mem hi')
    have hr := and_rng hf hbi
    have ho : wrap64 (onesZ f - 1) = onesZ f - 1 := by
      have : (verts f).length ≤ 6 := verts_len f
      have h0 : 0 ≤ onesZ f := by unfold onesZ; omega
      have h6 : onesZ f ≤ 6 := by unfold onesZ; omega
      exact w64 (by omega) (by omega)
    have hih := ih (i + 1) (by omega) (by omega)
    have hwl : (wallsN (before.take i) f).length ≤ (before.take i).length := by unfold wallsN; rw [List.length_map]; exact List.length_filter_le _ _
    rw [List.length_take] at hwl
    have hw : wallsN (before.take (i + 1)) f = wallsN (before.take i) f ++ (if onesZ (aI f before[i]) = onesZ f - 1 then [aI f before[i]] else []) := by
      unfold wallsN
      rw [List.take_succ_eq_append_getElem hi', List.filter_append, List.map_append]
      congr 1
      by_cases h : onesZ (aI f before[i]) = onesZ f - 1
      · rw [if_pos h, List.filter_cons_of_pos (by simpa using h)]; rfl
      · rw [if_neg h, List.filter_cons_of_neg (by simpa using h)]; rfl
    rw [hw] at hih
    by_cases h : onesZ (aI f before[i]) = onesZ f - 1
    · rw [if_pos h] at hih
      refine Ev.step (fun k => ?_) hih
      simp only [QH.impl_isNext.l0]
      rw [if_pos (by omega), if_pos (by omega), if_pos (by omega), rd_at hi', sizeH_eq hr.1 hr.2, Option.bind_some, sizeH_eq hf.1 hf.2, Option.bind_some, ho, if_pos h, if_pos (by omega), show wrap64 ((i : Int) + 1) = ((i + 1 : Nat) : Int) by rw [w64 (by omega) (by omega)]; omega]
    · rw [if_neg h, List.append_nil] at hih
      refine Ev.step (fun k => ?_) hih
      simp only [QH.impl_isNext.l0]
      rw [if_pos (by omega), if_pos (by omega), if_pos (by omega), rd_at hi', sizeH_eq hr.1 hr.2, Option.bind_some, sizeH_eq hf.1 hf.2, Option.bind_some, ho, if_neg h, show wrap64 ((i : Int) + 1) = ((i + 1 : Nat) : Int) by rw [w64 (by omega) (by omega)]; omega]
theorem ev_next {before : List Int} (hl : before.length ≤ 1048576) {f : Int} (hf : 0 ≤ f ∧ f ≤ 63) (hb : ∀ x ∈ before, 0 ≤ x ∧ x ≤ 63) : Ev (fun k => QH.impl_isNext.f k before f) (nextB before f) := by
  unfold QH.impl_isNext.f
  exact next_loop hl hf hb _ 0 rfl (Nat.zero_le _)
def hv (x : Int) (v : Nat) : Bool := bitB x v
theorem fa_all : ((List.range 64).all fun f => (List.range 6).all fun v => (decide (aI (f : Int) (2 ^ v) = 0) == !(hv (f : Int) v)) && (!(hv (f : Int) v) || (wrap64 ((f : Int) - 2 ^ v) == (f : Int) - 2 ^ v && decide (0 ≤ (f : Int) - 2 ^ v)))) = true := by decide +kernel
theorem fb_all : ((List.range 64).all fun f => (List.range 6).all fun v => !(hv (f : Int) v) || (List.range 64).all fun b => decide (aI (b : Int) ((f : Int) - 2 ^ v) = (f : Int) - 2 ^ v) == (decide (aI (f : Int) (b : Int) = (f : Int) - 2 ^ v) || decide (aI (f : Int) (b : Int) = (f : Int)))) = true := by decide +kernel
theorem fc_all : ((List.range 64).all fun f => (List.range 6).all fun v => !(hv (f : Int) v) || (List.range 64).all fun g => (nI (aI (f : Int) (g : Int)) ((f : Int) - 2 ^ v) == 0) == !(hv (g : Int) v)) = true := by decide +kernel
theorem fd_all : ((List.range 64).all fun f => (List.range 64).all fun h => (onesZ (aI (f : Int) (h : Int)) == onesZ (f : Int) - 1) == (List.range 6).any fun v => hv (f : Int) v && decide (aI (f : Int) (h : Int) = (f : Int) - 2 ^ v)) = true := by decide +kernel
theorem ff_all : ((List.range 64).all fun R => (List.range 6).all fun u => decide (0 ≤ oI (R : Int) (2 ^ u)) && decide (oI (R : Int) (2 ^ u) ≤ 63) && (List.range 6).all fun v => hv (oI (R : Int) (2 ^ u)) v == (hv (R : Int) v || v == u)) = true := by decide +kernel
theorem fg_all : ((List.range 64).all fun g => (List.range 64).all fun R => (aI (g : Int) (R : Int) == (R : Int)) == (List.range 6).all fun v => !(hv (R : Int) v) || hv (g : Int) v) = true := by decide +kernel
theorem fh_all : ((List.range 64).all fun f => (List.range 64).all fun b => (aI (f : Int) (b : Int) == (f : Int)) == (List.range 6).all fun v => !(hv (f : Int) v) || hv (b : Int) v) = true := by decide +kernel
theorem fz_all : ((List.range 6).all fun v => !(hv 0 v)) = true := by decide +kernel
section
variable {f g b R : Int} {v u : Nat}
theorem nat_of {x : Int} (h : 0 ≤ x ∧ x ≤ 63) : ∃ a : Nat, x = (a : Int) ∧ a < 64 := by
  obtain ⟨a, rfl⟩ := Int.eq_ofNat_of_zero_le h.1
  exact ⟨a, rfl, by omega⟩
theorem fa (hf : 0 ≤ f ∧ f ≤ 63) (hv' : v < 6) : (aI f (2 ^ v) = 0 ↔ hv f v = false) ∧ (hv f v = true → wrap64 (f - 2 ^ v) = f - 2 ^ v) := by
  obtain ⟨a, rfl, ha⟩ := nat_of hf
  have h := List.all_eq_true.1 (List.all_eq_true.1 fa_all a (List.mem_range.2 ha)) v (List.mem_range.2 hv')
  rw [Bool.and_eq_true] at h
  refine ⟨?_, fun h1 => ?_⟩
  · have h2 := eq_of_beq h.1
    cases hz : hv (a : Int) v with
    | true => rw [hz] at h2; exact ⟨fun h3 => (by rw [decide_eq_true h3] at h2; exact absurd h2 (by decide)), fun h3 => (by cases h3)⟩
    | false => rw [hz] at h2; exact ⟨fun _ => rfl, fun _ => of_decide_eq_true h2⟩
  · have h2 := h.2
    rw [h1] at h2
    simp only [Bool.not_true, Bool.false_or, Bool.and_eq_true] at h2
    exact eq_of_beq h2.1
theorem fb (hf : 0 ≤ f ∧ f ≤ 63) (hb : 0 ≤ b ∧ b ≤ 63) (hv' : v < 6) (h1 : hv f v = true) : aI b (f - 2 ^ v) = f - 2 ^ v ↔ (aI f b = f - 2 ^ v ∨ aI f b = f) := by
  obtain ⟨a, rfl, ha⟩ := nat_of hf
  obtain ⟨c, rfl, hc⟩ := nat_of hb
  have h := List.all_eq_true.1 (List.all_eq_true.1 fb_all a (List.mem_range.2 ha)) v (List.mem_range.2 hv')
  rw [h1, Bool.not_true, Bool.false_or] at h
  have h2 := eq_of_beq (List.all_eq_true.1 h c (List.mem_range.2 hc))
  rw [Bool.eq_iff_iff] at h2
  simpa using h2
theorem fc (hf : 0 ≤ f ∧ f ≤ 63) (hg : 0 ≤ g ∧ g ≤ 63) (hv' : v < 6) (h1 : hv f v = true) : (nI (aI f g) (f - 2 ^ v) == 0) = !(hv g v) := by
  obtain ⟨a, rfl, ha⟩ := nat_of hf
  obtain ⟨c, rfl, hc⟩ := nat_of hg
  have h := List.all_eq_true.1 (List.all_eq_true.1 fc_all a (List.mem_range.2 ha)) v (List.mem_range.2 hv')
  rw [h1, Bool.not_true, Bool.false_or] at h
  exact eq_of_beq (List.all_eq_true.1 h c (List.mem_range.2 hc))
theorem fd (hf : 0 ≤ f ∧ f ≤ 63) (hg : 0 ≤ g ∧ g ≤ 63) : onesZ (aI f g) = onesZ f - 1 ↔ ∃ v, v < 6 ∧ hv f v = true ∧ aI f g = f - 2 ^ v := by
  obtain ⟨a, rfl, ha⟩ := nat_of hf
  obtain ⟨c, rfl, hc⟩ := nat_of hg
  have h := eq_of_beq (List.all_eq_true.1 (List.all_eq_true.1 fd_all a (List.mem_range.2 ha)) c (List.mem_range.2 hc))
  rw [Bool.eq_iff_iff, beq_iff_eq, List.any_eq_true] at h
  rw [h]
  refine ⟨fun ⟨v, hv', h2⟩ => ?_, fun ⟨v, hv', h2, h3⟩ => ⟨v, List.mem_range.2 hv', ?_⟩⟩
  · rw [Bool.and_eq_true] at h2
    exact ⟨v, List.mem_range.1 hv', h2.1, of_decide_eq_true h2.2⟩
  · rw [h2, decide_eq_true h3]; rfl
theorem ff (hR : 0 ≤ R ∧ R ≤ 63) (hu : u < 6) : (0 ≤ oI R (2 ^ u) ∧ oI R (2 ^ u) ≤ 63) ∧ ∀ v, v < 6 → hv (oI R (2 ^ u)) v = (hv R v || v == u) := by
  obtain ⟨a, rfl, ha⟩ := nat_of hR
  have h := List.all_eq_true.1 (List.all_eq_true.1 ff_all a (List.mem_range.2 ha)) u (List.mem_range.2 hu)
  rw [Bool.and_eq_true, Bool.and_eq_true] at h
  exact ⟨⟨of_decide_eq_true h.1.1, of_decide_eq_true h.1.2⟩, fun v hv' => eq_of_beq (List.all_eq_true.1 h.2 v (List.mem_range.2 hv'))⟩
theorem fg (hg : 0 ≤ g ∧ g ≤ 63) (hR : 0 ≤ R ∧ R ≤ 63) : (aI g R == R) = (List.range 6).all fun v => !(hv R v) || hv g v := by
  obtain ⟨a, rfl, ha⟩ := nat_of hg
  obtain ⟨c, rfl, hc⟩ := nat_of hR
  exact eq_of_beq (List.all_eq_true.1 (List.all_eq_true.1 fg_all a (List.mem_range.2 ha)) c (List.mem_range.2 hc))
theorem fh (hf : 0 ≤ f ∧ f ≤ 63) (hb : 0 ≤ b ∧ b ≤ 63) : (aI f b == f) = (List.range 6).all fun v => !(hv f v) || hv b v := by
  obtain ⟨a, rfl, ha⟩ := nat_of hf
  obtain ⟨c, rfl, hc⟩ := nat_of hb
  exact eq_of_beq (List.all_eq_true.1 (List.all_eq_true.1 fh_all a (List.mem_range.2 ha)) c (List.mem_range.2 hc))
end
/-- Whether a vertex is in the restriction. -/
def inR (before : List Int) (f : Int) (v : Nat) : Bool := hv f v && before.any fun b => decide (aI b (f - 2 ^ v) = f - 2 ^ v)
theorem fold_or {f : Int} {v : Nat} (hv' : v < 6) (t : Int → Prop) [DecidablePred t] : ∀ (l : List Int) (R : Int), 0 ≤ R ∧ R ≤ 63 → (0 ≤ l.foldl (fun R b => if t b then oI R (2 ^ v) else R) R ∧ l.foldl (fun R b => if t b then oI R (2 ^ v) else R) R ≤ 63) ∧ ∀ u, u < 6 → hv (l.foldl (fun R b => if t b then oI R (2 ^ v) else R) R) u = (hv R u || (u == v && l.any fun b => decide (t b)))
  | [], R, hR => ⟨hR, fun u _ => by simp⟩
  | b :: l, R, hR => by
    rw [List.foldl_cons]
    by_cases h : t b
    · rw [if_pos h]
      obtain ⟨h1, h2⟩ := ff hR hv'
      obtain ⟨h3, h4⟩ := fold_or (f := f) hv' t l _ h1
      refine ⟨h3, fun u hu => ?_⟩
      rw [h4 u hu, h2 u hu, List.any_cons, decide_eq_true h, Bool.true_or, Bool.and_true]
      cases hv R u <;> cases hz : (u == v) <;> simp
    · rw [if_neg h]
      obtain ⟨h3, h4⟩ := fold_or (f := f) hv' t l R hR
      refine ⟨h3, fun u hu => ?_⟩
      rw [h4 u hu, List.any_cons, decide_eq_false h, Bool.false_or]
theorem restr_bits {before : List Int} {f : Int} (hf : 0 ≤ f ∧ f ≤ 63) : (0 ≤ restr before f ∧ restr before f ≤ 63) ∧ ∀ u, u < 6 → hv (restr before f) u = inR before f u := by
  have key : ∀ m, m ≤ 6 → (0 ≤ (List.range m).foldl (stepV before f) 0 ∧ (List.range m).foldl (stepV before f) 0 ≤ 63) ∧ ∀ u, u < 6 → hv ((List.range m).foldl (stepV before f) 0) u = (decide (u < m) && inR before f u) := by
    intro m
    induction m with
    | zero =>
      intro _
      refine ⟨⟨by simp, by simp⟩, fun u hu => ?_⟩
      have := List.all_eq_true.1 fz_all u (List.mem_range.2 hu)
      simp only [List.range_zero, List.foldl_nil]
      simpa using this
    | succ m ih =>
      intro hm
      obtain ⟨h1, h2⟩ := ih (by omega)
      rw [List.range_succ, List.foldl_append, List.foldl_cons, List.foldl_nil]
      generalize (List.range m).foldl (stepV before f) 0 = R at h1 h2
      obtain ⟨a1, a2⟩ := fa hf (v := m) (by omega)
      unfold stepV
      by_cases hz : hv f m = true
      · have hne : ¬ aI f (2 ^ m) = 0 := fun h => by rw [a1.1 h] at hz; cases hz
        rw [if_neg hne, a2 hz]
        obtain ⟨h3, h4⟩ := fold_or (f := f) (v := m) (by omega) (fun b => aI b (f - 2 ^ m) = f - 2 ^ m) before R h1
        refine ⟨h3, fun u hu => ?_⟩
        rw [h4 u hu, h2 u hu]
        by_cases hum : u = m
        · subst hum
          simp [inR, hz]
        · have e1 : (u == m) = false := by simpa using hum
          have e2 : decide (u < m + 1) = decide (u < m) := by rw [decide_eq_decide]; omega
          rw [e1, e2, Bool.false_and, Bool.or_false]
      · have hzf : hv f m = false := by simpa using hz
        rw [if_pos (a1.2 hzf)]
        refine ⟨h1, fun u hu => ?_⟩
        rw [h2 u hu]
        by_cases hum : u = m
        · subst hum
          simp [inR, hzf]
        · have e2 : decide (u < m + 1) = decide (u < m) := by rw [decide_eq_decide]; omega
          rw [e2]
  obtain ⟨h1, h2⟩ := key 6 (Nat.le_refl _)
  exact ⟨h1, fun u hu => by rw [show restr before f = (List.range 6).foldl (stepV before f) 0 from rfl, h2 u hu, decide_eq_true hu, Bool.true_and]⟩
theorem goes_next {before : List Int} {f : Int} (hf : 0 ≤ f ∧ f ≤ 63) (hb : ∀ x ∈ before, 0 ≤ x ∧ x ≤ 63) : (goesB before f).1 = nextB before f := by
  obtain ⟨r1, r2⟩ := restr_bits (before := before) hf
  have hany : ∀ g, (0 ≤ g ∧ g ≤ 63) → ((aI g (restr before f) == restr before f) = true ↔ ∀ v, v < 6 → inR before f v = true → hv g v = true) := fun g hg => by
    rw [fg hg r1, List.all_eq_true]
    refine ⟨fun h v hv' h1 => ?_, fun h v hv' => ?_⟩
    · have := h v (List.mem_range.2 hv')
      rw [r2 v hv', h1] at this
      simpa using this
    · have hv'' := List.mem_range.1 hv'
      rw [r2 v hv'']
      cases hi : inR before f v with
      | false => rfl
      | true => rw [h v hv'' hi]; rfl
  have hwall : ∀ g, (0 ≤ g ∧ g ≤ 63) → ((wallsN before f).any (fun w => nI (aI f g) w == 0) = true ↔ ∃ v, v < 6 ∧ hv f v = true ∧ (∃ h ∈ before, aI f h = f - 2 ^ v) ∧ hv g v = false) := fun g hg => by
    rw [List.any_eq_true]
    unfold wallsN
    refine ⟨fun ⟨w, hw, h1⟩ => ?_, fun ⟨v, hv', h1, ⟨h, hh, h2⟩, h3⟩ => ⟨aI f h, List.mem_map.2 ⟨h, List.mem_filter.2 ⟨hh, ?_⟩, rfl⟩, ?_⟩⟩
    · obtain ⟨h, hh, rfl⟩ := List.mem_map.1 hw
      obtain ⟨hh1, hh2⟩ := List.mem_filter.1 hh
      obtain ⟨v, hv', g1, g2⟩ := (fd hf (hb h hh1)).1 (eq_of_beq hh2)
      rw [g2, fc hf hg hv' g1] at h1
      exact ⟨v, hv', g1, ⟨h, hh1, g2⟩, by simpa using h1⟩
    · rw [beq_iff_eq]
      exact (fd hf (hb h hh)).2 ⟨v, hv', h1, h2⟩
    · rw [h2, fc hf hg hv' h1, h3]; rfl
  rw [Bool.eq_iff_iff]
  unfold nextB
  rw [List.all_eq_true]
  show (!(before.any fun b => aI b (restr before f) == restr before f)) = true ↔ _
  rw [Bool.not_eq_true', List.any_eq_false]
  by_cases hc : ∃ b ∈ before, aI f b = f
  · obtain ⟨b, hbm, hbe⟩ := hc
    have hbb : ∀ v, v < 6 → hv f v = true → hv b v = true := fun v hv' h1 => by
      have h := fh hf (hb b hbm)
      rw [hbe, beq_self_eq_true] at h
      have h2 := List.all_eq_true.1 h.symm v (List.mem_range.2 hv')
      rw [h1] at h2
      simpa using h2
    refine ⟨fun h => ?_, fun h => ?_⟩
    · exfalso
      refine h b hbm ((hany b (hb b hbm)).2 fun v hv' h1 => ?_)
      unfold inR at h1
      rw [Bool.and_eq_true] at h1
      exact hbb v hv' h1.1
    · exfalso
      obtain ⟨v, hv', h1, _, h3⟩ := (hwall b (hb b hbm)).1 (h b hbm)
      rw [hbb v hv' h1] at h3
      cases h3
  · have hin : ∀ v, v < 6 → (inR before f v = true ↔ hv f v = true ∧ ∃ h ∈ before, aI f h = f - 2 ^ v) := fun v hv' => by
      unfold inR
      rw [Bool.and_eq_true, List.any_eq_true]
      refine ⟨fun ⟨h1, b, hbm, h2⟩ => ⟨h1, b, hbm, ?_⟩, fun ⟨h1, b, hbm, h2⟩ => ⟨h1, b, hbm, decide_eq_true ((fb hf (hb b hbm) hv' h1).2 (.inl h2))⟩⟩
      rcases (fb hf (hb b hbm) hv' h1).1 (of_decide_eq_true h2) with h3 | h3
      · exact h3
      · exact absurd ⟨b, hbm, h3⟩ hc
    refine ⟨fun h g hg => (hwall g (hb g hg)).2 ?_, fun h g hg hcon => ?_⟩
    · have h1 := h g hg
      rw [hany g (hb g hg)] at h1
      have h2 : ∃ v, v < 6 ∧ inR before f v = true ∧ hv g v = false := Classical.byContradiction fun hn => h1 fun v hv' hi => by
        cases hz : hv g v with
        | true => rfl
        | false => exact absurd ⟨v, hv', hi, hz⟩ hn
      obtain ⟨v, hv', hi, hz⟩ := h2
      obtain ⟨a1, a2⟩ := (hin v hv').1 hi
      exact ⟨v, hv', a1, a2, hz⟩
    · obtain ⟨v, hv', h1, h2, h3⟩ := (hwall g (hb g hg)).1 (h g hg)
      have h4 := (hany g (hb g hg)).1 hcon v hv' ((hin v hv').2 ⟨h1, h2⟩)
      rw [h4] at h3
      cases h3
end Go.Proofs.Ytomdfjohnmikdaa.Pu
namespace Go.Proofs.Ytomdfjohnmikdaa.QS
open Go.Proofs.Ytomdfjohnmikdaa.Cw Go.Proofs.Ytomdfjohnmikdaa.Kp Go.Proofs.Ytomdfjohnmikdaa.Ext Go.RowKit Go.Proofs.YtomdfjohnmikdaaW.PrintWords Go.Proofs.YtomdfjohnmikdaaW.PrintLast Go.Proofs.YtomdfjohnmikdaaW.PrintMore
attribute [local go_sem] max2_int min2_int max_two min_two max_three min_three max_four min_four   -- for this text's walks alone
set_option linter.unusedVariables false
set_option linter.unusedSimpArgs false
def spec_l07Pure.l0 : Nat → List Int → Int → Option (Bool)
 | 0, _, _ => none
 | k + 1, x3, x4 => if x4 < (x3.length : Int) then (if 0 ≤ x4 then ((spec_l01Ones.f k (rd x3 x4)).bind fun t604 => (if 0 < (x3.length : Int) then ((spec_l01Ones.f k (rd x3 0)).bind fun t606 => (if t604 = t606 then (spec_l07Pure.l0 k x3 (wrap64 (x4 + 1))) else (some false))) else (none))) else (none)) else (some true)
def spec_l07Pure.f (k : Nat) (a0_0 : Int) (l0_1 : List Int) : Option (Bool) := (spec_l01Facets.f k a0_0 l0_1).bind fun t600 => (spec_l07Pure.l0 k t600 0)
set_option maxHeartbeats 8000000 in
set_option maxRecDepth 100000 in
theorem spec_l07Pure.calls (k : Nat) (a0_0 : Int) (A0_1 : Option Addr) (c0_1 : Nat) (l0_1 : List Int) (r : Bool) (w : World) (hr0_1 : Kd.C (Kd.int .i64) w A0_1 l0_1.length l0_1) (hc0_1 : l0_1.length ≤ c0_1) (h : spec_l07Pure.f k a0_0 l0_1 = some r) :
  Calls Try.prog 80 #[.agg #[.int .i64 a0_0, .slice A0_1 l0_1.length c0_1]] w fun e w' => e = .returned (.bool r) ∧ Below w.heap.size w w' := by
 have hu28 := Try.underlying28
 have HR0_1 := Aside0.mk hr0_1
 have HC0_1 := Aside0.mk hc0_1
 clear hr0_1 hc0_1
 have HB := Aside0.mk (Below.refl w.heap.size w)
 have H : ((spec_l01Facets.f k a0_0 l0_1).bind fun t600 => (spec_l07Pure.l0 k t600 0)) = some r := h
 clear h
 replace H := Option.bind_eq_some_iff.mp H
 obtain ⟨t600, A20, H⟩ := H
 try dsimp only at H
 have A2 := Aside0.mk A20
 clear A20
 have H' := Aside0.mk H
 clear H
 go_enter Try.func80, Try.ntmps80
 go_wp2_with (first | ((with_reducible refine gate_dst (N := 1) rfl ?_); refine box_event ?hg (N := 1) ?hd (cs := #[.int .i64 a0_0, .slice A0_1 l0_1.length c0_1]) (t := 28) ?hr ?_; (case hd => rfl); (case hg => rfl); (case hr => first | (go_simp; done) | (go_simp; rfl)); intro gb599 hg w3 hbox hb; have BK599 := Aside0.mk (hbox); have GW599 := gH HB hg; have GE599 := gH HB hg; replace HB := sH HB hb; clear hb hbox hg; have hcz4_0 : w3.cell? ⟨gb599, 0, none⟩ = some (.int .i64 a0_0) := cB BK599 0; have hcz4_1 : w3.cell? ⟨gb599, 1, none⟩ = some (.slice A0_1 l0_1.length c0_1) := cB BK599 1; have hfz4_0 := zB BK599 0; have hfz4_1 := zB BK599 1) | (go_at_call 81; (with_reducible refine (spec_l01Facets.calls k a0_0 _ _ l0_1 t600 _ ?side1 ?side2 A2.out).mono ?_); (case side1 => exact pC ((Kd.C_below HR0_1.out HB.out))); (case side2 => exact HC0_1.out); rintro e w5 ⟨v601, rfl, ho0, hb⟩; have HO602 := Aside0.mk (Kd.R_lower ho0 (below_size (pH HB))); replace BK599 := sB BK599 hb; replace HB := sH HB hb; (try clear hb); (try clear hi); (try clear ho0)))
 repeat (go_quiet (first | ((with_reducible refine gate_dst (N := 1) rfl ?_); refine box_event ?hg (N := 1) ?hd (cs := #[.int .i64 a0_0, .slice A0_1 l0_1.length c0_1]) (t := 28) ?hr ?_; (case hd => rfl); (case hg => rfl); (case hr => first | (go_simp; done) | (go_simp; rfl)); intro gb599 hg w3 hbox hb; have BK599 := Aside0.mk (hbox); have GW599 := gH HB hg; have GE599 := gH HB hg; replace HB := sH HB hb; clear hb hbox hg; have hcz4_0 : w3.cell? ⟨gb599, 0, none⟩ = some (.int .i64 a0_0) := cB BK599 0; have hcz4_1 : w3.cell? ⟨gb599, 1, none⟩ = some (.slice A0_1 l0_1.length c0_1) := cB BK599 1; have hfz4_0 := zB BK599 0; have hfz4_1 := zB BK599 1) | (go_at_call 81; (with_reducible refine (spec_l01Facets.calls k a0_0 _ _ l0_1 t600 _ ?side1 ?side2 A2.out).mono ?_); (case side1 => exact pC ((Kd.C_below HR0_1.out HB.out))); (case side2 => exact HC0_1.out); rintro e w5 ⟨v601, rfl, ho0, hb⟩; have HO602 := Aside0.mk (Kd.R_lower ho0 (below_size (pH HB))); replace BK599 := sB BK599 hb; replace HB := sH HB hb; (try clear hb); (try clear hi); (try clear ho0))); try go_wp2_with (first | ((with_reducible refine gate_dst (N := 1) rfl ?_); refine box_event ?hg (N := 1) ?hd (cs := #[.int .i64 a0_0, .slice A0_1 l0_1.length c0_1]) (t := 28) ?hr ?_; (case hd => rfl); (case hg => rfl); (case hr => first | (go_simp; done) | (go_simp; rfl)); intro gb599 hg w3 hbox hb; have BK599 := Aside0.mk (hbox); have GW599 := gH HB hg; have GE599 := gH HB hg; replace HB := sH HB hb; clear hb hbox hg; have hcz4_0 : w3.cell? ⟨gb599, 0, none⟩ = some (.int .i64 a0_0) := cB BK599 0; have hcz4_1 : w3.cell? ⟨gb599, 1, none⟩ = some (.slice A0_1 l0_1.length c0_1) := cB BK599 1; have hfz4_0 := zB BK599 0; have hfz4_1 := zB BK599 1) | (go_at_call 81; (with_reducible refine (spec_l01Facets.calls k a0_0 _ _ l0_1 t600 _ ?side1 ?side2 A2.out).mono ?_); (case side1 => exact pC ((Kd.C_below HR0_1.out HB.out))); (case side2 => exact HC0_1.out); rintro e w5 ⟨v601, rfl, ho0, hb⟩; have HO602 := Aside0.mk (Kd.R_lower ho0 (below_size (pH HB))); replace BK599 := sB BK599 hb; replace HB := sH HB hb; (try clear hb); (try clear hi); (try clear ho0))))
 go_loopg [4] k (fun kq v4 w' => ∃ (x4_1 : Int), v4 = .int .i64 x4_1 ∧ Aside0 (spec_l07Pure.l0 kq t600 x4_1 = some r) ∧ Aside0 (kq ≤ k) ∧ Aside0 (Kd.R (Kd.int .i64) 2 w' w.heap.size (fun _ => True) v601 t600) ∧ Aside0 (w'.heap[gb599]? = some (.cells #[.int .i64 a0_0, (.slice A0_1 l0_1.length c0_1)] 28 (0, 0))) ∧ Aside0 (Below w.heap.size w w'))
 case atStart => exact ⟨(0), (by first | rfl | (simp; done) | (simp [*]; done)), H', ⟨Nat.le_refl _⟩, ⟨by (with_reducible repeat (first | apply Kd.R_alloc | apply Kd.R_drewN | apply Kd.R_drew)); exact HO602.out⟩, ⟨pB BK599⟩, ⟨pH HB⟩⟩
 case round =>
  clear H'
  try clear p2
  try clear hcz4_0
  try clear hcz4_1
  try clear hfz4_0
  try clear hfz4_1
  obtain ⟨x4_1, rfl, HA, HK1, HO_3, BK599, HB⟩ := hrel
  cases gk with
  | zero => exact absurd HA.out (by simp [spec_l07Pure.l0])
  | succ k1 =>
   have H := HA.out
   clear HA
   simp only [spec_l07Pure.l0] at H
   by_cases c6 : x4_1 < (t600.length : Int)
   ·rw [if_pos c6] at H
    have c6b0 : decide (x4_1 < (t600.length : Int)) = true := decide_eq_true c6
    clear c6
    by_cases c7 : 0 ≤ x4_1
    ·rw [if_pos c7] at H
     have c7b0 : decide (0 ≤ x4_1) = true := decide_eq_true c7
     clear c7
     replace H := Option.bind_eq_some_iff.mp H
     obtain ⟨t604, A80, H⟩ := H
     try dsimp only at H
     have A8 := Aside0.mk A80
     clear A80
     by_cases c9 : 0 < (t600.length : Int)
     ·rw [if_pos c9] at H
      have c9b0 : decide (0 < (t600.length : Int)) = true := decide_eq_true c9
      have c9b1 : decide (0 < t600.length) = true := decide_eq_true (by omega)
      clear c9
      replace H := Option.bind_eq_some_iff.mp H
      obtain ⟨t606, A100, H⟩ := H
      try dsimp only at H
      have A10 := Aside0.mk A100
      clear A100
      by_cases c11 : t604 = t606
      ·rw [if_pos c11] at H
       have c11b0 : (t604 == t606) = true := beq_iff_eq.mpr c11
       have c11b1 : (t604 != t606) = false := bne_eq_false_iff_eq.mpr c11
       clear c11
       have H' := Aside0.mk H
       clear H
       obtain ⟨Ao12, co12, eo12⟩ := Kd.R_slice HO_3.out
       subst eo12
       have p603 : 0 ≤ (x4_1 : Int) := of_decide_eq_true (by first | (with_reducible assumption) | assumption)
       have q603 : x4_1 < (t600.length : Int) := of_decide_eq_true (by first | (with_reducible assumption) | assumption)
       obtain ⟨ad603, e603, hx603_0⟩ := Kd.at_int (Kd.R_reads' HO_3.out).2.2 x4_1 p603 q603
       cases e603
       replace p603 := eq_true p603
       replace q603 := eq_true q603
       go_wp2_with (first | (go_at_call 129; (with_reducible refine (spec_l01Ones.calls k1 (rd t600 x4_1) t604 _ A8.out).mono ?_); rintro e w' ⟨rfl, ⟨nd, rfl⟩⟩; (try first | exact ⟨rfl, _, World.drewN_drewN _ _ _⟩ | exact ⟨rfl, _, Eq.trans (World.drewN_drewN _ _ _) (congrArg (World.drewN _) (Nat.add_assoc _ _ _))⟩); have p605 : 0 ≤ (0 : Int) := (by omega); have q605 : 0 < (t600.length : Int) := of_decide_eq_true (by first | (with_reducible assumption) | assumption); obtain ⟨ad605, e605, hx605_0⟩ := Kd.at_int (Kd.R_reads' HO_3.out).2.2 0 p605 q605; obtain rfl : ad603 = ad605 := (by injection e605); have qi605 : (0 < t600.length) = True := eq_true (by omega); (try rw [show ((0 : Int)).toNat = 0 from rfl] at hx605_0); (try rw [Addr.add_zero'] at hx605_0); replace p605 := eq_true p605; replace q605 := eq_true q605) | (go_at_call 129; (with_reducible refine (spec_l01Ones.calls k1 (rd t600 0) t606 _ A10.out).mono ?_); rintro e w' ⟨rfl, ⟨nd, rfl⟩⟩; (try first | exact ⟨rfl, _, World.drewN_drewN _ _ _⟩ | exact ⟨rfl, _, Eq.trans (World.drewN_drewN _ _ _) (congrArg (World.drewN _) (Nat.add_assoc _ _ _))⟩)))
       repeat (go_quiet (first | (go_at_call 129; (with_reducible refine (spec_l01Ones.calls k1 (rd t600 x4_1) t604 _ A8.out).mono ?_); rintro e w' ⟨rfl, ⟨nd, rfl⟩⟩; (try first | exact ⟨rfl, _, World.drewN_drewN _ _ _⟩ | exact ⟨rfl, _, Eq.trans (World.drewN_drewN _ _ _) (congrArg (World.drewN _) (Nat.add_assoc _ _ _))⟩); have p605 : 0 ≤ (0 : Int) := (by omega); have q605 : 0 < (t600.length : Int) := of_decide_eq_true (by first | (with_reducible assumption) | assumption); obtain ⟨ad605, e605, hx605_0⟩ := Kd.at_int (Kd.R_reads' HO_3.out).2.2 0 p605 q605; obtain rfl : ad603 = ad605 := (by injection e605); have qi605 : (0 < t600.length) = True := eq_true (by omega); (try rw [show ((0 : Int)).toNat = 0 from rfl] at hx605_0); (try rw [Addr.add_zero'] at hx605_0); replace p605 := eq_true p605; replace q605 := eq_true q605) | (go_at_call 129; (with_reducible refine (spec_l01Ones.calls k1 (rd t600 0) t606 _ A10.out).mono ?_); rintro e w' ⟨rfl, ⟨nd, rfl⟩⟩; (try first | exact ⟨rfl, _, World.drewN_drewN _ _ _⟩ | exact ⟨rfl, _, Eq.trans (World.drewN_drewN _ _ _) (congrArg (World.drewN _) (Nat.add_assoc _ _ _))⟩))); try go_wp2_with (first | (go_at_call 129; (with_reducible refine (spec_l01Ones.calls k1 (rd t600 x4_1) t604 _ A8.out).mono ?_); rintro e w' ⟨rfl, ⟨nd, rfl⟩⟩; (try first | exact ⟨rfl, _, World.drewN_drewN _ _ _⟩ | exact ⟨rfl, _, Eq.trans (World.drewN_drewN _ _ _) (congrArg (World.drewN _) (Nat.add_assoc _ _ _))⟩); have p605 : 0 ≤ (0 : Int) := (by omega); have q605 : 0 < (t600.length : Int) := of_decide_eq_true (by first | (with_reducible assumption) | assumption); obtain ⟨ad605, e605, hx605_0⟩ := Kd.at_int (Kd.R_reads' HO_3.out).2.2 0 p605 q605; obtain rfl : ad603 = ad605 := (by injection e605); have qi605 : (0 < t600.length) = True := eq_true (by omega); (try rw [show ((0 : Int)).toNat = 0 from rfl] at hx605_0); (try rw [Addr.add_zero'] at hx605_0); replace p605 := eq_true p605; replace q605 := eq_true q605) | (go_at_call 129; (with_reducible refine (spec_l01Ones.calls k1 (rd t600 0) t606 _ A10.out).mono ?_); rintro e w' ⟨rfl, ⟨nd, rfl⟩⟩; (try first | exact ⟨rfl, _, World.drewN_drewN _ _ _⟩ | exact ⟨rfl, _, Eq.trans (World.drewN_drewN _ _ _) (congrArg (World.drewN _) (Nat.add_assoc _ _ _))⟩))))
       go_roundg k1
       case measure => have := HK1.out; omega
       case rel => exact ⟨(wrap64 (x4_1 + 1)), (by first | rfl | (simp; done) | (simp [*]; done)), H', ⟨by have := HK1.out; omega⟩, ⟨by (with_reducible repeat (first | apply Kd.R_alloc | apply Kd.R_drewN | apply Kd.R_drew)); exact HO_3.out⟩, ⟨pB BK599⟩, ⟨pH HB⟩⟩
      ·rw [if_neg c11] at H
       have c11b0 : (t604 == t606) = false := beq_eq_false_iff_ne.mpr c11
       have c11b1 : (t604 != t606) = true := bne_iff_ne.mpr c11
       obtain rfl := Option.some.inj H
       obtain ⟨Ao13, co13, eo13⟩ := Kd.R_slice HO_3.out
       subst eo13
       have p603 : 0 ≤ (x4_1 : Int) := of_decide_eq_true (by first | (with_reducible assumption) | assumption)
       have q603 : x4_1 < (t600.length : Int) := of_decide_eq_true (by first | (with_reducible assumption) | assumption)
       obtain ⟨ad603, e603, hx603_0⟩ := Kd.at_int (Kd.R_reads' HO_3.out).2.2 x4_1 p603 q603
       cases e603
       replace p603 := eq_true p603
       replace q603 := eq_true q603
       go_wp2_with (first | (go_at_call 129; (with_reducible refine (spec_l01Ones.calls k1 (rd t600 x4_1) t604 _ A8.out).mono ?_); rintro e w' ⟨rfl, ⟨nd, rfl⟩⟩; (try first | exact ⟨rfl, _, World.drewN_drewN _ _ _⟩ | exact ⟨rfl, _, Eq.trans (World.drewN_drewN _ _ _) (congrArg (World.drewN _) (Nat.add_assoc _ _ _))⟩); have p605 : 0 ≤ (0 : Int) := (by omega); have q605 : 0 < (t600.length : Int) := of_decide_eq_true (by first | (with_reducible assumption) | assumption); obtain ⟨ad605, e605, hx605_0⟩ := Kd.at_int (Kd.R_reads' HO_3.out).2.2 0 p605 q605; obtain rfl : ad603 = ad605 := (by injection e605); have qi605 : (0 < t600.length) = True := eq_true (by omega); (try rw [show ((0 : Int)).toNat = 0 from rfl] at hx605_0); (try rw [Addr.add_zero'] at hx605_0); replace p605 := eq_true p605; replace q605 := eq_true q605) | (go_at_call 129; (with_reducible refine (spec_l01Ones.calls k1 (rd t600 0) t606 _ A10.out).mono ?_); rintro e w' ⟨rfl, ⟨nd, rfl⟩⟩; (try first | exact ⟨rfl, _, World.drewN_drewN _ _ _⟩ | exact ⟨rfl, _, Eq.trans (World.drewN_drewN _ _ _) (congrArg (World.drewN _) (Nat.add_assoc _ _ _))⟩)))
       repeat (go_quiet (first | (go_at_call 129; (with_reducible refine (spec_l01Ones.calls k1 (rd t600 x4_1) t604 _ A8.out).mono ?_); rintro e w' ⟨rfl, ⟨nd, rfl⟩⟩; (try first | exact ⟨rfl, _, World.drewN_drewN _ _ _⟩ | exact ⟨rfl, _, Eq.trans (World.drewN_drewN _ _ _) (congrArg (World.drewN _) (Nat.add_assoc _ _ _))⟩); have p605 : 0 ≤ (0 : Int) := (by omega); have q605 : 0 < (t600.length : Int) := of_decide_eq_true (by first | (with_reducible assumption) | assumption); obtain ⟨ad605, e605, hx605_0⟩ := Kd.at_int (Kd.R_reads' HO_3.out).2.2 0 p605 q605; obtain rfl : ad603 = ad605 := (by injection e605); have qi605 : (0 < t600.length) = True := eq_true (by omega); (try rw [show ((0 : Int)).toNat = 0 from rfl] at hx605_0); (try rw [Addr.add_zero'] at hx605_0); replace p605 := eq_true p605; replace q605 := eq_true q605) | (go_at_call 129; (with_reducible refine (spec_l01Ones.calls k1 (rd t600 0) t606 _ A10.out).mono ?_); rintro e w' ⟨rfl, ⟨nd, rfl⟩⟩; (try first | exact ⟨rfl, _, World.drewN_drewN _ _ _⟩ | exact ⟨rfl, _, Eq.trans (World.drewN_drewN _ _ _) (congrArg (World.drewN _) (Nat.add_assoc _ _ _))⟩))); try go_wp2_with (first | (go_at_call 129; (with_reducible refine (spec_l01Ones.calls k1 (rd t600 x4_1) t604 _ A8.out).mono ?_); rintro e w' ⟨rfl, ⟨nd, rfl⟩⟩; (try first | exact ⟨rfl, _, World.drewN_drewN _ _ _⟩ | exact ⟨rfl, _, Eq.trans (World.drewN_drewN _ _ _) (congrArg (World.drewN _) (Nat.add_assoc _ _ _))⟩); have p605 : 0 ≤ (0 : Int) := (by omega); have q605 : 0 < (t600.length : Int) := of_decide_eq_true (by first | (with_reducible assumption) | assumption); obtain ⟨ad605, e605, hx605_0⟩ := Kd.at_int (Kd.R_reads' HO_3.out).2.2 0 p605 q605; obtain rfl : ad603 = ad605 := (by injection e605); have qi605 : (0 < t600.length) = True := eq_true (by omega); (try rw [show ((0 : Int)).toNat = 0 from rfl] at hx605_0); (try rw [Addr.add_zero'] at hx605_0); replace p605 := eq_true p605; replace q605 := eq_true q605) | (go_at_call 129; (with_reducible refine (spec_l01Ones.calls k1 (rd t600 0) t606 _ A10.out).mono ?_); rintro e w' ⟨rfl, ⟨nd, rfl⟩⟩; (try first | exact ⟨rfl, _, World.drewN_drewN _ _ _⟩ | exact ⟨rfl, _, Eq.trans (World.drewN_drewN _ _ _) (congrArg (World.drewN _) (Nat.add_assoc _ _ _))⟩))))
       go_ret
       exact ⟨by first | rfl | (simp [errW_none, errW_some] <;> rfl) | (simp [*, errW_none, errW_some] <;> rfl) | (exfalso; simp_all), pH HB⟩
     ·rw [if_neg c9] at H
      exact absurd H (by simp)
    ·rw [if_neg c7] at H
     exact absurd H (by simp)
   ·rw [if_neg c6] at H
    have c6b0 : decide (x4_1 < (t600.length : Int)) = false := decide_eq_false c6
    clear c6
    obtain rfl := Option.some.inj H
    obtain ⟨Ao14, co14, eo14⟩ := Kd.R_slice HO_3.out
    subst eo14
    go_wp2
    repeat (go_quiet (fail); try go_wp2)
    go_ret
    exact ⟨by first | rfl | (simp [errW_none, errW_some] <;> rfl) | (simp [*, errW_none, errW_some] <;> rfl) | (exfalso; simp_all), pH HB⟩
end Go.Proofs.Ytomdfjohnmikdaa.QS
namespace Go.Proofs.Ytomdfjohnmikdaa.Pu
set_option linter.unusedVariables false
set_option linter.unusedSimpArgs false
open Go.RowKit Go.Proofs.Ytomdfjohnmikdaa.QS Go.Proofs.Ytomdfjohnmikdaa.Im Go.Proofs.YtomdfjohnmikdaaW.PrintWords Go.Proofs.YtomdfjohnmikdaaW.PrintLast Go.Proofs.YtomdfjohnmikdaaW.PrintMore
theorem fold_max (g : Int → Int) : ∀ (l : List Int) (a : Int), a ≤ l.foldl (fun a x => max a (g x)) a ∧ (∀ x ∈ l, g x ≤ l.foldl (fun a x => max a (g x)) a) ∧ (l.foldl (fun a x => max a (g x)) a = a ∨ ∃ x ∈ l, g x = l.foldl (fun a x => max a (g x)) a)
  | [], a => ⟨Int.le_refl _, fun x hx => (by cases hx), .inl rfl⟩
  | y :: l, a => by
    obtain ⟨h1, h2, h3⟩ := fold_max g l (max a (g y))
    rw [List.foldl_cons]
    refine ⟨by omega, fun x hx => ?_, ?_⟩
    · rcases List.mem_cons.1 hx with rfl | hx
      · omega
      · exact h2 x hx
    · rcases h3 with h3 | ⟨x, hx, h3⟩
      · by_cases hm : max a (g y) = a
        · exact .inl (h3.trans hm)
        · exact .inr ⟨y, List.mem_cons_self, by omega⟩
      · exact .inr ⟨x, List.mem_cons_of_mem _ hx, h3⟩
theorem top_facet {n : Int} {l : List Int} (hi : isC n l = true) (hne : l ≠ []) : ∃ x ∈ facetsL l, onesZ x - 1 = dimL l := by
  have hr := isC_63 hi
  obtain ⟨_, _, hc⟩ := isC_of hi
  obtain ⟨h1, h2, h3⟩ := fold_max (fun x => onesZ x - 1) l (-1)
  have ht : ∃ x ∈ l, onesZ x - 1 = dimL l := by
    rcases h3 with h3 | h3
    · obtain ⟨y, r, rfl⟩ := List.exists_cons_of_ne_nil hne
      have h4 := h2 y List.mem_cons_self
      have h5 := ones_le y
      exact ⟨y, List.mem_cons_self, by unfold dimL; rw [h3] at h4 ⊢; omega⟩
    · exact h3
  obtain ⟨x, hx, hd⟩ := ht
  refine ⟨x, List.mem_filter.2 ⟨hx, ?_⟩, hd⟩
  cases hb : biggerB l x with
  | false => rfl
  | true =>
    exfalso
    obtain ⟨g, hg, hp⟩ := List.any_eq_true.1 hb
    obtain ⟨h, hh, ho⟩ := in_over hc hr (hr x hx) _ g (Nat.le_refl _) hg hp
    have h4 := h2 h hh
    simp only [overP, Bool.and_eq_true] at ho
    have h5 := eq_of_beq ho.2
    unfold dimL at hd
    omega
theorem pure_eq {n : Int} {l : List Int} (hi : isC n l = true) : ((facetsL l).all fun x => onesZ x == onesZ ((facetsL l)[0]?.getD 0)) = pureB l := by
  unfold pureB
  by_cases hne : l = []
  · subst hne; rfl
  · obtain ⟨y, hy, hd⟩ := top_facet hi hne
    have hpos : 0 < (facetsL l).length := List.length_pos_of_mem hy
    have h0 : (facetsL l)[0]?.getD 0 ∈ facetsL l := by rw [List.getElem?_eq_getElem hpos]; exact List.getElem_mem hpos
    rw [Bool.eq_iff_iff, List.all_eq_true, List.all_eq_true]
    constructor
    · intro h x hx
      have h1 := eq_of_beq (h x hx)
      have h2 := eq_of_beq (h y hy)
      unfold pureP
      rw [h1, ← h2, hd]; exact beq_self_eq_true _
    · intro h x hx
      have h1 := eq_of_beq (h x hx)
      have h2 := eq_of_beq (h _ h0)
      have : onesZ x = onesZ ((facetsL l)[0]?.getD 0) := by omega
      rw [this]; exact beq_self_eq_true _
theorem pure_loop (fs : List Int) (hl : fs.length ≤ 64) (hr : ∀ x ∈ fs, 1 ≤ x ∧ x ≤ 63) : ∀ d (i : Nat), fs.length - i = d → i ≤ fs.length →
    Ev (fun k => spec_l07Pure.l0 k fs i) ((fs.drop i).all fun x => onesZ x == onesZ (fs[0]?.getD 0)) := by
  intro d
  induction d with
  | zero =>
    intro i hd hi
    rw [List.drop_eq_nil_of_le (by omega)]
    refine Ev.step (f := fun k => some true) (fun k => ?_) (Ev.now _)
    simp only [spec_l07Pure.l0]; rw [if_neg (by omega)]
  | succ d ih =>
    intro i hd hi
    have hi' : i < fs.length := by omega
    have h0' : 0 < fs.length := by omega
    have hx := hr _ (List.getElem_mem hi')
    have hx0 := hr _ (List.getElem_mem h0')
    have hw : wrap64 ((i : Int) + 1) = ((i + 1 : Nat) : Int) := by rw [w64 (by omega) (by omega)]; omega
    have hR0 : rd fs 0 = fs[0] := rd_at (i := 0) h0'
    have hg0 : fs[0]?.getD 0 = fs[0] := by rw [List.getElem?_eq_getElem h0']; rfl
    rw [List.drop_eq_getElem_cons hi', List.all_cons, hg0]
    refine Ev.step (f := fun k => (spec_l01Ones.f k fs[i]).bind fun t285 => ((spec_l01Ones.f k fs[0]).bind fun t287 => (if t285 = t287 then (spec_l07Pure.l0 k fs ((i + 1 : Nat) : Int)) else (some false)))) (fun k => ?_) ?_
    · simp only [spec_l07Pure.l0]
      rw [if_pos (by omega), if_pos (by omega), rd_at hi', hw, hR0]
      simp only [if_pos (show (0 : Int) < (fs.length : Int) by omega)]
    · refine Ev.bind (ev_ones (by omega) (by omega)) ?_
      refine Ev.bind (ev_ones (by omega) (by omega)) ?_
      by_cases ho : onesZ fs[i] = onesZ fs[0]
      · simp only [if_pos ho]
        have := ih (i + 1) (by omega) (by omega)
        rw [hg0] at this
        rw [beq_iff_eq.2 ho, Bool.true_and]
        exact this
      · simp only [if_neg ho]
        rw [beq_eq_false_iff_ne.2 ho, Bool.false_and]
        exact Ev.now _
theorem ev_pure {n : Int} {l : List Int} (hi : isC n l = true) : Ev (fun k => spec_l07Pure.f k n l) (pureB l) := by
  unfold spec_l07Pure.f
  have hr := isC_63 hi
  have hp := pure_loop (facetsL l) (Nat.le_trans (List.length_filter_le _ _) (isC_len hi)) (fun x hx => hr x (List.mem_filter.1 hx).1) _ 0 rfl (Nat.zero_le _)
  rw [List.drop_zero, pure_eq hi] at hp
  exact Ev.bind (f := fun k t => spec_l07Pure.l0 k t 0) (ev_facets hi) hp
end Go.Proofs.Ytomdfjohnmikdaa.Pu
namespace Go.Proofs.Ytomdfjohnmikdaa.QS
open Go.Proofs.Ytomdfjohnmikdaa.Cw Go.Proofs.Ytomdfjohnmikdaa.Kp Go.Proofs.Ytomdfjohnmikdaa.Ext Go.RowKit Go.Proofs.YtomdfjohnmikdaaW.PrintWords Go.Proofs.YtomdfjohnmikdaaW.PrintLast Go.Proofs.YtomdfjohnmikdaaW.PrintMore
attribute [local go_sem] max2_int min2_int max_two min_two max_three min_three max_four min_four   -- for this text's walks alone
set_option linter.unusedVariables false
set_option linter.unusedSimpArgs false
end Go.Proofs.Ytomdfjohnmikdaa.QS
namespace Go.Proofs.Ytomdfjohnmikdaa.QS
open Go.Proofs.Ytomdfjohnmikdaa.Cw Go.Proofs.Ytomdfjohnmikdaa.Kp Go.Proofs.Ytomdfjohnmikdaa.Ext Go.RowKit Go.Proofs.YtomdfjohnmikdaaW.PrintWords Go.Proofs.YtomdfjohnmikdaaW.PrintLast Go.Proofs.YtomdfjohnmikdaaW.PrintMore
attribute [local go_sem] max2_int min2_int max_two min_two max_three min_three max_four min_four   -- for this text's walks alone
set_option linter.unusedVariables false
set_option linter.unusedSimpArgs false
end Go.Proofs.Ytomdfjohnmikdaa.QS
namespace Go.Proofs.Ytomdfjohnmikdaa.QS
open Go.Proofs.Ytomdfjohnmikdaa.Cw Go.Proofs.Ytomdfjohnmikdaa.Kp Go.Proofs.Ytomdfjohnmikdaa.Ext Go.RowKit Go.Proofs.YtomdfjohnmikdaaW.PrintWords Go.Proofs.YtomdfjohnmikdaaW.PrintLast Go.Proofs.YtomdfjohnmikdaaW.PrintMore
attribute [local go_sem] max2_int min2_int max_two min_two max_three min_three max_four min_four   -- for this text's walks alone
set_option linter.unusedVariables false
set_option linter.unusedSimpArgs false
end Go.Proofs.Ytomdfjohnmikdaa.QS
namespace Go.Proofs.Ytomdfjohnmikdaa.Pu
set_option linter.unusedVariables false
set_option linter.unusedSimpArgs false
open Go.RowKit Go.Proofs.Ytomdfjohnmikdaa.Ext Go.Proofs.Ytomdfjohnmikdaa.QS Go.Proofs.Ytomdfjohnmikdaa.Im Go.Proofs.YtomdfjohnmikdaaW.PrintWords Go.Proofs.YtomdfjohnmikdaaW.PrintLast Go.Proofs.YtomdfjohnmikdaaW.PrintMore
end Go.Proofs.Ytomdfjohnmikdaa.Pu
namespace Go.Proofs.Ytomdfjohnmikdaa.Im
set_option linter.unusedVariables false
set_option linter.unusedSimpArgs false
open Go.RowKit Go.Shelf Go.Proofs.Ytomdfjohnmikdaa.Cw Go.Proofs.YtomdfjohnmikdaaW.PrintWords Go.Proofs.YtomdfjohnmikdaaW.PrintLast Go.Proofs.YtomdfjohnmikdaaW.PrintMore
section
variable {P : Program} {ops : Array Oper} {Q : Exit → Act → World → Prop} {S : World → Prop} {ds : List Nat} {md : Region.Mode} {T : Bool × List (List Nat × List Nat)} {n m fuel : Nat} {a : Act} {w : World} {oi : Oper}
end
theorem nd_inj {α : Type} {l : List α} (h : l.Nodup) {x y : Nat} (hx : x < l.length) (hy : y < l.length) (e : l[x] = l[y]) : x = y := by
  have hp := List.pairwise_iff_getElem.1 (List.nodup_iff_pairwise_ne.1 h)
  rcases Nat.lt_trichotomy x y with h1 | h1 | h1
  · exact absurd e (hp x y hx hy h1)
  · exact h1
  · exact absurd e.symm (hp y x hy hx h1)
/-- A row of m numbers that is a block of its own. -/
def rowV (m x : Nat) : Value := .slice (some ⟨x, 0, none⟩) m m
def numV (l : List Int) : List Value := l.map fun v => Value.int .i64 v
/-- The outer row. -/
def MxO (w : World) (base b cap : Nat) (bs : List Nat) (m : Nat) : Prop :=
  base ≤ b ∧ bs.length ≤ cap ∧ cap ≤ maxLen ∧ ∃ rest : List Value, rest.length = cap - bs.length ∧ w.heap[b]? = some (.cells (bs.map (rowV m) ++ rest).toArray 22 (0, 0))
/-- The inner rows. -/
def MxI (w : World) (base : Nat) (bs : List Nat) (m : Nat) (M : List (List Int)) : Prop :=
  bs.length = M.length ∧ bs.Nodup ∧ ∀ i (h1 : i < bs.length) (h2 : i < M.length), base ≤ bs[i] ∧ M[i].length = m ∧ w.heap[bs[i]]? = some (.cells (numV M[i]).toArray 2 (0, 0))
section
variable {w w1 : World} {base b cap m : Nat} {bs : List Nat} {M : List (List Int)}
theorem MxO.below (h : MxO w base b cap bs m) (hb : Below w.heap.size w w1) : MxO w1 base b cap bs m := by
  obtain ⟨h1, h2, h3, rest, h4, h5⟩ := h
  exact ⟨h1, h2, h3, rest, h4, (hb.block b (blk_lt h5)).trans h5⟩
theorem MxO.drew (h : MxO w base b cap bs m) : MxO w.drew base b cap bs m := h
theorem MxI.below (h : MxI w base bs m M) (hb : Below w.heap.size w w1) : MxI w1 base bs m M := by
  refine ⟨h.1, h.2.1, fun i h1 h2 => ?_⟩
  obtain ⟨a1, a2, a3⟩ := h.2.2 i h1 h2
  exact ⟨a1, a2, (hb.block _ (blk_lt a3)).trans a3⟩
theorem MxI.drew (h : MxI w base bs m M) : MxI w.drew base bs m M := h
theorem MxO.cell (h : MxO w base b cap bs m) {i : Nat} (hi : i < bs.length) : w.cell? ⟨b, i, none⟩ = some (rowV m bs[i]) ∧ w.frozen? ⟨b, i, none⟩ = false := by
  obtain ⟨h1, h2, h3, rest, h4, h5⟩ := h
  refine ⟨(cell_of_row w b i _ _ _ h5).trans ?_, blk_frozen h5 i⟩
  simp [List.getElem?_append_left, hi]
theorem MxO.far (h : MxO w base b cap bs m) {x j : Nat} (hne : b ≠ x) (u : Value) : MxO (w.setCell ⟨x, j, none⟩ u) base b cap bs m := by
  obtain ⟨h1, h2, h3, rest, h4, h5⟩ := h
  exact ⟨h1, h2, h3, rest, h4, (Below.heap_setCell w ⟨x, j, none⟩ u b hne).trans h5⟩
theorem MxO.put (h : MxO w base b cap bs m) {i : Nat} (hi : i < bs.length) (y : Nat) : MxO (w.setCell ⟨b, i, none⟩ (rowV m y)) base b cap (bs.set i y) m := by
  obtain ⟨h1, h2, h3, rest, h4, h5⟩ := h
  refine ⟨h1, by simpa using h2, h3, rest, by simpa using h4, ?_⟩
  have := blk_put h5 i (rowV m y) rfl
  rw [this]
  congr 2
  apply Array.ext'
  simp [List.set_append_left, hi]
theorem MxI.len (h : MxI w base bs m M) : bs.length = M.length := h.1
theorem MxI.row (h : MxI w base bs m M) {i : Nat} (hi : i < M.length) : M[i].length = m := (h.2.2 i (by rw [h.1]; exact hi) hi).2.1
theorem MxI.cell (h : MxI w base bs m M) {i j : Nat} (hb : i < bs.length) (hi : i < M.length) (hj : j < m) : w.cell? ⟨bs[i], j, none⟩ = some (.int .i64 (M[i][j]'(by rw [h.row hi]; exact hj))) ∧ w.frozen? ⟨bs[i], j, none⟩ = false := by
  obtain ⟨a1, a2, a3⟩ := h.2.2 i hb hi
  refine ⟨(cell_of_row w _ j _ _ _ a3).trans ?_, blk_frozen a3 j⟩
  have hj' : j < M[i].length := by rw [a2]; exact hj
  simp [numV, hj']
theorem MxI.ne (h : MxI w base bs m M) (ho : MxO w base b cap bs m) {i : Nat} (hi : i < bs.length) : b ≠ bs[i] := by
  obtain ⟨_, _, a3⟩ := h.2.2 i hi (by rw [← h.1]; exact hi)
  obtain ⟨_, _, _, rest, _, h5⟩ := ho
  exact blk_ne h5 a3 (by decide)
theorem MxI.ne' {bs' : List Nat} (h : MxI w base bs m M) (ho : MxO w base b cap bs' m) {i : Nat} (hi : i < bs.length) : b ≠ bs[i] := by
  obtain ⟨_, _, a3⟩ := h.2.2 i hi (by rw [← h.1]; exact hi)
  obtain ⟨_, _, _, rest, _, h5⟩ := ho
  exact blk_ne h5 a3 (by decide)
theorem MxI.outer {bs' : List Nat} (h : MxI w base bs m M) (ho : MxO w base b cap bs' m) (j : Nat) (u : Value) : MxI (w.setCell ⟨b, j, none⟩ u) base bs m M := by
  refine ⟨h.1, h.2.1, fun i h1 h2 => ?_⟩
  obtain ⟨a1, a2, a3⟩ := h.2.2 i h1 h2
  exact ⟨a1, a2, (Below.heap_setCell w ⟨b, j, none⟩ u _ (h.ne' ho h1).symm).trans a3⟩
theorem MxI.put (h : MxI w base bs m M) {i j : Nat} (hb : i < bs.length) (hi : i < M.length) (hj : j < m) (v : Int) : MxI (w.setCell ⟨bs[i], j, none⟩ (.int .i64 v)) base bs m (M.set i (M[i].set j v)) := by
  refine ⟨by simpa using h.1, h.2.1, fun k h1 h2 => ?_⟩
  have h2' : k < M.length := by simpa using h2
  obtain ⟨a1, a2, a3⟩ := h.2.2 k h1 h2'
  by_cases hk : k = i
  · subst hk
    refine ⟨a1, by simpa using a2, ?_⟩
    have := blk_put a3 j (.int .i64 v) rfl
    rw [this]
    congr 2
    apply Array.ext'
    simp [numV, List.map_set]
  · have hne : bs[k] ≠ bs[i] := fun e => hk (nd_inj h.2.1 h1 hb e)
    rw [List.getElem_set_ne (Ne.symm hk)]
    exact ⟨a1, a2, (Below.heap_setCell w ⟨bs[i], j, none⟩ _ _ hne).trans a3⟩
end
end Go.Proofs.Ytomdfjohnmikdaa.Im
namespace Go.Proofs.Ytomdfjohnmikdaa.Im
set_option linter.unusedVariables false
set_option linter.unusedSimpArgs false
def Bit (x : Int) : Prop := x = 0 ∨ x = 1
def Bits (M : List (List Int)) : Prop := ∀ row ∈ M, ∀ x ∈ row, Bit x
end Go.Proofs.Ytomdfjohnmikdaa.Im
namespace Go.Proofs.Ytomdfjohnmikdaa.Im
set_option linter.unusedVariables false
set_option linter.unusedSimpArgs false
open Go.RowKit Go.Shelf Go.Proofs.Ytomdfjohnmikdaa.Cw Go.Proofs.YtomdfjohnmikdaaW.PrintWords Go.Proofs.YtomdfjohnmikdaaW.PrintLast Go.Proofs.YtomdfjohnmikdaaW.PrintMore
/-- What is known of the matrix in memory. -/
def MxAll (w : World) (base b cap : Nat) (bs : List Nat) (n m : Nat) (M : List (List Int)) : Prop := M.length = n ∧ bs.length = n ∧ Bits M ∧ MxO w base b cap bs m ∧ MxI w base bs m M
theorem MxAll.put {w : World} {base b cap n m : Nat} {bs : List Nat} {M : List (List Int)} (h : MxAll w base b cap bs n m M) {i j x : Nat} (hi : i < n) (hj : j < m) (hx : ∃ h1 : i < bs.length, bs[i] = x) {v : Int} (hv : Bit v) : MxAll (w.setCell ⟨x, j, none⟩ (.int .i64 v)) base b cap bs n m (M.set i ((M.getD i []).set j v)) := by
  obtain ⟨h1, h2, h3, h4, h5⟩ := h
  obtain ⟨hb, rfl⟩ := hx
  have hg : M.getD i [] = M[i] := by rw [List.getD_eq_getElem?_getD, List.getElem?_eq_getElem (by omega)]; rfl
  have hp := h5.put (i := i) (j := j) hb (by omega) hj v
  rw [hg]
  refine ⟨by simpa using h1, h2, fun row hrow => ?_, h4.far (h5.ne h4 hb) _, hp⟩
  rcases List.mem_or_eq_of_mem_set hrow with h6 | rfl
  · exact h3 _ h6
  · intro u hu
    rcases List.mem_or_eq_of_mem_set hu with h7 | rfl
    · exact h3 _ (List.getElem_mem (by omega)) u h7
    · exact hv
theorem MxAll.below {w w1 : World} {base b cap n m : Nat} {bs : List Nat} {M : List (List Int)} (h : MxAll w base b cap bs n m M) (hb : Below w.heap.size w w1) : MxAll w1 base b cap bs n m M := ⟨h.1, h.2.1, h.2.2.1, h.2.2.2.1.below hb, h.2.2.2.2.below hb⟩
theorem MxAll.base {w : World} {base b cap n m : Nat} {bs : List Nat} {M : List (List Int)} (h : MxAll w base b cap bs n m M) {i x : Nat} (hi : i < n) (hx : ∃ h1 : i < bs.length, bs[i] = x) : base ≤ x := by
  obtain ⟨hb, rfl⟩ := hx
  exact (h.2.2.2.2.2.2 i hb (by have := h.1; omega)).1
theorem getD_lt {l : List Int} {j : Nat} (h : j < l.length) : l.getD j 0 = l[j] := by rw [List.getD_eq_getElem?_getD, List.getElem?_eq_getElem h]; rfl
end Go.Proofs.Ytomdfjohnmikdaa.Im
namespace Go.Proofs.Ytomdfjohnmikdaa.Im
set_option linter.unusedVariables false
set_option linter.unusedSimpArgs false
open Go.RowKit Go.Shelf Go.Proofs.Ytomdfjohnmikdaa.Cw Go.Proofs.YtomdfjohnmikdaaW.PrintWords Go.Proofs.YtomdfjohnmikdaaW.PrintLast Go.Proofs.YtomdfjohnmikdaaW.PrintMore
/-- The outer row, while it grows. -/
abbrev MxW (w : World) (base : Nat) (v : Value) (bs : List Nat) (m : Nat) : Prop := w.ownsRow base 22 1 v bs.length (encs (rowV m) bs)
theorem MxW.ne {w : World} {base : Nat} {v : Value} {bs : List Nat} {m y : Nat} {cells : Array Value} (h : MxW w base v bs m) (hy : w.heap[y]? = some (.cells cells 2 (0, 0))) : v.ownBlock ≠ some y := fun e => by
  obtain ⟨cs, hc⟩ := own_typed h y e
  exact blk_ne hc hy (by decide) rfl
theorem MxI.block {w : World} {base : Nat} {bs : List Nat} {m : Nat} {M : List (List Int)} (h : MxI w base bs m M) {i : Nat} (hi : i < bs.length) : ∃ cells, w.heap[bs[i]]? = some (.cells cells 2 (0, 0)) := ⟨_, (h.2.2 i hi (by rw [← h.1]; exact hi)).2.2⟩
theorem MxI.grown {w w1 : World} {base base' : Nat} {bs bs' : List Nat} {m : Nat} {M : List (List Int)} {v : Value} (h : MxI w base bs m M) (ho : MxW w base' v bs' m) (hg : w.grownBy w1 v.ownBlock) : MxI w1 base bs m M := by
  refine ⟨h.1, h.2.1, fun i h1 h2 => ?_⟩
  obtain ⟨a1, a2, a3⟩ := h.2.2 i h1 h2
  exact ⟨a1, a2, (hg.block _ (blk_lt a3) (fun e => ho.ne a3 e.symm)).trans a3⟩
/-- A row more, of zeros. -/
theorem MxI.snoc {w : World} {base : Nat} {bs : List Nat} {m : Nat} {M : List (List Int)} (h : MxI w base bs m M) (hb : base ≤ w.heap.size) : MxI (w.alloc (.cells (numV (List.replicate m 0)).toArray 2)) base (bs ++ [w.heap.size]) m (M ++ [List.replicate m 0]) := by
  have hlt : ∀ x ∈ bs, x < w.heap.size := fun x hx => by
    obtain ⟨i, hi, rfl⟩ := List.mem_iff_getElem.1 hx
    obtain ⟨c, hc⟩ := h.block hi
    exact blk_lt hc
  refine ⟨by simp [h.1], ?_, fun i h1 h2 => ?_⟩
  · rw [List.nodup_append]
    refine ⟨h.2.1, by simp, fun a ha b hb' => ?_⟩
    obtain rfl : b = w.heap.size := by simpa using hb'
    exact Nat.ne_of_lt (hlt a ha)
  · by_cases hi : i < bs.length
    · have h2' : i < M.length := by rw [← h.1]; exact hi
      obtain ⟨a1, a2, a3⟩ := h.2.2 i hi h2'
      rw [List.getElem_append_left hi, List.getElem_append_left h2']
      exact ⟨a1, a2, ((below_alloc (Below.refl w.heap.size w) _).block _ (blk_lt a3)).trans a3⟩
    · have he : i = bs.length := by simp at h1; omega
      subst he
      have e1 : (bs ++ [w.heap.size])[bs.length]'h1 = w.heap.size := by simp
      have e2 : (M ++ [List.replicate m (0 : Int)])[bs.length]'h2 = List.replicate m 0 := by
        rw [List.getElem_append_right (by rw [h.1]; exact Nat.le_refl _)]
        simp
      rw [e1, e2]
      exact ⟨hb, by simp, heap_alloc_new w _⟩
/-- The finished matrix. -/
theorem MxAll.of {w : World} {base : Nat} {v : Value} {bs : List Nat} {m : Nat} {M : List (List Int)} (ho : MxW w base v bs m) (hi : MxI w base bs m M) (hb : Bits M) (hn : 0 < M.length) : ∃ b cap, v = .slice (some ⟨b, 0, none⟩) M.length cap ∧ MxAll w base b cap bs M.length m M := by
  have hl := hi.1
  rcases ho.2 with ⟨_, h0⟩ | ⟨g, cap, cur, rfl, hbg, hg, h1, h2, h3, h4⟩
  · omega
  · refine ⟨g, cap, by rw [hl], rfl, hl, hb, ⟨hbg, h1, h2, cur.toList.drop bs.length, ?_, ?_⟩, hi⟩
    · rw [List.length_drop, Array.length_toList, h3]; omega
    · rw [Nat.mul_one] at h4
      rw [hg]
      congr 2
      apply Array.ext'
      have h5 : bs.map (rowV m) = cur.toList.take bs.length := h4.symm
      rw [h5, List.toList_toArray, List.take_append_drop]
end Go.Proofs.Ytomdfjohnmikdaa.Im
namespace Go.Proofs.Ytomdfjohnmikdaa.QA
open Go.Proofs.Ytomdfjohnmikdaa.Cw Go.Proofs.Ytomdfjohnmikdaa.Kp Go.Proofs.Ytomdfjohnmikdaa.Ext Go.RowKit Go.Proofs.YtomdfjohnmikdaaW.PrintWords Go.Proofs.YtomdfjohnmikdaaW.PrintLast Go.Proofs.YtomdfjohnmikdaaW.PrintMore
attribute [local go_sem] max2_int min2_int max_two min_two max_three min_three max_four min_four   -- for this text's walks alone
set_option linter.unusedVariables false
set_option linter.unusedSimpArgs false
def errW : Option Int → Value
 | none => .nilIface
 | some c => .iface 0 (.int .i64 c)
theorem errW_none : errW none = .nilIface := rfl
theorem errW_some (c : Int) : errW (some c) = .iface 0 (.int .i64 c) := rfl
end Go.Proofs.Ytomdfjohnmikdaa.QA
namespace Go.Proofs.Ytomdfjohnmikdaa.QA
open Go.Proofs.Ytomdfjohnmikdaa.Cw Go.Proofs.Ytomdfjohnmikdaa.Kp Go.Proofs.Ytomdfjohnmikdaa.Ext Go.RowKit Go.Proofs.YtomdfjohnmikdaaW.PrintWords Go.Proofs.YtomdfjohnmikdaaW.PrintLast Go.Proofs.YtomdfjohnmikdaaW.PrintMore
attribute [local go_sem] max2_int min2_int max_two min_two max_three min_three max_four min_four   -- for this text's walks alone
set_option linter.unusedVariables false
set_option linter.unusedSimpArgs false
def bits_OnesCount64.f (a0 : Int) : Option (Int) := some (Go.bits .and .i64 (wrap64 (IntKind.u64.wrap ((IntKind.u64.wrap ((IntKind.u64.wrap ((Go.bits .and .u64 (IntKind.u64.wrap (((IntKind.u64.wrap ((Go.bits .and .u64 ((IntKind.u64.wrap ((Go.bits .and .u64 (a0 / 2) 6148914691236517205) + (Go.bits .and .u64 a0 6148914691236517205))) / 4) 3689348814741910323) + (Go.bits .and .u64 (IntKind.u64.wrap ((Go.bits .and .u64 (a0 / 2) 6148914691236517205) + (Go.bits .and .u64 a0 6148914691236517205))) 3689348814741910323))) / 16) + (IntKind.u64.wrap ((Go.bits .and .u64 ((IntKind.u64.wrap ((Go.bits .and .u64 (a0 / 2) 6148914691236517205) + (Go.bits .and .u64 a0 6148914691236517205))) / 4) 3689348814741910323) + (Go.bits .and .u64 (IntKind.u64.wrap ((Go.bits .and .u64 (a0 / 2) 6148914691236517205) + (Go.bits .and .u64 a0 6148914691236517205))) 3689348814741910323))))) 1085102592571150095) + ((Go.bits .and .u64 (IntKind.u64.wrap (((IntKind.u64.wrap ((Go.bits .and .u64 ((IntKind.u64.wrap ((Go.bits .and .u64 (a0 / 2) 6148914691236517205) + (Go.bits .and .u64 a0 6148914691236517205))) / 4) 3689348814741910323) + (Go.bits .and .u64 (IntKind.u64.wrap ((Go.bits .and .u64 (a0 / 2) 6148914691236517205) + (Go.bits .and .u64 a0 6148914691236517205))) 3689348814741910323))) / 16) + (IntKind.u64.wrap ((Go.bits .and .u64 ((IntKind.u64.wrap ((Go.bits .and .u64 (a0 / 2) 6148914691236517205) + (Go.bits .and .u64 a0 6148914691236517205))) / 4) 3689348814741910323) + (Go.bits .and .u64 (IntKind.u64.wrap ((Go.bits .and .u64 (a0 / 2) 6148914691236517205) + (Go.bits .and .u64 a0 6148914691236517205))) 3689348814741910323))))) 1085102592571150095) / 256))) + ((IntKind.u64.wrap ((Go.bits .and .u64 (IntKind.u64.wrap (((IntKind.u64.wrap ((Go.bits .and .u64 ((IntKind.u64.wrap ((Go.bits .and .u64 (a0 / 2) 6148914691236517205) + (Go.bits .and .u64 a0 6148914691236517205))) / 4) 3689348814741910323) + (Go.bits .and .u64 (IntKind.u64.wrap ((Go.bits .and .u64 (a0 / 2) 6148914691236517205) + (Go.bits .and .u64 a0 6148914691236517205))) 3689348814741910323))) / 16) + (IntKind.u64.wrap ((Go.bits .and .u64 ((IntKind.u64.wrap ((Go.bits .and .u64 (a0 / 2) 6148914691236517205) + (Go.bits .and .u64 a0 6148914691236517205))) / 4) 3689348814741910323) + (Go.bits .and .u64 (IntKind.u64.wrap ((Go.bits .and .u64 (a0 / 2) 6148914691236517205) + (Go.bits .and .u64 a0 6148914691236517205))) 3689348814741910323))))) 1085102592571150095) + ((Go.bits .and .u64 (IntKind.u64.wrap (((IntKind.u64.wrap ((Go.bits .and .u64 ((IntKind.u64.wrap ((Go.bits .and .u64 (a0 / 2) 6148914691236517205) + (Go.bits .and .u64 a0 6148914691236517205))) / 4) 3689348814741910323) + (Go.bits .and .u64 (IntKind.u64.wrap ((Go.bits .and .u64 (a0 / 2) 6148914691236517205) + (Go.bits .and .u64 a0 6148914691236517205))) 3689348814741910323))) / 16) + (IntKind.u64.wrap ((Go.bits .and .u64 ((IntKind.u64.wrap ((Go.bits .and .u64 (a0 / 2) 6148914691236517205) + (Go.bits .and .u64 a0 6148914691236517205))) / 4) 3689348814741910323) + (Go.bits .and .u64 (IntKind.u64.wrap ((Go.bits .and .u64 (a0 / 2) 6148914691236517205) + (Go.bits .and .u64 a0 6148914691236517205))) 3689348814741910323))))) 1085102592571150095) / 256))) / 65536))) + ((IntKind.u64.wrap ((IntKind.u64.wrap ((Go.bits .and .u64 (IntKind.u64.wrap (((IntKind.u64.wrap ((Go.bits .and .u64 ((IntKind.u64.wrap ((Go.bits .and .u64 (a0 / 2) 6148914691236517205) + (Go.bits .and .u64 a0 6148914691236517205))) / 4) 3689348814741910323) + (Go.bits .and .u64 (IntKind.u64.wrap ((Go.bits .and .u64 (a0 / 2) 6148914691236517205) + (Go.bits .and .u64 a0 6148914691236517205))) 3689348814741910323))) / 16) + (IntKind.u64.wrap ((Go.bits .and .u64 ((IntKind.u64.wrap ((Go.bits .and .u64 (a0 / 2) 6148914691236517205) + (Go.bits .and .u64 a0 6148914691236517205))) / 4) 3689348814741910323) + (Go.bits .and .u64 (IntKind.u64.wrap ((Go.bits .and .u64 (a0 / 2) 6148914691236517205) + (Go.bits .and .u64 a0 6148914691236517205))) 3689348814741910323))))) 1085102592571150095) + ((Go.bits .and .u64 (IntKind.u64.wrap (((IntKind.u64.wrap ((Go.bits .and .u64 ((IntKind.u64.wrap ((Go.bits .and .u64 (a0 / 2) 6148914691236517205) + (Go.bits .and .u64 a0 6148914691236517205))) / 4) 3689348814741910323) + (Go.bits .and .u64 (IntKind.u64.wrap ((Go.bits .and .u64 (a0 / 2) 6148914691236517205) + (Go.bits .and .u64 a0 6148914691236517205))) 3689348814741910323))) / 16) + (IntKind.u64.wrap ((Go.bits .and .u64 ((IntKind.u64.wrap ((Go.bits .and .u64 (a0 / 2) 6148914691236517205) + (Go.bits .and .u64 a0 6148914691236517205))) / 4) 3689348814741910323) + (Go.bits .and .u64 (IntKind.u64.wrap ((Go.bits .and .u64 (a0 / 2) 6148914691236517205) + (Go.bits .and .u64 a0 6148914691236517205))) 3689348814741910323))))) 1085102592571150095) / 256))) + ((IntKind.u64.wrap ((Go.bits .and .u64 (IntKind.u64.wrap (((IntKind.u64.wrap ((Go.bits .and .u64 ((IntKind.u64.wrap ((Go.bits .and .u64 (a0 / 2) 6148914691236517205) + (Go.bits .and .u64 a0 6148914691236517205))) / 4) 3689348814741910323) + (Go.bits .and .u64 (IntKind.u64.wrap ((Go.bits .and .u64 (a0 / 2) 6148914691236517205) + (Go.bits .and .u64 a0 6148914691236517205))) 3689348814741910323))) / 16) + (IntKind.u64.wrap ((Go.bits .and .u64 ((IntKind.u64.wrap ((Go.bits .and .u64 (a0 / 2) 6148914691236517205) + (Go.bits .and .u64 a0 6148914691236517205))) / 4) 3689348814741910323) + (Go.bits .and .u64 (IntKind.u64.wrap ((Go.bits .and .u64 (a0 / 2) 6148914691236517205) + (Go.bits .and .u64 a0 6148914691236517205))) 3689348814741910323))))) 1085102592571150095) + ((Go.bits .and .u64 (IntKind.u64.wrap (((IntKind.u64.wrap ((Go.bits .and .u64 ((IntKind.u64.wrap ((Go.bits .and .u64 (a0 / 2) 6148914691236517205) + (Go.bits .and .u64 a0 6148914691236517205))) / 4) 3689348814741910323) + (Go.bits .and .u64 (IntKind.u64.wrap ((Go.bits .and .u64 (a0 / 2) 6148914691236517205) + (Go.bits .and .u64 a0 6148914691236517205))) 3689348814741910323))) / 16) + (IntKind.u64.wrap ((Go.bits .and .u64 ((IntKind.u64.wrap ((Go.bits .and .u64 (a0 / 2) 6148914691236517205) + (Go.bits .and .u64 a0 6148914691236517205))) / 4) 3689348814741910323) + (Go.bits .and .u64 (IntKind.u64.wrap ((Go.bits .and .u64 (a0 / 2) 6148914691236517205) + (Go.bits .and .u64 a0 6148914691236517205))) 3689348814741910323))))) 1085102592571150095) / 256))) / 65536))) / 4294967296)))) 127)
def impl_size.f (a0 : Int) : Option (Int) := (bits_OnesCount64.f (IntKind.u64.wrap (a0))).bind fun t101 => (some t101)
end Go.Proofs.Ytomdfjohnmikdaa.QA
namespace Go.Proofs.Ytomdfjohnmikdaa.Im
set_option linter.unusedVariables false
set_option linter.unusedSimpArgs false
open Go.RowKit Go.MapKept Go.Proofs.YtomdfjohnmikdaaW.PrintWords Go.Proofs.YtomdfjohnmikdaaW.PrintLast Go.Proofs.YtomdfjohnmikdaaW.PrintMore
def entV (p : Int × Bool) : Value × Value := (.int .i64 p.1, .bool p.2)
/-- Block b is a map with these entries, in the order of their making. -/
def MapB (w : World) (b : Nat) (M : List (Int × Bool)) : Prop := ∃ es clock, w.heap[b]? = some (.map es clock) ∧ es.toList.map (fun e => (e.key, e.val)) = M.map entV
def getM : List (Int × Bool) → Int → Bool
  | [], _ => false
  | p :: M, k => if k = p.1 then p.2 else getM M k
def putM : List (Int × Bool) → Int → Bool → List (Int × Bool)
  | [], k, v => [(k, v)]
  | p :: M, k, v => if k = p.1 then (k, v) :: M else p :: putM M k v
theorem getM_put (M : List (Int × Bool)) (k x : Int) (v : Bool) : getM (putM M k v) x = if x = k then v else getM M x := by
  induction M with
  | nil => simp [putM, getM]
  | cons p M ih =>
    unfold putM
    by_cases h : k = p.1
    · rw [if_pos h]
      simp only [getM]
      by_cases hx : x = k
      · rw [if_pos hx, if_pos hx]
      · rw [if_neg hx, if_neg hx, if_neg (by rw [← h]; exact hx)]
    · rw [if_neg h]
      simp only [getM, ih]
      by_cases hx : x = p.1
      · rw [if_pos hx, if_neg (by rw [hx]; exact fun e => h e.symm)]
        rw [if_pos hx]
      · rw [if_neg hx, if_neg hx]
theorem MapB.lt {w : World} {b : Nat} {M : List (Int × Bool)} (h : MapB w b M) : b < w.heap.size := by
  obtain ⟨es, c, hb, _⟩ := h
  exact (Array.getElem?_eq_some_iff.1 hb).1
theorem MapB.below {w w1 : World} {b : Nat} {M : List (Int × Bool)} (h : MapB w b M) (hb : Below w.heap.size w w1) : MapB w1 b M := by
  have hl := h.lt
  obtain ⟨es, c, h1, h2⟩ := h
  exact ⟨es, c, (hb.block b hl).trans h1, h2⟩
theorem MapB.drew {w : World} {b : Nat} {M : List (Int × Bool)} (h : MapB w b M) : MapB w.drew b M := h
theorem MapB.drewN {w : World} {b : Nat} {M : List (Int × Bool)} (h : MapB w b M) (n : Nat) : MapB (w.drewN n) b M := h
theorem MapB.alloc {w : World} {b : Nat} {M : List (Int × Bool)} (h : MapB w b M) (o : Obj) : MapB (w.alloc o) b M := h.below (below_alloc (Below.refl _ _) o)
theorem MapB.made (w : World) : MapB (w.alloc (.map #[] 0)) w.heap.size [] := ⟨#[], 0, (heap_alloc w _).1, rfl⟩
theorem MapB.far {w : World} {b : Nat} {M : List (Int × Bool)} (h : MapB w b M) {p : Addr} (hp : b ≠ p.block) (u : Value) : MapB (w.setCell p u) b M := by
  obtain ⟨es, c, h1, h2⟩ := h
  exact ⟨es, c, (Below.heap_setCell w p u b hp).trans h1, h2⟩
/-- Block b is no block of cells. -/
theorem MapB.ne {w : World} {b g : Nat} {M : List (Int × Bool)} (h : MapB w b M) {cs : Array Value} {t : TypeId} {fr : Nat × Nat} (hg : w.heap[g]? = some (.cells cs t fr)) : b ≠ g := by
  rintro rfl
  obtain ⟨es, c, h1, _⟩ := h
  rw [hg] at h1
  cases h1
theorem findNow_entV (k : Int) : ∀ (es : List MapEntry) (M : List (Int × Bool)) (i : Nat), es.map (fun e => (e.key, e.val)) = M.map entV →
    (getM M k = false ∧ (∀ v, putM M k v = M ++ [(k, v)]) ∧ Instr.findNow (.int .i64) (.int .i64 k) es i = some none) ∨
    (∃ j e, es[j]? = some e ∧ e.key = .int .i64 k ∧ e.val = .bool (getM M k) ∧ (∀ v, (putM M k v).map entV = (M.map entV).set j (.int .i64 k, .bool v)) ∧ Instr.findNow (.int .i64) (.int .i64 k) es i = some (some (i + j, .bool (getM M k))))
  | [], [], i, _ => .inl ⟨rfl, fun _ => rfl, rfl⟩
  | [], _ :: _, _, h => by simp at h
  | _ :: _, [], _, h => by simp at h
  | e :: es, p :: M, i, h => by
    simp only [List.map_cons, List.cons.injEq] at h
    obtain ⟨h1, h2⟩ := h
    have hk : e.key = .int .i64 p.1 := congrArg Prod.fst h1
    have hv : e.val = .bool p.2 := congrArg Prod.snd h1
    by_cases hp : k = p.1
    · refine .inr ⟨0, e, rfl, by rw [hk, hp], by simp [getM, hp, hv], fun v => by simp [putM, hp, entV], ?_⟩
      simp [Instr.findNow, Instr.sameNow, hk, hp, hv, getM]
    · have hf : Instr.sameNow (.int .i64) (.int .i64 k) e.key = some false := by simp [Instr.sameNow, hk, hp]
      rcases findNow_entV k es M (i + 1) h2 with ⟨a1, a2, a3⟩ | ⟨j, e', a1, a2, a3, a4, a5⟩
      · refine .inl ⟨by simp [getM, hp, a1], fun v => by simp [putM, hp, a2], ?_⟩
        simp [Instr.findNow, hf, a3]
      · refine .inr ⟨j + 1, e', by simpa using a1, a2, by simp [getM, hp, a3], fun v => by simp [putM, hp, a4], ?_⟩
        simp only [Instr.findNow, hf, a5, getM, if_neg hp]
        congr 3
        omega
section
variable {P : Program} {w : World} {t k e : TypeId} {b : Nat} {M : List (Int × Bool)}
theorem MapB.look (h : MapB w b M) (ht : P.underlying t = some (.map k e)) (hk : P.underlying k = some (.int .i64)) (hz : (zeroValue e).run P w = .ok (.bool false) w) (x : Int) :
    (Instr.lookup t (.map (some b)) (.int .i64 x) false).run P w = .ok (.bool (getM M x)) w := by
  obtain ⟨es, c, h1, h2⟩ := h
  have hc : ∀ em, (Instr.checkKey em 10000 k (.int .i64 x)).run P w = .ok () w := fun em => run_checkKey hk (by simp [IsKey]) em 9999
  rcases findNow_entV x es.toList M 0 h2 with ⟨a1, _, a3⟩ | ⟨j, e', _, _, _, _, a5⟩
  · have hf := run_findKey (w := w) hk a3
    simp [Instr.lookup, run_underlying ht, Go.MapKept.run_getObj_map h1, hc, hf, hz, Result.andThen, a1]
  · have hf := run_findKey (w := w) hk a5
    simp [Instr.lookup, run_underlying ht, Go.MapKept.run_getObj_map h1, hc, hf, Result.andThen]
theorem MapB.put (h : MapB w b M) (ht : P.underlying t = some (.map k e)) (hk : P.underlying k = some (.int .i64)) (x : Int) (v : Bool) :
    ∃ w', (Instr.mapUpdate t (.map (some b)) (.int .i64 x) (.bool v)).run P w = .ok () w' ∧ MapB w' b (putM M x v) ∧ w.grownBy w' (some b) ∧ w'.heap.size = w.heap.size := by
  obtain ⟨es, c, h1, h2⟩ := h
  have hc : (Instr.checkKey false 10000 k (.int .i64 x)).run P w = .ok () w := run_checkKey hk (by simp [IsKey]) false 9999
  have hg : ∀ o, w.grownBy { w with heap := w.heap.setIfInBounds b o } (some b) := fun o => ⟨rfl, rfl, rfl, by simp, fun i _ hi => (heap_set h1).2 i (fun q => hi (by rw [q]))⟩
  rcases findNow_entV x es.toList M 0 h2 with ⟨a1, a2, a3⟩ | ⟨j, e', a1, a2, a3, a4, a5⟩
  · have hf := run_findKey (w := w) hk a3
    refine ⟨{ w with heap := w.heap.setIfInBounds b (.map (es.push { key := .int .i64 x, val := .bool v, born := c }) (c + 1)) }, ?_, ⟨_, _, (heap_set h1).1, ?_⟩, hg _, by simp⟩
    · simp [Instr.mapUpdate, run_underlying ht, Go.MapKept.run_getObj_map h1, hc, hf, Go.MapKept.run_setObj_map _ h1, Result.andThen]
    · simp [a2, h2, entV]
  · have hf := run_findKey (w := w) hk a5
    have hj : es[j]? = some e' := by simpa using a1
    refine ⟨{ w with heap := w.heap.setIfInBounds b (.map (es.modify j fun q => { q with key := .int .i64 x, val := .bool v }) c) }, ?_, ⟨_, _, (heap_set h1).1, ?_⟩, hg _, by simp⟩
    · simp [Instr.mapUpdate, run_underlying ht, Go.MapKept.run_getObj_map h1, hc, hf, Instr.keyThatStays, Instr.sameBits, hj, a2, Go.MapKept.run_setObj_map _ h1, Result.andThen]
    · rw [a4, ← h2]
      apply List.ext_getElem?
      intro m
      simp only [Array.toList_modify, List.getElem?_map, List.getElem?_modify, List.getElem?_set, List.length_map]
      by_cases hm : j = m
      · subst hm
        have : j < es.toList.length := (List.getElem?_eq_some_iff.1 a1).1
        rw [a1]
        simpa using this
      · cases hq : es.toList[m]? <;> simp [hm]
end
end Go.Proofs.Ytomdfjohnmikdaa.Im
namespace Go.Proofs.Ytomdfjohnmikdaa.Im
set_option linter.unusedVariables false
set_option linter.unusedSimpArgs false
open Go.RowKit Go.Shelf Go.Proofs.Ytomdfjohnmikdaa.Kp Go.Proofs.Ytomdfjohnmikdaa.Ext Go.Proofs.Ytomdfjohnmikdaa.Cw Go.Proofs.YtomdfjohnmikdaaW.PrintWords Go.Proofs.YtomdfjohnmikdaaW.PrintLast Go.Proofs.YtomdfjohnmikdaaW.PrintMore
end Go.Proofs.Ytomdfjohnmikdaa.Im
namespace Go.Proofs.Ytomdfjohnmikdaa.Im
set_option linter.unusedVariables false
set_option linter.unusedSimpArgs false
open Go.RowKit Go.Shelf Go.Proofs.Ytomdfjohnmikdaa.Kp Go.Proofs.Ytomdfjohnmikdaa.Ext Go.Proofs.Ytomdfjohnmikdaa.Cw Go.Proofs.YtomdfjohnmikdaaW.PrintWords Go.Proofs.YtomdfjohnmikdaaW.PrintLast Go.Proofs.YtomdfjohnmikdaaW.PrintMore
section
variable {P : Program} {ops : Array Oper} {Q : Exit → Act → World → Prop} {a : Act} {w : World} {oi : Oper}
end
section
variable {P : Program} {ops : Array Oper} {Q : Exit → Act → World → Prop} {S : World → Prop} {ds : List Nat} {md : Region.Mode} {T : Bool × List (List Nat × List Nat)} {n m fuel : Nat} {a : Act} {w : World} {oi oj : Oper}
end
end Go.Proofs.Ytomdfjohnmikdaa.Im
namespace Go.Proofs.Ytomdfjohnmikdaa.Im
set_option linter.unusedVariables false
set_option linter.unusedSimpArgs false
open Go.RowKit Go.Shelf Go.Proofs.Ytomdfjohnmikdaa.Kp Go.Proofs.Ytomdfjohnmikdaa.Ext Go.Proofs.Ytomdfjohnmikdaa.Cw Go.Proofs.YtomdfjohnmikdaaW.PrintWords Go.Proofs.YtomdfjohnmikdaaW.PrintLast Go.Proofs.YtomdfjohnmikdaaW.PrintMore
end Go.Proofs.Ytomdfjohnmikdaa.Im
namespace Go.Proofs.Ytomdfjohnmikdaa.QS
open Go.Proofs.Ytomdfjohnmikdaa.Cw Go.Proofs.Ytomdfjohnmikdaa.Kp Go.Proofs.Ytomdfjohnmikdaa.Ext Go.RowKit Go.Proofs.YtomdfjohnmikdaaW.PrintWords Go.Proofs.YtomdfjohnmikdaaW.PrintLast Go.Proofs.YtomdfjohnmikdaaW.PrintMore
attribute [local go_sem] max2_int min2_int max_two min_two max_three min_three max_four min_four   -- for this text's walks alone
set_option linter.unusedVariables false
set_option linter.unusedSimpArgs false
end Go.Proofs.Ytomdfjohnmikdaa.QS
namespace Go.Proofs.Ytomdfjohnmikdaa.QS
open Go.Proofs.Ytomdfjohnmikdaa.Cw Go.Proofs.Ytomdfjohnmikdaa.Kp Go.Proofs.Ytomdfjohnmikdaa.Ext Go.RowKit Go.Proofs.YtomdfjohnmikdaaW.PrintWords Go.Proofs.YtomdfjohnmikdaaW.PrintLast Go.Proofs.YtomdfjohnmikdaaW.PrintMore
attribute [local go_sem] max2_int min2_int max_two min_two max_three min_three max_four min_four   -- for this text's walks alone
set_option linter.unusedVariables false
set_option linter.unusedSimpArgs false
end Go.Proofs.Ytomdfjohnmikdaa.QS
namespace Go.Proofs.Ytomdfjohnmikdaa.QS
open Go.Proofs.Ytomdfjohnmikdaa.Cw Go.Proofs.Ytomdfjohnmikdaa.Kp Go.Proofs.Ytomdfjohnmikdaa.Ext Go.RowKit Go.Proofs.YtomdfjohnmikdaaW.PrintWords Go.Proofs.YtomdfjohnmikdaaW.PrintLast Go.Proofs.YtomdfjohnmikdaaW.PrintMore
attribute [local go_sem] max2_int min2_int max_two min_two max_three min_three max_four min_four   -- for this text's walks alone
set_option linter.unusedVariables false
set_option linter.unusedSimpArgs false
end Go.Proofs.Ytomdfjohnmikdaa.QS
namespace Go.Proofs.Ytomdfjohnmikdaa.Im
set_option linter.unusedVariables false
set_option linter.unusedSimpArgs false
open Go.RowKit Go.Shelf Go.Proofs.Ytomdfjohnmikdaa.Cw Go.Proofs.YtomdfjohnmikdaaW.PrintWords Go.Proofs.YtomdfjohnmikdaaW.PrintLast Go.Proofs.YtomdfjohnmikdaaW.PrintMore
abbrev RI (w : World) (base : Nat) (ok : Nat → Prop) (v : Value) (xs : List Int) : Prop := Kd.R (Kd.int .i64) 2 w base ok v xs
theorem RI.low {w : World} {base base' : Nat} {v : Value} {xs : List Int} (h : RI w base (fun _ => True) v xs) (hb : base' ≤ base) : RI w base' (fun k => k < w.heap.size) v xs := Kd.R_lower (Kd.R_mono (Kd.R_bound h) (fun k hk => hk.2.2.1)) hb
/-- Two rows that were there before the matrix grew. -/
def Two (W : World) (base Y : Nat) (v7 : Value) (F : List Int) (v8 : Value) (C : List Int) : Prop := RI W base (fun k => k < Y) v7 F ∧ RI W base (fun k => k < Y) v8 C ∧ Y ≤ W.heap.size
section
variable {W W1 : World} {base Y : Nat} {v7 v8 : Value} {F C : List Int}
theorem Two.of (h7 : RI W base (fun _ => True) v7 F) (h8 : RI W base (fun _ => True) v8 C) : ∃ Y, Two W base Y v7 F v8 C := ⟨_, RI.low h7 (Nat.le_refl _), RI.low h8 (Nat.le_refl _), Nat.le_refl _⟩
theorem Two.below (h : Two W base Y v7 F v8 C) (hb : Below W.heap.size W W1) : Two W1 base Y v7 F v8 C := ⟨Kd.R_below h.1 hb, Kd.R_below h.2.1 hb, Nat.le_trans h.2.2 hb.size⟩
theorem Two.far (h : Two W base Y v7 F v8 C) {y : Nat} (hy : Y ≤ y) (j : Nat) (u : Value) : Two (W.setCell ⟨y, j, none⟩ u) base Y v7 F v8 C :=
  ⟨Kd.R_far h.1 (p := ⟨y, j, none⟩) (fun k hk => Nat.ne_of_lt (Nat.lt_of_lt_of_le hk hy)) u, Kd.R_far h.2.1 (p := ⟨y, j, none⟩) (fun k hk => Nat.ne_of_lt (Nat.lt_of_lt_of_le hk hy)) u, by simpa using h.2.2⟩
theorem Two.grown (h : Two W base Y v7 F v8 C) {base' m : Nat} {bs : List Nat} {v : Value} (ho : MxW W base' v bs m) (hg : W.grownBy W1 v.ownBlock) : Two W1 base Y v7 F v8 C :=
  ⟨Kd.R_over' h.1 (fun k hk => own_typed ho k hk) (by decide) hg, Kd.R_over' h.2.1 (fun k hk => own_typed ho k hk) (by decide) hg, Nat.le_trans h.2.2 hg.size⟩
end
end Go.Proofs.Ytomdfjohnmikdaa.Im
namespace Go.Proofs.Ytomdfjohnmikdaa.Im
set_option linter.unusedVariables false
set_option linter.unusedSimpArgs false
open Go.RowKit Go.Shelf Go.Proofs.Ytomdfjohnmikdaa.Cw Go.Proofs.Ytomdfjohnmikdaa.Ext Go.Proofs.Ytomdfjohnmikdaa.Pu Go.Proofs.YtomdfjohnmikdaaW.PrintWords Go.Proofs.YtomdfjohnmikdaaW.PrintLast Go.Proofs.YtomdfjohnmikdaaW.PrintMore
theorem RI.row {w : World} {base : Nat} {ok : Nat → Prop} {v : Value} {xs : List Int} (h : RI w base ok v xs) : w.ownsRow base 2 1 v xs.length (xs.map (Value.int .i64)) := RO.row (Kd.R_mono h (fun _ _ => trivial))
theorem RI.of_row {w : World} {base : Nat} {ok : Nat → Prop} {v : Value} {xs : List Int} (h0 : ∀ k, v.ownBlock = some k → ok k) (h : w.ownsRow base 2 1 v xs.length (xs.map (Value.int .i64))) : RI w base ok v xs := by
  refine ⟨h0, xs.map (Value.int .i64), h, ⟨by simp [Kd.int, Kd.scalar], fun j p hp => ?_⟩⟩
  obtain ⟨hj, rfl⟩ := List.getElem?_eq_some_iff.1 hp
  show ((xs.map (Value.int .i64)).drop (j * 1)).take 1 = [Value.int .i64 xs[j]]
  rw [Nat.mul_one, List.drop_eq_getElem_cons (by simpa using hj)]
  simp
/-- The closure. -/
def growV (yl yf yd yg : Nat) : Value := .func (.func 85) #[] #[.pointer (some ⟨yl, 0, none⟩), .pointer (some ⟨yf, 0, none⟩), .pointer (some ⟨yd, 0, none⟩), .pointer (some ⟨yg, 0, none⟩)]
/-- What the closure's variables hold. -/
structure GS (W : World) (base Y yl yf yd yg ym : Nat) (v : Value) (ls fs : List Int) (A : Option Addr) (c : Nat) (M : List (Int × Bool)) : Prop where
  bl : W.heap[yl]? = some (.cells #[v] 22 (0, 0))
  bf : W.heap[yf]? = some (.cells #[.slice A fs.length c] 22 (0, 0))
  bd : W.heap[yd]? = some (.cells #[.map (some ym)] 97 (0, 0))
  bg : W.heap[yg]? = some (.cells #[growV yl yf yd yg] 98 (0, 0))
  ne : yl ≠ yf
  l0 : base ≤ yl
  m0 : base ≤ ym
  y0 : base ≤ Y
  y1 : Y ≤ W.heap.size
  mp : MapB W ym M
  rl : RI W base (fun k => Y ≤ k) v ls
  rf : RI W base (fun k => k < Y) (.slice A fs.length c) fs
section
variable {W W1 : World} {base Y yl yf yd yg ym : Nat} {v : Value} {ls fs : List Int} {A : Option Addr} {c : Nat} {M : List (Int × Bool)}
theorem GS.below (h : GS W base Y yl yf yd yg ym v ls fs A c M) (hb : Below W.heap.size W W1) : GS W1 base Y yl yf yd yg ym v ls fs A c M :=
  ⟨(hb.block _ (blk_lt h.bl)).trans h.bl, (hb.block _ (blk_lt h.bf)).trans h.bf, (hb.block _ (blk_lt h.bd)).trans h.bd, (hb.block _ (blk_lt h.bg)).trans h.bg, h.ne, h.l0, h.m0, h.y0, Nat.le_trans h.y1 hb.size, h.mp.below hb, Kd.R_below h.rl hb, Kd.R_below h.rf hb⟩
theorem GS.drew (h : GS W base Y yl yf yd yg ym v ls fs A c M) : GS W.drew base Y yl yf yd yg ym v ls fs A c M := ⟨h.bl, h.bf, h.bd, h.bg, h.ne, h.l0, h.m0, h.y0, h.y1, h.mp, h.rl, h.rf⟩
/-- The list's variable is set to another row. -/
theorem GS.set (h : GS W base Y yl yf yd yg ym v ls fs A c M) {v1 : Value} {ls1 : List Int} (hr : RI W base (fun k => Y ≤ k) v1 ls1) : GS (W.setCell ⟨yl, 0, none⟩ v1) base Y yl yf yd yg ym v1 ls1 fs A c M := by
  have hfar : ∀ (k : Nat) (cells : Array Value) (t : TypeId), W.heap[k]? = some (.cells cells t (0, 0)) → t ≠ 22 → (W.setCell ⟨yl, 0, none⟩ v1).heap[k]? = some (.cells cells t (0, 0)) := fun k cells t hk ht => (Below.heap_setCell W ⟨yl, 0, none⟩ v1 k (blk_ne hk h.bl ht)).trans hk
  have hty : ∀ {ok : Nat → Prop} {u : Value} {us : List Int}, RI W base ok u us → RI (W.setCell ⟨yl, 0, none⟩ v1) base ok u us := fun hu => Kd.R_mono (Kd.R_far (Kd.R_bound hu) (p := ⟨yl, 0, none⟩) (fun k hk => by
    obtain ⟨_, _, _, q, hq, cells, hc⟩ := hk
    refine blk_ne hc h.bl ?_
    rintro rfl
    revert hq
    decide) v1) (fun k hk => hk.1)
  exact ⟨blk_put h.bl 0 v1 rfl, (Below.heap_setCell W ⟨yl, 0, none⟩ v1 yf (Ne.symm h.ne)).trans h.bf, hfar _ _ _ h.bd (by decide), hfar _ _ _ h.bg (by decide), h.ne, h.l0, h.m0, h.y0, by simpa using h.y1, h.mp.far (p := ⟨yl, 0, none⟩) (h.mp.ne h.bl) v1, hty hr, hty h.rf⟩
/-- An append to the list has gone through. -/
theorem GS.grown (h : GS W base Y yl yf yd yg ym v ls fs A c M) {v1 : Value} {ls1 : List Int} (hg : W.grownBy W1 v.ownBlock) (hr : RI W1 base (fun k => Y ≤ k) v1 ls1) : GS (W1.setCell ⟨yl, 0, none⟩ v1) base Y yl yf yd yg ym v1 ls1 fs A c M := by
  obtain ⟨inner, ho⟩ := Kd.R_own h.rl
  have hblk : ∀ (k : Nat) (cells : Array Value) (t : TypeId), W.heap[k]? = some (.cells cells t (0, 0)) → t ≠ 2 → W1.heap[k]? = some (.cells cells t (0, 0)) := fun k cells t hk ht => (hg.block k (blk_lt hk) (Kd.R_ne h.rl hk (fun e => ht e.symm))).trans hk
  have h1 : RI W1 base (fun k => k < Y) (.slice A fs.length c) fs := Kd.R_grown h.rf hg (fun k hk e => by
    have := h.rl.1 k e.symm
    omega)
  have hm : MapB W1 ym M := by
    have hl := h.mp.lt
    have hne : some ym ≠ v.ownBlock := fun e => by
      obtain ⟨cells, hc⟩ := own_typed ho ym e.symm
      exact h.mp.ne hc rfl
    obtain ⟨es, q, h2, h3⟩ := h.mp
    exact ⟨es, q, (hg.block ym hl hne).trans h2, h3⟩
  have hfar : ∀ (k : Nat) (cells : Array Value) (t : TypeId), W1.heap[k]? = some (.cells cells t (0, 0)) → t ≠ 22 → (W1.setCell ⟨yl, 0, none⟩ v1).heap[k]? = some (.cells cells t (0, 0)) := fun k cells t hk ht => (Below.heap_setCell W1 ⟨yl, 0, none⟩ v1 k (blk_ne hk (hblk _ _ _ h.bl (by decide)) ht)).trans hk
  have hty : ∀ {ok : Nat → Prop} {u : Value} {us : List Int}, RI W1 base ok u us → RI (W1.setCell ⟨yl, 0, none⟩ v1) base ok u us := fun hu => Kd.R_mono (Kd.R_far (Kd.R_bound hu) (p := ⟨yl, 0, none⟩) (fun k hk => by
    obtain ⟨_, _, _, q, hq, cells, hc⟩ := hk
    refine blk_ne hc (hblk _ _ _ h.bl (by decide)) ?_
    rintro rfl
    revert hq
    decide) v1) (fun k hk => hk.1)
  exact ⟨blk_put (hblk _ _ _ h.bl (by decide)) 0 v1 rfl, (Below.heap_setCell W1 ⟨yl, 0, none⟩ v1 yf (Ne.symm h.ne)).trans (hblk _ _ _ h.bf (by decide)), hfar _ _ _ (hblk _ _ _ h.bd (by decide)) (by decide), hfar _ _ _ (hblk _ _ _ h.bg (by decide)) (by decide), h.ne, h.l0, h.m0, h.y0, by have := hg.size; simp; exact Nat.le_trans h.y1 this, hm.far (p := ⟨yl, 0, none⟩) (hm.ne (hblk _ _ _ h.bl (by decide))) v1, hty hr, hty h1⟩
/-- The map has been written. -/
theorem GS.put (h : GS W base Y yl yf yd yg ym v ls fs A c M) (hg : W.grownBy W1 (some ym)) (hs : W1.heap.size = W.heap.size) {M1 : List (Int × Bool)} (hm : MapB W1 ym M1) : GS W1 base Y yl yf yd yg ym v ls fs A c M1 := by
  have hblk : ∀ (k : Nat) (cells : Array Value) (t : TypeId), W.heap[k]? = some (.cells cells t (0, 0)) → W1.heap[k]? = some (.cells cells t (0, 0)) := fun k cells t hk => (hg.block k (blk_lt hk) (fun e => h.mp.ne (b := ym) (by injection e with e; rw [← e]; exact hk) rfl)).trans hk
  have hr : ∀ {ok : Nat → Prop} {u : Value} {us : List Int}, RI W base ok u us → RI W1 base ok u us := fun hu => Kd.R_mono (Kd.R_step (Kd.R_bound hu) (fun k hk hlt => hg.block k hlt (fun e => by
    obtain ⟨_, _, _, q, _, cells, hc⟩ := hk
    injection e with e
    subst e
    exact h.mp.ne hc rfl))) (fun k hk => hk.1)
  exact ⟨hblk _ _ _ h.bl, hblk _ _ _ h.bf, hblk _ _ _ h.bd, hblk _ _ _ h.bg, h.ne, h.l0, h.m0, h.y0, by rw [hs]; exact h.y1, hm, hr h.rl, hr h.rf⟩
end
/-- The map tells what the list of flags tells. -/
def MD (M : List (Int × Bool)) (dead : List Bool) (N : Nat) : Prop := dead.length = N ∧ ∀ u : Nat, u < N → getM M (u : Int) = dead.getD u false
theorem MD.set {M : List (Int × Bool)} {dead : List Bool} {N u : Nat} (h : MD M dead N) (hu : u < N) : MD (putM M (u : Int) true) (dead.set u true) N := by
  refine ⟨by simpa using h.1, fun x hx => ?_⟩
  rw [getM_put, List.getD_eq_getElem?_getD, List.getElem?_set]
  by_cases he : (x : Int) = (u : Int)
  · rw [if_pos he, if_pos (by omega), if_pos (by have := h.1; omega)]; rfl
  · rw [if_neg he, if_neg (by omega), h.2 x hx, List.getD_eq_getElem?_getD]
section
variable {P : Program} {ops : Array Oper} {Q : Exit → Act → World → Prop} {a : Act} {w : World} {oi : Oper}
end
section
variable {fs ls : List Int} {rec : List Int → Nat → List Bool → List Int × Bool × List Bool} {u i : Nat} {dead : List Bool} {f : Int}
end
end Go.Proofs.Ytomdfjohnmikdaa.Im
namespace Go.Proofs.Ytomdfjohnmikdaa.Ext
open Go.Shelf
def sortLay_ren : Go.Shelf.Ren := ⟨fun | 5 => 176 | 8 => 196 | 7 => 195 | 19 => 211 | 20 => 212 | 10 => 203 | 11 => 204 | 12 => 205 | 13 => 206 | 14 => 207 | 15 => 208 | 16 => 187 | 17 => 209 | 18 => 210 | 30 => 213 | 31 => 214 | 32 => 215 | 33 => 216 | 34 => 217 | 35 => 199 | 40 => 218 | n => n, fun | 23 => 22 | 25 => 2 | 3 => 3 | 32 => 143 | 22 => 22 | 0 => 0 | 44 => 171 | 46 => 94 | 4 => 4 | 36 => 165 | 35 => 164 | 41 => 116 | 5 => 5 | 9 => 9 | 53 => 172 | 57 => 176 | 63 => 178 | 64 => 179 | n => n, fun | n => n⟩
theorem sortLay : Go.Proofs.SlLaysM.n5 Try.prog sortLay_ren := {
  mixed := by kernel_rfl
  f5 := ⟨Try.f176.name, by decide, Try.func176.trans (congrArg some (by kernel_rfl))⟩
  f7 := ⟨Try.f195.name, by decide, Try.func195.trans (congrArg some (by kernel_rfl))⟩
  f8 := Try.func196.trans (congrArg some (by kernel_rfl))
  f10 := ⟨Try.f203.name, by decide, Try.func203.trans (congrArg some (by kernel_rfl))⟩
  f11 := ⟨Try.f204.name, by decide, Try.func204.trans (congrArg some (by kernel_rfl))⟩
  f12 := ⟨Try.f205.name, by decide, Try.func205.trans (congrArg some (by kernel_rfl))⟩
  f13 := ⟨Try.f206.name, by decide, Try.func206.trans (congrArg some (by kernel_rfl))⟩
  f14 := ⟨Try.f207.name, by decide, Try.func207.trans (congrArg some (by kernel_rfl))⟩
  f15 := ⟨Try.f208.name, by decide, Try.func208.trans (congrArg some (by kernel_rfl))⟩
  f16 := ⟨Try.f187.name, by decide, Try.func187.trans (congrArg some (by kernel_rfl))⟩
  f17 := ⟨Try.f209.name, by decide, Try.func209.trans (congrArg some (by kernel_rfl))⟩
  f18 := ⟨Try.f210.name, by decide, Try.func210.trans (congrArg some (by kernel_rfl))⟩
  f19 := Try.func211.trans (congrArg some (by kernel_rfl))
  f20 := Try.func212.trans (congrArg some (by kernel_rfl))
  f30 := ⟨Try.f213.name, by decide, Try.func213.trans (congrArg some (by kernel_rfl))⟩
  f31 := Try.func214.trans (congrArg some (by kernel_rfl))
  f32 := Try.func215.trans (congrArg some (by kernel_rfl))
  f33 := ⟨Try.f216.name, by decide, Try.func216.trans (congrArg some (by kernel_rfl))⟩
  f34 := ⟨Try.f217.name, by decide, Try.func217.trans (congrArg some (by kernel_rfl))⟩
  f35 := ⟨Try.f199.name, by decide, Try.func199.trans (congrArg some (by kernel_rfl))⟩
  f40 := ⟨Try.f218.name, by decide, Try.func218.trans (congrArg some (by kernel_rfl))⟩
  t0 := Try.underlying0
  a0 := Try.isAgg0
  z0 := Try.sizeOf0
  v0 := Try.zeroValue0
  t3 := Try.underlying3
  a3 := Try.isAgg3
  z3 := Try.sizeOf3
  v3 := Try.zeroValue3
  t4 := Try.underlying4
  a4 := Try.isAgg4
  z4 := Try.sizeOf4
  v4 := Try.zeroValue4
  t5 := Try.underlying5
  a5 := Try.isAgg5
  z5 := Try.sizeOf5
  v5 := Try.zeroValue5
  t9 := Try.underlying9
  a9 := Try.isAgg9
  z9 := Try.sizeOf9
  v9 := Try.zeroValue9
  t22 := Try.underlying22
  a22 := Try.isAgg22
  z22 := Try.sizeOf22
  v22 := Try.zeroValue22
  t23 := Try.underlying22
  a23 := Try.isAgg22
  z23 := Try.sizeOf22
  v23 := Try.zeroValue22
  t25 := Try.underlying2
  a25 := Try.isAgg2
  z25 := Try.sizeOf2
  v25 := Try.zeroValue2
  t32 := Try.underlying143
  a32 := Try.isAgg143
  z32 := Try.sizeOf143
  v32 := Try.zeroValue143
  t35 := Try.underlying164
  a35 := Try.isAgg164
  z35 := Try.sizeOf164
  v35 := Try.zeroValue164
  t36 := Try.underlying165
  a36 := Try.isAgg165
  z36 := Try.sizeOf165
  v36 := Try.zeroValue165
  t41 := Try.underlying116
  a41 := Try.isAgg116
  z41 := Try.sizeOf116
  v41 := Try.zeroValue116
  t44 := Try.underlying171
  a44 := Try.isAgg171
  z44 := Try.sizeOf171
  v44 := Try.zeroValue171
  t46 := Try.underlying94
  a46 := Try.isAgg94
  z46 := Try.sizeOf94
  v46 := Try.zeroValue94
  t53 := Try.underlying172
  a53 := Try.isAgg172
  z53 := Try.sizeOf172
  v53 := Try.zeroValue172
  t57 := Try.underlying176
  a57 := Try.isAgg176
  z57 := Try.sizeOf176
  v57 := Try.zeroValue176
  t63 := Try.underlying178
  a63 := Try.isAgg178
  z63 := Try.sizeOf178
  v63 := Try.zeroValue178
  t64 := Try.underlying179
  a64 := Try.isAgg179
  z64 := Try.sizeOf179
  v64 := Try.zeroValue179 }
end Go.Proofs.Ytomdfjohnmikdaa.Ext
namespace Go.Proofs.Ytomdfjohnmikdaa.Im
set_option linter.unusedVariables false
set_option linter.unusedSimpArgs false
open Go.RowKit Go.Shelf Go.Proofs.Ytomdfjohnmikdaa.Ext Go.Proofs.YtomdfjohnmikdaaW.PrintWords Go.Proofs.YtomdfjohnmikdaaW.PrintLast Go.Proofs.YtomdfjohnmikdaaW.PrintMore
attribute [local go_sem] Oper.semAt_some
set_option maxRecDepth 100000 in
set_option maxHeartbeats 2000000 in
theorem values1_in (F : Fence) (n : Nat) (h7 : F.fn 177) (hro : F.round = none) (hn : 1 ≤ n) (l Bs n₂ cap len : Nat) (A : Option Addr) (xs : List Int) (hlen : xs.length = len) (hreach : len * 8 ≤ 140737488351232) (hB2 : Bs < n₂) (J Jx : List Int → World → Prop)
    (hY : ∀ pre x W, J pre W → pre.length < len → YieldAt F (n - 1) Try.prog l #[.int .i64 x] W fun e W' =>
      (e = .returned (.bool true) ∧ J (pre ++ [x]) W' ∧ Rng 0 n₂ W W') ∨ (e = .returned (.bool false) ∧ Jx (pre ++ [x]) W'))
    (W : World) (hBs : W.cell? ⟨Bs, 0, none⟩ = some (.slice A len cap)) (hc : ∀ W1, Rng 0 n₂ W W1 → ∀ j, j < len → ∃ g, A = some g ∧ W1.cell? (g.add j) = some (.int .i64 (xs[j]?.getD 0))) (h0 : J [] W) :
    CallsIn F n Try.prog 177 #[.func (.yield l) #[] #[], .pointer (some ⟨Bs, 0, none⟩)] W fun e W' => (∃ v, e = .returned v) ∧
      ((∃ ys, ys = xs ∧ J ys W') ∨ (∃ pre, True ∧ Jx pre W')) := by
  refine callsIn_of_wp Try.func177 rfl h7 ?_ hro
  simp only [Try.ntmps177, List.size_toArray, List.length_cons, List.length_nil, Nat.reduceAdd, Nat.reduceSub, Array.replicate_succ, Array.replicate_zero, List.push_toArray, List.append_toArray, List.nil_append, List.cons_append]
  gi_wp2
  gi_loopw [7] (fun i wr => ∃ k : Nat, k ≤ len ∧ i = .int .i64 (k : Int) ∧ J (xs.take k) wr ∧ Aside0 (Rng 0 n₂ W wr))
    (fun i _ => ((len : Int) - intOf i).toNat)
  case atStart => exact ⟨0, Nat.zero_le _, rfl, h0, ⟨Rng.refl _ _ _⟩⟩
  case round =>
    obtain ⟨k, hk, rfl, hJs, hnx⟩ := hrel
    by_cases hlt : k < len
    · obtain ⟨g, rfl, hcx⟩ := hc wr hnx.out k hlt
      obtain ⟨y, hyy⟩ : ∃ y, xs[k]?.getD 0 = y := ⟨_, rfl⟩
      rw [hyy] at hcx
      have hkn : (k : Int) < (len : Int) := by omega
      have HC := Aside0.mk hc
      have HT : Aside0 (xs.take (k + 1) = xs.take k ++ [y]) := ⟨by rw [List.take_add_one, List.getElem?_eq_getElem (by omega)]; rw [List.getElem?_eq_getElem (by omega)] at hyy; simp at hyy; simp [hyy]⟩
      obtain ⟨fn, tmps, assign, body, hy, hR⟩ := hY _ y wr hJs (by rw [List.length_take]; omega)
      have HL := Aside0.mk hlen
      clear hc hyy hlen hY
      gi_wp2
      refine hR.mono ?_
      rintro e' W3 (⟨rfl, hJ3, hk3⟩ | ⟨rfl, hJx3⟩)
      · have hk3' := Aside0.mk hk3
        clear hk3
        gi_wp2
        go_roundw
        case rel => exact ⟨k + 1, by omega, by go_num, by rw [HT.out]; exact hJ3, ⟨hnx.out.trans hk3'.out⟩⟩
        case measure => simp [intOf] <;> omega
      · gi_wp2
        refine bodyPost_ret (results_none rfl _ _ _) rfl ?_
        exact ⟨⟨_, rfl⟩, .inr ⟨_, trivial, hJx3⟩⟩
    · obtain rfl : k = len := by omega
      have hkn : ¬ (k : Int) < (k : Int) := by omega
      rw [List.take_of_length_le (by omega)] at hJs
      clear hc hY
      gi_wp2
      go_end0
      exact ⟨⟨_, rfl⟩, .inl hJs⟩
theorem values_c (a : Option Addr) (len cap : Nat) (w : World) :
    Calls Try.prog 140 #[.slice a len cap] w fun e w' => e = .returned (.func (.func 177) #[] #[.pointer (some ⟨w.heap.size, 0, none⟩)]) ∧ w' = w.alloc (.cells #[.slice a len cap] 22) := by
  refine (callsIn_wide (n := 5)).1 ?_
  refine callsIn_of_wp Try.func140 rfl trivial ?_ rfl
  simp only [Try.ntmps140, List.size_toArray, List.length_cons, List.length_nil, Nat.reduceAdd, Nat.reduceSub, Array.replicate_succ, Array.replicate_zero, List.push_toArray, List.append_toArray, List.nil_append, List.cons_append]
  gi_wp2
  go_ret
  exact ⟨rfl, rfl⟩
theorem cell_lt' {w : World} {a : Addr} {v : Value} (h : w.cell? a = some v) : a.block < w.heap.size := by
  rcases Nat.lt_or_ge a.block w.heap.size with hk | hk
  · exact hk
  · unfold World.cell? at h
    rw [Array.getElem?_eq_none hk] at h
    cases h
theorem values_stops (F : Fence) (n : Nat) (h7 : F.fn 177) (hro : F.round = none) (hn : 1 ≤ n) (Bs cap : Nat) (A : Option Addr) (xs : List Int) (hreach : xs.length * 8 ≤ 140737488351232) (wv w : World) (hB2 : Bs < wv.heap.size) (hW : Below wv.heap.size wv w)
    (hc : wv.cell? ⟨Bs, 0, none⟩ = some (.slice A xs.length cap)) (hI : RC wv A xs.length xs) :
    SeqStopsK F n Try.prog 177 #[.pointer (some ⟨Bs, 0, none⟩)] (fun x : Int => #[Value.int .i64 x]) (Rng 0 wv.heap.size) (fun ys => ys = xs)
      (fun pre => True) xs.length w := fun l J Jx W hW' _ _ hY h0 => by
  have hkk : ∀ W1 : World, Rng 0 wv.heap.size W W1 → ∀ k, k < wv.heap.size → W1.heap[k]? = wv.heap[k]? := fun W1 h k hk => (h k (Nat.zero_le _) hk).trans ((hW'.block k (by have := hW.size; omega)).trans (hW.block k hk))
  have hc' := (World.cell?_of_block (hkk W (Rng.refl _ _ _) Bs hB2) : W.cell? ⟨Bs, 0, none⟩ = wv.cell? ⟨Bs, 0, none⟩).trans hc
  refine values1_in F n h7 hro hn l Bs wv.heap.size cap xs.length A xs rfl hreach hB2 J Jx hY W hc' (fun W1 hW1 j hj => ?_) h0
  obtain ⟨ad, e, hcx⟩ := hI.at_ (Below.refl _ _) hj
  exact ⟨ad, e, (World.cell?_of_block (hkk W1 hW1 _ (cell_lt' hcx))).trans hcx⟩
/-- 'out = append(out, x)', out in a box below the rows: what the round leaves. -/
theorem round_app2 {Wd w1 : World} {B t e k : Nat} {v v' : Value} {xs ys : List Value} {m : Nat} {tmp : Obj} (hv : Boxed Wd B t v) (hrow : Wd.ownsRow (B + 1) e 1 v k xs) (hg : (Wd.alloc tmp).grownBy w1 v.ownBlock) (ho : w1.ownsRow (B + 1) e 1 v' m ys)
    (hs : B + 1 ≤ Wd.heap.size) (hte : t ≠ e := by decide) :
    Boxed (w1.setCell ⟨B, 0, none⟩ v') B t v' ∧ (w1.setCell ⟨B, 0, none⟩ v').ownsRow (B + 1) e 1 v' m ys ∧ Rng 0 B Wd (w1.setCell ⟨B, 0, none⟩ v') ∧ KeepsOthers Wd (w1.setCell ⟨B, 0, none⟩ v') ∧ Below B Wd (w1.setCell ⟨B, 0, none⟩ v') := by
  have hr2 := own_weaken hrow (show B ≤ B + 1 by omega)
  have ho2 := own_weaken ho (show B ≤ B + 1 by omega)
  obtain ⟨h1, h2, h3, h4, h5⟩ := hv.appended hte hr2 (by omega) (Nat.le_refl B) ho2 hg
  have hb : ∀ b, b < B → (w1.setCell ⟨B, 0, none⟩ v').heap[b]? = Wd.heap[b]? := by
    intro b hb1
    rw [Below.heap_setCell _ _ _ _ (by show b ≠ B; omega), hg.block b (by simp; omega) (fun e => by have := own_base hrow b e.symm; omega)]
    exact Below.heap_alloc _ _ _ (by omega)
  refine ⟨h2, ?_, fun b _ hb2 => hb b hb2, h4, h5⟩
  exact ho.kept (grownBy_setCell' w1 B v') (.inr ((h1.not_row hte ho).symm))
/-- The loop's relation. -/
def AI (w : World) (pre : List Int) (W : World) : Prop :=
  ((∃ v, Boxed W w.heap.size 22 v ∧ W.ownsRow (w.heap.size + 1) 2 1 v pre.length (pre.map (Value.int .i64)) ∧ True) ∧ w.heap.size + 1 ≤ W.heap.size) ∧ Below w.heap.size w W
theorem app_body {w W Wd w1 : World} {pre : List Int} {x : Int} {v v' : Value} {tmp : Obj} {B : Nat} (U1 : Boxed Wd w.heap.size 22 v) (U2 : Wd.ownsRow (w.heap.size + 1) 2 1 v pre.length (pre.map (Value.int .i64)))
    (X2 : (Wd.alloc tmp).grownBy w1 v.ownBlock) (X1 : w1.ownsRow (w.heap.size + 1) 2 1 v' (pre.length + 1) (pre.map (Value.int .i64) ++ [.int .i64 x])) (U3 : Below w.heap.size w Wd) (U4 : KeepsOthers W Wd)
    (U5 : Rng 0 w.heap.size W Wd) (U8 : w.heap.size + 1 ≤ Wd.heap.size) :
    KeepsFrom B W (w1.setCell ⟨w.heap.size, 0, none⟩ v') ∧ Rng 0 w.heap.size W (w1.setCell ⟨w.heap.size, 0, none⟩ v') ∧ AI w (pre ++ [x]) (w1.setCell ⟨w.heap.size, 0, none⟩ v') := by
  obtain ⟨G1, G2, G3, G4, G6⟩ := round_app2 U1 U2 X2 X1 U8
  refine ⟨(U4.trans G4).from _, U5.trans G3, ⟨⟨_, G1, ?_, trivial⟩, Nat.le_trans U8 G4.size⟩, U3.trans G6⟩
  simpa using G2
set_option maxRecDepth 100000 in
set_option maxHeartbeats 2000000 in
theorem appendSeq_c (Bs cap : Nat) (A : Option Addr) (xs : List Int) (w : World) (hx : xs.length ≤ 1048576) (hB2 : Bs < w.heap.size) (hc : w.cell? ⟨Bs, 0, none⟩ = some (.slice A xs.length cap)) (hI : RC w A xs.length xs) :
    Calls Try.prog 194 #[.slice none 0 0, .func (.func 177) #[] #[.pointer (some ⟨Bs, 0, none⟩)]] w fun e w' => ∃ v, e = .returned v ∧ RO w' w.heap.size v xs ∧ Below w.heap.size w w' := by
  have h1 : 1 ≤ 5 := by omega
  obtain ⟨i0, hi, hz0, hz1, hz2⟩ := info_parts info64
  refine (callsIn_wide (n := 5)).1 ?_
  refine callsIn_of_wp_marks Try.func194 rfl trivial ?_ rfl
  simp only [Try.ntmps194, List.size_toArray, List.length_cons, List.length_nil, Nat.reduceAdd, Nat.reduceSub, Array.replicate_succ, Array.replicate_zero, List.push_toArray, List.append_toArray, List.nil_append, List.cons_append]
  have B1 := Aside0.mk (Boxed.new w 22 (.slice none 0 0))
  have HBw := Aside0.mk (Below.alloc (Below.refl w.heap.size w) (Nat.le_refl _) (.cells #[.slice none 0 0] 22))
  have HC := Aside0.mk hc
  have HI := Aside0.mk hI
  clear hc hI
  gi_wp2
  refine wpIn_rangeFunc_ownG rfl h1 (gf := 177) (lb := #[.pointer (some ⟨Bs, 0, none⟩)]) rfl trivial (enters_of Try.func177 (by kernel_rfl) rfl)
    (values_stops Fence.wide (5 - 1) trivial rfl (by omega) Bs cap A xs (by omega) w _ hB2 HBw.out HC.out HI.out)
    (fun h k => h.trans k) (Rng.putObj (by simp)) (Below.refl _ _) (fun _ => rfl)
    (AI w)
    (fun _ _ _ => False)
    (OwnFrom.and (OwnFrom.and (Own.from (holdsRow_own (w.heap.size + 1) w.heap.size 22 2 1 (fun pre : List Int => pre.length) (fun pre : List Int => pre.map (Value.int .i64)) (fun _ _ => True)) _) (Own.from (fun s A B row hs hg hr => Nat.le_trans hs hg.size) _)) (ownFrom_below (Nat.le_refl _) (by simp)))
    (fun _ _ _ _ _ hs _ _ => hs)
    ⟨⟨⟨_, B1.out, World.ownsRow_nil _ _ _ _, trivial⟩, by simp⟩, HBw.out⟩
    (fun x => { tmps := #[.slice none 0 0, .func (.func 177) #[] #[.pointer (some ⟨Bs, 0, none⟩)], .pointer (some ⟨w.heap.size, 0, none⟩), undef, .slice none 0 0, .int .i64 x, .func (.func 177) #[] #[.pointer (some ⟨Bs, 0, none⟩)], .int .i64 x, undef, undef, undef, undef, undef], defers := [] }) ?assign ?body ?done ?stop
  case assign =>
    intro l x W K hK
    gi_wp2
    exact hK
  case body =>
    rintro l pre x W ⟨⟨⟨v, hv, hrow, _⟩, hsW⟩, hB⟩ hlt
    have U1 := Aside0.mk hv; have U2 := Aside0.mk hrow; have U3 := Aside0.mk hB; have U8 := Aside0.mk hsW
    have V7 := hv.cell
    clear hv hrow hB hsW
    gi_wp2_with (gi_at_builtin; refine wpListIn_append_own _ rfl (.tmp 8) (.tmp 10) 22 rfl (w.heap.size + 1) 2 i0 (.int .i64 0) 1 8 Try.underlying22 hi hz0 hz1 hz2 rfl (by decide) v _ _ rfl (U2.out.alloc _) ⟨W.heap.size, 0, none⟩ 1 1 [.int .i64 x] rfl rfl (cell_one_new _ _ _) (by simp [Value.oneCell']) (by simp only [maxLen]; omega) (by omega) ?hsz ?_; (case hsz => have := U8.out; simp; omega); intro v' w1 hown' hgrow hnn; clear hnn; obtain ⟨g', cap', rfl⟩ := ownsRow_succ hown'; have hv1 : Boxed w1 w.heap.size 22 v := (U1.out.alloc _).kept hgrow (U1.out.not_row (by decide) U2.out); have hc1 := hv1.cell; have hf1 := hv1.frozen; have X1 := Aside0.mk hown'; have X2 := Aside0.mk hgrow; have X3 := Aside0.mk hv1; clear hown' hgrow hv1 V7)
    exact app_body U1.out U2.out X2.out X1.out U3.out (KeepsOthers.refl _) (Rng.refl _ _ _) U8.out
  case done =>
    rintro D ys W hD rfl ⟨⟨⟨v, hv, hrow, _⟩, hsW⟩, hB⟩ hK
    have hc := hv.cell
    gi_wp2
    refine ⟨by simp, .inl ⟨_, _, rfl, run_takeDeferred hK, ?_⟩⟩
    have hD' : w.heap.size + 1 ≤ D := by simpa using hD
    exact ⟨_, results_tmp rfl _ _ _, v, rfl, RO.of_row (own_weaken (ownsRow_putObj hrow _ hK rfl) (by omega)), hB.trans (belowK_b (w := w) (Nat.le_refl _) W D _ _ (by omega) hK rfl rfl)⟩
  case stop =>
    rintro D c pre W _ _ h _
    exact h.elim
/-- The sorted list. -/
def sortL (xs : List Int) : List Int := xs.mergeSort fun x y => decide (x ≤ y)
theorem sort_c {w : World} {base : Nat} {v : Value} {xs : List Int} (hb0 : base ≤ w.heap.size) (hx : xs.length ≤ 1048576) (h : RO w base v xs) :
    Calls Try.prog 176 #[v] w fun e w' => e = .returned (.tuple #[]) ∧ RO w' base v (sortL xs) ∧ Below base w w' := by
  have hrow := h.row
  have hl : (sortL xs).length = xs.length := List.length_mergeSort _
  rcases hrow.2 with ⟨rfl, e0⟩ | ⟨g, cap, cur, rfl, hbase, hb, h1, h2, h3, h4⟩
  · obtain rfl : xs = [] := List.eq_nil_of_length_eq_zero e0
    refine (AnyM.slices_Sort_int_none sortLay none 0 w).mono ?_
    rintro e w' ⟨rfl, rfl⟩
    exact ⟨rfl, by rw [show sortL [] = [] by simp [sortL]]; exact h, Below.refl _ _⟩
  · refine (AnyM.slices_Sort_int sortLay g 0 cap xs w (holds_of_blockI hb (by simpa using h4)) (Array.getElem?_eq_some_iff.1 hb).1 (by omega)).mono ?_
    rintro e w' ⟨rfl, n, os, rfl⟩
    refine ⟨rfl, RO.of_row ?_, (Below.refl base w).grown (grownBy_sortedI _) hb0 ?_⟩
    · rw [hl]
      exact ownsRow_sortedI (n := n) (os := os) (ts := sortL xs) hl hbase hb h1 h2 h3
    · intro k e; simp at e; omega
theorem sort_mem {xs : List Int} {x : Int} : x ∈ sortL xs ↔ x ∈ xs := List.mem_mergeSort
set_option maxRecDepth 100000 in
set_option maxHeartbeats 2000000 in
theorem collect_c (Bs cap : Nat) (A : Option Addr) (xs : List Int) (w : World) (hx : xs.length ≤ 1048576) (hB2 : Bs < w.heap.size) (hc : w.cell? ⟨Bs, 0, none⟩ = some (.slice A xs.length cap)) (hI : RC w A xs.length xs) :
    Calls Try.prog 175 #[.func (.func 177) #[] #[.pointer (some ⟨Bs, 0, none⟩)]] w fun e w' => ∃ v, e = .returned v ∧ RO w' w.heap.size v xs ∧ Below w.heap.size w w' := by
  refine calls_of_wp Try.func175 rfl ?_
  simp only [Try.ntmps175, List.size_toArray, List.length_cons, List.length_nil, Nat.reduceAdd, Nat.reduceSub, Array.replicate_succ, Array.replicate_zero, List.push_toArray, List.append_toArray, List.nil_append, List.cons_append]
  go_wp2_with (go_at_call 194; refine (appendSeq_c Bs cap A xs _ hx hB2 hc hI).mono ?_; rintro e w1 ⟨v, rfl, hR, hB⟩; have HR := Aside0.mk hR; have HB := Aside0.mk hB; clear hR hB)
  go_ret
  exact ⟨_, rfl, HR.out, HB.out⟩
set_option maxRecDepth 100000 in
set_option maxHeartbeats 2000000 in
theorem sorted_c (Bs cap : Nat) (A : Option Addr) (xs : List Int) (w : World) (hx : xs.length ≤ 1048576) (hB2 : Bs < w.heap.size) (hc : w.cell? ⟨Bs, 0, none⟩ = some (.slice A xs.length cap)) (hI : RC w A xs.length xs) :
    Calls Try.prog 139 #[.func (.func 177) #[] #[.pointer (some ⟨Bs, 0, none⟩)]] w fun e w' => ∃ v, e = .returned v ∧ RO w' w.heap.size v (sortL xs) ∧ Below w.heap.size w w' := by
  refine calls_of_wp Try.func139 rfl ?_
  simp only [Try.ntmps139, List.size_toArray, List.length_cons, List.length_nil, Nat.reduceAdd, Nat.reduceSub, Array.replicate_succ, Array.replicate_zero, List.push_toArray, List.append_toArray, List.nil_append, List.cons_append]
  go_wp2_with (first
    | (go_at_call 175; refine (collect_c Bs cap A xs _ hx hB2 hc hI).mono ?_; rintro e w1 ⟨v, rfl, hR, hB⟩; have HR := Aside0.mk hR; have HB := Aside0.mk hB; clear hR hB; obtain ⟨g1, c1, rfl⟩ := Kd.R_slice HR.out)
    | (go_at_call 176; refine (sort_c HB.out.size hx HR.out).mono ?_; rintro e w2 ⟨rfl, hR2, hB2⟩; have HR2 := Aside0.mk hR2; have HB2 := Aside0.mk (HB.out.trans hB2); clear hR2 hB2 HR HB))
  go_ret
  exact ⟨_, rfl, HR2.out, HB2.out⟩
end Go.Proofs.Ytomdfjohnmikdaa.Im
namespace Go.Proofs.Ytomdfjohnmikdaa.QT
open Go.Proofs.Ytomdfjohnmikdaa.Cw Go.Proofs.Ytomdfjohnmikdaa.Kp Go.Proofs.Ytomdfjohnmikdaa.Ext Go.RowKit Go.Proofs.YtomdfjohnmikdaaW.PrintWords Go.Proofs.YtomdfjohnmikdaaW.PrintLast Go.Proofs.YtomdfjohnmikdaaW.PrintMore
attribute [local go_sem] max2_int min2_int max_two min_two max_three min_three max_four min_four   -- for this text's walks alone
set_option linter.unusedVariables false
set_option linter.unusedSimpArgs false
def errW : Option Int → Value
 | none => .nilIface
 | some c => .iface 0 (.int .i64 c)
theorem errW_none : errW none = .nilIface := rfl
theorem errW_some (c : Int) : errW (some c) = .iface 0 (.int .i64 c) := rfl
end Go.Proofs.Ytomdfjohnmikdaa.QT
namespace Go.Proofs.Ytomdfjohnmikdaa.QT
open Go.Proofs.Ytomdfjohnmikdaa.Cw Go.Proofs.Ytomdfjohnmikdaa.Kp Go.Proofs.Ytomdfjohnmikdaa.Ext Go.RowKit Go.Proofs.YtomdfjohnmikdaaW.PrintWords Go.Proofs.YtomdfjohnmikdaaW.PrintLast Go.Proofs.YtomdfjohnmikdaaW.PrintMore
attribute [local go_sem] max2_int min2_int max_two min_two max_three min_three max_four min_four   -- for this text's walks alone
set_option linter.unusedVariables false
set_option linter.unusedSimpArgs false
def slices_Equal_int64_int64.l0 : Nat → List Int → List Int → Int → Int → Option (Bool)
 | 0, _, _, _, _ => none
 | k + 1, x0, x1, x12, x13 => if x13 < x12 then (if 0 ≤ x13 then (if x13 < (x0.length : Int) then (if x13 < (x1.length : Int) then (if (rd x0 x13) = (rd x1 x13) then (slices_Equal_int64_int64.l0 k x0 x1 x12 (wrap64 (x13 + 1))) else (some false)) else (none)) else (none)) else (none)) else (some true)
def slices_Equal_int64_int64.f (k : Nat) (l0 : List Int) (l1 : List Int) : Option (Bool) := if (l0.length : Int) = (l1.length : Int) then (slices_Equal_int64_int64.l0 k l0 l1 (l0.length : Int) 0) else (some false)
set_option maxHeartbeats 8000000 in
set_option maxRecDepth 100000 in
theorem slices_Equal_int64_int64.calls (k : Nat) (A0 : Option Addr) (c0 : Nat) (l0 : List Int) (A1 : Option Addr) (c1 : Nat) (l1 : List Int) (r : Bool) (w : World) (hr0 : Kd.C (Kd.int .i64) w A0 l0.length l0) (hc0 : l0.length ≤ c0) (hr1 : Kd.C (Kd.int .i64) w A1 l1.length l1) (hc1 : l1.length ≤ c1) (h : slices_Equal_int64_int64.f k l0 l1 = some r) :
  Calls Try.prog 72 #[.slice A0 l0.length c0, .slice A1 l1.length c1] w fun e w' => e = .returned (.bool r) ∧ Drawn0 w w' := by
 have HR0 := Aside0.mk hr0
 have HC0 := Aside0.mk hc0
 clear hr0 hc0
 have HR1 := Aside0.mk hr1
 have HC1 := Aside0.mk hc1
 clear hr1 hc1
 have H : (if (l0.length : Int) = (l1.length : Int) then (slices_Equal_int64_int64.l0 k l0 l1 (l0.length : Int) 0) else (some false)) = some r := h
 clear h
 by_cases c3 : (l0.length : Int) = (l1.length : Int)
 ·rw [if_pos c3] at H
  have c3b0 : ((l0.length : Int) == (l1.length : Int)) = true := beq_iff_eq.mpr c3
  have c3b1 : ((l0.length : Int) != (l1.length : Int)) = false := bne_eq_false_iff_eq.mpr c3
  have c3b2 : (l0.length == l1.length) = true := by first | simpa using c3 | (simp at c3 ⊢; omega)
  clear c3
  have H' := Aside0.mk H
  clear H
  go_enter Try.func72, Try.ntmps72
  go_wp2
  repeat (go_quiet (fail); try go_wp2)
  go_loopg [13] k (fun kq v13 w' => ∃ (x13_1 : Int), v13 = .int .i64 x13_1 ∧ Aside0 (slices_Equal_int64_int64.l0 kq l0 l1 (l0.length : Int) x13_1 = some r) ∧ Aside0 (kq ≤ k) ∧ Drawn0 w w')
  case atStart => exact ⟨(0), (by first | rfl | (simp; done) | (simp [*]; done)), H', ⟨Nat.le_refl _⟩, by repeat (first | exact Drawn0.refl _ | apply Drawn0.step)⟩
  case round =>
   clear H'
   try clear c1
   try clear p2
   try clear c3
   try clear c3b0
   try clear c3b1
   try clear c3b2
   obtain ⟨x13_1, rfl, HA, HK1, ⟨m1, rfl⟩⟩ := hrel
   cases gk with
   | zero => exact absurd HA.out (by simp [slices_Equal_int64_int64.l0])
   | succ k1 =>
    have H := HA.out
    clear HA
    simp only [slices_Equal_int64_int64.l0] at H
    by_cases c4 : x13_1 < (l0.length : Int)
    ·rw [if_pos c4] at H
     have c4b0 : decide (x13_1 < (l0.length : Int)) = true := decide_eq_true c4
     clear c4
     by_cases c5 : 0 ≤ x13_1
     ·rw [if_pos c5] at H
      have c5b0 : decide (0 ≤ x13_1) = true := decide_eq_true c5
      clear c5
      by_cases c6 : x13_1 < (l0.length : Int)
      ·rw [if_pos c6] at H
       have c6b0 : decide (x13_1 < (l0.length : Int)) = true := decide_eq_true c6
       clear c6
       by_cases c7 : x13_1 < (l1.length : Int)
       ·rw [if_pos c7] at H
        have c7b0 : decide (x13_1 < (l1.length : Int)) = true := decide_eq_true c7
        clear c7
        by_cases c8 : (rd l0 x13_1) = (rd l1 x13_1)
        ·rw [if_pos c8] at H
         have c8b0 : ((rd l0 x13_1) == (rd l1 x13_1)) = true := beq_iff_eq.mpr c8
         have c8b1 : ((rd l0 x13_1) != (rd l1 x13_1)) = false := bne_eq_false_iff_eq.mpr c8
         clear c8
         have H' := Aside0.mk H
         clear H
         have p101 : 0 ≤ (x13_1 : Int) := of_decide_eq_true (by first | (with_reducible assumption) | assumption)
         have q101 : x13_1 < (l0.length : Int) := of_decide_eq_true (by first | (with_reducible assumption) | assumption)
         obtain ⟨ad101, e101, hx101_0⟩ := Kd.at_int HR0.out x13_1 p101 q101
         cases e101
         replace p101 := eq_true p101
         replace q101 := eq_true q101
         have p102 : 0 ≤ (x13_1 : Int) := of_decide_eq_true (by first | (with_reducible assumption) | assumption)
         have q102 : x13_1 < (l1.length : Int) := of_decide_eq_true (by first | (with_reducible assumption) | assumption)
         obtain ⟨ad102, e102, hx102_0⟩ := Kd.at_int HR1.out x13_1 p102 q102
         cases e102
         replace p102 := eq_true p102
         replace q102 := eq_true q102
         go_wp2
         repeat (go_quiet (fail); try go_wp2)
         go_roundg k1
         case measure => have := HK1.out; omega
         case rel => exact ⟨(wrap64 (x13_1 + 1)), (by first | rfl | (simp; done) | (simp [*]; done)), H', ⟨by have := HK1.out; omega⟩, by repeat (first | exact Drawn0.refl _ | apply Drawn0.step)⟩
        ·rw [if_neg c8] at H
         have c8b0 : ((rd l0 x13_1) == (rd l1 x13_1)) = false := beq_eq_false_iff_ne.mpr c8
         have c8b1 : ((rd l0 x13_1) != (rd l1 x13_1)) = true := bne_iff_ne.mpr c8
         obtain rfl := Option.some.inj H
         have p101 : 0 ≤ (x13_1 : Int) := of_decide_eq_true (by first | (with_reducible assumption) | assumption)
         have q101 : x13_1 < (l0.length : Int) := of_decide_eq_true (by first | (with_reducible assumption) | assumption)
         obtain ⟨ad101, e101, hx101_0⟩ := Kd.at_int HR0.out x13_1 p101 q101
         cases e101
         replace p101 := eq_true p101
         replace q101 := eq_true q101
         have p102 : 0 ≤ (x13_1 : Int) := of_decide_eq_true (by first | (with_reducible assumption) | assumption)
         have q102 : x13_1 < (l1.length : Int) := of_decide_eq_true (by first | (with_reducible assumption) | assumption)
         obtain ⟨ad102, e102, hx102_0⟩ := Kd.at_int HR1.out x13_1 p102 q102
         cases e102
         replace p102 := eq_true p102
         replace q102 := eq_true q102
         go_wp2
         repeat (go_quiet (fail); try go_wp2)
         go_ret
         exact ⟨by first | rfl | (simp; done) | (simp [*]; done), by repeat (first | exact Drawn0.refl _ | apply Drawn0.step)⟩
       ·rw [if_neg c7] at H
        exact absurd H (by simp)
      ·rw [if_neg c6] at H
       exact absurd H (by simp)
     ·rw [if_neg c5] at H
      exact absurd H (by simp)
    ·rw [if_neg c4] at H
     have c4b0 : decide (x13_1 < (l0.length : Int)) = false := decide_eq_false c4
     clear c4
     obtain rfl := Option.some.inj H
     go_wp2
     repeat (go_quiet (fail); try go_wp2)
     go_ret
     exact ⟨by first | rfl | (simp; done) | (simp [*]; done), by repeat (first | exact Drawn0.refl _ | apply Drawn0.step)⟩
 ·rw [if_neg c3] at H
  have c3b0 : ((l0.length : Int) == (l1.length : Int)) = false := beq_eq_false_iff_ne.mpr c3
  have c3b1 : ((l0.length : Int) != (l1.length : Int)) = true := bne_iff_ne.mpr c3
  have c3b2 : (l0.length == l1.length) = false := by first | simpa using c3 | (simp at c3 ⊢; omega)
  obtain rfl := Option.some.inj H
  go_enter Try.func72, Try.ntmps72
  go_wp2
  repeat (go_quiet (fail); try go_wp2)
  go_ret
  exact ⟨by first | rfl | (simp; done) | (simp [*]; done), by repeat (first | exact Drawn0.refl _ | apply Drawn0.step)⟩
end Go.Proofs.Ytomdfjohnmikdaa.QT
namespace Go.Proofs.Ytomdfjohnmikdaa.Ext
set_option linter.unusedVariables false
set_option linter.unusedSimpArgs false
open Go.RowKit Go.Proofs.Ytomdfjohnmikdaa.Im Go.Proofs.YtomdfjohnmikdaaW.PrintWords Go.Proofs.YtomdfjohnmikdaaW.PrintLast Go.Proofs.YtomdfjohnmikdaaW.PrintMore
def impl_Complex_facets.f (a0_0 : Int) (l0_1 : List Int) : Option (List Int) := if isC a0_0 l0_1 = true then some (facetsL l0_1) else none
theorem impl_Complex_facets.calls (a0_0 : Int) (A0_1 : Option Addr) (c0_1 : Nat) (l0_1 : List Int) (r : List Int) (w : World) (hr0_1 : Kd.C (Kd.int .i64) w A0_1 l0_1.length l0_1) (_hc0_1 : l0_1.length ≤ c0_1) (h : impl_Complex_facets.f a0_0 l0_1 = some r) :
    Calls Try.prog 84 #[.agg #[.int .i64 a0_0, .slice A0_1 l0_1.length c0_1]] w fun e w' => ∃ v0_ : Value, e = .returned (v0_) ∧ Kd.R (Kd.int .i64) 2 w' w.heap.size (fun _ => True) v0_ r ∧ Below w.heap.size w w' := by
  unfold impl_Complex_facets.f at h
  by_cases hl : isC a0_0 l0_1 = true
  · rw [if_pos hl] at h
    obtain rfl := Option.some.inj h
    exact facets_c a0_0 A0_1 l0_1.length c0_1 l0_1 w hr0_1 hl
  · rw [if_neg hl] at h; cases h
end Go.Proofs.Ytomdfjohnmikdaa.Ext
namespace Go.Proofs.Ytomdfjohnmikdaa.Ext
set_option linter.unusedVariables false
set_option linter.unusedSimpArgs false
open Go.RowKit Go.Proofs.Ytomdfjohnmikdaa.Im Go.Proofs.Ytomdfjohnmikdaa.Kp Go.Proofs.YtomdfjohnmikdaaW.PrintWords Go.Proofs.YtomdfjohnmikdaaW.PrintLast Go.Proofs.YtomdfjohnmikdaaW.PrintMore
def impl_Complex_isPure.f (a0_0 : Int) (l0_1 : List Int) : Option (Bool) := if isC a0_0 l0_1 = true then some (pureB l0_1) else none
theorem impl_Complex_isPure.calls (a0_0 : Int) (A0_1 : Option Addr) (c0_1 : Nat) (l0_1 : List Int) (r : Bool) (w : World) (hr0_1 : Kd.C (Kd.int .i64) w A0_1 l0_1.length l0_1) (_hc0_1 : l0_1.length ≤ c0_1) (h : impl_Complex_isPure.f a0_0 l0_1 = some r) :
    Calls Try.prog 133 #[.agg #[.int .i64 a0_0, .slice A0_1 l0_1.length c0_1]] w fun e w' => e = .returned (.bool r) ∧ Below w.heap.size w w' := by
  unfold impl_Complex_isPure.f at h
  by_cases hl : isC a0_0 l0_1 = true
  · rw [if_pos hl] at h
    have hd := Option.some.inj h
    rw [← hd]
    exact isPure_c a0_0 A0_1 l0_1.length c0_1 l0_1 w hr0_1 _hc0_1 hl
  · rw [if_neg hl] at h; cases h
end Go.Proofs.Ytomdfjohnmikdaa.Ext
namespace Go.Proofs.Ytomdfjohnmikdaa.QJ
open Go.Proofs.Ytomdfjohnmikdaa.Cw Go.Proofs.Ytomdfjohnmikdaa.Kp Go.Proofs.Ytomdfjohnmikdaa.Ext Go.RowKit Go.Proofs.YtomdfjohnmikdaaW.PrintWords Go.Proofs.YtomdfjohnmikdaaW.PrintLast Go.Proofs.YtomdfjohnmikdaaW.PrintMore
attribute [local go_sem] max2_int min2_int max_two min_two max_three min_three max_four min_four   -- for this text's walks alone
set_option linter.unusedVariables false
set_option linter.unusedSimpArgs false
def errW : Option Int → Value
 | none => .nilIface
 | some c => .iface 0 (.int .i64 c)
theorem errW_none : errW none = .nilIface := rfl
theorem errW_some (c : Int) : errW (some c) = .iface 0 (.int .i64 c) := rfl
end Go.Proofs.Ytomdfjohnmikdaa.QJ
namespace Go.Proofs.Ytomdfjohnmikdaa.QJ
open Go.Proofs.Ytomdfjohnmikdaa.Cw Go.Proofs.Ytomdfjohnmikdaa.Kp Go.Proofs.Ytomdfjohnmikdaa.Ext Go.RowKit Go.Proofs.YtomdfjohnmikdaaW.PrintWords Go.Proofs.YtomdfjohnmikdaaW.PrintLast Go.Proofs.YtomdfjohnmikdaaW.PrintMore
attribute [local go_sem] max2_int min2_int max_two min_two max_three min_three max_four min_four   -- for this text's walks alone
set_option linter.unusedVariables false
set_option linter.unusedSimpArgs false
end Go.Proofs.Ytomdfjohnmikdaa.QJ
namespace Go.Proofs.Ytomdfjohnmikdaa.Im
set_option linter.unusedVariables false
set_option linter.unusedSimpArgs false
open Go.RowKit Go.Shelf Go.Proofs.Ytomdfjohnmikdaa.Cw Go.Proofs.Ytomdfjohnmikdaa.Ext Go.Proofs.Ytomdfjohnmikdaa.Pu Go.Proofs.YtomdfjohnmikdaaW.PrintWords Go.Proofs.YtomdfjohnmikdaaW.PrintLast Go.Proofs.YtomdfjohnmikdaaW.PrintMore
theorem run_store_func {P : Program} {w : World} {a : Addr} {m : Mode} (f : Fn) (fs lb : Array Value) : (store a (.func f fs lb) m).run P w = stored P w a (.func f fs lb) m := run_store P w a _ m rfl
attribute [local go_sem] run_store_func
def pureZ (n : Int) (xs : List Int) : Int := if isC n xs = true then (if pureB xs = true then 0 else 5) else 1
end Go.Proofs.Ytomdfjohnmikdaa.Im
namespace Go.Proofs.Ytomdfjohnmikdaa.Im
set_option linter.unusedVariables false
set_option linter.unusedSimpArgs false
open Go.RowKit Go.Shelf Go.Proofs.Ytomdfjohnmikdaa.Cw Go.Proofs.Ytomdfjohnmikdaa.Ext Go.Proofs.Ytomdfjohnmikdaa.Pu Go.Proofs.YtomdfjohnmikdaaW.PrintWords Go.Proofs.YtomdfjohnmikdaaW.PrintLast Go.Proofs.YtomdfjohnmikdaaW.PrintMore
theorem cons_beq' (x y : Int) (p q : List Int) : (x :: p == y :: q) = (x == y && p == q) := rfl
theorem equal_loop' (a b : List Int) (hab : a.length = b.length) (ha : a.length ≤ 4611686018427387904) : ∀ d (i : Nat), a.length - i = d → i ≤ a.length →
    Ev (fun k => QT.slices_Equal_int64_int64.l0 k a b (a.length : Int) i) (a.drop i == b.drop i) := by
  intro d
  induction d with
  | zero =>
    intro i hd hi
    rw [List.drop_eq_nil_of_le (by omega), List.drop_eq_nil_of_le (by omega)]
    refine Ev.step (f := fun k => some true) (fun k => ?_) (Ev.now _)
    simp only [QT.slices_Equal_int64_int64.l0]; rw [if_neg (by omega)]
  | succ d ih =>
    intro i hd hi
    have hi' : i < a.length := by omega
    have hj' : i < b.length := by omega
    have hw : wrap64 ((i : Int) + 1) = ((i + 1 : Nat) : Int) := by rw [w64' (by omega) (by omega)]; omega
    rw [List.drop_eq_getElem_cons hi', List.drop_eq_getElem_cons hj']
    by_cases he : a[i] = b[i]
    · refine Ev.step (fun k => ?_) (f := fun k => QT.slices_Equal_int64_int64.l0 k a b (a.length : Int) ((i + 1 : Nat) : Int)) ?_
      · simp only [QT.slices_Equal_int64_int64.l0]
        rw [if_pos (by omega), if_pos (by omega), if_pos (by omega), if_pos (by omega), rd_at' hi', rd_at' hj', if_pos he, hw]
      · have := ih (i + 1) (by omega) (by omega)
        rw [show (a[i] :: a.drop (i + 1) == b[i] :: b.drop (i + 1)) = (a.drop (i + 1) == b.drop (i + 1)) by rw [cons_beq', he, BEq.rfl, Bool.true_and]]
        exact this
    · refine Ev.step (f := fun k => some false) (fun k => ?_) ?_
      · simp only [QT.slices_Equal_int64_int64.l0]
        rw [if_pos (by omega), if_pos (by omega), if_pos (by omega), if_pos (by omega), rd_at' hi', rd_at' hj', if_neg he]
      · rw [show (a[i] :: a.drop (i + 1) == b[i] :: b.drop (i + 1)) = false by rw [cons_beq', beq_eq_false_iff_ne.2 he, Bool.false_and]]
        exact Ev.now _
theorem ev_equal' (a b : List Int) (ha : a.length ≤ 4611686018427387904) : Ev (fun k => QT.slices_Equal_int64_int64.f k a b) (a == b) := by
  unfold QT.slices_Equal_int64_int64.f
  by_cases h : a.length = b.length
  · simp only [if_pos (show (a.length : Int) = (b.length : Int) by omega)]
    have := equal_loop' a b h ha _ 0 rfl (Nat.zero_le _)
    rw [List.drop_zero, List.drop_zero] at this
    exact this
  · simp only [if_neg (show ¬ (a.length : Int) = (b.length : Int) by omega)]
    have : (a == b) = false := by
      rw [beq_eq_false_iff_ne]
      rintro rfl
      exact h rfl
    rw [this]
    exact Ev.now _
/-- Each is a next of those before it. -/
def nextsB (ls : List Int) (m : Nat) : Bool := (List.range m).all fun i => nextB (ls.take i) (ls.getD i 0)
theorem nexts_succ (ls : List Int) (m : Nat) : nextsB ls (m + 1) = (nextsB ls m && nextB (ls.take m) (ls.getD m 0)) := by simp [nextsB, List.range_succ]
theorem nexts_false {ls : List Int} {m : Nat} (h : nextsB ls m = false) : ∀ d, nextsB ls (m + d) = false
  | 0 => h
  | d + 1 => by rw [← Nat.add_assoc, nexts_succ, nexts_false h d, Bool.false_and]
def shOkB (xs ls : List Int) : Bool := (sortL ls == facetsL xs) && nextsB ls ls.length
theorem values_e (a : Option Addr) (len cap : Nat) (w : World) :
    Calls Try.prog 140 #[.slice a len cap] w fun e w' => ∃ b, e = .returned (.func (.func 177) #[] #[.pointer (some ⟨b, 0, none⟩)]) ∧ b < w'.heap.size ∧ w'.cell? ⟨b, 0, none⟩ = some (.slice a len cap) ∧ Below w.heap.size w w' := by
  refine (values_c a len cap w).mono ?_
  rintro e w' ⟨rfl, rfl⟩
  exact ⟨_, rfl, by simp, (Boxed.new w 22 (.slice a len cap)).cell, below_alloc (Below.refl _ _) _⟩
theorem cut_at {A : Option Addr} {c : Nat} {ls : List Int} {i : Nat} (hi : i ≤ ls.length) (hc : ls.length ≤ c) (W : World) : (Instr.slice 22 (.slice A ls.length c) none (some (.int .i64 (i : Int))) none).run Try.prog W = .ok (.slice A i c) W := by
  obtain ⟨i0, hi0, _, hsz, _⟩ := info_parts info64
  obtain ⟨hcut, hA, hC⟩ := print_take_of (P := Try.prog) (Value.int .i64) 0 22 2 .i64 Try.underlying22 hi0 hsz A c ls (i : Int) (by omega) (by omega) hc
  have := hcut W
  rwa [show ((i : Int)).toNat = i by omega, show (ls.take i).length = i by rw [List.length_take]; omega] at this
theorem next_c (A : Option Addr) (c : Nat) (ls : List Int) (i : Nat) (f : Int) (W : World) (hr : RC W A ls.length ls) (hc : ls.length ≤ c) (hl : ls.length ≤ 1048576) (hi : i ≤ ls.length) (hf : 0 ≤ f ∧ f ≤ 63) (hb : ∀ x ∈ ls, 0 ≤ x ∧ x ≤ 63) :
    Calls Try.prog 86 #[.slice A i c, .int .i64 f] W fun e w' => e = .returned (.bool (nextB (ls.take i) f)) ∧ Below W.heap.size W w' := by
  obtain ⟨i0, hi0, _, hsz, _⟩ := info_parts info64
  obtain ⟨hcut, hA, hC⟩ := print_take_of (P := Try.prog) (Value.int .i64) 0 22 2 .i64 Try.underlying22 hi0 hsz A c ls (i : Int) (by omega) (by omega) hc
  have hR := Kd.C_of_reads (h1 := fun _ => rfl) (hA _ (Kd.reads_of_C hr))
  rw [show ((i : Int)).toNat = i by omega] at hR hC
  have ht : (ls.take i).length = i := by rw [List.length_take]; omega
  obtain ⟨kn, hkn⟩ := (ev_next (before := ls.take i) (by omega) hf (fun x hx => hb x (List.mem_of_mem_take hx))).rounds
  have := QH.impl_isNext.calls kn A c (ls.take i) f _ W hR hC hkn
  rwa [ht] at this
set_option maxRecDepth 100000 in
set_option maxHeartbeats 8000000 in
theorem isShelling_c (n : Int) (A : Option Addr) (c : Nat) (xs : List Int) (A1 : Option Addr) (c1 : Nat) (ls : List Int) (w : World) (hr : RC w A xs.length xs) (hc : xs.length ≤ c) (hr1 : RC w A1 ls.length ls) (hc1 : ls.length ≤ c1) (hi : isC n xs = true) (hl : ls.length ≤ 1048576) :
    Calls Try.prog 88 #[.agg #[.int .i64 n, .slice A xs.length c], .slice A1 ls.length c1] w fun e w' => e = .returned (.bool (shOkB xs ls)) ∧ Below w.heap.size w w' := by
  have HX := Aside0.mk ((CxAt.new w n A xs.length c).below (Below.refl _ _).drew)
  have HB := Aside0.mk ((below_alloc (Below.refl w.heap.size w) (.cells #[.int .i64 n, .slice A xs.length c] 28)).drew)
  have HR := Aside0.mk hr
  have HC := Aside0.mk hc
  have HR1 := Aside0.mk hr1
  have HC1 := Aside0.mk hc1
  have hf63 : ∀ x ∈ facetsL xs, 0 ≤ x ∧ x ≤ 63 := fun x hx => by have := isC_63 hi x (List.mem_filter.1 hx).1; omega
  have hfc : impl_Complex_facets.f n xs = some (facetsL xs) := by unfold impl_Complex_facets.f; rw [if_pos hi]
  have hls63 : sortL ls = facetsL xs → ∀ x ∈ ls, 0 ≤ x ∧ x ≤ 63 := fun e x hx => hf63 x (by rw [← e]; exact sort_mem.2 hx)
  have hsl : (sortL ls).length = ls.length := List.length_mergeSort _
  obtain ⟨R, hR⟩ : ∃ R, shOkB xs ls = R := ⟨_, rfl⟩
  have hR2 : R = ((sortL ls == facetsL xs) && nextsB ls ls.length) := hR.symm
  rw [hR]
  clear hr hc hr1 hc1 hi hf63 hR
  generalize facetsL xs = fs at hfc hls63 hR2
  obtain ⟨so, hso⟩ : ∃ so, sortL ls = so := ⟨_, rfl⟩
  have HSO := Aside0.mk hso
  rw [hso] at hls63 hR2 hsl
  obtain ⟨ke, hke⟩ := (ev_equal' so fs (by omega)).rounds
  have HKE := Aside0.mk hke
  have HSL := Aside0.mk hsl
  have HFC := Aside0.mk hfc
  have HL := Aside0.mk hl
  clear hfc hke hso hsl
  cases he : (so == fs) with
  | false =>
    rw [he, Bool.false_and] at hR2
    subst hR2
    clear hls63
    rw [he] at HKE
    clear he hl
    go_enter Try.func88, Try.ntmps88
    go_wp2
    refine st_ 7 (S := fun w' => w'.cell? ⟨w.heap.size, 0, none⟩ = some (.int .i64 n) ∧ w'.cell? ⟨w.heap.size, 1, none⟩ = some (.slice A xs.length c)) (ds := []) ⟨HX.out.c0, HX.out.c1⟩ (fun hHeld => ?_)
    refine with_tabW (T := (true, [([], []), ([0], [0]), ([1, 1], [1]), ([], []), ([3, 2], [3]), ([2, 4, 4], [2, 4]), ([5], [5])])) (B := [0, 1, 3, 0, 15, 31, 63]) (by kernel_rfl) (by kernel_rfl) (fun HT_ HW_ => ?_)
    refine pd_ 0 7 1 HT_ ?_
    refine tk_ 3 10 9 HT_ HW_ hHeld ?_
    refine on_ 1 (some 8) 11 HT_ (fun K hK => ?_)
    refine ca_ Try.func140 #[.slice A1 ls.length c1] ?_
    refine (values_e _ _ _ _).mono ?_; rintro e w1 ⟨b1, rfl, hb1, hcb1, hB⟩; have HX1 := Aside0.mk (HX.out.below hB); have HB1 := Aside0.mk (below_in HB.out hB); have HBL1 := Aside0.mk hb1; have HCB1 := Aside0.mk hcb1; clear HX HB hb1 hcb1 hB
    refine ⟨_, rfl, ?_⟩
    refine hK.out _ _ ⟨HX1.out.c0, HX1.out.c1⟩ (fun hHeld => ?_)
    clear hK K
    refine nm_ ?_
    refine on_ 2 (some 9) 15 HT_ (fun K hK => ?_)
    refine ca_ Try.func139 #[.func (.func 177) #[] #[.pointer (some ⟨b1, 0, none⟩)]] ?_
    refine (sorted_c b1 c1 A1 ls _ HL.out HBL1.out HCB1.out (Kd.C_below HR1.out HB1.out)).mono ?_; rw [HSO.out]; rintro e w2 ⟨v2, rfl, hv, hB⟩; have HX2 := Aside0.mk (HX1.out.below hB); have HB2 := Aside0.mk (below_in HB1.out hB); obtain ⟨A2, c2, rfl⟩ := Kd.R_slice hv; have HV2 := Aside0.mk (Kd.R_reads' hv); clear HX1 HB1 HBL1 HCB1 hv hB
    refine ⟨_, rfl, ?_⟩
    refine hK.out _ _ ⟨HX2.out.c0, HX2.out.c1⟩ (fun hHeld => ?_)
    clear hK K
    refine nm_ ?_
    refine on_ 4 (some 11) 31 HT_ (fun K hK => ?_)
    refine ca_ Try.func84 #[.agg #[.int .i64 n, .slice A xs.length c]] ?_
    refine (impl_Complex_facets.calls n A c xs fs _ (Kd.C_below HR.out HB2.out) HC.out HFC.out).mono ?_; rintro e w3 ⟨v3, rfl, hv, hB⟩; have HX3 := Aside0.mk (HX2.out.below hB); have HB3 := Aside0.mk (below_in HB2.out hB); obtain ⟨A3, c3, rfl⟩ := Kd.R_slice hv; have HV3 := Aside0.mk (Kd.R_reads' hv); have HV4 := Aside0.mk (And.intro HV2.out.2.1 (Kd.C_below HV2.out.2.2 hB)); clear HX2 HB2 HV2 hv hB
    refine ⟨_, rfl, ?_⟩
    refine hK.out _ _ ⟨HX3.out.c0, HX3.out.c1⟩ (fun hHeld => ?_)
    clear hK K
    refine nm_ ?_
    refine on_ 5 (some 12) 63 HT_ (fun K hK => ?_)
    refine ca_ Try.func72 #[.slice A2 so.length c2, .slice A3 fs.length c3] ?_
    refine (QT.slices_Equal_int64_int64.calls ke A2 c2 so A3 c3 fs false _ HV4.out.2 HV4.out.1 HV3.out.2.2 HV3.out.2.1 HKE.out).mono ?_; rintro e w4 ⟨rfl, nd, rfl⟩; have HB4 := Aside0.mk (pw_below_drewN HB3.out nd); clear HX3 HB3 HV3 HV4
    refine ⟨_, rfl, ?_⟩
    refine hK.out _ _ hHeld (fun hHeld => ?_)
    clear hK K
    refine nm_ ?_
    refine pd_ 6 13 127 HT_ ?_
    refine dn_ HT_ ?_
    go_wp2
    go_ret
    exact ⟨rfl, HB4.out⟩
  | true =>
    rw [he, Bool.true_and] at hR2
    obtain rfl : so = fs := eq_of_beq he
    have HLS := Aside0.mk (hls63 rfl)
    have HRE := Aside0.mk hR2
    rw [he] at HKE
    clear he hl hls63 hR2
    go_enter Try.func88, Try.ntmps88
    go_wp2
    refine st_ 7 (S := fun w' => w'.cell? ⟨w.heap.size, 0, none⟩ = some (.int .i64 n) ∧ w'.cell? ⟨w.heap.size, 1, none⟩ = some (.slice A xs.length c)) (ds := []) ⟨HX.out.c0, HX.out.c1⟩ (fun hHeld => ?_)
    refine with_tabW (T := (true, [([], []), ([0], [0]), ([1, 1], [1]), ([], []), ([3, 2], [3]), ([2, 4, 4], [2, 4]), ([5], [5])])) (B := [0, 1, 3, 0, 15, 31, 63]) (by kernel_rfl) (by kernel_rfl) (fun HT_ HW_ => ?_)
    refine pd_ 0 7 1 HT_ ?_
    refine tk_ 3 10 9 HT_ HW_ hHeld ?_
    refine on_ 1 (some 8) 11 HT_ (fun K hK => ?_)
    refine ca_ Try.func140 #[.slice A1 ls.length c1] ?_
    refine (values_e _ _ _ _).mono ?_; rintro e w1 ⟨b1, rfl, hb1, hcb1, hB⟩; have HX1 := Aside0.mk (HX.out.below hB); have HB1 := Aside0.mk (below_in HB.out hB); have HBL1 := Aside0.mk hb1; have HCB1 := Aside0.mk hcb1; clear HX HB hb1 hcb1 hB
    refine ⟨_, rfl, ?_⟩
    refine hK.out _ _ ⟨HX1.out.c0, HX1.out.c1⟩ (fun hHeld => ?_)
    clear hK K
    refine nm_ ?_
    refine on_ 2 (some 9) 15 HT_ (fun K hK => ?_)
    refine ca_ Try.func139 #[.func (.func 177) #[] #[.pointer (some ⟨b1, 0, none⟩)]] ?_
    refine (sorted_c b1 c1 A1 ls _ HL.out HBL1.out HCB1.out (Kd.C_below HR1.out HB1.out)).mono ?_; rw [HSO.out]; rintro e w2 ⟨v2, rfl, hv, hB⟩; have HX2 := Aside0.mk (HX1.out.below hB); have HB2 := Aside0.mk (below_in HB1.out hB); obtain ⟨A2, c2, rfl⟩ := Kd.R_slice hv; have HV2 := Aside0.mk (Kd.R_reads' hv); clear HX1 HB1 HBL1 HCB1 hv hB
    refine ⟨_, rfl, ?_⟩
    refine hK.out _ _ ⟨HX2.out.c0, HX2.out.c1⟩ (fun hHeld => ?_)
    clear hK K
    refine nm_ ?_
    refine on_ 4 (some 11) 31 HT_ (fun K hK => ?_)
    refine ca_ Try.func84 #[.agg #[.int .i64 n, .slice A xs.length c]] ?_
    refine (impl_Complex_facets.calls n A c xs so _ (Kd.C_below HR.out HB2.out) HC.out HFC.out).mono ?_; rintro e w3 ⟨v3, rfl, hv, hB⟩; have HX3 := Aside0.mk (HX2.out.below hB); have HB3 := Aside0.mk (below_in HB2.out hB); obtain ⟨A3, c3, rfl⟩ := Kd.R_slice hv; have HV3 := Aside0.mk (Kd.R_reads' hv); have HV4 := Aside0.mk (And.intro HV2.out.2.1 (Kd.C_below HV2.out.2.2 hB)); clear HX2 HB2 HV2 hv hB
    refine ⟨_, rfl, ?_⟩
    refine hK.out _ _ ⟨HX3.out.c0, HX3.out.c1⟩ (fun hHeld => ?_)
    clear hK K
    refine nm_ ?_
    refine on_ 5 (some 12) 63 HT_ (fun K hK => ?_)
    refine ca_ Try.func72 #[.slice A2 so.length c2, .slice A3 so.length c3] ?_
    refine (QT.slices_Equal_int64_int64.calls ke A2 c2 so A3 c3 so true _ HV4.out.2 HV4.out.1 HV3.out.2.2 HV3.out.2.1 HKE.out).mono ?_; rintro e w4 ⟨rfl, nd, rfl⟩; have HB4 := Aside0.mk (pw_below_drewN HB3.out nd); clear HX3 HB3 HV3 HV4
    refine ⟨_, rfl, ?_⟩
    refine hK.out _ _ hHeld (fun hHeld => ?_)
    clear hK K
    refine nm_ ?_
    refine pd_ 6 13 127 HT_ ?_
    refine dn_ HT_ ?_
    go_wp2
    go_loopw [16] (fun s16 wr => ∃ i : Nat, i ≤ ls.length ∧ s16 = .int .i64 i ∧ Aside0 (nextsB ls i = true) ∧ Aside0 (Below w.heap.size w wr)) (fun s16 _ => ls.length - (intOf s16).toNat)
    case atStart => exact ⟨0, by omega, rfl, ⟨rfl⟩, HB4⟩
    case round =>
      clear HB4
      obtain ⟨i, hil, rfl, HN, HB⟩ := hrel
      by_cases hi : i < ls.length
      · have hiz : (i : Int) < (ls.length : Int) := by omega
        obtain ⟨ad, rfl, hf0⟩ := HR1.out.at_ HB.out hi
        obtain ⟨f, hf⟩ : ∃ f, ls[i]?.getD 0 = f := ⟨_, rfl⟩
        rw [hf] at hf0
        have hff : 0 ≤ f ∧ f ≤ 63 := by rw [← hf, List.getElem?_eq_getElem hi]; exact HLS.out _ (List.getElem_mem hi)
        have hfg : ls.getD i 0 = f := by rw [← hf, List.getD_eq_getElem?_getD]
        have hl := HL.out
        have hcut := cut_at (A := some ad) (Nat.le_of_lt hi) HC1.out
        have hcall := next_c (some ad) c1 ls i f wr (Kd.C_below HR1.out HB.out) HC1.out HL.out (Nat.le_of_lt hi) hff HLS.out
        cases hnb : nextB (ls.take i) f with
        | false =>
          rw [hnb] at hcall
          have HCALL := Aside0.mk hcall
          have HRF : Aside0 (R = false) := ⟨by rw [HRE.out, show ls.length = (i + 1) + (ls.length - (i + 1)) by omega]; exact nexts_false (by rw [nexts_succ, hfg, hnb, Bool.and_false]) _⟩
          clear hcall hnb hfg hff hf
          go_wp2_with (go_at_call 86; refine HCALL.out.mono ?_; rintro e w5 ⟨rfl, hb⟩; have HB5 := Aside0.mk (below_in HB.out hb); clear hb HB HCALL)
          go_ret
          exact ⟨by rw [HRF.out]; rfl, HB5.out⟩
        | true =>
          rw [hnb] at hcall
          have HCALL := Aside0.mk hcall
          have HNN : Aside0 (nextsB ls (i + 1) = true) := ⟨by rw [nexts_succ, hfg, hnb, HN.out]; rfl⟩
          clear hcall hnb hfg hff hf
          go_wp2_with (go_at_call 86; refine HCALL.out.mono ?_; rintro e w5 ⟨rfl, hb⟩; have HB5 := Aside0.mk (below_in HB.out hb); clear hb HB HCALL)
          exact ⟨⟨i + 1, by omega, by go_num, HNN, HB5⟩, by simp [intOf]; omega⟩
      · obtain rfl : i = ls.length := by omega
        have hiz : ¬ (ls.length : Int) < (ls.length : Int) := by omega
        go_wp2
        go_ret
        exact ⟨by rw [HRE.out, HN.out]; rfl, HB.out⟩
end Go.Proofs.Ytomdfjohnmikdaa.Im
namespace Go.Proofs.Ytomdfjohnmikdaa.Ext
set_option linter.unusedVariables false
set_option linter.unusedSimpArgs false
open Go.RowKit Go.Proofs.Ytomdfjohnmikdaa.Im Go.Proofs.Ytomdfjohnmikdaa.Pu Go.Proofs.YtomdfjohnmikdaaW.PrintWords Go.Proofs.YtomdfjohnmikdaaW.PrintLast Go.Proofs.YtomdfjohnmikdaaW.PrintMore
def impl_Complex_isShelling.f (a0_0 : Int) (l0_1 : List Int) (l1 : List Int) : Option (Bool) := if isC a0_0 l0_1 = true ∧ l1.length ≤ 1048576 then some (shOkB l0_1 l1) else none
theorem impl_Complex_isShelling.calls (a0_0 : Int) (A0_1 : Option Addr) (c0_1 : Nat) (l0_1 : List Int) (A1 : Option Addr) (c1 : Nat) (l1 : List Int) (r : Bool) (w : World) (hr0_1 : Kd.C (Kd.int .i64) w A0_1 l0_1.length l0_1) (_hc0_1 : l0_1.length ≤ c0_1) (hr1 : Kd.C (Kd.int .i64) w A1 l1.length l1) (_hc1 : l1.length ≤ c1) (h : impl_Complex_isShelling.f a0_0 l0_1 l1 = some r) :
    Calls Try.prog 88 #[.agg #[.int .i64 a0_0, .slice A0_1 l0_1.length c0_1], .slice A1 l1.length c1] w fun e w' => e = .returned (.bool r) ∧ Below w.heap.size w w' := by
  unfold impl_Complex_isShelling.f at h
  by_cases hl : isC a0_0 l0_1 = true ∧ l1.length ≤ 1048576
  · rw [if_pos hl] at h
    have hd := Option.some.inj h
    rw [← hd]
    exact isShelling_c a0_0 A0_1 c0_1 l0_1 A1 c1 l1 w hr0_1 _hc0_1 hr1 _hc1 hl.1 hl.2
  · rw [if_neg hl] at h; cases h
end Go.Proofs.Ytomdfjohnmikdaa.Ext
