import Derived.Test.YtdkoioiiacljeaaImN
import Derived.Test.YtdkoioiiacljeaaQIx1
/- size, dimension, isChain, IsChain. -/
namespace Go.Proofs.Ytdkoioiiacljeaa.Im
set_option linter.unusedVariables false
set_option linter.unusedSimpArgs false
open Go.RowKit Go.Shelf Go.Proofs.Ytdkoioiiacljeaa.QI Go.Proofs.Ytdkoioiiacljeaa.Ext Go.Proofs.YtdkoioiiacljeaaW.PrintWords Go.Proofs.YtdkoioiiacljeaaW.PrintLast Go.Proofs.YtdkoioiiacljeaaW.PrintMore

def onesZ (x : Int) : Int := ((verts x).length : Int)
theorem size_all : ((List.range 64).all fun f => impl_size.f (f : Int) == some (onesZ (f : Int))) = true := by decide +kernel
theorem size_eq {x : Int} (h0 : 0 ≤ x) (h6 : x ≤ 63) : impl_size.f x = some (onesZ x) := by
  obtain ⟨m, rfl⟩ := Int.eq_ofNat_of_zero_le h0
  exact eq_of_beq (List.all_eq_true.1 size_all m (List.mem_range.2 (by omega)))
theorem isC_63 {n : Int} {l : List Int} (h : isC n l = true) : ∀ x ∈ l, 1 ≤ x ∧ x ≤ 63 := by
  obtain ⟨⟨h1, h6⟩, ha, _⟩ := isC_of h
  intro x hx
  obtain ⟨i, hi, rfl⟩ := List.mem_iff_getElem.1 hx
  have h2 := List.all_eq_true.1 ha i (List.mem_range.2 hi)
  simp only [okAt, List.getElem?_eq_getElem hi, Option.getD_some, withinB, Bool.and_eq_true, decide_eq_true_eq] at h2
  have hF : fullZ n ≤ 63 := by
    obtain rfl | rfl | rfl | rfl | rfl | rfl : n = 1 ∨ n = 2 ∨ n = 3 ∨ n = 4 ∨ n = 5 ∨ n = 6 := by omega
    all_goals decide +kernel
  omega

theorem w64' {x : Int} (h1 : -9223372036854775808 ≤ x) (h2 : x ≤ 9223372036854775807) : wrap64 x = x := by unfold wrap64; omega
theorem rd_at' {l : List Int} {i : Nat} (h : i < l.length) : rd l (i : Int) = l[i] := by simp [rd, List.getD_eq_getElem?_getD, List.getElem?_eq_getElem h]

end Go.Proofs.Ytdkoioiiacljeaa.Im

/- facets, dimension, isPure. -/
namespace Go.Proofs.Ytdkoioiiacljeaa.Im
set_option linter.unusedVariables false
set_option linter.unusedSimpArgs false
open Go.RowKit Go.Shelf Go.Proofs.Ytdkoioiiacljeaa.QI Go.Proofs.Ytdkoioiiacljeaa.Ext Go.Proofs.YtdkoioiiacljeaaW.PrintWords Go.Proofs.YtdkoioiiacljeaaW.PrintLast Go.Proofs.YtdkoioiiacljeaaW.PrintMore

def inB (f x : Int) : Bool := f != x && (Go.bits .andNot .i64 f x == 0)
theorem facets11_f (b : Nat) (f : Int) (w : World) (hb : Boxed w b 2 (.int .i64 f)) :
    FnB Try.prog (.func (.func 132) #[] #[.pointer (some ⟨b, 0, none⟩)]) (fun _ => True) (inB f) w := by
  refine ⟨_, _, _, rfl, enters_of Try.func132 (by kernel_rfl) rfl, fun W x hW hx => ?_⟩
  have hcell : W.cell? ⟨b, 0, none⟩ = some (.int .i64 f) := (hW.cell (p := ⟨b, 0, none⟩) hb.lt).trans hb.cell
  have HC := Aside0.mk (isIn_c f x W)
  have HE : Aside0 (inB f x = (f != x && (Go.bits .andNot .i64 f x == 0))) := ⟨rfl⟩
  clear hW hx hb
  show Calls Try.prog 132 #[.int .i64 x, .pointer (some ⟨b, 0, none⟩)] W fun e w' => e = .returned (.bool (inB f x)) ∧ Below W.heap.size W w'
  generalize (Go.bits .andNot .i64 f x == 0) = r at HC HE
  cases h1 : (f != x) with
  | false =>
    go_enter Try.func132, Try.ntmps132
    go_wp2
    go_ret
    exact ⟨by rw [HE.out, h1]; rfl, Below.refl _ _⟩
  | true =>
    go_enter Try.func132, Try.ntmps132
    go_wp2_with (go_at_call 95; refine HC.out.mono ?_; rintro e w1 ⟨rfl, rfl⟩)
    go_ret
    exact ⟨by rw [HE.out, h1]; rfl, Below.refl _ _⟩

def biggerB (xs : List Int) (x : Int) : Bool := xs.any (inB x)
set_option maxRecDepth 100000 in
theorem facets1_f (b : Nat) (m : Int) (A : Option Addr) (n c : Nat) (xs : List Int) (w : World) (hb : CxAt w b m A n c) (hr : RC w A n xs) :
    FnB Try.prog (.func (.func 131) #[] #[.pointer (some ⟨b, 0, none⟩)]) (fun _ => True) (biggerB xs) w := by
  refine ⟨_, _, _, rfl, enters_of Try.func131 (by kernel_rfl) rfl, fun W x hW hx => ?_⟩
  have hb1 : Below W.heap.size W (W.alloc (.cells #[.int .i64 x] 2)) := (Below.refl _ W).alloc (Nat.le_refl _) _
  have hk := (hb.below hW).below hb1
  have HC := Aside0.mk (containsFunc_c A n c xs _ _ _ _ (Kd.C_below (Kd.C_below hr hW) hb1) (facets11_f W.heap.size x _ (Boxed.new W _ _)) (fun _ _ => trivial))
  have h1 := hk.c1
  have HB := Aside0.mk hb1
  have HE : Aside0 (biggerB xs x = xs.any (inB x)) := ⟨rfl⟩
  clear hW hx hb hr hk hb1
  show Calls Try.prog 131 #[.int .i64 x, .pointer (some ⟨b, 0, none⟩)] W fun e w' => e = .returned (.bool (biggerB xs x)) ∧ Below W.heap.size W w'
  rw [HE.out]
  generalize xs.any (inB x) = r at HC ⊢
  go_enter Try.func131, Try.ntmps131
  go_wp2_with (go_at_call 124; refine HC.out.mono ?_; rintro e w1 ⟨rfl, hb⟩)
  go_ret
  exact ⟨rfl, below_in HB.out hb⟩

def facetsL (xs : List Int) : List Int := xs.filter fun x => !biggerB xs x
set_option maxRecDepth 100000 in
theorem facets_c (m : Int) (A : Option Addr) (n c : Nat) (xs : List Int) (w : World) (hr : RC w A n xs) (hi : isC m xs = true) :
    Calls Try.prog 106 #[.agg #[.int .i64 m, .slice A n c]] w (SlOnly w.heap.size w (facetsL xs)) := by
  have hl := isC_small hi
  have hbk := CxAt.new w m A n c
  have hb1 : Below w.heap.size w (w.alloc (.cells #[.int .i64 m, .slice A n c] 26)) := (Below.refl _ w).alloc (Nat.le_refl _) _
  have hc := clone_c A n c xs _ (Kd.C_below hr hb1) (by have := hr.1; omega)
  have hd := fun v W HB ho => deleteFunc_c (w.alloc (.cells #[.int .i64 m, .slice A n c] 26)) v xs _ (fun _ => True) _ W HB ho (by omega) (facets1_f w.heap.size m A n c xs _ hbk (Kd.C_below hr hb1)) (fun _ _ => trivial)
  have l1 := hbk.c1
  have HC := Aside0.mk hc
  have HD := Lib.hid hd
  have HB := Aside0.mk hb1
  have HE : Aside0 (facetsL xs = xs.filter fun x => !biggerB xs x) := ⟨rfl⟩
  clear hc hb1 hbk hr hi hl hd
  rw [HE.out]
  go_enter Try.func106, Try.ntmps106
  go_wp2_with (first
    | (go_at_call 87; refine HC.out.mono ?_; rintro e w2 ⟨v, rfl, hv, hb2⟩; have HV := Aside0.mk hv; have HB2 := Aside0.mk hb2; clear hv hb2)
    | (go_at_call 93; refine (HD.out _ _ HB2.out HV.out).mono ?_; rintro e w3 ⟨v3, rfl, hv, hb3⟩; have HV3 := Aside0.mk hv; have HB3 := Aside0.mk hb3; clear hv hb3))
  go_ret
  exact ⟨_, rfl, Kd.R_lower HV3.out HB.out.size, HB.out.trans (HB3.out.mono HB.out.size)⟩

/-! ### dimension -/
theorem dim_eq {x : Int} (h0 : 0 ≤ x) (h6 : x ≤ 63) : impl_dimension.f x = some (onesZ x - 1) := by
  unfold impl_dimension.f
  rw [size_eq h0 h6]
  have : (verts x).length ≤ 6 := verts_len x
  simp only [Option.bind_some]
  rw [w64' (by unfold onesZ; omega) (by unfold onesZ; omega)]
def dimL (l : List Int) : Int := l.foldl (fun a x => max a (onesZ x - 1)) (-1)
theorem dim_loop (l : List Int) (hr : ∀ x ∈ l, 1 ≤ x ∧ x ≤ 63) (hm : l.length ≤ 4611686018427387904) :
    ∀ d (i : Nat) (a : Int), l.length - i = d → i ≤ l.length → Ev (fun k => impl_Complex_dimension.l0 k a l (l.length : Int) i) ((l.drop i).foldl (fun a x => max a (onesZ x - 1)) a) := by
  intro d
  induction d with
  | zero =>
    intro i a hd hi
    rw [List.drop_eq_nil_of_le (by omega)]
    refine Ev.step (f := fun k => some a) (fun k => ?_) (Ev.now _)
    simp only [impl_Complex_dimension.l0]; rw [if_neg (by omega)]
  | succ d ih =>
    intro i a hd hi
    have hi' : i < l.length := by omega
    have hx := hr _ (List.getElem_mem hi')
    rw [List.drop_eq_getElem_cons hi', List.foldl_cons]
    refine Ev.step (f := fun k => impl_Complex_dimension.l0 k (max a (onesZ l[i] - 1)) l (l.length : Int) ((i + 1 : Nat) : Int)) (fun k => ?_) (ih (i + 1) _ (by omega) (by omega))
    simp only [impl_Complex_dimension.l0]
    rw [if_pos (by omega), if_pos (by omega), if_pos (by omega), rd_at' hi', dim_eq (by omega) (by omega)]
    simp only [Option.bind_some]
    rw [show wrap64 ((i : Int) + 1) = ((i + 1 : Nat) : Int) by rw [w64' (by omega) (by omega)]; omega, show mx a (onesZ l[i] - 1) = max a (onesZ l[i] - 1) by unfold mx; split <;> omega]
theorem dimension_c (m : Int) (A : Option Addr) (c : Nat) (xs : List Int) (w : World) (hr : RC w A xs.length xs) (hc : xs.length ≤ c) (hi : isC m xs = true) :
    Calls Try.prog 109 #[.agg #[.int .i64 m, .slice A xs.length c]] w fun e w' => e = .returned (.int .i64 (dimL xs)) ∧ Below w.heap.size w w' := by
  obtain ⟨k, hk⟩ := (dim_loop xs (isC_63 hi) (by have := isC_small hi; omega) _ 0 (-1) rfl (Nat.zero_le _)).rounds
  exact impl_Complex_dimension.calls k m A c xs _ w hr hc hk

/-! ### isPure -/
theorem dimensionOf_c (x : Int) (w : World) (h0 : 0 ≤ x) (h6 : x ≤ 63) : Calls Try.prog 108 #[.int .i64 x] w fun e w' => e = .returned (.int .i64 (onesZ x - 1)) ∧ Below w.heap.size w w' :=
  (impl_dimension.calls x _ w (dim_eq h0 h6)).mono fun e w' h => ⟨h.1, h.2.below⟩
def pureP (xs : List Int) (x : Int) : Bool := onesZ x - 1 == dimL xs
set_option maxRecDepth 100000 in
set_option maxHeartbeats 1000000 in
theorem isPure1_f (b : Nat) (m : Int) (A : Option Addr) (n c : Nat) (xs : List Int) (w : World) (hb : CxAt w b m A n c) (hr : RC w A n xs) (hc : n ≤ c) (hi : isC m xs = true) :
    FnB Try.prog (.func (.func 107) #[] #[.pointer (some ⟨b, 0, none⟩)]) (fun x => 1 ≤ x ∧ x ≤ 63) (pureP xs) w := by
  refine ⟨_, _, _, rfl, enters_of Try.func107 (by kernel_rfl) rfl, fun W x hW hx => ?_⟩
  obtain rfl : xs.length = n := hr.1
  have hr' := Kd.C_below hr hW
  have hb' := hb.below hW
  have h0 := hb'.c0
  have h1 := hb'.c1
  have HBK := Aside0.mk hb'
  have HD := Lib.hid (fun W' => dimensionOf_c x W' (by omega) hx.2)
  have HM := Lib.hid (fun W' (hB : Below W.heap.size W W') => dimension_c m A c xs W' (Kd.C_below hr' hB) hc hi)
  have HE : Aside0 (pureP xs x = (onesZ x - 1 == dimL xs)) := ⟨rfl⟩
  clear hb hr hW hb' hr' hx hi
  show Calls Try.prog 107 #[.int .i64 x, .pointer (some ⟨b, 0, none⟩)] W fun e w' => e = .returned (.bool (pureP xs x)) ∧ Below W.heap.size W w'
  generalize onesZ x - 1 = r at HD HE
  generalize dimL xs = q at HM HE
  go_enter Try.func107, Try.ntmps107
  go_wp2
  go_region_held3 (fun w' : World => w'.cell? ⟨b, 0, none⟩ = some (.int .i64 m) ∧ w'.cell? ⟨b, 1, none⟩ = some (.slice A xs.length c)) (first | exact ⟨h0, h1⟩ | exact HBK.out.keep (by assumption)) (first | (go_at_call 108; refine (HD.out _).mono ?_; rintro e w1 ⟨rfl, hb1⟩; first | have hbw := undrew hb1 | have hbx := below_in hbw hb1) | (go_at_call 109; refine (HM.out _ hbw).mono ?_; rintro e w3 ⟨rfl, hb3⟩; have hby := below_in hbw hb3))
  go_wp2
  go_ret
  exact ⟨by rw [HE.out]; rfl, hby⟩

def pureB (xs : List Int) : Bool := (facetsL xs).all (pureP xs)
set_option maxRecDepth 100000 in
theorem isPure_c (m : Int) (A : Option Addr) (n c : Nat) (xs : List Int) (w : World) (hr : RC w A n xs) (hc : n ≤ c) (hi : isC m xs = true) :
    Calls Try.prog 78 #[.agg #[.int .i64 m, .slice A n c]] w fun e w' => e = .returned (.bool (pureB xs)) ∧ Below w.heap.size w w' := by
  have hbk := CxAt.new w m A n c
  have hb1 : Below w.heap.size w (w.alloc (.cells #[.int .i64 m, .slice A n c] 26)) := (Below.refl _ w).alloc (Nat.le_refl _) _
  have hf := facets_c m A n c xs _ (Kd.C_below hr hb1) hi
  have h63 := isC_63 hi
  have ha := fun W A3 c3 (hB : Below (w.alloc (.cells #[.int .i64 m, .slice A n c] 26)).heap.size (w.alloc (.cells #[.int .i64 m, .slice A n c] 26)) W) (hv : RC W A3 (facetsL xs).length (facetsL xs)) => areAll_c A3 (facetsL xs).length c3 (facetsL xs) _ (fun x => 1 ≤ x ∧ x ≤ 63) (pureP xs) W hv (isPure1_f w.heap.size m A n c xs W (hbk.below hB) (Kd.C_below hr (below_in hb1 hB)) hc hi) (fun x hx => h63 x (List.mem_filter.1 hx).1)
  have l0 := hbk.c0
  have l1 := hbk.c1
  have HF := Aside0.mk hf
  have HA := Lib.hid ha
  have HB := Aside0.mk hb1
  have HE : Aside0 (pureB xs = (facetsL xs).all (pureP xs)) := ⟨rfl⟩
  clear hf ha hb1 hbk hr hi h63
  rw [HE.out]
  generalize (facetsL xs).all (pureP xs) = r at HA ⊢
  go_enter Try.func78, Try.ntmps78
  go_wp2_with (first
    | (go_at_call 106; refine HF.out.mono ?_; rintro e w2 ⟨v, rfl, hv, hb2⟩; obtain ⟨A2, c2, rfl⟩ := Kd.R_slice hv; have HV := Aside0.mk (Kd.R_reads' hv).2.2; have HB2 := Aside0.mk hb2; clear hv hb2)
    | (go_at_call 97; refine (HA.out _ _ _ HB2.out HV.out).mono ?_; rintro e w3 ⟨rfl, hb3⟩; have HB3 := Aside0.mk (below_in HB2.out hb3); clear hb3))
  go_ret
  exact ⟨rfl, below_in HB.out HB3.out⟩

def pureF (n : Int) (xs : List Int) : Bool × Int := if isC n xs then (pureB xs, 0) else (false, 1)
set_option maxRecDepth 100000 in
theorem isPureX_c (m : Int) (A : Option Addr) (n c : Nat) (xs : List Int) (w : World) (hr : RC w A n xs) (hn : n ≤ 4611686018427387904) (hc : n ≤ c) :
    Calls Try.prog 42 #[.agg #[.int .i64 m, .slice A n c]] w (BoCode w (pureF m xs).1 (pureF m xs).2) := by
  have hbk := CxAt.new w m A n c
  have hb1 : Below w.heap.size w (w.alloc (.cells #[.int .i64 m, .slice A n c] 26)) := (Below.refl _ w).alloc (Nat.le_refl _) _
  have hcc := complexCode_c m A n c xs (.func (.func 55) #[] #[]) true _ (Kd.C_below hr hb1) hn (fun _ => always_f _)
  have HK := Aside0.mk hbk
  have HB := Aside0.mk hb1
  have HR := Aside0.mk hr
  clear hr hbk hb1
  unfold pureF
  cases hi : isC m xs with
  | false =>
    rw [hi] at hcc
    have HC := Aside0.mk hcc
    clear hcc hi
    unfold codeOf at HC
    go_enter Try.func42, Try.ntmps42
    go_wp2_with (go_at_call 54; refine HC.out.mono ?_; rintro e w2 ⟨rfl, hb2⟩; have HB2 := Aside0.mk (below_in HB.out hb2); clear hb2)
    go_ret2
    exact ⟨rfl, HB2.out⟩
  | true =>
    rw [hi] at hcc
    have HC := Aside0.mk hcc
    have HI := Aside0.mk hi
    clear hcc hi
    unfold codeOf at HC
    go_enter Try.func42, Try.ntmps42
    go_wp2_with (first
      | (go_at_call 54; refine HC.out.mono ?_; rintro e w2 ⟨rfl, hb2⟩; have HB2 := Aside0.mk (below_in HB.out hb2); have K2 := Aside0.mk (HK.out.below hb2); have k0 := K2.out.c0; have k1 := K2.out.c1; clear hb2)
      | (go_at_call 78; refine (isPure_c m A n c xs _ (Kd.C_below HR.out HB2.out) hc HI.out).mono ?_; rintro e w3 ⟨rfl, hb3⟩; have HB3 := Aside0.mk (below_in HB2.out hb3); clear hb3))
    go_ret2
    exact ⟨rfl, HB3.out⟩

end Go.Proofs.Ytdkoioiiacljeaa.Im
