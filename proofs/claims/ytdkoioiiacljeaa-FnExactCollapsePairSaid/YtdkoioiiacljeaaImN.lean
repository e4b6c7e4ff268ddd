/- around, IsFreeFace. -/
import Derived.Test.YtdkoioiiacljeaaImM
namespace Go.Proofs.Ytdkoioiiacljeaa.Im
set_option linter.unusedVariables false
set_option linter.unusedSimpArgs false
open Go.RowKit Go.Shelf Go.Proofs.YtdkoioiiacljeaaW.PrintWords Go.Proofs.YtdkoioiiacljeaaW.PrintLast Go.Proofs.YtdkoioiiacljeaaW.PrintMore

/-- A complex has at most 63 faces. -/
theorem isC_small {n : Int} {xs : List Int} (h : isC n xs = true) : xs.length ≤ 63 := by
  obtain ⟨⟨h1, h6⟩, ha, _⟩ := isC_of h
  have hb : ∀ i, i < xs.length → 1 ≤ xs[i]?.getD 0 ∧ xs[i]?.getD 0 ≤ fullZ n := fun i hi => by
    have := List.all_eq_true.1 ha i (List.mem_range.2 hi)
    simp only [okAt, withinB, Bool.and_eq_true, decide_eq_true_eq] at this
    exact this.1
  have hF : fullZ n ≤ 63 := by
    obtain rfl | rfl | rfl | rfl | rfl | rfl : n = 1 ∨ n = 2 ∨ n = 3 ∨ n = 4 ∨ n = 5 ∨ n = 6 := by omega
    all_goals decide +kernel
  have hs : ∀ i, i < xs.length → ((i : Nat) : Int) + 1 ≤ xs[i]?.getD 0 := by
    intro i
    induction i with
    | zero => intro hi; have := hb 0 hi; omega
    | succ i ih =>
      intro hi
      have h2 := ih (by omega)
      have h3 := (ascB_asc ha).lt (show i < i + 1 by omega) hi
      omega
  rcases Nat.eq_zero_or_pos xs.length with h0 | h0
  · omega
  · have := hs (xs.length - 1) (by omega)
    have := hb (xs.length - 1) (by omega)
    omega

def aroundP (f x : Int) : Bool := f == x || !(Go.bits .andNot .i64 f x == 0)
def aroundL (xs : List Int) (f : Int) : List Int := xs.filter fun x => !aroundP f x
theorem around1_f (b : Nat) (f : Int) (w : World) (hb : Boxed w b 2 (.int .i64 f)) :
    FnB Try.prog (.func (.func 94) #[] #[.pointer (some ⟨b, 0, none⟩)]) (fun _ => True) (aroundP f) w := by
  refine ⟨_, _, _, rfl, enters_of Try.func94 (by kernel_rfl) rfl, fun W x hW hx => ?_⟩
  have hcell : W.cell? ⟨b, 0, none⟩ = some (.int .i64 f) := (hW.cell (p := ⟨b, 0, none⟩) hb.lt).trans hb.cell
  have HC := Aside0.mk (isIn_c f x W)
  have HE : Aside0 (aroundP f x = (f == x || !(Go.bits .andNot .i64 f x == 0))) := ⟨rfl⟩
  clear hW hx hb
  show Calls Try.prog 94 #[.int .i64 x, .pointer (some ⟨b, 0, none⟩)] W fun e w' => e = .returned (.bool (aroundP f x)) ∧ Below W.heap.size W w'
  generalize (Go.bits .andNot .i64 f x == 0) = r at HC HE
  cases h1 : (f == x) with
  | true =>
    go_enter Try.func94, Try.ntmps94
    go_wp2
    go_ret
    exact ⟨by rw [HE.out, h1]; rfl, Below.refl _ _⟩
  | false =>
    go_enter Try.func94, Try.ntmps94
    go_wp2_with (go_at_call 95; refine HC.out.mono ?_; rintro e w1 ⟨rfl, rfl⟩)
    go_ret
    exact ⟨by rw [HE.out, h1]; rfl, Below.refl _ _⟩

set_option maxRecDepth 100000 in
theorem around_c (m : Int) (A : Option Addr) (n c : Nat) (xs : List Int) (f : Int) (w : World) (hr : RC w A n xs) (hi : isC m xs = true) :
    Calls Try.prog 63 #[.agg #[.int .i64 m, .slice A n c], .int .i64 f] w (SlOnly w.heap.size w (aroundL xs f)) := by
  have hl := isC_small hi
  have hbk0 := CxAt.new w m A n c
  have hbx := Boxed.new (w.alloc (.cells #[.int .i64 m, .slice A n c] 26)) 2 (.int .i64 f)
  rw [World.size_alloc] at hbx
  have hb1 : Below w.heap.size w ((w.alloc (.cells #[.int .i64 m, .slice A n c] 26)).alloc (.cells #[.int .i64 f] 2)) := ((Below.refl _ w).alloc (Nat.le_refl _) _).alloc (by simp) _
  have hk0 := hbk0.below ((Below.refl _ _).alloc (Nat.le_refl _) (.cells #[.int .i64 f] 2))
  have hc := clone_c A n c xs _ (Kd.C_below hr hb1) (by have := hr.1; omega)
  have hd := fun v W HB ho => deleteFunc_c ((w.alloc (.cells #[.int .i64 m, .slice A n c] 26)).alloc (.cells #[.int .i64 f] 2)) v xs _ (fun _ => True) _ W HB ho (by omega) (around1_f (w.heap.size + 1) f _ hbx) (fun _ _ => trivial)
  have l1 := hk0.c1
  have HC := Aside0.mk hc
  have HD := Lib.hid hd
  have HB := Aside0.mk hb1
  have HE : Aside0 (aroundL xs f = xs.filter fun x => !aroundP f x) := ⟨rfl⟩
  clear hc hb1 hk0 hbx hbk0 hr hi hl hd
  rw [HE.out]
  go_enter Try.func63, Try.ntmps63
  go_wp2_with (first
    | (go_at_call 87; refine HC.out.mono ?_; rintro e w2 ⟨v, rfl, hv, hb2⟩; have HV := Aside0.mk hv; have HB2 := Aside0.mk hb2; clear hv hb2)
    | (go_at_call 93; refine (HD.out _ _ HB2.out HV.out).mono ?_; rintro e w3 ⟨v3, rfl, hv, hb3⟩; have HV3 := Aside0.mk hv; have HB3 := Aside0.mk hb3; clear hv hb3))
  go_ret
  exact ⟨_, rfl, Kd.R_lower HV3.out HB.out.size, HB.out.trans (HB3.out.mono HB.out.size)⟩

/-! ### IsFreeFace -/
theorem isFreeFace1_f (b b2 : Nat) (v m : Int) (A : Option Addr) (n c : Nat) (xs : List Int) (w : World) (hi : isC m xs = true) (hr : RC w A n xs) (hn : n ≤ 4611686018427387904) (hb : Boxed w b 2 (.int .i64 v)) (hb2 : CxAt w b2 m A n c) :
    FnU Try.prog (.func (.func 62) #[] #[.pointer (some ⟨b2, 0, none⟩), .pointer (some ⟨b, 0, none⟩)]) (decide (v ∈ xs)) w := by
  refine ⟨_, _, _, rfl, enters_of Try.func62 (by kernel_rfl) rfl, fun W hW => ?_⟩
  have hcell : W.cell? ⟨b, 0, none⟩ = some (.int .i64 v) := (hW.cell (p := ⟨b, 0, none⟩) hb.lt).trans hb.cell
  have hb' := hb2.below hW
  have h0 := hb'.c0
  have h1 := hb'.c1
  have HC := Aside0.mk (has_c m A n c xs v W (Kd.C_below hr hW) hn (ascB_asc (isC_of hi).2.1))
  clear hW hb hb2 hb' hr hi
  show Calls Try.prog 62 #[.pointer (some ⟨b2, 0, none⟩), .pointer (some ⟨b, 0, none⟩)] W fun e w' => e = .returned (.bool (decide (v ∈ xs))) ∧ Below W.heap.size W w'
  generalize decide (v ∈ xs) = r at HC ⊢
  go_enter Try.func62, Try.ntmps62
  go_wp2_with (go_at_call 59; refine HC.out.mono ?_; rintro e w1 ⟨rfl, hb⟩)
  go_ret
  exact ⟨rfl, hb⟩

def freeF (n : Int) (xs : List Int) (v : Int) : Bool × Int := if isC n xs then (if v ∈ xs then (((aroundL xs v).length : Int) == 1, 0) else (false, 2)) else (false, 1)
set_option maxRecDepth 100000 in
set_option maxHeartbeats 1000000 in
theorem isFreeFace_c (m : Int) (A : Option Addr) (n c : Nat) (xs : List Int) (v : Int) (w : World) (hr : RC w A n xs) (hn : n ≤ 4611686018427387904) :
    Calls Try.prog 23 #[.agg #[.int .i64 m, .slice A n c], .int .i64 v] w (BoCode w (freeF m xs v).1 (freeF m xs v).2) := by
  have hbk0 := CxAt.new w m A n c
  have hbx := Boxed.new (w.alloc (.cells #[.int .i64 m, .slice A n c] 26)) 2 (.int .i64 v)
  rw [World.size_alloc] at hbx
  have hb1 : Below w.heap.size w ((w.alloc (.cells #[.int .i64 m, .slice A n c] 26)).alloc (.cells #[.int .i64 v] 2)) := ((Below.refl _ w).alloc (Nat.le_refl _) _).alloc (by simp) _
  have hk0 := hbk0.below ((Below.refl _ _).alloc (Nat.le_refl _) (.cells #[.int .i64 v] 2))
  have hc := complexCode_c m A n c xs _ _ _ (Kd.C_below hr hb1) hn (fun hi => isFreeFace1_f (w.heap.size + 1) w.heap.size v m A n c xs _ hi (Kd.C_below hr hb1) hn hbx hk0)
  have l0 := hk0.c0
  have l1 := hk0.c1
  have HB := Aside0.mk hb1
  have HX := Aside0.mk hbx
  have HK0 := Aside0.mk hk0
  have HR := Aside0.mk hr
  clear hb1 hk0 hbx hbk0 hr
  by_cases hq : (isC m xs && decide (v ∈ xs)) = true
  · obtain ⟨hi, hv⟩ := Bool.and_eq_true_iff.1 hq
    rw [hi, hv] at hc
    have HC := Aside0.mk hc
    have HI := Aside0.mk hi
    have HE : Aside0 (freeF m xs v = (((aroundL xs v).length : Int) == 1, 0)) := ⟨by have := of_decide_eq_true hv; simp [freeF, hi, this]⟩
    clear hc hi hq hv
    rw [HE.out]
    unfold codeOf at HC
    go_enter Try.func23, Try.ntmps23
    go_wp2_with (first
      | (go_at_call 54; refine HC.out.mono ?_; rintro e w2 ⟨rfl, hb2⟩; have HB2 := Aside0.mk (below_in HB.out hb2); have K0 := Aside0.mk (HK0.out.below hb2); have k0 := K0.out.c0; have k1 := K0.out.c1; have k2 := (bx_below HX.out hb2).cell; clear hb2)
      | (go_at_call 63; refine (around_c m A n c xs v _ (Kd.C_below HR.out HB2.out) HI.out).mono ?_; rintro e w3 ⟨v3, rfl, hv, hb3⟩; obtain ⟨A3, c3, rfl⟩ := Kd.R_slice hv; have HB3 := Aside0.mk (below_in HB2.out hb3); clear hv hb3))
    go_ret2
    exact ⟨rfl, HB3.out⟩
  · have HE : Aside0 (freeF m xs v = (false, codeOf (isC m xs) (decide (v ∈ xs)))) := ⟨by cases h1 : isC m xs <;> by_cases h2 : v ∈ xs <;> simp_all [freeF, codeOf]⟩
    have HN : codeOf (isC m xs) (decide (v ∈ xs)) ≠ 0 := by cases h1 : isC m xs <;> by_cases h2 : v ∈ xs <;> simp_all [codeOf]
    rw [HE.out]
    generalize codeOf (isC m xs) (decide (v ∈ xs)) = r at hc HN HE ⊢
    have HC := Aside0.mk hc
    clear hc hq
    go_enter Try.func23, Try.ntmps23
    go_wp2_with (go_at_call 54; refine HC.out.mono ?_; rintro e w2 ⟨rfl, hb2⟩; have HB2 := Aside0.mk (below_in HB.out hb2); clear hb2)
    go_ret2
    exact ⟨rfl, HB2.out⟩

end Go.Proofs.Ytdkoioiiacljeaa.Im
