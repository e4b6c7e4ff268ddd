/- complexCode, those. -/
import Derived.Test.YtdkoioiiacljeaaImG
namespace Go.Proofs.Ytdkoioiiacljeaa.Im
set_option linter.unusedVariables false
set_option linter.unusedSimpArgs false
open Go.RowKit Go.Shelf Go.Proofs.YtdkoioiiacljeaaW.PrintWords Go.Proofs.YtdkoioiiacljeaaW.PrintLast Go.Proofs.YtdkoioiiacljeaaW.PrintMore

set_option maxRecDepth 100000 in
theorem complexCode_c (m : Int) (A : Option Addr) (n c : Nat) (xs : List Int) (fv : Value) (b : Bool) (w : World) (hr : RC w A n xs) (hn : n ≤ 4611686018427387904) (hf : isC m xs = true → FnU Try.prog fv b w) :
    Calls Try.prog 54 #[.agg #[.int .i64 m, .slice A n c], fv] w fun e w' => e = .returned (.int .i64 (codeOf (isC m xs) b)) ∧ Below w.heap.size w w' := by
  have hb1 : Below w.heap.size w (w.alloc (.cells #[.int .i64 m, .slice A n c] 26)) := (Below.refl _ w).alloc (Nat.le_refl _) _
  have hc := isComplex_c m A n c xs _ (Kd.C_below hr hb1) hn
  have HB1 := Aside0.mk hb1
  clear hb1 hr hn
  cases hi : isC m xs with
  | false =>
    rw [hi] at hc
    have HC := Aside0.mk hc
    clear hc hf hi
    go_enter Try.func54, Try.ntmps54
    go_wp2_with (go_at_call 91; refine HC.out.mono ?_; rintro e w2 ⟨rfl, hb2⟩)
    go_ret
    exact ⟨by cases b <;> rfl, below_in HB1.out hb2⟩
  | true =>
    rw [hi] at hc
    have HC := Aside0.mk hc
    obtain ⟨g, fs, lb, rfl, eg, hcall⟩ := hf hi
    have HF := Aside0.mk hcall
    clear hc hf hi hcall
    cases b with
    | false =>
      go_enter Try.func54, Try.ntmps54
      go_wp2_with (first | (go_at_call 91; refine HC.out.mono ?_; rintro e w2 ⟨rfl, hb2⟩; have HB2 := Aside0.mk (below_in HB1.out hb2); clear hb2) | (go_at_fn g; refine (HF.out _ HB2.out).mono ?_; rintro e w3 ⟨rfl, hb3⟩; have HB3 := Aside0.mk (below_in HB2.out hb3); clear hb3))
      go_ret
      exact ⟨rfl, HB3.out⟩
    | true =>
      go_enter Try.func54, Try.ntmps54
      go_wp2_with (first | (go_at_call 91; refine HC.out.mono ?_; rintro e w2 ⟨rfl, hb2⟩; have HB2 := Aside0.mk (below_in HB1.out hb2); clear hb2) | (go_at_fn g; refine (HF.out _ HB2.out).mono ?_; rintro e w3 ⟨rfl, hb3⟩; have HB3 := Aside0.mk (below_in HB2.out hb3); clear hb3))
      go_ret
      exact ⟨rfl, HB3.out⟩

theorem always_f (w : World) : FnU Try.prog (.func (.func 55) #[] #[]) true w :=
  ⟨_, _, _, rfl, enters_of Try.func55 (by kernel_rfl) rfl, fun W _ => (always_c W).mono (by rintro e w' ⟨rfl, rfl⟩; exact ⟨rfl, Below.refl _ _⟩)⟩

/-- 1, 2, .., k - 1. -/
def nums1 (k : Nat) : List Int := (List.range (k - 1)).map fun i => ((i + 1 : Nat) : Int)
theorem nums1_succ {k : Nat} (h : 1 ≤ k) : nums1 (k + 1) = nums1 k ++ [(k : Int)] := by
  unfold nums1
  rw [show k + 1 - 1 = (k - 1) + 1 by omega, List.range_succ, List.map_append]
  simp only [List.map_cons, List.map_nil, show k - 1 + 1 = k by omega]
theorem nums1_len (k : Nat) : (nums1 k).length = k - 1 := by simp [nums1]
theorem mem_nums1 {k : Nat} {x : Int} : x ∈ nums1 k ↔ 1 ≤ x ∧ x < k := by
  simp only [nums1, List.mem_map, List.mem_range]
  constructor
  · rintro ⟨a, ha, rfl⟩; omega
  · intro h; exact ⟨(x - 1).toNat, by omega, by omega⟩
/-- The sets of n vertices that are as told. -/
def thoseL (n : Int) (p : Int → Bool) : List Int := (nums1 (2 ^ n.toNat)).filter p
def thoseUpto (p : Int → Bool) (k : Nat) : List Int := (nums1 k).filter p
theorem thoseUpto_yes {p : Int → Bool} {k : Nat} (h : 1 ≤ k) (hp : p (k : Int) = true) : thoseUpto p (k + 1) = thoseUpto p k ++ [(k : Int)] := by
  unfold thoseUpto; rw [nums1_succ h, List.filter_append]; simp [hp]
theorem thoseUpto_no {p : Int → Bool} {k : Nat} (h : 1 ≤ k) (hp : p (k : Int) = false) : thoseUpto p (k + 1) = thoseUpto p k := by
  unfold thoseUpto; rw [nums1_succ h, List.filter_append]; simp [hp]
theorem thoseUpto_len (p : Int → Bool) (k : Nat) : (thoseUpto p k).length ≤ k := by
  unfold thoseUpto
  have := List.length_filter_le p (nums1 k)
  rw [nums1_len] at this
  omega

set_option maxRecDepth 100000 in
set_option maxHeartbeats 2000000 in
theorem those_c (n : Int) (fv : Value) (dom : Int → Prop) (p : Int → Bool) (w : World) (hn1 : 1 ≤ n) (hn6 : n ≤ 6) (hf : FnB Try.prog fv dom p w) (hd : ∀ x, 1 ≤ x → x ≤ fullZ n → dom x) :
    Calls Try.prog 56 #[.int .i64 n, fv] w fun e w' => ∃ v, e = .returned (.agg #[.int .i64 n, v]) ∧ RO w' w.heap.size v (thoseL n p) ∧ Below w.heap.size w w' := by
  obtain ⟨g, fs, lb, rfl, eg, hcall⟩ := hf
  obtain ⟨N, hN⟩ : ∃ N : Nat, 2 ^ n.toNat = N := ⟨_, rfl⟩
  have hsh : IntKind.i64.wrap (2 ^ n.toNat) = (N : Int) ∧ 2 ≤ N ∧ N ≤ 64 := by
    rw [← hN]
    obtain rfl | rfl | rfl | rfl | rfl | rfl : n = 1 ∨ n = 2 ∨ n = 3 ∨ n = 4 ∨ n = 5 ∨ n = 6 := by omega
    all_goals exact ⟨rfl, by decide, by decide⟩
  obtain ⟨hsh, hN2, hN64⟩ := hsh
  have e2 : (2 : Int) ^ n.toNat = (N : Int) := by rw [← hN]; simp
  have hd' : ∀ x : Int, 1 ≤ x → x < N → dom x := fun x h1 h2 => hd x h1 (by unfold fullZ; rw [e2]; omega)
  have HD := Aside0.mk hd'
  have HF := Aside0.mk hcall
  have HL : Aside0 (thoseL n p = thoseUpto p N) := ⟨by unfold thoseL thoseUpto; rw [hN]⟩
  clear hcall hd hd' hN e2
  have hbk0 := CxAt.new w 0 none 0 0
  have hbk1 := CxAt.new (w.alloc (.cells #[.int .i64 0, .slice none 0 0] 26)) n none 0 0
  rw [World.size_alloc] at hbk1
  have hb1 : Below w.heap.size w ((w.alloc (.cells #[.int .i64 0, .slice none 0 0] 26)).alloc (.cells #[.int .i64 n, .slice none 0 0] 26)) := ((Below.refl _ w).alloc (Nat.le_refl _) _).alloc (by simp) _
  have HK0 := Aside0.mk (hbk0.below ((Below.refl _ _).alloc (Nat.le_refl _) (.cells #[.int .i64 n, .slice none 0 0] 26)))
  have HK1 := Aside0.mk hbk1
  have HB1 := Aside0.mk hb1
  clear hbk0 hbk1 hb1
  go_enter Try.func56, Try.ntmps56
  go_wp2
  go_loopw [6] (fun i wr => ∃ (k : Nat) (A : Option Addr) (c : Nat), 1 ≤ k ∧ k ≤ N ∧ i = .int .i64 k ∧ Aside0 (CxAt wr (w.heap.size + 1) n A (thoseUpto p k).length c) ∧ Aside0 (RO wr w.heap.size (.slice A (thoseUpto p k).length c) (thoseUpto p k)) ∧ Aside0 (CxAt wr w.heap.size 0 none 0 0) ∧ Aside0 (Below w.heap.size w wr)) (fun i _ => N - (intOf i).toNat)
  case atStart => exact ⟨1, none, 0, by omega, by omega, rfl, HK1, ⟨Kd.R_nil _ _ _ _ _⟩, HK0, HB1⟩
  case round =>
    obtain ⟨k, A, c, hk1, hkN, rfl, K5, R, K4, B⟩ := hrel
    by_cases hlt : k < N
    · have hltz : (k : Int) < (N : Int) := by omega
      have hpk := HF.out wr (k : Int) B.out (HD.out _ (by omega) (by omega))
      have HP := Aside0.mk hpk
      clear hpk
      cases hq : p (k : Int) with
      | false =>
        rw [hq] at HP
        have HQ := Aside0.mk hq
        clear hq
        go_wp2_with (go_at_fn g; refine HP.out.mono ?_; rintro e w2 ⟨rfl, hb2⟩; have HB2 := Aside0.mk hb2; clear hb2)
        go_roundw
        case measure => simp [intOf]; omega
        case rel => exact ⟨k + 1, A, c, by omega, by omega, by go_num, by rw [thoseUpto_no hk1 HQ.out]; exact ⟨K5.out.below HB2.out⟩, by rw [thoseUpto_no hk1 HQ.out]; exact ⟨Kd.R_below R.out HB2.out⟩, ⟨K4.out.below HB2.out⟩, ⟨below_in B.out HB2.out⟩⟩
      | true =>
        rw [hq] at HP
        have HQ := Aside0.mk hq
        clear hq
        have hll : (thoseUpto p k).length ≤ 64 := Nat.le_trans (thoseUpto_len p k) (by omega)
        go_wp2_with (first
          | (go_at_fn g; refine HP.out.mono ?_; rintro e w2 ⟨rfl, hb2⟩; have HB2 := Aside0.mk hb2; have K52 := Aside0.mk (K5.out.below hb2); have R2 := Aside0.mk (Kd.R_below R.out hb2); have K42 := Aside0.mk (K4.out.below hb2); have B2 := Aside0.mk (below_in B.out hb2); have l1 := K52.out.c1; clear hb2)
          | (at_builtin; refine ap64 w.heap.size rfl (.tmp 19) (.tmp 21) 22 rfl Try.underlying22 info64 _ _ _ rfl rfl R2.out B2.out B2.out.size (by omega) ?_; intro v1 w1 ho hb hg hat; clear hat; obtain ⟨A1, c1, rfl⟩ := Kd.R_slice ho; have R3 := Aside0.mk ho; have B3 := Aside0.mk hb; have K53 := Aside0.mk (K52.out.grown hg R2.out); have K43 := Aside0.mk (K42.out.grown hg R2.out); have m1 := K53.out.c1; have m2 := K53.out.fz; clear ho hb hg))
        go_roundw
        case measure => simp [intOf]; omega
        case rel =>
          refine ⟨k + 1, A1, c1, by omega, by omega, by go_num, ?_⟩
          rw [thoseUpto_yes hk1 HQ.out, List.length_append]
          exact ⟨⟨K53.out.set _ _ _⟩, ⟨by have := R3.out.set K53.out 1 (.slice A1 ((thoseUpto p k).length + 1) c1); simpa using this⟩, ⟨K43.out.far (by omega) _⟩, ⟨B3.out.setCell (p := ⟨w.heap.size + 1, 1, none⟩) (by simp) _⟩⟩
    · obtain rfl : k = N := by omega
      have hltz : ¬ (k : Int) < (k : Int) := by omega
      have l0 := K5.out.c0
      have l1 := K5.out.c1
      have m0 := K4.out.c0
      have m1 := K4.out.c1
      have f0 := K4.out.fz0
      have f1 := K4.out.fz
      go_wp2
      have hX := K4.out.set2 n A (thoseUpto p k).length c
      have x0 := hX.c0
      have x1 := hX.c1
      refine bodyPost_ret (v := .agg #[.int .i64 n, .slice A (thoseUpto p k).length c]) (by simp [results, Try.results56, go_sem, x0, x1]) rfl ⟨_, rfl, ?_, ?_⟩
      · rw [HL.out]
        exact (R.out.set K4.out _ _).set (K4.out.set0 _) _ _
      · exact (B.out.setCell (p := ⟨w.heap.size, 0, none⟩) (Nat.le_refl _) _).setCell (p := ⟨w.heap.size, 1, none⟩) (Nat.le_refl _) _

end Go.Proofs.Ytdkoioiiacljeaa.Im
