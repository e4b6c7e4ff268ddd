/- DualOf. -/
import Derived.Test.YtdkoioiiacljeaaImH
namespace Go.Proofs.Ytdkoioiiacljeaa.Im
set_option linter.unusedVariables false
set_option linter.unusedSimpArgs false
open Go.RowKit Go.Shelf Go.Proofs.YtdkoioiiacljeaaW.PrintWords Go.Proofs.YtdkoioiiacljeaaW.PrintLast Go.Proofs.YtdkoioiiacljeaaW.PrintMore

theorem isC_of {n : Int} {xs : List Int} (h : isC n xs = true) : (1 ≤ n ∧ n ≤ 6) ∧ ascB n xs = true ∧ closedB xs = true := by
  simpa [isC, withinB, Bool.and_eq_true] using h

def dualP (n : Int) (xs : List Int) (x : Int) : Bool := (x != fullZ n) && !(decide (Go.bits .andNot .i64 (fullZ n) x ∈ xs))

set_option maxRecDepth 100000 in
set_option maxHeartbeats 1000000 in
theorem dualOf1_f (b : Nat) (m : Int) (A : Option Addr) (n c : Nat) (xs : List Int) (w : World) (hb : CxAt w b m A n c) (hr : RC w A n xs) (hn : n ≤ 4611686018427387904) (hi : isC m xs = true) :
    FnB Try.prog (.func (.func 57) #[] #[.pointer (some ⟨b, 0, none⟩)]) (fun _ => True) (dualP m xs) w := by
  refine ⟨_, _, _, rfl, enters_of Try.func57 (by kernel_rfl) rfl, fun W x hW _ => ?_⟩
  have hr' := Kd.C_below hr hW
  have hb' := hb.below hW
  obtain ⟨⟨hm1, hm6⟩, hasc, _⟩ := isC_of hi
  have ha := ascB_asc hasc
  clear hb hr hW hasc hi
  show Calls Try.prog 57 #[.int .i64 x, .pointer (some ⟨b, 0, none⟩)] W fun e w' => e = .returned (.bool (dualP m xs x)) ∧ Below W.heap.size W w'
  have HR := Aside0.mk hr'
  have HA := Aside0.mk ha
  have HBK := Aside0.mk hb'
  have h0 := hb'.c0
  have h1 := hb'.c1
  clear hr' ha hb'
  obtain ⟨F, hF⟩ : ∃ F, fullZ m = F := ⟨_, rfl⟩
  have hfc : ∀ W, Calls Try.prog 58 #[.agg #[.int .i64 m, .slice A n c]] W fun e w' => e = .returned (.int .i64 F) ∧ Below W.heap.size W w' := fun W => by rw [← hF]; exact full_c m _ W hm1 hm6
  have HFC := Lib.hid hfc
  clear hfc
  by_cases hx : x = F
  · subst hx
    have HP : Aside0 (dualP m xs x = false) := ⟨by simp [dualP, hF]⟩
    clear hF
    go_enter Try.func57, Try.ntmps57
    go_wp2
    refine start_ (n := 14) (S := fun w' : World => w'.cell? ⟨b, 0, none⟩ = some (.int .i64 m) ∧ w'.cell? ⟨b, 1, none⟩ = some (.slice A n c)) (ds := []) #[false, false, false, false, false, false, false, false, false, false, false, false, false, false] (by kernel_rfl) rfl rfl ⟨h0, h1⟩ (fun hHeld => ?_)
    refine pure_ (i := 0) (N := some 4) (v := ?_) (a' := ?_) #[true, false, false, false, false, false, false, false, false, false, false, false, false, false] rfl rfl (by kernel_rfl) (fun _ _ _ h => h) (Or.inl ⟨by rfl, ?_⟩) ?_ ?_
    rotate_left
    · intro w'; go_simp; (first | done | with_reducible rfl)
    rotate_left
    · simp only [Act.put, List.setIfInBounds_toArray, List.set_cons_zero, List.set_cons_succ, i64_w, i32_w]; rfl
    refine take_ (i := 1) (N := some 5) (v := ?_) (a' := ?_) #[true, true, false, false, false, false, false, false, false, false, false, false, false, false] rfl rfl (by kernel_rfl) (fun _ _ _ h => h) (Or.inl ⟨by rfl, ?_⟩) hHeld ?_ ?_
    rotate_left
    · rintro w' ⟨s0, s1⟩; go_simp; (first | done | with_reducible rfl)
    rotate_left
    · simp only [Act.put, List.setIfInBounds_toArray, List.set_cons_zero, List.set_cons_succ, i64_w, i32_w]; rfl
    refine one_ (i := 2) (N := some 6) #[true, true, true, false, false, false, false, false, false, false, false, false, false, false] rfl rfl (by kernel_rfl) (by decide) (fun K hK => ?_)
    refine goes_ Try.func58 (by kernel_rfl) rfl _ (by rfl) rfl rfl (by (try simp only [List.map_toArray, List.map_cons, List.map_nil]); first | done | rfl) ?_
    refine (HFC.out _).mono ?_; rintro e w1 ⟨rfl, hb1⟩; have hbw := undrew hb1
    refine ⟨_, rfl, ?_⟩
    refine hK.out _ _ (HBK.out.keep hbw) (fun hHeld => ?_)
    clear hK K
    refine norm_ (a' := ?_) ?_ ?_
    rotate_left
    · show Act.put _ (some 6) _ = _; simp only [Act.put, List.setIfInBounds_toArray, List.set_cons_zero, List.set_cons_succ, i64_w, i32_w]; rfl
    refine pure_ (i := 3) (N := some 7) (v := ?_) (a' := ?_) #[true, true, true, true, false, false, false, false, false, false, false, false, false, false] rfl rfl (by kernel_rfl) (fun _ _ _ h => h) (Or.inl ⟨by rfl, ?_⟩) ?_ ?_
    rotate_left
    · intro w'; go_simp; (first | done | with_reducible rfl)
    rotate_left
    · simp only [Act.put, List.setIfInBounds_toArray, List.set_cons_zero, List.set_cons_succ, i64_w, i32_w]; rfl
    refine pure_ (i := 4) (N := some 8) (v := ?_) (a' := ?_) #[true, true, true, true, true, false, false, false, false, false, false, false, false, false] rfl rfl (by kernel_rfl) (fun _ _ _ h => h) (Or.inl ⟨by rfl, ?_⟩) ?_ ?_
    rotate_left
    · intro w'; go_simp; (first | done | with_reducible rfl)
    rotate_left
    · simp only [Act.put, List.setIfInBounds_toArray, List.set_cons_zero, List.set_cons_succ, i64_w, i32_w]; rfl
    refine pure_ (i := 5) (N := some 9) (v := undef) (a' := ?_) #[true, true, true, true, true, true, false, false, false, false, false, false, false, false] rfl rfl (by kernel_rfl) (fun _ _ _ h => h) (Or.inr ⟨by rfl, rfl⟩) ?_ ?_
    rotate_left
    · simp only [Act.put, List.setIfInBounds_toArray, List.set_cons_zero, List.set_cons_succ, i64_w, i32_w]; rfl
    refine pure_ (i := 6) (N := some 10) (v := undef) (a' := ?_) #[true, true, true, true, true, true, true, false, false, false, false, false, false, false] rfl rfl (by kernel_rfl) (fun _ _ _ h => h) (Or.inr ⟨by rfl, rfl⟩) ?_ ?_
    rotate_left
    · simp only [Act.put, List.setIfInBounds_toArray, List.set_cons_zero, List.set_cons_succ, i64_w, i32_w]; rfl
    refine pure_ (i := 7) (N := some 11) (v := undef) (a' := ?_) #[true, true, true, true, true, true, true, true, false, false, false, false, false, false] rfl rfl (by kernel_rfl) (fun _ _ _ h => h) (Or.inr ⟨by rfl, rfl⟩) ?_ ?_
    rotate_left
    · simp only [Act.put, List.setIfInBounds_toArray, List.set_cons_zero, List.set_cons_succ, i64_w, i32_w]; rfl
    refine pure_ (i := 8) (N := some 12) (v := undef) (a' := ?_) #[true, true, true, true, true, true, true, true, true, false, false, false, false, false] rfl rfl (by kernel_rfl) (fun _ _ _ h => h) (Or.inr ⟨by rfl, rfl⟩) ?_ ?_
    rotate_left
    · simp only [Act.put, List.setIfInBounds_toArray, List.set_cons_zero, List.set_cons_succ, i64_w, i32_w]; rfl
    refine pure_ (i := 9) (N := some 13) (v := undef) (a' := ?_) #[true, true, true, true, true, true, true, true, true, true, false, false, false, false] rfl rfl (by kernel_rfl) (fun _ _ _ h => h) (Or.inr ⟨by rfl, rfl⟩) ?_ ?_
    rotate_left
    · simp only [Act.put, List.setIfInBounds_toArray, List.set_cons_zero, List.set_cons_succ, i64_w, i32_w]; rfl
    refine pure_ (i := 10) (N := some 14) (v := undef) (a' := ?_) #[true, true, true, true, true, true, true, true, true, true, true, false, false, false] rfl rfl (by kernel_rfl) (fun _ _ _ h => h) (Or.inr ⟨by rfl, rfl⟩) ?_ ?_
    rotate_left
    · simp only [Act.put, List.setIfInBounds_toArray, List.set_cons_zero, List.set_cons_succ, i64_w, i32_w]; rfl
    refine pure_ (i := 11) (N := some 15) (v := undef) (a' := ?_) #[true, true, true, true, true, true, true, true, true, true, true, true, false, false] rfl rfl (by kernel_rfl) (fun _ _ _ h => h) (Or.inr ⟨by rfl, rfl⟩) ?_ ?_
    rotate_left
    · simp only [Act.put, List.setIfInBounds_toArray, List.set_cons_zero, List.set_cons_succ, i64_w, i32_w]; rfl
    refine pure_ (i := 12) (N := some 16) (v := ?_) (a' := ?_) #[true, true, true, true, true, true, true, true, true, true, true, true, true, false] rfl rfl (by kernel_rfl) (fun _ _ _ h => h) (Or.inl ⟨by rfl, ?_⟩) ?_ ?_
    rotate_left
    · intro w'; go_simp; (first | done | with_reducible rfl)
    rotate_left
    · simp only [Act.put, List.setIfInBounds_toArray, List.set_cons_zero, List.set_cons_succ, i64_w, i32_w]; rfl
    refine pure_ (i := 13) (N := some 3) (v := ?_) (a' := ?_) #[true, true, true, true, true, true, true, true, true, true, true, true, true, true] rfl rfl (by kernel_rfl) (fun _ _ _ h => h) (Or.inl ⟨by rfl, ?_⟩) ?_ ?_
    rotate_left
    · intro w'; go_simp; (first | done | with_reducible rfl)
    rotate_left
    · simp only [Act.put, List.setIfInBounds_toArray, List.set_cons_zero, List.set_cons_succ, i64_w, i32_w]; rfl
    refine done_ (by kernel_rfl) ?_
    go_wp2
    go_ret
    exact ⟨by rw [HP.out]; rfl, hbw⟩
  · have HP : Aside0 (dualP m xs x = !(decide (Go.bits .andNot .i64 F x ∈ xs))) := ⟨by simp [dualP, hF, hx]⟩
    have hx1 : (x == F) = false := by simpa using hx
    have hx2 : (x != F) = true := by simpa using hx
    clear hF hx
    go_enter Try.func57, Try.ntmps57
    go_wp2
    go_region_held3 (fun w' : World => w'.cell? ⟨b, 0, none⟩ = some (.int .i64 m) ∧ w'.cell? ⟨b, 1, none⟩ = some (.slice A n c)) (first | exact ⟨h0, h1⟩ | exact HBK.out.keep (by assumption)) (first | (go_at_call 58; refine (HFC.out _).mono ?_; rintro e w1 ⟨rfl, hb1⟩; first | have hbw := undrew hb1 | have hbx := below_in hbw hb1) | (go_at_call 59; refine (has_c _ _ _ _ xs _ _ (Kd.C_below HR.out hbx) hn HA.out).mono ?_; rintro e w3 ⟨rfl, hb3⟩; have hby := below_in hbx hb3))
    go_wp2
    go_ret
    exact ⟨by rw [HP.out]; rfl, hby⟩

/-- What a function leaves that hands back a complex and a code: the slice is the call's own. -/
def CxCode (base : Nat) (w : World) (r1 : Int) (r2 : List Int) (r3 : Int) (e : Ending) (w' : World) : Prop :=
  ∃ v : Value, e = .returned (.tuple #[.agg #[.int .i64 r1, v], .int .i64 r3]) ∧ RO w' base v r2 ∧ Below base w w'

def dualF (n : Int) (xs : List Int) : Int × List Int × Int := if isC n xs then (n, thoseL n (dualP n xs), 0) else (0, [], 1)

set_option maxRecDepth 100000 in
set_option maxHeartbeats 1000000 in
theorem dualOf_c (m : Int) (A : Option Addr) (n c : Nat) (xs : List Int) (w : World) (hr : RC w A n xs) (hn : n ≤ 4611686018427387904) :
    Calls Try.prog 18 #[.agg #[.int .i64 m, .slice A n c]] w (CxCode w.heap.size w (dualF m xs).1 (dualF m xs).2.1 (dualF m xs).2.2) := by
  have hbk0 := CxAt.new w m A n c
  have hbk1 := CxAt.new (w.alloc (.cells #[.int .i64 m, .slice A n c] 26)) 0 none 0 0
  rw [World.size_alloc] at hbk1
  have hb1 : Below w.heap.size w ((w.alloc (.cells #[.int .i64 m, .slice A n c] 26)).alloc (.cells #[.int .i64 0, .slice none 0 0] 26)) := ((Below.refl _ w).alloc (Nat.le_refl _) _).alloc (by simp) _
  have hk0 := hbk0.below ((Below.refl _ _).alloc (Nat.le_refl _) (.cells #[.int .i64 0, .slice none 0 0] 26))
  have hc := fun hf => complexCode_c m A n c xs (.func (.func 55) #[] #[]) true _ (Kd.C_below hr hb1) hn hf
  have hc := hc (fun _ => always_f _)
  have HK0 := Aside0.mk hk0
  have HK1 := Aside0.mk hbk1
  have HB1 := Aside0.mk hb1
  have HR := Aside0.mk hr
  have l0 := hk0.c0
  have l1 := hk0.c1
  clear hbk0 hbk1 hb1 hk0 hr
  cases hi : isC m xs with
  | false =>
    rw [hi] at hc
    have HC := Aside0.mk hc
    have HE : Aside0 (dualF m xs = (0, [], 1)) := ⟨by simp [dualF, hi]⟩
    clear hc hi
    rw [HE.out]
    unfold codeOf at HC
    go_enter Try.func18, Try.ntmps18
    go_wp2_with (go_at_call 54; refine HC.out.mono ?_; rintro e w2 ⟨rfl, hb2⟩; have HB2 := Aside0.mk (below_in HB1.out hb2); have K1 := Aside0.mk (HK1.out.below hb2); have m0 := K1.out.c0; have m1 := K1.out.c1; have f0 := K1.out.fz0; have f1 := K1.out.fz; clear hb2)
    have hX := K1.out.set2 0 none 0 0
    have x0 := hX.c0
    have x1 := hX.c1
    exact bodyPost_ret (v := .tuple #[.agg #[.int .i64 0, .slice none 0 0], .int .i64 1]) (by simp [results, Try.results18, go_sem, x0, x1]) rfl ⟨_, rfl, Kd.R_nil _ _ _ _ _, (HB2.out.setCell (p := ⟨w.heap.size + 1, 0, none⟩) (by simp) _).setCell (p := ⟨w.heap.size + 1, 1, none⟩) (by simp) _⟩
  | true =>
    rw [hi] at hc
    have HC := Aside0.mk hc
    have HI := Aside0.mk hi
    have HE : Aside0 (dualF m xs = (m, thoseL m (dualP m xs), 0)) := ⟨by simp [dualF, hi]⟩
    obtain ⟨⟨hm1, hm6⟩, _, _⟩ := isC_of hi
    clear hc hi
    rw [HE.out]
    unfold codeOf at HC
    go_enter Try.func18, Try.ntmps18
    go_wp2_with (first
      | (go_at_call 54; refine HC.out.mono ?_; rintro e w2 ⟨rfl, hb2⟩; have HB2 := Aside0.mk (below_in HB1.out hb2); have K0 := Aside0.mk (HK0.out.below hb2); have K1 := Aside0.mk (HK1.out.below hb2); have k0 := K0.out.c0; have m0 := K1.out.c0; have m1 := K1.out.c1; have f0 := K1.out.fz0; have f1 := K1.out.fz; clear hb2)
      | (go_at_call 56; refine (those_c m _ _ _ _ hm1 hm6 (dualOf1_f w.heap.size m A n c xs _ K0.out (Kd.C_below HR.out HB2.out) hn HI.out) (fun _ _ _ => trivial)).mono ?_; rintro e w3 ⟨v, rfl, hv, hb3⟩; obtain ⟨A3, c3, rfl⟩ := Kd.R_slice hv; have R3 := Aside0.mk hv; have HB3 := Aside0.mk (below_in HB2.out hb3); have K13 := Aside0.mk (K1.out.below hb3); have n0 := K13.out.c0; have n1 := K13.out.c1; have g0 := K13.out.fz0; have g1 := K13.out.fz; clear hv hb3))
    have hX := K13.out.set2 m A3 (thoseL m (dualP m xs)).length c3
    have x0 := hX.c0
    have x1 := hX.c1
    exact bodyPost_ret (v := .tuple #[.agg #[.int .i64 m, .slice A3 (thoseL m (dualP m xs)).length c3], .int .i64 0]) (by simp [results, Try.results18, go_sem, x0, x1]) rfl ⟨_, rfl, Kd.R_lower ((R3.out.set K13.out _ _).set (K13.out.set0 _) _ _) HB2.out.size, (HB3.out.setCell (p := ⟨w.heap.size + 1, 0, none⟩) (by simp) _).setCell (p := ⟨w.heap.size + 1, 1, none⟩) (by simp) _⟩

end Go.Proofs.Ytdkoioiiacljeaa.Im
