/- MissingFaces, JoinOf, SuspensionOf. -/
import Derived.Test.YtdkoioiiacljeaaImI
namespace Go.Proofs.Ytdkoioiiacljeaa.Im
set_option linter.unusedVariables false
set_option linter.unusedSimpArgs false
open Go.RowKit Go.Shelf Go.Proofs.YtdkoioiiacljeaaW.PrintWords Go.Proofs.YtdkoioiiacljeaaW.PrintLast Go.Proofs.YtdkoioiiacljeaaW.PrintMore

/-- What a function leaves that hands back a list and a code. -/
def SlCode (base : Nat) (w : World) (r1 : List Int) (r2 : Int) (e : Ending) (w' : World) : Prop :=
  ∃ v : Value, e = .returned (.tuple #[v, .int .i64 r2]) ∧ RO w' base v r1 ∧ Below base w w'
/-- .. a list. -/
def SlOnly (base : Nat) (w : World) (r1 : List Int) (e : Ending) (w' : World) : Prop := ∃ v : Value, e = .returned v ∧ RO w' base v r1 ∧ Below base w w'
/-- .. a complex. -/
def CxOnly (base : Nat) (w : World) (r1 : Int) (r2 : List Int) (e : Ending) (w' : World) : Prop := ∃ v : Value, e = .returned (.agg #[.int .i64 r1, v]) ∧ RO w' base v r2 ∧ Below base w w'
/-- .. a bool and a code. -/
def BoCode (w : World) (r1 : Bool) (r2 : Int) (e : Ending) (w' : World) : Prop := e = .returned (.tuple #[.bool r1, .int .i64 r2]) ∧ Below w.heap.size w w'

/-- A field of a complex that was handed back. -/
@[go_sem] theorem field_cx1 (a v : Value) (w : World) : (Instr.field 26 (.agg #[a, v]) 1).run Try.prog w = .ok v w := by simp [Instr.field, asAgg, go_sem]
@[go_sem] theorem field_cx0 (a v : Value) (w : World) : (Instr.field 26 (.agg #[a, v]) 0).run Try.prog w = .ok a w := by simp [Instr.field, asAgg, go_sem]

def missP (xs : List Int) (x : Int) : Bool := !(decide (x ∈ xs)) && (bordersL x).all fun y => decide (y ∈ xs)

set_option maxRecDepth 100000 in
set_option maxHeartbeats 1000000 in
theorem missing1_f (b : Nat) (m : Int) (A : Option Addr) (n c : Nat) (xs : List Int) (w : World) (hb : CxAt w b m A n c) (hr : RC w A n xs) (hn : n ≤ 4611686018427387904) (ha : Asc xs) :
    FnB Try.prog (.func (.func 96) #[] #[.pointer (some ⟨b, 0, none⟩)]) (fun _ => True) (missP xs) w := by
  refine ⟨_, _, _, rfl, enters_of Try.func96 (by kernel_rfl) rfl, fun W x hW _ => ?_⟩
  have hr' := Kd.C_below hr hW
  have hb' := hb.below hW
  clear hb hr hW
  show Calls Try.prog 96 #[.int .i64 x, .pointer (some ⟨b, 0, none⟩)] W fun e w' => e = .returned (.bool (missP xs x)) ∧ Below W.heap.size W w'
  have HR := Aside0.mk hr'
  have HA := Aside0.mk ha
  have HBK := Aside0.mk hb'
  have h0 := hb'.c0
  have h1 := hb'.c1
  clear hr' ha hb'
  have hh := fun W' (hB : Below W.heap.size W W') => has_c m A n c xs x W' (Kd.C_below HR.out hB) hn HA.out
  have HH := Lib.hid hh
  clear hh
  by_cases hx : x ∈ xs
  · have HP : Aside0 (missP xs x = false) := ⟨by simp [missP, hx]⟩
    rw [decide_eq_true hx] at HH
    clear hx
    go_enter Try.func96, Try.ntmps96
    go_wp2
    refine start_ (n := 12) (S := fun w' : World => w'.cell? ⟨b, 0, none⟩ = some (.int .i64 m) ∧ w'.cell? ⟨b, 1, none⟩ = some (.slice A n c)) (ds := []) #[false, false, false, false, false, false, false, false, false, false, false, false] (by kernel_rfl) rfl rfl ⟨h0, h1⟩ (fun hHeld => ?_)
    refine pure_ (i := 1) (N := some 5) (v := ?_) (a' := ?_) #[false, true, false, false, false, false, false, false, false, false, false, false] rfl rfl (by kernel_rfl) (fun _ _ _ h => h) (Or.inl ⟨by rfl, ?_⟩) ?_ ?_
    rotate_left
    · intro w'; go_simp; (first | done | with_reducible rfl)
    rotate_left
    · simp only [Act.put, List.setIfInBounds_toArray, List.set_cons_zero, List.set_cons_succ, i64_w, i32_w]; rfl
    refine take_ (i := 0) (N := some 4) (v := ?_) (a' := ?_) #[true, true, false, false, false, false, false, false, false, false, false, false] rfl rfl (by kernel_rfl) (fun _ _ _ h => h) (Or.inl ⟨by rfl, ?_⟩) hHeld ?_ ?_
    rotate_left
    · rintro w' ⟨s0, s1⟩; go_simp; (first | done | with_reducible rfl)
    rotate_left
    · simp only [Act.put, List.setIfInBounds_toArray, List.set_cons_zero, List.set_cons_succ, i64_w, i32_w]; rfl
    refine one_ (i := 2) (N := some 6) #[true, true, true, false, false, false, false, false, false, false, false, false] rfl rfl (by kernel_rfl) (by decide) (fun K hK => ?_)
    refine goes_ Try.func59 (by kernel_rfl) rfl _ (by rfl) rfl rfl (by (try simp only [List.map_toArray, List.map_cons, List.map_nil]); first | done | rfl) ?_
    refine (HH.out _ ((Below.refl _ _).drew)).mono ?_; rintro e w1 ⟨rfl, hb1⟩; have hbw := undrew hb1
    refine ⟨_, rfl, ?_⟩
    refine hK.out _ _ (HBK.out.keep hbw) (fun hHeld => ?_)
    clear hK K
    refine norm_ (a' := ?_) ?_ ?_
    rotate_left
    · show Act.put _ (some 6) _ = _; simp only [Act.put, List.setIfInBounds_toArray, List.set_cons_zero, List.set_cons_succ, i64_w, i32_w]; rfl
    refine pure_ (i := 3) (N := some 7) (v := ?_) (a' := ?_) #[true, true, true, true, false, false, false, false, false, false, false, false] rfl rfl (by kernel_rfl) (fun _ _ _ h => h) (Or.inl ⟨by rfl, ?_⟩) ?_ ?_
    rotate_left
    · intro w'; go_simp; (first | done | with_reducible rfl)
    rotate_left
    · simp only [Act.put, List.setIfInBounds_toArray, List.set_cons_zero, List.set_cons_succ, i64_w, i32_w]; rfl
    refine pure_ (i := 4) (N := some 8) (v := ?_) (a' := ?_) #[true, true, true, true, true, false, false, false, false, false, false, false] rfl rfl (by kernel_rfl) (fun _ _ _ h => h) (Or.inl ⟨by rfl, ?_⟩) ?_ ?_
    rotate_left
    · intro w'; go_simp; (first | done | with_reducible rfl)
    rotate_left
    · simp only [Act.put, List.setIfInBounds_toArray, List.set_cons_zero, List.set_cons_succ, i64_w, i32_w]; rfl
    refine pure_ (i := 5) (N := some 9) (v := undef) (a' := ?_) #[true, true, true, true, true, true, false, false, false, false, false, false] rfl rfl (by kernel_rfl) (fun _ _ _ h => h) (Or.inr ⟨by rfl, rfl⟩) ?_ ?_
    rotate_left
    · simp only [Act.put, List.setIfInBounds_toArray, List.set_cons_zero, List.set_cons_succ, i64_w, i32_w]; rfl
    refine pure_ (i := 6) (N := some 10) (v := undef) (a' := ?_) #[true, true, true, true, true, true, true, false, false, false, false, false] rfl rfl (by kernel_rfl) (fun _ _ _ h => h) (Or.inr ⟨by rfl, rfl⟩) ?_ ?_
    rotate_left
    · simp only [Act.put, List.setIfInBounds_toArray, List.set_cons_zero, List.set_cons_succ, i64_w, i32_w]; rfl
    refine pure_ (i := 7) (N := some 11) (v := undef) (a' := ?_) #[true, true, true, true, true, true, true, true, false, false, false, false] rfl rfl (by kernel_rfl) (fun _ _ _ h => h) (Or.inr ⟨by rfl, rfl⟩) ?_ ?_
    rotate_left
    · simp only [Act.put, List.setIfInBounds_toArray, List.set_cons_zero, List.set_cons_succ, i64_w, i32_w]; rfl
    refine pure_ (i := 8) (N := some 12) (v := undef) (a' := ?_) #[true, true, true, true, true, true, true, true, true, false, false, false] rfl rfl (by kernel_rfl) (fun _ _ _ h => h) (Or.inr ⟨by rfl, rfl⟩) ?_ ?_
    rotate_left
    · simp only [Act.put, List.setIfInBounds_toArray, List.set_cons_zero, List.set_cons_succ, i64_w, i32_w]; rfl
    refine pure_ (i := 9) (N := some 13) (v := undef) (a' := ?_) #[true, true, true, true, true, true, true, true, true, true, false, false] rfl rfl (by kernel_rfl) (fun _ _ _ h => h) (Or.inr ⟨by rfl, rfl⟩) ?_ ?_
    rotate_left
    · simp only [Act.put, List.setIfInBounds_toArray, List.set_cons_zero, List.set_cons_succ, i64_w, i32_w]; rfl
    refine pure_ (i := 10) (N := some 14) (v := ?_) (a' := ?_) #[true, true, true, true, true, true, true, true, true, true, true, false] rfl rfl (by kernel_rfl) (fun _ _ _ h => h) (Or.inl ⟨by rfl, ?_⟩) ?_ ?_
    rotate_left
    · intro w'; go_simp; (first | done | with_reducible rfl)
    rotate_left
    · simp only [Act.put, List.setIfInBounds_toArray, List.set_cons_zero, List.set_cons_succ, i64_w, i32_w]; rfl
    refine pure_ (i := 11) (N := some 3) (v := ?_) (a' := ?_) #[true, true, true, true, true, true, true, true, true, true, true, true] rfl rfl (by kernel_rfl) (fun _ _ _ h => h) (Or.inl ⟨by rfl, ?_⟩) ?_ ?_
    rotate_left
    · intro w'; go_simp; (first | done | with_reducible rfl)
    rotate_left
    · simp only [Act.put, List.setIfInBounds_toArray, List.set_cons_zero, List.set_cons_succ, i64_w, i32_w]; rfl
    refine done_ (by kernel_rfl) ?_
    go_wp2
    go_ret
    exact ⟨by rw [HP.out]; rfl, hbw⟩
  · have HP : Aside0 (missP xs x = (bordersL x).all fun y => decide (y ∈ xs)) := ⟨by simp [missP, hx]⟩
    rw [decide_eq_false hx] at HH
    clear hx
    go_enter Try.func96, Try.ntmps96
    go_wp2
    go_region_held3 (fun w' : World => w'.cell? ⟨b, 0, none⟩ = some (.int .i64 m) ∧ w'.cell? ⟨b, 1, none⟩ = some (.slice A n c)) (first | exact ⟨h0, h1⟩ | exact HBK.out.keep (by assumption)) (first | (go_at_call 59; refine (HH.out _ ((Below.refl _ _).drew)).mono ?_; rintro e w1 ⟨rfl, hb1⟩; have hbw := undrew hb1) | (go_at_call 98; refine (borders_c _ _).mono ?_; rintro e w2 ⟨v, rfl, hv, hbv⟩; have hb2 := below_in hbw hbv; obtain ⟨Av, cv, rfl⟩ := Kd.R_slice hv) | (go_at_call 97; refine (areAll_c _ _ _ _ _ _ _ _ (Kd.R_reads' hv).2.2 (has_f m A n c xs _ (Kd.C_below HR.out hb2) hn HA.out) (fun _ _ => trivial)).mono ?_; rintro e w3 ⟨rfl, hb3⟩; have hb4 := below_in hb2 hb3))
    all_goals
      go_wp2
      go_ret
      exact ⟨by rw [HP.out]; rfl, hb4⟩

def missL (n : Int) (xs : List Int) : List Int := thoseL n (missP xs)
set_option maxRecDepth 100000 in
theorem missing_c (m : Int) (A : Option Addr) (n c : Nat) (xs : List Int) (w : World) (hr : RC w A n xs) (hn : n ≤ 4611686018427387904) (hi : isC m xs = true) :
    Calls Try.prog 65 #[.agg #[.int .i64 m, .slice A n c]] w (SlOnly w.heap.size w (missL m xs)) := by
  have hbk := CxAt.new w m A n c
  have hb1 : Below w.heap.size w (w.alloc (.cells #[.int .i64 m, .slice A n c] 26)) := (Below.refl _ w).alloc (Nat.le_refl _) _
  obtain ⟨⟨hm1, hm6⟩, hasc, _⟩ := isC_of hi
  have hc := those_c m _ _ _ _ hm1 hm6 (missing1_f w.heap.size m A n c xs _ hbk (Kd.C_below hr hb1) hn (ascB_asc hasc)) (fun _ _ _ => trivial)
  have HC := Aside0.mk hc
  have HB := Aside0.mk hb1
  clear hc hr hn hi hasc hbk hb1
  go_enter Try.func65, Try.ntmps65
  go_wp2_with (go_at_call 56; refine HC.out.mono ?_; rintro e w2 ⟨v, rfl, hv, hb2⟩; obtain ⟨Av, cv, rfl⟩ := Kd.R_slice hv; have HV := Aside0.mk hv; have HB2 := Aside0.mk (below_in HB.out hb2); clear hv hb2)
  go_ret
  exact ⟨_, rfl, Kd.R_lower HV.out HB.out.size, HB2.out⟩

def missF (n : Int) (xs : List Int) : List Int × Int := if isC n xs then (missL n xs, 0) else ([], 1)
set_option maxRecDepth 100000 in
set_option maxHeartbeats 1000000 in
theorem missingFaces_c (m : Int) (A : Option Addr) (n c : Nat) (xs : List Int) (w : World) (hr : RC w A n xs) (hn : n ≤ 4611686018427387904) :
    Calls Try.prog 25 #[.agg #[.int .i64 m, .slice A n c]] w (SlCode w.heap.size w (missF m xs).1 (missF m xs).2) := by
  have hbk := CxAt.new w m A n c
  have hb1 : Below w.heap.size w (w.alloc (.cells #[.int .i64 m, .slice A n c] 26)) := (Below.refl _ w).alloc (Nat.le_refl _) _
  have hc := complexCode_c m A n c xs (.func (.func 55) #[] #[]) true _ (Kd.C_below hr hb1) hn (fun _ => always_f _)
  have HK := Aside0.mk hbk
  have HB := Aside0.mk hb1
  have HR := Aside0.mk hr
  clear hr hbk hb1
  unfold missF
  cases hi : isC m xs with
  | false =>
    rw [hi] at hc
    have HC := Aside0.mk hc
    clear hc hi
    unfold codeOf at HC
    go_enter Try.func25, Try.ntmps25
    go_wp2_with (go_at_call 54; refine HC.out.mono ?_; rintro e w2 ⟨rfl, hb2⟩; have HB2 := Aside0.mk (below_in HB.out hb2); clear hb2)
    go_ret2
    exact ⟨_, rfl, Kd.R_nil _ _ _ _ _, HB2.out⟩
  | true =>
    rw [hi] at hc
    have HC := Aside0.mk hc
    have HI := Aside0.mk hi
    clear hc hi
    unfold codeOf at HC
    go_enter Try.func25, Try.ntmps25
    go_wp2_with (first
      | (go_at_call 54; refine HC.out.mono ?_; rintro e w2 ⟨rfl, hb2⟩; have HB2 := Aside0.mk (below_in HB.out hb2); have K2 := Aside0.mk (HK.out.below hb2); have k0 := K2.out.c0; have k1 := K2.out.c1; clear hb2)
      | (go_at_call 65; refine (missing_c m A n c xs _ (Kd.C_below HR.out HB2.out) hn HI.out).mono ?_; rintro e w3 ⟨v, rfl, hv, hb3⟩; have HV := Aside0.mk hv; have HB3 := Aside0.mk (below_in HB2.out hb3); clear hv hb3))
    go_ret2
    exact ⟨_, rfl, Kd.R_lower HV.out HB2.out.size, HB3.out⟩

/-! ### JoinOf -/
def joinP (n : Int) (xs : List Int) (ys : List Int) (x : Int) : Bool :=
  (Go.bits .and .i64 x (fullZ n) == 0 || decide (Go.bits .and .i64 x (fullZ n) ∈ xs)) && (x / 2 ^ n.toNat == 0 || decide (x / 2 ^ n.toNat ∈ ys))

set_option maxRecDepth 100000 in
set_option maxHeartbeats 2000000 in
theorem joinOf1_f (b1 b2 : Nat) (n1 n2 : Int) (A1 A2 : Option Addr) (len1 len2 c1 c2 : Nat) (xs ys : List Int) (w : World) (hb1 : CxAt w b1 n1 A1 len1 c1) (hb2 : CxAt w b2 n2 A2 len2 c2) (hr1 : RC w A1 len1 xs) (hr2 : RC w A2 len2 ys) (hl1 : len1 ≤ 4611686018427387904) (hl2 : len2 ≤ 4611686018427387904) (hi1 : isC n1 xs = true) (ha2 : Asc ys) :
    FnB Try.prog (.func (.func 100) #[] #[.pointer (some ⟨b1, 0, none⟩), .pointer (some ⟨b2, 0, none⟩)]) (fun _ => True) (joinP n1 xs ys) w := by
  refine ⟨_, _, _, rfl, enters_of Try.func100 (by kernel_rfl) rfl, fun W x hW _ => ?_⟩
  have hr1' := Kd.C_below hr1 hW
  have hr2' := Kd.C_below hr2 hW
  have hb1' := hb1.below hW
  have hb2' := hb2.below hW
  obtain ⟨⟨hm1, hm6⟩, hasc, _⟩ := isC_of hi1
  have ha1 := ascB_asc hasc
  clear hb1 hb2 hr1 hr2 hW hasc hi1
  show Calls Try.prog 100 #[.int .i64 x, .pointer (some ⟨b1, 0, none⟩), .pointer (some ⟨b2, 0, none⟩)] W fun e w' => e = .returned (.bool (joinP n1 xs ys x)) ∧ Below W.heap.size W w'
  have HR1 := Aside0.mk hr1'
  have HR2 := Aside0.mk hr2'
  have HA1 := Aside0.mk ha1
  have HA2 := Aside0.mk ha2
  have HBK1 := Aside0.mk hb1'
  have HBK2 := Aside0.mk hb2'
  have h0 := hb1'.c0
  have h1 := hb1'.c1
  clear hr1' hr2' ha1 ha2 hb1' hb2'
  obtain ⟨N, rfl⟩ := Int.eq_ofNat_of_zero_le (show 0 ≤ n1 by omega)
  have hh1 := fun y W' (hB : Below W.heap.size W W') => has_c N A1 len1 c1 xs y W' (Kd.C_below HR1.out hB) hl1 HA1.out
  have hh2 := fun y W' (hB : Below W.heap.size W W') => has_c n2 A2 len2 c2 ys y W' (Kd.C_below HR2.out hB) hl2 HA2.out
  obtain ⟨F, hF⟩ : ∃ F, fullZ (N : Int) = F := ⟨_, rfl⟩
  have hfc : ∀ W, Calls Try.prog 58 #[.agg #[.int .i64 (N : Int), .slice A1 len1 c1]] W fun e w' => e = .returned (.int .i64 F) ∧ Below W.heap.size W w' := fun W => by rw [← hF]; exact full_c _ _ W hm1 hm6
  have HFC := Lib.hid hfc
  have HE : Aside0 (joinP N xs ys x = ((Go.bits .and .i64 x F == 0 || decide (Go.bits .and .i64 x F ∈ xs)) && (x / 2 ^ N == 0 || decide (x / 2 ^ N ∈ ys)))) := ⟨by unfold joinP; rw [hF]; rfl⟩
  clear hfc hF
  have HH1 := Lib.hid hh1
  have HH2 := Lib.hid hh2
  clear hh1 hh2
  go_enter Try.func100, Try.ntmps100
  go_wp2
  go_region_held3 (fun w' : World => w'.cell? ⟨b1, 0, none⟩ = some (.int .i64 (N : Int)) ∧ w'.cell? ⟨b1, 1, none⟩ = some (.slice A1 len1 c1)) (first | exact ⟨h0, h1⟩ | exact HBK1.out.keep (by assumption)) (first | (go_at_call 58; refine (HFC.out _).mono ?_; rintro e w1 ⟨rfl, hb1⟩; have hbw := undrew hb1))
  obtain ⟨k10, k11⟩ := HBK1.out.keep hbw
  obtain ⟨k20, k21⟩ := HBK2.out.keep hbw
  generalize Go.bits .and .i64 x F = Y at HE ⊢
  generalize x / 2 ^ N = Z at HE ⊢
  cases e1 : (Y == 0) with
  | true =>
    cases e2 : (Z == 0) with
    | true =>
      go_wp2
      go_ret
      exact ⟨by rw [HE.out, e1, e2]; rfl, hbw⟩
    | false =>
      go_wp2_with (go_at_call 59; refine (HH2.out _ _ hbw).mono ?_; rintro e w3 ⟨rfl, hb3⟩; have hbx := below_in hbw hb3)
      go_ret
      exact ⟨by rw [HE.out, e1, e2]; rfl, hbx⟩
  | false =>
    cases m1 : decide (Y ∈ xs) with
    | true =>
      have q1 := HH1.out Y w1 hbw
      rw [m1] at q1
      have Q1 := Aside0.mk q1
      clear q1
      cases e2 : (Z == 0) with
      | true =>
        go_wp2_with (go_at_call 59; refine Q1.out.mono ?_; rintro e w3 ⟨rfl, hb3⟩; have hbx := below_in hbw hb3)
        go_ret
        exact ⟨by rw [HE.out, e1, e2, m1]; rfl, hbx⟩
      | false =>
        go_wp2_with (first
          | (go_at_call 59; refine (HH2.out _ _ hbx).mono ?_; rintro e w4 ⟨rfl, hb4⟩; have hby := below_in hbx hb4)
          | (go_at_call 59; refine Q1.out.mono ?_; rintro e w3 ⟨rfl, hb3⟩; have hbx := below_in hbw hb3; obtain ⟨l20, l21⟩ := HBK2.out.keep hbx))
        go_ret
        exact ⟨by rw [HE.out, e1, e2, m1]; rfl, hby⟩
    | false =>
      have q1 := HH1.out Y w1 hbw
      rw [m1] at q1
      have Q1 := Aside0.mk q1
      clear q1
      go_wp2_with (go_at_call 59; refine Q1.out.mono ?_; rintro e w3 ⟨rfl, hb3⟩; have hbx := below_in hbw hb3)
      go_ret
      exact ⟨by rw [HE.out, e1, m1]; rfl, hbx⟩

def joinL (n1 : Int) (xs : List Int) (n2 : Int) (ys : List Int) : List Int := thoseL (n1 + n2) (joinP n1 xs ys)
/-- 'JoinOf'. -/
def joinF (n1 : Int) (xs : List Int) (n2 : Int) (ys : List Int) : Int × List Int × Int :=
  if isC n1 xs && isC n2 ys then (if n1 + n2 ≤ 6 then (n1 + n2, joinL n1 xs n2 ys, 0) else (0, [], 3)) else (0, [], 1)

end Go.Proofs.Ytdkoioiiacljeaa.Im
