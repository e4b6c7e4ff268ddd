/- part, without, DeleteVertex. -/
import Derived.Test.YtdkoioiiacljeaaImJ
namespace Go.Proofs.Ytdkoioiiacljeaa.Im
set_option linter.unusedVariables false
set_option linter.unusedSimpArgs false
open Go.RowKit Go.Shelf Go.Proofs.YtdkoioiiacljeaaW.PrintWords Go.Proofs.YtdkoioiiacljeaaW.PrintLast Go.Proofs.YtdkoioiiacljeaaW.PrintMore

theorem bx_below {w w1 : World} {b : Nat} {t : TypeId} {v : Value} (h : Boxed w b t v) (hb : Below w.heap.size w w1) : Boxed w1 b t v := (hb.block b h.lt).trans h
def partP (xs : List Int) (q : Int → Bool) (x : Int) : Bool := decide (x ∈ xs) && q x
set_option maxRecDepth 100000 in
theorem part1_f (b b2 : Nat) (m : Int) (A : Option Addr) (n c : Nat) (xs : List Int) (fv : Value) (dom : Int → Prop) (q : Int → Bool) (w : World) (hb : CxAt w b m A n c) (hb2 : Boxed w b2 56 fv) (hf : FnB Try.prog fv dom q w) (hr : RC w A n xs) (hn : n ≤ 4611686018427387904) (ha : Asc xs) :
    FnB Try.prog (.func (.func 129) #[] #[.pointer (some ⟨b, 0, none⟩), .pointer (some ⟨b2, 0, none⟩)]) dom (partP xs q) w := by
  refine ⟨_, _, _, rfl, enters_of Try.func129 (by kernel_rfl) rfl, fun W x hW hx => ?_⟩
  obtain ⟨g, fs, lb, rfl, eg, hcall⟩ := hf
  have HC := Aside0.mk (fun W' (h : Below W.heap.size W W') => hcall W' x (below_in hW h) hx)
  have HH := Aside0.mk (has_c m A n c xs x W (Kd.C_below hr hW) hn ha)
  have hb' := hb.below hW
  have h0 := hb'.c0
  have h1 := hb'.c1
  have hcell : W.cell? ⟨b2, 0, none⟩ = some (.func (.func g) fs lb) := (hW.cell (p := ⟨b2, 0, none⟩) hb2.lt).trans hb2.cell
  have HL := Aside0.mk (show b2 < W.heap.size from Nat.lt_of_lt_of_le hb2.lt hW.size)
  clear hcall hb hb' hW hx hb2 ha hr hn
  show Calls Try.prog 129 #[.int .i64 x, .pointer (some ⟨b, 0, none⟩), .pointer (some ⟨b2, 0, none⟩)] W fun e w' => e = .returned (.bool (partP xs q x)) ∧ Below W.heap.size W w'
  have HE : Aside0 (partP xs q x = (decide (x ∈ xs) && q x)) := ⟨rfl⟩
  generalize q x = r at HC HE
  cases m1 : decide (x ∈ xs) with
  | false =>
    rw [m1] at HH
    go_enter Try.func129, Try.ntmps129
    go_wp2_with (go_at_call 59; refine HH.out.mono ?_; rintro e w1 ⟨rfl, hbw⟩)
    go_ret
    exact ⟨by rw [HE.out, m1]; rfl, hbw⟩
  | true =>
    rw [m1] at HH
    go_enter Try.func129, Try.ntmps129
    go_wp2_with (first
      | (go_at_call 59; refine HH.out.mono ?_; rintro e w1 ⟨rfl, hbw⟩; have hcell1 := (hbw.cell (p := ⟨b2, 0, none⟩) HL.out).trans hcell)
      | (go_at_fn g; refine (HC.out _ hbw).mono ?_; rintro e w2 ⟨rfl, hb3⟩; have hbx := below_in hbw hb3))
    go_ret
    exact ⟨by rw [HE.out, m1]; rfl, hbx⟩

def partL (n : Int) (xs : List Int) (q : Int → Bool) : List Int := thoseL n (partP xs q)
set_option maxRecDepth 100000 in
theorem part_c (m : Int) (A : Option Addr) (n c : Nat) (xs : List Int) (fv : Value) (dom : Int → Prop) (q : Int → Bool) (w : World) (hm1 : 1 ≤ m) (hm6 : m ≤ 6) (hf : FnB Try.prog fv dom q w) (hd : ∀ x, 1 ≤ x → x ≤ fullZ m → dom x) (hr : RC w A n xs) (hn : n ≤ 4611686018427387904) (ha : Asc xs) :
    Calls Try.prog 103 #[.agg #[.int .i64 m, .slice A n c], fv] w (CxOnly w.heap.size w m (partL m xs q)) := by
  have hbk0 := CxAt.new w m A n c
  have hbx := Boxed.new (w.alloc (.cells #[.int .i64 m, .slice A n c] 26)) 56 fv
  have hbk2 := CxAt.new ((w.alloc (.cells #[.int .i64 m, .slice A n c] 26)).alloc (.cells #[fv] 56)) 0 none 0 0
  rw [World.size_alloc] at hbx
  rw [World.size_alloc, World.size_alloc] at hbk2
  have hb1 : Below w.heap.size w (((w.alloc (.cells #[.int .i64 m, .slice A n c] 26)).alloc (.cells #[fv] 56)).alloc (.cells #[.int .i64 0, .slice none 0 0] 26)) := (((Below.refl _ w).alloc (Nat.le_refl _) _).alloc (by simp) _).alloc (by simp; omega) _
  have hk0 := (hbk0.below ((Below.refl _ _).alloc (Nat.le_refl _) (.cells #[fv] 56))).below ((Below.refl _ _).alloc (Nat.le_refl _) (.cells #[.int .i64 0, .slice none 0 0] 26))
  have hbx2 := bx_below hbx ((Below.refl _ _).alloc (Nat.le_refl _) (.cells #[.int .i64 0, .slice none 0 0] 26))
  have hc := those_c m _ dom _ _ hm1 hm6 (part1_f w.heap.size (w.heap.size + 1) m A n c xs fv dom q _ hk0 hbx2 (hf.later hb1) (Kd.C_below hr hb1) hn ha) hd
  obtain ⟨g, fs, lb, rfl, eg, hcall⟩ := hf
  have l0 := hk0.c0
  have HC := Aside0.mk hc
  have HB := Aside0.mk hb1
  have HK := Aside0.mk hbk2
  clear hc hb1 hbk2 hk0 hbx hbx2 hbk0 hr hn ha hd hcall eg
  unfold partL
  generalize partP xs q = pq at HC ⊢
  go_enter Try.func103, Try.ntmps103
  go_wp2_with (go_at_call 56; refine HC.out.mono ?_; rintro e w2 ⟨v, rfl, hv, hb2⟩; obtain ⟨A2, c2, rfl⟩ := Kd.R_slice hv; have R2 := Aside0.mk hv; have HB2 := Aside0.mk (below_in HB.out hb2); have K2 := Aside0.mk (HK.out.below hb2); have m0 := K2.out.c0; have m1 := K2.out.c1; have f0 := K2.out.fz0; have f1 := K2.out.fz; clear hv hb2)
  have hX := K2.out.set2 m A2 (thoseL m pq).length c2
  have x0 := hX.c0
  have x1 := hX.c1
  exact bodyPost_ret (v := .agg #[.int .i64 m, .slice A2 (thoseL m pq).length c2]) (by simp [results, Try.results103, go_sem, x0, x1]) rfl ⟨_, rfl, Kd.R_lower ((R2.out.set K2.out _ _).set (K2.out.set0 _) _ _) HB.out.size, (HB2.out.setCell (p := ⟨w.heap.size + 1 + 1, 0, none⟩) (by simp; omega) _).setCell (p := ⟨w.heap.size + 1 + 1, 1, none⟩) (by simp; omega) _⟩

/-! ### without -/
def noBit (v : Nat) (x : Int) : Bool := Go.bits .and .i64 (x / 2 ^ v) 1 == 0
theorem without1_f (b : Nat) (v : Nat) (hv : v ≤ 63) (w : World) (hb : Boxed w b 2 (.int .i64 v)) :
    FnB Try.prog (.func (.func 104) #[] #[.pointer (some ⟨b, 0, none⟩)]) (fun _ => True) (noBit v) w := by
  refine ⟨_, _, _, rfl, enters_of Try.func104 (by kernel_rfl) rfl, fun W x hW hx => ?_⟩
  have hcell : W.cell? ⟨b, 0, none⟩ = some (.int .i64 v) := (hW.cell (p := ⟨b, 0, none⟩) hb.lt).trans hb.cell
  have HE : Aside0 (noBit v x = (Go.bits .and .i64 (x / 2 ^ v) 1 == 0)) := ⟨rfl⟩
  clear hW hx hb
  show Calls Try.prog 104 #[.int .i64 x, .pointer (some ⟨b, 0, none⟩)] W fun e w' => e = .returned (.bool (noBit v x)) ∧ Below W.heap.size W w'
  go_enter Try.func104, Try.ntmps104
  go_wp2
  go_ret
  exact ⟨by rw [HE.out]; rfl, Below.refl _ _⟩

set_option maxRecDepth 100000 in
theorem without_c (m : Int) (A : Option Addr) (n c : Nat) (xs : List Int) (v : Nat) (hvb : v ≤ 63) (w : World) (hr : RC w A n xs) (hn : n ≤ 4611686018427387904) (hi : isC m xs = true) :
    Calls Try.prog 74 #[.agg #[.int .i64 m, .slice A n c], .int .i64 v] w (CxOnly w.heap.size w m (partL m xs (noBit v))) := by
  have hbk0 := CxAt.new w m A n c
  have hbx := Boxed.new (w.alloc (.cells #[.int .i64 m, .slice A n c] 26)) 2 (.int .i64 v)
  have hbk2 := CxAt.new ((w.alloc (.cells #[.int .i64 m, .slice A n c] 26)).alloc (.cells #[.int .i64 v] 2)) 0 none 0 0
  rw [World.size_alloc] at hbx
  rw [World.size_alloc, World.size_alloc] at hbk2
  have hb1 : Below w.heap.size w (((w.alloc (.cells #[.int .i64 m, .slice A n c] 26)).alloc (.cells #[.int .i64 v] 2)).alloc (.cells #[.int .i64 0, .slice none 0 0] 26)) := (((Below.refl _ w).alloc (Nat.le_refl _) _).alloc (by simp) _).alloc (by simp; omega) _
  have hk0 := (hbk0.below ((Below.refl _ _).alloc (Nat.le_refl _) (.cells #[.int .i64 v] 2))).below ((Below.refl _ _).alloc (Nat.le_refl _) (.cells #[.int .i64 0, .slice none 0 0] 26))
  have hbx2 := bx_below hbx ((Below.refl _ _).alloc (Nat.le_refl _) (.cells #[.int .i64 0, .slice none 0 0] 26))
  obtain ⟨⟨hm1, hm6⟩, hasc, _⟩ := isC_of hi
  have hc := part_c m A n c xs _ (fun _ => True) _ _ hm1 hm6 (without1_f (w.heap.size + 1) v hvb _ hbx2) (fun _ _ _ => trivial) (Kd.C_below hr hb1) hn (ascB_asc hasc)
  have l0 := hk0.c0
  have l1 := hk0.c1
  have HC := Aside0.mk hc
  have HB := Aside0.mk hb1
  have HK := Aside0.mk hbk2
  clear hc hb1 hbk2 hk0 hbx hbx2 hbk0 hr hn hi hasc
  generalize partL m xs (noBit v) = ys at HC ⊢
  go_enter Try.func74, Try.ntmps74
  go_wp2_with (go_at_call 103; refine HC.out.mono ?_; rintro e w2 ⟨v, rfl, hv, hb2⟩; obtain ⟨A2, c2, rfl⟩ := Kd.R_slice hv; have R2 := Aside0.mk hv; have HB2 := Aside0.mk (below_in HB.out hb2); have K2 := Aside0.mk (HK.out.below hb2); have m0 := K2.out.c0; have m1 := K2.out.c1; have f0 := K2.out.fz0; have f1 := K2.out.fz; clear hv hb2)
  have hX := K2.out.set2 m A2 ys.length c2
  have x0 := hX.c0
  have x1 := hX.c1
  exact bodyPost_ret (v := .agg #[.int .i64 m, .slice A2 ys.length c2]) (by simp [results, Try.results74, go_sem, x0, x1]) rfl ⟨_, rfl, Kd.R_lower ((R2.out.set K2.out _ _).set (K2.out.set0 _) _ _) HB.out.size, (HB2.out.setCell (p := ⟨w.heap.size + 1 + 1, 0, none⟩) (by simp; omega) _).setCell (p := ⟨w.heap.size + 1 + 1, 1, none⟩) (by simp; omega) _⟩

/-! ### DeleteVertex -/
theorem deleteVertex1_f (b b2 : Nat) (v m : Int) (A : Option Addr) (n c : Nat) (w : World) (hm : 1 ≤ m ∧ m ≤ 6) (hb : Boxed w b 2 (.int .i64 v)) (hb2 : CxAt w b2 m A n c) :
    FnU Try.prog (.func (.func 72) #[] #[.pointer (some ⟨b, 0, none⟩), .pointer (some ⟨b2, 0, none⟩)]) (withinB v 0 (m - 1)) w := by
  refine ⟨_, _, _, rfl, enters_of Try.func72 (by kernel_rfl) rfl, fun W hW => ?_⟩
  have hcell : W.cell? ⟨b, 0, none⟩ = some (.int .i64 v) := (hW.cell (p := ⟨b, 0, none⟩) hb.lt).trans hb.cell
  have hb' := hb2.below hW
  have h0 := hb'.c0
  have HC := Aside0.mk (within_c v 0 (m - 1) W)
  clear hW hb hb2 hb'
  show Calls Try.prog 72 #[.pointer (some ⟨b, 0, none⟩), .pointer (some ⟨b2, 0, none⟩)] W fun e w' => e = .returned (.bool (withinB v 0 (m - 1))) ∧ Below W.heap.size W w'
  generalize withinB v 0 (m - 1) = r at HC ⊢
  go_enter Try.func72, Try.ntmps72
  go_wp2_with (go_at_call 73; refine HC.out.mono ?_; rintro e w1 ⟨rfl, rfl⟩)
  go_ret
  exact ⟨rfl, Below.refl _ _⟩

def delF (n : Int) (xs : List Int) (v : Int) : Int × List Int × Int := if isC n xs then (if withinB v 0 (n - 1) then (n, partL n xs (noBit v.toNat), 0) else (0, [], 2)) else (0, [], 1)
set_option maxRecDepth 100000 in
set_option maxHeartbeats 1000000 in
theorem deleteVertex_c (m : Int) (A : Option Addr) (n c : Nat) (xs : List Int) (v : Int) (w : World) (hr : RC w A n xs) (hn : n ≤ 4611686018427387904) :
    Calls Try.prog 35 #[.agg #[.int .i64 m, .slice A n c], .int .i64 v] w (CxCode w.heap.size w (delF m xs v).1 (delF m xs v).2.1 (delF m xs v).2.2) := by
  have hbk0 := CxAt.new w m A n c
  have hbx := Boxed.new (w.alloc (.cells #[.int .i64 m, .slice A n c] 26)) 2 (.int .i64 v)
  have hbk2 := CxAt.new ((w.alloc (.cells #[.int .i64 m, .slice A n c] 26)).alloc (.cells #[.int .i64 v] 2)) 0 none 0 0
  rw [World.size_alloc] at hbx
  rw [World.size_alloc, World.size_alloc] at hbk2
  have hb1 : Below w.heap.size w (((w.alloc (.cells #[.int .i64 m, .slice A n c] 26)).alloc (.cells #[.int .i64 v] 2)).alloc (.cells #[.int .i64 0, .slice none 0 0] 26)) := (((Below.refl _ w).alloc (Nat.le_refl _) _).alloc (by simp) _).alloc (by simp; omega) _
  have hk0 := (hbk0.below ((Below.refl _ _).alloc (Nat.le_refl _) (.cells #[.int .i64 v] 2))).below ((Below.refl _ _).alloc (Nat.le_refl _) (.cells #[.int .i64 0, .slice none 0 0] 26))
  have hbx2 := bx_below hbx ((Below.refl _ _).alloc (Nat.le_refl _) (.cells #[.int .i64 0, .slice none 0 0] 26))
  have hc := complexCode_c m A n c xs _ _ _ (Kd.C_below hr hb1) hn (fun hi => deleteVertex1_f (w.heap.size + 1) w.heap.size v m A n c _ (isC_of hi).1 hbx2 hk0)
  have l0 := hk0.c0
  have l1 := hk0.c1
  have HB := Aside0.mk hb1
  have HX := Aside0.mk hbx2
  have HK0 := Aside0.mk hk0
  have HK := Aside0.mk hbk2
  have HR := Aside0.mk hr
  clear hb1 hbk2 hk0 hbx hbx2 hbk0 hr
  by_cases hq : (isC m xs && withinB v 0 (m - 1)) = true
  · obtain ⟨hi, hv⟩ := Bool.and_eq_true_iff.1 hq
    rw [hi, hv] at hc
    have HC := Aside0.mk hc
    have HI := Aside0.mk hi
    have HE : Aside0 (delF m xs v = (m, partL m xs (noBit v.toNat), 0)) := ⟨by simp [delF, hi, hv]⟩
    obtain ⟨⟨hm1, hm6⟩, _, _⟩ := isC_of hi
    obtain ⟨k, rfl⟩ := Int.eq_ofNat_of_zero_le (show 0 ≤ v by simp [withinB] at hv; omega)
    have hk : k ≤ 63 := by simp [withinB] at hv; omega
    clear hc hi hq hv
    rw [HE.out]
    unfold codeOf at HC
    go_enter Try.func35, Try.ntmps35
    go_wp2_with (first
      | (go_at_call 54; refine HC.out.mono ?_; rintro e w2 ⟨rfl, hb2⟩; have HB2 := Aside0.mk (below_in HB.out hb2); have K0 := Aside0.mk (HK0.out.below hb2); have K1 := Aside0.mk (HK.out.below hb2); have k0 := K0.out.c0; have k1 := K0.out.c1; have k2 := (bx_below HX.out hb2).cell; have m0 := K1.out.c0; have m1 := K1.out.c1; clear hb2)
      | (go_at_call 74; refine (without_c m A n c xs k hk _ (Kd.C_below HR.out HB2.out) hn HI.out).mono ?_; rintro e w3 ⟨v, rfl, hv, hb3⟩; obtain ⟨A3, c3, rfl⟩ := Kd.R_slice hv; have R3 := Aside0.mk hv; have HB3 := Aside0.mk (below_in HB2.out hb3); have K13 := Aside0.mk (K1.out.below hb3); have n0 := K13.out.c0; have n1 := K13.out.c1; have g0 := K13.out.fz0; have g1 := K13.out.fz; clear hv hb3))
    have hX := K13.out.set2 m A3 (partL m xs (noBit k)).length c3
    have x0 := hX.c0
    have x1 := hX.c1
    exact bodyPost_ret (v := .tuple #[.agg #[.int .i64 m, .slice A3 (partL m xs (noBit k)).length c3], .int .i64 0]) (by simp [results, Try.results35, go_sem, x0, x1]) rfl ⟨_, rfl, Kd.R_lower ((R3.out.set K13.out _ _).set (K13.out.set0 _) _ _) HB2.out.size, (HB3.out.setCell (p := ⟨w.heap.size + 1 + 1, 0, none⟩) (by simp; omega) _).setCell (p := ⟨w.heap.size + 1 + 1, 1, none⟩) (by simp; omega) _⟩
  · have HE : Aside0 (delF m xs v = (0, [], codeOf (isC m xs) (withinB v 0 (m - 1)))) := ⟨by cases h1 : isC m xs <;> cases h2 : withinB v 0 (m - 1) <;> simp_all [delF, codeOf]⟩
    have HN : codeOf (isC m xs) (withinB v 0 (m - 1)) ≠ 0 := by cases h1 : isC m xs <;> cases h2 : withinB v 0 (m - 1) <;> simp_all [codeOf]
    rw [HE.out]
    generalize codeOf (isC m xs) (withinB v 0 (m - 1)) = r at hc HN HE ⊢
    have HC := Aside0.mk hc
    clear hc hq
    go_enter Try.func35, Try.ntmps35
    go_wp2_with (go_at_call 54; refine HC.out.mono ?_; rintro e w2 ⟨rfl, hb2⟩; have HB2 := Aside0.mk (below_in HB.out hb2); have K1 := Aside0.mk (HK.out.below hb2); have m0 := K1.out.c0; have m1 := K1.out.c1; have f0 := K1.out.fz0; have f1 := K1.out.fz; clear hb2)
    have hX := K1.out.set2 0 none 0 0
    have x0 := hX.c0
    have x1 := hX.c1
    exact bodyPost_ret (v := .tuple #[.agg #[.int .i64 0, .slice none 0 0], .int .i64 r]) (by simp [results, Try.results35, go_sem, x0, x1]) rfl ⟨_, rfl, Kd.R_nil _ _ _ _ _, (HB2.out.setCell (p := ⟨w.heap.size + 1 + 1, 0, none⟩) (by simp; omega) _).setCell (p := ⟨w.heap.size + 1 + 1, 1, none⟩) (by simp; omega) _⟩

end Go.Proofs.Ytdkoioiiacljeaa.Im
