import Derived.Test.YtdkoioiiacljeaaImJ
import Derived.Lib.SliceRun
/- part, without, DeleteVertex. -/
namespace Go.Proofs.Ytdkoioiiacljeaa.Im
set_option linter.unusedVariables false
set_option linter.unusedSimpArgs false
open Go.RowKit Go.Shelf Go.Proofs.YtdkoioiiacljeaaW.PrintWords Go.Proofs.YtdkoioiiacljeaaW.PrintLast Go.Proofs.YtdkoioiiacljeaaW.PrintMore

theorem bx_below {w w1 : World} {b : Nat} {t : TypeId} {v : Value} (h : Boxed w b t v) (hb : Below w.heap.size w w1) : Boxed w1 b t v := (hb.block b h.lt).trans h
def partP (xs : List Int) (q : Int → Bool) (x : Int) : Bool := decide (x ∈ xs) && q x
set_option maxRecDepth 100000 in
theorem part1_f (b b2 : Nat) (m : Int) (A : Option Addr) (n c : Nat) (xs : List Int) (fv : Value) (dom : Int → Prop) (q : Int → Bool) (w : World) (hb : CxAt w b m A n c) (hb2 : Boxed w b2 56 fv) (hf : FnB Try.prog fv dom q w) (hr : RC w A n xs) (hn : n ≤ 4611686018427387904) (ha : Asc xs) :
    FnB Try.prog (.func (.func 129) #[] #[.pointer (some ⟨b, 0, none⟩), .pointer (some ⟨b2, 0, none⟩)]) dom (partP xs q) w := by
  refine ⟨_, _, _, rfl, enters_of Try.func129 (by kernel_rfl) rfl, fun W x hW hx => ?_⟩
  obtain ⟨g, fs, lb, rfl, eg, hcall⟩ := hf
  have HC := Aside0.mk (fun W' (h : Below W.heap.size W W') => hcall W' x (below_in hW h) hx)
  have HH := Aside0.mk (has_c m A n c xs x W (Kd.C_below hr hW) hn ha)
  have hb' := hb.below hW
  have h0 := hb'.c0
  have h1 := hb'.c1
  have hcell : W.cell? ⟨b2, 0, none⟩ = some (.func (.func g) fs lb) := (hW.cell (p := ⟨b2, 0, none⟩) hb2.lt).trans hb2.cell
  have HL := Aside0.mk (show b2 < W.heap.size from Nat.lt_of_lt_of_le hb2.lt hW.size)
  clear hcall hb hb' hW hx hb2 ha hr hn
  show Calls Try.prog 129 #[.int .i64 x, .pointer (some ⟨b, 0, none⟩), .pointer (some ⟨b2, 0, none⟩)] W fun e w' => e = .returned (.bool (partP xs q x)) ∧ Below W.heap.size W w'
  have HE : Aside0 (partP xs q x = (decide (x ∈ xs) && q x)) := ⟨rfl⟩
  generalize q x = r at HC HE
  cases m1 : decide (x ∈ xs) with
  | false =>
    rw [m1] at HH
    go_enter Try.func129, Try.ntmps129
    go_wp2_with (go_at_call 59; refine HH.out.mono ?_; rintro e w1 ⟨rfl, hbw⟩)
    go_ret
    exact ⟨by rw [HE.out, m1]; rfl, hbw⟩
  | true =>
    rw [m1] at HH
    go_enter Try.func129, Try.ntmps129
    go_wp2_with (first
      | (go_at_call 59; refine HH.out.mono ?_; rintro e w1 ⟨rfl, hbw⟩; have hcell1 := (hbw.cell (p := ⟨b2, 0, none⟩) HL.out).trans hcell)
      | (go_at_fn g; refine (HC.out _ hbw).mono ?_; rintro e w2 ⟨rfl, hb3⟩; have hbx := below_in hbw hb3))
    go_ret
    exact ⟨by rw [HE.out, m1]; rfl, hbx⟩

def partL (n : Int) (xs : List Int) (q : Int → Bool) : List Int := thoseL n (partP xs q)
set_option maxRecDepth 100000 in
theorem part_c (m : Int) (A : Option Addr) (n c : Nat) (xs : List Int) (fv : Value) (dom : Int → Prop) (q : Int → Bool) (w : World) (hm1 : 1 ≤ m) (hm6 : m ≤ 6) (hf : FnB Try.prog fv dom q w) (hd : ∀ x, 1 ≤ x → x ≤ fullZ m → dom x) (hr : RC w A n xs) (hn : n ≤ 4611686018427387904) (ha : Asc xs) :
    Calls Try.prog 103 #[.agg #[.int .i64 m, .slice A n c], fv] w (CxOnly w.heap.size w m (partL m xs q)) := by
  have hbk0 := CxAt.new w m A n c
  have hbx := Boxed.new (w.alloc (.cells #[.int .i64 m, .slice A n c] 26)) 56 fv
  have hbk2 := CxAt.new ((w.alloc (.cells #[.int .i64 m, .slice A n c] 26)).alloc (.cells #[fv] 56)) 0 none 0 0
  rw [World.size_alloc] at hbx
  rw [World.size_alloc, World.size_alloc] at hbk2
  have hb1 : Below w.heap.size w (((w.alloc (.cells #[.int .i64 m, .slice A n c] 26)).alloc (.cells #[fv] 56)).alloc (.cells #[.int .i64 0, .slice none 0 0] 26)) := (((Below.refl _ w).alloc (Nat.le_refl _) _).alloc (by simp) _).alloc (by simp; omega) _
  have hk0 := (hbk0.below ((Below.refl _ _).alloc (Nat.le_refl _) (.cells #[fv] 56))).below ((Below.refl _ _).alloc (Nat.le_refl _) (.cells #[.int .i64 0, .slice none 0 0] 26))
  have hbx2 := bx_below hbx ((Below.refl _ _).alloc (Nat.le_refl _) (.cells #[.int .i64 0, .slice none 0 0] 26))
  have hc := those_c m _ dom _ _ hm1 hm6 (part1_f w.heap.size (w.heap.size + 1) m A n c xs fv dom q _ hk0 hbx2 (hf.later hb1) (Kd.C_below hr hb1) hn ha) hd
  obtain ⟨g, fs, lb, rfl, eg, hcall⟩ := hf
  have l0 := hk0.c0
  have HC := Aside0.mk hc
  have HB := Aside0.mk hb1
  have HK := Aside0.mk hbk2
  clear hc hb1 hbk2 hk0 hbx hbx2 hbk0 hr hn ha hd hcall eg
  unfold partL
  generalize partP xs q = pq at HC ⊢
  go_enter Try.func103, Try.ntmps103
  go_wp2_with (go_at_call 56; refine HC.out.mono ?_; rintro e w2 ⟨v, rfl, hv, hb2⟩; obtain ⟨A2, c2, rfl⟩ := Kd.R_slice hv; have R2 := Aside0.mk hv; have HB2 := Aside0.mk (below_in HB.out hb2); have K2 := Aside0.mk (HK.out.below hb2); have m0 := K2.out.c0; have m1 := K2.out.c1; have f0 := K2.out.fz0; have f1 := K2.out.fz; clear hv hb2)
  have hX := K2.out.set2 m A2 (thoseL m pq).length c2
  have x0 := hX.c0
  have x1 := hX.c1
  exact bodyPost_ret (v := .agg #[.int .i64 m, .slice A2 (thoseL m pq).length c2]) (by simp [results, Try.results103, go_sem, x0, x1]) rfl ⟨_, rfl, Kd.R_lower ((R2.out.set K2.out _ _).set (K2.out.set0 _) _ _) HB.out.size, (HB2.out.setCell (p := ⟨w.heap.size + 1 + 1, 0, none⟩) (by simp; omega) _).setCell (p := ⟨w.heap.size + 1 + 1, 1, none⟩) (by simp; omega) _⟩

/-! ### without -/
def noBit (v : Nat) (x : Int) : Bool := Go.bits .and .i64 (x / 2 ^ v) 1 == 0
theorem without1_f (b : Nat) (v : Nat) (hv : v ≤ 63) (w : World) (hb : Boxed w b 2 (.int .i64 v)) :
    FnB Try.prog (.func (.func 104) #[] #[.pointer (some ⟨b, 0, none⟩)]) (fun _ => True) (noBit v) w := by
  refine ⟨_, _, _, rfl, enters_of Try.func104 (by kernel_rfl) rfl, fun W x hW hx => ?_⟩
  have hcell : W.cell? ⟨b, 0, none⟩ = some (.int .i64 v) := (hW.cell (p := ⟨b, 0, none⟩) hb.lt).trans hb.cell
  have HE : Aside0 (noBit v x = (Go.bits .and .i64 (x / 2 ^ v) 1 == 0)) := ⟨rfl⟩
  clear hW hx hb
  show Calls Try.prog 104 #[.int .i64 x, .pointer (some ⟨b, 0, none⟩)] W fun e w' => e = .returned (.bool (noBit v x)) ∧ Below W.heap.size W w'
  go_enter Try.func104, Try.ntmps104
  go_wp2
  go_ret
  exact ⟨by rw [HE.out]; rfl, Below.refl _ _⟩

set_option maxRecDepth 100000 in
theorem without_c (m : Int) (A : Option Addr) (n c : Nat) (xs : List Int) (v : Nat) (hvb : v ≤ 63) (w : World) (hr : RC w A n xs) (hn : n ≤ 4611686018427387904) (hi : isC m xs = true) :
    Calls Try.prog 74 #[.agg #[.int .i64 m, .slice A n c], .int .i64 v] w (CxOnly w.heap.size w m (partL m xs (noBit v))) := by
  have hbk0 := CxAt.new w m A n c
  have hbx := Boxed.new (w.alloc (.cells #[.int .i64 m, .slice A n c] 26)) 2 (.int .i64 v)
  have hbk2 := CxAt.new ((w.alloc (.cells #[.int .i64 m, .slice A n c] 26)).alloc (.cells #[.int .i64 v] 2)) 0 none 0 0
  rw [World.size_alloc] at hbx
  rw [World.size_alloc, World.size_alloc] at hbk2
  have hb1 : Below w.heap.size w (((w.alloc (.cells #[.int .i64 m, .slice A n c] 26)).alloc (.cells #[.int .i64 v] 2)).alloc (.cells #[.int .i64 0, .slice none 0 0] 26)) := (((Below.refl _ w).alloc (Nat.le_refl _) _).alloc (by simp) _).alloc (by simp; omega) _
  have hk0 := (hbk0.below ((Below.refl _ _).alloc (Nat.le_refl _) (.cells #[.int .i64 v] 2))).below ((Below.refl _ _).alloc (Nat.le_refl _) (.cells #[.int .i64 0, .slice none 0 0] 26))
  have hbx2 := bx_below hbx ((Below.refl _ _).alloc (Nat.le_refl _) (.cells #[.int .i64 0, .slice none 0 0] 26))
  obtain ⟨⟨hm1, hm6⟩, hasc, _⟩ := isC_of hi
  have hc := part_c m A n c xs _ (fun _ => True) _ _ hm1 hm6 (without1_f (w.heap.size + 1) v hvb _ hbx2) (fun _ _ _ => trivial) (Kd.C_below hr hb1) hn (ascB_asc hasc)
  have l0 := hk0.c0
  have l1 := hk0.c1
  have HC := Aside0.mk hc
  have HB := Aside0.mk hb1
  have HK := Aside0.mk hbk2
  clear hc hb1 hbk2 hk0 hbx hbx2 hbk0 hr hn hi hasc
  generalize partL m xs (noBit v) = ys at HC ⊢
  go_enter Try.func74, Try.ntmps74
  go_wp2_with (go_at_call 103; refine HC.out.mono ?_; rintro e w2 ⟨v, rfl, hv, hb2⟩; obtain ⟨A2, c2, rfl⟩ := Kd.R_slice hv; have R2 := Aside0.mk hv; have HB2 := Aside0.mk (below_in HB.out hb2); have K2 := Aside0.mk (HK.out.below hb2); have m0 := K2.out.c0; have m1 := K2.out.c1; have f0 := K2.out.fz0; have f1 := K2.out.fz; clear hv hb2)
  have hX := K2.out.set2 m A2 ys.length c2
  have x0 := hX.c0
  have x1 := hX.c1
  exact bodyPost_ret (v := .agg #[.int .i64 m, .slice A2 ys.length c2]) (by simp [results, Try.results74, go_sem, x0, x1]) rfl ⟨_, rfl, Kd.R_lower ((R2.out.set K2.out _ _).set (K2.out.set0 _) _ _) HB.out.size, (HB2.out.setCell (p := ⟨w.heap.size + 1 + 1, 0, none⟩) (by simp; omega) _).setCell (p := ⟨w.heap.size + 1 + 1, 1, none⟩) (by simp; omega) _⟩

/-! ### DeleteVertex -/
theorem deleteVertex1_f (b b2 : Nat) (v m : Int) (A : Option Addr) (n c : Nat) (w : World) (hm : 1 ≤ m ∧ m ≤ 6) (hb : Boxed w b 2 (.int .i64 v)) (hb2 : CxAt w b2 m A n c) :
    FnU Try.prog (.func (.func 72) #[] #[.pointer (some ⟨b, 0, none⟩), .pointer (some ⟨b2, 0, none⟩)]) (withinB v 0 (m - 1)) w := by
  refine ⟨_, _, _, rfl, enters_of Try.func72 (by kernel_rfl) rfl, fun W hW => ?_⟩
  have hcell : W.cell? ⟨b, 0, none⟩ = some (.int .i64 v) := (hW.cell (p := ⟨b, 0, none⟩) hb.lt).trans hb.cell
  have hb' := hb2.below hW
  have h0 := hb'.c0
  have HC := Aside0.mk (within_c v 0 (m - 1) W)
  clear hW hb hb2 hb'
  show Calls Try.prog 72 #[.pointer (some ⟨b, 0, none⟩), .pointer (some ⟨b2, 0, none⟩)] W fun e w' => e = .returned (.bool (withinB v 0 (m - 1))) ∧ Below W.heap.size W w'
  generalize withinB v 0 (m - 1) = r at HC ⊢
  go_enter Try.func72, Try.ntmps72
  go_wp2_with (go_at_call 73; refine HC.out.mono ?_; rintro e w1 ⟨rfl, rfl⟩)
  go_ret
  exact ⟨rfl, Below.refl _ _⟩

def delF (n : Int) (xs : List Int) (v : Int) : Int × List Int × Int := if isC n xs then (if withinB v 0 (n - 1) then (n, partL n xs (noBit v.toNat), 0) else (0, [], 2)) else (0, [], 1)
set_option maxRecDepth 100000 in
set_option maxHeartbeats 1000000 in
theorem deleteVertex_c (m : Int) (A : Option Addr) (n c : Nat) (xs : List Int) (v : Int) (w : World) (hr : RC w A n xs) (hn : n ≤ 4611686018427387904) :
    Calls Try.prog 35 #[.agg #[.int .i64 m, .slice A n c], .int .i64 v] w (CxCode w.heap.size w (delF m xs v).1 (delF m xs v).2.1 (delF m xs v).2.2) := by
  have hbk0 := CxAt.new w m A n c
  have hbx := Boxed.new (w.alloc (.cells #[.int .i64 m, .slice A n c] 26)) 2 (.int .i64 v)
  have hbk2 := CxAt.new ((w.alloc (.cells #[.int .i64 m, .slice A n c] 26)).alloc (.cells #[.int .i64 v] 2)) 0 none 0 0
  rw [World.size_alloc] at hbx
  rw [World.size_alloc, World.size_alloc] at hbk2
  have hb1 : Below w.heap.size w (((w.alloc (.cells #[.int .i64 m, .slice A n c] 26)).alloc (.cells #[.int .i64 v] 2)).alloc (.cells #[.int .i64 0, .slice none 0 0] 26)) := (((Below.refl _ w).alloc (Nat.le_refl _) _).alloc (by simp) _).alloc (by simp; omega) _
  have hk0 := (hbk0.below ((Below.refl _ _).alloc (Nat.le_refl _) (.cells #[.int .i64 v] 2))).below ((Below.refl _ _).alloc (Nat.le_refl _) (.cells #[.int .i64 0, .slice none 0 0] 26))
  have hbx2 := bx_below hbx ((Below.refl _ _).alloc (Nat.le_refl _) (.cells #[.int .i64 0, .slice none 0 0] 26))
  have hc := complexCode_c m A n c xs _ _ _ (Kd.C_below hr hb1) hn (fun hi => deleteVertex1_f (w.heap.size + 1) w.heap.size v m A n c _ (isC_of hi).1 hbx2 hk0)
  have l0 := hk0.c0
  have l1 := hk0.c1
  have HB := Aside0.mk hb1
  have HX := Aside0.mk hbx2
  have HK0 := Aside0.mk hk0
  have HK := Aside0.mk hbk2
  have HR := Aside0.mk hr
  clear hb1 hbk2 hk0 hbx hbx2 hbk0 hr
  by_cases hq : (isC m xs && withinB v 0 (m - 1)) = true
  · obtain ⟨hi, hv⟩ := Bool.and_eq_true_iff.1 hq
    rw [hi, hv] at hc
    have HC := Aside0.mk hc
    have HI := Aside0.mk hi
    have HE : Aside0 (delF m xs v = (m, partL m xs (noBit v.toNat), 0)) := ⟨by simp [delF, hi, hv]⟩
    obtain ⟨⟨hm1, hm6⟩, _, _⟩ := isC_of hi
    obtain ⟨k, rfl⟩ := Int.eq_ofNat_of_zero_le (show 0 ≤ v by simp [withinB] at hv; omega)
    have hk : k ≤ 63 := by simp [withinB] at hv; omega
    clear hc hi hq hv
    rw [HE.out]
    unfold codeOf at HC
    go_enter Try.func35, Try.ntmps35
    go_wp2_with (first
      | (go_at_call 54; refine HC.out.mono ?_; rintro e w2 ⟨rfl, hb2⟩; have HB2 := Aside0.mk (below_in HB.out hb2); have K0 := Aside0.mk (HK0.out.below hb2); have K1 := Aside0.mk (HK.out.below hb2); have k0 := K0.out.c0; have k1 := K0.out.c1; have k2 := (bx_below HX.out hb2).cell; have m0 := K1.out.c0; have m1 := K1.out.c1; clear hb2)
      | (go_at_call 74; refine (without_c m A n c xs k hk _ (Kd.C_below HR.out HB2.out) hn HI.out).mono ?_; rintro e w3 ⟨v, rfl, hv, hb3⟩; obtain ⟨A3, c3, rfl⟩ := Kd.R_slice hv; have R3 := Aside0.mk hv; have HB3 := Aside0.mk (below_in HB2.out hb3); have K13 := Aside0.mk (K1.out.below hb3); have n0 := K13.out.c0; have n1 := K13.out.c1; have g0 := K13.out.fz0; have g1 := K13.out.fz; clear hv hb3))
    have hX := K13.out.set2 m A3 (partL m xs (noBit k)).length c3
    have x0 := hX.c0
    have x1 := hX.c1
    exact bodyPost_ret (v := .tuple #[.agg #[.int .i64 m, .slice A3 (partL m xs (noBit k)).length c3], .int .i64 0]) (by simp [results, Try.results35, go_sem, x0, x1]) rfl ⟨_, rfl, Kd.R_lower ((R3.out.set K13.out _ _).set (K13.out.set0 _) _ _) HB2.out.size, (HB3.out.setCell (p := ⟨w.heap.size + 1 + 1, 0, none⟩) (by simp; omega) _).setCell (p := ⟨w.heap.size + 1 + 1, 1, none⟩) (by simp; omega) _⟩
  · have HE : Aside0 (delF m xs v = (0, [], codeOf (isC m xs) (withinB v 0 (m - 1)))) := ⟨by cases h1 : isC m xs <;> cases h2 : withinB v 0 (m - 1) <;> simp_all [delF, codeOf]⟩
    have HN : codeOf (isC m xs) (withinB v 0 (m - 1)) ≠ 0 := by cases h1 : isC m xs <;> cases h2 : withinB v 0 (m - 1) <;> simp_all [codeOf]
    rw [HE.out]
    generalize codeOf (isC m xs) (withinB v 0 (m - 1)) = r at hc HN HE ⊢
    have HC := Aside0.mk hc
    clear hc hq
    go_enter Try.func35, Try.ntmps35
    go_wp2_with (go_at_call 54; refine HC.out.mono ?_; rintro e w2 ⟨rfl, hb2⟩; have HB2 := Aside0.mk (below_in HB.out hb2); have K1 := Aside0.mk (HK.out.below hb2); have m0 := K1.out.c0; have m1 := K1.out.c1; have f0 := K1.out.fz0; have f1 := K1.out.fz; clear hb2)
    have hX := K1.out.set2 0 none 0 0
    have x0 := hX.c0
    have x1 := hX.c1
    exact bodyPost_ret (v := .tuple #[.agg #[.int .i64 0, .slice none 0 0], .int .i64 r]) (by simp [results, Try.results35, go_sem, x0, x1]) rfl ⟨_, rfl, Kd.R_nil _ _ _ _ _, (HB2.out.setCell (p := ⟨w.heap.size + 1 + 1, 0, none⟩) (by simp; omega) _).setCell (p := ⟨w.heap.size + 1 + 1, 1, none⟩) (by simp; omega) _⟩

end Go.Proofs.Ytdkoioiiacljeaa.Im

/- Clone, DeleteFunc, around, IsFreeFace. -/
namespace Go.Proofs.Ytdkoioiiacljeaa.Im
set_option linter.unusedVariables false
set_option linter.unusedSimpArgs false
open Go.RowKit Go.Shelf Go.Proofs.YtdkoioiiacljeaaW.PrintWords Go.Proofs.YtdkoioiiacljeaaW.PrintLast Go.Proofs.YtdkoioiiacljeaaW.PrintMore

section
variable {P : Program} {ops : Array Oper} {rest : List Oper} {o : Oper} {a : Act} {Q : Exit → Act → World → Prop}
/-- append(v, ys...) to a row of the call's own; behind 'at_builtin'. -/
theorem ap64s {w0 W : World} (base : Nat) (hgd : o.guard = none) (s x : Operand) (t : TypeId)
    (ho : o.op = .call { callee := .builtin .append, args := #[s, x], argTypes := #[t, t] }) (ht : P.underlying t = some (.slice 2))
    (hinfo : (P.info? 2).map (fun i => (i.zero, i.size, i.bytes)) = some (some (.int .i64 0), 1, 8)) (v : Value) (xs ys : List Int) (A : Option Addr) (m c : Nat)
    (hs : a.eval s = v) (hx : a.eval x = .slice A m c) (HO : RO W base v xs) (HR : RC W A m ys) (HB : Below base w0 W) (hbase : base ≤ W.heap.size) (hl : xs.length + m ≤ 17592186044415)
    (h : ∀ v1 w1, RO w1 base v1 (xs ++ ys) → Below base w0 w1 → W.grownBy w1 v.ownBlock → (v1.ownBlock = v.ownBlock ∨ ∃ b, v1.ownBlock = some b ∧ W.heap.size ≤ b) → wpList P ops Q rest (a.put o.dst v1) w1) :
    wpList P ops Q (o :: rest) a W :=
  Kd.R_append_rows (Kd.int .i64) base hgd s x t 2 (.int .i64 0) 8 ho ht hinfo rfl (by decide) (by decide) v xs ys A m c (fun _ => True) (fun _ => False) hs hx HO HR (fun _ _ h => h) (fun _ h => h.elim) (fun _ _ => trivial) HB hbase (by omega) h
end

/-- An empty row that was made. -/
theorem RO.made (w : World) (base cap : Nat) (cur : Array Value) (hb : base ≤ w.heap.size) (hm : cap ≤ maxLen) (hs : cur.size = cap * 1) : RO (w.alloc (.cells cur 2)) base (.slice (some ⟨w.heap.size, 0, none⟩) 0 cap) [] :=
  RO.of_row (World.ownsRow_made w cur cap hb hm hs)

set_option maxRecDepth 100000 in
set_option maxHeartbeats 1000000 in
theorem clone_c (A : Option Addr) (n c : Nat) (xs : List Int) (w : World) (hr : RC w A n xs) (hn : n ≤ 1048576) :
    Calls Try.prog 87 #[.slice A n c] w (SlOnly w.heap.size w xs) := by
  have qnil : ∀ (w : World) (a : Option Addr) (n c n' c' : Nat), (binOp .eql 22 (.slice a n c) (.slice none n' c')).run Try.prog w = .ok (.bool a.isNone) w := fun w a n c n' c' => Lib.run_eql_slice_nil w _ _ a n c n' c' Try.underlying22
  cases A with
  | none =>
    have h0 : n = 0 := by
      rcases Nat.eq_zero_or_pos n with h | h
      · exact h
      · obtain ⟨ad, e, _⟩ := hr.2.2 h; cases e
    have hx : xs = [] := List.eq_nil_of_length_eq_zero (by rw [hr.1, h0])
    subst hx
    clear hr
    go_enter Try.func87, Try.ntmps87
    go_wp2
    go_ret
    exact ⟨_, rfl, Kd.R_nil _ _ _ _ _, Below.refl _ _⟩
  | some ad =>
    have hb1 : Below w.heap.size w (w.alloc (.cells #[] 2)) := (Below.refl _ w).alloc (Nat.le_refl _) _
    have HR := Aside0.mk (Kd.C_below hr hb1)
    have HB := Aside0.mk hb1
    have HO := Aside0.mk (RO.made w w.heap.size 0 #[] (Nat.le_refl _) (Nat.zero_le _) rfl)
    clear hr hb1
    go_enter Try.func87, Try.ntmps87
    go_wp2_with (at_builtin; refine ap64s w.heap.size rfl (.tmp 5) (.tmp 6) 22 rfl Try.underlying22 info64 _ _ _ _ _ _ rfl rfl HO.out HR.out HB.out HB.out.size (by simp; omega) ?_; intro v1 w1 ho hb hg hat; clear hat hg; have H1 := Aside0.mk ho; have HB1 := Aside0.mk hb; clear ho hb)
    go_ret
    exact ⟨_, rfl, H1.out, HB1.out⟩

/-! ### DeleteFunc -/
theorem RO.cell {W : World} {base g n cap : Nat} {ys : List Int} (h : RO W base (.slice (some ⟨g, 0, none⟩) n cap) ys) {j : Nat} (hj : j < n) : W.cell? ⟨g, j, none⟩ = some (.int .i64 (ys[j]?.getD 0)) ∧ W.frozen? ⟨g, j, none⟩ = false := by
  have := Kd.R_celln (0 : Int) h (j : Int) (by omega) (by omega)
  simpa [rdOf] using this
theorem RO.put {W : World} {base g n cap : Nat} {ys : List Int} (h : RO W base (.slice (some ⟨g, 0, none⟩) n cap) ys) (j : Nat) (x : Int) : RO (W.setCell ⟨g, j, none⟩ (.int .i64 x)) base (.slice (some ⟨g, 0, none⟩) n cap) (ys.set j x) := by
  have := Kd.R_putn h (j : Int) x
  rw [Int.toNat_natCast] at this
  exact this
theorem RO.zeros {base g n cap : Nat} : ∀ (m k : Nat) (W : World) (ys : List Int), RO W base (.slice (some ⟨g, 0, none⟩) n cap) ys → ∃ zs, zs.take k = ys.take k ∧ RO (W.setCells g k (List.replicate m (.int .i64 0))) base (.slice (some ⟨g, 0, none⟩) n cap) zs
  | 0, k, W, ys, h => ⟨ys, rfl, h⟩
  | m + 1, k, W, ys, h => by
    obtain ⟨zs, hz, hR⟩ := RO.zeros m (k + 1) _ _ (h.put k 0)
    refine ⟨zs, ?_, hR⟩
    have := congrArg (List.take k) hz
    rw [List.take_take, List.take_take, show min k (k + 1) = k by omega] at this
    rw [this, List.take_set_of_le (Nat.le_refl k)]
theorem below_cells {base g : Nat} {w0 : World} (hg : base ≤ g) : ∀ (vs : List Value) (k : Nat) (W : World), Below base w0 W → Below base w0 (W.setCells g k vs)
  | [], _, W, h => h
  | v :: vs, k, W, h => below_cells hg vs (k + 1) _ (h.setCell (p := ⟨g, k, none⟩) hg v)

theorem filter_first {p : Int → Bool} {xs : List Int} {i : Nat} (hb : ∀ j, j < i → p (xs[j]?.getD 0) = false) (hi : i ≤ xs.length) : (xs.take i).filter (fun x => !p x) = xs.take i := by
  refine List.filter_eq_self.2 fun x hx => ?_
  obtain ⟨j, hj, rfl⟩ := List.mem_iff_getElem.1 hx
  rw [List.length_take] at hj
  have := hb j (by omega)
  rw [List.getElem?_eq_getElem (by omega)] at this
  simpa using this
theorem firstI_at {p : Int → Bool} {xs : List Int} (h : xs.any p = true) : ∃ i : Nat, firstI p xs = (i : Int) ∧ i < xs.length ∧ p (xs[i]?.getD 0) = true ∧ ∀ j, j < i → p (xs[j]?.getD 0) = false := by
  have hl : xs.findIdx p < xs.length := List.findIdx_lt_length_of_exists (List.any_eq_true.1 h)
  refine ⟨xs.findIdx p, by unfold firstI; rw [if_pos h], hl, ?_, fun j hj => ?_⟩
  · rw [List.getElem?_eq_getElem hl]
    exact List.findIdx_getElem (w := hl)
  · rw [List.getElem?_eq_getElem (by omega)]
    simpa using List.not_of_lt_findIdx hj

/-- What holds in DeleteFunc's loop: k places are filled, j are read. -/
structure DI (q : Int → Bool) (xs ys : List Int) (k j : Nat) : Prop where
  lt : k < j
  le : j ≤ xs.length
  len : ys.length = xs.length
  done : ys.take k = (xs.take j).filter q
  rest : ∀ m, j ≤ m → ys[m]? = xs[m]?
theorem DI.start {p : Int → Bool} {xs : List Int} {i : Nat} (hi : i < xs.length) (hp : p (xs[i]?.getD 0) = true) (hb : (xs.take i).filter (fun x => !p x) = xs.take i) : DI (fun x => !p x) xs xs i (i + 1) :=
  ⟨by omega, hi, rfl, by
    rw [List.take_add_one, List.filter_append, hb, List.getElem?_eq_getElem hi]
    rw [List.getElem?_eq_getElem hi] at hp
    have hp' : p xs[i] = true := hp
    simp [hp'], fun _ _ => rfl⟩
theorem DI.skip {q : Int → Bool} {xs ys : List Int} {k j : Nat} (h : DI q xs ys k j) (hj : j < xs.length) (hq : q (xs[j]?.getD 0) = false) : DI q xs ys k (j + 1) :=
  ⟨by have := h.lt; omega, hj, h.len, by
    rw [List.take_add_one, List.filter_append, h.done, List.getElem?_eq_getElem hj]
    rw [List.getElem?_eq_getElem hj] at hq
    have hq' : q xs[j] = false := hq
    simp [hq'], fun m hm => h.rest m (by omega)⟩
theorem DI.keep {q : Int → Bool} {xs ys : List Int} {k j : Nat} (h : DI q xs ys k j) (hj : j < xs.length) (hq : q (xs[j]?.getD 0) = true) : DI q xs (ys.set k (xs[j]?.getD 0)) (k + 1) (j + 1) := by
  have hk := h.lt
  have hl := h.len
  refine ⟨by omega, hj, by rw [List.length_set, hl], ?_, fun m hm => ?_⟩
  · rw [List.take_add_one (l := xs), List.filter_append, ← h.done, List.getElem?_eq_getElem hj]
    rw [List.getElem?_eq_getElem hj] at hq
    have hq' : q xs[j] = true := hq
    rw [List.take_add_one, List.take_set_of_le (Nat.le_refl k), List.getElem?_set_self (by omega)]
    simp [hq']
  · rw [List.getElem?_set_ne (by omega)]
    exact h.rest m (by omega)
theorem DI.at_ {q : Int → Bool} {xs ys : List Int} {k j : Nat} (h : DI q xs ys k j) : ys[j]?.getD 0 = xs[j]?.getD 0 := by rw [h.rest j (Nat.le_refl _)]

set_option maxRecDepth 100000 in
set_option maxHeartbeats 4000000 in
theorem deleteFunc_c (w0 : World) (v : Value) (xs : List Int) (fv : Value) (dom : Int → Prop) (p : Int → Bool) (w : World) (HBw : Below w0.heap.size w0 w) (ho : RO w w0.heap.size v xs) (hn : xs.length ≤ 1048576) (hf : FnB Try.prog fv dom p w0) (hd : ∀ x ∈ xs, dom x) :
    Calls Try.prog 93 #[v, fv] w fun e w' => ∃ v', e = .returned v' ∧ RO w' w0.heap.size v' (xs.filter fun x => !p x) ∧ Below w0.heap.size w0 w' := by
  have hfw := hf.later HBw
  obtain ⟨A0, c0, rfl⟩ := Kd.R_slice ho
  have hix := indexFunc_c A0 xs.length c0 xs fv dom p w (Kd.R_reads' ho).2.2 hfw hd
  obtain ⟨g, fs, lb, rfl, eg, hcall⟩ := hf
  clear hfw
  cases hany : xs.any p with
  | false =>
    have he : firstI p xs = -1 := by unfold firstI; rw [hany]; rfl
    have hfl : (xs.filter fun x => !p x) = xs := by
      refine List.filter_eq_self.2 fun x hx => ?_
      have := List.any_eq_false.1 hany x hx
      simpa using this
    rw [he] at hix
    rw [hfl]
    have HI := Aside0.mk hix
    have HO := Aside0.mk ho
    have HB := Aside0.mk HBw
    clear hix ho HBw hcall hany he hfl
    go_enter Try.func93, Try.ntmps93
    go_wp2_with (go_at_call 123; refine HI.out.mono ?_; rintro e w' ⟨rfl, hb⟩)
    go_ret
    exact ⟨_, rfl, Kd.R_below HO.out hb, HB.out.trans (hb.mono HB.out.size)⟩
  | true =>
    obtain ⟨i, hi, hil, hpi, hbi⟩ := firstI_at hany
    rw [hi] at hix
    obtain ⟨gg, cap, hvf, hgb, hgl, _⟩ := Kd.R_form ho (by omega)
    obtain ⟨rfl, rfl⟩ : A0 = some ⟨gg, 0, none⟩ ∧ c0 = cap := by injection hvf with h1 h2 h3; exact ⟨h1, h3⟩
    have hcapn := (Kd.R_reads' ho).2.1
    have HI := Aside0.mk hix
    have HO := Aside0.mk ho
    have HB := Aside0.mk HBw
    have HC := Aside0.mk hcall
    have HD := Aside0.mk hd
    have HP := Aside0.mk hpi
    have HF := Aside0.mk (filter_first hbi (Nat.le_of_lt hil))
    have HG := Aside0.mk hgb
    obtain ⟨n, hnx⟩ : ∃ n, xs.length = n := ⟨_, rfl⟩
    have HN := Aside0.mk hnx
    rw [hnx] at hil hn hcapn ⊢
    rw [hnx] at HI HO
    clear hix ho HBw hcall hany hi hd hpi hbi hvf hgb hgl hnx
    go_enter Try.func93, Try.ntmps93
    go_wp2_with (go_at_call 123; refine HI.out.mono ?_; rintro e w1 ⟨rfl, hb⟩; have HO1 := Aside0.mk (Kd.R_below HO.out hb); have HB1 := Aside0.mk (HB.out.trans (hb.mono HB.out.size)); clear hb)
    have hst := DI.start (p := p) (by rw [HN.out]; exact hil) HP.out HF.out
    have HS := Aside0.mk hst
    clear hst
    go_loopw [5, 6] (fun vk vj wr => ∃ (k j : Nat) (ys : List Int), vk = .int .i64 k ∧ vj = .int .i64 j ∧ k < j ∧ j ≤ n ∧ Aside0 (DI (fun x => !p x) xs ys k j) ∧ Aside0 (RO wr w0.heap.size (.slice (some ⟨gg, 0, none⟩) n c0) ys) ∧ Aside0 (Below w0.heap.size w0 wr)) (fun _ vj _ => n - (intOf vj).toNat)
    case atStart => exact ⟨i, i + 1, xs, rfl, by go_num, by omega, by omega, HS, HO1, HB1⟩
    case round =>
      obtain ⟨k, j, ys, rfl, rfl, hkj, hjn, hD, hO, hBr⟩ := hrel
      by_cases hlt : j < n
      · have hltz : (j : Int) < (n : Int) := by omega
        have hcf := RO.cell hO.out hlt
        have hce := hcf.1
        have hkf := RO.cell hO.out (show k < n by omega)
        have hkc := hkf.1
        have hkz := hkf.2
        have hx := hD.out.at_
        have hjx : j < xs.length := by rw [HN.out]; exact hlt
        obtain ⟨y, hy⟩ : ∃ y, xs[j]?.getD 0 = y := ⟨_, rfl⟩
        rw [hx, hy] at hce
        have hdy : dom y := by
          rw [List.getElem?_eq_getElem hjx] at hy
          rw [← hy]
          exact HD.out _ (List.getElem_mem hjx)
        have hcy := HC.out wr y hBr.out hdy
        have HY := Aside0.mk hy
        have HJ := Aside0.mk hjx
        clear hy hx hdy hcf hkf hjx
        have HCY := Aside0.mk hcy
        clear hcy
        cases hq : p y with
        | true =>
          rw [hq] at HCY
          have HQ := Aside0.mk hq
          clear hq
          go_wp2_with (go_at_fn g; refine HCY.out.mono ?_; rintro e w' ⟨rfl, hb⟩; have HO2 := Aside0.mk (Kd.R_below hO.out hb); have HB2 := Aside0.mk (hBr.out.trans (hb.mono hBr.out.size)); clear hb)
          go_roundw
          case measure => simp [intOf]; omega
          case rel =>
            exact ⟨_, _, _, _, _, _, _, _, _, _, _, _, _, _, _, _, _, _, _, _, _, _, _, ⟨k, j + 1, ys, rfl, by go_num, by omega, by omega, ⟨hD.out.skip HJ.out (by rw [HY.out, HQ.out]; rfl)⟩, HO2, HB2⟩, rfl⟩
        | false =>
          rw [hq] at HCY
          have HQ := Aside0.mk hq
          clear hq
          go_wp2_with (go_at_fn g; refine HCY.out.mono ?_; rintro e w' ⟨rfl, hb⟩; have HO2 := Aside0.mk (Kd.R_below hO.out hb); have HB2 := Aside0.mk (hBr.out.trans (hb.mono hBr.out.size)); have hk2 := RO.cell HO2.out (show k < n by omega); have hkc2 := hk2.1; have hkz2 := hk2.2; clear hb hk2)
          go_roundw
          case measure => simp [intOf]; omega
          case rel => exact ⟨_, _, _, _, _, _, _, _, _, _, _, _, _, _, _, _, _, _, _, _, _, _, _, ⟨k + 1, j + 1, ys.set k y, by go_num, by go_num, by omega, by omega, ⟨by have := hD.out.keep HJ.out (by rw [HY.out, HQ.out]; rfl); rw [HY.out] at this; exact this⟩, ⟨RO.put HO2.out k y⟩, ⟨HB2.out.setCell (p := ⟨gg, k, none⟩) HG.out _⟩⟩, rfl⟩
      · obtain rfl : j = n := by omega
        have hltz : ¬ (j : Int) < (j : Int) := by omega
        have hcl : ∀ ty, (Builtin.clear_ #[22] ty #[.slice (some ⟨gg, k, none⟩) (j - k) (c0 - k)]).run Try.prog wr = .ok (.tuple #[]) (wr.setCells gg k (List.replicate (j - k) (.int .i64 0))) := fun ty =>
          Lib.run_clear_slice wr _ _ ty (.int .i64 0) Try.underlying22 (fun w => by kernel_rfl) rfl rfl gg k _ _ (by omega) (fun m hm => by rw [(RO.cell hO.out (show k + m < j by omega)).1]; rfl) (fun m hm => (RO.cell hO.out (show k + m < j by omega)).2)
        go_wp2
        go_ret
        obtain ⟨zs, hz, hR⟩ := RO.zeros (j - k) k _ _ hO.out
        refine ⟨_, rfl, ?_, below_cells HG.out _ _ _ hBr.out⟩
        have ht := Kd.R_take hR (m := k) (by have := (Kd.R_reads' hR).1; omega)
        rw [hz, hD.out.done, List.take_of_length_le (by rw [HN.out]; exact Nat.le_refl _)] at ht
        exact ht

end Go.Proofs.Ytdkoioiiacljeaa.Im

/- around, IsFreeFace. -/
namespace Go.Proofs.Ytdkoioiiacljeaa.Im
set_option linter.unusedVariables false
set_option linter.unusedSimpArgs false
open Go.RowKit Go.Shelf Go.Proofs.YtdkoioiiacljeaaW.PrintWords Go.Proofs.YtdkoioiiacljeaaW.PrintLast Go.Proofs.YtdkoioiiacljeaaW.PrintMore

/-- A complex has at most 63 faces. -/
theorem isC_small {n : Int} {xs : List Int} (h : isC n xs = true) : xs.length ≤ 63 := by
  obtain ⟨⟨h1, h6⟩, ha, _⟩ := isC_of h
  have hb : ∀ i, i < xs.length → 1 ≤ xs[i]?.getD 0 ∧ xs[i]?.getD 0 ≤ fullZ n := fun i hi => by
    have := List.all_eq_true.1 ha i (List.mem_range.2 hi)
    simp only [okAt, withinB, Bool.and_eq_true, decide_eq_true_eq] at this
    exact this.1
  have hF : fullZ n ≤ 63 := by
    obtain rfl | rfl | rfl | rfl | rfl | rfl : n = 1 ∨ n = 2 ∨ n = 3 ∨ n = 4 ∨ n = 5 ∨ n = 6 := by omega
    all_goals decide +kernel
  have hs : ∀ i, i < xs.length → ((i : Nat) : Int) + 1 ≤ xs[i]?.getD 0 := by
    intro i
    induction i with
    | zero => intro hi; have := hb 0 hi; omega
    | succ i ih =>
      intro hi
      have h2 := ih (by omega)
      have h3 := (ascB_asc ha).lt (show i < i + 1 by omega) hi
      omega
  rcases Nat.eq_zero_or_pos xs.length with h0 | h0
  · omega
  · have := hs (xs.length - 1) (by omega)
    have := hb (xs.length - 1) (by omega)
    omega

def aroundP (f x : Int) : Bool := f == x || !(Go.bits .andNot .i64 f x == 0)
def aroundL (xs : List Int) (f : Int) : List Int := xs.filter fun x => !aroundP f x
theorem around1_f (b : Nat) (f : Int) (w : World) (hb : Boxed w b 2 (.int .i64 f)) :
    FnB Try.prog (.func (.func 94) #[] #[.pointer (some ⟨b, 0, none⟩)]) (fun _ => True) (aroundP f) w := by
  refine ⟨_, _, _, rfl, enters_of Try.func94 (by kernel_rfl) rfl, fun W x hW hx => ?_⟩
  have hcell : W.cell? ⟨b, 0, none⟩ = some (.int .i64 f) := (hW.cell (p := ⟨b, 0, none⟩) hb.lt).trans hb.cell
  have HC := Aside0.mk (isIn_c f x W)
  have HE : Aside0 (aroundP f x = (f == x || !(Go.bits .andNot .i64 f x == 0))) := ⟨rfl⟩
  clear hW hx hb
  show Calls Try.prog 94 #[.int .i64 x, .pointer (some ⟨b, 0, none⟩)] W fun e w' => e = .returned (.bool (aroundP f x)) ∧ Below W.heap.size W w'
  generalize (Go.bits .andNot .i64 f x == 0) = r at HC HE
  cases h1 : (f == x) with
  | true =>
    go_enter Try.func94, Try.ntmps94
    go_wp2
    go_ret
    exact ⟨by rw [HE.out, h1]; rfl, Below.refl _ _⟩
  | false =>
    go_enter Try.func94, Try.ntmps94
    go_wp2_with (go_at_call 95; refine HC.out.mono ?_; rintro e w1 ⟨rfl, rfl⟩)
    go_ret
    exact ⟨by rw [HE.out, h1]; rfl, Below.refl _ _⟩

set_option maxRecDepth 100000 in
theorem around_c (m : Int) (A : Option Addr) (n c : Nat) (xs : List Int) (f : Int) (w : World) (hr : RC w A n xs) (hi : isC m xs = true) :
    Calls Try.prog 63 #[.agg #[.int .i64 m, .slice A n c], .int .i64 f] w (SlOnly w.heap.size w (aroundL xs f)) := by
  have hl := isC_small hi
  have hbk0 := CxAt.new w m A n c
  have hbx := Boxed.new (w.alloc (.cells #[.int .i64 m, .slice A n c] 26)) 2 (.int .i64 f)
  rw [World.size_alloc] at hbx
  have hb1 : Below w.heap.size w ((w.alloc (.cells #[.int .i64 m, .slice A n c] 26)).alloc (.cells #[.int .i64 f] 2)) := ((Below.refl _ w).alloc (Nat.le_refl _) _).alloc (by simp) _
  have hk0 := hbk0.below ((Below.refl _ _).alloc (Nat.le_refl _) (.cells #[.int .i64 f] 2))
  have hc := clone_c A n c xs _ (Kd.C_below hr hb1) (by have := hr.1; omega)
  have hd := fun v W HB ho => deleteFunc_c ((w.alloc (.cells #[.int .i64 m, .slice A n c] 26)).alloc (.cells #[.int .i64 f] 2)) v xs _ (fun _ => True) _ W HB ho (by omega) (around1_f (w.heap.size + 1) f _ hbx) (fun _ _ => trivial)
  have l1 := hk0.c1
  have HC := Aside0.mk hc
  have HD := Lib.hid hd
  have HB := Aside0.mk hb1
  have HE : Aside0 (aroundL xs f = xs.filter fun x => !aroundP f x) := ⟨rfl⟩
  clear hc hb1 hk0 hbx hbk0 hr hi hl hd
  rw [HE.out]
  go_enter Try.func63, Try.ntmps63
  go_wp2_with (first
    | (go_at_call 87; refine HC.out.mono ?_; rintro e w2 ⟨v, rfl, hv, hb2⟩; have HV := Aside0.mk hv; have HB2 := Aside0.mk hb2; clear hv hb2)
    | (go_at_call 93; refine (HD.out _ _ HB2.out HV.out).mono ?_; rintro e w3 ⟨v3, rfl, hv, hb3⟩; have HV3 := Aside0.mk hv; have HB3 := Aside0.mk hb3; clear hv hb3))
  go_ret
  exact ⟨_, rfl, Kd.R_lower HV3.out HB.out.size, HB.out.trans (HB3.out.mono HB.out.size)⟩

/-! ### IsFreeFace -/
theorem isFreeFace1_f (b b2 : Nat) (v m : Int) (A : Option Addr) (n c : Nat) (xs : List Int) (w : World) (hi : isC m xs = true) (hr : RC w A n xs) (hn : n ≤ 4611686018427387904) (hb : Boxed w b 2 (.int .i64 v)) (hb2 : CxAt w b2 m A n c) :
    FnU Try.prog (.func (.func 62) #[] #[.pointer (some ⟨b2, 0, none⟩), .pointer (some ⟨b, 0, none⟩)]) (decide (v ∈ xs)) w := by
  refine ⟨_, _, _, rfl, enters_of Try.func62 (by kernel_rfl) rfl, fun W hW => ?_⟩
  have hcell : W.cell? ⟨b, 0, none⟩ = some (.int .i64 v) := (hW.cell (p := ⟨b, 0, none⟩) hb.lt).trans hb.cell
  have hb' := hb2.below hW
  have h0 := hb'.c0
  have h1 := hb'.c1
  have HC := Aside0.mk (has_c m A n c xs v W (Kd.C_below hr hW) hn (ascB_asc (isC_of hi).2.1))
  clear hW hb hb2 hb' hr hi
  show Calls Try.prog 62 #[.pointer (some ⟨b2, 0, none⟩), .pointer (some ⟨b, 0, none⟩)] W fun e w' => e = .returned (.bool (decide (v ∈ xs))) ∧ Below W.heap.size W w'
  generalize decide (v ∈ xs) = r at HC ⊢
  go_enter Try.func62, Try.ntmps62
  go_wp2_with (go_at_call 59; refine HC.out.mono ?_; rintro e w1 ⟨rfl, hb⟩)
  go_ret
  exact ⟨rfl, hb⟩

def freeF (n : Int) (xs : List Int) (v : Int) : Bool × Int := if isC n xs then (if v ∈ xs then (((aroundL xs v).length : Int) == 1, 0) else (false, 2)) else (false, 1)
set_option maxRecDepth 100000 in
set_option maxHeartbeats 1000000 in
theorem isFreeFace_c (m : Int) (A : Option Addr) (n c : Nat) (xs : List Int) (v : Int) (w : World) (hr : RC w A n xs) (hn : n ≤ 4611686018427387904) :
    Calls Try.prog 23 #[.agg #[.int .i64 m, .slice A n c], .int .i64 v] w (BoCode w (freeF m xs v).1 (freeF m xs v).2) := by
  have hbk0 := CxAt.new w m A n c
  have hbx := Boxed.new (w.alloc (.cells #[.int .i64 m, .slice A n c] 26)) 2 (.int .i64 v)
  rw [World.size_alloc] at hbx
  have hb1 : Below w.heap.size w ((w.alloc (.cells #[.int .i64 m, .slice A n c] 26)).alloc (.cells #[.int .i64 v] 2)) := ((Below.refl _ w).alloc (Nat.le_refl _) _).alloc (by simp) _
  have hk0 := hbk0.below ((Below.refl _ _).alloc (Nat.le_refl _) (.cells #[.int .i64 v] 2))
  have hc := complexCode_c m A n c xs _ _ _ (Kd.C_below hr hb1) hn (fun hi => isFreeFace1_f (w.heap.size + 1) w.heap.size v m A n c xs _ hi (Kd.C_below hr hb1) hn hbx hk0)
  have l0 := hk0.c0
  have l1 := hk0.c1
  have HB := Aside0.mk hb1
  have HX := Aside0.mk hbx
  have HK0 := Aside0.mk hk0
  have HR := Aside0.mk hr
  clear hb1 hk0 hbx hbk0 hr
  by_cases hq : (isC m xs && decide (v ∈ xs)) = true
  · obtain ⟨hi, hv⟩ := Bool.and_eq_true_iff.1 hq
    rw [hi, hv] at hc
    have HC := Aside0.mk hc
    have HI := Aside0.mk hi
    have HE : Aside0 (freeF m xs v = (((aroundL xs v).length : Int) == 1, 0)) := ⟨by have := of_decide_eq_true hv; simp [freeF, hi, this]⟩
    clear hc hi hq hv
    rw [HE.out]
    unfold codeOf at HC
    go_enter Try.func23, Try.ntmps23
    go_wp2_with (first
      | (go_at_call 54; refine HC.out.mono ?_; rintro e w2 ⟨rfl, hb2⟩; have HB2 := Aside0.mk (below_in HB.out hb2); have K0 := Aside0.mk (HK0.out.below hb2); have k0 := K0.out.c0; have k1 := K0.out.c1; have k2 := (bx_below HX.out hb2).cell; clear hb2)
      | (go_at_call 63; refine (around_c m A n c xs v _ (Kd.C_below HR.out HB2.out) HI.out).mono ?_; rintro e w3 ⟨v3, rfl, hv, hb3⟩; obtain ⟨A3, c3, rfl⟩ := Kd.R_slice hv; have HB3 := Aside0.mk (below_in HB2.out hb3); clear hv hb3))
    go_ret2
    exact ⟨rfl, HB3.out⟩
  · have HE : Aside0 (freeF m xs v = (false, codeOf (isC m xs) (decide (v ∈ xs)))) := ⟨by cases h1 : isC m xs <;> by_cases h2 : v ∈ xs <;> simp_all [freeF, codeOf]⟩
    have HN : codeOf (isC m xs) (decide (v ∈ xs)) ≠ 0 := by cases h1 : isC m xs <;> by_cases h2 : v ∈ xs <;> simp_all [codeOf]
    rw [HE.out]
    generalize codeOf (isC m xs) (decide (v ∈ xs)) = r at hc HN HE ⊢
    have HC := Aside0.mk hc
    clear hc hq
    go_enter Try.func23, Try.ntmps23
    go_wp2_with (go_at_call 54; refine HC.out.mono ?_; rintro e w2 ⟨rfl, hb2⟩; have HB2 := Aside0.mk (below_in HB.out hb2); clear hb2)
    go_ret2
    exact ⟨rfl, HB2.out⟩

end Go.Proofs.Ytdkoioiiacljeaa.Im
