/- Contains, less, CollapsePair. -/
import Derived.Test.YtdkoioiiacljeaaImN
namespace Go.Proofs.Ytdkoioiiacljeaa.Im
set_option linter.unusedVariables false
set_option linter.unusedSimpArgs false
open Go.RowKit Go.Shelf Go.Proofs.YtdkoioiiacljeaaW.PrintWords Go.Proofs.YtdkoioiiacljeaaW.PrintLast Go.Proofs.YtdkoioiiacljeaaW.PrintMore

set_option maxRecDepth 100000 in
set_option maxHeartbeats 1000000 in
theorem index_c (A : Option Addr) (n c : Nat) (xs : List Int) (y : Int) (w : World) (hr : RC w A n xs) :
    Calls Try.prog 133 #[.slice A n c, .int .i64 y] w fun e w' => e = .returned (.int .i64 (firstI (fun x => y == x) xs)) ∧ Below w.heap.size w w' := by
  have hl := hr.len
  have hbig := hl.2
  have HR := Aside0.mk hr
  have HL := Aside0.mk hl.1
  clear hr hl
  go_enter Try.func133, Try.ntmps133
  go_wp2
  go_loopw [5, 8] (fun _ i wr => ∃ k : Nat, k ≤ n ∧ i = .int .i64 k ∧ Aside0 (Below w.heap.size w wr) ∧ Aside0 (∀ j, j < k → (y == (xs[j]?.getD 0)) = false)) (fun _ i _ => n - (intOf i).toNat)
  case atStart => exact ⟨0, by omega, rfl, ⟨Below.refl _ _⟩, ⟨fun j hj => absurd hj (Nat.not_lt_zero _)⟩⟩
  case round =>
    obtain ⟨k, hk, rfl, hB, hA⟩ := hrel
    by_cases hlt : k < n
    · have hltz : (k : Int) < (n : Int) := by omega
      obtain ⟨ad, rfl, hcell⟩ := HR.out.at_ hB.out hlt
      obtain ⟨z, hz⟩ : ∃ z, xs[k]?.getD 0 = z := ⟨_, rfl⟩
      rw [hz] at hcell
      have HY := Aside0.mk hz
      clear hz
      cases hq : (y == z) with
      | true =>
        have HQ := Aside0.mk hq
        go_wp2
        go_ret
        refine ⟨?_, hB.out⟩
        rw [firstI_hit (p := fun x => y == x) (by rw [HL.out]; exact hlt) HY.out HQ.out hA.out]; rfl
      | false =>
        have HQ := Aside0.mk hq
        go_wp2
        go_roundw
        case measure => simp [intOf]; omega
        case rel =>
          refine ⟨k + 1, by omega, by go_num, hB, ⟨fun j hj => ?_⟩⟩
          rcases Nat.lt_or_ge j k with h | h
          · exact hA.out j h
          · obtain rfl : j = k := by omega
            rw [HY.out]; exact HQ.out
    · obtain rfl : k = n := by omega
      have hltz : ¬ (k : Int) < (k : Int) := by omega
      go_wp2
      go_ret
      refine ⟨?_, hB.out⟩
      rw [firstI_miss (p := fun x => y == x) (fun j hj => hA.out j (by rw [HL.out] at hj; exact hj))]; rfl

theorem contains_c (A : Option Addr) (n c : Nat) (xs : List Int) (y : Int) (w : World) (hr : RC w A n xs) :
    Calls Try.prog 111 #[.slice A n c, .int .i64 y] w fun e w' => e = .returned (.bool (xs.any fun x => y == x)) ∧ Below w.heap.size w w' := by
  rw [← firstI_nonneg]
  have hc := index_c A n c xs y w hr
  have HC := Aside0.mk hc
  clear hc hr
  generalize firstI (fun x => y == x) xs = r at HC ⊢
  go_enter Try.func111, Try.ntmps111
  go_wp2_with (go_at_call 133; refine HC.out.mono ?_; rintro e w' ⟨rfl, hb⟩)
  go_ret
  exact ⟨rfl, hb⟩

/-- A slice that was written down: a new row, read and owned. -/
theorem RC.lit (w : World) (cs : Array Value) (ys : List Int) (hc : cs = (ys.map (Value.int .i64)).toArray) (hl : ys.length ≤ 9223372036854775807) : RC (w.alloc (.cells cs 2)) (some ⟨w.heap.size, 0, none⟩) ys.length ys := by
  refine Kd.C_of_reads (d := 0) ⟨rfl, hl, fun _ => ⟨_, rfl, fun j hj => ?_⟩⟩
  subst hc
  rw [show (⟨w.heap.size, 0, none⟩ : Addr).add j = ⟨w.heap.size, j, none⟩ from by simp [Addr.add]; exact fun h => h.symm]
  refine (cell_of_row _ w.heap.size j _ _ _ (heap_alloc_new w _)).trans ?_
  simp [List.getElem?_eq_getElem hj]

def offP (ys : List Int) (x : Int) : Bool := !(ys.any fun z => x == z)
theorem less1_f (b : Nat) (A : Option Addr) (n c : Nat) (ys : List Int) (w : World) (hb : Boxed w b 22 (.slice A n c)) (hr : RC w A n ys) :
    FnB Try.prog (.func (.func 110) #[] #[.pointer (some ⟨b, 0, none⟩)]) (fun _ => True) (offP ys) w := by
  refine ⟨_, _, _, rfl, enters_of Try.func110 (by kernel_rfl) rfl, fun W x hW hx => ?_⟩
  have hcell : W.cell? ⟨b, 0, none⟩ = some (.slice A n c) := (hW.cell (p := ⟨b, 0, none⟩) hb.lt).trans hb.cell
  have HC := Aside0.mk (contains_c A n c ys x W (Kd.C_below hr hW))
  have HE : Aside0 (offP ys x = !(ys.any fun z => x == z)) := ⟨rfl⟩
  clear hW hx hb hr
  show Calls Try.prog 110 #[.int .i64 x, .pointer (some ⟨b, 0, none⟩)] W fun e w' => e = .returned (.bool (offP ys x)) ∧ Below W.heap.size W w'
  generalize (ys.any fun z => x == z) = r at HC HE
  go_enter Try.func110, Try.ntmps110
  go_wp2_with (go_at_call 111; refine HC.out.mono ?_; rintro e w1 ⟨rfl, hb⟩)
  go_ret
  exact ⟨by rw [HE.out]; rfl, hb⟩

set_option maxRecDepth 100000 in
theorem less_cx (m : Int) (A A2 : Option Addr) (n n2 c c2 : Nat) (xs ys : List Int) (w : World) (hr : RC w A n xs) (hn : n ≤ 4611686018427387904) (hi : isC m xs = true) (hr2 : RC w A2 n2 ys) :
    Calls Try.prog 82 #[.agg #[.int .i64 m, .slice A n c], .slice A2 n2 c2] w (CxOnly w.heap.size w m (partL m xs (offP ys))) := by
  have hbk0 := CxAt.new w m A n c
  have hbx := Boxed.new (w.alloc (.cells #[.int .i64 m, .slice A n c] 26)) 22 (.slice A2 n2 c2)
  have hbk2 := CxAt.new ((w.alloc (.cells #[.int .i64 m, .slice A n c] 26)).alloc (.cells #[.slice A2 n2 c2] 22)) 0 none 0 0
  rw [World.size_alloc] at hbx
  rw [World.size_alloc, World.size_alloc] at hbk2
  have hb1 : Below w.heap.size w (((w.alloc (.cells #[.int .i64 m, .slice A n c] 26)).alloc (.cells #[.slice A2 n2 c2] 22)).alloc (.cells #[.int .i64 0, .slice none 0 0] 26)) := (((Below.refl _ w).alloc (Nat.le_refl _) _).alloc (by simp) _).alloc (by simp; omega) _
  have hk0 := (hbk0.below ((Below.refl _ _).alloc (Nat.le_refl _) (.cells #[.slice A2 n2 c2] 22))).below ((Below.refl _ _).alloc (Nat.le_refl _) (.cells #[.int .i64 0, .slice none 0 0] 26))
  have hbx2 := bx_below hbx ((Below.refl _ _).alloc (Nat.le_refl _) (.cells #[.int .i64 0, .slice none 0 0] 26))
  obtain ⟨⟨hm1, hm6⟩, hasc, _⟩ := isC_of hi
  have hc := part_c m A n c xs _ (fun _ => True) _ _ hm1 hm6 (less1_f (w.heap.size + 1) A2 n2 c2 ys _ hbx2 (Kd.C_below hr2 hb1)) (fun _ _ _ => trivial) (Kd.C_below hr hb1) hn (ascB_asc hasc)
  have l0 := hk0.c0
  have l1 := hk0.c1
  have HC := Aside0.mk hc
  have HB := Aside0.mk hb1
  have HK := Aside0.mk hbk2
  clear hc hb1 hbk2 hk0 hbx hbx2 hbk0 hr hn hi hasc hr2
  generalize partL m xs (offP ys) = zs at HC ⊢
  go_enter Try.func82, Try.ntmps82
  go_wp2_with (go_at_call 103; refine HC.out.mono ?_; rintro e w2 ⟨v, rfl, hv, hb2⟩; obtain ⟨A3, c3, rfl⟩ := Kd.R_slice hv; have R2 := Aside0.mk hv; have HB2 := Aside0.mk (below_in HB.out hb2); have K2 := Aside0.mk (HK.out.below hb2); have m0 := K2.out.c0; have m1 := K2.out.c1; have f0 := K2.out.fz0; have f1 := K2.out.fz; clear hv hb2)
  have hX := K2.out.set2 m A3 zs.length c3
  have x0 := hX.c0
  have x1 := hX.c1
  exact bodyPost_ret (v := .agg #[.int .i64 m, .slice A3 zs.length c3]) (by simp [results, Try.results82, go_sem, x0, x1]) rfl ⟨_, rfl, Kd.R_lower ((R2.out.set K2.out _ _).set (K2.out.set0 _) _ _) HB.out.size, (HB2.out.setCell (p := ⟨w.heap.size + 1 + 1, 0, none⟩) (by simp; omega) _).setCell (p := ⟨w.heap.size + 1 + 1, 1, none⟩) (by simp; omega) _⟩

/-! ### CollapsePair -/
theorem collapsePair1_f (b b2 : Nat) (v m : Int) (A : Option Addr) (n c : Nat) (xs : List Int) (w : World) (hi : isC m xs = true) (hr : RC w A n xs) (hn : n ≤ 4611686018427387904) (hb : Boxed w b 2 (.int .i64 v)) (hb2 : CxAt w b2 m A n c) :
    FnU Try.prog (.func (.func 81) #[] #[.pointer (some ⟨b2, 0, none⟩), .pointer (some ⟨b, 0, none⟩)]) (decide (v ∈ xs)) w := by
  refine ⟨_, _, _, rfl, enters_of Try.func81 (by kernel_rfl) rfl, fun W hW => ?_⟩
  have hcell : W.cell? ⟨b, 0, none⟩ = some (.int .i64 v) := (hW.cell (p := ⟨b, 0, none⟩) hb.lt).trans hb.cell
  have hb' := hb2.below hW
  have h0 := hb'.c0
  have h1 := hb'.c1
  have HC := Aside0.mk (has_c m A n c xs v W (Kd.C_below hr hW) hn (ascB_asc (isC_of hi).2.1))
  clear hW hb hb2 hb' hr hi
  show Calls Try.prog 81 #[.pointer (some ⟨b2, 0, none⟩), .pointer (some ⟨b, 0, none⟩)] W fun e w' => e = .returned (.bool (decide (v ∈ xs))) ∧ Below W.heap.size W w'
  generalize decide (v ∈ xs) = r at HC ⊢
  go_enter Try.func81, Try.ntmps81
  go_wp2_with (go_at_call 59; refine HC.out.mono ?_; rintro e w1 ⟨rfl, hb⟩)
  go_ret
  exact ⟨rfl, hb⟩

theorem cell_far {w : World} {p : Addr} {b : Nat} (hne : p.block ≠ b) (o : Nat) (u : Value) : (w.setCell ⟨b, o, none⟩ u).cell? p = w.cell? p := World.cell?_of_block (Below.heap_setCell w ⟨b, o, none⟩ u p.block hne)
def colF (n : Int) (xs : List Int) (v : Int) : Int × List Int × Int :=
  if isC n xs then (if v ∈ xs then (if (((aroundL xs v).length : Int) == 1) = true then (n, partL n xs (offP [v, (aroundL xs v)[0]?.getD 0]), 0) else (0, [], 5)) else (0, [], 2)) else (0, [], 1)
set_option maxRecDepth 100000 in
set_option maxHeartbeats 2000000 in
theorem collapsePair_c (m : Int) (A : Option Addr) (n c : Nat) (xs : List Int) (v : Int) (w : World) (hr : RC w A n xs) (hn : n ≤ 4611686018427387904) :
    Calls Try.prog 46 #[.agg #[.int .i64 m, .slice A n c], .int .i64 v] w (CxCode w.heap.size w (colF m xs v).1 (colF m xs v).2.1 (colF m xs v).2.2) := by
  have hbk0 := CxAt.new w m A n c
  have hbx := Boxed.new (w.alloc (.cells #[.int .i64 m, .slice A n c] 26)) 2 (.int .i64 v)
  have hbk2 := CxAt.new ((w.alloc (.cells #[.int .i64 m, .slice A n c] 26)).alloc (.cells #[.int .i64 v] 2)) 0 none 0 0
  rw [World.size_alloc] at hbx
  rw [World.size_alloc, World.size_alloc] at hbk2
  have hb1 : Below w.heap.size w (((w.alloc (.cells #[.int .i64 m, .slice A n c] 26)).alloc (.cells #[.int .i64 v] 2)).alloc (.cells #[.int .i64 0, .slice none 0 0] 26)) := (((Below.refl _ w).alloc (Nat.le_refl _) _).alloc (by simp) _).alloc (by simp; omega) _
  have hk0 := (hbk0.below ((Below.refl _ _).alloc (Nat.le_refl _) (.cells #[.int .i64 v] 2))).below ((Below.refl _ _).alloc (Nat.le_refl _) (.cells #[.int .i64 0, .slice none 0 0] 26))
  have hbx2 := bx_below hbx ((Below.refl _ _).alloc (Nat.le_refl _) (.cells #[.int .i64 0, .slice none 0 0] 26))
  have hc := complexCode_c m A n c xs _ _ _ (Kd.C_below hr hb1) hn (fun hi => collapsePair1_f (w.heap.size + 1) w.heap.size v m A n c xs _ hi (Kd.C_below hr hb1) hn hbx2 hk0)
  have l0 := hk0.c0
  have l1 := hk0.c1
  have HB := Aside0.mk hb1
  have HX := Aside0.mk hbx2
  have HK0 := Aside0.mk hk0
  have HK := Aside0.mk hbk2
  have HR := Aside0.mk hr
  clear hb1 hbk2 hk0 hbx hbx2 hbk0 hr
  by_cases hq : (isC m xs && decide (v ∈ xs)) = true
  · obtain ⟨hi, hv⟩ := Bool.and_eq_true_iff.1 hq
    rw [hi, hv] at hc
    have HC := Aside0.mk hc
    have HI := Aside0.mk hi
    have hv' := of_decide_eq_true hv
    unfold codeOf at HC
    by_cases h1 : (((aroundL xs v).length : Int) == 1) = true
    · have HE : Aside0 (colF m xs v = (m, partL m xs (offP [v, (aroundL xs v)[0]?.getD 0]), 0)) := ⟨by simp only [colF, hi, hv', h1, if_true]⟩
      have hone : (aroundL xs v).length = 1 := by have := eq_of_beq h1; omega
      have hone2 : aroundL xs v = [(aroundL xs v)[0]?.getD 0] := by
        match aroundL xs v, hone with
        | [y], _ => rfl
      clear hc hi hq hv hv' h1
      rw [HE.out]
      obtain ⟨y, hy⟩ : ∃ y, (aroundL xs v)[0]?.getD 0 = y := ⟨_, rfl⟩
      rw [hy] at hone2 ⊢
      have HA := Aside0.mk hone2
      clear hy hone2 hone
      go_enter Try.func46, Try.ntmps46
      go_wp2_with (first
        | (go_at_call 54; refine HC.out.mono ?_; rintro e w2 ⟨rfl, hb2⟩; have HB2 := Aside0.mk (below_in HB.out hb2); have K0 := Aside0.mk (HK0.out.below hb2); have K1 := Aside0.mk (HK.out.below hb2); have X2 := Aside0.mk (bx_below HX.out hb2); have k0 := K0.out.c0; have k1 := K0.out.c1; have k2 := X2.out.cell; clear hb2)
        | (go_at_call 63; refine (around_c m A n c xs v _ (Kd.C_below HR.out HB2.out) HI.out).mono ?_; rintro e w3 ⟨v3, rfl, hv, hb3⟩; rw [HA.out] at hv; obtain ⟨A3, c3, rfl⟩ := Kd.R_slice hv; obtain ⟨gg, rfl, hgl⟩ : ∃ gg, A3 = some ⟨gg, 0, none⟩ ∧ gg < w3.heap.size ∧ gg ≠ w.heap.size + 1 + 1 := (by obtain ⟨g, cap, hf, hbb, hl, _⟩ := Kd.R_form hv (by simp); injection hf with h1; exact ⟨g, h1, hl, by have := K1.out.lt; omega⟩); have HGL := Aside0.mk hgl; clear hgl; have ng := (RO.cell hv (j := 0) (by simp)).1; have HV3 := Aside0.mk hv; have HB3 := Aside0.mk (below_in HB2.out hb3); have K03 := Aside0.mk (K0.out.below hb3); have K13 := Aside0.mk (K1.out.below hb3); have X3 := Aside0.mk (bx_below X2.out hb3); have n0 := K03.out.c0; have n1 := K03.out.c1; have nx := X3.out.cell; clear hv hb3))
      have hb4 : Below w3.heap.size w3 (w3.alloc (.cells #[.int .i64 v, .int .i64 y] 2)) := (Below.refl _ _).alloc (Nat.le_refl _) _
      have q0 := (K03.out.below hb4).c0
      have q1 := (K03.out.below hb4).c1
      have qx := (bx_below X3.out hb4).cell
      have qg := (hb4.cell (p := ⟨gg, 0, none⟩) HGL.out.1).trans ng
      have HRO := Aside0.mk (RC.lit w3 #[.int .i64 v, .int .i64 y] [v, y] rfl (by simp))
      have HB4 := Aside0.mk (below_in HB3.out hb4)
      have K14 := Aside0.mk (K13.out.below hb4)
      have hb4' := hb4
      clear hb4
      go_region_held3 (fun w' : World => w'.cell? ⟨w.heap.size, 0, none⟩ = some (.int .i64 m) ∧ w'.cell? ⟨w.heap.size, 1, none⟩ = some (.slice A n c) ∧ w'.cell? ⟨w.heap.size + 1, 0, none⟩ = some (.int .i64 v) ∧ w'.cell? ⟨gg, 0, none⟩ = some (.int .i64 y)) (first | exact ⟨n0, n1, nx, ng⟩ | exact ⟨q0, q1, qx, qg⟩ | exact ⟨r0, r1, rx, rg⟩ | (refine ⟨?_, ?_, ?_, ?_⟩ <;> (rw [cell_far (by first | exact HGL.out.2 | (simp; done) | (simp; omega)), cell_far (by first | exact HGL.out.2 | (simp; done) | (simp; omega))]; assumption))) (first | (go_at_call 82; refine (less_cx m A (some ⟨w3.heap.size, 0, none⟩) n 2 c 2 xs [v, y] _ (Kd.C_below HR.out HB4.out.drew) hn HI.out (Kd.C_below HRO.out ((Below.refl _ _).drew))).mono ?_; rintro e w5 ⟨v5, rfl, hv, hb5⟩; obtain ⟨A5, c5, rfl⟩ := Kd.R_slice hv; have R5 := Aside0.mk hv; have HB5 := Aside0.mk (below_in HB4.out (undrew hb5)); have K15 := Aside0.mk (K14.out.below (undrew hb5)); have p0 := K15.out.c0; have p1 := K15.out.c1; have f0 := K15.out.fz0; have f1 := K15.out.fz; have r0 := ((K03.out.below hb4').below (undrew hb5)).c0; have r1 := ((K03.out.below hb4').below (undrew hb5)).c1; have rx := (bx_below (bx_below X3.out hb4') (undrew hb5)).cell; have rg := ((undrew hb5).cell (p := ⟨gg, 0, none⟩) (Nat.lt_of_lt_of_le HGL.out.1 hb4'.size)).trans qg; clear hv hb5))
      have hX := K15.out.set2 m A5 (partL m xs (offP [v, y])).length c5
      have x0 := hX.c0
      have x1 := hX.c1
      go_wp2
      exact bodyPost_ret (v := .tuple #[.agg #[.int .i64 m, .slice A5 (partL m xs (offP [v, y])).length c5], .int .i64 0]) (by simp [results, Try.results46, go_sem, x0, x1]) rfl ⟨_, rfl, Kd.R_lower ((R5.out.set K15.out _ _).set (K15.out.set0 _) _ _) (HB4.out.size), (HB5.out.setCell (p := ⟨w.heap.size + 1 + 1, 0, none⟩) (by simp; omega) _).setCell (p := ⟨w.heap.size + 1 + 1, 1, none⟩) (by simp; omega) _⟩
    · have HE : Aside0 (colF m xs v = (0, [], 5)) := ⟨by simp only [colF, hi, hv', h1, if_true, if_false, Bool.false_eq_true]⟩
      have h1' : (((aroundL xs v).length : Int) == 1) = false := Bool.eq_false_iff.2 h1
      clear hc hi hq hv hv' h1
      rw [HE.out]
      go_enter Try.func46, Try.ntmps46
      go_wp2_with (first
        | (go_at_call 54; refine HC.out.mono ?_; rintro e w2 ⟨rfl, hb2⟩; have HB2 := Aside0.mk (below_in HB.out hb2); have K0 := Aside0.mk (HK0.out.below hb2); have K1 := Aside0.mk (HK.out.below hb2); have X2 := Aside0.mk (bx_below HX.out hb2); have k0 := K0.out.c0; have k1 := K0.out.c1; have k2 := X2.out.cell; clear hb2)
        | (go_at_call 63; refine (around_c m A n c xs v _ (Kd.C_below HR.out HB2.out) HI.out).mono ?_; rintro e w3 ⟨v3, rfl, hv, hb3⟩; obtain ⟨A3, c3, rfl⟩ := Kd.R_slice hv; have HB3 := Aside0.mk (below_in HB2.out hb3); have K13 := Aside0.mk (K1.out.below hb3); have m0 := K13.out.c0; have m1 := K13.out.c1; have f0 := K13.out.fz0; have f1 := K13.out.fz; clear hv hb3))
      have hX := K13.out.set2 0 none 0 0
      have x0 := hX.c0
      have x1 := hX.c1
      exact bodyPost_ret (v := .tuple #[.agg #[.int .i64 0, .slice none 0 0], .int .i64 5]) (by simp [results, Try.results46, go_sem, x0, x1]) rfl ⟨_, rfl, Kd.R_nil _ _ _ _ _, (HB3.out.setCell (p := ⟨w.heap.size + 1 + 1, 0, none⟩) (by simp; omega) _).setCell (p := ⟨w.heap.size + 1 + 1, 1, none⟩) (by simp; omega) _⟩
  · have HE : Aside0 (colF m xs v = (0, [], codeOf (isC m xs) (decide (v ∈ xs)))) := ⟨by cases h1 : isC m xs <;> by_cases h2 : v ∈ xs <;> simp_all [colF, codeOf]⟩
    have HN : codeOf (isC m xs) (decide (v ∈ xs)) ≠ 0 := by cases h1 : isC m xs <;> by_cases h2 : v ∈ xs <;> simp_all [codeOf]
    rw [HE.out]
    generalize codeOf (isC m xs) (decide (v ∈ xs)) = r at hc HN HE ⊢
    have HC := Aside0.mk hc
    clear hc hq
    go_enter Try.func46, Try.ntmps46
    go_wp2_with (go_at_call 54; refine HC.out.mono ?_; rintro e w2 ⟨rfl, hb2⟩; have HB2 := Aside0.mk (below_in HB.out hb2); have K1 := Aside0.mk (HK.out.below hb2); have m0 := K1.out.c0; have m1 := K1.out.c1; have f0 := K1.out.fz0; have f1 := K1.out.fz; clear hb2)
    have hX := K1.out.set2 0 none 0 0
    have x0 := hX.c0
    have x1 := hX.c1
    exact bodyPost_ret (v := .tuple #[.agg #[.int .i64 0, .slice none 0 0], .int .i64 r]) (by simp [results, Try.results46, go_sem, x0, x1]) rfl ⟨_, rfl, Kd.R_nil _ _ _ _ _, (HB2.out.setCell (p := ⟨w.heap.size + 1 + 1, 0, none⟩) (by simp; omega) _).setCell (p := ⟨w.heap.size + 1 + 1, 1, none⟩) (by simp; omega) _⟩

end Go.Proofs.Ytdkoioiiacljeaa.Im
