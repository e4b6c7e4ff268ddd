/- JoinOf, SuspensionOf. -/
import Derived.Test.YtdkoioiiacljeaaImJ
namespace Go.Proofs.Ytdkoioiiacljeaa.Im
set_option linter.unusedVariables false
set_option linter.unusedSimpArgs false
open Go.RowKit Go.Shelf Go.Proofs.YtdkoioiiacljeaaW.PrintWords Go.Proofs.YtdkoioiiacljeaaW.PrintLast Go.Proofs.YtdkoioiiacljeaaW.PrintMore

set_option maxRecDepth 100000 in
set_option maxHeartbeats 2000000 in
theorem joinOf_c (m m2 : Int) (A A2 : Option Addr) (n n2 c c2 : Nat) (xs ys : List Int) (w : World) (hr : RC w A n xs) (hr2 : RC w A2 n2 ys) (hn : n ≤ 4611686018427387904) (hn2 : n2 ≤ 4611686018427387904) :
    Calls Try.prog 67 #[.agg #[.int .i64 m, .slice A n c], .agg #[.int .i64 m2, .slice A2 n2 c2]] w (CxCode w.heap.size w (joinF m xs m2 ys).1 (joinF m xs m2 ys).2.1 (joinF m xs m2 ys).2.2) := by
  have hbk0 := CxAt.new w m A n c
  have hbk1 := CxAt.new (w.alloc (.cells #[.int .i64 m, .slice A n c] 26)) m2 A2 n2 c2
  have hbk2 := CxAt.new ((w.alloc (.cells #[.int .i64 m, .slice A n c] 26)).alloc (.cells #[.int .i64 m2, .slice A2 n2 c2] 26)) 0 none 0 0
  rw [World.size_alloc] at hbk1
  rw [World.size_alloc, World.size_alloc] at hbk2
  have hb1 : Below w.heap.size w (((w.alloc (.cells #[.int .i64 m, .slice A n c] 26)).alloc (.cells #[.int .i64 m2, .slice A2 n2 c2] 26)).alloc (.cells #[.int .i64 0, .slice none 0 0] 26)) := (((Below.refl _ w).alloc (Nat.le_refl _) _).alloc (by simp) _).alloc (by simp; omega) _
  have hk0 := (hbk0.below ((Below.refl _ _).alloc (Nat.le_refl _) (.cells #[.int .i64 m2, .slice A2 n2 c2] 26))).below ((Below.refl _ _).alloc (Nat.le_refl _) (.cells #[.int .i64 0, .slice none 0 0] 26))
  have hk1 := hbk1.below ((Below.refl _ _).alloc (Nat.le_refl _) (.cells #[.int .i64 0, .slice none 0 0] 26))
  have hc := isComplex_c m A n c xs _ (Kd.C_below hr hb1) hn
  have hc2 := fun W (hB : Below w.heap.size w W) => isComplex_c m2 A2 n2 c2 ys W (Kd.C_below hr2 hB) hn2
  have HK0 := Aside0.mk hk0
  have HK1 := Aside0.mk hk1
  have HK2 := Aside0.mk hbk2
  have HB1 := Aside0.mk hb1
  have HR := Aside0.mk hr
  have HR2 := Aside0.mk hr2
  have l0 := hk0.c0
  have l1 := hk0.c1
  have l2 := hk1.c0
  have l3 := hk1.c1
  clear hbk0 hbk1 hbk2 hb1 hk0 hk1 hr hr2
  cases hi : isC m xs with
  | false =>
    rw [hi] at hc
    have HC := Aside0.mk hc
    have HE : Aside0 (joinF m xs m2 ys = (0, [], 1)) := ⟨by simp [joinF, hi]⟩
    clear hc hc2 hi
    rw [HE.out]
    go_enter Try.func67, Try.ntmps67
    go_wp2_with (go_at_call 91; refine HC.out.mono ?_; rintro e w2 ⟨rfl, hb2⟩; have HB2 := Aside0.mk (below_in HB1.out hb2); have K2 := Aside0.mk (HK2.out.below hb2); have m0 := K2.out.c0; have m1 := K2.out.c1; have f0 := K2.out.fz0; have f1 := K2.out.fz; clear hb2)
    have hX := K2.out.set2 0 none 0 0
    have x0 := hX.c0
    have x1 := hX.c1
    exact bodyPost_ret (v := .tuple #[.agg #[.int .i64 0, .slice none 0 0], .int .i64 1]) (by simp [results, Try.results67, go_sem, x0, x1]) rfl ⟨_, rfl, Kd.R_nil _ _ _ _ _, (HB2.out.setCell (p := ⟨w.heap.size + 1 + 1, 0, none⟩) (by simp; omega) _).setCell (p := ⟨w.heap.size + 1 + 1, 1, none⟩) (by simp; omega) _⟩
  | true =>
    rw [hi] at hc
    have HC := Aside0.mk hc
    have HI := Aside0.mk hi
    clear hc
    cases hj : isC m2 ys with
    | false =>
      rw [hj] at hc2
      have HC2 := Lib.hid hc2
      have HE : Aside0 (joinF m xs m2 ys = (0, [], 1)) := ⟨by simp [joinF, hi, hj]⟩
      clear hc2 hi hj
      rw [HE.out]
      go_enter Try.func67, Try.ntmps67
      go_wp2_with (first
        | (go_at_call 91; refine (HC2.out _ HB2.out).mono ?_; rintro e w3 ⟨rfl, hb3⟩; have HB3 := Aside0.mk (below_in HB2.out hb3); have K3 := Aside0.mk (K2.out.below hb3); have nn0 := K3.out.c0; have nn1 := K3.out.c1; have g0 := K3.out.fz0; have g1 := K3.out.fz; clear hb3)
        | (go_at_call 91; refine HC.out.mono ?_; rintro e w2 ⟨rfl, hb2⟩; have HB2 := Aside0.mk (below_in HB1.out hb2); have K1 := Aside0.mk (HK1.out.below hb2); have K2 := Aside0.mk (HK2.out.below hb2); have k0 := K1.out.c0; have k1 := K1.out.c1; clear hb2))
      have hX := K3.out.set2 0 none 0 0
      have x0 := hX.c0
      have x1 := hX.c1
      exact bodyPost_ret (v := .tuple #[.agg #[.int .i64 0, .slice none 0 0], .int .i64 1]) (by simp [results, Try.results67, go_sem, x0, x1]) rfl ⟨_, rfl, Kd.R_nil _ _ _ _ _, (HB3.out.setCell (p := ⟨w.heap.size + 1 + 1, 0, none⟩) (by simp; omega) _).setCell (p := ⟨w.heap.size + 1 + 1, 1, none⟩) (by simp; omega) _⟩
    | true =>
      rw [hj] at hc2
      have HC2 := Lib.hid hc2
      have HJ := Aside0.mk hj
      obtain ⟨⟨hm1, hm6⟩, _, _⟩ := isC_of hi
      obtain ⟨⟨hm21, hm26⟩, hasc, _⟩ := isC_of hj
      have HA := Aside0.mk (ascB_asc hasc)
      clear hc2 hasc
      by_cases hs : m + m2 ≤ 6
      · have HE : Aside0 (joinF m xs m2 ys = (m + m2, joinL m xs m2 ys, 0)) := ⟨by simp [joinF, hi, hj, hs]⟩
        clear hi hj
        rw [HE.out]
        have h2 : (6 : Int) < m + m2 ↔ False := ⟨fun h => by omega, False.elim⟩
        go_enter Try.func67, Try.ntmps67
        go_wp2_with (first
          | (go_at_call 91; refine (HC2.out _ HB2.out).mono ?_; rintro e w3 ⟨rfl, hb3⟩; have HB3 := Aside0.mk (below_in HB2.out hb3); have K30 := Aside0.mk (K0.out.below hb3); have K31 := Aside0.mk (K1.out.below hb3); have K3 := Aside0.mk (K2.out.below hb3); have nn0 := K3.out.c0; have nn1 := K3.out.c1; have g0 := K3.out.fz0; have g1 := K3.out.fz; have nn2 := K31.out.c0; have nn3 := K31.out.c1; have nn4 := K30.out.c0; have nn5 := K30.out.c1; clear hb3)
          | (go_at_call 91; refine HC.out.mono ?_; rintro e w2 ⟨rfl, hb2⟩; have HB2 := Aside0.mk (below_in HB1.out hb2); have K0 := Aside0.mk (HK0.out.below hb2); have K1 := Aside0.mk (HK1.out.below hb2); have K2 := Aside0.mk (HK2.out.below hb2); have k0 := K1.out.c0; have k1 := K1.out.c1; clear hb2)
          | (go_at_call 56; go_loud (refine (those_c (m + m2) _ _ _ _ (by omega) hs (joinOf1_f w.heap.size (w.heap.size + 1) m m2 A A2 n n2 c c2 xs ys _ K30.out K31.out (Kd.C_below HR.out HB3.out) (Kd.C_below HR2.out HB3.out) hn hn2 HI.out HA.out) (fun _ _ _ => trivial)).mono ?_; rintro e w4 ⟨v, rfl, hv, hb4⟩; obtain ⟨A4, c4, rfl⟩ := Kd.R_slice hv; have R4 := Aside0.mk hv; have HB4 := Aside0.mk (below_in HB3.out hb4); have K4 := Aside0.mk (K3.out.below hb4); have p0 := K4.out.c0; have p1 := K4.out.c1; have q0 := K4.out.fz0; have q1 := K4.out.fz; clear hv hb4)))
        have hX := K4.out.set2 (m + m2) A4 (thoseL (m + m2) (joinP m xs ys)).length c4
        have x0 := hX.c0
        have x1 := hX.c1
        exact bodyPost_ret (v := .tuple #[.agg #[.int .i64 (m + m2), .slice A4 (thoseL (m + m2) (joinP m xs ys)).length c4], .int .i64 0]) (by simp [results, Try.results67, go_sem, x0, x1]) rfl ⟨_, rfl, Kd.R_lower ((R4.out.set K4.out _ _).set (K4.out.set0 _) _ _) HB3.out.size, (HB4.out.setCell (p := ⟨w.heap.size + 1 + 1, 0, none⟩) (by simp; omega) _).setCell (p := ⟨w.heap.size + 1 + 1, 1, none⟩) (by simp; omega) _⟩
      · have HE : Aside0 (joinF m xs m2 ys = (0, [], 3)) := ⟨by simp [joinF, hi, hj, hs]⟩
        clear hi hj
        rw [HE.out]
        have h2 : (6 : Int) < m + m2 := by omega
        go_enter Try.func67, Try.ntmps67
        go_wp2_with (first
          | (go_at_call 91; refine (HC2.out _ HB2.out).mono ?_; rintro e w3 ⟨rfl, hb3⟩; have HB3 := Aside0.mk (below_in HB2.out hb3); have K30 := Aside0.mk (K0.out.below hb3); have K31 := Aside0.mk (K1.out.below hb3); have K3 := Aside0.mk (K2.out.below hb3); have nn0 := K3.out.c0; have nn1 := K3.out.c1; have g0 := K3.out.fz0; have g1 := K3.out.fz; have nn2 := K31.out.c0; have nn3 := K31.out.c1; have nn4 := K30.out.c0; have nn5 := K30.out.c1; clear hb3)
          | (go_at_call 91; refine HC.out.mono ?_; rintro e w2 ⟨rfl, hb2⟩; have HB2 := Aside0.mk (below_in HB1.out hb2); have K0 := Aside0.mk (HK0.out.below hb2); have K1 := Aside0.mk (HK1.out.below hb2); have K2 := Aside0.mk (HK2.out.below hb2); have k0 := K1.out.c0; have k1 := K1.out.c1; clear hb2))
        have hX := K3.out.set2 0 none 0 0
        have x0 := hX.c0
        have x1 := hX.c1
        exact bodyPost_ret (v := .tuple #[.agg #[.int .i64 0, .slice none 0 0], .int .i64 3]) (by simp [results, Try.results67, go_sem, x0, x1]) rfl ⟨_, rfl, Kd.R_nil _ _ _ _ _, (HB3.out.setCell (p := ⟨w.heap.size + 1 + 1, 0, none⟩) (by simp; omega) _).setCell (p := ⟨w.heap.size + 1 + 1, 1, none⟩) (by simp; omega) _⟩

/-- A slice that was written down: a new row, read and owned. -/
theorem RC.new (w : World) (cs : Array Value) (ys : List Int) (hc : cs = (ys.map (Value.int .i64)).toArray) (hl : ys.length ≤ 9223372036854775807) : RC (w.alloc (.cells cs 2)) (some ⟨w.heap.size, 0, none⟩) ys.length ys := by
  refine Kd.C_of_reads (d := 0) ⟨rfl, hl, fun _ => ⟨_, rfl, fun j hj => ?_⟩⟩
  subst hc
  rw [show (⟨w.heap.size, 0, none⟩ : Addr).add j = ⟨w.heap.size, j, none⟩ from by simp [Addr.add]; exact fun h => h.symm]
  refine (cell_of_row _ w.heap.size j _ _ _ (heap_alloc_new w _)).trans ?_
  simp [List.getElem?_eq_getElem hj]

def suspF (n : Int) (xs : List Int) : Int × List Int × Int := joinF n xs 2 [1, 2]
theorem suspensionOf_c (m : Int) (A : Option Addr) (n c : Nat) (xs : List Int) (w : World) (hr : RC w A n xs) (hn : n ≤ 4611686018427387904) :
    Calls Try.prog 30 #[.agg #[.int .i64 m, .slice A n c]] w (CxCode w.heap.size w (suspF m xs).1 (suspF m xs).2.1 (suspF m xs).2.2) := by
  have hbk := CxAt.new (w.alloc (.cells #[.int .i64 m, .slice A n c] 26)) 0 none 0 0
  rw [World.size_alloc] at hbk
  have hbk2 := hbk.below ((Below.refl _ _).alloc (Nat.le_refl _) (.cells #[.int .i64 1, .int .i64 2] 2))
  have hrow := RC.new ((w.alloc (.cells #[.int .i64 m, .slice A n c] 26)).alloc (.cells #[.int .i64 0, .slice none 0 0] 26)) #[.int .i64 1, .int .i64 2] [1, 2] rfl (by decide)
  rw [World.size_alloc, World.size_alloc] at hrow
  have hb : Below w.heap.size w (((w.alloc (.cells #[.int .i64 m, .slice A n c] 26)).alloc (.cells #[.int .i64 0, .slice none 0 0] 26)).alloc (.cells #[.int .i64 1, .int .i64 2] 2)) := (((Below.refl _ w).alloc (Nat.le_refl _) _).alloc (by simp) _).alloc (by simp; omega) _
  have HJ := Aside0.mk (joinOf_c m 2 A _ n _ c 2 xs [1, 2] _ (Kd.C_below hr hb) hrow hn (by decide))
  have HB := Aside0.mk hb
  have HK := Aside0.mk hbk2
  have HE : Aside0 (suspF m xs = joinF m xs 2 [1, 2]) := ⟨rfl⟩
  clear hbk hbk2 hrow hb hr
  rw [HE.out]
  go_enter Try.func30, Try.ntmps30
  go_wp2_with (go_at_call 67; refine HJ.out.mono ?_; rintro e w4 ⟨v, rfl, hv, hb4⟩; obtain ⟨A4, c4, rfl⟩ := Kd.R_slice hv; have R4 := Aside0.mk hv; have HB4 := Aside0.mk (below_in HB.out hb4); have K4 := Aside0.mk (HK.out.below hb4); have p0 := K4.out.c0; have p1 := K4.out.c1; have q0 := K4.out.fz0; have q1 := K4.out.fz; clear hv hb4)
  have hX := K4.out.set2 (joinF m xs 2 [1, 2]).1 A4 (joinF m xs 2 [1, 2]).2.1.length c4
  have x0 := hX.c0
  have x1 := hX.c1
  exact bodyPost_ret (v := .tuple #[.agg #[.int .i64 (joinF m xs 2 [1, 2]).1, .slice A4 (joinF m xs 2 [1, 2]).2.1.length c4], .int .i64 (joinF m xs 2 [1, 2]).2.2]) (by simp [results, Try.results30, go_sem, x0, x1]) rfl ⟨_, rfl, Kd.R_lower ((R4.out.set K4.out _ _).set (K4.out.set0 _) _ _) HB.out.size, (HB4.out.setCell (p := ⟨w.heap.size + 1, 0, none⟩) (by simp) _).setCell (p := ⟨w.heap.size + 1, 1, none⟩) (by simp) _⟩

end Go.Proofs.Ytdkoioiiacljeaa.Im
