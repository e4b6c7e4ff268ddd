/- IsComplex. -/
import Derived.Test.YtdkoioiiacljeaaImF
namespace Go.Proofs.Ytdkoioiiacljeaa.Im
set_option linter.unusedVariables false
set_option linter.unusedSimpArgs false
open Go.RowKit Go.Shelf Go.Proofs.YtdkoioiiacljeaaW.PrintWords Go.Proofs.YtdkoioiiacljeaaW.PrintLast Go.Proofs.YtdkoioiiacljeaaW.PrintMore

/-- A variable of type Complex in block b. -/
def CxAt (w : World) (b : Nat) (n : Int) (A : Option Addr) (len c : Nat) : Prop := w.heap[b]? = some (.cells #[.int .i64 n, .slice A len c] 26 (0, 0))
theorem CxAt.lt {w : World} {b : Nat} {n : Int} {A : Option Addr} {len c : Nat} (h : CxAt w b n A len c) : b < w.heap.size := (Array.getElem?_eq_some_iff.1 h).1
theorem CxAt.below {w w1 : World} {b : Nat} {n : Int} {A : Option Addr} {len c : Nat} (h : CxAt w b n A len c) (hb : Below w.heap.size w w1) : CxAt w1 b n A len c := (hb.block b h.lt).trans h
theorem CxAt.c0 {w : World} {b : Nat} {n : Int} {A : Option Addr} {len c : Nat} (h : CxAt w b n A len c) : w.cell? ⟨b, 0, none⟩ = some (.int .i64 n) := (cell_of_row w b 0 _ _ _ h).trans rfl
theorem CxAt.c1 {w : World} {b : Nat} {n : Int} {A : Option Addr} {len c : Nat} (h : CxAt w b n A len c) : w.cell? ⟨b, 1, none⟩ = some (.slice A len c) := (cell_of_row w b 1 _ _ _ h).trans rfl
theorem CxAt.keep {w w1 : World} {b : Nat} {n : Int} {A : Option Addr} {len c : Nat} (h : CxAt w b n A len c) (hb : Below w.heap.size w w1) : w1.cell? ⟨b, 0, none⟩ = some (.int .i64 n) ∧ w1.cell? ⟨b, 1, none⟩ = some (.slice A len c) := ⟨(h.below hb).c0, (h.below hb).c1⟩
theorem CxAt.fz {w : World} {b : Nat} {n : Int} {A : Option Addr} {len c : Nat} (h : CxAt w b n A len c) : w.frozen? ⟨b, 1, none⟩ = false := blk_frozen h 1
theorem CxAt.fz0 {w : World} {b : Nat} {n : Int} {A : Option Addr} {len c : Nat} (h : CxAt w b n A len c) : w.frozen? ⟨b, 0, none⟩ = false := blk_frozen h 0
theorem CxAt.grown {w w1 : World} {b : Nat} {n : Int} {A : Option Addr} {len c base : Nat} {v : Value} {xs : List Int} (h : CxAt w b n A len c) (hg : w.grownBy w1 v.ownBlock) (hR : RO w base v xs) : CxAt w1 b n A len c :=
  (hg.block b h.lt (Kd.R_ne hR h (by decide))).trans h
theorem CxAt.set {w : World} {b : Nat} {n : Int} {A : Option Addr} {len c : Nat} (h : CxAt w b n A len c) (A' : Option Addr) (len' c' : Nat) : CxAt (w.setCell ⟨b, 1, none⟩ (.slice A' len' c')) b n A' len' c' := by
  unfold CxAt at h ⊢
  simp [World.setCell, Array.getElem?_modify, h]
theorem CxAt.set0 {w : World} {b : Nat} {n : Int} {A : Option Addr} {len c : Nat} (h : CxAt w b n A len c) (n' : Int) : CxAt (w.setCell ⟨b, 0, none⟩ (.int .i64 n')) b n' A len c := by
  unfold CxAt at h ⊢
  simp [World.setCell, Array.getElem?_modify, h]
theorem CxAt.set2 {w : World} {b : Nat} {n : Int} {A : Option Addr} {len c : Nat} (h : CxAt w b n A len c) (n' : Int) (A' : Option Addr) (len' c' : Nat) : CxAt ((w.setCell ⟨b, 0, none⟩ (.int .i64 n')).setCell ⟨b, 1, none⟩ (.slice A' len' c')) b n' A' len' c' := (h.set0 n').set A' len' c'
theorem CxAt.far {w : World} {b : Nat} {n : Int} {A : Option Addr} {len c : Nat} (h : CxAt w b n A len c) {b' o : Nat} (hne : b ≠ b') (u : Value) : CxAt (w.setCell ⟨b', o, none⟩ u) b n A len c := (Below.heap_setCell w ⟨b', o, none⟩ u b hne).trans h
theorem RO.set {w : World} {base : Nat} {v : Value} {xs : List Int} (h : RO w base v xs) {b : Nat} {n : Int} {A : Option Addr} {len c : Nat} (hb : CxAt w b n A len c) (o : Nat) (u : Value) : RO (w.setCell ⟨b, o, none⟩ u) base v xs := Kd.R_set h hb (by decide) o u
theorem undrewN {w w1 : World} {k : Nat} (h : Below (w.drewN k).heap.size (w.drewN k) w1) : Below w.heap.size w w1 := ⟨h.os, h.tape, h.output, h.size, h.block⟩
theorem undrew {w w1 : World} (h : Below w.drew.heap.size w.drew w1) : Below w.heap.size w w1 := ⟨h.os, h.tape, h.output, h.size, h.block⟩
theorem CxAt.new (w : World) (n : Int) (A : Option Addr) (len c : Nat) : CxAt (w.alloc (.cells #[.int .i64 n, .slice A len c] 26)) w.heap.size n A len c := heap_alloc_new w _

/-- The method value 'k.has'. -/
theorem has_f (m : Int) (A : Option Addr) (n c : Nat) (xs : List Int) (w : World) (hr : RC w A n xs) (hn : n ≤ 4611686018427387904) (ha : Asc xs) :
    FnB Try.prog (.func (.func 59) #[.agg #[.int .i64 m, .slice A n c]] #[]) (fun _ => True) (fun x => decide (x ∈ xs)) w :=
  ⟨_, _, _, rfl, enters_of Try.func59 (by kernel_rfl) rfl, fun W x hW _ => has_c m A n c xs x W (Kd.C_below hr hW) hn ha⟩

set_option maxRecDepth 100000 in
set_option maxHeartbeats 1000000 in
theorem isComplex1_f (b : Nat) (m : Int) (A : Option Addr) (n c : Nat) (xs : List Int) (w : World) (hb : CxAt w b m A n c) (hr : RC w A n xs) (hn : n ≤ 4611686018427387904) (ha : Asc xs) :
    FnB Try.prog (.func (.func 120) #[] #[.pointer (some ⟨b, 0, none⟩)]) (fun _ => True) (fun x => (bordersL x).all fun y => decide (y ∈ xs)) w := by
  refine ⟨_, _, _, rfl, enters_of Try.func120 (by kernel_rfl) rfl, fun W x hW _ => ?_⟩
  have hr' := Kd.C_below hr hW
  have hb' := hb.below hW
  clear hb hr hW
  show Calls Try.prog 120 #[.int .i64 x, .pointer (some ⟨b, 0, none⟩)] W fun e w' => e = .returned (.bool ((bordersL x).all fun y => decide (y ∈ xs))) ∧ Below W.heap.size W w'
  have HR := Aside0.mk hr'
  have HA := Aside0.mk ha
  have HBK := Aside0.mk hb'
  have h0 := hb'.c0
  have h1 := hb'.c1
  go_enter Try.func120, Try.ntmps120
  go_wp2
  go_region_held3 (fun w' : World => w'.cell? ⟨b, 0, none⟩ = some (.int .i64 m) ∧ w'.cell? ⟨b, 1, none⟩ = some (.slice A n c)) (first | exact ⟨h0, h1⟩ | exact HBK.out.keep (by assumption)) (first | (go_at_call 98; refine (borders_c _ _).mono ?_; rintro e w1 ⟨v, rfl, hv, hbv⟩; have hb1 := undrew hbv; obtain ⟨Av, cv, rfl⟩ := Kd.R_slice hv) | (go_at_call 97; refine (areAll_c _ _ _ _ _ _ _ _ (Kd.R_reads' hv).2.2 (has_f m A n c xs _ (Kd.C_below HR.out hb1) hn HA.out) (fun _ _ => trivial)).mono ?_; rintro e w2 ⟨rfl, hb2⟩; have hb3 := below_in hb1 hb2))
  all_goals
    go_wp2
    go_ret
    exact ⟨rfl, hb3⟩

def okAt (n : Int) (xs : List Int) (i : Nat) : Bool := withinB (xs[i]?.getD 0) 1 (fullZ n) && (i == 0 || decide (xs[i - 1]?.getD 0 < xs[i]?.getD 0))
def ascB (n : Int) (xs : List Int) : Bool := (List.range xs.length).all (okAt n xs)
theorem ascB_asc {n : Int} {xs : List Int} (h : ascB n xs = true) : Asc xs := by
  have ha : ∀ i, i < xs.length → okAt n xs i = true := by simpa [ascB] using h
  have step : ∀ i, i + 1 < xs.length → xs[i]?.getD 0 < xs[i + 1]?.getD 0 := by
    intro i hi
    have := ha (i + 1) hi
    simp only [okAt, Bool.and_eq_true, Bool.or_eq_true, decide_eq_true_eq] at this
    rcases this.2 with h | h
    · simp at h
    · simpa using h
  have all : ∀ d i, i + d + 1 < xs.length → xs[i]?.getD 0 < xs[i + d + 1]?.getD 0 := by
    intro d
    induction d with
    | zero => intro i hi; exact step i hi
    | succ d ih => intro i hi; exact Int.lt_trans (ih i (by omega)) (step (i + d + 1) hi)
  refine List.pairwise_iff_getElem.2 fun i j hi hj hij => ?_
  have := all (j - i - 1) i (by omega)
  rw [show i + (j - i - 1) + 1 = j by omega, List.getElem?_eq_getElem hi, List.getElem?_eq_getElem hj] at this
  exact this
theorem ascB_no {n : Int} {xs : List Int} {i : Nat} (hi : i < xs.length) (h : okAt n xs i = false) : ascB n xs = false := by
  rw [Bool.eq_false_iff]
  intro ht
  have ha : ∀ i, i < xs.length → okAt n xs i = true := by simpa [ascB] using ht
  rw [ha i hi] at h
  cases h
theorem ascB_yes {n : Int} {xs : List Int} (h : ∀ i, i < xs.length → okAt n xs i = true) : ascB n xs = true := by simpa [ascB] using h
theorem okAt_next {n : Int} {xs : List Int} {k : Nat} (h : ∀ j, j < k → okAt n xs j = true) (hk : okAt n xs k = true) : ∀ j, j < k + 1 → okAt n xs j = true := fun j hj => by
  rcases Nat.lt_or_ge j k with h1 | h1
  · exact h j h1
  · obtain rfl : j = k := by omega
    exact hk
def closedB (xs : List Int) : Bool := xs.all fun f => (bordersL f).all fun y => decide (y ∈ xs)
/-- IsComplex. -/
def isC (n : Int) (xs : List Int) : Bool := withinB n 1 6 && (ascB n xs && closedB xs)

set_option maxRecDepth 100000 in
set_option maxHeartbeats 2000000 in
theorem isComplex_c (m : Int) (A : Option Addr) (n c : Nat) (xs : List Int) (w : World) (hr : RC w A n xs) (hn : n ≤ 4611686018427387904) :
    Calls Try.prog 91 #[.agg #[.int .i64 m, .slice A n c]] w fun e w' => e = .returned (.bool (isC m xs)) ∧ Below w.heap.size w w' := by
  have hbk := CxAt.new w m A n c
  have hb1 : Below w.heap.size w (w.alloc (.cells #[.int .i64 m, .slice A n c] 26)) := (Below.refl _ w).alloc (Nat.le_refl _) _
  have HBK := Aside0.mk hbk
  have HB1 := Aside0.mk hb1
  have HR := Aside0.mk hr
  have HL := Aside0.mk hr.len.1
  clear hbk hb1 hr
  cases hs : withinB m 1 6 with
  | false =>
    have he : isC m xs = false := by simp [isC, hs]
    have hsz := isSize_c m
    rw [hs] at hsz
    have HS := Lib.hid hsz
    rw [he]
    clear hs he hsz
    go_enter Try.func91, Try.ntmps91
    go_wp2_with (go_at_call 119; refine (HS.out _).mono ?_; rintro e w' ⟨rfl, rfl⟩)
    go_ret
    exact ⟨rfl, HB1.out⟩
  | true =>
    have hsz := isSize_c m
    rw [hs] at hsz
    have HS := Lib.hid hsz
    have hm : 1 ≤ m ∧ m ≤ 6 := by simpa [withinB] using hs
    obtain ⟨hm1, hm6⟩ := hm
    have HE : Aside0 (isC m xs = (ascB m xs && closedB xs)) := ⟨by simp [isC, hs]⟩
    clear hs hsz
    go_enter Try.func91, Try.ntmps91
    go_wp2_with (go_at_call 119; refine (HS.out _).mono ?_; rintro e w' ⟨rfl, rfl⟩)
    go_loopw [3, 4, 12] (fun _ _ i wr => ∃ k : Nat, k ≤ n ∧ i = .int .i64 k ∧ Aside0 (Below w.heap.size w wr) ∧ Aside0 (CxAt wr w.heap.size m A n c) ∧ Aside0 (∀ j, j < k → okAt m xs j = true)) (fun _ _ i _ => n - (intOf i).toNat)
    case atStart => exact ⟨0, by omega, rfl, HB1, HBK, ⟨fun j hj => absurd hj (Nat.not_lt_zero _)⟩⟩
    case round =>
      obtain ⟨k, hk, rfl, hB, hK, hO⟩ := hrel
      by_cases hlt : k < n
      · have hltz : (k : Int) < (n : Int) := by omega
        obtain ⟨ad, rfl, hcell⟩ := HR.out.at_ hB.out hlt
        obtain ⟨y, hy⟩ : ∃ y, xs[k]?.getD 0 = y := ⟨_, rfl⟩
        rw [hy] at hcell
        have HY := Aside0.mk hy
        clear hy
        have k0 := hK.out.c0
        have k1 := hK.out.c1
        have hno : okAt m xs k = false → isC m xs = false := fun h => by rw [HE.out, ascB_no (by rw [HL.out]; exact hlt) h]; rfl
        have HNO := Lib.hid hno
        clear hno
        rcases Nat.eq_zero_or_pos k with hk0 | hk0
        · have hkn : ¬ 0 < k := by omega
          have HK0 := Lib.hid hk0
          clear hk0
          go_wp2_with (first
            | (go_at_call 58; refine (full_c _ _ _ hm1 hm6).mono ?_; rintro e w2 ⟨rfl, hb2⟩; have HB2 := Aside0.mk hb2; have l0 := (hK.out.keep hb2).1; have l1 := (hK.out.keep hb2).2; clear hb2)
            | (go_at_call 73; refine (within_c _ _ _ _).mono ?_; rintro e w3 ⟨rfl, rfl⟩))
          · go_roundw
            case measure => simp [intOf]; omega
            case rel =>
              have hw : withinB y 1 (fullZ m) = true := by assumption
              exact ⟨k + 1, by omega, by go_num, ⟨below_in hB.out HB2.out⟩, ⟨hK.out.below HB2.out⟩, ⟨okAt_next hO.out (by rw [okAt, HY.out, hw, HK0.out]; rfl)⟩⟩
          · have hw : ¬ withinB y 1 (fullZ m) = true := by assumption
            go_ret
            refine ⟨?_, below_in hB.out HB2.out⟩
            rw [HNO.out (by rw [okAt, HY.out, Bool.eq_false_iff.2 hw]; rfl)]; rfl
        · obtain ⟨ad', e', hprev⟩ := HR.out.at_ hB.out (show k - 1 < n by omega)
          cases e'
          obtain ⟨z, hz⟩ : ∃ z, xs[k - 1]?.getD 0 = z := ⟨_, rfl⟩
          rw [hz] at hprev
          have HZ := Aside0.mk hz
          clear hz
          have HK0 : Aside0 ((k == 0) = false) := ⟨by simp; omega⟩
          go_wp2_with (first
            | (go_at_call 58; refine (full_c _ _ _ hm1 hm6).mono ?_; rintro e w2 ⟨rfl, hb2⟩; have HB2 := Aside0.mk hb2; have l0 := (hK.out.keep hb2).1; have l1 := (hK.out.keep hb2).2; have l2 := pw_cell_below hb2 hprev; clear hb2)
            | (go_at_call 73; refine (within_c _ _ _ _).mono ?_; rintro e w3 ⟨rfl, rfl⟩))
          · have hyz : y ≤ z := by assumption
            go_ret
            refine ⟨?_, below_in hB.out HB2.out⟩
            rw [HNO.out (by rw [okAt, HY.out, HZ.out, HK0.out, decide_eq_false (by omega)]; simp)]; rfl
          · go_roundw
            case measure => simp [intOf]; omega
            case rel =>
              have hw : withinB y 1 (fullZ m) = true := by assumption
              have hyz : z < y := by assumption
              exact ⟨k + 1, by omega, by go_num, ⟨below_in hB.out HB2.out⟩, ⟨hK.out.below HB2.out⟩, ⟨okAt_next hO.out (by rw [okAt, HY.out, HZ.out, hw, decide_eq_true hyz]; simp)⟩⟩
          · have hw : ¬ withinB y 1 (fullZ m) = true := by assumption
            go_ret
            refine ⟨?_, below_in hB.out HB2.out⟩
            rw [HNO.out (by rw [okAt, HY.out, Bool.eq_false_iff.2 hw]; rfl)]; rfl
      · obtain rfl : k = n := by omega
        have hltz : ¬ (k : Int) < (k : Int) := by omega
        have hasc : ascB m xs = true := ascB_yes (fun j hj => hO.out j (by rw [HL.out] at hj; exact hj))
        have HE2 : Aside0 (isC m xs = closedB xs) := ⟨by rw [HE.out, hasc]; rfl⟩
        have HAS := Aside0.mk (ascB_asc hasc)
        have k0 := hK.out.c0
        have k1 := hK.out.c1
        clear hasc
        have hc2 := areAll_c A k c xs _ _ _ wr (Kd.C_below HR.out hB.out) (isComplex1_f w.heap.size m A k c xs wr hK.out (Kd.C_below HR.out hB.out) hn HAS.out) (fun _ _ => trivial)
        have HC2 := Aside0.mk hc2
        clear hc2
        go_wp2_with (go_at_call 97; refine HC2.out.mono ?_; rintro e w2 ⟨rfl, hb2⟩)
        go_ret
        exact ⟨by rw [HE2.out]; rfl, below_in hB.out hb2⟩

end Go.Proofs.Ytdkoioiiacljeaa.Im
