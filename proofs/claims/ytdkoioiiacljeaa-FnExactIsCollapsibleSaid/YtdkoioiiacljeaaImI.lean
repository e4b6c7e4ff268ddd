import Derived.Test.YtdkoioiiacljeaaImE
/- areAll, has, those, complexCode, IsComplex. -/
namespace Go.Proofs.Ytdkoioiiacljeaa.Im
set_option linter.unusedVariables false
set_option linter.unusedSimpArgs false
open Go.RowKit Go.Shelf Go.Proofs.YtdkoioiiacljeaaW.PrintWords Go.Proofs.YtdkoioiiacljeaaW.PrintLast Go.Proofs.YtdkoioiiacljeaaW.PrintMore

theorem areAll1_f (b : Nat) (fv : Value) (dom : Int → Prop) (p : Int → Bool) (w : World) (hb : Boxed w b 56 fv) (hf : FnB Try.prog fv dom p w) :
    FnB Try.prog (.func (.func 125) #[] #[.pointer (some ⟨b, 0, none⟩)]) dom (fun x => !p x) w := by
  refine ⟨_, _, _, rfl, enters_of Try.func125 (by kernel_rfl) rfl, fun W x hW hx => ?_⟩
  obtain ⟨g, fs, lb, rfl, eg, hcall⟩ := hf
  have hc := hcall W x hW hx
  have HC := Aside0.mk hc
  have hcell : W.cell? ⟨b, 0, none⟩ = some (.func (.func g) fs lb) := (hW.cell (p := ⟨b, 0, none⟩) hb.lt).trans hb.cell
  clear hc hcall hW hx hb
  show Calls Try.prog 125 #[.int .i64 x, .pointer (some ⟨b, 0, none⟩)] W fun e w' => e = .returned (.bool (!p x)) ∧ Below W.heap.size W w'
  generalize p x = r at HC ⊢
  go_enter Try.func125, Try.ntmps125
  go_wp2_with (go_at_fn g; refine HC.out.mono ?_; rintro e w' ⟨rfl, hb⟩)
  go_ret
  exact ⟨rfl, hb⟩

theorem all_not_any (p : Int → Bool) (xs : List Int) : xs.all p = !(xs.any fun x => !p x) := by
  induction xs with
  | nil => rfl
  | cons x xs ih => simp only [List.all_cons, List.any_cons, ih, Bool.not_or, Bool.not_not]

theorem areAll_c (A : Option Addr) (n c : Nat) (xs : List Int) (fv : Value) (dom : Int → Prop) (p : Int → Bool) (w : World) (hr : RC w A n xs) (hf : FnB Try.prog fv dom p w) (hd : ∀ x ∈ xs, dom x) :
    Calls Try.prog 97 #[.slice A n c, fv] w fun e w' => e = .returned (.bool (xs.all p)) ∧ Below w.heap.size w w' := by
  have hb1 : Below w.heap.size w (w.alloc (.cells #[fv] 56)) := (Below.refl _ w).alloc (Nat.le_refl _) _
  have hc := containsFunc_c A n c xs _ dom (fun x => !p x) (w.alloc (.cells #[fv] 56)) (Kd.C_below hr hb1) (areAll1_f w.heap.size fv dom p _ (Boxed.new w _ fv) (hf.later hb1)) hd
  have he := all_not_any p xs
  rw [he]
  have HC := Aside0.mk hc
  have HB := Aside0.mk hb1
  clear hc hr hd he hb1
  obtain ⟨g, fs, lb, rfl, eg, hcall⟩ := hf
  clear hcall eg
  generalize (xs.any fun x => !p x) = r at HC ⊢
  go_enter Try.func97, Try.ntmps97
  go_wp2_with (go_at_call 124; refine HC.out.mono ?_; rintro e w' ⟨rfl, hb⟩)
  go_ret
  exact ⟨rfl, below_in HB.out hb⟩

/-- Strictly ascending. -/
abbrev Asc (xs : List Int) : Prop := xs.Pairwise (· < ·)
theorem Asc.lt {xs : List Int} (h : Asc xs) {i j : Nat} (hij : i < j) (hj : j < xs.length) : xs[i]?.getD 0 < xs[j]?.getD 0 := by
  rw [List.getElem?_eq_getElem (show i < xs.length by omega), List.getElem?_eq_getElem hj]
  exact List.pairwise_iff_getElem.1 h i j (by omega) hj hij

theorem mem_of_at {xs : List Int} {i : Nat} {x : Int} (hi : i < xs.length) (h : xs[i]?.getD 0 = x) : x ∈ xs := by
  rw [List.getElem?_eq_getElem hi] at h
  have h' : xs[i] = x := h
  rw [← h']
  exact List.getElem_mem hi
theorem not_mem_of {xs : List Int} {i : Nat} {x : Int} (_ : Asc xs) (h1 : ∀ k, k < i → xs[k]?.getD 0 < x) (h2 : ∀ k, i ≤ k → k < xs.length → x < xs[k]?.getD 0) : ¬ x ∈ xs := by
  intro hm
  obtain ⟨j, hj, rfl⟩ := List.mem_iff_getElem.1 hm
  rcases Nat.lt_or_ge j i with h | h
  · have := h1 j h; rw [List.getElem?_eq_getElem hj] at this; simp at this
  · have := h2 j h hj; rw [List.getElem?_eq_getElem hj] at this; simp at this

def BSPost (xs : List Int) (x : Int) (w : World) (e : Ending) (w' : World) : Prop := ∃ i : Int, e = .returned (.tuple #[.int .i64 i, .bool (decide (x ∈ xs))]) ∧ w = w'

set_option maxRecDepth 100000 in
set_option maxHeartbeats 1000000 in
theorem bsearch_c (A : Option Addr) (n c : Nat) (xs : List Int) (x : Int) (w : World) (hr : RC w A n xs) (hn : n ≤ 4611686018427387904) (ha : Asc xs) :
    Calls Try.prog 92 #[.slice A n c, .int .i64 x] w (BSPost xs x w) := by
  have hl := hr.len
  have HR := Aside0.mk hr
  have HL := Aside0.mk hl.1
  have HA := Aside0.mk ha
  clear hr hl ha
  go_enter Try.func92, Try.ntmps92
  go_wp2
  go_loop [7, 8] (fun s7 s8 => ∃ i j : Nat, i ≤ j ∧ j ≤ n ∧ s7 = .int .i64 i ∧ s8 = .int .i64 j ∧ Aside0 ((∀ k, k < i → xs[k]?.getD 0 < x) ∧ (∀ k, j ≤ k → k < n → x ≤ xs[k]?.getD 0))) (fun s7 s8 => (intOf s8 - intOf s7).toNat)
  case atStart => exact ⟨0, n, by omega, by omega, rfl, rfl, ⟨fun k hk => absurd hk (Nat.not_lt_zero _), fun k h1 h2 => by omega⟩⟩
  case round =>
    obtain ⟨i, j, hij, hjn, rfl, rfl, hI⟩ := hrel
    by_cases hlt : i < j
    · have hltz : (i : Int) < (j : Int) := by omega
      obtain ⟨h, hh⟩ : ∃ h : Nat, (i + j) / 2 = h := ⟨_, rfl⟩
      have hhn : h < n := by omega
      have hd : ((i : Int) + (j : Int)) / 2 = (h : Int) := by omega
      obtain ⟨ad, rfl, hcell⟩ := HR.out.at_ (Below.refl _ _) hhn
      obtain ⟨y, hy⟩ : ∃ y, xs[h]?.getD 0 = y := ⟨_, rfl⟩
      rw [hy] at hcell
      have HY := Aside0.mk hy
      have HH := Aside0.mk hh
      clear hy hh
      go_wp2_with (go_at_call 121; refine (less_c _ _ _).mono ?_; rintro e w' ⟨rfl, rfl⟩)
      · go_roundw
        case measure => simp [intOf]; omega
        case rel =>
          refine ⟨h + 1, j, by have := HH.out; omega, hjn, by go_num, rfl, ⟨fun k hk => ?_, hI.out.2⟩⟩
          have hyx : y < x := by assumption
          rcases Nat.lt_or_ge k h with h1 | h1
          · have := HA.out.lt h1 (by rw [HL.out]; exact hhn); rw [HY.out] at this; omega
          · obtain rfl : k = h := by omega
            rw [HY.out]; exact hyx
      · go_roundw
        case measure => have := HH.out; simp [intOf]; omega
        case rel =>
          refine ⟨i, h, by have := HH.out; omega, by omega, rfl, rfl, ⟨hI.out.1, fun k h1 h2 => ?_⟩⟩
          have hyx : x ≤ y := by assumption
          rcases Nat.lt_or_ge h k with h3 | h3
          · have := HA.out.lt h3 (by rw [HL.out]; exact h2); rw [HY.out] at this; omega
          · obtain rfl : k = h := by omega
            rw [HY.out]; exact hyx
    · obtain rfl : i = j := by omega
      have hltz : ¬ (i : Int) < (i : Int) := by omega
      by_cases hin : i < n
      · obtain ⟨ad, rfl, hcell⟩ := HR.out.at_ (Below.refl _ _) hin
        obtain ⟨y, hy⟩ : ∃ y, xs[i]?.getD 0 = y := ⟨_, rfl⟩
        rw [hy] at hcell
        have HY := Aside0.mk hy
        clear hy
        have hinz : (i : Int) < (n : Int) := by omega
        by_cases hxy : y = x
        · have hyx : (y == x) = true := by simpa using hxy
          go_wp2
          go_ret2
          refine ⟨(i : Int), ?_, rfl⟩
          rw [decide_eq_true (mem_of_at (by rw [HL.out]; exact hin) (HY.out.trans hxy))]; rfl
        · have hyx : (y == x) = false := by simpa using hxy
          go_wp2
          go_ret2
          refine ⟨(i : Int), ?_, rfl⟩
          rw [decide_eq_false (not_mem_of (i := i) HA.out (fun k hk => hI.out.1 k hk) (fun k h1 h2 => ?_))]; rfl
          have h3 := hI.out.2 i (by omega) hin
          rw [HY.out] at h3
          rcases Nat.lt_or_ge i k with h4 | h4
          · have := HA.out.lt h4 h2; rw [HY.out] at this; omega
          · obtain rfl : k = i := by omega
            rw [HY.out]; omega
      · have hinz : ¬ (i : Int) < (n : Int) := by omega
        go_wp2
        go_ret2
        refine ⟨(i : Int), ?_, rfl⟩
        rw [decide_eq_false (not_mem_of (i := i) HA.out (fun k hk => hI.out.1 k hk) (fun k h1 h2 => by rw [HL.out] at h2; omega))]; rfl


/-- The complex's method 'has'. -/
theorem has_c (m : Int) (A : Option Addr) (n c : Nat) (xs : List Int) (x : Int) (w : World) (hr : RC w A n xs) (hn : n ≤ 4611686018427387904) (ha : Asc xs) :
    Calls Try.prog 59 #[.agg #[.int .i64 m, .slice A n c], .int .i64 x] w fun e w' => e = .returned (.bool (decide (x ∈ xs))) ∧ Below w.heap.size w w' := by
  have hb1 : Below w.heap.size w (w.alloc (.cells #[.int .i64 m, .slice A n c] 26)) := (Below.refl _ w).alloc (Nat.le_refl _) _
  have hc := bsearch_c A n c xs x _ (Kd.C_below hr hb1) hn ha
  have HC := Aside0.mk hc
  have HB := Aside0.mk hb1
  clear hc hr ha hn hb1
  unfold BSPost at HC
  generalize decide (x ∈ xs) = r at HC ⊢
  go_enter Try.func59, Try.ntmps59
  go_wp2_with (go_at_call 92; refine HC.out.mono ?_; rintro e w' ⟨i, rfl, rfl⟩)
  go_ret
  exact ⟨rfl, HB.out⟩

/-- complexCode, met by what IsComplex and the range say. -/
def codeOf (isC rng : Bool) : Int := if isC then if rng then 0 else 2 else 1

/-- Is it a face's range, and are the faces ascending? -/
def ascFrom (n : Int) (prev : Option Int) : List Int → Bool
  | [] => true
  | f :: fs => withinB f 1 (fullZ n) && (match prev with | none => true | some q => decide (q < f)) && ascFrom n (some f) fs

end Go.Proofs.Ytdkoioiiacljeaa.Im

/- IsComplex. -/
namespace Go.Proofs.Ytdkoioiiacljeaa.Im
set_option linter.unusedVariables false
set_option linter.unusedSimpArgs false
open Go.RowKit Go.Shelf Go.Proofs.YtdkoioiiacljeaaW.PrintWords Go.Proofs.YtdkoioiiacljeaaW.PrintLast Go.Proofs.YtdkoioiiacljeaaW.PrintMore

/-- A variable of type Complex in block b. -/
def CxAt (w : World) (b : Nat) (n : Int) (A : Option Addr) (len c : Nat) : Prop := w.heap[b]? = some (.cells #[.int .i64 n, .slice A len c] 26 (0, 0))
theorem CxAt.lt {w : World} {b : Nat} {n : Int} {A : Option Addr} {len c : Nat} (h : CxAt w b n A len c) : b < w.heap.size := (Array.getElem?_eq_some_iff.1 h).1
theorem CxAt.below {w w1 : World} {b : Nat} {n : Int} {A : Option Addr} {len c : Nat} (h : CxAt w b n A len c) (hb : Below w.heap.size w w1) : CxAt w1 b n A len c := (hb.block b h.lt).trans h
theorem CxAt.c0 {w : World} {b : Nat} {n : Int} {A : Option Addr} {len c : Nat} (h : CxAt w b n A len c) : w.cell? ⟨b, 0, none⟩ = some (.int .i64 n) := (cell_of_row w b 0 _ _ _ h).trans rfl
theorem CxAt.c1 {w : World} {b : Nat} {n : Int} {A : Option Addr} {len c : Nat} (h : CxAt w b n A len c) : w.cell? ⟨b, 1, none⟩ = some (.slice A len c) := (cell_of_row w b 1 _ _ _ h).trans rfl
theorem CxAt.keep {w w1 : World} {b : Nat} {n : Int} {A : Option Addr} {len c : Nat} (h : CxAt w b n A len c) (hb : Below w.heap.size w w1) : w1.cell? ⟨b, 0, none⟩ = some (.int .i64 n) ∧ w1.cell? ⟨b, 1, none⟩ = some (.slice A len c) := ⟨(h.below hb).c0, (h.below hb).c1⟩
theorem CxAt.fz {w : World} {b : Nat} {n : Int} {A : Option Addr} {len c : Nat} (h : CxAt w b n A len c) : w.frozen? ⟨b, 1, none⟩ = false := blk_frozen h 1
theorem CxAt.fz0 {w : World} {b : Nat} {n : Int} {A : Option Addr} {len c : Nat} (h : CxAt w b n A len c) : w.frozen? ⟨b, 0, none⟩ = false := blk_frozen h 0
theorem CxAt.grown {w w1 : World} {b : Nat} {n : Int} {A : Option Addr} {len c base : Nat} {v : Value} {xs : List Int} (h : CxAt w b n A len c) (hg : w.grownBy w1 v.ownBlock) (hR : RO w base v xs) : CxAt w1 b n A len c :=
  (hg.block b h.lt (Kd.R_ne hR h (by decide))).trans h
theorem CxAt.set {w : World} {b : Nat} {n : Int} {A : Option Addr} {len c : Nat} (h : CxAt w b n A len c) (A' : Option Addr) (len' c' : Nat) : CxAt (w.setCell ⟨b, 1, none⟩ (.slice A' len' c')) b n A' len' c' := by
  unfold CxAt at h ⊢
  simp [World.setCell, Array.getElem?_modify, h]
theorem CxAt.set0 {w : World} {b : Nat} {n : Int} {A : Option Addr} {len c : Nat} (h : CxAt w b n A len c) (n' : Int) : CxAt (w.setCell ⟨b, 0, none⟩ (.int .i64 n')) b n' A len c := by
  unfold CxAt at h ⊢
  simp [World.setCell, Array.getElem?_modify, h]
theorem CxAt.set2 {w : World} {b : Nat} {n : Int} {A : Option Addr} {len c : Nat} (h : CxAt w b n A len c) (n' : Int) (A' : Option Addr) (len' c' : Nat) : CxAt ((w.setCell ⟨b, 0, none⟩ (.int .i64 n')).setCell ⟨b, 1, none⟩ (.slice A' len' c')) b n' A' len' c' := (h.set0 n').set A' len' c'
theorem CxAt.far {w : World} {b : Nat} {n : Int} {A : Option Addr} {len c : Nat} (h : CxAt w b n A len c) {b' o : Nat} (hne : b ≠ b') (u : Value) : CxAt (w.setCell ⟨b', o, none⟩ u) b n A len c := (Below.heap_setCell w ⟨b', o, none⟩ u b hne).trans h
theorem RO.set {w : World} {base : Nat} {v : Value} {xs : List Int} (h : RO w base v xs) {b : Nat} {n : Int} {A : Option Addr} {len c : Nat} (hb : CxAt w b n A len c) (o : Nat) (u : Value) : RO (w.setCell ⟨b, o, none⟩ u) base v xs := Kd.R_set h hb (by decide) o u
theorem undrewN {w w1 : World} {k : Nat} (h : Below (w.drewN k).heap.size (w.drewN k) w1) : Below w.heap.size w w1 := ⟨h.os, h.tape, h.output, h.size, h.block⟩
theorem undrew {w w1 : World} (h : Below w.drew.heap.size w.drew w1) : Below w.heap.size w w1 := ⟨h.os, h.tape, h.output, h.size, h.block⟩
theorem CxAt.new (w : World) (n : Int) (A : Option Addr) (len c : Nat) : CxAt (w.alloc (.cells #[.int .i64 n, .slice A len c] 26)) w.heap.size n A len c := heap_alloc_new w _

/-- The method value 'k.has'. -/
theorem has_f (m : Int) (A : Option Addr) (n c : Nat) (xs : List Int) (w : World) (hr : RC w A n xs) (hn : n ≤ 4611686018427387904) (ha : Asc xs) :
    FnB Try.prog (.func (.func 59) #[.agg #[.int .i64 m, .slice A n c]] #[]) (fun _ => True) (fun x => decide (x ∈ xs)) w :=
  ⟨_, _, _, rfl, enters_of Try.func59 (by kernel_rfl) rfl, fun W x hW _ => has_c m A n c xs x W (Kd.C_below hr hW) hn ha⟩

set_option maxRecDepth 100000 in
set_option maxHeartbeats 1000000 in
theorem isComplex1_f (b : Nat) (m : Int) (A : Option Addr) (n c : Nat) (xs : List Int) (w : World) (hb : CxAt w b m A n c) (hr : RC w A n xs) (hn : n ≤ 4611686018427387904) (ha : Asc xs) :
    FnB Try.prog (.func (.func 120) #[] #[.pointer (some ⟨b, 0, none⟩)]) (fun _ => True) (fun x => (bordersL x).all fun y => decide (y ∈ xs)) w := by
  refine ⟨_, _, _, rfl, enters_of Try.func120 (by kernel_rfl) rfl, fun W x hW _ => ?_⟩
  have hr' := Kd.C_below hr hW
  have hb' := hb.below hW
  clear hb hr hW
  show Calls Try.prog 120 #[.int .i64 x, .pointer (some ⟨b, 0, none⟩)] W fun e w' => e = .returned (.bool ((bordersL x).all fun y => decide (y ∈ xs))) ∧ Below W.heap.size W w'
  have HR := Aside0.mk hr'
  have HA := Aside0.mk ha
  have HBK := Aside0.mk hb'
  have h0 := hb'.c0
  have h1 := hb'.c1
  go_enter Try.func120, Try.ntmps120
  go_wp2
  go_region_held3 (fun w' : World => w'.cell? ⟨b, 0, none⟩ = some (.int .i64 m) ∧ w'.cell? ⟨b, 1, none⟩ = some (.slice A n c)) (first | exact ⟨h0, h1⟩ | exact HBK.out.keep (by assumption)) (first | (go_at_call 98; refine (borders_c _ _).mono ?_; rintro e w1 ⟨v, rfl, hv, hbv⟩; have hb1 := undrew hbv; obtain ⟨Av, cv, rfl⟩ := Kd.R_slice hv) | (go_at_call 97; refine (areAll_c _ _ _ _ _ _ _ _ (Kd.R_reads' hv).2.2 (has_f m A n c xs _ (Kd.C_below HR.out hb1) hn HA.out) (fun _ _ => trivial)).mono ?_; rintro e w2 ⟨rfl, hb2⟩; have hb3 := below_in hb1 hb2))
  all_goals
    go_wp2
    go_ret
    exact ⟨rfl, hb3⟩

def okAt (n : Int) (xs : List Int) (i : Nat) : Bool := withinB (xs[i]?.getD 0) 1 (fullZ n) && (i == 0 || decide (xs[i - 1]?.getD 0 < xs[i]?.getD 0))
def ascB (n : Int) (xs : List Int) : Bool := (List.range xs.length).all (okAt n xs)
theorem ascB_asc {n : Int} {xs : List Int} (h : ascB n xs = true) : Asc xs := by
  have ha : ∀ i, i < xs.length → okAt n xs i = true := by simpa [ascB] using h
  have step : ∀ i, i + 1 < xs.length → xs[i]?.getD 0 < xs[i + 1]?.getD 0 := by
    intro i hi
    have := ha (i + 1) hi
    simp only [okAt, Bool.and_eq_true, Bool.or_eq_true, decide_eq_true_eq] at this
    rcases this.2 with h | h
    · simp at h
    · simpa using h
  have all : ∀ d i, i + d + 1 < xs.length → xs[i]?.getD 0 < xs[i + d + 1]?.getD 0 := by
    intro d
    induction d with
    | zero => intro i hi; exact step i hi
    | succ d ih => intro i hi; exact Int.lt_trans (ih i (by omega)) (step (i + d + 1) hi)
  refine List.pairwise_iff_getElem.2 fun i j hi hj hij => ?_
  have := all (j - i - 1) i (by omega)
  rw [show i + (j - i - 1) + 1 = j by omega, List.getElem?_eq_getElem hi, List.getElem?_eq_getElem hj] at this
  exact this
theorem ascB_no {n : Int} {xs : List Int} {i : Nat} (hi : i < xs.length) (h : okAt n xs i = false) : ascB n xs = false := by
  rw [Bool.eq_false_iff]
  intro ht
  have ha : ∀ i, i < xs.length → okAt n xs i = true := by simpa [ascB] using ht
  rw [ha i hi] at h
  cases h
theorem ascB_yes {n : Int} {xs : List Int} (h : ∀ i, i < xs.length → okAt n xs i = true) : ascB n xs = true := by simpa [ascB] using h
theorem okAt_next {n : Int} {xs : List Int} {k : Nat} (h : ∀ j, j < k → okAt n xs j = true) (hk : okAt n xs k = true) : ∀ j, j < k + 1 → okAt n xs j = true := fun j hj => by
  rcases Nat.lt_or_ge j k with h1 | h1
  · exact h j h1
  · obtain rfl : j = k := by omega
    exact hk
def closedB (xs : List Int) : Bool := xs.all fun f => (bordersL f).all fun y => decide (y ∈ xs)
/-- IsComplex. -/
def isC (n : Int) (xs : List Int) : Bool := withinB n 1 6 && (ascB n xs && closedB xs)

set_option maxRecDepth 100000 in
set_option maxHeartbeats 2000000 in
theorem isComplex_c (m : Int) (A : Option Addr) (n c : Nat) (xs : List Int) (w : World) (hr : RC w A n xs) (hn : n ≤ 4611686018427387904) :
    Calls Try.prog 91 #[.agg #[.int .i64 m, .slice A n c]] w fun e w' => e = .returned (.bool (isC m xs)) ∧ Below w.heap.size w w' := by
  have hbk := CxAt.new w m A n c
  have hb1 : Below w.heap.size w (w.alloc (.cells #[.int .i64 m, .slice A n c] 26)) := (Below.refl _ w).alloc (Nat.le_refl _) _
  have HBK := Aside0.mk hbk
  have HB1 := Aside0.mk hb1
  have HR := Aside0.mk hr
  have HL := Aside0.mk hr.len.1
  clear hbk hb1 hr
  cases hs : withinB m 1 6 with
  | false =>
    have he : isC m xs = false := by simp [isC, hs]
    have hsz := isSize_c m
    rw [hs] at hsz
    have HS := Lib.hid hsz
    rw [he]
    clear hs he hsz
    go_enter Try.func91, Try.ntmps91
    go_wp2_with (go_at_call 119; refine (HS.out _).mono ?_; rintro e w' ⟨rfl, rfl⟩)
    go_ret
    exact ⟨rfl, HB1.out⟩
  | true =>
    have hsz := isSize_c m
    rw [hs] at hsz
    have HS := Lib.hid hsz
    have hm : 1 ≤ m ∧ m ≤ 6 := by simpa [withinB] using hs
    obtain ⟨hm1, hm6⟩ := hm
    have HE : Aside0 (isC m xs = (ascB m xs && closedB xs)) := ⟨by simp [isC, hs]⟩
    clear hs hsz
    go_enter Try.func91, Try.ntmps91
    go_wp2_with (go_at_call 119; refine (HS.out _).mono ?_; rintro e w' ⟨rfl, rfl⟩)
    go_loopw [3, 4, 12] (fun _ _ i wr => ∃ k : Nat, k ≤ n ∧ i = .int .i64 k ∧ Aside0 (Below w.heap.size w wr) ∧ Aside0 (CxAt wr w.heap.size m A n c) ∧ Aside0 (∀ j, j < k → okAt m xs j = true)) (fun _ _ i _ => n - (intOf i).toNat)
    case atStart => exact ⟨0, by omega, rfl, HB1, HBK, ⟨fun j hj => absurd hj (Nat.not_lt_zero _)⟩⟩
    case round =>
      obtain ⟨k, hk, rfl, hB, hK, hO⟩ := hrel
      by_cases hlt : k < n
      · have hltz : (k : Int) < (n : Int) := by omega
        obtain ⟨ad, rfl, hcell⟩ := HR.out.at_ hB.out hlt
        obtain ⟨y, hy⟩ : ∃ y, xs[k]?.getD 0 = y := ⟨_, rfl⟩
        rw [hy] at hcell
        have HY := Aside0.mk hy
        clear hy
        have k0 := hK.out.c0
        have k1 := hK.out.c1
        have hno : okAt m xs k = false → isC m xs = false := fun h => by rw [HE.out, ascB_no (by rw [HL.out]; exact hlt) h]; rfl
        have HNO := Lib.hid hno
        clear hno
        rcases Nat.eq_zero_or_pos k with hk0 | hk0
        · have hkn : ¬ 0 < k := by omega
          have HK0 := Lib.hid hk0
          clear hk0
          go_wp2_with (first
            | (go_at_call 58; refine (full_c _ _ _ hm1 hm6).mono ?_; rintro e w2 ⟨rfl, hb2⟩; have HB2 := Aside0.mk hb2; have l0 := (hK.out.keep hb2).1; have l1 := (hK.out.keep hb2).2; clear hb2)
            | (go_at_call 73; refine (within_c _ _ _ _).mono ?_; rintro e w3 ⟨rfl, rfl⟩))
          · go_roundw
            case measure => simp [intOf]; omega
            case rel =>
              have hw : withinB y 1 (fullZ m) = true := by assumption
              exact ⟨k + 1, by omega, by go_num, ⟨below_in hB.out HB2.out⟩, ⟨hK.out.below HB2.out⟩, ⟨okAt_next hO.out (by rw [okAt, HY.out, hw, HK0.out]; rfl)⟩⟩
          · have hw : ¬ withinB y 1 (fullZ m) = true := by assumption
            go_ret
            refine ⟨?_, below_in hB.out HB2.out⟩
            rw [HNO.out (by rw [okAt, HY.out, Bool.eq_false_iff.2 hw]; rfl)]; rfl
        · obtain ⟨ad', e', hprev⟩ := HR.out.at_ hB.out (show k - 1 < n by omega)
          cases e'
          obtain ⟨z, hz⟩ : ∃ z, xs[k - 1]?.getD 0 = z := ⟨_, rfl⟩
          rw [hz] at hprev
          have HZ := Aside0.mk hz
          clear hz
          have HK0 : Aside0 ((k == 0) = false) := ⟨by simp; omega⟩
          go_wp2_with (first
            | (go_at_call 58; refine (full_c _ _ _ hm1 hm6).mono ?_; rintro e w2 ⟨rfl, hb2⟩; have HB2 := Aside0.mk hb2; have l0 := (hK.out.keep hb2).1; have l1 := (hK.out.keep hb2).2; have l2 := pw_cell_below hb2 hprev; clear hb2)
            | (go_at_call 73; refine (within_c _ _ _ _).mono ?_; rintro e w3 ⟨rfl, rfl⟩))
          · have hyz : y ≤ z := by assumption
            go_ret
            refine ⟨?_, below_in hB.out HB2.out⟩
            rw [HNO.out (by rw [okAt, HY.out, HZ.out, HK0.out, decide_eq_false (by omega)]; simp)]; rfl
          · go_roundw
            case measure => simp [intOf]; omega
            case rel =>
              have hw : withinB y 1 (fullZ m) = true := by assumption
              have hyz : z < y := by assumption
              exact ⟨k + 1, by omega, by go_num, ⟨below_in hB.out HB2.out⟩, ⟨hK.out.below HB2.out⟩, ⟨okAt_next hO.out (by rw [okAt, HY.out, HZ.out, hw, decide_eq_true hyz]; simp)⟩⟩
          · have hw : ¬ withinB y 1 (fullZ m) = true := by assumption
            go_ret
            refine ⟨?_, below_in hB.out HB2.out⟩
            rw [HNO.out (by rw [okAt, HY.out, Bool.eq_false_iff.2 hw]; rfl)]; rfl
      · obtain rfl : k = n := by omega
        have hltz : ¬ (k : Int) < (k : Int) := by omega
        have hasc : ascB m xs = true := ascB_yes (fun j hj => hO.out j (by rw [HL.out] at hj; exact hj))
        have HE2 : Aside0 (isC m xs = closedB xs) := ⟨by rw [HE.out, hasc]; rfl⟩
        have HAS := Aside0.mk (ascB_asc hasc)
        have k0 := hK.out.c0
        have k1 := hK.out.c1
        clear hasc
        have hc2 := areAll_c A k c xs _ _ _ wr (Kd.C_below HR.out hB.out) (isComplex1_f w.heap.size m A k c xs wr hK.out (Kd.C_below HR.out hB.out) hn HAS.out) (fun _ _ => trivial)
        have HC2 := Aside0.mk hc2
        clear hc2
        go_wp2_with (go_at_call 97; refine HC2.out.mono ?_; rintro e w2 ⟨rfl, hb2⟩)
        go_ret
        exact ⟨by rw [HE2.out]; rfl, below_in hB.out hb2⟩

end Go.Proofs.Ytdkoioiiacljeaa.Im

/- complexCode, those. -/
namespace Go.Proofs.Ytdkoioiiacljeaa.Im
set_option linter.unusedVariables false
set_option linter.unusedSimpArgs false
open Go.RowKit Go.Shelf Go.Proofs.YtdkoioiiacljeaaW.PrintWords Go.Proofs.YtdkoioiiacljeaaW.PrintLast Go.Proofs.YtdkoioiiacljeaaW.PrintMore

set_option maxRecDepth 100000 in
theorem complexCode_c (m : Int) (A : Option Addr) (n c : Nat) (xs : List Int) (fv : Value) (b : Bool) (w : World) (hr : RC w A n xs) (hn : n ≤ 4611686018427387904) (hf : isC m xs = true → FnU Try.prog fv b w) :
    Calls Try.prog 54 #[.agg #[.int .i64 m, .slice A n c], fv] w fun e w' => e = .returned (.int .i64 (codeOf (isC m xs) b)) ∧ Below w.heap.size w w' := by
  have hb1 : Below w.heap.size w (w.alloc (.cells #[.int .i64 m, .slice A n c] 26)) := (Below.refl _ w).alloc (Nat.le_refl _) _
  have hc := isComplex_c m A n c xs _ (Kd.C_below hr hb1) hn
  have HB1 := Aside0.mk hb1
  clear hb1 hr hn
  cases hi : isC m xs with
  | false =>
    rw [hi] at hc
    have HC := Aside0.mk hc
    clear hc hf hi
    go_enter Try.func54, Try.ntmps54
    go_wp2_with (go_at_call 91; refine HC.out.mono ?_; rintro e w2 ⟨rfl, hb2⟩)
    go_ret
    exact ⟨by cases b <;> rfl, below_in HB1.out hb2⟩
  | true =>
    rw [hi] at hc
    have HC := Aside0.mk hc
    obtain ⟨g, fs, lb, rfl, eg, hcall⟩ := hf hi
    have HF := Aside0.mk hcall
    clear hc hf hi hcall
    cases b with
    | false =>
      go_enter Try.func54, Try.ntmps54
      go_wp2_with (first | (go_at_call 91; refine HC.out.mono ?_; rintro e w2 ⟨rfl, hb2⟩; have HB2 := Aside0.mk (below_in HB1.out hb2); clear hb2) | (go_at_fn g; refine (HF.out _ HB2.out).mono ?_; rintro e w3 ⟨rfl, hb3⟩; have HB3 := Aside0.mk (below_in HB2.out hb3); clear hb3))
      go_ret
      exact ⟨rfl, HB3.out⟩
    | true =>
      go_enter Try.func54, Try.ntmps54
      go_wp2_with (first | (go_at_call 91; refine HC.out.mono ?_; rintro e w2 ⟨rfl, hb2⟩; have HB2 := Aside0.mk (below_in HB1.out hb2); clear hb2) | (go_at_fn g; refine (HF.out _ HB2.out).mono ?_; rintro e w3 ⟨rfl, hb3⟩; have HB3 := Aside0.mk (below_in HB2.out hb3); clear hb3))
      go_ret
      exact ⟨rfl, HB3.out⟩

theorem always_f (w : World) : FnU Try.prog (.func (.func 55) #[] #[]) true w :=
  ⟨_, _, _, rfl, enters_of Try.func55 (by kernel_rfl) rfl, fun W _ => (always_c W).mono (by rintro e w' ⟨rfl, rfl⟩; exact ⟨rfl, Below.refl _ _⟩)⟩

/-- 1, 2, .., k - 1. -/
def nums1 (k : Nat) : List Int := (List.range (k - 1)).map fun i => ((i + 1 : Nat) : Int)
theorem nums1_succ {k : Nat} (h : 1 ≤ k) : nums1 (k + 1) = nums1 k ++ [(k : Int)] := by
  unfold nums1
  rw [show k + 1 - 1 = (k - 1) + 1 by omega, List.range_succ, List.map_append]
  simp only [List.map_cons, List.map_nil, show k - 1 + 1 = k by omega]
theorem nums1_len (k : Nat) : (nums1 k).length = k - 1 := by simp [nums1]
theorem mem_nums1 {k : Nat} {x : Int} : x ∈ nums1 k ↔ 1 ≤ x ∧ x < k := by
  simp only [nums1, List.mem_map, List.mem_range]
  constructor
  · rintro ⟨a, ha, rfl⟩; omega
  · intro h; exact ⟨(x - 1).toNat, by omega, by omega⟩
/-- The sets of n vertices that are as told. -/
def thoseL (n : Int) (p : Int → Bool) : List Int := (nums1 (2 ^ n.toNat)).filter p
def thoseUpto (p : Int → Bool) (k : Nat) : List Int := (nums1 k).filter p
theorem thoseUpto_yes {p : Int → Bool} {k : Nat} (h : 1 ≤ k) (hp : p (k : Int) = true) : thoseUpto p (k + 1) = thoseUpto p k ++ [(k : Int)] := by
  unfold thoseUpto; rw [nums1_succ h, List.filter_append]; simp [hp]
theorem thoseUpto_no {p : Int → Bool} {k : Nat} (h : 1 ≤ k) (hp : p (k : Int) = false) : thoseUpto p (k + 1) = thoseUpto p k := by
  unfold thoseUpto; rw [nums1_succ h, List.filter_append]; simp [hp]
theorem thoseUpto_len (p : Int → Bool) (k : Nat) : (thoseUpto p k).length ≤ k := by
  unfold thoseUpto
  have := List.length_filter_le p (nums1 k)
  rw [nums1_len] at this
  omega

set_option maxRecDepth 100000 in
set_option maxHeartbeats 2000000 in
theorem those_c (n : Int) (fv : Value) (dom : Int → Prop) (p : Int → Bool) (w : World) (hn1 : 1 ≤ n) (hn6 : n ≤ 6) (hf : FnB Try.prog fv dom p w) (hd : ∀ x, 1 ≤ x → x ≤ fullZ n → dom x) :
    Calls Try.prog 56 #[.int .i64 n, fv] w fun e w' => ∃ v, e = .returned (.agg #[.int .i64 n, v]) ∧ RO w' w.heap.size v (thoseL n p) ∧ Below w.heap.size w w' := by
  obtain ⟨g, fs, lb, rfl, eg, hcall⟩ := hf
  obtain ⟨N, hN⟩ : ∃ N : Nat, 2 ^ n.toNat = N := ⟨_, rfl⟩
  have hsh : IntKind.i64.wrap (2 ^ n.toNat) = (N : Int) ∧ 2 ≤ N ∧ N ≤ 64 := by
    rw [← hN]
    obtain rfl | rfl | rfl | rfl | rfl | rfl : n = 1 ∨ n = 2 ∨ n = 3 ∨ n = 4 ∨ n = 5 ∨ n = 6 := by omega
    all_goals exact ⟨rfl, by decide, by decide⟩
  obtain ⟨hsh, hN2, hN64⟩ := hsh
  have e2 : (2 : Int) ^ n.toNat = (N : Int) := by rw [← hN]; simp
  have hd' : ∀ x : Int, 1 ≤ x → x < N → dom x := fun x h1 h2 => hd x h1 (by unfold fullZ; rw [e2]; omega)
  have HD := Aside0.mk hd'
  have HF := Aside0.mk hcall
  have HL : Aside0 (thoseL n p = thoseUpto p N) := ⟨by unfold thoseL thoseUpto; rw [hN]⟩
  clear hcall hd hd' hN e2
  have hbk0 := CxAt.new w 0 none 0 0
  have hbk1 := CxAt.new (w.alloc (.cells #[.int .i64 0, .slice none 0 0] 26)) n none 0 0
  rw [World.size_alloc] at hbk1
  have hb1 : Below w.heap.size w ((w.alloc (.cells #[.int .i64 0, .slice none 0 0] 26)).alloc (.cells #[.int .i64 n, .slice none 0 0] 26)) := ((Below.refl _ w).alloc (Nat.le_refl _) _).alloc (by simp) _
  have HK0 := Aside0.mk (hbk0.below ((Below.refl _ _).alloc (Nat.le_refl _) (.cells #[.int .i64 n, .slice none 0 0] 26)))
  have HK1 := Aside0.mk hbk1
  have HB1 := Aside0.mk hb1
  clear hbk0 hbk1 hb1
  go_enter Try.func56, Try.ntmps56
  go_wp2
  go_loopw [6] (fun i wr => ∃ (k : Nat) (A : Option Addr) (c : Nat), 1 ≤ k ∧ k ≤ N ∧ i = .int .i64 k ∧ Aside0 (CxAt wr (w.heap.size + 1) n A (thoseUpto p k).length c) ∧ Aside0 (RO wr w.heap.size (.slice A (thoseUpto p k).length c) (thoseUpto p k)) ∧ Aside0 (CxAt wr w.heap.size 0 none 0 0) ∧ Aside0 (Below w.heap.size w wr)) (fun i _ => N - (intOf i).toNat)
  case atStart => exact ⟨1, none, 0, by omega, by omega, rfl, HK1, ⟨Kd.R_nil _ _ _ _ _⟩, HK0, HB1⟩
  case round =>
    obtain ⟨k, A, c, hk1, hkN, rfl, K5, R, K4, B⟩ := hrel
    by_cases hlt : k < N
    · have hltz : (k : Int) < (N : Int) := by omega
      have hpk := HF.out wr (k : Int) B.out (HD.out _ (by omega) (by omega))
      have HP := Aside0.mk hpk
      clear hpk
      cases hq : p (k : Int) with
      | false =>
        rw [hq] at HP
        have HQ := Aside0.mk hq
        clear hq
        go_wp2_with (go_at_fn g; refine HP.out.mono ?_; rintro e w2 ⟨rfl, hb2⟩; have HB2 := Aside0.mk hb2; clear hb2)
        go_roundw
        case measure => simp [intOf]; omega
        case rel => exact ⟨k + 1, A, c, by omega, by omega, by go_num, by rw [thoseUpto_no hk1 HQ.out]; exact ⟨K5.out.below HB2.out⟩, by rw [thoseUpto_no hk1 HQ.out]; exact ⟨Kd.R_below R.out HB2.out⟩, ⟨K4.out.below HB2.out⟩, ⟨below_in B.out HB2.out⟩⟩
      | true =>
        rw [hq] at HP
        have HQ := Aside0.mk hq
        clear hq
        have hll : (thoseUpto p k).length ≤ 64 := Nat.le_trans (thoseUpto_len p k) (by omega)
        go_wp2_with (first
          | (go_at_fn g; refine HP.out.mono ?_; rintro e w2 ⟨rfl, hb2⟩; have HB2 := Aside0.mk hb2; have K52 := Aside0.mk (K5.out.below hb2); have R2 := Aside0.mk (Kd.R_below R.out hb2); have K42 := Aside0.mk (K4.out.below hb2); have B2 := Aside0.mk (below_in B.out hb2); have l1 := K52.out.c1; clear hb2)
          | (at_builtin; refine ap64 w.heap.size rfl (.tmp 19) (.tmp 21) 22 rfl Try.underlying22 info64 _ _ _ rfl rfl R2.out B2.out B2.out.size (by omega) ?_; intro v1 w1 ho hb hg hat; clear hat; obtain ⟨A1, c1, rfl⟩ := Kd.R_slice ho; have R3 := Aside0.mk ho; have B3 := Aside0.mk hb; have K53 := Aside0.mk (K52.out.grown hg R2.out); have K43 := Aside0.mk (K42.out.grown hg R2.out); have m1 := K53.out.c1; have m2 := K53.out.fz; clear ho hb hg))
        go_roundw
        case measure => simp [intOf]; omega
        case rel =>
          refine ⟨k + 1, A1, c1, by omega, by omega, by go_num, ?_⟩
          rw [thoseUpto_yes hk1 HQ.out, List.length_append]
          exact ⟨⟨K53.out.set _ _ _⟩, ⟨by have := R3.out.set K53.out 1 (.slice A1 ((thoseUpto p k).length + 1) c1); simpa using this⟩, ⟨K43.out.far (by omega) _⟩, ⟨B3.out.setCell (p := ⟨w.heap.size + 1, 1, none⟩) (by simp) _⟩⟩
    · obtain rfl : k = N := by omega
      have hltz : ¬ (k : Int) < (k : Int) := by omega
      have l0 := K5.out.c0
      have l1 := K5.out.c1
      have m0 := K4.out.c0
      have m1 := K4.out.c1
      have f0 := K4.out.fz0
      have f1 := K4.out.fz
      go_wp2
      have hX := K4.out.set2 n A (thoseUpto p k).length c
      have x0 := hX.c0
      have x1 := hX.c1
      refine bodyPost_ret (v := .agg #[.int .i64 n, .slice A (thoseUpto p k).length c]) (by simp [results, Try.results56, go_sem, x0, x1]) rfl ⟨_, rfl, ?_, ?_⟩
      · rw [HL.out]
        exact (R.out.set K4.out _ _).set (K4.out.set0 _) _ _
      · exact (B.out.setCell (p := ⟨w.heap.size, 0, none⟩) (Nat.le_refl _) _).setCell (p := ⟨w.heap.size, 1, none⟩) (Nat.le_refl _) _

end Go.Proofs.Ytdkoioiiacljeaa.Im

/- DualOf. -/
namespace Go.Proofs.Ytdkoioiiacljeaa.Im
set_option linter.unusedVariables false
set_option linter.unusedSimpArgs false
open Go.RowKit Go.Shelf Go.Proofs.YtdkoioiiacljeaaW.PrintWords Go.Proofs.YtdkoioiiacljeaaW.PrintLast Go.Proofs.YtdkoioiiacljeaaW.PrintMore

theorem isC_of {n : Int} {xs : List Int} (h : isC n xs = true) : (1 ≤ n ∧ n ≤ 6) ∧ ascB n xs = true ∧ closedB xs = true := by
  simpa [isC, withinB, Bool.and_eq_true] using h

def dualP (n : Int) (xs : List Int) (x : Int) : Bool := (x != fullZ n) && !(decide (Go.bits .andNot .i64 (fullZ n) x ∈ xs))

set_option maxRecDepth 100000 in
set_option maxHeartbeats 1000000 in
theorem dualOf1_f (b : Nat) (m : Int) (A : Option Addr) (n c : Nat) (xs : List Int) (w : World) (hb : CxAt w b m A n c) (hr : RC w A n xs) (hn : n ≤ 4611686018427387904) (hi : isC m xs = true) :
    FnB Try.prog (.func (.func 57) #[] #[.pointer (some ⟨b, 0, none⟩)]) (fun _ => True) (dualP m xs) w := by
  refine ⟨_, _, _, rfl, enters_of Try.func57 (by kernel_rfl) rfl, fun W x hW _ => ?_⟩
  have hr' := Kd.C_below hr hW
  have hb' := hb.below hW
  obtain ⟨⟨hm1, hm6⟩, hasc, _⟩ := isC_of hi
  have ha := ascB_asc hasc
  clear hb hr hW hasc hi
  show Calls Try.prog 57 #[.int .i64 x, .pointer (some ⟨b, 0, none⟩)] W fun e w' => e = .returned (.bool (dualP m xs x)) ∧ Below W.heap.size W w'
  have HR := Aside0.mk hr'
  have HA := Aside0.mk ha
  have HBK := Aside0.mk hb'
  have h0 := hb'.c0
  have h1 := hb'.c1
  clear hr' ha hb'
  obtain ⟨F, hF⟩ : ∃ F, fullZ m = F := ⟨_, rfl⟩
  have hfc : ∀ W, Calls Try.prog 58 #[.agg #[.int .i64 m, .slice A n c]] W fun e w' => e = .returned (.int .i64 F) ∧ Below W.heap.size W w' := fun W => by rw [← hF]; exact full_c m _ W hm1 hm6
  have HFC := Lib.hid hfc
  clear hfc
  by_cases hx : x = F
  · subst hx
    have HP : Aside0 (dualP m xs x = false) := ⟨by simp [dualP, hF]⟩
    clear hF
    go_enter Try.func57, Try.ntmps57
    go_wp2
    refine start_ (n := 14) (S := fun w' : World => w'.cell? ⟨b, 0, none⟩ = some (.int .i64 m) ∧ w'.cell? ⟨b, 1, none⟩ = some (.slice A n c)) (ds := []) #[false, false, false, false, false, false, false, false, false, false, false, false, false, false] (by kernel_rfl) rfl rfl ⟨h0, h1⟩ (fun hHeld => ?_)
    refine pure_ (i := 0) (N := some 4) (v := ?_) (a' := ?_) #[true, false, false, false, false, false, false, false, false, false, false, false, false, false] rfl rfl (by kernel_rfl) (fun _ _ _ h => h) (Or.inl ⟨by rfl, ?_⟩) ?_ ?_
    rotate_left
    · intro w'; go_simp; (first | done | with_reducible rfl)
    rotate_left
    · simp only [Act.put, List.setIfInBounds_toArray, List.set_cons_zero, List.set_cons_succ, i64_w, i32_w]; rfl
    refine take_ (i := 1) (N := some 5) (v := ?_) (a' := ?_) #[true, true, false, false, false, false, false, false, false, false, false, false, false, false] rfl rfl (by kernel_rfl) (fun _ _ _ h => h) (Or.inl ⟨by rfl, ?_⟩) hHeld ?_ ?_
    rotate_left
    · rintro w' ⟨s0, s1⟩; go_simp; (first | done | with_reducible rfl)
    rotate_left
    · simp only [Act.put, List.setIfInBounds_toArray, List.set_cons_zero, List.set_cons_succ, i64_w, i32_w]; rfl
    refine one_ (i := 2) (N := some 6) #[true, true, true, false, false, false, false, false, false, false, false, false, false, false] rfl rfl (by kernel_rfl) (by decide) (fun K hK => ?_)
    refine goes_ Try.func58 (by kernel_rfl) rfl _ (by rfl) rfl rfl (by (try simp only [List.map_toArray, List.map_cons, List.map_nil]); first | done | rfl) ?_
    refine (HFC.out _).mono ?_; rintro e w1 ⟨rfl, hb1⟩; have hbw := undrew hb1
    refine ⟨_, rfl, ?_⟩
    refine hK.out _ _ (HBK.out.keep hbw) (fun hHeld => ?_)
    clear hK K
    refine norm_ (a' := ?_) ?_ ?_
    rotate_left
    · show Act.put _ (some 6) _ = _; simp only [Act.put, List.setIfInBounds_toArray, List.set_cons_zero, List.set_cons_succ, i64_w, i32_w]; rfl
    refine pure_ (i := 3) (N := some 7) (v := ?_) (a' := ?_) #[true, true, true, true, false, false, false, false, false, false, false, false, false, false] rfl rfl (by kernel_rfl) (fun _ _ _ h => h) (Or.inl ⟨by rfl, ?_⟩) ?_ ?_
    rotate_left
    · intro w'; go_simp; (first | done | with_reducible rfl)
    rotate_left
    · simp only [Act.put, List.setIfInBounds_toArray, List.set_cons_zero, List.set_cons_succ, i64_w, i32_w]; rfl
    refine pure_ (i := 4) (N := some 8) (v := ?_) (a' := ?_) #[true, true, true, true, true, false, false, false, false, false, false, false, false, false] rfl rfl (by kernel_rfl) (fun _ _ _ h => h) (Or.inl ⟨by rfl, ?_⟩) ?_ ?_
    rotate_left
    · intro w'; go_simp; (first | done | with_reducible rfl)
    rotate_left
    · simp only [Act.put, List.setIfInBounds_toArray, List.set_cons_zero, List.set_cons_succ, i64_w, i32_w]; rfl
    refine pure_ (i := 5) (N := some 9) (v := undef) (a' := ?_) #[true, true, true, true, true, true, false, false, false, false, false, false, false, false] rfl rfl (by kernel_rfl) (fun _ _ _ h => h) (Or.inr ⟨by rfl, rfl⟩) ?_ ?_
    rotate_left
    · simp only [Act.put, List.setIfInBounds_toArray, List.set_cons_zero, List.set_cons_succ, i64_w, i32_w]; rfl
    refine pure_ (i := 6) (N := some 10) (v := undef) (a' := ?_) #[true, true, true, true, true, true, true, false, false, false, false, false, false, false] rfl rfl (by kernel_rfl) (fun _ _ _ h => h) (Or.inr ⟨by rfl, rfl⟩) ?_ ?_
    rotate_left
    · simp only [Act.put, List.setIfInBounds_toArray, List.set_cons_zero, List.set_cons_succ, i64_w, i32_w]; rfl
    refine pure_ (i := 7) (N := some 11) (v := undef) (a' := ?_) #[true, true, true, true, true, true, true, true, false, false, false, false, false, false] rfl rfl (by kernel_rfl) (fun _ _ _ h => h) (Or.inr ⟨by rfl, rfl⟩) ?_ ?_
    rotate_left
    · simp only [Act.put, List.setIfInBounds_toArray, List.set_cons_zero, List.set_cons_succ, i64_w, i32_w]; rfl
    refine pure_ (i := 8) (N := some 12) (v := undef) (a' := ?_) #[true, true, true, true, true, true, true, true, true, false, false, false, false, false] rfl rfl (by kernel_rfl) (fun _ _ _ h => h) (Or.inr ⟨by rfl, rfl⟩) ?_ ?_
    rotate_left
    · simp only [Act.put, List.setIfInBounds_toArray, List.set_cons_zero, List.set_cons_succ, i64_w, i32_w]; rfl
    refine pure_ (i := 9) (N := some 13) (v := undef) (a' := ?_) #[true, true, true, true, true, true, true, true, true, true, false, false, false, false] rfl rfl (by kernel_rfl) (fun _ _ _ h => h) (Or.inr ⟨by rfl, rfl⟩) ?_ ?_
    rotate_left
    · simp only [Act.put, List.setIfInBounds_toArray, List.set_cons_zero, List.set_cons_succ, i64_w, i32_w]; rfl
    refine pure_ (i := 10) (N := some 14) (v := undef) (a' := ?_) #[true, true, true, true, true, true, true, true, true, true, true, false, false, false] rfl rfl (by kernel_rfl) (fun _ _ _ h => h) (Or.inr ⟨by rfl, rfl⟩) ?_ ?_
    rotate_left
    · simp only [Act.put, List.setIfInBounds_toArray, List.set_cons_zero, List.set_cons_succ, i64_w, i32_w]; rfl
    refine pure_ (i := 11) (N := some 15) (v := undef) (a' := ?_) #[true, true, true, true, true, true, true, true, true, true, true, true, false, false] rfl rfl (by kernel_rfl) (fun _ _ _ h => h) (Or.inr ⟨by rfl, rfl⟩) ?_ ?_
    rotate_left
    · simp only [Act.put, List.setIfInBounds_toArray, List.set_cons_zero, List.set_cons_succ, i64_w, i32_w]; rfl
    refine pure_ (i := 12) (N := some 16) (v := ?_) (a' := ?_) #[true, true, true, true, true, true, true, true, true, true, true, true, true, false] rfl rfl (by kernel_rfl) (fun _ _ _ h => h) (Or.inl ⟨by rfl, ?_⟩) ?_ ?_
    rotate_left
    · intro w'; go_simp; (first | done | with_reducible rfl)
    rotate_left
    · simp only [Act.put, List.setIfInBounds_toArray, List.set_cons_zero, List.set_cons_succ, i64_w, i32_w]; rfl
    refine pure_ (i := 13) (N := some 3) (v := ?_) (a' := ?_) #[true, true, true, true, true, true, true, true, true, true, true, true, true, true] rfl rfl (by kernel_rfl) (fun _ _ _ h => h) (Or.inl ⟨by rfl, ?_⟩) ?_ ?_
    rotate_left
    · intro w'; go_simp; (first | done | with_reducible rfl)
    rotate_left
    · simp only [Act.put, List.setIfInBounds_toArray, List.set_cons_zero, List.set_cons_succ, i64_w, i32_w]; rfl
    refine done_ (by kernel_rfl) ?_
    go_wp2
    go_ret
    exact ⟨by rw [HP.out]; rfl, hbw⟩
  · have HP : Aside0 (dualP m xs x = !(decide (Go.bits .andNot .i64 F x ∈ xs))) := ⟨by simp [dualP, hF, hx]⟩
    have hx1 : (x == F) = false := by simpa using hx
    have hx2 : (x != F) = true := by simpa using hx
    clear hF hx
    go_enter Try.func57, Try.ntmps57
    go_wp2
    go_region_held3 (fun w' : World => w'.cell? ⟨b, 0, none⟩ = some (.int .i64 m) ∧ w'.cell? ⟨b, 1, none⟩ = some (.slice A n c)) (first | exact ⟨h0, h1⟩ | exact HBK.out.keep (by assumption)) (first | (go_at_call 58; refine (HFC.out _).mono ?_; rintro e w1 ⟨rfl, hb1⟩; first | have hbw := undrew hb1 | have hbx := below_in hbw hb1) | (go_at_call 59; refine (has_c _ _ _ _ xs _ _ (Kd.C_below HR.out hbx) hn HA.out).mono ?_; rintro e w3 ⟨rfl, hb3⟩; have hby := below_in hbx hb3))
    go_wp2
    go_ret
    exact ⟨by rw [HP.out]; rfl, hby⟩

/-- What a function leaves that hands back a complex and a code: the slice is the call's own. -/
def CxCode (base : Nat) (w : World) (r1 : Int) (r2 : List Int) (r3 : Int) (e : Ending) (w' : World) : Prop :=
  ∃ v : Value, e = .returned (.tuple #[.agg #[.int .i64 r1, v], .int .i64 r3]) ∧ RO w' base v r2 ∧ Below base w w'

def dualF (n : Int) (xs : List Int) : Int × List Int × Int := if isC n xs then (n, thoseL n (dualP n xs), 0) else (0, [], 1)

set_option maxRecDepth 100000 in
set_option maxHeartbeats 1000000 in
theorem dualOf_c (m : Int) (A : Option Addr) (n c : Nat) (xs : List Int) (w : World) (hr : RC w A n xs) (hn : n ≤ 4611686018427387904) :
    Calls Try.prog 18 #[.agg #[.int .i64 m, .slice A n c]] w (CxCode w.heap.size w (dualF m xs).1 (dualF m xs).2.1 (dualF m xs).2.2) := by
  have hbk0 := CxAt.new w m A n c
  have hbk1 := CxAt.new (w.alloc (.cells #[.int .i64 m, .slice A n c] 26)) 0 none 0 0
  rw [World.size_alloc] at hbk1
  have hb1 : Below w.heap.size w ((w.alloc (.cells #[.int .i64 m, .slice A n c] 26)).alloc (.cells #[.int .i64 0, .slice none 0 0] 26)) := ((Below.refl _ w).alloc (Nat.le_refl _) _).alloc (by simp) _
  have hk0 := hbk0.below ((Below.refl _ _).alloc (Nat.le_refl _) (.cells #[.int .i64 0, .slice none 0 0] 26))
  have hc := fun hf => complexCode_c m A n c xs (.func (.func 55) #[] #[]) true _ (Kd.C_below hr hb1) hn hf
  have hc := hc (fun _ => always_f _)
  have HK0 := Aside0.mk hk0
  have HK1 := Aside0.mk hbk1
  have HB1 := Aside0.mk hb1
  have HR := Aside0.mk hr
  have l0 := hk0.c0
  have l1 := hk0.c1
  clear hbk0 hbk1 hb1 hk0 hr
  cases hi : isC m xs with
  | false =>
    rw [hi] at hc
    have HC := Aside0.mk hc
    have HE : Aside0 (dualF m xs = (0, [], 1)) := ⟨by simp [dualF, hi]⟩
    clear hc hi
    rw [HE.out]
    unfold codeOf at HC
    go_enter Try.func18, Try.ntmps18
    go_wp2_with (go_at_call 54; refine HC.out.mono ?_; rintro e w2 ⟨rfl, hb2⟩; have HB2 := Aside0.mk (below_in HB1.out hb2); have K1 := Aside0.mk (HK1.out.below hb2); have m0 := K1.out.c0; have m1 := K1.out.c1; have f0 := K1.out.fz0; have f1 := K1.out.fz; clear hb2)
    have hX := K1.out.set2 0 none 0 0
    have x0 := hX.c0
    have x1 := hX.c1
    exact bodyPost_ret (v := .tuple #[.agg #[.int .i64 0, .slice none 0 0], .int .i64 1]) (by simp [results, Try.results18, go_sem, x0, x1]) rfl ⟨_, rfl, Kd.R_nil _ _ _ _ _, (HB2.out.setCell (p := ⟨w.heap.size + 1, 0, none⟩) (by simp) _).setCell (p := ⟨w.heap.size + 1, 1, none⟩) (by simp) _⟩
  | true =>
    rw [hi] at hc
    have HC := Aside0.mk hc
    have HI := Aside0.mk hi
    have HE : Aside0 (dualF m xs = (m, thoseL m (dualP m xs), 0)) := ⟨by simp [dualF, hi]⟩
    obtain ⟨⟨hm1, hm6⟩, _, _⟩ := isC_of hi
    clear hc hi
    rw [HE.out]
    unfold codeOf at HC
    go_enter Try.func18, Try.ntmps18
    go_wp2_with (first
      | (go_at_call 54; refine HC.out.mono ?_; rintro e w2 ⟨rfl, hb2⟩; have HB2 := Aside0.mk (below_in HB1.out hb2); have K0 := Aside0.mk (HK0.out.below hb2); have K1 := Aside0.mk (HK1.out.below hb2); have k0 := K0.out.c0; have m0 := K1.out.c0; have m1 := K1.out.c1; have f0 := K1.out.fz0; have f1 := K1.out.fz; clear hb2)
      | (go_at_call 56; refine (those_c m _ _ _ _ hm1 hm6 (dualOf1_f w.heap.size m A n c xs _ K0.out (Kd.C_below HR.out HB2.out) hn HI.out) (fun _ _ _ => trivial)).mono ?_; rintro e w3 ⟨v, rfl, hv, hb3⟩; obtain ⟨A3, c3, rfl⟩ := Kd.R_slice hv; have R3 := Aside0.mk hv; have HB3 := Aside0.mk (below_in HB2.out hb3); have K13 := Aside0.mk (K1.out.below hb3); have n0 := K13.out.c0; have n1 := K13.out.c1; have g0 := K13.out.fz0; have g1 := K13.out.fz; clear hv hb3))
    have hX := K13.out.set2 m A3 (thoseL m (dualP m xs)).length c3
    have x0 := hX.c0
    have x1 := hX.c1
    exact bodyPost_ret (v := .tuple #[.agg #[.int .i64 m, .slice A3 (thoseL m (dualP m xs)).length c3], .int .i64 0]) (by simp [results, Try.results18, go_sem, x0, x1]) rfl ⟨_, rfl, Kd.R_lower ((R3.out.set K13.out _ _).set (K13.out.set0 _) _ _) HB2.out.size, (HB3.out.setCell (p := ⟨w.heap.size + 1, 0, none⟩) (by simp) _).setCell (p := ⟨w.heap.size + 1, 1, none⟩) (by simp) _⟩

end Go.Proofs.Ytdkoioiiacljeaa.Im
