/- areAll, has, those, complexCode, IsComplex. -/
import Derived.Test.YtdkoioiiacljeaaImE
namespace Go.Proofs.Ytdkoioiiacljeaa.Im
set_option linter.unusedVariables false
set_option linter.unusedSimpArgs false
open Go.RowKit Go.Shelf Go.Proofs.YtdkoioiiacljeaaW.PrintWords Go.Proofs.YtdkoioiiacljeaaW.PrintLast Go.Proofs.YtdkoioiiacljeaaW.PrintMore

theorem areAll1_f (b : Nat) (fv : Value) (dom : Int → Prop) (p : Int → Bool) (w : World) (hb : Boxed w b 56 fv) (hf : FnB Try.prog fv dom p w) :
    FnB Try.prog (.func (.func 125) #[] #[.pointer (some ⟨b, 0, none⟩)]) dom (fun x => !p x) w := by
  refine ⟨_, _, _, rfl, enters_of Try.func125 (by kernel_rfl) rfl, fun W x hW hx => ?_⟩
  obtain ⟨g, fs, lb, rfl, eg, hcall⟩ := hf
  have hc := hcall W x hW hx
  have HC := Aside0.mk hc
  have hcell : W.cell? ⟨b, 0, none⟩ = some (.func (.func g) fs lb) := (hW.cell (p := ⟨b, 0, none⟩) hb.lt).trans hb.cell
  clear hc hcall hW hx hb
  show Calls Try.prog 125 #[.int .i64 x, .pointer (some ⟨b, 0, none⟩)] W fun e w' => e = .returned (.bool (!p x)) ∧ Below W.heap.size W w'
  generalize p x = r at HC ⊢
  go_enter Try.func125, Try.ntmps125
  go_wp2_with (go_at_fn g; refine HC.out.mono ?_; rintro e w' ⟨rfl, hb⟩)
  go_ret
  exact ⟨rfl, hb⟩

theorem all_not_any (p : Int → Bool) (xs : List Int) : xs.all p = !(xs.any fun x => !p x) := by
  induction xs with
  | nil => rfl
  | cons x xs ih => simp only [List.all_cons, List.any_cons, ih, Bool.not_or, Bool.not_not]

theorem areAll_c (A : Option Addr) (n c : Nat) (xs : List Int) (fv : Value) (dom : Int → Prop) (p : Int → Bool) (w : World) (hr : RC w A n xs) (hf : FnB Try.prog fv dom p w) (hd : ∀ x ∈ xs, dom x) :
    Calls Try.prog 97 #[.slice A n c, fv] w fun e w' => e = .returned (.bool (xs.all p)) ∧ Below w.heap.size w w' := by
  have hb1 : Below w.heap.size w (w.alloc (.cells #[fv] 56)) := (Below.refl _ w).alloc (Nat.le_refl _) _
  have hc := containsFunc_c A n c xs _ dom (fun x => !p x) (w.alloc (.cells #[fv] 56)) (Kd.C_below hr hb1) (areAll1_f w.heap.size fv dom p _ (Boxed.new w _ fv) (hf.later hb1)) hd
  have he := all_not_any p xs
  rw [he]
  have HC := Aside0.mk hc
  have HB := Aside0.mk hb1
  clear hc hr hd he hb1
  obtain ⟨g, fs, lb, rfl, eg, hcall⟩ := hf
  clear hcall eg
  generalize (xs.any fun x => !p x) = r at HC ⊢
  go_enter Try.func97, Try.ntmps97
  go_wp2_with (go_at_call 124; refine HC.out.mono ?_; rintro e w' ⟨rfl, hb⟩)
  go_ret
  exact ⟨rfl, below_in HB.out hb⟩

/-- Strictly ascending. -/
abbrev Asc (xs : List Int) : Prop := xs.Pairwise (· < ·)
theorem Asc.lt {xs : List Int} (h : Asc xs) {i j : Nat} (hij : i < j) (hj : j < xs.length) : xs[i]?.getD 0 < xs[j]?.getD 0 := by
  rw [List.getElem?_eq_getElem (show i < xs.length by omega), List.getElem?_eq_getElem hj]
  exact List.pairwise_iff_getElem.1 h i j (by omega) hj hij

theorem mem_of_at {xs : List Int} {i : Nat} {x : Int} (hi : i < xs.length) (h : xs[i]?.getD 0 = x) : x ∈ xs := by
  rw [List.getElem?_eq_getElem hi] at h
  have h' : xs[i] = x := h
  rw [← h']
  exact List.getElem_mem hi
theorem not_mem_of {xs : List Int} {i : Nat} {x : Int} (_ : Asc xs) (h1 : ∀ k, k < i → xs[k]?.getD 0 < x) (h2 : ∀ k, i ≤ k → k < xs.length → x < xs[k]?.getD 0) : ¬ x ∈ xs := by
  intro hm
  obtain ⟨j, hj, rfl⟩ := List.mem_iff_getElem.1 hm
  rcases Nat.lt_or_ge j i with h | h
  · have := h1 j h; rw [List.getElem?_eq_getElem hj] at this; simp at this
  · have := h2 j h hj; rw [List.getElem?_eq_getElem hj] at this; simp at this

def BSPost (xs : List Int) (x : Int) (w : World) (e : Ending) (w' : World) : Prop := ∃ i : Int, e = .returned (.tuple #[.int .i64 i, .bool (decide (x ∈ xs))]) ∧ w = w'

set_option maxRecDepth 100000 in
set_option maxHeartbeats 1000000 in
theorem bsearch_c (A : Option Addr) (n c : Nat) (xs : List Int) (x : Int) (w : World) (hr : RC w A n xs) (hn : n ≤ 4611686018427387904) (ha : Asc xs) :
    Calls Try.prog 92 #[.slice A n c, .int .i64 x] w (BSPost xs x w) := by
  have hl := hr.len
  have HR := Aside0.mk hr
  have HL := Aside0.mk hl.1
  have HA := Aside0.mk ha
  clear hr hl ha
  go_enter Try.func92, Try.ntmps92
  go_wp2
  go_loop [7, 8] (fun s7 s8 => ∃ i j : Nat, i ≤ j ∧ j ≤ n ∧ s7 = .int .i64 i ∧ s8 = .int .i64 j ∧ Aside0 ((∀ k, k < i → xs[k]?.getD 0 < x) ∧ (∀ k, j ≤ k → k < n → x ≤ xs[k]?.getD 0))) (fun s7 s8 => (intOf s8 - intOf s7).toNat)
  case atStart => exact ⟨0, n, by omega, by omega, rfl, rfl, ⟨fun k hk => absurd hk (Nat.not_lt_zero _), fun k h1 h2 => by omega⟩⟩
  case round =>
    obtain ⟨i, j, hij, hjn, rfl, rfl, hI⟩ := hrel
    by_cases hlt : i < j
    · have hltz : (i : Int) < (j : Int) := by omega
      obtain ⟨h, hh⟩ : ∃ h : Nat, (i + j) / 2 = h := ⟨_, rfl⟩
      have hhn : h < n := by omega
      have hd : ((i : Int) + (j : Int)) / 2 = (h : Int) := by omega
      obtain ⟨ad, rfl, hcell⟩ := HR.out.at_ (Below.refl _ _) hhn
      obtain ⟨y, hy⟩ : ∃ y, xs[h]?.getD 0 = y := ⟨_, rfl⟩
      rw [hy] at hcell
      have HY := Aside0.mk hy
      have HH := Aside0.mk hh
      clear hy hh
      go_wp2_with (go_at_call 121; refine (less_c _ _ _).mono ?_; rintro e w' ⟨rfl, rfl⟩)
      · go_roundw
        case measure => simp [intOf]; omega
        case rel =>
          refine ⟨h + 1, j, by have := HH.out; omega, hjn, by go_num, rfl, ⟨fun k hk => ?_, hI.out.2⟩⟩
          have hyx : y < x := by assumption
          rcases Nat.lt_or_ge k h with h1 | h1
          · have := HA.out.lt h1 (by rw [HL.out]; exact hhn); rw [HY.out] at this; omega
          · obtain rfl : k = h := by omega
            rw [HY.out]; exact hyx
      · go_roundw
        case measure => have := HH.out; simp [intOf]; omega
        case rel =>
          refine ⟨i, h, by have := HH.out; omega, by omega, rfl, rfl, ⟨hI.out.1, fun k h1 h2 => ?_⟩⟩
          have hyx : x ≤ y := by assumption
          rcases Nat.lt_or_ge h k with h3 | h3
          · have := HA.out.lt h3 (by rw [HL.out]; exact h2); rw [HY.out] at this; omega
          · obtain rfl : k = h := by omega
            rw [HY.out]; exact hyx
    · obtain rfl : i = j := by omega
      have hltz : ¬ (i : Int) < (i : Int) := by omega
      by_cases hin : i < n
      · obtain ⟨ad, rfl, hcell⟩ := HR.out.at_ (Below.refl _ _) hin
        obtain ⟨y, hy⟩ : ∃ y, xs[i]?.getD 0 = y := ⟨_, rfl⟩
        rw [hy] at hcell
        have HY := Aside0.mk hy
        clear hy
        have hinz : (i : Int) < (n : Int) := by omega
        by_cases hxy : y = x
        · have hyx : (y == x) = true := by simpa using hxy
          go_wp2
          go_ret2
          refine ⟨(i : Int), ?_, rfl⟩
          rw [decide_eq_true (mem_of_at (by rw [HL.out]; exact hin) (HY.out.trans hxy))]; rfl
        · have hyx : (y == x) = false := by simpa using hxy
          go_wp2
          go_ret2
          refine ⟨(i : Int), ?_, rfl⟩
          rw [decide_eq_false (not_mem_of (i := i) HA.out (fun k hk => hI.out.1 k hk) (fun k h1 h2 => ?_))]; rfl
          have h3 := hI.out.2 i (by omega) hin
          rw [HY.out] at h3
          rcases Nat.lt_or_ge i k with h4 | h4
          · have := HA.out.lt h4 h2; rw [HY.out] at this; omega
          · obtain rfl : k = i := by omega
            rw [HY.out]; omega
      · have hinz : ¬ (i : Int) < (n : Int) := by omega
        go_wp2
        go_ret2
        refine ⟨(i : Int), ?_, rfl⟩
        rw [decide_eq_false (not_mem_of (i := i) HA.out (fun k hk => hI.out.1 k hk) (fun k h1 h2 => by rw [HL.out] at h2; omega))]; rfl


/-- The complex's method 'has'. -/
theorem has_c (m : Int) (A : Option Addr) (n c : Nat) (xs : List Int) (x : Int) (w : World) (hr : RC w A n xs) (hn : n ≤ 4611686018427387904) (ha : Asc xs) :
    Calls Try.prog 59 #[.agg #[.int .i64 m, .slice A n c], .int .i64 x] w fun e w' => e = .returned (.bool (decide (x ∈ xs))) ∧ Below w.heap.size w w' := by
  have hb1 : Below w.heap.size w (w.alloc (.cells #[.int .i64 m, .slice A n c] 26)) := (Below.refl _ w).alloc (Nat.le_refl _) _
  have hc := bsearch_c A n c xs x _ (Kd.C_below hr hb1) hn ha
  have HC := Aside0.mk hc
  have HB := Aside0.mk hb1
  clear hc hr ha hn hb1
  unfold BSPost at HC
  generalize decide (x ∈ xs) = r at HC ⊢
  go_enter Try.func59, Try.ntmps59
  go_wp2_with (go_at_call 92; refine HC.out.mono ?_; rintro e w' ⟨i, rfl, rfl⟩)
  go_ret
  exact ⟨rfl, HB.out⟩

/-- complexCode, met by what IsComplex and the range say. -/
def codeOf (isC rng : Bool) : Int := if isC then if rng then 0 else 2 else 1

/-- Is it a face's range, and are the faces ascending? -/
def ascFrom (n : Int) (prev : Option Int) : List Int → Bool
  | [] => true
  | f :: fs => withinB f 1 (fullZ n) && (match prev with | none => true | some q => decide (q < f)) && ascFrom n (some f) fs

end Go.Proofs.Ytdkoioiiacljeaa.Im
