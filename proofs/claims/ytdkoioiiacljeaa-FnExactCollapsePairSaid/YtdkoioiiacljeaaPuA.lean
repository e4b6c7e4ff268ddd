/- Plain: the laws' helpers. -/
import Derived.Test.YtdkoioiiacljeaaQSx1
import Derived.Test.YtdkoioiiacljeaaQSx2
namespace Go.Proofs.Ytdkoioiiacljeaa.Pu
set_option linter.unusedVariables false
set_option linter.unusedSimpArgs false
open Go.RowKit Go.Proofs.Ytdkoioiiacljeaa.QS Go.Proofs.YtdkoioiiacljeaaW.PrintWords Go.Proofs.YtdkoioiiacljeaaW.PrintLast Go.Proofs.YtdkoioiiacljeaaW.PrintMore

theorem w64 {x : Int} (h1 : -9223372036854775808 ≤ x) (h2 : x ≤ 9223372036854775807) : wrap64 x = x := by unfold wrap64; omega
theorem rd_at {l : List Int} {i : Nat} (h : i < l.length) : rd l (i : Int) = l[i] := by simp [rd, List.getD_eq_getElem?_getD, List.getElem?_eq_getElem h]

theorem sz_big {n : Int} {l : List Int} (hm : l.length ≤ maxLen) (h : 1048576 < l.length) : laws_szComplex.f n l 1048576 = some (-1) := by
  unfold laws_szComplex.f laws_szInt64S.f
  simp only [maxLen] at hm
  rw [w64 (by omega) (by omega), if_pos (by omega)]
  rfl
theorem sz_ok {n : Int} {l : List Int} (h : l.length ≤ 1048576) : ∃ t, laws_szComplex.f n l 1048576 = some t ∧ ¬ t < 0 := by
  unfold laws_szComplex.f laws_szInt64S.f
  rw [w64 (by omega) (by omega), if_neg (by omega)]
  refine ⟨1048576 - l.length, ?_, by omega⟩
  simp only [Option.bind_some]
  rw [if_neg (by omega)]

theorem toInt_loop (l : List Int) (hl : l.length ≤ 1048576) : ∀ d (i : Nat) (x3 : List Int) k, l.length - i = d → d < k → i ≤ l.length → x3.length = l.length → (∀ j, j < i → x3[j]? = l[j]?) → laws_toInt64S.l0 k l x3 i = some l := by
  intro d
  induction d with
  | zero =>
    intro i x3 k hd hk hi hx hj
    obtain ⟨k, rfl⟩ : ∃ m, k = m + 1 := ⟨k - 1, by omega⟩
    simp only [laws_toInt64S.l0]
    rw [if_neg (by omega)]
    congr 1
    apply List.ext_getElem?
    intro j
    rcases Nat.lt_or_ge j i with h | h
    · exact hj j h
    · rw [List.getElem?_eq_none (by omega), List.getElem?_eq_none (by omega)]
  | succ d ih =>
    intro i x3 k hd hk hi hx hj
    obtain ⟨k, rfl⟩ : ∃ m, k = m + 1 := ⟨k - 1, by omega⟩
    simp only [laws_toInt64S.l0]
    rw [if_pos (by omega), if_pos (by omega), if_pos (by omega), w64 (by omega) (by omega)]
    refine ih (i + 1) _ k (by omega) (by omega) (by omega) (by simpa using hx) (fun j hji => ?_)
    rw [Int.toNat_natCast, List.getElem?_set]
    split
    · rename_i h
      subst h
      rw [if_pos (by omega), rd_at (by omega), List.getElem?_eq_getElem (by omega)]
    · exact hj j (by omega)
theorem ev_toInt {l : List Int} (hl : l.length ≤ 1048576) : Ev (fun k => laws_toInt64S.f k l) l := by
  refine ⟨l.length + 1, fun k hk => ?_⟩
  dsimp only
  unfold laws_toInt64S.f
  rw [if_pos (by omega), if_pos (by omega)]
  exact toInt_loop l hl l.length 0 _ k (by omega) (by omega) (by omega) (by simp) (fun j hj => absurd hj (Nat.not_lt_zero _))
theorem ev_toComplex {n : Int} {l : List Int} (hl : l.length ≤ 1048576) : Ev (fun k => laws_toComplex.f k n l) (n, l) := by
  unfold laws_toComplex.f
  exact Ev.bind (f := fun _ t => some (n, t)) (ev_toInt hl) (Ev.now _)

theorem eqInt_loop (l : List Int) (hl : l.length ≤ 1048576) : ∀ d (i : Nat) k, l.length - i = d → d < k → i ≤ l.length → laws_eqInt64S.l0 k l l i = some true := by
  intro d
  induction d with
  | zero =>
    intro i k hd hk hi
    obtain ⟨k, rfl⟩ : ∃ m, k = m + 1 := ⟨k - 1, by omega⟩
    simp only [laws_eqInt64S.l0]
    rw [if_neg (by omega)]
  | succ d ih =>
    intro i k hd hk hi
    obtain ⟨k, rfl⟩ : ∃ m, k = m + 1 := ⟨k - 1, by omega⟩
    simp only [laws_eqInt64S.l0]
    rw [if_pos (by omega), if_pos (by omega), if_pos (by omega), if_pos trivial, w64 (by omega) (by omega)]
    exact ih (i + 1) k (by omega) (by omega) (by omega)
theorem ev_eqInt {l : List Int} (hl : l.length ≤ 1048576) : Ev (fun k => laws_eqInt64S.f k l l) true := by
  refine ⟨l.length + 1, fun k hk => ?_⟩
  dsimp only
  unfold laws_eqInt64S.f
  rw [if_pos rfl]
  exact eqInt_loop l hl l.length 0 k (by omega) (by omega) (by omega)
theorem ev_eqComplex {n : Int} {l : List Int} (hl : l.length ≤ 1048576) : Ev (fun k => laws_eqComplex.f k n l n l) true := by
  unfold laws_eqComplex.f
  simp only [if_true]
  exact Ev.bind (f := fun _ t => if t = true then some true else some false) (ev_eqInt hl) (by simp only [if_true]; exact Ev.now _)

def marks (m : Nat) (a : Int) : List Int := (List.range m).map fun j : Nat => a + (j : Int)
theorem marks_len (m : Nat) (a : Int) : (marks m a).length = m := by simp [marks]
theorem marks_at {m : Nat} {a : Int} {j : Nat} (h : j < m) : (marks m a)[j]? = some (a + (j : Int)) := by simp [marks, h]
theorem mark_loop (n : Nat) (hl : n ≤ 1048576) (a : Int) (ha : 0 ≤ a ∧ a ≤ 1073741824) : ∀ d (i : Nat) (x0 : List Int) k, n - i = d → d < k → i ≤ n → x0.length = n → (∀ j, j < i → x0[j]? = some (a + (j : Int))) → laws_markInt64S.l0 k x0 (a + (i : Int)) i = some (a + (n : Int), marks n a) := by
  intro d
  induction d with
  | zero =>
    intro i x0 k hd hk hi hx hj
    obtain ⟨k, rfl⟩ : ∃ m, k = m + 1 := ⟨k - 1, by omega⟩
    simp only [laws_markInt64S.l0]
    rw [if_neg (by omega), show i = n by omega]
    congr 2
    apply List.ext_getElem?
    intro j
    rcases Nat.lt_or_ge j n with h | h
    · rw [hj j (by omega), marks_at h]
    · rw [List.getElem?_eq_none (by omega), List.getElem?_eq_none (by rw [marks_len]; omega)]
  | succ d ih =>
    intro i x0 k hd hk hi hx hj
    obtain ⟨k, rfl⟩ : ∃ m, k = m + 1 := ⟨k - 1, by omega⟩
    simp only [laws_markInt64S.l0]
    rw [if_pos (by omega), if_pos (by omega), w64 (by omega) (by omega), w64 (by omega) (by omega)]
    have := ih (i + 1) (x0.set (i : Int).toNat (a + i)) k (by omega) (by omega) (by omega) (by simpa using hx) (fun j hji => ?_)
    · rw [show ((i + 1 : Nat) : Int) = (i : Int) + 1 by omega, show a + ((i : Int) + 1) = a + (i : Int) + 1 by omega] at this
      exact this
    · rw [Int.toNat_natCast, List.getElem?_set]
      split
      · rename_i h
        subst h
        rw [if_pos (by omega)]
      · exact hj j (by omega)
theorem ev_mark {l : List Int} (hl : l.length ≤ 1048576) {a : Int} (ha : 0 ≤ a ∧ a ≤ 1073741824) : Ev (fun k => laws_markInt64S.f k l a) (a + (l.length : Int), marks l.length a) := by
  refine ⟨l.length + 1, fun k hk => ?_⟩
  dsimp only
  unfold laws_markInt64S.f
  have := mark_loop l.length hl a ha l.length 0 l k (by omega) (by omega) (by omega) rfl (fun j hj => absurd hj (Nat.not_lt_zero _))
  rw [show a + ((0 : Nat) : Int) = a by omega] at this
  exact this
theorem ev_markComplex {n : Int} {l : List Int} (hl : l.length ≤ 1048576) {a : Int} (ha : 0 ≤ a ∧ a ≤ 1073741824) : Ev (fun k => laws_markComplex.f k n l a) (a + (l.length : Int), marks l.length a) := by
  unfold laws_markComplex.f
  exact Ev.bind (f := fun _ t => some (t.1, t.2)) (ev_mark hl ha) (Ev.now _)
theorem held_loop (n : Nat) (hl : n ≤ 1048576) (a : Int) (ha : 0 ≤ a ∧ a ≤ 1073741824) : ∀ d (i : Nat) k, n - i = d → d < k → i ≤ n → laws_heldInt64S.l0 k (marks n a) (a + (i : Int)) i = some (a + (n : Int)) := by
  intro d
  induction d with
  | zero =>
    intro i k hd hk hi
    obtain ⟨k, rfl⟩ : ∃ m, k = m + 1 := ⟨k - 1, by omega⟩
    simp only [laws_heldInt64S.l0]
    rw [marks_len, if_neg (by omega), show i = n by omega]
  | succ d ih =>
    intro i k hd hk hi
    obtain ⟨k, rfl⟩ : ∃ m, k = m + 1 := ⟨k - 1, by omega⟩
    simp only [laws_heldInt64S.l0]
    have h0 : rd (marks n a) (i : Int) = a + (i : Int) := by
      rw [rd_at (by rw [marks_len]; omega)]
      have := marks_at (m := n) (a := a) (j := i) (by omega)
      rw [List.getElem?_eq_getElem (by rw [marks_len]; omega)] at this
      exact Option.some.inj this
    rw [marks_len, if_pos (by omega), if_pos (by omega), if_pos h0, w64 (by omega) (by omega), w64 (by omega) (by omega)]
    have := ih (i + 1) k (by omega) (by omega) (by omega)
    rw [show ((i + 1 : Nat) : Int) = (i : Int) + 1 by omega, show a + ((i : Int) + 1) = a + (i : Int) + 1 by omega] at this
    exact this
theorem ev_held {n : Nat} (hl : n ≤ 1048576) {a : Int} (ha : 0 ≤ a ∧ a ≤ 1073741824) : Ev (fun k => laws_heldInt64S.f k (marks n a) a) (a + (n : Int)) := by
  refine ⟨n + 1, fun k hk => ?_⟩
  dsimp only
  unfold laws_heldInt64S.f
  have := held_loop n hl a ha n 0 k (by omega) (by omega) (by omega)
  rw [show a + ((0 : Nat) : Int) = a by omega] at this
  exact this
theorem ev_heldComplex {c : Int} {n : Nat} (hl : n ≤ 1048576) {a : Int} (ha : 0 ≤ a ∧ a ≤ 1073741824) : Ev (fun k => laws_heldComplex.f k c (marks n a) a) (a + (n : Int)) := by
  unfold laws_heldComplex.f
  exact Ev.bind (f := fun _ t => if t < 0 then some (-1) else some t) (ev_held hl ha) (by rw [if_neg (by omega)]; exact Ev.now _)

end Go.Proofs.Ytdkoioiiacljeaa.Pu
