/- Words and lemmas for FnExactInequalitiesFor, part 4: what the row's text comes to. -/
import Derived.Test.YtomdfjohnmikdaaProg
import Derived.Below
import Derived.Deep.Draws
import Derived.Deep.AppendLies
import Derived.Maps.AppendAt
import Derived.OwnWalk
import Derived.Laws.BytesArg
import Derived.Laws.MakeOwn
import Derived.Laws.OwnMore
import Derived.Deep.OwnRows
import Derived.Tactics
import Derived.Lib.ConvBytes
import Derived.Laws.Slices
import Derived.WalkKit
import Derived.KernelRfl
import Derived.RowKit3
import Derived.Deep.LoopGhost
import Derived.Deep.QuietTactic
import Derived.BigQuiet
import Derived.WideLaws
import Derived.Deep.DeepCutAuto
import Derived.Deep.CutBlock
import Derived.Deep.RegionHeld3
import Derived.Laws.Rows
import Derived.Lib.AppendStr
import Derived.ArgAppend
import Derived.Laws.IdiomCopy
import Derived.OrdersHeld
import Derived.Laws.BitsLemmas
import Derived.RowKit
import Derived.Test.YtomdfjohnmikdaaZFnExactInequalitiesForc
namespace Go.Proofs.Ytomdfjohnmikdaa.Pu
set_option linter.unusedVariables false
set_option linter.unusedSimpArgs false
open Go.RowKit Go.Proofs.Ytomdfjohnmikdaa.QS Go.Proofs.Ytomdfjohnmikdaa.Im Go.Proofs.YtomdfjohnmikdaaW.PrintWords Go.Proofs.YtomdfjohnmikdaaW.PrintLast Go.Proofs.YtomdfjohnmikdaaW.PrintMore
theorem ev_dimO {n : Int} {l : List Int} (hi : isC n l = true) : Ev (fun k => spec_l01Dim.f k n l) (dimL l) := by
  have hl := isC_len hi
  have hr := isC_63 hi
  have key : ∀ d (i : Nat) (a : Int), l.length - i = d → i ≤ l.length → Ev (fun k => spec_l01Dim.l0 k a i n l) ((l.drop i).foldl (fun a x => max a (onesZ x - 1)) a) := by
    intro d
    induction d with
    | zero =>
      intro i a hd hi
      rw [List.drop_eq_nil_of_le (by omega)]
      refine Ev.step (f := fun k => some a) (fun k => ?_) (Ev.now _)
      simp only [spec_l01Dim.l0]; rw [if_neg (by omega)]
    | succ d ih =>
      intro i a hd hi
      have hi' : i < l.length := by omega
      have hx := hr _ (List.getElem_mem hi')
      have h1 := ones_le l[i]
      rw [List.drop_eq_getElem_cons hi', List.foldl_cons]
      refine Ev.step (f := fun k => (spec_l01Ones.f k l[i]).bind fun t320 => (spec_l01Dim.l0 k (mx a (wrap64 (t320 - 1))) ((i + 1 : Nat) : Int) n l)) (fun k => ?_) ?_
      · simp only [spec_l01Dim.l0]
        rw [if_pos (by omega), if_pos (by omega), rd_at hi', show wrap64 ((i : Int) + 1) = ((i + 1 : Nat) : Int) by rw [w64 (by omega) (by omega)]; omega]
      · refine Ev.bind (ev_ones (by omega) (by omega)) ?_
        rw [w64 (by omega) (by omega), show mx a (onesZ l[i] - 1) = max a (onesZ l[i] - 1) by unfold mx; split <;> omega]
        exact ih (i + 1) _ (by omega) (by omega)
  exact key _ 0 (-1) rfl (Nat.zero_le _)
theorem ev_ofO {n : Int} {l : List Int} (hi : isC n l = true) (j : Nat) (hj : j ≤ 100) : Ev (fun k => spec_l01Of.f k n l (j : Int)) (l.filter fun x => onesZ x == ((j + 1 : Nat) : Int)) := by
  have hl := isC_len hi
  have hr := isC_63 hi
  have key : ∀ d (i : Nat) (acc : List Int), l.length - i = d → i ≤ l.length → acc.length ≤ i → Ev (fun k => spec_l01Of.l0 k (j : Int) acc i n l) (acc ++ (l.drop i).filter fun x => onesZ x == ((j + 1 : Nat) : Int)) := by
    intro d
    induction d with
    | zero =>
      intro i acc hd hi ha
      rw [List.drop_eq_nil_of_le (by omega), List.filter_nil, List.append_nil]
      refine Ev.step (f := fun k => some acc) (fun k => ?_) (Ev.now _)
      simp only [spec_l01Of.l0]; rw [if_neg (by omega)]
    | succ d ih =>
      intro i acc hd hi ha
      have hi' : i < l.length := by omega
      have hx := hr _ (List.getElem_mem hi')
      have hwj : wrap64 ((j : Int) + 1) = ((j + 1 : Nat) : Int) := by rw [w64 (by omega) (by omega)]; omega
      rw [List.drop_eq_getElem_cons hi']
      refine Ev.step (f := fun k => (spec_l01Ones.f k l[i]).bind fun t326 => (if t326 = ((j + 1 : Nat) : Int) then (spec_l01Of.l0 k (j : Int) (acc ++ [l[i]]) ((i + 1 : Nat) : Int) n l) else (spec_l01Of.l0 k (j : Int) acc ((i + 1 : Nat) : Int) n l))) (fun k => ?_) ?_
      · simp only [spec_l01Of.l0]
        rw [if_pos (by omega), if_pos (by omega), rd_at hi', show wrap64 ((i : Int) + 1) = ((i + 1 : Nat) : Int) by rw [w64 (by omega) (by omega)]; omega, hwj]
        simp only [if_pos (show acc.length < 17592186044416 by omega)]
      · refine Ev.bind (ev_ones (by omega) (by omega)) ?_
        by_cases ho : onesZ l[i] = ((j + 1 : Nat) : Int)
        · simp only [if_pos ho]
          rw [List.filter_cons_of_pos (by rw [ho]; exact beq_self_eq_true _)]
          have := ih (i + 1) (acc ++ [l[i]]) (by omega) (by omega) (by rw [List.length_append]; simp; omega)
          rw [List.append_assoc] at this
          exact this
        · simp only [if_neg ho]
          rw [List.filter_cons_of_neg (by rw [beq_eq_false_iff_ne.2 ho]; exact Bool.false_ne_true)]
          exact ih (i + 1) acc (by omega) (by omega) (by omega)
  have := key _ 0 [] rfl (Nat.zero_le _) (by simp)
  rw [List.drop_zero, List.nil_append] at this
  exact this
def sigL (f : Int) : List Int := if onesZ f ≤ 1 then [] else ((List.range (onesZ f).toNat).map fun (a : Nat) => (1 - 2 * ((a : Int) % 2) : Int)).reverse
theorem sig_all : ((List.range 64).all fun f => f == 0 || (spec_l03Signs.f 10 (f : Int) == some (sigL (f : Int)))) = true := by decide +kernel
theorem ev_signs {f : Int} (h1 : 1 ≤ f) (h2 : f ≤ 63) : Ev (fun k => spec_l03Signs.f k f) (sigL f) := by
  obtain ⟨a, rfl⟩ := Int.eq_ofNat_of_zero_le (show 0 ≤ f by omega)
  have h := List.all_eq_true.1 sig_all a (List.mem_range.2 (by omega))
  rw [Bool.or_eq_true] at h
  rcases h with h | h
  · have := eq_of_beq h; omega
  · exact Ev.of (fun k => spec_l03Signs.mono _ k) (eq_of_beq h)
theorem sig_len_all : ((List.range 64).all fun f => f == 0 || ((sigL (f : Int)).length == (bordersL (f : Int)).length && ((sigL (f : Int)).all fun s => s == 1 || s == -1) && ((bordersL (f : Int)).all fun g => onesZ g + 1 == onesZ (f : Int)))) = true := by decide +kernel
theorem sig_facts {f : Int} (h1 : 1 ≤ f) (h2 : f ≤ 63) : (sigL f).length = (bordersL f).length ∧ (∀ s ∈ sigL f, s = 1 ∨ s = -1) ∧ ∀ g ∈ bordersL f, onesZ g + 1 = onesZ f := by
  obtain ⟨a, rfl⟩ := Int.eq_ofNat_of_zero_le (show 0 ≤ f by omega)
  have h := List.all_eq_true.1 sig_len_all a (List.mem_range.2 (by omega))
  rw [Bool.or_eq_true] at h
  rcases h with h | h
  · have := eq_of_beq h; omega
  · simp only [Bool.and_eq_true] at h
    refine ⟨eq_of_beq h.1.1, fun s hs => ?_, fun g hg => eq_of_beq (List.all_eq_true.1 h.2 g hg)⟩
    have := List.all_eq_true.1 h.1.2 s hs
    rw [Bool.or_eq_true, beq_iff_eq, beq_iff_eq] at this
    exact this
theorem place_loop (l : List Int) (hl : l.length ≤ 1000) (g : Int) {p : Nat} (hp : p < l.length) (hg : l[p] = g) (hn : ∀ q (h : q < l.length), q < p → l[q] ≠ g) : ∀ d (i : Nat), p - i = d → i ≤ p → Ev (fun k => spec_l03Place.l0 k l g i) (p : Int) := by
  intro d
  induction d with
  | zero =>
    intro i hd hi
    obtain rfl : i = p := by omega
    refine Ev.step (f := fun k => some (i : Int)) (fun k => ?_) (Ev.now _)
    simp only [spec_l03Place.l0]
    rw [if_pos (by omega), if_pos (by omega), rd_at hp, if_pos hg]
  | succ d ih =>
    intro i hd hi
    have hi' : i < l.length := by omega
    refine Ev.step (fun k => ?_) (ih (i + 1) (by omega) (by omega))
    simp only [spec_l03Place.l0]
    rw [if_pos (by omega), if_pos (by omega), rd_at hi', if_neg (hn i hi' (by omega)), show wrap64 ((i : Int) + 1) = ((i + 1 : Nat) : Int) by rw [w64 (by omega) (by omega)]; omega]
theorem ev_place {l : List Int} (hl : l.length ≤ 1000) (hn : l.Nodup) {g : Int} (hg : g ∈ l) : ∃ p : Nat, Ev (fun k => spec_l03Place.f k l g) (p : Int) ∧ ∃ h : p < l.length, l[p] = g := by
  obtain ⟨p, hp, he⟩ := List.mem_iff_getElem.1 hg
  refine ⟨p, ?_, hp, he⟩
  unfold spec_l03Place.f
  refine place_loop l hl g hp he (fun q h hq e => ?_) _ 0 rfl (Nat.zero_le _)
  have := List.pairwise_iff_getElem.1 (List.nodup_iff_pairwise_ne.1 hn) q p h hp hq
  exact this (e.trans he.symm)
end Go.Proofs.Ytomdfjohnmikdaa.Pu
namespace Go.Proofs.Ytomdfjohnmikdaa.Im
set_option linter.unusedVariables false
set_option linter.unusedSimpArgs false
open Go.RowKit Go.Shelf Go.Proofs.Ytomdfjohnmikdaa.Cw Go.Proofs.Ytomdfjohnmikdaa.Pu Go.Proofs.YtomdfjohnmikdaaW.PrintWords Go.Proofs.YtomdfjohnmikdaaW.PrintLast Go.Proofs.YtomdfjohnmikdaaW.PrintMore
def ofL (xs : List Int) (j : Nat) : List Int := xs.filter fun x => onesZ x == ((j + 1 : Nat) : Int)
def rankS (xs : List Int) (d : Int) : Int := if d < 1 ∨ dimL xs < d then 0 else ((elimAll id (matZ (ofL xs (d.toNat - 1)) (ofL xs d.toNat) bordersL) (ofL xs (d.toNat - 1)).length).2 : Int)
theorem ev_list {α β : Type} {g : α → Nat → Option β} {Q : α → β → Prop} : ∀ l : List α, (∀ x ∈ l, ∃ r, Ev (g x) r ∧ Q x r) → ∃ K, ∀ k, K ≤ k → ∀ x ∈ l, ∃ r, g x k = some r ∧ Q x r
  | [], _ => ⟨0, fun k _ x hx => by cases hx⟩
  | a :: l, h => by
    obtain ⟨K1, h1⟩ := ev_list l (fun x hx => h x (List.mem_cons_of_mem _ hx))
    obtain ⟨r, ⟨K2, h2⟩, hq⟩ := h a (by simp)
    refine ⟨max K1 K2, fun k hk x hx => ?_⟩
    rcases List.mem_cons.1 hx with rfl | hx
    · exact ⟨r, h2 k (by omega), hq⟩
    · exact h1 k (by omega) x hx
theorem ofL_mem {xs : List Int} {j : Nat} {x : Int} (h : x ∈ ofL xs j) : x ∈ xs ∧ onesZ x = ((j + 1 : Nat) : Int) := by
  have := List.mem_filter.1 h
  exact ⟨this.1, eq_of_beq this.2⟩
theorem border_of {n : Int} {xs : List Int} (hi : isC n xs = true) {j : Nat} {f g : Int} (hf : f ∈ ofL xs (j + 1)) (hg : g ∈ bordersL f) : g ∈ ofL xs j := by
  obtain ⟨h1, h2⟩ := ofL_mem hf
  have r := isC_63 hi f h1
  have hc := List.all_eq_true.1 (isC_of hi).2.2 f h1
  have hm := of_decide_eq_true (List.all_eq_true.1 hc g hg)
  have ho := (sig_facts r.1 r.2).2.2 g hg
  refine List.mem_filter.2 ⟨hm, ?_⟩
  rw [beq_iff_eq]
  omega
theorem foldmax_hit (g : Int → Int) : ∀ (l : List Int) (a : Int), l.foldl (fun a x => max a (g x)) a = a ∨ ∃ x ∈ l, g x = l.foldl (fun a x => max a (g x)) a
  | [], a => .inl rfl
  | x :: l, a => by
    rw [List.foldl_cons]
    rcases foldmax_hit g l (max a (g x)) with h | ⟨y, hy, h⟩
    · rw [h]
      rcases Int.le_total a (g x) with h1 | h1
      · rw [Int.max_eq_right h1]
        exact .inr ⟨x, by simp, rfl⟩
      · rw [Int.max_eq_left h1]
        exact .inl rfl
    · exact .inr ⟨y, by simp [hy], h⟩
theorem borders_some : ((List.range 64).all fun f => decide (onesZ (f : Int) ≤ 1) || !(bordersL (f : Int)).isEmpty) = true := by decide +kernel
theorem of_some {n : Int} {xs : List Int} (hi : isC n xs = true) : ∀ (e j : Nat), (j : Int) + e = dimL xs → 0 < (ofL xs j).length
  | 0, j, h => by
    rcases foldmax_hit (fun x => onesZ x - 1) xs (-1) with h1 | ⟨x, hx, h1⟩
    · unfold dimL at h; omega
    · refine List.length_pos_of_mem (a := x) (List.mem_filter.2 ⟨hx, ?_⟩)
      unfold dimL at h
      rw [beq_iff_eq]
      have h2 : onesZ x - 1 = xs.foldl (fun a x => max a (onesZ x - 1)) (-1) := h1
      omega
  | e + 1, j, h => by
    have ih := of_some hi e (j + 1) (by omega)
    obtain ⟨f, hf⟩ := List.exists_mem_of_length_pos ih
    obtain ⟨h1, h2⟩ := ofL_mem hf
    have r := isC_63 hi f h1
    obtain ⟨a, rfl⟩ := Int.eq_ofNat_of_zero_le (show 0 ≤ f by omega)
    have hb := List.all_eq_true.1 borders_some a (List.mem_range.2 (by omega))
    rw [Bool.or_eq_true] at hb
    rcases hb with hb | hb
    · have := of_decide_eq_true hb; omega
    · cases hl : bordersL (a : Int) with
      | nil => rw [hl] at hb; simp at hb
      | cons g gs => exact List.length_pos_of_mem (border_of hi hf (by rw [hl]; simp : g ∈ bordersL (a : Int)))
theorem filter_nodup {xs : List Int} (h : Asc xs) (p : Int → Bool) : (xs.filter p).Nodup := by
  rw [List.nodup_iff_pairwise_ne]
  exact (h.filter p).imp (fun h => Int.ne_of_lt h)
set_option maxRecDepth 100000 in
set_option maxHeartbeats 4000000 in
theorem rankOf_c (n : Int) (A : Option Addr) (c : Nat) (xs : List Int) (d : Int) (w : World) (hr : RC w A xs.length xs) (hc : xs.length ≤ c) (hi : isC n xs = true) :
    Calls Try.prog 105 #[.agg #[.int .i64 n, .slice A xs.length c], .int .i64 d, .int .i64 2] w fun e w' => e = .returned (.int .i64 (rankS xs d)) ∧ Below w.heap.size w w' := by
  have hsm := isC_small hi
  obtain ⟨kd, hkd⟩ := (ev_dimO hi).rounds
  have HX := Aside0.mk (CxAt.new w n A xs.length c)
  have HB := Aside0.mk (below_alloc (Below.refl w.heap.size w) (.cells #[.int .i64 n, .slice A xs.length c] 28))
  have HR := Aside0.mk hr
  have HC := Aside0.mk hc
  have hx0 := HX.out.c0
  have hx1 := HX.out.c1
  clear hr hc
  by_cases h1 : d < 1
  · have HZ : Aside0 (rankS xs d = 0) := ⟨by unfold rankS; rw [if_pos (.inl h1)]⟩
    rw [HZ.out]
    clear hkd
    go_enter Try.func105, Try.ntmps105
    go_wp2
    go_ret
    exact ⟨rfl, HB.out⟩
  · by_cases h2 : dimL xs < d
    · have HZ : Aside0 (rankS xs d = 0) := ⟨by unfold rankS; rw [if_pos (.inr h2)]⟩
      rw [HZ.out]
      have HKD := Aside0.mk hkd
      generalize dimL xs = dm at h2 HKD
      clear hkd
      go_enter Try.func105, Try.ntmps105
      go_wp2_with (go_at_call 103; refine (QS.spec_l01Dim.calls kd n A c xs dm _ (Kd.C_below HR.out HB.out) HC.out HKD.out).mono ?_; rintro e w1 ⟨rfl, hb⟩)
      go_ret
      exact ⟨rfl, below_in HB.out hb⟩
    · obtain ⟨j, rfl⟩ : ∃ j : Nat, d = ((j + 1 : Nat) : Int) := ⟨(d - 1).toNat, by omega⟩
      have hdl : dimL xs ≤ 5 := by
        rcases foldmax_hit (fun x => onesZ x - 1) xs (-1) with h | ⟨x, hx, h⟩
        · unfold dimL; omega
        · have h3 : onesZ x - 1 = xs.foldl (fun a x => max a (onesZ x - 1)) (-1) := h
          have := ones_le x
          unfold dimL; omega
      have HZ : Aside0 (rankS xs ((j + 1 : Nat) : Int) = ((elimAll id (matZ (ofL xs j) (ofL xs (j + 1)) bordersL) (ofL xs j).length).2 : Int)) := ⟨by unfold rankS; rw [if_neg (by omega)]; simp⟩
      rw [HZ.out]
      obtain ⟨K1, hK1⟩ := ev_ofO hi (j + 1) (by omega)
      obtain ⟨K2, hK2⟩ := ev_ofO hi j (by omega)
      have h63 := isC_63 hi
      obtain ⟨K3, hK3⟩ := ev_list (g := fun x k => QS.spec_l01Below.f k x) (Q := fun x r => r = bordersL x) (ofL xs (j + 1)) (fun x hx => ⟨_, ev_below (h63 x (ofL_mem hx).1).1 (h63 x (ofL_mem hx).1).2, rfl⟩)
      obtain ⟨K4, hK4⟩ := ev_list (g := fun x k => QS.spec_l03Signs.f k x) (Q := fun x r => r = sigL x) (ofL xs (j + 1)) (fun x hx => ⟨_, ev_signs (h63 x (ofL_mem hx).1).1 (h63 x (ofL_mem hx).1).2, rfl⟩)
      have hnd : (ofL xs j).Nodup := filter_nodup (ascB_asc (isC_of hi).2.1) _
      have hfl : ∀ q, (ofL xs q).length ≤ xs.length := fun q => List.length_filter_le _ _
      obtain ⟨K5, hK5⟩ := ev_list (g := fun x k => QS.spec_l03Place.f k (ofL xs j) x) (Q := fun x r => ∃ p : Nat, r = (p : Int) ∧ ∃ h : p < (ofL xs j).length, (ofL xs j)[p] = x) (ofL xs j) (fun x hx => by
        obtain ⟨p, hp1, hp2⟩ := ev_place (by have := hfl j; omega) hnd hx
        exact ⟨_, hp1, p, rfl, hp2⟩)
      obtain ⟨k, hk⟩ : ∃ k, K1 ≤ k ∧ K2 ≤ k ∧ K3 ≤ k ∧ K4 ≤ k ∧ K5 ≤ k := ⟨K1 + K2 + K3 + K4 + K5, by omega⟩
      have hF := hK1 k hk.1
      have hC := hK2 k hk.2.1
      have hn1 : 0 < (ofL xs (j + 1)).length := of_some hi (dimL xs - ((j + 1 : Nat) : Int)).toNat (j + 1) (by omega)
      have hn2 : 0 < (ofL xs j).length := of_some hi (dimL xs - (j : Int)).toNat j (by omega)
      have hb2 : Below w.heap.size w (w.alloc (.cells #[.int .i64 n, .slice A xs.length c] 28)) := HB.out
      have hrows := rows2_c k n A c xs ((j + 1 : Nat) : Int) (ofL xs (j + 1)) (ofL xs j) bordersL
      have HROWS : Aside0 (∀ W : World, RC W A xs.length xs → Calls Try.prog 151 #[.agg #[.int .i64 n, .slice A xs.length c], .int .i64 ((j + 1 : Nat) : Int), .int .i64 2] W (RowsPost W (ofL xs j).length (matZ (ofL xs j) (ofL xs (j + 1)) bordersL))) := ⟨fun W hW => hrows W hW HC.out (by omega) hF (by rw [show ((j + 1 : Nat) : Int) - 1 = (j : Int) by omega]; exact hC)
        (fun f hf => by
          obtain ⟨r1, e1, rfl⟩ := hK3 k hk.2.2.1 f hf
          obtain ⟨r2, e2, rfl⟩ := hK4 k hk.2.2.2.1 f hf
          have hsf := sig_facts (h63 f (ofL_mem hf).1).1 (h63 f (ofL_mem hf).1).2
          exact ⟨e1, _, e2, hsf.1, hsf.2.1⟩)
        (fun f hf g hg => by
          obtain ⟨r, e, p, rfl, h⟩ := hK5 k hk.2.2.2.2 g (border_of hi hf hg)
          exact ⟨p, e, h⟩)
        hnd (by have := hfl (j + 1); omega) (by have := hfl j; omega) (fun f hf => by have := borders_len6 (f := f); omega)⟩
      have hML : (matZ (ofL xs j) (ofL xs (j + 1)) bordersL).length = (ofL xs (j + 1)).length := by unfold matZ; simp
      have hMB := matZ_bits (ofL xs j) (ofL xs (j + 1)) bordersL
      have hl1 := hfl (j + 1)
      have hl2 := hfl j
      generalize matZ (ofL xs j) (ofL xs (j + 1)) bordersL = M at HROWS hML hMB ⊢
      generalize (ofL xs j).length = m at HROWS hn2 hl2 ⊢
      generalize (ofL xs (j + 1)).length = nn at hn1 hML hl1
      have HKD := Aside0.mk hkd
      have h2' : ¬ (dimL xs < ((j + 1 : Nat) : Int)) := h2
      generalize dimL xs = dm at h2' HKD
      have hj1 : ¬ (((j + 1 : Nat) : Int) < 1) := by omega
      generalize hjj : ((j + 1 : Nat) : Int) = dd at HROWS h2' hj1 ⊢
      have HMB := Aside0.mk hMB
      clear hkd hK1 hK2 hK3 hK4 hK5 hk hF hC hrows hnd hfl h63 hMB HZ h1 h2 hdl hjj hb2
      go_enter Try.func105, Try.ntmps105
      go_wp2_with (first
        | (go_at_call 103; refine (QS.spec_l01Dim.calls kd n A c xs dm _ (Kd.C_below HR.out HB.out) HC.out HKD.out).mono ?_; rintro e w1 ⟨rfl, hb⟩; have HB1 := Aside0.mk (below_in HB.out hb); have HX1 := Aside0.mk (HX.out.below hb); have hy0 := HX1.out.c0; have hy1 := HX1.out.c1; clear hb hx0 hx1)
        | (go_at_call 151; refine (HROWS.out _ (Kd.C_below HR.out HB1.out)).mono ?_; rintro e w2 ⟨v, bs, rfl, ho, hin, hb⟩; obtain ⟨b, cap, rfl, hall⟩ := MxAll.of ho hin HMB.out (by omega); rw [hML] at hall ⊢; have HALL := Aside0.mk hall; have HB2 := Aside0.mk hb; clear ho hin hb hall)
        | (go_at_call 150; refine (rankS_c b cap nn m _ bs M _ HALL.out (by omega) (by omega) (by omega) (by omega) HB2.out.size).mono ?_; rintro e w3 ⟨rfl, hb⟩; have HB3 := Aside0.mk hb; clear hb))
      go_ret
      exact ⟨rfl, HB1.out.trans ((HB2.out.trans HB3.out).mono HB1.out.size)⟩
end Go.Proofs.Ytomdfjohnmikdaa.Im
namespace Go.Proofs.Ytomdfjohnmikdaa.Im
set_option linter.unusedVariables false
set_option linter.unusedSimpArgs false
open Go.RowKit Go.Shelf Go.Proofs.Ytomdfjohnmikdaa.Ext Go.Proofs.Ytomdfjohnmikdaa.Cw Go.Proofs.Ytomdfjohnmikdaa.Pu Go.Proofs.YtomdfjohnmikdaaW.PrintWords Go.Proofs.YtomdfjohnmikdaaW.PrintLast Go.Proofs.YtomdfjohnmikdaaW.PrintMore
theorem okDomRk {l : List Int} (h : ∀ x ∈ l, 1 ≤ x ∧ x ≤ 63) (a : Pred) : okDom a l = true := by
  rw [okDom, Bool.or_eq_true]
  refine .inr (List.all_eq_true.2 fun x hx => ?_)
  have := h x hx
  simp; omega
theorem dimO_eq {x : Int} (h0 : 0 ≤ x) (h6 : x ≤ 63) : QO.impl_dimension.f x = some (onesZ x - 1) :=
  (show QO.impl_dimension.f x = QI.impl_dimension.f x from rfl).trans (dim_eq h0 h6)
theorem ofO_f {n : Int} {l : List Int} (hi : isC n l = true) (d : Int) : QO.impl_Complex_of.f n l d = some (l.filter fun x => onesZ x - 1 == d) := by
  have hs := isC_small hi
  have hc : slices_Clone_int64_int64.f l = some l := by unfold slices_Clone_int64_int64.f; rw [if_pos (by omega)]
  obtain ⟨s1, _, p1⟩ := ofI_face (f := fun x => QO.impl_Complex_of_1.f x d) (p := fun x => onesZ x - 1 != d) fun x h0 h6 => by
    unfold QO.impl_Complex_of_1.f
    rw [dimO_eq h0 h6]; rfl
  have hdl : slices_DeleteFunc_int64_int64.f l (QO.clo_186 d) = some (l.filter fun x => onesZ x - 1 == d) := by
    unfold slices_DeleteFunc_int64_int64.f
    rw [if_pos ⟨by omega, s1, okDomRk (isC_63 hi) _⟩]
    congr 1
    refine List.filter_congr fun x hx => ?_
    have := isC_63 hi x hx
    show (!(Pred.ofI (fun x => QO.impl_Complex_of_1.f x d)).pI x) = _
    rw [p1 x (by omega) (by omega)]
    simp [bne]
  unfold QO.impl_Complex_of.f
  rw [hc, Option.bind_some, hdl, Option.bind_some]
theorem ofO_L {n : Int} {l : List Int} (hi : isC n l = true) (j : Nat) : QO.impl_Complex_of.f n l (j : Int) = some (ofL l j) := by
  rw [ofO_f hi]
  congr 1
  unfold ofL
  refine List.filter_congr fun x _ => ?_
  rw [Bool.eq_iff_iff, beq_iff_eq, beq_iff_eq]
  omega
theorem ones_pos : ((List.range 64).all fun f => f == 0 || decide (1 ≤ onesZ (f : Int))) = true := by decide +kernel
theorem ofO_low {n : Int} {l : List Int} (hi : isC n l = true) : QO.impl_Complex_of.f n l (-1) = some [] := by
  rw [ofO_f hi]
  congr 1
  rw [List.filter_eq_nil_iff]
  intro x hx
  have r := isC_63 hi x hx
  obtain ⟨a, rfl⟩ := Int.eq_ofNat_of_zero_le (show 0 ≤ x by omega)
  have h := List.all_eq_true.1 ones_pos a (List.mem_range.2 (by omega))
  rw [Bool.or_eq_true] at h
  rcases h with h | h
  · have := eq_of_beq h; omega
  · have := of_decide_eq_true h
    rw [beq_iff_eq]; omega
theorem half_w {i j : Nat} (hi : i ≤ 1000000) (hj : j ≤ 1000000) : wrap64 ((IntKind.u64.wrap (wrap64 ((i : Int) + (j : Int)))) / 2) = (((i + j) / 2 : Nat) : Int) := by
  rw [w64_ (x := (i : Int) + (j : Int)) (by omega) (by omega)]
  rw [show IntKind.u64.wrap ((i : Int) + (j : Int)) = (i : Int) + (j : Int) by rw [IntKind.wrap_u64]; omega]
  rw [w64_ (by omega) (by omega)]
  omega
theorem lessO_f (a b : Int) : QO.cmp_Less_int64.f a b = some (decide (a < b)) := by
  unfold QO.cmp_Less_int64.f QO.cmp_isNaN_int64.f
  simp
theorem less_at {C : List Int} (hA : C.Pairwise (· < ·)) {g : Int} {p h : Nat} (hp : p < C.length) (hg : C[p] = g) (hh : h < C.length) : QO.cmp_Less_int64.f (rd C (h : Int)) g = some (decide (h < p)) := by
  rw [lessO_f, rd_at' hh, ← hg]
  congr 1
  rw [decide_eq_decide]
  rcases Nat.lt_trichotomy h p with h1 | h1 | h1
  · exact ⟨fun _ => h1, fun _ => List.pairwise_iff_getElem.1 hA h p hh hp h1⟩
  · subst h1
    exact ⟨fun h => absurd h (Int.lt_irrefl _), fun h => absurd h (Nat.lt_irrefl _)⟩
  · have := List.pairwise_iff_getElem.1 hA p h hp hh h1
    exact ⟨fun h => by omega, fun h => by omega⟩
theorem bs_loop {C : List Int} (hA : C.Pairwise (· < ·)) (hl : C.length ≤ 1000000) {g : Int} {p : Nat} (hp : p < C.length) (hg : C[p] = g) : ∀ d (i j : Nat), j - i = d → i ≤ p → p ≤ j → j ≤ C.length →
    Ev (fun k => QO.slices_BinarySearch_int64_int64.l0 k C g (C.length : Int) i j) ((p : Int), true) := by
  intro d
  induction d using Nat.strongRecOn with
  | _ d ih =>
    intro i j hd h1 h2 h3
    by_cases hij : i < j
    · have hh : (i + j) / 2 < C.length := by omega
      have hless := less_at hA hp hg hh
      by_cases hlt : (i + j) / 2 < p
      · refine Ev.step (fun k => ?_) (ih (j - ((i + j) / 2 + 1)) (by omega) ((i + j) / 2 + 1) j rfl (by omega) h2 h3)
        simp only [QO.slices_BinarySearch_int64_int64.l0]
        rw [if_pos (by omega), half_w (by omega) (by omega), if_pos (by omega), if_pos (by omega), hless, Option.bind_some, if_pos (by simpa using hlt)]
        rw [show wrap64 (((((i + j) / 2 : Nat)) : Int) + 1) = (((i + j) / 2 + 1 : Nat) : Int) by rw [w64_ (by omega) (by omega)]; omega]
      · refine Ev.step (fun k => ?_) (ih ((i + j) / 2 - i) (by omega) i ((i + j) / 2) rfl h1 (by omega) (by omega))
        simp only [QO.slices_BinarySearch_int64_int64.l0]
        rw [if_pos (by omega), half_w (by omega) (by omega), if_pos (by omega), if_pos (by omega), hless, Option.bind_some, if_neg (by simpa using hlt)]
    · obtain rfl : i = p := by omega
      obtain rfl : j = i := by omega
      refine Ev.step (f := fun k => some ((j : Int), true)) (fun k => ?_) (Ev.now _)
      simp only [QO.slices_BinarySearch_int64_int64.l0]
      rw [if_neg (by omega), if_pos (by omega), if_pos (by omega), if_pos (by omega), rd_at' hp, if_pos hg]
theorem ev_bs {C : List Int} (hA : C.Pairwise (· < ·)) (hl : C.length ≤ 1000000) {g : Int} (hg : g ∈ C) : ∃ p : Nat, Ev (fun k => QO.slices_BinarySearch_int64_int64.f k C g) ((p : Int), true) ∧ ∃ h : p < C.length, C[p] = g := by
  obtain ⟨p, hp, he⟩ := List.mem_iff_getElem.1 hg
  exact ⟨p, bs_loop hA hl hp he _ 0 C.length rfl (Nat.zero_le _) (by omega) (Nat.le_refl _), hp, he⟩
theorem sigO_all : ((List.range 64).all fun f => f == 0 || (QO.impl_signs.f 20 (f : Int) == some (if onesZ (f : Int) ≤ 1 then [] else sigL (f : Int)))) = true := by decide +kernel
theorem ev_sigO {f : Int} (h1 : 1 ≤ f) (h2 : f ≤ 63) : ∃ S, Ev (fun k => QO.impl_signs.f k f) S ∧ S.length = (bordersL f).length ∧ ∀ s ∈ S, s = 1 ∨ s = -1 := by
  have hf := sig_facts h1 h2
  obtain ⟨a, rfl⟩ := Int.eq_ofNat_of_zero_le (show 0 ≤ f by omega)
  have h := List.all_eq_true.1 sigO_all a (List.mem_range.2 (by omega))
  rw [Bool.or_eq_true] at h
  rcases h with h | h
  · have := eq_of_beq h; omega
  · have hs : (if onesZ (a : Int) ≤ 1 then [] else sigL (a : Int)) = sigL (a : Int) := by
      unfold sigL
      by_cases h0 : onesZ (a : Int) ≤ 1
      · rw [if_pos h0, if_pos h0]
      · rw [if_neg h0, if_neg h0]
    have h' := eq_of_beq h
    rw [hs] at h'
    exact ⟨sigL (a : Int), Ev.of (fun k => QO.impl_signs.mono _ k) h', hf.1, hf.2.1⟩
theorem low_all : ((List.range 64).all fun f => decide (1 < onesZ (f : Int)) || (bordersL (f : Int)).isEmpty) = true := by decide +kernel
theorem low_borders {f : Int} (h1 : 1 ≤ f) (h2 : f ≤ 63) (h3 : onesZ f = 1) : bordersL f = [] := by
  obtain ⟨a, rfl⟩ := Int.eq_ofNat_of_zero_le (show 0 ≤ f by omega)
  have h := List.all_eq_true.1 low_all a (List.mem_range.2 (by omega))
  rw [Bool.or_eq_true] at h
  rcases h with h | h
  · have := of_decide_eq_true h; omega
  · simpa using h
theorem foldmax_ge (g : Int → Int) : ∀ (l : List Int) (a : Int), a ≤ l.foldl (fun a x => max a (g x)) a ∧ ∀ x ∈ l, g x ≤ l.foldl (fun a x => max a (g x)) a
  | [], a => ⟨Int.le_refl _, fun x hx => by cases hx⟩
  | x :: l, a => by
    rw [List.foldl_cons]
    obtain ⟨h1, h2⟩ := foldmax_ge g l (max a (g x))
    refine ⟨by have := Int.le_max_left a (g x); omega, fun y hy => ?_⟩
    rcases List.mem_cons.1 hy with rfl | hy
    · have := Int.le_max_right a (g y); omega
    · exact h2 y hy
theorem of_above {xs : List Int} {j : Nat} (h : dimL xs < (j : Int)) : ofL xs j = [] := by
  unfold ofL
  rw [List.filter_eq_nil_iff]
  intro x hx
  have := (foldmax_ge (fun x => onesZ x - 1) xs (-1)).2 x hx
  have h2 : onesZ x - 1 ≤ dimL xs := this
  rw [beq_iff_eq]; omega
theorem rank_c (n : Int) (A : Option Addr) (c : Nat) (xs : List Int) (d : Int) (w : World) (hr : RC w A xs.length xs) (hc : xs.length ≤ c) (hi : isC n xs = true) (h0 : 0 ≤ d) (hd : d ≤ 100) :
    Calls Try.prog 109 #[.agg #[.int .i64 n, .slice A xs.length c], .int .i64 d, .int .i64 2] w fun e w' => e = .returned (.int .i64 (rankS xs d)) ∧ Below w.heap.size w w' := by
  have hsm := isC_small hi
  have h63 := isC_63 hi
  have hfl : ∀ q, (ofL xs q).length ≤ xs.length := fun q => List.length_filter_le _ _
  have hasc : ∀ q, (ofL xs q).Pairwise (· < ·) := fun q => List.Pairwise.filter _ (ascB_asc (isC_of hi).2.1)
  have hnd : ∀ q, (ofL xs q).Nodup := fun q => filter_nodup (ascB_asc (isC_of hi).2.1) _
  have hbl : ∀ f, (bordersL f).length ≤ 1000 := fun f => by have := borders_len6 (f := f); omega
  have hbf : ∀ f, impl_borders.f f = some (bordersL f) := fun f => rfl
  obtain ⟨j, rfl⟩ := Int.eq_ofNat_of_zero_le h0
  obtain ⟨K1, hK1⟩ := ev_list (g := fun x k => QO.impl_signs.f k x) (Q := fun x r => r.length = (bordersL x).length ∧ ∀ s ∈ r, s = 1 ∨ s = -1) (ofL xs j) (fun x hx => by
    obtain ⟨S, s1, s2, s3⟩ := ev_sigO (h63 x (ofL_mem hx).1).1 (h63 x (ofL_mem hx).1).2
    exact ⟨S, s1, s2, s3⟩)
  cases j with
  | zero =>
    have := rankI_c K1 n A c xs ((0 : Nat) : Int) (ofL xs 0) [] bordersL w hr hc (by omega) (ofO_L hi 0) (ofO_low hi)
      (fun f hf => ⟨hbf f, by obtain ⟨S, s1, s2, s3⟩ := hK1 K1 (Nat.le_refl _) f hf; exact ⟨S, s1, s2, s3⟩⟩)
      (fun f hf g hg => by
        obtain ⟨h1, h2⟩ := ofL_mem hf
        rw [low_borders (h63 f h1).1 (h63 f h1).2 (by omega)] at hg
        cases hg) List.nodup_nil (by have := hfl 0; omega) (by simp) (fun f _ => hbl f)
    rw [show rankS xs ((0 : Nat) : Int) = 0 by unfold rankS; rw [if_pos (.inl (by omega))]]
    exact this
  | succ j =>
    obtain ⟨K2, hK2⟩ := ev_list (g := fun x k => QO.slices_BinarySearch_int64_int64.f k (ofL xs j) x) (Q := fun x r => ∃ p : Nat, r = ((p : Int), true) ∧ ∃ h : p < (ofL xs j).length, (ofL xs j)[p] = x) (ofL xs j) (fun x hx => by
      obtain ⟨p, hp1, hp2⟩ := ev_bs (hasc j) (by have := hfl j; omega) hx
      exact ⟨_, hp1, p, rfl, hp2⟩)
    obtain ⟨k, hk1, hk2⟩ : ∃ k, K1 ≤ k ∧ K2 ≤ k := ⟨K1 + K2, by omega, by omega⟩
    have := rankI_c k n A c xs ((j + 1 : Nat) : Int) (ofL xs (j + 1)) (ofL xs j) bordersL w hr hc (by omega) (ofO_L hi (j + 1)) (by rw [show ((j + 1 : Nat) : Int) - 1 = (j : Int) by omega]; exact ofO_L hi j)
      (fun f hf => ⟨hbf f, by obtain ⟨S, s1, s2, s3⟩ := hK1 k hk1 f hf; exact ⟨S, s1, s2, s3⟩⟩)
      (fun f hf g hg => by
        obtain ⟨r, e, p, rfl, h⟩ := hK2 k hk2 g (border_of hi hf hg)
        exact ⟨p, e, h⟩) (hnd j) (by have := hfl (j + 1); omega) (by have := hfl j; omega) (fun f _ => hbl f)
    have hS : ((elimAll (fun _ => 0) (matZ (ofL xs j) (ofL xs (j + 1)) bordersL) (ofL xs j).length).2 : Int) = rankS xs ((j + 1 : Nat) : Int) := by
      by_cases hda : dimL xs < ((j + 1 : Nat) : Int)
      · rw [of_above hda, show matZ (ofL xs j) [] bordersL = [] from rfl, elimAll_nil]
        unfold rankS
        rw [if_pos (.inr hda)]
        rfl
      · unfold rankS
        rw [if_neg (by omega), ← elim_same (lo := fun _ => 0) (fun _ => Nat.zero_le _) (matZ_bits _ _ _) (fun row hrow => by
          unfold matZ at hrow
          obtain ⟨f, _, rfl⟩ := List.mem_map.1 hrow
          exact rowTo_len _ _ _)]
        simp
    rw [hS] at this
    exact this
end Go.Proofs.Ytomdfjohnmikdaa.Im
namespace Go.Proofs.Ytomdfjohnmikdaa.Ext
set_option linter.unusedVariables false
set_option linter.unusedSimpArgs false
open Go.RowKit Go.Proofs.Ytomdfjohnmikdaa.Im  Go.Proofs.YtomdfjohnmikdaaW.PrintWords Go.Proofs.YtomdfjohnmikdaaW.PrintLast Go.Proofs.YtomdfjohnmikdaaW.PrintMore
def spec_l03RankOf.f (a0_0 : Int) (l0_1 : List Int) (a1 : Int) (a2 : Int) : Option (Int) := if isC a0_0 l0_1 = true ∧ a2 = 2 then some (rankS l0_1 a1) else none
theorem spec_l03RankOf.calls (a0_0 : Int) (A0_1 : Option Addr) (c0_1 : Nat) (l0_1 : List Int) (a1 : Int) (a2 : Int) (r : Int) (w : World) (hr0_1 : Kd.C (Kd.int .i64) w A0_1 l0_1.length l0_1) (_hc0_1 : l0_1.length ≤ c0_1) (h : spec_l03RankOf.f a0_0 l0_1 a1 a2 = some r) :
    Calls Try.prog 105 #[.agg #[.int .i64 a0_0, .slice A0_1 l0_1.length c0_1], .int .i64 a1, .int .i64 a2] w fun e w' => e = .returned (.int .i64 r) ∧ Below w.heap.size w w' := by
  unfold spec_l03RankOf.f at h
  by_cases hl : isC a0_0 l0_1 = true ∧ a2 = 2
  · rw [if_pos hl] at h
    have hd := Option.some.inj h
    obtain ⟨hi, rfl⟩ := hl
    rw [← hd]
    exact rankOf_c a0_0 A0_1 c0_1 l0_1 a1 w hr0_1 _hc0_1 hi
  · rw [if_neg hl] at h; cases h
end Go.Proofs.Ytomdfjohnmikdaa.Ext
namespace Go.Proofs.Ytomdfjohnmikdaa.Im
set_option linter.unusedVariables false
set_option linter.unusedSimpArgs false
open Go.RowKit Go.Shelf Go.Proofs.Ytomdfjohnmikdaa.Kp Go.Proofs.Ytomdfjohnmikdaa.Ext Go.Proofs.Ytomdfjohnmikdaa.Cw Go.Proofs.YtomdfjohnmikdaaW.PrintWords Go.Proofs.YtomdfjohnmikdaaW.PrintLast Go.Proofs.YtomdfjohnmikdaaW.PrintMore
end Go.Proofs.Ytomdfjohnmikdaa.Im
namespace Go.Proofs.Ytomdfjohnmikdaa.Ext
set_option linter.unusedVariables false
set_option linter.unusedSimpArgs false
open Go.RowKit Go.Proofs.Ytomdfjohnmikdaa.Im Go.Proofs.Ytomdfjohnmikdaa.Kp Go.Proofs.YtomdfjohnmikdaaW.PrintWords Go.Proofs.YtomdfjohnmikdaaW.PrintLast Go.Proofs.YtomdfjohnmikdaaW.PrintMore
end Go.Proofs.Ytomdfjohnmikdaa.Ext
namespace Go.Proofs.Ytomdfjohnmikdaa.Ext
open Go.RowKit Go.Proofs.Ytomdfjohnmikdaa.Im Go.Proofs.Ytomdfjohnmikdaa.Kp Go.Proofs.YtomdfjohnmikdaaW.PrintWords Go.Proofs.YtomdfjohnmikdaaW.PrintLast Go.Proofs.YtomdfjohnmikdaaW.PrintMore
end Go.Proofs.Ytomdfjohnmikdaa.Ext
namespace Go.Proofs.Ytomdfjohnmikdaa.Ext
set_option linter.unusedVariables false
set_option linter.unusedSimpArgs false
open Go.RowKit Go.Proofs.Ytomdfjohnmikdaa.Im  Go.Proofs.YtomdfjohnmikdaaW.PrintWords Go.Proofs.YtomdfjohnmikdaaW.PrintLast Go.Proofs.YtomdfjohnmikdaaW.PrintMore
def impl_Complex_dimension.f (a0_0 : Int) (l0_1 : List Int) : Option (Int) := if isC a0_0 l0_1 = true then some (dimL l0_1) else none
theorem impl_Complex_dimension.calls (a0_0 : Int) (A0_1 : Option Addr) (c0_1 : Nat) (l0_1 : List Int) (r : Int) (w : World) (hr0_1 : Kd.C (Kd.int .i64) w A0_1 l0_1.length l0_1) (_hc0_1 : l0_1.length ≤ c0_1) (h : impl_Complex_dimension.f a0_0 l0_1 = some r) :
    Calls Try.prog 56 #[.agg #[.int .i64 a0_0, .slice A0_1 l0_1.length c0_1]] w fun e w' => e = .returned (.int .i64 r) ∧ Below w.heap.size w w' := by
  unfold impl_Complex_dimension.f at h
  by_cases hl : isC a0_0 l0_1 = true
  · rw [if_pos hl] at h
    have hd := Option.some.inj h
    rw [← hd]
    exact dimension_c a0_0 A0_1 c0_1 l0_1 w hr0_1 _hc0_1 hl
  · rw [if_neg hl] at h; cases h
end Go.Proofs.Ytomdfjohnmikdaa.Ext
namespace Go.Proofs.Ytomdfjohnmikdaa.Ext
set_option linter.unusedVariables false
set_option linter.unusedSimpArgs false
open Go.RowKit Go.Proofs.Ytomdfjohnmikdaa.Im  Go.Proofs.YtomdfjohnmikdaaW.PrintWords Go.Proofs.YtomdfjohnmikdaaW.PrintLast Go.Proofs.YtomdfjohnmikdaaW.PrintMore
def impl_Complex_rank.f (a0_0 : Int) (l0_1 : List Int) (a1 : Int) (a2 : Int) : Option (Int) := if isC a0_0 l0_1 = true ∧ 0 ≤ a1 ∧ a1 ≤ 100 ∧ a2 = 2 then some (rankS l0_1 a1) else none
theorem impl_Complex_rank.calls (a0_0 : Int) (A0_1 : Option Addr) (c0_1 : Nat) (l0_1 : List Int) (a1 : Int) (a2 : Int) (r : Int) (w : World) (hr0_1 : Kd.C (Kd.int .i64) w A0_1 l0_1.length l0_1) (_hc0_1 : l0_1.length ≤ c0_1) (h : impl_Complex_rank.f a0_0 l0_1 a1 a2 = some r) :
    Calls Try.prog 109 #[.agg #[.int .i64 a0_0, .slice A0_1 l0_1.length c0_1], .int .i64 a1, .int .i64 a2] w fun e w' => e = .returned (.int .i64 r) ∧ Below w.heap.size w w' := by
  unfold impl_Complex_rank.f at h
  by_cases hl : isC a0_0 l0_1 = true ∧ 0 ≤ a1 ∧ a1 ≤ 100 ∧ a2 = 2
  · rw [if_pos hl] at h
    have hd := Option.some.inj h
    obtain ⟨hi, h0, h1, rfl⟩ := hl
    rw [← hd]
    exact rank_c a0_0 A0_1 c0_1 l0_1 a1 w hr0_1 _hc0_1 hi h0 h1
  · rw [if_neg hl] at h; cases h
end Go.Proofs.Ytomdfjohnmikdaa.Ext
namespace Go.Proofs.Ytomdfjohnmikdaa.QE
open Go.Proofs.Ytomdfjohnmikdaa.Cw Go.Proofs.Ytomdfjohnmikdaa.Kp Go.Proofs.Ytomdfjohnmikdaa.Ext Go.RowKit Go.Proofs.YtomdfjohnmikdaaW.PrintWords Go.Proofs.YtomdfjohnmikdaaW.PrintLast Go.Proofs.YtomdfjohnmikdaaW.PrintMore
attribute [local go_sem] max2_int min2_int max_two min_two max_three min_three max_four min_four   -- for this text's walks alone
set_option linter.unusedVariables false
set_option linter.unusedSimpArgs false
def errW : Option Int → Value
 | none => .nilIface
 | some c => .iface 0 (.int .i64 c)
theorem errW_none : errW none = .nilIface := rfl
theorem errW_some (c : Int) : errW (some c) = .iface 0 (.int .i64 c) := rfl
theorem info2 : (Try.prog.info? 2).map (fun i => (i.zero, i.size, i.bytes)) = some (some (.int .i64 0), 1, 8) := by kernel_rfl
end Go.Proofs.Ytomdfjohnmikdaa.QE
namespace Go.Proofs.Ytomdfjohnmikdaa.QE
open Go.Proofs.Ytomdfjohnmikdaa.Cw Go.Proofs.Ytomdfjohnmikdaa.Kp Go.Proofs.Ytomdfjohnmikdaa.Ext Go.RowKit Go.Proofs.YtomdfjohnmikdaaW.PrintWords Go.Proofs.YtomdfjohnmikdaaW.PrintLast Go.Proofs.YtomdfjohnmikdaaW.PrintMore
attribute [local go_sem] max2_int min2_int max_two min_two max_three min_three max_four min_four   -- for this text's walks alone
set_option linter.unusedVariables false
set_option linter.unusedSimpArgs false
def impl_length_int64.f (l0 : List Int) : Option (Int) := some (l0.length : Int)
set_option maxHeartbeats 8000000 in
set_option maxRecDepth 100000 in
theorem impl_length_int64.calls (A0 : Option Addr) (c0 : Nat) (l0 : List Int) (r : Int) (w : World) (hr0 : Kd.C (Kd.int .i64) w A0 l0.length l0) (hc0 : l0.length ≤ c0) (h : impl_length_int64.f l0 = some r) :
  Calls Try.prog 55 #[.slice A0 l0.length c0] w fun e w' => e = .returned (.int .i64 r) ∧ Drawn0 w w' := by
 have HR0 := Aside0.mk hr0
 have HC0 := Aside0.mk hc0
 clear hr0 hc0
 have H : (some (l0.length : Int)) = some r := h
 clear h
 obtain rfl := Option.some.inj H
 go_enter Try.func55, Try.ntmps55
 go_wp2
 go_ret
 exact ⟨by first | rfl | (simp; done) | (simp [*]; done), by repeat (first | exact Drawn0.refl _ | apply Drawn0.step)⟩
def impl_InequalitiesFor_1.f (l0_0 : List Int) (a1_0 : Int) (l1_1 : List Int) : Option (Bool) := (impl_length_int64.f l0_0).bind fun t103 => ((impl_Complex_dimension.f a1_0 l1_1).bind fun t104 => (if t103 = (wrap64 (t104 + 1)) then ((impl_areAll_int64.f l0_0 (fnp 58)).bind fun t105 => (some t105)) else (some false)))
def impl_InequalitiesFor_1.T1 : Bool × List (List Nat × List Nat) := (true, [([], []), ([0], [0]), ([], []), ([2, 1], [2]), ([3], [3]), ([1, 4], [1, 4]), ([5, 3], [5]), ([6], [6]), ([7, 6, 6], [6, 7]), ([6, 8], [6, 8]), ([9, 8, 0, 1, 2, 3, 4, 5, 6, 7, 8, 9], [9])])
def impl_InequalitiesFor_1.B1 : List Nat := [0, 1, 0, 7, 15, 31, 63, 127, 255, 511, 1023]
theorem impl_InequalitiesFor_1.tab1 : rtab .any (opsOf Try.f54 1) = impl_InequalitiesFor_1.T1 := by kernel_rfl
theorem impl_InequalitiesFor_1.bits1 : waitsOk impl_InequalitiesFor_1.T1.2 impl_InequalitiesFor_1.B1 = true := by kernel_rfl
set_option maxHeartbeats 8000000 in
set_option maxRecDepth 100000 in
theorem impl_InequalitiesFor_1.calls (g0 : Nat) (A0_0 : Option Addr) (c0_0 : Nat) (l0_0 : List Int) (g1 : Nat) (a1_0 : Int) (A1_1 : Option Addr) (c1_1 : Nat) (l1_1 : List Int) (r : Bool) (w : World) (hb0 : w.heap[g0]? = some (.cells #[.slice A0_0 l0_0.length c0_0] 22 (0, 0))) (hr0_0 : Kd.C (Kd.int .i64) w A0_0 l0_0.length l0_0) (hc0_0 : l0_0.length ≤ c0_0) (hb1 : w.heap[g1]? = some (.cells #[.int .i64 a1_0, .slice A1_1 l1_1.length c1_1] 28 (0, 0))) (hr1_1 : Kd.C (Kd.int .i64) w A1_1 l1_1.length l1_1) (hc1_1 : l1_1.length ≤ c1_1) (h : impl_InequalitiesFor_1.f l0_0 a1_0 l1_1 = some r) :
  Calls Try.prog 54 #[.pointer (some ⟨g0, 0, none⟩), .pointer (some ⟨g1, 0, none⟩)] w fun e w' => e = .returned (.bool r) ∧ Below w.heap.size w w' := by
 have hu28 := Try.underlying28
 have HR0_0 := Aside0.mk hr0_0
 have HC0_0 := Aside0.mk hc0_0
 clear hr0_0 hc0_0
 have HR1_1 := Aside0.mk hr1_1
 have HC1_1 := Aside0.mk hc1_1
 clear hr1_1 hc1_1
 have BK101 := Aside0.mk hb0
 clear hb0
 have BK102 := Aside0.mk hb1
 clear hb1
 have HB := Aside0.mk (Below.refl w.heap.size w)
 have H : ((impl_length_int64.f l0_0).bind fun t103 => ((impl_Complex_dimension.f a1_0 l1_1).bind fun t104 => (if t103 = (wrap64 (t104 + 1)) then ((impl_areAll_int64.f l0_0 (fnp 58)).bind fun t105 => (some t105)) else (some false)))) = some r := h
 clear h
 replace H := Option.bind_eq_some_iff.mp H
 obtain ⟨t103, A30, H⟩ := H
 try dsimp only at H
 have A3 := Aside0.mk A30
 clear A30
 replace H := Option.bind_eq_some_iff.mp H
 obtain ⟨t104, A40, H⟩ := H
 try dsimp only at H
 have A4 := Aside0.mk A40
 clear A40
 by_cases c5 : t103 = (wrap64 (t104 + 1))
 ·rw [if_pos c5] at H
  have c5b0 : (t103 == (wrap64 (t104 + 1))) = true := beq_iff_eq.mpr c5
  have c5b1 : (t103 != (wrap64 (t104 + 1))) = false := bne_eq_false_iff_eq.mpr c5
  clear c5
  replace H := Option.bind_eq_some_iff.mp H
  obtain ⟨t105, A60, H⟩ := H
  try dsimp only at H
  have A6 := Aside0.mk A60
  clear A60
  obtain rfl := Option.some.inj H
  go_enter Try.func54, Try.ntmps54
  try go_wp2
  replace BK101 := dB BK101
  replace BK102 := dB BK102
  replace HB := dH HB
  refine st_ 11 (S := fun w' => w'.cell? ⟨g0, 0, none⟩ = some (.slice A0_0 l0_0.length c0_0) ∧ w'.cell? ⟨g1, 0, none⟩ = some (.int .i64 a1_0) ∧ w'.cell? ⟨g1, 1, none⟩ = some (.slice A1_1 l1_1.length c1_1)) (ds := []) ⟨cB BK101 0, cB BK102 0, cB BK102 1⟩ (fun hHeld => ?_); refine with_tabW impl_InequalitiesFor_1.tab1 impl_InequalitiesFor_1.bits1 (fun HT_ HW_ => ?_)
  generalize w.drew = w7 at BK101 BK102 HB hHeld ⊢
  refine tk_ 0 3 1 HT_ HW_ hHeld ?_
  refine tk_ 2 5 5 HT_ HW_ hHeld ?_
  refine on_ 1 (some 4) 7 HT_ (fun K hK => ?_)
  refine ca_ Try.func55 #[.slice A0_0 l0_0.length c0_0] ?_
  with_reducible refine (impl_length_int64.calls _ _ l0_0 t103 _ ?side1 ?side2 A3.out).mono ?_
  (case side1 => exact pC ((Kd.C_below HR0_0.out HB.out)))
  (case side2 => exact HC0_0.out)
  rintro e w' ⟨rfl, ⟨nd, rfl⟩⟩
  refine ⟨_, rfl, ?_⟩
  refine hK.out _ _ ⟨cB BK101 0, cB BK102 0, cB BK102 1⟩ (fun hHeld => ?_)
  clear hK K
  refine nm_ ?_
  refine on_ 3 (some 6) 15 HT_ (fun K hK => ?_)
  refine ca_ Try.func56 #[.agg #[.int .i64 a1_0, .slice A1_1 l1_1.length c1_1]] ?_
  with_reducible refine (impl_Complex_dimension.calls a1_0 _ _ l1_1 t104 _ ?side1 ?side2 A4.out).mono ?_
  (case side1 => exact pC ((Kd.C_below HR1_1.out (pH HB))))
  (case side2 => exact HC1_1.out)
  rintro e w8 ⟨rfl, hb⟩
  refine ⟨_, rfl, ?_⟩
  replace BK101 := sB BK101 hb
  replace BK102 := sB BK102 hb
  replace HB := sH HB hb
  (try clear hb)
  (try clear hb2)
  (try clear hk)
  (try clear hi)
  refine hK.out _ _ ⟨cB BK101 0, cB BK102 0, cB BK102 1⟩ (fun hHeld => ?_)
  clear hK K
  refine nm_ ?_
  refine pu_ 4 7 31 HT_ ?_
  refine pu_ 5 8 63 HT_ ?_
  refine pu_ 6 9 127 HT_ ?_
  refine tk_ 7 10 255 HT_ HW_ hHeld ?_
  refine on_ 8 (some 11) 511 HT_ (fun K hK => ?_)
  refine ca_ Try.func57 #[.slice A0_0 l0_0.length c0_0, .func (.func 58) #[] #[]] ?_
  with_reducible refine (impl_areAll_int64.calls _ _ l0_0 _ (fnp 58) t105 _ ?side1 ?side2 ?side3 A6.out).mono ?_
  (case side1 => exact pC ((Kd.C_below HR0_0.out HB.out)))
  (case side2 => exact HC0_0.out)
  (case side3 => exact fnp_ok_58 _)
  rintro e w9 ⟨rfl, hb⟩
  refine ⟨_, rfl, ?_⟩
  replace BK101 := sB BK101 hb
  replace BK102 := sB BK102 hb
  replace HB := sH HB hb
  (try clear hb)
  (try clear hb2)
  (try clear hk)
  (try clear hi)
  refine hK.out _ _ ⟨cB BK101 0, cB BK102 0, cB BK102 1⟩ (fun hHeld => ?_)
  clear hK K
  refine nm_ ?_
  refine pu_ 9 12 1023 HT_ ?_
  refine pu_ 10 2 2047 HT_ ?_
  refine dn_ HT_ ?_
  try go_wp2
  go_ret
  exact ⟨by first | rfl | (simp [errW_none, errW_some] <;> rfl) | (simp [*, errW_none, errW_some] <;> rfl) | (exfalso; simp_all), pH HB⟩
 ·rw [if_neg c5] at H
  have c5b0 : (t103 == (wrap64 (t104 + 1))) = false := beq_eq_false_iff_ne.mpr c5
  have c5b1 : (t103 != (wrap64 (t104 + 1))) = true := bne_iff_ne.mpr c5
  obtain rfl := Option.some.inj H
  go_enter Try.func54, Try.ntmps54
  try go_wp2
  replace BK101 := dB BK101
  replace BK102 := dB BK102
  replace HB := dH HB
  refine st_ 11 (S := fun w' => w'.cell? ⟨g0, 0, none⟩ = some (.slice A0_0 l0_0.length c0_0) ∧ w'.cell? ⟨g1, 0, none⟩ = some (.int .i64 a1_0) ∧ w'.cell? ⟨g1, 1, none⟩ = some (.slice A1_1 l1_1.length c1_1)) (ds := []) ⟨cB BK101 0, cB BK102 0, cB BK102 1⟩ (fun hHeld => ?_); refine with_tabW impl_InequalitiesFor_1.tab1 impl_InequalitiesFor_1.bits1 (fun HT_ HW_ => ?_)
  generalize w.drew = w10 at BK101 BK102 HB hHeld ⊢
  refine tk_ 0 3 1 HT_ HW_ hHeld ?_
  refine tk_ 2 5 5 HT_ HW_ hHeld ?_
  refine on_ 1 (some 4) 7 HT_ (fun K hK => ?_)
  refine ca_ Try.func55 #[.slice A0_0 l0_0.length c0_0] ?_
  with_reducible refine (impl_length_int64.calls _ _ l0_0 t103 _ ?side1 ?side2 A3.out).mono ?_
  (case side1 => exact pC ((Kd.C_below HR0_0.out HB.out)))
  (case side2 => exact HC0_0.out)
  rintro e w' ⟨rfl, ⟨nd, rfl⟩⟩
  refine ⟨_, rfl, ?_⟩
  refine hK.out _ _ ⟨cB BK101 0, cB BK102 0, cB BK102 1⟩ (fun hHeld => ?_)
  clear hK K
  refine nm_ ?_
  refine on_ 3 (some 6) 15 HT_ (fun K hK => ?_)
  refine ca_ Try.func56 #[.agg #[.int .i64 a1_0, .slice A1_1 l1_1.length c1_1]] ?_
  with_reducible refine (impl_Complex_dimension.calls a1_0 _ _ l1_1 t104 _ ?side1 ?side2 A4.out).mono ?_
  (case side1 => exact pC ((Kd.C_below HR1_1.out (pH HB))))
  (case side2 => exact HC1_1.out)
  rintro e w11 ⟨rfl, hb⟩
  refine ⟨_, rfl, ?_⟩
  replace BK101 := sB BK101 hb
  replace BK102 := sB BK102 hb
  replace HB := sH HB hb
  (try clear hb)
  (try clear hb2)
  (try clear hk)
  (try clear hi)
  refine hK.out _ _ ⟨cB BK101 0, cB BK102 0, cB BK102 1⟩ (fun hHeld => ?_)
  clear hK K
  refine nm_ ?_
  refine pu_ 4 7 31 HT_ ?_
  refine pu_ 5 8 63 HT_ ?_
  refine pu_ 6 9 127 HT_ ?_
  refine pn_ 7 10 255 HT_ ?_
  refine pn_ 8 11 511 HT_ ?_
  refine pu_ 9 12 1023 HT_ ?_
  refine pu_ 10 2 2047 HT_ ?_
  refine dn_ HT_ ?_
  try go_wp2
  go_ret
  exact ⟨by first | rfl | (simp [errW_none, errW_some] <;> rfl) | (simp [*, errW_none, errW_some] <;> rfl) | (exfalso; simp_all), pH HB⟩
def clo_54 (l0_0 : List Int) (a1_0 : Int) (l1_1 : List Int) : Pred := Pred.ofU (impl_InequalitiesFor_1.f l0_0 a1_0 l1_1)
set_option maxRecDepth 100000 in
theorem clo_ok_54 {W : World} {g0 : Nat} {A0_0 : Option Addr} {c0_0 : Nat} {l0_0 : List Int} {g1 : Nat} {a1_0 : Int} {A1_1 : Option Addr} {c1_1 : Nat} {l1_1 : List Int} (hb0 : W.heap[g0]? = some (.cells #[.slice A0_0 l0_0.length c0_0] 22 (0, 0))) (hb1 : W.heap[g1]? = some (.cells #[.int .i64 a1_0, .slice A1_1 l1_1.length c1_1] 28 (0, 0))) (hr0_0 : Kd.C (Kd.int .i64) W A0_0 l0_0.length l0_0) (hc0_0 : l0_0.length ≤ c0_0) (hr1_1 : Kd.C (Kd.int .i64) W A1_1 l1_1.length l1_1) (hc1_1 : l1_1.length ≤ c1_1) : FnOk (.func (.func 54) #[] #[.pointer (some ⟨g0, 0, none⟩), .pointer (some ⟨g1, 0, none⟩)]) (clo_54 l0_0 a1_0 l1_1) W :=
 FnOk.ofU (enters_of Try.func54 (by kernel_rfl) rfl) (fun V b hV hr => by
  show Calls Try.prog 54 #[.pointer (some ⟨g0, 0, none⟩), .pointer (some ⟨g1, 0, none⟩)] V _
  exact (impl_InequalitiesFor_1.calls g0 A0_0 c0_0 l0_0 g1 a1_0 A1_1 c1_1 l1_1 b V ((hV.block g0 (blk_lt hb0)).trans hb0) (Kd.C_below hr0_0 hV) hc0_0 ((hV.block g1 (blk_lt hb1)).trans hb1) (Kd.C_below hr1_1 hV) hc1_1 hr).mono (fun e w' h_ => ⟨h_.1, h_.2⟩))
def bits_OnesCount64.f (a0 : Int) : Option (Int) := some (Go.bits .and .i64 (wrap64 (IntKind.u64.wrap ((IntKind.u64.wrap ((IntKind.u64.wrap ((Go.bits .and .u64 (IntKind.u64.wrap (((IntKind.u64.wrap ((Go.bits .and .u64 ((IntKind.u64.wrap ((Go.bits .and .u64 (a0 / 2) 6148914691236517205) + (Go.bits .and .u64 a0 6148914691236517205))) / 4) 3689348814741910323) + (Go.bits .and .u64 (IntKind.u64.wrap ((Go.bits .and .u64 (a0 / 2) 6148914691236517205) + (Go.bits .and .u64 a0 6148914691236517205))) 3689348814741910323))) / 16) + (IntKind.u64.wrap ((Go.bits .and .u64 ((IntKind.u64.wrap ((Go.bits .and .u64 (a0 / 2) 6148914691236517205) + (Go.bits .and .u64 a0 6148914691236517205))) / 4) 3689348814741910323) + (Go.bits .and .u64 (IntKind.u64.wrap ((Go.bits .and .u64 (a0 / 2) 6148914691236517205) + (Go.bits .and .u64 a0 6148914691236517205))) 3689348814741910323))))) 1085102592571150095) + ((Go.bits .and .u64 (IntKind.u64.wrap (((IntKind.u64.wrap ((Go.bits .and .u64 ((IntKind.u64.wrap ((Go.bits .and .u64 (a0 / 2) 6148914691236517205) + (Go.bits .and .u64 a0 6148914691236517205))) / 4) 3689348814741910323) + (Go.bits .and .u64 (IntKind.u64.wrap ((Go.bits .and .u64 (a0 / 2) 6148914691236517205) + (Go.bits .and .u64 a0 6148914691236517205))) 3689348814741910323))) / 16) + (IntKind.u64.wrap ((Go.bits .and .u64 ((IntKind.u64.wrap ((Go.bits .and .u64 (a0 / 2) 6148914691236517205) + (Go.bits .and .u64 a0 6148914691236517205))) / 4) 3689348814741910323) + (Go.bits .and .u64 (IntKind.u64.wrap ((Go.bits .and .u64 (a0 / 2) 6148914691236517205) + (Go.bits .and .u64 a0 6148914691236517205))) 3689348814741910323))))) 1085102592571150095) / 256))) + ((IntKind.u64.wrap ((Go.bits .and .u64 (IntKind.u64.wrap (((IntKind.u64.wrap ((Go.bits .and .u64 ((IntKind.u64.wrap ((Go.bits .and .u64 (a0 / 2) 6148914691236517205) + (Go.bits .and .u64 a0 6148914691236517205))) / 4) 3689348814741910323) + (Go.bits .and .u64 (IntKind.u64.wrap ((Go.bits .and .u64 (a0 / 2) 6148914691236517205) + (Go.bits .and .u64 a0 6148914691236517205))) 3689348814741910323))) / 16) + (IntKind.u64.wrap ((Go.bits .and .u64 ((IntKind.u64.wrap ((Go.bits .and .u64 (a0 / 2) 6148914691236517205) + (Go.bits .and .u64 a0 6148914691236517205))) / 4) 3689348814741910323) + (Go.bits .and .u64 (IntKind.u64.wrap ((Go.bits .and .u64 (a0 / 2) 6148914691236517205) + (Go.bits .and .u64 a0 6148914691236517205))) 3689348814741910323))))) 1085102592571150095) + ((Go.bits .and .u64 (IntKind.u64.wrap (((IntKind.u64.wrap ((Go.bits .and .u64 ((IntKind.u64.wrap ((Go.bits .and .u64 (a0 / 2) 6148914691236517205) + (Go.bits .and .u64 a0 6148914691236517205))) / 4) 3689348814741910323) + (Go.bits .and .u64 (IntKind.u64.wrap ((Go.bits .and .u64 (a0 / 2) 6148914691236517205) + (Go.bits .and .u64 a0 6148914691236517205))) 3689348814741910323))) / 16) + (IntKind.u64.wrap ((Go.bits .and .u64 ((IntKind.u64.wrap ((Go.bits .and .u64 (a0 / 2) 6148914691236517205) + (Go.bits .and .u64 a0 6148914691236517205))) / 4) 3689348814741910323) + (Go.bits .and .u64 (IntKind.u64.wrap ((Go.bits .and .u64 (a0 / 2) 6148914691236517205) + (Go.bits .and .u64 a0 6148914691236517205))) 3689348814741910323))))) 1085102592571150095) / 256))) / 65536))) + ((IntKind.u64.wrap ((IntKind.u64.wrap ((Go.bits .and .u64 (IntKind.u64.wrap (((IntKind.u64.wrap ((Go.bits .and .u64 ((IntKind.u64.wrap ((Go.bits .and .u64 (a0 / 2) 6148914691236517205) + (Go.bits .and .u64 a0 6148914691236517205))) / 4) 3689348814741910323) + (Go.bits .and .u64 (IntKind.u64.wrap ((Go.bits .and .u64 (a0 / 2) 6148914691236517205) + (Go.bits .and .u64 a0 6148914691236517205))) 3689348814741910323))) / 16) + (IntKind.u64.wrap ((Go.bits .and .u64 ((IntKind.u64.wrap ((Go.bits .and .u64 (a0 / 2) 6148914691236517205) + (Go.bits .and .u64 a0 6148914691236517205))) / 4) 3689348814741910323) + (Go.bits .and .u64 (IntKind.u64.wrap ((Go.bits .and .u64 (a0 / 2) 6148914691236517205) + (Go.bits .and .u64 a0 6148914691236517205))) 3689348814741910323))))) 1085102592571150095) + ((Go.bits .and .u64 (IntKind.u64.wrap (((IntKind.u64.wrap ((Go.bits .and .u64 ((IntKind.u64.wrap ((Go.bits .and .u64 (a0 / 2) 6148914691236517205) + (Go.bits .and .u64 a0 6148914691236517205))) / 4) 3689348814741910323) + (Go.bits .and .u64 (IntKind.u64.wrap ((Go.bits .and .u64 (a0 / 2) 6148914691236517205) + (Go.bits .and .u64 a0 6148914691236517205))) 3689348814741910323))) / 16) + (IntKind.u64.wrap ((Go.bits .and .u64 ((IntKind.u64.wrap ((Go.bits .and .u64 (a0 / 2) 6148914691236517205) + (Go.bits .and .u64 a0 6148914691236517205))) / 4) 3689348814741910323) + (Go.bits .and .u64 (IntKind.u64.wrap ((Go.bits .and .u64 (a0 / 2) 6148914691236517205) + (Go.bits .and .u64 a0 6148914691236517205))) 3689348814741910323))))) 1085102592571150095) / 256))) + ((IntKind.u64.wrap ((Go.bits .and .u64 (IntKind.u64.wrap (((IntKind.u64.wrap ((Go.bits .and .u64 ((IntKind.u64.wrap ((Go.bits .and .u64 (a0 / 2) 6148914691236517205) + (Go.bits .and .u64 a0 6148914691236517205))) / 4) 3689348814741910323) + (Go.bits .and .u64 (IntKind.u64.wrap ((Go.bits .and .u64 (a0 / 2) 6148914691236517205) + (Go.bits .and .u64 a0 6148914691236517205))) 3689348814741910323))) / 16) + (IntKind.u64.wrap ((Go.bits .and .u64 ((IntKind.u64.wrap ((Go.bits .and .u64 (a0 / 2) 6148914691236517205) + (Go.bits .and .u64 a0 6148914691236517205))) / 4) 3689348814741910323) + (Go.bits .and .u64 (IntKind.u64.wrap ((Go.bits .and .u64 (a0 / 2) 6148914691236517205) + (Go.bits .and .u64 a0 6148914691236517205))) 3689348814741910323))))) 1085102592571150095) + ((Go.bits .and .u64 (IntKind.u64.wrap (((IntKind.u64.wrap ((Go.bits .and .u64 ((IntKind.u64.wrap ((Go.bits .and .u64 (a0 / 2) 6148914691236517205) + (Go.bits .and .u64 a0 6148914691236517205))) / 4) 3689348814741910323) + (Go.bits .and .u64 (IntKind.u64.wrap ((Go.bits .and .u64 (a0 / 2) 6148914691236517205) + (Go.bits .and .u64 a0 6148914691236517205))) 3689348814741910323))) / 16) + (IntKind.u64.wrap ((Go.bits .and .u64 ((IntKind.u64.wrap ((Go.bits .and .u64 (a0 / 2) 6148914691236517205) + (Go.bits .and .u64 a0 6148914691236517205))) / 4) 3689348814741910323) + (Go.bits .and .u64 (IntKind.u64.wrap ((Go.bits .and .u64 (a0 / 2) 6148914691236517205) + (Go.bits .and .u64 a0 6148914691236517205))) 3689348814741910323))))) 1085102592571150095) / 256))) / 65536))) / 4294967296)))) 127)
set_option maxHeartbeats 8000000 in
set_option maxRecDepth 100000 in
theorem bits_OnesCount64.calls (a0 : Int) (r : Int) (w : World) (h : bits_OnesCount64.f a0 = some r) :
  Calls Try.prog 174 #[.int .u64 a0] w fun e w' => e = .returned (.int .i64 r) ∧ Drawn0 w w' := by
 have H : (some (Go.bits .and .i64 (wrap64 (IntKind.u64.wrap ((IntKind.u64.wrap ((IntKind.u64.wrap ((Go.bits .and .u64 (IntKind.u64.wrap (((IntKind.u64.wrap ((Go.bits .and .u64 ((IntKind.u64.wrap ((Go.bits .and .u64 (a0 / 2) 6148914691236517205) + (Go.bits .and .u64 a0 6148914691236517205))) / 4) 3689348814741910323) + (Go.bits .and .u64 (IntKind.u64.wrap ((Go.bits .and .u64 (a0 / 2) 6148914691236517205) + (Go.bits .and .u64 a0 6148914691236517205))) 3689348814741910323))) / 16) + (IntKind.u64.wrap ((Go.bits .and .u64 ((IntKind.u64.wrap ((Go.bits .and .u64 (a0 / 2) 6148914691236517205) + (Go.bits .and .u64 a0 6148914691236517205))) / 4) 3689348814741910323) + (Go.bits .and .u64 (IntKind.u64.wrap ((Go.bits .and .u64 (a0 / 2) 6148914691236517205) + (Go.bits .and .u64 a0 6148914691236517205))) 3689348814741910323))))) 1085102592571150095) + ((Go.bits .and .u64 (IntKind.u64.wrap (((IntKind.u64.wrap ((Go.bits .and .u64 ((IntKind.u64.wrap ((Go.bits .and .u64 (a0 / 2) 6148914691236517205) + (Go.bits .and .u64 a0 6148914691236517205))) / 4) 3689348814741910323) + (Go.bits .and .u64 (IntKind.u64.wrap ((Go.bits .and .u64 (a0 / 2) 6148914691236517205) + (Go.bits .and .u64 a0 6148914691236517205))) 3689348814741910323))) / 16) + (IntKind.u64.wrap ((Go.bits .and .u64 ((IntKind.u64.wrap ((Go.bits .and .u64 (a0 / 2) 6148914691236517205) + (Go.bits .and .u64 a0 6148914691236517205))) / 4) 3689348814741910323) + (Go.bits .and .u64 (IntKind.u64.wrap ((Go.bits .and .u64 (a0 / 2) 6148914691236517205) + (Go.bits .and .u64 a0 6148914691236517205))) 3689348814741910323))))) 1085102592571150095) / 256))) + ((IntKind.u64.wrap ((Go.bits .and .u64 (IntKind.u64.wrap (((IntKind.u64.wrap ((Go.bits .and .u64 ((IntKind.u64.wrap ((Go.bits .and .u64 (a0 / 2) 6148914691236517205) + (Go.bits .and .u64 a0 6148914691236517205))) / 4) 3689348814741910323) + (Go.bits .and .u64 (IntKind.u64.wrap ((Go.bits .and .u64 (a0 / 2) 6148914691236517205) + (Go.bits .and .u64 a0 6148914691236517205))) 3689348814741910323))) / 16) + (IntKind.u64.wrap ((Go.bits .and .u64 ((IntKind.u64.wrap ((Go.bits .and .u64 (a0 / 2) 6148914691236517205) + (Go.bits .and .u64 a0 6148914691236517205))) / 4) 3689348814741910323) + (Go.bits .and .u64 (IntKind.u64.wrap ((Go.bits .and .u64 (a0 / 2) 6148914691236517205) + (Go.bits .and .u64 a0 6148914691236517205))) 3689348814741910323))))) 1085102592571150095) + ((Go.bits .and .u64 (IntKind.u64.wrap (((IntKind.u64.wrap ((Go.bits .and .u64 ((IntKind.u64.wrap ((Go.bits .and .u64 (a0 / 2) 6148914691236517205) + (Go.bits .and .u64 a0 6148914691236517205))) / 4) 3689348814741910323) + (Go.bits .and .u64 (IntKind.u64.wrap ((Go.bits .and .u64 (a0 / 2) 6148914691236517205) + (Go.bits .and .u64 a0 6148914691236517205))) 3689348814741910323))) / 16) + (IntKind.u64.wrap ((Go.bits .and .u64 ((IntKind.u64.wrap ((Go.bits .and .u64 (a0 / 2) 6148914691236517205) + (Go.bits .and .u64 a0 6148914691236517205))) / 4) 3689348814741910323) + (Go.bits .and .u64 (IntKind.u64.wrap ((Go.bits .and .u64 (a0 / 2) 6148914691236517205) + (Go.bits .and .u64 a0 6148914691236517205))) 3689348814741910323))))) 1085102592571150095) / 256))) / 65536))) + ((IntKind.u64.wrap ((IntKind.u64.wrap ((Go.bits .and .u64 (IntKind.u64.wrap (((IntKind.u64.wrap ((Go.bits .and .u64 ((IntKind.u64.wrap ((Go.bits .and .u64 (a0 / 2) 6148914691236517205) + (Go.bits .and .u64 a0 6148914691236517205))) / 4) 3689348814741910323) + (Go.bits .and .u64 (IntKind.u64.wrap ((Go.bits .and .u64 (a0 / 2) 6148914691236517205) + (Go.bits .and .u64 a0 6148914691236517205))) 3689348814741910323))) / 16) + (IntKind.u64.wrap ((Go.bits .and .u64 ((IntKind.u64.wrap ((Go.bits .and .u64 (a0 / 2) 6148914691236517205) + (Go.bits .and .u64 a0 6148914691236517205))) / 4) 3689348814741910323) + (Go.bits .and .u64 (IntKind.u64.wrap ((Go.bits .and .u64 (a0 / 2) 6148914691236517205) + (Go.bits .and .u64 a0 6148914691236517205))) 3689348814741910323))))) 1085102592571150095) + ((Go.bits .and .u64 (IntKind.u64.wrap (((IntKind.u64.wrap ((Go.bits .and .u64 ((IntKind.u64.wrap ((Go.bits .and .u64 (a0 / 2) 6148914691236517205) + (Go.bits .and .u64 a0 6148914691236517205))) / 4) 3689348814741910323) + (Go.bits .and .u64 (IntKind.u64.wrap ((Go.bits .and .u64 (a0 / 2) 6148914691236517205) + (Go.bits .and .u64 a0 6148914691236517205))) 3689348814741910323))) / 16) + (IntKind.u64.wrap ((Go.bits .and .u64 ((IntKind.u64.wrap ((Go.bits .and .u64 (a0 / 2) 6148914691236517205) + (Go.bits .and .u64 a0 6148914691236517205))) / 4) 3689348814741910323) + (Go.bits .and .u64 (IntKind.u64.wrap ((Go.bits .and .u64 (a0 / 2) 6148914691236517205) + (Go.bits .and .u64 a0 6148914691236517205))) 3689348814741910323))))) 1085102592571150095) / 256))) + ((IntKind.u64.wrap ((Go.bits .and .u64 (IntKind.u64.wrap (((IntKind.u64.wrap ((Go.bits .and .u64 ((IntKind.u64.wrap ((Go.bits .and .u64 (a0 / 2) 6148914691236517205) + (Go.bits .and .u64 a0 6148914691236517205))) / 4) 3689348814741910323) + (Go.bits .and .u64 (IntKind.u64.wrap ((Go.bits .and .u64 (a0 / 2) 6148914691236517205) + (Go.bits .and .u64 a0 6148914691236517205))) 3689348814741910323))) / 16) + (IntKind.u64.wrap ((Go.bits .and .u64 ((IntKind.u64.wrap ((Go.bits .and .u64 (a0 / 2) 6148914691236517205) + (Go.bits .and .u64 a0 6148914691236517205))) / 4) 3689348814741910323) + (Go.bits .and .u64 (IntKind.u64.wrap ((Go.bits .and .u64 (a0 / 2) 6148914691236517205) + (Go.bits .and .u64 a0 6148914691236517205))) 3689348814741910323))))) 1085102592571150095) + ((Go.bits .and .u64 (IntKind.u64.wrap (((IntKind.u64.wrap ((Go.bits .and .u64 ((IntKind.u64.wrap ((Go.bits .and .u64 (a0 / 2) 6148914691236517205) + (Go.bits .and .u64 a0 6148914691236517205))) / 4) 3689348814741910323) + (Go.bits .and .u64 (IntKind.u64.wrap ((Go.bits .and .u64 (a0 / 2) 6148914691236517205) + (Go.bits .and .u64 a0 6148914691236517205))) 3689348814741910323))) / 16) + (IntKind.u64.wrap ((Go.bits .and .u64 ((IntKind.u64.wrap ((Go.bits .and .u64 (a0 / 2) 6148914691236517205) + (Go.bits .and .u64 a0 6148914691236517205))) / 4) 3689348814741910323) + (Go.bits .and .u64 (IntKind.u64.wrap ((Go.bits .and .u64 (a0 / 2) 6148914691236517205) + (Go.bits .and .u64 a0 6148914691236517205))) 3689348814741910323))))) 1085102592571150095) / 256))) / 65536))) / 4294967296)))) 127)) = some r := h
 clear h
 obtain rfl := Option.some.inj H
 go_enter Try.func174, Try.ntmps174
 go_wp2
 go_ret
 exact ⟨by first | rfl | (simp; done) | (simp [*]; done), by repeat (first | exact Drawn0.refl _ | apply Drawn0.step)⟩
def impl_size.f (a0 : Int) : Option (Int) := (bits_OnesCount64.f (IntKind.u64.wrap (a0))).bind fun t106 => (some t106)
set_option maxHeartbeats 8000000 in
set_option maxRecDepth 100000 in
theorem impl_size.calls (a0 : Int) (r : Int) (w : World) (h : impl_size.f a0 = some r) :
  Calls Try.prog 136 #[.int .i64 a0] w fun e w' => e = .returned (.int .i64 r) ∧ Drawn0 w w' := by
 have H : ((bits_OnesCount64.f (IntKind.u64.wrap (a0))).bind fun t106 => (some t106)) = some r := h
 clear h
 replace H := Option.bind_eq_some_iff.mp H
 obtain ⟨t106, A20, H⟩ := H
 try dsimp only at H
 have A2 := Aside0.mk A20
 clear A20
 obtain rfl := Option.some.inj H
 go_enter Try.func136, Try.ntmps136
 go_wp2_with (first | ((with_reducible refine gate_callee (f := 174) rfl ?_); refine cl_ (some 5) Try.func174 #[.int .u64 (IntKind.u64.wrap (a0))] ?_; (with_reducible refine (bits_OnesCount64.calls (IntKind.u64.wrap (a0)) t106 _ A2.out).mono ?_); rintro e w' ⟨rfl, ⟨nd, rfl⟩⟩; refine ⟨_, rfl, ?_⟩))
 go_ret
 exact ⟨by first | rfl | (simp; done) | (simp [*]; done), by repeat (first | exact Drawn0.refl _ | apply Drawn0.step)⟩
def impl_dimension.f (a0 : Int) : Option (Int) := (impl_size.f a0).bind fun t107 => (some (wrap64 (t107 - 1)))
set_option maxHeartbeats 8000000 in
set_option maxRecDepth 100000 in
theorem impl_dimension.calls (a0 : Int) (r : Int) (w : World) (h : impl_dimension.f a0 = some r) :
  Calls Try.prog 107 #[.int .i64 a0] w fun e w' => e = .returned (.int .i64 r) ∧ Drawn0 w w' := by
 have H : ((impl_size.f a0).bind fun t107 => (some (wrap64 (t107 - 1)))) = some r := h
 clear h
 replace H := Option.bind_eq_some_iff.mp H
 obtain ⟨t107, A20, H⟩ := H
 try dsimp only at H
 have A2 := Aside0.mk A20
 clear A20
 obtain rfl := Option.some.inj H
 go_enter Try.func107, Try.ntmps107
 go_wp2_with (first | ((with_reducible refine gate_callee (f := 136) rfl ?_); refine cl_ (some 4) Try.func136 #[.int .i64 a0] ?_; (with_reducible refine (impl_size.calls a0 t107 _ A2.out).mono ?_); rintro e w' ⟨rfl, ⟨nd, rfl⟩⟩; refine ⟨_, rfl, ?_⟩))
 go_ret
 exact ⟨by first | rfl | (simp; done) | (simp [*]; done), by repeat (first | exact Drawn0.refl _ | apply Drawn0.step)⟩
def impl_Complex_count.l0 : Nat → List Int → List Int → Int → Int → Option (List Int)
 | 0, _, _, _, _ => none
 | k + 1, x5, x12, x13, x14 => if x14 < x13 then (if 0 ≤ x14 then (if x14 < (x12.length : Int) then ((impl_dimension.f (rd x12 x14)).bind fun t114 => (if 0 ≤ t114 then (if t114 < (x5.length : Int) then (impl_Complex_count.l0 k (x5.set (t114 : Int).toNat (wrap64 ((rd x5 t114) + 1))) x12 x13 (wrap64 (x14 + 1))) else (none)) else (none))) else (none)) else (none)) else (some x5)
def impl_Complex_count.f (k : Nat) (a0_0 : Int) (l0_1 : List Int) (l1 : List Int) : Option (List Int) := (impl_Complex_dimension.f a0_0 l0_1).bind fun t109 => (if 0 ≤ (wrap64 (t109 + 1)) then (if (wrap64 (t109 + 1) : Int).toNat ≤ 35184372088832 then (impl_Complex_count.l0 k (List.replicate (wrap64 (t109 + 1) : Int).toNat 0) l1 (l1.length : Int) 0) else (none)) else (none))
theorem impl_Complex_count.mono_l : ∀ k, (∀ y0 y1 y2 y3, LeO (impl_Complex_count.l0 k y0 y1 y2 y3) (impl_Complex_count.l0 (k + 1) y0 y1 y2 y3))
 | 0 => fun _ _ _ _ r h => by simp [impl_Complex_count.l0] at h
 | k + 1 => by
  have ih0 := impl_Complex_count.mono_l k
  ·intro y0 y1 y2 y3
   unfold impl_Complex_count.l0
   repeat' first
   | (with_reducible exact ih0 _ _ _ _)
   | (with_reducible exact LeO.refl _)
   | (with_reducible exact LeO.none _)
   | (with_reducible refine LeO.ite ?_ ?_)
   | (with_reducible refine LeO.bind ?_ (fun _ => ?_))
   | exact ih0 _ _ _ _
   | exact LeO.none _
   | refine LeO.ite ?_ ?_
   | refine LeO.bind ?_ (fun _ => ?_)
theorem impl_Complex_count.mono : ∀ a0 a1 a2 k, LeO (impl_Complex_count.f k a0 a1 a2) (impl_Complex_count.f (k + 1) a0 a1 a2) := by
 intro a0 a1 a2 k
 have ih0 := impl_Complex_count.mono_l k
 unfold impl_Complex_count.f
 repeat' first
   | (with_reducible exact ih0 _ _ _ _)
   | (with_reducible exact LeO.refl _)
   | (with_reducible exact LeO.none _)
   | (with_reducible refine LeO.ite ?_ ?_)
   | (with_reducible refine LeO.bind ?_ (fun _ => ?_))
   | exact ih0 _ _ _ _
   | exact LeO.none _
   | refine LeO.ite ?_ ?_
   | refine LeO.bind ?_ (fun _ => ?_)
set_option maxHeartbeats 8000000 in
set_option maxRecDepth 100000 in
theorem impl_Complex_count.calls (k : Nat) (a0_0 : Int) (A0_1 : Option Addr) (c0_1 : Nat) (l0_1 : List Int) (A1 : Option Addr) (c1 : Nat) (l1 : List Int) (r : List Int) (w : World) (hr0_1 : Kd.C (Kd.int .i64) w A0_1 l0_1.length l0_1) (hc0_1 : l0_1.length ≤ c0_1) (hr1 : Kd.C (Kd.int .i64) w A1 l1.length l1) (hc1 : l1.length ≤ c1) (h : impl_Complex_count.f k a0_0 l0_1 l1 = some r) :
  Calls Try.prog 73 #[.agg #[.int .i64 a0_0, .slice A0_1 l0_1.length c0_1], .slice A1 l1.length c1] w fun e w' => ∃ v0_ : Value, e = .returned (v0_) ∧ Kd.R (Kd.int .i64) 2 w' w.heap.size (fun _ => True) v0_ r ∧ Below w.heap.size w w' := by
 have hu28 := Try.underlying28
 have HR0_1 := Aside0.mk hr0_1
 have HC0_1 := Aside0.mk hc0_1
 clear hr0_1 hc0_1
 have HR1 := Aside0.mk hr1
 have HC1 := Aside0.mk hc1
 clear hr1 hc1
 have HB := Aside0.mk (Below.refl w.heap.size w)
 have H : ((impl_Complex_dimension.f a0_0 l0_1).bind fun t109 => (if 0 ≤ (wrap64 (t109 + 1)) then (if (wrap64 (t109 + 1) : Int).toNat ≤ 35184372088832 then (impl_Complex_count.l0 k (List.replicate (wrap64 (t109 + 1) : Int).toNat 0) l1 (l1.length : Int) 0) else (none)) else (none))) = some r := h
 clear h
 replace H := Option.bind_eq_some_iff.mp H
 obtain ⟨t109, A30, H⟩ := H
 try dsimp only at H
 have A3 := Aside0.mk A30
 clear A30
 obtain ⟨ji4, hji4⟩ : ∃ j_ : Int, (wrap64 (t109 + 1)) = j_ := ⟨_, rfl⟩
 replace H : (if 0 ≤ (ji4) then (if (ji4 : Int).toNat ≤ 35184372088832 then (impl_Complex_count.l0 k (List.replicate (ji4 : Int).toNat 0) l1 (l1.length : Int) 0) else (none)) else (none)) = some r := by first | (rw [hji4] at H; exact H) | (simp only [hji4] at H ⊢; exact H)
 (try rw [hji4] at A3)
 have hji4w : (IntKind.i64.wrap (t109 + 1)) = ji4 := (i64_w _).trans hji4
 by_cases c5 : 0 ≤ (ji4)
 ·rw [if_pos c5] at H
  have c5b0 := eq_true c5
  have c5b1 : decide (0 ≤ (ji4)) = true := decide_eq_true c5
  clear c5
  by_cases c6 : (ji4 : Int).toNat ≤ 35184372088832
  ·rw [if_pos c6] at H
   have c6b0 := eq_true c6
   have c6b1 : decide ((ji4 : Int).toNat ≤ 35184372088832) = true := decide_eq_true c6
   clear c6
   obtain ⟨y110, hy110⟩ : ∃ y_ : List Int, y_ = (List.replicate (ji4 : Int).toNat 0) := ⟨_, rfl⟩
   replace H : (impl_Complex_count.l0 k y110 l1 (l1.length : Int) 0) = some r := by first | (rw [hy110]; with_reducible exact H) | (have H2_ := (Option.bind_some _ _).symm.trans H; rw [hy110]; with_reducible exact H2_) | (have H2_ := (Option.bind_some _ _).symm.trans H; with_reducible exact H2_) | with_reducible exact H | (rw [hy110]; exact H) | exact H
   have Ny110 := Aside0.mk hy110
   clear hy110
   have H' := Aside0.mk H
   clear H
   go_enter Try.func73, Try.ntmps73
   go_wp2_with (first | ((with_reducible refine gate_dst (N := 2) rfl ?_); refine box_event ?hg (N := 2) ?hd (cs := #[.int .i64 a0_0, .slice A0_1 l0_1.length c0_1]) (t := 28) ?hr ?_; (case hd => rfl); (case hg => rfl); (case hr => first | (go_simp; done) | (go_simp; rfl)); intro gb108 hg w7 hbox hb; have BK108 := Aside0.mk (hbox); have GW108 := gH HB hg; have GE108 := gH HB hg; replace HB := sH HB hb; clear hb hbox hg; have hcz8_0 : w7.cell? ⟨gb108, 0, none⟩ = some (.int .i64 a0_0) := cB BK108 0; have hcz8_1 : w7.cell? ⟨gb108, 1, none⟩ = some (.slice A0_1 l0_1.length c0_1) := cB BK108 1; have hfz8_0 := zB BK108 0; have hfz8_1 := zB BK108 1) | ((with_reducible refine gate_callee (f := 56) rfl ?_); refine cl_ (some 9) Try.func56 #[.agg #[.int .i64 a0_0, .slice A0_1 l0_1.length c0_1]] ?_; (with_reducible refine (impl_Complex_dimension.calls a0_0 _ _ l0_1 t109 _ ?side1 ?side2 A3.out).mono ?_); (case side1 => exact pC ((Kd.C_below HR0_1.out HB.out))); (case side2 => exact HC0_1.out); rintro e w9 ⟨rfl, hb⟩; refine ⟨_, rfl, ?_⟩; replace BK108 := sB BK108 hb; replace HB := sH HB hb; (try clear hb); (try clear hi)) | ((with_reducible refine gate_dst (N := 11) rfl ?_); refine Kd.R_make (Kd.int .i64) _ 2 rfl (N := 11) rfl 22 _ _ rfl ji4 rfl rfl Try.underlying22 (.int .i64 0) 8 info2 rfl (by decide) (by omega) 0 (ok := fun _ => True) (okp := fun _ => True) rfl (fun _ hk => hk) trivial (of_decide_eq_true (by first | (with_reducible assumption) | assumption)) (Nat.le_trans (Nat.mul_le_mul_right _ (of_decide_eq_true (by first | (with_reducible assumption) | assumption) : ji4.toNat ≤ 35184372088832)) (by omega)) (Below.refl _ _) (Nat.le_refl _) ?_; intro v111 w10 ho11 hb hg_ hnew_; clear hg_ hnew_; (first | rw [← Ny110.out] at ho11 | (simp only [Int.reduceToNat] at ho11; rw [← Ny110.out] at ho11)); have HO112 := Aside0.mk (Kd.R_lower ho11 (below_size (pH HB))); replace BK108 := sB BK108 hb; replace HB := sH HB hb; clear hb ho11))
   go_loopg [14] k (fun kq v14 w' => ∃ (x5_1 : List Int) (x14_1 : Int), v14 = .int .i64 x14_1 ∧ Aside0 (impl_Complex_count.l0 kq x5_1 l1 (l1.length : Int) x14_1 = some r) ∧ Aside0 (kq ≤ k) ∧ Aside0 (Kd.R (Kd.int .i64) 2 w' w.heap.size (fun _ => True) v111 x5_1) ∧ Aside0 (w'.heap[gb108]? = some (.cells #[.int .i64 a0_0, (.slice A0_1 l0_1.length c0_1)] 28 (0, 0))) ∧ Aside0 (Below w.heap.size w w'))
   case atStart => exact ⟨(y110), (0), (by first | rfl | (simp; done) | (simp [*]; done)), H', ⟨Nat.le_refl _⟩, ⟨by (with_reducible repeat (first | apply Kd.R_alloc | apply Kd.R_drewN | apply Kd.R_drew)); exact HO112.out⟩, ⟨pB BK108⟩, ⟨pH HB⟩⟩
   case round =>
    clear H'
    try clear c1
    try clear p2
    try clear c5
    try clear c5b0
    try clear c5b1
    try clear c6
    try clear c6b0
    try clear c6b1
    try clear p6
    try clear c7
    try clear hcz8_0
    try clear hcz8_1
    try clear hfz8_0
    try clear hfz8_1
    obtain ⟨x5_1, x14_1, rfl, HA, HK1, HO_5, BK108, HB⟩ := hrel
    cases gk with
    | zero => exact absurd HA.out (by simp [impl_Complex_count.l0])
    | succ k1 =>
     have H := HA.out
     clear HA
     simp only [impl_Complex_count.l0] at H
     by_cases c12 : x14_1 < (l1.length : Int)
     ·rw [if_pos c12] at H
      have c12b0 : decide (x14_1 < (l1.length : Int)) = true := decide_eq_true c12
      clear c12
      by_cases c13 : 0 ≤ x14_1
      ·rw [if_pos c13] at H
       have c13b0 : decide (0 ≤ x14_1) = true := decide_eq_true c13
       clear c13
       by_cases c14 : x14_1 < (l1.length : Int)
       ·rw [if_pos c14] at H
        have c14b0 : decide (x14_1 < (l1.length : Int)) = true := decide_eq_true c14
        clear c14
        replace H := Option.bind_eq_some_iff.mp H
        obtain ⟨t114, A150, H⟩ := H
        try dsimp only at H
        have A15 := Aside0.mk A150
        clear A150
        by_cases c16 : 0 ≤ t114
        ·rw [if_pos c16] at H
         have c16b0 : decide (0 ≤ t114) = true := decide_eq_true c16
         clear c16
         by_cases c17 : t114 < (x5_1.length : Int)
         ·rw [if_pos c17] at H
          have c17b0 : decide (t114 < (x5_1.length : Int)) = true := decide_eq_true c17
          clear c17
          obtain ⟨y116, hy116⟩ : ∃ y_ : List Int, y_ = (x5_1.set (t114 : Int).toNat (wrap64 ((rd x5_1 t114) + 1))) := ⟨_, rfl⟩
          replace H : (impl_Complex_count.l0 k1 y116 l1 (l1.length : Int) (wrap64 (x14_1 + 1))) = some r := by first | (rw [hy116]; with_reducible exact H) | (have H2_ := (Option.bind_some _ _).symm.trans H; rw [hy116]; with_reducible exact H2_) | (have H2_ := (Option.bind_some _ _).symm.trans H; with_reducible exact H2_) | with_reducible exact H | (rw [hy116]; exact H) | exact H
          have Ny116 := Aside0.mk hy116
          clear hy116
          have H' := Aside0.mk H
          clear H
          have p113 : 0 ≤ (x14_1 : Int) := of_decide_eq_true (by first | (with_reducible assumption) | assumption)
          have q113 : x14_1 < (l1.length : Int) := of_decide_eq_true (by first | (with_reducible assumption) | assumption)
          obtain ⟨ad113, e113, hx113_0⟩ := Kd.at_int HR1.out x14_1 p113 q113
          cases e113
          replace hx113_0 := cH HB hx113_0
          replace p113 := eq_true p113
          replace q113 := eq_true q113
          go_wp2_with (first | ((with_reducible refine gate_callee (f := 107) rfl ?_); refine cl_ (some 20) Try.func107 #[.int .i64 (rd l1 x14_1)] ?_; (with_reducible refine (impl_dimension.calls (rd l1 x14_1) t114 _ A15.out).mono ?_); rintro e w' ⟨rfl, ⟨nd, rfl⟩⟩; refine ⟨_, rfl, ?_⟩; (try (rw [drewN_self wr]; generalize hq_ : World.drewN wr _ = wr; have n0_ : Aside0 (Kd.R (Kd.int .i64) 2 wr w.heap.size (fun _ => True) v111 x5_1) := ⟨by rw [← hq_]; exact (pR HO_5)⟩; have n1_ : Aside0 (wr.heap[gb108]? = some (.cells #[.int .i64 a0_0, .slice A0_1 l0_1.length c0_1] 28 (0, 0))) := ⟨by rw [← hq_]; exact (pB BK108)⟩; have n2_ : Aside0 (Below w.heap.size w wr) := ⟨by rw [← hq_]; exact (pH HB)⟩; clear HO_5 BK108 HB hq_; have HO_5 := n0_; have BK108 := n1_; have HB := n2_; clear n0_ n1_ n2_)); (try (have hcz19_0 : wr.cell? ⟨gb108, 0, none⟩ = some (.int .i64 a0_0) := cB BK108 0; have hcz19_1 : wr.cell? ⟨gb108, 1, none⟩ = some (.slice A0_1 l0_1.length c0_1) := cB BK108 1; have hfz19_0 := zB BK108 0; have hfz19_1 := zB BK108 1)); obtain ⟨Ao20, co20, eo20⟩ := Kd.R_slice HO_5.out; subst eo20; have p115 : 0 ≤ (t114 : Int) := of_decide_eq_true (by first | (with_reducible assumption) | assumption); have q115 : t114 < (x5_1.length : Int) := of_decide_eq_true (by first | (with_reducible assumption) | assumption); obtain ⟨ad115, e115, hx115_0⟩ := Kd.at_int (Kd.R_reads' HO_5.out).2.2 t114 p115 q115; cases e115; replace p115 := eq_true p115; replace q115 := eq_true q115; have p18 : 0 ≤ (t114 : Int) := of_decide_eq_true (by first | (with_reducible assumption) | assumption); have q18 : (t114 : Int) < ((x5_1.length : Int) : Int) := of_decide_eq_true (by first | (with_reducible assumption) | assumption); obtain ⟨go18, co18, eo18, gb18, gl18, cl18, HG18⟩ := Kd.R_form HO_5.out (by omega); (first | cases eo18 | (injection eo18 with ea_ en_ ec_; (first | subst ea_ | (injection ea_ with ea_; subst ea_)); subst ec_; clear en_)); have GB18 := Aside0.mk gb18; have GG18 := Aside0.mk HG18; clear gb18 gl18 HG18; (first | simp only [add_plain] at hx115_0 | skip); obtain ⟨hx18_0, hf18_0⟩ := Kd.R_celln 0 HO_5.out (t114 : Int) p18 q18; replace p18 := eq_true p18; replace q18 := eq_true q18; obtain ⟨hy21_, hz21_⟩ := Kd.R_celln 0 HO_5.out (t114 : Int) (of_decide_eq_true (by first | (with_reducible assumption) | assumption)) (of_decide_eq_true (by first | (with_reducible assumption) | assumption)); have HP21 := Kd.R_putg HO_5.out (t114 : Int) (wrap64 ((rd x5_1 t114) + 1))) | ((with_reducible refine gate_store (t := 2) (p := 24) rfl ?_); refine store_event (t := 2) (p := 24) (v := ?vo_w22) (w1 := (wr.setCell ⟨go18, (t114 : Int).toNat, none⟩ (.int .i64 (wrap64 ((rd x5_1 t114) + 1))))) ?hg ?ho ?hn ?hr ?_; (case ho => rfl); (case hg => rfl); (case hn => rfl); (case hr => first | (go_simp; done) | (go_simp; rfl)); intro w22 hw; have hg : wr.grownBy w22 (some go18) := (by rw [hw]; exact HP21.2); have hp_ : Kd.R (Kd.int .i64) 2 w22 w.heap.size (fun _ => True) (.slice (some ⟨go18, 0, none⟩) x5_1.length co20) y116 := (by rw [hw, Ny116.out]; exact HP21.1); clear HP21; have n0_ := Aside0.mk (hp_); have n1_ := Aside0.mk (blk_grown (g := gb108) (o := .cells #[.int .i64 a0_0, .slice A0_1 l0_1.length c0_1] 28 (0, 0)) (pB BK108) hg (Kd.R_ne HO_5.out BK108.out (by decide))); have n2_ := Aside0.mk ((by rw [hw]; exact below_set (HB.out) GB18.out : Below w.heap.size w w22)); clear HO_5; clear BK108; clear HB; have HO_5 := n0_; have BK108 := n1_; have HB := n2_; clear n0_ n1_ n2_; clear hg hw hp_))
          go_roundg k1
          case measure => have := HK1.out; omega
          case rel => exact ⟨(y116), (wrap64 (x14_1 + 1)), (by first | rfl | (simp; done) | (simp [*]; done)), H', ⟨by have := HK1.out; omega⟩, ⟨by (with_reducible repeat (first | apply Kd.R_alloc | apply Kd.R_drewN | apply Kd.R_drew)); exact HO_5.out⟩, ⟨pB BK108⟩, ⟨pH HB⟩⟩
         ·rw [if_neg c17] at H
          exact absurd H (by simp)
        ·rw [if_neg c16] at H
         exact absurd H (by simp)
       ·rw [if_neg c14] at H
        exact absurd H (by simp)
      ·rw [if_neg c13] at H
       exact absurd H (by simp)
     ·rw [if_neg c12] at H
      have c12b0 : decide (x14_1 < (l1.length : Int)) = false := decide_eq_false c12
      clear c12
      obtain rfl := Option.some.inj H
      go_wp2
      go_ret
      exact ⟨_, by first | rfl | (simp [errW_none, errW_some] <;> rfl) | (simp only [← hji4]; first | rfl | (simp [errW_none, errW_some] <;> rfl)) | (simp [*, errW_none, errW_some] <;> rfl) | (exfalso; simp_all), by (with_reducible repeat (first | apply Kd.R_alloc | apply Kd.R_drewN | apply Kd.R_drew)); exact HO_5.out, pH HB⟩
  ·rw [if_neg c6] at H
   exact absurd H (by simp)
 ·rw [if_neg c5] at H
  exact absurd H (by simp)
def impl_Complex_betti.l0 : Nat → Int → List Int → Int → Int → Int → List Int → Option (List Int)
 | 0, _, _, _, _, _, _ => none
 | k + 1, x1, x5, x12, x13, x118000, x118001 => if x13 < x12 then (if 0 ≤ x13 then (if x13 < (x5.length : Int) then ((impl_Complex_rank.f x118000 x118001 x13 x1).bind fun t122 => ((impl_Complex_rank.f x118000 x118001 (wrap64 (x13 + 1)) x1).bind fun t123 => (impl_Complex_betti.l0 k x1 (x5.set (x13 : Int).toNat (wrap64 ((rd x5 x13) - (wrap64 (t122 + t123))))) x12 (wrap64 (x13 + 1)) x118000 x118001))) else (none)) else (none)) else (some x5)
def impl_Complex_betti.f (k : Nat) (a0_0 : Int) (l0_1 : List Int) (a1 : Int) : Option (List Int) := (impl_Complex_count.f k a0_0 l0_1 l0_1).bind fun t118 => (impl_Complex_betti.l0 k a1 t118 (t118.length : Int) 0 a0_0 l0_1)
theorem impl_Complex_betti.mono_l : ∀ k, (∀ y0 y1 y2 y3 y4 y5, LeO (impl_Complex_betti.l0 k y0 y1 y2 y3 y4 y5) (impl_Complex_betti.l0 (k + 1) y0 y1 y2 y3 y4 y5))
 | 0 => fun _ _ _ _ _ _ r h => by simp [impl_Complex_betti.l0] at h
 | k + 1 => by
  have ih0 := impl_Complex_betti.mono_l k
  ·intro y0 y1 y2 y3 y4 y5
   unfold impl_Complex_betti.l0
   repeat' first
   | (with_reducible exact ih0 _ _ _ _ _ _)
   | (with_reducible exact impl_Complex_count.mono _ _ _ _)
   | (with_reducible exact LeO.refl _)
   | (with_reducible exact LeO.none _)
   | (with_reducible refine LeO.ite ?_ ?_)
   | (with_reducible refine LeO.bind ?_ (fun _ => ?_))
   | exact ih0 _ _ _ _ _ _
   | exact impl_Complex_count.mono _ _ _ _
   | exact LeO.none _
   | refine LeO.ite ?_ ?_
   | refine LeO.bind ?_ (fun _ => ?_)
theorem impl_Complex_betti.mono : ∀ a0 a1 a2 k, LeO (impl_Complex_betti.f k a0 a1 a2) (impl_Complex_betti.f (k + 1) a0 a1 a2) := by
 intro a0 a1 a2 k
 have ih0 := impl_Complex_betti.mono_l k
 unfold impl_Complex_betti.f
 repeat' first
   | (with_reducible exact ih0 _ _ _ _ _ _)
   | (with_reducible exact impl_Complex_count.mono _ _ _ _)
   | (with_reducible exact LeO.refl _)
   | (with_reducible exact LeO.none _)
   | (with_reducible refine LeO.ite ?_ ?_)
   | (with_reducible refine LeO.bind ?_ (fun _ => ?_))
   | exact ih0 _ _ _ _ _ _
   | exact impl_Complex_count.mono _ _ _ _
   | exact LeO.none _
   | refine LeO.ite ?_ ?_
   | refine LeO.bind ?_ (fun _ => ?_)
def impl_Complex_betti.T5 : Bool × List (List Nat × List Nat) := (true, [([], []), ([], []), ([0, 1], [0, 1]), ([2], [2]), ([], []), ([], []), ([], []), ([4, 5, 6], [4, 5, 6]), ([], []), ([], []), ([9], [9]), ([], []), ([8, 10, 11, 7], [8, 10, 11]), ([7, 12], [7, 12]), ([3, 13], [3, 13]), ([0, 1, 0, 1, 2, 3, 4, 5, 6, 7, 8, 9, 10, 11, 12, 13, 14], [0, 1]), ([15, 14, 12, 0, 1, 2, 3, 4, 5, 6, 7, 8, 9, 10, 11, 12, 13, 14], [14, 15])])
def impl_Complex_betti.B5 : List Nat := [0, 0, 3, 7, 0, 0, 0, 112, 0, 0, 512, 0, 4080, 8176, 16383, 32767, 65535]
theorem impl_Complex_betti.tab5 : rtab .any (opsOf Try.f60 5) = impl_Complex_betti.T5 := by kernel_rfl
theorem impl_Complex_betti.bits5 : waitsOk impl_Complex_betti.T5.2 impl_Complex_betti.B5 = true := by kernel_rfl
set_option maxHeartbeats 8000000 in
set_option maxRecDepth 100000 in
theorem impl_Complex_betti.calls (k : Nat) (a0_0 : Int) (A0_1 : Option Addr) (c0_1 : Nat) (l0_1 : List Int) (a1 : Int) (r : List Int) (w : World) (hr0_1 : Kd.C (Kd.int .i64) w A0_1 l0_1.length l0_1) (hc0_1 : l0_1.length ≤ c0_1) (h : impl_Complex_betti.f k a0_0 l0_1 a1 = some r) :
  Calls Try.prog 60 #[.agg #[.int .i64 a0_0, .slice A0_1 l0_1.length c0_1], .int .i64 a1] w fun e w' => ∃ v0_ : Value, e = .returned (v0_) ∧ Kd.R (Kd.int .i64) 2 w' w.heap.size (fun _ => True) v0_ r ∧ Below w.heap.size w w' := by
 have hu28 := Try.underlying28
 have HR0_1 := Aside0.mk hr0_1
 have HC0_1 := Aside0.mk hc0_1
 clear hr0_1 hc0_1
 have HB := Aside0.mk (Below.refl w.heap.size w)
 have H : ((impl_Complex_count.f k a0_0 l0_1 l0_1).bind fun t118 => (impl_Complex_betti.l0 k a1 t118 (t118.length : Int) 0 a0_0 l0_1)) = some r := h
 clear h
 replace H := Option.bind_eq_some_iff.mp H
 obtain ⟨t118, A30, H⟩ := H
 try dsimp only at H
 have A3 := Aside0.mk A30
 clear A30
 have H' := Aside0.mk H
 clear H
 go_enter Try.func60, Try.ntmps60
 go_wp2_with (first | ((with_reducible refine gate_dst (N := 2) rfl ?_); refine box_event ?hg (N := 2) ?hd (cs := #[.int .i64 a0_0, .slice A0_1 l0_1.length c0_1]) (t := 28) ?hr ?_; (case hd => rfl); (case hg => rfl); (case hr => first | (go_simp; done) | (go_simp; rfl)); intro gb117 hg w4 hbox hb; have BK117 := Aside0.mk (hbox); have GW117 := gH HB hg; have GE117 := gH HB hg; replace HB := sH HB hb; clear hb hbox hg; have hcz5_0 : w4.cell? ⟨gb117, 0, none⟩ = some (.int .i64 a0_0) := cB BK117 0; have hcz5_1 : w4.cell? ⟨gb117, 1, none⟩ = some (.slice A0_1 l0_1.length c0_1) := cB BK117 1; have hfz5_0 := zB BK117 0; have hfz5_1 := zB BK117 1) | ((with_reducible refine gate_callee (f := 73) rfl ?_); refine cl_ (some 10) Try.func73 #[.agg #[.int .i64 a0_0, .slice A0_1 l0_1.length c0_1], .slice A0_1 l0_1.length c0_1] ?_; (with_reducible refine (impl_Complex_count.calls k a0_0 _ _ l0_1 _ _ l0_1 t118 _ ?side1 ?side2 ?side3 ?side4 A3.out).mono ?_); (case side1 => exact pC ((Kd.C_below HR0_1.out HB.out))); (case side2 => exact HC0_1.out); (case side3 => exact pC ((Kd.C_below HR0_1.out HB.out))); (case side4 => exact HC0_1.out); rintro e w6 ⟨v119, rfl, ho0, hb⟩; refine ⟨_, rfl, ?_⟩; have HO120 := Aside0.mk (Kd.R_lower ho0 (below_size (pH HB))); replace BK117 := sB BK117 hb; replace HB := sH HB hb; (try clear hb); (try clear hi); (try clear ho0); obtain ⟨Ao7, co7, eo7⟩ := Kd.R_slice HO120.out; subst eo7))
 go_loopg [13] k (fun kq v13 w' => ∃ (x5_1 : List Int) (x13_1 : Int), v13 = .int .i64 x13_1 ∧ Aside0 (impl_Complex_betti.l0 kq a1 x5_1 (t118.length : Int) x13_1 a0_0 l0_1 = some r) ∧ Aside0 (kq ≤ k) ∧ Aside0 (Kd.R (Kd.int .i64) 2 w' w.heap.size (fun _ => True) (.slice Ao7 t118.length co7) x5_1) ∧ Aside0 (w'.heap[gb117]? = some (.cells #[.int .i64 a0_0, (.slice A0_1 l0_1.length c0_1)] 28 (0, 0))) ∧ Aside0 (Below w.heap.size w w'))
 case atStart => exact ⟨(t118), (0), (by first | rfl | (simp; done) | (simp [*]; done)), H', ⟨Nat.le_refl _⟩, ⟨by (with_reducible repeat (first | apply Kd.R_alloc | apply Kd.R_drewN | apply Kd.R_drew)); exact HO120.out⟩, ⟨pB BK117⟩, ⟨pH HB⟩⟩
 case round =>
  clear H'
  try clear p2
  try clear c6
  try clear c7
  try clear hcz5_0
  try clear hcz5_1
  try clear hfz5_0
  try clear hfz5_1
  obtain ⟨x5_1, x13_1, rfl, HA, HK1, HO_5, BK117, HB⟩ := hrel
  have hl5_1 := (Kd.R_reads' HO_5.out).1
  rw [hl5_1] at HO_5
  (try simp only [hl5_1])
  (try simp only [hl5_1] at BK117)
  cases gk with
  | zero => exact absurd HA.out (by simp [impl_Complex_betti.l0])
  | succ k1 =>
   have H := HA.out
   clear HA
   simp only [impl_Complex_betti.l0] at H
   by_cases c8 : x13_1 < (t118.length : Int)
   ·rw [if_pos c8] at H
    have c8b0 : decide (x13_1 < (t118.length : Int)) = true := decide_eq_true c8
    (try (have c8z0_hl5_1 := c8b0; simp only [hl5_1] at c8z0_hl5_1))
    clear c8
    by_cases c9 : 0 ≤ x13_1
    ·rw [if_pos c9] at H
     have c9b0 : decide (0 ≤ x13_1) = true := decide_eq_true c9
     clear c9
     by_cases c10 : x13_1 < (x5_1.length : Int)
     ·rw [if_pos c10] at H
      have c10b0 : decide (x13_1 < (x5_1.length : Int)) = true := decide_eq_true c10
      (try (have c10z0_hl5_1 := c10b0; simp only [hl5_1] at c10z0_hl5_1))
      clear c10
      replace H := Option.bind_eq_some_iff.mp H
      obtain ⟨t122, A110, H⟩ := H
      try dsimp only at H
      have A11 := Aside0.mk A110
      clear A110
      replace H := Option.bind_eq_some_iff.mp H
      obtain ⟨t123, A120, H⟩ := H
      try dsimp only at H
      have A12 := Aside0.mk A120
      clear A120
      obtain ⟨y124, hy124⟩ : ∃ y_ : List Int, y_ = (x5_1.set (x13_1 : Int).toNat (wrap64 ((rd x5_1 x13_1) - (wrap64 (t122 + t123))))) := ⟨_, rfl⟩
      replace H : (impl_Complex_betti.l0 k1 a1 y124 (t118.length : Int) (wrap64 (x13_1 + 1)) a0_0 l0_1) = some r := by first | (rw [hy124]; with_reducible exact H) | (have H2_ := (Option.bind_some _ _).symm.trans H; rw [hy124]; with_reducible exact H2_) | (have H2_ := (Option.bind_some _ _).symm.trans H; with_reducible exact H2_) | with_reducible exact H | (rw [hy124]; exact H) | exact H
      have Ny124 := Aside0.mk hy124
      clear hy124
      have H' := Aside0.mk H
      clear H
      try go_wp2
      replace HO_5 := Aside0.mk (Kd.R_drew HO_5.out)
      replace BK117 := dB BK117
      replace HB := dH HB
      have p121 : 0 ≤ (x13_1 : Int) := of_decide_eq_true (by first | (with_reducible assumption) | assumption)
      have q121 : x13_1 < (x5_1.length : Int) := of_decide_eq_true (by first | (with_reducible assumption) | assumption)
      obtain ⟨ad121, e121, hx121_0⟩ := Kd.at_int (Kd.R_reads' HO_5.out).2.2 x13_1 p121 q121
      cases e121
      replace p121 := eq_true p121
      replace q121 := eq_true q121
      refine st_ 17 (S := fun w' => w'.cell? ⟨gb117, 0, none⟩ = some (.int .i64 a0_0) ∧ w'.cell? ⟨gb117, 1, none⟩ = some (.slice A0_1 l0_1.length c0_1) ∧ w'.cell? (ad121.add (x13_1).toNat) = some (.int .i64 (rd x5_1 x13_1))) (ds := [16]) ⟨cB BK117 0, cB BK117 1, hx121_0⟩ (fun hHeld => ?_); refine with_tabW impl_Complex_betti.tab5 impl_Complex_betti.bits5 (fun HT_ HW_ => ?_)
      generalize wr.drew = w14 at HO_5 BK117 HB hx121_0 hHeld ⊢
      refine pu_ 0 16 1 HT_ ?_
      refine pu_ 1 17 3 HT_ ?_
      refine pu_ 2 18 7 HT_ ?_
      refine pu_ 5 21 39 HT_ ?_
      refine pu_ 6 22 103 HT_ ?_
      refine pu_ 9 25 615 HT_ ?_
      refine pu_ 10 26 1639 HT_ ?_
      refine pu_ 11 27 3687 HT_ ?_
      refine tk_ 3 19 3695 HT_ HW_ hHeld ?_
      refine tk_ 4 20 3711 HT_ HW_ hHeld ?_
      refine tk_ 8 24 3967 HT_ HW_ hHeld ?_
      refine on_ 7 (some 23) 4095 HT_ (fun K hK => ?_)
      refine ca_ Try.func109 #[.agg #[.int .i64 a0_0, .slice A0_1 l0_1.length c0_1], .int .i64 x13_1, .int .i64 a1] ?_
      with_reducible refine (impl_Complex_rank.calls a0_0 _ _ l0_1 x13_1 a1 t122 _ ?side1 ?side2 A11.out).mono ?_
      (case side1 => exact pC ((Kd.C_below HR0_1.out HB.out)))
      (case side2 => exact HC0_1.out)
      rintro e w15 ⟨rfl, hb⟩
      have HS2_ := (hb.cell (World.block_lt_of_cell? _ _ (hHeld.2.2))).trans (hHeld.2.2)
      refine ⟨_, rfl, ?_⟩
      replace HO_5 := sR HO_5 hb
      replace BK117 := sB BK117 hb
      replace HB := sH HB hb
      (try clear hb)
      (try clear hb2)
      (try clear hk)
      (try clear hi)
      refine hK.out _ _ ⟨cB BK117 0, cB BK117 1, HS2_⟩ (fun hHeld => ?_)
      clear hK K
      refine nm_ ?_
      refine on_ 12 (some 28) 8191 HT_ (fun K hK => ?_)
      refine ca_ Try.func109 #[.agg #[.int .i64 a0_0, .slice A0_1 l0_1.length c0_1], .int .i64 (wrap64 (x13_1 + 1)), .int .i64 a1] ?_
      with_reducible refine (impl_Complex_rank.calls a0_0 _ _ l0_1 (wrap64 (x13_1 + 1)) a1 t123 _ ?side1 ?side2 A12.out).mono ?_
      (case side1 => exact pC ((Kd.C_below HR0_1.out HB.out)))
      (case side2 => exact HC0_1.out)
      rintro e w16 ⟨rfl, hb⟩
      have HS2_ := (hb.cell (World.block_lt_of_cell? _ _ (hHeld.2.2))).trans (hHeld.2.2)
      refine ⟨_, rfl, ?_⟩
      replace HO_5 := sR HO_5 hb
      replace BK117 := sB BK117 hb
      replace HB := sH HB hb
      (try clear hb)
      (try clear hb2)
      (try clear hk)
      (try clear hi)
      have p13 : 0 ≤ (x13_1 : Int) := of_decide_eq_true (by first | (with_reducible assumption) | assumption)
      have q13 : (x13_1 : Int) < ((x5_1.length : Int) : Int) := of_decide_eq_true (by first | (with_reducible assumption) | assumption)
      obtain ⟨go13, co13, eo13, gb13, gl13, cl13, HG13⟩ := Kd.R_form HO_5.out (by omega)
      (first | cases eo13 | (injection eo13 with ea_ en_ ec_; (first | subst ea_ | (injection ea_ with ea_; subst ea_)); subst ec_; clear en_))
      have GB13 := Aside0.mk gb13
      have GG13 := Aside0.mk HG13
      clear gb13 gl13 HG13
      (first | simp only [add_plain] at hx121_0 | skip)
      obtain ⟨hx13_0, hf13_0⟩ := Kd.R_celln 0 HO_5.out (x13_1 : Int) p13 q13
      replace p13 := eq_true p13
      replace q13 := eq_true q13
      have HP17 := Kd.R_putn HO_5.out (x13_1 : Int) (wrap64 ((rd x5_1 x13_1) - (wrap64 (t122 + t123))))
      rw [← Ny124.out] at HP17
      have HQ17 := Aside0.mk HP17
      clear HP17
      refine hK.out _ _ ⟨cB BK117 0, cB BK117 1, HS2_⟩ (fun hHeld => ?_)
      clear hK K
      refine nm_ ?_
      refine pu_ 13 29 16383 HT_ ?_
      refine pu_ 14 30 32767 HT_ ?_
      refine pu_ 15 31 65535 HT_ ?_
      refine last_ (i := 16) (N := none) (mB 17 131071) rfl rfl (one_of HT_.out (by kernel_rfl)) (by decide) (fun K hK => ?_)
      refine skip_ (w1 := ?_) (by rfl) rfl ?_ ?_
      rotate_left
      ·go_simp
       rfl
      refine hK.out _ _ ?_
      clear hK K
      refine dn_ HT_ ?_
      try go_wp2
      (try simp only [← hl5_1])
      go_roundg k1
      case measure => have := HK1.out; omega
      case rel => exact ⟨(y124), (wrap64 (x13_1 + 1)), (by first | rfl | (simp; done) | (simp [*]; done)), H', ⟨by have := HK1.out; omega⟩, ⟨by (try simp only [hl5_1]); (with_reducible repeat (first | apply Kd.R_alloc | apply Kd.R_drewN | apply Kd.R_drew)); exact HQ17.out⟩, ⟨by (try simp only [hl5_1]); (with_reducible repeat (first | refine blk_drewN ?_ _ | refine blk_drew ?_ | refine blk_alloc ?_ _)); refine blk_far ?_ (by have h_ := Kd.R_ne HO_5.out BK117.out (by decide); intro e_; exact h_ (by rw [e_]; rfl)) _; (with_reducible repeat (first | refine blk_drewN ?_ _ | refine blk_drew ?_ | refine blk_alloc ?_ _)); exact BK117.out⟩, ⟨by repeat (first | (with_reducible first | exact HB.out | apply below_alloc | apply pw_below_drewN | apply below_drew1 | refine below_set ?_ GB13.out | refine below_set ?_ GE117.out) | exact HB.out)⟩⟩
     ·rw [if_neg c10] at H
      exact absurd H (by simp)
    ·rw [if_neg c9] at H
     exact absurd H (by simp)
   ·rw [if_neg c8] at H
    have c8b0 : decide (x13_1 < (t118.length : Int)) = false := decide_eq_false c8
    (try (have c8z0_hl5_1 := c8b0; simp only [hl5_1] at c8z0_hl5_1))
    clear c8
    obtain rfl := Option.some.inj H
    go_wp2
    go_ret
    exact ⟨_, by first | rfl | (simp [errW_none, errW_some] <;> rfl) | (simp [*, errW_none, errW_some] <;> rfl) | (exfalso; simp_all), by (with_reducible repeat (first | apply Kd.R_alloc | apply Kd.R_drewN | apply Kd.R_drew)); exact HO_5.out, pH HB⟩
def impl_flag.f (a0 : Bool) : Option (Int) := if a0 = true then (some 1) else (some 0)
set_option maxHeartbeats 8000000 in
set_option maxRecDepth 100000 in
theorem impl_flag.calls (a0 : Bool) (r : Int) (w : World) (h : impl_flag.f a0 = some r) :
  Calls Try.prog 61 #[.bool a0] w fun e w' => e = .returned (.int .i64 r) ∧ Drawn0 w w' := by
 have H : (if a0 = true then (some 1) else (some 0)) = some r := h
 clear h
 by_cases c2 : a0 = true
 ·subst c2
  have H1 : (some 1) = some r := by rw [if_pos rfl] at H; exact H
  clear H
  have H := H1
  clear H1
  obtain rfl := Option.some.inj H
  go_enter Try.func61, Try.ntmps61
  go_wp2
  go_ret
  exact ⟨by first | rfl | (simp; done) | (simp [*]; done), by repeat (first | exact Drawn0.refl _ | apply Drawn0.step)⟩
 ·replace c2 := Bool.eq_false_iff.mpr c2
  subst c2
  have H1 : (some 0) = some r := by rw [if_neg (show ¬ (false = true) by decide)] at H; exact H
  clear H
  have H := H1
  clear H1
  obtain rfl := Option.some.inj H
  go_enter Try.func61, Try.ntmps61
  go_wp2
  go_ret
  exact ⟨by first | rfl | (simp; done) | (simp [*]; done), by repeat (first | exact Drawn0.refl _ | apply Drawn0.step)⟩
def impl_InequalitiesFor.l0 : Nat → Bool → Bool → Int → Int → List Int → Int → Int → List Int → Option (List Int × Int)
 | 0, _, _, _, _, _, _, _, _ => none
 | k + 1, x7, x8, x9, x10, x20, x21, x22, x127000 => if x22 < x21 then (if 0 ≤ x22 then (if x22 < (x20.length : Int) then (if x22 < (x127000.length : Int) then (if x7 = true then (if x8 = true then (impl_InequalitiesFor.l0 k (decide ((rd x127000 x22) ≥ (rd x20 x22))) (decide ((wrap64 ((rd x127000 x22) - x9)) ≥ (wrap64 ((rd x20 x22) - x10)))) (wrap64 ((rd x127000 x22) - x9)) (wrap64 ((rd x20 x22) - x10)) x20 x21 (wrap64 (x22 + 1)) x127000) else (impl_InequalitiesFor.l0 k (decide ((rd x127000 x22) ≥ (rd x20 x22))) false (wrap64 ((rd x127000 x22) - x9)) (wrap64 ((rd x20 x22) - x10)) x20 x21 (wrap64 (x22 + 1)) x127000)) else (if x8 = true then (impl_InequalitiesFor.l0 k false (decide ((wrap64 ((rd x127000 x22) - x9)) ≥ (wrap64 ((rd x20 x22) - x10)))) (wrap64 ((rd x127000 x22) - x9)) (wrap64 ((rd x20 x22) - x10)) x20 x21 (wrap64 (x22 + 1)) x127000) else (impl_InequalitiesFor.l0 k false false (wrap64 ((rd x127000 x22) - x9)) (wrap64 ((rd x20 x22) - x10)) x20 x21 (wrap64 (x22 + 1)) x127000))) else (none)) else (none)) else (none)) else ((impl_flag.f x7).bind fun t134 => ((impl_flag.f x8).bind fun t135 => ((impl_flag.f (x9 == x10)).bind fun t136 => (some ((([t134, t135, t136] : List Int)), 0)))))
def impl_InequalitiesFor.f (k : Nat) (a0_0 : Int) (l0_1 : List Int) (l1 : List Int) : Option (List Int × Int) := (impl_complexCode.f a0_0 l0_1 (clo_54 l1 a0_0 l0_1)).bind fun t127 => (if t127 = 0 then ((impl_Complex_betti.f k a0_0 l0_1 2).bind fun t128 => (impl_InequalitiesFor.l0 k true true 0 0 t128 (t128.length : Int) 0 l1)) else (some (([] : List Int), t127)))
theorem impl_InequalitiesFor.mono_l : ∀ k, (∀ y0 y1 y2 y3 y4 y5 y6 y7, LeO (impl_InequalitiesFor.l0 k y0 y1 y2 y3 y4 y5 y6 y7) (impl_InequalitiesFor.l0 (k + 1) y0 y1 y2 y3 y4 y5 y6 y7))
 | 0 => fun _ _ _ _ _ _ _ _ r h => by simp [impl_InequalitiesFor.l0] at h
 | k + 1 => by
  have ih0 := impl_InequalitiesFor.mono_l k
  ·intro y0 y1 y2 y3 y4 y5 y6 y7
   unfold impl_InequalitiesFor.l0
   repeat' first
   | (with_reducible exact ih0 _ _ _ _ _ _ _ _)
   | (with_reducible exact impl_Complex_betti.mono _ _ _ _)
   | (with_reducible exact LeO.refl _)
   | (with_reducible exact LeO.none _)
   | (with_reducible refine LeO.ite ?_ ?_)
   | (with_reducible refine LeO.bind ?_ (fun _ => ?_))
   | exact ih0 _ _ _ _ _ _ _ _
   | exact impl_Complex_betti.mono _ _ _ _
   | exact LeO.none _
   | refine LeO.ite ?_ ?_
   | refine LeO.bind ?_ (fun _ => ?_)
theorem impl_InequalitiesFor.mono : ∀ a0 a1 a2 k, LeO (impl_InequalitiesFor.f k a0 a1 a2) (impl_InequalitiesFor.f (k + 1) a0 a1 a2) := by
 intro a0 a1 a2 k
 have ih0 := impl_InequalitiesFor.mono_l k
 unfold impl_InequalitiesFor.f
 repeat' first
   | (with_reducible exact ih0 _ _ _ _ _ _ _ _)
   | (with_reducible exact impl_Complex_betti.mono _ _ _ _)
   | (with_reducible exact LeO.refl _)
   | (with_reducible exact LeO.none _)
   | (with_reducible refine LeO.ite ?_ ?_)
   | (with_reducible refine LeO.bind ?_ (fun _ => ?_))
   | exact ih0 _ _ _ _ _ _ _ _
   | exact impl_Complex_betti.mono _ _ _ _
   | exact LeO.none _
   | refine LeO.ite ?_ ?_
   | refine LeO.bind ?_ (fun _ => ?_)
set_option maxHeartbeats 8000000 in
set_option maxRecDepth 100000 in
theorem impl_InequalitiesFor.calls (k : Nat) (a0_0 : Int) (A0_1 : Option Addr) (c0_1 : Nat) (l0_1 : List Int) (A1 : Option Addr) (c1 : Nat) (l1 : List Int) (r1 : List Int) (r2 : Int) (w : World) (hr0_1 : Kd.C (Kd.int .i64) w A0_1 l0_1.length l0_1) (hc0_1 : l0_1.length ≤ c0_1) (hr1 : Kd.C (Kd.int .i64) w A1 l1.length l1) (hc1 : l1.length ≤ c1) (h : impl_InequalitiesFor.f k a0_0 l0_1 l1 = some (r1, r2)) :
  Calls Try.prog 17 #[.agg #[.int .i64 a0_0, .slice A0_1 l0_1.length c0_1], .slice A1 l1.length c1] w fun e w' => ∃ v0_ : Value, e = .returned (.tuple #[v0_, .int .i64 r2]) ∧ Kd.R (Kd.int .i64) 2 w' w.heap.size (fun _ => True) v0_ r1 ∧ Below w.heap.size w w' := by
 have hu28 := Try.underlying28
 have HR0_1 := Aside0.mk hr0_1
 have HC0_1 := Aside0.mk hc0_1
 clear hr0_1 hc0_1
 have HR1 := Aside0.mk hr1
 have HC1 := Aside0.mk hc1
 clear hr1 hc1
 have HB := Aside0.mk (Below.refl w.heap.size w)
 have H : ((impl_complexCode.f a0_0 l0_1 (clo_54 l1 a0_0 l0_1)).bind fun t127 => (if t127 = 0 then ((impl_Complex_betti.f k a0_0 l0_1 2).bind fun t128 => (impl_InequalitiesFor.l0 k true true 0 0 t128 (t128.length : Int) 0 l1)) else (some (([] : List Int), t127)))) = some (r1, r2) := h
 clear h
 replace H := Option.bind_eq_some_iff.mp H
 obtain ⟨t127, A30, H⟩ := H
 try dsimp only at H
 have A3 := Aside0.mk A30
 clear A30
 by_cases c4 : t127 = 0
 ·rw [if_pos c4] at H
  have c4b0 : (t127 == 0) = true := beq_iff_eq.mpr c4
  have c4b1 : (t127 != 0) = false := bne_eq_false_iff_eq.mpr c4
  clear c4
  replace H := Option.bind_eq_some_iff.mp H
  obtain ⟨t128, A50, H⟩ := H
  try dsimp only at H
  have A5 := Aside0.mk A50
  clear A50
  have H' := Aside0.mk H
  clear H
  go_enter Try.func17, Try.ntmps17
  go_wp2_with (first | ((with_reducible refine gate_dst (N := 2) rfl ?_); refine box_event ?hg (N := 2) ?hd (cs := #[.int .i64 a0_0, .slice A0_1 l0_1.length c0_1]) (t := 28) ?hr ?_; (case hd => rfl); (case hg => rfl); (case hr => first | (go_simp; done) | (go_simp; rfl)); intro gb125 hg w6 hbox hb; have BK125 := Aside0.mk (hbox); have GW125 := gH HB hg; have GE125 := gH HB hg; replace HB := sH HB hb; clear hb hbox hg) | ((with_reducible refine gate_dst (N := 3) rfl ?_); refine box_event ?hg (N := 3) ?hd (cs := #[.slice A1 l1.length c1]) (t := 22) ?hr ?_; (case hd => rfl); (case hg => rfl); (case hr => first | (go_simp; done) | (go_simp; rfl)); intro gb126 hg w7 hbox hb; have BK126 := Aside0.mk (hbox); have GW126 := gH HB hg; have GE126 := gH HB hg; replace HB := sH HB hb; have NB125_126 := nB BK125 hg; have NB126_125 := oB BK125 hg; replace BK125 := sB BK125 hb; clear hb hbox hg; (try have hnb8 := NB125_126.out); (try have hnc8 := NB126_125.out); have hcz9_0 : w7.cell? ⟨gb125, 0, none⟩ = some (.int .i64 a0_0) := cB BK125 0; have hcz9_1 : w7.cell? ⟨gb125, 1, none⟩ = some (.slice A0_1 l0_1.length c0_1) := cB BK125 1; have hfz9_0 := zB BK125 0; have hfz9_1 := zB BK125 1) | ((with_reducible refine gate_callee (f := 53) rfl ?_); refine cl_ (some 15) Try.func53 #[.agg #[.int .i64 a0_0, .slice A0_1 l0_1.length c0_1], .func (.func 54) #[] #[.pointer (some ⟨gb126, 0, none⟩), .pointer (some ⟨gb125, 0, none⟩)]] ?_; (with_reducible refine (impl_complexCode.calls a0_0 _ _ l0_1 _ (clo_54 l1 a0_0 l0_1) t127 _ ?side1 ?side2 ?side3 A3.out).mono ?_); (case side1 => exact pC ((Kd.C_below HR0_1.out HB.out))); (case side2 => exact HC0_1.out); (case side3 => exact clo_ok_54 (pB BK126) (pB BK125) (by exact pC ((Kd.C_below HR1.out HB.out))) (by exact HC1.out) (by exact pC ((Kd.C_below HR0_1.out HB.out))) (by exact HC0_1.out)); rintro e w10 ⟨rfl, hb⟩; refine ⟨_, rfl, ?_⟩; replace BK125 := sB BK125 hb; replace BK126 := sB BK126 hb; replace HB := sH HB hb; (try clear hb); (try clear hi); have hcz11_0 : w10.cell? ⟨gb125, 0, none⟩ = some (.int .i64 a0_0) := cB BK125 0; have hcz11_1 : w10.cell? ⟨gb125, 1, none⟩ = some (.slice A0_1 l0_1.length c0_1) := cB BK125 1; have hfz11_0 := zB BK125 0; have hfz11_1 := zB BK125 1) | ((with_reducible refine gate_callee (f := 60) rfl ?_); refine cl_ (some 20) Try.func60 #[.agg #[.int .i64 a0_0, .slice A0_1 l0_1.length c0_1], .int .i64 2] ?_; (with_reducible refine (impl_Complex_betti.calls k a0_0 _ _ l0_1 2 t128 _ ?side1 ?side2 A5.out).mono ?_); (case side1 => exact pC ((Kd.C_below HR0_1.out HB.out))); (case side2 => exact HC0_1.out); rintro e w12 ⟨v129, rfl, ho0, hb⟩; refine ⟨_, rfl, ?_⟩; have HO130 := Aside0.mk (Kd.R_lower ho0 (below_size (pH HB))); replace BK125 := sB BK125 hb; replace BK126 := sB BK126 hb; replace HB := sH HB hb; (try clear hb); (try clear hi); (try clear ho0); obtain ⟨Ao13, co13, eo13⟩ := Kd.R_slice HO130.out; subst eo13))
  go_loopg [7, 8, 9, 10, 22] k (fun kq v7 v8 v9 v10 v22 w' => ∃ (x7_1 : Bool) (x8_1 : Bool) (x9_1 : Int) (x10_1 : Int) (x22_1 : Int), v7 = .bool x7_1 ∧ v8 = .bool x8_1 ∧ v9 = .int .i64 x9_1 ∧ v10 = .int .i64 x10_1 ∧ v22 = .int .i64 x22_1 ∧ Aside0 (impl_InequalitiesFor.l0 kq x7_1 x8_1 x9_1 x10_1 t128 (t128.length : Int) x22_1 l1 = some (r1, r2)) ∧ Aside0 (kq ≤ k) ∧ Aside0 (Kd.R (Kd.int .i64) 2 w' w.heap.size (fun _ => True) (.slice Ao13 t128.length co13) t128) ∧ Aside0 (w'.heap[gb125]? = some (.cells #[.int .i64 a0_0, (.slice A0_1 l0_1.length c0_1)] 28 (0, 0))) ∧ Aside0 (w'.heap[gb126]? = some (.cells #[(.slice A1 l1.length c1)] 22 (0, 0))) ∧ Aside0 (Below w.heap.size w w'))
  case atStart => exact ⟨(true), (true), (0), (0), (0), (by first | rfl | (simp; done) | (simp [*]; done)), (by first | rfl | (simp; done) | (simp [*]; done)), (by first | rfl | (simp; done) | (simp [*]; done)), (by first | rfl | (simp; done) | (simp [*]; done)), (by first | rfl | (simp; done) | (simp [*]; done)), H', ⟨Nat.le_refl _⟩, ⟨by (with_reducible repeat (first | apply Kd.R_alloc | apply Kd.R_drewN | apply Kd.R_drew)); exact HO130.out⟩, ⟨pB BK125⟩, ⟨pB BK126⟩, ⟨pH HB⟩⟩
  case round =>
   clear H'
   try clear c1
   try clear p2
   try clear c4
   try clear c4b0
   try clear c4b1
   try clear c5
   try clear c6
   try clear c8
   try clear hcz11_0
   try clear hcz11_1
   try clear hcz9_0
   try clear hcz9_1
   try clear hfz11_0
   try clear hfz11_1
   try clear hfz9_0
   try clear hfz9_1
   obtain ⟨x7_1, x8_1, x9_1, x10_1, x22_1, rfl, rfl, rfl, rfl, rfl, HA, HK1, HO_20, BK125, BK126, HB⟩ := hrel
   cases gk with
   | zero => exact absurd HA.out (by simp [impl_InequalitiesFor.l0])
   | succ k1 =>
    have H := HA.out
    clear HA
    simp only [impl_InequalitiesFor.l0] at H
    by_cases c14 : x22_1 < (t128.length : Int)
    ·rw [if_pos c14] at H
     have c14b0 : decide (x22_1 < (t128.length : Int)) = true := decide_eq_true c14
     clear c14
     by_cases c15 : 0 ≤ x22_1
     ·rw [if_pos c15] at H
      have c15b0 : decide (0 ≤ x22_1) = true := decide_eq_true c15
      clear c15
      by_cases c16 : x22_1 < (t128.length : Int)
      ·rw [if_pos c16] at H
       have c16b0 : decide (x22_1 < (t128.length : Int)) = true := decide_eq_true c16
       clear c16
       by_cases c17 : x22_1 < (l1.length : Int)
       ·rw [if_pos c17] at H
        have c17b0 : decide (x22_1 < (l1.length : Int)) = true := decide_eq_true c17
        clear c17
        by_cases c18 : x7_1 = true
        ·subst c18
         have H1 : (if x8_1 = true then (impl_InequalitiesFor.l0 k1 (decide ((rd l1 x22_1) ≥ (rd t128 x22_1))) (decide ((wrap64 ((rd l1 x22_1) - x9_1)) ≥ (wrap64 ((rd t128 x22_1) - x10_1)))) (wrap64 ((rd l1 x22_1) - x9_1)) (wrap64 ((rd t128 x22_1) - x10_1)) t128 (t128.length : Int) (wrap64 (x22_1 + 1)) l1) else (impl_InequalitiesFor.l0 k1 (decide ((rd l1 x22_1) ≥ (rd t128 x22_1))) false (wrap64 ((rd l1 x22_1) - x9_1)) (wrap64 ((rd t128 x22_1) - x10_1)) t128 (t128.length : Int) (wrap64 (x22_1 + 1)) l1)) = some (r1, r2) := by rw [if_pos rfl] at H; exact H
         clear H
         have H := H1
         clear H1
         by_cases c19 : x8_1 = true
         ·subst c19
          have H1 : (impl_InequalitiesFor.l0 k1 (decide ((rd l1 x22_1) ≥ (rd t128 x22_1))) (decide ((wrap64 ((rd l1 x22_1) - x9_1)) ≥ (wrap64 ((rd t128 x22_1) - x10_1)))) (wrap64 ((rd l1 x22_1) - x9_1)) (wrap64 ((rd t128 x22_1) - x10_1)) t128 (t128.length : Int) (wrap64 (x22_1 + 1)) l1) = some (r1, r2) := by rw [if_pos rfl] at H; exact H
          clear H
          have H := H1
          clear H1
          have H' := Aside0.mk H
          clear H
          have p131 : 0 ≤ (x22_1 : Int) := of_decide_eq_true (by first | (with_reducible assumption) | assumption)
          have q131 : x22_1 < (t128.length : Int) := of_decide_eq_true (by first | (with_reducible assumption) | assumption)
          obtain ⟨ad131, e131, hx131_0⟩ := Kd.at_int (Kd.R_reads' HO_20.out).2.2 x22_1 p131 q131
          cases e131
          replace p131 := eq_true p131
          replace q131 := eq_true q131
          (try have hnb20 := NB126_125.out)
          (try have hnc20 := NB125_126.out)
          have hcz21_0 : wr.cell? ⟨gb126, 0, none⟩ = some (.slice A1 l1.length c1) := cB BK126 0
          have hfz21_0 := zB BK126 0
          have p132 : 0 ≤ (x22_1 : Int) := of_decide_eq_true (by first | (with_reducible assumption) | assumption)
          have q132 : x22_1 < (l1.length : Int) := of_decide_eq_true (by first | (with_reducible assumption) | assumption)
          obtain ⟨ad132, e132, hx132_0⟩ := Kd.at_int HR1.out x22_1 p132 q132
          cases e132
          replace hx132_0 := cH HB hx132_0
          replace p132 := eq_true p132
          replace q132 := eq_true q132
          have p133 : 0 ≤ (x22_1 : Int) := of_decide_eq_true (by first | (with_reducible assumption) | assumption)
          have q133 : x22_1 < (l1.length : Int) := of_decide_eq_true (by first | (with_reducible assumption) | assumption)
          obtain ⟨ad133, e133, hx133_0⟩ := Kd.at_int HR1.out x22_1 p133 q133
          obtain rfl : ad132 = ad133 := (by injection e133)
          replace hx133_0 := cH HB hx133_0
          replace p133 := eq_true p133
          replace q133 := eq_true q133
          go_wp2
          go_roundg k1
          case measure => have := HK1.out; omega
          case rel => exact ⟨(decide ((rd l1 x22_1) ≥ (rd t128 x22_1))), (decide ((wrap64 ((rd l1 x22_1) - x9_1)) ≥ (wrap64 ((rd t128 x22_1) - x10_1)))), (wrap64 ((rd l1 x22_1) - x9_1)), (wrap64 ((rd t128 x22_1) - x10_1)), (wrap64 (x22_1 + 1)), (by first | rfl | (simp; done) | (simp [*]; done)), (by first | rfl | (simp; done) | (simp [*]; done)), (by first | rfl | (simp; done) | (simp [*]; done)), (by first | rfl | (simp; done) | (simp [*]; done)), (by first | rfl | (simp; done) | (simp [*]; done)), H', ⟨by have := HK1.out; omega⟩, ⟨by (with_reducible repeat (first | apply Kd.R_alloc | apply Kd.R_drewN | apply Kd.R_drew)); exact HO_20.out⟩, ⟨pB BK125⟩, ⟨pB BK126⟩, ⟨pH HB⟩⟩
         ·replace c19 := Bool.eq_false_iff.mpr c19
          subst c19
          have H1 : (impl_InequalitiesFor.l0 k1 (decide ((rd l1 x22_1) ≥ (rd t128 x22_1))) false (wrap64 ((rd l1 x22_1) - x9_1)) (wrap64 ((rd t128 x22_1) - x10_1)) t128 (t128.length : Int) (wrap64 (x22_1 + 1)) l1) = some (r1, r2) := by rw [if_neg (show ¬ (false = true) by decide)] at H; exact H
          clear H
          have H := H1
          clear H1
          have H' := Aside0.mk H
          clear H
          have p131 : 0 ≤ (x22_1 : Int) := of_decide_eq_true (by first | (with_reducible assumption) | assumption)
          have q131 : x22_1 < (t128.length : Int) := of_decide_eq_true (by first | (with_reducible assumption) | assumption)
          obtain ⟨ad131, e131, hx131_0⟩ := Kd.at_int (Kd.R_reads' HO_20.out).2.2 x22_1 p131 q131
          cases e131
          replace p131 := eq_true p131
          replace q131 := eq_true q131
          (try have hnb22 := NB126_125.out)
          (try have hnc22 := NB125_126.out)
          have hcz23_0 : wr.cell? ⟨gb126, 0, none⟩ = some (.slice A1 l1.length c1) := cB BK126 0
          have hfz23_0 := zB BK126 0
          have p132 : 0 ≤ (x22_1 : Int) := of_decide_eq_true (by first | (with_reducible assumption) | assumption)
          have q132 : x22_1 < (l1.length : Int) := of_decide_eq_true (by first | (with_reducible assumption) | assumption)
          obtain ⟨ad132, e132, hx132_0⟩ := Kd.at_int HR1.out x22_1 p132 q132
          cases e132
          replace hx132_0 := cH HB hx132_0
          replace p132 := eq_true p132
          replace q132 := eq_true q132
          have p133 : 0 ≤ (x22_1 : Int) := of_decide_eq_true (by first | (with_reducible assumption) | assumption)
          have q133 : x22_1 < (l1.length : Int) := of_decide_eq_true (by first | (with_reducible assumption) | assumption)
          obtain ⟨ad133, e133, hx133_0⟩ := Kd.at_int HR1.out x22_1 p133 q133
          obtain rfl : ad132 = ad133 := (by injection e133)
          replace hx133_0 := cH HB hx133_0
          replace p133 := eq_true p133
          replace q133 := eq_true q133
          go_wp2
          go_roundg k1
          case measure => have := HK1.out; omega
          case rel => exact ⟨(decide ((rd l1 x22_1) ≥ (rd t128 x22_1))), (false), (wrap64 ((rd l1 x22_1) - x9_1)), (wrap64 ((rd t128 x22_1) - x10_1)), (wrap64 (x22_1 + 1)), (by first | rfl | (simp; done) | (simp [*]; done)), (by first | rfl | (simp; done) | (simp [*]; done)), (by first | rfl | (simp; done) | (simp [*]; done)), (by first | rfl | (simp; done) | (simp [*]; done)), (by first | rfl | (simp; done) | (simp [*]; done)), H', ⟨by have := HK1.out; omega⟩, ⟨by (with_reducible repeat (first | apply Kd.R_alloc | apply Kd.R_drewN | apply Kd.R_drew)); exact HO_20.out⟩, ⟨pB BK125⟩, ⟨pB BK126⟩, ⟨pH HB⟩⟩
        ·replace c18 := Bool.eq_false_iff.mpr c18
         subst c18
         have H1 : (if x8_1 = true then (impl_InequalitiesFor.l0 k1 false (decide ((wrap64 ((rd l1 x22_1) - x9_1)) ≥ (wrap64 ((rd t128 x22_1) - x10_1)))) (wrap64 ((rd l1 x22_1) - x9_1)) (wrap64 ((rd t128 x22_1) - x10_1)) t128 (t128.length : Int) (wrap64 (x22_1 + 1)) l1) else (impl_InequalitiesFor.l0 k1 false false (wrap64 ((rd l1 x22_1) - x9_1)) (wrap64 ((rd t128 x22_1) - x10_1)) t128 (t128.length : Int) (wrap64 (x22_1 + 1)) l1)) = some (r1, r2) := by rw [if_neg (show ¬ (false = true) by decide)] at H; exact H
         clear H
         have H := H1
         clear H1
         by_cases c24 : x8_1 = true
         ·subst c24
          have H1 : (impl_InequalitiesFor.l0 k1 false (decide ((wrap64 ((rd l1 x22_1) - x9_1)) ≥ (wrap64 ((rd t128 x22_1) - x10_1)))) (wrap64 ((rd l1 x22_1) - x9_1)) (wrap64 ((rd t128 x22_1) - x10_1)) t128 (t128.length : Int) (wrap64 (x22_1 + 1)) l1) = some (r1, r2) := by rw [if_pos rfl] at H; exact H
          clear H
          have H := H1
          clear H1
          have H' := Aside0.mk H
          clear H
          have p131 : 0 ≤ (x22_1 : Int) := of_decide_eq_true (by first | (with_reducible assumption) | assumption)
          have q131 : x22_1 < (t128.length : Int) := of_decide_eq_true (by first | (with_reducible assumption) | assumption)
          obtain ⟨ad131, e131, hx131_0⟩ := Kd.at_int (Kd.R_reads' HO_20.out).2.2 x22_1 p131 q131
          cases e131
          replace p131 := eq_true p131
          replace q131 := eq_true q131
          (try have hnb25 := NB126_125.out)
          (try have hnc25 := NB125_126.out)
          have hcz26_0 : wr.cell? ⟨gb126, 0, none⟩ = some (.slice A1 l1.length c1) := cB BK126 0
          have hfz26_0 := zB BK126 0
          have p132 : 0 ≤ (x22_1 : Int) := of_decide_eq_true (by first | (with_reducible assumption) | assumption)
          have q132 : x22_1 < (l1.length : Int) := of_decide_eq_true (by first | (with_reducible assumption) | assumption)
          obtain ⟨ad132, e132, hx132_0⟩ := Kd.at_int HR1.out x22_1 p132 q132
          cases e132
          replace hx132_0 := cH HB hx132_0
          replace p132 := eq_true p132
          replace q132 := eq_true q132
          go_wp2
          go_roundg k1
          case measure => have := HK1.out; omega
          case rel => exact ⟨(false), (decide ((wrap64 ((rd l1 x22_1) - x9_1)) ≥ (wrap64 ((rd t128 x22_1) - x10_1)))), (wrap64 ((rd l1 x22_1) - x9_1)), (wrap64 ((rd t128 x22_1) - x10_1)), (wrap64 (x22_1 + 1)), (by first | rfl | (simp; done) | (simp [*]; done)), (by first | rfl | (simp; done) | (simp [*]; done)), (by first | rfl | (simp; done) | (simp [*]; done)), (by first | rfl | (simp; done) | (simp [*]; done)), (by first | rfl | (simp; done) | (simp [*]; done)), H', ⟨by have := HK1.out; omega⟩, ⟨by (with_reducible repeat (first | apply Kd.R_alloc | apply Kd.R_drewN | apply Kd.R_drew)); exact HO_20.out⟩, ⟨pB BK125⟩, ⟨pB BK126⟩, ⟨pH HB⟩⟩
         ·replace c24 := Bool.eq_false_iff.mpr c24
          subst c24
          have H1 : (impl_InequalitiesFor.l0 k1 false false (wrap64 ((rd l1 x22_1) - x9_1)) (wrap64 ((rd t128 x22_1) - x10_1)) t128 (t128.length : Int) (wrap64 (x22_1 + 1)) l1) = some (r1, r2) := by rw [if_neg (show ¬ (false = true) by decide)] at H; exact H
          clear H
          have H := H1
          clear H1
          have H' := Aside0.mk H
          clear H
          have p131 : 0 ≤ (x22_1 : Int) := of_decide_eq_true (by first | (with_reducible assumption) | assumption)
          have q131 : x22_1 < (t128.length : Int) := of_decide_eq_true (by first | (with_reducible assumption) | assumption)
          obtain ⟨ad131, e131, hx131_0⟩ := Kd.at_int (Kd.R_reads' HO_20.out).2.2 x22_1 p131 q131
          cases e131
          replace p131 := eq_true p131
          replace q131 := eq_true q131
          (try have hnb27 := NB126_125.out)
          (try have hnc27 := NB125_126.out)
          have hcz28_0 : wr.cell? ⟨gb126, 0, none⟩ = some (.slice A1 l1.length c1) := cB BK126 0
          have hfz28_0 := zB BK126 0
          have p132 : 0 ≤ (x22_1 : Int) := of_decide_eq_true (by first | (with_reducible assumption) | assumption)
          have q132 : x22_1 < (l1.length : Int) := of_decide_eq_true (by first | (with_reducible assumption) | assumption)
          obtain ⟨ad132, e132, hx132_0⟩ := Kd.at_int HR1.out x22_1 p132 q132
          cases e132
          replace hx132_0 := cH HB hx132_0
          replace p132 := eq_true p132
          replace q132 := eq_true q132
          go_wp2
          go_roundg k1
          case measure => have := HK1.out; omega
          case rel => exact ⟨(false), (false), (wrap64 ((rd l1 x22_1) - x9_1)), (wrap64 ((rd t128 x22_1) - x10_1)), (wrap64 (x22_1 + 1)), (by first | rfl | (simp; done) | (simp [*]; done)), (by first | rfl | (simp; done) | (simp [*]; done)), (by first | rfl | (simp; done) | (simp [*]; done)), (by first | rfl | (simp; done) | (simp [*]; done)), (by first | rfl | (simp; done) | (simp [*]; done)), H', ⟨by have := HK1.out; omega⟩, ⟨by (with_reducible repeat (first | apply Kd.R_alloc | apply Kd.R_drewN | apply Kd.R_drew)); exact HO_20.out⟩, ⟨pB BK125⟩, ⟨pB BK126⟩, ⟨pH HB⟩⟩
       ·rw [if_neg c17] at H
        exact absurd H (by simp)
      ·rw [if_neg c16] at H
       exact absurd H (by simp)
     ·rw [if_neg c15] at H
      exact absurd H (by simp)
    ·rw [if_neg c14] at H
     have c14b0 : decide (x22_1 < (t128.length : Int)) = false := decide_eq_false c14
     clear c14
     replace H := Option.bind_eq_some_iff.mp H
     obtain ⟨t134, A290, H⟩ := H
     try dsimp only at H
     have A29 := Aside0.mk A290
     clear A290
     replace H := Option.bind_eq_some_iff.mp H
     obtain ⟨t135, A300, H⟩ := H
     try dsimp only at H
     have A30 := Aside0.mk A300
     clear A300
     replace H := Option.bind_eq_some_iff.mp H
     obtain ⟨t136, A310, H⟩ := H
     try dsimp only at H
     have A31 := Aside0.mk A310
     clear A310
     obtain ⟨y137, hy137⟩ : ∃ y_ : List Int, y_ = (([t134, t135, t136] : List Int)) := ⟨_, rfl⟩
     replace H : (some (y137, 0)) = some (r1, r2) := by first | (rw [hy137]; with_reducible exact H) | (have H2_ := (Option.bind_some _ _).symm.trans H; rw [hy137]; with_reducible exact H2_) | (have H2_ := (Option.bind_some _ _).symm.trans H; with_reducible exact H2_) | with_reducible exact H | (rw [hy137]; exact H) | exact H
     have Ny137 := Aside0.mk hy137
     clear hy137
     simp only [Option.some.injEq, Prod.mk.injEq] at H
     obtain ⟨rfl, rfl⟩ := H
     go_wp2_with (first | ((with_reducible refine gate_callee (f := 61) rfl ?_); refine cl_ (some 53) Try.func61 #[.bool x7_1] ?_; (with_reducible refine (impl_flag.calls x7_1 t134 _ A29.out).mono ?_); rintro e w' ⟨rfl, ⟨nd, rfl⟩⟩; refine ⟨_, rfl, ?_⟩) | ((with_reducible refine gate_callee (f := 61) rfl ?_); refine cl_ (some 55) Try.func61 #[.bool x8_1] ?_; (with_reducible refine (impl_flag.calls x8_1 t135 _ A30.out).mono ?_); rintro e w' ⟨rfl, ⟨nd, rfl⟩⟩; refine ⟨_, rfl, ?_⟩) | ((with_reducible refine gate_callee (f := 61) rfl ?_); refine cl_ (some 59) Try.func61 #[.bool (x9_1 == x10_1)] ?_; (with_reducible refine (impl_flag.calls (x9_1 == x10_1) t136 _ A31.out).mono ?_); rintro e w' ⟨rfl, ⟨nd, rfl⟩⟩; refine ⟨_, rfl, ?_⟩) | ((with_reducible refine gate_dst (N := 60) rfl ?_); refine Kd.R_lit (Kd.int .i64) _ 2 ?hg (N := 60) ?hd (xs := ([t134, t135, t136] : List Int)) (inner := [.int .i64 t134, .int .i64 t135, .int .i64 t136]) (ok := fun _ => True) (okp := fun _ => True) ?hr ?hp (fun _ hk => hk) trivial (Below.refl _ _) (Nat.le_refl _) (by simp) ?_; (case hd => rfl); (case hg => rfl); (case hr => first | (go_simp; done) | (go_simp; rfl)); (case hp => exact (Reps.one (show Kd.M (Kd.int .i64) _ _ _ t134 [.int .i64 t134] from rfl) (Reps.one (show Kd.M (Kd.int .i64) _ _ _ t135 [.int .i64 t135] from rfl) (Reps.one (show Kd.M (Kd.int .i64) _ _ _ t136 [.int .i64 t136] from rfl) (Reps.none _ _))))); intro v138 w32 ho33 hb hg_ hnew_; clear hg_ hnew_; (first | rw [← Ny137.out] at ho33 | (simp only [Int.reduceToNat] at ho33; rw [← Ny137.out] at ho33)); have HO139 := Aside0.mk (Kd.R_lower (Kd.R_new' ho33 (Kd.R_lt (pR HO_20))) (below_size (pH HB))); replace HO_20 := Aside0.mk (Kd.R_elder' (pR HO_20) (Kd.R_base ho33) hb); replace BK125 := sB BK125 hb; replace BK126 := sB BK126 hb; replace HB := sH HB hb; clear hb ho33))
     go_ret2
     exact ⟨_, by first | rfl | (simp [errW_none, errW_some] <;> rfl) | (simp [*, errW_none, errW_some] <;> rfl) | (exfalso; simp_all), by (with_reducible repeat (first | apply Kd.R_alloc | apply Kd.R_drewN | apply Kd.R_drew)); exact Kd.R_mono HO139.out (fun _ hk => trivial), pH HB⟩
 ·rw [if_neg c4] at H
  have c4b0 : (t127 == 0) = false := beq_eq_false_iff_ne.mpr c4
  have c4b1 : (t127 != 0) = true := bne_iff_ne.mpr c4
  simp only [Option.some.injEq, Prod.mk.injEq] at H
  obtain ⟨rfl, rfl⟩ := H
  go_enter Try.func17, Try.ntmps17
  go_wp2_with (first | ((with_reducible refine gate_dst (N := 2) rfl ?_); refine box_event ?hg (N := 2) ?hd (cs := #[.int .i64 a0_0, .slice A0_1 l0_1.length c0_1]) (t := 28) ?hr ?_; (case hd => rfl); (case hg => rfl); (case hr => first | (go_simp; done) | (go_simp; rfl)); intro gb125 hg w34 hbox hb; have BK125 := Aside0.mk (hbox); have GW125 := gH HB hg; have GE125 := gH HB hg; replace HB := sH HB hb; clear hb hbox hg) | ((with_reducible refine gate_dst (N := 3) rfl ?_); refine box_event ?hg (N := 3) ?hd (cs := #[.slice A1 l1.length c1]) (t := 22) ?hr ?_; (case hd => rfl); (case hg => rfl); (case hr => first | (go_simp; done) | (go_simp; rfl)); intro gb126 hg w35 hbox hb; have BK126 := Aside0.mk (hbox); have GW126 := gH HB hg; have GE126 := gH HB hg; replace HB := sH HB hb; have NB125_126 := nB BK125 hg; have NB126_125 := oB BK125 hg; replace BK125 := sB BK125 hb; clear hb hbox hg; (try have hnb36 := NB125_126.out); (try have hnc36 := NB126_125.out); have hcz37_0 : w35.cell? ⟨gb125, 0, none⟩ = some (.int .i64 a0_0) := cB BK125 0; have hcz37_1 : w35.cell? ⟨gb125, 1, none⟩ = some (.slice A0_1 l0_1.length c0_1) := cB BK125 1; have hfz37_0 := zB BK125 0; have hfz37_1 := zB BK125 1) | ((with_reducible refine gate_callee (f := 53) rfl ?_); refine cl_ (some 15) Try.func53 #[.agg #[.int .i64 a0_0, .slice A0_1 l0_1.length c0_1], .func (.func 54) #[] #[.pointer (some ⟨gb126, 0, none⟩), .pointer (some ⟨gb125, 0, none⟩)]] ?_; (with_reducible refine (impl_complexCode.calls a0_0 _ _ l0_1 _ (clo_54 l1 a0_0 l0_1) t127 _ ?side1 ?side2 ?side3 A3.out).mono ?_); (case side1 => exact pC ((Kd.C_below HR0_1.out HB.out))); (case side2 => exact HC0_1.out); (case side3 => exact clo_ok_54 (pB BK126) (pB BK125) (by exact pC ((Kd.C_below HR1.out HB.out))) (by exact HC1.out) (by exact pC ((Kd.C_below HR0_1.out HB.out))) (by exact HC0_1.out)); rintro e w38 ⟨rfl, hb⟩; refine ⟨_, rfl, ?_⟩; replace BK125 := sB BK125 hb; replace BK126 := sB BK126 hb; replace HB := sH HB hb; (try clear hb); (try clear hi)))
  go_ret2
  exact ⟨_, by first | rfl | (simp [errW_none, errW_some] <;> rfl) | (simp [*, errW_none, errW_some] <;> rfl) | (exfalso; simp_all), by first | exact Kd.R_nil _ _ _ _ _ | exact Kd.N_nil _ _ _ _ _ | exact Kd.V_nil _ _ _ _ _ | exact Kd.Q_nil _ _ _ _ _ | exact Kd.S_nil _ _ _ _ _, pH HB⟩
end Go.Proofs.Ytomdfjohnmikdaa.QE
namespace Go.Proofs.Ytomdfjohnmikdaa.Ql03Betti
open Go.Proofs.Ytomdfjohnmikdaa.Cw Go.Proofs.Ytomdfjohnmikdaa.Kp Go.Proofs.Ytomdfjohnmikdaa.Ext Go.Proofs.Ytomdfjohnmikdaa.QS Go.RowKit Go.Proofs.YtomdfjohnmikdaaW.PrintWords Go.Proofs.YtomdfjohnmikdaaW.PrintLast Go.Proofs.YtomdfjohnmikdaaW.PrintMore
attribute [local go_sem] max2_int min2_int max_two min_two max_three min_three max_four min_four   -- for this text's walks alone
set_option linter.unusedVariables false
set_option linter.unusedSimpArgs false
theorem info2 : (Try.prog.info? 2).map (fun i => (i.zero, i.size, i.bytes)) = some (some (.int .i64 0), 1, 8) := by kernel_rfl
end Go.Proofs.Ytomdfjohnmikdaa.Ql03Betti
namespace Go.Proofs.Ytomdfjohnmikdaa.Ql03Betti
open Go.Proofs.Ytomdfjohnmikdaa.Cw Go.Proofs.Ytomdfjohnmikdaa.Kp Go.Proofs.Ytomdfjohnmikdaa.Ext Go.Proofs.Ytomdfjohnmikdaa.QS Go.RowKit Go.Proofs.YtomdfjohnmikdaaW.PrintWords Go.Proofs.YtomdfjohnmikdaaW.PrintLast Go.Proofs.YtomdfjohnmikdaaW.PrintMore
attribute [local go_sem] max2_int min2_int max_two min_two max_three min_three max_four min_four   -- for this text's walks alone
set_option linter.unusedVariables false
set_option linter.unusedSimpArgs false
def spec_l03Betti.l0 : Nat → Int → List Int → Int → Int → List Int → Option (List Int)
 | 0, _, _, _, _, _ => none
 | k + 1, x1, x5, x6, x115000, x115001 => (spec_l01Dim.f k x115000 x115001).bind fun t118 => (if x6 ≤ t118 then ((spec_l01Of.f k x115000 x115001 x6).bind fun t119 => ((spec_l03RankOf.f x115000 x115001 x6 x1).bind fun t122 => ((spec_l03RankOf.f x115000 x115001 (wrap64 (x6 + 1)) x1).bind fun t123 => (if x5.length < 17592186044416 then (spec_l03Betti.l0 k x1 (x5 ++ [wrap64 ((wrap64 ((t119.length : Int) - t122)) - t123)]) (wrap64 (x6 + 1)) x115000 x115001) else (none))))) else (some x5))
def spec_l03Betti.f (k : Nat) (a0_0 : Int) (l0_1 : List Int) (a1 : Int) : Option (List Int) := spec_l03Betti.l0 k a1 (([] : List Int)) 0 a0_0 l0_1
def spec_l03Betti.T5 : Bool × List (List Nat × List Nat) := (true, [([], []), ([], []), ([], []), ([1, 2], [1, 2]), ([3], [3]), ([], []), ([], []), ([], []), ([5, 6, 7, 3], [5, 6, 7]), ([4, 8], [4, 8]), ([], []), ([], []), ([11], [11]), ([], []), ([10, 12, 13, 8], [10, 12, 13]), ([9, 14], [9, 14]), ([15], [15]), ([0, 16, 14], [0, 16]), ([17, 17, 0, 1, 2, 3, 4, 5, 6, 7, 8, 9, 10, 11, 12, 13, 14, 15, 16, 17], [0, 17])])
def spec_l03Betti.B5 : List Nat := [0, 0, 0, 6, 14, 0, 0, 0, 238, 510, 0, 0, 2048, 0, 15854, 32766, 65534, 131071, 262143]
theorem spec_l03Betti.tab5 : rtab .any (opsOf Try.f51 5) = spec_l03Betti.T5 := by kernel_rfl
theorem spec_l03Betti.bits5 : waitsOk spec_l03Betti.T5.2 spec_l03Betti.B5 = true := by kernel_rfl
set_option maxHeartbeats 8000000 in
set_option maxRecDepth 100000 in
theorem spec_l03Betti.calls (k : Nat) (a0_0 : Int) (A0_1 : Option Addr) (c0_1 : Nat) (l0_1 : List Int) (a1 : Int) (r : List Int) (w : World) (hr0_1 : Kd.C (Kd.int .i64) w A0_1 l0_1.length l0_1) (hc0_1 : l0_1.length ≤ c0_1) (h : spec_l03Betti.f k a0_0 l0_1 a1 = some r) :
  Calls Try.prog 51 #[.agg #[.int .i64 a0_0, .slice A0_1 l0_1.length c0_1], .int .i64 a1] w fun e w' => ∃ v0_ : Value, e = .returned (v0_) ∧ Kd.R (Kd.int .i64) 2 w' w.heap.size (fun _ => True) v0_ r ∧ Below w.heap.size w w' := by
 have hu28 := Try.underlying28
 have HR0_1 := Aside0.mk hr0_1
 have HC0_1 := Aside0.mk hc0_1
 clear hr0_1 hc0_1
 have HB := Aside0.mk (Below.refl w.heap.size w)
 have H : (spec_l03Betti.l0 k a1 (([] : List Int)) 0 a0_0 l0_1) = some r := h
 clear h
 obtain ⟨y115, hy115⟩ : ∃ y_ : List Int, y_ = (([] : List Int)) := ⟨_, rfl⟩
 replace H : (spec_l03Betti.l0 k a1 y115 0 a0_0 l0_1) = some r := by first | (rw [hy115]; with_reducible exact H) | (have H2_ := (Option.bind_some _ _).symm.trans H; rw [hy115]; with_reducible exact H2_) | (have H2_ := (Option.bind_some _ _).symm.trans H; with_reducible exact H2_) | with_reducible exact H | (rw [hy115]; exact H) | exact H
 have Ny115 := Aside0.mk hy115
 clear hy115
 have H' := Aside0.mk H
 clear H
 go_enter Try.func51, Try.ntmps51
 go_wp2_with (first | ((with_reducible refine gate_dst (N := 2) rfl ?_); refine box_event ?hg (N := 2) ?hd (cs := #[.int .i64 a0_0, .slice A0_1 l0_1.length c0_1]) (t := 28) ?hr ?_; (case hd => rfl); (case hg => rfl); (case hr => first | (go_simp; done) | (go_simp; rfl)); intro gb114 hg w3 hbox hb; have BK114 := Aside0.mk (hbox); have GW114 := gH HB hg; have GE114 := gH HB hg; replace HB := sH HB hb; clear hb hbox hg) | ((with_reducible refine gate_dst (N := 7) rfl ?_); refine Kd.R_lit (Kd.int .i64) _ 2 ?hg (N := 7) ?hd (xs := ([] : List Int)) (inner := []) (ok := fun _ => True) (okp := fun _ => True) ?hr ?hp (fun _ hk => hk) trivial (Below.refl _ _) (Nat.le_refl _) (by simp) ?_; (case hd => rfl); (case hg => rfl); (case hr => first | (go_simp; done) | (go_simp; rfl)); (case hp => exact (Reps.none _ _)); intro v116 w4 ho5 hb hg_ hnew_; clear hg_ hnew_; (first | rw [← Ny115.out] at ho5 | (simp only [Int.reduceToNat] at ho5; rw [← Ny115.out] at ho5)); have HO117 := Aside0.mk (Kd.R_lower ho5 (below_size (pH HB))); replace BK114 := sB BK114 hb; replace HB := sH HB hb; clear hb ho5))
 go_loopg [5, 6] k (fun kq v5 v6 w' => ∃ (x5_1 : List Int) (x6_1 : Int), v6 = .int .i64 x6_1 ∧ Aside0 (spec_l03Betti.l0 kq a1 x5_1 x6_1 a0_0 l0_1 = some r) ∧ Aside0 (kq ≤ k) ∧ Aside0 (Kd.R (Kd.int .i64) 2 w' w.heap.size (fun _ => True) v5 x5_1) ∧ Aside0 (w'.heap[gb114]? = some (.cells #[.int .i64 a0_0, (.slice A0_1 l0_1.length c0_1)] 28 (0, 0))) ∧ Aside0 (Below w.heap.size w w'))
 case atStart => exact ⟨(y115), (0), (by first | rfl | (simp; done) | (simp [*]; done)), H', ⟨Nat.le_refl _⟩, ⟨by (with_reducible repeat (first | apply Kd.R_alloc | apply Kd.R_drewN | apply Kd.R_drew)); exact HO117.out⟩, ⟨pB BK114⟩, ⟨pH HB⟩⟩
 case round =>
  clear H'
  try clear p2
  try clear c5
  obtain ⟨x5_1, x6_1, rfl, HA, HK1, HO_5, BK114, HB⟩ := hrel
  cases gk with
  | zero => exact absurd HA.out (by simp [spec_l03Betti.l0])
  | succ k1 =>
   have H := HA.out
   clear HA
   simp only [spec_l03Betti.l0] at H
   replace H := Option.bind_eq_some_iff.mp H
   obtain ⟨t118, A60, H⟩ := H
   try dsimp only at H
   have A6 := Aside0.mk A60
   clear A60
   by_cases c7 : x6_1 ≤ t118
   ·rw [if_pos c7] at H
    have c7b0 : decide (x6_1 ≤ t118) = true := decide_eq_true c7
    clear c7
    replace H := Option.bind_eq_some_iff.mp H
    obtain ⟨t119, A80, H⟩ := H
    try dsimp only at H
    have A8 := Aside0.mk A80
    clear A80
    replace H := Option.bind_eq_some_iff.mp H
    obtain ⟨t122, A90, H⟩ := H
    try dsimp only at H
    have A9 := Aside0.mk A90
    clear A90
    replace H := Option.bind_eq_some_iff.mp H
    obtain ⟨t123, A100, H⟩ := H
    try dsimp only at H
    have A10 := Aside0.mk A100
    clear A100
    by_cases c11 : x5_1.length < 17592186044416
    ·rw [if_pos c11] at H
     have LMc11 := Aside0.mk c11
     clear c11
     obtain ⟨y124, hy124⟩ : ∃ y_ : List Int, y_ = (x5_1 ++ [wrap64 ((wrap64 ((t119.length : Int) - t122)) - t123)]) := ⟨_, rfl⟩
     replace H : (spec_l03Betti.l0 k1 a1 y124 (wrap64 (x6_1 + 1)) a0_0 l0_1) = some r := by first | (rw [hy124]; with_reducible exact H) | (have H2_ := (Option.bind_some _ _).symm.trans H; rw [hy124]; with_reducible exact H2_) | (have H2_ := (Option.bind_some _ _).symm.trans H; with_reducible exact H2_) | with_reducible exact H | (rw [hy124]; exact H) | exact H
     have Ny124 := Aside0.mk hy124
     clear hy124
     have H' := Aside0.mk H
     clear H
     have hcz12_0 : wr.cell? ⟨gb114, 0, none⟩ = some (.int .i64 a0_0) := cB BK114 0
     have hcz12_1 : wr.cell? ⟨gb114, 1, none⟩ = some (.slice A0_1 l0_1.length c0_1) := cB BK114 1
     have hfz12_0 := zB BK114 0
     have hfz12_1 := zB BK114 1
     try go_wp2_with (first | ((with_reducible refine gate_callee (f := 103) rfl ?_); refine cl_ (some 10) Try.func103 #[.agg #[.int .i64 a0_0, .slice A0_1 l0_1.length c0_1]] ?_; (with_reducible refine (spec_l01Dim.calls k1 a0_0 _ _ l0_1 t118 _ ?side1 ?side2 A6.out).mono ?_); (case side1 => exact pC ((Kd.C_below HR0_1.out HB.out))); (case side2 => exact HC0_1.out); rintro e w13 ⟨rfl, hb⟩; refine ⟨_, rfl, ?_⟩; replace HO_5 := sR HO_5 hb; replace BK114 := sB BK114 hb; replace HB := sH HB hb; (try clear hb); (try clear hi)))
     replace HO_5 := Aside0.mk (Kd.R_drew HO_5.out)
     replace BK114 := dB BK114
     replace HB := dH HB
     refine st_ 19 (S := fun w' => w'.cell? ⟨gb114, 0, none⟩ = some (.int .i64 a0_0) ∧ w'.cell? ⟨gb114, 1, none⟩ = some (.slice A0_1 l0_1.length c0_1)) (ds := []) ⟨cB BK114 0, cB BK114 1⟩ (fun hHeld => ?_); refine with_tabW spec_l03Betti.tab5 spec_l03Betti.bits5 (fun HT_ HW_ => ?_)
     generalize w13.drew = w14 at HO_5 BK114 HB hHeld ⊢
     refine pu_ 0 14 1 HT_ ?_
     refine pu_ 2 16 5 HT_ ?_
     refine pu_ 6 20 69 HT_ ?_
     refine pu_ 7 21 197 HT_ ?_
     refine pu_ 11 25 2245 HT_ ?_
     refine pu_ 12 26 6341 HT_ ?_
     refine pu_ 13 27 14533 HT_ ?_
     refine tk_ 1 15 14535 HT_ HW_ hHeld ?_
     refine tk_ 5 19 14567 HT_ HW_ hHeld ?_
     refine tk_ 10 24 15591 HT_ HW_ hHeld ?_
     refine on_ 3 (some 17) 15599 HT_ (fun K hK => ?_)
     refine ca_ Try.func104 #[.agg #[.int .i64 a0_0, .slice A0_1 l0_1.length c0_1], .int .i64 x6_1] ?_
     with_reducible refine (spec_l01Of.calls k1 a0_0 _ _ l0_1 x6_1 t119 _ ?side1 ?side2 A8.out).mono ?_
     (case side1 => exact pC ((Kd.C_below HR0_1.out HB.out)))
     (case side2 => exact HC0_1.out)
     rintro e w15 ⟨v120, rfl, ho0, hb⟩
     refine ⟨_, rfl, ?_⟩
     have HO121 := Aside0.mk (Kd.R_lower (Kd.R_new' ho0 (Kd.R_lt (pR HO_5))) (below_size (pH HB)))
     replace HO_5 := Aside0.mk (Kd.R_elder' (pR HO_5) (Kd.R_base ho0) hb)
     replace BK114 := sB BK114 hb
     replace HB := sH HB hb
     (try clear hb)
     (try clear hb2)
     (try clear hk)
     (try clear hi)
     (try clear ho0)
     obtain ⟨Ao16, co16, eo16⟩ := Kd.R_slice HO121.out
     (first | subst eo16 | (injection eo16 with f1_ f2_ f3_; have f4_ := f1_.symm; have f5_ := f3_.symm; clear f1_ f2_ f3_; subst f4_; subst f5_))
     refine hK.out _ _ ⟨cB BK114 0, cB BK114 1⟩ (fun hHeld => ?_)
     clear hK K
     refine nm_ ?_
     refine pu_ 4 18 15615 HT_ ?_
     refine on_ 8 (some 22) 15871 HT_ (fun K hK => ?_)
     refine ca_ Try.func105 #[.agg #[.int .i64 a0_0, .slice A0_1 l0_1.length c0_1], .int .i64 x6_1, .int .i64 a1] ?_
     with_reducible refine (spec_l03RankOf.calls a0_0 _ _ l0_1 x6_1 a1 t122 _ ?side1 ?side2 A9.out).mono ?_
     (case side1 => exact pC ((Kd.C_below HR0_1.out HB.out)))
     (case side2 => exact HC0_1.out)
     rintro e w17 ⟨rfl, hb⟩
     refine ⟨_, rfl, ?_⟩
     replace HO_5 := sR HO_5 hb
     replace HO121 := sR HO121 hb
     replace BK114 := sB BK114 hb
     replace HB := sH HB hb
     (try clear hb)
     (try clear hb2)
     (try clear hk)
     (try clear hi)
     refine hK.out _ _ ⟨cB BK114 0, cB BK114 1⟩ (fun hHeld => ?_)
     clear hK K
     refine nm_ ?_
     refine pu_ 9 23 16383 HT_ ?_
     refine on_ 14 (some 28) 32767 HT_ (fun K hK => ?_)
     refine ca_ Try.func105 #[.agg #[.int .i64 a0_0, .slice A0_1 l0_1.length c0_1], .int .i64 (wrap64 (x6_1 + 1)), .int .i64 a1] ?_
     with_reducible refine (spec_l03RankOf.calls a0_0 _ _ l0_1 (wrap64 (x6_1 + 1)) a1 t123 _ ?side1 ?side2 A10.out).mono ?_
     (case side1 => exact pC ((Kd.C_below HR0_1.out HB.out)))
     (case side2 => exact HC0_1.out)
     rintro e w18 ⟨rfl, hb⟩
     refine ⟨_, rfl, ?_⟩
     replace HO_5 := sR HO_5 hb
     replace HO121 := sR HO121 hb
     replace BK114 := sB BK114 hb
     replace HB := sH HB hb
     (try clear hb)
     (try clear hb2)
     (try clear hk)
     (try clear hi)
     refine hK.out _ _ ⟨cB BK114 0, cB BK114 1⟩ (fun hHeld => ?_)
     clear hK K
     refine nm_ ?_
     refine pu_ 15 29 65535 HT_ ?_
     refine on_ 16 (some 30) 131071 HT_ (fun K hK => ?_)
     refine value_ (w1 := ?_) (v := ?_) (by rfl) rfl ?_ ?_
     rotate_left 2
     ·go_simp
      constructor
      ·rfl
      ·rfl
     refine hK.out _ _ ⟨(blk_cell (blk_alloc BK114.out _) 0).trans rfl, (blk_cell (blk_alloc BK114.out _) 1).trans rfl⟩ (fun hHeld => ?_)
     clear hK K
     refine nm_ ?_
     refine on_ 17 (some 31) 262143 HT_ (fun K hK => ?_)
     refine Kd.R_append_step (Kd.int .i64) (w0 := w) w.heap.size (by rfl) (.tmp 14) (.tmp 30) 22 2 (.int .i64 0) 8 rfl Try.underlying22 info2 rfl (by decide) (by omega) u5 x5_1 (wrap64 ((wrap64 ((t119.length : Int) - t122)) - t123)) [.int .i64 (wrap64 ((wrap64 ((t119.length : Int) - t122)) - t123))] (fun k_ => some k_ ≠ (.slice Ao16 t119.length co16 : Value).ownBlock) (fun _ => False) rfl rfl ?aP (fun _ hk => hk.elim) ?aF ?aO ?aB ?aS ?aL ?_
     (case aP => exact rfl)
     (case aB => exact (pH HB))
     (case aF => exact (fun k_ hk => Kd.fresh' (Kd.R_lt (pR HO121)) k_ hk))
     (case aO => exact (by (with_reducible repeat (first | apply Kd.R_alloc | apply Kd.R_drewN | apply Kd.R_drew)); exact Kd.R_mono HO_5.out (fun _ hk => hk.2)))
     (case aS => exact (below_size (pH HB)))
     (case aL => have := LMc11.out; omega)
     intro v125 w19 ho hb hg hat
     rw [← Ny124.out] at ho
     replace BK114 := Aside0.mk (blk_grown (g := gb114) (o := .cells #[.int .i64 a0_0, .slice A0_1 l0_1.length c0_1] 28 (0, 0)) (pB BK114) hg (Kd.R_ne HO_5.out BK114.out (by decide)))
     replace HO121 := Aside0.mk (Kd.R_after (ok := (fun _ => True)) (pR HO121) hg hat)
     replace HB := Aside0.mk (hb)
     have HO126 := Aside0.mk (ho)
     clear HO_5
     clear ho hb hg hat
     refine hK.out _ _ ⟨cB BK114 0, cB BK114 1⟩ (fun hHeld => ?_)
     clear hK K
     refine nm_ ?_
     refine pu_ 18 5 524287 HT_ ?_
     refine dn_ HT_ ?_
     try go_wp2
     go_roundg k1
     case measure => have := HK1.out; omega
     case rel => exact ⟨(y124), (wrap64 (x6_1 + 1)), (by first | rfl | (simp; done) | (simp [*]; done)), H', ⟨by have := HK1.out; omega⟩, ⟨by (with_reducible repeat (first | apply Kd.R_alloc | apply Kd.R_drewN | apply Kd.R_drew)); exact Kd.R_mono HO126.out (fun _ hk => trivial)⟩, ⟨pB BK114⟩, ⟨pH HB⟩⟩
    ·rw [if_neg c11] at H
     exact absurd H (by simp)
   ·rw [if_neg c7] at H
    have c7b0 : decide (x6_1 ≤ t118) = false := decide_eq_false c7
    clear c7
    obtain rfl := Option.some.inj H
    have hcz20_0 : wr.cell? ⟨gb114, 0, none⟩ = some (.int .i64 a0_0) := cB BK114 0
    have hcz20_1 : wr.cell? ⟨gb114, 1, none⟩ = some (.slice A0_1 l0_1.length c0_1) := cB BK114 1
    have hfz20_0 := zB BK114 0
    have hfz20_1 := zB BK114 1
    go_wp2_with (first | ((with_reducible refine gate_callee (f := 103) rfl ?_); refine cl_ (some 10) Try.func103 #[.agg #[.int .i64 a0_0, .slice A0_1 l0_1.length c0_1]] ?_; (with_reducible refine (spec_l01Dim.calls k1 a0_0 _ _ l0_1 t118 _ ?side1 ?side2 A6.out).mono ?_); (case side1 => exact pC ((Kd.C_below HR0_1.out HB.out))); (case side2 => exact HC0_1.out); rintro e w21 ⟨rfl, hb⟩; refine ⟨_, rfl, ?_⟩; replace HO_5 := sR HO_5 hb; replace BK114 := sB BK114 hb; replace HB := sH HB hb; (try clear hb); (try clear hi)))
    go_ret
    exact ⟨_, by first | rfl | (simp [errW_none, errW_some] <;> rfl) | (simp [*, errW_none, errW_some] <;> rfl) | (exfalso; simp_all), by (with_reducible repeat (first | apply Kd.R_alloc | apply Kd.R_drewN | apply Kd.R_drew)); exact HO_5.out, pH HB⟩
end Go.Proofs.Ytomdfjohnmikdaa.Ql03Betti
namespace Go.Proofs.Ytomdfjohnmikdaa.Pu
set_option linter.unusedVariables false
set_option linter.unusedSimpArgs false
open Go.RowKit Go.Proofs.Ytomdfjohnmikdaa.Ext Go.Proofs.Ytomdfjohnmikdaa.Im Go.Proofs.YtomdfjohnmikdaaW.PrintWords Go.Proofs.YtomdfjohnmikdaaW.PrintLast Go.Proofs.YtomdfjohnmikdaaW.PrintMore
/-- How many faces of l have j + 1 vertices, for each j below D. -/
def cntL (D : Nat) (l : List Int) : List Int := (List.range D).map fun j => ((l.filter fun x => onesZ x == ((j + 1 : Nat) : Int)).length : Int)
theorem cntL_len (D : Nat) (l : List Int) : (cntL D l).length = D := by simp [cntL]
theorem cntL_at {D j : Nat} (l : List Int) (h : j < D) : (cntL D l)[j]? = some ((l.filter fun x => onesZ x == ((j + 1 : Nat) : Int)).length : Int) := by simp [cntL, h]
theorem cntL_nil (D : Nat) : cntL D [] = List.replicate D 0 := by
  refine List.ext_getElem? fun j => ?_
  rcases Nat.lt_or_ge j D with h | h
  · rw [cntL_at [] h]; simp [h]
  · rw [List.getElem?_eq_none (by rw [cntL_len]; exact h), List.getElem?_eq_none (by simp; exact h)]
theorem cntL_snoc {D d : Nat} (l : List Int) (x : Int) (hd : d < D) (hx : onesZ x = ((d + 1 : Nat) : Int)) : (cntL D l).set d ((cntL D l)[d]?.getD 0 + 1) = cntL D (l ++ [x]) := by
  refine List.ext_getElem? fun j => ?_
  rcases Nat.lt_or_ge j D with h | h
  · rw [cntL_at (l ++ [x]) h, List.filter_append, List.length_append, cntL_at l hd]
    by_cases e : d = j
    · subst e
      rw [List.getElem?_set_self (by rw [cntL_len]; exact h)]
      simp [hx]
    · rw [List.getElem?_set_ne e, cntL_at l h]
      have : (onesZ x == ((j + 1 : Nat) : Int)) = false := by rw [hx]; simp; omega
      rw [List.filter_cons_of_neg (a := x) (l := []) (by rw [this]; exact Bool.false_ne_true), List.filter_nil]; simp
  · rw [List.getElem?_eq_none (by rw [List.length_set, cntL_len]; exact h), List.getElem?_eq_none (by rw [cntL_len]; exact h)]
theorem cntL_le {D d : Nat} (l : List Int) : (cntL D l)[d]?.getD 0 ≤ (l.length : Int) ∧ 0 ≤ (cntL D l)[d]?.getD 0 := by
  rcases Nat.lt_or_ge d D with h | h
  · rw [cntL_at l h]
    have := List.length_filter_le (fun x => onesZ x == ((d + 1 : Nat) : Int)) l
    simp only [Option.getD_some]; omega
  · rw [List.getElem?_eq_none (by rw [cntL_len]; exact h)]; simp
theorem ones1_all : ((List.range 64).all fun f => f == 0 || decide (1 ≤ onesZ (f : Int))) = true := by decide +kernel
theorem ones1 {x : Int} (h : 1 ≤ x ∧ x ≤ 63) : 1 ≤ onesZ x := by
  obtain ⟨m, rfl⟩ := Int.eq_ofNat_of_zero_le (show 0 ≤ x by omega)
  have h2 := List.all_eq_true.1 ones1_all m (List.mem_range.2 (by omega))
  have h0 : (m == 0) = false := by simp; omega
  rw [h0, Bool.false_or] at h2
  exact of_decide_eq_true h2
theorem dimE_eq {x : Int} (h0 : 0 ≤ x) (h6 : x ≤ 63) : QE.impl_dimension.f x = some (onesZ x - 1) :=
  (show QE.impl_dimension.f x = QI.impl_dimension.f x from rfl).trans (dim_eq h0 h6)
theorem count_loop (D : Nat) (l : List Int) (hr : ∀ x ∈ l, (1 ≤ x ∧ x ≤ 63) ∧ 1 ≤ onesZ x ∧ onesZ x ≤ (D : Int)) (hm : l.length ≤ 1048576) :
    ∀ d (i : Nat), l.length - i = d → i ≤ l.length → Ev (fun k => QE.impl_Complex_count.l0 k (cntL D (l.take i)) l (l.length : Int) i) (cntL D l) := by
  intro d
  induction d with
  | zero =>
    intro i hd hi
    rw [List.take_of_length_le (by omega)]
    refine Ev.step (f := fun k => some (cntL D l)) (fun k => ?_) (Ev.now _)
    simp only [QE.impl_Complex_count.l0]; rw [if_neg (by omega)]
  | succ d ih =>
    intro i hd hi
    have hi' : i < l.length := by omega
    obtain ⟨hx, hx1, hx2⟩ := hr _ (List.getElem_mem hi')
    obtain ⟨e, he⟩ : ∃ e : Nat, onesZ l[i] = ((e + 1 : Nat) : Int) := ⟨(onesZ l[i]).toNat - 1, by omega⟩
    have heD : e < D := by omega
    have hle := cntL_le (D := D) (d := e) (l.take i)
    rw [List.length_take] at hle
    have hlen := cntL_len D (l.take i)
    refine Ev.step (f := fun k => QE.impl_Complex_count.l0 k (cntL D (l.take (i + 1))) l (l.length : Int) ((i + 1 : Nat) : Int)) (fun k => ?_) (ih (i + 1) (by omega) (by omega))
    simp only [QE.impl_Complex_count.l0]
    rw [if_pos (by omega), if_pos (by omega), if_pos (by omega), rd_at' hi', dimE_eq (by omega) (by omega)]
    simp only [Option.bind_some]
    rw [he, show ((e + 1 : Nat) : Int) - 1 = (e : Int) by omega, if_pos (by omega), if_pos (by omega)]
    have hrd : rd (cntL D (l.take i)) (e : Int) = (cntL D (l.take i))[e]?.getD 0 := by simp [rd, List.getD_eq_getElem?_getD]
    rw [hrd, w64' (by omega) (by omega), Int.toNat_natCast, cntL_snoc (l.take i) l[i] heD he, show wrap64 ((i : Int) + 1) = ((i + 1 : Nat) : Int) by rw [w64' (by omega) (by omega)]; omega]
    rw [List.take_add_one, List.getElem?_eq_getElem hi']
    rfl
theorem dim_rng (l : List Int) : -1 ≤ dimL l ∧ dimL l ≤ 5 ∧ ∀ x ∈ l, onesZ x ≤ dimL l + 1 := by
  obtain ⟨h1, h2⟩ := foldmax_ge (fun x => onesZ x - 1) l (-1)
  refine ⟨h1, ?_, fun x hx => ?_⟩
  · rcases foldmax_hit (fun x => onesZ x - 1) l (-1) with h | ⟨x, _, h⟩
    · unfold dimL; omega
    · have h3 : onesZ x - 1 = dimL l := h
      have := ones_le x
      omega
  · have := h2 x hx
    have h3 : onesZ x - 1 ≤ dimL l := this
    omega
theorem ev_cntE {n : Int} {l : List Int} (hi : isC n l = true) {m : List Int} (hm : ∀ x ∈ m, x ∈ l) (hl : m.length ≤ 1048576) : Ev (fun k => QE.impl_Complex_count.f k n l m) (cntL (dimL l + 1).toNat m) := by
  have hs := isC_small hi
  have h63 := isC_63 hi
  obtain ⟨d1, d2, d3⟩ := dim_rng l
  obtain ⟨D, hD⟩ := Int.eq_ofNat_of_zero_le (show 0 ≤ dimL l + 1 by omega)
  have hdm : impl_Complex_dimension.f n l = some (dimL l) := by unfold impl_Complex_dimension.f; rw [if_pos hi]
  unfold QE.impl_Complex_count.f
  simp only [hdm, Option.bind_some]
  rw [w64 (by omega) (by omega), hD]
  simp only [if_pos (show (0 : Int) ≤ (D : Int) by omega), Int.toNat_natCast, if_pos (show D ≤ 35184372088832 by omega)]
  have := count_loop D m (fun x hx => ⟨h63 x (hm x hx), ones1 (h63 x (hm x hx)), by have := d3 x (hm x hx); omega⟩) hl _ 0 rfl (Nat.zero_le _)
  rw [List.take_zero, cntL_nil] at this
  exact this
theorem elim_le (lo : Nat → Nat) (M : List (List Int)) : ∀ m, (elimAll lo M m).2 ≤ m := by
  intro m
  unfold elimAll
  induction m with
  | zero => exact Nat.le_refl _
  | succ m ih =>
    rw [List.range_succ, List.foldl_append]
    generalize (List.range m).foldl (elimStep lo) (M, 0) = s at ih
    show (elimStep lo s m).2 ≤ m + 1
    unfold elimStep
    cases findZ s.1 m s.2 with
    | none => exact Nat.le_succ_of_le ih
    | some i => exact Nat.succ_le_succ ih
theorem rank_rng {n : Int} {xs : List Int} (hi : isC n xs = true) (d : Int) : 0 ≤ rankS xs d ∧ rankS xs d ≤ 63 := by
  have hs := isC_small hi
  unfold rankS
  split
  · omega
  · have := elim_le id (matZ (ofL xs (d.toNat - 1)) (ofL xs d.toNat) bordersL) (ofL xs (d.toNat - 1)).length
    have hl : (ofL xs (d.toNat - 1)).length ≤ xs.length := List.length_filter_le _ _
    omega
/-- The Betti numbers modulo 2. -/
def bettiAt (xs : List Int) (d : Nat) : Int := ((ofL xs d).length : Int) - rankS xs (d : Int) - rankS xs ((d + 1 : Nat) : Int)
def bettiL (xs : List Int) : List Int := (List.range (dimL xs + 1).toNat).map (bettiAt xs)
theorem bettiL_len (xs : List Int) : (bettiL xs).length = (dimL xs + 1).toNat := by simp [bettiL]
theorem betti_rng {n : Int} {xs : List Int} (hi : isC n xs = true) (d : Nat) : -126 ≤ bettiAt xs d ∧ bettiAt xs d ≤ 63 := by
  have hs := isC_small hi
  have h1 := rank_rng hi (d : Int)
  have h2 := rank_rng hi ((d + 1 : Nat) : Int)
  have hl : (ofL xs d).length ≤ xs.length := List.length_filter_le _ _
  unfold bettiAt
  omega
theorem rankO_f {n : Int} {xs : List Int} (hi : isC n xs = true) (d : Int) : spec_l03RankOf.f n xs d 2 = some (rankS xs d) := by unfold spec_l03RankOf.f; rw [if_pos ⟨hi, rfl⟩]
theorem bt_loop {n : Int} {xs : List Int} (hi : isC n xs = true) {D : Nat} (hD : dimL xs + 1 = (D : Int)) : ∀ d (i : Nat), D - i = d → i ≤ D → Ev (fun k => Ql03Betti.spec_l03Betti.l0 k 2 ((List.range i).map (bettiAt xs)) (i : Int) n xs) ((List.range D).map (bettiAt xs)) := by
  have hr := dim_rng xs
  have hs := isC_small hi
  intro d
  induction d with
  | zero =>
    intro i hd hil
    obtain rfl : i = D := by omega
    refine Ev.step (f := fun k => (QS.spec_l01Dim.f k n xs).bind fun t => (some ((List.range i).map (bettiAt xs)) : Option (List Int))) (fun k => ?_) (Ev.bind (ev_dimO hi) (Ev.now _))
    simp only [Ql03Betti.spec_l03Betti.l0]
    cases hdm : QS.spec_l01Dim.f k n xs with
    | none => rfl
    | some t =>
      have : t = dimL xs := by
        have h1 := (ev_dimO hi)
        obtain ⟨K, hK⟩ := h1
        have h2 := at_rounds (fun k => QS.spec_l01Dim.mono _ _ k) (Nat.le_max_left k K) hdm
        have h3 := hK (max k K) (Nat.le_max_right _ _)
        exact Option.some.inj (h2.symm.trans h3)
      subst this
      simp only [Option.bind_some]
      rw [if_neg (by omega)]
  | succ d ih =>
    intro i hd hil
    have hil' : i < D := by omega
    have h1 := rank_rng hi (i : Int)
    have h2 := rank_rng hi ((i + 1 : Nat) : Int)
    have hfl : (ofL xs i).length ≤ xs.length := List.length_filter_le _ _
    have hih := ih (i + 1) (by omega) (by omega)
    rw [List.range_succ, List.map_append] at hih
    refine Ev.step (f := fun k => (QS.spec_l01Dim.f k n xs).bind fun t118 => if (i : Int) ≤ t118 then (QS.spec_l01Of.f k n xs (i : Int)).bind fun t119 => Ql03Betti.spec_l03Betti.l0 k 2 ((List.range i).map (bettiAt xs) ++ [wrap64 (wrap64 ((t119.length : Int) - rankS xs (i : Int)) - rankS xs ((i + 1 : Nat) : Int))]) ((i + 1 : Nat) : Int) n xs else some ((List.range i).map (bettiAt xs))) (fun k => ?_) ?_
    · simp only [Ql03Betti.spec_l03Betti.l0]
      rw [show wrap64 ((i : Int) + 1) = ((i + 1 : Nat) : Int) by rw [w64 (by omega) (by omega)]; omega]
      simp only [rankO_f hi, Option.bind_some, List.length_map, List.length_range, if_pos (show i < 17592186044416 by omega)]
    · refine Ev.bind (ev_dimO hi) ?_
      simp only [if_pos (show (i : Int) ≤ dimL xs by omega)]
      refine Ev.bind (ev_ofO hi i (by omega)) ?_
      rw [show wrap64 (wrap64 (((xs.filter fun x => onesZ x == ((i + 1 : Nat) : Int)).length : Int) - rankS xs (i : Int)) - rankS xs ((i + 1 : Nat) : Int)) = bettiAt xs i by
        rw [show (xs.filter fun x => onesZ x == ((i + 1 : Nat) : Int)) = ofL xs i from rfl, w64 (x := ((ofL xs i).length : Int) - rankS xs (i : Int)) (by omega) (by omega), w64 (by omega) (by omega)]; rfl]
      exact hih
theorem ev_bettiS {n : Int} {xs : List Int} (hi : isC n xs = true) : Ev (fun k => Ql03Betti.spec_l03Betti.f k n xs 2) (bettiL xs) := by
  have hr := dim_rng xs
  obtain ⟨D, hD⟩ := Int.eq_ofNat_of_zero_le (show 0 ≤ dimL xs + 1 by omega)
  have := bt_loop hi hD D 0 rfl (Nat.zero_le _)
  unfold Ql03Betti.spec_l03Betti.f bettiL
  rw [show (dimL xs + 1).toNat = D by omega]
  exact this
theorem rankE_f {n : Int} {xs : List Int} (hi : isC n xs = true) (d : Nat) (hd : d ≤ 100) : impl_Complex_rank.f n xs (d : Int) 2 = some (rankS xs (d : Int)) := by unfold impl_Complex_rank.f; rw [if_pos ⟨hi, by omega, by omega, rfl⟩]
/-- The numbers of faces, with those below i turned to Betti numbers. -/
def mixL (xs : List Int) (D i : Nat) : List Int := (List.range D).map fun j => if j < i then bettiAt xs j else ((ofL xs j).length : Int)
theorem mix_next (xs : List Int) {D i : Nat} (hi : i < D) : (mixL xs D i).set i (bettiAt xs i) = mixL xs D (i + 1) := by
  refine List.ext_getElem (by simp [mixL]) fun j h1 h2 => ?_
  have hj : j < D := by simpa [mixL] using h2
  rw [List.getElem_set]
  by_cases h : i = j
  · subst h
    rw [if_pos rfl]
    simp [mixL]
  · rw [if_neg h]
    simp only [mixL, List.getElem_map, List.getElem_range]
    by_cases h3 : j < i
    · rw [if_pos h3, if_pos (by omega)]
    · rw [if_neg h3, if_neg (by omega)]
theorem be_loop {n : Int} {xs : List Int} (hi : isC n xs = true) {D : Nat} (hD : D ≤ 6) : ∀ d (i : Nat), D - i = d → i ≤ D → Ev (fun k => QE.impl_Complex_betti.l0 k 2 (mixL xs D i) (D : Int) (i : Int) n xs) ((List.range D).map (bettiAt xs)) := by
  have hs := isC_small hi
  intro d
  induction d with
  | zero =>
    intro i hd hil
    obtain rfl : i = D := by omega
    have : mixL xs i i = (List.range i).map (bettiAt xs) := by
      refine List.ext_getElem (by simp [mixL]) fun j h1 h2 => ?_
      have hj : j < i := by simpa using h2
      simp [mixL, hj]
    rw [this]
    refine Ev.step (f := fun k => some ((List.range i).map (bettiAt xs))) (fun k => ?_) (Ev.now _)
    simp only [QE.impl_Complex_betti.l0]
    rw [if_neg (by omega)]
  | succ d ih =>
    intro i hd hil
    have hil' : i < D := by omega
    have h1 := rank_rng hi (i : Int)
    have h2 := rank_rng hi ((i + 1 : Nat) : Int)
    have hfl : (ofL xs i).length ≤ xs.length := List.length_filter_le _ _
    have hml : (mixL xs D i).length = D := by simp [mixL]
    have hat : rd (mixL xs D i) (i : Int) = ((ofL xs i).length : Int) := by
      rw [rd_at (by omega)]
      simp [mixL]
    refine Ev.step (fun k => ?_) (ih (i + 1) (by omega) (by omega))
    simp only [QE.impl_Complex_betti.l0]
    rw [if_pos (by omega), if_pos (by omega), if_pos (by omega), show wrap64 ((i : Int) + 1) = ((i + 1 : Nat) : Int) by rw [w64 (by omega) (by omega)]; omega]
    simp only [rankE_f hi i (by omega), rankE_f hi (i + 1) (by omega), Option.bind_some, Int.toNat_natCast]
    rw [hat, w64 (x := rankS xs (i : Int) + rankS xs ((i + 1 : Nat) : Int)) (by omega) (by omega), w64 (by omega) (by omega), ← mix_next xs hil']
    congr 2
    unfold bettiAt
    omega
theorem cnt_mix (xs : List Int) (D : Nat) : cntL D xs = mixL xs D 0 := by
  unfold cntL mixL
  refine List.map_congr_left fun j hj => ?_
  rw [if_neg (Nat.not_lt_zero _)]
  rfl
theorem ev_bettiE {n : Int} {xs : List Int} (hi : isC n xs = true) : Ev (fun k => QE.impl_Complex_betti.f k n xs 2) (bettiL xs) := by
  have hr := dim_rng xs
  obtain ⟨D, hD⟩ := Int.eq_ofNat_of_zero_le (show 0 ≤ dimL xs + 1 by omega)
  have hs := isC_small hi
  unfold QE.impl_Complex_betti.f
  refine Ev.bind (ev_cntE hi (m := xs) (fun x hx => hx) (by omega)) ?_
  rw [show (dimL xs + 1).toNat = D by omega, cnt_mix]
  have := be_loop hi (D := D) (by omega) D 0 rfl (Nat.zero_le _)
  unfold bettiL
  rw [show (dimL xs + 1).toNat = D by omega]
  simpa [mixL] using this
end Go.Proofs.Ytomdfjohnmikdaa.Pu
namespace Go.Proofs.Ytomdfjohnmikdaa.Im
set_option linter.unusedVariables false
set_option linter.unusedSimpArgs false
open Go.RowKit Go.Shelf Go.Proofs.Ytomdfjohnmikdaa.Cw Go.Proofs.Ytomdfjohnmikdaa.Ext Go.Proofs.Ytomdfjohnmikdaa.Pu Go.Proofs.YtomdfjohnmikdaaW.PrintWords Go.Proofs.YtomdfjohnmikdaaW.PrintLast Go.Proofs.YtomdfjohnmikdaaW.PrintMore
/-- What the reference keeps: the first two flags and the sum. -/
def iqS (ys hs : List Int) : Nat → Int × Int × Int
  | 0 => (1, 1, 0)
  | i + 1 => (if rd ys i < rd hs i then 0 else (iqS ys hs i).1, if rd ys i - rd hs i - (iqS ys hs i).2.2 < 0 then 0 else (iqS ys hs i).2.1, rd ys i - rd hs i - (iqS ys hs i).2.2)
def iqL (ys hs : List Int) : List Int := [(iqS ys hs ys.length).1, (iqS ys hs ys.length).2.1, if (iqS ys hs ys.length).2.2 = 0 then 1 else 0]
def iqF (n : Int) (xs ys : List Int) : List Int × Int := if isC n xs = true then (if ys.length = (bettiL xs).length then (if ys.all (fun y => withinB y 0 1000) = true then (iqL ys (bettiL xs), 0) else ([], 2)) else ([], 2)) else ([], 1)
theorem iq_rng {ys hs : List Int} {D : Nat} (hy : ∀ i, i < D → 0 ≤ rd ys i ∧ rd ys i ≤ 1000) (hh : ∀ i, i < D → -126 ≤ rd hs i ∧ rd hs i ≤ 63) : ∀ i : Nat, i ≤ D → -(1126 * (i : Int)) ≤ (iqS ys hs i).2.2 ∧ (iqS ys hs i).2.2 ≤ 1126 * (i : Int)
  | 0, _ => by simp [iqS]
  | i + 1, h => by
    have h1 := iq_rng hy hh i (by omega)
    have h2 := hy i (by omega)
    have h3 := hh i (by omega)
    simp only [iqS]
    omega
/-- The three flags in memory. -/
def OB (W : World) (y : Nat) (a b : Int) : Prop := W.heap[y]? = some (.cells #[.int .i64 a, .int .i64 b, .int .i64 1] 2 (0, 0))
section
variable {W W1 : World} {y : Nat} {a b : Int}
theorem OB.below (h : OB W y a b) (hb : Below W.heap.size W W1) : OB W1 y a b := (hb.block _ (blk_lt h)).trans h
theorem OB.c0 (h : OB W y a b) : W.cell? ⟨y, 0, none⟩ = some (.int .i64 a) ∧ W.frozen? ⟨y, 0, none⟩ = false := ⟨(cell_of_row W y 0 _ _ _ h).trans rfl, blk_frozen h 0⟩
theorem OB.c1 (h : OB W y a b) : W.cell? ⟨y, 1, none⟩ = some (.int .i64 b) ∧ W.frozen? ⟨y, 1, none⟩ = false := ⟨(cell_of_row W y 1 _ _ _ h).trans rfl, blk_frozen h 1⟩
theorem OB.c2 (h : OB W y a b) : W.cell? ⟨y, 2, none⟩ = some (.int .i64 1) ∧ W.frozen? ⟨y, 2, none⟩ = false := ⟨(cell_of_row W y 2 _ _ _ h).trans rfl, blk_frozen h 2⟩
theorem OB.p0 (h : OB W y a b) : OB (W.setCell ⟨y, 0, none⟩ (.int .i64 0)) y 0 b := blk_put h 0 (.int .i64 0) rfl
theorem OB.p1 (h : OB W y a b) : OB (W.setCell ⟨y, 1, none⟩ (.int .i64 0)) y a 0 := blk_put h 1 (.int .i64 0) rfl
theorem OB.row (h : OB W y a b) {base : Nat} (hb : base ≤ y) : RO W base (.slice (some ⟨y, 0, none⟩) 3 3) [a, b, 1] := RO.of_row ⟨by simp, .inr ⟨y, 3, #[.int .i64 a, .int .i64 b, .int .i64 1], rfl, hb, h, by simp, by decide, rfl, rfl⟩⟩
theorem OB.row0 (h : OB W y a b) {base : Nat} (hb : base ≤ y) : RO (W.setCell ⟨y, 2, none⟩ (.int .i64 0)) base (.slice (some ⟨y, 0, none⟩) 3 3) [a, b, 0] := RO.of_row ⟨by simp, .inr ⟨y, 3, #[.int .i64 a, .int .i64 b, .int .i64 0], rfl, hb, blk_put h 2 (.int .i64 0) rfl, by simp, by decide, rfl, rfl⟩⟩
end
theorem row_far {W : World} {base y j : Nat} {v : Value} {xs : List Int} (h : RI W base (fun k => k ≠ y) v xs) (u : Value) : RI (W.setCell ⟨y, j, none⟩ u) base (fun k => k ≠ y) v xs := Kd.R_far h (p := ⟨y, j, none⟩) (fun k hk => hk) u
set_option maxRecDepth 100000 in
set_option maxHeartbeats 8000000 in
theorem ineqS_c (n : Int) (A : Option Addr) (c : Nat) (xs : List Int) (B : Option Addr) (cb : Nat) (ys : List Int) (w : World) (hr : RC w A xs.length xs) (hc : xs.length ≤ c) (hr1 : RC w B ys.length ys) (hc1 : ys.length ≤ cb) (hxm : xs.length ≤ maxLen) (hym : ys.length ≤ 1048576) :
    Calls Try.prog 14 #[.agg #[.int .i64 n, .slice A xs.length c], .slice B ys.length cb] w fun e w' => ∃ v, e = .returned (.tuple #[v, .int .i64 (iqF n xs ys).2]) ∧ RO w' w.heap.size v (iqF n xs ys).1 ∧ Below w.heap.size w w' := by
  obtain ⟨k1, hk1⟩ := (ev_is n hxm).rounds
  have HX := Aside0.mk (CxAt.new w n A xs.length c)
  have HB := Aside0.mk (below_alloc (Below.refl w.heap.size w) (.cells #[.int .i64 n, .slice A xs.length c] 28))
  have HR := Aside0.mk hr
  have HC := Aside0.mk hc
  have HR1 := Aside0.mk hr1
  have hx0 := HX.out.c0
  have hx1 := HX.out.c1
  have HIN : Aside0 (∀ a : Int, QS.spec_l01In.f a 0 1000 = some (withinB a 0 1000)) := ⟨fun a => in_eq a 0 1000⟩
  clear hr hc hr1
  obtain ⟨R, hRR⟩ : ∃ R, iqF n xs ys = R := ⟨_, rfl⟩
  rw [hRR]
  cases hi : isC n xs with
  | false =>
    rw [hi] at hk1
    have HK1 := Aside0.mk hk1
    obtain rfl : R = ([], 1) := hRR.symm.trans (by unfold iqF; rw [hi]; rfl)
    clear hRR
    clear hk1
    go_enter Try.func14, Try.ntmps14
    go_wp2_with (go_at_call 50; refine (QS.spec_l01Is.calls k1 n A c xs false _ (Kd.C_below HR.out HB.out) HC.out HK1.out).mono ?_; rintro e w1 ⟨rfl, hb⟩; have HB1 := Aside0.mk (below_in HB.out hb); clear hb)
    go_ret2
    exact ⟨_, rfl, Kd.R_nil _ _ _ _ _, HB1.out⟩
  | true =>
    rw [hi] at hk1
    have HK1 := Aside0.mk hk1
    obtain ⟨k2, hk2⟩ := (ev_bettiS hi).rounds
    have hbr := betti_rng hi
    have hbt : ∀ i, i < (bettiL xs).length → -126 ≤ rd (bettiL xs) i ∧ rd (bettiL xs) i ≤ 63 := fun i h => by
      rw [rd_at h]
      have : (bettiL xs)[i] = bettiAt xs i := by simp [bettiL]
      rw [this]
      exact hbr _
    have hbl : (bettiL xs).length ≤ 6 := by rw [bettiL_len]; have := dim_rng xs; omega
    have hZ : R = if ys.length = (bettiL xs).length then (if ys.all (fun y => withinB y 0 1000) = true then (iqL ys (bettiL xs), 0) else ([], 2)) else ([], 2) := hRR.symm.trans (by unfold iqF; rw [hi, if_pos rfl])
    clear hRR
    generalize bettiL xs = hs at hk2 hbt hbl hZ
    have HK2 := Aside0.mk hk2
    have HBT := Aside0.mk hbt
    clear hk1 hk2 hbr hbt
    by_cases hlen : ys.length = hs.length
    · have hlz : (ys.length : Int) = (hs.length : Int) := by omega
      rw [if_pos hlen] at hZ
      have HZ := Aside0.mk hZ
      clear hZ
      go_enter Try.func14, Try.ntmps14
      go_wp2_with (first
        | (go_at_call 51; refine (Ql03Betti.spec_l03Betti.calls k2 n A c xs 2 hs _ (Kd.C_below HR.out HB1.out) HC.out HK2.out).mono ?_; rintro e w2 ⟨v6, rfl, hv, hb⟩; have HB2 := Aside0.mk (below_in HB1.out hb); have HV := Aside0.mk (Kd.R_lower (Kd.R_mono (Kd.R_bound hv) (fun k hk => hk.2.2.1)) HB1.out.size); obtain ⟨A6, c6, rfl⟩ := Kd.R_slice HV.out; clear hb hv)
        | (go_at_call 50; refine (QS.spec_l01Is.calls k1 n A c xs true _ (Kd.C_below HR.out HB.out) HC.out HK1.out).mono ?_; rintro e w1 ⟨rfl, hb⟩; have HB1 := Aside0.mk (below_in HB.out hb); have HX1 := Aside0.mk (HX.out.below hb); have hy0 := HX1.out.c0; have hy1 := HX1.out.c1; clear hb hx0 hx1))
      have hba := below_alloc (Below.refl w2.heap.size w2) (.cells #[.int .i64 1, .int .i64 1, .int .i64 1] 2)
      have HO : Aside0 (OB (w2.alloc (.cells #[.int .i64 1, .int .i64 1, .int .i64 1] 2)) w2.heap.size 1 1) := ⟨heap_alloc_new w2 _⟩
      have HV2 : Aside0 (RI (w2.alloc (.cells #[.int .i64 1, .int .i64 1, .int .i64 1] 2)) w.heap.size (fun k => k ≠ w2.heap.size) (.slice A6 hs.length c6) hs) := ⟨Kd.R_mono (Kd.R_below HV.out hba) (fun k hk => Nat.ne_of_lt hk)⟩
      have HB3 : Aside0 (Below w.heap.size w (w2.alloc (.cells #[.int .i64 1, .int .i64 1, .int .i64 1] 2))) := ⟨HB2.out.trans (hba.mono HB2.out.size)⟩
      have HY : Aside0 (w.heap.size ≤ w2.heap.size) := ⟨HB2.out.size⟩
      clear hba HV HB2 hy0 hy1 HX1 HB1 HX HB HK1 HK2
      generalize w2.alloc (.cells #[.int .i64 1, .int .i64 1, .int .i64 1] 2) = w3 at HO HV2 HB3 ⊢
      generalize w2.heap.size = y0 at HO HV2 HY ⊢
      go_loopw [9] (fun s9 wr => ∃ i : Nat, i ≤ hs.length ∧ s9 = .int .i64 i ∧ Aside0 (∀ j : Nat, j < i → withinB (rd ys j) 0 1000 = true) ∧ Aside0 (OB wr y0 1 1) ∧ Aside0 (RI wr w.heap.size (fun k => k ≠ y0) (.slice A6 hs.length c6) hs) ∧ Aside0 (Below w.heap.size w wr)) (fun s9 _ => hs.length - (intOf s9).toNat)
      case atStart => exact ⟨0, by omega, rfl, ⟨fun j hj => absurd hj (Nat.not_lt_zero _)⟩, HO, HV2, HB3⟩
      case round =>
        clear HO HV2 HB3
        obtain ⟨i, hil, rfl, HALL, HO, HV, HB⟩ := hrel
        by_cases hi1 : i < hs.length
        · have hiz : (i : Int) < (hs.length : Int) := by omega
          obtain ⟨ad, rfl, hy0⟩ := Kd.at_int HR1.out i (by omega) (by omega)
          rw [show ((i : Int)).toNat = i by omega] at hy0
          replace hy0 := (HB.out.cell (World.block_lt_of_cell? w _ hy0)).trans hy0
          obtain ⟨y, hy⟩ : ∃ y, rd ys i = y := ⟨_, rfl⟩
          rw [hy] at hy0
          have HYE := Aside0.mk hy
          have HIY := Aside0.mk (HIN.out y)
          clear hy
          cases hw : withinB y 0 1000 with
          | true =>
            rw [hw] at HIY
            have HW := Aside0.mk hw
            clear hw
            go_wp2_with (go_at_call 52; refine (QS.spec_l01In.calls y 0 1000 true _ HIY.out).mono ?_; rintro e w5 ⟨rfl, hdr⟩; have hb := hdr.below; have HO5 := Aside0.mk (HO.out.below hb); have HV5 := Aside0.mk (Kd.R_below HV.out hb); have HB5 := Aside0.mk (below_in HB.out hb); clear hb hdr)
            go_roundw
            case measure => simp [intOf]; omega
            case rel => exact ⟨i + 1, by omega, by go_num, ⟨fun j hj => by rcases Nat.lt_or_ge j i with h | h; exact HALL.out j h; rw [show j = i by omega, HYE.out]; exact HW.out⟩, HO5, HV5, HB5⟩
          | false =>
            rw [hw] at HIY
            have HZ2 : Aside0 (R = ([], 2)) := ⟨HZ.out.trans (if_neg (fun h => by
              have h1 := List.all_eq_true.1 h (ys[i]'(by omega)) (List.getElem_mem _)
              rw [← rd_at (show i < ys.length by omega), HYE.out, hw] at h1
              cases h1))⟩
            clear hw
            go_wp2_with (go_at_call 52; refine (QS.spec_l01In.calls y 0 1000 false _ HIY.out).mono ?_; rintro e w5 ⟨rfl, hdr⟩; have HB5 := Aside0.mk (below_in HB.out hdr.below); clear hdr)
            go_ret2
            obtain rfl := HZ2.out
            exact ⟨_, rfl, Kd.R_nil _ _ _ _ _, HB5.out⟩
        · obtain rfl : i = hs.length := by omega
          have hiz : ¬ (hs.length : Int) < (hs.length : Int) := by omega
          have HZ2 : Aside0 (R = (iqL ys hs, 0)) := ⟨HZ.out.trans (if_pos (List.all_eq_true.2 fun y hy => by
            obtain ⟨j, hj, rfl⟩ := List.mem_iff_getElem.1 hy
            have := HALL.out j (by omega)
            rwa [rd_at hj] at this))⟩
          have HYR : Aside0 (∀ j : Nat, j < hs.length → 0 ≤ rd ys j ∧ rd ys j ≤ 1000) := ⟨fun j hj => by
            have := HALL.out j hj
            unfold withinB at this
            simpa using this⟩
          clear HALL
          go_wp2
          go_loopw [8, 10] (fun s8 s10 wr => ∃ (i : Nat) (a b s : Int), i ≤ hs.length ∧ s8 = .int .i64 s ∧ s10 = .int .i64 i ∧ Aside0 (iqS ys hs i = (a, b, s)) ∧ Aside0 (OB wr y0 a b) ∧ Aside0 (RI wr w.heap.size (fun k => k ≠ y0) (.slice A6 hs.length c6) hs) ∧ Aside0 (Below w.heap.size w wr)) (fun _ s10 _ => hs.length - (intOf s10).toNat)
          case atStart => exact ⟨0, 1, 1, 0, by omega, rfl, rfl, ⟨rfl⟩, HO, HV, HB⟩
          case round =>
            clear HO HV HB
            obtain ⟨i, a, b, s, hil, rfl, rfl, HS, HO, HV, HB⟩ := hrel
            by_cases hi1 : i < hs.length
            · have hiz : (i : Int) < (hs.length : Int) := by omega
              obtain ⟨ad, rfl, hy0⟩ := Kd.at_int HR1.out i (by omega) (by omega)
              rw [show ((i : Int)).toNat = i by omega] at hy0
              obtain ⟨ah, rfl, hh0⟩ := Kd.at_int (Kd.R_reads' HV.out).2.2 i (by omega) (by omega)
              rw [show ((i : Int)).toNat = i by omega] at hh0
              have HY0 := Aside0.mk hy0
              replace hy0 := (HB.out.cell (World.block_lt_of_cell? w _ hy0)).trans hy0
              obtain ⟨y, hy⟩ : ∃ y, rd ys i = y := ⟨_, rfl⟩
              obtain ⟨h, hh⟩ : ∃ h, rd hs i = h := ⟨_, rfl⟩
              have hyr := HYR.out i hi1
              have hhr := HBT.out i hi1
              have hsr := (iq_rng HYR.out HBT.out i hil)
              rw [HS.out] at hsr
              simp only at hsr
              rw [hy] at hy0 hyr
              rw [hh] at hh0 hhr
              have hwd : wrap64 (y - h) = y - h := by rw [w64_ (by omega) (by omega)]
              have hws : wrap64 (y - h - s) = y - h - s := by rw [w64_ (by omega) (by omega)]
              have HNX : Aside0 (iqS ys hs (i + 1) = (if y < h then 0 else a, if y - h - s < 0 then 0 else b, y - h - s)) := ⟨by simp only [iqS, HS.out, hy, hh]⟩
              obtain ⟨o0, f0⟩ := HO.out.c0
              have HYE := Aside0.mk hy
              have HHE := Aside0.mk hh
              clear hyr hhr hsr hy hh HS
              go_wp2
              refine st_ 9 (S := fun w' => w'.cell? (ad.add i) = some (.int .i64 y) ∧ w'.cell? (ah.add i) = some (.int .i64 h)) (ds := []) ⟨hy0, hh0⟩ (fun hHeld => ?_)
              refine with_tabW (T := (true, [([], []), ([], []), ([0, 1], [0, 1]), ([2], [2]), ([], []), ([], []), ([4, 5], [4, 5]), ([6], [6]), ([3, 7], [3, 7])])) (B := [0, 0, 3, 7, 0, 0, 48, 112, 255]) (by kernel_rfl) (by kernel_rfl) (fun HT_ HW_ => ?_)
              refine pd_ 0 40 1 HT_ ?_
              refine pd_ 1 41 3 HT_ ?_
              refine pd_ 2 42 7 HT_ ?_
              refine pd_ 4 44 23 HT_ ?_
              refine pd_ 5 45 55 HT_ ?_
              refine pd_ 6 46 119 HT_ ?_
              refine tk_ 3 43 127 HT_ HW_ hHeld ?_
              refine tk_ 7 47 255 HT_ HW_ hHeld ?_
              refine pd_ 8 48 511 HT_ ?_
              refine dn_ HT_ ?_
              by_cases hlt : y < h
              · have HO1 : Aside0 (OB (wr.setCell ⟨y0, 0, none⟩ (.int .i64 0)) y0 0 b) := ⟨HO.out.p0⟩
                have HV1 : Aside0 (RI (wr.setCell ⟨y0, 0, none⟩ (.int .i64 0)) w.heap.size (fun k => k ≠ y0) (.slice (some ah) hs.length c6) hs) := ⟨row_far HV.out _⟩
                have HB1 : Aside0 (Below w.heap.size w (wr.setCell ⟨y0, 0, none⟩ (.int .i64 0))) := ⟨HB.out.setCell (p := ⟨y0, 0, none⟩) HY.out _⟩
                have hy1 := (HB1.out.cell (World.block_lt_of_cell? w _ HY0.out)).trans HY0.out
                obtain ⟨ah', e', hh1⟩ := Kd.at_int (Kd.R_reads' HV1.out).2.2 i (by omega) (by omega)
                obtain rfl : ah = ah' := by injection e'
                rw [show ((i : Int)).toNat = i by omega, HHE.out] at hh1
                rw [HYE.out] at hy1
                clear HO HV HB hy0 hh0 hHeld
                go_upto_region 17 with fail
                refine st_ 12 (S := fun w' => w'.cell? (ad.add i) = some (.int .i64 y) ∧ w'.cell? (ah.add i) = some (.int .i64 h)) (ds := []) ⟨hy1, hh1⟩ (fun hHeld => ?_)
                refine with_tabW (T := (true, [([], []), ([], []), ([0, 1], [0, 1]), ([2], [2]), ([], []), ([], []), ([4, 5], [4, 5]), ([6], [6]), ([3, 7], [3, 7]), ([], []), ([8, 9], [8, 9]), ([10, 0, 1, 2, 3, 4, 5, 6, 7, 8, 9, 10], [9, 10])])) (B := [0, 0, 3, 7, 0, 0, 48, 112, 255, 0, 1023, 2047]) (by kernel_rfl) (by kernel_rfl) (fun HT_ HW_ => ?_)
                refine pd_ 0 51 1 HT_ ?_
                refine pd_ 1 52 3 HT_ ?_
                refine pd_ 2 53 7 HT_ ?_
                refine pd_ 4 55 23 HT_ ?_
                refine pd_ 5 56 55 HT_ ?_
                refine pd_ 6 57 119 HT_ ?_
                refine pd_ 9 60 631 HT_ ?_
                refine tk_ 3 54 639 HT_ HW_ hHeld ?_
                refine tk_ 7 58 767 HT_ HW_ hHeld ?_
                refine pd_ 8 59 1023 HT_ ?_
                refine pd_ 10 61 2047 HT_ ?_
                refine pd_ 11 8 4095 HT_ ?_
                refine dn_ HT_ ?_
                obtain ⟨o1, f1⟩ := HO1.out.c1
                by_cases hneg : y - h - s < 0
                · have HO2 : Aside0 (OB ((wr.setCell ⟨y0, 0, none⟩ (.int .i64 0)).setCell ⟨y0, 1, none⟩ (.int .i64 0)) y0 0 0) := ⟨HO1.out.p1⟩
                  have HV2 : Aside0 (RI ((wr.setCell ⟨y0, 0, none⟩ (.int .i64 0)).setCell ⟨y0, 1, none⟩ (.int .i64 0)) w.heap.size (fun k => k ≠ y0) (.slice (some ah) hs.length c6) hs) := ⟨row_far HV1.out _⟩
                  have HB2 : Aside0 (Below w.heap.size w ((wr.setCell ⟨y0, 0, none⟩ (.int .i64 0)).setCell ⟨y0, 1, none⟩ (.int .i64 0))) := ⟨HB1.out.setCell (p := ⟨y0, 1, none⟩) HY.out _⟩
                  have HNE : Aside0 (iqS ys hs (i + 1) = (0, 0, y - h - s)) := ⟨by rw [HNX.out]; simp only [if_pos hlt, if_pos hneg]⟩
                  clear HO1 HV1 HB1 hy1 hh1 hHeld
                  go_wp2
                  go_roundw
                  case measure => simp [intOf]; omega
                  case rel => exact ⟨i + 1, 0, 0, y - h - s, by omega, by go_num, by go_num, HNE, HO2, HV2, ⟨HB2.out.drew.drew⟩⟩
                · have HO2 := HO1
                  have HV2 := HV1
                  have HB2 := HB1
                  have HNE : Aside0 (iqS ys hs (i + 1) = (0, b, y - h - s)) := ⟨by rw [HNX.out]; simp only [if_pos hlt, if_neg hneg]⟩
                  clear HO1 HV1 HB1 hy1 hh1 hHeld
                  go_wp2
                  go_roundw
                  case measure => simp [intOf]; omega
                  case rel => exact ⟨i + 1, 0, b, y - h - s, by omega, by go_num, by go_num, HNE, HO2, HV2, ⟨HB2.out.drew.drew⟩⟩
              · have hy1 := hy0
                have hh1 := hh0
                have HO1 := HO
                have HV1 := HV
                have HB1 := HB
                clear HO HV HB hy0 hh0 hHeld
                go_upto_region 17 with fail
                refine st_ 12 (S := fun w' => w'.cell? (ad.add i) = some (.int .i64 y) ∧ w'.cell? (ah.add i) = some (.int .i64 h)) (ds := []) ⟨hy1, hh1⟩ (fun hHeld => ?_)
                refine with_tabW (T := (true, [([], []), ([], []), ([0, 1], [0, 1]), ([2], [2]), ([], []), ([], []), ([4, 5], [4, 5]), ([6], [6]), ([3, 7], [3, 7]), ([], []), ([8, 9], [8, 9]), ([10, 0, 1, 2, 3, 4, 5, 6, 7, 8, 9, 10], [9, 10])])) (B := [0, 0, 3, 7, 0, 0, 48, 112, 255, 0, 1023, 2047]) (by kernel_rfl) (by kernel_rfl) (fun HT_ HW_ => ?_)
                refine pd_ 0 51 1 HT_ ?_
                refine pd_ 1 52 3 HT_ ?_
                refine pd_ 2 53 7 HT_ ?_
                refine pd_ 4 55 23 HT_ ?_
                refine pd_ 5 56 55 HT_ ?_
                refine pd_ 6 57 119 HT_ ?_
                refine pd_ 9 60 631 HT_ ?_
                refine tk_ 3 54 639 HT_ HW_ hHeld ?_
                refine tk_ 7 58 767 HT_ HW_ hHeld ?_
                refine pd_ 8 59 1023 HT_ ?_
                refine pd_ 10 61 2047 HT_ ?_
                refine pd_ 11 8 4095 HT_ ?_
                refine dn_ HT_ ?_
                obtain ⟨o1, f1⟩ := HO1.out.c1
                by_cases hneg : y - h - s < 0
                · have HO2 : Aside0 (OB (wr.setCell ⟨y0, 1, none⟩ (.int .i64 0)) y0 a 0) := ⟨HO1.out.p1⟩
                  have HV2 : Aside0 (RI (wr.setCell ⟨y0, 1, none⟩ (.int .i64 0)) w.heap.size (fun k => k ≠ y0) (.slice (some ah) hs.length c6) hs) := ⟨row_far HV1.out _⟩
                  have HB2 : Aside0 (Below w.heap.size w (wr.setCell ⟨y0, 1, none⟩ (.int .i64 0))) := ⟨HB1.out.setCell (p := ⟨y0, 1, none⟩) HY.out _⟩
                  have HNE : Aside0 (iqS ys hs (i + 1) = (a, 0, y - h - s)) := ⟨by rw [HNX.out]; simp only [if_neg hlt, if_pos hneg]⟩
                  clear HO1 HV1 HB1 hy1 hh1 hHeld
                  go_wp2
                  go_roundw
                  case measure => simp [intOf]; omega
                  case rel => exact ⟨i + 1, a, 0, y - h - s, by omega, by go_num, by go_num, HNE, HO2, HV2, ⟨HB2.out.drew.drew⟩⟩
                · have HO2 := HO1
                  have HV2 := HV1
                  have HB2 := HB1
                  have HNE : Aside0 (iqS ys hs (i + 1) = (a, b, y - h - s)) := ⟨by rw [HNX.out]; simp only [if_neg hlt, if_neg hneg]⟩
                  clear HO1 HV1 HB1 hy1 hh1 hHeld
                  go_wp2
                  go_roundw
                  case measure => simp [intOf]; omega
                  case rel => exact ⟨i + 1, a, b, y - h - s, by omega, by go_num, by go_num, HNE, HO2, HV2, ⟨HB2.out.drew.drew⟩⟩
            · obtain rfl : i = hs.length := by omega
              have hiz : ¬ (hs.length : Int) < (hs.length : Int) := by omega
              obtain ⟨o2, f2⟩ := HO.out.c2
              by_cases hs0 : s = 0
              · subst hs0
                go_wp2
                go_ret2
                obtain rfl := HZ2.out
                refine ⟨_, rfl, ?_, HB.out⟩
                have : iqL ys hs = [a, b, 1] := by unfold iqL; rw [hlen, HS.out]; rfl
                rw [this]
                exact HO.out.row HY.out
              · have hsn : (s == 0) = false := by simpa using hs0
                go_wp2
                go_ret2
                obtain rfl := HZ2.out
                have hq : iqL ys hs = [a, b, 0] := by unfold iqL; rw [hlen, HS.out]; simp only [if_neg hs0]
                have h1 := HO.out.row0 HY.out
                have h2 := HB.out.setCell (p := ⟨y0, 2, none⟩) HY.out (.int .i64 0)
                rw [← hq] at h1
                exact ⟨_, rfl, h1, h2⟩
    · have hlz : ¬ (ys.length : Int) = (hs.length : Int) := by omega
      rw [if_neg hlen] at hZ
      subst hZ
      go_enter Try.func14, Try.ntmps14
      go_wp2_with (first
        | (go_at_call 51; refine (Ql03Betti.spec_l03Betti.calls k2 n A c xs 2 hs _ (Kd.C_below HR.out HB1.out) HC.out HK2.out).mono ?_; rintro e w2 ⟨v6, rfl, hv, hb⟩; have HB2 := Aside0.mk (below_in HB1.out hb); obtain ⟨A6, c6, rfl⟩ := Kd.R_slice hv; clear hb hv)
        | (go_at_call 50; refine (QS.spec_l01Is.calls k1 n A c xs true _ (Kd.C_below HR.out HB.out) HC.out HK1.out).mono ?_; rintro e w1 ⟨rfl, hb⟩; have HB1 := Aside0.mk (below_in HB.out hb); have HX1 := Aside0.mk (HX.out.below hb); have hy0 := HX1.out.c0; have hy1 := HX1.out.c1; clear hb hx0 hx1))
      go_ret2
      exact ⟨_, rfl, Kd.R_nil _ _ _ _ _, HB2.out⟩
end Go.Proofs.Ytomdfjohnmikdaa.Im
namespace Go.Proofs.Ytomdfjohnmikdaa.Ext
open Go.Proofs.YtomdfjohnmikdaaW.PrintWords
open Classical in
noncomputable def limO {α : Type} (g : Nat → Option α) : Option α := if h : ∃ r : α, ∃ k, g k = some r then some (Classical.choose h) else none
theorem limO_get {α : Type} {g : Nat → Option α} {r : α} (h : limO g = some r) : ∃ k, g k = some r := by
  unfold limO at h
  split at h
  · rename_i hc
    obtain rfl := Option.some.inj h
    exact Classical.choose_spec hc
  · cases h
theorem limO_of {α : Type} {g : Nat → Option α} {r : α} (hg : ∀ k, LeO (g k) (g (k + 1))) (h : Ev g r) : limO g = some r := by
  obtain ⟨k, hk⟩ := h.rounds
  have hc : ∃ r : α, ∃ k, g k = some r := ⟨r, k, hk⟩
  unfold limO
  rw [dif_pos hc]
  obtain ⟨k', hk'⟩ := Classical.choose_spec hc
  obtain ⟨K, hK⟩ := h
  have h1 := at_rounds hg (Nat.le_max_left k' K) hk'
  have h2 := hK (max k' K) (Nat.le_max_right _ _)
  rw [h1] at h2
  exact h2
end Go.Proofs.Ytomdfjohnmikdaa.Ext
namespace Go.Proofs.Ytomdfjohnmikdaa.Ext
set_option linter.unusedVariables false
open Go.RowKit Go.Proofs.Ytomdfjohnmikdaa.Im Go.Proofs.Ytomdfjohnmikdaa.Kp Go.Proofs.YtomdfjohnmikdaaW.PrintWords Go.Proofs.YtomdfjohnmikdaaW.PrintLast Go.Proofs.YtomdfjohnmikdaaW.PrintMore
noncomputable def impl_InequalitiesFor.f (a0_0 : Int) (l0_1 : List Int) (l1 : List Int) : Option (List Int × Int) := limO fun k => QE.impl_InequalitiesFor.f k a0_0 l0_1 l1
theorem impl_InequalitiesFor.calls (a0_0 : Int) (A0_1 : Option Addr) (c0_1 : Nat) (l0_1 : List Int) (A1 : Option Addr) (c1 : Nat) (l1 : List Int) (r1 : List Int) (r2 : Int) (w : World) (hr0_1 : Kd.C (Kd.int .i64) w A0_1 l0_1.length l0_1) (hc0_1 : l0_1.length ≤ c0_1) (hr1 : Kd.C (Kd.int .i64) w A1 l1.length l1) (hc1 : l1.length ≤ c1) (h : impl_InequalitiesFor.f a0_0 l0_1 l1 = some (r1, r2)) :
    Calls Try.prog 17 #[.agg #[.int .i64 a0_0, .slice A0_1 l0_1.length c0_1], .slice A1 l1.length c1] w fun e w' => ∃ v0_ : Value, e = .returned (.tuple #[v0_, .int .i64 r2]) ∧ Kd.R (Kd.int .i64) 2 w' w.heap.size (fun _ => True) v0_ r1 ∧ Below w.heap.size w w' := by
  obtain ⟨k, hk⟩ := limO_get h
  exact QE.impl_InequalitiesFor.calls k a0_0 A0_1 c0_1 l0_1 A1 c1 l1 r1 r2 w hr0_1 hc0_1 hr1 hc1 hk
theorem impl_InequalitiesFor.come (a0_0 : Int) (l0_1 : List Int) (l1 : List Int) {r : (List Int × Int)} (h : Ev (fun k => QE.impl_InequalitiesFor.f k a0_0 l0_1 l1) r) : impl_InequalitiesFor.f a0_0 l0_1 l1 = some r := limO_of (fun k => QE.impl_InequalitiesFor.mono _ _ _ k) h
end Go.Proofs.Ytomdfjohnmikdaa.Ext
namespace Go.Proofs.Ytomdfjohnmikdaa.Ext
set_option linter.unusedVariables false
set_option linter.unusedSimpArgs false
open Go.RowKit Go.Proofs.Ytomdfjohnmikdaa.Im  Go.Proofs.YtomdfjohnmikdaaW.PrintWords Go.Proofs.YtomdfjohnmikdaaW.PrintLast Go.Proofs.YtomdfjohnmikdaaW.PrintMore
def spec_InequalitiesFor.f (a0_0 : Int) (l0_1 : List Int) (l1 : List Int) : Option (List Int × Int) := if l0_1.length ≤ maxLen ∧ l1.length ≤ 1048576 then some (iqF a0_0 l0_1 l1) else none
theorem spec_InequalitiesFor.calls (a0_0 : Int) (A0_1 : Option Addr) (c0_1 : Nat) (l0_1 : List Int) (A1 : Option Addr) (c1 : Nat) (l1 : List Int) (r1 : List Int) (r2 : Int) (w : World) (hr0_1 : Kd.C (Kd.int .i64) w A0_1 l0_1.length l0_1) (_hc0_1 : l0_1.length ≤ c0_1) (hr1 : Kd.C (Kd.int .i64) w A1 l1.length l1) (_hc1 : l1.length ≤ c1) (h : spec_InequalitiesFor.f a0_0 l0_1 l1 = some (r1, r2)) :
    Calls Try.prog 14 #[.agg #[.int .i64 a0_0, .slice A0_1 l0_1.length c0_1], .slice A1 l1.length c1] w fun e w' => ∃ v0_ : Value, e = .returned (.tuple #[v0_, .int .i64 r2]) ∧ Kd.R (Kd.int .i64) 2 w' w.heap.size (fun _ => True) v0_ r1 ∧ Below w.heap.size w w' := by
  unfold spec_InequalitiesFor.f at h
  by_cases hl : l0_1.length ≤ maxLen ∧ l1.length ≤ 1048576
  · rw [if_pos hl] at h
    have hd := Option.some.inj h
    have := ineqS_c a0_0 A0_1 c0_1 l0_1 A1 c1 l1 w hr0_1 _hc0_1 hr1 _hc1 hl.1 hl.2
    rw [hd] at this
    exact this
  · rw [if_neg hl] at h; cases h
end Go.Proofs.Ytomdfjohnmikdaa.Ext
namespace Go.Proofs.Ytomdfjohnmikdaa.QFnExactInequalitiesFor
open Go.Proofs.Ytomdfjohnmikdaa.Cw Go.Proofs.Ytomdfjohnmikdaa.Kp Go.Proofs.Ytomdfjohnmikdaa.Ext Go.Proofs.Ytomdfjohnmikdaa.QS Go.RowKit Go.Proofs.YtomdfjohnmikdaaW.PrintWords Go.Proofs.YtomdfjohnmikdaaW.PrintLast Go.Proofs.YtomdfjohnmikdaaW.PrintMore
attribute [local go_sem] max2_int min2_int max_two min_two max_three min_three max_four min_four   -- for this text's walks alone
set_option linter.unusedVariables false
set_option linter.unusedSimpArgs false
theorem info2 : (Try.prog.info? 2).map (fun i => (i.zero, i.size, i.bytes)) = some (some (.int .i64 0), 1, 8) := by kernel_rfl
end Go.Proofs.Ytomdfjohnmikdaa.QFnExactInequalitiesFor
namespace Go.Proofs.Ytomdfjohnmikdaa.QFnExactInequalitiesFor
open Go.Proofs.Ytomdfjohnmikdaa.Cw Go.Proofs.Ytomdfjohnmikdaa.Kp Go.Proofs.Ytomdfjohnmikdaa.Ext Go.Proofs.Ytomdfjohnmikdaa.QS Go.RowKit Go.Proofs.YtomdfjohnmikdaaW.PrintWords Go.Proofs.YtomdfjohnmikdaaW.PrintLast Go.Proofs.YtomdfjohnmikdaaW.PrintMore
attribute [local go_sem] max2_int min2_int max_two min_two max_three min_three max_four min_four   -- for this text's walks alone
set_option linter.unusedVariables false
set_option linter.unusedSimpArgs false
noncomputable def laws_FnExactInequalitiesFor.f (k : Nat) (a0_0 : Int) (l0_1 : List Int) (l1 : List Int) : Option (Bool) := if (l1.length : Int) > 1048576 then (some true) else ((laws_szComplex.f a0_0 l0_1 1048576).bind fun t125 => (if t125 < 0 then (some true) else ((laws_toComplex.f k a0_0 l0_1).bind fun bt126 => ((laws_toInt64S.f k l1).bind fun t130 => ((spec_InequalitiesFor.f bt126.1 bt126.2 t130).bind fun bt133 => ((laws_toComplex.f k a0_0 l0_1).bind fun bt137 => ((laws_toInt64S.f k l1).bind fun t142 => ((impl_InequalitiesFor.f bt137.1 bt137.2 t142).bind fun bt145 => ((laws_eqInt64S.f k bt145.1 bt133.1).bind fun t149 => (if t149 = true then (if bt145.2 = bt133.2 then ((laws_toComplex.f k a0_0 l0_1).bind fun bt150 => ((laws_eqComplex.f k bt137.1 bt137.2 bt150.1 bt150.2).bind fun t154 => (if t154 = true then ((laws_toInt64S.f k l1).bind fun t155 => ((laws_eqInt64S.f k t142 t155).bind fun t158 => (if t158 = true then ((laws_markComplex.f k bt137.1 bt137.2 1).bind fun bt159 => ((laws_markInt64S.f k t142 bt159.1).bind fun bt161 => (if bt161.1 < 0 then (none) else ((laws_eqInt64S.f k bt145.1 bt133.1).bind fun t163 => (if t163 = true then ((laws_markInt64S.f k bt145.1 1).bind fun bt164 => ((laws_heldInt64S.f k bt164.2 1).bind fun t166 => (if t166 < 0 then (none) else (if t166 = bt164.1 then ((laws_toComplex.f k a0_0 l0_1).bind fun bt167 => ((laws_toInt64S.f k l1).bind fun t171 => ((impl_InequalitiesFor.f bt167.1 bt167.2 t171).bind fun bt174 => ((laws_eqInt64S.f k bt174.1 bt133.1).bind fun t178 => (if t178 = true then (if bt174.2 = bt133.2 then ((laws_heldInt64S.f k bt164.2 1).bind fun t179 => (if t179 < 0 then (none) else (if t179 = bt164.1 then (some true) else (none)))) else (none)) else (none)))))) else (none))))) else (none)))))) else (none)))) else (none)))) else (none)) else (none)))))))))))
set_option maxHeartbeats 8000000 in
set_option maxRecDepth 100000 in
theorem laws_FnExactInequalitiesFor.calls (k : Nat) (a0_0 : Int) (A0_1 : Option Addr) (c0_1 : Nat) (l0_1 : List Int) (A1 : Option Addr) (c1 : Nat) (l1 : List Int) (r : Bool) (w : World) (hr0_1 : Kd.C (Kd.int .i64) w A0_1 l0_1.length l0_1) (hc0_1 : l0_1.length ≤ c0_1) (hr1 : Kd.C (Kd.int .i64) w A1 l1.length l1) (hc1 : l1.length ≤ c1) (h : laws_FnExactInequalitiesFor.f k a0_0 l0_1 l1 = some r) :
  Calls Try.prog 3 #[.agg #[.int .i64 a0_0, .slice A0_1 l0_1.length c0_1], .slice A1 l1.length c1] w fun e w' => e = .returned (.bool r) ∧ Below w.heap.size w w' := by
 have hu24 := Try.underlying24
 have hu28 := Try.underlying28
 have HR0_1 := Aside0.mk hr0_1
 have HC0_1 := Aside0.mk hc0_1
 clear hr0_1 hc0_1
 have HR1 := Aside0.mk hr1
 have HC1 := Aside0.mk hc1
 clear hr1 hc1
 have HB := Aside0.mk (Below.refl w.heap.size w)
 have H : (if (l1.length : Int) > 1048576 then (some true) else ((laws_szComplex.f a0_0 l0_1 1048576).bind fun t125 => (if t125 < 0 then (some true) else ((laws_toComplex.f k a0_0 l0_1).bind fun bt126 => ((laws_toInt64S.f k l1).bind fun t130 => ((spec_InequalitiesFor.f bt126.1 bt126.2 t130).bind fun bt133 => ((laws_toComplex.f k a0_0 l0_1).bind fun bt137 => ((laws_toInt64S.f k l1).bind fun t142 => ((impl_InequalitiesFor.f bt137.1 bt137.2 t142).bind fun bt145 => ((laws_eqInt64S.f k bt145.1 bt133.1).bind fun t149 => (if t149 = true then (if bt145.2 = bt133.2 then ((laws_toComplex.f k a0_0 l0_1).bind fun bt150 => ((laws_eqComplex.f k bt137.1 bt137.2 bt150.1 bt150.2).bind fun t154 => (if t154 = true then ((laws_toInt64S.f k l1).bind fun t155 => ((laws_eqInt64S.f k t142 t155).bind fun t158 => (if t158 = true then ((laws_markComplex.f k bt137.1 bt137.2 1).bind fun bt159 => ((laws_markInt64S.f k t142 bt159.1).bind fun bt161 => (if bt161.1 < 0 then (none) else ((laws_eqInt64S.f k bt145.1 bt133.1).bind fun t163 => (if t163 = true then ((laws_markInt64S.f k bt145.1 1).bind fun bt164 => ((laws_heldInt64S.f k bt164.2 1).bind fun t166 => (if t166 < 0 then (none) else (if t166 = bt164.1 then ((laws_toComplex.f k a0_0 l0_1).bind fun bt167 => ((laws_toInt64S.f k l1).bind fun t171 => ((impl_InequalitiesFor.f bt167.1 bt167.2 t171).bind fun bt174 => ((laws_eqInt64S.f k bt174.1 bt133.1).bind fun t178 => (if t178 = true then (if bt174.2 = bt133.2 then ((laws_heldInt64S.f k bt164.2 1).bind fun t179 => (if t179 < 0 then (none) else (if t179 = bt164.1 then (some true) else (none)))) else (none)) else (none)))))) else (none))))) else (none)))))) else (none)))) else (none)))) else (none)) else (none)))))))))))) = some r := h
 clear h
 by_cases c3 : (l1.length : Int) > 1048576
 ·rw [if_pos c3] at H
  have c3b0 : decide (1048576 < (l1.length : Int)) = true := decide_eq_true c3
  have c3b1 : decide (1048576 < l1.length) = true := decide_eq_true (by omega)
  clear c3
  obtain rfl := Option.some.inj H
  go_enter Try.func3, Try.ntmps3
  go_wp2_with (first | ((with_reducible refine gate_dst (N := 2) rfl ?_); refine box_event ?hg (N := 2) ?hd (cs := #[.int .i64 a0_0, .slice A0_1 l0_1.length c0_1]) (t := 24) ?hr ?_; (case hd => rfl); (case hg => rfl); (case hr => first | (go_simp; done) | (go_simp; rfl)); intro gb124 hg w4 hbox hb; have BK124 := Aside0.mk (hbox); have GW124 := gH HB hg; have GE124 := gH HB hg; replace HB := sH HB hb; clear hb hbox hg))
  go_ret
  exact ⟨by first | rfl | (simp [errW_none, errW_some] <;> rfl) | (simp [*, errW_none, errW_some] <;> rfl) | (exfalso; simp_all), pH HB⟩
 ·rw [if_neg c3] at H
  have c3b0 : decide (1048576 < (l1.length : Int)) = false := decide_eq_false c3
  have c3b1 : decide (1048576 < l1.length) = false := decide_eq_false (by omega)
  clear c3
  replace H := Option.bind_eq_some_iff.mp H
  obtain ⟨t125, A50, H⟩ := H
  try dsimp only at H
  have A5 := Aside0.mk A50
  clear A50
  by_cases c6 : t125 < 0
  ·rw [if_pos c6] at H
   have c6b0 : decide (t125 < 0) = true := decide_eq_true c6
   clear c6
   obtain rfl := Option.some.inj H
   go_enter Try.func3, Try.ntmps3
   go_wp2_with (first | ((with_reducible refine gate_dst (N := 2) rfl ?_); refine box_event ?hg (N := 2) ?hd (cs := #[.int .i64 a0_0, .slice A0_1 l0_1.length c0_1]) (t := 24) ?hr ?_; (case hd => rfl); (case hg => rfl); (case hr => first | (go_simp; done) | (go_simp; rfl)); intro gb124 hg w7 hbox hb; have BK124 := Aside0.mk (hbox); have GW124 := gH HB hg; have GE124 := gH HB hg; replace HB := sH HB hb; clear hb hbox hg; have hcz8_0 : w7.cell? ⟨gb124, 0, none⟩ = some (.int .i64 a0_0) := cB BK124 0; have hcz8_1 : w7.cell? ⟨gb124, 1, none⟩ = some (.slice A0_1 l0_1.length c0_1) := cB BK124 1; have hfz8_0 := zB BK124 0; have hfz8_1 := zB BK124 1) | ((with_reducible refine gate_callee (f := 13) rfl ?_); refine cl_ (some 22) Try.func13 #[.agg #[.int .i64 a0_0, .slice A0_1 l0_1.length c0_1], .int .i64 1048576] ?_; (with_reducible refine (laws_szComplex.calls a0_0 _ _ l0_1 1048576 t125 _ ?side1 ?side2 A5.out).mono ?_); (case side1 => exact pC ((Kd.C_below HR0_1.out HB.out))); (case side2 => exact HC0_1.out); rintro e w9 ⟨rfl, hb⟩; refine ⟨_, rfl, ?_⟩; replace BK124 := sB BK124 hb; replace HB := sH HB hb; (try clear hb); (try clear hi)))
   go_ret
   exact ⟨by first | rfl | (simp [errW_none, errW_some] <;> rfl) | (simp [*, errW_none, errW_some] <;> rfl) | (exfalso; simp_all), pH HB⟩
  ·rw [if_neg c6] at H
   have c6b0 : decide (t125 < 0) = false := decide_eq_false c6
   clear c6
   replace H := Option.bind_eq_some_iff.mp H
   obtain ⟨⟨t126, t127⟩, A100, H⟩ := H
   try dsimp only at H
   have A10 := Aside0.mk A100
   clear A100
   replace H := Option.bind_eq_some_iff.mp H
   obtain ⟨t130, A110, H⟩ := H
   try dsimp only at H
   have A11 := Aside0.mk A110
   clear A110
   replace H := Option.bind_eq_some_iff.mp H
   obtain ⟨⟨t133, t136⟩, A120, H⟩ := H
   try dsimp only at H
   have A12 := Aside0.mk A120
   clear A120
   replace H := Option.bind_eq_some_iff.mp H
   obtain ⟨⟨t137, t138⟩, A130, H⟩ := H
   try dsimp only at H
   have A13 := Aside0.mk A130
   clear A130
   replace H := Option.bind_eq_some_iff.mp H
   obtain ⟨t142, A140, H⟩ := H
   try dsimp only at H
   have A14 := Aside0.mk A140
   clear A140
   replace H := Option.bind_eq_some_iff.mp H
   obtain ⟨⟨t145, t148⟩, A150, H⟩ := H
   try dsimp only at H
   have A15 := Aside0.mk A150
   clear A150
   replace H := Option.bind_eq_some_iff.mp H
   obtain ⟨t149, A160, H⟩ := H
   try dsimp only at H
   have A16 := Aside0.mk A160
   clear A160
   by_cases c17 : t149 = true
   ·subst c17
    have H1 : (if t148 = t136 then ((laws_toComplex.f k a0_0 l0_1).bind fun bt150 => ((laws_eqComplex.f k t137 t138 bt150.1 bt150.2).bind fun t154 => (if t154 = true then ((laws_toInt64S.f k l1).bind fun t155 => ((laws_eqInt64S.f k t142 t155).bind fun t158 => (if t158 = true then ((laws_markComplex.f k t137 t138 1).bind fun bt159 => ((laws_markInt64S.f k t142 bt159.1).bind fun bt161 => (if bt161.1 < 0 then (none) else ((laws_eqInt64S.f k t145 t133).bind fun t163 => (if t163 = true then ((laws_markInt64S.f k t145 1).bind fun bt164 => ((laws_heldInt64S.f k bt164.2 1).bind fun t166 => (if t166 < 0 then (none) else (if t166 = bt164.1 then ((laws_toComplex.f k a0_0 l0_1).bind fun bt167 => ((laws_toInt64S.f k l1).bind fun t171 => ((impl_InequalitiesFor.f bt167.1 bt167.2 t171).bind fun bt174 => ((laws_eqInt64S.f k bt174.1 t133).bind fun t178 => (if t178 = true then (if bt174.2 = t136 then ((laws_heldInt64S.f k bt164.2 1).bind fun t179 => (if t179 < 0 then (none) else (if t179 = bt164.1 then (some true) else (none)))) else (none)) else (none)))))) else (none))))) else (none)))))) else (none)))) else (none)))) else (none)) = some r := by rw [if_pos rfl] at H; exact H
    clear H
    have H := H1
    clear H1
    by_cases c18 : t148 = t136
    ·rw [if_pos c18] at H
     have c18b0 : (t148 == t136) = true := beq_iff_eq.mpr c18
     have c18b1 : (t148 != t136) = false := bne_eq_false_iff_eq.mpr c18
     clear c18
     replace H := Option.bind_eq_some_iff.mp H
     obtain ⟨⟨t150, t151⟩, A190, H⟩ := H
     try dsimp only at H
     have A19 := Aside0.mk A190
     clear A190
     replace H := Option.bind_eq_some_iff.mp H
     obtain ⟨t154, A200, H⟩ := H
     try dsimp only at H
     have A20 := Aside0.mk A200
     clear A200
     by_cases c21 : t154 = true
     ·subst c21
      have H1 : ((laws_toInt64S.f k l1).bind fun t155 => ((laws_eqInt64S.f k t142 t155).bind fun t158 => (if t158 = true then ((laws_markComplex.f k t137 t138 1).bind fun bt159 => ((laws_markInt64S.f k t142 bt159.1).bind fun bt161 => (if bt161.1 < 0 then (none) else ((laws_eqInt64S.f k t145 t133).bind fun t163 => (if t163 = true then ((laws_markInt64S.f k t145 1).bind fun bt164 => ((laws_heldInt64S.f k bt164.2 1).bind fun t166 => (if t166 < 0 then (none) else (if t166 = bt164.1 then ((laws_toComplex.f k a0_0 l0_1).bind fun bt167 => ((laws_toInt64S.f k l1).bind fun t171 => ((impl_InequalitiesFor.f bt167.1 bt167.2 t171).bind fun bt174 => ((laws_eqInt64S.f k bt174.1 t133).bind fun t178 => (if t178 = true then (if bt174.2 = t136 then ((laws_heldInt64S.f k bt164.2 1).bind fun t179 => (if t179 < 0 then (none) else (if t179 = bt164.1 then (some true) else (none)))) else (none)) else (none)))))) else (none))))) else (none)))))) else (none)))) = some r := by rw [if_pos rfl] at H; exact H
      clear H
      have H := H1
      clear H1
      replace H := Option.bind_eq_some_iff.mp H
      obtain ⟨t155, A220, H⟩ := H
      try dsimp only at H
      have A22 := Aside0.mk A220
      clear A220
      replace H := Option.bind_eq_some_iff.mp H
      obtain ⟨t158, A230, H⟩ := H
      try dsimp only at H
      have A23 := Aside0.mk A230
      clear A230
      by_cases c24 : t158 = true
      ·subst c24
       have H1 : ((laws_markComplex.f k t137 t138 1).bind fun bt159 => ((laws_markInt64S.f k t142 bt159.1).bind fun bt161 => (if bt161.1 < 0 then (none) else ((laws_eqInt64S.f k t145 t133).bind fun t163 => (if t163 = true then ((laws_markInt64S.f k t145 1).bind fun bt164 => ((laws_heldInt64S.f k bt164.2 1).bind fun t166 => (if t166 < 0 then (none) else (if t166 = bt164.1 then ((laws_toComplex.f k a0_0 l0_1).bind fun bt167 => ((laws_toInt64S.f k l1).bind fun t171 => ((impl_InequalitiesFor.f bt167.1 bt167.2 t171).bind fun bt174 => ((laws_eqInt64S.f k bt174.1 t133).bind fun t178 => (if t178 = true then (if bt174.2 = t136 then ((laws_heldInt64S.f k bt164.2 1).bind fun t179 => (if t179 < 0 then (none) else (if t179 = bt164.1 then (some true) else (none)))) else (none)) else (none)))))) else (none))))) else (none)))))) = some r := by rw [if_pos rfl] at H; exact H
       clear H
       have H := H1
       clear H1
       replace H := Option.bind_eq_some_iff.mp H
       obtain ⟨⟨t159, t160⟩, A250, H⟩ := H
       try dsimp only at H
       have A25 := Aside0.mk A250
       clear A250
       replace H := Option.bind_eq_some_iff.mp H
       obtain ⟨⟨t161, t162⟩, A260, H⟩ := H
       try dsimp only at H
       have A26 := Aside0.mk A260
       clear A260
       by_cases c27 : t161 < 0
       ·rw [if_pos c27] at H
        exact absurd H (by simp)
       ·rw [if_neg c27] at H
        have c27b0 : decide (t161 < 0) = false := decide_eq_false c27
        clear c27
        replace H := Option.bind_eq_some_iff.mp H
        obtain ⟨t163, A280, H⟩ := H
        try dsimp only at H
        have A28 := Aside0.mk A280
        clear A280
        by_cases c29 : t163 = true
        ·subst c29
         have H1 : ((laws_markInt64S.f k t145 1).bind fun bt164 => ((laws_heldInt64S.f k bt164.2 1).bind fun t166 => (if t166 < 0 then (none) else (if t166 = bt164.1 then ((laws_toComplex.f k a0_0 l0_1).bind fun bt167 => ((laws_toInt64S.f k l1).bind fun t171 => ((impl_InequalitiesFor.f bt167.1 bt167.2 t171).bind fun bt174 => ((laws_eqInt64S.f k bt174.1 t133).bind fun t178 => (if t178 = true then (if bt174.2 = t136 then ((laws_heldInt64S.f k bt164.2 1).bind fun t179 => (if t179 < 0 then (none) else (if t179 = bt164.1 then (some true) else (none)))) else (none)) else (none)))))) else (none))))) = some r := by rw [if_pos rfl] at H; exact H
         clear H
         have H := H1
         clear H1
         replace H := Option.bind_eq_some_iff.mp H
         obtain ⟨⟨t164, t165⟩, A300, H⟩ := H
         try dsimp only at H
         have A30 := Aside0.mk A300
         clear A300
         replace H := Option.bind_eq_some_iff.mp H
         obtain ⟨t166, A310, H⟩ := H
         try dsimp only at H
         have A31 := Aside0.mk A310
         clear A310
         by_cases c32 : t166 < 0
         ·rw [if_pos c32] at H
          exact absurd H (by simp)
         ·rw [if_neg c32] at H
          have c32b0 : decide (t166 < 0) = false := decide_eq_false c32
          clear c32
          by_cases c33 : t166 = t164
          ·rw [if_pos c33] at H
           have c33b0 : (t166 == t164) = true := beq_iff_eq.mpr c33
           have c33b1 : (t166 != t164) = false := bne_eq_false_iff_eq.mpr c33
           clear c33
           replace H := Option.bind_eq_some_iff.mp H
           obtain ⟨⟨t167, t168⟩, A340, H⟩ := H
           try dsimp only at H
           have A34 := Aside0.mk A340
           clear A340
           replace H := Option.bind_eq_some_iff.mp H
           obtain ⟨t171, A350, H⟩ := H
           try dsimp only at H
           have A35 := Aside0.mk A350
           clear A350
           replace H := Option.bind_eq_some_iff.mp H
           obtain ⟨⟨t174, t177⟩, A360, H⟩ := H
           try dsimp only at H
           have A36 := Aside0.mk A360
           clear A360
           replace H := Option.bind_eq_some_iff.mp H
           obtain ⟨t178, A370, H⟩ := H
           try dsimp only at H
           have A37 := Aside0.mk A370
           clear A370
           by_cases c38 : t178 = true
           ·subst c38
            have H1 : (if t177 = t136 then ((laws_heldInt64S.f k t165 1).bind fun t179 => (if t179 < 0 then (none) else (if t179 = t164 then (some true) else (none)))) else (none)) = some r := by rw [if_pos rfl] at H; exact H
            clear H
            have H := H1
            clear H1
            by_cases c39 : t177 = t136
            ·rw [if_pos c39] at H
             have c39b0 : (t177 == t136) = true := beq_iff_eq.mpr c39
             have c39b1 : (t177 != t136) = false := bne_eq_false_iff_eq.mpr c39
             clear c39
             replace H := Option.bind_eq_some_iff.mp H
             obtain ⟨t179, A400, H⟩ := H
             try dsimp only at H
             have A40 := Aside0.mk A400
             clear A400
             by_cases c41 : t179 < 0
             ·rw [if_pos c41] at H
              exact absurd H (by simp)
             ·rw [if_neg c41] at H
              have c41b0 : decide (t179 < 0) = false := decide_eq_false c41
              clear c41
              by_cases c42 : t179 = t164
              ·rw [if_pos c42] at H
               have c42b0 : (t179 == t164) = true := beq_iff_eq.mpr c42
               have c42b1 : (t179 != t164) = false := bne_eq_false_iff_eq.mpr c42
               clear c42
               obtain rfl := Option.some.inj H
               go_enter Try.func3, Try.ntmps3
               try go_wp2_with (first | ((with_reducible refine gate_dst (N := 2) rfl ?_); refine box_event ?hg (N := 2) ?hd (cs := #[.int .i64 a0_0, .slice A0_1 l0_1.length c0_1]) (t := 24) ?hr ?_; (case hd => rfl); (case hg => rfl); (case hr => first | (go_simp; done) | (go_simp; rfl)); intro gb124 hg w43 hbox hb; have BK124 := Aside0.mk (hbox); have GW124 := gH HB hg; have GE124 := gH HB hg; replace HB := sH HB hb; clear hb hbox hg; have hcz44_0 : w43.cell? ⟨gb124, 0, none⟩ = some (.int .i64 a0_0) := cB BK124 0; have hcz44_1 : w43.cell? ⟨gb124, 1, none⟩ = some (.slice A0_1 l0_1.length c0_1) := cB BK124 1; have hfz44_0 := zB BK124 0; have hfz44_1 := zB BK124 1) | ((with_reducible refine gate_callee (f := 13) rfl ?_); refine cl_ (some 22) Try.func13 #[.agg #[.int .i64 a0_0, .slice A0_1 l0_1.length c0_1], .int .i64 1048576] ?_; (with_reducible refine (laws_szComplex.calls a0_0 _ _ l0_1 1048576 t125 _ ?side1 ?side2 A5.out).mono ?_); (case side1 => exact pC ((Kd.C_below HR0_1.out HB.out))); (case side2 => exact HC0_1.out); rintro e w45 ⟨rfl, hb⟩; refine ⟨_, rfl, ?_⟩; replace BK124 := sB BK124 hb; replace HB := sH HB hb; (try clear hb); (try clear hi); have hcz46_0 : w45.cell? ⟨gb124, 0, none⟩ = some (.int .i64 a0_0) := cB BK124 0; have hcz46_1 : w45.cell? ⟨gb124, 1, none⟩ = some (.slice A0_1 l0_1.length c0_1) := cB BK124 1; have hfz46_0 := zB BK124 0; have hfz46_1 := zB BK124 1) | ((with_reducible refine gate_callee (f := 15) rfl ?_); refine cl_ (some 27) Try.func15 #[.agg #[.int .i64 a0_0, .slice A0_1 l0_1.length c0_1]] ?_; (with_reducible refine (laws_toComplex.calls k a0_0 _ _ l0_1 t126 t127 _ ?side1 ?side2 A10.out).mono ?_); (case side1 => exact pC ((Kd.C_below HR0_1.out HB.out))); (case side2 => exact HC0_1.out); rintro e w47 ⟨v128, rfl, ho0, hb⟩; refine ⟨_, rfl, ?_⟩; have HO129 := Aside0.mk (Kd.R_lower ho0 (below_size (pH HB))); replace BK124 := sB BK124 hb; replace HB := sH HB hb; (try clear hb); (try clear hi); (try clear ho0)) | ((with_reducible refine gate_callee (f := 16) rfl ?_); refine cl_ (some 29) Try.func16 #[.slice A1 l1.length c1] ?_; (with_reducible refine (laws_toInt64S.calls k _ _ l1 t130 _ ?side1 ?side2 A11.out).mono ?_); (case side1 => exact pC ((Kd.C_below HR1.out HB.out))); (case side2 => exact HC1.out); rintro e w48 ⟨v131, rfl, ho0, hb⟩; refine ⟨_, rfl, ?_⟩; have HO132 := Aside0.mk (Kd.R_lower (Kd.R_new' ho0 (Kd.R_lt (pR HO129))) (below_size (pH HB))); replace HO129 := Aside0.mk (Kd.R_elder' (pR HO129) (Kd.R_base ho0) hb); replace BK124 := sB BK124 hb; replace HB := sH HB hb; (try clear hb); (try clear hi); (try clear ho0); obtain ⟨Ao49, co49, eo49⟩ := Kd.R_slice HO129.out; subst eo49; obtain ⟨Ao50, co50, eo50⟩ := Kd.R_slice HO132.out; subst eo50) | ((with_reducible refine gate_callee (f := 14) rfl ?_); refine cl_ (some 30) Try.func14 #[.agg #[.int .i64 t126, .slice Ao49 t127.length co49], .slice Ao50 t130.length co50] ?_; (with_reducible refine (spec_InequalitiesFor.calls t126 _ _ t127 _ _ t130 t133 t136 _ ?side1 ?side2 ?side3 ?side4 A12.out).mono ?_); (case side1 => exact pC ((Kd.R_reads' HO129.out).2.2)); (case side2 => exact (Kd.R_reads' HO129.out).2.1); (case side3 => exact pC ((Kd.R_reads' HO132.out).2.2)); (case side4 => exact (Kd.R_reads' HO132.out).2.1); rintro e w51 ⟨v134, rfl, ho0, hb⟩; refine ⟨_, rfl, ?_⟩; have HO135 := Aside0.mk (Kd.R_lower (Kd.R_new' (Kd.R_new' ho0 (Kd.R_lt (pR HO129))) (Kd.R_lt (pR HO132))) (below_size (pH HB))); replace HO129 := Aside0.mk (Kd.R_elder' (pR HO129) (Kd.R_base ho0) hb); replace HO132 := Aside0.mk (Kd.R_elder' (pR HO132) (Kd.R_base ho0) hb); replace BK124 := sB BK124 hb; replace HB := sH HB hb; (try clear hb); (try clear hi); (try clear ho0); have hcz52_0 : w51.cell? ⟨gb124, 0, none⟩ = some (.int .i64 a0_0) := cB BK124 0; have hcz52_1 : w51.cell? ⟨gb124, 1, none⟩ = some (.slice A0_1 l0_1.length c0_1) := cB BK124 1; have hfz52_0 := zB BK124 0; have hfz52_1 := zB BK124 1) | ((with_reducible refine gate_callee (f := 15) rfl ?_); refine cl_ (some 34) Try.func15 #[.agg #[.int .i64 a0_0, .slice A0_1 l0_1.length c0_1]] ?_; (with_reducible refine (laws_toComplex.calls k a0_0 _ _ l0_1 t137 t138 _ ?side1 ?side2 A13.out).mono ?_); (case side1 => exact pC ((Kd.C_below HR0_1.out HB.out))); (case side2 => exact HC0_1.out); rintro e w53 ⟨v139, rfl, ho0, hb⟩; refine ⟨_, rfl, ?_⟩; have HO140 := Aside0.mk (Kd.R_lower (Kd.R_new' (Kd.R_new' (Kd.R_new' ho0 (Kd.R_lt (pR HO129))) (Kd.R_lt (pR HO132))) (Kd.R_lt (pR HO135))) (below_size (pH HB))); replace HO129 := Aside0.mk (Kd.R_elder' (pR HO129) (Kd.R_base ho0) hb); replace HO132 := Aside0.mk (Kd.R_elder' (pR HO132) (Kd.R_base ho0) hb); replace HO135 := Aside0.mk (Kd.R_elder' (pR HO135) (Kd.R_base ho0) hb); replace BK124 := sB BK124 hb; replace HB := sH HB hb; (try clear hb); (try clear hi); (try clear ho0)) | ((with_reducible refine gate_dst (N := 8) rfl ?_); refine box_event ?hg (N := 8) ?hd (cs := #[.int .i64 0, .slice none 0 0]) (t := 28) ?hr ?_; (case hd => rfl); (case hg => rfl); (case hr => first | (go_simp; done) | (go_simp; rfl)); intro gb141 hg w54 hbox hb; replace HO129 := sR HO129 hb; replace HO132 := sR HO132 hb; replace HO135 := sR HO135 hb; replace HO140 := sR HO140 hb; have BK141 := Aside0.mk (hbox); have GW141 := gH HB hg; have GE141 := gH HB hg; replace HB := sH HB hb; have NB124_141 := nB BK124 hg; have NB141_124 := oB BK124 hg; replace BK124 := sB BK124 hb; clear hb hbox hg; (try have hnb55 := NB141_124.out); (try have hnc55 := NB124_141.out); have hcz56_0 : w54.cell? ⟨gb141, 0, none⟩ = some (.int .i64 0) := cB BK141 0; have hcz56_1 : w54.cell? ⟨gb141, 1, none⟩ = some (.slice none 0 0) := cB BK141 1; have hfz56_0 := zB BK141 0; have hfz56_1 := zB BK141 1; obtain ⟨Ao57, co57, eo57⟩ := Kd.R_slice HO140.out; subst eo57) | ((with_reducible refine gate_callee (f := 16) rfl ?_); refine cl_ (some 36) Try.func16 #[.slice A1 l1.length c1] ?_; (with_reducible refine (laws_toInt64S.calls k _ _ l1 t142 _ ?side1 ?side2 A14.out).mono ?_); (case side1 => exact Kd.C_below HR1.out (pH HB)); (case side2 => exact HC1.out); rintro e w58 ⟨v143, rfl, ho0, hb⟩; refine ⟨_, rfl, ?_⟩; have n0_ := Aside0.mk (Kd.R_elder' (by (with_reducible repeat (first | apply Kd.R_alloc | apply Kd.R_drewN | apply Kd.R_drew)); exact (Kd.R_mono (Kd.R_far (p := ⟨gb141, 1, none⟩) (Kd.R_far (p := ⟨gb141, 0, none⟩) (Kd.R_types HO129.out BK141.out (by decide)) (fun _ hk => hk.2) (.int .i64 t137)) (fun _ hk => hk.2) (.slice Ao57 t138.length co57)) (fun _ h_ => h_.1))) (Kd.R_base ho0) hb); have n1_ := Aside0.mk (Kd.R_elder' (by (with_reducible repeat (first | apply Kd.R_alloc | apply Kd.R_drewN | apply Kd.R_drew)); exact (Kd.R_mono (Kd.R_far (p := ⟨gb141, 1, none⟩) (Kd.R_far (p := ⟨gb141, 0, none⟩) (Kd.R_types HO132.out BK141.out (by decide)) (fun _ hk => hk.2) (.int .i64 t137)) (fun _ hk => hk.2) (.slice Ao57 t138.length co57)) (fun _ h_ => h_.1))) (Kd.R_base ho0) hb); have n2_ := Aside0.mk (Kd.R_elder' (by (with_reducible repeat (first | apply Kd.R_alloc | apply Kd.R_drewN | apply Kd.R_drew)); exact (Kd.R_mono (Kd.R_far (p := ⟨gb141, 1, none⟩) (Kd.R_far (p := ⟨gb141, 0, none⟩) (Kd.R_types HO135.out BK141.out (by decide)) (fun _ hk => hk.2) (.int .i64 t137)) (fun _ hk => hk.2) (.slice Ao57 t138.length co57)) (fun _ h_ => h_.1))) (Kd.R_base ho0) hb); have n3_ := Aside0.mk (Kd.R_elder' (by (with_reducible repeat (first | apply Kd.R_alloc | apply Kd.R_drewN | apply Kd.R_drew)); exact (Kd.R_mono (Kd.R_far (p := ⟨gb141, 1, none⟩) (Kd.R_far (p := ⟨gb141, 0, none⟩) (Kd.R_types HO140.out BK141.out (by decide)) (fun _ hk => hk.2) (.int .i64 t137)) (fun _ hk => hk.2) (.slice Ao57 t138.length co57)) (fun _ h_ => h_.1))) (Kd.R_base ho0) hb); have n4_ := Aside0.mk (Kd.R_lower (Kd.R_new' (Kd.R_new' (Kd.R_new' (Kd.R_new' ho0 (Kd.R_lt (by (with_reducible repeat (first | apply Kd.R_alloc | apply Kd.R_drewN | apply Kd.R_drew)); exact (Kd.R_mono (Kd.R_far (p := ⟨gb141, 1, none⟩) (Kd.R_far (p := ⟨gb141, 0, none⟩) (Kd.R_types HO129.out BK141.out (by decide)) (fun _ hk => hk.2) (.int .i64 t137)) (fun _ hk => hk.2) (.slice Ao57 t138.length co57)) (fun _ h_ => h_.1))))) (Kd.R_lt (by (with_reducible repeat (first | apply Kd.R_alloc | apply Kd.R_drewN | apply Kd.R_drew)); exact (Kd.R_mono (Kd.R_far (p := ⟨gb141, 1, none⟩) (Kd.R_far (p := ⟨gb141, 0, none⟩) (Kd.R_types HO132.out BK141.out (by decide)) (fun _ hk => hk.2) (.int .i64 t137)) (fun _ hk => hk.2) (.slice Ao57 t138.length co57)) (fun _ h_ => h_.1))))) (Kd.R_lt (by (with_reducible repeat (first | apply Kd.R_alloc | apply Kd.R_drewN | apply Kd.R_drew)); exact (Kd.R_mono (Kd.R_far (p := ⟨gb141, 1, none⟩) (Kd.R_far (p := ⟨gb141, 0, none⟩) (Kd.R_types HO135.out BK141.out (by decide)) (fun _ hk => hk.2) (.int .i64 t137)) (fun _ hk => hk.2) (.slice Ao57 t138.length co57)) (fun _ h_ => h_.1))))) (Kd.R_lt (by (with_reducible repeat (first | apply Kd.R_alloc | apply Kd.R_drewN | apply Kd.R_drew)); exact (Kd.R_mono (Kd.R_far (p := ⟨gb141, 1, none⟩) (Kd.R_far (p := ⟨gb141, 0, none⟩) (Kd.R_types HO140.out BK141.out (by decide)) (fun _ hk => hk.2) (.int .i64 t137)) (fun _ hk => hk.2) (.slice Ao57 t138.length co57)) (fun _ h_ => h_.1))))) (below_size (pH HB))); have n5_ := Aside0.mk (blk_below (g := gb124) (o := .cells #[.int .i64 a0_0, .slice A0_1 l0_1.length c0_1] 24 (0, 0)) (by (with_reducible repeat (first | refine blk_drewN ?_ _ | refine blk_drew ?_ | refine blk_alloc ?_ _)); refine blk_far ?_ NB124_141.out _; (with_reducible repeat (first | refine blk_drewN ?_ _ | refine blk_drew ?_ | refine blk_alloc ?_ _)); refine blk_far ?_ NB124_141.out _; (with_reducible repeat (first | refine blk_drewN ?_ _ | refine blk_drew ?_ | refine blk_alloc ?_ _)); exact BK124.out) hb); have n6_ := Aside0.mk (blk_below (g := gb141) (o := .cells #[.int .i64 t137, .slice Ao57 t138.length co57] 28 (0, 0)) (by (with_reducible repeat (first | refine blk_drewN ?_ _ | refine blk_drew ?_ | refine blk_alloc ?_ _)); refine blk_put (cs := #[.int .i64 t137, .slice none 0 0]) ?_ 1 _ rfl; (with_reducible repeat (first | refine blk_drewN ?_ _ | refine blk_drew ?_ | refine blk_alloc ?_ _)); refine blk_put (cs := #[.int .i64 0, .slice none 0 0]) ?_ 0 _ rfl; (with_reducible repeat (first | refine blk_drewN ?_ _ | refine blk_drew ?_ | refine blk_alloc ?_ _)); exact BK141.out) hb); have n7_ := sH HB hb; clear HO129; clear HO132; clear HO135; clear HO140; clear BK124; clear BK141; clear HB; have HO129 := n0_; have HO132 := n1_; have HO135 := n2_; have HO140 := n3_; have HO144 := n4_; have BK124 := n5_; have BK141 := n6_; have HB := n7_; clear n0_ n1_ n2_ n3_ n4_ n5_ n6_ n7_; (try clear hb); (try clear hi); (try clear ho0); have hcz59_0 : w58.cell? ⟨gb141, 0, none⟩ = some (.int .i64 t137) := cB BK141 0; have hcz59_1 : w58.cell? ⟨gb141, 1, none⟩ = some (.slice Ao57 t138.length co57) := cB BK141 1; have hfz59_0 := zB BK141 0; have hfz59_1 := zB BK141 1; obtain ⟨Ao60, co60, eo60⟩ := Kd.R_slice HO144.out; subst eo60) | ((with_reducible refine gate_callee (f := 17) rfl ?_); refine cl_ (some 40) Try.func17 #[.agg #[.int .i64 t137, .slice Ao57 t138.length co57], .slice Ao60 t142.length co60] ?_; (with_reducible refine (impl_InequalitiesFor.calls t137 _ _ t138 _ _ t142 t145 t148 _ ?side1 ?side2 ?side3 ?side4 A15.out).mono ?_); (case side1 => exact pC ((Kd.R_reads' HO140.out).2.2)); (case side2 => exact (Kd.R_reads' HO140.out).2.1); (case side3 => exact pC ((Kd.R_reads' HO144.out).2.2)); (case side4 => exact (Kd.R_reads' HO144.out).2.1); rintro e w61 ⟨v146, rfl, ho0, hb⟩; refine ⟨_, rfl, ?_⟩; have HO147 := Aside0.mk (Kd.R_lower (Kd.R_new' (Kd.R_new' (Kd.R_new' (Kd.R_new' (Kd.R_new' ho0 (Kd.R_lt (pR HO129))) (Kd.R_lt (pR HO132))) (Kd.R_lt (pR HO135))) (Kd.R_lt (pR HO140))) (Kd.R_lt (pR HO144))) (below_size (pH HB))); replace HO129 := Aside0.mk (Kd.R_elder' (pR HO129) (Kd.R_base ho0) hb); replace HO132 := Aside0.mk (Kd.R_elder' (pR HO132) (Kd.R_base ho0) hb); replace HO135 := Aside0.mk (Kd.R_elder' (pR HO135) (Kd.R_base ho0) hb); replace HO140 := Aside0.mk (Kd.R_elder' (pR HO140) (Kd.R_base ho0) hb); replace HO144 := Aside0.mk (Kd.R_elder' (pR HO144) (Kd.R_base ho0) hb); replace BK124 := sB BK124 hb; replace BK141 := sB BK141 hb; replace HB := sH HB hb; (try clear hb); (try clear hi); (try clear ho0); obtain ⟨Ao62, co62, eo62⟩ := Kd.R_slice HO147.out; subst eo62; obtain ⟨Ao63, co63, eo63⟩ := Kd.R_slice HO135.out; subst eo63) | ((with_reducible refine gate_callee (f := 18) rfl ?_); refine cl_ (some 45) Try.func18 #[.slice Ao62 t145.length co62, .slice Ao63 t133.length co63] ?_; (with_reducible refine (laws_eqInt64S.calls k _ _ t145 _ _ t133 true _ ?side1 ?side2 ?side3 ?side4 A16.out).mono ?_); (case side1 => exact pC ((Kd.R_reads' HO147.out).2.2)); (case side2 => exact (Kd.R_reads' HO147.out).2.1); (case side3 => exact pC ((Kd.R_reads' HO135.out).2.2)); (case side4 => exact (Kd.R_reads' HO135.out).2.1); rintro e w' ⟨rfl, ⟨nd, rfl⟩⟩; refine ⟨_, rfl, ?_⟩))
               (try (rw [drewN_self w61]; generalize hq_ : World.drewN w61 _ = w61; have n0_ : Aside0 (Kd.R (Kd.int .i64) 2 w61 w.heap.size (fun k_ => some k_ ≠ (.slice Ao50 t130.length co50 : Value).ownBlock ∧ some k_ ≠ (.slice Ao63 t133.length co63 : Value).ownBlock ∧ some k_ ≠ (.slice Ao57 t138.length co57 : Value).ownBlock ∧ some k_ ≠ (.slice Ao60 t142.length co60 : Value).ownBlock ∧ some k_ ≠ (.slice Ao62 t145.length co62 : Value).ownBlock) (.slice Ao49 t127.length co49) t127) := ⟨by rw [← hq_]; exact (by (with_reducible repeat (first | apply Kd.R_alloc | apply Kd.R_drewN | apply Kd.R_drew)); exact Kd.R_mono HO129.out (fun _ hk => ⟨hk.1.1.1.1.2, ⟨hk.1.1.1.2, ⟨hk.1.1.2, ⟨hk.1.2, hk.2⟩⟩⟩⟩))⟩; have n1_ : Aside0 (Kd.R (Kd.int .i64) 2 w61 w.heap.size (fun k_ => some k_ ≠ (.slice Ao49 t127.length co49 : Value).ownBlock ∧ some k_ ≠ (.slice Ao63 t133.length co63 : Value).ownBlock ∧ some k_ ≠ (.slice Ao57 t138.length co57 : Value).ownBlock ∧ some k_ ≠ (.slice Ao60 t142.length co60 : Value).ownBlock ∧ some k_ ≠ (.slice Ao62 t145.length co62 : Value).ownBlock) (.slice Ao50 t130.length co50) t130) := ⟨by rw [← hq_]; exact (by (with_reducible repeat (first | apply Kd.R_alloc | apply Kd.R_drewN | apply Kd.R_drew)); exact Kd.R_mono HO132.out (fun _ hk => ⟨hk.1.1.1.1.2, ⟨hk.1.1.1.2, ⟨hk.1.1.2, ⟨hk.1.2, hk.2⟩⟩⟩⟩))⟩; have n2_ : Aside0 (Kd.R (Kd.int .i64) 2 w61 w.heap.size (fun k_ => some k_ ≠ (.slice Ao49 t127.length co49 : Value).ownBlock ∧ some k_ ≠ (.slice Ao50 t130.length co50 : Value).ownBlock ∧ some k_ ≠ (.slice Ao57 t138.length co57 : Value).ownBlock ∧ some k_ ≠ (.slice Ao60 t142.length co60 : Value).ownBlock ∧ some k_ ≠ (.slice Ao62 t145.length co62 : Value).ownBlock) (.slice Ao63 t133.length co63) t133) := ⟨by rw [← hq_]; exact (by (with_reducible repeat (first | apply Kd.R_alloc | apply Kd.R_drewN | apply Kd.R_drew)); exact Kd.R_mono HO135.out (fun _ hk => ⟨hk.1.1.1.1.2, ⟨hk.1.1.1.2, ⟨hk.1.1.2, ⟨hk.1.2, hk.2⟩⟩⟩⟩))⟩; have n3_ : Aside0 (Kd.R (Kd.int .i64) 2 w61 w.heap.size (fun k_ => some k_ ≠ (.slice Ao49 t127.length co49 : Value).ownBlock ∧ some k_ ≠ (.slice Ao50 t130.length co50 : Value).ownBlock ∧ some k_ ≠ (.slice Ao63 t133.length co63 : Value).ownBlock ∧ some k_ ≠ (.slice Ao60 t142.length co60 : Value).ownBlock ∧ some k_ ≠ (.slice Ao62 t145.length co62 : Value).ownBlock) (.slice Ao57 t138.length co57) t138) := ⟨by rw [← hq_]; exact (by (with_reducible repeat (first | apply Kd.R_alloc | apply Kd.R_drewN | apply Kd.R_drew)); exact Kd.R_mono HO140.out (fun _ hk => ⟨hk.1.1.1.1.2, ⟨hk.1.1.1.2, ⟨hk.1.1.2, ⟨hk.1.2, hk.2⟩⟩⟩⟩))⟩; have n4_ : Aside0 (Kd.R (Kd.int .i64) 2 w61 w.heap.size (fun k_ => some k_ ≠ (.slice Ao49 t127.length co49 : Value).ownBlock ∧ some k_ ≠ (.slice Ao50 t130.length co50 : Value).ownBlock ∧ some k_ ≠ (.slice Ao63 t133.length co63 : Value).ownBlock ∧ some k_ ≠ (.slice Ao57 t138.length co57 : Value).ownBlock ∧ some k_ ≠ (.slice Ao62 t145.length co62 : Value).ownBlock) (.slice Ao60 t142.length co60) t142) := ⟨by rw [← hq_]; exact (by (with_reducible repeat (first | apply Kd.R_alloc | apply Kd.R_drewN | apply Kd.R_drew)); exact Kd.R_mono HO144.out (fun _ hk => ⟨hk.1.1.1.1.2, ⟨hk.1.1.1.2, ⟨hk.1.1.2, ⟨hk.1.2, hk.2⟩⟩⟩⟩))⟩; have n5_ : Aside0 (Kd.R (Kd.int .i64) 2 w61 w.heap.size (fun k_ => some k_ ≠ (.slice Ao49 t127.length co49 : Value).ownBlock ∧ some k_ ≠ (.slice Ao50 t130.length co50 : Value).ownBlock ∧ some k_ ≠ (.slice Ao63 t133.length co63 : Value).ownBlock ∧ some k_ ≠ (.slice Ao57 t138.length co57 : Value).ownBlock ∧ some k_ ≠ (.slice Ao60 t142.length co60 : Value).ownBlock) (.slice Ao62 t145.length co62) t145) := ⟨by rw [← hq_]; exact (by (with_reducible repeat (first | apply Kd.R_alloc | apply Kd.R_drewN | apply Kd.R_drew)); exact Kd.R_mono HO147.out (fun _ hk => ⟨hk.1.1.1.1.2, ⟨hk.1.1.1.2, ⟨hk.1.1.2, ⟨hk.1.2, hk.2⟩⟩⟩⟩))⟩; have n6_ : Aside0 (w61.heap[gb124]? = some (.cells #[.int .i64 a0_0, .slice A0_1 l0_1.length c0_1] 24 (0, 0))) := ⟨by rw [← hq_]; exact (pB BK124)⟩; have n7_ : Aside0 (w61.heap[gb141]? = some (.cells #[.int .i64 t137, .slice Ao57 t138.length co57] 28 (0, 0))) := ⟨by rw [← hq_]; exact (pB BK141)⟩; have n8_ : Aside0 (Below w.heap.size w w61) := ⟨by rw [← hq_]; exact (pH HB)⟩; clear HO129 HO132 HO135 HO140 HO144 HO147 BK124 BK141 HB hq_; have HO129 := n0_; have HO132 := n1_; have HO135 := n2_; have HO140 := n3_; have HO144 := n4_; have HO147 := n5_; have BK124 := n6_; have BK141 := n7_; have HB := n8_; clear n0_ n1_ n2_ n3_ n4_ n5_ n6_ n7_ n8_))
               (try (have hcz64_0 : w61.cell? ⟨gb124, 0, none⟩ = some (.int .i64 a0_0) := cB BK124 0; have hcz64_1 : w61.cell? ⟨gb124, 1, none⟩ = some (.slice A0_1 l0_1.length c0_1) := cB BK124 1; have hfz64_0 := zB BK124 0; have hfz64_1 := zB BK124 1))
               (try (have hcz65_0 : w61.cell? ⟨gb141, 0, none⟩ = some (.int .i64 t137) := cB BK141 0; have hcz65_1 : w61.cell? ⟨gb141, 1, none⟩ = some (.slice Ao57 t138.length co57) := cB BK141 1; have hfz65_0 := zB BK141 0; have hfz65_1 := zB BK141 1))
               replace HO129 := Aside0.mk (Kd.R_drew HO129.out)
               replace HO132 := Aside0.mk (Kd.R_drew HO132.out)
               replace HO135 := Aside0.mk (Kd.R_drew HO135.out)
               replace HO140 := Aside0.mk (Kd.R_drew HO140.out)
               replace HO144 := Aside0.mk (Kd.R_drew HO144.out)
               replace HO147 := Aside0.mk (Kd.R_drew HO147.out)
               replace BK124 := dB BK124
               replace BK141 := dB BK141
               replace HB := dH HB
               refine st_ 5 (S := fun w' => w'.cell? ⟨gb141, 0, none⟩ = some (.int .i64 t137) ∧ w'.cell? ⟨gb141, 1, none⟩ = some (.slice Ao57 t138.length co57) ∧ w'.cell? ⟨gb124, 0, none⟩ = some (.int .i64 a0_0) ∧ w'.cell? ⟨gb124, 1, none⟩ = some (.slice A0_1 l0_1.length c0_1)) (ds := []) ⟨cB BK141 0, cB BK141 1, cB BK124 0, cB BK124 1⟩ (fun hHeld => ?_)
               generalize w61.drew = w66 at HO129 HO132 HO135 HO140 HO144 HO147 BK124 BK141 HB hHeld ⊢
               refine take_ (i := 0) (N := some 52) (v := ?_) (a' := ?_) (mB 5 1) rfl rfl (by kernel_rfl) (fun _ _ _ h => h) (Or.inl ⟨by rfl, ?_⟩) hHeld ?_ ?_
               rotate_left
               ·rintro w' ⟨s0, s1, s2, s3⟩
                go_simp
                with_reducible rfl
               rotate_left
               ·simp only [Act.put, List.setIfInBounds_toArray, List.set_cons_zero, List.set_cons_succ, i64_w, i32_w]
                rfl
               refine take_ (i := 1) (N := some 53) (v := ?_) (a' := ?_) (mB 5 3) rfl rfl (by kernel_rfl) (fun _ _ _ h => h) (Or.inl ⟨by rfl, ?_⟩) hHeld ?_ ?_
               rotate_left
               ·rintro w' ⟨s0, s1, s2, s3⟩
                go_simp
                with_reducible rfl
               rotate_left
               ·simp only [Act.put, List.setIfInBounds_toArray, List.set_cons_zero, List.set_cons_succ, i64_w, i32_w]
                rfl
               refine one_ (i := 2) (N := some 54) (mB 5 7) rfl rfl (by kernel_rfl) (by decide) (fun K hK => ?_)
               refine ca_ Try.func15 #[.agg #[.int .i64 a0_0, .slice A0_1 l0_1.length c0_1]] ?_
               with_reducible refine (laws_toComplex.calls k a0_0 _ _ l0_1 t150 t151 _ ?side1 ?side2 A19.out).mono ?_
               (case side1 => exact pC ((Kd.C_below HR0_1.out HB.out)))
               (case side2 => exact HC0_1.out)
               rintro e w67 ⟨v152, rfl, ho0, hb⟩
               refine ⟨_, rfl, ?_⟩
               have HO153 := Aside0.mk (Kd.R_lower (Kd.R_new' (Kd.R_new' (Kd.R_new' (Kd.R_new' (Kd.R_new' (Kd.R_new' ho0 (Kd.R_lt (pR HO129))) (Kd.R_lt (pR HO132))) (Kd.R_lt (pR HO135))) (Kd.R_lt (pR HO140))) (Kd.R_lt (pR HO144))) (Kd.R_lt (pR HO147))) (below_size (pH HB)))
               replace HO129 := Aside0.mk (Kd.R_elder' (pR HO129) (Kd.R_base ho0) hb)
               replace HO132 := Aside0.mk (Kd.R_elder' (pR HO132) (Kd.R_base ho0) hb)
               replace HO135 := Aside0.mk (Kd.R_elder' (pR HO135) (Kd.R_base ho0) hb)
               replace HO140 := Aside0.mk (Kd.R_elder' (pR HO140) (Kd.R_base ho0) hb)
               replace HO144 := Aside0.mk (Kd.R_elder' (pR HO144) (Kd.R_base ho0) hb)
               replace HO147 := Aside0.mk (Kd.R_elder' (pR HO147) (Kd.R_base ho0) hb)
               replace BK124 := sB BK124 hb
               replace BK141 := sB BK141 hb
               replace HB := sH HB hb
               (try clear hb)
               (try clear hb2)
               (try clear hk)
               (try clear hi)
               (try clear ho0)
               obtain ⟨Ao68, co68, eo68⟩ := Kd.R_slice HO153.out
               (first | subst eo68 | (injection eo68 with f1_ f2_ f3_; have f4_ := f1_.symm; have f5_ := f3_.symm; clear f1_ f2_ f3_; subst f4_; subst f5_))
               refine hK.out _ _ ⟨cB BK141 0, cB BK141 1, cB BK124 0, cB BK124 1⟩ (fun hHeld => ?_)
               clear hK K
               refine nm_ ?_
               refine one_ (i := 3) (N := some 55) (mB 5 15) rfl rfl (by kernel_rfl) (by decide) (fun K hK => ?_)
               refine ca_ Try.func19 #[.agg #[.int .i64 t137, .slice Ao57 t138.length co57], .agg #[.int .i64 t150, .slice Ao68 t151.length co68]] ?_
               with_reducible refine (laws_eqComplex.calls k t137 _ _ t138 t150 _ _ t151 true _ ?side1 ?side2 ?side3 ?side4 A20.out).mono ?_
               (case side1 => exact pC ((Kd.R_reads' HO140.out).2.2))
               (case side2 => exact (Kd.R_reads' HO140.out).2.1)
               (case side3 => exact pC ((Kd.R_reads' HO153.out).2.2))
               (case side4 => exact (Kd.R_reads' HO153.out).2.1)
               rintro e w69 ⟨rfl, hb⟩
               refine ⟨_, rfl, ?_⟩
               replace HO129 := sR HO129 hb
               replace HO132 := sR HO132 hb
               replace HO135 := sR HO135 hb
               replace HO140 := sR HO140 hb
               replace HO144 := sR HO144 hb
               replace HO147 := sR HO147 hb
               replace HO153 := sR HO153 hb
               replace BK124 := sB BK124 hb
               replace BK141 := sB BK141 hb
               replace HB := sH HB hb
               (try clear hb)
               (try clear hb2)
               (try clear hk)
               (try clear hi)
               refine hK.out _ _ ⟨cB BK141 0, cB BK141 1, cB BK124 0, cB BK124 1⟩ (fun hHeld => ?_)
               clear hK K
               refine nm_ ?_
               refine pure_ (i := 4) (N := some 56) (v := ?_) (a' := ?_) (mB 5 31) rfl rfl (by kernel_rfl) (fun _ _ _ h => h) (Or.inl ⟨by rfl, ?_⟩) ?_ ?_
               rotate_left
               ·intro w'
                go_simp
                with_reducible rfl
               rotate_left
               ·simp only [Act.put, List.setIfInBounds_toArray, List.set_cons_zero, List.set_cons_succ, i64_w, i32_w]
                rfl
               refine done_ (by kernel_rfl) ?_
               try go_wp2_with (first | ((with_reducible refine gate_callee (f := 16) rfl ?_); refine cl_ (some 59) Try.func16 #[.slice A1 l1.length c1] ?_; (with_reducible refine (laws_toInt64S.calls k _ _ l1 t155 _ ?side1 ?side2 A22.out).mono ?_); (case side1 => exact pC ((Kd.C_below HR1.out HB.out))); (case side2 => exact HC1.out); rintro e w70 ⟨v156, rfl, ho0, hb⟩; refine ⟨_, rfl, ?_⟩; have HO157 := Aside0.mk (Kd.R_lower (Kd.R_new' (Kd.R_new' (Kd.R_new' (Kd.R_new' (Kd.R_new' (Kd.R_new' (Kd.R_new' ho0 (Kd.R_lt (pR HO129))) (Kd.R_lt (pR HO132))) (Kd.R_lt (pR HO135))) (Kd.R_lt (pR HO140))) (Kd.R_lt (pR HO144))) (Kd.R_lt (pR HO147))) (Kd.R_lt (pR HO153))) (below_size (pH HB))); replace HO129 := Aside0.mk (Kd.R_elder' (pR HO129) (Kd.R_base ho0) hb); replace HO132 := Aside0.mk (Kd.R_elder' (pR HO132) (Kd.R_base ho0) hb); replace HO135 := Aside0.mk (Kd.R_elder' (pR HO135) (Kd.R_base ho0) hb); replace HO140 := Aside0.mk (Kd.R_elder' (pR HO140) (Kd.R_base ho0) hb); replace HO144 := Aside0.mk (Kd.R_elder' (pR HO144) (Kd.R_base ho0) hb); replace HO147 := Aside0.mk (Kd.R_elder' (pR HO147) (Kd.R_base ho0) hb); replace HO153 := Aside0.mk (Kd.R_elder' (pR HO153) (Kd.R_base ho0) hb); replace BK124 := sB BK124 hb; replace BK141 := sB BK141 hb; replace HB := sH HB hb; (try clear hb); (try clear hi); (try clear ho0); have nD_ := Aside0.mk (Kd.R_mono (ok' := fun k_ => some k_ ≠ (.slice Ao57 t138.length co57 : Value).ownBlock ∧ some k_ ≠ (.slice Ao60 t142.length co60 : Value).ownBlock ∧ some k_ ≠ (.slice Ao62 t145.length co62 : Value).ownBlock ∧ some k_ ≠ (v156 : Value).ownBlock) HO135.out (fun k_ hk => ⟨hk.1.1.2.2.1, ⟨hk.1.1.2.2.2.1, ⟨hk.1.1.2.2.2.2, hk.2⟩⟩⟩)); clear HO135; have HO135 := nD_; clear nD_; have nD_ := Aside0.mk (Kd.R_mono (ok' := fun k_ => some k_ ≠ (.slice Ao63 t133.length co63 : Value).ownBlock ∧ some k_ ≠ (.slice Ao60 t142.length co60 : Value).ownBlock ∧ some k_ ≠ (.slice Ao62 t145.length co62 : Value).ownBlock ∧ some k_ ≠ (v156 : Value).ownBlock) HO140.out (fun k_ hk => ⟨hk.1.1.2.2.1, ⟨hk.1.1.2.2.2.1, ⟨hk.1.1.2.2.2.2, hk.2⟩⟩⟩)); clear HO140; have HO140 := nD_; clear nD_; have nD_ := Aside0.mk (Kd.R_mono (ok' := fun k_ => some k_ ≠ (.slice Ao63 t133.length co63 : Value).ownBlock ∧ some k_ ≠ (.slice Ao57 t138.length co57 : Value).ownBlock ∧ some k_ ≠ (.slice Ao62 t145.length co62 : Value).ownBlock ∧ some k_ ≠ (v156 : Value).ownBlock) HO144.out (fun k_ hk => ⟨hk.1.1.2.2.1, ⟨hk.1.1.2.2.2.1, ⟨hk.1.1.2.2.2.2, hk.2⟩⟩⟩)); clear HO144; have HO144 := nD_; clear nD_; have nD_ := Aside0.mk (Kd.R_mono (ok' := fun k_ => some k_ ≠ (.slice Ao63 t133.length co63 : Value).ownBlock ∧ some k_ ≠ (.slice Ao57 t138.length co57 : Value).ownBlock ∧ some k_ ≠ (.slice Ao60 t142.length co60 : Value).ownBlock ∧ some k_ ≠ (v156 : Value).ownBlock) HO147.out (fun k_ hk => ⟨hk.1.1.2.2.1, ⟨hk.1.1.2.2.2.1, ⟨hk.1.1.2.2.2.2, hk.2⟩⟩⟩)); clear HO147; have HO147 := nD_; clear nD_; have nD_ := Aside0.mk (Kd.R_mono (ok' := fun k_ => some k_ ≠ (.slice Ao63 t133.length co63 : Value).ownBlock ∧ some k_ ≠ (.slice Ao57 t138.length co57 : Value).ownBlock ∧ some k_ ≠ (.slice Ao60 t142.length co60 : Value).ownBlock ∧ some k_ ≠ (.slice Ao62 t145.length co62 : Value).ownBlock) HO157.out (fun k_ hk => ⟨hk.1.1.1.1.2, ⟨hk.1.1.1.2, ⟨hk.1.1.2, hk.1.2⟩⟩⟩)); clear HO157; have HO157 := nD_; clear nD_; clear HO129 HO132 HO153; obtain ⟨Ao71, co71, eo71⟩ := Kd.R_slice HO157.out; subst eo71) | ((with_reducible refine gate_callee (f := 18) rfl ?_); refine cl_ (some 60) Try.func18 #[.slice Ao60 t142.length co60, .slice Ao71 t155.length co71] ?_; (with_reducible refine (laws_eqInt64S.calls k _ _ t142 _ _ t155 true _ ?side1 ?side2 ?side3 ?side4 A23.out).mono ?_); (case side1 => exact pC ((Kd.R_reads' HO144.out).2.2)); (case side2 => exact (Kd.R_reads' HO144.out).2.1); (case side3 => exact pC ((Kd.R_reads' HO157.out).2.2)); (case side4 => exact (Kd.R_reads' HO157.out).2.1); rintro e w' ⟨rfl, ⟨nd, rfl⟩⟩; refine ⟨_, rfl, ?_⟩; have hcz72_0 : w70.cell? ⟨gb141, 0, none⟩ = some (.int .i64 t137) := cB BK141 0; have hcz72_1 : w70.cell? ⟨gb141, 1, none⟩ = some (.slice Ao57 t138.length co57) := cB BK141 1; have hfz72_0 := zB BK141 0; have hfz72_1 := zB BK141 1) | ((with_reducible refine gate_callee (f := 20) rfl ?_); refine cl_ (some 64) Try.func20 #[.agg #[.int .i64 t137, .slice Ao57 t138.length co57], .int .i64 1] ?_; (with_reducible refine (laws_markComplex.calls k t137 (fun k_ => some k_ = (.slice Ao57 t138.length co57 : Value).ownBlock) (.slice Ao57 t138.length co57) t138 1 t159 t160 w _ ?side1 ?side2 A25.out).mono ?_); (case side1 => repeat (first | (with_reducible first | exact HB.out | apply below_alloc | apply pw_below_drewN | apply below_drew1 | refine below_set ?_ GE124.out | refine below_set ?_ GE141.out) | exact HB.out)); (case side2 => exact Kd.R_tight rfl HO140.out); rintro e w73 ⟨rfl, hy0, hb, hkp⟩; refine ⟨_, rfl, ?_⟩; replace BK124 := Aside0.mk (blk_kept (pB BK124) hkp (fun hs_ => (fun e_ => (Kd.R_ne HO140.out BK124.out (by decide)) e_) hs_)); replace HO135 := Aside0.mk (Kd.R_mono (ok' := fun k_ => some k_ ≠ (.slice Ao57 t138.length co57 : Value).ownBlock ∧ some k_ ≠ (.slice Ao60 t142.length co60 : Value).ownBlock ∧ some k_ ≠ (.slice Ao62 t145.length co62 : Value).ownBlock ∧ some k_ ≠ (.slice Ao71 t155.length co71 : Value).ownBlock) (Kd.R_keptB (HO135.out) hkp (fun k_ hk_ hs_ => (hk_.1) hs_)) (fun k_ hk_ => ⟨hk_.1.1, hk_.1.2.1, hk_.1.2.2.1, hk_.1.2.2.2⟩)); replace BK141 := Aside0.mk (blk_kept (pB BK141) hkp (fun hs_ => (fun e_ => (Kd.R_ne HO140.out BK141.out (by decide)) e_) hs_)); replace HO140 := Aside0.mk (Kd.R_reok rfl hy0 (fun k_ e_ => HO140.out.1 k_ e_)); replace HO144 := Aside0.mk (Kd.R_mono (ok' := fun k_ => some k_ ≠ (.slice Ao63 t133.length co63 : Value).ownBlock ∧ some k_ ≠ (.slice Ao57 t138.length co57 : Value).ownBlock ∧ some k_ ≠ (.slice Ao62 t145.length co62 : Value).ownBlock ∧ some k_ ≠ (.slice Ao71 t155.length co71 : Value).ownBlock) (Kd.R_keptB (HO144.out) hkp (fun k_ hk_ hs_ => (hk_.2.1) hs_)) (fun k_ hk_ => ⟨hk_.1.1, hk_.1.2.1, hk_.1.2.2.1, hk_.1.2.2.2⟩)); replace HO147 := Aside0.mk (Kd.R_mono (ok' := fun k_ => some k_ ≠ (.slice Ao63 t133.length co63 : Value).ownBlock ∧ some k_ ≠ (.slice Ao57 t138.length co57 : Value).ownBlock ∧ some k_ ≠ (.slice Ao60 t142.length co60 : Value).ownBlock ∧ some k_ ≠ (.slice Ao71 t155.length co71 : Value).ownBlock) (Kd.R_keptB (HO147.out) hkp (fun k_ hk_ hs_ => (hk_.2.1) hs_)) (fun k_ hk_ => ⟨hk_.1.1, hk_.1.2.1, hk_.1.2.2.1, hk_.1.2.2.2⟩)); replace HO157 := Aside0.mk (Kd.R_mono (ok' := fun k_ => some k_ ≠ (.slice Ao63 t133.length co63 : Value).ownBlock ∧ some k_ ≠ (.slice Ao57 t138.length co57 : Value).ownBlock ∧ some k_ ≠ (.slice Ao60 t142.length co60 : Value).ownBlock ∧ some k_ ≠ (.slice Ao62 t145.length co62 : Value).ownBlock) (Kd.R_keptB (HO157.out) hkp (fun k_ hk_ hs_ => (hk_.2.1) hs_)) (fun k_ hk_ => ⟨hk_.1.1, hk_.1.2.1, hk_.1.2.2.1, hk_.1.2.2.2⟩)); replace HB := Aside0.mk (hb); (try clear hb); (try clear hkp); (try clear hy0); have nD_ := Aside0.mk (Kd.R_mono (ok' := fun k_ => some k_ ≠ (.slice Ao57 t138.length co57 : Value).ownBlock ∧ some k_ ≠ (.slice Ao60 t142.length co60 : Value).ownBlock ∧ some k_ ≠ (.slice Ao62 t145.length co62 : Value).ownBlock) HO135.out (fun k_ hk => ⟨hk.1, ⟨hk.2.1, hk.2.2.1⟩⟩)); clear HO135; have HO135 := nD_; clear nD_; have nD_ := Aside0.mk (Kd.R_mono (ok' := fun k_ => some k_ ≠ (.slice Ao63 t133.length co63 : Value).ownBlock ∧ some k_ ≠ (.slice Ao60 t142.length co60 : Value).ownBlock ∧ some k_ ≠ (.slice Ao62 t145.length co62 : Value).ownBlock) HO140.out (fun k_ hk => ⟨hk.1, ⟨hk.2.1, hk.2.2.1⟩⟩)); clear HO140; have HO140 := nD_; clear nD_; have nD_ := Aside0.mk (Kd.R_mono (ok' := fun k_ => some k_ ≠ (.slice Ao63 t133.length co63 : Value).ownBlock ∧ some k_ ≠ (.slice Ao57 t138.length co57 : Value).ownBlock ∧ some k_ ≠ (.slice Ao62 t145.length co62 : Value).ownBlock) HO144.out (fun k_ hk => ⟨hk.1, ⟨hk.2.1, hk.2.2.1⟩⟩)); clear HO144; have HO144 := nD_; clear nD_; have nD_ := Aside0.mk (Kd.R_mono (ok' := fun k_ => some k_ ≠ (.slice Ao63 t133.length co63 : Value).ownBlock ∧ some k_ ≠ (.slice Ao57 t138.length co57 : Value).ownBlock ∧ some k_ ≠ (.slice Ao60 t142.length co60 : Value).ownBlock) HO147.out (fun k_ hk => ⟨hk.1, ⟨hk.2.1, hk.2.2.1⟩⟩)); clear HO147; have HO147 := nD_; clear nD_; clear HO157) | ((with_reducible refine gate_callee (f := 21) rfl ?_); refine cl_ (some 67) Try.func21 #[.slice Ao60 t142.length co60, .int .i64 t159] ?_; (with_reducible refine (laws_markInt64S.calls k (fun k_ => some k_ = (.slice Ao60 t142.length co60 : Value).ownBlock) (.slice Ao60 t142.length co60) t142 t159 t161 t162 w _ ?side1 ?side2 A26.out).mono ?_); (case side1 => repeat (first | (with_reducible first | exact HB.out | apply below_alloc | apply pw_below_drewN | apply below_drew1 | refine below_set ?_ GE124.out | refine below_set ?_ GE141.out) | exact HB.out)); (case side2 => exact Kd.R_tight rfl HO144.out); rintro e w74 ⟨rfl, hy0, hb, hkp⟩; refine ⟨_, rfl, ?_⟩; replace BK124 := Aside0.mk (blk_kept (pB BK124) hkp (fun hs_ => (fun e_ => (Kd.R_ne HO144.out BK124.out (by decide)) e_) hs_)); replace HO135 := Aside0.mk (Kd.R_mono (ok' := fun k_ => some k_ ≠ (.slice Ao57 t138.length co57 : Value).ownBlock ∧ some k_ ≠ (.slice Ao60 t142.length co60 : Value).ownBlock ∧ some k_ ≠ (.slice Ao62 t145.length co62 : Value).ownBlock) (Kd.R_keptB (HO135.out) hkp (fun k_ hk_ hs_ => (hk_.2.1) hs_)) (fun k_ hk_ => ⟨hk_.1.1, hk_.1.2.1, hk_.1.2.2⟩)); replace HO140 := Aside0.mk (Kd.R_mono (ok' := fun k_ => some k_ ≠ (.slice Ao63 t133.length co63 : Value).ownBlock ∧ some k_ ≠ (.slice Ao60 t142.length co60 : Value).ownBlock ∧ some k_ ≠ (.slice Ao62 t145.length co62 : Value).ownBlock) (Kd.R_keptB (HO140.out) hkp (fun k_ hk_ hs_ => (hk_.2.1) hs_)) (fun k_ hk_ => ⟨hk_.1.1, hk_.1.2.1, hk_.1.2.2⟩)); replace BK141 := Aside0.mk (blk_kept (pB BK141) hkp (fun hs_ => (fun e_ => (Kd.R_ne HO144.out BK141.out (by decide)) e_) hs_)); replace HO144 := Aside0.mk (Kd.R_reok rfl hy0 (fun k_ e_ => HO144.out.1 k_ e_)); replace HO147 := Aside0.mk (Kd.R_mono (ok' := fun k_ => some k_ ≠ (.slice Ao63 t133.length co63 : Value).ownBlock ∧ some k_ ≠ (.slice Ao57 t138.length co57 : Value).ownBlock ∧ some k_ ≠ (.slice Ao60 t142.length co60 : Value).ownBlock) (Kd.R_keptB (HO147.out) hkp (fun k_ hk_ hs_ => (hk_.2.2) hs_)) (fun k_ hk_ => ⟨hk_.1.1, hk_.1.2.1, hk_.1.2.2⟩)); replace HB := Aside0.mk (hb); (try clear hb); (try clear hkp); (try clear hy0); have nD_ := Aside0.mk (Kd.R_mono (ok' := fun k_ => some k_ ≠ (.slice Ao57 t138.length co57 : Value).ownBlock ∧ some k_ ≠ (.slice Ao62 t145.length co62 : Value).ownBlock) HO135.out (fun k_ hk => ⟨hk.1, hk.2.2⟩)); clear HO135; have HO135 := nD_; clear nD_; have nD_ := Aside0.mk (Kd.R_mono (ok' := fun k_ => some k_ ≠ (.slice Ao63 t133.length co63 : Value).ownBlock ∧ some k_ ≠ (.slice Ao62 t145.length co62 : Value).ownBlock) HO140.out (fun k_ hk => ⟨hk.1, hk.2.2⟩)); clear HO140; have HO140 := nD_; clear nD_; have nD_ := Aside0.mk (Kd.R_mono (ok' := fun k_ => some k_ ≠ (.slice Ao63 t133.length co63 : Value).ownBlock ∧ some k_ ≠ (.slice Ao57 t138.length co57 : Value).ownBlock) HO147.out (fun k_ hk => ⟨hk.1, hk.2.1⟩)); clear HO147; have HO147 := nD_; clear nD_; clear HO144) | (go_at_call 18; (with_reducible refine (laws_eqInt64S.calls k _ _ t145 _ _ t133 true _ ?side1 ?side2 ?side3 ?side4 A28.out).mono ?_); (case side1 => exact pC ((Kd.R_reads' HO147.out).2.2)); (case side2 => exact (Kd.R_reads' HO147.out).2.1); (case side3 => exact pC ((Kd.R_reads' HO135.out).2.2)); (case side4 => exact (Kd.R_reads' HO135.out).2.1); rintro e w' ⟨rfl, ⟨nd, rfl⟩⟩) | ((with_reducible refine gate_callee (f := 21) rfl ?_); refine cl_ (some 83) Try.func21 #[.slice Ao62 t145.length co62, .int .i64 1] ?_; (with_reducible refine (laws_markInt64S.calls k (fun k_ => some k_ = (.slice Ao62 t145.length co62 : Value).ownBlock) (.slice Ao62 t145.length co62) t145 1 t164 t165 w _ ?side1 ?side2 A30.out).mono ?_); (case side1 => repeat (first | (with_reducible first | exact HB.out | apply below_alloc | apply pw_below_drewN | apply below_drew1 | refine below_set ?_ GE124.out | refine below_set ?_ GE141.out) | exact HB.out)); (case side2 => exact Kd.R_tight rfl HO147.out); rintro e w75 ⟨rfl, hy0, hb, hkp⟩; refine ⟨_, rfl, ?_⟩; replace BK124 := Aside0.mk (blk_kept (pB BK124) hkp (fun hs_ => (fun e_ => (Kd.R_ne HO147.out BK124.out (by decide)) e_) hs_)); replace HO135 := Aside0.mk (Kd.R_mono (ok' := fun k_ => some k_ ≠ (.slice Ao57 t138.length co57 : Value).ownBlock ∧ some k_ ≠ (.slice Ao62 t145.length co62 : Value).ownBlock) (Kd.R_keptB (HO135.out) hkp (fun k_ hk_ hs_ => (hk_.2) hs_)) (fun k_ hk_ => ⟨hk_.1.1, hk_.1.2⟩)); replace HO140 := Aside0.mk (Kd.R_mono (ok' := fun k_ => some k_ ≠ (.slice Ao63 t133.length co63 : Value).ownBlock ∧ some k_ ≠ (.slice Ao62 t145.length co62 : Value).ownBlock) (Kd.R_keptB (HO140.out) hkp (fun k_ hk_ hs_ => (hk_.2) hs_)) (fun k_ hk_ => ⟨hk_.1.1, hk_.1.2⟩)); replace BK141 := Aside0.mk (blk_kept (pB BK141) hkp (fun hs_ => (fun e_ => (Kd.R_ne HO147.out BK141.out (by decide)) e_) hs_)); replace HO147 := Aside0.mk (Kd.R_reok rfl hy0 (fun k_ e_ => HO147.out.1 k_ e_)); replace HB := Aside0.mk (hb); (try clear hb); (try clear hkp); (try clear hy0)) | ((with_reducible refine gate_callee (f := 22) rfl ?_); refine cl_ (some 86) Try.func22 #[.slice Ao62 t165.length co62, .int .i64 1] (hargs := by (try simp only [List.map_toArray, List.map_cons, List.map_nil]); first | done | (rw [show t165.length = t145.length from (Kd.R_reads' HO147.out).1.symm] <;> rfl) | rfl | (simp only [List.length_drop, List.length_take]; rfl)) ?_; (with_reducible refine (laws_heldInt64S.calls k _ _ t165 1 t166 _ ?side1 ?side2 A31.out).mono ?_); (case side1 => exact pC ((Kd.R_reads' HO147.out).2.2)); (case side2 => rw [show t165.length = t145.length from (Kd.R_reads' HO147.out).1.symm]; exact (Kd.R_reads' HO147.out).2.1); rintro e w' ⟨rfl, ⟨nd, rfl⟩⟩; refine ⟨_, rfl, ?_⟩; have hcz76_0 : w75.cell? ⟨gb124, 0, none⟩ = some (.int .i64 a0_0) := cB BK124 0; have hcz76_1 : w75.cell? ⟨gb124, 1, none⟩ = some (.slice A0_1 l0_1.length c0_1) := cB BK124 1; have hfz76_0 := zB BK124 0; have hfz76_1 := zB BK124 1) | ((with_reducible refine gate_callee (f := 15) rfl ?_); refine cl_ (some 94) Try.func15 #[.agg #[.int .i64 a0_0, .slice A0_1 l0_1.length c0_1]] ?_; (with_reducible refine (laws_toComplex.calls k a0_0 _ _ l0_1 t167 t168 _ ?side1 ?side2 A34.out).mono ?_); (case side1 => exact pC ((Kd.C_below HR0_1.out (pH HB)))); (case side2 => exact HC0_1.out); rintro e w77 ⟨v169, rfl, ho0, hb⟩; refine ⟨_, rfl, ?_⟩; have HO170 := Aside0.mk (Kd.R_lower (Kd.R_new' (Kd.R_new' (Kd.R_new' ho0 (Kd.R_lt (pR HO135))) (Kd.R_lt (pR HO140))) (Kd.R_lt (pR HO147))) (below_size (pH HB))); replace HO135 := Aside0.mk (Kd.R_elder' (pR HO135) (Kd.R_base ho0) hb); replace HO140 := Aside0.mk (Kd.R_elder' (pR HO140) (Kd.R_base ho0) hb); replace HO147 := Aside0.mk (Kd.R_elder' (pR HO147) (Kd.R_base ho0) hb); replace BK124 := sB BK124 hb; replace BK141 := sB BK141 hb; replace HB := sH HB hb; (try clear hb); (try clear hi); (try clear ho0)) | ((with_reducible refine gate_callee (f := 16) rfl ?_); refine cl_ (some 96) Try.func16 #[.slice A1 l1.length c1] ?_; (with_reducible refine (laws_toInt64S.calls k _ _ l1 t171 _ ?side1 ?side2 A35.out).mono ?_); (case side1 => exact pC ((Kd.C_below HR1.out HB.out))); (case side2 => exact HC1.out); rintro e w78 ⟨v172, rfl, ho0, hb⟩; refine ⟨_, rfl, ?_⟩; have HO173 := Aside0.mk (Kd.R_lower (Kd.R_new' (Kd.R_new' (Kd.R_new' (Kd.R_new' ho0 (Kd.R_lt (pR HO135))) (Kd.R_lt (pR HO140))) (Kd.R_lt (pR HO147))) (Kd.R_lt (pR HO170))) (below_size (pH HB))); replace HO135 := Aside0.mk (Kd.R_elder' (pR HO135) (Kd.R_base ho0) hb); replace HO140 := Aside0.mk (Kd.R_elder' (pR HO140) (Kd.R_base ho0) hb); replace HO147 := Aside0.mk (Kd.R_elder' (pR HO147) (Kd.R_base ho0) hb); replace HO170 := Aside0.mk (Kd.R_elder' (pR HO170) (Kd.R_base ho0) hb); replace BK124 := sB BK124 hb; replace BK141 := sB BK141 hb; replace HB := sH HB hb; (try clear hb); (try clear hi); (try clear ho0); obtain ⟨Ao79, co79, eo79⟩ := Kd.R_slice HO170.out; subst eo79; obtain ⟨Ao80, co80, eo80⟩ := Kd.R_slice HO173.out; subst eo80) | ((with_reducible refine gate_callee (f := 17) rfl ?_); refine cl_ (some 97) Try.func17 #[.agg #[.int .i64 t167, .slice Ao79 t168.length co79], .slice Ao80 t171.length co80] ?_; (with_reducible refine (impl_InequalitiesFor.calls t167 _ _ t168 _ _ t171 t174 t177 _ ?side1 ?side2 ?side3 ?side4 A36.out).mono ?_); (case side1 => exact pC ((Kd.R_reads' HO170.out).2.2)); (case side2 => exact (Kd.R_reads' HO170.out).2.1); (case side3 => exact pC ((Kd.R_reads' HO173.out).2.2)); (case side4 => exact (Kd.R_reads' HO173.out).2.1); rintro e w81 ⟨v175, rfl, ho0, hb⟩; refine ⟨_, rfl, ?_⟩; have HO176 := Aside0.mk (Kd.R_lower (Kd.R_new' (Kd.R_new' (Kd.R_new' (Kd.R_new' (Kd.R_new' ho0 (Kd.R_lt (pR HO135))) (Kd.R_lt (pR HO140))) (Kd.R_lt (pR HO147))) (Kd.R_lt (pR HO170))) (Kd.R_lt (pR HO173))) (below_size (pH HB))); replace HO135 := Aside0.mk (Kd.R_elder' (pR HO135) (Kd.R_base ho0) hb); replace HO140 := Aside0.mk (Kd.R_elder' (pR HO140) (Kd.R_base ho0) hb); replace HO147 := Aside0.mk (Kd.R_elder' (pR HO147) (Kd.R_base ho0) hb); replace HO170 := Aside0.mk (Kd.R_elder' (pR HO170) (Kd.R_base ho0) hb); replace HO173 := Aside0.mk (Kd.R_elder' (pR HO173) (Kd.R_base ho0) hb); replace BK124 := sB BK124 hb; replace BK141 := sB BK141 hb; replace HB := sH HB hb; (try clear hb); (try clear hi); (try clear ho0); have nD_ := Aside0.mk (Kd.R_mono (ok' := fun k_ => some k_ ≠ (.slice Ao57 t138.length co57 : Value).ownBlock ∧ some k_ ≠ (.slice Ao62 t145.length co62 : Value).ownBlock ∧ some k_ ≠ (v175 : Value).ownBlock) HO135.out (fun k_ hk => ⟨hk.1.1.1.1, ⟨hk.1.1.1.2, hk.2⟩⟩)); clear HO135; have HO135 := nD_; clear nD_; have nD_ := Aside0.mk (Kd.R_mono (ok' := fun k_ => some k_ ≠ (.slice Ao63 t133.length co63 : Value).ownBlock ∧ some k_ ≠ (.slice Ao62 t145.length co62 : Value).ownBlock ∧ some k_ ≠ (v175 : Value).ownBlock) HO140.out (fun k_ hk => ⟨hk.1.1.1.1, ⟨hk.1.1.1.2, hk.2⟩⟩)); clear HO140; have HO140 := nD_; clear nD_; have nD_ := Aside0.mk (Kd.R_mono (ok' := fun k_ => some k_ ≠ (.slice Ao63 t133.length co63 : Value).ownBlock ∧ some k_ ≠ (.slice Ao57 t138.length co57 : Value).ownBlock ∧ some k_ ≠ (v175 : Value).ownBlock) HO147.out (fun k_ hk => ⟨hk.1.1.1.1, ⟨hk.1.1.1.2, hk.2⟩⟩)); clear HO147; have HO147 := nD_; clear nD_; have nD_ := Aside0.mk (Kd.R_mono (ok' := fun k_ => some k_ ≠ (.slice Ao63 t133.length co63 : Value).ownBlock ∧ some k_ ≠ (.slice Ao57 t138.length co57 : Value).ownBlock ∧ some k_ ≠ (.slice Ao62 t145.length co62 : Value).ownBlock) HO176.out (fun k_ hk => ⟨hk.1.1.1.1.2, ⟨hk.1.1.1.2, hk.1.1.2⟩⟩)); clear HO176; have HO176 := nD_; clear nD_; clear HO170 HO173; obtain ⟨Ao82, co82, eo82⟩ := Kd.R_slice HO176.out; subst eo82) | ((with_reducible refine gate_callee (f := 18) rfl ?_); refine cl_ (some 102) Try.func18 #[.slice Ao82 t174.length co82, .slice Ao63 t133.length co63] ?_; (with_reducible refine (laws_eqInt64S.calls k _ _ t174 _ _ t133 true _ ?side1 ?side2 ?side3 ?side4 A37.out).mono ?_); (case side1 => exact pC ((Kd.R_reads' HO176.out).2.2)); (case side2 => exact (Kd.R_reads' HO176.out).2.1); (case side3 => exact pC ((Kd.R_reads' HO135.out).2.2)); (case side4 => exact (Kd.R_reads' HO135.out).2.1); rintro e w' ⟨rfl, ⟨nd, rfl⟩⟩; refine ⟨_, rfl, ?_⟩) | ((with_reducible refine gate_callee (f := 22) rfl ?_); refine cl_ (some 111) Try.func22 #[.slice Ao62 t165.length co62, .int .i64 1] (hargs := by (try simp only [List.map_toArray, List.map_cons, List.map_nil]); first | done | (rw [show t165.length = t145.length from (Kd.R_reads' HO147.out).1.symm] <;> rfl) | rfl | (simp only [List.length_drop, List.length_take]; rfl)) ?_; (with_reducible refine (laws_heldInt64S.calls k _ _ t165 1 t179 _ ?side1 ?side2 A40.out).mono ?_); (case side1 => exact pC ((Kd.R_reads' HO147.out).2.2)); (case side2 => rw [show t165.length = t145.length from (Kd.R_reads' HO147.out).1.symm]; exact (Kd.R_reads' HO147.out).2.1); rintro e w' ⟨rfl, ⟨nd, rfl⟩⟩; refine ⟨_, rfl, ?_⟩))
               go_ret
               exact ⟨by first | rfl | (simp [errW_none, errW_some] <;> rfl) | (simp [*, errW_none, errW_some] <;> rfl) | (exfalso; simp_all), pH HB⟩
              ·rw [if_neg c42] at H
               exact absurd H (by simp)
            ·rw [if_neg c39] at H
             exact absurd H (by simp)
           ·replace c38 := Bool.eq_false_iff.mpr c38
            subst c38
            have H1 : (none) = some r := by rw [if_neg (show ¬ (false = true) by decide)] at H; exact H
            clear H
            have H := H1
            clear H1
            exact absurd H (by simp)
          ·rw [if_neg c33] at H
           exact absurd H (by simp)
        ·replace c29 := Bool.eq_false_iff.mpr c29
         subst c29
         have H1 : (none) = some r := by rw [if_neg (show ¬ (false = true) by decide)] at H; exact H
         clear H
         have H := H1
         clear H1
         exact absurd H (by simp)
      ·replace c24 := Bool.eq_false_iff.mpr c24
       subst c24
       have H1 : (none) = some r := by rw [if_neg (show ¬ (false = true) by decide)] at H; exact H
       clear H
       have H := H1
       clear H1
       exact absurd H (by simp)
     ·replace c21 := Bool.eq_false_iff.mpr c21
      subst c21
      have H1 : (none) = some r := by rw [if_neg (show ¬ (false = true) by decide)] at H; exact H
      clear H
      have H := H1
      clear H1
      exact absurd H (by simp)
    ·rw [if_neg c18] at H
     exact absurd H (by simp)
   ·replace c17 := Bool.eq_false_iff.mpr c17
    subst c17
    have H1 : (none) = some r := by rw [if_neg (show ¬ (false = true) by decide)] at H; exact H
    clear H
    have H := H1
    clear H1
    exact absurd H (by simp)
end Go.Proofs.Ytomdfjohnmikdaa.QFnExactInequalitiesFor
namespace Go.Proofs.Ytomdfjohnmikdaa.Pu
set_option linter.unusedVariables false
set_option linter.unusedSimpArgs false
open Go.RowKit Go.Proofs.Ytomdfjohnmikdaa.Ext Go.Proofs.Ytomdfjohnmikdaa.QS Go.Proofs.Ytomdfjohnmikdaa.Im Go.Proofs.Ytomdfjohnmikdaa.QFnExactInequalitiesFor Go.Proofs.YtomdfjohnmikdaaW.PrintWords Go.Proofs.YtomdfjohnmikdaaW.PrintLast Go.Proofs.YtomdfjohnmikdaaW.PrintMore
theorem fnp_ineq : fnp 58 = Pred.int (fun x => withinB x 0 1000) := by
  unfold fnp
  simp
theorem ineq_clo {n : Int} {xs ys : List Int} (hi : isC n xs = true) (hl : ys.length ≤ 1048576) : QE.clo_54 ys n xs = Pred.nul (decide (ys.length = (bettiL xs).length) && ys.all fun y => withinB y 0 1000) := by
  have hr := dim_rng xs
  have hb := bettiL_len xs
  unfold QE.clo_54 QE.impl_InequalitiesFor_1.f QE.impl_length_int64.f
  have hd : impl_Complex_dimension.f n xs = some (dimL xs) := by unfold impl_Complex_dimension.f; rw [if_pos hi]
  have ha : impl_areAll_int64.f ys (fnp 58) = some (ys.all fun y => withinB y 0 1000) := by
    unfold impl_areAll_int64.f
    rw [fnp_ineq, if_pos ⟨by omega, rfl, rfl⟩]
    rfl
  simp only [hd, ha, Option.bind_some]
  rw [w64 (by omega) (by omega)]
  by_cases h : ys.length = (bettiL xs).length
  · rw [if_pos (by omega), decide_eq_true h, Bool.true_and]
    rfl
  · rw [if_neg (by omega), decide_eq_false h, Bool.false_and]
    rfl
def fl (b : Bool) : Int := if b = true then 1 else 0
theorem flag_f (b : Bool) : QE.impl_flag.f b = some (fl b) := by unfold QE.impl_flag.f fl; cases b <;> rfl
theorem ineq_loop {ys hs : List Int} {D : Nat} (hD : D ≤ 6) (hy : ys.length = D) (hh : hs.length = D) (hyr : ∀ i, i < D → 0 ≤ rd ys i ∧ rd ys i ≤ 1000) (hhr : ∀ i, i < D → -126 ≤ rd hs i ∧ rd hs i ≤ 63) :
    ∀ d (i : Nat) (wk st : Bool) (L R : Int), D - i = d → i ≤ D → fl wk = (iqS ys hs i).1 → fl st = (iqS ys hs i).2.1 → L - R = (iqS ys hs i).2.2 → (-(1126 * (i : Int)) ≤ L ∧ L ≤ 1126 * (i : Int)) → (-(1126 * (i : Int)) ≤ R ∧ R ≤ 1126 * (i : Int)) →
      Ev (fun k => QE.impl_InequalitiesFor.l0 k wk st L R hs (D : Int) (i : Int) ys) (iqL ys hs, 0) := by
  intro d
  induction d with
  | zero =>
    intro i wk st L R hd hil h1 h2 h3 hL hR
    obtain rfl : i = D := by omega
    have : iqL ys hs = [fl wk, fl st, fl (L == R)] := by
      unfold iqL
      rw [hy, ← h1, ← h2, ← h3]
      congr 3
      unfold fl
      by_cases h : L = R
      · subst h; simp
      · rw [if_neg (by omega), if_neg (by simpa using h)]
    rw [this]
    refine Ev.step (f := fun k => some ([fl wk, fl st, fl (L == R)], 0)) (fun k => ?_) (Ev.now _)
    simp only [QE.impl_InequalitiesFor.l0]
    rw [if_neg (by omega)]
    simp only [flag_f, Option.bind_some]
  | succ d ih =>
    intro i wk st L R hd hil h1 h2 h3 hL hR
    have hil' : i < D := by omega
    have hy1 := hyr i hil'
    have hh1 := hhr i hil'
    have e1 : wrap64 (rd ys i - L) = rd ys i - L := w64 (by omega) (by omega)
    have e2 : wrap64 (rd hs i - R) = rd hs i - R := w64 (by omega) (by omega)
    have key := ih (i + 1) (wk && decide (rd ys i ≥ rd hs i)) (st && decide (rd ys i - L ≥ rd hs i - R)) (rd ys i - L) (rd hs i - R) (by omega) (by omega)
      (by
        simp only [iqS, ← h1]
        unfold fl
        by_cases h : rd ys i < rd hs i
        · rw [if_pos h, if_neg (by simp; intro _; omega)]
        · rw [if_neg h]
          cases wk
          · simp
          · rw [if_pos (by simp; omega)]; rfl)
      (by
        simp only [iqS, ← h2, ← h3]
        unfold fl
        by_cases h : rd ys i - rd hs i - (L - R) < 0
        · rw [if_pos h, if_neg (by simp; intro _; omega)]
        · rw [if_neg h]
          cases st
          · simp
          · rw [if_pos (by simp; omega)]; rfl)
      (by simp only [iqS, ← h3]; omega) (by omega) (by omega)
    refine Ev.step (fun k => ?_) key
    simp only [QE.impl_InequalitiesFor.l0]
    rw [if_pos (by omega), if_pos (by omega), if_pos (by omega), if_pos (by omega), e1, e2, show wrap64 ((i : Int) + 1) = ((i + 1 : Nat) : Int) by rw [w64 (by omega) (by omega)]; omega]
    cases wk <;> cases st <;> simp
theorem ineq_prog (n : Int) {xs ys : List Int} (hx : xs.length ≤ 1048576) (hy : ys.length ≤ 1048576) : Ev (fun k => QE.impl_InequalitiesFor.f k n xs ys) (iqF n xs ys) := by
  unfold QE.impl_InequalitiesFor.f iqF
  cases hi : isC n xs with
  | false =>
    have hc : impl_complexCode.f n xs (QE.clo_54 ys n xs) = some 1 := by
      unfold impl_complexCode.f
      rw [hi, if_pos ⟨by omega, fun h => by cases h⟩]
      rfl
    simp only [hc, Option.bind_some, Bool.false_eq_true, if_false, show ((1 : Int) = 0) = False by simp]
    exact Ev.now _
  | true =>
    have hbl : (bettiL xs).length ≤ 6 := by rw [bettiL_len]; have := dim_rng xs; omega
    have hc : impl_complexCode.f n xs (QE.clo_54 ys n xs) = some (if (decide (ys.length = (bettiL xs).length) && ys.all fun y => withinB y 0 1000) = true then 0 else 2) := by
      unfold impl_complexCode.f
      rw [ineq_clo hi hy, hi, if_pos ⟨by omega, fun _ => rfl⟩]
      rfl
    simp only [hc, Option.bind_some, if_true]
    by_cases h1 : ys.length = (bettiL xs).length
    · rw [if_pos h1, decide_eq_true h1, Bool.true_and]
      by_cases h2 : (ys.all fun y => withinB y 0 1000) = true
      · rw [if_pos h2, if_pos h2]
        simp only [if_true]
        refine Ev.bind (ev_bettiE hi) ?_
        have hyr : ∀ i, i < (bettiL xs).length → 0 ≤ rd ys i ∧ rd ys i ≤ 1000 := fun i h => by
          have := List.all_eq_true.1 h2 (ys[i]'(by omega)) (List.getElem_mem _)
          rw [rd_at (by omega)]
          unfold withinB at this
          simpa using this
        have hhr : ∀ i, i < (bettiL xs).length → -126 ≤ rd (bettiL xs) i ∧ rd (bettiL xs) i ≤ 63 := fun i h => by
          rw [rd_at h]
          have : (bettiL xs)[i] = bettiAt xs i := by simp [bettiL]
          rw [this]
          exact betti_rng hi _
        exact ineq_loop (ys := ys) (hs := bettiL xs) hbl h1 rfl hyr hhr _ 0 true true 0 0 rfl (Nat.zero_le _) rfl rfl rfl (by omega) (by omega)
      · rw [if_neg h2, if_neg h2]
        simp only [show ((2 : Int) = 0) = False by simp, if_false]
        exact Ev.now _
    · rw [if_neg h1, decide_eq_false h1, Bool.false_and]
      simp only [Bool.false_eq_true, if_false, show ((2 : Int) = 0) = False by simp]
      exact Ev.now _
theorem iqF_len (n : Int) (xs ys : List Int) : (iqF n xs ys).1.length ≤ 1048576 := by
  unfold iqF
  split
  · split
    · split <;> simp [iqL]
    · simp
  · simp
theorem FnExactInequalitiesFor (n0 : Int) (l0 : List Int) (_ : (Lit.int .i64 n0).wf = true) (hm0 : l0.length ≤ maxLen) (_ : ∀ x ∈ l0, (Lit.int .i64 x).wf = true) (l1 : List Int) (hm1 : l1.length ≤ maxLen) (hw1 : ∀ x ∈ l1, (Lit.int .i64 x).wf = true) : ∃ k, laws_FnExactInequalitiesFor.f k n0 l0 l1 = some true := by
  apply Ev.rounds
  unfold laws_FnExactInequalitiesFor.f
  by_cases hb1 : (l1.length : Int) > 1048576
  · simp only [if_pos hb1]
    exact Ev.now _
  simp only [if_neg hb1]
  by_cases hb0 : (1048576 : Int) < (l0.length : Int)
  · simp only [sz_cx hm0 (show (0 : Int) ≤ (1048576 : Int) by omega) (show (1048576 : Int) ≤ 1048576 by omega), Option.bind_some, if_pos hb0, show ((-1 : Int) < 0) = True by simp, if_true]
    exact Ev.now _
  simp only [sz_cx hm0 (show (0 : Int) ≤ (1048576 : Int) by omega) (show (1048576 : Int) ≤ 1048576 by omega), Option.bind_some, if_neg hb0, if_neg (show ¬ ((1048576 : Int) - (l0.length : Int) < 0) by omega)]
  have hl0 : l0.length ≤ 1048576 := by omega
  have hl1 : l1.length ≤ 1048576 := by omega
  have hS : spec_InequalitiesFor.f n0 l0 l1 = some (iqF n0 l0 l1) := by unfold spec_InequalitiesFor.f; rw [if_pos ⟨hm0, hl1⟩]
  have hI := impl_InequalitiesFor.come n0 l0 l1 (ineq_prog n0 hl0 hl1)
  have hR := iqF_len n0 l0 l1
  generalize iqF n0 l0 l1 = D at hS hI hR
  obtain ⟨r1, r2⟩ := D
  simp only at hR
  have hR0 := hR
  have hca0 : 0 ≤ (1 : Int) ∧ (1 : Int) ≤ 1073741824 := by omega
  have hca1 : 0 ≤ 1 + (l0.length : Int) ∧ 1 + (l0.length : Int) ≤ 1073741824 := by omega
  have hna1 : ¬ (1 + (l0.length : Int) < 0) := by omega
  have hca2 : 0 ≤ 1 + (l0.length : Int) + (l1.length : Int) ∧ 1 + (l0.length : Int) + (l1.length : Int) ≤ 1073741824 := by omega
  have hna2 : ¬ (1 + (l0.length : Int) + (l1.length : Int) < 0) := by omega
  have hco0 : 0 ≤ (1 : Int) ∧ (1 : Int) ≤ 1073741824 := by omega
  have hco1 : 0 ≤ 1 + (r1.length : Int) ∧ 1 + (r1.length : Int) ≤ 1073741824 := by omega
  have hno1 : ¬ (1 + (r1.length : Int) < 0) := by omega
  repeat (first
      | (exact Ev.now _)
      | (refine Ev.bind (ev_toComplex hl0) ?_)
      | (refine Ev.bind (ev_toInt hl1) ?_)
      | (refine Ev.bind (ev_eqInt hR0) ?_)
      | (refine Ev.bind (ev_eqComplex hl0) ?_)
      | (refine Ev.bind (ev_eqInt hl1) ?_)
      | (refine Ev.bind (ev_markComplex hl0 hca0) ?_)
      | (refine Ev.bind (ev_mark hl1 hca1) ?_)
      | (refine Ev.bind (ev_mark hR0 hco0) ?_)
      | (refine Ev.bind (ev_held hR0 hco0) ?_)
      | (simp only [hI, hS, Option.bind_some, if_true, bne_self_eq_false, Bool.false_eq_true, if_false, if_neg hna1, if_neg hna2, if_neg hno1]))
end Go.Proofs.Ytomdfjohnmikdaa.Pu
