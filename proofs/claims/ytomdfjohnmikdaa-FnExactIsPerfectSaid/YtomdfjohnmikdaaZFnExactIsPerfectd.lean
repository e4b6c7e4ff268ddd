/- Words and lemmas for FnExactIsPerfect, part 4: what the row's text comes to. -/
import Derived.Test.YtomdfjohnmikdaaProg
import Derived.Below
import Derived.Deep.Draws
import Derived.Deep.AppendLies
import Derived.Maps.AppendAt
import Derived.OwnWalk
import Derived.Laws.BytesArg
import Derived.Laws.MakeOwn
import Derived.Laws.OwnMore
import Derived.Deep.OwnRows
import Derived.Tactics
import Derived.Lib.ConvBytes
import Derived.Laws.Slices
import Derived.WalkKit
import Derived.KernelRfl
import Derived.RowKit3
import Derived.Deep.LoopGhost
import Derived.Deep.QuietTactic
import Derived.BigQuiet
import Derived.WideLaws
import Derived.Deep.DeepCutAuto
import Derived.Deep.CutBlock
import Derived.Deep.RegionHeld3
import Derived.Laws.Rows
import Derived.Lib.AppendStr
import Derived.ArgAppend
import Derived.Laws.IdiomCopy
import Derived.OrdersHeld
import Derived.Laws.BitsLemmas
import Derived.RowKit
import Derived.Test.YtomdfjohnmikdaaZFnExactIsPerfectc
namespace Go.Proofs.Ytomdfjohnmikdaa.Im
set_option linter.unusedVariables false
set_option linter.unusedSimpArgs false
open Go.RowKit Go.Shelf Go.Proofs.Ytomdfjohnmikdaa.Cw Go.Proofs.Ytomdfjohnmikdaa.Pu Go.Proofs.YtomdfjohnmikdaaW.PrintWords Go.Proofs.YtomdfjohnmikdaaW.PrintLast Go.Proofs.YtomdfjohnmikdaaW.PrintMore
def ofL (xs : List Int) (j : Nat) : List Int := xs.filter fun x => onesZ x == ((j + 1 : Nat) : Int)
def rankS (xs : List Int) (d : Int) : Int := if d < 1 ∨ dimL xs < d then 0 else ((elimAll id (matZ (ofL xs (d.toNat - 1)) (ofL xs d.toNat) bordersL) (ofL xs (d.toNat - 1)).length).2 : Int)
theorem ev_list {α β : Type} {g : α → Nat → Option β} {Q : α → β → Prop} : ∀ l : List α, (∀ x ∈ l, ∃ r, Ev (g x) r ∧ Q x r) → ∃ K, ∀ k, K ≤ k → ∀ x ∈ l, ∃ r, g x k = some r ∧ Q x r
  | [], _ => ⟨0, fun k _ x hx => by cases hx⟩
  | a :: l, h => by
    obtain ⟨K1, h1⟩ := ev_list l (fun x hx => h x (List.mem_cons_of_mem _ hx))
    obtain ⟨r, ⟨K2, h2⟩, hq⟩ := h a (by simp)
    refine ⟨max K1 K2, fun k hk x hx => ?_⟩
    rcases List.mem_cons.1 hx with rfl | hx
    · exact ⟨r, h2 k (by omega), hq⟩
    · exact h1 k (by omega) x hx
theorem ofL_mem {xs : List Int} {j : Nat} {x : Int} (h : x ∈ ofL xs j) : x ∈ xs ∧ onesZ x = ((j + 1 : Nat) : Int) := by
  have := List.mem_filter.1 h
  exact ⟨this.1, eq_of_beq this.2⟩
theorem border_of {n : Int} {xs : List Int} (hi : isC n xs = true) {j : Nat} {f g : Int} (hf : f ∈ ofL xs (j + 1)) (hg : g ∈ bordersL f) : g ∈ ofL xs j := by
  obtain ⟨h1, h2⟩ := ofL_mem hf
  have r := isC_63 hi f h1
  have hc := List.all_eq_true.1 (isC_of hi).2.2 f h1
  have hm := of_decide_eq_true (List.all_eq_true.1 hc g hg)
  have ho := (sig_facts r.1 r.2).2.2 g hg
  refine List.mem_filter.2 ⟨hm, ?_⟩
  rw [beq_iff_eq]
  omega
theorem foldmax_hit (g : Int → Int) : ∀ (l : List Int) (a : Int), l.foldl (fun a x => max a (g x)) a = a ∨ ∃ x ∈ l, g x = l.foldl (fun a x => max a (g x)) a
  | [], a => .inl rfl
  | x :: l, a => by
    rw [List.foldl_cons]
    rcases foldmax_hit g l (max a (g x)) with h | ⟨y, hy, h⟩
    · rw [h]
      rcases Int.le_total a (g x) with h1 | h1
      · rw [Int.max_eq_right h1]
        exact .inr ⟨x, by simp, rfl⟩
      · rw [Int.max_eq_left h1]
        exact .inl rfl
    · exact .inr ⟨y, by simp [hy], h⟩
theorem borders_some : ((List.range 64).all fun f => decide (onesZ (f : Int) ≤ 1) || !(bordersL (f : Int)).isEmpty) = true := by decide +kernel
theorem of_some {n : Int} {xs : List Int} (hi : isC n xs = true) : ∀ (e j : Nat), (j : Int) + e = dimL xs → 0 < (ofL xs j).length
  | 0, j, h => by
    rcases foldmax_hit (fun x => onesZ x - 1) xs (-1) with h1 | ⟨x, hx, h1⟩
    · unfold dimL at h; omega
    · refine List.length_pos_of_mem (a := x) (List.mem_filter.2 ⟨hx, ?_⟩)
      unfold dimL at h
      rw [beq_iff_eq]
      have h2 : onesZ x - 1 = xs.foldl (fun a x => max a (onesZ x - 1)) (-1) := h1
      omega
  | e + 1, j, h => by
    have ih := of_some hi e (j + 1) (by omega)
    obtain ⟨f, hf⟩ := List.exists_mem_of_length_pos ih
    obtain ⟨h1, h2⟩ := ofL_mem hf
    have r := isC_63 hi f h1
    obtain ⟨a, rfl⟩ := Int.eq_ofNat_of_zero_le (show 0 ≤ f by omega)
    have hb := List.all_eq_true.1 borders_some a (List.mem_range.2 (by omega))
    rw [Bool.or_eq_true] at hb
    rcases hb with hb | hb
    · have := of_decide_eq_true hb; omega
    · cases hl : bordersL (a : Int) with
      | nil => rw [hl] at hb; simp at hb
      | cons g gs => exact List.length_pos_of_mem (border_of hi hf (by rw [hl]; simp : g ∈ bordersL (a : Int)))
theorem filter_nodup {xs : List Int} (h : Asc xs) (p : Int → Bool) : (xs.filter p).Nodup := by
  rw [List.nodup_iff_pairwise_ne]
  exact (h.filter p).imp (fun h => Int.ne_of_lt h)
set_option maxRecDepth 100000 in
set_option maxHeartbeats 4000000 in
theorem rankOf_c (n : Int) (A : Option Addr) (c : Nat) (xs : List Int) (d : Int) (w : World) (hr : RC w A xs.length xs) (hc : xs.length ≤ c) (hi : isC n xs = true) :
    Calls Try.prog 105 #[.agg #[.int .i64 n, .slice A xs.length c], .int .i64 d, .int .i64 2] w fun e w' => e = .returned (.int .i64 (rankS xs d)) ∧ Below w.heap.size w w' := by
  have hsm := isC_small hi
  obtain ⟨kd, hkd⟩ := (ev_dimO hi).rounds
  have HX := Aside0.mk (CxAt.new w n A xs.length c)
  have HB := Aside0.mk (below_alloc (Below.refl w.heap.size w) (.cells #[.int .i64 n, .slice A xs.length c] 28))
  have HR := Aside0.mk hr
  have HC := Aside0.mk hc
  have hx0 := HX.out.c0
  have hx1 := HX.out.c1
  clear hr hc
  by_cases h1 : d < 1
  · have HZ : Aside0 (rankS xs d = 0) := ⟨by unfold rankS; rw [if_pos (.inl h1)]⟩
    rw [HZ.out]
    clear hkd
    go_enter Try.func105, Try.ntmps105
    go_wp2
    go_ret
    exact ⟨rfl, HB.out⟩
  · by_cases h2 : dimL xs < d
    · have HZ : Aside0 (rankS xs d = 0) := ⟨by unfold rankS; rw [if_pos (.inr h2)]⟩
      rw [HZ.out]
      have HKD := Aside0.mk hkd
      generalize dimL xs = dm at h2 HKD
      clear hkd
      go_enter Try.func105, Try.ntmps105
      go_wp2_with (go_at_call 103; refine (QS.spec_l01Dim.calls kd n A c xs dm _ (Kd.C_below HR.out HB.out) HC.out HKD.out).mono ?_; rintro e w1 ⟨rfl, hb⟩)
      go_ret
      exact ⟨rfl, below_in HB.out hb⟩
    · obtain ⟨j, rfl⟩ : ∃ j : Nat, d = ((j + 1 : Nat) : Int) := ⟨(d - 1).toNat, by omega⟩
      have hdl : dimL xs ≤ 5 := by
        rcases foldmax_hit (fun x => onesZ x - 1) xs (-1) with h | ⟨x, hx, h⟩
        · unfold dimL; omega
        · have h3 : onesZ x - 1 = xs.foldl (fun a x => max a (onesZ x - 1)) (-1) := h
          have := ones_le x
          unfold dimL; omega
      have HZ : Aside0 (rankS xs ((j + 1 : Nat) : Int) = ((elimAll id (matZ (ofL xs j) (ofL xs (j + 1)) bordersL) (ofL xs j).length).2 : Int)) := ⟨by unfold rankS; rw [if_neg (by omega)]; simp⟩
      rw [HZ.out]
      obtain ⟨K1, hK1⟩ := ev_ofO hi (j + 1) (by omega)
      obtain ⟨K2, hK2⟩ := ev_ofO hi j (by omega)
      have h63 := isC_63 hi
      obtain ⟨K3, hK3⟩ := ev_list (g := fun x k => QS.spec_l01Below.f k x) (Q := fun x r => r = bordersL x) (ofL xs (j + 1)) (fun x hx => ⟨_, ev_below (h63 x (ofL_mem hx).1).1 (h63 x (ofL_mem hx).1).2, rfl⟩)
      obtain ⟨K4, hK4⟩ := ev_list (g := fun x k => QS.spec_l03Signs.f k x) (Q := fun x r => r = sigL x) (ofL xs (j + 1)) (fun x hx => ⟨_, ev_signs (h63 x (ofL_mem hx).1).1 (h63 x (ofL_mem hx).1).2, rfl⟩)
      have hnd : (ofL xs j).Nodup := filter_nodup (ascB_asc (isC_of hi).2.1) _
      have hfl : ∀ q, (ofL xs q).length ≤ xs.length := fun q => List.length_filter_le _ _
      obtain ⟨K5, hK5⟩ := ev_list (g := fun x k => QS.spec_l03Place.f k (ofL xs j) x) (Q := fun x r => ∃ p : Nat, r = (p : Int) ∧ ∃ h : p < (ofL xs j).length, (ofL xs j)[p] = x) (ofL xs j) (fun x hx => by
        obtain ⟨p, hp1, hp2⟩ := ev_place (by have := hfl j; omega) hnd hx
        exact ⟨_, hp1, p, rfl, hp2⟩)
      obtain ⟨k, hk⟩ : ∃ k, K1 ≤ k ∧ K2 ≤ k ∧ K3 ≤ k ∧ K4 ≤ k ∧ K5 ≤ k := ⟨K1 + K2 + K3 + K4 + K5, by omega⟩
      have hF := hK1 k hk.1
      have hC := hK2 k hk.2.1
      have hn1 : 0 < (ofL xs (j + 1)).length := of_some hi (dimL xs - ((j + 1 : Nat) : Int)).toNat (j + 1) (by omega)
      have hn2 : 0 < (ofL xs j).length := of_some hi (dimL xs - (j : Int)).toNat j (by omega)
      have hb2 : Below w.heap.size w (w.alloc (.cells #[.int .i64 n, .slice A xs.length c] 28)) := HB.out
      have hrows := rows2_c k n A c xs ((j + 1 : Nat) : Int) (ofL xs (j + 1)) (ofL xs j) bordersL
      have HROWS : Aside0 (∀ W : World, RC W A xs.length xs → Calls Try.prog 151 #[.agg #[.int .i64 n, .slice A xs.length c], .int .i64 ((j + 1 : Nat) : Int), .int .i64 2] W (RowsPost W (ofL xs j).length (matZ (ofL xs j) (ofL xs (j + 1)) bordersL))) := ⟨fun W hW => hrows W hW HC.out (by omega) hF (by rw [show ((j + 1 : Nat) : Int) - 1 = (j : Int) by omega]; exact hC)
        (fun f hf => by
          obtain ⟨r1, e1, rfl⟩ := hK3 k hk.2.2.1 f hf
          obtain ⟨r2, e2, rfl⟩ := hK4 k hk.2.2.2.1 f hf
          have hsf := sig_facts (h63 f (ofL_mem hf).1).1 (h63 f (ofL_mem hf).1).2
          exact ⟨e1, _, e2, hsf.1, hsf.2.1⟩)
        (fun f hf g hg => by
          obtain ⟨r, e, p, rfl, h⟩ := hK5 k hk.2.2.2.2 g (border_of hi hf hg)
          exact ⟨p, e, h⟩)
        hnd (by have := hfl (j + 1); omega) (by have := hfl j; omega) (fun f hf => by have := borders_len6 (f := f); omega)⟩
      have hML : (matZ (ofL xs j) (ofL xs (j + 1)) bordersL).length = (ofL xs (j + 1)).length := by unfold matZ; simp
      have hMB := matZ_bits (ofL xs j) (ofL xs (j + 1)) bordersL
      have hl1 := hfl (j + 1)
      have hl2 := hfl j
      generalize matZ (ofL xs j) (ofL xs (j + 1)) bordersL = M at HROWS hML hMB ⊢
      generalize (ofL xs j).length = m at HROWS hn2 hl2 ⊢
      generalize (ofL xs (j + 1)).length = nn at hn1 hML hl1
      have HKD := Aside0.mk hkd
      have h2' : ¬ (dimL xs < ((j + 1 : Nat) : Int)) := h2
      generalize dimL xs = dm at h2' HKD
      have hj1 : ¬ (((j + 1 : Nat) : Int) < 1) := by omega
      generalize hjj : ((j + 1 : Nat) : Int) = dd at HROWS h2' hj1 ⊢
      have HMB := Aside0.mk hMB
      clear hkd hK1 hK2 hK3 hK4 hK5 hk hF hC hrows hnd hfl h63 hMB HZ h1 h2 hdl hjj hb2
      go_enter Try.func105, Try.ntmps105
      go_wp2_with (first
        | (go_at_call 103; refine (QS.spec_l01Dim.calls kd n A c xs dm _ (Kd.C_below HR.out HB.out) HC.out HKD.out).mono ?_; rintro e w1 ⟨rfl, hb⟩; have HB1 := Aside0.mk (below_in HB.out hb); have HX1 := Aside0.mk (HX.out.below hb); have hy0 := HX1.out.c0; have hy1 := HX1.out.c1; clear hb hx0 hx1)
        | (go_at_call 151; refine (HROWS.out _ (Kd.C_below HR.out HB1.out)).mono ?_; rintro e w2 ⟨v, bs, rfl, ho, hin, hb⟩; obtain ⟨b, cap, rfl, hall⟩ := MxAll.of ho hin HMB.out (by omega); rw [hML] at hall ⊢; have HALL := Aside0.mk hall; have HB2 := Aside0.mk hb; clear ho hin hb hall)
        | (go_at_call 150; refine (rankS_c b cap nn m _ bs M _ HALL.out (by omega) (by omega) (by omega) (by omega) HB2.out.size).mono ?_; rintro e w3 ⟨rfl, hb⟩; have HB3 := Aside0.mk hb; clear hb))
      go_ret
      exact ⟨rfl, HB1.out.trans ((HB2.out.trans HB3.out).mono HB1.out.size)⟩
end Go.Proofs.Ytomdfjohnmikdaa.Im
namespace Go.Proofs.Ytomdfjohnmikdaa.Ext
set_option linter.unusedVariables false
set_option linter.unusedSimpArgs false
open Go.RowKit Go.Proofs.Ytomdfjohnmikdaa.Im  Go.Proofs.YtomdfjohnmikdaaW.PrintWords Go.Proofs.YtomdfjohnmikdaaW.PrintLast Go.Proofs.YtomdfjohnmikdaaW.PrintMore
def spec_l03RankOf.f (a0_0 : Int) (l0_1 : List Int) (a1 : Int) (a2 : Int) : Option (Int) := if isC a0_0 l0_1 = true ∧ a2 = 2 then some (rankS l0_1 a1) else none
theorem spec_l03RankOf.calls (a0_0 : Int) (A0_1 : Option Addr) (c0_1 : Nat) (l0_1 : List Int) (a1 : Int) (a2 : Int) (r : Int) (w : World) (hr0_1 : Kd.C (Kd.int .i64) w A0_1 l0_1.length l0_1) (_hc0_1 : l0_1.length ≤ c0_1) (h : spec_l03RankOf.f a0_0 l0_1 a1 a2 = some r) :
    Calls Try.prog 105 #[.agg #[.int .i64 a0_0, .slice A0_1 l0_1.length c0_1], .int .i64 a1, .int .i64 a2] w fun e w' => e = .returned (.int .i64 r) ∧ Below w.heap.size w w' := by
  unfold spec_l03RankOf.f at h
  by_cases hl : isC a0_0 l0_1 = true ∧ a2 = 2
  · rw [if_pos hl] at h
    have hd := Option.some.inj h
    obtain ⟨hi, rfl⟩ := hl
    rw [← hd]
    exact rankOf_c a0_0 A0_1 c0_1 l0_1 a1 w hr0_1 _hc0_1 hi
  · rw [if_neg hl] at h; cases h
end Go.Proofs.Ytomdfjohnmikdaa.Ext
namespace Go.Proofs.Ytomdfjohnmikdaa.Ql03Betti
open Go.Proofs.Ytomdfjohnmikdaa.Cw Go.Proofs.Ytomdfjohnmikdaa.Kp Go.Proofs.Ytomdfjohnmikdaa.Ext Go.Proofs.Ytomdfjohnmikdaa.QS Go.RowKit Go.Proofs.YtomdfjohnmikdaaW.PrintWords Go.Proofs.YtomdfjohnmikdaaW.PrintLast Go.Proofs.YtomdfjohnmikdaaW.PrintMore
attribute [local go_sem] max2_int min2_int max_two min_two max_three min_three max_four min_four   -- for this text's walks alone
set_option linter.unusedVariables false
set_option linter.unusedSimpArgs false
theorem info2 : (Try.prog.info? 2).map (fun i => (i.zero, i.size, i.bytes)) = some (some (.int .i64 0), 1, 8) := by kernel_rfl
end Go.Proofs.Ytomdfjohnmikdaa.Ql03Betti
namespace Go.Proofs.Ytomdfjohnmikdaa.Ql03Betti
open Go.Proofs.Ytomdfjohnmikdaa.Cw Go.Proofs.Ytomdfjohnmikdaa.Kp Go.Proofs.Ytomdfjohnmikdaa.Ext Go.Proofs.Ytomdfjohnmikdaa.QS Go.RowKit Go.Proofs.YtomdfjohnmikdaaW.PrintWords Go.Proofs.YtomdfjohnmikdaaW.PrintLast Go.Proofs.YtomdfjohnmikdaaW.PrintMore
attribute [local go_sem] max2_int min2_int max_two min_two max_three min_three max_four min_four   -- for this text's walks alone
set_option linter.unusedVariables false
set_option linter.unusedSimpArgs false
def spec_l03Betti.l0 : Nat → Int → List Int → Int → Int → List Int → Option (List Int)
 | 0, _, _, _, _, _ => none
 | k + 1, x1, x5, x6, x115000, x115001 => (spec_l01Dim.f k x115000 x115001).bind fun t118 => (if x6 ≤ t118 then ((spec_l01Of.f k x115000 x115001 x6).bind fun t119 => ((spec_l03RankOf.f x115000 x115001 x6 x1).bind fun t122 => ((spec_l03RankOf.f x115000 x115001 (wrap64 (x6 + 1)) x1).bind fun t123 => (if x5.length < 17592186044416 then (spec_l03Betti.l0 k x1 (x5 ++ [wrap64 ((wrap64 ((t119.length : Int) - t122)) - t123)]) (wrap64 (x6 + 1)) x115000 x115001) else (none))))) else (some x5))
def spec_l03Betti.f (k : Nat) (a0_0 : Int) (l0_1 : List Int) (a1 : Int) : Option (List Int) := spec_l03Betti.l0 k a1 (([] : List Int)) 0 a0_0 l0_1
theorem spec_l03Betti.mono_l : ∀ k, (∀ y0 y1 y2 y3 y4, LeO (spec_l03Betti.l0 k y0 y1 y2 y3 y4) (spec_l03Betti.l0 (k + 1) y0 y1 y2 y3 y4))
 | 0 => fun _ _ _ _ _ r h => by simp [spec_l03Betti.l0] at h
 | k + 1 => by
  have ih0 := spec_l03Betti.mono_l k
  ·intro y0 y1 y2 y3 y4
   unfold spec_l03Betti.l0
   repeat' first
   | (with_reducible exact ih0 _ _ _ _ _)
   | (with_reducible exact spec_l01Dim.mono _ _ _)
   | (with_reducible exact spec_l01Of.mono _ _ _ _)
   | (with_reducible exact LeO.refl _)
   | (with_reducible exact LeO.none _)
   | (with_reducible refine LeO.ite ?_ ?_)
   | (with_reducible refine LeO.bind ?_ (fun _ => ?_))
   | exact ih0 _ _ _ _ _
   | exact spec_l01Dim.mono _ _ _
   | exact spec_l01Of.mono _ _ _ _
   | exact LeO.none _
   | refine LeO.ite ?_ ?_
   | refine LeO.bind ?_ (fun _ => ?_)
theorem spec_l03Betti.mono : ∀ a0 a1 a2 k, LeO (spec_l03Betti.f k a0 a1 a2) (spec_l03Betti.f (k + 1) a0 a1 a2) := by
 intro a0 a1 a2 k
 have ih0 := spec_l03Betti.mono_l k
 unfold spec_l03Betti.f
 repeat' first
   | (with_reducible exact ih0 _ _ _ _ _)
   | (with_reducible exact spec_l01Dim.mono _ _ _)
   | (with_reducible exact spec_l01Of.mono _ _ _ _)
   | (with_reducible exact LeO.refl _)
   | (with_reducible exact LeO.none _)
   | (with_reducible refine LeO.ite ?_ ?_)
   | (with_reducible refine LeO.bind ?_ (fun _ => ?_))
   | exact ih0 _ _ _ _ _
   | exact spec_l01Dim.mono _ _ _
   | exact spec_l01Of.mono _ _ _ _
   | exact LeO.none _
   | refine LeO.ite ?_ ?_
   | refine LeO.bind ?_ (fun _ => ?_)
def spec_l03Betti.T5 : Bool × List (List Nat × List Nat) := (true, [([], []), ([], []), ([], []), ([1, 2], [1, 2]), ([3], [3]), ([], []), ([], []), ([], []), ([5, 6, 7, 3], [5, 6, 7]), ([4, 8], [4, 8]), ([], []), ([], []), ([11], [11]), ([], []), ([10, 12, 13, 8], [10, 12, 13]), ([9, 14], [9, 14]), ([15], [15]), ([0, 16, 14], [0, 16]), ([17, 17, 0, 1, 2, 3, 4, 5, 6, 7, 8, 9, 10, 11, 12, 13, 14, 15, 16, 17], [0, 17])])
def spec_l03Betti.B5 : List Nat := [0, 0, 0, 6, 14, 0, 0, 0, 238, 510, 0, 0, 2048, 0, 15854, 32766, 65534, 131071, 262143]
theorem spec_l03Betti.tab5 : rtab .any (opsOf Try.f51 5) = spec_l03Betti.T5 := by kernel_rfl
theorem spec_l03Betti.bits5 : waitsOk spec_l03Betti.T5.2 spec_l03Betti.B5 = true := by kernel_rfl
set_option maxHeartbeats 8000000 in
set_option maxRecDepth 100000 in
theorem spec_l03Betti.calls (k : Nat) (a0_0 : Int) (A0_1 : Option Addr) (c0_1 : Nat) (l0_1 : List Int) (a1 : Int) (r : List Int) (w : World) (hr0_1 : Kd.C (Kd.int .i64) w A0_1 l0_1.length l0_1) (hc0_1 : l0_1.length ≤ c0_1) (h : spec_l03Betti.f k a0_0 l0_1 a1 = some r) :
  Calls Try.prog 51 #[.agg #[.int .i64 a0_0, .slice A0_1 l0_1.length c0_1], .int .i64 a1] w fun e w' => ∃ v0_ : Value, e = .returned (v0_) ∧ Kd.R (Kd.int .i64) 2 w' w.heap.size (fun _ => True) v0_ r ∧ Below w.heap.size w w' := by
 have hu28 := Try.underlying28
 have HR0_1 := Aside0.mk hr0_1
 have HC0_1 := Aside0.mk hc0_1
 clear hr0_1 hc0_1
 have HB := Aside0.mk (Below.refl w.heap.size w)
 have H : (spec_l03Betti.l0 k a1 (([] : List Int)) 0 a0_0 l0_1) = some r := h
 clear h
 obtain ⟨y115, hy115⟩ : ∃ y_ : List Int, y_ = (([] : List Int)) := ⟨_, rfl⟩
 replace H : (spec_l03Betti.l0 k a1 y115 0 a0_0 l0_1) = some r := by first | (rw [hy115]; with_reducible exact H) | (have H2_ := (Option.bind_some _ _).symm.trans H; rw [hy115]; with_reducible exact H2_) | (have H2_ := (Option.bind_some _ _).symm.trans H; with_reducible exact H2_) | with_reducible exact H | (rw [hy115]; exact H) | exact H
 have Ny115 := Aside0.mk hy115
 clear hy115
 have H' := Aside0.mk H
 clear H
 go_enter Try.func51, Try.ntmps51
 go_wp2_with (first | ((with_reducible refine gate_dst (N := 2) rfl ?_); refine box_event ?hg (N := 2) ?hd (cs := #[.int .i64 a0_0, .slice A0_1 l0_1.length c0_1]) (t := 28) ?hr ?_; (case hd => rfl); (case hg => rfl); (case hr => first | (go_simp; done) | (go_simp; rfl)); intro gb114 hg w3 hbox hb; have BK114 := Aside0.mk (hbox); have GW114 := gH HB hg; have GE114 := gH HB hg; replace HB := sH HB hb; clear hb hbox hg) | ((with_reducible refine gate_dst (N := 7) rfl ?_); refine Kd.R_lit (Kd.int .i64) _ 2 ?hg (N := 7) ?hd (xs := ([] : List Int)) (inner := []) (ok := fun _ => True) (okp := fun _ => True) ?hr ?hp (fun _ hk => hk) trivial (Below.refl _ _) (Nat.le_refl _) (by simp) ?_; (case hd => rfl); (case hg => rfl); (case hr => first | (go_simp; done) | (go_simp; rfl)); (case hp => exact (Reps.none _ _)); intro v116 w4 ho5 hb hg_ hnew_; clear hg_ hnew_; (first | rw [← Ny115.out] at ho5 | (simp only [Int.reduceToNat] at ho5; rw [← Ny115.out] at ho5)); have HO117 := Aside0.mk (Kd.R_lower ho5 (below_size (pH HB))); replace BK114 := sB BK114 hb; replace HB := sH HB hb; clear hb ho5))
 go_loopg [5, 6] k (fun kq v5 v6 w' => ∃ (x5_1 : List Int) (x6_1 : Int), v6 = .int .i64 x6_1 ∧ Aside0 (spec_l03Betti.l0 kq a1 x5_1 x6_1 a0_0 l0_1 = some r) ∧ Aside0 (kq ≤ k) ∧ Aside0 (Kd.R (Kd.int .i64) 2 w' w.heap.size (fun _ => True) v5 x5_1) ∧ Aside0 (w'.heap[gb114]? = some (.cells #[.int .i64 a0_0, (.slice A0_1 l0_1.length c0_1)] 28 (0, 0))) ∧ Aside0 (Below w.heap.size w w'))
 case atStart => exact ⟨(y115), (0), (by first | rfl | (simp; done) | (simp [*]; done)), H', ⟨Nat.le_refl _⟩, ⟨by (with_reducible repeat (first | apply Kd.R_alloc | apply Kd.R_drewN | apply Kd.R_drew)); exact HO117.out⟩, ⟨pB BK114⟩, ⟨pH HB⟩⟩
 case round =>
  clear H'
  try clear p2
  try clear c5
  obtain ⟨x5_1, x6_1, rfl, HA, HK1, HO_5, BK114, HB⟩ := hrel
  cases gk with
  | zero => exact absurd HA.out (by simp [spec_l03Betti.l0])
  | succ k1 =>
   have H := HA.out
   clear HA
   simp only [spec_l03Betti.l0] at H
   replace H := Option.bind_eq_some_iff.mp H
   obtain ⟨t118, A60, H⟩ := H
   try dsimp only at H
   have A6 := Aside0.mk A60
   clear A60
   by_cases c7 : x6_1 ≤ t118
   ·rw [if_pos c7] at H
    have c7b0 : decide (x6_1 ≤ t118) = true := decide_eq_true c7
    clear c7
    replace H := Option.bind_eq_some_iff.mp H
    obtain ⟨t119, A80, H⟩ := H
    try dsimp only at H
    have A8 := Aside0.mk A80
    clear A80
    replace H := Option.bind_eq_some_iff.mp H
    obtain ⟨t122, A90, H⟩ := H
    try dsimp only at H
    have A9 := Aside0.mk A90
    clear A90
    replace H := Option.bind_eq_some_iff.mp H
    obtain ⟨t123, A100, H⟩ := H
    try dsimp only at H
    have A10 := Aside0.mk A100
    clear A100
    by_cases c11 : x5_1.length < 17592186044416
    ·rw [if_pos c11] at H
     have LMc11 := Aside0.mk c11
     clear c11
     obtain ⟨y124, hy124⟩ : ∃ y_ : List Int, y_ = (x5_1 ++ [wrap64 ((wrap64 ((t119.length : Int) - t122)) - t123)]) := ⟨_, rfl⟩
     replace H : (spec_l03Betti.l0 k1 a1 y124 (wrap64 (x6_1 + 1)) a0_0 l0_1) = some r := by first | (rw [hy124]; with_reducible exact H) | (have H2_ := (Option.bind_some _ _).symm.trans H; rw [hy124]; with_reducible exact H2_) | (have H2_ := (Option.bind_some _ _).symm.trans H; with_reducible exact H2_) | with_reducible exact H | (rw [hy124]; exact H) | exact H
     have Ny124 := Aside0.mk hy124
     clear hy124
     have H' := Aside0.mk H
     clear H
     have hcz12_0 : wr.cell? ⟨gb114, 0, none⟩ = some (.int .i64 a0_0) := cB BK114 0
     have hcz12_1 : wr.cell? ⟨gb114, 1, none⟩ = some (.slice A0_1 l0_1.length c0_1) := cB BK114 1
     have hfz12_0 := zB BK114 0
     have hfz12_1 := zB BK114 1
     try go_wp2_with (first | ((with_reducible refine gate_callee (f := 103) rfl ?_); refine cl_ (some 10) Try.func103 #[.agg #[.int .i64 a0_0, .slice A0_1 l0_1.length c0_1]] ?_; (with_reducible refine (spec_l01Dim.calls k1 a0_0 _ _ l0_1 t118 _ ?side1 ?side2 A6.out).mono ?_); (case side1 => exact pC ((Kd.C_below HR0_1.out HB.out))); (case side2 => exact HC0_1.out); rintro e w13 ⟨rfl, hb⟩; refine ⟨_, rfl, ?_⟩; replace HO_5 := sR HO_5 hb; replace BK114 := sB BK114 hb; replace HB := sH HB hb; (try clear hb); (try clear hi)))
     replace HO_5 := Aside0.mk (Kd.R_drew HO_5.out)
     replace BK114 := dB BK114
     replace HB := dH HB
     refine st_ 19 (S := fun w' => w'.cell? ⟨gb114, 0, none⟩ = some (.int .i64 a0_0) ∧ w'.cell? ⟨gb114, 1, none⟩ = some (.slice A0_1 l0_1.length c0_1)) (ds := []) ⟨cB BK114 0, cB BK114 1⟩ (fun hHeld => ?_); refine with_tabW spec_l03Betti.tab5 spec_l03Betti.bits5 (fun HT_ HW_ => ?_)
     generalize w13.drew = w14 at HO_5 BK114 HB hHeld ⊢
     refine pu_ 0 14 1 HT_ ?_
     refine pu_ 2 16 5 HT_ ?_
     refine pu_ 6 20 69 HT_ ?_
     refine pu_ 7 21 197 HT_ ?_
     refine pu_ 11 25 2245 HT_ ?_
     refine pu_ 12 26 6341 HT_ ?_
     refine pu_ 13 27 14533 HT_ ?_
     refine tk_ 1 15 14535 HT_ HW_ hHeld ?_
     refine tk_ 5 19 14567 HT_ HW_ hHeld ?_
     refine tk_ 10 24 15591 HT_ HW_ hHeld ?_
     refine on_ 3 (some 17) 15599 HT_ (fun K hK => ?_)
     refine ca_ Try.func104 #[.agg #[.int .i64 a0_0, .slice A0_1 l0_1.length c0_1], .int .i64 x6_1] ?_
     with_reducible refine (spec_l01Of.calls k1 a0_0 _ _ l0_1 x6_1 t119 _ ?side1 ?side2 A8.out).mono ?_
     (case side1 => exact pC ((Kd.C_below HR0_1.out HB.out)))
     (case side2 => exact HC0_1.out)
     rintro e w15 ⟨v120, rfl, ho0, hb⟩
     refine ⟨_, rfl, ?_⟩
     have HO121 := Aside0.mk (Kd.R_lower (Kd.R_new' ho0 (Kd.R_lt (pR HO_5))) (below_size (pH HB)))
     replace HO_5 := Aside0.mk (Kd.R_elder' (pR HO_5) (Kd.R_base ho0) hb)
     replace BK114 := sB BK114 hb
     replace HB := sH HB hb
     (try clear hb)
     (try clear hb2)
     (try clear hk)
     (try clear hi)
     (try clear ho0)
     obtain ⟨Ao16, co16, eo16⟩ := Kd.R_slice HO121.out
     (first | subst eo16 | (injection eo16 with f1_ f2_ f3_; have f4_ := f1_.symm; have f5_ := f3_.symm; clear f1_ f2_ f3_; subst f4_; subst f5_))
     refine hK.out _ _ ⟨cB BK114 0, cB BK114 1⟩ (fun hHeld => ?_)
     clear hK K
     refine nm_ ?_
     refine pu_ 4 18 15615 HT_ ?_
     refine on_ 8 (some 22) 15871 HT_ (fun K hK => ?_)
     refine ca_ Try.func105 #[.agg #[.int .i64 a0_0, .slice A0_1 l0_1.length c0_1], .int .i64 x6_1, .int .i64 a1] ?_
     with_reducible refine (spec_l03RankOf.calls a0_0 _ _ l0_1 x6_1 a1 t122 _ ?side1 ?side2 A9.out).mono ?_
     (case side1 => exact pC ((Kd.C_below HR0_1.out HB.out)))
     (case side2 => exact HC0_1.out)
     rintro e w17 ⟨rfl, hb⟩
     refine ⟨_, rfl, ?_⟩
     replace HO_5 := sR HO_5 hb
     replace HO121 := sR HO121 hb
     replace BK114 := sB BK114 hb
     replace HB := sH HB hb
     (try clear hb)
     (try clear hb2)
     (try clear hk)
     (try clear hi)
     refine hK.out _ _ ⟨cB BK114 0, cB BK114 1⟩ (fun hHeld => ?_)
     clear hK K
     refine nm_ ?_
     refine pu_ 9 23 16383 HT_ ?_
     refine on_ 14 (some 28) 32767 HT_ (fun K hK => ?_)
     refine ca_ Try.func105 #[.agg #[.int .i64 a0_0, .slice A0_1 l0_1.length c0_1], .int .i64 (wrap64 (x6_1 + 1)), .int .i64 a1] ?_
     with_reducible refine (spec_l03RankOf.calls a0_0 _ _ l0_1 (wrap64 (x6_1 + 1)) a1 t123 _ ?side1 ?side2 A10.out).mono ?_
     (case side1 => exact pC ((Kd.C_below HR0_1.out HB.out)))
     (case side2 => exact HC0_1.out)
     rintro e w18 ⟨rfl, hb⟩
     refine ⟨_, rfl, ?_⟩
     replace HO_5 := sR HO_5 hb
     replace HO121 := sR HO121 hb
     replace BK114 := sB BK114 hb
     replace HB := sH HB hb
     (try clear hb)
     (try clear hb2)
     (try clear hk)
     (try clear hi)
     refine hK.out _ _ ⟨cB BK114 0, cB BK114 1⟩ (fun hHeld => ?_)
     clear hK K
     refine nm_ ?_
     refine pu_ 15 29 65535 HT_ ?_
     refine on_ 16 (some 30) 131071 HT_ (fun K hK => ?_)
     refine value_ (w1 := ?_) (v := ?_) (by rfl) rfl ?_ ?_
     rotate_left 2
     ·go_simp
      constructor
      ·rfl
      ·rfl
     refine hK.out _ _ ⟨(blk_cell (blk_alloc BK114.out _) 0).trans rfl, (blk_cell (blk_alloc BK114.out _) 1).trans rfl⟩ (fun hHeld => ?_)
     clear hK K
     refine nm_ ?_
     refine on_ 17 (some 31) 262143 HT_ (fun K hK => ?_)
     refine Kd.R_append_step (Kd.int .i64) (w0 := w) w.heap.size (by rfl) (.tmp 14) (.tmp 30) 22 2 (.int .i64 0) 8 rfl Try.underlying22 info2 rfl (by decide) (by omega) u5 x5_1 (wrap64 ((wrap64 ((t119.length : Int) - t122)) - t123)) [.int .i64 (wrap64 ((wrap64 ((t119.length : Int) - t122)) - t123))] (fun k_ => some k_ ≠ (.slice Ao16 t119.length co16 : Value).ownBlock) (fun _ => False) rfl rfl ?aP (fun _ hk => hk.elim) ?aF ?aO ?aB ?aS ?aL ?_
     (case aP => exact rfl)
     (case aB => exact (pH HB))
     (case aF => exact (fun k_ hk => Kd.fresh' (Kd.R_lt (pR HO121)) k_ hk))
     (case aO => exact (by (with_reducible repeat (first | apply Kd.R_alloc | apply Kd.R_drewN | apply Kd.R_drew)); exact Kd.R_mono HO_5.out (fun _ hk => hk.2)))
     (case aS => exact (below_size (pH HB)))
     (case aL => have := LMc11.out; omega)
     intro v125 w19 ho hb hg hat
     rw [← Ny124.out] at ho
     replace BK114 := Aside0.mk (blk_grown (g := gb114) (o := .cells #[.int .i64 a0_0, .slice A0_1 l0_1.length c0_1] 28 (0, 0)) (pB BK114) hg (Kd.R_ne HO_5.out BK114.out (by decide)))
     replace HO121 := Aside0.mk (Kd.R_after (ok := (fun _ => True)) (pR HO121) hg hat)
     replace HB := Aside0.mk (hb)
     have HO126 := Aside0.mk (ho)
     clear HO_5
     clear ho hb hg hat
     refine hK.out _ _ ⟨cB BK114 0, cB BK114 1⟩ (fun hHeld => ?_)
     clear hK K
     refine nm_ ?_
     refine pu_ 18 5 524287 HT_ ?_
     refine dn_ HT_ ?_
     try go_wp2
     go_roundg k1
     case measure => have := HK1.out; omega
     case rel => exact ⟨(y124), (wrap64 (x6_1 + 1)), (by first | rfl | (simp; done) | (simp [*]; done)), H', ⟨by have := HK1.out; omega⟩, ⟨by (with_reducible repeat (first | apply Kd.R_alloc | apply Kd.R_drewN | apply Kd.R_drew)); exact Kd.R_mono HO126.out (fun _ hk => trivial)⟩, ⟨pB BK114⟩, ⟨pH HB⟩⟩
    ·rw [if_neg c11] at H
     exact absurd H (by simp)
   ·rw [if_neg c7] at H
    have c7b0 : decide (x6_1 ≤ t118) = false := decide_eq_false c7
    clear c7
    obtain rfl := Option.some.inj H
    have hcz20_0 : wr.cell? ⟨gb114, 0, none⟩ = some (.int .i64 a0_0) := cB BK114 0
    have hcz20_1 : wr.cell? ⟨gb114, 1, none⟩ = some (.slice A0_1 l0_1.length c0_1) := cB BK114 1
    have hfz20_0 := zB BK114 0
    have hfz20_1 := zB BK114 1
    go_wp2_with (first | ((with_reducible refine gate_callee (f := 103) rfl ?_); refine cl_ (some 10) Try.func103 #[.agg #[.int .i64 a0_0, .slice A0_1 l0_1.length c0_1]] ?_; (with_reducible refine (spec_l01Dim.calls k1 a0_0 _ _ l0_1 t118 _ ?side1 ?side2 A6.out).mono ?_); (case side1 => exact pC ((Kd.C_below HR0_1.out HB.out))); (case side2 => exact HC0_1.out); rintro e w21 ⟨rfl, hb⟩; refine ⟨_, rfl, ?_⟩; replace HO_5 := sR HO_5 hb; replace BK114 := sB BK114 hb; replace HB := sH HB hb; (try clear hb); (try clear hi)))
    go_ret
    exact ⟨_, by first | rfl | (simp [errW_none, errW_some] <;> rfl) | (simp [*, errW_none, errW_some] <;> rfl) | (exfalso; simp_all), by (with_reducible repeat (first | apply Kd.R_alloc | apply Kd.R_drewN | apply Kd.R_drew)); exact HO_5.out, pH HB⟩
end Go.Proofs.Ytomdfjohnmikdaa.Ql03Betti
namespace Go.Proofs.Ytomdfjohnmikdaa.Ext
open Go.Proofs.YtomdfjohnmikdaaW.PrintWords
open Classical in
noncomputable def limO {α : Type} (g : Nat → Option α) : Option α := if h : ∃ r : α, ∃ k, g k = some r then some (Classical.choose h) else none
theorem limO_get {α : Type} {g : Nat → Option α} {r : α} (h : limO g = some r) : ∃ k, g k = some r := by
  unfold limO at h
  split at h
  · rename_i hc
    obtain rfl := Option.some.inj h
    exact Classical.choose_spec hc
  · cases h
theorem limO_of {α : Type} {g : Nat → Option α} {r : α} (hg : ∀ k, LeO (g k) (g (k + 1))) (h : Ev g r) : limO g = some r := by
  obtain ⟨k, hk⟩ := h.rounds
  have hc : ∃ r : α, ∃ k, g k = some r := ⟨r, k, hk⟩
  unfold limO
  rw [dif_pos hc]
  obtain ⟨k', hk'⟩ := Classical.choose_spec hc
  obtain ⟨K, hK⟩ := h
  have h1 := at_rounds hg (Nat.le_max_left k' K) hk'
  have h2 := hK (max k' K) (Nat.le_max_right _ _)
  rw [h1] at h2
  exact h2
end Go.Proofs.Ytomdfjohnmikdaa.Ext
namespace Go.Proofs.Ytomdfjohnmikdaa.Im
set_option linter.unusedVariables false
set_option linter.unusedSimpArgs false
open Go.RowKit Go.Shelf Go.Proofs.Ytomdfjohnmikdaa.Cw Go.Proofs.YtomdfjohnmikdaaW.PrintWords Go.Proofs.YtomdfjohnmikdaaW.PrintLast Go.Proofs.YtomdfjohnmikdaaW.PrintMore
/-- The first place from r on at which p holds, told from r; -1 if there is none. -/
def firstR (p : Nat → Bool) (n : Nat) : Int := match (List.range n).find? p with
  | some i => (i : Int)
  | none => -1
theorem firstR_hit {p : Nat → Bool} {n k : Nat} (hk : k < n) (hp : p k = true) (hb : ∀ j, j < k → p j = false) : firstR p n = (k : Int) := by
  unfold firstR
  have h : (List.range n).find? p = some k := by
    rw [List.find?_range_eq_some]
    exact ⟨hp, List.mem_range.2 hk, fun j hj => by simpa using hb j hj⟩
  rw [h]
theorem firstR_miss {p : Nat → Bool} {n : Nat} (hb : ∀ j, j < n → p j = false) : firstR p n = -1 := by
  unfold firstR
  have h : (List.range n).find? p = none := List.find?_eq_none.2 (fun j hj => by simpa using hb j (List.mem_range.1 hj))
  rw [h]
set_option maxRecDepth 100000 in
set_option maxHeartbeats 1000000 in
theorem indexRows_c (A : Option Addr) (n c : Nat) (m : Nat) (ys : Nat → Nat) (g : FuncId) (fs lb : Array Value) (p : Nat → Bool) (w : World)
    (hr : ∀ W, Below w.heap.size w W → ∀ i, i < n → ∃ ad, A = some ad ∧ W.cell? (ad.add i) = some (.slice (some ⟨ys i, 0, none⟩) m m)) (eg : ∀ args w, (callFunc g args).run Try.prog w = .ok (.enter g args) w)
    (hcall : ∀ W i, Below w.heap.size w W → i < n → Calls Try.prog g (fs ++ #[.slice (some ⟨ys i, 0, none⟩) m m] ++ lb) W fun e w' => e = .returned (.bool (p i)) ∧ Below W.heap.size W w') (hl : n ≤ 1099511627776) :
    Calls Try.prog 160 #[.slice A n c, .func (.func g) fs lb] w fun e w' => e = .returned (.int .i64 (firstR p n)) ∧ Below w.heap.size w w' := by
  have HR := Aside0.mk hr
  have HC := Aside0.mk hcall
  clear hr hcall
  go_enter Try.func160, Try.ntmps160
  go_wp2
  go_loopw [5, 8] (fun _ i wr => ∃ k : Nat, k ≤ n ∧ i = .int .i64 k ∧ Aside0 (Below w.heap.size w wr) ∧ Aside0 (∀ j, j < k → p j = false)) (fun _ i _ => n - (intOf i).toNat)
  case atStart => exact ⟨0, by omega, rfl, ⟨Below.refl _ _⟩, ⟨fun j hj => absurd hj (Nat.not_lt_zero _)⟩⟩
  case round =>
    obtain ⟨k, hk, rfl, hB, hA⟩ := hrel
    by_cases hlt : k < n
    · have hltz : (k : Int) < (n : Int) := by omega
      obtain ⟨ad, rfl, h0⟩ := HR.out wr hB.out k hlt
      have HCY := Aside0.mk (HC.out wr k hB.out hlt)
      generalize ys k = y at h0 HCY
      cases hq : p k with
      | true =>
        rw [hq] at HCY
        have HQ := Aside0.mk hq
        clear hq
        go_wp2_with (go_at_fn g; refine HCY.out.mono ?_; rintro e w' ⟨rfl, hb⟩; have HB2 := Aside0.mk hb; clear hb)
        go_ret
        refine ⟨?_, below_in hB.out HB2.out⟩
        rw [firstR_hit hlt HQ.out hA.out]; rfl
      | false =>
        rw [hq] at HCY
        have HQ := Aside0.mk hq
        clear hq
        go_wp2_with (go_at_fn g; refine HCY.out.mono ?_; rintro e w' ⟨rfl, hb⟩; have HB2 := Aside0.mk hb; clear hb)
        go_roundw
        case measure => simp [intOf]; omega
        case rel =>
          refine ⟨k + 1, by omega, by go_num, ⟨below_in hB.out HB2.out⟩, ⟨fun j hj => ?_⟩⟩
          rcases Nat.lt_or_ge j k with h | h
          · exact hA.out j h
          · obtain rfl : j = k := by omega
            exact HQ.out
    · obtain rfl : k = n := by omega
      have hltz : ¬ (k : Int) < (k : Int) := by omega
      go_wp2
      go_ret
      exact ⟨by rw [firstR_miss hA.out]; rfl, hB.out⟩
set_option maxRecDepth 100000 in
theorem rank1_c (y m c : Nat) (v : Int) (bx : Nat) (w : World) (hb : w.cell? ⟨bx, 0, none⟩ = some (.int .i64 c)) (hc : c < m) (hv : w.cell? ⟨y, c, none⟩ = some (.int .i64 v)) :
    Calls Try.prog 161 #[.slice (some ⟨y, 0, none⟩) m m, .pointer (some ⟨bx, 0, none⟩)] w fun e w' => e = .returned (.bool (v != 0)) ∧ Below w.heap.size w w' := by
  have hcz : (c : Int) < (m : Int) := by omega
  go_enter Try.func161, Try.ntmps161
  go_wp2
  go_ret
  exact ⟨rfl, Below.refl _ _⟩
end Go.Proofs.Ytomdfjohnmikdaa.Im
namespace Go.Proofs.Ytomdfjohnmikdaa.QO
open Go.Proofs.Ytomdfjohnmikdaa.Cw Go.Proofs.Ytomdfjohnmikdaa.Kp Go.Proofs.Ytomdfjohnmikdaa.Ext Go.RowKit Go.Proofs.YtomdfjohnmikdaaW.PrintWords Go.Proofs.YtomdfjohnmikdaaW.PrintLast Go.Proofs.YtomdfjohnmikdaaW.PrintMore
attribute [local go_sem] max2_int min2_int max_two min_two max_three min_three max_four min_four   -- for this text's walks alone
set_option linter.unusedVariables false
set_option linter.unusedSimpArgs false
def errW : Option Int → Value
 | none => .nilIface
 | some c => .iface 0 (.int .i64 c)
theorem errW_none : errW none = .nilIface := rfl
theorem errW_some (c : Int) : errW (some c) = .iface 0 (.int .i64 c) := rfl
theorem info2 : (Try.prog.info? 2).map (fun i => (i.zero, i.size, i.bytes)) = some (some (.int .i64 0), 1, 8) := by kernel_rfl
end Go.Proofs.Ytomdfjohnmikdaa.QO
namespace Go.Proofs.Ytomdfjohnmikdaa.QO
open Go.Proofs.Ytomdfjohnmikdaa.Cw Go.Proofs.Ytomdfjohnmikdaa.Kp Go.Proofs.Ytomdfjohnmikdaa.Ext Go.RowKit Go.Proofs.YtomdfjohnmikdaaW.PrintWords Go.Proofs.YtomdfjohnmikdaaW.PrintLast Go.Proofs.YtomdfjohnmikdaaW.PrintMore
attribute [local go_sem] max2_int min2_int max_two min_two max_three min_three max_four min_four   -- for this text's walks alone
set_option linter.unusedVariables false
set_option linter.unusedSimpArgs false
def bits_OnesCount64.f (a0 : Int) : Option (Int) := some (Go.bits .and .i64 (wrap64 (IntKind.u64.wrap ((IntKind.u64.wrap ((IntKind.u64.wrap ((Go.bits .and .u64 (IntKind.u64.wrap (((IntKind.u64.wrap ((Go.bits .and .u64 ((IntKind.u64.wrap ((Go.bits .and .u64 (a0 / 2) 6148914691236517205) + (Go.bits .and .u64 a0 6148914691236517205))) / 4) 3689348814741910323) + (Go.bits .and .u64 (IntKind.u64.wrap ((Go.bits .and .u64 (a0 / 2) 6148914691236517205) + (Go.bits .and .u64 a0 6148914691236517205))) 3689348814741910323))) / 16) + (IntKind.u64.wrap ((Go.bits .and .u64 ((IntKind.u64.wrap ((Go.bits .and .u64 (a0 / 2) 6148914691236517205) + (Go.bits .and .u64 a0 6148914691236517205))) / 4) 3689348814741910323) + (Go.bits .and .u64 (IntKind.u64.wrap ((Go.bits .and .u64 (a0 / 2) 6148914691236517205) + (Go.bits .and .u64 a0 6148914691236517205))) 3689348814741910323))))) 1085102592571150095) + ((Go.bits .and .u64 (IntKind.u64.wrap (((IntKind.u64.wrap ((Go.bits .and .u64 ((IntKind.u64.wrap ((Go.bits .and .u64 (a0 / 2) 6148914691236517205) + (Go.bits .and .u64 a0 6148914691236517205))) / 4) 3689348814741910323) + (Go.bits .and .u64 (IntKind.u64.wrap ((Go.bits .and .u64 (a0 / 2) 6148914691236517205) + (Go.bits .and .u64 a0 6148914691236517205))) 3689348814741910323))) / 16) + (IntKind.u64.wrap ((Go.bits .and .u64 ((IntKind.u64.wrap ((Go.bits .and .u64 (a0 / 2) 6148914691236517205) + (Go.bits .and .u64 a0 6148914691236517205))) / 4) 3689348814741910323) + (Go.bits .and .u64 (IntKind.u64.wrap ((Go.bits .and .u64 (a0 / 2) 6148914691236517205) + (Go.bits .and .u64 a0 6148914691236517205))) 3689348814741910323))))) 1085102592571150095) / 256))) + ((IntKind.u64.wrap ((Go.bits .and .u64 (IntKind.u64.wrap (((IntKind.u64.wrap ((Go.bits .and .u64 ((IntKind.u64.wrap ((Go.bits .and .u64 (a0 / 2) 6148914691236517205) + (Go.bits .and .u64 a0 6148914691236517205))) / 4) 3689348814741910323) + (Go.bits .and .u64 (IntKind.u64.wrap ((Go.bits .and .u64 (a0 / 2) 6148914691236517205) + (Go.bits .and .u64 a0 6148914691236517205))) 3689348814741910323))) / 16) + (IntKind.u64.wrap ((Go.bits .and .u64 ((IntKind.u64.wrap ((Go.bits .and .u64 (a0 / 2) 6148914691236517205) + (Go.bits .and .u64 a0 6148914691236517205))) / 4) 3689348814741910323) + (Go.bits .and .u64 (IntKind.u64.wrap ((Go.bits .and .u64 (a0 / 2) 6148914691236517205) + (Go.bits .and .u64 a0 6148914691236517205))) 3689348814741910323))))) 1085102592571150095) + ((Go.bits .and .u64 (IntKind.u64.wrap (((IntKind.u64.wrap ((Go.bits .and .u64 ((IntKind.u64.wrap ((Go.bits .and .u64 (a0 / 2) 6148914691236517205) + (Go.bits .and .u64 a0 6148914691236517205))) / 4) 3689348814741910323) + (Go.bits .and .u64 (IntKind.u64.wrap ((Go.bits .and .u64 (a0 / 2) 6148914691236517205) + (Go.bits .and .u64 a0 6148914691236517205))) 3689348814741910323))) / 16) + (IntKind.u64.wrap ((Go.bits .and .u64 ((IntKind.u64.wrap ((Go.bits .and .u64 (a0 / 2) 6148914691236517205) + (Go.bits .and .u64 a0 6148914691236517205))) / 4) 3689348814741910323) + (Go.bits .and .u64 (IntKind.u64.wrap ((Go.bits .and .u64 (a0 / 2) 6148914691236517205) + (Go.bits .and .u64 a0 6148914691236517205))) 3689348814741910323))))) 1085102592571150095) / 256))) / 65536))) + ((IntKind.u64.wrap ((IntKind.u64.wrap ((Go.bits .and .u64 (IntKind.u64.wrap (((IntKind.u64.wrap ((Go.bits .and .u64 ((IntKind.u64.wrap ((Go.bits .and .u64 (a0 / 2) 6148914691236517205) + (Go.bits .and .u64 a0 6148914691236517205))) / 4) 3689348814741910323) + (Go.bits .and .u64 (IntKind.u64.wrap ((Go.bits .and .u64 (a0 / 2) 6148914691236517205) + (Go.bits .and .u64 a0 6148914691236517205))) 3689348814741910323))) / 16) + (IntKind.u64.wrap ((Go.bits .and .u64 ((IntKind.u64.wrap ((Go.bits .and .u64 (a0 / 2) 6148914691236517205) + (Go.bits .and .u64 a0 6148914691236517205))) / 4) 3689348814741910323) + (Go.bits .and .u64 (IntKind.u64.wrap ((Go.bits .and .u64 (a0 / 2) 6148914691236517205) + (Go.bits .and .u64 a0 6148914691236517205))) 3689348814741910323))))) 1085102592571150095) + ((Go.bits .and .u64 (IntKind.u64.wrap (((IntKind.u64.wrap ((Go.bits .and .u64 ((IntKind.u64.wrap ((Go.bits .and .u64 (a0 / 2) 6148914691236517205) + (Go.bits .and .u64 a0 6148914691236517205))) / 4) 3689348814741910323) + (Go.bits .and .u64 (IntKind.u64.wrap ((Go.bits .and .u64 (a0 / 2) 6148914691236517205) + (Go.bits .and .u64 a0 6148914691236517205))) 3689348814741910323))) / 16) + (IntKind.u64.wrap ((Go.bits .and .u64 ((IntKind.u64.wrap ((Go.bits .and .u64 (a0 / 2) 6148914691236517205) + (Go.bits .and .u64 a0 6148914691236517205))) / 4) 3689348814741910323) + (Go.bits .and .u64 (IntKind.u64.wrap ((Go.bits .and .u64 (a0 / 2) 6148914691236517205) + (Go.bits .and .u64 a0 6148914691236517205))) 3689348814741910323))))) 1085102592571150095) / 256))) + ((IntKind.u64.wrap ((Go.bits .and .u64 (IntKind.u64.wrap (((IntKind.u64.wrap ((Go.bits .and .u64 ((IntKind.u64.wrap ((Go.bits .and .u64 (a0 / 2) 6148914691236517205) + (Go.bits .and .u64 a0 6148914691236517205))) / 4) 3689348814741910323) + (Go.bits .and .u64 (IntKind.u64.wrap ((Go.bits .and .u64 (a0 / 2) 6148914691236517205) + (Go.bits .and .u64 a0 6148914691236517205))) 3689348814741910323))) / 16) + (IntKind.u64.wrap ((Go.bits .and .u64 ((IntKind.u64.wrap ((Go.bits .and .u64 (a0 / 2) 6148914691236517205) + (Go.bits .and .u64 a0 6148914691236517205))) / 4) 3689348814741910323) + (Go.bits .and .u64 (IntKind.u64.wrap ((Go.bits .and .u64 (a0 / 2) 6148914691236517205) + (Go.bits .and .u64 a0 6148914691236517205))) 3689348814741910323))))) 1085102592571150095) + ((Go.bits .and .u64 (IntKind.u64.wrap (((IntKind.u64.wrap ((Go.bits .and .u64 ((IntKind.u64.wrap ((Go.bits .and .u64 (a0 / 2) 6148914691236517205) + (Go.bits .and .u64 a0 6148914691236517205))) / 4) 3689348814741910323) + (Go.bits .and .u64 (IntKind.u64.wrap ((Go.bits .and .u64 (a0 / 2) 6148914691236517205) + (Go.bits .and .u64 a0 6148914691236517205))) 3689348814741910323))) / 16) + (IntKind.u64.wrap ((Go.bits .and .u64 ((IntKind.u64.wrap ((Go.bits .and .u64 (a0 / 2) 6148914691236517205) + (Go.bits .and .u64 a0 6148914691236517205))) / 4) 3689348814741910323) + (Go.bits .and .u64 (IntKind.u64.wrap ((Go.bits .and .u64 (a0 / 2) 6148914691236517205) + (Go.bits .and .u64 a0 6148914691236517205))) 3689348814741910323))))) 1085102592571150095) / 256))) / 65536))) / 4294967296)))) 127)
set_option maxHeartbeats 8000000 in
set_option maxRecDepth 100000 in
theorem bits_OnesCount64.calls (a0 : Int) (r : Int) (w : World) (h : bits_OnesCount64.f a0 = some r) :
  Calls Try.prog 174 #[.int .u64 a0] w fun e w' => e = .returned (.int .i64 r) ∧ Drawn0 w w' := by
 have H : (some (Go.bits .and .i64 (wrap64 (IntKind.u64.wrap ((IntKind.u64.wrap ((IntKind.u64.wrap ((Go.bits .and .u64 (IntKind.u64.wrap (((IntKind.u64.wrap ((Go.bits .and .u64 ((IntKind.u64.wrap ((Go.bits .and .u64 (a0 / 2) 6148914691236517205) + (Go.bits .and .u64 a0 6148914691236517205))) / 4) 3689348814741910323) + (Go.bits .and .u64 (IntKind.u64.wrap ((Go.bits .and .u64 (a0 / 2) 6148914691236517205) + (Go.bits .and .u64 a0 6148914691236517205))) 3689348814741910323))) / 16) + (IntKind.u64.wrap ((Go.bits .and .u64 ((IntKind.u64.wrap ((Go.bits .and .u64 (a0 / 2) 6148914691236517205) + (Go.bits .and .u64 a0 6148914691236517205))) / 4) 3689348814741910323) + (Go.bits .and .u64 (IntKind.u64.wrap ((Go.bits .and .u64 (a0 / 2) 6148914691236517205) + (Go.bits .and .u64 a0 6148914691236517205))) 3689348814741910323))))) 1085102592571150095) + ((Go.bits .and .u64 (IntKind.u64.wrap (((IntKind.u64.wrap ((Go.bits .and .u64 ((IntKind.u64.wrap ((Go.bits .and .u64 (a0 / 2) 6148914691236517205) + (Go.bits .and .u64 a0 6148914691236517205))) / 4) 3689348814741910323) + (Go.bits .and .u64 (IntKind.u64.wrap ((Go.bits .and .u64 (a0 / 2) 6148914691236517205) + (Go.bits .and .u64 a0 6148914691236517205))) 3689348814741910323))) / 16) + (IntKind.u64.wrap ((Go.bits .and .u64 ((IntKind.u64.wrap ((Go.bits .and .u64 (a0 / 2) 6148914691236517205) + (Go.bits .and .u64 a0 6148914691236517205))) / 4) 3689348814741910323) + (Go.bits .and .u64 (IntKind.u64.wrap ((Go.bits .and .u64 (a0 / 2) 6148914691236517205) + (Go.bits .and .u64 a0 6148914691236517205))) 3689348814741910323))))) 1085102592571150095) / 256))) + ((IntKind.u64.wrap ((Go.bits .and .u64 (IntKind.u64.wrap (((IntKind.u64.wrap ((Go.bits .and .u64 ((IntKind.u64.wrap ((Go.bits .and .u64 (a0 / 2) 6148914691236517205) + (Go.bits .and .u64 a0 6148914691236517205))) / 4) 3689348814741910323) + (Go.bits .and .u64 (IntKind.u64.wrap ((Go.bits .and .u64 (a0 / 2) 6148914691236517205) + (Go.bits .and .u64 a0 6148914691236517205))) 3689348814741910323))) / 16) + (IntKind.u64.wrap ((Go.bits .and .u64 ((IntKind.u64.wrap ((Go.bits .and .u64 (a0 / 2) 6148914691236517205) + (Go.bits .and .u64 a0 6148914691236517205))) / 4) 3689348814741910323) + (Go.bits .and .u64 (IntKind.u64.wrap ((Go.bits .and .u64 (a0 / 2) 6148914691236517205) + (Go.bits .and .u64 a0 6148914691236517205))) 3689348814741910323))))) 1085102592571150095) + ((Go.bits .and .u64 (IntKind.u64.wrap (((IntKind.u64.wrap ((Go.bits .and .u64 ((IntKind.u64.wrap ((Go.bits .and .u64 (a0 / 2) 6148914691236517205) + (Go.bits .and .u64 a0 6148914691236517205))) / 4) 3689348814741910323) + (Go.bits .and .u64 (IntKind.u64.wrap ((Go.bits .and .u64 (a0 / 2) 6148914691236517205) + (Go.bits .and .u64 a0 6148914691236517205))) 3689348814741910323))) / 16) + (IntKind.u64.wrap ((Go.bits .and .u64 ((IntKind.u64.wrap ((Go.bits .and .u64 (a0 / 2) 6148914691236517205) + (Go.bits .and .u64 a0 6148914691236517205))) / 4) 3689348814741910323) + (Go.bits .and .u64 (IntKind.u64.wrap ((Go.bits .and .u64 (a0 / 2) 6148914691236517205) + (Go.bits .and .u64 a0 6148914691236517205))) 3689348814741910323))))) 1085102592571150095) / 256))) / 65536))) + ((IntKind.u64.wrap ((IntKind.u64.wrap ((Go.bits .and .u64 (IntKind.u64.wrap (((IntKind.u64.wrap ((Go.bits .and .u64 ((IntKind.u64.wrap ((Go.bits .and .u64 (a0 / 2) 6148914691236517205) + (Go.bits .and .u64 a0 6148914691236517205))) / 4) 3689348814741910323) + (Go.bits .and .u64 (IntKind.u64.wrap ((Go.bits .and .u64 (a0 / 2) 6148914691236517205) + (Go.bits .and .u64 a0 6148914691236517205))) 3689348814741910323))) / 16) + (IntKind.u64.wrap ((Go.bits .and .u64 ((IntKind.u64.wrap ((Go.bits .and .u64 (a0 / 2) 6148914691236517205) + (Go.bits .and .u64 a0 6148914691236517205))) / 4) 3689348814741910323) + (Go.bits .and .u64 (IntKind.u64.wrap ((Go.bits .and .u64 (a0 / 2) 6148914691236517205) + (Go.bits .and .u64 a0 6148914691236517205))) 3689348814741910323))))) 1085102592571150095) + ((Go.bits .and .u64 (IntKind.u64.wrap (((IntKind.u64.wrap ((Go.bits .and .u64 ((IntKind.u64.wrap ((Go.bits .and .u64 (a0 / 2) 6148914691236517205) + (Go.bits .and .u64 a0 6148914691236517205))) / 4) 3689348814741910323) + (Go.bits .and .u64 (IntKind.u64.wrap ((Go.bits .and .u64 (a0 / 2) 6148914691236517205) + (Go.bits .and .u64 a0 6148914691236517205))) 3689348814741910323))) / 16) + (IntKind.u64.wrap ((Go.bits .and .u64 ((IntKind.u64.wrap ((Go.bits .and .u64 (a0 / 2) 6148914691236517205) + (Go.bits .and .u64 a0 6148914691236517205))) / 4) 3689348814741910323) + (Go.bits .and .u64 (IntKind.u64.wrap ((Go.bits .and .u64 (a0 / 2) 6148914691236517205) + (Go.bits .and .u64 a0 6148914691236517205))) 3689348814741910323))))) 1085102592571150095) / 256))) + ((IntKind.u64.wrap ((Go.bits .and .u64 (IntKind.u64.wrap (((IntKind.u64.wrap ((Go.bits .and .u64 ((IntKind.u64.wrap ((Go.bits .and .u64 (a0 / 2) 6148914691236517205) + (Go.bits .and .u64 a0 6148914691236517205))) / 4) 3689348814741910323) + (Go.bits .and .u64 (IntKind.u64.wrap ((Go.bits .and .u64 (a0 / 2) 6148914691236517205) + (Go.bits .and .u64 a0 6148914691236517205))) 3689348814741910323))) / 16) + (IntKind.u64.wrap ((Go.bits .and .u64 ((IntKind.u64.wrap ((Go.bits .and .u64 (a0 / 2) 6148914691236517205) + (Go.bits .and .u64 a0 6148914691236517205))) / 4) 3689348814741910323) + (Go.bits .and .u64 (IntKind.u64.wrap ((Go.bits .and .u64 (a0 / 2) 6148914691236517205) + (Go.bits .and .u64 a0 6148914691236517205))) 3689348814741910323))))) 1085102592571150095) + ((Go.bits .and .u64 (IntKind.u64.wrap (((IntKind.u64.wrap ((Go.bits .and .u64 ((IntKind.u64.wrap ((Go.bits .and .u64 (a0 / 2) 6148914691236517205) + (Go.bits .and .u64 a0 6148914691236517205))) / 4) 3689348814741910323) + (Go.bits .and .u64 (IntKind.u64.wrap ((Go.bits .and .u64 (a0 / 2) 6148914691236517205) + (Go.bits .and .u64 a0 6148914691236517205))) 3689348814741910323))) / 16) + (IntKind.u64.wrap ((Go.bits .and .u64 ((IntKind.u64.wrap ((Go.bits .and .u64 (a0 / 2) 6148914691236517205) + (Go.bits .and .u64 a0 6148914691236517205))) / 4) 3689348814741910323) + (Go.bits .and .u64 (IntKind.u64.wrap ((Go.bits .and .u64 (a0 / 2) 6148914691236517205) + (Go.bits .and .u64 a0 6148914691236517205))) 3689348814741910323))))) 1085102592571150095) / 256))) / 65536))) / 4294967296)))) 127)) = some r := h
 clear h
 obtain rfl := Option.some.inj H
 go_enter Try.func174, Try.ntmps174
 go_wp2
 go_ret
 exact ⟨by first | rfl | (simp; done) | (simp [*]; done), by repeat (first | exact Drawn0.refl _ | apply Drawn0.step)⟩
def impl_size.f (a0 : Int) : Option (Int) := (bits_OnesCount64.f (IntKind.u64.wrap (a0))).bind fun t101 => (some t101)
set_option maxHeartbeats 8000000 in
set_option maxRecDepth 100000 in
theorem impl_size.calls (a0 : Int) (r : Int) (w : World) (h : impl_size.f a0 = some r) :
  Calls Try.prog 136 #[.int .i64 a0] w fun e w' => e = .returned (.int .i64 r) ∧ Drawn0 w w' := by
 have H : ((bits_OnesCount64.f (IntKind.u64.wrap (a0))).bind fun t101 => (some t101)) = some r := h
 clear h
 replace H := Option.bind_eq_some_iff.mp H
 obtain ⟨t101, A20, H⟩ := H
 try dsimp only at H
 have A2 := Aside0.mk A20
 clear A20
 obtain rfl := Option.some.inj H
 go_enter Try.func136, Try.ntmps136
 go_wp2_with (first | ((with_reducible refine gate_callee (f := 174) rfl ?_); refine cl_ (some 5) Try.func174 #[.int .u64 (IntKind.u64.wrap (a0))] ?_; (with_reducible refine (bits_OnesCount64.calls (IntKind.u64.wrap (a0)) t101 _ A2.out).mono ?_); rintro e w' ⟨rfl, ⟨nd, rfl⟩⟩; refine ⟨_, rfl, ?_⟩))
 go_ret
 exact ⟨by first | rfl | (simp; done) | (simp [*]; done), by repeat (first | exact Drawn0.refl _ | apply Drawn0.step)⟩
def impl_dimension.f (a0 : Int) : Option (Int) := (impl_size.f a0).bind fun t102 => (some (wrap64 (t102 - 1)))
set_option maxHeartbeats 8000000 in
set_option maxRecDepth 100000 in
theorem impl_dimension.calls (a0 : Int) (r : Int) (w : World) (h : impl_dimension.f a0 = some r) :
  Calls Try.prog 107 #[.int .i64 a0] w fun e w' => e = .returned (.int .i64 r) ∧ Drawn0 w w' := by
 have H : ((impl_size.f a0).bind fun t102 => (some (wrap64 (t102 - 1)))) = some r := h
 clear h
 replace H := Option.bind_eq_some_iff.mp H
 obtain ⟨t102, A20, H⟩ := H
 try dsimp only at H
 have A2 := Aside0.mk A20
 clear A20
 obtain rfl := Option.some.inj H
 go_enter Try.func107, Try.ntmps107
 go_wp2_with (first | ((with_reducible refine gate_callee (f := 136) rfl ?_); refine cl_ (some 4) Try.func136 #[.int .i64 a0] ?_; (with_reducible refine (impl_size.calls a0 t102 _ A2.out).mono ?_); rintro e w' ⟨rfl, ⟨nd, rfl⟩⟩; refine ⟨_, rfl, ?_⟩))
 go_ret
 exact ⟨by first | rfl | (simp; done) | (simp [*]; done), by repeat (first | exact Drawn0.refl _ | apply Drawn0.step)⟩
def impl_Complex_of_1.f (a0 : Int) (a1_0 : Int) : Option (Bool) := (impl_dimension.f a0).bind fun t104 => (some (t104 != a1_0))
set_option maxHeartbeats 8000000 in
set_option maxRecDepth 100000 in
theorem impl_Complex_of_1.calls (a0 : Int) (g1 : Nat) (a1_0 : Int) (r : Bool) (w : World) (hb1 : w.heap[g1]? = some (.cells #[.int .i64 a1_0] 2 (0, 0))) (h : impl_Complex_of_1.f a0 a1_0 = some r) :
  Calls Try.prog 186 #[.int .i64 a0, .pointer (some ⟨g1, 0, none⟩)] w fun e w' => e = .returned (.bool r) ∧ Drawn0 w w' := by
 have BK103 := Aside0.mk hb1
 clear hb1
 have H : ((impl_dimension.f a0).bind fun t104 => (some (t104 != a1_0))) = some r := h
 clear h
 replace H := Option.bind_eq_some_iff.mp H
 obtain ⟨t104, A30, H⟩ := H
 try dsimp only at H
 have A3 := Aside0.mk A30
 clear A30
 obtain rfl := Option.some.inj H
 go_enter Try.func186, Try.ntmps186
 go_wp2_with (first | (go_at_call 107; (with_reducible refine (impl_dimension.calls a0 t104 _ A3.out).mono ?_); rintro e w' ⟨rfl, ⟨nd, rfl⟩⟩; (try first | exact ⟨rfl, _, World.drewN_drewN _ _ _⟩ | exact ⟨rfl, _, Eq.trans (World.drewN_drewN _ _ _) (congrArg (World.drewN _) (Nat.add_assoc _ _ _))⟩); have hcz4_0 : w.cell? ⟨g1, 0, none⟩ = some (.int .i64 a1_0) := cB BK103 0; have hfz4_0 := zB BK103 0))
 repeat (go_quiet (first | (go_at_call 107; (with_reducible refine (impl_dimension.calls a0 t104 _ A3.out).mono ?_); rintro e w' ⟨rfl, ⟨nd, rfl⟩⟩; (try first | exact ⟨rfl, _, World.drewN_drewN _ _ _⟩ | exact ⟨rfl, _, Eq.trans (World.drewN_drewN _ _ _) (congrArg (World.drewN _) (Nat.add_assoc _ _ _))⟩); have hcz4_0 : w.cell? ⟨g1, 0, none⟩ = some (.int .i64 a1_0) := cB BK103 0; have hfz4_0 := zB BK103 0)); try go_wp2_with (first | (go_at_call 107; (with_reducible refine (impl_dimension.calls a0 t104 _ A3.out).mono ?_); rintro e w' ⟨rfl, ⟨nd, rfl⟩⟩; (try first | exact ⟨rfl, _, World.drewN_drewN _ _ _⟩ | exact ⟨rfl, _, Eq.trans (World.drewN_drewN _ _ _) (congrArg (World.drewN _) (Nat.add_assoc _ _ _))⟩); have hcz4_0 : w.cell? ⟨g1, 0, none⟩ = some (.int .i64 a1_0) := cB BK103 0; have hfz4_0 := zB BK103 0)))
 go_ret
 exact ⟨by first | rfl | (simp; done) | (simp [*]; done), by repeat (first | exact Drawn0.refl _ | apply Drawn0.step)⟩
def clo_186 (a1_0 : Int) : Pred := Pred.ofI (fun x => impl_Complex_of_1.f x a1_0)
set_option maxRecDepth 100000 in
theorem clo_ok_186 {W : World} {g1 : Nat} {a1_0 : Int} (hb1 : W.heap[g1]? = some (.cells #[.int .i64 a1_0] 2 (0, 0)))  : FnOk (.func (.func 186) #[] #[.pointer (some ⟨g1, 0, none⟩)]) (clo_186 a1_0) W :=
 FnOk.ofI (enters_of Try.func186 (by kernel_rfl) rfl) (fun V x b hV hr => by
  show Calls Try.prog 186 #[.int .i64 x, .pointer (some ⟨g1, 0, none⟩)] V _
  exact (impl_Complex_of_1.calls x g1 a1_0 b V ((hV.block g1 (blk_lt hb1)).trans hb1) hr).mono (fun e w' h_ => ⟨h_.1, h_.2.below⟩))
def impl_Complex_of.f (a0_0 : Int) (l0_1 : List Int) (a1 : Int) : Option (List Int) := (slices_Clone_int64_int64.f l0_1).bind fun t107 => ((slices_DeleteFunc_int64_int64.f t107 (clo_186 a1)).bind fun t110 => (some t110))
set_option maxHeartbeats 8000000 in
set_option maxRecDepth 100000 in
theorem impl_Complex_of.calls (a0_0 : Int) (A0_1 : Option Addr) (c0_1 : Nat) (l0_1 : List Int) (a1 : Int) (r : List Int) (w : World) (hr0_1 : Kd.C (Kd.int .i64) w A0_1 l0_1.length l0_1) (hc0_1 : l0_1.length ≤ c0_1) (h : impl_Complex_of.f a0_0 l0_1 a1 = some r) :
  Calls Try.prog 157 #[.agg #[.int .i64 a0_0, .slice A0_1 l0_1.length c0_1], .int .i64 a1] w fun e w' => ∃ v0_ : Value, e = .returned (v0_) ∧ Kd.R (Kd.int .i64) 2 w' w.heap.size (fun _ => True) v0_ r ∧ Below w.heap.size w w' := by
 have hu28 := Try.underlying28
 have HR0_1 := Aside0.mk hr0_1
 have HC0_1 := Aside0.mk hc0_1
 clear hr0_1 hc0_1
 have HB := Aside0.mk (Below.refl w.heap.size w)
 have H : ((slices_Clone_int64_int64.f l0_1).bind fun t107 => ((slices_DeleteFunc_int64_int64.f t107 (clo_186 a1)).bind fun t110 => (some t110))) = some r := h
 clear h
 replace H := Option.bind_eq_some_iff.mp H
 obtain ⟨t107, A30, H⟩ := H
 try dsimp only at H
 have A3 := Aside0.mk A30
 clear A30
 replace H := Option.bind_eq_some_iff.mp H
 obtain ⟨t110, A40, H⟩ := H
 try dsimp only at H
 have A4 := Aside0.mk A40
 clear A40
 obtain rfl := Option.some.inj H
 go_enter Try.func157, Try.ntmps157
 go_wp2_with (first | ((with_reducible refine gate_dst (N := 2) rfl ?_); refine box_event ?hg (N := 2) ?hd (cs := #[.int .i64 a0_0, .slice A0_1 l0_1.length c0_1]) (t := 28) ?hr ?_; (case hd => rfl); (case hg => rfl); (case hr => first | (go_simp; done) | (go_simp; rfl)); intro gb105 hg w5 hbox hb; have BK105 := Aside0.mk (hbox); have GW105 := gH HB hg; have GE105 := gH HB hg; replace HB := sH HB hb; clear hb hbox hg) | ((with_reducible refine gate_dst (N := 3) rfl ?_); refine box_event ?hg (N := 3) ?hd (cs := #[.int .i64 a1]) (t := 2) ?hr ?_; (case hd => rfl); (case hg => rfl); (case hr => first | (go_simp; done) | (go_simp; rfl)); intro gb106 hg w6 hbox hb; have BK106 := Aside0.mk (hbox); have GW106 := gH HB hg; have GE106 := gH HB hg; replace HB := sH HB hb; have NB105_106 := nB BK105 hg; have NB106_105 := oB BK105 hg; replace BK105 := sB BK105 hb; clear hb hbox hg; (try have hnb7 := NB105_106.out); (try have hnc7 := NB106_105.out); have hcz8_0 : w6.cell? ⟨gb105, 0, none⟩ = some (.int .i64 a0_0) := cB BK105 0; have hcz8_1 : w6.cell? ⟨gb105, 1, none⟩ = some (.slice A0_1 l0_1.length c0_1) := cB BK105 1; have hfz8_0 := zB BK105 0; have hfz8_1 := zB BK105 1) | ((with_reducible refine gate_callee (f := 122) rfl ?_); refine cl_ (some 7) Try.func122 #[.slice A0_1 l0_1.length c0_1] ?_; (with_reducible refine (slices_Clone_int64_int64.calls _ _ l0_1 t107 _ ?side1 ?side2 A3.out).mono ?_); (case side1 => exact pC ((Kd.C_below HR0_1.out HB.out))); (case side2 => exact HC0_1.out); rintro e w9 ⟨v108, rfl, ho0, hb⟩; refine ⟨_, rfl, ?_⟩; have HO109 := Aside0.mk (Kd.R_lower (Kd.R_newB ho0 (g := gb106) (o := .cells #[.int .i64 a1] 2 (0, 0)) (pB BK106)) (below_size (pH HB))); replace BK105 := sB BK105 hb; replace BK106 := sB BK106 hb; replace HB := sH HB hb; (try clear hb); (try clear hi); (try clear ho0); obtain ⟨Ao10, co10, eo10⟩ := Kd.R_slice HO109.out; subst eo10) | ((with_reducible refine gate_callee (f := 121) rfl ?_); refine cl_ (some 9) Try.func121 #[.slice Ao10 t107.length co10, .func (.func 186) #[] #[.pointer (some ⟨gb106, 0, none⟩)]] ?_; (with_reducible refine (slices_DeleteFunc_int64_int64.calls (fun k_ => some k_ = (.slice Ao10 t107.length co10 : Value).ownBlock) (.slice Ao10 t107.length co10) t107 _ (clo_186 a1) t110 w _ ?side1 ?side2 ?side3 A4.out).mono ?_); (case side1 => repeat (first | (with_reducible first | exact HB.out | apply below_alloc | apply pw_below_drewN | apply below_drew1 | refine below_set ?_ GE105.out | refine below_set ?_ GE106.out) | exact HB.out)); (case side2 => exact Kd.R_tight rfl HO109.out); (case side3 => intro W_ hK_; exact clo_ok_186 (blk_kept (pB BK106) hK_ (fun hs_ => (fun e_ => (Kd.R_away HO109.out (fun _ hk => hk.2)) e_) hs_)) ); rintro e w11 ⟨v111, rfl, ho0, hb, hkp⟩; refine ⟨_, rfl, ?_⟩; have n0_ := Aside0.mk (blk_kept (pB BK105) hkp (fun hs_ => (fun e_ => (Kd.R_ne HO109.out BK105.out (by decide)) e_) hs_)); have n1_ := Aside0.mk (blk_kept (pB BK106) hkp (fun hs_ => (fun e_ => (Kd.R_away HO109.out (fun _ hk => hk.2)) e_) hs_)); have n2_ := Aside0.mk (Kd.R_mono (ok' := fun k_ => k_ ≠ gb106) ho0 (fun k_ hk_ => Or.elim hk_ (fun hs_ => fun e_ => (Kd.R_away HO109.out (fun _ hk => hk.2)) (by rw [← e_]; exact hs_)) (fun hn_ => (Kd.freshB (g := gb106) (o := .cells #[.int .i64 a1] 2 (0, 0)) (pB BK106) k_ hn_)))); have n3_ := Aside0.mk (hb); clear BK105; clear BK106; clear HB; clear HO109; have BK105 := n0_; have BK106 := n1_; have HO112 := n2_; have HB := n3_; clear n0_ n1_ n2_ n3_; (try clear hb); (try clear hkp); (try clear ho0)))
 go_ret
 exact ⟨_, by first | rfl | (simp [errW_none, errW_some] <;> rfl) | (simp [*, errW_none, errW_some] <;> rfl) | (exfalso; simp_all), by (with_reducible repeat (first | apply Kd.R_alloc | apply Kd.R_drewN | apply Kd.R_drew)); exact Kd.R_mono HO112.out (fun _ hk => trivial), pH HB⟩
def impl_signs.l0 : Nat → Int → List Int → Int → Int → Option (List Int)
 | 0, _, _, _, _ => none
 | k + 1, x0, x3, x7, x8 => if x8 < x7 then ((impl_size.f x0).bind fun t116 => (if x3.length < 17592186044416 then (impl_signs.l0 k x0 (x3 ++ [wrap64 (1 - (wrap64 (2 * (Int.tmod (wrap64 ((wrap64 (t116 - 1)) - x8)) 2))))]) x7 (wrap64 (x8 + 1))) else (none))) else (some x3)
def impl_signs.f (k : Nat) (a0 : Int) : Option (List Int) := (impl_borders.f a0).bind fun t113 => (impl_signs.l0 k a0 ([] : List Int) (t113.length : Int) 0)
theorem impl_signs.mono_l : ∀ k, (∀ y0 y1 y2 y3, LeO (impl_signs.l0 k y0 y1 y2 y3) (impl_signs.l0 (k + 1) y0 y1 y2 y3))
 | 0 => fun _ _ _ _ r h => by simp [impl_signs.l0] at h
 | k + 1 => by
  have ih0 := impl_signs.mono_l k
  ·intro y0 y1 y2 y3
   unfold impl_signs.l0
   repeat' first
   | (with_reducible exact ih0 _ _ _ _)
   | (with_reducible exact LeO.refl _)
   | (with_reducible exact LeO.none _)
   | (with_reducible refine LeO.ite ?_ ?_)
   | (with_reducible refine LeO.bind ?_ (fun _ => ?_))
   | exact ih0 _ _ _ _
   | exact LeO.none _
   | refine LeO.ite ?_ ?_
   | refine LeO.bind ?_ (fun _ => ?_)
theorem impl_signs.mono : ∀ a0 k, LeO (impl_signs.f k a0) (impl_signs.f (k + 1) a0) := by
 intro a0 k
 have ih0 := impl_signs.mono_l k
 unfold impl_signs.f
 repeat' first
   | (with_reducible exact ih0 _ _ _ _)
   | (with_reducible exact LeO.refl _)
   | (with_reducible exact LeO.none _)
   | (with_reducible refine LeO.ite ?_ ?_)
   | (with_reducible refine LeO.bind ?_ (fun _ => ?_))
   | exact ih0 _ _ _ _
   | exact LeO.none _
   | refine LeO.ite ?_ ?_
   | refine LeO.bind ?_ (fun _ => ?_)
set_option maxHeartbeats 8000000 in
set_option maxRecDepth 100000 in
theorem impl_signs.calls (k : Nat) (a0 : Int) (r : List Int) (w : World) (h : impl_signs.f k a0 = some r) :
  Calls Try.prog 159 #[.int .i64 a0] w fun e w' => ∃ v0_ : Value, e = .returned (v0_) ∧ Kd.R (Kd.int .i64) 2 w' w.heap.size (fun _ => True) v0_ r ∧ Below w.heap.size w w' := by
 have HB := Aside0.mk (Below.refl w.heap.size w)
 have H : ((impl_borders.f a0).bind fun t113 => (impl_signs.l0 k a0 ([] : List Int) (t113.length : Int) 0)) = some r := h
 clear h
 replace H := Option.bind_eq_some_iff.mp H
 obtain ⟨t113, A20, H⟩ := H
 try dsimp only at H
 have A2 := Aside0.mk A20
 clear A20
 have H' := Aside0.mk H
 clear H
 go_enter Try.func159, Try.ntmps159
 go_wp2_with (first | ((with_reducible refine gate_callee (f := 155) rfl ?_); refine cl_ (some 6) Try.func155 #[.int .i64 a0] ?_; (with_reducible refine (impl_borders.calls a0 t113 _ A2.out).mono ?_); rintro e w3 ⟨v114, rfl, ho0, hb⟩; refine ⟨_, rfl, ?_⟩; have HO115 := Aside0.mk (Kd.R_lower ho0 (below_size (pH HB))); replace HB := sH HB hb; (try clear hb); (try clear hi); (try clear ho0); obtain ⟨Ao4, co4, eo4⟩ := Kd.R_slice HO115.out; subst eo4))
 go_loopg [3, 8] k (fun kq v3 v8 w' => ∃ (x3_1 : List Int) (x8_1 : Int), v8 = .int .i64 x8_1 ∧ Aside0 (impl_signs.l0 kq a0 x3_1 (t113.length : Int) x8_1 = some r) ∧ Aside0 (kq ≤ k) ∧ Aside0 (Kd.R (Kd.int .i64) 2 w' w.heap.size (fun _ => True) v3 x3_1) ∧ Aside0 (Below w.heap.size w w'))
 case atStart => exact ⟨(([] : List Int)), (0), (by first | rfl | (simp; done) | (simp [*]; done)), H', ⟨Nat.le_refl _⟩, ⟨by first | exact Kd.R_nil _ _ _ _ _ | exact Kd.N_nil _ _ _ _ _ | exact Kd.V_nil _ _ _ _ _ | exact Kd.Q_nil _ _ _ _ _ | exact Kd.S_nil _ _ _ _ _⟩, ⟨pH HB⟩⟩
 case round =>
  clear H'
  try clear c1
  try clear p2
  obtain ⟨x3_1, x8_1, rfl, HA, HK1, HO_3, HB⟩ := hrel
  cases gk with
  | zero => exact absurd HA.out (by simp [impl_signs.l0])
  | succ k1 =>
   have H := HA.out
   clear HA
   simp only [impl_signs.l0] at H
   by_cases c5 : x8_1 < (t113.length : Int)
   ·rw [if_pos c5] at H
    have c5b0 : decide (x8_1 < (t113.length : Int)) = true := decide_eq_true c5
    clear c5
    replace H := Option.bind_eq_some_iff.mp H
    obtain ⟨t116, A60, H⟩ := H
    try dsimp only at H
    have A6 := Aside0.mk A60
    clear A60
    by_cases c7 : x3_1.length < 17592186044416
    ·rw [if_pos c7] at H
     have LMc7 := Aside0.mk c7
     clear c7
     obtain ⟨y117, hy117⟩ : ∃ y_ : List Int, y_ = (x3_1 ++ [wrap64 (1 - (wrap64 (2 * (Int.tmod (wrap64 ((wrap64 (t116 - 1)) - x8_1)) 2))))]) := ⟨_, rfl⟩
     replace H : (impl_signs.l0 k1 a0 y117 (t113.length : Int) (wrap64 (x8_1 + 1))) = some r := by first | (rw [hy117]; with_reducible exact H) | (have H2_ := (Option.bind_some _ _).symm.trans H; rw [hy117]; with_reducible exact H2_) | (have H2_ := (Option.bind_some _ _).symm.trans H; with_reducible exact H2_) | with_reducible exact H | (rw [hy117]; exact H) | exact H
     have Ny117 := Aside0.mk hy117
     clear hy117
     have H' := Aside0.mk H
     clear H
     go_wp2_with (first | ((with_reducible refine gate_callee (f := 136) rfl ?_); refine cl_ (some 13) Try.func136 #[.int .i64 a0] ?_; (with_reducible refine (impl_size.calls a0 t116 _ A6.out).mono ?_); rintro e w' ⟨rfl, ⟨nd, rfl⟩⟩; refine ⟨_, rfl, ?_⟩) | ((with_reducible refine gate_builtin (b := .append) (xs := #[.tmp 11, .tmp 20]) rfl ?_); at_builtin; refine Kd.R_append (Kd.int .i64) (w0 := w) w.heap.size rfl (.tmp 11) (.tmp 20) 22 2 (.int .i64 0) 8 rfl Try.underlying22 info2 rfl (by decide) (by omega) u3 x3_1 (wrap64 (1 - (wrap64 (2 * (Int.tmod (wrap64 ((wrap64 (t116 - 1)) - x8_1)) 2))))) [.int .i64 (wrap64 (1 - (wrap64 (2 * (Int.tmod (wrap64 ((wrap64 (t116 - 1)) - x8_1)) 2)))))] (fun _ => True) (fun _ => False) rfl rfl ?aP (fun _ hk => hk.elim) ?aF ?aO ?aB ?aS ?aL ?_; (case aP => exact rfl); (case aB => exact (pH HB)); (case aF => exact (fun _ _ => trivial)); (case aO => exact (pR HO_3)); (case aS => exact (below_size (pH HB))); (case aL => have := LMc7.out; omega); intro v118 w8 ho hb hg hat; rw [← Ny117.out] at ho; replace HB := Aside0.mk (hb); have HO119 := Aside0.mk (ho); clear HO_3; clear ho hb hg hat))
     go_roundg k1
     case measure => have := HK1.out; omega
     case rel => exact ⟨(y117), (wrap64 (x8_1 + 1)), (by first | rfl | (simp; done) | (simp [*]; done)), H', ⟨by have := HK1.out; omega⟩, ⟨by (with_reducible repeat (first | apply Kd.R_alloc | apply Kd.R_drewN | apply Kd.R_drew)); exact HO119.out⟩, ⟨pH HB⟩⟩
    ·rw [if_neg c7] at H
     exact absurd H (by simp)
   ·rw [if_neg c5] at H
    have c5b0 : decide (x8_1 < (t113.length : Int)) = false := decide_eq_false c5
    clear c5
    obtain rfl := Option.some.inj H
    go_wp2
    go_ret
    exact ⟨_, by first | rfl | (simp [errW_none, errW_some] <;> rfl) | (simp [*, errW_none, errW_some] <;> rfl) | (exfalso; simp_all), by (with_reducible repeat (first | apply Kd.R_alloc | apply Kd.R_drewN | apply Kd.R_drew)); exact HO_3.out, pH HB⟩
def cmp_isNaN_int64.f (a0 : Int) : Option (Bool) := some (a0 != a0)
set_option maxHeartbeats 8000000 in
set_option maxRecDepth 100000 in
theorem cmp_isNaN_int64.calls (a0 : Int) (r : Bool) (w : World) (h : cmp_isNaN_int64.f a0 = some r) :
  Calls Try.prog 199 #[.int .i64 a0] w fun e w' => e = .returned (.bool r) ∧ Drawn0 w w' := by
 have H : (some (a0 != a0)) = some r := h
 clear h
 obtain rfl := Option.some.inj H
 go_enter Try.func199, Try.ntmps199
 go_wp2
 go_ret
 exact ⟨by first | rfl | (simp; done) | (simp [*]; done), by repeat (first | exact Drawn0.refl _ | apply Drawn0.step)⟩
def cmp_Less_int64.f (a0 : Int) (a1 : Int) : Option (Bool) := (cmp_isNaN_int64.f a0).bind fun t120 => (if t120 = true then ((cmp_isNaN_int64.f a1).bind fun t121 => (if t121 = true then (some (decide (a0 < a1))) else (some true))) else (some (decide (a0 < a1))))
set_option maxHeartbeats 8000000 in
set_option maxRecDepth 100000 in
theorem cmp_Less_int64.calls (a0 : Int) (a1 : Int) (r : Bool) (w : World) (h : cmp_Less_int64.f a0 a1 = some r) :
  Calls Try.prog 187 #[.int .i64 a0, .int .i64 a1] w fun e w' => e = .returned (.bool r) ∧ Drawn0 w w' := by
 have H : ((cmp_isNaN_int64.f a0).bind fun t120 => (if t120 = true then ((cmp_isNaN_int64.f a1).bind fun t121 => (if t121 = true then (some (decide (a0 < a1))) else (some true))) else (some (decide (a0 < a1))))) = some r := h
 clear h
 replace H := Option.bind_eq_some_iff.mp H
 obtain ⟨t120, A30, H⟩ := H
 try dsimp only at H
 have A3 := Aside0.mk A30
 clear A30
 by_cases c4 : t120 = true
 ·subst c4
  have H1 : ((cmp_isNaN_int64.f a1).bind fun t121 => (if t121 = true then (some (decide (a0 < a1))) else (some true))) = some r := by rw [if_pos rfl] at H; exact H
  clear H
  have H := H1
  clear H1
  replace H := Option.bind_eq_some_iff.mp H
  obtain ⟨t121, A50, H⟩ := H
  try dsimp only at H
  have A5 := Aside0.mk A50
  clear A50
  by_cases c6 : t121 = true
  ·subst c6
   have H1 : (some (decide (a0 < a1))) = some r := by rw [if_pos rfl] at H; exact H
   clear H
   have H := H1
   clear H1
   obtain rfl := Option.some.inj H
   go_enter Try.func187, Try.ntmps187
   go_wp2_with (first | ((with_reducible refine gate_callee (f := 199) rfl ?_); refine cl_ (some 6) Try.func199 #[.int .i64 a0] ?_; (with_reducible refine (cmp_isNaN_int64.calls a0 true _ A3.out).mono ?_); rintro e w' ⟨rfl, ⟨nd, rfl⟩⟩; refine ⟨_, rfl, ?_⟩) | (go_at_call 199; (with_reducible refine (cmp_isNaN_int64.calls a1 true _ A5.out).mono ?_); rintro e w' ⟨rfl, ⟨nd, rfl⟩⟩))
   go_ret
   exact ⟨by first | rfl | (simp; done) | (simp [*]; done), by repeat (first | exact Drawn0.refl _ | apply Drawn0.step)⟩
  ·replace c6 := Bool.eq_false_iff.mpr c6
   subst c6
   have H1 : (some true) = some r := by rw [if_neg (show ¬ (false = true) by decide)] at H; exact H
   clear H
   have H := H1
   clear H1
   obtain rfl := Option.some.inj H
   go_enter Try.func187, Try.ntmps187
   go_wp2_with (first | ((with_reducible refine gate_callee (f := 199) rfl ?_); refine cl_ (some 6) Try.func199 #[.int .i64 a0] ?_; (with_reducible refine (cmp_isNaN_int64.calls a0 true _ A3.out).mono ?_); rintro e w' ⟨rfl, ⟨nd, rfl⟩⟩; refine ⟨_, rfl, ?_⟩) | (go_at_call 199; (with_reducible refine (cmp_isNaN_int64.calls a1 false _ A5.out).mono ?_); rintro e w' ⟨rfl, ⟨nd, rfl⟩⟩))
   go_ret
   exact ⟨by first | rfl | (simp; done) | (simp [*]; done), by repeat (first | exact Drawn0.refl _ | apply Drawn0.step)⟩
 ·replace c4 := Bool.eq_false_iff.mpr c4
  subst c4
  have H1 : (some (decide (a0 < a1))) = some r := by rw [if_neg (show ¬ (false = true) by decide)] at H; exact H
  clear H
  have H := H1
  clear H1
  obtain rfl := Option.some.inj H
  go_enter Try.func187, Try.ntmps187
  go_wp2_with (first | ((with_reducible refine gate_callee (f := 199) rfl ?_); refine cl_ (some 6) Try.func199 #[.int .i64 a0] ?_; (with_reducible refine (cmp_isNaN_int64.calls a0 false _ A3.out).mono ?_); rintro e w' ⟨rfl, ⟨nd, rfl⟩⟩; refine ⟨_, rfl, ?_⟩))
  go_ret
  exact ⟨by first | rfl | (simp; done) | (simp [*]; done), by repeat (first | exact Drawn0.refl _ | apply Drawn0.step)⟩
def slices_isNaN_int64.f (a0 : Int) : Option (Bool) := some (a0 != a0)
set_option maxHeartbeats 8000000 in
set_option maxRecDepth 100000 in
theorem slices_isNaN_int64.calls (a0 : Int) (r : Bool) (w : World) (h : slices_isNaN_int64.f a0 = some r) :
  Calls Try.prog 188 #[.int .i64 a0] w fun e w' => e = .returned (.bool r) ∧ Drawn0 w w' := by
 have H : (some (a0 != a0)) = some r := h
 clear h
 obtain rfl := Option.some.inj H
 go_enter Try.func188, Try.ntmps188
 go_wp2
 go_ret
 exact ⟨by first | rfl | (simp; done) | (simp [*]; done), by repeat (first | exact Drawn0.refl _ | apply Drawn0.step)⟩
def slices_BinarySearch_int64_int64.l0 : Nat → List Int → Int → Int → Int → Int → Option (Int × Bool)
 | 0, _, _, _, _, _ => none
 | k + 1, x0, x1, x6, x7, x8 => if x7 < x8 then (if 0 ≤ (wrap64 ((IntKind.u64.wrap (wrap64 (x7 + x8))) / 2)) then (if (wrap64 ((IntKind.u64.wrap (wrap64 (x7 + x8))) / 2)) < (x0.length : Int) then ((cmp_Less_int64.f (rd x0 (wrap64 ((IntKind.u64.wrap (wrap64 (x7 + x8))) / 2))) x1).bind fun t123 => (if t123 = true then (slices_BinarySearch_int64_int64.l0 k x0 x1 x6 (wrap64 ((wrap64 ((IntKind.u64.wrap (wrap64 (x7 + x8))) / 2)) + 1)) x8) else (slices_BinarySearch_int64_int64.l0 k x0 x1 x6 x7 (wrap64 ((IntKind.u64.wrap (wrap64 (x7 + x8))) / 2))))) else (none)) else (none)) else (if x7 < x6 then (if 0 ≤ x7 then (if x7 < (x0.length : Int) then (if (rd x0 x7) = x1 then (some (x7, true)) else ((slices_isNaN_int64.f (rd x0 x7)).bind fun t126 => (if t126 = true then ((slices_isNaN_int64.f x1).bind fun t127 => (some (x7, t127))) else (some (x7, false))))) else (none)) else (none)) else (some (x7, false)))
def slices_BinarySearch_int64_int64.f (k : Nat) (l0 : List Int) (a1 : Int) : Option (Int × Bool) := slices_BinarySearch_int64_int64.l0 k l0 a1 (l0.length : Int) 0 (l0.length : Int)
set_option maxHeartbeats 8000000 in
set_option maxRecDepth 100000 in
theorem slices_BinarySearch_int64_int64.calls (k : Nat) (A0 : Option Addr) (c0 : Nat) (l0 : List Int) (a1 : Int) (r1 : Int) (r2 : Bool) (w : World) (hr0 : Kd.C (Kd.int .i64) w A0 l0.length l0) (hc0 : l0.length ≤ c0) (h : slices_BinarySearch_int64_int64.f k l0 a1 = some (r1, r2)) :
  Calls Try.prog 158 #[.slice A0 l0.length c0, .int .i64 a1] w fun e w' => e = .returned (.tuple #[.int .i64 r1, .bool r2]) ∧ Drawn0 w w' := by
 have HR0 := Aside0.mk hr0
 have HC0 := Aside0.mk hc0
 clear hr0 hc0
 have H : (slices_BinarySearch_int64_int64.l0 k l0 a1 (l0.length : Int) 0 (l0.length : Int)) = some (r1, r2) := h
 clear h
 have H' := Aside0.mk H
 clear H
 go_enter Try.func158, Try.ntmps158
 go_wp2
 go_loopg [7, 8] k (fun kq v7 v8 w' => ∃ (x7_1 : Int) (x8_1 : Int), v7 = .int .i64 x7_1 ∧ v8 = .int .i64 x8_1 ∧ Aside0 (slices_BinarySearch_int64_int64.l0 kq l0 a1 (l0.length : Int) x7_1 x8_1 = some (r1, r2)) ∧ Aside0 (kq ≤ k) ∧ Drawn0 w w')
 case atStart => exact ⟨(0), ((l0.length : Int)), (by first | rfl | (simp; done) | (simp [*]; done)), (by first | rfl | (simp; done) | (simp [*]; done)), H', ⟨Nat.le_refl _⟩, by repeat (first | exact Drawn0.refl _ | apply Drawn0.step)⟩
 case round =>
  clear H'
  try clear c1
  try clear p2
  obtain ⟨x7_1, x8_1, rfl, rfl, HA, HK1, ⟨m1, rfl⟩⟩ := hrel
  cases gk with
  | zero => exact absurd HA.out (by simp [slices_BinarySearch_int64_int64.l0])
  | succ k1 =>
   have H := HA.out
   clear HA
   simp only [slices_BinarySearch_int64_int64.l0] at H
   by_cases c3 : x7_1 < x8_1
   ·rw [if_pos c3] at H
    have c3b0 : decide (x7_1 < x8_1) = true := decide_eq_true c3
    clear c3
    obtain ⟨ji4, hji4⟩ : ∃ j_ : Int, (wrap64 ((IntKind.u64.wrap (wrap64 (x7_1 + x8_1))) / 2)) = j_ := ⟨_, rfl⟩
    replace H : (if 0 ≤ (ji4) then (if (ji4) < (l0.length : Int) then ((cmp_Less_int64.f (rd l0 (ji4)) a1).bind fun t123 => (if t123 = true then (slices_BinarySearch_int64_int64.l0 k1 l0 a1 (l0.length : Int) (wrap64 ((ji4) + 1)) x8_1) else (slices_BinarySearch_int64_int64.l0 k1 l0 a1 (l0.length : Int) x7_1 ji4))) else (none)) else (none)) = some (r1, r2) := by first | (rw [hji4] at H; exact H) | (simp only [hji4] at H ⊢; exact H)
    have hji4w : (IntKind.i64.wrap ((IntKind.u64.wrap (wrap64 (x7_1 + x8_1))) / 2)) = ji4 := (i64_w _).trans hji4
    by_cases c5 : 0 ≤ (ji4)
    ·rw [if_pos c5] at H
     have c5b0 : decide (0 ≤ (ji4)) = true := decide_eq_true c5
     clear c5
     by_cases c6 : (ji4) < (l0.length : Int)
     ·rw [if_pos c6] at H
      have c6b0 : decide ((ji4) < (l0.length : Int)) = true := decide_eq_true c6
      clear c6
      replace H := Option.bind_eq_some_iff.mp H
      obtain ⟨t123, A70, H⟩ := H
      try dsimp only at H
      have A7 := Aside0.mk A70
      clear A70
      by_cases c8 : t123 = true
      ·subst c8
       have H1 : (slices_BinarySearch_int64_int64.l0 k1 l0 a1 (l0.length : Int) (wrap64 ((ji4) + 1)) x8_1) = some (r1, r2) := by rw [if_pos rfl] at H; exact H
       clear H
       have H := H1
       clear H1
       have H' := Aside0.mk H
       clear H
       have p122 : 0 ≤ ((ji4) : Int) := of_decide_eq_true (by first | (with_reducible assumption) | assumption)
       have q122 : (ji4) < (l0.length : Int) := of_decide_eq_true (by first | (with_reducible assumption) | assumption)
       obtain ⟨ad122, e122, hx122_0⟩ := Kd.at_int HR0.out (ji4) p122 q122
       cases e122
       replace p122 := eq_true p122
       replace q122 := eq_true q122
       go_wp2_with (first | ((with_reducible refine gate_callee (f := 187) rfl ?_); refine cl_ (some 27) Try.func187 #[.int .i64 (rd l0 (ji4)), .int .i64 a1] (hargs := by (try simp only [List.map_toArray, List.map_cons, List.map_nil]); first | done | (simp only [hji4]; rfl) | rfl | (simp only [List.length_drop, List.length_take]; rfl)) ?_; (with_reducible refine (cmp_Less_int64.calls (rd l0 (ji4)) a1 true _ A7.out).mono ?_); rintro e w' ⟨rfl, ⟨nd, rfl⟩⟩; refine ⟨_, rfl, ?_⟩))
       go_roundg k1
       case measure => have := HK1.out; omega
       case rel => exact ⟨(wrap64 ((ji4) + 1)), (x8_1), (by first | rfl | (simp; done) | (simp only [← hji4] <;> (first | rfl | simp)) | (simp [*]; done)), (by first | rfl | (simp; done) | (simp [*]; done)), H', ⟨by have := HK1.out; omega⟩, by repeat (first | exact Drawn0.refl _ | apply Drawn0.step)⟩
      ·replace c8 := Bool.eq_false_iff.mpr c8
       subst c8
       have H1 : (slices_BinarySearch_int64_int64.l0 k1 l0 a1 (l0.length : Int) x7_1 ji4) = some (r1, r2) := by rw [if_neg (show ¬ (false = true) by decide)] at H; exact H
       clear H
       have H := H1
       clear H1
       have H' := Aside0.mk H
       clear H
       have p122 : 0 ≤ ((ji4) : Int) := of_decide_eq_true (by first | (with_reducible assumption) | assumption)
       have q122 : (ji4) < (l0.length : Int) := of_decide_eq_true (by first | (with_reducible assumption) | assumption)
       obtain ⟨ad122, e122, hx122_0⟩ := Kd.at_int HR0.out (ji4) p122 q122
       cases e122
       replace p122 := eq_true p122
       replace q122 := eq_true q122
       go_wp2_with (first | ((with_reducible refine gate_callee (f := 187) rfl ?_); refine cl_ (some 27) Try.func187 #[.int .i64 (rd l0 (ji4)), .int .i64 a1] (hargs := by (try simp only [List.map_toArray, List.map_cons, List.map_nil]); first | done | (simp only [hji4]; rfl) | rfl | (simp only [List.length_drop, List.length_take]; rfl)) ?_; (with_reducible refine (cmp_Less_int64.calls (rd l0 (ji4)) a1 false _ A7.out).mono ?_); rintro e w' ⟨rfl, ⟨nd, rfl⟩⟩; refine ⟨_, rfl, ?_⟩))
       go_roundg k1
       case measure => have := HK1.out; omega
       case rel => exact ⟨(x7_1), (ji4), (by first | rfl | (simp; done) | (simp [*]; done)), (by first | rfl | (simp; done) | (simp only [← hji4] <;> (first | rfl | simp)) | (simp [*]; done)), H', ⟨by have := HK1.out; omega⟩, by repeat (first | exact Drawn0.refl _ | apply Drawn0.step)⟩
     ·rw [if_neg c6] at H
      exact absurd H (by simp)
    ·rw [if_neg c5] at H
     exact absurd H (by simp)
   ·rw [if_neg c3] at H
    have c3b0 : decide (x7_1 < x8_1) = false := decide_eq_false c3
    clear c3
    by_cases c9 : x7_1 < (l0.length : Int)
    ·rw [if_pos c9] at H
     have c9b0 : decide (x7_1 < (l0.length : Int)) = true := decide_eq_true c9
     clear c9
     by_cases c10 : 0 ≤ x7_1
     ·rw [if_pos c10] at H
      have c10b0 : decide (0 ≤ x7_1) = true := decide_eq_true c10
      clear c10
      by_cases c11 : x7_1 < (l0.length : Int)
      ·rw [if_pos c11] at H
       have c11b0 : decide (x7_1 < (l0.length : Int)) = true := decide_eq_true c11
       clear c11
       by_cases c12 : (rd l0 x7_1) = a1
       ·rw [if_pos c12] at H
        have c12b0 : ((rd l0 x7_1) == a1) = true := beq_iff_eq.mpr c12
        have c12b1 : ((rd l0 x7_1) != a1) = false := bne_eq_false_iff_eq.mpr c12
        clear c12
        simp only [Option.some.injEq, Prod.mk.injEq] at H
        obtain ⟨rfl, rfl⟩ := H
        have p124 : 0 ≤ (x7_1 : Int) := of_decide_eq_true (by first | (with_reducible assumption) | assumption)
        have q124 : x7_1 < (l0.length : Int) := of_decide_eq_true (by first | (with_reducible assumption) | assumption)
        obtain ⟨ad124, e124, hx124_0⟩ := Kd.at_int HR0.out x7_1 p124 q124
        cases e124
        replace p124 := eq_true p124
        replace q124 := eq_true q124
        go_wp2
        go_ret2
        exact ⟨by first | rfl | (simp; done) | (simp [*]; done), by repeat (first | exact Drawn0.refl _ | apply Drawn0.step)⟩
       ·rw [if_neg c12] at H
        have c12b0 : ((rd l0 x7_1) == a1) = false := beq_eq_false_iff_ne.mpr c12
        have c12b1 : ((rd l0 x7_1) != a1) = true := bne_iff_ne.mpr c12
        replace H := Option.bind_eq_some_iff.mp H
        obtain ⟨t126, A130, H⟩ := H
        try dsimp only at H
        have A13 := Aside0.mk A130
        clear A130
        by_cases c14 : t126 = true
        ·subst c14
         have H1 : ((slices_isNaN_int64.f a1).bind fun t127 => (some (x7_1, t127))) = some (r1, r2) := by rw [if_pos rfl] at H; exact H
         clear H
         have H := H1
         clear H1
         replace H := Option.bind_eq_some_iff.mp H
         obtain ⟨t127, A150, H⟩ := H
         try dsimp only at H
         have A15 := Aside0.mk A150
         clear A150
         simp only [Option.some.injEq, Prod.mk.injEq] at H
         obtain ⟨rfl, rfl⟩ := H
         have p124 : 0 ≤ (x7_1 : Int) := of_decide_eq_true (by first | (with_reducible assumption) | assumption)
         have q124 : x7_1 < (l0.length : Int) := of_decide_eq_true (by first | (with_reducible assumption) | assumption)
         obtain ⟨ad124, e124, hx124_0⟩ := Kd.at_int HR0.out x7_1 p124 q124
         cases e124
         replace p124 := eq_true p124
         replace q124 := eq_true q124
         have p125 : 0 ≤ (x7_1 : Int) := of_decide_eq_true (by first | (with_reducible assumption) | assumption)
         have q125 : x7_1 < (l0.length : Int) := of_decide_eq_true (by first | (with_reducible assumption) | assumption)
         obtain ⟨ad125, e125, hx125_0⟩ := Kd.at_int HR0.out x7_1 p125 q125
         obtain rfl : ad124 = ad125 := (by injection e125)
         replace p125 := eq_true p125
         replace q125 := eq_true q125
         go_wp2_with (first | (go_at_call 188; (with_reducible refine (slices_isNaN_int64.calls (rd l0 x7_1) true _ A13.out).mono ?_); rintro e w' ⟨rfl, ⟨nd, rfl⟩⟩) | (go_at_call 188; (with_reducible refine (slices_isNaN_int64.calls a1 t127 _ A15.out).mono ?_); rintro e w' ⟨rfl, ⟨nd, rfl⟩⟩))
         go_ret2
         exact ⟨by first | rfl | (simp; done) | (simp [*]; done), by repeat (first | exact Drawn0.refl _ | apply Drawn0.step)⟩
        ·replace c14 := Bool.eq_false_iff.mpr c14
         subst c14
         have H1 : (some (x7_1, false)) = some (r1, r2) := by rw [if_neg (show ¬ (false = true) by decide)] at H; exact H
         clear H
         have H := H1
         clear H1
         simp only [Option.some.injEq, Prod.mk.injEq] at H
         obtain ⟨rfl, rfl⟩ := H
         have p124 : 0 ≤ (x7_1 : Int) := of_decide_eq_true (by first | (with_reducible assumption) | assumption)
         have q124 : x7_1 < (l0.length : Int) := of_decide_eq_true (by first | (with_reducible assumption) | assumption)
         obtain ⟨ad124, e124, hx124_0⟩ := Kd.at_int HR0.out x7_1 p124 q124
         cases e124
         replace p124 := eq_true p124
         replace q124 := eq_true q124
         have p125 : 0 ≤ (x7_1 : Int) := of_decide_eq_true (by first | (with_reducible assumption) | assumption)
         have q125 : x7_1 < (l0.length : Int) := of_decide_eq_true (by first | (with_reducible assumption) | assumption)
         obtain ⟨ad125, e125, hx125_0⟩ := Kd.at_int HR0.out x7_1 p125 q125
         obtain rfl : ad124 = ad125 := (by injection e125)
         replace p125 := eq_true p125
         replace q125 := eq_true q125
         go_wp2_with (first | (go_at_call 188; (with_reducible refine (slices_isNaN_int64.calls (rd l0 x7_1) false _ A13.out).mono ?_); rintro e w' ⟨rfl, ⟨nd, rfl⟩⟩))
         go_ret2
         exact ⟨by first | rfl | (simp; done) | (simp [*]; done), by repeat (first | exact Drawn0.refl _ | apply Drawn0.step)⟩
      ·rw [if_neg c11] at H
       exact absurd H (by simp)
     ·rw [if_neg c10] at H
      exact absurd H (by simp)
    ·rw [if_neg c9] at H
     have c9b0 : decide (x7_1 < (l0.length : Int)) = false := decide_eq_false c9
     clear c9
     simp only [Option.some.injEq, Prod.mk.injEq] at H
     obtain ⟨rfl, rfl⟩ := H
     go_wp2
     go_ret2
     exact ⟨by first | rfl | (simp; done) | (simp [*]; done), by repeat (first | exact Drawn0.refl _ | apply Drawn0.step)⟩
end Go.Proofs.Ytomdfjohnmikdaa.QO
namespace Go.Proofs.Ytomdfjohnmikdaa.Im
set_option linter.unusedVariables false
set_option linter.unusedSimpArgs false
open Go.RowKit Go.Shelf Go.Proofs.Ytomdfjohnmikdaa.Cw Go.Proofs.Ytomdfjohnmikdaa.Ext Go.Proofs.YtomdfjohnmikdaaW.PrintWords Go.Proofs.YtomdfjohnmikdaaW.PrintLast Go.Proofs.YtomdfjohnmikdaaW.PrintMore
theorem elimAll_nil (lo : Nat → Nat) (m : Nat) : elimAll lo [] m = ([], 0) := by
  unfold elimAll
  induction m with
  | zero => rfl
  | succ m ih => rw [List.range_succ, List.foldl_append, ih]; rfl
theorem xr_mod2 {x t y : Int} (hx : Bit x) (ht : Bit t) (hy : Bit y) : wrap64 (t * y) = t * y ∧ wrap64 (x - t * y) = x - t * y ∧ wrap64 (Int.tmod (x - t * y) 2 + 2) = Int.tmod (x - t * y) 2 + 2 ∧ Int.tmod (Int.tmod (x - t * y) 2 + 2) 2 = xr x t y := by
  unfold Bit at *
  rcases hx with rfl | rfl <;> rcases ht with rfl | rfl <;> rcases hy with rfl | rfl <;> (refine ⟨?_, ?_, ?_, ?_⟩ <;> first | decide | simp [xr, wrap64])
/-- A variable of the loop, in a block of its own. -/
def CB (W : World) (y c : Nat) : Prop := W.heap[y]? = some (.cells #[.int .i64 c] 3 (0, 0))
section
variable {W W1 : World} {y c base b cap n m : Nat} {bs : List Nat} {M : List (List Int)}
theorem CB.cell (h : CB W y c) : W.cell? ⟨y, 0, none⟩ = some (.int .i64 c) := (cell_of_row W y 0 _ _ _ h).trans rfl
theorem CB.below (h : CB W y c) (hb : Below W.heap.size W W1) : CB W1 y c := (hb.block _ (blk_lt h)).trans h
theorem CB.outer (h : CB W y c) (ho : MxO W base b cap bs m) (j : Nat) (u : Value) : CB (W.setCell ⟨b, j, none⟩ u) y c := by
  obtain ⟨_, _, _, rest, _, h5⟩ := ho
  exact (Below.heap_setCell W ⟨b, j, none⟩ u y (blk_ne h h5 (by decide))).trans h
theorem CB.inner (h : CB W y c) (hi : MxI W base bs m M) {i x : Nat} (hx : ∃ h1 : i < bs.length, bs[i] = x) (j : Nat) (u : Value) : CB (W.setCell ⟨x, j, none⟩ u) y c := by
  obtain ⟨h1, rfl⟩ := hx
  obtain ⟨cells, hc⟩ := hi.block h1
  exact (Below.heap_setCell W ⟨bs[i], j, none⟩ u y (blk_ne h hc (by decide))).trans h
end
theorem swapL_comm {α : Type} {l : List α} {i j : Nat} (hi : i < l.length) (hj : j < l.length) : swapL l i j = swapL l j i := by
  apply List.ext_getElem
  · rw [swapL_len, swapL_len]
  · intro k h1 h2
    rw [swapL_at hi hj, swapL_at hj hi]
    by_cases h3 : k = j
    · subst h3
      rw [if_pos rfl]
      by_cases h4 : k = i
      · subst h4; rw [if_pos rfl]
      · rw [if_neg h4, if_pos rfl]
    · rw [if_neg h3]
      by_cases h4 : k = i
      · subst h4; rw [if_pos rfl, if_pos rfl]
      · rw [if_neg h4, if_neg h4, if_neg h3]
theorem rows_cut {w0 : World} {base b cap n0 m : Nat} {bs : List Nat} {M0 : List (List Int)} (h : MxAll w0 base b cap bs n0 m M0) (hl : n0 ≤ 1000) : ∀ (r : Nat), r ≤ n0 → ∃ D : Option Addr, (r < n0 → D = some ⟨b, r, none⟩) ∧ ∀ W : World, (Instr.slice 53 (.slice (some ⟨b, 0, none⟩) n0 cap) (some (.int .i64 r)) none none).run Try.prog W = .ok (.slice D (n0 - r) (cap - r)) W := by
  intro r hr
  obtain ⟨i0, hi0, hz0, hzs, hzb⟩ := info_parts infoR
  have hcap : n0 ≤ cap := by have := h.2.2.2.1.2.1; have := h.2.1; omega
  refine ⟨_, fun hlt => ?_, fun W => cut_from 53 22 .i64 Try.underlying53 hi0 1 hzs (some ⟨b, 0, none⟩) n0 cap r (by omega) (by omega) W⟩
  rw [Int.toNat_natCast, if_neg (by omega)]
  rw [Nat.mul_one]
  show some (Addr.add ⟨b, 0, none⟩ r) = _
  simp [Addr.add]
  exact fun h => h.symm
set_option maxRecDepth 100000 in
theorem rank_find {wr : World} {base b cap n0 m c r : Nat} {bs : List Nat} {M : List (List Int)} (h : MxAll wr base b cap bs n0 m M) (hlt : c < m) (hrn : r ≤ n0) (hl : n0 ≤ 1000) {D : Option Addr} (hD : r < n0 → D = some ⟨b, r, none⟩) :
    Calls Try.prog 160 #[.slice D (n0 - r) (cap - r), .func (.func 161) #[] #[.pointer (some ⟨wr.heap.size, 0, none⟩)]] (wr.alloc (.cells #[.int .i64 c] 3))
      fun e w' => e = .returned (.int .i64 (firstR (fun i => ent M (r + i) c != 0) (n0 - r))) ∧ Below (wr.alloc (.cells #[.int .i64 c] 3)).heap.size (wr.alloc (.cells #[.int .i64 c] 3)) w' := by
  have hba := below_alloc (Below.refl wr.heap.size wr) (.cells #[.int .i64 c] 3)
  have hM := h.below hba
  have hC : CB (wr.alloc (.cells #[.int .i64 c] 3)) wr.heap.size c := heap_alloc_new wr _
  generalize wr.alloc (.cells #[.int .i64 c] 3) = W0 at hM hC ⊢
  refine indexRows_c D (n0 - r) (cap - r) m (fun i => bs.getD (r + i) 0) 161 #[] #[.pointer (some ⟨wr.heap.size, 0, none⟩)] (fun i => ent M (r + i) c != 0) W0
    (fun W hW i hi => ?_) (enters_of Try.func161 (by kernel_rfl) rfl) (fun W i hW hi => ?_) (by omega)
  · refine ⟨⟨b, r, none⟩, hD (by omega), ?_⟩
    obtain ⟨x, ⟨hx1, hx2⟩, hx3, _⟩ := (hM.below hW).outCell (i := r + i) (by omega)
    have e : bs.getD (r + i) 0 = x := by rw [List.getD_eq_getElem?_getD, List.getElem?_eq_getElem hx1, hx2]; rfl
    show W.cell? (Addr.add ⟨b, r, none⟩ i) = some (.slice (some ⟨bs.getD (r + i) 0, 0, none⟩) m m)
    rw [e, show Addr.add ⟨b, r, none⟩ i = ⟨b, r + i, none⟩ by simp [Addr.add]]
    exact hx3
  · have hM2 := hM.below hW
    obtain ⟨x, hx, hx3, _⟩ := hM2.outCell (i := r + i) (by omega)
    have e : bs.getD (r + i) 0 = x := by obtain ⟨hx1, hx2⟩ := hx; rw [List.getD_eq_getElem?_getD, List.getElem?_eq_getElem hx1, hx2]; rfl
    obtain ⟨hc1, _⟩ := hM2.inCell (i := r + i) (by omega) hlt hx
    have := rank1_c x m c (ent M (r + i) c) wr.heap.size W (hC.below hW).cell hlt hc1
    simp only [e]
    exact this
theorem first_find (M : List (List Int)) (c r : Nat) : findZ M c r = ((List.range (M.length - r)).find? fun i => ent M (r + i) c != 0).map fun i => r + i := by
  unfold findZ
  rw [List.range'_eq_map_range, List.find?_map]
  rfl
theorem w64_ {x : Int} (h1 : -9223372036854775808 ≤ x) (h2 : x ≤ 9223372036854775807) : wrap64 x = x := by unfold wrap64; omega
theorem firstR_none {M : List (List Int)} {c r n : Nat} (h : findZ M c r = none) (hn : M.length = n) : firstR (fun i => ent M (r + i) c != 0) (n - r) = -1 := by
  subst hn
  rw [first_find] at h
  unfold firstR
  cases hf : (List.range (M.length - r)).find? fun i => ent M (r + i) c != 0 with
  | none => rfl
  | some i => rw [hf] at h; cases h
theorem firstR_some {M : List (List Int)} {c r n p : Nat} (h : findZ M c r = some p) (hn : M.length = n) : ∃ q, p = r + q ∧ firstR (fun i => ent M (r + i) c != 0) (n - r) = (q : Int) ∧ p < n ∧ ent M p c ≠ 0 := by
  subst hn
  rw [first_find] at h
  unfold firstR
  cases hf : (List.range (M.length - r)).find? fun i => ent M (r + i) c != 0 with
  | none => rw [hf] at h; cases h
  | some i =>
    rw [hf] at h
    have h1 := List.mem_range.1 (List.mem_of_find?_eq_some hf)
    have h2 := List.find?_some hf
    obtain rfl : r + i = p := Option.some.inj h
    exact ⟨i, rfl, rfl, by omega, by simpa using h2⟩
theorem fold_none {lo : Nat → Nat} {M0 M : List (List Int)} {c r : Nat} (h : (List.range c).foldl (elimStep lo) (M0, 0) = (M, r)) (hf : findZ M c r = none) : (List.range (c + 1)).foldl (elimStep lo) (M0, 0) = (M, r) := by
  rw [List.range_succ, List.foldl_append, h]
  simp only [List.foldl_cons, List.foldl_nil, elimStep, hf]
theorem fold_some {lo : Nat → Nat} {M0 M : List (List Int)} {c r p : Nat} (h : (List.range c).foldl (elimStep lo) (M0, 0) = (M, r)) (hf : findZ M c r = some p) : (List.range (c + 1)).foldl (elimStep lo) (M0, 0) = (elimTo (lo c) c r (swapL M p r) M.length, r + 1) := by
  rw [List.range_succ, List.foldl_append, h]
  simp only [List.foldl_cons, List.foldl_nil, elimStep, hf]
theorem firstR_z {M : List (List Int)} {c r n p : Nat} (h : findZ M c r = some p) (hn : M.length = n) : ∃ z : Int, (r : Int) + z = (p : Int) ∧ firstR (fun i => ent M (r + i) c != 0) (n - r) = z ∧ p < n ∧ ¬ z < 0 := by
  obtain ⟨q, h1, h2, h3, _⟩ := firstR_some h hn
  exact ⟨(q : Int), by omega, h2, h3, by omega⟩
theorem find_cases (M : List (List Int)) (c r : Nat) : findZ M c r = none ∨ ∃ p, findZ M c r = some p := by
  cases findZ M c r with
  | none => exact .inl rfl
  | some p => exact .inr ⟨p, rfl⟩
theorem swap_facts {w W : World} {base b cap n m y c r p xp yr : Nat} {bs : List Nat} {M : List (List Int)} (h : MxAll W base b cap bs n m M) (hC : CB W y c) (hB : Below base w W) (hr : r < n) (hp : p < n) (hxp : ∃ h1 : p < bs.length, bs[p] = xp) (hxr : ∃ h1 : r < bs.length, bs[r] = yr) :
    (∃ u, (W.setCell ⟨b, r, none⟩ (.slice (some ⟨xp, 0, none⟩) m m)).cell? ⟨b, p, none⟩ = some u) ∧ (W.setCell ⟨b, r, none⟩ (.slice (some ⟨xp, 0, none⟩) m m)).frozen? ⟨b, p, none⟩ = false ∧
    MxAll ((W.setCell ⟨b, r, none⟩ (.slice (some ⟨xp, 0, none⟩) m m)).setCell ⟨b, p, none⟩ (.slice (some ⟨yr, 0, none⟩) m m)) base b cap (swapL bs p r) n m (swapL M p r) ∧
    CB ((W.setCell ⟨b, r, none⟩ (.slice (some ⟨xp, 0, none⟩) m m)).setCell ⟨b, p, none⟩ (.slice (some ⟨yr, 0, none⟩) m m)) y c ∧
    Below base w ((W.setCell ⟨b, r, none⟩ (.slice (some ⟨xp, 0, none⟩) m m)).setCell ⟨b, p, none⟩ (.slice (some ⟨yr, 0, none⟩) m m)) ∧
    ((W.setCell ⟨b, r, none⟩ (.slice (some ⟨xp, 0, none⟩) m m)).setCell ⟨b, p, none⟩ (.slice (some ⟨yr, 0, none⟩) m m)).cell? ⟨b, r, none⟩ = some (.slice (some ⟨xp, 0, none⟩) m m) ∧ ∃ h1 : r < (swapL bs p r).length, (swapL bs p r)[r] = xp := by
  obtain ⟨h1, h2, h3, h4, h5⟩ := h
  obtain ⟨hp1, rfl⟩ := hxp
  obtain ⟨hr1, rfl⟩ := hxr
  have ho1 := h4.put (i := r) hr1 bs[p]
  have hl1 : (bs.set r bs[p]).length = bs.length := by simp
  have ho2 := ho1.put (i := p) (by omega) bs[r]
  have hc1 := ho1.cell (i := p) (by omega)
  have hbs : (bs.set r bs[p]).set p bs[r] = swapL bs p r := by rw [swapL_comm hp1 hr1, swapL_eq hr1 hp1]
  rw [hbs] at ho2
  have hsl : (swapL bs p r).length = bs.length := swapL_len _ _ _
  have hrr : (swapL bs p r)[r]'(by omega) = bs[p] := by rw [swapL_at hp1 hr1, if_pos rfl]
  have hc2 := (ho2.cell (i := r) (by omega)).1
  rw [hrr] at hc2
  have hi2 := ((h5.outer h4 r (rowV m bs[p])).outer ho1 p (rowV m bs[r])).swap (i := p) (j := r) (by omega) (by omega)
  exact ⟨⟨_, hc1.1⟩, hc1.2, ⟨by rw [swapL_len]; exact h1, by omega, swap_bits h3 (by omega) (by omega), ho2, hi2⟩, (hC.outer h4 r (rowV m bs[p])).outer ho1 p (rowV m bs[r]), (hB.setCell (p := ⟨b, r, none⟩) h4.1 _).setCell (p := ⟨b, p, none⟩) h4.1 _, hc2, by omega, hrr⟩
set_option maxRecDepth 100000 in
set_option maxHeartbeats 8000000 in
theorem rankI_c (k : Nat) (n : Int) (A : Option Addr) (c : Nat) (xs : List Int) (d : Int) (F C : List Int) (P : Int → List Int) (w : World) (hr : RC w A xs.length xs) (hc : xs.length ≤ c) (hd : -1 ≤ d ∧ d ≤ 100)
    (hF : QO.impl_Complex_of.f n xs d = some F) (hC : QO.impl_Complex_of.f n xs (d - 1) = some C)
    (hP : ∀ f ∈ F, impl_borders.f f = some (P f) ∧ ∃ S, QO.impl_signs.f k f = some S ∧ S.length = (P f).length ∧ ∀ s ∈ S, s = 1 ∨ s = -1)
    (hpl : ∀ f ∈ F, ∀ g ∈ P f, ∃ p : Nat, QO.slices_BinarySearch_int64_int64.f k C g = some ((p : Int), true) ∧ ∃ h : p < C.length, C[p] = g) (hCn : C.Nodup) (hl1 : F.length ≤ 1000) (hl2 : C.length ≤ 1000) (hl3 : ∀ f ∈ F, (P f).length ≤ 1000) :
    Calls Try.prog 109 #[.agg #[.int .i64 n, .slice A xs.length c], .int .i64 d, .int .i64 2] w fun e w' => e = .returned (.int .i64 ((elimAll (fun _ => 0) (matZ C F P) C.length).2 : Int)) ∧ Below w.heap.size w w' := by
  have hx0 := Aside0.mk (CxAt.new w n A xs.length c)
  have hb0 := Aside0.mk (below_alloc (Below.refl w.heap.size w) (.cells #[.int .i64 n, .slice A xs.length c] 28))
  have HR := Aside0.mk hr
  have HC := Aside0.mk hc
  have HF := Aside0.mk hF
  have HCC := Aside0.mk hC
  have HPP := Aside0.mk hP
  have HPL := Aside0.mk hpl
  have HCN := Aside0.mk hCn
  have HL3 := Aside0.mk hl3
  have hdw : wrap64 (d - 1) = d - 1 := by unfold wrap64; omega
  have hdv : IntKind.i64.wrap (d - 1) = d - 1 := by rw [IntKind.wrap_i64]; omega
  have hc0 := hx0.out.c0
  have hc1 := hx0.out.c1
  clear hr hc hF hC hP hpl hCn hl3
  go_enter Try.func109, Try.ntmps109
  go_wp2_with (first
    | (go_at_call 157; have hq_ := HV7.out; refine (QO.impl_Complex_of.calls n A c xs d F _ (Kd.C_below HR.out HB1.out) HC.out HF.out).mono ?_; rintro e w2 ⟨v31, rfl, hv, hb⟩; have HV31 := Aside0.mk (Kd.R_lower hv HB1.out.size); have HV72 := Aside0.mk (Kd.R_below HV7.out hb); have HB := Aside0.mk (below_in HB1.out hb); obtain ⟨A31, c31, rfl⟩ := Kd.R_slice HV31.out; clear hb hv HV7 HB1 hq_)
    | (go_at_call 157; refine (QO.impl_Complex_of.calls n A c xs (d - 1) C _ (Kd.C_below HR.out hb0.out) HC.out HCC.out).mono ?_; rintro e w1 ⟨v7, rfl, hv, hb⟩; have HV7 := Aside0.mk (Kd.R_lower hv hb0.out.size); have HX1 := Aside0.mk (hx0.out.below hb); have HB1 := Aside0.mk (below_in hb0.out hb); have hd0 := HX1.out.c0; have hd1 := HX1.out.c1; clear hb hv hc0 hc1))
  obtain ⟨A7, c7, rfl⟩ := Kd.R_slice HV72.out
  obtain ⟨Y, h2⟩ := Two.of HV31.out HV72.out
  have H2 := Aside0.mk h2
  have HO : Aside0 (MxW w2 w.heap.size (.slice none 0 0) [] C.length) := ⟨World.ownsRow_nil _ _ _ _⟩
  clear HV31 HV72 h2
  have hmk : ∀ W : World, (Instr.makeSlice 22 (.int .i64 (C.length : Int)) (.int .i64 (C.length : Int))).run Try.prog W = .ok (.slice (some ⟨W.heap.size, 0, none⟩) C.length C.length) (W.alloc (.cells (numV (List.replicate C.length 0)).toArray 2)) := fun W => by
    rw [← made_zero]
    exact print_make_of 22 2 (.int .i64 0) 8 Try.underlying22 info64 rfl (by decide) C.length (by omega) W
  go_loopw [8, 33] (fun v9 s10 wr => ∃ (i : Nat) (bs : List Nat), i ≤ F.length ∧ s10 = .int .i64 i ∧ Aside0 (MxW wr w.heap.size v9 bs C.length) ∧ Aside0 (MxI wr w.heap.size bs C.length (matZ C (F.take i) P)) ∧ Aside0 (Two wr w.heap.size Y (.slice A31 F.length c31) F (.slice A7 C.length c7) C) ∧ Aside0 (Below w.heap.size w wr)) (fun _ s10 _ => F.length - (intOf s10).toNat)
  case atStart => exact ⟨0, [], by omega, rfl, HO, ⟨⟨rfl, List.nodup_nil, fun i h => absurd h (Nat.not_lt_zero _)⟩⟩, H2, HB⟩
  case round =>
    clear HO H2 HB
    obtain ⟨i, bs, hi, rfl, HO, HI, H2, HB⟩ := hrel
    have HBL : Aside0 (bs.length ≤ 1000) := ⟨by have := HI.out.1; unfold matZ at this; simp at this; omega⟩
    by_cases hlt : i < F.length
    · have hltz : (i : Int) < (F.length : Int) := by omega
      obtain ⟨af, rfl, hf0⟩ := Kd.at_int (Kd.R_reads' H2.out.1).2.2 i (by omega) (by omega)
      obtain ⟨f, hf⟩ : ∃ f, rd F i = f := ⟨_, rfl⟩
      rw [hf, show ((i : Int)).toNat = i by omega] at hf0
      have hfm : f ∈ F := by rw [← hf, rd_at' hlt]; exact List.getElem_mem hlt
      obtain ⟨hpf, Sg, hsf, hsl, hsg⟩ := HPP.out f hfm
      have hpl := HPL.out f hfm
      have hpl3 := HL3.out f hfm
      have HPF := Aside0.mk hpf
      have HSF := Aside0.mk hsf
      have HSG := Aside0.mk hsg
      have HPLF := Aside0.mk hpl
      have HFE : Aside0 (matZ C (F.take (i + 1)) P = matZ C (F.take i) P ++ [rowTo C (P f) (P f).length]) := ⟨by rw [List.take_succ_eq_append_getElem hlt, ← rd_at' hlt, hf]; unfold matZ; simp⟩
      have hba : Below wr.heap.size wr (wr.alloc (.cells (numV (List.replicate C.length 0)).toArray 2)) := below_alloc (Below.refl _ _) _
      have HS1 := Aside0.mk (HI.out.snoc HB.out.size)
      have HO1 := Aside0.mk (pw_own_below HO.out hba)
      have H21 := Aside0.mk (H2.out.below hba)
      have HB1 := Aside0.mk (below_in HB.out hba)
      have hyy : Y ≤ wr.heap.size := H2.out.2.2
      have hw0 : w.heap.size ≤ wr.heap.size := HB.out.size
      have HYW : Aside0 (Y ≤ wr.heap.size ∧ w.heap.size ≤ wr.heap.size) := ⟨hyy, hw0⟩
      clear HO HI H2 HB hpf hsf hsg hpl hf hfm hba hyy hw0
      go_wp2_with (go_at_call 155; refine (impl_borders.calls f (P f) _ HPF.out).mono ?_; rintro e w4 ⟨v41, rfl, hv, hb⟩; have HVP := Aside0.mk (Kd.R_lower (Kd.R_mono (Kd.R_bound hv) (fun k hk => (show wr.heap.size + 1 ≤ k by have := hk.2.1; simpa using this))) (base' := w.heap.size) (HB1.out.size)); have HS2 := Aside0.mk (HS1.out.below hb); have HO2 := Aside0.mk (pw_own_below HO1.out hb); have H22 := Aside0.mk (H21.out.below hb); have HB2 := Aside0.mk (below_in HB1.out hb); obtain ⟨Ap, cp, rfl⟩ := Kd.R_slice HVP.out; clear hb hv HS1 HO1 H21 HB1)
      have hz0 : List.replicate C.length (0 : Int) = rowTo C (P f) 0 := (rowTo_zero _ _).symm
      rw [hz0] at HS2
      have hyw := HYW.out
      clear hz0 HYW
      generalize wr.heap.size = y0 at HS2 HVP hyw ⊢
      have HYY := Aside0.mk hyw.1
      have HW0 := Aside0.mk hyw.2
      clear hyw
      go_loopw [43] (fun s14 wq => ∃ j : Nat, j ≤ (P f).length ∧ s14 = .int .i64 j ∧ Aside0 (MxI wq w.heap.size (bs ++ [y0]) C.length (matZ C (F.take i) P ++ [rowTo C (P f) j])) ∧ Aside0 (MxW wq w.heap.size u8 bs C.length) ∧ Aside0 (Two wq w.heap.size Y (.slice (some af) F.length c31) F (.slice A7 C.length c7) C) ∧ Aside0 (RI wq w.heap.size (fun k => y0 + 1 ≤ k) (.slice Ap (P f).length cp) (P f)) ∧ Aside0 (Below w.heap.size w wq)) (fun s14 _ => (P f).length - (intOf s14).toNat)
      case atStart => exact ⟨0, by omega, rfl, HS2, HO2, H22, HVP, HB2⟩
      case round =>
        clear HS2 HO2 H22 HVP HB2
        obtain ⟨j, hj, rfl, HS, HO, H2, HVP, HB⟩ := hrel
        by_cases hjl : j < (P f).length
        · have hjz : (j : Int) < ((P f).length : Int) := by omega
          have hjs : (j : Int) < (Sg.length : Int) := by omega
          obtain ⟨ap, rfl, hp0⟩ := Kd.at_int (Kd.R_reads' HVP.out).2.2 j (by omega) (by omega)
          obtain ⟨g, hg⟩ : ∃ g, rd (P f) j = g := ⟨_, rfl⟩
          rw [hg, show ((j : Int)).toNat = j by omega] at hp0
          have hgm : g ∈ P f := by rw [← hg, rd_at' hjl]; exact List.getElem_mem hjl
          obtain ⟨q, hpk, hqC, hqe⟩ := HPLF.out g hgm
          obtain ⟨sg, hsg⟩ : ∃ sg, rd Sg j = sg := ⟨_, rfl⟩
          have hsm : sg ∈ Sg := by rw [← hsg, rd_at' (by omega)]; exact List.getElem_mem (by omega)
          obtain ⟨hm1, hm2, hm3⟩ := sign_mod (HSG.out sg hsm)
          have hge : (P f)[j] = g := by rw [← hg, rd_at' hjl]
          have HNX := Aside0.mk (rowTo_next HCN.out hjl hqC (hqe.trans hge.symm))
          have hqz : (q : Int) < (C.length : Int) := by omega
          have HPK := Aside0.mk hpk
          have HSGE := Aside0.mk hsg
          clear hg hgm hsm hqe hpk hge hsg
          go_wp2_with (first
            | (go_at_call 158; refine (QO.slices_BinarySearch_int64_int64.calls k A7 c7 C g (q : Int) true _ (Kd.R_reads' H2.out.2.1).2.2 (Kd.R_reads' H2.out.2.1).2.1 HPK.out).mono ?_; rintro e w5 ⟨rfl, hdr⟩; have hb := hdr.below; have HSa := Aside0.mk (HS.out.below hb); have HOa := Aside0.mk (pw_own_below HO.out hb); have H2a := Aside0.mk (H2.out.below hb); have HVPa := Aside0.mk (Kd.R_below HVP.out hb); have HBa := Aside0.mk (below_in HB.out hb); clear HS HO H2 HVP HB hp0 hb hdr)
            | (go_at_call 159; refine (QO.impl_signs.calls k f Sg _ HSF.out).mono ?_; rintro e w6 ⟨vs, rfl, hv, hb⟩; have HSb := Aside0.mk (HSa.out.below hb); have HOb := Aside0.mk (pw_own_below HOa.out hb); have H2b := Aside0.mk (H2a.out.below hb); have HVPb := Aside0.mk (Kd.R_below HVPa.out hb); have HBb := Aside0.mk (below_in HBa.out hb); obtain ⟨As, cs, rfl⟩ := Kd.R_slice hv; obtain ⟨ag, rfl, hs0⟩ := Kd.at_int (Kd.R_reads' hv).2.2 j (by omega) (by omega); rw [HSGE.out, show ((j : Int)).toNat = j by omega] at hs0; obtain ⟨u, hu1, hu2, hu3⟩ := HSb.out.rowLast hqC; rw [HNX.out] at hu3; have HU3 := Aside0.mk hu3; clear hb hv hu3 HSa HOa H2a HVPa HBa))
          have hblk := HSb.out.block (i := bs.length) (by simp)
          rw [show (bs ++ [y0])[bs.length]'(by simp) = y0 by simp] at hblk
          obtain ⟨cells, hblk⟩ := hblk
          have HOS := Aside0.mk (own_far HOb.out (y := y0) (j := q) (MxW.ne HOb.out hblk) (.int .i64 1))
          have H2S := Aside0.mk (H2b.out.far HYY.out q (.int .i64 1))
          have HVPS := Aside0.mk (Kd.R_far HVPb.out (p := ⟨y0, q, none⟩) (fun k hk => by have : y0 + 1 ≤ k := hk; show k ≠ y0; omega) (.int .i64 1))
          have HBS := Aside0.mk (HBb.out.setCell (p := ⟨y0, q, none⟩) (HW0.out) (.int .i64 1))
          go_roundw
          case measure => simp [intOf]; omega
          case rel => exact ⟨j + 1, by omega, by go_num, HU3, HOS, H2S, HVPS, HBS⟩
        · obtain rfl : j = (P f).length := by omega
          have hjz : ¬ ((P f).length : Int) < ((P f).length : Int) := by omega
          rw [← HFE.out] at HS
          go_wp2_with (at_builtin; refine print_append_of (rowV C.length) w.heap.size rfl (.tmp 67) (.tmp 69) 53 22 (.slice none 0 0) 24 rfl Try.underlying53 infoR rfl (by decide) _ bs y0 rfl rfl (rowV_one _ _) HO.out HB.out HB.out.size (by have := HBL.out; omega) ?_; intro v1 w9 ho hb hg hat; have HI9 := Aside0.mk (HS.out.grown HO.out hg); have H29 := Aside0.mk (H2.out.grown HO.out hg); have HO9 := Aside0.mk ho; have HB9 := Aside0.mk hb; clear ho hb hg hat)
          exact ⟨⟨i + 1, bs ++ [y0], by omega, by go_num, HO9, HI9, H29, HB9⟩, by simp [intOf]; omega⟩
    · obtain rfl : i = F.length := by omega
      have hltz : ¬ (F.length : Int) < (F.length : Int) := by omega
      rw [List.take_length] at HI
      by_cases hF0 : F = []
      · subst hF0
        have HZ : Aside0 ((elimAll (fun _ => 0) (matZ C [] P) C.length).2 = 0) := ⟨by rw [show matZ C [] P = [] from rfl, elimAll_nil]⟩
        obtain ⟨A8, c8, rfl⟩ : ∃ A8 c8, u8 = .slice A8 0 c8 := by
          rcases HO.out.2 with ⟨h, _⟩ | ⟨g, cap, cur, h, _⟩
          · exact ⟨_, _, h⟩
          · have hb0 : bs.length = 0 := by have := HI.out.1; simpa [matZ] using this
            rw [hb0] at h
            exact ⟨_, _, h⟩
        clear HO HI
        obtain ⟨D, hD⟩ : ∃ D, D = (if c8 = 0 then A8 else A8.map (·.add (0 * 1))) := ⟨_, rfl⟩
        have hcut : ∀ W : World, (Instr.slice 53 (.slice A8 0 c8) (some (.int .i64 0)) none none).run Try.prog W = .ok (.slice D 0 c8) W := by
          intro W
          obtain ⟨i0, hi0, hz0, hzs, hzb⟩ := info_parts infoR
          have := cut_from 53 22 .i64 Try.underlying53 hi0 1 hzs A8 0 c8 0 (by omega) (by omega) W
          simp only [Int.toNat_zero, Nat.sub_zero] at this
          rw [hD]
          exact this
        clear hD
        go_wp2
        go_loopw [16, 74] (fun s16 s74 wq => ∃ q : Nat, q ≤ C.length ∧ s16 = .int .i64 0 ∧ s74 = .int .i64 q ∧ Aside0 (Below w.heap.size w wq)) (fun _ s74 _ => C.length - (intOf s74).toNat)
        case atStart => exact ⟨0, by omega, rfl, rfl, HB⟩
        case round =>
          clear HB
          obtain ⟨q, hq, rfl, rfl, HB⟩ := hrel
          by_cases hql : q < C.length
          · have hqz : (q : Int) < (C.length : Int) := by omega
            go_wp2_with (go_at_call 160; refine (indexRows_c D 0 c8 0 (fun _ => 0) _ _ _ (fun _ => false) _ (fun W hW i hi => absurd hi (Nat.not_lt_zero _)) (enters_of Try.func161 (by kernel_rfl) rfl) (fun W i hW hi => absurd hi (Nat.not_lt_zero _)) (by omega)).mono ?_; rintro e w5 ⟨rfl, hb⟩; have HB5 := Aside0.mk hb; clear hb)
            exact ⟨⟨q + 1, by omega, rfl, by go_num, ⟨below_in (below_in HB.out (below_alloc (Below.refl _ _) _)) HB5.out⟩⟩, by simp [intOf]; omega⟩
          · obtain rfl : q = C.length := by omega
            have hqz : ¬ (C.length : Int) < (C.length : Int) := by omega
            go_wp2
            go_ret
            exact ⟨by rw [HZ.out]; rfl, HB.out⟩
      · have hn : 0 < (matZ C F P).length := by unfold matZ; rw [List.length_map]; exact List.length_pos_iff.2 hF0
        have hnF : (matZ C F P).length = F.length := by unfold matZ; rw [List.length_map]
        obtain ⟨b, cap, rfl, hall⟩ := MxAll.of HO.out HI.out (matZ_bits C F P) hn
        have HM0 := Aside0.mk hall
        clear HO HI H2 hall hmk HF HCC HPP HPL HCN HL3 HX1 hx0 hb0 hd0 hd1 HR HC HBL
        rw [← hnF] at hl1
        generalize hM0 : matZ C F P = M0 at HM0 hn hl1 ⊢
        generalize hm : C.length = m at HM0 hl2 ⊢
        generalize hnn : M0.length = n0 at HM0 hn hl1 ⊢
        have hcut := rows_cut HM0.out hl1
        have HCUT := Aside0.mk hcut
        clear hcut hnF hF0
        go_wp2
        go_loopw [16, 74] (fun s16 s74 wr => ∃ (r c : Nat) (bs : List Nat) (M : List (List Int)), c ≤ m ∧ r ≤ c ∧ r ≤ n0 ∧ s16 = .int .i64 r ∧ s74 = .int .i64 c ∧ Aside0 ((List.range c).foldl (elimStep fun _ => 0) (M0, 0) = (M, r)) ∧ Aside0 (MxAll wr w.heap.size b cap bs n0 m M) ∧ Aside0 (Below w.heap.size w wr)) (fun _ s74 _ => m - (intOf s74).toNat)
        case atStart => exact ⟨0, 0, bs, M0, by omega, by omega, by omega, rfl, rfl, ⟨rfl⟩, HM0, HB⟩
        case round =>
          clear HM0 HB
          obtain ⟨r, c, bs, M, hcm, hrc, hrn, rfl, rfl, HF, HM, HB⟩ := hrel
          by_cases hlt : c < m
          · have hltz : (c : Int) < (m : Int) := by omega
            obtain ⟨D, hD, hct⟩ := HCUT.out r hrn
            have hba := below_alloc (Below.refl wr.heap.size wr) (.cells #[.int .i64 c] 3)
            have HMa := Aside0.mk (HM.out.below hba)
            have HBa := Aside0.mk (below_in HB.out hba)
            have HCa : Aside0 (CB (wr.alloc (.cells #[.int .i64 c] 3)) wr.heap.size c) := ⟨heap_alloc_new wr _⟩
            have HIX := Aside0.mk (rank_find HM.out hlt hrn hl1 hD)
            rcases find_cases M c r with hfz | ⟨p, hfz⟩
            · have hfr : firstR (fun i => ent M (r + i) c != 0) (n0 - r) = -1 := firstR_none (h := hfz) HM.out.1
              rw [hfr] at HIX
              have HF2 := Aside0.mk (fold_none HF.out hfz)
              clear hfz hfr HF HM HB hba hD
              go_wp2_with (go_at_call 160; refine HIX.out.mono ?_; rintro e w5 ⟨rfl, hb⟩; have HM5 := Aside0.mk (HMa.out.below hb); have HB5 := Aside0.mk (below_in HBa.out hb); clear hb)
              exact ⟨⟨r, c + 1, bs, M, by omega, by omega, by omega, rfl, by go_num, HF2, HM5, HB5⟩, by simp [intOf]; omega⟩
            · obtain ⟨z, hzr, hfr, hpn, hz0⟩ := firstR_z hfz HM.out.1
              rw [hfr] at HIX
              have hrn' : r < n0 := by omega
              have hp0 : (0 : Int) ≤ (p : Int) := by omega
              have hpi : (p : Int) < (n0 : Int) := by omega
              have hri2 : (r : Int) < (n0 : Int) := by omega
              have HFD := Aside0.mk hfz
              obtain rfl := hD hrn'
              clear hfz hfr hba hD
              go_upto_region 22 with (go_at_call 160; refine HIX.out.mono ?_; rintro e w5 ⟨rfl, hb⟩; have HM5 := Aside0.mk (HMa.out.below hb); have HB5 := Aside0.mk (below_in HBa.out hb); have HC5 := Aside0.mk (HCa.out.below hb); clear hb HMa HBa HCa HM HB HIX)
              obtain ⟨xp, hxp, hcp, hfp⟩ := HM5.out.outCell hpn
              obtain ⟨yr, hxr, hcr, hfr⟩ := HM5.out.outCell hrn'
              obtain ⟨_, _, hm6, hc6, hb6, hcr6, hown⟩ := swap_facts (W := w5.drew) HM5.out HC5.out HB5.out.drew hrn' hpn hxp hxr
              obtain ⟨⟨u5, hcp1⟩, hfp1, _, _, _, _, _⟩ := swap_facts (W := w5) HM5.out HC5.out HB5.out hrn' hpn hxp hxr
              have HM6 := Aside0.mk hm6
              have HC6 := Aside0.mk hc6
              have HB6 := Aside0.mk hb6
              have HOWN := Aside0.mk hown
              clear hm6 hc6 hb6 hown HM5 HC5 HB5 hxp hxr
              go_wp2
              refine st_ 16 (S := fun w' => w'.cell? ⟨b, p, none⟩ = some (.slice (some ⟨xp, 0, none⟩) m m) ∧ w'.cell? ⟨b, r, none⟩ = some (.slice (some ⟨yr, 0, none⟩) m m)) (ds := [13, 15]) ⟨hcp, hcr⟩ (fun hHeld => ?_)
              refine with_tabW (T := (true, [([], []), ([], []), ([], []), ([], []), ([], []), ([], []), ([4, 5], [4, 5]), ([6], [6]), ([], []), ([], []), ([8, 9], [8, 9]), ([10], [10]), ([0, 1, 0, 1, 4, 5, 6, 7, 11], [0, 1]), ([12, 7, 0, 1, 4, 5, 6, 7, 11], [7, 12]), ([2, 3, 0, 1, 2, 3, 4, 5, 6, 7, 8, 9, 10, 11, 12, 13], [2, 3]), ([14, 11, 13, 0, 1, 2, 3, 4, 5, 6, 7, 8, 9, 10, 11, 12, 13], [11, 14])])) (B := [0, 0, 0, 0, 0, 0, 48, 112, 0, 0, 768, 1792, 4083, 8179, 16383, 32767]) (by kernel_rfl) (by kernel_rfl) (fun HT_ HW_ => ?_)
              refine pd_ 0 87 1 HT_ ?_
              refine pd_ 1 88 3 HT_ ?_
              refine pd_ 2 89 7 HT_ ?_
              refine pd_ 3 90 15 HT_ ?_
              refine pd_ 4 91 31 HT_ ?_
              refine pd_ 5 92 63 HT_ ?_
              refine pd_ 6 93 127 HT_ ?_
              refine pd_ 8 95 383 HT_ ?_
              refine pd_ 9 96 895 HT_ ?_
              refine pd_ 10 97 1919 HT_ ?_
              refine tk_ 7 94 2047 HT_ HW_ hHeld ?_
              refine tk_ 11 98 4095 HT_ HW_ hHeld ?_
              refine pd_ 12 99 8191 HT_ ?_
              refine la_ 13 none 16383 HT_ (fun K hK => ?_)
              (have hcr' : w5.drew.cell? ⟨b, r, none⟩ = some (.slice (some ⟨yr, 0, none⟩) m m) := hcr; have hfr' : w5.drew.frozen? ⟨b, r, none⟩ = false := hfr; refine skip_ (by rfl) rfl (w1 := w5.drew.setCell ⟨b, r, none⟩ (.slice (some ⟨xp, 0, none⟩) m m)) (by go_simp) ?_)
              refine hK.out _ _ ?_
              clear hK K
              refine pd_ 14 100 32767 HT_ ?_
              refine la_ 15 none 65535 HT_ (fun K hK => ?_)
              (refine skip_ (by rfl) rfl (w1 := (w5.drew.setCell ⟨b, r, none⟩ (.slice (some ⟨xp, 0, none⟩) m m)).setCell ⟨b, p, none⟩ (.slice (some ⟨yr, 0, none⟩) m m)) (by go_simp) ?_)
              refine hK.out _ _ ?_
              clear hK K
              refine dn_ HT_ ?_
              clear hcp hcr hfp hfr hcp1 hfp1 hHeld
              generalize (w5.drew.setCell ⟨b, r, none⟩ (.slice (some ⟨xp, 0, none⟩) m m)).setCell ⟨b, p, none⟩ (.slice (some ⟨yr, 0, none⟩) m m) = w6 at HM6 HC6 HB6 hcr6 ⊢
              obtain ⟨D2, hD2, hct2⟩ := HCUT.out (r + 1) (by omega)
              have hct3 : ∀ W : World, (Instr.slice 53 (.slice (some ⟨b, 0, none⟩) n0 cap) (some (.int .i64 ((r : Int) + 1))) none none).run Try.prog W = .ok (.slice D2 (n0 - (r + 1)) (cap - (r + 1))) W := fun W => by
                rw [show (r : Int) + 1 = ((r + 1 : Nat) : Int) by omega]
                exact hct2 W
              obtain ⟨bs1, hbs1⟩ : ∃ z, z = swapL bs p r := ⟨_, rfl⟩
              obtain ⟨M1, hM1⟩ : ∃ z, z = swapL M p r := ⟨_, rfl⟩
              rw [← hbs1, ← hM1] at HM6
              rw [← hbs1] at HOWN
              have HF2 := Aside0.mk (fold_some HF.out HFD.out)
              rw [← hM1] at HF2
              have hM1l := HM6.out.1
              have hMl : M.length = n0 := by rw [← hM1l, hM1, swapL_len]
              rw [hMl] at HF2
              clear hbs1 hM1 hct2 HF HFD hMl
              generalize wr.heap.size = y0 at HC6 ⊢
              go_wp2
              go_loopw [110] (fun s110 wq => ∃ i : Nat, i ≤ n0 - (r + 1) ∧ s110 = .int .i64 i ∧ Aside0 (MxAll wq w.heap.size b cap bs1 n0 m (elimTo 0 c r M1 (r + 1 + i))) ∧ Aside0 (CB wq y0 c) ∧ Aside0 (Below w.heap.size w wq)) (fun s110 _ => n0 - (r + 1) - (intOf s110).toNat)
              case atStart => exact ⟨0, by omega, rfl, ⟨by rw [elimTo_lo _ _ _ _ (by omega)]; exact HM6.out⟩, HC6, HB6⟩
              case round =>
                have HB0 := Aside0.mk HM6.out.2.2.1
                have HLEN : Aside0 (∀ q (h : q < M1.length), M1[q].length = m) := ⟨fun q h => HM6.out.2.2.2.2.row h⟩
                clear HM6 HB6 HC6
                obtain ⟨i, hin, rfl, HM, HC, HB⟩ := hrel
                by_cases hi : i < n0 - (r + 1)
                · have hiz : (i : Int) < ((n0 - (r + 1) : Nat) : Int) := by omega
                  obtain rfl := hD2 (by omega)
                  obtain ⟨R, hR⟩ : ∃ R, r + 1 + i = R := ⟨_, rfl⟩
                  have hRn : R < n0 := by omega
                  have hRr : r < R := by omega
                  rw [hR] at HM
                  obtain ⟨xi, hxi, hci, hfi⟩ := HM.out.outCell hRn
                  obtain ⟨hxc, _⟩ := HM.out.inCell hRn hlt hxi
                  obtain ⟨hyc, _⟩ := HM.out.inCell hrn' hlt HOWN.out
                  rw [ent_elim (by omega) (by omega)] at hxc hyc
                  obtain ⟨x, hx⟩ : ∃ x, ent M1 R c = x := ⟨_, rfl⟩
                  obtain ⟨y, hy⟩ : ∃ y, ent M1 r c = y := ⟨_, rfl⟩
                  have hxb : Bit x := hx ▸ bit_ent HB0.out R c
                  have hyb : Bit y := hy ▸ bit_ent HB0.out r c
                  rw [hx] at hxc
                  rw [hy] at hyc
                  obtain ⟨hmw, hmm⟩ := mul_mod hxb hyb
                  have htb := bit_mul hxb hyb
                  have HX := Aside0.mk hx
                  have HY := Aside0.mk hy
                  have HXI := Aside0.mk hxi
                  have HTB := Aside0.mk htb
                  have hyy := HC.out.cell
                  clear hx hy hxi hxb hyb htb
                  go_wp2
                  refine st_ 10 (S := fun w' => w'.cell? ⟨y0, 0, none⟩ = some (.int .i64 c) ∧ w'.cell? ⟨xi, c, none⟩ = some (.int .i64 x) ∧ w'.cell? ⟨xp, c, none⟩ = some (.int .i64 y)) (ds := []) ⟨hyy, hxc, hyc⟩ (fun hHeld => ?_)
                  refine with_tabW (T := (true, [([], []), ([], []), ([0, 1], [0, 1]), ([2], [2]), ([], []), ([], []), ([4, 5], [4, 5]), ([6], [6]), ([3, 7], [3, 7]), ([8, 0, 1, 2, 3, 4, 5, 6, 7, 8], [8])])) (B := [0, 0, 3, 7, 0, 0, 48, 112, 255, 511]) (by kernel_rfl) (by kernel_rfl) (fun HT_ HW_ => ?_)
                  refine pd_ 0 114 1 HT_ ?_
                  refine pd_ 4 118 17 HT_ ?_
                  refine tk_ 1 115 19 HT_ HW_ hHeld ?_
                  refine pd_ 2 116 23 HT_ ?_
                  refine tk_ 3 117 31 HT_ HW_ hHeld ?_
                  refine tk_ 5 119 63 HT_ HW_ hHeld ?_
                  refine pd_ 6 120 127 HT_ ?_
                  refine tk_ 7 121 255 HT_ HW_ hHeld ?_
                  refine pd_ 8 122 511 HT_ ?_
                  refine pd_ 9 23 1023 HT_ ?_
                  refine dn_ HT_ ?_
                  have HMd : Aside0 (MxAll wr.drew w.heap.size b cap bs1 n0 m ((elimTo 0 c r M1 R).set R (stepR 0 c (M1.getD r []) (M1.getD R []) 0))) := ⟨by
                    have hself : (elimTo 0 c r M1 R).set R (stepR 0 c (M1.getD r []) (M1.getD R []) 0) = elimTo 0 c r M1 R := by
                      have hil : R < (elimTo 0 c r M1 R).length := by rw [elimTo_len]; omega
                      rw [stepR_lo _ _ _ _ (Nat.le_refl _), getD_at (by omega)]
                      have := elimTo_at (lo := 0) (c := c) (r := r) (M := M1) (i := R) (q := R) (by omega)
                      rw [if_neg (by omega)] at this
                      conv => lhs; rw [← this]
                      exact List.set_getElem_self hil
                    rw [hself]; exact HM.out⟩
                  have HBd : Aside0 (Below w.heap.size w wr.drew) := ⟨HB.out.drew⟩
                  have HCd : Aside0 (CB wr.drew y0 c) := ⟨HC.out⟩
                  clear HM HB HC hxc hyc hci hfi hyy hHeld
                  go_wp2
                  go_loopw [125] (fun s125 wz => ∃ j : Nat, j ≤ m ∧ s125 = .int .i64 j ∧ Aside0 (MxAll wz w.heap.size b cap bs1 n0 m ((elimTo 0 c r M1 R).set R (stepR 0 c (M1.getD r []) (M1.getD R []) j))) ∧ Aside0 (CB wz y0 c) ∧ Aside0 (Below w.heap.size w wz)) (fun s125 _ => m - (intOf s125).toNat)
                  case atStart => exact ⟨0, by omega, rfl, HMd, HCd, HBd⟩
                  case round =>
                    clear HMd HBd HCd
                    obtain ⟨j, hjm, rfl, HM, HC, HB⟩ := hrel
                    have hil : R < (elimTo 0 c r M1 R).length := by rw [elimTo_len]; omega
                    by_cases hj : j < m
                    · have hjz : (j : Int) < (m : Int) := by omega
                      obtain ⟨hac, haf⟩ := HM.out.inCell hRn hj HXI.out
                      obtain ⟨hdc, _⟩ := HM.out.inCell hrn' hj HOWN.out
                      have hrl : (M1.getD R []).length = m := by rw [getD_at (by omega)]; exact HLEN.out R (by omega)
                      rw [ent_set hil, stepR_getD (by omega)] at hac
                      rw [ent_set_ne (by omega), ent_elim (by omega) (by omega)] at hdc
                      obtain ⟨u, hu⟩ : ∃ u, (M1.getD R []).getD j 0 = u := ⟨_, rfl⟩
                      obtain ⟨d1, hd1⟩ : ∃ d1, ent M1 r j = d1 := ⟨_, rfl⟩
                      have hub : Bit u := hu ▸ bit_ent HB0.out R j
                      have hdb : Bit d1 := hd1 ▸ bit_ent HB0.out r j
                      rw [hu] at hac
                      rw [hd1] at hdc
                      obtain ⟨h1, h2, h3, h4⟩ := xr_mod2 hub HTB.out hdb
                      have hzb : Bit (xr u (x * y) d1) := bit_xr _ _ hub
                      have hnext : ((elimTo 0 c r M1 R).set R (stepR 0 c (M1.getD r []) (M1.getD R []) j)).set R ((((elimTo 0 c r M1 R).set R (stepR 0 c (M1.getD r []) (M1.getD R []) j)).getD R []).set j (xr u (x * y) d1)) = (elimTo 0 c r M1 R).set R (stepR 0 c (M1.getD r []) (M1.getD R []) (j + 1)) := by
                        rw [getD_set hil, List.set_set]
                        congr 1
                        have := stepR_next (lo := 0) (c := c) (own := M1.getD r []) (row := M1.getD R []) (j := j) (Nat.zero_le _) (by omega)
                        rw [← this]
                        congr 1
                        have e1 : (M1.getD R [])[j]'(by omega) = u := by rw [← hu]; exact (getD_lt (by omega)).symm
                        rw [e1, show (M1.getD R []).getD c 0 = x from HX.out, show (M1.getD r []).getD c 0 = y from HY.out, show (M1.getD r []).getD j 0 = d1 from hd1]
                      have hput := HM.out.put hRn hj HXI.out hzb
                      rw [hnext] at hput
                      have HPUT : Aside0 (MxAll (wr.drew.setCell ⟨xi, j, none⟩ (.int .i64 (xr u (x * y) d1))) w.heap.size b cap bs1 n0 m ((elimTo 0 c r M1 R).set R (stepR 0 c (M1.getD r []) (M1.getD R []) (j + 1)))) := ⟨hput⟩
                      have HBP : Aside0 (Below w.heap.size w (wr.drew.setCell ⟨xi, j, none⟩ (.int .i64 (xr u (x * y) d1)))) := ⟨HB.out.drew.setCell (p := ⟨xi, j, none⟩) (HM.out.base hRn HXI.out) _⟩
                      have HCP : Aside0 (CB (wr.drew.setCell ⟨xi, j, none⟩ (.int .i64 (xr u (x * y) d1))) y0 c) := ⟨CB.inner (W := wr.drew) HC.out HM.out.2.2.2.2 HXI.out j _⟩
                      clear hput hnext hu hd1 hub hdb hzb hrl HM HB HC
                      go_wp2
                      refine st_ 21 (S := fun w' => w'.cell? ⟨xi, j, none⟩ = some (.int .i64 u) ∧ w'.cell? ⟨xp, j, none⟩ = some (.int .i64 d1)) (ds := [20]) ⟨hac, hdc⟩ (fun hHeld => ?_)
                      refine with_tabW (T := (true, [([], []), ([], []), ([], []), ([], []), ([2, 3], [2, 3]), ([4], [4]), ([], []), ([], []), ([], []), ([7, 8], [7, 8]), ([9], [9]), ([6, 10], [6, 10]), ([5, 11], [5, 11]), ([], []), ([12, 13], [12, 13]), ([], []), ([14, 15], [14, 15]), ([], []), ([16, 17], [16, 17]), ([0, 1, 0, 1, 2, 3, 4, 5, 6, 7, 8, 9, 10, 11, 12, 13, 14, 15, 16, 17, 18], [0, 1]), ([19, 18, 0, 1, 2, 3, 4, 5, 6, 7, 8, 9, 10, 11, 12, 13, 14, 15, 16, 17, 18], [18, 19])])) (B := [0, 0, 0, 0, 12, 28, 0, 0, 0, 384, 896, 1984, 4092, 0, 16380, 0, 65532, 0, 262140, 524287, 1048575]) (by kernel_rfl) (by kernel_rfl) (fun HT_ HW_ => ?_)
                      refine pd_ 0 128 1 HT_ ?_
                      refine pd_ 1 129 3 HT_ ?_
                      refine pd_ 2 130 7 HT_ ?_
                      refine pd_ 3 131 15 HT_ ?_
                      refine pd_ 4 132 31 HT_ ?_
                      refine pd_ 6 134 95 HT_ ?_
                      refine pd_ 7 135 223 HT_ ?_
                      refine pd_ 8 136 479 HT_ ?_
                      refine pd_ 9 137 991 HT_ ?_
                      refine pd_ 13 141 9183 HT_ ?_
                      refine pd_ 15 143 41951 HT_ ?_
                      refine pd_ 17 145 173023 HT_ ?_
                      refine tk_ 5 133 173055 HT_ HW_ hHeld ?_
                      refine tk_ 10 138 174079 HT_ HW_ hHeld ?_
                      refine pd_ 11 139 176127 HT_ ?_
                      refine pd_ 12 140 180223 HT_ ?_
                      refine pd_ 14 142 196607 HT_ ?_
                      refine pd_ 16 144 262143 HT_ ?_
                      refine pd_ 18 146 524287 HT_ ?_
                      refine pd_ 19 147 1048575 HT_ ?_
                      refine la_ 20 none 2097151 HT_ (fun K hK => ?_)
                      (have hac' : wr.drew.cell? ⟨xi, j, none⟩ = some (.int .i64 u) := hac; have haf' : wr.drew.frozen? ⟨xi, j, none⟩ = false := haf; refine skip_ (by rfl) rfl (w1 := wr.drew.setCell ⟨xi, j, none⟩ (.int .i64 (xr u (x * y) d1))) (by go_simp) ?_)
                      refine hK.out _ _ ?_
                      clear hK K
                      refine dn_ HT_ ?_
                      go_wp2
                      go_roundw
                      case measure => simp [intOf]; omega
                      case rel => exact ⟨j + 1, by omega, by go_num, HPUT, HCP, HBP⟩
                    · obtain rfl : j = m := by omega
                      have hjz : ¬ (j : Int) < (j : Int) := by omega
                      have hfull : (elimTo 0 c r M1 R).set R (stepR 0 c (M1.getD r []) (M1.getD R []) j) = elimTo 0 c r M1 (r + 1 + (i + 1)) := by
                        rw [show r + 1 + (i + 1) = R + 1 by omega, ← elimTo_next hRr (by omega), getD_at (show R < M1.length by omega), HLEN.out R (by omega)]
                      rw [hfull] at HM
                      clear hfull
                      go_wp2
                      exact ⟨⟨i + 1, by omega, by go_num, HM, HC, HB⟩, by simp [intOf]; omega⟩
                · obtain rfl : i = n0 - (r + 1) := by omega
                  have hiz : ¬ ((n0 - (r + 1) : Nat) : Int) < ((n0 - (r + 1) : Nat) : Int) := by omega
                  rw [show r + 1 + (n0 - (r + 1)) = n0 by omega] at HM
                  go_wp2
                  exact ⟨⟨r + 1, c + 1, bs1, _, by omega, by omega, by omega, by go_num, by go_num, HF2, HM, HB⟩, by simp [intOf]; omega⟩
          · obtain rfl : c = m := by omega
            have hltz : ¬ (c : Int) < (c : Int) := by omega
            go_wp2
            go_ret
            exact ⟨by unfold elimAll; (try rw [hM0]); (try rw [hm]); rw [HF.out]; rfl, HB.out⟩
end Go.Proofs.Ytomdfjohnmikdaa.Im
namespace Go.Proofs.Ytomdfjohnmikdaa.Im
set_option linter.unusedVariables false
set_option linter.unusedSimpArgs false
/-- What holds ahead of column c: the rows from r on are zero there. -/
def Zero (M : List (List Int)) (m r c : Nat) : Prop := Bits M ∧ (∀ row ∈ M, row.length = m) ∧ ∀ i, r ≤ i → i < M.length → ∀ q, q < c → ent M i q = 0
theorem xr_zero (x t : Int) : xr x t 0 = x := by
  unfold xr
  rw [if_neg (fun h => by have := h.2; omega)]
theorem stepR_low {lo c : Nat} {own row : List Int} (hlo : lo ≤ c) (h : ∀ q, q < c → own.getD q 0 = 0) (j : Nat) : stepR c c own row j = stepR lo c own row j := by
  apply List.ext_getElem
  · rw [stepR_len, stepR_len]
  · intro q h1 h2
    have hq : q < row.length := by rw [stepR_len] at h1; exact h1
    rw [stepR_at hq, stepR_at hq]
    by_cases h3 : c ≤ q ∧ q < j
    · rw [if_pos h3, if_pos ⟨by omega, h3.2⟩]
    · rw [if_neg h3]
      by_cases h4 : lo ≤ q ∧ q < j
      · rw [if_pos h4, h q (by omega), xr_zero]
      · rw [if_neg h4]
theorem elimTo_low {lo c r : Nat} {M : List (List Int)} (hlo : lo ≤ c) (h : ∀ q, q < c → ent M r q = 0) (i : Nat) : elimTo c c r M i = elimTo lo c r M i := by
  apply List.ext_getElem
  · rw [elimTo_len, elimTo_len]
  · intro q h1 h2
    have hq : q < M.length := by rw [elimTo_len] at h1; exact h1
    rw [elimTo_at hq, elimTo_at hq]
    by_cases h3 : r < q ∧ q < i
    · rw [if_pos h3, if_pos h3]
      exact stepR_low hlo h _
    · rw [if_neg h3, if_neg h3]
theorem findZ_hit {M : List (List Int)} {c r i : Nat} (h : findZ M c r = some i) : r ≤ i ∧ i < M.length ∧ ent M i c ≠ 0 := by
  unfold findZ at h
  have h1 := List.mem_of_find?_eq_some h
  have h2 := List.find?_some h
  have := List.mem_range'_1.1 h1
  exact ⟨this.1, by omega, by simpa using h2⟩
theorem findZ_miss {M : List (List Int)} {c r : Nat} (h : findZ M c r = none) : ∀ i, r ≤ i → i < M.length → ent M i c = 0 := by
  unfold findZ at h
  intro i h1 h2
  have := List.find?_eq_none.1 h i (List.mem_range'_1.2 ⟨h1, by omega⟩)
  simpa using this
theorem row_at {M : List (List Int)} {i : Nat} (hi : i < M.length) : M.getD i [] = M[i] := getD_at hi
theorem zero_step {lo : Nat → Nat} {M : List (List Int)} {m r c : Nat} (hlo : lo c ≤ c) (hc : c < m) (h : Zero M m r c) (hr : r ≤ M.length) : elimStep id (M, r) c = elimStep lo (M, r) c ∧ Zero (elimStep id (M, r) c).1 m (elimStep id (M, r) c).2 (c + 1) ∧ (elimStep id (M, r) c).2 ≤ (elimStep id (M, r) c).1.length := by
  unfold elimStep
  cases hf : findZ M c r with
  | none =>
    refine ⟨rfl, ⟨h.1, h.2.1, fun i h1 h2 q hq => ?_⟩, hr⟩
    by_cases hqc : q < c
    · exact h.2.2 i h1 h2 q hqc
    · rw [show q = c by omega]; exact findZ_miss hf i h1 h2
  | some p =>
    obtain ⟨h1, h2, h3⟩ := findZ_hit hf
    have hr' : r < M.length := by omega
    have hsl : (swapL M p r).length = M.length := swapL_len _ _ _
    have hsr : ∀ i (hi : i < M.length), (swapL M p r)[i]'(by rw [hsl]; exact hi) = if i = r then M[p] else if i = p then M[r] else M[i] := fun i hi => swapL_at h2 hr' (by rw [hsl]; exact hi)
    have hse : ∀ i, r ≤ i → i < M.length → ∃ k, r ≤ k ∧ k < M.length ∧ ∀ q, ent (swapL M p r) i q = ent M k q := fun i h4 h5 => by
      have e := hsr i h5
      have e1 : ∀ k (hk : k < M.length), (swapL M p r)[i]'(by rw [hsl]; exact h5) = M[k] → ∀ q, ent (swapL M p r) i q = ent M k q := fun k hk e q => by
        unfold ent
        rw [row_at (by rw [hsl]; exact h5), row_at hk, e]
      by_cases hir : i = r
      · rw [if_pos hir] at e; exact ⟨p, h1, h2, e1 p h2 e⟩
      · rw [if_neg hir] at e
        by_cases hip : i = p
        · rw [if_pos hip] at e; exact ⟨r, Nat.le_refl _, hr', e1 r hr' e⟩
        · rw [if_neg hip] at e; exact ⟨i, h4, h5, e1 i h5 e⟩
    have hz : ∀ i, r ≤ i → i < M.length → ∀ q, q < c → ent (swapL M p r) i q = 0 := fun i h4 h5 q hq => by
      obtain ⟨k, k1, k2, k3⟩ := hse i h4 h5
      rw [k3]; exact h.2.2 k k1 k2 q hq
    have hown : ent (swapL M p r) r c ≠ 0 := by
      have e := hsr r hr'
      rw [if_pos rfl] at e
      unfold ent
      rw [row_at (by rw [hsl]; exact hr'), e, ← row_at h2]
      exact h3
    have hsb := swap_bits h.1 h2 hr'
    have hslen : ∀ row ∈ swapL M p r, row.length = m := by
      intro row hrow
      obtain ⟨i, hi, rfl⟩ := List.mem_iff_getElem.1 hrow
      have hi' : i < M.length := by rw [hsl] at hi; exact hi
      rw [hsr i hi']
      split
      · exact h.2.1 _ (List.getElem_mem _)
      · split <;> exact h.2.1 _ (List.getElem_mem _)
    refine ⟨?_, ⟨elimTo_bits hsb, ?_, ?_⟩, ?_⟩
    · show (elimTo c c r (swapL M p r) M.length, r + 1) = (elimTo (lo c) c r (swapL M p r) M.length, r + 1)
      rw [elimTo_low hlo (fun q hq => hz r (Nat.le_refl _) hr' q hq)]
    · intro row hrow
      obtain ⟨i, hi, rfl⟩ := List.mem_iff_getElem.1 hrow
      have hi' : i < (swapL M p r).length := by rw [elimTo_len] at hi; exact hi
      rw [elimTo_at hi']
      split
      · rw [stepR_len]; exact hslen _ (List.getElem_mem _)
      · exact hslen _ (List.getElem_mem _)
    · intro i h4 h5 q hq
      have h5' : i < (swapL M p r).length := by
        have : (elimTo c c r (swapL M p r) M.length).length = (swapL M p r).length := elimTo_len _ _ _ _ _
        exact this ▸ h5
      have h6 : i < M.length := by rw [← hsl]; exact h5'
      have hrl := hslen _ (List.getElem_mem h5')
      have h4' : r + 1 ≤ i := h4
      have e : (elimTo c c r (swapL M p r) M.length).getD i [] = stepR c c ((swapL M p r).getD r []) (swapL M p r)[i] (swapL M p r)[i].length := by
        rw [row_at (by rw [elimTo_len]; exact h5'), elimTo_at h5', if_pos ⟨by omega, h6⟩]
      show ent (elimTo c c r (swapL M p r) M.length) i q = 0
      unfold ent
      rw [e]
      have hqm : q < (swapL M p r)[i].length := by omega
      rw [getD_lt (by rw [stepR_len]; exact hqm), stepR_at hqm]
      have hx : ent (swapL M p r) i q = (swapL M p r)[i][q] := ent_at h5' hqm
      by_cases hqc : q < c
      · rw [if_neg (by omega), ← hx]
        exact hz i (by omega) h6 q hqc
      · obtain rfl : q = c := by omega
        rw [if_pos ⟨Nat.le_refl _, hqm⟩]
        have ho : ((swapL M p r).getD r []).getD q 0 = 1 := by
          have := bit_ent hsb r q
          rcases this with h7 | h7
          · exact absurd h7 hown
          · exact h7
        have hb : Bit (swapL M p r)[i][q] := hsb _ (List.getElem_mem _) _ (List.getElem_mem _)
        rw [ho, getD_lt hqm, Int.mul_one]
        unfold xr
        rcases hb with h7 | h7 <;> rw [h7] <;> simp
    · show r + 1 ≤ (elimTo c c r (swapL M p r) M.length).length
      rw [elimTo_len, hsl]; omega
theorem elim_same {lo : Nat → Nat} (hlo : ∀ c, lo c ≤ c) {M : List (List Int)} {m : Nat} (hb : Bits M) (hl : ∀ row ∈ M, row.length = m) : elimAll id M m = elimAll lo M m := by
  have key : ∀ c, c ≤ m → (List.range c).foldl (elimStep id) (M, 0) = (List.range c).foldl (elimStep lo) (M, 0) ∧ Zero ((List.range c).foldl (elimStep id) (M, 0)).1 m ((List.range c).foldl (elimStep id) (M, 0)).2 c ∧ ((List.range c).foldl (elimStep id) (M, 0)).2 ≤ ((List.range c).foldl (elimStep id) (M, 0)).1.length := by
    intro c
    induction c with
    | zero => exact fun _ => ⟨rfl, ⟨hb, hl, fun i _ _ q hq => absurd hq (Nat.not_lt_zero _)⟩, Nat.zero_le _⟩
    | succ c ih =>
      intro hc
      obtain ⟨h1, h2, h3⟩ := ih (by omega)
      rw [List.range_succ, List.foldl_append, List.foldl_append, ← h1]
      generalize (List.range c).foldl (elimStep id) (M, 0) = s at h2 h3
      obtain ⟨M1, r⟩ := s
      obtain ⟨a1, a2, a3⟩ := zero_step (lo := lo) (hlo c) (by omega) h2 h3
      refine ⟨a1, a2, a3⟩
  exact (key m (Nat.le_refl _)).1
end Go.Proofs.Ytomdfjohnmikdaa.Im
namespace Go.Proofs.Ytomdfjohnmikdaa.Im
set_option linter.unusedVariables false
set_option linter.unusedSimpArgs false
open Go.RowKit Go.Shelf Go.Proofs.Ytomdfjohnmikdaa.Ext Go.Proofs.Ytomdfjohnmikdaa.Cw Go.Proofs.Ytomdfjohnmikdaa.Pu Go.Proofs.YtomdfjohnmikdaaW.PrintWords Go.Proofs.YtomdfjohnmikdaaW.PrintLast Go.Proofs.YtomdfjohnmikdaaW.PrintMore
theorem okDomRk {l : List Int} (h : ∀ x ∈ l, 1 ≤ x ∧ x ≤ 63) (a : Pred) : okDom a l = true := by
  rw [okDom, Bool.or_eq_true]
  refine .inr (List.all_eq_true.2 fun x hx => ?_)
  have := h x hx
  simp; omega
theorem dimO_eq {x : Int} (h0 : 0 ≤ x) (h6 : x ≤ 63) : QO.impl_dimension.f x = some (onesZ x - 1) :=
  (show QO.impl_dimension.f x = QI.impl_dimension.f x from rfl).trans (dim_eq h0 h6)
theorem ofO_f {n : Int} {l : List Int} (hi : isC n l = true) (d : Int) : QO.impl_Complex_of.f n l d = some (l.filter fun x => onesZ x - 1 == d) := by
  have hs := isC_small hi
  have hc : slices_Clone_int64_int64.f l = some l := by unfold slices_Clone_int64_int64.f; rw [if_pos (by omega)]
  obtain ⟨s1, _, p1⟩ := ofI_face (f := fun x => QO.impl_Complex_of_1.f x d) (p := fun x => onesZ x - 1 != d) fun x h0 h6 => by
    unfold QO.impl_Complex_of_1.f
    rw [dimO_eq h0 h6]; rfl
  have hdl : slices_DeleteFunc_int64_int64.f l (QO.clo_186 d) = some (l.filter fun x => onesZ x - 1 == d) := by
    unfold slices_DeleteFunc_int64_int64.f
    rw [if_pos ⟨by omega, s1, okDomRk (isC_63 hi) _⟩]
    congr 1
    refine List.filter_congr fun x hx => ?_
    have := isC_63 hi x hx
    show (!(Pred.ofI (fun x => QO.impl_Complex_of_1.f x d)).pI x) = _
    rw [p1 x (by omega) (by omega)]
    simp [bne]
  unfold QO.impl_Complex_of.f
  rw [hc, Option.bind_some, hdl, Option.bind_some]
theorem ofO_L {n : Int} {l : List Int} (hi : isC n l = true) (j : Nat) : QO.impl_Complex_of.f n l (j : Int) = some (ofL l j) := by
  rw [ofO_f hi]
  congr 1
  unfold ofL
  refine List.filter_congr fun x _ => ?_
  rw [Bool.eq_iff_iff, beq_iff_eq, beq_iff_eq]
  omega
theorem ones_pos : ((List.range 64).all fun f => f == 0 || decide (1 ≤ onesZ (f : Int))) = true := by decide +kernel
theorem ofO_low {n : Int} {l : List Int} (hi : isC n l = true) : QO.impl_Complex_of.f n l (-1) = some [] := by
  rw [ofO_f hi]
  congr 1
  rw [List.filter_eq_nil_iff]
  intro x hx
  have r := isC_63 hi x hx
  obtain ⟨a, rfl⟩ := Int.eq_ofNat_of_zero_le (show 0 ≤ x by omega)
  have h := List.all_eq_true.1 ones_pos a (List.mem_range.2 (by omega))
  rw [Bool.or_eq_true] at h
  rcases h with h | h
  · have := eq_of_beq h; omega
  · have := of_decide_eq_true h
    rw [beq_iff_eq]; omega
theorem half_w {i j : Nat} (hi : i ≤ 1000000) (hj : j ≤ 1000000) : wrap64 ((IntKind.u64.wrap (wrap64 ((i : Int) + (j : Int)))) / 2) = (((i + j) / 2 : Nat) : Int) := by
  rw [w64_ (x := (i : Int) + (j : Int)) (by omega) (by omega)]
  rw [show IntKind.u64.wrap ((i : Int) + (j : Int)) = (i : Int) + (j : Int) by rw [IntKind.wrap_u64]; omega]
  rw [w64_ (by omega) (by omega)]
  omega
theorem lessO_f (a b : Int) : QO.cmp_Less_int64.f a b = some (decide (a < b)) := by
  unfold QO.cmp_Less_int64.f QO.cmp_isNaN_int64.f
  simp
theorem less_at {C : List Int} (hA : C.Pairwise (· < ·)) {g : Int} {p h : Nat} (hp : p < C.length) (hg : C[p] = g) (hh : h < C.length) : QO.cmp_Less_int64.f (rd C (h : Int)) g = some (decide (h < p)) := by
  rw [lessO_f, rd_at' hh, ← hg]
  congr 1
  rw [decide_eq_decide]
  rcases Nat.lt_trichotomy h p with h1 | h1 | h1
  · exact ⟨fun _ => h1, fun _ => List.pairwise_iff_getElem.1 hA h p hh hp h1⟩
  · subst h1
    exact ⟨fun h => absurd h (Int.lt_irrefl _), fun h => absurd h (Nat.lt_irrefl _)⟩
  · have := List.pairwise_iff_getElem.1 hA p h hp hh h1
    exact ⟨fun h => by omega, fun h => by omega⟩
theorem bs_loop {C : List Int} (hA : C.Pairwise (· < ·)) (hl : C.length ≤ 1000000) {g : Int} {p : Nat} (hp : p < C.length) (hg : C[p] = g) : ∀ d (i j : Nat), j - i = d → i ≤ p → p ≤ j → j ≤ C.length →
    Ev (fun k => QO.slices_BinarySearch_int64_int64.l0 k C g (C.length : Int) i j) ((p : Int), true) := by
  intro d
  induction d using Nat.strongRecOn with
  | _ d ih =>
    intro i j hd h1 h2 h3
    by_cases hij : i < j
    · have hh : (i + j) / 2 < C.length := by omega
      have hless := less_at hA hp hg hh
      by_cases hlt : (i + j) / 2 < p
      · refine Ev.step (fun k => ?_) (ih (j - ((i + j) / 2 + 1)) (by omega) ((i + j) / 2 + 1) j rfl (by omega) h2 h3)
        simp only [QO.slices_BinarySearch_int64_int64.l0]
        rw [if_pos (by omega), half_w (by omega) (by omega), if_pos (by omega), if_pos (by omega), hless, Option.bind_some, if_pos (by simpa using hlt)]
        rw [show wrap64 (((((i + j) / 2 : Nat)) : Int) + 1) = (((i + j) / 2 + 1 : Nat) : Int) by rw [w64_ (by omega) (by omega)]; omega]
      · refine Ev.step (fun k => ?_) (ih ((i + j) / 2 - i) (by omega) i ((i + j) / 2) rfl h1 (by omega) (by omega))
        simp only [QO.slices_BinarySearch_int64_int64.l0]
        rw [if_pos (by omega), half_w (by omega) (by omega), if_pos (by omega), if_pos (by omega), hless, Option.bind_some, if_neg (by simpa using hlt)]
    · obtain rfl : i = p := by omega
      obtain rfl : j = i := by omega
      refine Ev.step (f := fun k => some ((j : Int), true)) (fun k => ?_) (Ev.now _)
      simp only [QO.slices_BinarySearch_int64_int64.l0]
      rw [if_neg (by omega), if_pos (by omega), if_pos (by omega), if_pos (by omega), rd_at' hp, if_pos hg]
theorem ev_bs {C : List Int} (hA : C.Pairwise (· < ·)) (hl : C.length ≤ 1000000) {g : Int} (hg : g ∈ C) : ∃ p : Nat, Ev (fun k => QO.slices_BinarySearch_int64_int64.f k C g) ((p : Int), true) ∧ ∃ h : p < C.length, C[p] = g := by
  obtain ⟨p, hp, he⟩ := List.mem_iff_getElem.1 hg
  exact ⟨p, bs_loop hA hl hp he _ 0 C.length rfl (Nat.zero_le _) (by omega) (Nat.le_refl _), hp, he⟩
theorem sigO_all : ((List.range 64).all fun f => f == 0 || (QO.impl_signs.f 20 (f : Int) == some (if onesZ (f : Int) ≤ 1 then [] else sigL (f : Int)))) = true := by decide +kernel
theorem ev_sigO {f : Int} (h1 : 1 ≤ f) (h2 : f ≤ 63) : ∃ S, Ev (fun k => QO.impl_signs.f k f) S ∧ S.length = (bordersL f).length ∧ ∀ s ∈ S, s = 1 ∨ s = -1 := by
  have hf := sig_facts h1 h2
  obtain ⟨a, rfl⟩ := Int.eq_ofNat_of_zero_le (show 0 ≤ f by omega)
  have h := List.all_eq_true.1 sigO_all a (List.mem_range.2 (by omega))
  rw [Bool.or_eq_true] at h
  rcases h with h | h
  · have := eq_of_beq h; omega
  · have hs : (if onesZ (a : Int) ≤ 1 then [] else sigL (a : Int)) = sigL (a : Int) := by
      unfold sigL
      by_cases h0 : onesZ (a : Int) ≤ 1
      · rw [if_pos h0, if_pos h0]
      · rw [if_neg h0, if_neg h0]
    have h' := eq_of_beq h
    rw [hs] at h'
    exact ⟨sigL (a : Int), Ev.of (fun k => QO.impl_signs.mono _ k) h', hf.1, hf.2.1⟩
theorem low_all : ((List.range 64).all fun f => decide (1 < onesZ (f : Int)) || (bordersL (f : Int)).isEmpty) = true := by decide +kernel
theorem low_borders {f : Int} (h1 : 1 ≤ f) (h2 : f ≤ 63) (h3 : onesZ f = 1) : bordersL f = [] := by
  obtain ⟨a, rfl⟩ := Int.eq_ofNat_of_zero_le (show 0 ≤ f by omega)
  have h := List.all_eq_true.1 low_all a (List.mem_range.2 (by omega))
  rw [Bool.or_eq_true] at h
  rcases h with h | h
  · have := of_decide_eq_true h; omega
  · simpa using h
theorem foldmax_ge (g : Int → Int) : ∀ (l : List Int) (a : Int), a ≤ l.foldl (fun a x => max a (g x)) a ∧ ∀ x ∈ l, g x ≤ l.foldl (fun a x => max a (g x)) a
  | [], a => ⟨Int.le_refl _, fun x hx => by cases hx⟩
  | x :: l, a => by
    rw [List.foldl_cons]
    obtain ⟨h1, h2⟩ := foldmax_ge g l (max a (g x))
    refine ⟨by have := Int.le_max_left a (g x); omega, fun y hy => ?_⟩
    rcases List.mem_cons.1 hy with rfl | hy
    · have := Int.le_max_right a (g y); omega
    · exact h2 y hy
theorem of_above {xs : List Int} {j : Nat} (h : dimL xs < (j : Int)) : ofL xs j = [] := by
  unfold ofL
  rw [List.filter_eq_nil_iff]
  intro x hx
  have := (foldmax_ge (fun x => onesZ x - 1) xs (-1)).2 x hx
  have h2 : onesZ x - 1 ≤ dimL xs := this
  rw [beq_iff_eq]; omega
theorem rank_c (n : Int) (A : Option Addr) (c : Nat) (xs : List Int) (d : Int) (w : World) (hr : RC w A xs.length xs) (hc : xs.length ≤ c) (hi : isC n xs = true) (h0 : 0 ≤ d) (hd : d ≤ 100) :
    Calls Try.prog 109 #[.agg #[.int .i64 n, .slice A xs.length c], .int .i64 d, .int .i64 2] w fun e w' => e = .returned (.int .i64 (rankS xs d)) ∧ Below w.heap.size w w' := by
  have hsm := isC_small hi
  have h63 := isC_63 hi
  have hfl : ∀ q, (ofL xs q).length ≤ xs.length := fun q => List.length_filter_le _ _
  have hasc : ∀ q, (ofL xs q).Pairwise (· < ·) := fun q => List.Pairwise.filter _ (ascB_asc (isC_of hi).2.1)
  have hnd : ∀ q, (ofL xs q).Nodup := fun q => filter_nodup (ascB_asc (isC_of hi).2.1) _
  have hbl : ∀ f, (bordersL f).length ≤ 1000 := fun f => by have := borders_len6 (f := f); omega
  have hbf : ∀ f, impl_borders.f f = some (bordersL f) := fun f => rfl
  obtain ⟨j, rfl⟩ := Int.eq_ofNat_of_zero_le h0
  obtain ⟨K1, hK1⟩ := ev_list (g := fun x k => QO.impl_signs.f k x) (Q := fun x r => r.length = (bordersL x).length ∧ ∀ s ∈ r, s = 1 ∨ s = -1) (ofL xs j) (fun x hx => by
    obtain ⟨S, s1, s2, s3⟩ := ev_sigO (h63 x (ofL_mem hx).1).1 (h63 x (ofL_mem hx).1).2
    exact ⟨S, s1, s2, s3⟩)
  cases j with
  | zero =>
    have := rankI_c K1 n A c xs ((0 : Nat) : Int) (ofL xs 0) [] bordersL w hr hc (by omega) (ofO_L hi 0) (ofO_low hi)
      (fun f hf => ⟨hbf f, by obtain ⟨S, s1, s2, s3⟩ := hK1 K1 (Nat.le_refl _) f hf; exact ⟨S, s1, s2, s3⟩⟩)
      (fun f hf g hg => by
        obtain ⟨h1, h2⟩ := ofL_mem hf
        rw [low_borders (h63 f h1).1 (h63 f h1).2 (by omega)] at hg
        cases hg) List.nodup_nil (by have := hfl 0; omega) (by simp) (fun f _ => hbl f)
    rw [show rankS xs ((0 : Nat) : Int) = 0 by unfold rankS; rw [if_pos (.inl (by omega))]]
    exact this
  | succ j =>
    obtain ⟨K2, hK2⟩ := ev_list (g := fun x k => QO.slices_BinarySearch_int64_int64.f k (ofL xs j) x) (Q := fun x r => ∃ p : Nat, r = ((p : Int), true) ∧ ∃ h : p < (ofL xs j).length, (ofL xs j)[p] = x) (ofL xs j) (fun x hx => by
      obtain ⟨p, hp1, hp2⟩ := ev_bs (hasc j) (by have := hfl j; omega) hx
      exact ⟨_, hp1, p, rfl, hp2⟩)
    obtain ⟨k, hk1, hk2⟩ : ∃ k, K1 ≤ k ∧ K2 ≤ k := ⟨K1 + K2, by omega, by omega⟩
    have := rankI_c k n A c xs ((j + 1 : Nat) : Int) (ofL xs (j + 1)) (ofL xs j) bordersL w hr hc (by omega) (ofO_L hi (j + 1)) (by rw [show ((j + 1 : Nat) : Int) - 1 = (j : Int) by omega]; exact ofO_L hi j)
      (fun f hf => ⟨hbf f, by obtain ⟨S, s1, s2, s3⟩ := hK1 k hk1 f hf; exact ⟨S, s1, s2, s3⟩⟩)
      (fun f hf g hg => by
        obtain ⟨r, e, p, rfl, h⟩ := hK2 k hk2 g (border_of hi hf hg)
        exact ⟨p, e, h⟩) (hnd j) (by have := hfl (j + 1); omega) (by have := hfl j; omega) (fun f _ => hbl f)
    have hS : ((elimAll (fun _ => 0) (matZ (ofL xs j) (ofL xs (j + 1)) bordersL) (ofL xs j).length).2 : Int) = rankS xs ((j + 1 : Nat) : Int) := by
      by_cases hda : dimL xs < ((j + 1 : Nat) : Int)
      · rw [of_above hda, show matZ (ofL xs j) [] bordersL = [] from rfl, elimAll_nil]
        unfold rankS
        rw [if_pos (.inr hda)]
        rfl
      · unfold rankS
        rw [if_neg (by omega), ← elim_same (lo := fun _ => 0) (fun _ => Nat.zero_le _) (matZ_bits _ _ _) (fun row hrow => by
          unfold matZ at hrow
          obtain ⟨f, _, rfl⟩ := List.mem_map.1 hrow
          exact rowTo_len _ _ _)]
        simp
    rw [hS] at this
    exact this
end Go.Proofs.Ytomdfjohnmikdaa.Im
namespace Go.Proofs.Ytomdfjohnmikdaa.Im
set_option linter.unusedVariables false
set_option linter.unusedSimpArgs false
open Go.RowKit Go.Shelf Go.Proofs.Ytomdfjohnmikdaa.Kp Go.Proofs.Ytomdfjohnmikdaa.Ext Go.Proofs.Ytomdfjohnmikdaa.Cw Go.Proofs.YtomdfjohnmikdaaW.PrintWords Go.Proofs.YtomdfjohnmikdaaW.PrintLast Go.Proofs.YtomdfjohnmikdaaW.PrintMore
/-- One face is met: it is put to the map and to the queue, if it is new. -/
def stepM (s : List (Int × Bool) × List Int) (f : Int) : List (Int × Bool) × List Int := if getM s.1 f = true then s else (putM s.1 f true, s.2 ++ [f])
/-- The queue is gone through. -/
def bfs (l : List Pr) : Nat → List (Int × Bool) → List Int → Option (List (Int × Bool))
  | 0, _, _ => none
  | _ + 1, M, [] => some M
  | k + 1, M, x :: qs => if qs.length ≤ 1000 then (QA.impl_steps.f l x).bind fun fs => if fs.length ≤ 1000 then bfs l k (fs.foldl stepM (M, x :: qs)).1 ((fs.foldl stepM (M, x :: qs)).2.drop 1) else none else none
theorem stepM_len (s : List (Int × Bool) × List Int) (f : Int) : s.2.length ≤ (stepM s f).2.length ∧ (stepM s f).2.length ≤ s.2.length + 1 := by
  unfold stepM
  split <;> simp
theorem fold_len (fs : List Int) : ∀ s : List (Int × Bool) × List Int, s.2.length ≤ (fs.foldl stepM s).2.length ∧ (fs.foldl stepM s).2.length ≤ s.2.length + fs.length := by
  induction fs with
  | nil => intro s; simp
  | cons f fs ih =>
    intro s
    have h1 := stepM_len s f
    have h2 := ih (stepM s f)
    simp only [List.foldl_cons, List.length_cons]
    omega
theorem rowLit1 (w : World) (a : Int) (base : Nat) (ok : Nat → Prop) (hb : base ≤ w.heap.size) (hok : ok w.heap.size) : Kd.R (Kd.int .i64) 2 (w.alloc (.cells #[.int .i64 a] 2)) base ok (.slice (some ⟨w.heap.size, 0, none⟩) 1 1) [a] := by
  refine ⟨fun k hk => ?_, [.int .i64 a], ?_, ⟨rfl, fun j p hj => ?_⟩⟩
  · obtain rfl : w.heap.size = k := by simpa [Value.ownBlock] using hk
    exact hok
  · have h2 := World.ownsRow_lit (base := base) (e := 2) (size := (Kd.int .i64).sz) w #[.int .i64 a] 1 hb (by simp [maxLen]) rfl
    simpa using h2
  · rcases j with _ | j
    · obtain rfl : a = p := by simpa using hj
      rfl
    · simp at hj
theorem mapB_grown {w w1 : World} {b : Nat} {M : List (Int × Bool)} (h : MapB w b M) {v : Value} (hg : w.grownBy w1 v.ownBlock) (hv : ∀ k, v.ownBlock = some k → ∃ cells, w.heap[k]? = some (.cells cells 2 (0, 0))) : MapB w1 b M := by
  have hl := h.lt
  have hne : some b ≠ v.ownBlock := fun e => by
    obtain ⟨cells, hc⟩ := hv b e.symm
    exact h.ne hc rfl
  obtain ⟨es, c, h1, h2⟩ := h
  exact ⟨es, c, (hg.block b hl hne).trans h1, h2⟩
theorem info_i64 : (Try.prog.info? 2).map (fun i => (i.zero, i.size, i.bytes)) = some (some (.int .i64 0), 1, 8) := by kernel_rfl
theorem qPut {w w1 : World} {b base : Nat} {M : List (Int × Bool)} {ok : Nat → Prop} {v : Value} {xs : List Int} (h : Kd.Q (Kd.int .i64) 2 w base ok v xs) (hm : MapB w b M) (hg : w.grownBy w1 (some b)) : Kd.Q (Kd.int .i64) 2 w1 base ok v xs :=
  Kd.Q_mono (Kd.Q_grown (Kd.Q_bound h) hg (fun k hk e => by
    obtain ⟨_, _, _, q, _, cells, hc⟩ := hk
    injection e with e
    subst e
    exact hm.ne hc rfl)) (fun k hk => hk.1)
theorem rPut {w w1 : World} {b base : Nat} {M : List (Int × Bool)} {ok : Nat → Prop} {v : Value} {xs : List Int} (h : Kd.R (Kd.int .i64) 2 w base ok v xs) (hm : MapB w b M) (hg : w.grownBy w1 (some b)) : Kd.R (Kd.int .i64) 2 w1 base ok v xs :=
  Kd.R_mono (Kd.R_step (Kd.R_bound h) (fun k hk hlt => hg.block k hlt (fun e => by
    obtain ⟨_, _, _, q, _, cells, hc⟩ := hk
    injection e with e
    subst e
    exact hm.ne hc rfl))) (fun k hk => hk.1)
def BehindPost (M : List (Int × Bool)) (w : World) (e : Ending) (w' : World) : Prop := ∃ b, e = .returned (.map (some b)) ∧ MapB w' b M ∧ w.heap.size ≤ b ∧ Below w.heap.size w w'
set_option maxRecDepth 100000 in
set_option maxHeartbeats 2000000 in
theorem behind_c (k : Nat) (A : Option Addr) (c : Nat) (l : List Pr) (a : Int) (M : List (Int × Bool)) (w : World) (hr : Kd.C k73 w A l.length l) (hc : l.length ≤ c) (hk : bfs l k [] [a] = some M) :
    Calls Try.prog 166 #[.slice A l.length c, .int .i64 a] w (BehindPost M w) := by
  have HR := Aside0.mk hr
  have HC := Aside0.mk hc
  have HK := Aside0.mk hk
  clear hr hc hk
  have hmm := @run_makeMap Try.prog
  have hq0 := Aside0.mk (Kd.Q_of_R (rowLit1 (w.alloc (.map #[] 0)) a w.heap.size (fun _ => True) (by simp) trivial))
  have hm0 := Aside0.mk ((MapB.made w).alloc (.cells #[.int .i64 a] 2))
  go_enter Try.func166, Try.ntmps166
  go_wp2
  go_loopg [6] k (fun kq q wr => ∃ (Mk : List (Int × Bool)) (qs : List Int), Aside0 (bfs l kq Mk qs = some M) ∧ Aside0 (Below w.heap.size w wr) ∧ Aside0 (MapB wr w.heap.size Mk) ∧ Aside0 (Kd.Q (Kd.int .i64) 2 wr w.heap.size (fun _ => True) q qs))
  case atStart => exact ⟨[], [a], HK, ⟨below_alloc (below_alloc (Below.refl _ _) _) _⟩, hm0, by simpa using hq0⟩
  case round =>
    clear HK hq0 hm0
    obtain ⟨Mk, qs, HK, HB, HM, HQ⟩ := hrel
    obtain ⟨Aq, cq, rfl, hcq⟩ := Kd.Q_slice HQ.out
    cases gk with
    | zero => exact absurd HK.out (by simp [bfs])
    | succ k1 =>
      cases qs with
      | nil =>
        have hk0 : M = Mk := by have := HK.out; simp only [bfs, Option.some.injEq] at this; exact this.symm
        subst hk0
        go_wp2
        go_ret
        exact ⟨_, rfl, HM.out, Nat.le_refl _, HB.out⟩
      | cons x qs =>
        have hk1 := HK.out
        simp only [bfs] at hk1
        clear HK
        by_cases hb1 : qs.length ≤ 1000
        case neg => rw [if_neg hb1] at hk1; cases hk1
        rw [if_pos hb1] at hk1
        obtain ⟨fs, hfs, hk2⟩ := Option.bind_eq_some_iff.1 hk1
        clear hk1
        by_cases hb2 : fs.length ≤ 1000
        case neg => rw [if_neg hb2] at hk2; cases hk2
        rw [if_pos hb2] at hk2
        have HK := Aside0.mk hk2
        have HF := Aside0.mk hfs
        clear hk2 hfs
        obtain ⟨_, hqc, hqr⟩ := Kd.Q_reads' HQ.out
        obtain ⟨aq, rfl, hq0⟩ := Kd.at_int hqr 0 (by omega) (by simp)
        rw [show rd (x :: qs) 0 = x from rfl, show aq.add (Int.toNat 0) = aq by unfold Addr.add; simp] at hq0
        clear hqr
        go_wp2_with (go_at_call 190; refine (QA.impl_steps.calls A c l x fs _ (Kd.C_below HR.out HB.out) HC.out HF.out).mono ?_; rintro e w1 ⟨v1, rfl, ho, hb⟩; have hm1 := Aside0.mk (HM.out.below hb); have hq1 := Aside0.mk (Kd.Q_below HQ.out hb); have ho1 := Aside0.mk (Kd.R_lower (Kd.R_new' ho (Kd.Q_lt HQ.out)) HB.out.size); have hb3 := Aside0.mk (below_in HB.out hb); clear HM HQ HB ho hb hq0; have HM := hm1; have HQ := hq1; have HB := hb3; have HO := ho1; clear hm1 hq1 hb3 ho1; obtain ⟨A2, c2, he2⟩ := Kd.R_slice HO.out; subst he2)
        go_loopw [6, 23] (fun q i wq => ∃ (j : Nat) (Mj : List (Int × Bool)) (qj : List Int), j ≤ fs.length ∧ i = .int .i64 j ∧ Aside0 ((fs.take j).foldl stepM (Mk, x :: qs) = (Mj, qj)) ∧ Aside0 (Below w.heap.size w wq) ∧ Aside0 (MapB wq w.heap.size Mj) ∧ Aside0 (Kd.Q (Kd.int .i64) 2 wq w.heap.size (fun _ => True) q qj) ∧ Aside0 (Kd.R (Kd.int .i64) 2 wq w.heap.size (fun k => True ∧ some k ≠ q.ownBlock) (.slice A2 fs.length c2) fs)) (fun _ i _ => fs.length - (intOf i).toNat)
        case atStart => exact ⟨0, Mk, x :: qs, by omega, rfl, ⟨rfl⟩, HB, HM, HQ, HO⟩
        case round =>
          clear HB HM HQ HO
          obtain ⟨j, Mj, qj, hj, rfl, HE, HB, HM, HQ, HO⟩ := hrel
          obtain ⟨Aj, cj, rfl, hcj⟩ := Kd.Q_slice HQ.out
          have hlq : qj.length ≤ 2001 := by
            have h1 := fold_len (fs.take j) (Mk, x :: qs)
            have h2 := List.length_take_le j fs
            rw [HE.out] at h1
            simp only [List.length_cons] at h1
            omega
          by_cases hlt : j < fs.length
          · have hltz : (j : Int) < (fs.length : Int) := by omega
            obtain ⟨af, rfl, hf0⟩ := Kd.at_int (Kd.R_reads' HO.out).2.2 j (by omega) (by omega)
            obtain ⟨y, hy⟩ : ∃ y, rd fs j = y := ⟨_, rfl⟩
            rw [hy, show ((j : Int)).toNat = j by omega] at hf0
            have hstep : (fs.take (j + 1)).foldl stepM (Mk, x :: qs) = stepM (Mj, qj) y := by
              rw [List.take_succ_eq_append_getElem hlt, List.foldl_append, HE.out, ← hy, rd_at' hlt]
              rfl
            have HST := Aside0.mk hstep
            clear hstep hy
            by_cases hg : getM Mj y = true
            · have hl := lookB HM.out hg
              have HG := Aside0.mk hg
              clear hg
              go_wp2
              go_roundw
              case measure => simp [intOf]; omega
              case rel => exact ⟨j + 1, Mj, qj, by omega, by go_num, ⟨by rw [HST.out]; unfold stepM; rw [if_pos HG.out]⟩, HB, HM, HQ, HO⟩
            · have hl := lookB HM.out (Bool.eq_false_iff.2 hg)
              have HG := Aside0.mk hg
              clear hg
              obtain ⟨w3, hrun, hM3, hg3, hz3⟩ := putB HM.out y true
              have hq3 := Aside0.mk (qPut HQ.out HM.out hg3)
              have ho3 := Aside0.mk (rPut HO.out HM.out hg3)
              have hb3 := Aside0.mk (HB.out.grown hg3 HB.out.size (fun k hk => by injection hk with hk; omega))
              have hm3 := Aside0.mk hM3
              have HLQ := Aside0.mk hlq
              have HLT := Aside0.mk hlt
              clear hz3 hM3 hg3 HQ HO HB HM hlq
              have HQ := hq3
              have HO := ho3
              have HB := hb3
              have HM := hm3
              clear hq3 ho3 hb3 hm3
              go_wp2_with ((with_reducible refine gate_builtin (b := .append) (xs := #[.tmp 33, .tmp 35]) rfl ?_); at_builtin; refine Kd.Q_append (Kd.int .i64) (w0 := w) w.heap.size rfl (.tmp 33) (.tmp 35) 22 2 (.int .i64 0) 8 rfl Try.underlying22 info_i64 rfl (by decide) (by omega) (.slice Aj qj.length cj) qj y [.int .i64 y] (fun _ => True) (fun _ => False) rfl rfl rfl (fun _ hk => hk.elim) (fun _ _ => trivial) HQ.out HB.out HB.out.size (by have := HLQ.out; omega) ?_; intro v4 w4 hq4 hb4 hg4 hat; have ho4 := Aside0.mk (Kd.R_after HO.out hg4 hat); have hm4 := Aside0.mk (mapB_grown HM.out hg4 (Kd.Q_typed HQ.out)); have hq5 := Aside0.mk hq4; have hb5 := Aside0.mk hb4; clear hq4 hb4 hg4 hat HO HM HQ HB)
              go_roundw
              case measure => simp [intOf]; have := HLT.out; omega
              case rel => exact ⟨j + 1, putM Mj y true, qj ++ [y], by have := HLT.out; omega, by go_num, ⟨by rw [HST.out]; unfold stepM; rw [if_neg HG.out]⟩, hb5, hm4, hq5, ho4⟩
          · obtain rfl : j = fs.length := by omega
            have hltz : ¬ (fs.length : Int) < (fs.length : Int) := by omega
            rw [List.take_length] at HE
            have h1 := fold_len fs (Mk, x :: qs)
            rw [HE.out] at h1
            simp only [List.length_cons] at h1
            have hd := Aside0.mk (Kd.Q_drop (k := 1) HQ.out (by omega))
            have hq1 : (1 : Int) ≤ (qj.length : Int) := by omega
            have hk3 := HK.out
            rw [HE.out] at hk3
            have HK3 := Aside0.mk hk3
            clear hk3 HK HE HO
            by_cases hcap : cj = 1
            · have hd2 := hd.out
              rw [if_pos hcap] at hd2
              have HD := Aside0.mk hd2
              clear hd hd2
              subst hcap
              go_wp2
              go_roundg k1
              case measure => omega
              case rel => exact ⟨Mj, qj.drop 1, HK3, HB, HM, by simpa [show qj.length - 1 = 0 by omega] using HD⟩
            · have hd2 := hd.out
              rw [if_neg hcap, show (fun x : Addr => x.add (1 * (Kd.int .i64).sz)) = (fun x => (⟨x.block, x.off + 1, none⟩ : Addr)) from funext fun x => by unfold Addr.add; simp [Kd.int, Kd.scalar]] at hd2
              have HD := Aside0.mk hd2
              clear hd hd2
              go_wp2
              go_roundg k1
              case measure => omega
              case rel => exact ⟨Mj, qj.drop 1, HK3, HB, HM, by simpa using HD⟩
/-- Whether ways from a face come back to it. -/
def loopB (l : List Pr) (a : Int) : Bool := ((bfs l 1000 [] [a]).map fun M => getM M a).getD false
def okBfs (l : List Pr) : Bool := decide (l.length ≤ 1048576) && l.all fun q => (bfs l 1000 [] [q.f0]).isSome
def acycB (l : List Pr) : Bool := l.all fun q => !loopB l q.f0
theorem okBfs_at {l : List Pr} (h : okBfs l = true) {q : Pr} (hq : q ∈ l) : ∃ M, bfs l 1000 [] [q.f0] = some M ∧ loopB l q.f0 = getM M q.f0 := by
  unfold okBfs at h
  obtain ⟨M, hM⟩ := Option.isSome_iff_exists.1 (List.all_eq_true.1 (Bool.and_eq_true _ _ ▸ h).2 q hq)
  exact ⟨M, hM, by unfold loopB; rw [hM]; rfl⟩
set_option maxRecDepth 100000 in
set_option maxHeartbeats 1000000 in
theorem isAcyclic1_f (b : Nat) (A : Option Addr) (c : Nat) (l : List Pr) (w : World) (hb : Boxed w b 38 (.slice A l.length c)) (hr : Kd.C k73 w A l.length l) (hc : l.length ≤ c) (ho : okBfs l = true) :
    FnP Try.prog (.func (.func 165) #[] #[.pointer (some ⟨b, 0, none⟩)]) (fun q => q ∈ l) (fun q => !loopB l q.f0) w := by
  refine ⟨_, _, _, rfl, enters_of Try.func165 (by kernel_rfl) rfl, fun W q hW hq => ?_⟩
  obtain ⟨M, hM, hv⟩ := okBfs_at ho hq
  have HV := Aside0.mk hv
  have hbe := behind_c 1000 A c l q.f0 M ((W.alloc (.cells #[.int .i64 q.f0, .int .i64 q.f1] 73)).drew) (Kd.C_drew (Kd.C_alloc (Kd.C_below hr hW) _)) hc hM
  have HE := Aside0.mk hbe
  have hx : Aside0 ((W.alloc (.cells #[.int .i64 q.f0, .int .i64 q.f1] 73)).drew.cell? ⟨b, 0, none⟩ = some (.slice A l.length c)) := ⟨pw_cell_below (hW.trans ((below_alloc (Below.refl W.heap.size W) _).mono hW.size)) hb.cell⟩
  have hp := Aside0.mk ((PrAt.new W q.f0 q.f1).drew)
  have HB := Aside0.mk ((below_alloc (Below.refl W.heap.size W) (.cells #[.int .i64 q.f0, .int .i64 q.f1] 73)).drew)
  clear hbe hr hc hM hv hq hW hb
  show Calls Try.prog 165 #[.agg #[.int .i64 q.f0, .int .i64 q.f1], .pointer (some ⟨b, 0, none⟩)] W fun e w' => e = .returned (.bool (!loopB l q.f0)) ∧ Below W.heap.size W w'
  go_enter Try.func165, Try.ntmps165
  go_wp2
  refine st_ 9 (S := fun w' => w'.cell? ⟨b, 0, none⟩ = some (.slice A l.length c) ∧ w'.cell? ⟨W.heap.size, 0, none⟩ = some (.int .i64 q.f0)) (ds := []) ⟨hx.out, hp.out.c0⟩ (fun hHeld => ?_)
  refine with_tabW (T := (true, [([], []), ([], []), ([1], [1]), ([0, 2], [0, 2]), ([], []), ([4], [4]), ([3, 5], [3, 5]), ([6], [6]), ([7, 3, 0, 1, 2, 3, 4, 5, 6, 7], [7])])) (B := [0, 0, 2, 7, 0, 16, 63, 127, 255]) (by kernel_rfl) (by kernel_rfl) (fun HT_ HW_ => ?_)
  refine pd_ 1 5 2 HT_ ?_
  refine pd_ 4 8 18 HT_ ?_
  refine tk_ 0 4 19 HT_ HW_ hHeld ?_
  refine tk_ 2 6 23 HT_ HW_ hHeld ?_
  refine tk_ 5 9 55 HT_ HW_ hHeld ?_
  refine on_ 3 (some 7) 63 HT_ (fun K hK => ?_)
  refine ca_ Try.func166 #[.slice A l.length c, .int .i64 q.f0] ?_
  refine HE.out.mono ?_; rintro e w1 ⟨b1, rfl, hm, hb1, hbl⟩; have HM := Aside0.mk hm; have HL := Aside0.mk hbl; clear hm hb1 hbl HE
  refine ⟨_, rfl, ?_⟩
  refine hK.out _ _ ⟨pw_cell_below HL.out hx.out, pw_cell_below HL.out hp.out.c0⟩ (fun hHeld => ?_)
  clear hK K
  refine nm_ ?_
  refine on_ 6 (some 10) 127 HT_ (fun K hK => ?_)
  (have hl := lookB (x := q.f0) HM.out HV.out.symm; refine value_ (by rfl) rfl (v := .bool (loopB l q.f0)) (w1 := w1) (by go_simp) ?_)
  refine hK.out _ _ ⟨pw_cell_below HL.out hx.out, pw_cell_below HL.out hp.out.c0⟩ (fun hHeld => ?_)
  clear hK K
  refine nm_ ?_
  refine pd_ 7 11 255 HT_ ?_
  refine pd_ 8 3 511 HT_ ?_
  refine dn_ HT_ ?_
  go_wp2
  go_ret
  exact ⟨rfl, below_in HB.out HL.out⟩
set_option maxRecDepth 100000 in
theorem isAcyclic_c (n : Int) (A : Option Addr) (c : Nat) (xs : List Int) (A1 : Option Addr) (c1 : Nat) (l : List Pr) (w : World) (hr1 : Kd.C k73 w A1 l.length l) (hc1 : l.length ≤ c1) (ho : okBfs l = true) :
    Calls Try.prog 113 #[.agg #[.int .i64 n, .slice A xs.length c], .slice A1 l.length c1] w fun e w' => e = .returned (.bool (acycB l)) ∧ Below w.heap.size w w' := by
  have hl : l.length ≤ 1048576 := by unfold okBfs at ho; exact of_decide_eq_true (Bool.and_eq_true _ _ ▸ ho).1
  have hb1 : Below w.heap.size w ((w.alloc (.cells #[.int .i64 n, .slice A xs.length c] 28)).alloc (.cells #[.slice A1 l.length c1] 38)) := below_alloc (below_alloc (Below.refl _ _) _) _
  have hbx : Boxed ((w.alloc (.cells #[.int .i64 n, .slice A xs.length c] 28)).alloc (.cells #[.slice A1 l.length c1] 38)) (w.heap.size + 1) 38 (.slice A1 l.length c1) := by simpa using Boxed.new (w.alloc (.cells #[.int .i64 n, .slice A xs.length c] 28)) 38 (.slice A1 l.length c1)
  have hc := areAllP_c A1 c1 l _ (fun q => q ∈ l) (fun q => !loopB l q.f0) ((w.alloc (.cells #[.int .i64 n, .slice A xs.length c] 28)).alloc (.cells #[.slice A1 l.length c1] 38)) (Kd.C_below hr1 hb1) (isAcyclic1_f _ A1 c1 l _ hbx (Kd.C_below hr1 hb1) hc1 ho) (fun q hq => hq) (by omega)
  have HC := Aside0.mk hc
  have HB := Aside0.mk hb1
  clear hc hb1 hbx hr1 hc1 ho
  go_enter Try.func113, Try.ntmps113
  go_wp2_with (go_at_call 164; refine HC.out.mono ?_; rintro e w' ⟨rfl, hb⟩)
  go_ret
  exact ⟨rfl, below_in HB.out hb⟩
end Go.Proofs.Ytomdfjohnmikdaa.Im
namespace Go.Proofs.Ytomdfjohnmikdaa.Ext
set_option linter.unusedVariables false
set_option linter.unusedSimpArgs false
open Go.RowKit Go.Proofs.Ytomdfjohnmikdaa.Im Go.Proofs.Ytomdfjohnmikdaa.Kp Go.Proofs.YtomdfjohnmikdaaW.PrintWords Go.Proofs.YtomdfjohnmikdaaW.PrintLast Go.Proofs.YtomdfjohnmikdaaW.PrintMore
def slices_ContainsFunc_impl_Pair_impl_Pair.f (l0 : List S73) (a1 : Pred) : Option (Bool) := if l0.length ≤ 1099511627776 ∧ a1.sort = 2 ∧ okDomP a1 l0 = true then some (l0.any a1.pP) else none
theorem slices_ContainsFunc_impl_Pair_impl_Pair.calls (A0 : Option Addr) (c0 : Nat) (l0 : List S73) (F1 : Value) (a1 : Pred) (r : Bool) (w : World) (hr0 : Kd.C k73 w A0 l0.length l0) (_hc0 : l0.length ≤ c0) (hq1 : FnOk F1 a1 w) (h : slices_ContainsFunc_impl_Pair_impl_Pair.f l0 a1 = some r) :
    Calls Try.prog 124 #[.slice A0 l0.length c0, F1] w fun e w' => e = .returned (.bool r) ∧ Below w.heap.size w w' := by
  unfold slices_ContainsFunc_impl_Pair_impl_Pair.f at h
  by_cases hl : l0.length ≤ 1099511627776 ∧ a1.sort = 2 ∧ okDomP a1 l0 = true
  · rw [if_pos hl] at h
    have hd := Option.some.inj h
    have := containsPair_c A0 c0 l0 F1 a1.domP a1.pP w hr0 (hq1.2.2 hl.2.1) (okDomP_mem hl.2.2) hl.1
    rw [hd] at this
    exact this
  · rw [if_neg hl] at h; cases h
def impl_Complex_isPairing.f (a0_0 : Int) (l0_1 : List Int) (l1 : List S73) : Option (Bool) := if isC a0_0 l0_1 = true ∧ l1.length ≤ 1099511627776 then some (pairingB l0_1 l1) else none
theorem impl_Complex_isPairing.calls (a0_0 : Int) (A0_1 : Option Addr) (c0_1 : Nat) (l0_1 : List Int) (A1 : Option Addr) (c1 : Nat) (l1 : List S73) (r : Bool) (w : World) (hr0_1 : Kd.C (Kd.int .i64) w A0_1 l0_1.length l0_1) (_hc0_1 : l0_1.length ≤ c0_1) (hr1 : Kd.C k73 w A1 l1.length l1) (_hc1 : l1.length ≤ c1) (h : impl_Complex_isPairing.f a0_0 l0_1 l1 = some r) :
    Calls Try.prog 118 #[.agg #[.int .i64 a0_0, .slice A0_1 l0_1.length c0_1], .slice A1 l1.length c1] w fun e w' => e = .returned (.bool r) ∧ Below w.heap.size w w' := by
  unfold impl_Complex_isPairing.f at h
  by_cases hl : isC a0_0 l0_1 = true ∧ l1.length ≤ 1099511627776
  · rw [if_pos hl] at h
    have hd := Option.some.inj h
    have := isPairing_c a0_0 A0_1 c0_1 l0_1 A1 c1 l1 w hr0_1 _hc0_1 hl.1 hr1 hl.2
    rw [hd] at this
    exact this
  · rw [if_neg hl] at h; cases h
def impl_Complex_isAcyclic.f (a0_0 : Int) (l0_1 : List Int) (l1 : List S73) : Option (Bool) := if okBfs l1 = true then some (acycB l1) else none
theorem impl_Complex_isAcyclic.calls (a0_0 : Int) (A0_1 : Option Addr) (c0_1 : Nat) (l0_1 : List Int) (A1 : Option Addr) (c1 : Nat) (l1 : List S73) (r : Bool) (w : World) (hr0_1 : Kd.C (Kd.int .i64) w A0_1 l0_1.length l0_1) (_hc0_1 : l0_1.length ≤ c0_1) (hr1 : Kd.C k73 w A1 l1.length l1) (_hc1 : l1.length ≤ c1) (h : impl_Complex_isAcyclic.f a0_0 l0_1 l1 = some r) :
    Calls Try.prog 113 #[.agg #[.int .i64 a0_0, .slice A0_1 l0_1.length c0_1], .slice A1 l1.length c1] w fun e w' => e = .returned (.bool r) ∧ Below w.heap.size w w' := by
  unfold impl_Complex_isAcyclic.f at h
  by_cases hl : okBfs l1 = true
  · rw [if_pos hl] at h
    have hd := Option.some.inj h
    have := isAcyclic_c a0_0 A0_1 c0_1 l0_1 A1 c1 l1 w hr1 _hc1 hl
    rw [hd] at this
    exact this
  · rw [if_neg hl] at h; cases h
end Go.Proofs.Ytomdfjohnmikdaa.Ext
namespace Go.Proofs.Ytomdfjohnmikdaa.Ext
open Go.RowKit Go.Proofs.Ytomdfjohnmikdaa.Im Go.Proofs.Ytomdfjohnmikdaa.Kp Go.Proofs.YtomdfjohnmikdaaW.PrintWords Go.Proofs.YtomdfjohnmikdaaW.PrintLast Go.Proofs.YtomdfjohnmikdaaW.PrintMore
end Go.Proofs.Ytomdfjohnmikdaa.Ext
namespace Go.Proofs.Ytomdfjohnmikdaa.Ext
set_option linter.unusedVariables false
set_option linter.unusedSimpArgs false
open Go.RowKit Go.Proofs.Ytomdfjohnmikdaa.Im  Go.Proofs.YtomdfjohnmikdaaW.PrintWords Go.Proofs.YtomdfjohnmikdaaW.PrintLast Go.Proofs.YtomdfjohnmikdaaW.PrintMore
def impl_Complex_dimension.f (a0_0 : Int) (l0_1 : List Int) : Option (Int) := if isC a0_0 l0_1 = true then some (dimL l0_1) else none
theorem impl_Complex_dimension.calls (a0_0 : Int) (A0_1 : Option Addr) (c0_1 : Nat) (l0_1 : List Int) (r : Int) (w : World) (hr0_1 : Kd.C (Kd.int .i64) w A0_1 l0_1.length l0_1) (_hc0_1 : l0_1.length ≤ c0_1) (h : impl_Complex_dimension.f a0_0 l0_1 = some r) :
    Calls Try.prog 56 #[.agg #[.int .i64 a0_0, .slice A0_1 l0_1.length c0_1]] w fun e w' => e = .returned (.int .i64 r) ∧ Below w.heap.size w w' := by
  unfold impl_Complex_dimension.f at h
  by_cases hl : isC a0_0 l0_1 = true
  · rw [if_pos hl] at h
    have hd := Option.some.inj h
    rw [← hd]
    exact dimension_c a0_0 A0_1 c0_1 l0_1 w hr0_1 _hc0_1 hl
  · rw [if_neg hl] at h; cases h
end Go.Proofs.Ytomdfjohnmikdaa.Ext
namespace Go.Proofs.Ytomdfjohnmikdaa.Ext
set_option linter.unusedVariables false
set_option linter.unusedSimpArgs false
open Go.RowKit Go.Proofs.Ytomdfjohnmikdaa.Im  Go.Proofs.YtomdfjohnmikdaaW.PrintWords Go.Proofs.YtomdfjohnmikdaaW.PrintLast Go.Proofs.YtomdfjohnmikdaaW.PrintMore
def impl_Complex_rank.f (a0_0 : Int) (l0_1 : List Int) (a1 : Int) (a2 : Int) : Option (Int) := if isC a0_0 l0_1 = true ∧ 0 ≤ a1 ∧ a1 ≤ 100 ∧ a2 = 2 then some (rankS l0_1 a1) else none
theorem impl_Complex_rank.calls (a0_0 : Int) (A0_1 : Option Addr) (c0_1 : Nat) (l0_1 : List Int) (a1 : Int) (a2 : Int) (r : Int) (w : World) (hr0_1 : Kd.C (Kd.int .i64) w A0_1 l0_1.length l0_1) (_hc0_1 : l0_1.length ≤ c0_1) (h : impl_Complex_rank.f a0_0 l0_1 a1 a2 = some r) :
    Calls Try.prog 109 #[.agg #[.int .i64 a0_0, .slice A0_1 l0_1.length c0_1], .int .i64 a1, .int .i64 a2] w fun e w' => e = .returned (.int .i64 r) ∧ Below w.heap.size w w' := by
  unfold impl_Complex_rank.f at h
  by_cases hl : isC a0_0 l0_1 = true ∧ 0 ≤ a1 ∧ a1 ≤ 100 ∧ a2 = 2
  · rw [if_pos hl] at h
    have hd := Option.some.inj h
    obtain ⟨hi, h0, h1, rfl⟩ := hl
    rw [← hd]
    exact rank_c a0_0 A0_1 c0_1 l0_1 a1 w hr0_1 _hc0_1 hi h0 h1
  · rw [if_neg hl] at h; cases h
end Go.Proofs.Ytomdfjohnmikdaa.Ext
namespace Go.Proofs.Ytomdfjohnmikdaa.QE
open Go.Proofs.Ytomdfjohnmikdaa.Cw Go.Proofs.Ytomdfjohnmikdaa.Kp Go.Proofs.Ytomdfjohnmikdaa.Ext Go.RowKit Go.Proofs.YtomdfjohnmikdaaW.PrintWords Go.Proofs.YtomdfjohnmikdaaW.PrintLast Go.Proofs.YtomdfjohnmikdaaW.PrintMore
attribute [local go_sem] max2_int min2_int max_two min_two max_three min_three max_four min_four   -- for this text's walks alone
set_option linter.unusedVariables false
set_option linter.unusedSimpArgs false
def errW : Option Int → Value
 | none => .nilIface
 | some c => .iface 0 (.int .i64 c)
theorem errW_none : errW none = .nilIface := rfl
theorem errW_some (c : Int) : errW (some c) = .iface 0 (.int .i64 c) := rfl
theorem info2 : (Try.prog.info? 2).map (fun i => (i.zero, i.size, i.bytes)) = some (some (.int .i64 0), 1, 8) := by kernel_rfl
end Go.Proofs.Ytomdfjohnmikdaa.QE
namespace Go.Proofs.Ytomdfjohnmikdaa.QE
open Go.Proofs.Ytomdfjohnmikdaa.Cw Go.Proofs.Ytomdfjohnmikdaa.Kp Go.Proofs.Ytomdfjohnmikdaa.Ext Go.RowKit Go.Proofs.YtomdfjohnmikdaaW.PrintWords Go.Proofs.YtomdfjohnmikdaaW.PrintLast Go.Proofs.YtomdfjohnmikdaaW.PrintMore
attribute [local go_sem] max2_int min2_int max_two min_two max_three min_three max_four min_four   -- for this text's walks alone
set_option linter.unusedVariables false
set_option linter.unusedSimpArgs false
def bits_OnesCount64.f (a0 : Int) : Option (Int) := some (Go.bits .and .i64 (wrap64 (IntKind.u64.wrap ((IntKind.u64.wrap ((IntKind.u64.wrap ((Go.bits .and .u64 (IntKind.u64.wrap (((IntKind.u64.wrap ((Go.bits .and .u64 ((IntKind.u64.wrap ((Go.bits .and .u64 (a0 / 2) 6148914691236517205) + (Go.bits .and .u64 a0 6148914691236517205))) / 4) 3689348814741910323) + (Go.bits .and .u64 (IntKind.u64.wrap ((Go.bits .and .u64 (a0 / 2) 6148914691236517205) + (Go.bits .and .u64 a0 6148914691236517205))) 3689348814741910323))) / 16) + (IntKind.u64.wrap ((Go.bits .and .u64 ((IntKind.u64.wrap ((Go.bits .and .u64 (a0 / 2) 6148914691236517205) + (Go.bits .and .u64 a0 6148914691236517205))) / 4) 3689348814741910323) + (Go.bits .and .u64 (IntKind.u64.wrap ((Go.bits .and .u64 (a0 / 2) 6148914691236517205) + (Go.bits .and .u64 a0 6148914691236517205))) 3689348814741910323))))) 1085102592571150095) + ((Go.bits .and .u64 (IntKind.u64.wrap (((IntKind.u64.wrap ((Go.bits .and .u64 ((IntKind.u64.wrap ((Go.bits .and .u64 (a0 / 2) 6148914691236517205) + (Go.bits .and .u64 a0 6148914691236517205))) / 4) 3689348814741910323) + (Go.bits .and .u64 (IntKind.u64.wrap ((Go.bits .and .u64 (a0 / 2) 6148914691236517205) + (Go.bits .and .u64 a0 6148914691236517205))) 3689348814741910323))) / 16) + (IntKind.u64.wrap ((Go.bits .and .u64 ((IntKind.u64.wrap ((Go.bits .and .u64 (a0 / 2) 6148914691236517205) + (Go.bits .and .u64 a0 6148914691236517205))) / 4) 3689348814741910323) + (Go.bits .and .u64 (IntKind.u64.wrap ((Go.bits .and .u64 (a0 / 2) 6148914691236517205) + (Go.bits .and .u64 a0 6148914691236517205))) 3689348814741910323))))) 1085102592571150095) / 256))) + ((IntKind.u64.wrap ((Go.bits .and .u64 (IntKind.u64.wrap (((IntKind.u64.wrap ((Go.bits .and .u64 ((IntKind.u64.wrap ((Go.bits .and .u64 (a0 / 2) 6148914691236517205) + (Go.bits .and .u64 a0 6148914691236517205))) / 4) 3689348814741910323) + (Go.bits .and .u64 (IntKind.u64.wrap ((Go.bits .and .u64 (a0 / 2) 6148914691236517205) + (Go.bits .and .u64 a0 6148914691236517205))) 3689348814741910323))) / 16) + (IntKind.u64.wrap ((Go.bits .and .u64 ((IntKind.u64.wrap ((Go.bits .and .u64 (a0 / 2) 6148914691236517205) + (Go.bits .and .u64 a0 6148914691236517205))) / 4) 3689348814741910323) + (Go.bits .and .u64 (IntKind.u64.wrap ((Go.bits .and .u64 (a0 / 2) 6148914691236517205) + (Go.bits .and .u64 a0 6148914691236517205))) 3689348814741910323))))) 1085102592571150095) + ((Go.bits .and .u64 (IntKind.u64.wrap (((IntKind.u64.wrap ((Go.bits .and .u64 ((IntKind.u64.wrap ((Go.bits .and .u64 (a0 / 2) 6148914691236517205) + (Go.bits .and .u64 a0 6148914691236517205))) / 4) 3689348814741910323) + (Go.bits .and .u64 (IntKind.u64.wrap ((Go.bits .and .u64 (a0 / 2) 6148914691236517205) + (Go.bits .and .u64 a0 6148914691236517205))) 3689348814741910323))) / 16) + (IntKind.u64.wrap ((Go.bits .and .u64 ((IntKind.u64.wrap ((Go.bits .and .u64 (a0 / 2) 6148914691236517205) + (Go.bits .and .u64 a0 6148914691236517205))) / 4) 3689348814741910323) + (Go.bits .and .u64 (IntKind.u64.wrap ((Go.bits .and .u64 (a0 / 2) 6148914691236517205) + (Go.bits .and .u64 a0 6148914691236517205))) 3689348814741910323))))) 1085102592571150095) / 256))) / 65536))) + ((IntKind.u64.wrap ((IntKind.u64.wrap ((Go.bits .and .u64 (IntKind.u64.wrap (((IntKind.u64.wrap ((Go.bits .and .u64 ((IntKind.u64.wrap ((Go.bits .and .u64 (a0 / 2) 6148914691236517205) + (Go.bits .and .u64 a0 6148914691236517205))) / 4) 3689348814741910323) + (Go.bits .and .u64 (IntKind.u64.wrap ((Go.bits .and .u64 (a0 / 2) 6148914691236517205) + (Go.bits .and .u64 a0 6148914691236517205))) 3689348814741910323))) / 16) + (IntKind.u64.wrap ((Go.bits .and .u64 ((IntKind.u64.wrap ((Go.bits .and .u64 (a0 / 2) 6148914691236517205) + (Go.bits .and .u64 a0 6148914691236517205))) / 4) 3689348814741910323) + (Go.bits .and .u64 (IntKind.u64.wrap ((Go.bits .and .u64 (a0 / 2) 6148914691236517205) + (Go.bits .and .u64 a0 6148914691236517205))) 3689348814741910323))))) 1085102592571150095) + ((Go.bits .and .u64 (IntKind.u64.wrap (((IntKind.u64.wrap ((Go.bits .and .u64 ((IntKind.u64.wrap ((Go.bits .and .u64 (a0 / 2) 6148914691236517205) + (Go.bits .and .u64 a0 6148914691236517205))) / 4) 3689348814741910323) + (Go.bits .and .u64 (IntKind.u64.wrap ((Go.bits .and .u64 (a0 / 2) 6148914691236517205) + (Go.bits .and .u64 a0 6148914691236517205))) 3689348814741910323))) / 16) + (IntKind.u64.wrap ((Go.bits .and .u64 ((IntKind.u64.wrap ((Go.bits .and .u64 (a0 / 2) 6148914691236517205) + (Go.bits .and .u64 a0 6148914691236517205))) / 4) 3689348814741910323) + (Go.bits .and .u64 (IntKind.u64.wrap ((Go.bits .and .u64 (a0 / 2) 6148914691236517205) + (Go.bits .and .u64 a0 6148914691236517205))) 3689348814741910323))))) 1085102592571150095) / 256))) + ((IntKind.u64.wrap ((Go.bits .and .u64 (IntKind.u64.wrap (((IntKind.u64.wrap ((Go.bits .and .u64 ((IntKind.u64.wrap ((Go.bits .and .u64 (a0 / 2) 6148914691236517205) + (Go.bits .and .u64 a0 6148914691236517205))) / 4) 3689348814741910323) + (Go.bits .and .u64 (IntKind.u64.wrap ((Go.bits .and .u64 (a0 / 2) 6148914691236517205) + (Go.bits .and .u64 a0 6148914691236517205))) 3689348814741910323))) / 16) + (IntKind.u64.wrap ((Go.bits .and .u64 ((IntKind.u64.wrap ((Go.bits .and .u64 (a0 / 2) 6148914691236517205) + (Go.bits .and .u64 a0 6148914691236517205))) / 4) 3689348814741910323) + (Go.bits .and .u64 (IntKind.u64.wrap ((Go.bits .and .u64 (a0 / 2) 6148914691236517205) + (Go.bits .and .u64 a0 6148914691236517205))) 3689348814741910323))))) 1085102592571150095) + ((Go.bits .and .u64 (IntKind.u64.wrap (((IntKind.u64.wrap ((Go.bits .and .u64 ((IntKind.u64.wrap ((Go.bits .and .u64 (a0 / 2) 6148914691236517205) + (Go.bits .and .u64 a0 6148914691236517205))) / 4) 3689348814741910323) + (Go.bits .and .u64 (IntKind.u64.wrap ((Go.bits .and .u64 (a0 / 2) 6148914691236517205) + (Go.bits .and .u64 a0 6148914691236517205))) 3689348814741910323))) / 16) + (IntKind.u64.wrap ((Go.bits .and .u64 ((IntKind.u64.wrap ((Go.bits .and .u64 (a0 / 2) 6148914691236517205) + (Go.bits .and .u64 a0 6148914691236517205))) / 4) 3689348814741910323) + (Go.bits .and .u64 (IntKind.u64.wrap ((Go.bits .and .u64 (a0 / 2) 6148914691236517205) + (Go.bits .and .u64 a0 6148914691236517205))) 3689348814741910323))))) 1085102592571150095) / 256))) / 65536))) / 4294967296)))) 127)
set_option maxHeartbeats 8000000 in
set_option maxRecDepth 100000 in
theorem bits_OnesCount64.calls (a0 : Int) (r : Int) (w : World) (h : bits_OnesCount64.f a0 = some r) :
  Calls Try.prog 174 #[.int .u64 a0] w fun e w' => e = .returned (.int .i64 r) ∧ Drawn0 w w' := by
 have H : (some (Go.bits .and .i64 (wrap64 (IntKind.u64.wrap ((IntKind.u64.wrap ((IntKind.u64.wrap ((Go.bits .and .u64 (IntKind.u64.wrap (((IntKind.u64.wrap ((Go.bits .and .u64 ((IntKind.u64.wrap ((Go.bits .and .u64 (a0 / 2) 6148914691236517205) + (Go.bits .and .u64 a0 6148914691236517205))) / 4) 3689348814741910323) + (Go.bits .and .u64 (IntKind.u64.wrap ((Go.bits .and .u64 (a0 / 2) 6148914691236517205) + (Go.bits .and .u64 a0 6148914691236517205))) 3689348814741910323))) / 16) + (IntKind.u64.wrap ((Go.bits .and .u64 ((IntKind.u64.wrap ((Go.bits .and .u64 (a0 / 2) 6148914691236517205) + (Go.bits .and .u64 a0 6148914691236517205))) / 4) 3689348814741910323) + (Go.bits .and .u64 (IntKind.u64.wrap ((Go.bits .and .u64 (a0 / 2) 6148914691236517205) + (Go.bits .and .u64 a0 6148914691236517205))) 3689348814741910323))))) 1085102592571150095) + ((Go.bits .and .u64 (IntKind.u64.wrap (((IntKind.u64.wrap ((Go.bits .and .u64 ((IntKind.u64.wrap ((Go.bits .and .u64 (a0 / 2) 6148914691236517205) + (Go.bits .and .u64 a0 6148914691236517205))) / 4) 3689348814741910323) + (Go.bits .and .u64 (IntKind.u64.wrap ((Go.bits .and .u64 (a0 / 2) 6148914691236517205) + (Go.bits .and .u64 a0 6148914691236517205))) 3689348814741910323))) / 16) + (IntKind.u64.wrap ((Go.bits .and .u64 ((IntKind.u64.wrap ((Go.bits .and .u64 (a0 / 2) 6148914691236517205) + (Go.bits .and .u64 a0 6148914691236517205))) / 4) 3689348814741910323) + (Go.bits .and .u64 (IntKind.u64.wrap ((Go.bits .and .u64 (a0 / 2) 6148914691236517205) + (Go.bits .and .u64 a0 6148914691236517205))) 3689348814741910323))))) 1085102592571150095) / 256))) + ((IntKind.u64.wrap ((Go.bits .and .u64 (IntKind.u64.wrap (((IntKind.u64.wrap ((Go.bits .and .u64 ((IntKind.u64.wrap ((Go.bits .and .u64 (a0 / 2) 6148914691236517205) + (Go.bits .and .u64 a0 6148914691236517205))) / 4) 3689348814741910323) + (Go.bits .and .u64 (IntKind.u64.wrap ((Go.bits .and .u64 (a0 / 2) 6148914691236517205) + (Go.bits .and .u64 a0 6148914691236517205))) 3689348814741910323))) / 16) + (IntKind.u64.wrap ((Go.bits .and .u64 ((IntKind.u64.wrap ((Go.bits .and .u64 (a0 / 2) 6148914691236517205) + (Go.bits .and .u64 a0 6148914691236517205))) / 4) 3689348814741910323) + (Go.bits .and .u64 (IntKind.u64.wrap ((Go.bits .and .u64 (a0 / 2) 6148914691236517205) + (Go.bits .and .u64 a0 6148914691236517205))) 3689348814741910323))))) 1085102592571150095) + ((Go.bits .and .u64 (IntKind.u64.wrap (((IntKind.u64.wrap ((Go.bits .and .u64 ((IntKind.u64.wrap ((Go.bits .and .u64 (a0 / 2) 6148914691236517205) + (Go.bits .and .u64 a0 6148914691236517205))) / 4) 3689348814741910323) + (Go.bits .and .u64 (IntKind.u64.wrap ((Go.bits .and .u64 (a0 / 2) 6148914691236517205) + (Go.bits .and .u64 a0 6148914691236517205))) 3689348814741910323))) / 16) + (IntKind.u64.wrap ((Go.bits .and .u64 ((IntKind.u64.wrap ((Go.bits .and .u64 (a0 / 2) 6148914691236517205) + (Go.bits .and .u64 a0 6148914691236517205))) / 4) 3689348814741910323) + (Go.bits .and .u64 (IntKind.u64.wrap ((Go.bits .and .u64 (a0 / 2) 6148914691236517205) + (Go.bits .and .u64 a0 6148914691236517205))) 3689348814741910323))))) 1085102592571150095) / 256))) / 65536))) + ((IntKind.u64.wrap ((IntKind.u64.wrap ((Go.bits .and .u64 (IntKind.u64.wrap (((IntKind.u64.wrap ((Go.bits .and .u64 ((IntKind.u64.wrap ((Go.bits .and .u64 (a0 / 2) 6148914691236517205) + (Go.bits .and .u64 a0 6148914691236517205))) / 4) 3689348814741910323) + (Go.bits .and .u64 (IntKind.u64.wrap ((Go.bits .and .u64 (a0 / 2) 6148914691236517205) + (Go.bits .and .u64 a0 6148914691236517205))) 3689348814741910323))) / 16) + (IntKind.u64.wrap ((Go.bits .and .u64 ((IntKind.u64.wrap ((Go.bits .and .u64 (a0 / 2) 6148914691236517205) + (Go.bits .and .u64 a0 6148914691236517205))) / 4) 3689348814741910323) + (Go.bits .and .u64 (IntKind.u64.wrap ((Go.bits .and .u64 (a0 / 2) 6148914691236517205) + (Go.bits .and .u64 a0 6148914691236517205))) 3689348814741910323))))) 1085102592571150095) + ((Go.bits .and .u64 (IntKind.u64.wrap (((IntKind.u64.wrap ((Go.bits .and .u64 ((IntKind.u64.wrap ((Go.bits .and .u64 (a0 / 2) 6148914691236517205) + (Go.bits .and .u64 a0 6148914691236517205))) / 4) 3689348814741910323) + (Go.bits .and .u64 (IntKind.u64.wrap ((Go.bits .and .u64 (a0 / 2) 6148914691236517205) + (Go.bits .and .u64 a0 6148914691236517205))) 3689348814741910323))) / 16) + (IntKind.u64.wrap ((Go.bits .and .u64 ((IntKind.u64.wrap ((Go.bits .and .u64 (a0 / 2) 6148914691236517205) + (Go.bits .and .u64 a0 6148914691236517205))) / 4) 3689348814741910323) + (Go.bits .and .u64 (IntKind.u64.wrap ((Go.bits .and .u64 (a0 / 2) 6148914691236517205) + (Go.bits .and .u64 a0 6148914691236517205))) 3689348814741910323))))) 1085102592571150095) / 256))) + ((IntKind.u64.wrap ((Go.bits .and .u64 (IntKind.u64.wrap (((IntKind.u64.wrap ((Go.bits .and .u64 ((IntKind.u64.wrap ((Go.bits .and .u64 (a0 / 2) 6148914691236517205) + (Go.bits .and .u64 a0 6148914691236517205))) / 4) 3689348814741910323) + (Go.bits .and .u64 (IntKind.u64.wrap ((Go.bits .and .u64 (a0 / 2) 6148914691236517205) + (Go.bits .and .u64 a0 6148914691236517205))) 3689348814741910323))) / 16) + (IntKind.u64.wrap ((Go.bits .and .u64 ((IntKind.u64.wrap ((Go.bits .and .u64 (a0 / 2) 6148914691236517205) + (Go.bits .and .u64 a0 6148914691236517205))) / 4) 3689348814741910323) + (Go.bits .and .u64 (IntKind.u64.wrap ((Go.bits .and .u64 (a0 / 2) 6148914691236517205) + (Go.bits .and .u64 a0 6148914691236517205))) 3689348814741910323))))) 1085102592571150095) + ((Go.bits .and .u64 (IntKind.u64.wrap (((IntKind.u64.wrap ((Go.bits .and .u64 ((IntKind.u64.wrap ((Go.bits .and .u64 (a0 / 2) 6148914691236517205) + (Go.bits .and .u64 a0 6148914691236517205))) / 4) 3689348814741910323) + (Go.bits .and .u64 (IntKind.u64.wrap ((Go.bits .and .u64 (a0 / 2) 6148914691236517205) + (Go.bits .and .u64 a0 6148914691236517205))) 3689348814741910323))) / 16) + (IntKind.u64.wrap ((Go.bits .and .u64 ((IntKind.u64.wrap ((Go.bits .and .u64 (a0 / 2) 6148914691236517205) + (Go.bits .and .u64 a0 6148914691236517205))) / 4) 3689348814741910323) + (Go.bits .and .u64 (IntKind.u64.wrap ((Go.bits .and .u64 (a0 / 2) 6148914691236517205) + (Go.bits .and .u64 a0 6148914691236517205))) 3689348814741910323))))) 1085102592571150095) / 256))) / 65536))) / 4294967296)))) 127)) = some r := h
 clear h
 obtain rfl := Option.some.inj H
 go_enter Try.func174, Try.ntmps174
 go_wp2
 go_ret
 exact ⟨by first | rfl | (simp; done) | (simp [*]; done), by repeat (first | exact Drawn0.refl _ | apply Drawn0.step)⟩
def impl_size.f (a0 : Int) : Option (Int) := (bits_OnesCount64.f (IntKind.u64.wrap (a0))).bind fun t106 => (some t106)
set_option maxHeartbeats 8000000 in
set_option maxRecDepth 100000 in
theorem impl_size.calls (a0 : Int) (r : Int) (w : World) (h : impl_size.f a0 = some r) :
  Calls Try.prog 136 #[.int .i64 a0] w fun e w' => e = .returned (.int .i64 r) ∧ Drawn0 w w' := by
 have H : ((bits_OnesCount64.f (IntKind.u64.wrap (a0))).bind fun t106 => (some t106)) = some r := h
 clear h
 replace H := Option.bind_eq_some_iff.mp H
 obtain ⟨t106, A20, H⟩ := H
 try dsimp only at H
 have A2 := Aside0.mk A20
 clear A20
 obtain rfl := Option.some.inj H
 go_enter Try.func136, Try.ntmps136
 go_wp2_with (first | ((with_reducible refine gate_callee (f := 174) rfl ?_); refine cl_ (some 5) Try.func174 #[.int .u64 (IntKind.u64.wrap (a0))] ?_; (with_reducible refine (bits_OnesCount64.calls (IntKind.u64.wrap (a0)) t106 _ A2.out).mono ?_); rintro e w' ⟨rfl, ⟨nd, rfl⟩⟩; refine ⟨_, rfl, ?_⟩))
 go_ret
 exact ⟨by first | rfl | (simp; done) | (simp [*]; done), by repeat (first | exact Drawn0.refl _ | apply Drawn0.step)⟩
def impl_dimension.f (a0 : Int) : Option (Int) := (impl_size.f a0).bind fun t107 => (some (wrap64 (t107 - 1)))
set_option maxHeartbeats 8000000 in
set_option maxRecDepth 100000 in
theorem impl_dimension.calls (a0 : Int) (r : Int) (w : World) (h : impl_dimension.f a0 = some r) :
  Calls Try.prog 107 #[.int .i64 a0] w fun e w' => e = .returned (.int .i64 r) ∧ Drawn0 w w' := by
 have H : ((impl_size.f a0).bind fun t107 => (some (wrap64 (t107 - 1)))) = some r := h
 clear h
 replace H := Option.bind_eq_some_iff.mp H
 obtain ⟨t107, A20, H⟩ := H
 try dsimp only at H
 have A2 := Aside0.mk A20
 clear A20
 obtain rfl := Option.some.inj H
 go_enter Try.func107, Try.ntmps107
 go_wp2_with (first | ((with_reducible refine gate_callee (f := 136) rfl ?_); refine cl_ (some 4) Try.func136 #[.int .i64 a0] ?_; (with_reducible refine (impl_size.calls a0 t107 _ A2.out).mono ?_); rintro e w' ⟨rfl, ⟨nd, rfl⟩⟩; refine ⟨_, rfl, ?_⟩))
 go_ret
 exact ⟨by first | rfl | (simp; done) | (simp [*]; done), by repeat (first | exact Drawn0.refl _ | apply Drawn0.step)⟩
def impl_Complex_count.l0 : Nat → List Int → List Int → Int → Int → Option (List Int)
 | 0, _, _, _, _ => none
 | k + 1, x5, x12, x13, x14 => if x14 < x13 then (if 0 ≤ x14 then (if x14 < (x12.length : Int) then ((impl_dimension.f (rd x12 x14)).bind fun t114 => (if 0 ≤ t114 then (if t114 < (x5.length : Int) then (impl_Complex_count.l0 k (x5.set (t114 : Int).toNat (wrap64 ((rd x5 t114) + 1))) x12 x13 (wrap64 (x14 + 1))) else (none)) else (none))) else (none)) else (none)) else (some x5)
def impl_Complex_count.f (k : Nat) (a0_0 : Int) (l0_1 : List Int) (l1 : List Int) : Option (List Int) := (impl_Complex_dimension.f a0_0 l0_1).bind fun t109 => (if 0 ≤ (wrap64 (t109 + 1)) then (if (wrap64 (t109 + 1) : Int).toNat ≤ 35184372088832 then (impl_Complex_count.l0 k (List.replicate (wrap64 (t109 + 1) : Int).toNat 0) l1 (l1.length : Int) 0) else (none)) else (none))
theorem impl_Complex_count.mono_l : ∀ k, (∀ y0 y1 y2 y3, LeO (impl_Complex_count.l0 k y0 y1 y2 y3) (impl_Complex_count.l0 (k + 1) y0 y1 y2 y3))
 | 0 => fun _ _ _ _ r h => by simp [impl_Complex_count.l0] at h
 | k + 1 => by
  have ih0 := impl_Complex_count.mono_l k
  ·intro y0 y1 y2 y3
   unfold impl_Complex_count.l0
   repeat' first
   | (with_reducible exact ih0 _ _ _ _)
   | (with_reducible exact LeO.refl _)
   | (with_reducible exact LeO.none _)
   | (with_reducible refine LeO.ite ?_ ?_)
   | (with_reducible refine LeO.bind ?_ (fun _ => ?_))
   | exact ih0 _ _ _ _
   | exact LeO.none _
   | refine LeO.ite ?_ ?_
   | refine LeO.bind ?_ (fun _ => ?_)
theorem impl_Complex_count.mono : ∀ a0 a1 a2 k, LeO (impl_Complex_count.f k a0 a1 a2) (impl_Complex_count.f (k + 1) a0 a1 a2) := by
 intro a0 a1 a2 k
 have ih0 := impl_Complex_count.mono_l k
 unfold impl_Complex_count.f
 repeat' first
   | (with_reducible exact ih0 _ _ _ _)
   | (with_reducible exact LeO.refl _)
   | (with_reducible exact LeO.none _)
   | (with_reducible refine LeO.ite ?_ ?_)
   | (with_reducible refine LeO.bind ?_ (fun _ => ?_))
   | exact ih0 _ _ _ _
   | exact LeO.none _
   | refine LeO.ite ?_ ?_
   | refine LeO.bind ?_ (fun _ => ?_)
set_option maxHeartbeats 8000000 in
set_option maxRecDepth 100000 in
theorem impl_Complex_count.calls (k : Nat) (a0_0 : Int) (A0_1 : Option Addr) (c0_1 : Nat) (l0_1 : List Int) (A1 : Option Addr) (c1 : Nat) (l1 : List Int) (r : List Int) (w : World) (hr0_1 : Kd.C (Kd.int .i64) w A0_1 l0_1.length l0_1) (hc0_1 : l0_1.length ≤ c0_1) (hr1 : Kd.C (Kd.int .i64) w A1 l1.length l1) (hc1 : l1.length ≤ c1) (h : impl_Complex_count.f k a0_0 l0_1 l1 = some r) :
  Calls Try.prog 73 #[.agg #[.int .i64 a0_0, .slice A0_1 l0_1.length c0_1], .slice A1 l1.length c1] w fun e w' => ∃ v0_ : Value, e = .returned (v0_) ∧ Kd.R (Kd.int .i64) 2 w' w.heap.size (fun _ => True) v0_ r ∧ Below w.heap.size w w' := by
 have hu28 := Try.underlying28
 have HR0_1 := Aside0.mk hr0_1
 have HC0_1 := Aside0.mk hc0_1
 clear hr0_1 hc0_1
 have HR1 := Aside0.mk hr1
 have HC1 := Aside0.mk hc1
 clear hr1 hc1
 have HB := Aside0.mk (Below.refl w.heap.size w)
 have H : ((impl_Complex_dimension.f a0_0 l0_1).bind fun t109 => (if 0 ≤ (wrap64 (t109 + 1)) then (if (wrap64 (t109 + 1) : Int).toNat ≤ 35184372088832 then (impl_Complex_count.l0 k (List.replicate (wrap64 (t109 + 1) : Int).toNat 0) l1 (l1.length : Int) 0) else (none)) else (none))) = some r := h
 clear h
 replace H := Option.bind_eq_some_iff.mp H
 obtain ⟨t109, A30, H⟩ := H
 try dsimp only at H
 have A3 := Aside0.mk A30
 clear A30
 obtain ⟨ji4, hji4⟩ : ∃ j_ : Int, (wrap64 (t109 + 1)) = j_ := ⟨_, rfl⟩
 replace H : (if 0 ≤ (ji4) then (if (ji4 : Int).toNat ≤ 35184372088832 then (impl_Complex_count.l0 k (List.replicate (ji4 : Int).toNat 0) l1 (l1.length : Int) 0) else (none)) else (none)) = some r := by first | (rw [hji4] at H; exact H) | (simp only [hji4] at H ⊢; exact H)
 (try rw [hji4] at A3)
 have hji4w : (IntKind.i64.wrap (t109 + 1)) = ji4 := (i64_w _).trans hji4
 by_cases c5 : 0 ≤ (ji4)
 ·rw [if_pos c5] at H
  have c5b0 := eq_true c5
  have c5b1 : decide (0 ≤ (ji4)) = true := decide_eq_true c5
  clear c5
  by_cases c6 : (ji4 : Int).toNat ≤ 35184372088832
  ·rw [if_pos c6] at H
   have c6b0 := eq_true c6
   have c6b1 : decide ((ji4 : Int).toNat ≤ 35184372088832) = true := decide_eq_true c6
   clear c6
   obtain ⟨y110, hy110⟩ : ∃ y_ : List Int, y_ = (List.replicate (ji4 : Int).toNat 0) := ⟨_, rfl⟩
   replace H : (impl_Complex_count.l0 k y110 l1 (l1.length : Int) 0) = some r := by first | (rw [hy110]; with_reducible exact H) | (have H2_ := (Option.bind_some _ _).symm.trans H; rw [hy110]; with_reducible exact H2_) | (have H2_ := (Option.bind_some _ _).symm.trans H; with_reducible exact H2_) | with_reducible exact H | (rw [hy110]; exact H) | exact H
   have Ny110 := Aside0.mk hy110
   clear hy110
   have H' := Aside0.mk H
   clear H
   go_enter Try.func73, Try.ntmps73
   go_wp2_with (first | ((with_reducible refine gate_dst (N := 2) rfl ?_); refine box_event ?hg (N := 2) ?hd (cs := #[.int .i64 a0_0, .slice A0_1 l0_1.length c0_1]) (t := 28) ?hr ?_; (case hd => rfl); (case hg => rfl); (case hr => first | (go_simp; done) | (go_simp; rfl)); intro gb108 hg w7 hbox hb; have BK108 := Aside0.mk (hbox); have GW108 := gH HB hg; have GE108 := gH HB hg; replace HB := sH HB hb; clear hb hbox hg; have hcz8_0 : w7.cell? ⟨gb108, 0, none⟩ = some (.int .i64 a0_0) := cB BK108 0; have hcz8_1 : w7.cell? ⟨gb108, 1, none⟩ = some (.slice A0_1 l0_1.length c0_1) := cB BK108 1; have hfz8_0 := zB BK108 0; have hfz8_1 := zB BK108 1) | ((with_reducible refine gate_callee (f := 56) rfl ?_); refine cl_ (some 9) Try.func56 #[.agg #[.int .i64 a0_0, .slice A0_1 l0_1.length c0_1]] ?_; (with_reducible refine (impl_Complex_dimension.calls a0_0 _ _ l0_1 t109 _ ?side1 ?side2 A3.out).mono ?_); (case side1 => exact pC ((Kd.C_below HR0_1.out HB.out))); (case side2 => exact HC0_1.out); rintro e w9 ⟨rfl, hb⟩; refine ⟨_, rfl, ?_⟩; replace BK108 := sB BK108 hb; replace HB := sH HB hb; (try clear hb); (try clear hi)) | ((with_reducible refine gate_dst (N := 11) rfl ?_); refine Kd.R_make (Kd.int .i64) _ 2 rfl (N := 11) rfl 22 _ _ rfl ji4 rfl rfl Try.underlying22 (.int .i64 0) 8 info2 rfl (by decide) (by omega) 0 (ok := fun _ => True) (okp := fun _ => True) rfl (fun _ hk => hk) trivial (of_decide_eq_true (by first | (with_reducible assumption) | assumption)) (Nat.le_trans (Nat.mul_le_mul_right _ (of_decide_eq_true (by first | (with_reducible assumption) | assumption) : ji4.toNat ≤ 35184372088832)) (by omega)) (Below.refl _ _) (Nat.le_refl _) ?_; intro v111 w10 ho11 hb hg_ hnew_; clear hg_ hnew_; (first | rw [← Ny110.out] at ho11 | (simp only [Int.reduceToNat] at ho11; rw [← Ny110.out] at ho11)); have HO112 := Aside0.mk (Kd.R_lower ho11 (below_size (pH HB))); replace BK108 := sB BK108 hb; replace HB := sH HB hb; clear hb ho11))
   go_loopg [14] k (fun kq v14 w' => ∃ (x5_1 : List Int) (x14_1 : Int), v14 = .int .i64 x14_1 ∧ Aside0 (impl_Complex_count.l0 kq x5_1 l1 (l1.length : Int) x14_1 = some r) ∧ Aside0 (kq ≤ k) ∧ Aside0 (Kd.R (Kd.int .i64) 2 w' w.heap.size (fun _ => True) v111 x5_1) ∧ Aside0 (w'.heap[gb108]? = some (.cells #[.int .i64 a0_0, (.slice A0_1 l0_1.length c0_1)] 28 (0, 0))) ∧ Aside0 (Below w.heap.size w w'))
   case atStart => exact ⟨(y110), (0), (by first | rfl | (simp; done) | (simp [*]; done)), H', ⟨Nat.le_refl _⟩, ⟨by (with_reducible repeat (first | apply Kd.R_alloc | apply Kd.R_drewN | apply Kd.R_drew)); exact HO112.out⟩, ⟨pB BK108⟩, ⟨pH HB⟩⟩
   case round =>
    clear H'
    try clear c1
    try clear p2
    try clear c5
    try clear c5b0
    try clear c5b1
    try clear c6
    try clear c6b0
    try clear c6b1
    try clear p6
    try clear c7
    try clear hcz8_0
    try clear hcz8_1
    try clear hfz8_0
    try clear hfz8_1
    obtain ⟨x5_1, x14_1, rfl, HA, HK1, HO_5, BK108, HB⟩ := hrel
    cases gk with
    | zero => exact absurd HA.out (by simp [impl_Complex_count.l0])
    | succ k1 =>
     have H := HA.out
     clear HA
     simp only [impl_Complex_count.l0] at H
     by_cases c12 : x14_1 < (l1.length : Int)
     ·rw [if_pos c12] at H
      have c12b0 : decide (x14_1 < (l1.length : Int)) = true := decide_eq_true c12
      clear c12
      by_cases c13 : 0 ≤ x14_1
      ·rw [if_pos c13] at H
       have c13b0 : decide (0 ≤ x14_1) = true := decide_eq_true c13
       clear c13
       by_cases c14 : x14_1 < (l1.length : Int)
       ·rw [if_pos c14] at H
        have c14b0 : decide (x14_1 < (l1.length : Int)) = true := decide_eq_true c14
        clear c14
        replace H := Option.bind_eq_some_iff.mp H
        obtain ⟨t114, A150, H⟩ := H
        try dsimp only at H
        have A15 := Aside0.mk A150
        clear A150
        by_cases c16 : 0 ≤ t114
        ·rw [if_pos c16] at H
         have c16b0 : decide (0 ≤ t114) = true := decide_eq_true c16
         clear c16
         by_cases c17 : t114 < (x5_1.length : Int)
         ·rw [if_pos c17] at H
          have c17b0 : decide (t114 < (x5_1.length : Int)) = true := decide_eq_true c17
          clear c17
          obtain ⟨y116, hy116⟩ : ∃ y_ : List Int, y_ = (x5_1.set (t114 : Int).toNat (wrap64 ((rd x5_1 t114) + 1))) := ⟨_, rfl⟩
          replace H : (impl_Complex_count.l0 k1 y116 l1 (l1.length : Int) (wrap64 (x14_1 + 1))) = some r := by first | (rw [hy116]; with_reducible exact H) | (have H2_ := (Option.bind_some _ _).symm.trans H; rw [hy116]; with_reducible exact H2_) | (have H2_ := (Option.bind_some _ _).symm.trans H; with_reducible exact H2_) | with_reducible exact H | (rw [hy116]; exact H) | exact H
          have Ny116 := Aside0.mk hy116
          clear hy116
          have H' := Aside0.mk H
          clear H
          have p113 : 0 ≤ (x14_1 : Int) := of_decide_eq_true (by first | (with_reducible assumption) | assumption)
          have q113 : x14_1 < (l1.length : Int) := of_decide_eq_true (by first | (with_reducible assumption) | assumption)
          obtain ⟨ad113, e113, hx113_0⟩ := Kd.at_int HR1.out x14_1 p113 q113
          cases e113
          replace hx113_0 := cH HB hx113_0
          replace p113 := eq_true p113
          replace q113 := eq_true q113
          go_wp2_with (first | ((with_reducible refine gate_callee (f := 107) rfl ?_); refine cl_ (some 20) Try.func107 #[.int .i64 (rd l1 x14_1)] ?_; (with_reducible refine (impl_dimension.calls (rd l1 x14_1) t114 _ A15.out).mono ?_); rintro e w' ⟨rfl, ⟨nd, rfl⟩⟩; refine ⟨_, rfl, ?_⟩; (try (rw [drewN_self wr]; generalize hq_ : World.drewN wr _ = wr; have n0_ : Aside0 (Kd.R (Kd.int .i64) 2 wr w.heap.size (fun _ => True) v111 x5_1) := ⟨by rw [← hq_]; exact (pR HO_5)⟩; have n1_ : Aside0 (wr.heap[gb108]? = some (.cells #[.int .i64 a0_0, .slice A0_1 l0_1.length c0_1] 28 (0, 0))) := ⟨by rw [← hq_]; exact (pB BK108)⟩; have n2_ : Aside0 (Below w.heap.size w wr) := ⟨by rw [← hq_]; exact (pH HB)⟩; clear HO_5 BK108 HB hq_; have HO_5 := n0_; have BK108 := n1_; have HB := n2_; clear n0_ n1_ n2_)); (try (have hcz19_0 : wr.cell? ⟨gb108, 0, none⟩ = some (.int .i64 a0_0) := cB BK108 0; have hcz19_1 : wr.cell? ⟨gb108, 1, none⟩ = some (.slice A0_1 l0_1.length c0_1) := cB BK108 1; have hfz19_0 := zB BK108 0; have hfz19_1 := zB BK108 1)); obtain ⟨Ao20, co20, eo20⟩ := Kd.R_slice HO_5.out; subst eo20; have p115 : 0 ≤ (t114 : Int) := of_decide_eq_true (by first | (with_reducible assumption) | assumption); have q115 : t114 < (x5_1.length : Int) := of_decide_eq_true (by first | (with_reducible assumption) | assumption); obtain ⟨ad115, e115, hx115_0⟩ := Kd.at_int (Kd.R_reads' HO_5.out).2.2 t114 p115 q115; cases e115; replace p115 := eq_true p115; replace q115 := eq_true q115; have p18 : 0 ≤ (t114 : Int) := of_decide_eq_true (by first | (with_reducible assumption) | assumption); have q18 : (t114 : Int) < ((x5_1.length : Int) : Int) := of_decide_eq_true (by first | (with_reducible assumption) | assumption); obtain ⟨go18, co18, eo18, gb18, gl18, cl18, HG18⟩ := Kd.R_form HO_5.out (by omega); (first | cases eo18 | (injection eo18 with ea_ en_ ec_; (first | subst ea_ | (injection ea_ with ea_; subst ea_)); subst ec_; clear en_)); have GB18 := Aside0.mk gb18; have GG18 := Aside0.mk HG18; clear gb18 gl18 HG18; (first | simp only [add_plain] at hx115_0 | skip); obtain ⟨hx18_0, hf18_0⟩ := Kd.R_celln 0 HO_5.out (t114 : Int) p18 q18; replace p18 := eq_true p18; replace q18 := eq_true q18; obtain ⟨hy21_, hz21_⟩ := Kd.R_celln 0 HO_5.out (t114 : Int) (of_decide_eq_true (by first | (with_reducible assumption) | assumption)) (of_decide_eq_true (by first | (with_reducible assumption) | assumption)); have HP21 := Kd.R_putg HO_5.out (t114 : Int) (wrap64 ((rd x5_1 t114) + 1))) | ((with_reducible refine gate_store (t := 2) (p := 24) rfl ?_); refine store_event (t := 2) (p := 24) (v := ?vo_w22) (w1 := (wr.setCell ⟨go18, (t114 : Int).toNat, none⟩ (.int .i64 (wrap64 ((rd x5_1 t114) + 1))))) ?hg ?ho ?hn ?hr ?_; (case ho => rfl); (case hg => rfl); (case hn => rfl); (case hr => first | (go_simp; done) | (go_simp; rfl)); intro w22 hw; have hg : wr.grownBy w22 (some go18) := (by rw [hw]; exact HP21.2); have hp_ : Kd.R (Kd.int .i64) 2 w22 w.heap.size (fun _ => True) (.slice (some ⟨go18, 0, none⟩) x5_1.length co20) y116 := (by rw [hw, Ny116.out]; exact HP21.1); clear HP21; have n0_ := Aside0.mk (hp_); have n1_ := Aside0.mk (blk_grown (g := gb108) (o := .cells #[.int .i64 a0_0, .slice A0_1 l0_1.length c0_1] 28 (0, 0)) (pB BK108) hg (Kd.R_ne HO_5.out BK108.out (by decide))); have n2_ := Aside0.mk ((by rw [hw]; exact below_set (HB.out) GB18.out : Below w.heap.size w w22)); clear HO_5; clear BK108; clear HB; have HO_5 := n0_; have BK108 := n1_; have HB := n2_; clear n0_ n1_ n2_; clear hg hw hp_))
          go_roundg k1
          case measure => have := HK1.out; omega
          case rel => exact ⟨(y116), (wrap64 (x14_1 + 1)), (by first | rfl | (simp; done) | (simp [*]; done)), H', ⟨by have := HK1.out; omega⟩, ⟨by (with_reducible repeat (first | apply Kd.R_alloc | apply Kd.R_drewN | apply Kd.R_drew)); exact HO_5.out⟩, ⟨pB BK108⟩, ⟨pH HB⟩⟩
         ·rw [if_neg c17] at H
          exact absurd H (by simp)
        ·rw [if_neg c16] at H
         exact absurd H (by simp)
       ·rw [if_neg c14] at H
        exact absurd H (by simp)
      ·rw [if_neg c13] at H
       exact absurd H (by simp)
     ·rw [if_neg c12] at H
      have c12b0 : decide (x14_1 < (l1.length : Int)) = false := decide_eq_false c12
      clear c12
      obtain rfl := Option.some.inj H
      go_wp2
      go_ret
      exact ⟨_, by first | rfl | (simp [errW_none, errW_some] <;> rfl) | (simp only [← hji4]; first | rfl | (simp [errW_none, errW_some] <;> rfl)) | (simp [*, errW_none, errW_some] <;> rfl) | (exfalso; simp_all), by (with_reducible repeat (first | apply Kd.R_alloc | apply Kd.R_drewN | apply Kd.R_drew)); exact HO_5.out, pH HB⟩
  ·rw [if_neg c6] at H
   exact absurd H (by simp)
 ·rw [if_neg c5] at H
  exact absurd H (by simp)
def impl_Complex_betti.l0 : Nat → Int → List Int → Int → Int → Int → List Int → Option (List Int)
 | 0, _, _, _, _, _, _ => none
 | k + 1, x1, x5, x12, x13, x118000, x118001 => if x13 < x12 then (if 0 ≤ x13 then (if x13 < (x5.length : Int) then ((impl_Complex_rank.f x118000 x118001 x13 x1).bind fun t122 => ((impl_Complex_rank.f x118000 x118001 (wrap64 (x13 + 1)) x1).bind fun t123 => (impl_Complex_betti.l0 k x1 (x5.set (x13 : Int).toNat (wrap64 ((rd x5 x13) - (wrap64 (t122 + t123))))) x12 (wrap64 (x13 + 1)) x118000 x118001))) else (none)) else (none)) else (some x5)
def impl_Complex_betti.f (k : Nat) (a0_0 : Int) (l0_1 : List Int) (a1 : Int) : Option (List Int) := (impl_Complex_count.f k a0_0 l0_1 l0_1).bind fun t118 => (impl_Complex_betti.l0 k a1 t118 (t118.length : Int) 0 a0_0 l0_1)
theorem impl_Complex_betti.mono_l : ∀ k, (∀ y0 y1 y2 y3 y4 y5, LeO (impl_Complex_betti.l0 k y0 y1 y2 y3 y4 y5) (impl_Complex_betti.l0 (k + 1) y0 y1 y2 y3 y4 y5))
 | 0 => fun _ _ _ _ _ _ r h => by simp [impl_Complex_betti.l0] at h
 | k + 1 => by
  have ih0 := impl_Complex_betti.mono_l k
  ·intro y0 y1 y2 y3 y4 y5
   unfold impl_Complex_betti.l0
   repeat' first
   | (with_reducible exact ih0 _ _ _ _ _ _)
   | (with_reducible exact impl_Complex_count.mono _ _ _ _)
   | (with_reducible exact LeO.refl _)
   | (with_reducible exact LeO.none _)
   | (with_reducible refine LeO.ite ?_ ?_)
   | (with_reducible refine LeO.bind ?_ (fun _ => ?_))
   | exact ih0 _ _ _ _ _ _
   | exact impl_Complex_count.mono _ _ _ _
   | exact LeO.none _
   | refine LeO.ite ?_ ?_
   | refine LeO.bind ?_ (fun _ => ?_)
theorem impl_Complex_betti.mono : ∀ a0 a1 a2 k, LeO (impl_Complex_betti.f k a0 a1 a2) (impl_Complex_betti.f (k + 1) a0 a1 a2) := by
 intro a0 a1 a2 k
 have ih0 := impl_Complex_betti.mono_l k
 unfold impl_Complex_betti.f
 repeat' first
   | (with_reducible exact ih0 _ _ _ _ _ _)
   | (with_reducible exact impl_Complex_count.mono _ _ _ _)
   | (with_reducible exact LeO.refl _)
   | (with_reducible exact LeO.none _)
   | (with_reducible refine LeO.ite ?_ ?_)
   | (with_reducible refine LeO.bind ?_ (fun _ => ?_))
   | exact ih0 _ _ _ _ _ _
   | exact impl_Complex_count.mono _ _ _ _
   | exact LeO.none _
   | refine LeO.ite ?_ ?_
   | refine LeO.bind ?_ (fun _ => ?_)
def impl_Complex_betti.T5 : Bool × List (List Nat × List Nat) := (true, [([], []), ([], []), ([0, 1], [0, 1]), ([2], [2]), ([], []), ([], []), ([], []), ([4, 5, 6], [4, 5, 6]), ([], []), ([], []), ([9], [9]), ([], []), ([8, 10, 11, 7], [8, 10, 11]), ([7, 12], [7, 12]), ([3, 13], [3, 13]), ([0, 1, 0, 1, 2, 3, 4, 5, 6, 7, 8, 9, 10, 11, 12, 13, 14], [0, 1]), ([15, 14, 12, 0, 1, 2, 3, 4, 5, 6, 7, 8, 9, 10, 11, 12, 13, 14], [14, 15])])
def impl_Complex_betti.B5 : List Nat := [0, 0, 3, 7, 0, 0, 0, 112, 0, 0, 512, 0, 4080, 8176, 16383, 32767, 65535]
theorem impl_Complex_betti.tab5 : rtab .any (opsOf Try.f60 5) = impl_Complex_betti.T5 := by kernel_rfl
theorem impl_Complex_betti.bits5 : waitsOk impl_Complex_betti.T5.2 impl_Complex_betti.B5 = true := by kernel_rfl
set_option maxHeartbeats 8000000 in
set_option maxRecDepth 100000 in
theorem impl_Complex_betti.calls (k : Nat) (a0_0 : Int) (A0_1 : Option Addr) (c0_1 : Nat) (l0_1 : List Int) (a1 : Int) (r : List Int) (w : World) (hr0_1 : Kd.C (Kd.int .i64) w A0_1 l0_1.length l0_1) (hc0_1 : l0_1.length ≤ c0_1) (h : impl_Complex_betti.f k a0_0 l0_1 a1 = some r) :
  Calls Try.prog 60 #[.agg #[.int .i64 a0_0, .slice A0_1 l0_1.length c0_1], .int .i64 a1] w fun e w' => ∃ v0_ : Value, e = .returned (v0_) ∧ Kd.R (Kd.int .i64) 2 w' w.heap.size (fun _ => True) v0_ r ∧ Below w.heap.size w w' := by
 have hu28 := Try.underlying28
 have HR0_1 := Aside0.mk hr0_1
 have HC0_1 := Aside0.mk hc0_1
 clear hr0_1 hc0_1
 have HB := Aside0.mk (Below.refl w.heap.size w)
 have H : ((impl_Complex_count.f k a0_0 l0_1 l0_1).bind fun t118 => (impl_Complex_betti.l0 k a1 t118 (t118.length : Int) 0 a0_0 l0_1)) = some r := h
 clear h
 replace H := Option.bind_eq_some_iff.mp H
 obtain ⟨t118, A30, H⟩ := H
 try dsimp only at H
 have A3 := Aside0.mk A30
 clear A30
 have H' := Aside0.mk H
 clear H
 go_enter Try.func60, Try.ntmps60
 go_wp2_with (first | ((with_reducible refine gate_dst (N := 2) rfl ?_); refine box_event ?hg (N := 2) ?hd (cs := #[.int .i64 a0_0, .slice A0_1 l0_1.length c0_1]) (t := 28) ?hr ?_; (case hd => rfl); (case hg => rfl); (case hr => first | (go_simp; done) | (go_simp; rfl)); intro gb117 hg w4 hbox hb; have BK117 := Aside0.mk (hbox); have GW117 := gH HB hg; have GE117 := gH HB hg; replace HB := sH HB hb; clear hb hbox hg; have hcz5_0 : w4.cell? ⟨gb117, 0, none⟩ = some (.int .i64 a0_0) := cB BK117 0; have hcz5_1 : w4.cell? ⟨gb117, 1, none⟩ = some (.slice A0_1 l0_1.length c0_1) := cB BK117 1; have hfz5_0 := zB BK117 0; have hfz5_1 := zB BK117 1) | ((with_reducible refine gate_callee (f := 73) rfl ?_); refine cl_ (some 10) Try.func73 #[.agg #[.int .i64 a0_0, .slice A0_1 l0_1.length c0_1], .slice A0_1 l0_1.length c0_1] ?_; (with_reducible refine (impl_Complex_count.calls k a0_0 _ _ l0_1 _ _ l0_1 t118 _ ?side1 ?side2 ?side3 ?side4 A3.out).mono ?_); (case side1 => exact pC ((Kd.C_below HR0_1.out HB.out))); (case side2 => exact HC0_1.out); (case side3 => exact pC ((Kd.C_below HR0_1.out HB.out))); (case side4 => exact HC0_1.out); rintro e w6 ⟨v119, rfl, ho0, hb⟩; refine ⟨_, rfl, ?_⟩; have HO120 := Aside0.mk (Kd.R_lower ho0 (below_size (pH HB))); replace BK117 := sB BK117 hb; replace HB := sH HB hb; (try clear hb); (try clear hi); (try clear ho0); obtain ⟨Ao7, co7, eo7⟩ := Kd.R_slice HO120.out; subst eo7))
 go_loopg [13] k (fun kq v13 w' => ∃ (x5_1 : List Int) (x13_1 : Int), v13 = .int .i64 x13_1 ∧ Aside0 (impl_Complex_betti.l0 kq a1 x5_1 (t118.length : Int) x13_1 a0_0 l0_1 = some r) ∧ Aside0 (kq ≤ k) ∧ Aside0 (Kd.R (Kd.int .i64) 2 w' w.heap.size (fun _ => True) (.slice Ao7 t118.length co7) x5_1) ∧ Aside0 (w'.heap[gb117]? = some (.cells #[.int .i64 a0_0, (.slice A0_1 l0_1.length c0_1)] 28 (0, 0))) ∧ Aside0 (Below w.heap.size w w'))
 case atStart => exact ⟨(t118), (0), (by first | rfl | (simp; done) | (simp [*]; done)), H', ⟨Nat.le_refl _⟩, ⟨by (with_reducible repeat (first | apply Kd.R_alloc | apply Kd.R_drewN | apply Kd.R_drew)); exact HO120.out⟩, ⟨pB BK117⟩, ⟨pH HB⟩⟩
 case round =>
  clear H'
  try clear p2
  try clear c6
  try clear c7
  try clear hcz5_0
  try clear hcz5_1
  try clear hfz5_0
  try clear hfz5_1
  obtain ⟨x5_1, x13_1, rfl, HA, HK1, HO_5, BK117, HB⟩ := hrel
  have hl5_1 := (Kd.R_reads' HO_5.out).1
  rw [hl5_1] at HO_5
  (try simp only [hl5_1])
  (try simp only [hl5_1] at BK117)
  cases gk with
  | zero => exact absurd HA.out (by simp [impl_Complex_betti.l0])
  | succ k1 =>
   have H := HA.out
   clear HA
   simp only [impl_Complex_betti.l0] at H
   by_cases c8 : x13_1 < (t118.length : Int)
   ·rw [if_pos c8] at H
    have c8b0 : decide (x13_1 < (t118.length : Int)) = true := decide_eq_true c8
    (try (have c8z0_hl5_1 := c8b0; simp only [hl5_1] at c8z0_hl5_1))
    clear c8
    by_cases c9 : 0 ≤ x13_1
    ·rw [if_pos c9] at H
     have c9b0 : decide (0 ≤ x13_1) = true := decide_eq_true c9
     clear c9
     by_cases c10 : x13_1 < (x5_1.length : Int)
     ·rw [if_pos c10] at H
      have c10b0 : decide (x13_1 < (x5_1.length : Int)) = true := decide_eq_true c10
      (try (have c10z0_hl5_1 := c10b0; simp only [hl5_1] at c10z0_hl5_1))
      clear c10
      replace H := Option.bind_eq_some_iff.mp H
      obtain ⟨t122, A110, H⟩ := H
      try dsimp only at H
      have A11 := Aside0.mk A110
      clear A110
      replace H := Option.bind_eq_some_iff.mp H
      obtain ⟨t123, A120, H⟩ := H
      try dsimp only at H
      have A12 := Aside0.mk A120
      clear A120
      obtain ⟨y124, hy124⟩ : ∃ y_ : List Int, y_ = (x5_1.set (x13_1 : Int).toNat (wrap64 ((rd x5_1 x13_1) - (wrap64 (t122 + t123))))) := ⟨_, rfl⟩
      replace H : (impl_Complex_betti.l0 k1 a1 y124 (t118.length : Int) (wrap64 (x13_1 + 1)) a0_0 l0_1) = some r := by first | (rw [hy124]; with_reducible exact H) | (have H2_ := (Option.bind_some _ _).symm.trans H; rw [hy124]; with_reducible exact H2_) | (have H2_ := (Option.bind_some _ _).symm.trans H; with_reducible exact H2_) | with_reducible exact H | (rw [hy124]; exact H) | exact H
      have Ny124 := Aside0.mk hy124
      clear hy124
      have H' := Aside0.mk H
      clear H
      try go_wp2
      replace HO_5 := Aside0.mk (Kd.R_drew HO_5.out)
      replace BK117 := dB BK117
      replace HB := dH HB
      have p121 : 0 ≤ (x13_1 : Int) := of_decide_eq_true (by first | (with_reducible assumption) | assumption)
      have q121 : x13_1 < (x5_1.length : Int) := of_decide_eq_true (by first | (with_reducible assumption) | assumption)
      obtain ⟨ad121, e121, hx121_0⟩ := Kd.at_int (Kd.R_reads' HO_5.out).2.2 x13_1 p121 q121
      cases e121
      replace p121 := eq_true p121
      replace q121 := eq_true q121
      refine st_ 17 (S := fun w' => w'.cell? ⟨gb117, 0, none⟩ = some (.int .i64 a0_0) ∧ w'.cell? ⟨gb117, 1, none⟩ = some (.slice A0_1 l0_1.length c0_1) ∧ w'.cell? (ad121.add (x13_1).toNat) = some (.int .i64 (rd x5_1 x13_1))) (ds := [16]) ⟨cB BK117 0, cB BK117 1, hx121_0⟩ (fun hHeld => ?_); refine with_tabW impl_Complex_betti.tab5 impl_Complex_betti.bits5 (fun HT_ HW_ => ?_)
      generalize wr.drew = w14 at HO_5 BK117 HB hx121_0 hHeld ⊢
      refine pu_ 0 16 1 HT_ ?_
      refine pu_ 1 17 3 HT_ ?_
      refine pu_ 2 18 7 HT_ ?_
      refine pu_ 5 21 39 HT_ ?_
      refine pu_ 6 22 103 HT_ ?_
      refine pu_ 9 25 615 HT_ ?_
      refine pu_ 10 26 1639 HT_ ?_
      refine pu_ 11 27 3687 HT_ ?_
      refine tk_ 3 19 3695 HT_ HW_ hHeld ?_
      refine tk_ 4 20 3711 HT_ HW_ hHeld ?_
      refine tk_ 8 24 3967 HT_ HW_ hHeld ?_
      refine on_ 7 (some 23) 4095 HT_ (fun K hK => ?_)
      refine ca_ Try.func109 #[.agg #[.int .i64 a0_0, .slice A0_1 l0_1.length c0_1], .int .i64 x13_1, .int .i64 a1] ?_
      with_reducible refine (impl_Complex_rank.calls a0_0 _ _ l0_1 x13_1 a1 t122 _ ?side1 ?side2 A11.out).mono ?_
      (case side1 => exact pC ((Kd.C_below HR0_1.out HB.out)))
      (case side2 => exact HC0_1.out)
      rintro e w15 ⟨rfl, hb⟩
      have HS2_ := (hb.cell (World.block_lt_of_cell? _ _ (hHeld.2.2))).trans (hHeld.2.2)
      refine ⟨_, rfl, ?_⟩
      replace HO_5 := sR HO_5 hb
      replace BK117 := sB BK117 hb
      replace HB := sH HB hb
      (try clear hb)
      (try clear hb2)
      (try clear hk)
      (try clear hi)
      refine hK.out _ _ ⟨cB BK117 0, cB BK117 1, HS2_⟩ (fun hHeld => ?_)
      clear hK K
      refine nm_ ?_
      refine on_ 12 (some 28) 8191 HT_ (fun K hK => ?_)
      refine ca_ Try.func109 #[.agg #[.int .i64 a0_0, .slice A0_1 l0_1.length c0_1], .int .i64 (wrap64 (x13_1 + 1)), .int .i64 a1] ?_
      with_reducible refine (impl_Complex_rank.calls a0_0 _ _ l0_1 (wrap64 (x13_1 + 1)) a1 t123 _ ?side1 ?side2 A12.out).mono ?_
      (case side1 => exact pC ((Kd.C_below HR0_1.out HB.out)))
      (case side2 => exact HC0_1.out)
      rintro e w16 ⟨rfl, hb⟩
      have HS2_ := (hb.cell (World.block_lt_of_cell? _ _ (hHeld.2.2))).trans (hHeld.2.2)
      refine ⟨_, rfl, ?_⟩
      replace HO_5 := sR HO_5 hb
      replace BK117 := sB BK117 hb
      replace HB := sH HB hb
      (try clear hb)
      (try clear hb2)
      (try clear hk)
      (try clear hi)
      have p13 : 0 ≤ (x13_1 : Int) := of_decide_eq_true (by first | (with_reducible assumption) | assumption)
      have q13 : (x13_1 : Int) < ((x5_1.length : Int) : Int) := of_decide_eq_true (by first | (with_reducible assumption) | assumption)
      obtain ⟨go13, co13, eo13, gb13, gl13, cl13, HG13⟩ := Kd.R_form HO_5.out (by omega)
      (first | cases eo13 | (injection eo13 with ea_ en_ ec_; (first | subst ea_ | (injection ea_ with ea_; subst ea_)); subst ec_; clear en_))
      have GB13 := Aside0.mk gb13
      have GG13 := Aside0.mk HG13
      clear gb13 gl13 HG13
      (first | simp only [add_plain] at hx121_0 | skip)
      obtain ⟨hx13_0, hf13_0⟩ := Kd.R_celln 0 HO_5.out (x13_1 : Int) p13 q13
      replace p13 := eq_true p13
      replace q13 := eq_true q13
      have HP17 := Kd.R_putn HO_5.out (x13_1 : Int) (wrap64 ((rd x5_1 x13_1) - (wrap64 (t122 + t123))))
      rw [← Ny124.out] at HP17
      have HQ17 := Aside0.mk HP17
      clear HP17
      refine hK.out _ _ ⟨cB BK117 0, cB BK117 1, HS2_⟩ (fun hHeld => ?_)
      clear hK K
      refine nm_ ?_
      refine pu_ 13 29 16383 HT_ ?_
      refine pu_ 14 30 32767 HT_ ?_
      refine pu_ 15 31 65535 HT_ ?_
      refine last_ (i := 16) (N := none) (mB 17 131071) rfl rfl (one_of HT_.out (by kernel_rfl)) (by decide) (fun K hK => ?_)
      refine skip_ (w1 := ?_) (by rfl) rfl ?_ ?_
      rotate_left
      ·go_simp
       rfl
      refine hK.out _ _ ?_
      clear hK K
      refine dn_ HT_ ?_
      try go_wp2
      (try simp only [← hl5_1])
      go_roundg k1
      case measure => have := HK1.out; omega
      case rel => exact ⟨(y124), (wrap64 (x13_1 + 1)), (by first | rfl | (simp; done) | (simp [*]; done)), H', ⟨by have := HK1.out; omega⟩, ⟨by (try simp only [hl5_1]); (with_reducible repeat (first | apply Kd.R_alloc | apply Kd.R_drewN | apply Kd.R_drew)); exact HQ17.out⟩, ⟨by (try simp only [hl5_1]); (with_reducible repeat (first | refine blk_drewN ?_ _ | refine blk_drew ?_ | refine blk_alloc ?_ _)); refine blk_far ?_ (by have h_ := Kd.R_ne HO_5.out BK117.out (by decide); intro e_; exact h_ (by rw [e_]; rfl)) _; (with_reducible repeat (first | refine blk_drewN ?_ _ | refine blk_drew ?_ | refine blk_alloc ?_ _)); exact BK117.out⟩, ⟨by repeat (first | (with_reducible first | exact HB.out | apply below_alloc | apply pw_below_drewN | apply below_drew1 | refine below_set ?_ GB13.out | refine below_set ?_ GE117.out) | exact HB.out)⟩⟩
     ·rw [if_neg c10] at H
      exact absurd H (by simp)
    ·rw [if_neg c9] at H
     exact absurd H (by simp)
   ·rw [if_neg c8] at H
    have c8b0 : decide (x13_1 < (t118.length : Int)) = false := decide_eq_false c8
    (try (have c8z0_hl5_1 := c8b0; simp only [hl5_1] at c8z0_hl5_1))
    clear c8
    obtain rfl := Option.some.inj H
    go_wp2
    go_ret
    exact ⟨_, by first | rfl | (simp [errW_none, errW_some] <;> rfl) | (simp [*, errW_none, errW_some] <;> rfl) | (exfalso; simp_all), by (with_reducible repeat (first | apply Kd.R_alloc | apply Kd.R_drewN | apply Kd.R_drew)); exact HO_5.out, pH HB⟩
end Go.Proofs.Ytomdfjohnmikdaa.QE
namespace Go.Proofs.Ytomdfjohnmikdaa.Ext
set_option linter.unusedVariables false
open Go.RowKit Go.Proofs.Ytomdfjohnmikdaa.Im Go.Proofs.Ytomdfjohnmikdaa.Kp Go.Proofs.YtomdfjohnmikdaaW.PrintWords Go.Proofs.YtomdfjohnmikdaaW.PrintLast Go.Proofs.YtomdfjohnmikdaaW.PrintMore
noncomputable def impl_Complex_betti.f (a0_0 : Int) (l0_1 : List Int) (a1 : Int) : Option (List Int) := limO fun k => QE.impl_Complex_betti.f k a0_0 l0_1 a1
theorem impl_Complex_betti.calls (a0_0 : Int) (A0_1 : Option Addr) (c0_1 : Nat) (l0_1 : List Int) (a1 : Int) (r : List Int) (w : World) (hr0_1 : Kd.C (Kd.int .i64) w A0_1 l0_1.length l0_1) (hc0_1 : l0_1.length ≤ c0_1) (h : impl_Complex_betti.f a0_0 l0_1 a1 = some r) :
    Calls Try.prog 60 #[.agg #[.int .i64 a0_0, .slice A0_1 l0_1.length c0_1], .int .i64 a1] w fun e w' => ∃ v0_ : Value, e = .returned (v0_) ∧ Kd.R (Kd.int .i64) 2 w' w.heap.size (fun _ => True) v0_ r ∧ Below w.heap.size w w' := by
  obtain ⟨k, hk⟩ := limO_get h
  exact QE.impl_Complex_betti.calls k a0_0 A0_1 c0_1 l0_1 a1 r w hr0_1 hc0_1 hk
theorem impl_Complex_betti.come (a0_0 : Int) (l0_1 : List Int) (a1 : Int) {r : (List Int)} (h : Ev (fun k => QE.impl_Complex_betti.f k a0_0 l0_1 a1) r) : impl_Complex_betti.f a0_0 l0_1 a1 = some r := limO_of (fun k => QE.impl_Complex_betti.mono _ _ _ k) h
noncomputable def impl_Complex_count.f (a0_0 : Int) (l0_1 : List Int) (l1 : List Int) : Option (List Int) := limO fun k => QE.impl_Complex_count.f k a0_0 l0_1 l1
theorem impl_Complex_count.calls (a0_0 : Int) (A0_1 : Option Addr) (c0_1 : Nat) (l0_1 : List Int) (A1 : Option Addr) (c1 : Nat) (l1 : List Int) (r : List Int) (w : World) (hr0_1 : Kd.C (Kd.int .i64) w A0_1 l0_1.length l0_1) (hc0_1 : l0_1.length ≤ c0_1) (hr1 : Kd.C (Kd.int .i64) w A1 l1.length l1) (hc1 : l1.length ≤ c1) (h : impl_Complex_count.f a0_0 l0_1 l1 = some r) :
    Calls Try.prog 73 #[.agg #[.int .i64 a0_0, .slice A0_1 l0_1.length c0_1], .slice A1 l1.length c1] w fun e w' => ∃ v0_ : Value, e = .returned (v0_) ∧ Kd.R (Kd.int .i64) 2 w' w.heap.size (fun _ => True) v0_ r ∧ Below w.heap.size w w' := by
  obtain ⟨k, hk⟩ := limO_get h
  exact QE.impl_Complex_count.calls k a0_0 A0_1 c0_1 l0_1 A1 c1 l1 r w hr0_1 hc0_1 hr1 hc1 hk
theorem impl_Complex_count.come (a0_0 : Int) (l0_1 : List Int) (l1 : List Int) {r : (List Int)} (h : Ev (fun k => QE.impl_Complex_count.f k a0_0 l0_1 l1) r) : impl_Complex_count.f a0_0 l0_1 l1 = some r := limO_of (fun k => QE.impl_Complex_count.mono _ _ _ k) h
end Go.Proofs.Ytomdfjohnmikdaa.Ext
namespace Go.Proofs.Ytomdfjohnmikdaa.QG
open Go.Proofs.Ytomdfjohnmikdaa.Cw Go.Proofs.Ytomdfjohnmikdaa.Kp Go.Proofs.Ytomdfjohnmikdaa.Ext Go.RowKit Go.Proofs.YtomdfjohnmikdaaW.PrintWords Go.Proofs.YtomdfjohnmikdaaW.PrintLast Go.Proofs.YtomdfjohnmikdaaW.PrintMore
attribute [local go_sem] max2_int min2_int max_two min_two max_three min_three max_four min_four   -- for this text's walks alone
set_option linter.unusedVariables false
set_option linter.unusedSimpArgs false
def errW : Option Int → Value
 | none => .nilIface
 | some c => .iface 0 (.int .i64 c)
theorem errW_none : errW none = .nilIface := rfl
theorem errW_some (c : Int) : errW (some c) = .iface 0 (.int .i64 c) := rfl
end Go.Proofs.Ytomdfjohnmikdaa.QG
namespace Go.Proofs.Ytomdfjohnmikdaa.QG
open Go.Proofs.Ytomdfjohnmikdaa.Cw Go.Proofs.Ytomdfjohnmikdaa.Kp Go.Proofs.Ytomdfjohnmikdaa.Ext Go.RowKit Go.Proofs.YtomdfjohnmikdaaW.PrintWords Go.Proofs.YtomdfjohnmikdaaW.PrintLast Go.Proofs.YtomdfjohnmikdaaW.PrintMore
attribute [local go_sem] max2_int min2_int max_two min_two max_three min_three max_four min_four   -- for this text's walks alone
set_option linter.unusedVariables false
set_option linter.unusedSimpArgs false
noncomputable def impl_pairingCode_1.f (a0_0 : Bool) (a1_0 : Int) (l1_1 : List Int) (l2_0 : List (S73)) : Option (Bool) := if a0_0 = true then ((impl_Complex_isPairing.f a1_0 l1_1 l2_0).bind fun t104 => (some t104)) else (some false)
set_option maxHeartbeats 8000000 in
set_option maxRecDepth 100000 in
theorem impl_pairingCode_1.calls (g0 : Nat) (a0_0 : Bool) (g1 : Nat) (a1_0 : Int) (A1_1 : Option Addr) (c1_1 : Nat) (l1_1 : List Int) (g2 : Nat) (A2_0 : Option Addr) (c2_0 : Nat) (l2_0 : List (S73)) (r : Bool) (w : World) (hb0 : w.heap[g0]? = some (.cells #[.bool a0_0] 4 (0, 0))) (hb1 : w.heap[g1]? = some (.cells #[.int .i64 a1_0, .slice A1_1 l1_1.length c1_1] 28 (0, 0))) (hr1_1 : Kd.C (Kd.int .i64) w A1_1 l1_1.length l1_1) (hc1_1 : l1_1.length ≤ c1_1) (hb2 : w.heap[g2]? = some (.cells #[.slice A2_0 l2_0.length c2_0] 38 (0, 0))) (hr2_0 : Kd.C k73 w A2_0 l2_0.length l2_0) (hc2_0 : l2_0.length ≤ c2_0) (h : impl_pairingCode_1.f a0_0 a1_0 l1_1 l2_0 = some r) :
  Calls Try.prog 163 #[.pointer (some ⟨g0, 0, none⟩), .pointer (some ⟨g1, 0, none⟩), .pointer (some ⟨g2, 0, none⟩)] w fun e w' => e = .returned (.bool r) ∧ Below w.heap.size w w' := by
 have hu28 := Try.underlying28
 have HR1_1 := Aside0.mk hr1_1
 have HC1_1 := Aside0.mk hc1_1
 clear hr1_1 hc1_1
 have HR2_0 := Aside0.mk hr2_0
 have HC2_0 := Aside0.mk hc2_0
 clear hr2_0 hc2_0
 have BK101 := Aside0.mk hb0
 clear hb0
 have BK102 := Aside0.mk hb1
 clear hb1
 have BK103 := Aside0.mk hb2
 clear hb2
 have HB := Aside0.mk (Below.refl w.heap.size w)
 have H : (if a0_0 = true then ((impl_Complex_isPairing.f a1_0 l1_1 l2_0).bind fun t104 => (some t104)) else (some false)) = some r := h
 clear h
 by_cases c4 : a0_0 = true
 ·subst c4
  have H1 : ((impl_Complex_isPairing.f a1_0 l1_1 l2_0).bind fun t104 => (some t104)) = some r := by rw [if_pos rfl] at H; exact H
  clear H
  have H := H1
  clear H1
  replace H := Option.bind_eq_some_iff.mp H
  obtain ⟨t104, A50, H⟩ := H
  try dsimp only at H
  have A5 := Aside0.mk A50
  clear A50
  obtain rfl := Option.some.inj H
  (try have hnb6 := NB101_102.out)
  (try have hnc6 := NB102_101.out)
  (try have hnb7 := NB101_103.out)
  (try have hnc7 := NB103_101.out)
  have hcz8_0 : w.cell? ⟨g0, 0, none⟩ = some (.bool true) := cB BK101 0
  have hfz8_0 := zB BK101 0
  (try have hnb9 := NB102_103.out)
  (try have hnc9 := NB103_102.out)
  have hcz10_0 : w.cell? ⟨g1, 0, none⟩ = some (.int .i64 a1_0) := cB BK102 0
  have hcz10_1 : w.cell? ⟨g1, 1, none⟩ = some (.slice A1_1 l1_1.length c1_1) := cB BK102 1
  have hfz10_0 := zB BK102 0
  have hfz10_1 := zB BK102 1
  have hcz11_0 : w.cell? ⟨g2, 0, none⟩ = some (.slice A2_0 l2_0.length c2_0) := cB BK103 0
  have hfz11_0 := zB BK103 0
  go_enter Try.func163, Try.ntmps163
  go_wp2_with (first | (go_at_call 118; (with_reducible refine (impl_Complex_isPairing.calls a1_0 _ _ l1_1 _ _ l2_0 t104 _ ?side1 ?side2 ?side3 ?side4 A5.out).mono ?_); (case side1 => exact pC (HR1_1.out)); (case side2 => exact HC1_1.out); (case side3 => exact pC (HR2_0.out)); (case side4 => exact HC2_0.out); rintro e w12 ⟨rfl, hb⟩; replace BK101 := sB BK101 hb; replace BK102 := sB BK102 hb; replace BK103 := sB BK103 hb; replace HB := sH HB hb; (try clear hb); (try clear hi)))
  go_ret
  exact ⟨by first | rfl | (simp [errW_none, errW_some] <;> rfl) | (simp [*, errW_none, errW_some] <;> rfl) | (exfalso; simp_all), pH HB⟩
 ·replace c4 := Bool.eq_false_iff.mpr c4
  subst c4
  have H1 : (some false) = some r := by rw [if_neg (show ¬ (false = true) by decide)] at H; exact H
  clear H
  have H := H1
  clear H1
  obtain rfl := Option.some.inj H
  (try have hnb13 := NB101_102.out)
  (try have hnc13 := NB102_101.out)
  (try have hnb14 := NB101_103.out)
  (try have hnc14 := NB103_101.out)
  have hcz15_0 : w.cell? ⟨g0, 0, none⟩ = some (.bool false) := cB BK101 0
  have hfz15_0 := zB BK101 0
  go_enter Try.func163, Try.ntmps163
  go_wp2
  go_ret
  exact ⟨by first | rfl | (simp [errW_none, errW_some] <;> rfl) | (simp [*, errW_none, errW_some] <;> rfl) | (exfalso; simp_all), pH HB⟩
noncomputable def clo_163 (a0_0 : Bool) (a1_0 : Int) (l1_1 : List Int) (l2_0 : List (S73)) : Pred := Pred.ofU (impl_pairingCode_1.f a0_0 a1_0 l1_1 l2_0)
set_option maxRecDepth 100000 in
theorem clo_ok_163 {W : World} {g0 : Nat} {a0_0 : Bool} {g1 : Nat} {a1_0 : Int} {A1_1 : Option Addr} {c1_1 : Nat} {l1_1 : List Int} {g2 : Nat} {A2_0 : Option Addr} {c2_0 : Nat} {l2_0 : List (S73)} (hb0 : W.heap[g0]? = some (.cells #[.bool a0_0] 4 (0, 0))) (hb1 : W.heap[g1]? = some (.cells #[.int .i64 a1_0, .slice A1_1 l1_1.length c1_1] 28 (0, 0))) (hb2 : W.heap[g2]? = some (.cells #[.slice A2_0 l2_0.length c2_0] 38 (0, 0))) (hr1_1 : Kd.C (Kd.int .i64) W A1_1 l1_1.length l1_1) (hc1_1 : l1_1.length ≤ c1_1) (hr2_0 : Kd.C k73 W A2_0 l2_0.length l2_0) (hc2_0 : l2_0.length ≤ c2_0) : FnOk (.func (.func 163) #[] #[.pointer (some ⟨g0, 0, none⟩), .pointer (some ⟨g1, 0, none⟩), .pointer (some ⟨g2, 0, none⟩)]) (clo_163 a0_0 a1_0 l1_1 l2_0) W :=
 FnOk.ofU (enters_of Try.func163 (by kernel_rfl) rfl) (fun V b hV hr => by
  show Calls Try.prog 163 #[.pointer (some ⟨g0, 0, none⟩), .pointer (some ⟨g1, 0, none⟩), .pointer (some ⟨g2, 0, none⟩)] V _
  exact (impl_pairingCode_1.calls g0 a0_0 g1 a1_0 A1_1 c1_1 l1_1 g2 A2_0 c2_0 l2_0 b V ((hV.block g0 (blk_lt hb0)).trans hb0) ((hV.block g1 (blk_lt hb1)).trans hb1) (Kd.C_below hr1_1 hV) hc1_1 ((hV.block g2 (blk_lt hb2)).trans hb2) (Kd.C_below hr2_0 hV) hc2_0 hr).mono (fun e w' h_ => ⟨h_.1, h_.2⟩))
noncomputable def impl_pairingCode.f (a0_0 : Int) (l0_1 : List Int) (l1 : List (S73)) (a2 : Bool) : Option (Int) := (impl_complexCode.f a0_0 l0_1 (clo_163 a2 a0_0 l0_1 l1)).bind fun t108 => (some t108)
set_option maxHeartbeats 8000000 in
set_option maxRecDepth 100000 in
theorem impl_pairingCode.calls (a0_0 : Int) (A0_1 : Option Addr) (c0_1 : Nat) (l0_1 : List Int) (A1 : Option Addr) (c1 : Nat) (l1 : List (S73)) (a2 : Bool) (r : Int) (w : World) (hr0_1 : Kd.C (Kd.int .i64) w A0_1 l0_1.length l0_1) (hc0_1 : l0_1.length ≤ c0_1) (hr1 : Kd.C k73 w A1 l1.length l1) (hc1 : l1.length ≤ c1) (h : impl_pairingCode.f a0_0 l0_1 l1 a2 = some r) :
  Calls Try.prog 112 #[.agg #[.int .i64 a0_0, .slice A0_1 l0_1.length c0_1], .slice A1 l1.length c1, .bool a2] w fun e w' => e = .returned (.int .i64 r) ∧ Below w.heap.size w w' := by
 have hu28 := Try.underlying28
 have HR0_1 := Aside0.mk hr0_1
 have HC0_1 := Aside0.mk hc0_1
 clear hr0_1 hc0_1
 have HR1 := Aside0.mk hr1
 have HC1 := Aside0.mk hc1
 clear hr1 hc1
 have HB := Aside0.mk (Below.refl w.heap.size w)
 have H : ((impl_complexCode.f a0_0 l0_1 (clo_163 a2 a0_0 l0_1 l1)).bind fun t108 => (some t108)) = some r := h
 clear h
 replace H := Option.bind_eq_some_iff.mp H
 obtain ⟨t108, A40, H⟩ := H
 try dsimp only at H
 have A4 := Aside0.mk A40
 clear A40
 obtain rfl := Option.some.inj H
 go_enter Try.func112, Try.ntmps112
 go_wp2_with (first | ((with_reducible refine gate_dst (N := 3) rfl ?_); refine box_event ?hg (N := 3) ?hd (cs := #[.int .i64 a0_0, .slice A0_1 l0_1.length c0_1]) (t := 28) ?hr ?_; (case hd => rfl); (case hg => rfl); (case hr => first | (go_simp; done) | (go_simp; rfl)); intro gb105 hg w5 hbox hb; have BK105 := Aside0.mk (hbox); have GW105 := gH HB hg; have GE105 := gH HB hg; replace HB := sH HB hb; clear hb hbox hg) | ((with_reducible refine gate_dst (N := 4) rfl ?_); refine box_event ?hg (N := 4) ?hd (cs := #[.slice A1 l1.length c1]) (t := 38) ?hr ?_; (case hd => rfl); (case hg => rfl); (case hr => first | (go_simp; done) | (go_simp; rfl)); intro gb106 hg w6 hbox hb; have BK106 := Aside0.mk (hbox); have GW106 := gH HB hg; have GE106 := gH HB hg; replace HB := sH HB hb; have NB105_106 := nB BK105 hg; have NB106_105 := oB BK105 hg; replace BK105 := sB BK105 hb; clear hb hbox hg) | ((with_reducible refine gate_dst (N := 5) rfl ?_); refine box_event ?hg (N := 5) ?hd (cs := #[.bool a2]) (t := 4) ?hr ?_; (case hd => rfl); (case hg => rfl); (case hr => first | (go_simp; done) | (go_simp; rfl)); intro gb107 hg w7 hbox hb; have BK107 := Aside0.mk (hbox); have GW107 := gH HB hg; have GE107 := gH HB hg; replace HB := sH HB hb; have NB105_107 := nB BK105 hg; have NB107_105 := oB BK105 hg; replace BK105 := sB BK105 hb; have NB106_107 := nB BK106 hg; have NB107_106 := oB BK106 hg; replace BK106 := sB BK106 hb; clear hb hbox hg; (try have hnb8 := NB105_106.out); (try have hnc8 := NB106_105.out); (try have hnb9 := NB105_107.out); (try have hnc9 := NB107_105.out); have hcz10_0 : w7.cell? ⟨gb105, 0, none⟩ = some (.int .i64 a0_0) := cB BK105 0; have hcz10_1 : w7.cell? ⟨gb105, 1, none⟩ = some (.slice A0_1 l0_1.length c0_1) := cB BK105 1; have hfz10_0 := zB BK105 0; have hfz10_1 := zB BK105 1) | ((with_reducible refine gate_callee (f := 53) rfl ?_); refine cl_ (some 9) Try.func53 #[.agg #[.int .i64 a0_0, .slice A0_1 l0_1.length c0_1], .func (.func 163) #[] #[.pointer (some ⟨gb107, 0, none⟩), .pointer (some ⟨gb105, 0, none⟩), .pointer (some ⟨gb106, 0, none⟩)]] ?_; (with_reducible refine (impl_complexCode.calls a0_0 _ _ l0_1 _ (clo_163 a2 a0_0 l0_1 l1) t108 _ ?side1 ?side2 ?side3 A4.out).mono ?_); (case side1 => exact pC ((Kd.C_below HR0_1.out HB.out))); (case side2 => exact HC0_1.out); (case side3 => exact clo_ok_163 (pB BK107) (pB BK105) (pB BK106) (by exact pC ((Kd.C_below HR0_1.out HB.out))) (by exact HC0_1.out) (by exact pC ((Kd.C_below HR1.out HB.out))) (by exact HC1.out)); rintro e w11 ⟨rfl, hb⟩; refine ⟨_, rfl, ?_⟩; replace BK105 := sB BK105 hb; replace BK106 := sB BK106 hb; replace BK107 := sB BK107 hb; replace HB := sH HB hb; (try clear hb); (try clear hi)))
 go_ret
 exact ⟨by first | rfl | (simp [errW_none, errW_some] <;> rfl) | (simp [*, errW_none, errW_some] <;> rfl) | (exfalso; simp_all), pH HB⟩
noncomputable def impl_acyclicCode.f (a0_0 : Int) (l0_1 : List Int) (l1 : List (S73)) (a2 : Bool) : Option (Int) := (impl_pairingCode.f a0_0 l0_1 l1 a2).bind fun t110 => (if t110 = 0 then ((impl_Complex_isAcyclic.f a0_0 l0_1 l1).bind fun t111 => (if t111 = true then (some 0) else (some 5))) else (some t110))
set_option maxHeartbeats 8000000 in
set_option maxRecDepth 100000 in
theorem impl_acyclicCode.calls (a0_0 : Int) (A0_1 : Option Addr) (c0_1 : Nat) (l0_1 : List Int) (A1 : Option Addr) (c1 : Nat) (l1 : List (S73)) (a2 : Bool) (r : Int) (w : World) (hr0_1 : Kd.C (Kd.int .i64) w A0_1 l0_1.length l0_1) (hc0_1 : l0_1.length ≤ c0_1) (hr1 : Kd.C k73 w A1 l1.length l1) (hc1 : l1.length ≤ c1) (h : impl_acyclicCode.f a0_0 l0_1 l1 a2 = some r) :
  Calls Try.prog 65 #[.agg #[.int .i64 a0_0, .slice A0_1 l0_1.length c0_1], .slice A1 l1.length c1, .bool a2] w fun e w' => e = .returned (.int .i64 r) ∧ Below w.heap.size w w' := by
 have hu28 := Try.underlying28
 have HR0_1 := Aside0.mk hr0_1
 have HC0_1 := Aside0.mk hc0_1
 clear hr0_1 hc0_1
 have HR1 := Aside0.mk hr1
 have HC1 := Aside0.mk hc1
 clear hr1 hc1
 have HB := Aside0.mk (Below.refl w.heap.size w)
 have H : ((impl_pairingCode.f a0_0 l0_1 l1 a2).bind fun t110 => (if t110 = 0 then ((impl_Complex_isAcyclic.f a0_0 l0_1 l1).bind fun t111 => (if t111 = true then (some 0) else (some 5))) else (some t110))) = some r := h
 clear h
 replace H := Option.bind_eq_some_iff.mp H
 obtain ⟨t110, A40, H⟩ := H
 try dsimp only at H
 have A4 := Aside0.mk A40
 clear A40
 by_cases c5 : t110 = 0
 ·rw [if_pos c5] at H
  have c5b0 : (t110 == 0) = true := beq_iff_eq.mpr c5
  have c5b1 : (t110 != 0) = false := bne_eq_false_iff_eq.mpr c5
  clear c5
  replace H := Option.bind_eq_some_iff.mp H
  obtain ⟨t111, A60, H⟩ := H
  try dsimp only at H
  have A6 := Aside0.mk A60
  clear A60
  by_cases c7 : t111 = true
  ·subst c7
   have H1 : (some 0) = some r := by rw [if_pos rfl] at H; exact H
   clear H
   have H := H1
   clear H1
   obtain rfl := Option.some.inj H
   go_enter Try.func65, Try.ntmps65
   go_wp2_with (first | ((with_reducible refine gate_dst (N := 3) rfl ?_); refine box_event ?hg (N := 3) ?hd (cs := #[.int .i64 a0_0, .slice A0_1 l0_1.length c0_1]) (t := 28) ?hr ?_; (case hd => rfl); (case hg => rfl); (case hr => first | (go_simp; done) | (go_simp; rfl)); intro gb109 hg w8 hbox hb; have BK109 := Aside0.mk (hbox); have GW109 := gH HB hg; have GE109 := gH HB hg; replace HB := sH HB hb; clear hb hbox hg; have hcz9_0 : w8.cell? ⟨gb109, 0, none⟩ = some (.int .i64 a0_0) := cB BK109 0; have hcz9_1 : w8.cell? ⟨gb109, 1, none⟩ = some (.slice A0_1 l0_1.length c0_1) := cB BK109 1; have hfz9_0 := zB BK109 0; have hfz9_1 := zB BK109 1) | ((with_reducible refine gate_callee (f := 112) rfl ?_); refine cl_ (some 11) Try.func112 #[.agg #[.int .i64 a0_0, .slice A0_1 l0_1.length c0_1], .slice A1 l1.length c1, .bool a2] ?_; (with_reducible refine (impl_pairingCode.calls a0_0 _ _ l0_1 _ _ l1 a2 t110 _ ?side1 ?side2 ?side3 ?side4 A4.out).mono ?_); (case side1 => exact pC ((Kd.C_below HR0_1.out HB.out))); (case side2 => exact HC0_1.out); (case side3 => exact pC ((Kd.C_below HR1.out HB.out))); (case side4 => exact HC1.out); rintro e w10 ⟨rfl, hb⟩; refine ⟨_, rfl, ?_⟩; replace BK109 := sB BK109 hb; replace HB := sH HB hb; (try clear hb); (try clear hi); have hcz11_0 : w10.cell? ⟨gb109, 0, none⟩ = some (.int .i64 a0_0) := cB BK109 0; have hcz11_1 : w10.cell? ⟨gb109, 1, none⟩ = some (.slice A0_1 l0_1.length c0_1) := cB BK109 1; have hfz11_0 := zB BK109 0; have hfz11_1 := zB BK109 1) | ((with_reducible refine gate_callee (f := 113) rfl ?_); refine cl_ (some 17) Try.func113 #[.agg #[.int .i64 a0_0, .slice A0_1 l0_1.length c0_1], .slice A1 l1.length c1] ?_; (with_reducible refine (impl_Complex_isAcyclic.calls a0_0 _ _ l0_1 _ _ l1 true _ ?side1 ?side2 ?side3 ?side4 A6.out).mono ?_); (case side1 => exact pC ((Kd.C_below HR0_1.out HB.out))); (case side2 => exact HC0_1.out); (case side3 => exact pC ((Kd.C_below HR1.out HB.out))); (case side4 => exact HC1.out); rintro e w12 ⟨rfl, hb⟩; refine ⟨_, rfl, ?_⟩; replace BK109 := sB BK109 hb; replace HB := sH HB hb; (try clear hb); (try clear hi)))
   go_ret
   exact ⟨by first | rfl | (simp [errW_none, errW_some] <;> rfl) | (simp [*, errW_none, errW_some] <;> rfl) | (exfalso; simp_all), pH HB⟩
  ·replace c7 := Bool.eq_false_iff.mpr c7
   subst c7
   have H1 : (some 5) = some r := by rw [if_neg (show ¬ (false = true) by decide)] at H; exact H
   clear H
   have H := H1
   clear H1
   obtain rfl := Option.some.inj H
   go_enter Try.func65, Try.ntmps65
   go_wp2_with (first | ((with_reducible refine gate_dst (N := 3) rfl ?_); refine box_event ?hg (N := 3) ?hd (cs := #[.int .i64 a0_0, .slice A0_1 l0_1.length c0_1]) (t := 28) ?hr ?_; (case hd => rfl); (case hg => rfl); (case hr => first | (go_simp; done) | (go_simp; rfl)); intro gb109 hg w13 hbox hb; have BK109 := Aside0.mk (hbox); have GW109 := gH HB hg; have GE109 := gH HB hg; replace HB := sH HB hb; clear hb hbox hg; have hcz14_0 : w13.cell? ⟨gb109, 0, none⟩ = some (.int .i64 a0_0) := cB BK109 0; have hcz14_1 : w13.cell? ⟨gb109, 1, none⟩ = some (.slice A0_1 l0_1.length c0_1) := cB BK109 1; have hfz14_0 := zB BK109 0; have hfz14_1 := zB BK109 1) | ((with_reducible refine gate_callee (f := 112) rfl ?_); refine cl_ (some 11) Try.func112 #[.agg #[.int .i64 a0_0, .slice A0_1 l0_1.length c0_1], .slice A1 l1.length c1, .bool a2] ?_; (with_reducible refine (impl_pairingCode.calls a0_0 _ _ l0_1 _ _ l1 a2 t110 _ ?side1 ?side2 ?side3 ?side4 A4.out).mono ?_); (case side1 => exact pC ((Kd.C_below HR0_1.out HB.out))); (case side2 => exact HC0_1.out); (case side3 => exact pC ((Kd.C_below HR1.out HB.out))); (case side4 => exact HC1.out); rintro e w15 ⟨rfl, hb⟩; refine ⟨_, rfl, ?_⟩; replace BK109 := sB BK109 hb; replace HB := sH HB hb; (try clear hb); (try clear hi); have hcz16_0 : w15.cell? ⟨gb109, 0, none⟩ = some (.int .i64 a0_0) := cB BK109 0; have hcz16_1 : w15.cell? ⟨gb109, 1, none⟩ = some (.slice A0_1 l0_1.length c0_1) := cB BK109 1; have hfz16_0 := zB BK109 0; have hfz16_1 := zB BK109 1) | ((with_reducible refine gate_callee (f := 113) rfl ?_); refine cl_ (some 17) Try.func113 #[.agg #[.int .i64 a0_0, .slice A0_1 l0_1.length c0_1], .slice A1 l1.length c1] ?_; (with_reducible refine (impl_Complex_isAcyclic.calls a0_0 _ _ l0_1 _ _ l1 false _ ?side1 ?side2 ?side3 ?side4 A6.out).mono ?_); (case side1 => exact pC ((Kd.C_below HR0_1.out HB.out))); (case side2 => exact HC0_1.out); (case side3 => exact pC ((Kd.C_below HR1.out HB.out))); (case side4 => exact HC1.out); rintro e w17 ⟨rfl, hb⟩; refine ⟨_, rfl, ?_⟩; replace BK109 := sB BK109 hb; replace HB := sH HB hb; (try clear hb); (try clear hi)))
   go_ret
   exact ⟨by first | rfl | (simp [errW_none, errW_some] <;> rfl) | (simp [*, errW_none, errW_some] <;> rfl) | (exfalso; simp_all), pH HB⟩
 ·rw [if_neg c5] at H
  have c5b0 : (t110 == 0) = false := beq_eq_false_iff_ne.mpr c5
  have c5b1 : (t110 != 0) = true := bne_iff_ne.mpr c5
  obtain rfl := Option.some.inj H
  go_enter Try.func65, Try.ntmps65
  go_wp2_with (first | ((with_reducible refine gate_dst (N := 3) rfl ?_); refine box_event ?hg (N := 3) ?hd (cs := #[.int .i64 a0_0, .slice A0_1 l0_1.length c0_1]) (t := 28) ?hr ?_; (case hd => rfl); (case hg => rfl); (case hr => first | (go_simp; done) | (go_simp; rfl)); intro gb109 hg w18 hbox hb; have BK109 := Aside0.mk (hbox); have GW109 := gH HB hg; have GE109 := gH HB hg; replace HB := sH HB hb; clear hb hbox hg; have hcz19_0 : w18.cell? ⟨gb109, 0, none⟩ = some (.int .i64 a0_0) := cB BK109 0; have hcz19_1 : w18.cell? ⟨gb109, 1, none⟩ = some (.slice A0_1 l0_1.length c0_1) := cB BK109 1; have hfz19_0 := zB BK109 0; have hfz19_1 := zB BK109 1) | ((with_reducible refine gate_callee (f := 112) rfl ?_); refine cl_ (some 11) Try.func112 #[.agg #[.int .i64 a0_0, .slice A0_1 l0_1.length c0_1], .slice A1 l1.length c1, .bool a2] ?_; (with_reducible refine (impl_pairingCode.calls a0_0 _ _ l0_1 _ _ l1 a2 t110 _ ?side1 ?side2 ?side3 ?side4 A4.out).mono ?_); (case side1 => exact pC ((Kd.C_below HR0_1.out HB.out))); (case side2 => exact HC0_1.out); (case side3 => exact pC ((Kd.C_below HR1.out HB.out))); (case side4 => exact HC1.out); rintro e w20 ⟨rfl, hb⟩; refine ⟨_, rfl, ?_⟩; replace BK109 := sB BK109 hb; replace HB := sH HB hb; (try clear hb); (try clear hi)))
  go_ret
  exact ⟨by first | rfl | (simp [errW_none, errW_some] <;> rfl) | (simp [*, errW_none, errW_some] <;> rfl) | (exfalso; simp_all), pH HB⟩
noncomputable def slices_Equal_int64_int64.l0 : Nat → List Int → List Int → Int → Int → Option (Bool)
 | 0, _, _, _, _ => none
 | k + 1, x0, x1, x12, x13 => if x13 < x12 then (if 0 ≤ x13 then (if x13 < (x0.length : Int) then (if x13 < (x1.length : Int) then (if (rd x0 x13) = (rd x1 x13) then (slices_Equal_int64_int64.l0 k x0 x1 x12 (wrap64 (x13 + 1))) else (some false)) else (none)) else (none)) else (none)) else (some true)
noncomputable def slices_Equal_int64_int64.f (k : Nat) (l0 : List Int) (l1 : List Int) : Option (Bool) := if (l0.length : Int) = (l1.length : Int) then (slices_Equal_int64_int64.l0 k l0 l1 (l0.length : Int) 0) else (some false)
theorem slices_Equal_int64_int64.mono_l : ∀ k, (∀ y0 y1 y2 y3, LeO (slices_Equal_int64_int64.l0 k y0 y1 y2 y3) (slices_Equal_int64_int64.l0 (k + 1) y0 y1 y2 y3))
 | 0 => fun _ _ _ _ r h => by simp [slices_Equal_int64_int64.l0] at h
 | k + 1 => by
  have ih0 := slices_Equal_int64_int64.mono_l k
  ·intro y0 y1 y2 y3
   unfold slices_Equal_int64_int64.l0
   repeat' first
   | (with_reducible exact ih0 _ _ _ _)
   | (with_reducible exact LeO.refl _)
   | (with_reducible exact LeO.none _)
   | (with_reducible refine LeO.ite ?_ ?_)
   | (with_reducible refine LeO.bind ?_ (fun _ => ?_))
   | exact ih0 _ _ _ _
   | exact LeO.none _
   | refine LeO.ite ?_ ?_
   | refine LeO.bind ?_ (fun _ => ?_)
theorem slices_Equal_int64_int64.mono : ∀ a0 a1 k, LeO (slices_Equal_int64_int64.f k a0 a1) (slices_Equal_int64_int64.f (k + 1) a0 a1) := by
 intro a0 a1 k
 have ih0 := slices_Equal_int64_int64.mono_l k
 unfold slices_Equal_int64_int64.f
 repeat' first
   | (with_reducible exact ih0 _ _ _ _)
   | (with_reducible exact LeO.refl _)
   | (with_reducible exact LeO.none _)
   | (with_reducible refine LeO.ite ?_ ?_)
   | (with_reducible refine LeO.bind ?_ (fun _ => ?_))
   | exact ih0 _ _ _ _
   | exact LeO.none _
   | refine LeO.ite ?_ ?_
   | refine LeO.bind ?_ (fun _ => ?_)
set_option maxHeartbeats 8000000 in
set_option maxRecDepth 100000 in
theorem slices_Equal_int64_int64.calls (k : Nat) (A0 : Option Addr) (c0 : Nat) (l0 : List Int) (A1 : Option Addr) (c1 : Nat) (l1 : List Int) (r : Bool) (w : World) (hr0 : Kd.C (Kd.int .i64) w A0 l0.length l0) (hc0 : l0.length ≤ c0) (hr1 : Kd.C (Kd.int .i64) w A1 l1.length l1) (hc1 : l1.length ≤ c1) (h : slices_Equal_int64_int64.f k l0 l1 = some r) :
  Calls Try.prog 72 #[.slice A0 l0.length c0, .slice A1 l1.length c1] w fun e w' => e = .returned (.bool r) ∧ Drawn0 w w' := by
 have HR0 := Aside0.mk hr0
 have HC0 := Aside0.mk hc0
 clear hr0 hc0
 have HR1 := Aside0.mk hr1
 have HC1 := Aside0.mk hc1
 clear hr1 hc1
 have H : (if (l0.length : Int) = (l1.length : Int) then (slices_Equal_int64_int64.l0 k l0 l1 (l0.length : Int) 0) else (some false)) = some r := h
 clear h
 by_cases c3 : (l0.length : Int) = (l1.length : Int)
 ·rw [if_pos c3] at H
  have c3b0 : ((l0.length : Int) == (l1.length : Int)) = true := beq_iff_eq.mpr c3
  have c3b1 : ((l0.length : Int) != (l1.length : Int)) = false := bne_eq_false_iff_eq.mpr c3
  have c3b2 : (l0.length == l1.length) = true := by first | simpa using c3 | (simp at c3 ⊢; omega)
  clear c3
  have H' := Aside0.mk H
  clear H
  go_enter Try.func72, Try.ntmps72
  go_wp2
  repeat (go_quiet (fail); try go_wp2)
  go_loopg [13] k (fun kq v13 w' => ∃ (x13_1 : Int), v13 = .int .i64 x13_1 ∧ Aside0 (slices_Equal_int64_int64.l0 kq l0 l1 (l0.length : Int) x13_1 = some r) ∧ Aside0 (kq ≤ k) ∧ Drawn0 w w')
  case atStart => exact ⟨(0), (by first | rfl | (simp; done) | (simp [*]; done)), H', ⟨Nat.le_refl _⟩, by repeat (first | exact Drawn0.refl _ | apply Drawn0.step)⟩
  case round =>
   clear H'
   try clear c1
   try clear p2
   try clear c3
   try clear c3b0
   try clear c3b1
   try clear c3b2
   obtain ⟨x13_1, rfl, HA, HK1, ⟨m1, rfl⟩⟩ := hrel
   cases gk with
   | zero => exact absurd HA.out (by simp [slices_Equal_int64_int64.l0])
   | succ k1 =>
    have H := HA.out
    clear HA
    simp only [slices_Equal_int64_int64.l0] at H
    by_cases c4 : x13_1 < (l0.length : Int)
    ·rw [if_pos c4] at H
     have c4b0 : decide (x13_1 < (l0.length : Int)) = true := decide_eq_true c4
     clear c4
     by_cases c5 : 0 ≤ x13_1
     ·rw [if_pos c5] at H
      have c5b0 : decide (0 ≤ x13_1) = true := decide_eq_true c5
      clear c5
      by_cases c6 : x13_1 < (l0.length : Int)
      ·rw [if_pos c6] at H
       have c6b0 : decide (x13_1 < (l0.length : Int)) = true := decide_eq_true c6
       clear c6
       by_cases c7 : x13_1 < (l1.length : Int)
       ·rw [if_pos c7] at H
        have c7b0 : decide (x13_1 < (l1.length : Int)) = true := decide_eq_true c7
        clear c7
        by_cases c8 : (rd l0 x13_1) = (rd l1 x13_1)
        ·rw [if_pos c8] at H
         have c8b0 : ((rd l0 x13_1) == (rd l1 x13_1)) = true := beq_iff_eq.mpr c8
         have c8b1 : ((rd l0 x13_1) != (rd l1 x13_1)) = false := bne_eq_false_iff_eq.mpr c8
         clear c8
         have H' := Aside0.mk H
         clear H
         have p112 : 0 ≤ (x13_1 : Int) := of_decide_eq_true (by first | (with_reducible assumption) | assumption)
         have q112 : x13_1 < (l0.length : Int) := of_decide_eq_true (by first | (with_reducible assumption) | assumption)
         obtain ⟨ad112, e112, hx112_0⟩ := Kd.at_int HR0.out x13_1 p112 q112
         cases e112
         replace p112 := eq_true p112
         replace q112 := eq_true q112
         have p113 : 0 ≤ (x13_1 : Int) := of_decide_eq_true (by first | (with_reducible assumption) | assumption)
         have q113 : x13_1 < (l1.length : Int) := of_decide_eq_true (by first | (with_reducible assumption) | assumption)
         obtain ⟨ad113, e113, hx113_0⟩ := Kd.at_int HR1.out x13_1 p113 q113
         cases e113
         replace p113 := eq_true p113
         replace q113 := eq_true q113
         go_wp2
         repeat (go_quiet (fail); try go_wp2)
         go_roundg k1
         case measure => have := HK1.out; omega
         case rel => exact ⟨(wrap64 (x13_1 + 1)), (by first | rfl | (simp; done) | (simp [*]; done)), H', ⟨by have := HK1.out; omega⟩, by repeat (first | exact Drawn0.refl _ | apply Drawn0.step)⟩
        ·rw [if_neg c8] at H
         have c8b0 : ((rd l0 x13_1) == (rd l1 x13_1)) = false := beq_eq_false_iff_ne.mpr c8
         have c8b1 : ((rd l0 x13_1) != (rd l1 x13_1)) = true := bne_iff_ne.mpr c8
         obtain rfl := Option.some.inj H
         have p112 : 0 ≤ (x13_1 : Int) := of_decide_eq_true (by first | (with_reducible assumption) | assumption)
         have q112 : x13_1 < (l0.length : Int) := of_decide_eq_true (by first | (with_reducible assumption) | assumption)
         obtain ⟨ad112, e112, hx112_0⟩ := Kd.at_int HR0.out x13_1 p112 q112
         cases e112
         replace p112 := eq_true p112
         replace q112 := eq_true q112
         have p113 : 0 ≤ (x13_1 : Int) := of_decide_eq_true (by first | (with_reducible assumption) | assumption)
         have q113 : x13_1 < (l1.length : Int) := of_decide_eq_true (by first | (with_reducible assumption) | assumption)
         obtain ⟨ad113, e113, hx113_0⟩ := Kd.at_int HR1.out x13_1 p113 q113
         cases e113
         replace p113 := eq_true p113
         replace q113 := eq_true q113
         go_wp2
         repeat (go_quiet (fail); try go_wp2)
         go_ret
         exact ⟨by first | rfl | (simp; done) | (simp [*]; done), by repeat (first | exact Drawn0.refl _ | apply Drawn0.step)⟩
       ·rw [if_neg c7] at H
        exact absurd H (by simp)
      ·rw [if_neg c6] at H
       exact absurd H (by simp)
     ·rw [if_neg c5] at H
      exact absurd H (by simp)
    ·rw [if_neg c4] at H
     have c4b0 : decide (x13_1 < (l0.length : Int)) = false := decide_eq_false c4
     clear c4
     obtain rfl := Option.some.inj H
     go_wp2
     repeat (go_quiet (fail); try go_wp2)
     go_ret
     exact ⟨by first | rfl | (simp; done) | (simp [*]; done), by repeat (first | exact Drawn0.refl _ | apply Drawn0.step)⟩
 ·rw [if_neg c3] at H
  have c3b0 : ((l0.length : Int) == (l1.length : Int)) = false := beq_eq_false_iff_ne.mpr c3
  have c3b1 : ((l0.length : Int) != (l1.length : Int)) = true := bne_iff_ne.mpr c3
  have c3b2 : (l0.length == l1.length) = false := by first | simpa using c3 | (simp at c3 ⊢; omega)
  obtain rfl := Option.some.inj H
  go_enter Try.func72, Try.ntmps72
  go_wp2
  repeat (go_quiet (fail); try go_wp2)
  go_ret
  exact ⟨by first | rfl | (simp; done) | (simp [*]; done), by repeat (first | exact Drawn0.refl _ | apply Drawn0.step)⟩
noncomputable def impl_Complex_critical_1_1.f (a0_0 : Int) (a0_1 : Int) (a1_0 : Int) : Option (Bool) := if a0_0 = a1_0 then (some true) else (some (a0_1 == a1_0))
set_option maxHeartbeats 8000000 in
set_option maxRecDepth 100000 in
theorem impl_Complex_critical_1_1.calls (a0_0 : Int) (a0_1 : Int) (g1 : Nat) (a1_0 : Int) (r : Bool) (w : World) (hb1 : w.heap[g1]? = some (.cells #[.int .i64 a1_0] 2 (0, 0))) (h : impl_Complex_critical_1_1.f a0_0 a0_1 a1_0 = some r) :
  Calls Try.prog 125 #[.agg #[.int .i64 a0_0, .int .i64 a0_1], .pointer (some ⟨g1, 0, none⟩)] w fun e w' => e = .returned (.bool r) ∧ Below w.heap.size w w' := by
 have hu73 := Try.underlying73
 have BK114 := Aside0.mk hb1
 clear hb1
 have HB := Aside0.mk (Below.refl w.heap.size w)
 have H : (if a0_0 = a1_0 then (some true) else (some (a0_1 == a1_0))) = some r := h
 clear h
 by_cases c3 : a0_0 = a1_0
 ·rw [if_pos c3] at H
  have c3b0 : (a0_0 == a1_0) = true := beq_iff_eq.mpr c3
  have c3b1 : (a0_0 != a1_0) = false := bne_eq_false_iff_eq.mpr c3
  clear c3
  obtain rfl := Option.some.inj H
  go_enter Try.func125, Try.ntmps125
  go_wp2_with (first | ((with_reducible refine gate_dst (N := 2) rfl ?_); refine box_event ?hg (N := 2) ?hd (cs := #[.int .i64 a0_0, .int .i64 a0_1]) (t := 73) ?hr ?_; (case hd => rfl); (case hg => rfl); (case hr => first | (go_simp; done) | (go_simp; rfl)); intro gb115 hg w4 hbox hb; have BK115 := Aside0.mk (hbox); have GW115 := gH HB hg; have GE115 := gH HB hg; replace HB := sH HB hb; have NB114_115 := nB BK114 hg; have NB115_114 := oB BK114 hg; replace BK114 := sB BK114 hb; clear hb hbox hg; (try have hnb5 := NB115_114.out); (try have hnc5 := NB114_115.out); have hcz6_0 : w4.cell? ⟨gb115, 0, none⟩ = some (.int .i64 a0_0) := cB BK115 0; have hcz6_1 : w4.cell? ⟨gb115, 1, none⟩ = some (.int .i64 a0_1) := cB BK115 1; have hfz6_0 := zB BK115 0; have hfz6_1 := zB BK115 1; have hcz7_0 : w4.cell? ⟨g1, 0, none⟩ = some (.int .i64 a1_0) := cB BK114 0; have hfz7_0 := zB BK114 0))
  go_ret
  exact ⟨by first | rfl | (simp [errW_none, errW_some] <;> rfl) | (simp [*, errW_none, errW_some] <;> rfl) | (exfalso; simp_all), pH HB⟩
 ·rw [if_neg c3] at H
  have c3b0 : (a0_0 == a1_0) = false := beq_eq_false_iff_ne.mpr c3
  have c3b1 : (a0_0 != a1_0) = true := bne_iff_ne.mpr c3
  obtain rfl := Option.some.inj H
  go_enter Try.func125, Try.ntmps125
  go_wp2_with (first | ((with_reducible refine gate_dst (N := 2) rfl ?_); refine box_event ?hg (N := 2) ?hd (cs := #[.int .i64 a0_0, .int .i64 a0_1]) (t := 73) ?hr ?_; (case hd => rfl); (case hg => rfl); (case hr => first | (go_simp; done) | (go_simp; rfl)); intro gb115 hg w8 hbox hb; have BK115 := Aside0.mk (hbox); have GW115 := gH HB hg; have GE115 := gH HB hg; replace HB := sH HB hb; have NB114_115 := nB BK114 hg; have NB115_114 := oB BK114 hg; replace BK114 := sB BK114 hb; clear hb hbox hg; (try have hnb9 := NB115_114.out); (try have hnc9 := NB114_115.out); have hcz10_0 : w8.cell? ⟨gb115, 0, none⟩ = some (.int .i64 a0_0) := cB BK115 0; have hcz10_1 : w8.cell? ⟨gb115, 1, none⟩ = some (.int .i64 a0_1) := cB BK115 1; have hfz10_0 := zB BK115 0; have hfz10_1 := zB BK115 1; have hcz11_0 : w8.cell? ⟨g1, 0, none⟩ = some (.int .i64 a1_0) := cB BK114 0; have hfz11_0 := zB BK114 0))
  go_ret
  exact ⟨by first | rfl | (simp [errW_none, errW_some] <;> rfl) | (simp [*, errW_none, errW_some] <;> rfl) | (exfalso; simp_all), pH HB⟩
noncomputable def clo_125 (a1_0 : Int) : Pred := Pred.ofP (fun x y => impl_Complex_critical_1_1.f x y a1_0)
set_option maxRecDepth 100000 in
theorem clo_ok_125 {W : World} {g1 : Nat} {a1_0 : Int} (hb1 : W.heap[g1]? = some (.cells #[.int .i64 a1_0] 2 (0, 0)))  : FnOk (.func (.func 125) #[] #[.pointer (some ⟨g1, 0, none⟩)]) (clo_125 a1_0) W :=
 FnOk.ofP (enters_of Try.func125 (by kernel_rfl) rfl) (fun V x y b hV hr => by
  show Calls Try.prog 125 #[.agg #[.int .i64 x, .int .i64 y], .pointer (some ⟨g1, 0, none⟩)] V _
  exact (impl_Complex_critical_1_1.calls x y g1 a1_0 b V ((hV.block g1 (blk_lt hb1)).trans hb1) hr).mono (fun e w' h_ => ⟨h_.1, h_.2⟩))
noncomputable def impl_Complex_critical_1.f (a0 : Int) (l1_0 : List (S73)) : Option (Bool) := (slices_ContainsFunc_impl_Pair_impl_Pair.f l1_0 (clo_125 a0)).bind fun t118 => (some t118)
set_option maxHeartbeats 8000000 in
set_option maxRecDepth 100000 in
theorem impl_Complex_critical_1.calls (a0 : Int) (g1 : Nat) (A1_0 : Option Addr) (c1_0 : Nat) (l1_0 : List (S73)) (r : Bool) (w : World) (hb1 : w.heap[g1]? = some (.cells #[.slice A1_0 l1_0.length c1_0] 38 (0, 0))) (hr1_0 : Kd.C k73 w A1_0 l1_0.length l1_0) (hc1_0 : l1_0.length ≤ c1_0) (h : impl_Complex_critical_1.f a0 l1_0 = some r) :
  Calls Try.prog 123 #[.int .i64 a0, .pointer (some ⟨g1, 0, none⟩)] w fun e w' => e = .returned (.bool r) ∧ Below w.heap.size w w' := by
 have HR1_0 := Aside0.mk hr1_0
 have HC1_0 := Aside0.mk hc1_0
 clear hr1_0 hc1_0
 have BK116 := Aside0.mk hb1
 clear hb1
 have HB := Aside0.mk (Below.refl w.heap.size w)
 have H : ((slices_ContainsFunc_impl_Pair_impl_Pair.f l1_0 (clo_125 a0)).bind fun t118 => (some t118)) = some r := h
 clear h
 replace H := Option.bind_eq_some_iff.mp H
 obtain ⟨t118, A30, H⟩ := H
 try dsimp only at H
 have A3 := Aside0.mk A30
 clear A30
 obtain rfl := Option.some.inj H
 go_enter Try.func123, Try.ntmps123
 go_wp2_with (first | ((with_reducible refine gate_dst (N := 2) rfl ?_); refine box_event ?hg (N := 2) ?hd (cs := #[.int .i64 a0]) (t := 2) ?hr ?_; (case hd => rfl); (case hg => rfl); (case hr => first | (go_simp; done) | (go_simp; rfl)); intro gb117 hg w4 hbox hb; have BK117 := Aside0.mk (hbox); have GW117 := gH HB hg; have GE117 := gH HB hg; replace HB := sH HB hb; have NB116_117 := nB BK116 hg; have NB117_116 := oB BK116 hg; replace BK116 := sB BK116 hb; clear hb hbox hg; (try have hnb5 := NB116_117.out); (try have hnc5 := NB117_116.out); have hcz6_0 : w4.cell? ⟨g1, 0, none⟩ = some (.slice A1_0 l1_0.length c1_0) := cB BK116 0; have hfz6_0 := zB BK116 0) | ((with_reducible refine gate_callee (f := 124) rfl ?_); refine cl_ (some 6) Try.func124 #[.slice A1_0 l1_0.length c1_0, .func (.func 125) #[] #[.pointer (some ⟨gb117, 0, none⟩)]] ?_; (with_reducible refine (slices_ContainsFunc_impl_Pair_impl_Pair.calls _ _ l1_0 _ (clo_125 a0) t118 _ ?side1 ?side2 ?side3 A3.out).mono ?_); (case side1 => exact pC ((Kd.C_below HR1_0.out HB.out))); (case side2 => exact HC1_0.out); (case side3 => exact clo_ok_125 (pB BK117) ); rintro e w7 ⟨rfl, hb⟩; refine ⟨_, rfl, ?_⟩; replace BK116 := sB BK116 hb; replace BK117 := sB BK117 hb; replace HB := sH HB hb; (try clear hb); (try clear hi)))
 go_ret
 exact ⟨by first | rfl | (simp [errW_none, errW_some] <;> rfl) | (simp [*, errW_none, errW_some] <;> rfl) | (exfalso; simp_all), pH HB⟩
noncomputable def clo_123 (l1_0 : List (S73)) : Pred := Pred.ofI (fun x => impl_Complex_critical_1.f x l1_0)
set_option maxRecDepth 100000 in
theorem clo_ok_123 {W : World} {g1 : Nat} {A1_0 : Option Addr} {c1_0 : Nat} {l1_0 : List (S73)} (hb1 : W.heap[g1]? = some (.cells #[.slice A1_0 l1_0.length c1_0] 38 (0, 0))) (hr1_0 : Kd.C k73 W A1_0 l1_0.length l1_0) (hc1_0 : l1_0.length ≤ c1_0) : FnOk (.func (.func 123) #[] #[.pointer (some ⟨g1, 0, none⟩)]) (clo_123 l1_0) W :=
 FnOk.ofI (enters_of Try.func123 (by kernel_rfl) rfl) (fun V x b hV hr => by
  show Calls Try.prog 123 #[.int .i64 x, .pointer (some ⟨g1, 0, none⟩)] V _
  exact (impl_Complex_critical_1.calls x g1 A1_0 c1_0 l1_0 b V ((hV.block g1 (blk_lt hb1)).trans hb1) (Kd.C_below hr1_0 hV) hc1_0 hr).mono (fun e w' h_ => ⟨h_.1, h_.2⟩))
noncomputable def impl_Complex_critical.f (a0_0 : Int) (l0_1 : List Int) (l1 : List (S73)) : Option (List Int) := (slices_Clone_int64_int64.f l0_1).bind fun t121 => ((slices_DeleteFunc_int64_int64.f t121 (clo_123 l1)).bind fun t124 => (some t124))
set_option maxHeartbeats 8000000 in
set_option maxRecDepth 100000 in
theorem impl_Complex_critical.calls (a0_0 : Int) (A0_1 : Option Addr) (c0_1 : Nat) (l0_1 : List Int) (A1 : Option Addr) (c1 : Nat) (l1 : List (S73)) (r : List Int) (w : World) (hr0_1 : Kd.C (Kd.int .i64) w A0_1 l0_1.length l0_1) (hc0_1 : l0_1.length ≤ c0_1) (hr1 : Kd.C k73 w A1 l1.length l1) (hc1 : l1.length ≤ c1) (h : impl_Complex_critical.f a0_0 l0_1 l1 = some r) :
  Calls Try.prog 74 #[.agg #[.int .i64 a0_0, .slice A0_1 l0_1.length c0_1], .slice A1 l1.length c1] w fun e w' => ∃ v0_ : Value, e = .returned (v0_) ∧ Kd.R (Kd.int .i64) 2 w' w.heap.size (fun _ => True) v0_ r ∧ Below w.heap.size w w' := by
 have hu28 := Try.underlying28
 have HR0_1 := Aside0.mk hr0_1
 have HC0_1 := Aside0.mk hc0_1
 clear hr0_1 hc0_1
 have HR1 := Aside0.mk hr1
 have HC1 := Aside0.mk hc1
 clear hr1 hc1
 have HB := Aside0.mk (Below.refl w.heap.size w)
 have H : ((slices_Clone_int64_int64.f l0_1).bind fun t121 => ((slices_DeleteFunc_int64_int64.f t121 (clo_123 l1)).bind fun t124 => (some t124))) = some r := h
 clear h
 replace H := Option.bind_eq_some_iff.mp H
 obtain ⟨t121, A30, H⟩ := H
 try dsimp only at H
 have A3 := Aside0.mk A30
 clear A30
 replace H := Option.bind_eq_some_iff.mp H
 obtain ⟨t124, A40, H⟩ := H
 try dsimp only at H
 have A4 := Aside0.mk A40
 clear A40
 obtain rfl := Option.some.inj H
 go_enter Try.func74, Try.ntmps74
 go_wp2_with (first | ((with_reducible refine gate_dst (N := 2) rfl ?_); refine box_event ?hg (N := 2) ?hd (cs := #[.int .i64 a0_0, .slice A0_1 l0_1.length c0_1]) (t := 28) ?hr ?_; (case hd => rfl); (case hg => rfl); (case hr => first | (go_simp; done) | (go_simp; rfl)); intro gb119 hg w5 hbox hb; have BK119 := Aside0.mk (hbox); have GW119 := gH HB hg; have GE119 := gH HB hg; replace HB := sH HB hb; clear hb hbox hg) | ((with_reducible refine gate_dst (N := 3) rfl ?_); refine box_event ?hg (N := 3) ?hd (cs := #[.slice A1 l1.length c1]) (t := 38) ?hr ?_; (case hd => rfl); (case hg => rfl); (case hr => first | (go_simp; done) | (go_simp; rfl)); intro gb120 hg w6 hbox hb; have BK120 := Aside0.mk (hbox); have GW120 := gH HB hg; have GE120 := gH HB hg; replace HB := sH HB hb; have NB119_120 := nB BK119 hg; have NB120_119 := oB BK119 hg; replace BK119 := sB BK119 hb; clear hb hbox hg; (try have hnb7 := NB119_120.out); (try have hnc7 := NB120_119.out); have hcz8_0 : w6.cell? ⟨gb119, 0, none⟩ = some (.int .i64 a0_0) := cB BK119 0; have hcz8_1 : w6.cell? ⟨gb119, 1, none⟩ = some (.slice A0_1 l0_1.length c0_1) := cB BK119 1; have hfz8_0 := zB BK119 0; have hfz8_1 := zB BK119 1) | ((with_reducible refine gate_callee (f := 122) rfl ?_); refine cl_ (some 7) Try.func122 #[.slice A0_1 l0_1.length c0_1] ?_; (with_reducible refine (slices_Clone_int64_int64.calls _ _ l0_1 t121 _ ?side1 ?side2 A3.out).mono ?_); (case side1 => exact pC ((Kd.C_below HR0_1.out HB.out))); (case side2 => exact HC0_1.out); rintro e w9 ⟨v122, rfl, ho0, hb⟩; refine ⟨_, rfl, ?_⟩; have HO123 := Aside0.mk (Kd.R_lower ho0 (below_size (pH HB))); replace BK119 := sB BK119 hb; replace BK120 := sB BK120 hb; replace HB := sH HB hb; (try clear hb); (try clear hi); (try clear ho0); obtain ⟨Ao10, co10, eo10⟩ := Kd.R_slice HO123.out; subst eo10) | ((with_reducible refine gate_callee (f := 121) rfl ?_); refine cl_ (some 9) Try.func121 #[.slice Ao10 t121.length co10, .func (.func 123) #[] #[.pointer (some ⟨gb120, 0, none⟩)]] ?_; (with_reducible refine (slices_DeleteFunc_int64_int64.calls (fun k_ => some k_ = (.slice Ao10 t121.length co10 : Value).ownBlock) (.slice Ao10 t121.length co10) t121 _ (clo_123 l1) t124 w _ ?side1 ?side2 ?side3 A4.out).mono ?_); (case side1 => repeat (first | (with_reducible first | exact HB.out | apply below_alloc | apply pw_below_drewN | apply below_drew1 | refine below_set ?_ GE119.out | refine below_set ?_ GE120.out) | exact HB.out)); (case side2 => exact Kd.R_tight rfl HO123.out); (case side3 => intro W_ hK_; exact clo_ok_123 (blk_kept (pB BK120) hK_ (fun hs_ => (fun e_ => (Kd.R_ne HO123.out BK120.out (by decide)) e_) hs_)) ((Kd.C_kept_came k73_heap HR1.out (pH HB) (fun k_ hs_ => (fun e_ => Kd.R_base HO123.out k_ e_.symm) hs_)) W_ hK_) (by exact HC1.out)); rintro e w11 ⟨v125, rfl, ho0, hb, hkp⟩; refine ⟨_, rfl, ?_⟩; replace BK119 := Aside0.mk (blk_kept (pB BK119) hkp (fun hs_ => (fun e_ => (Kd.R_ne HO123.out BK119.out (by decide)) e_) hs_)); replace BK120 := Aside0.mk (blk_kept (pB BK120) hkp (fun hs_ => (fun e_ => (Kd.R_ne HO123.out BK120.out (by decide)) e_) hs_)); have HO126 := Aside0.mk (Kd.R_mono (ok' := fun k_ => True) ho0 (fun k_ hk_ => trivial)); replace HB := Aside0.mk (hb); clear HO123; (try clear hb); (try clear hkp); (try clear ho0)))
 go_ret
 exact ⟨_, by first | rfl | (simp [errW_none, errW_some] <;> rfl) | (simp [*, errW_none, errW_some] <;> rfl) | (exfalso; simp_all), by (with_reducible repeat (first | apply Kd.R_alloc | apply Kd.R_drewN | apply Kd.R_drew)); exact HO126.out, pH HB⟩
noncomputable def impl_IsPerfect.f (k : Nat) (a0_0 : Int) (l0_1 : List Int) (l1 : List (S73)) : Option (Bool × Int) := (impl_acyclicCode.f a0_0 l0_1 l1 true).bind fun t128 => (if t128 = 0 then ((impl_Complex_critical.f a0_0 l0_1 l1).bind fun t129 => ((impl_Complex_count.f a0_0 l0_1 t129).bind fun t132 => ((impl_Complex_betti.f a0_0 l0_1 2).bind fun t135 => ((slices_Equal_int64_int64.f k t132 t135).bind fun t138 => (some (t138, 0)))))) else (some (false, t128)))
theorem impl_IsPerfect.mono : ∀ a0 a1 a2 k, LeO (impl_IsPerfect.f k a0 a1 a2) (impl_IsPerfect.f (k + 1) a0 a1 a2) := by
 intro a0 a1 a2 k
 unfold impl_IsPerfect.f
 repeat' first
   | (with_reducible exact slices_Equal_int64_int64.mono _ _ _)
   | (with_reducible exact LeO.refl _)
   | (with_reducible exact LeO.none _)
   | (with_reducible refine LeO.ite ?_ ?_)
   | (with_reducible refine LeO.bind ?_ (fun _ => ?_))
   | exact slices_Equal_int64_int64.mono _ _ _
   | exact LeO.none _
   | refine LeO.ite ?_ ?_
   | refine LeO.bind ?_ (fun _ => ?_)
def impl_IsPerfect.T4 : Bool × List (List Nat × List Nat) := (true, [([], []), ([], []), ([], []), ([1, 2], [1, 2]), ([0, 3, 3], [0, 3]), ([], []), ([5, 4], [5]), ([4, 6, 6], [4, 6]), ([7, 7, 0, 1, 2, 3, 4, 5, 6, 7], [7]), ([8, 0, 1, 2, 3, 4, 5, 6, 7, 8], [])])
def impl_IsPerfect.B4 : List Nat := [0, 0, 0, 6, 15, 0, 63, 127, 255, 511]
theorem impl_IsPerfect.tab4 : rtab .any (opsOf Try.f31 4) = impl_IsPerfect.T4 := by kernel_rfl
theorem impl_IsPerfect.bits4 : waitsOk impl_IsPerfect.T4.2 impl_IsPerfect.B4 = true := by kernel_rfl
set_option maxHeartbeats 8000000 in
set_option maxRecDepth 100000 in
theorem impl_IsPerfect.calls (k : Nat) (a0_0 : Int) (A0_1 : Option Addr) (c0_1 : Nat) (l0_1 : List Int) (A1 : Option Addr) (c1 : Nat) (l1 : List (S73)) (r1 : Bool) (r2 : Int) (w : World) (hr0_1 : Kd.C (Kd.int .i64) w A0_1 l0_1.length l0_1) (hc0_1 : l0_1.length ≤ c0_1) (hr1 : Kd.C k73 w A1 l1.length l1) (hc1 : l1.length ≤ c1) (h : impl_IsPerfect.f k a0_0 l0_1 l1 = some (r1, r2)) :
  Calls Try.prog 31 #[.agg #[.int .i64 a0_0, .slice A0_1 l0_1.length c0_1], .slice A1 l1.length c1] w fun e w' => e = .returned (.tuple #[.bool r1, .int .i64 r2]) ∧ Below w.heap.size w w' := by
 have hu28 := Try.underlying28
 have HR0_1 := Aside0.mk hr0_1
 have HC0_1 := Aside0.mk hc0_1
 clear hr0_1 hc0_1
 have HR1 := Aside0.mk hr1
 have HC1 := Aside0.mk hc1
 clear hr1 hc1
 have HB := Aside0.mk (Below.refl w.heap.size w)
 have H : ((impl_acyclicCode.f a0_0 l0_1 l1 true).bind fun t128 => (if t128 = 0 then ((impl_Complex_critical.f a0_0 l0_1 l1).bind fun t129 => ((impl_Complex_count.f a0_0 l0_1 t129).bind fun t132 => ((impl_Complex_betti.f a0_0 l0_1 2).bind fun t135 => ((slices_Equal_int64_int64.f k t132 t135).bind fun t138 => (some (t138, 0)))))) else (some (false, t128)))) = some (r1, r2) := h
 clear h
 replace H := Option.bind_eq_some_iff.mp H
 obtain ⟨t128, A30, H⟩ := H
 try dsimp only at H
 have A3 := Aside0.mk A30
 clear A30
 by_cases c4 : t128 = 0
 ·rw [if_pos c4] at H
  have c4b0 : (t128 == 0) = true := beq_iff_eq.mpr c4
  have c4b1 : (t128 != 0) = false := bne_eq_false_iff_eq.mpr c4
  clear c4
  replace H := Option.bind_eq_some_iff.mp H
  obtain ⟨t129, A50, H⟩ := H
  try dsimp only at H
  have A5 := Aside0.mk A50
  clear A50
  replace H := Option.bind_eq_some_iff.mp H
  obtain ⟨t132, A60, H⟩ := H
  try dsimp only at H
  have A6 := Aside0.mk A60
  clear A60
  replace H := Option.bind_eq_some_iff.mp H
  obtain ⟨t135, A70, H⟩ := H
  try dsimp only at H
  have A7 := Aside0.mk A70
  clear A70
  replace H := Option.bind_eq_some_iff.mp H
  obtain ⟨t138, A80, H⟩ := H
  try dsimp only at H
  have A8 := Aside0.mk A80
  clear A80
  simp only [Option.some.injEq, Prod.mk.injEq] at H
  obtain ⟨rfl, rfl⟩ := H
  go_enter Try.func31, Try.ntmps31
  try go_wp2_with (first | ((with_reducible refine gate_dst (N := 2) rfl ?_); refine box_event ?hg (N := 2) ?hd (cs := #[.int .i64 a0_0, .slice A0_1 l0_1.length c0_1]) (t := 28) ?hr ?_; (case hd => rfl); (case hg => rfl); (case hr => first | (go_simp; done) | (go_simp; rfl)); intro gb127 hg w9 hbox hb; have BK127 := Aside0.mk (hbox); have GW127 := gH HB hg; have GE127 := gH HB hg; replace HB := sH HB hb; clear hb hbox hg; have hcz10_0 : w9.cell? ⟨gb127, 0, none⟩ = some (.int .i64 a0_0) := cB BK127 0; have hcz10_1 : w9.cell? ⟨gb127, 1, none⟩ = some (.slice A0_1 l0_1.length c0_1) := cB BK127 1; have hfz10_0 := zB BK127 0; have hfz10_1 := zB BK127 1) | ((with_reducible refine gate_callee (f := 65) rfl ?_); refine cl_ (some 9) Try.func65 #[.agg #[.int .i64 a0_0, .slice A0_1 l0_1.length c0_1], .slice A1 l1.length c1, .bool true] ?_; (with_reducible refine (impl_acyclicCode.calls a0_0 _ _ l0_1 _ _ l1 true t128 _ ?side1 ?side2 ?side3 ?side4 A3.out).mono ?_); (case side1 => exact pC ((Kd.C_below HR0_1.out HB.out))); (case side2 => exact HC0_1.out); (case side3 => exact pC ((Kd.C_below HR1.out HB.out))); (case side4 => exact HC1.out); rintro e w11 ⟨rfl, hb⟩; refine ⟨_, rfl, ?_⟩; replace BK127 := sB BK127 hb; replace HB := sH HB hb; (try clear hb); (try clear hi)))
  replace BK127 := dB BK127
  replace HB := dH HB
  refine st_ 10 (S := fun w' => w'.cell? ⟨gb127, 0, none⟩ = some (.int .i64 a0_0) ∧ w'.cell? ⟨gb127, 1, none⟩ = some (.slice A0_1 l0_1.length c0_1)) (ds := []) ⟨cB BK127 0, cB BK127 1⟩ (fun hHeld => ?_); refine with_tabW impl_IsPerfect.tab4 impl_IsPerfect.bits4 (fun HT_ HW_ => ?_)
  generalize w11.drew = w12 at BK127 HB hHeld ⊢
  refine pu_ 2 15 4 HT_ ?_
  refine tk_ 0 13 5 HT_ HW_ hHeld ?_
  refine tk_ 1 14 7 HT_ HW_ hHeld ?_
  refine tk_ 5 18 39 HT_ HW_ hHeld ?_
  refine on_ 3 (some 16) 47 HT_ (fun K hK => ?_)
  refine ca_ Try.func74 #[.agg #[.int .i64 a0_0, .slice A0_1 l0_1.length c0_1], .slice A1 l1.length c1] ?_
  with_reducible refine (impl_Complex_critical.calls a0_0 _ _ l0_1 _ _ l1 t129 _ ?side1 ?side2 ?side3 ?side4 A5.out).mono ?_
  (case side1 => exact pC ((Kd.C_below HR0_1.out HB.out)))
  (case side2 => exact HC0_1.out)
  (case side3 => exact pC ((Kd.C_below HR1.out HB.out)))
  (case side4 => exact HC1.out)
  rintro e w13 ⟨v130, rfl, ho0, hb⟩
  refine ⟨_, rfl, ?_⟩
  have HO131 := Aside0.mk (Kd.R_lower ho0 (below_size (pH HB)))
  replace BK127 := sB BK127 hb
  replace HB := sH HB hb
  (try clear hb)
  (try clear hb2)
  (try clear hk)
  (try clear hi)
  (try clear ho0)
  obtain ⟨Ao14, co14, eo14⟩ := Kd.R_slice HO131.out
  (first | subst eo14 | (injection eo14 with f1_ f2_ f3_; have f4_ := f1_.symm; have f5_ := f3_.symm; clear f1_ f2_ f3_; subst f4_; subst f5_))
  refine hK.out _ _ ⟨cB BK127 0, cB BK127 1⟩ (fun hHeld => ?_)
  clear hK K
  refine nm_ ?_
  refine on_ 4 (some 17) 63 HT_ (fun K hK => ?_)
  refine ca_ Try.func73 #[.agg #[.int .i64 a0_0, .slice A0_1 l0_1.length c0_1], .slice Ao14 t129.length co14] ?_
  with_reducible refine (impl_Complex_count.calls a0_0 _ _ l0_1 _ _ t129 t132 _ ?side1 ?side2 ?side3 ?side4 A6.out).mono ?_
  (case side1 => exact pC ((Kd.C_below HR0_1.out HB.out)))
  (case side2 => exact HC0_1.out)
  (case side3 => exact pC ((Kd.R_reads' HO131.out).2.2))
  (case side4 => exact (Kd.R_reads' HO131.out).2.1)
  rintro e w15 ⟨v133, rfl, ho0, hb⟩
  refine ⟨_, rfl, ?_⟩
  have HO134 := Aside0.mk (Kd.R_lower (Kd.R_new' ho0 (Kd.R_lt (pR HO131))) (below_size (pH HB)))
  replace HO131 := Aside0.mk (Kd.R_elder' (pR HO131) (Kd.R_base ho0) hb)
  replace BK127 := sB BK127 hb
  replace HB := sH HB hb
  (try clear hb)
  (try clear hb2)
  (try clear hk)
  (try clear hi)
  (try clear ho0)
  refine hK.out _ _ ⟨cB BK127 0, cB BK127 1⟩ (fun hHeld => ?_)
  clear hK K
  refine nm_ ?_
  refine on_ 6 (some 19) 127 HT_ (fun K hK => ?_)
  refine ca_ Try.func60 #[.agg #[.int .i64 a0_0, .slice A0_1 l0_1.length c0_1], .int .i64 2] ?_
  with_reducible refine (impl_Complex_betti.calls a0_0 _ _ l0_1 2 t135 _ ?side1 ?side2 A7.out).mono ?_
  (case side1 => exact pC ((Kd.C_below HR0_1.out HB.out)))
  (case side2 => exact HC0_1.out)
  rintro e w16 ⟨v136, rfl, ho0, hb⟩
  refine ⟨_, rfl, ?_⟩
  have HO137 := Aside0.mk (Kd.R_lower (Kd.R_new' (Kd.R_new' ho0 (Kd.R_lt (pR HO131))) (Kd.R_lt (pR HO134))) (below_size (pH HB)))
  replace HO131 := Aside0.mk (Kd.R_elder' (pR HO131) (Kd.R_base ho0) hb)
  replace HO134 := Aside0.mk (Kd.R_elder' (pR HO134) (Kd.R_base ho0) hb)
  replace BK127 := sB BK127 hb
  replace HB := sH HB hb
  (try clear hb)
  (try clear hb2)
  (try clear hk)
  (try clear hi)
  (try clear ho0)
  obtain ⟨Ao17, co17, eo17⟩ := Kd.R_slice HO134.out
  (first | subst eo17 | (injection eo17 with f1_ f2_ f3_; have f4_ := f1_.symm; have f5_ := f3_.symm; clear f1_ f2_ f3_; subst f4_; subst f5_))
  obtain ⟨Ao18, co18, eo18⟩ := Kd.R_slice HO137.out
  (first | subst eo18 | (injection eo18 with f1_ f2_ f3_; have f4_ := f1_.symm; have f5_ := f3_.symm; clear f1_ f2_ f3_; subst f4_; subst f5_))
  refine hK.out _ _ ⟨cB BK127 0, cB BK127 1⟩ (fun hHeld => ?_)
  clear hK K
  refine nm_ ?_
  refine on_ 7 (some 20) 255 HT_ (fun K hK => ?_)
  refine ca_ Try.func72 #[.slice Ao17 t132.length co17, .slice Ao18 t135.length co18] ?_
  with_reducible refine (slices_Equal_int64_int64.calls k _ _ t132 _ _ t135 t138 _ ?side1 ?side2 ?side3 ?side4 A8.out).mono ?_
  (case side1 => exact pC ((Kd.R_reads' HO134.out).2.2))
  (case side2 => exact (Kd.R_reads' HO134.out).2.1)
  (case side3 => exact pC ((Kd.R_reads' HO137.out).2.2))
  (case side4 => exact (Kd.R_reads' HO137.out).2.1)
  rintro e w' ⟨rfl, ⟨nd, rfl⟩⟩
  refine ⟨_, rfl, ?_⟩
  refine hK.out _ _ ⟨cB BK127 0, cB BK127 1⟩ (fun hHeld => ?_)
  clear hK K
  refine nm_ ?_
  refine pu_ 8 4 511 HT_ ?_
  refine pu_ 9 5 1023 HT_ ?_
  refine dn_ HT_ ?_
  try go_wp2
  go_ret2
  exact ⟨by first | rfl | (simp [errW_none, errW_some] <;> rfl) | (simp [*, errW_none, errW_some] <;> rfl) | (exfalso; simp_all), pH HB⟩
 ·rw [if_neg c4] at H
  have c4b0 : (t128 == 0) = false := beq_eq_false_iff_ne.mpr c4
  have c4b1 : (t128 != 0) = true := bne_iff_ne.mpr c4
  simp only [Option.some.injEq, Prod.mk.injEq] at H
  obtain ⟨rfl, rfl⟩ := H
  go_enter Try.func31, Try.ntmps31
  go_wp2_with (first | ((with_reducible refine gate_dst (N := 2) rfl ?_); refine box_event ?hg (N := 2) ?hd (cs := #[.int .i64 a0_0, .slice A0_1 l0_1.length c0_1]) (t := 28) ?hr ?_; (case hd => rfl); (case hg => rfl); (case hr => first | (go_simp; done) | (go_simp; rfl)); intro gb127 hg w19 hbox hb; have BK127 := Aside0.mk (hbox); have GW127 := gH HB hg; have GE127 := gH HB hg; replace HB := sH HB hb; clear hb hbox hg; have hcz20_0 : w19.cell? ⟨gb127, 0, none⟩ = some (.int .i64 a0_0) := cB BK127 0; have hcz20_1 : w19.cell? ⟨gb127, 1, none⟩ = some (.slice A0_1 l0_1.length c0_1) := cB BK127 1; have hfz20_0 := zB BK127 0; have hfz20_1 := zB BK127 1) | ((with_reducible refine gate_callee (f := 65) rfl ?_); refine cl_ (some 9) Try.func65 #[.agg #[.int .i64 a0_0, .slice A0_1 l0_1.length c0_1], .slice A1 l1.length c1, .bool true] ?_; (with_reducible refine (impl_acyclicCode.calls a0_0 _ _ l0_1 _ _ l1 true t128 _ ?side1 ?side2 ?side3 ?side4 A3.out).mono ?_); (case side1 => exact pC ((Kd.C_below HR0_1.out HB.out))); (case side2 => exact HC0_1.out); (case side3 => exact pC ((Kd.C_below HR1.out HB.out))); (case side4 => exact HC1.out); rintro e w21 ⟨rfl, hb⟩; refine ⟨_, rfl, ?_⟩; replace BK127 := sB BK127 hb; replace HB := sH HB hb; (try clear hb); (try clear hi)))
  go_ret2
  exact ⟨by first | rfl | (simp [errW_none, errW_some] <;> rfl) | (simp [*, errW_none, errW_some] <;> rfl) | (exfalso; simp_all), pH HB⟩
end Go.Proofs.Ytomdfjohnmikdaa.QG
