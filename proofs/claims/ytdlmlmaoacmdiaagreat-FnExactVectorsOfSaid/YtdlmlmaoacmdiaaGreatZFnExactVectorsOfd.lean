/- Words and lemmas for FnExactVectorsOf, part 4: what the row's text comes to. -/
import Derived.Laws.CopyOwn
import Derived.Lib.AppendZerosOnto
import Derived.Lib.Overlaps
import Derived.Test.YtdlmlmaoacmdiaaGreatZFnExactVectorsOfc
set_option linter.unusedVariables false
set_option linter.unusedSimpArgs false
namespace Go.Proofs.YtdlmlmaoacmdiaaGreat.Im
open Go.RowKit Go.Shelf Kp Cw Ext Pu YtdlmlmaoacmdiaaGreatW.PrintWords YtdlmlmaoacmdiaaGreatW.PrintLast YtdlmlmaoacmdiaaGreatW.PrintMore
structure MR (w : World) (base : Nat) (v : Value) (vs : List Value) (M : List (List Int)) : Prop where
  o : VO w base v vs
  i : VI w base vs M
  a : ∀ i j (hi : i < vs.length) (hj : j < vs.length), i ≠ j → ∀ k, vs[i].ownBlock = some k → vs[j].ownBlock ≠ some k
theorem MR.nil (w : World) (base : Nat) : MR w base (.slice none 0 0) [] [] := ⟨Kd.R_nil _ _ _ _ _, VI.nil _ _, fun i j hi => absurd hi (Nat.not_lt_zero _)⟩
theorem MR.move {w w1 : World} {base : Nat} {v : Value} {vs : List Value} {M : List (List Int)} (h : MR w base v vs M) (hm : ∀ k, base ≤ k → k < w.heap.size → w1.heap[k]? = w.heap[k]?) : MR w1 base v vs M := by
  refine ⟨?_, ⟨h.i.1, fun i h1 h2 => ?_⟩, h.a⟩
  · exact Kd.R_mono (Kd.R_step (Kd.R_bound h.o) (fun k hk hlt => hm k hk.2.1 hlt)) (fun _ _ => trivial)
  · exact Kd.R_mono (Kd.R_step (Kd.R_bound (h.i.2 i h1 h2)) (fun k hk hlt => hm k hk.2.1 hlt)) (fun _ _ => trivial)
theorem MR.below {w w1 : World} {base : Nat} {v : Value} {vs : List Value} {M : List (List Int)} (h : MR w base v vs M) (hb : Below w.heap.size w w1) : MR w1 base v vs M := h.move fun k _ hk => hb.block k hk
theorem MR.lower {w : World} {base base' : Nat} {v : Value} {vs : List Value} {M : List (List Int)} (h : MR w base v vs M) (hb : base' ≤ base) : MR w base' v vs M := ⟨Kd.R_lower h.o hb, h.i.lower hb, h.a⟩
theorem MR.reads {w : World} {base : Nat} {A : Option Addr} {c : Nat} {vs : List Value} {M : List (List Int)} (h : VO w base (.slice A vs.length c) vs) (hi : VI w base vs M) : Kd.C (Kd.slice 2 (Kd.int .i64)) w A M.length M := by
  have hr := h.reads.2.2
  have hl := hi.1
  refine ⟨rfl, by rw [← hl]; exact hr.2.1, fun hp => ?_⟩
  obtain ⟨ad, hA, hc⟩ := hr.2.2 (by omega)
  refine ⟨ad, hA, fun j p hj => ?_⟩
  obtain ⟨hj', rfl⟩ := List.getElem?_eq_some_iff.1 hj
  have hjv : j < vs.length := by omega
  obtain ⟨cs, hlen, hK, hcell⟩ := hc j vs[j] (List.getElem?_eq_getElem hjv)
  have hrow := hi.2 j hjv hj'
  obtain ⟨A', c', hv⟩ := Kd.R_slice hrow
  refine ⟨cs, hlen, ?_, hcell⟩
  obtain ⟨rfl, _⟩ := hK
  rw [hv] at hrow ⊢
  exact ⟨A', c', rfl, (Kd.R_reads' hrow).2.1, (Kd.R_reads' hrow).2.2⟩
def markSS : List (List Int) → Int → List (List Int)
  | [], _ => []
  | r :: M, a => marks r.length a :: markSS M (a + (r.length : Int))
def totL (M : List (List Int)) : Int := M.foldl (fun a r => a + (r.length : Int)) 0
theorem tot_acc : ∀ (M : List (List Int)) (a : Int), M.foldl (fun a r => a + (r.length : Int)) a = a + totL M
  | [], a => by simp [totL]
  | r :: M, a => by
    unfold totL
    rw [List.foldl_cons, List.foldl_cons, tot_acc M, tot_acc M (0 + (r.length : Int))]
    omega
theorem tot_cons (r : List Int) (M : List (List Int)) : totL (r :: M) = (r.length : Int) + totL M := by
  unfold totL
  rw [List.foldl_cons, tot_acc]
  unfold totL
  omega
theorem tot_nonneg : ∀ (M : List (List Int)), 0 ≤ totL M
  | [] => by simp [totL]
  | r :: M => by rw [tot_cons]; have := tot_nonneg M; omega
theorem markSS_len : ∀ (M : List (List Int)) (a : Int), (markSS M a).length = M.length
  | [], _ => rfl
  | r :: M, a => by rw [markSS, List.length_cons, List.length_cons, markSS_len M]
theorem markSS_at : ∀ (M : List (List Int)) (a : Int) (j : Nat) (h : j < (markSS M a).length) (h' : j < M.length), (markSS M a)[j] = marks M[j].length (a + totL (M.take j))
  | r :: M, a, 0, _, _ => by simp [markSS, totL]
  | r :: M, a, j + 1, h, h' => by
    have := markSS_at M (a + (r.length : Int)) j (by simpa [markSS] using h) (by simpa using h')
    simp only [markSS, List.getElem_cons_succ, List.take_succ_cons]
    rw [this, tot_cons]
    congr 1
    omega
theorem tot_take : ∀ (M : List (List Int)) (j : Nat) (h : j < M.length), totL (M.take (j + 1)) = totL (M.take j) + (M[j].length : Int)
  | r :: M, 0, _ => by simp [totL]
  | r :: M, j + 1, h => by
    have := tot_take M j (by simpa using h)
    simp only [List.take_succ_cons, List.getElem_cons_succ]
    rw [tot_cons, this, tot_cons]
    omega
theorem tot_le : ∀ (M : List (List Int)) (j : Nat), totL (M.take j) ≤ totL M
  | [], _ => by simp [totL]
  | r :: M, 0 => by rw [List.take_zero]; have := tot_nonneg (r :: M); simpa [totL] using this
  | r :: M, j + 1 => by
    rw [List.take_succ_cons, tot_cons, tot_cons]
    have := tot_le M j
    omega
theorem held_loop {M : List (List Int)} {a : Int} (hl : M.length ≤ 1099511627776) (hr : ∀ r ∈ M, r.length ≤ 1048576) (ha : 0 ≤ a) (ht : a + totL M ≤ 1125899906842624) : ∀ d (i : Nat), M.length - i = d → i ≤ M.length → Ev (fun k => QS.laws_heldInt64SS.l0 k (markSS M a) (a + totL (M.take i)) (i : Int)) (a + totL M) := by
  intro d
  induction d with
  | zero =>
    intro i hd hi
    rw [List.take_of_length_le (by omega)]
    refine Ev.step (f := fun k => some (a + totL M)) (fun k => ?_) (Ev.now _)
    simp only [QS.laws_heldInt64SS.l0]
    rw [if_neg (by rw [markSS_len]; omega)]
  | succ d ih =>
    intro i hd hi
    have hi' : i < M.length := by omega
    have him : i < (markSS M a).length := by rw [markSS_len]; exact hi'
    have h1 := tot_le M i
    have h2 := tot_le M (i + 1)
    rw [tot_take M i hi'] at h2
    have h3 := tot_nonneg (M.take i)
    have hrd : QS.rd_L1 (markSS M a) (i : Int) = marks M[i].length (a + totL (M.take i)) := by
      unfold QS.rd_L1
      rw [Int.toNat_natCast, List.getD_eq_getElem?_getD, List.getElem?_eq_getElem him, Option.getD_some, markSS_at M a i him hi']
    have hih := ih (i + 1) (by omega) (by omega)
    refine Ev.step (f := fun k => (QS.laws_heldInt64S.f k (marks M[i].length (a + totL (M.take i))) (a + totL (M.take i))).bind fun t => if t < 0 then some (-1) else QS.laws_heldInt64SS.l0 k (markSS M a) t ((i + 1 : Nat) : Int)) (fun k => ?_) ?_
    · simp only [QS.laws_heldInt64SS.l0]
      rw [if_pos (by omega), if_pos (by omega), hrd, succ64 (by omega)]
    · refine Ev.bind (ev_heldW (hr _ (List.getElem_mem hi')) (by omega)) ?_
      simp only [if_neg (show ¬ (a + totL (M.take i) + (M[i].length : Int) < 0) by omega)]
      rw [show a + totL (M.take i) + (M[i].length : Int) = a + totL (M.take (i + 1)) by rw [tot_take M i hi']; omega]
      exact hih
theorem ev_heldSS {M : List (List Int)} {a : Int} (hl : M.length ≤ 1099511627776) (hr : ∀ r ∈ M, r.length ≤ 1048576) (ha : 0 ≤ a) (ht : a + totL M ≤ 1125899906842624) : Ev (fun k => QS.laws_heldInt64SS.f k (markSS M a) a) (a + totL M) := by
  unfold QS.laws_heldInt64SS.f
  have := held_loop hl hr ha ht _ 0 rfl (Nat.zero_le _)
  rw [List.take_zero, show totL [] = 0 from rfl, Int.add_zero] at this
  exact this
theorem eqSS_loop {M : List (List Int)} (hl : M.length ≤ 1099511627776) (hr : ∀ r ∈ M, r.length ≤ 1048576) : ∀ d (i : Nat), M.length - i = d → i ≤ M.length → Ev (fun k => QS.laws_eqInt64SS.l0 k M M (i : Int)) true := by
  intro d
  induction d with
  | zero =>
    intro i hd hi
    refine Ev.step (f := fun k => some true) (fun k => ?_) (Ev.now _)
    simp only [QS.laws_eqInt64SS.l0]
    rw [if_neg (by omega)]
  | succ d ih =>
    intro i hd hi
    have hi' : i < M.length := by omega
    have hrd : QS.rd_L1 M (i : Int) = M[i] := by
      unfold QS.rd_L1
      rw [Int.toNat_natCast, List.getD_eq_getElem?_getD, List.getElem?_eq_getElem hi', Option.getD_some]
    refine Ev.step (f := fun k => (QS.laws_eqInt64S.f k M[i] M[i]).bind fun t => if t = true then QS.laws_eqInt64SS.l0 k M M ((i + 1 : Nat) : Int) else some false) (fun k => ?_) ?_
    · simp only [QS.laws_eqInt64SS.l0]
      rw [if_pos (by omega), if_pos (by omega), if_pos (by omega), hrd, succ64 (by omega)]
    · refine Ev.bind (ev_eqInt (hr _ (List.getElem_mem hi'))) ?_
      simp only [if_true]
      exact ih (i + 1) (by omega) (by omega)
theorem ev_eqSS {M : List (List Int)} (hl : M.length ≤ 1099511627776) (hr : ∀ r ∈ M, r.length ≤ 1048576) : Ev (fun k => QS.laws_eqInt64SS.f k M M) true := by
  unfold QS.laws_eqInt64SS.f
  simp only [if_true]
  exact eqSS_loop hl hr _ 0 rfl (Nat.zero_le _)
def markTo (M : List (List Int)) (a : Int) (i : Nat) : List (List Int) := (markSS M a).take i ++ M.drop i
theorem markTo_len (M : List (List Int)) (a : Int) {i : Nat} (hi : i ≤ M.length) : (markTo M a i).length = M.length := by
  unfold markTo
  rw [List.length_append, List.length_take, List.length_drop, markSS_len]; omega
theorem markTo_next (M : List (List Int)) (a : Int) {i : Nat} (hi : i < M.length) : markTo M a (i + 1) = (markTo M a i).set i (marks M[i].length (a + totL (M.take i))) := by
  have him : i < (markSS M a).length := by rw [markSS_len]; exact hi
  unfold markTo
  rw [List.take_succ_eq_append_getElem him, markSS_at M a i him hi, List.append_assoc, List.set_append_right _ _ (by rw [List.length_take]; omega), List.length_take, Nat.min_eq_left (by omega), Nat.sub_self, List.drop_eq_getElem_cons hi]
  rfl
theorem markTo_at (M : List (List Int)) (a : Int) {i : Nat} (hi : i < M.length) (h : i < (markTo M a i).length) : (markTo M a i)[i] = M[i] := by
  have h1 : (markTo M a i)[i]? = M[i]? := by
    unfold markTo
    rw [List.getElem?_append_right (by rw [List.length_take, markSS_len]; omega), List.length_take, markSS_len, Nat.min_eq_left (by omega), Nat.sub_self, List.getElem?_drop, Nat.add_zero]
  rw [List.getElem?_eq_getElem h, List.getElem?_eq_getElem hi] at h1
  exact Option.some.inj h1
set_option maxRecDepth 100000 in
set_option maxHeartbeats 8000000 in
theorem markSS_c (w0 w : World) (v : Value) (vs : List Value) (M : List (List Int)) (a : Int) (h : MR w w0.heap.size v vs M) (hb : Below w0.heap.size w0 w) (hl : M.length ≤ 1099511627776) (hr : ∀ r ∈ M, r.length ≤ 1048576) (ha : 0 ≤ a) (ht : a + totL M ≤ 1125899906842624) :
    Calls Tryz.prog 11 #[v, .int .i64 a] w fun e w' => e = .returned (.int .i64 (a + totL M)) ∧ MR w' w0.heap.size v vs (markSS M a) ∧ Below w0.heap.size w0 w' := by
  have HM := Aside0.mk (show MR w w0.heap.size v vs (markTo M a 0) from h)
  have HB := Aside0.mk hb
  have HR := Aside0.mk hr
  have HT := Aside0.mk ht
  have HA := Aside0.mk ha
  have hvl := h.i.1
  obtain ⟨A, c, rfl⟩ := h.o.slice
  have HVL := Aside0.mk hvl
  have HT0 : Aside0 (a = a + totL (M.take 0)) := ⟨by rw [List.take_zero]; simp [totL]⟩
  clear h hb hr ht ha hvl
  go_enter Tryz.func11, Tryz.ntmps11
  go_wp2
  go_loopw [1, 5] (fun s1 s5 wr => ∃ (i : Nat) (b : Int), i ≤ M.length ∧ s5 = .int .i64 i ∧ s1 = .int .i64 b ∧ Aside0 (b = a + totL (M.take i)) ∧ Aside0 (MR wr w0.heap.size (.slice A vs.length c) vs (markTo M a i)) ∧ Aside0 (Below w0.heap.size w0 wr)) (fun _ s5 _ => M.length - (intOf s5).toNat)
  case atStart => exact ⟨0, a, by omega, rfl, rfl, HT0, HM, HB⟩
  case round =>
    clear HT0 HM HB
    obtain ⟨i, b, hi, rfl, rfl, HBT, HM, HB⟩ := hrel
    by_cases hlt : i < M.length
    · have hiv : i < vs.length := by rw [HVL.out]; exact hlt
      have hltz : (i : Int) < (vs.length : Int) := by omega
      obtain ⟨ad, rfl, hcell⟩ := VC.cell HM.out.o.reads.2.2 hiv
      obtain ⟨u, hu⟩ : ∃ u, vs[i] = u := ⟨_, rfl⟩
      have hmt : i < (markTo M a i).length := by rw [markTo_len M a hi]; exact hlt
      have hrow := HM.out.i.2 i hiv hmt
      have hmi := markTo_at M a hlt hmt
      rw [hu] at hcell hrow
      rw [hmi] at hrow
      obtain ⟨row, hrw⟩ : ∃ row, M[i] = row := ⟨_, rfl⟩
      rw [hrw] at hrow
      have hrl := HR.out _ (List.getElem_mem hlt)
      rw [hrw] at hrl
      have h1 := tot_le M (i + 1)
      rw [tot_take M i hlt, hrw] at h1
      have h3 := tot_nonneg (M.take i)
      have h4 := HT.out
      have h5 := HBT.out
      have h6 := HA.out
      obtain ⟨km, hkm⟩ := (ev_markW hrl (a := b) (by omega)).rounds
      have HKM := Aside0.mk hkm
      have HROW := Aside0.mk (Kd.R_mono (Kd.R_tight rfl hrow) (fun k hk => hk))
      have HU := Aside0.mk hu
      have HRW := Aside0.mk hrw
      have HB2 : Aside0 (b + (row.length : Int) = a + totL (M.take (i + 1))) := ⟨by rw [tot_take M i hlt, hrw]; omega⟩
      have HNX : Aside0 (markTo M a (i + 1) = (markTo M a i).set i (marks row.length b)) := ⟨by rw [markTo_next M a hlt, hrw, ← h5]⟩
      obtain ⟨Au, cu, rfl⟩ := Kd.R_slice hrow
      clear hu hmt hrow hmi hrw hrl h1 h3 h4 h5 h6 hkm
      go_wp2_with (go_at_call 26; refine (QS.laws_markInt64S.calls km _ _ row b (b + (row.length : Int)) (marks row.length b) w0 _ HB.out HROW.out HKM.out).mono ?_; rintro e w1 ⟨rfl, hr1, hb1, hk1⟩; have HR1 := Aside0.mk hr1; have HB1 := Aside0.mk hb1; have HK1 := Aside0.mk hk1; clear hr1 hb1 hk1)
      have HM1 : Aside0 (MR w1 w0.heap.size (.slice (some ad) vs.length c) vs (markTo M a (i + 1))) := ⟨by
        have hk := HK1.out
        have hm := HM.out
        refine ⟨?_, ?_, hm.a⟩
        · refine Kd.R_mono (Kd.R_step (Kd.R_bound hm.o) (fun k hk2 hlt2 => hk.2 k hlt2 (fun hs => ?_))) (fun _ _ => trivial)
          obtain ⟨_, _, _, q, hq, cells, hc⟩ := hk2
          have hq' : q = 22 := by simpa [kV] using hq
          obtain ⟨inner, ho⟩ := Kd.R_own HROW.out
          obtain ⟨cs, hc2⟩ := own_typed ho k hs.symm
          rw [hc, hq'] at hc2
          injection hc2 with hc2
          injection hc2 with _ hc2
          revert hc2
          decide
        · rw [HNX.out]
          refine ⟨by rw [List.length_set]; exact hm.i.1, fun j h1 h2 => ?_⟩
          by_cases hji : j = i
          · subst hji
            rw [List.getElem_set_self, HU.out]
            exact Kd.R_mono HR1.out (fun _ _ => trivial)
          · rw [List.getElem_set_ne (Ne.symm hji)]
            have hjr := hm.i.2 j h1 (by rw [List.length_set] at h2; exact h2)
            have hjt : RO w1 w0.heap.size vs[j] _ := Kd.R_mono (Kd.R_step (Kd.R_tight rfl hjr) (fun k hk2 hlt2 => hk.2 k hlt2 (fun hs => by
              have h7 := hm.a i j hiv h1 (Ne.symm hji) k (by rw [HU.out]; exact hs.symm)
              exact h7 hk2.symm))) (fun _ _ => trivial)
            exact hjt⟩
      clear HK1 HR1 HM HROW hcell
      go_roundw
      case measure => simp [intOf]; omega
      case rel => exact ⟨i + 1, b + (row.length : Int), by omega, by go_num, rfl, HB2, HM1, HB1⟩
    · obtain rfl : i = M.length := by omega
      have hltz : ¬ ((M.length : Int) < (vs.length : Int)) := by have := HVL.out; omega
      have HBT2 := HBT.out
      rw [List.take_length] at HBT2
      have HMT : Aside0 (markTo M a M.length = markSS M a) := ⟨by unfold markTo; rw [List.drop_eq_nil_of_le (Nat.le_refl _), List.append_nil, List.take_of_length_le (by rw [markSS_len]; exact Nat.le_refl _)]⟩
      subst HBT2
      clear HBT
      go_wp2
      go_ret
      rw [HMT.out] at HM
      exact ⟨rfl, HM.out, HB.out⟩
end Go.Proofs.YtdlmlmaoacmdiaaGreat.Im
namespace Go.Proofs.YtdlmlmaoacmdiaaGreat.QS
open Cw Kp Ext Go.RowKit YtdlmlmaoacmdiaaGreatW.PrintWords YtdlmlmaoacmdiaaGreatW.PrintLast YtdlmlmaoacmdiaaGreatW.PrintMore
attribute [local go_sem] max2_int min2_int max_two min_two max_three min_three max_four min_four   -- for this text's walks alone
def spec_l08Less.l0 : Nat → List Int → List Int → Int → Option (Bool)
 | 0, _, _, _ => none
 | k + 1, x0, x1, x5 => if x5 < (x0.length : Int) then (if 0 ≤ x5 then (if x5 < (x1.length : Int) then (if (rd x0 x5) = (rd x1 x5) then (spec_l08Less.l0 k x0 x1 (wrap64 (x5 + 1))) else (some (decide ((rd x0 x5) < (rd x1 x5))))) else (none)) else (none)) else (some false)
def spec_l08Less.f (k : Nat) (l0 : List Int) (l1 : List Int) : Option (Bool) := spec_l08Less.l0 k l0 l1 0
set_option maxHeartbeats 8000000 in
set_option maxRecDepth 100000 in
theorem spec_l08Less.calls (k : Nat) (A0 : Option Addr) (c0 : Nat) (l0 : List Int) (A1 : Option Addr) (c1 : Nat) (l1 : List Int) (r : Bool) (w : World) (hr0 : Kd.C (Kd.int .i64) w A0 l0.length l0) (hc0 : l0.length ≤ c0) (hr1 : Kd.C (Kd.int .i64) w A1 l1.length l1) (hc1 : l1.length ≤ c1) (h : spec_l08Less.f k l0 l1 = some r) :
  Calls Tryz.prog 72 #[.slice A0 l0.length c0, .slice A1 l1.length c1] w fun e w' => e = .returned (.bool r) ∧ Drawn0 w w' := by
 have HR0 := Aside0.mk hr0
 have HC0 := Aside0.mk hc0
 clear hr0 hc0
 have HR1 := Aside0.mk hr1
 have HC1 := Aside0.mk hc1
 clear hr1 hc1
 have H : (spec_l08Less.l0 k l0 l1 0) = some r := h
 clear h
 have H' := Aside0.mk H
 clear H
 go_enter Tryz.func72, Tryz.ntmps72
 go_wp2
 repeat (go_quiet (fail); try go_wp2)
 go_loopg [5] k (fun kq v5 w' => ∃ (x5_1 : Int), v5 = .int .i64 x5_1 ∧ Aside0 (spec_l08Less.l0 kq l0 l1 x5_1 = some r) ∧ Aside0 (kq ≤ k) ∧ Drawn0 w w')
 case atStart => exact ⟨(0), (by first | rfl | (simp; done) | (simp [*]; done)), H', ⟨Nat.le_refl _⟩, by repeat (first | exact Drawn0.refl _ | apply Drawn0.step)⟩
 case round =>
  clear H'
  try clear c1
  try clear p2
  obtain ⟨x5_1, rfl, HA, HK1, ⟨m1, rfl⟩⟩ := hrel
  cases gk with
  | zero => exact absurd HA.out (by simp [spec_l08Less.l0])
  | succ k1 =>
   have H := HA.out
   clear HA
   simp only [spec_l08Less.l0] at H
   by_cases c3 : x5_1 < (l0.length : Int)
   ·rw [if_pos c3] at H
    have c3b0 : decide (x5_1 < (l0.length : Int)) = true := decide_eq_true c3
    clear c3
    by_cases c4 : 0 ≤ x5_1
    ·rw [if_pos c4] at H
     have c4b0 : decide (0 ≤ x5_1) = true := decide_eq_true c4
     clear c4
     by_cases c5 : x5_1 < (l1.length : Int)
     ·rw [if_pos c5] at H
      have c5b0 : decide (x5_1 < (l1.length : Int)) = true := decide_eq_true c5
      clear c5
      by_cases c6 : (rd l0 x5_1) = (rd l1 x5_1)
      ·rw [if_pos c6] at H
       have c6b0 : ((rd l0 x5_1) == (rd l1 x5_1)) = true := beq_iff_eq.mpr c6
       have c6b1 : ((rd l0 x5_1) != (rd l1 x5_1)) = false := bne_eq_false_iff_eq.mpr c6
       clear c6
       have H' := Aside0.mk H
       clear H
       have p253 : 0 ≤ (x5_1 : Int) := of_decide_eq_true (by first | (with_reducible assumption) | assumption)
       have q253 : x5_1 < (l0.length : Int) := of_decide_eq_true (by first | (with_reducible assumption) | assumption)
       obtain ⟨ad253, e253, hx253_0⟩ := Kd.at_int HR0.out x5_1 p253 q253
       cases e253
       replace p253 := eq_true p253
       replace q253 := eq_true q253
       have p254 : 0 ≤ (x5_1 : Int) := of_decide_eq_true (by first | (with_reducible assumption) | assumption)
       have q254 : x5_1 < (l1.length : Int) := of_decide_eq_true (by first | (with_reducible assumption) | assumption)
       obtain ⟨ad254, e254, hx254_0⟩ := Kd.at_int HR1.out x5_1 p254 q254
       cases e254
       replace p254 := eq_true p254
       replace q254 := eq_true q254
       go_wp2
       repeat (go_quiet (fail); try go_wp2)
       go_roundg k1
       case measure => have := HK1.out; omega
       case rel => exact ⟨(wrap64 (x5_1 + 1)), (by first | rfl | (simp; done) | (simp [*]; done)), H', ⟨by have := HK1.out; omega⟩, by repeat (first | exact Drawn0.refl _ | apply Drawn0.step)⟩
      ·rw [if_neg c6] at H
       have c6b0 : ((rd l0 x5_1) == (rd l1 x5_1)) = false := beq_eq_false_iff_ne.mpr c6
       have c6b1 : ((rd l0 x5_1) != (rd l1 x5_1)) = true := bne_iff_ne.mpr c6
       obtain rfl := Option.some.inj H
       have p253 : 0 ≤ (x5_1 : Int) := of_decide_eq_true (by first | (with_reducible assumption) | assumption)
       have q253 : x5_1 < (l0.length : Int) := of_decide_eq_true (by first | (with_reducible assumption) | assumption)
       obtain ⟨ad253, e253, hx253_0⟩ := Kd.at_int HR0.out x5_1 p253 q253
       cases e253
       replace p253 := eq_true p253
       replace q253 := eq_true q253
       have p254 : 0 ≤ (x5_1 : Int) := of_decide_eq_true (by first | (with_reducible assumption) | assumption)
       have q254 : x5_1 < (l1.length : Int) := of_decide_eq_true (by first | (with_reducible assumption) | assumption)
       obtain ⟨ad254, e254, hx254_0⟩ := Kd.at_int HR1.out x5_1 p254 q254
       cases e254
       replace p254 := eq_true p254
       replace q254 := eq_true q254
       have p255 : 0 ≤ (x5_1 : Int) := of_decide_eq_true (by first | (with_reducible assumption) | assumption)
       have q255 : x5_1 < (l0.length : Int) := of_decide_eq_true (by first | (with_reducible assumption) | assumption)
       obtain ⟨ad255, e255, hx255_0⟩ := Kd.at_int HR0.out x5_1 p255 q255
       obtain rfl : ad253 = ad255 := (by injection e255)
       replace p255 := eq_true p255
       replace q255 := eq_true q255
       have p256 : 0 ≤ (x5_1 : Int) := of_decide_eq_true (by first | (with_reducible assumption) | assumption)
       have q256 : x5_1 < (l1.length : Int) := of_decide_eq_true (by first | (with_reducible assumption) | assumption)
       obtain ⟨ad256, e256, hx256_0⟩ := Kd.at_int HR1.out x5_1 p256 q256
       obtain rfl : ad254 = ad256 := (by injection e256)
       replace p256 := eq_true p256
       replace q256 := eq_true q256
       go_wp2
       repeat (go_quiet (fail); try go_wp2)
       go_ret
       exact ⟨by first | rfl | (simp; done) | (simp [*]; done), by repeat (first | exact Drawn0.refl _ | apply Drawn0.step)⟩
     ·rw [if_neg c5] at H
      exact absurd H (by simp)
    ·rw [if_neg c4] at H
     exact absurd H (by simp)
   ·rw [if_neg c3] at H
    have c3b0 : decide (x5_1 < (l0.length : Int)) = false := decide_eq_false c3
    clear c3
    obtain rfl := Option.some.inj H
    go_wp2
    repeat (go_quiet (fail); try go_wp2)
    go_ret
    exact ⟨by first | rfl | (simp; done) | (simp [*]; done), by repeat (first | exact Drawn0.refl _ | apply Drawn0.step)⟩
def spec_l06Same.l0 : Nat → List Int → List Int → Int → Option (Bool)
 | 0, _, _, _ => none
 | k + 1, x0, x1, x5 => if x5 < (x0.length : Int) then (if 0 ≤ x5 then (if x5 < (x1.length : Int) then (if (rd x0 x5) = (rd x1 x5) then (spec_l06Same.l0 k x0 x1 (wrap64 (x5 + 1))) else (some false)) else (none)) else (none)) else (some true)
def spec_l06Same.f (k : Nat) (l0 : List Int) (l1 : List Int) : Option (Bool) := if (l0.length : Int) = (l1.length : Int) then (spec_l06Same.l0 k l0 l1 0) else (some false)
set_option maxHeartbeats 8000000 in
set_option maxRecDepth 100000 in
theorem spec_l06Same.calls (k : Nat) (A0 : Option Addr) (c0 : Nat) (l0 : List Int) (A1 : Option Addr) (c1 : Nat) (l1 : List Int) (r : Bool) (w : World) (hr0 : Kd.C (Kd.int .i64) w A0 l0.length l0) (hc0 : l0.length ≤ c0) (hr1 : Kd.C (Kd.int .i64) w A1 l1.length l1) (hc1 : l1.length ≤ c1) (h : spec_l06Same.f k l0 l1 = some r) :
  Calls Tryz.prog 73 #[.slice A0 l0.length c0, .slice A1 l1.length c1] w fun e w' => e = .returned (.bool r) ∧ Drawn0 w w' := by
 have HR0 := Aside0.mk hr0
 have HC0 := Aside0.mk hc0
 clear hr0 hc0
 have HR1 := Aside0.mk hr1
 have HC1 := Aside0.mk hc1
 clear hr1 hc1
 have H : (if (l0.length : Int) = (l1.length : Int) then (spec_l06Same.l0 k l0 l1 0) else (some false)) = some r := h
 clear h
 by_cases c3 : (l0.length : Int) = (l1.length : Int)
 ·rw [if_pos c3] at H
  have c3b0 : ((l0.length : Int) == (l1.length : Int)) = true := beq_iff_eq.mpr c3
  have c3b1 : ((l0.length : Int) != (l1.length : Int)) = false := bne_eq_false_iff_eq.mpr c3
  have c3b2 : (l0.length == l1.length) = true := by first | simpa using c3 | (simp at c3 ⊢; omega)
  clear c3
  have H' := Aside0.mk H
  clear H
  go_enter Tryz.func73, Tryz.ntmps73
  go_wp2
  repeat (go_quiet (fail); try go_wp2)
  go_loopg [5] k (fun kq v5 w' => ∃ (x5_1 : Int), v5 = .int .i64 x5_1 ∧ Aside0 (spec_l06Same.l0 kq l0 l1 x5_1 = some r) ∧ Aside0 (kq ≤ k) ∧ Drawn0 w w')
  case atStart => exact ⟨(0), (by first | rfl | (simp; done) | (simp [*]; done)), H', ⟨Nat.le_refl _⟩, by repeat (first | exact Drawn0.refl _ | apply Drawn0.step)⟩
  case round =>
   clear H'
   try clear c1
   try clear p2
   try clear c3
   try clear c3b0
   try clear c3b1
   try clear c3b2
   obtain ⟨x5_1, rfl, HA, HK1, ⟨m1, rfl⟩⟩ := hrel
   cases gk with
   | zero => exact absurd HA.out (by simp [spec_l06Same.l0])
   | succ k1 =>
    have H := HA.out
    clear HA
    simp only [spec_l06Same.l0] at H
    by_cases c4 : x5_1 < (l0.length : Int)
    ·rw [if_pos c4] at H
     have c4b0 : decide (x5_1 < (l0.length : Int)) = true := decide_eq_true c4
     clear c4
     by_cases c5 : 0 ≤ x5_1
     ·rw [if_pos c5] at H
      have c5b0 : decide (0 ≤ x5_1) = true := decide_eq_true c5
      clear c5
      by_cases c6 : x5_1 < (l1.length : Int)
      ·rw [if_pos c6] at H
       have c6b0 : decide (x5_1 < (l1.length : Int)) = true := decide_eq_true c6
       clear c6
       by_cases c7 : (rd l0 x5_1) = (rd l1 x5_1)
       ·rw [if_pos c7] at H
        have c7b0 : ((rd l0 x5_1) == (rd l1 x5_1)) = true := beq_iff_eq.mpr c7
        have c7b1 : ((rd l0 x5_1) != (rd l1 x5_1)) = false := bne_eq_false_iff_eq.mpr c7
        clear c7
        have H' := Aside0.mk H
        clear H
        have p257 : 0 ≤ (x5_1 : Int) := of_decide_eq_true (by first | (with_reducible assumption) | assumption)
        have q257 : x5_1 < (l0.length : Int) := of_decide_eq_true (by first | (with_reducible assumption) | assumption)
        obtain ⟨ad257, e257, hx257_0⟩ := Kd.at_int HR0.out x5_1 p257 q257
        cases e257
        replace p257 := eq_true p257
        replace q257 := eq_true q257
        have p258 : 0 ≤ (x5_1 : Int) := of_decide_eq_true (by first | (with_reducible assumption) | assumption)
        have q258 : x5_1 < (l1.length : Int) := of_decide_eq_true (by first | (with_reducible assumption) | assumption)
        obtain ⟨ad258, e258, hx258_0⟩ := Kd.at_int HR1.out x5_1 p258 q258
        cases e258
        replace p258 := eq_true p258
        replace q258 := eq_true q258
        go_wp2
        repeat (go_quiet (fail); try go_wp2)
        go_roundg k1
        case measure => have := HK1.out; omega
        case rel => exact ⟨(wrap64 (x5_1 + 1)), (by first | rfl | (simp; done) | (simp [*]; done)), H', ⟨by have := HK1.out; omega⟩, by repeat (first | exact Drawn0.refl _ | apply Drawn0.step)⟩
       ·rw [if_neg c7] at H
        have c7b0 : ((rd l0 x5_1) == (rd l1 x5_1)) = false := beq_eq_false_iff_ne.mpr c7
        have c7b1 : ((rd l0 x5_1) != (rd l1 x5_1)) = true := bne_iff_ne.mpr c7
        obtain rfl := Option.some.inj H
        have p257 : 0 ≤ (x5_1 : Int) := of_decide_eq_true (by first | (with_reducible assumption) | assumption)
        have q257 : x5_1 < (l0.length : Int) := of_decide_eq_true (by first | (with_reducible assumption) | assumption)
        obtain ⟨ad257, e257, hx257_0⟩ := Kd.at_int HR0.out x5_1 p257 q257
        cases e257
        replace p257 := eq_true p257
        replace q257 := eq_true q257
        have p258 : 0 ≤ (x5_1 : Int) := of_decide_eq_true (by first | (with_reducible assumption) | assumption)
        have q258 : x5_1 < (l1.length : Int) := of_decide_eq_true (by first | (with_reducible assumption) | assumption)
        obtain ⟨ad258, e258, hx258_0⟩ := Kd.at_int HR1.out x5_1 p258 q258
        cases e258
        replace p258 := eq_true p258
        replace q258 := eq_true q258
        go_wp2
        repeat (go_quiet (fail); try go_wp2)
        go_ret
        exact ⟨by first | rfl | (simp; done) | (simp [*]; done), by repeat (first | exact Drawn0.refl _ | apply Drawn0.step)⟩
      ·rw [if_neg c6] at H
       exact absurd H (by simp)
     ·rw [if_neg c5] at H
      exact absurd H (by simp)
    ·rw [if_neg c4] at H
     have c4b0 : decide (x5_1 < (l0.length : Int)) = false := decide_eq_false c4
     clear c4
     obtain rfl := Option.some.inj H
     go_wp2
     repeat (go_quiet (fail); try go_wp2)
     go_ret
     exact ⟨by first | rfl | (simp; done) | (simp [*]; done), by repeat (first | exact Drawn0.refl _ | apply Drawn0.step)⟩
 ·rw [if_neg c3] at H
  have c3b0 : ((l0.length : Int) == (l1.length : Int)) = false := beq_eq_false_iff_ne.mpr c3
  have c3b1 : ((l0.length : Int) != (l1.length : Int)) = true := bne_iff_ne.mpr c3
  have c3b2 : (l0.length == l1.length) = false := by first | simpa using c3 | (simp at c3 ⊢; omega)
  obtain rfl := Option.some.inj H
  go_enter Tryz.func73, Tryz.ntmps73
  go_wp2
  repeat (go_quiet (fail); try go_wp2)
  go_ret
  exact ⟨by first | rfl | (simp; done) | (simp [*]; done), by repeat (first | exact Drawn0.refl _ | apply Drawn0.step)⟩
end Go.Proofs.YtdlmlmaoacmdiaaGreat.QS
namespace Go.Proofs.YtdlmlmaoacmdiaaGreat.Pu
open Go.RowKit Kp Ext QS Im YtdlmlmaoacmdiaaGreatW.PrintWords YtdlmlmaoacmdiaaGreatW.PrintLast YtdlmlmaoacmdiaaGreatW.PrintMore
def lessV : List Int → List Int → Bool
  | a :: p, b :: q => if a = b then lessV p q else decide (a < b)
  | _, _ => false
def backV (M : List (List Int)) (own : List Int) : Nat → Nat
  | 0 => 0
  | m + 1 => if lessV (M.getD m []) own = true then m + 1 else backV M own m
def putV (M : List (List Int)) (own : List Int) : List (List Int) :=
  if M[backV M own M.length]? = some own then M else M.take (backV M own M.length) ++ own :: M.drop (backV M own M.length)
theorem backV_le (M : List (List Int)) (own : List Int) : ∀ m, backV M own m ≤ m
  | 0 => Nat.le_refl _
  | m + 1 => by
    rw [backV]
    split
    · exact Nat.le_refl _
    · have := backV_le M own m; omega
theorem less_loop {a b : List Int} (hl : a.length ≤ b.length) (hm : a.length ≤ 1048576) : ∀ d (i : Nat), a.length - i = d → i ≤ a.length → Ev (fun k => spec_l08Less.l0 k a b (i : Int)) (lessV (a.drop i) (b.drop i)) := by
  intro d
  induction d with
  | zero =>
    intro i hd hil
    rw [List.drop_eq_nil_of_le (by omega), show lessV [] (b.drop i) = false by cases b.drop i <;> rfl]
    refine Ev.step (f := fun k => some false) (fun k => ?_) (Ev.now _)
    simp only [spec_l08Less.l0]
    rw [if_neg (by omega)]
  | succ d ih =>
    intro i hd hil
    have h1 : i < a.length := by omega
    have h2 : i < b.length := by omega
    rw [List.drop_eq_getElem_cons h1, List.drop_eq_getElem_cons h2, lessV]
    by_cases he : a[i] = b[i]
    · rw [if_pos he]
      refine Ev.step (fun k => ?_) (ih (i + 1) (by omega) (by omega))
      simp only [spec_l08Less.l0]
      rw [if_pos (by omega), if_pos (by omega), if_pos (by omega), rd_at h1, rd_at h2, if_pos he, succ64 (by omega)]
    · rw [if_neg he]
      refine Ev.step (f := fun k => some (decide (a[i] < b[i]))) (fun k => ?_) (Ev.now _)
      simp only [spec_l08Less.l0]
      rw [if_pos (by omega), if_pos (by omega), if_pos (by omega), rd_at h1, rd_at h2, if_neg he]
theorem ev_lessV {a b : List Int} (hl : a.length ≤ b.length) (hm : a.length ≤ 1048576) : Ev (fun k => spec_l08Less.f k a b) (lessV a b) := by
  unfold spec_l08Less.f
  exact less_loop hl hm _ 0 rfl (Nat.zero_le _)
theorem same_dropV {a b : List Int} {i : Nat} (h1 : i < a.length) (h2 : i < b.length) : (decide (a.drop i = b.drop i)) = (decide (a[i] = b[i]) && decide (a.drop (i + 1) = b.drop (i + 1))) := by
  rw [Bool.eq_iff_iff, Bool.and_eq_true, decide_eq_true_eq, decide_eq_true_eq, decide_eq_true_eq, List.drop_eq_getElem_cons h1, List.drop_eq_getElem_cons h2, List.cons.injEq]
theorem sameV_loop {a b : List Int} (hl : a.length = b.length) (hm : a.length ≤ 1048576) : ∀ d (i : Nat), a.length - i = d → i ≤ a.length → Ev (fun k => spec_l06Same.l0 k a b (i : Int)) (decide (a.drop i = b.drop i)) := by
  intro d
  induction d with
  | zero =>
    intro i hd hil
    rw [List.drop_eq_nil_of_le (by omega), List.drop_eq_nil_of_le (by omega), decide_eq_true rfl]
    refine Ev.step (f := fun k => some true) (fun k => ?_) (Ev.now _)
    simp only [spec_l06Same.l0]
    rw [if_neg (by omega)]
  | succ d ih =>
    intro i hd hil
    have h1 : i < a.length := by omega
    have h2 : i < b.length := by omega
    rw [same_dropV h1 h2]
    by_cases he : a[i] = b[i]
    · rw [decide_eq_true he, Bool.true_and]
      refine Ev.step (fun k => ?_) (ih (i + 1) (by omega) (by omega))
      simp only [spec_l06Same.l0]
      rw [if_pos (by omega), if_pos (by omega), if_pos (by omega), rd_at h1, rd_at h2, if_pos he, succ64 (by omega)]
    · rw [decide_eq_false he, Bool.false_and]
      refine Ev.step (f := fun k => some false) (fun k => ?_) (Ev.now _)
      simp only [spec_l06Same.l0]
      rw [if_pos (by omega), if_pos (by omega), if_pos (by omega), rd_at h1, rd_at h2, if_neg he]
theorem ev_sameV {a b : List Int} (hm : a.length ≤ 1048576) : Ev (fun k => spec_l06Same.f k a b) (decide (a = b)) := by
  unfold spec_l06Same.f
  by_cases hl : a.length = b.length
  · simp only [if_pos (show (a.length : Int) = (b.length : Int) by omega)]
    exact sameV_loop hl hm _ 0 rfl (Nat.zero_le _)
  · simp only [if_neg (show ¬ (a.length : Int) = (b.length : Int) by omega)]
    rw [decide_eq_false (fun h => hl (by rw [h]))]
    exact Ev.now _
def GoodR (D : Nat) (r : List Int) : Prop := r.length = D ∧ ∀ x ∈ r, 0 ≤ x ∧ x ≤ 63
def encV : List Int → Nat
  | [] => 0
  | x :: r => x.toNat * 64 ^ r.length + encV r
theorem enc_lt : ∀ (r : List Int), (∀ x ∈ r, 0 ≤ x ∧ x ≤ 63) → encV r < 64 ^ r.length
  | [], _ => by simp [encV]
  | x :: r, h => by
    have h1 := enc_lt r (fun y hy => h y (List.mem_cons_of_mem _ hy))
    have h2 := h x (List.mem_cons_self ..)
    have h3 : x.toNat * 64 ^ r.length ≤ 63 * 64 ^ r.length := Nat.mul_le_mul_right _ (by omega)
    rw [encV, List.length_cons, Nat.pow_succ]
    omega
theorem less_enc : ∀ (a b : List Int), a.length = b.length → (∀ x ∈ a, 0 ≤ x ∧ x ≤ 63) → (∀ x ∈ b, 0 ≤ x ∧ x ≤ 63) → (lessV a b = true ↔ encV a < encV b)
  | [], [], _, _, _ => by simp [lessV, encV]
  | [], _ :: _, h, _, _ => by cases h
  | _ :: _, [], h, _, _ => by cases h
  | x :: p, y :: q, h, ha, hb => by
    have hl : p.length = q.length := by simpa using h
    have ih := less_enc p q hl (fun z hz => ha z (List.mem_cons_of_mem _ hz)) (fun z hz => hb z (List.mem_cons_of_mem _ hz))
    have hp := enc_lt p (fun z hz => ha z (List.mem_cons_of_mem _ hz))
    have hq := enc_lt q (fun z hz => hb z (List.mem_cons_of_mem _ hz))
    have hx := ha x (List.mem_cons_self ..)
    have hy := hb y (List.mem_cons_self ..)
    rw [lessV, encV, encV, ← hl]
    rw [← hl] at hq
    by_cases he : x = y
    · subst he
      rw [if_pos rfl, ih]
      omega
    · rw [if_neg he, decide_eq_true_eq]
      generalize 64 ^ p.length = P at *
      rcases Int.lt_or_gt_of_ne he with h1 | h1
      · have h2 : (x.toNat + 1) * P ≤ y.toNat * P := Nat.mul_le_mul_right _ (by omega)
        rw [Nat.add_mul, Nat.one_mul] at h2
        exact ⟨fun _ => by omega, fun _ => h1⟩
      · have h2 : (y.toNat + 1) * P ≤ x.toNat * P := Nat.mul_le_mul_right _ (by omega)
        rw [Nat.add_mul, Nat.one_mul] at h2
        exact ⟨fun _ => by omega, fun _ => by omega⟩
theorem enc_inj : ∀ (a b : List Int), a.length = b.length → (∀ x ∈ a, 0 ≤ x ∧ x ≤ 63) → (∀ x ∈ b, 0 ≤ x ∧ x ≤ 63) → encV a = encV b → a = b
  | [], [], _, _, _, _ => rfl
  | [], _ :: _, h, _, _, _ => by cases h
  | _ :: _, [], h, _, _, _ => by cases h
  | x :: p, y :: q, h, ha, hb, e => by
    have hl : p.length = q.length := by simpa using h
    have ih := enc_inj p q hl (fun z hz => ha z (List.mem_cons_of_mem _ hz)) (fun z hz => hb z (List.mem_cons_of_mem _ hz))
    have hp := enc_lt p (fun z hz => ha z (List.mem_cons_of_mem _ hz))
    have hq := enc_lt q (fun z hz => hb z (List.mem_cons_of_mem _ hz))
    have hx := ha x (List.mem_cons_self ..)
    have hy := hb y (List.mem_cons_self ..)
    rw [encV, encV, ← hl] at e
    rw [← hl] at hq
    by_cases he : x = y
    · subst he
      rw [ih (by omega)]
    · exfalso
      generalize 64 ^ p.length = P at *
      rcases Int.lt_or_gt_of_ne he with h1 | h1
      · have h2 : (x.toNat + 1) * P ≤ y.toNat * P := Nat.mul_le_mul_right _ (by omega)
        rw [Nat.add_mul, Nat.one_mul] at h2
        omega
      · have h2 : (y.toNat + 1) * P ≤ x.toNat * P := Nat.mul_le_mul_right _ (by omega)
        rw [Nat.add_mul, Nat.one_mul] at h2
        omega
def SortE (M : List (List Int)) : Prop := (M.map encV).Pairwise (· < ·)
def GoodV (D : Nat) (M : List (List Int)) : Prop := SortE M ∧ ∀ r ∈ M, GoodR D r
theorem GoodV.nil (D : Nat) : GoodV D [] := ⟨List.Pairwise.nil, fun r h => by cases h⟩
theorem less_iff {D : Nat} {a b : List Int} (ha : GoodR D a) (hb : GoodR D b) : lessV a b = true ↔ encV a < encV b := less_enc a b (ha.1.trans hb.1.symm) ha.2 hb.2
theorem back_cut {D : Nat} {M : List (List Int)} (h : GoodV D M) {own : List Int} (ho : GoodR D own) : ∀ m, m ≤ M.length → (∀ j (hj : j < M.length), m ≤ j → ¬ encV M[j] < encV own) → ∀ j (hj : j < M.length), (encV M[j] < encV own ↔ j < backV M own m)
  | 0, _, hge, j, hj => by
    rw [backV]
    exact ⟨fun h1 => absurd h1 (hge j hj (Nat.zero_le _)), fun h1 => absurd h1 (Nat.not_lt_zero _)⟩
  | m + 1, hm, hge, j, hj => by
    have hm' : m < M.length := by omega
    rw [backV, List.getD_eq_getElem?_getD, List.getElem?_eq_getElem hm', Option.getD_some]
    have hl := less_iff (h.2 _ (List.getElem_mem hm')) ho
    by_cases hc : lessV M[m] own = true
    · rw [if_pos hc]
      refine ⟨fun h1 => ?_, fun h1 => ?_⟩
      · rcases Nat.lt_or_ge j (m + 1) with h2 | h2
        · exact h2
        · exact absurd h1 (hge j hj h2)
      · rcases Nat.lt_or_ge j m with h2 | h2
        · have := List.pairwise_iff_getElem.1 h.1 j m (by simpa using hj) (by simpa using hm') h2
          rw [List.getElem_map, List.getElem_map] at this
          exact Nat.lt_trans this (hl.1 hc)
        · obtain rfl : j = m := by omega
          exact hl.1 hc
    · rw [if_neg hc]
      refine back_cut h ho m (by omega) (fun j hj h1 => ?_) j hj
      rcases Nat.lt_or_ge j (m + 1) with h2 | h2
      · obtain rfl : j = m := by omega
        exact fun h3 => hc (hl.2 h3)
      · exact hge j hj h2
theorem GoodV.put {D : Nat} {M : List (List Int)} (h : GoodV D M) {own : List Int} (ho : GoodR D own) : GoodV D (putV M own) := by
  have hcut := back_cut h ho M.length (Nat.le_refl _) (fun j hj h1 => absurd hj (by omega))
  have hle := backV_le M own M.length
  unfold putV
  generalize backV M own M.length = m at *
  by_cases he : M[m]? = some own
  · rw [if_pos he]; exact h
  · rw [if_neg he]
    refine ⟨?_, fun r hr => ?_⟩
    · unfold SortE
      rw [List.map_append, List.map_cons, List.map_take, List.map_drop, List.pairwise_append]
      have hs := h.1
      unfold SortE at hs
      refine ⟨hs.sublist (List.take_sublist _ _), List.pairwise_cons.2 ⟨fun x hx => ?_, hs.sublist (List.drop_sublist _ _)⟩, fun a ha b hb => ?_⟩
      · obtain ⟨j, hj, rfl⟩ := List.mem_iff_getElem.1 hx
        rw [List.getElem_drop, List.getElem_map]
        rw [List.length_drop, List.length_map] at hj
        have h1 := (not_congr (hcut (m + j) (by omega))).2 (by omega)
        rcases Nat.lt_or_ge (encV own) (encV (M[m + j]'(by omega))) with h2 | h2
        · exact h2
        · exfalso
          have h3 : encV (M[m + j]'(by omega)) = encV own := by omega
          have h4 := enc_inj _ _ ((h.2 _ (List.getElem_mem (by omega))).1.trans ho.1.symm) (h.2 _ (List.getElem_mem (by omega))).2 ho.2 h3
          rcases Nat.eq_zero_or_pos j with rfl | hjp
          · exact he (by rw [List.getElem?_eq_getElem (by omega)]; exact congrArg some h4)
          · have h5 := List.pairwise_iff_getElem.1 hs m (m + j) (by simpa using by omega) (by simpa using by omega) (by omega)
            rw [List.getElem_map, List.getElem_map] at h5
            have h6 := (not_congr (hcut m (by omega))).2 (by omega)
            omega
      · obtain ⟨i, hi, rfl⟩ := List.mem_iff_getElem.1 ha
        rw [List.length_take, List.length_map] at hi
        rw [List.getElem_take, List.getElem_map]
        have h1 := (hcut i (by omega)).2 (by omega)
        rcases List.mem_cons.1 hb with rfl | hb
        · exact h1
        · obtain ⟨j, hj, rfl⟩ := List.mem_iff_getElem.1 hb
          rw [List.length_drop, List.length_map] at hj
          have h5 := List.pairwise_iff_getElem.1 hs i (m + j) (by simpa using by omega) (by simpa using by omega) (by omega)
          rw [List.getElem_map] at h5
          rw [List.getElem_drop]
          exact h5
    · rcases List.mem_append.1 hr with hr | hr
      · exact h.2 r (List.mem_of_mem_take hr)
      · rcases List.mem_cons.1 hr with rfl | hr
        · exact ho
        · exact h.2 r (List.mem_of_mem_drop hr)
theorem incr_len : ∀ (L : List Nat) (a N : Nat), L.Pairwise (· < ·) → (∀ x ∈ L, a ≤ x ∧ x < N) → L.length ≤ N - a
  | [], _, _, _, _ => Nat.zero_le _
  | x :: L, a, N, hp, hr => by
    obtain ⟨h1, h2⟩ := List.pairwise_cons.1 hp
    have hx := hr x (List.mem_cons_self ..)
    have := incr_len L (x + 1) N h2 (fun y hy => ⟨h1 y hy, (hr y (List.mem_cons_of_mem _ hy)).2⟩)
    rw [List.length_cons]
    omega
theorem GoodV.len {D : Nat} {M : List (List Int)} (h : GoodV D M) (hD : D ≤ 6) : M.length ≤ 68719476736 := by
  have h1 := incr_len (M.map encV) 0 (64 ^ D) h.1 (fun x hx => by
    obtain ⟨r, hr, rfl⟩ := List.mem_map.1 hx
    have := h.2 r hr
    have h2 := enc_lt r this.2
    rw [this.1] at h2
    exact ⟨Nat.zero_le _, h2⟩)
  rw [List.length_map] at h1
  have h2 : 64 ^ D ≤ 64 ^ 6 := Nat.pow_le_pow_right (by decide) hD
  have h3 : (64 : Nat) ^ 6 = 68719476736 := by decide
  omega
end Go.Proofs.YtdlmlmaoacmdiaaGreat.Pu
namespace Go.Proofs.YtdlmlmaoacmdiaaGreat.Pu
open Go.RowKit Kp Ext Im YtdlmlmaoacmdiaaGreatW.PrintWords YtdlmlmaoacmdiaaGreatW.PrintLast YtdlmlmaoacmdiaaGreatW.PrintMore
def cmpV : List Int → List Int → Int
  | x :: p, y :: q => if cmpI x y = 0 then cmpV p q else cmpI x y
  | _, _ => 0
theorem cmpI_zero (x y : Int) : cmpI x y = 0 ↔ x = y := by
  unfold cmpI
  split
  · omega
  · split <;> omega
theorem cmpV_lt : ∀ (a b : List Int), a.length = b.length → (cmpV a b < 0 ↔ lessV a b = true)
  | [], [], _ => by simp [cmpV, lessV]
  | [], _ :: _, h => by cases h
  | _ :: _, [], h => by cases h
  | x :: p, y :: q, h => by
    have ih := cmpV_lt p q (by simpa using h)
    rw [cmpV, lessV]
    by_cases he : x = y
    · rw [if_pos ((cmpI_zero x y).2 he), if_pos he, ih]
    · rw [if_neg (fun h => he ((cmpI_zero x y).1 h)), if_neg he, decide_eq_true_eq]
      unfold cmpI
      split
      · omega
      · split <;> omega
theorem cmpV_eq : ∀ (a b : List Int), a.length = b.length → (cmpV a b = 0 ↔ a = b)
  | [], [], _ => by simp [cmpV]
  | [], _ :: _, h => by cases h
  | _ :: _, [], h => by cases h
  | x :: p, y :: q, h => by
    have ih := cmpV_eq p q (by simpa using h)
    rw [cmpV]
    by_cases he : x = y
    · subst he
      rw [if_pos ((cmpI_zero x x).2 rfl), ih]
      simp
    · rw [if_neg (fun h => he ((cmpI_zero x y).1 h))]
      refine ⟨fun h => absurd ((cmpI_zero x y).1 h) he, fun h => ?_⟩
      injection h with h1 _
      exact absurd h1 he
def CutV (M : List (List Int)) (own : List Int) (m : Nat) : Prop := m ≤ M.length ∧ ∀ j (hj : j < M.length), (cmpV M[j] own < 0 ↔ j < m)
theorem cutV_back {D : Nat} {M : List (List Int)} (h : GoodV D M) {own : List Int} (ho : GoodR D own) : CutV M own (backV M own M.length) := by
  refine ⟨backV_le M own M.length, fun j hj => ?_⟩
  have hr := h.2 _ (List.getElem_mem hj)
  rw [cmpV_lt _ _ (hr.1.trans ho.1.symm), less_iff hr ho]
  exact back_cut h ho M.length (Nat.le_refl _) (fun j hj h1 => absurd hj (by omega)) j hj
theorem putV_mem {M : List (List Int)} {own : List Int} (h : M[backV M own M.length]? = some own) : putV M own = M := by unfold putV; rw [if_pos h]
theorem putV_new {M : List (List Int)} {own : List Int} (h : ¬ M[backV M own M.length]? = some own) : putV M own = M.take (backV M own M.length) ++ own :: M.drop (backV M own M.length) := by unfold putV; rw [if_neg h]
theorem cmpV_loop {a b : List Int} (hl : a.length = b.length) (hm : a.length ≤ 1048576) : ∀ d (i : Nat), a.length - i = d → i ≤ a.length → Ev (fun k => QA.slices_Compare_int64_int64.l0 k a b a (a.length : Int) (i : Int)) (cmpV (a.drop i) (b.drop i)) := by
  intro d
  induction d with
  | zero =>
    intro i hd hi
    rw [List.drop_eq_nil_of_le (by omega), show cmpV [] (b.drop i) = 0 by cases b.drop i <;> rfl]
    refine Ev.step (f := fun k => some 0) (fun k => ?_) (Ev.now _)
    simp only [QA.slices_Compare_int64_int64.l0]
    rw [if_neg (by omega), if_neg (by omega)]
  | succ d ih =>
    intro i hd hi
    have h1 : i < a.length := by omega
    have h2 : i < b.length := by omega
    rw [List.drop_eq_getElem_cons h1, List.drop_eq_getElem_cons h2, cmpV]
    by_cases he : cmpI a[i] b[i] = 0
    · rw [if_pos he]
      refine Ev.step (fun k => ?_) (ih (i + 1) (by omega) (by omega))
      simp only [QA.slices_Compare_int64_int64.l0]
      rw [if_pos (by omega), if_pos (by omega), if_pos (by omega), if_neg (by omega), if_pos (by omega), rd_at h1, rd_at h2, cmpI_f, Option.bind_some, if_pos he, succ64 (by omega)]
    · rw [if_neg he]
      refine Ev.step (f := fun k => some (cmpI a[i] b[i])) (fun k => ?_) (Ev.now _)
      simp only [QA.slices_Compare_int64_int64.l0]
      rw [if_pos (by omega), if_pos (by omega), if_pos (by omega), if_neg (by omega), if_pos (by omega), rd_at h1, rd_at h2, cmpI_f, Option.bind_some, if_neg he]
theorem ev_cmpV {a b : List Int} (hl : a.length = b.length) (hm : a.length ≤ 1048576) : Ev (fun k => QA.slices_Compare_int64_int64.f k a b) (cmpV a b) := by
  unfold QA.slices_Compare_int64_int64.f
  exact cmpV_loop hl hm _ 0 rfl (Nat.zero_le _)
end Go.Proofs.YtdlmlmaoacmdiaaGreat.Pu
namespace Go.Proofs.YtdlmlmaoacmdiaaGreat.Im
open Go.RowKit Go.Shelf Kp Ext Cw YtdlmlmaoacmdiaaGreatW.PrintWords YtdlmlmaoacmdiaaGreatW.PrintLast YtdlmlmaoacmdiaaGreatW.PrintMore
section
variable {P : Program} {ops : Array Oper} {Q : Exit → Act → World → Prop} {a : Act} {w : World} {oi : Oper}
theorem caV_ {N : Option Tmp} {K : Act → World → Prop} {f : FuncId} {fn : Func} {k : Operand} {az : Array Operand} {ts : Array TypeId} (hf : P.funcs[f]? = some fn) (args : Array Value)
    (h : Calls P f args w fun e w' => ∃ v, e = .returned v ∧ K (a.put N v) w') (hname : (fn.name == "runtime.NumGoroutine") = false := by kernel_rfl) (hb : fn.body.isSome = true := by rfl)
    (hw : Region.wanted oi (yielded ops a.tmps) = true := by rfl) (hN : oi.dst = N := by rfl) (hop : oi.op = .call { callee := .value k, args := az, argTypes := ts } := by rfl)
    (hev : a.eval k = .func (.func f) #[] #[] := by rfl)
    (hargs : az.map a.eval = args := by ((try simp only [List.map_toArray, List.map_cons, List.map_nil]); first | done | rfl | (simp only [List.length_drop, List.length_take]; rfl))) : if Region.wanted oi (yielded ops a.tmps) = true then Oper.wp P oi a w K Q else K (a.put N undef) w := by
  refine call_ f args hw hN ?_ h
  have he := enters_ hf hname hb args w
  unfold execOp
  simp [hop, resolve, Deferred.ofValue, invoke, hev, hargs, he]
end
section
variable {P : Program} {ops : Array Oper} {Q : Exit → Act → World → Prop} {S : World → Prop} {ds : List Nat} {md : Region.Mode} {T : Bool × List (List Nat × List Nat)} {n m fuel : Nat} {a : Act} {w : World} {oi oj : Oper}
theorem tw_ (i j : Nat) (Ni Nj : Option Tmp) (mi mj : Nat) (hT : Aside0 (rtab md ops = T))
    (h1 : ∀ K : Act → World → Prop, Shut (∀ a' w', S w' → (S w' → wpAnyLast P md ops Q S ds fuel (mB n mi) a' w') → K a' w') → if Region.wanted oi (yielded ops a.tmps) = true then Oper.wp P oi a w K Q else K (a.put Ni undef) w)
    (h2 : ∀ K : Act → World → Prop, Shut (∀ a' w', S w' → (S w' → wpAnyLast P md ops Q S ds fuel (mB n mj) a' w') → K a' w') → if Region.wanted oj (yielded ops a.tmps) = true then Oper.wp P oj a w K Q else K (a.put Nj undef) w)
    (hi : ops[i]? = some oi := by rfl) (hj : ops[j]? = some oj := by rfl) (hNi : oi.dst = Ni := by rfl) (hNj : oj.dst = Nj := by rfl)
    (hc : (readyT T.2 (mB n m).toList == [i, j] && (mB n m).toList.set i true == (mB n mi).toList && (mB n m).toList.set j true == (mB n mj).toList) = true := by kernel_rfl) (hdi : i ∉ ds := by decide) (hdj : j ∉ ds := by decide) :
    wpAnyLast P md ops Q S ds (fuel + 1) (mB n m) a w := two_ (mB n mi) (mB n mj) hi hj hNi hNj (two_of hT.out hc) hdi hdj h1 h2
end
def CellsQ (w : World) (ad : Addr) (m : Nat) (q : Pr) : Prop := w.cell? (ad.add (m * 2)) = some (.int .i64 q.f0) ∧ w.cell? ⟨(ad.add (m * 2)).block, (ad.add (m * 2)).off + 1, none⟩ = some (.int .i64 q.f1)
theorem cellsQ_below {w w1 : World} {ad : Addr} {m : Nat} {q : Pr} (h : CellsQ w ad m q) (hb : Below w.heap.size w w1) : CellsQ w1 ad m q := ⟨pw_cell_below hb h.1, pw_cell_below hb h.2⟩
def CutAt (xs : List Pr) (p : Pr) (m : Nat) : Prop := m ≤ xs.length ∧ ∀ j, j < xs.length → (cmpP (xs.getD j z62) p < 0 ↔ j < m)
def SrPost (m : Nat) (w : World) (e : Ending) (w' : World) : Prop := ∃ b : Bool, e = .returned (.tuple #[.int .i64 m, .bool b]) ∧ Below w.heap.size w w'
set_option maxRecDepth 100000 in
set_option maxHeartbeats 1000000 in
theorem searchP_c (A : Option Addr) (c : Nat) (xs : List Pr) (p : Pr) (m : Nat) (w : World) (hr : Kd.C k62 w A xs.length xs) (hl : xs.length ≤ 1099511627776) (hm : CutAt xs p m) :
    Calls Tryz.prog 58 #[.slice A xs.length c, .agg #[.int .i64 p.f0, .int .i64 p.f1], .func (.func 59) #[] #[]] w (SrPost m w) := by
  have HP := Aside0.mk (PrAt.new w p.f0 p.f1)
  have HB0 := Aside0.mk (below_alloc (Below.refl w.heap.size w) (.cells #[.int .i64 p.f0, .int .i64 p.f1] 62))
  have HR := Aside0.mk hr
  have HM := Aside0.mk hm
  clear hr hm
  go_enter Tryz.func58, Tryz.ntmps58
  go_wp2
  go_loopw [9, 10] (fun s9 s10 wr => ∃ i j : Nat, i ≤ m ∧ m ≤ j ∧ j ≤ xs.length ∧ s9 = .int .i64 i ∧ s10 = .int .i64 j ∧ Aside0 (Below w.heap.size w wr) ∧ Aside0 (PrAt wr w.heap.size p.f0 p.f1)) (fun s9 s10 _ => (intOf s10 - intOf s9).toNat)
  case atStart => exact ⟨0, xs.length, by omega, HM.out.1, by omega, rfl, rfl, HB0, HP⟩
  case round =>
    clear HP HB0
    obtain ⟨i, j, him, hmj, hjn, rfl, rfl, HB, HP⟩ := hrel
    by_cases hlt : i < j
    · have hltz : (i : Int) < (j : Int) := by omega
      obtain ⟨h, hh⟩ : ∃ h : Nat, (i + j) / 2 = h := ⟨_, rfl⟩
      have hhn : h < xs.length := by omega
      have hd : ((i : Int) + (j : Int)) / 2 = (h : Int) := by omega
      obtain ⟨ad, rfl, hp0, hp1⟩ := pair_at (Kd.C_below HR.out HB.out) h hhn
      have hcut := HM.out.2 h hhn
      generalize xs.getD h z62 = q at hp0 hp1 hcut
      have HW : Aside0 (CellsQ wr ad h q) := ⟨⟨hp0, hp1⟩⟩
      have HCUT := Aside0.mk hcut
      have HH := Aside0.mk hh
      clear hcut hh hp0 hp1
      go_wp2
      have HPd := Aside0.mk HP.out.drew; have HBd := Aside0.mk HB.out.drew; have HWd : Aside0 (CellsQ wr.drew ad h q) := ⟨HW.out⟩; clear HP HB HW; have HP := HPd; have HB := HBd; have HW := HWd; clear HPd HBd HWd
      refine st_ 8 (S := fun w' => w'.cell? ⟨w.heap.size, 0, none⟩ = some (.int .i64 p.f0) ∧ w'.cell? ⟨w.heap.size, 1, none⟩ = some (.int .i64 p.f1) ∧ w'.cell? (ad.add (h * 2)) = some (.int .i64 q.f0) ∧ w'.cell? ⟨(ad.add (h * 2)).block, (ad.add (h * 2)).off + 1, none⟩ = some (.int .i64 q.f1)) (ds := []) ⟨HP.out.c0, HP.out.c1, HW.out.1, HW.out.2⟩ (fun hHeld => ?_)
      refine with_tabW (T := (true, [([], []), ([], []), ([], []), ([1, 2], [1, 2]), ([3], [3]), ([], []), ([0, 4, 5], [0, 4, 5]), ([6], [6])])) (B := [0, 0, 0, 6, 14, 0, 63, 127]) (by kernel_rfl) (by kernel_rfl) (fun HT_ HW_ => ?_)
      refine pd_ 0 24 1 HT_ ?_
      refine pd_ 1 25 3 HT_ ?_
      refine pd_ 2 26 7 HT_ ?_
      refine pd_ 3 27 15 HT_ ?_
      refine tk_ 4 28 31 HT_ HW_ hHeld ?_
      refine tk_ 5 29 63 HT_ HW_ hHeld ?_
      refine on_ 6 (some 30) 127 HT_ (fun K hK => ?_)
      refine caV_ Tryz.func59 #[.agg #[.int .i64 q.f0, .int .i64 q.f1], .agg #[.int .i64 p.f0, .int .i64 p.f1]] ?_
      refine (comparePairs_c q p _).mono ?_; rintro e w1 ⟨rfl, hb⟩; have HP1 := Aside0.mk (HP.out.below hb); have HB1 := Aside0.mk (below_in HB.out hb); have HW1 := Aside0.mk (cellsQ_below HW.out hb); clear HP HB HW; have HP := HP1; have HB := HB1; have HW := HW1; clear HP1 HB1 HW1; generalize cmpP q p = cp at HCUT
      refine ⟨_, rfl, ?_⟩
      refine hK.out _ _ ⟨HP.out.c0, HP.out.c1, HW.out.1, HW.out.2⟩ (fun hHeld => ?_)
      clear hK K
      refine nm_ ?_
      refine pd_ 7 31 255 HT_ ?_
      refine dn_ HT_ ?_
      by_cases hcp : cp < 0
      · go_wp2
        go_roundw
        case measure => simp [intOf]; omega
        case rel => exact ⟨h + 1, j, by have := HCUT.out.1 hcp; omega, hmj, hjn, by go_num, rfl, HB, HP⟩
      · go_wp2
        go_roundw
        case measure => have := HH.out; simp [intOf]; omega
        case rel => exact ⟨i, h, him, by have := mt HCUT.out.2 hcp; omega, by omega, rfl, rfl, HB, HP⟩
    · obtain rfl : i = m := by omega
      obtain rfl : i = j := by omega
      have hltz : ¬ (i : Int) < (i : Int) := by omega
      by_cases hin : i < xs.length
      · have hinz : (i : Int) < (xs.length : Int) := by omega
        obtain ⟨ad, rfl, hp0, hp1⟩ := pair_at (Kd.C_below HR.out HB.out) i hin
        generalize xs.getD i z62 = q at hp0 hp1
        have HW : Aside0 (CellsQ wr ad i q) := ⟨⟨hp0, hp1⟩⟩
        clear hp0 hp1
        go_wp2
        have HPd := Aside0.mk HP.out.drew; have HBd := Aside0.mk HB.out.drew; have HWd : Aside0 (CellsQ wr.drew ad i q) := ⟨HW.out⟩; clear HP HB HW; have HP := HPd; have HB := HBd; have HW := HWd; clear HPd HBd HWd
        refine st_ 16 (S := fun w' => w'.cell? ⟨w.heap.size, 0, none⟩ = some (.int .i64 p.f0) ∧ w'.cell? ⟨w.heap.size, 1, none⟩ = some (.int .i64 p.f1) ∧ w'.cell? (ad.add (i * 2)) = some (.int .i64 q.f0) ∧ w'.cell? ⟨(ad.add (i * 2)).block, (ad.add (i * 2)).off + 1, none⟩ = some (.int .i64 q.f1)) (ds := []) ⟨HP.out.c0, HP.out.c1, HW.out.1, HW.out.2⟩ (fun hHeld => ?_)
        refine with_tabW (T := (true, [([], []), ([], []), ([], []), ([1, 2], [1, 2]), ([3], [3]), ([4], [4]), ([4], [4]), ([4], [4]), ([6, 7, 4], [4, 6, 7]), ([8, 4], [4, 8]), ([4], [4]), ([5, 9, 10, 4, 4], [4, 5, 9, 10]), ([11, 4], [4, 11]), ([4, 12], [4, 12]), ([0, 11, 0], [0]), ([13, 14, 0, 1, 2, 3, 4, 5, 6, 7, 8, 9, 10, 11, 12, 13, 14], [13])])) (B := [0, 0, 0, 6, 14, 30, 30, 30, 222, 478, 30, 2046, 4094, 8190, 4095, 32767]) (by kernel_rfl) (by kernel_rfl) (fun HT_ HW_ => ?_)
        refine pd_ 0 35 1 HT_ ?_
        refine pd_ 1 36 3 HT_ ?_
        refine pd_ 2 37 7 HT_ ?_
        refine pd_ 3 38 15 HT_ ?_
        refine pd_ 4 39 31 HT_ ?_
        refine pd_ 5 40 63 HT_ ?_
        refine pd_ 6 41 127 HT_ ?_
        refine pd_ 7 42 255 HT_ ?_
        refine pd_ 8 43 511 HT_ ?_
        refine tk_ 9 44 1023 HT_ HW_ hHeld ?_
        refine tk_ 10 45 2047 HT_ HW_ hHeld ?_
        refine on_ 11 (some 46) 4095 HT_ (fun K hK => ?_)
        refine caV_ Tryz.func59 #[.agg #[.int .i64 q.f0, .int .i64 q.f1], .agg #[.int .i64 p.f0, .int .i64 p.f1]] ?_
        refine (comparePairs_c q p _).mono ?_; rintro e w1 ⟨rfl, hb⟩; have HP1 := Aside0.mk (HP.out.below hb); have HB1 := Aside0.mk (below_in HB.out hb); have HW1 := Aside0.mk (cellsQ_below HW.out hb); clear HP HB HW; have HP := HP1; have HB := HB1; have HW := HW1; clear HP1 HB1 HW1; generalize cmpP q p = cp
        refine ⟨_, rfl, ?_⟩
        refine hK.out _ _ ⟨HP.out.c0, HP.out.c1, HW.out.1, HW.out.2⟩ (fun hHeld => ?_)
        clear hK K
        refine nm_ ?_
        refine pd_ 12 47 8191 HT_ ?_
        refine pd_ 13 48 16383 HT_ ?_
        refine pd_ 14 6 32767 HT_ ?_
        refine pd_ 15 7 65535 HT_ ?_
        refine dn_ HT_ ?_
        go_wp2
        go_ret2
        exact ⟨_, rfl, HB.out⟩
      · have hinz : ¬ (i : Int) < (xs.length : Int) := by omega
        go_wp2
        refine st_ 16 (S := fun w' => True) (ds := []) trivial (fun hHeld => ?_)
        refine with_tabW (T := (true, [([], []), ([], []), ([], []), ([1, 2], [1, 2]), ([3], [3]), ([4], [4]), ([4], [4]), ([4], [4]), ([6, 7, 4], [4, 6, 7]), ([8, 4], [4, 8]), ([4], [4]), ([5, 9, 10, 4, 4], [4, 5, 9, 10]), ([11, 4], [4, 11]), ([4, 12], [4, 12]), ([0, 11, 0], [0]), ([13, 14, 0, 1, 2, 3, 4, 5, 6, 7, 8, 9, 10, 11, 12, 13, 14], [13])])) (B := [0, 0, 0, 6, 14, 30, 30, 30, 222, 478, 30, 2046, 4094, 8190, 4095, 32767]) (by kernel_rfl) (by kernel_rfl) (fun HT_ HW_ => ?_)
        refine pd_ 0 35 1 HT_ ?_
        refine pd_ 1 36 3 HT_ ?_
        refine pd_ 2 37 7 HT_ ?_
        refine pd_ 3 38 15 HT_ ?_
        refine pd_ 4 39 31 HT_ ?_
        refine pn_ 5 40 63 HT_ ?_
        refine pn_ 6 41 127 HT_ ?_
        refine pn_ 7 42 255 HT_ ?_
        refine pn_ 8 43 511 HT_ ?_
        refine pn_ 9 44 1023 HT_ ?_
        refine pn_ 10 45 2047 HT_ ?_
        refine pn_ 11 46 4095 HT_ ?_
        refine pn_ 12 47 8191 HT_ ?_
        refine pd_ 13 48 16383 HT_ ?_
        refine pd_ 14 6 32767 HT_ ?_
        refine pd_ 15 7 65535 HT_ ?_
        refine dn_ HT_ ?_
        go_wp2
        go_ret2
        exact ⟨_, rfl, HB.out.drew⟩
section
variable {P : Program}
theorem run_copy_n (w : World) (dT sT ty elem : TypeId) (sz g o dLen dCap : Nat) (a : Addr) (sLen sCap : Nat) (cur : List Value) (t : TypeId) (cs : List Value)
    (hu : P.underlying dT = some (.slice elem)) (hs : (P.info? elem).map (·.size) = some sz)
    (hg : w.heap[g]? = some (.cells cur.toArray t (0, 0))) (hn : cs.length = Nat.min sLen dLen * sz)
    (hsrc : ∀ j v, cs[j]? = some v → w.cell? (a.add j) = some v) (hfit : o + cs.length ≤ cur.length) (h1 : ∀ v ∈ cs, v.oneCell' = true) :
    (Builtin.copy_ #[dT, sT] ty #[.slice (some ⟨g, o, none⟩) dLen dCap, .slice (some a) sLen sCap]).run P w =
      .ok (goInt (Nat.min sLen dLen)) (w.setRow g (splice cur o cs).toArray) := by
  have hl := run_loadCells_list (P := P) w a cs hsrc
  have hst := run_storeCells_at P g o t cs 0 cur.toArray w hg (by simpa using hfit) h1
  cases hq : P.info? elem with
  | none => simp [hq] at hs
  | some i =>
    have hi : i.size = sz := by simpa [hq] using hs
    simp [Builtin.copy_, run_underlying hu, Builtin.lenOf, Builtin.firstCells, sizeOf, typeInfo, hq, hi, ← hn, hl, hst, splice]
variable {ops : Array Oper} {rest : List Oper} {o : Oper} {a : Act} {w : World} {Q : Exit → Act → World → Prop} {K : Act → World → Prop} {E : Prop}
theorem copyL (hgd : o.guard = none) (d s : Operand) (dT sT : TypeId) (ho : o.op = .call { callee := .builtin .copy, args := #[d, s], argTypes := #[dT, sT] })
    (elem : TypeId) (sz : Nat) (hu : P.underlying dT = some (.slice elem)) (hsz : (P.info? elem).map (·.size) = some sz)
    (g off dLen dCap : Nat) (ad : Addr) (sLen sCap : Nat) (hd : a.eval d = .slice (some ⟨g, off, none⟩) dLen dCap) (hs : a.eval s = .slice (some ad) sLen sCap)
    (cur : List Value) (t : TypeId) (hg : w.heap[g]? = some (.cells cur.toArray t (0, 0))) (cs : List Value) (hn : cs.length = Nat.min sLen dLen * sz)
    (hsrc : ∀ j v, cs[j]? = some v → w.cell? (ad.add j) = some v) (hfit : off + cs.length ≤ cur.length) (h1 : ∀ v ∈ cs, v.oneCell' = true)
    (h : wpList P ops Q rest (a.put o.dst (goInt (Nat.min sLen dLen))) (w.setRow g (splice cur off cs).toArray)) : wpList P ops Q (o :: rest) a w := by
  refine wpList_plain hgd fun K hK => ?_
  have hrun := run_copy_n (P := P) w dT sT o.type elem sz g off dLen dCap ad sLen sCap cur t cs hu hsz hg hn hsrc hfit h1
  unfold Oper.wp
  simp [execOp, ho, resolve, invoke, builtin, hd, hs, hrun, Result.andThen]
  exact hK _ _ h
theorem copyR (d s : Operand) (dT sT : TypeId) (elem : TypeId) (sz : Nat) (hu : P.underlying dT = some (.slice elem)) (hsz : (P.info? elem).map (·.size) = some sz)
    (g off dLen dCap : Nat) (ad : Addr) (sLen sCap : Nat) (hd : a.eval d = .slice (some ⟨g, off, none⟩) dLen dCap) (hs : a.eval s = .slice (some ad) sLen sCap)
    (cur : List Value) (t : TypeId) (hg : w.heap[g]? = some (.cells cur.toArray t (0, 0))) (cs : List Value) (hn : cs.length = Nat.min sLen dLen * sz)
    (hsrc : ∀ j v, cs[j]? = some v → w.cell? (ad.add j) = some v) (hfit : off + cs.length ≤ cur.length) (h1 : ∀ v ∈ cs, v.oneCell' = true)
    (h : K (a.put o.dst (goInt (Nat.min sLen dLen))) (w.setRow g (splice cur off cs).toArray))
    (hgd : o.guard = none := by rfl) (ho : o.op = .call { callee := .builtin .copy, args := #[d, s], argTypes := #[dT, sT] } := by rfl) :
    if Region.wanted o (yielded ops a.tmps) = true then Oper.wp P o a w K Q else E := by
  have hw : Region.wanted o (yielded ops a.tmps) = true := by simp [Region.wanted, hgd]
  rw [if_pos hw]
  have hrun := run_copy_n (P := P) w dT sT o.type elem sz g off dLen dCap ad sLen sCap cur t cs hu hsz hg hn hsrc hfit h1
  unfold Oper.wp
  simp [execOp, ho, resolve, invoke, builtin, hd, hs, hrun, Result.andThen]
  exact h
end
def fl : List Pr → List Value
  | [] => []
  | x :: l => .int .i64 x.f0 :: .int .i64 x.f1 :: fl l
theorem fl_len : ∀ l : List Pr, (fl l).length = l.length * 2
  | [] => rfl
  | x :: l => by simp [fl, fl_len l]; omega
theorem fl_append : ∀ l m : List Pr, fl (l ++ m) = fl l ++ fl m
  | [], m => rfl
  | x :: l, m => by simp [fl, fl_append l m]
theorem fl_one : ∀ (l : List Pr), ∀ v ∈ fl l, v.oneCell' = true
  | [], v, h => by cases h
  | x :: l, v, h => by
    simp only [fl, List.mem_cons] at h
    rcases h with rfl | rfl | h
    · rfl
    · rfl
    · exact fl_one l v h
theorem fl_take : ∀ (l : List Pr) (i : Nat), (fl l).take (i * 2) = fl (l.take i)
  | [], i => by simp [fl]
  | x :: l, 0 => by simp [fl]
  | x :: l, i + 1 => by rw [Nat.succ_mul]; simp only [fl, List.take_succ_cons, fl_take l i]
theorem fl_drop : ∀ (l : List Pr) (i : Nat), (fl l).drop (i * 2) = fl (l.drop i)
  | [], i => by simp [fl]
  | x :: l, 0 => by simp [fl]
  | x :: l, i + 1 => by rw [Nat.succ_mul]; simp only [fl, List.drop_succ_cons, fl_drop l i]
theorem reps_fl {w : World} {base : Nat} {ok : Nat → Prop} : ∀ (l : List Pr) (cs : List Value), Reps (k62.M w base ok) 2 l cs → cs = fl l
  | [], cs, h => List.eq_nil_of_length_eq_zero (by simpa using h.1)
  | x :: l, cs, h => by
    obtain ⟨hl, hr⟩ := h
    match cs, hl, hr with
    | [], hl, hr => simp at hl
    | [a], hl, hr => simp at hl; omega
    | a :: b :: cs, hl, hr =>
      have h0 := k62_openM (hr 0 x rfl)
      simp only [Nat.zero_mul, List.drop_zero, List.take_succ_cons, List.take_zero, List.cons.injEq, and_true] at h0
      obtain ⟨rfl, rfl⟩ := h0
      rw [reps_fl l cs ⟨by simp at hl ⊢; omega, fun j p hj => by
        have := hr (j + 1) p (by simpa using hj)
        rwa [Nat.succ_mul, show (Value.int .i64 x.f0 :: Value.int .i64 x.f1 :: cs).drop (j * 2 + 2) = cs.drop (j * 2) from by simp] at this⟩]
      rfl
theorem fl_reps (w : World) (base : Nat) (ok : Nat → Prop) : ∀ l : List Pr, Reps (k62.M w base ok) 2 l (fl l)
  | [] => Reps.none _ _
  | x :: l => by
    obtain ⟨hl, hr⟩ := fl_reps w base ok l
    refine ⟨by simp [fl, hl]; omega, fun j p hj => ?_⟩
    rcases j with _ | j
    · obtain rfl : x = p := by simpa using hj
      exact k62_mkM w base ok x
    · have := hr j p (by simpa using hj)
      rw [Nat.succ_mul, show (fl (x :: l)).drop (j * 2 + 2) = (fl l).drop (j * 2) from by simp [fl]]
      exact this
abbrev PO (w : World) (base : Nat) (v : Value) (xs : List Pr) : Prop := Kd.R k62 62 w base (fun _ => True) v xs
theorem PO.open {w : World} {base : Nat} {v : Value} {xs : List Pr} (h : PO w base v xs) : (v = .slice none 0 0 ∧ xs = []) ∨ ∃ g cap cur, v = .slice (some ⟨g, 0, none⟩) xs.length cap ∧ base ≤ g ∧ w.heap[g]? = some (.cells (List.toArray cur) 62 (0, 0)) ∧ xs.length ≤ cap ∧ cap ≤ maxLen ∧ cur.length = cap * 2 ∧ cur.take (xs.length * 2) = fl xs := by
  obtain ⟨_, inner, ⟨hl, ho⟩, hr⟩ := h
  have he := reps_fl xs inner hr
  subst he
  rcases ho with ⟨rfl, h0⟩ | ⟨g, cap, cur, rfl, hb, hg, hn, hc, hs, ht⟩
  · exact .inl ⟨rfl, List.eq_nil_of_length_eq_zero h0⟩
  · exact .inr ⟨g, cap, cur.toList, rfl, hb, by simpa using hg, hn, hc, hs, ht⟩
theorem PO.mk {w : World} {base g cap : Nat} {cur : List Value} {xs : List Pr} (hb : base ≤ g) (hg : w.heap[g]? = some (.cells cur.toArray 62 (0, 0))) (hn : xs.length ≤ cap) (hc : cap ≤ maxLen) (hs : cur.length = cap * 2) (ht : cur.take (xs.length * 2) = fl xs) :
    PO w base (.slice (some ⟨g, 0, none⟩) xs.length cap) xs :=
  ⟨fun _ _ => trivial, fl xs, ⟨fl_len xs, .inr ⟨g, cap, cur.toArray, rfl, hb, hg, hn, hc, hs, ht⟩⟩, fl_reps _ _ _ xs⟩
theorem infoP : (Tryz.prog.info? 62).map (fun i => (i.zero, i.size, i.bytes)) = some (some (.agg #[.int .i64 0, .int .i64 0]), 2, 16) := by kernel_rfl
theorem sizeP : (Tryz.prog.info? 62).map (·.size) = some 2 := by kernel_rfl
section
variable {ops : Array Oper} {rest : List Oper} {o : Oper} {a : Act} {Q : Exit → Act → World → Prop}
theorem apPs {w0 W : World} (base : Nat) (hgd : o.guard = none) (s x : Operand)
    (ho : o.op = .call { callee := .builtin .append, args := #[s, x], argTypes := #[38, 38] })
    (v : Value) (xs ys : List Pr) (A : Option Addr) (m c : Nat)
    (hs : a.eval s = v) (hx : a.eval x = .slice A m c) (HO : PO W base v xs) (HR : Kd.C k62 W A m ys) (HB : Below base w0 W) (hbase : base ≤ W.heap.size) (hl : xs.length + m ≤ 8796093022208)
    (h : ∀ v1 w1, PO w1 base v1 (xs ++ ys) → Below base w0 w1 → W.grownBy w1 v.ownBlock → (v1.ownBlock = v.ownBlock ∨ ∃ b, v1.ownBlock = some b ∧ W.heap.size ≤ b) → wpList Tryz.prog ops Q rest (a.put o.dst v1) w1) :
    wpList Tryz.prog ops Q (o :: rest) a W :=
  Kd.R_append_rows k62 base hgd s x 38 62 (.agg #[.int .i64 0, .int .i64 0]) 16 ho Tryz.underlying38 infoP rfl (by decide) (by decide) v xs ys A m c (fun _ => True) (fun _ => False) hs hx HO HR
    (fun x cs h => by rw [k62_open h]; exact k62_mkM _ _ _ _) (fun _ h => h.elim) (fun _ _ => trivial) HB hbase (by omega) h
end
theorem PO.made (w : World) (base cap : Nat) (cur : Array Value) (hb : base ≤ w.heap.size) (hm : cap ≤ maxLen) (hs : cur.size = cap * 2) : PO (w.alloc (.cells cur 62)) base (.slice (some ⟨w.heap.size, 0, none⟩) 0 cap) [] :=
  ⟨fun _ _ => trivial, [], World.ownsRow_made w cur cap hb hm hs, Reps.none _ _⟩
def POnly (base : Nat) (w : World) (r : List Pr) (e : Ending) (w' : World) : Prop := ∃ v : Value, e = .returned v ∧ PO w' base v r ∧ Below base w w'
set_option maxRecDepth 100000 in
set_option maxHeartbeats 1000000 in
theorem cloneP_c (A : Option Addr) (c : Nat) (xs : List Pr) (w : World) (hr : Kd.C k62 w A xs.length xs) (hn : xs.length ≤ 1048576) :
    Calls Tryz.prog 61 #[.slice A xs.length c] w (POnly w.heap.size w xs) := by
  have qnil : ∀ (w : World) (a : Option Addr) (n c n' c' : Nat), (binOp .eql 38 (.slice a n c) (.slice none n' c')).run Tryz.prog w = .ok (.bool a.isNone) w := fun w a n c n' c' => Lib.run_eql_slice_nil w _ _ a n c n' c' Tryz.underlying38
  cases A with
  | none =>
    have h0 : xs.length = 0 := by
      rcases Nat.eq_zero_or_pos xs.length with h | h
      · exact h
      · obtain ⟨ad, e, _⟩ := hr.2.2 h; cases e
    have hx : xs = [] := List.eq_nil_of_length_eq_zero h0
    subst hx
    clear hr
    go_enter Tryz.func61, Tryz.ntmps61
    go_wp2
    go_ret
    exact ⟨_, rfl, Kd.R_nil _ _ _ _ _, Below.refl _ _⟩
  | some ad =>
    have hb1 : Below w.heap.size w (w.alloc (.cells #[] 62)) := (Below.refl _ w).alloc (Nat.le_refl _) _
    have HR := Aside0.mk (Kd.C_below hr hb1)
    have HB := Aside0.mk hb1
    have HO := Aside0.mk (PO.made w w.heap.size 0 #[] (Nat.le_refl _) (Nat.zero_le _) rfl)
    clear hr hb1
    go_enter Tryz.func61, Tryz.ntmps61
    go_wp2_with (at_builtin; refine apPs w.heap.size rfl (.tmp 5) (.tmp 6) rfl _ _ _ _ _ _ rfl rfl HO.out HR.out HB.out HB.out.size (by simp; omega) ?_; intro v1 w1 ho hb hg hat; clear hat hg; have H1 := Aside0.mk ho; have HB1 := Aside0.mk hb; clear ho hb)
    go_ret
    exact ⟨_, rfl, H1.out, HB1.out⟩
theorem take_splice {L D : List Value} {a : Nat} (h : a ≤ L.length) : (splice L a D).take (a + D.length) = L.take a ++ D := by
  unfold splice
  rw [← List.append_assoc, List.take_append_of_le_length (by simp; omega), List.take_of_length_le (by simp; omega)]
theorem take_splice_lo {L D : List Value} {a b : Nat} (h : a ≤ L.length) (hb : b ≤ a) : (splice L a D).take b = L.take b := by
  unfold splice
  rw [List.take_append_of_le_length (by simp; omega), List.take_take, Nat.min_eq_left hb]
theorem drop_splice {L D : List Value} {a : Nat} (h : a ≤ L.length) : (splice L a D).drop a = D ++ L.drop (a + D.length) := by
  unfold splice
  rw [List.drop_append, List.length_take, Nat.min_eq_left h, Nat.sub_self, List.drop_zero, List.drop_of_length_le (by simp; omega)]
  simp
theorem grown_cells {L P M D : List Value} {a : Nat} (hP : L.take a = P) (ha : a ≤ L.length) (hl : a + M.length + D.length ≤ L.length) :
    (splice (splice L a M) (a + M.length) D).take (a + M.length + D.length) = P ++ (M ++ D) := by
  rw [take_splice (by rw [length_splice _ _ _ (by omega)]; omega), take_splice ha, hP, List.append_assoc]
theorem shifted_cells {L P M D : List Value} {a : Nat} (hP : L.take a = P) (hl : a + M.length + D.length ≤ L.length) :
    (splice (splice L (a + M.length) D) a M).take (a + M.length + D.length) = P ++ (M ++ D) := by
  have h1 : a ≤ (splice L (a + M.length) D).length := by rw [length_splice _ _ _ hl]; omega
  have h2 : (splice L (a + M.length) D).drop (a + M.length) = D ++ L.drop (a + M.length + D.length) := drop_splice (by omega)
  have h3 : (splice L (a + M.length) D).take a = P := by rw [take_splice_lo (by omega) (by omega), hP]
  rw [show splice (splice L (a + M.length) D) a M = (splice L (a + M.length) D).take a ++ (M ++ (splice L (a + M.length) D).drop (a + M.length)) from rfl, h2, h3]
  have hp : P.length = a := by rw [← hP, List.length_take]; omega
  rw [← List.append_assoc, ← List.append_assoc, ← List.append_assoc, List.take_append_of_le_length (by simp; omega), List.take_of_length_le (by simp; omega)]
theorem cells_src {w : World} {g a : Nat} {L D : List Value} {t : TypeId} (hg : w.heap[g]? = some (.cells L.toArray t (0, 0))) (hD : (L.drop a).take D.length = D) : ∀ j v, D[j]? = some v → w.cell? ((⟨g, a, none⟩ : Addr).add j) = some v := by
  intro j v hj
  have hadd : (⟨g, a, none⟩ : Addr).add j = ⟨g, a + j, none⟩ := by unfold Addr.add; split <;> simp_all
  rw [hadd]
  refine (cell_of_row w g (a + j) _ _ _ hg).trans ?_
  rw [← hD, List.getElem?_take] at hj
  split at hj
  · rw [List.getElem?_drop] at hj
    simpa using hj
  · cases hj
theorem sizeOfP : ∀ w : World, (sizeOf 62).run Tryz.prog w = .ok 2 w := fun w => by
  obtain ⟨i0, hi0, hz0, hzs, hzb⟩ := info_parts infoP
  simp [sizeOf, typeInfo, hi0, hzs]
set_option maxRecDepth 100000 in
set_option maxHeartbeats 4000000 in
theorem insertP_c (v : Value) (xs : List Pr) (i base vb : Nat) (x y : Int) (w : World) (ho : PO w base v xs) (hi : i ≤ xs.length) (hvb : PrAt w vb x y) (hne : some vb ≠ v.ownBlock) (hb : base ≤ w.heap.size) (hn : xs.length ≤ 1048576) :
    Calls Tryz.prog 60 #[v, .int .i64 i, .slice (some ⟨vb, 0, none⟩) 1 1] w (POnly base w (xs.take i ++ ⟨x, y⟩ :: xs.drop i)) := by
  have hsrc1 : ∀ (w1 : World), PrAt w1 vb x y → ∀ j u, ([.int .i64 x, .int .i64 y] : List Value)[j]? = some u → w1.cell? ((⟨vb, 0, none⟩ : Addr).add j) = some u := fun w1 h1 => cells_src (w := w1) (L := [.int .i64 x, .int .i64 y]) (a := 0) h1 rfl
  by_cases hin : i = xs.length
  · subst hin
    have hr1 : Kd.C k62 w (some ⟨vb, 0, none⟩) 1 [⟨x, y⟩] := by
      refine ⟨rfl, by omega, fun _ => ⟨⟨vb, 0, none⟩, rfl, fun j p hj => ⟨fl [p], rfl, k62_mk w p, fun k u hu => ?_⟩⟩⟩
      have hj0 : j = 0 := by
        rcases j with _ | j
        · rfl
        · simp at hj
      subst hj0
      obtain rfl : (⟨x, y⟩ : Pr) = p := by simpa using hj
      simpa using hsrc1 w hvb k u hu
    have HR := Aside0.mk hr1
    have HO := Aside0.mk ho
    clear hr1 hvb hsrc1
    rw [List.take_length, List.drop_length]
    obtain ⟨A, c, rfl⟩ := Kd.R_slice ho
    clear ho
    go_enter Tryz.func60, Tryz.ntmps60
    go_wp2_with (at_builtin; refine apPs base rfl _ _ rfl _ _ _ _ _ _ rfl rfl HO.out HR.out (Below.mono (Below.refl _ _) hb) hb (by omega) ?_; intro v1 w1 ho hb hg hat; clear hat hg; have H1 := Aside0.mk ho; have HB1 := Aside0.mk hb; clear ho hb)
    all_goals (go_ret; exact ⟨_, rfl, H1.out, HB1.out⟩)
  · have hlt : i < xs.length := by omega
    rcases PO.open ho with ⟨rfl, rfl⟩ | ⟨g, cap, L, rfl, hbg, hg, hnc, hcm, hL, ht⟩
    · simp at hlt
    have hgv : g ≠ vb := fun e => hne (by rw [e]; rfl)
    have hglt : g < w.heap.size := (Array.getElem?_eq_some_iff.1 hg).1
    have hz2 : ¬ ((i : Int) = (xs.length : Int)) := by omega
    have hiz : (i : Int) < (xs.length : Int) := by omega
    have hci : ¬ (cap = i) := by omega
    have hxd : (xs.drop i).length = xs.length - i := List.length_drop
    have hD : (fl (xs.drop i)).length = (xs.length - i) * 2 := by rw [fl_len, hxd]
    have hLi : L.take (i * 2) = fl (xs.take i) := by
      rw [← fl_take, ← ht, List.take_take, Nat.min_eq_left (by omega)]
    have hLd : (L.drop (i * 2)).take (fl (xs.drop i)).length = fl (xs.drop i) := by
      rw [hD, ← fl_drop, ← ht, List.drop_take, show xs.length * 2 - i * 2 = (xs.length - i) * 2 by omega]
    have hres : (xs.take i ++ (⟨x, y⟩ : Pr) :: xs.drop i).length = xs.length + 1 := by simp; omega
    have hfl : fl (xs.take i ++ (⟨x, y⟩ : Pr) :: xs.drop i) = fl (xs.take i) ++ ([.int .i64 x, .int .i64 y] ++ fl (xs.drop i)) := by rw [fl_append]; rfl
    have hmax : xs.length + 1 ≤ maxLen := by unfold maxLen; omega
    clear ho hne
    by_cases hroom : xs.length + 1 ≤ cap
    · -- there is room: shifted up
      obtain ⟨L1, hL1⟩ : ∃ L1, L1 = splice L ((i + 1) * 2) (fl (xs.drop i)) := ⟨_, rfl⟩
      obtain ⟨L2, hL2⟩ : ∃ L2, L2 = splice L1 (i * 2) [.int .i64 x, .int .i64 y] := ⟨_, rfl⟩
      have hl1 : L1.length = cap * 2 := by rw [hL1, length_splice _ _ _ (by rw [hD]; omega), hL]
      have hl2 : L2.length = cap * 2 := by rw [hL2, length_splice _ _ _ (by simp; omega), hl1]
      have hrow : L2.take ((xs.take i ++ (⟨x, y⟩ : Pr) :: xs.drop i).length * 2) = fl (xs.take i ++ (⟨x, y⟩ : Pr) :: xs.drop i) := by
        rw [hres, hfl, hL2, hL1]
        have := shifted_cells (L := L) (M := [.int .i64 x, .int .i64 y]) (D := fl (xs.drop i)) hLi (by rw [hD]; simp; omega)
        rw [hD] at this
        rw [show (xs.length + 1) * 2 = i * 2 + [Value.int .i64 x, .int .i64 y].length + (xs.length - i) * 2 by simp; omega, show (i + 1) * 2 = i * 2 + [Value.int .i64 x, .int .i64 y].length by simp; omega]
        exact this
      have hov : ∀ lb cb, (callFunc 85 #[.slice (some ⟨vb, 0, none⟩) 1 1, .slice (some ⟨g, (i + 1) * 2, none⟩) lb cb]).run Tryz.prog w = .ok (.value (.bool false)) w := fun lb cb => by
        rw [run_callFunc_extern Tryz.func85 (by kernel_rfl) (by kernel_rfl) (by kernel_rfl) (e := Extern.SlicesOverlaps.overlaps #[38, 38] #[4]) (by kernel_rfl),
          Lib.run_overlaps_apart w 38 4 62 Tryz.underlying38 2 sizeOfP ⟨vb, 0, none⟩ ⟨g, (i + 1) * 2, none⟩ 1 1 lb cb (fun e => hgv e.symm) 62 62 2 (cap * 2)
            (by simp only [World.shape?]; rw [show w.heap[vb]? = _ from hvb]; rfl) (by simp only [World.shape?]; rw [hg]; simp [hL]) (by omega) (blk_frozen hvb _) (blk_frozen hvb _)]
        rfl
      have HG1 : Aside0 (w.drew.heap[g]? = some (.cells L.toArray 62 (0, 0))) := ⟨hg⟩
      have HS1 : Aside0 (∀ j u, (fl (xs.drop i))[j]? = some u → w.drew.cell? ((⟨g, i * 2, none⟩ : Addr).add j) = some u) := ⟨cells_src (w := w.drew) hg hLd⟩
      have HG2 : Aside0 ((w.drew.setRow g L1.toArray).heap[g]? = some (.cells L1.toArray 62 (0, 0))) := ⟨setRow_heap _ _ _ _ _ _ hg⟩
      have HS2 : Aside0 (∀ j u, ([.int .i64 x, .int .i64 y] : List Value)[j]? = some u → (w.drew.setRow g L1.toArray).cell? ((⟨vb, 0, none⟩ : Addr).add j) = some u) := ⟨hsrc1 _ ((setRow_other _ _ _ _ (fun e => hgv e.symm)).trans hvb)⟩
      have HG3 : Aside0 (((w.drew.setRow g L1.toArray).setRow g L2.toArray).heap[g]? = some (.cells L2.toArray 62 (0, 0))) := ⟨setRow_heap _ _ _ _ _ _ HG2.out⟩
      have HB3 : Aside0 (Below base w ((w.drew.setRow g L1.toArray).setRow g L2.toArray)) := ⟨below_setRow (below_setRow (below_drew (Below.mono (Below.refl _ _) hb)) hbg _) hbg _⟩
      have HROW := Aside0.mk hrow
      have HFIT1 : Aside0 ((i + 1) * 2 + (fl (xs.drop i)).length ≤ L.length) := ⟨by rw [hD]; omega⟩
      have HLEN1 : Aside0 ((fl (xs.drop i)).length = (xs.length - i) * 2) := ⟨hD⟩
      have HFIT2 : Aside0 (i * 2 + ([.int .i64 x, .int .i64 y] : List Value).length ≤ L1.length) := ⟨by simp; omega⟩
      have HL1 := Aside0.mk hL1
      have HL2 := Aside0.mk hL2
      have HLEN2 := Aside0.mk hl2
      have hroomz : ¬ ((cap : Int) < (xs.length : Int) + 1) := by omega
      have hw1 : IntKind.i64.wrap ((xs.length : Int) + 1) = (xs.length : Int) + 1 := by rw [IntKind.wrap_i64]; omega
      have hw2 : IntKind.i64.wrap ((i : Int) + 1) = (i : Int) + 1 := by rw [IntKind.wrap_i64]; omega
      have htn1 : ((xs.length : Int) + 1).toNat = xs.length + 1 := by omega
      have htn2 : ((i : Int) + 1).toNat = i + 1 := by omega
      have hci2 : ¬ (cap = i + 1) := by omega
      have hb3 : (i : Int) ≤ (xs.length : Int) + 1 := by omega
      clear hrow hsrc1 hl1 hl2 hL1 hL2 hLd hLi ht hL hD hfl hvb hg
      go_enter Tryz.func60, Tryz.ntmps60
      go_wp2_with (simp only [hov])
      refine st_ 9 (S := fun w' => True) (ds := []) trivial (fun hHeld => ?_)
      refine with_tabW (T := (true, [([], []), ([], []), ([], []), ([1, 2], [1, 2]), ([0, 3], [0, 3]), ([], []), ([], []), ([5, 6], [5, 6]), ([4, 7], [4, 7])])) (B := [0, 0, 0, 6, 15, 0, 0, 96, 255]) (by kernel_rfl) (by kernel_rfl) (fun HT_ HW_ => ?_)
      refine pd_ 0 69 1 HT_ ?_
      refine pd_ 1 70 3 HT_ ?_
      refine pd_ 2 71 7 HT_ ?_
      refine pd_ 3 72 15 HT_ ?_
      refine pd_ 4 73 31 HT_ ?_
      refine pd_ 5 74 63 HT_ ?_
      refine pd_ 6 75 127 HT_ ?_
      refine pd_ 7 76 255 HT_ ?_
      refine on_ 8 (some 77) 511 HT_ (fun K hK => ?_)
      (refine copyR (.tmp 73) (.tmp 76) 38 38 62 2 Tryz.underlying38 sizeP g ((i + 1) * 2) _ _ ⟨g, i * 2, none⟩ _ _ rfl rfl L 62 HG1.out (fl (xs.drop i)) (by rw [HLEN1.out]; simp only [Nat.min_def]; split <;> omega) HS1.out HFIT1.out (fl_one _) ?_; rw [← HL1.out])
      refine hK.out _ _ trivial (fun hHeld => ?_)
      clear hK K
      refine nm_ ?_
      refine dn_ HT_ ?_
      go_wp2_with (refine copyL rfl (.tmp 80) (.tmp 81) 38 38 rfl 62 2 Tryz.underlying38 sizeP g (i * 2) _ _ ⟨vb, 0, none⟩ 1 1 rfl rfl L1 62 HG2.out [.int .i64 x, .int .i64 y] (by simp only [Nat.min_def]; split <;> first | rfl | omega) HS2.out HFIT2.out (fun v hv => by simp only [List.mem_cons, List.not_mem_nil, or_false] at hv; rcases hv with rfl | rfl <;> rfl) ?_; rw [← HL2.out])
      go_ret
      exact ⟨_, rfl, by have := PO.mk hbg HG3.out (xs := xs.take i ++ (⟨x, y⟩ : Pr) :: xs.drop i) (cap := cap) (by rw [hres]; exact hroom) hcm HLEN2.out HROW.out; rwa [hres] at this, HB3.out⟩
    · -- no room: a new row
      obtain ⟨G, hG⟩ : ∃ G, G = grownCap w (xs.length + 1) cap 62 := ⟨_, rfl⟩
      have hGn : xs.length + 1 ≤ G := by rw [hG]; exact grownCap_ge w _ _ _
      have hGm : G ≤ maxLen := by rw [hG]; exact grownCap_le_maxLen w _ _ _ hmax
      obtain ⟨i0, hi0, hz0, hzs, hzb⟩ := info_parts infoP
      have hik : i + (xs.length + 1 - i) = xs.length + 1 := by omega
      have hold : (Builtin.firstCells i0.size i (.slice (some ⟨g, 0, none⟩) i cap)).run Tryz.prog w.drew = .ok (fl (xs.take i)).toArray w.drew := by
        rw [hzs]
        exact run_firstCells_some w.drew 2 i ⟨g, 0, none⟩ i cap (fl (xs.take i)) (by rw [fl_len]; simp; omega) (cells_src (w := w.drew) hg (by rw [fl_len, List.drop_zero, List.length_take, Nat.min_eq_left (by omega), hLi]))
      obtain ⟨L0, hL0⟩ : ∃ L0 : List Value, L0 = fl (xs.take i) ++ ((Builtin.zeroCells (Value.agg #[.int .i64 0, .int .i64 0]).cells (xs.length + 1 - i)).toList ++ (Builtin.zeroCells (Value.agg #[.int .i64 0, .int .i64 0]).cells (G - (xs.length + 1))).toList) := ⟨_, rfl⟩
      have hrz : ∀ ty, (Builtin.append_ #[38, 3] ty #[.slice (some ⟨g, 0, none⟩) i cap, .int .i64 ((xs.length : Int) + 1 - (i : Int))]).run Tryz.prog w =
          .ok (.slice (some ⟨w.heap.size, 0, none⟩) (xs.length + 1) G) (w.drew.alloc (.cells L0.toArray 62)) := fun ty => by
        have h := Lib.run_append_grow_zeros w 38 3 ty 62 i0 _ .i64 .i64 Tryz.underlying38 Tryz.underlying3 hi0 hz0 (some ⟨g, 0, none⟩) i cap (fl (xs.take i)) hold (xs.length + 1 - i) (by omega) (by omega) (by omega) (by omega) (by rw [hzb]; omega) (by rw [hzb, hik]; exact growslice_fits (by omega) (by omega))
        rw [hik, ← hG] at h
        have harr : (fl (xs.take i)).toArray ++ Builtin.zeroCells (Value.agg #[.int .i64 0, .int .i64 0]).cells (xs.length + 1 - i) ++ Builtin.zeroCells (Value.agg #[.int .i64 0, .int .i64 0]).cells (G - (xs.length + 1)) = L0.toArray := by
          rw [hL0]; apply Array.ext'; simp
        rw [show (xs.length : Int) + 1 - (i : Int) = ((xs.length + 1 - i : Nat) : Int) by omega, h, harr]
      have hl0 : L0.length = G * 2 := by
        rw [hL0]
        simp [Builtin.zeroCells, fl_len, Value.cells]
        omega
      have hP0 : L0.take (i * 2) = fl (xs.take i) := by
        rw [hL0, List.take_append_of_le_length (by rw [fl_len]; simp; omega), List.take_of_length_le (by rw [fl_len]; simp; omega)]
      obtain ⟨L1, hL1⟩ : ∃ L1, L1 = splice L0 (i * 2) [.int .i64 x, .int .i64 y] := ⟨_, rfl⟩
      obtain ⟨L2, hL2⟩ : ∃ L2, L2 = splice L1 ((i + 1) * 2) (fl (xs.drop i)) := ⟨_, rfl⟩
      have hl1 : L1.length = G * 2 := by rw [hL1, length_splice _ _ _ (by simp; omega), hl0]
      have hl2 : L2.length = G * 2 := by rw [hL2, length_splice _ _ _ (by rw [hD]; omega), hl1]
      have hrow : L2.take ((xs.take i ++ (⟨x, y⟩ : Pr) :: xs.drop i).length * 2) = fl (xs.take i ++ (⟨x, y⟩ : Pr) :: xs.drop i) := by
        rw [hres, hfl, hL2, hL1]
        have := grown_cells (L := L0) (M := [.int .i64 x, .int .i64 y]) (D := fl (xs.drop i)) hP0 (by omega) (by rw [hD]; simp; omega)
        rw [hD] at this
        rw [show (xs.length + 1) * 2 = i * 2 + [Value.int .i64 x, .int .i64 y].length + (xs.length - i) * 2 by simp; omega, show (i + 1) * 2 = i * 2 + [Value.int .i64 x, .int .i64 y].length by simp; omega]
        exact this
      obtain ⟨W1, hW1⟩ : ∃ W1, W1 = w.drew.alloc (.cells L0.toArray 62) := ⟨_, rfl⟩
      rw [← hW1] at hrz
      have hN1 : W1.heap[w.heap.size]? = some (.cells L0.toArray 62 (0, 0)) := by rw [hW1]; exact heap_alloc_new w.drew _
      have hO1 : ∀ k, k < w.heap.size → W1.heap[k]? = w.heap[k]? := fun k hk => by rw [hW1]; exact (below_alloc (Below.refl w.drew.heap.size w.drew) (.cells L0.toArray 62)).block k hk
      have hBW : Below base w W1 := by rw [hW1]; exact Below.alloc (below_drew ((Below.refl w.heap.size w).mono hb)) hb _
      have HGA : Aside0 (W1.heap[w.heap.size]? = some (.cells L0.toArray 62 (0, 0))) := ⟨hN1⟩
      have HSA : Aside0 (∀ j u, ([.int .i64 x, .int .i64 y] : List Value)[j]? = some u → W1.cell? ((⟨vb, 0, none⟩ : Addr).add j) = some u) := ⟨hsrc1 _ ((hO1 vb hvb.lt).trans hvb)⟩
      have HFA : Aside0 (i * 2 + ([.int .i64 x, .int .i64 y] : List Value).length ≤ L0.length) := ⟨by simp; omega⟩
      have HGB : Aside0 ((W1.setRow w.heap.size L1.toArray).drew.heap[w.heap.size]? = some (.cells L1.toArray 62 (0, 0))) := ⟨setRow_heap _ _ _ _ _ _ hN1⟩
      have HSB : Aside0 (∀ j u, (fl (xs.drop i))[j]? = some u → (W1.setRow w.heap.size L1.toArray).drew.cell? ((⟨g, i * 2, none⟩ : Addr).add j) = some u) := ⟨cells_src (w := (W1.setRow w.heap.size L1.toArray).drew) (((setRow_other _ _ _ _ (by omega)).trans (hO1 g hglt)).trans hg) hLd⟩
      have HFB : Aside0 ((i + 1) * 2 + (fl (xs.drop i)).length ≤ L1.length) := ⟨by rw [hD]; omega⟩
      have HLEN1 : Aside0 ((fl (xs.drop i)).length = (xs.length - i) * 2) := ⟨hD⟩
      have HGC : Aside0 (((W1.setRow w.heap.size L1.toArray).drew.setRow w.heap.size L2.toArray).heap[w.heap.size]? = some (.cells L2.toArray 62 (0, 0))) := ⟨setRow_heap _ _ _ _ _ _ HGB.out⟩
      have HBC : Aside0 (Below base w ((W1.setRow w.heap.size L1.toArray).drew.setRow w.heap.size L2.toArray)) := ⟨below_setRow (below_drew (below_setRow hBW hb _)) hb _⟩
      have HROW := Aside0.mk hrow
      have HL1 := Aside0.mk hL1
      have HL2 := Aside0.mk hL2
      have HLEN2 := Aside0.mk hl2
      have hroomz : (cap : Int) < (xs.length : Int) + 1 := by omega
      have hw1 : IntKind.i64.wrap ((xs.length : Int) + 1) = (xs.length : Int) + 1 := by rw [IntKind.wrap_i64]; omega
      have hw2 : IntKind.i64.wrap ((i : Int) + 1) = (i : Int) + 1 := by rw [IntKind.wrap_i64]; omega
      have htn1 : ((xs.length : Int) + 1).toNat = xs.length + 1 := by omega
      have htn2 : ((i : Int) + 1).toNat = i + 1 := by omega
      have hGi : ¬ (G = i) := by omega
      have hGi2 : ¬ (G = i + 1) := by omega
      have hb3 : (i : Int) ≤ (xs.length : Int) + 1 := by omega
      have hic : (i : Int) ≤ (cap : Int) := by omega
      clear hrow hsrc1 hl1 hl2 hL1 hL2 hLd hLi ht hL hD hfl hvb hg hP0 hl0 hL0 hN1 hO1 hBW hW1 hold hik hi0 hz0 hzs hzb hG
      go_enter Tryz.func60, Tryz.ntmps60
      go_wp2_with (first
        | (at_builtin; refine Lib.wpList_append_run _ rfl _ _ _ _ rfl _ _ rfl rfl _ _ (hrz _) ?_)
        | (refine copyL rfl (.tmp 43) (.tmp 44) 38 38 rfl 62 2 Tryz.underlying38 sizeP w.heap.size (i * 2) _ _ ⟨vb, 0, none⟩ 1 1 rfl rfl L0 62 HGA.out [.int .i64 x, .int .i64 y] (by simp only [Nat.min_def]; split <;> first | rfl | omega) HSA.out HFA.out (fun v hv => by simp only [List.mem_cons, List.not_mem_nil, or_false] at hv; rcases hv with rfl | rfl <;> rfl) ?_; rw [← HL1.out]))
      refine st_ 9 (S := fun w' => True) (ds := []) trivial (fun hHeld => ?_)
      refine with_tabW (T := (true, [([], []), ([], []), ([], []), ([1, 2], [1, 2]), ([0, 3], [0, 3]), ([], []), ([], []), ([5, 6], [5, 6]), ([4, 7], [4, 7])])) (B := [0, 0, 0, 6, 15, 0, 0, 96, 255]) (by kernel_rfl) (by kernel_rfl) (fun HT_ HW_ => ?_)
      refine pd_ 0 46 1 HT_ ?_
      refine pd_ 1 47 3 HT_ ?_
      refine pd_ 2 48 7 HT_ ?_
      refine pd_ 3 49 15 HT_ ?_
      refine pd_ 4 50 31 HT_ ?_
      refine pd_ 5 51 63 HT_ ?_
      refine pd_ 6 52 127 HT_ ?_
      refine pd_ 7 53 255 HT_ ?_
      refine on_ 8 (some 54) 511 HT_ (fun K hK => ?_)
      (refine copyR (.tmp 50) (.tmp 53) 38 38 62 2 Tryz.underlying38 sizeP w.heap.size ((i + 1) * 2) _ _ ⟨g, i * 2, none⟩ _ _ rfl rfl L1 62 HGB.out (fl (xs.drop i)) (by rw [HLEN1.out]; simp only [Nat.min_def]; split <;> omega) HSB.out HFB.out (fl_one _) ?_; rw [← HL2.out])
      refine hK.out _ _ trivial (fun hHeld => ?_)
      clear hK K
      refine nm_ ?_
      refine dn_ HT_ ?_
      go_wp2
      go_ret
      exact ⟨_, rfl, by have := PO.mk hb HGC.out (xs := xs.take i ++ (⟨x, y⟩ : Pr) :: xs.drop i) (cap := G) (by rw [hres]; exact hGn) hGm HLEN2.out HROW.out; rwa [hres] at this, HBC.out⟩
def KeepT (w w' : World) : Prop := w.heap.size ≤ w'.heap.size ∧ ∀ (k : Nat) (cells : Array Value) (t : TypeId), t ∈ [62, 38, 29, 50, 58] → w.heap[k]? = some (.cells cells t (0, 0)) → w'.heap[k]? = some (.cells cells t (0, 0))
theorem d0_below {w w1 : World} (h : Drawn0 w w1) : Below w.heap.size w w1 := by
  obtain ⟨nd, rfl⟩ := h
  exact pw_below_drewN (Below.refl _ _) nd
theorem KeepT.refl (w : World) : KeepT w w := ⟨Nat.le_refl _, fun _ _ _ _ h => h⟩
theorem KeepT.trans {w w1 w2 : World} (h : KeepT w w1) (h1 : KeepT w1 w2) : KeepT w w2 := ⟨Nat.le_trans h.1 h1.1, fun k c t ht hk => h1.2 k c t ht (h.2 k c t ht hk)⟩
theorem KeepT.below {w w1 : World} (h : Below w.heap.size w w1) : KeepT w w1 := ⟨h.size, fun k c t _ hk => (h.block k (blk_lt hk)).trans hk⟩
theorem PO.keep {w w1 : World} {base : Nat} {v : Value} {xs : List Pr} (h : PO w base v xs) (hk : KeepT w w1) : PO w1 base v xs :=
  Kd.R_mono (Kd.R_step (Kd.R_bound h) (fun k ho _ => by
    obtain ⟨_, _, _, q, hq, cells, hc⟩ := ho
    have hq' : q = 62 := by simpa [k62, Kd.iso, Kd.pair, Kd.int, Kd.scalar] using hq
    subst hq'
    exact (hk.2 k cells _ (by decide) hc).trans hc.symm)) (fun _ _ => trivial)
theorem CxAt.keepT {w w1 : World} {b : Nat} {n : Int} {A : Option Addr} {len c : Nat} (h : CxAt w b n A len c) (hk : KeepT w w1) : CxAt w1 b n A len c := hk.2 _ _ _ (by decide) h
theorem KeepT.set' {w : World} {g t : Nat} {cells : Array Value} (hb : w.heap[g]? = some (.cells cells t (0, 0))) (ht : t ∉ [62, 38, 29, 50, 58]) (j : Nat) (u : Value) : KeepT w (w.setCell ⟨g, j, none⟩ u) :=
  ⟨by simp, fun k cells' t' ht' hk => (Below.heap_setCell w ⟨g, j, none⟩ u k (blk_ne hk hb (fun e => ht (e ▸ ht')))).trans hk⟩
end Go.Proofs.YtdlmlmaoacmdiaaGreat.Im
namespace Go.Proofs.YtdlmlmaoacmdiaaGreat.Im
open Go.RowKit Go.Shelf Kp Cw Ext Pu YtdlmlmaoacmdiaaGreatW.PrintWords YtdlmlmaoacmdiaaGreatW.PrintLast YtdlmlmaoacmdiaaGreatW.PrintMore
set_option maxRecDepth 100000 in
set_option maxHeartbeats 4000000 in
theorem searchV_g (g : FuncId) (eg : ∀ args w, (callFunc g args).run Tryz.prog w = .ok (.enter g args) w)
    (hcall : ∀ (k : Nat) (A0 : Option Addr) (c0 : Nat) (l0 : List Int) (A1 : Option Addr) (c1 : Nat) (l1 : List Int) (r : Int) (w : World), RC w A0 l0.length l0 → l0.length ≤ c0 → RC w A1 l1.length l1 → l1.length ≤ c1 → QA.slices_Compare_int64_int64.f k l0 l1 = some r →
      Calls Tryz.prog g #[.slice A0 l0.length c0, .slice A1 l1.length c1] w fun e w' => e = .returned (.int .i64 r) ∧ Below w.heap.size w w')
    (A : Option Addr) (c : Nat) (vs : List Value) (M : List (List Int)) (A1 : Option Addr) (c1 : Nat) (own : List Int) (m base : Nat) (w : World) (hmr : MR w base (.slice A vs.length c) vs M) (ho : RC w A1 own.length own) (hoc : own.length ≤ c1)
    (hlen : ∀ r ∈ M, r.length = own.length) (hol : own.length ≤ 1048576) (hl : M.length ≤ 1099511627776) (hm : CutV M own m) :
    Calls Tryz.prog 22 #[.slice A vs.length c, .slice A1 own.length c1, .func (.func g) #[] #[]] w fun e w' => e = .returned (.tuple #[.int .i64 m, .bool (decide (M[m]? = some own))]) ∧ Below w.heap.size w w' := by
  have HCALL := Lib.hid hcall
  clear hcall
  obtain ⟨R, hR⟩ : ∃ R, decide (M[m]? = some own) = R := ⟨_, rfl⟩
  rw [hR]
  have HRR := Aside0.mk hR
  clear hR
  have HMR := Aside0.mk hmr
  have HO := Aside0.mk ho
  have HOC := Aside0.mk hoc
  have HLEN := Aside0.mk hlen
  have HOL := Aside0.mk hol
  have HM := Aside0.mk hm
  have HVL := Aside0.mk hmr.i.1
  have HB0 : Aside0 (Below w.heap.size w w) := ⟨Below.refl _ _⟩
  have HMB := Aside0.mk hm.1
  clear hmr ho hoc hlen hol hm
  go_enter Tryz.func22, Tryz.ntmps22
  go_wp2
  go_loopw [9, 10] (fun s9 s10 wr => ∃ i j : Nat, i ≤ m ∧ m ≤ j ∧ j ≤ M.length ∧ s9 = .int .i64 i ∧ s10 = .int .i64 j ∧ Aside0 (Below w.heap.size w wr)) (fun s9 s10 _ => (intOf s10 - intOf s9).toNat)
  case atStart => exact ⟨0, vs.length, by omega, by have := HMB.out; have := HVL.out; omega, by have := HVL.out; omega, rfl, rfl, HB0⟩
  case round =>
    clear HB0
    obtain ⟨i, j, him, hmj, hjn, rfl, rfl, HB⟩ := hrel
    by_cases hlt : i < j
    · have hltz : (i : Int) < (j : Int) := by omega
      obtain ⟨h, hh⟩ : ∃ h : Nat, (i + j) / 2 = h := ⟨_, rfl⟩
      have hhn : h < M.length := by omega
      have hhv : h < vs.length := by have := HVL.out; omega
      have hd : ((i : Int) + (j : Int)) / 2 = (h : Int) := by omega
      have hmr1 := HMR.out.below HB.out
      obtain ⟨ad, rfl, hcell⟩ := VC.cell hmr1.o.reads.2.2 hhv
      obtain ⟨u, hu⟩ : ∃ u, vs[h] = u := ⟨_, rfl⟩
      have hrow := hmr1.i.2 h hhv hhn
      have hcut := HM.out.2 h hhn
      have hrl := HLEN.out _ (List.getElem_mem hhn)
      obtain ⟨row, hrw⟩ : ∃ row, M[h] = row := ⟨_, rfl⟩
      rw [hu] at hcell hrow
      rw [hrw] at hrow hcut hrl
      obtain ⟨kc, hkc⟩ := (ev_cmpV hrl (by rw [hrl]; exact HOL.out)).rounds
      obtain ⟨Au, cu, rfl⟩ := Kd.R_slice hrow
      have HROW := Aside0.mk (Kd.R_reads' hrow)
      generalize cmpV row own = cp at hkc hcut
      have HKC := Aside0.mk hkc
      have HCUT := Aside0.mk hcut
      have HH := Aside0.mk hh
      clear hcut hh hmr1 hu hrow hrl hrw hkc
      by_cases hcp : cp < 0
      · go_wp2_with (go_at_fn g; refine (HCALL.out kc _ _ row _ _ own cp _ HROW.out.2.2 HROW.out.2.1 (Kd.C_below HO.out HB.out) HOC.out HKC.out).mono ?_; rintro e w1 ⟨rfl, hd1⟩; have HB1 := Aside0.mk (below_in HB.out hd1); clear hd1 hcell)
        go_roundw
        case measure => simp [intOf]; omega
        case rel => exact ⟨h + 1, j, by have := HCUT.out.1 hcp; omega, hmj, hjn, by go_num, rfl, HB1⟩
      · go_wp2_with (go_at_fn g; refine (HCALL.out kc _ _ row _ _ own cp _ HROW.out.2.2 HROW.out.2.1 (Kd.C_below HO.out HB.out) HOC.out HKC.out).mono ?_; rintro e w1 ⟨rfl, hd1⟩; have HB1 := Aside0.mk (below_in HB.out hd1); clear hd1 hcell)
        go_roundw
        case measure => have := HH.out; simp [intOf]; omega
        case rel => exact ⟨i, h, him, by have := HCUT.out; omega, by omega, rfl, rfl, HB1⟩
    · obtain rfl : i = m := by omega
      obtain rfl : i = j := by omega
      have hltz : ¬ (i : Int) < (i : Int) := by omega
      by_cases hin : i < M.length
      · have hinz : (i : Int) < (vs.length : Int) := by have := HVL.out; omega
        have hiv : i < vs.length := by have := HVL.out; omega
        have hmr1 := HMR.out.below HB.out
        obtain ⟨ad, rfl, hcell⟩ := VC.cell hmr1.o.reads.2.2 hiv
        obtain ⟨u, hu⟩ : ∃ u, vs[i] = u := ⟨_, rfl⟩
        have hrow := hmr1.i.2 i hiv hin
        have hrl := HLEN.out _ (List.getElem_mem hin)
        have hfd : M[i]? = some M[i] := List.getElem?_eq_getElem hin
        obtain ⟨row, hrw⟩ : ∃ row, M[i] = row := ⟨_, rfl⟩
        rw [hu] at hcell hrow
        rw [hrw] at hrow hrl hfd
        have hdec : decide (M[i]? = some own) = decide (cmpV row own = 0) := by
          rw [hfd]
          refine decide_eq_decide.2 ⟨fun e => (cmpV_eq row own hrl).2 (Option.some.inj e), fun e => congrArg some ((cmpV_eq row own hrl).1 e)⟩
        have hrr := HRR.out
        rw [hdec] at hrr
        obtain ⟨kc, hkc⟩ := (ev_cmpV hrl (by rw [hrl]; exact HOL.out)).rounds
        obtain ⟨Au, cu, rfl⟩ := Kd.R_slice hrow
        have HROW := Aside0.mk (Kd.R_reads' hrow)
        generalize cmpV row own = cp at hkc hrr
        subst hrr
        have HKC := Aside0.mk hkc
        clear hmr1 hu hrow hrl hrw hkc hfd hdec
        go_wp2_with (go_at_fn g; refine (HCALL.out kc _ _ row _ _ own cp _ HROW.out.2.2 HROW.out.2.1 (Kd.C_below HO.out HB.out) HOC.out HKC.out).mono ?_; rintro e w1 ⟨rfl, hd1⟩; have HB1 := Aside0.mk (below_in HB.out hd1); clear hd1 hcell)
        go_ret2
        exact ⟨rfl, HB1.out⟩
      · have hinz : ¬ (i : Int) < (vs.length : Int) := by have := HVL.out; omega
        have hfd : decide (M[i]? = some own) = false := decide_eq_false (by rw [List.getElem?_eq_none (by omega)]; simp)
        have hrr := HRR.out
        rw [hfd] at hrr
        subst hrr
        go_wp2
        go_ret2
        exact ⟨rfl, HB.out⟩
theorem searchV_c (A : Option Addr) (c : Nat) (vs : List Value) (M : List (List Int)) (A1 : Option Addr) (c1 : Nat) (own : List Int) (m base : Nat) (w : World) (hmr : MR w base (.slice A vs.length c) vs M) (ho : RC w A1 own.length own) (hoc : own.length ≤ c1)
    (hlen : ∀ r ∈ M, r.length = own.length) (hol : own.length ≤ 1048576) (hl : M.length ≤ 1099511627776) (hm : CutV M own m) :
    Calls Tryz.prog 22 #[.slice A vs.length c, .slice A1 own.length c1, .func (.func 23) #[] #[]] w fun e w' => e = .returned (.tuple #[.int .i64 m, .bool (decide (M[m]? = some own))]) ∧ Below w.heap.size w w' :=
  searchV_g 23 (fun args w => enters_ Tryz.func23 (by kernel_rfl) (by rfl) args w)
    (fun k A0 c0 l0 A1 c1 l1 r w h0 h1 h2 h3 h => (QA.slices_Compare_int64_int64.calls k A0 c0 l0 A1 c1 l1 r w h0 h1 h2 h3 h).mono fun e w' h => ⟨h.1, d0_below h.2⟩) A c vs M A1 c1 own m base w hmr ho hoc hlen hol hl hm
end Go.Proofs.YtdlmlmaoacmdiaaGreat.Im
namespace Go.Proofs.YtdlmlmaoacmdiaaGreat.Im
open Go.RowKit Go.Shelf Kp Ext Cw YtdlmlmaoacmdiaaGreatW.PrintWords YtdlmlmaoacmdiaaGreatW.PrintLast YtdlmlmaoacmdiaaGreatW.PrintMore
theorem reps_kV {w : World} {base : Nat} {ok : Nat → Prop} {l cs : List Value} (h : Reps (kV.M w base ok) 1 l cs) : cs = l ∧ ∀ v ∈ l, v.oneCell' = true := by
  obtain ⟨hl, hr⟩ := h
  refine ⟨List.ext_getElem (by omega) fun j h1 h2 => ?_, fun v hv => ?_⟩
  · have h3 := (hr j l[j] (List.getElem?_eq_getElem h2)).1
    rw [Nat.mul_one, List.drop_eq_getElem_cons h1, List.take_succ_cons] at h3
    injection h3
  · obtain ⟨j, hj, rfl⟩ := List.mem_iff_getElem.1 hv
    exact (hr j l[j] (List.getElem?_eq_getElem hj)).2
theorem kV_reps (w : World) (base : Nat) (ok : Nat → Prop) {l : List Value} (h : ∀ v ∈ l, v.oneCell' = true) : Reps (kV.M w base ok) 1 l l := by
  refine ⟨(Nat.mul_one _).symm, fun j p hj => ?_⟩
  obtain ⟨hj', rfl⟩ := List.getElem?_eq_some_iff.1 hj
  refine ⟨?_, h _ (List.getElem_mem hj')⟩
  rw [Nat.mul_one, List.drop_eq_getElem_cons hj', List.take_succ_cons, List.take_zero]
theorem VO.open {w : World} {base : Nat} {v : Value} {vs : List Value} (h : VO w base v vs) : (∀ u ∈ vs, u.oneCell' = true) ∧ ((v = .slice none 0 0 ∧ vs = []) ∨ ∃ g cap cur, v = .slice (some ⟨g, 0, none⟩) vs.length cap ∧ base ≤ g ∧ w.heap[g]? = some (.cells (List.toArray cur) 22 (0, 0)) ∧ vs.length ≤ cap ∧ cap ≤ maxLen ∧ cur.length = cap ∧ cur.take vs.length = vs) := by
  obtain ⟨_, inner, ⟨hl, ho⟩, hr⟩ := h
  obtain ⟨he, h1⟩ := reps_kV hr
  subst he
  refine ⟨h1, ?_⟩
  rcases ho with ⟨rfl, h0⟩ | ⟨g, cap, cur, rfl, hb, hg, hn, hc, hs, ht⟩
  · exact .inl ⟨rfl, List.eq_nil_of_length_eq_zero h0⟩
  · exact .inr ⟨g, cap, cur.toList, rfl, hb, by simpa using hg, hn, hc, by simpa [kV] using hs, by simpa [kV] using ht⟩
theorem VO.mk {w : World} {base g cap : Nat} {cur : List Value} {vs : List Value} (h1 : ∀ u ∈ vs, u.oneCell' = true) (hb : base ≤ g) (hg : w.heap[g]? = some (.cells cur.toArray 22 (0, 0))) (hn : vs.length ≤ cap) (hc : cap ≤ maxLen) (hs : cur.length = cap) (ht : cur.take vs.length = vs) :
    VO w base (.slice (some ⟨g, 0, none⟩) vs.length cap) vs :=
  ⟨fun _ _ => trivial, vs, ⟨by simp [kV], .inr ⟨g, cap, cur.toArray, rfl, hb, hg, hn, hc, by simp [kV, hs], by simpa [kV] using ht⟩⟩, kV_reps _ _ _ h1⟩
theorem sizeV : (Tryz.prog.info? 22).map (·.size) = some 1 := by kernel_rfl
theorem sizeOfV : ∀ w : World, (sizeOf 22).run Tryz.prog w = .ok 1 w := fun w => by
  obtain ⟨i0, hi0, hz0, hzs, hzb⟩ := info_parts infoV
  simp [sizeOf, typeInfo, hi0, hzs]
def InsPost (base : Nat) (w : World) (v : Value) (r : List Value) (e : Ending) (w' : World) : Prop :=
  ∃ v1 : Value, e = .returned v1 ∧ VO w' base v1 r ∧ Below base w w' ∧ w.heap.size ≤ w'.heap.size ∧ ∀ k, k < w.heap.size → some k ≠ v.ownBlock → w'.heap[k]? = w.heap[k]?
set_option maxRecDepth 100000 in
set_option maxHeartbeats 4000000 in
theorem insertV_c (v : Value) (vs : List Value) (i base vb : Nat) (u : Value) (w : World) (ho : VO w base v vs) (hi : i ≤ vs.length) (hvb : w.heap[vb]? = some (.cells #[u] 22 (0, 0))) (hu : u.oneCell' = true) (hne : some vb ≠ v.ownBlock) (hb : base ≤ w.heap.size) (hn : vs.length ≤ 68719476736) :
    Calls Tryz.prog 24 #[v, .int .i64 i, .slice (some ⟨vb, 0, none⟩) 1 1] w (InsPost base w v (vs.take i ++ u :: vs.drop i)) := by
  have hsrc1 : ∀ (w1 : World), w1.heap[vb]? = some (.cells #[u] 22 (0, 0)) → ∀ j x, ([u] : List Value)[j]? = some x → w1.cell? ((⟨vb, 0, none⟩ : Addr).add j) = some x := fun w1 h1 => cells_src (w := w1) (L := [u]) (a := 0) h1 rfl
  by_cases hin : i = vs.length
  · subst hin
    have hr1 : Kd.C kV w (some ⟨vb, 0, none⟩) 1 [u] := by
      refine ⟨rfl, by omega, fun _ => ⟨⟨vb, 0, none⟩, rfl, fun j p hj => ⟨[p], rfl, ?_, fun k x hx => ?_⟩⟩⟩
      · have hj0 : j = 0 := by
          rcases j with _ | j
          · rfl
          · simp at hj
        subst hj0
        obtain rfl : u = p := by simpa using hj
        exact ⟨rfl, hu⟩
      · have hj0 : j = 0 := by
          rcases j with _ | j
          · rfl
          · simp at hj
        subst hj0
        obtain rfl : u = p := by simpa using hj
        simpa using hsrc1 w hvb k x hx
    have HR := Aside0.mk hr1
    have HO := Aside0.mk ho
    clear hr1 hvb hsrc1
    rw [List.take_length, List.drop_length]
    obtain ⟨A, c, rfl⟩ := Kd.R_slice ho
    clear ho
    go_enter Tryz.func24, Tryz.ntmps24
    go_wp2_with (at_builtin; refine apVs base rfl _ _ rfl _ _ _ _ _ _ rfl rfl HO.out HR.out (Below.mono (Below.refl _ _) hb) hb (by omega) ?_; intro v1 w1 ho hb hg hat; clear hat; have H1 := Aside0.mk ho; have HB1 := Aside0.mk hb; have HG1 : Aside0 (w.grownBy w1 (Value.slice A vs.length c).ownBlock) := ⟨hg⟩; clear ho hb hg)
    all_goals (go_ret; exact ⟨_, rfl, H1.out, HB1.out, HG1.out.size, fun k hk hne => HG1.out.block k hk (fun e => hne (by cases A with | none => exact absurd e (by simp [Value.ownBlock]) | some a => exact e))⟩)
  · have hlt : i < vs.length := by omega
    obtain ⟨hone, ho2⟩ := VO.open ho
    rcases ho2 with ⟨rfl, rfl⟩ | ⟨g, cap, L, rfl, hbg, hg, hnc, hcm, hL, ht⟩
    · simp at hlt
    have hgv : g ≠ vb := fun e => hne (by rw [e]; rfl)
    have hglt : g < w.heap.size := (Array.getElem?_eq_some_iff.1 hg).1
    have hz2 : ¬ ((i : Int) = (vs.length : Int)) := by omega
    have hiz : (i : Int) < (vs.length : Int) := by omega
    have hci : ¬ (cap = i) := by omega
    have hD : (vs.drop i).length = vs.length - i := List.length_drop
    have hLi : L.take i = vs.take i := by
      rw [← ht, List.take_take, Nat.min_eq_left (by omega)]
    have hLd : (L.drop i).take (vs.drop i).length = vs.drop i := by
      rw [hD]
      have h5 := congrArg (List.drop i) ht
      rw [List.drop_take] at h5
      exact h5
    have hres : (vs.take i ++ u :: vs.drop i).length = vs.length + 1 := by simp; omega
    have hfl : vs.take i ++ u :: vs.drop i = vs.take i ++ ([u] ++ vs.drop i) := rfl
    have hmax : vs.length + 1 ≤ maxLen := by unfold maxLen; omega
    have hone1 : ∀ x ∈ vs.take i ++ u :: vs.drop i, x.oneCell' = true := by
      intro x hx
      rcases List.mem_append.1 hx with hx | hx
      · exact hone x (List.mem_of_mem_take hx)
      · rcases List.mem_cons.1 hx with rfl | hx
        · exact hu
        · exact hone x (List.mem_of_mem_drop hx)
    have honeD : ∀ x ∈ vs.drop i, x.oneCell' = true := fun x hx => hone x (List.mem_of_mem_drop hx)
    have honeU : ∀ x ∈ [u], x.oneCell' = true := fun x hx => by rw [List.mem_singleton.1 hx]; exact hu
    clear ho hne hone
    by_cases hroom : vs.length + 1 ≤ cap
    · -- there is room: shifted up
      obtain ⟨L1, hL1⟩ : ∃ L1, L1 = splice L (i + 1) (vs.drop i) := ⟨_, rfl⟩
      obtain ⟨L2, hL2⟩ : ∃ L2, L2 = splice L1 i [u] := ⟨_, rfl⟩
      have hl1 : L1.length = cap := by rw [hL1, length_splice _ _ _ (by rw [hD]; omega), hL]
      have hl2 : L2.length = cap := by rw [hL2, length_splice _ _ _ (by simp; omega), hl1]
      have hrow : L2.take (vs.take i ++ u :: vs.drop i).length = vs.take i ++ u :: vs.drop i := by
        rw [hres, hfl, hL2, hL1]
        have := shifted_cells (L := L) (M := [u]) (D := vs.drop i) hLi (by rw [hD]; simp; omega)
        rw [hD] at this
        rw [show vs.length + 1 = i + [u].length + (vs.length - i) by simp; omega]
        exact this
      have hov : ∀ lb cb, (callFunc 44 #[.slice (some ⟨vb, 0, none⟩) 1 1, .slice (some ⟨g, (i + 1) * 1, none⟩) lb cb]).run Tryz.prog w = .ok (.value (.bool false)) w := fun lb cb => by
        rw [run_callFunc_extern Tryz.func44 (by kernel_rfl) (by kernel_rfl) (by kernel_rfl) (e := Extern.SlicesOverlaps.overlaps #[26, 26] #[4]) (by kernel_rfl),
          Lib.run_overlaps_apart w 26 4 22 Tryz.underlying26 1 sizeOfV ⟨vb, 0, none⟩ ⟨g, (i + 1) * 1, none⟩ 1 1 lb cb (fun e => hgv e.symm) 22 22 1 cap
            (by simp only [World.shape?]; rw [show w.heap[vb]? = _ from hvb]; rfl) (by simp only [World.shape?]; rw [hg]; simp [hL]) (by omega) (blk_frozen hvb _) (blk_frozen hvb _)]
        rfl
      rw [Nat.mul_one] at hov
      have HG1 : Aside0 (w.drew.heap[g]? = some (.cells L.toArray 22 (0, 0))) := ⟨hg⟩
      have HS1 : Aside0 (∀ j x, (vs.drop i)[j]? = some x → w.drew.cell? ((⟨g, i, none⟩ : Addr).add j) = some x) := ⟨cells_src (w := w.drew) hg hLd⟩
      have HG2 : Aside0 ((w.drew.setRow g L1.toArray).heap[g]? = some (.cells L1.toArray 22 (0, 0))) := ⟨setRow_heap _ _ _ _ _ _ hg⟩
      have HS2 : Aside0 (∀ j x, ([u] : List Value)[j]? = some x → (w.drew.setRow g L1.toArray).cell? ((⟨vb, 0, none⟩ : Addr).add j) = some x) := ⟨hsrc1 _ ((setRow_other _ _ _ _ (fun e => hgv e.symm)).trans hvb)⟩
      have HG3 : Aside0 (((w.drew.setRow g L1.toArray).setRow g L2.toArray).heap[g]? = some (.cells L2.toArray 22 (0, 0))) := ⟨setRow_heap _ _ _ _ _ _ HG2.out⟩
      have HB3 : Aside0 (Below base w ((w.drew.setRow g L1.toArray).setRow g L2.toArray)) := ⟨below_setRow (below_setRow (below_drew (Below.mono (Below.refl _ _) hb)) hbg _) hbg _⟩
      have HK3 : Aside0 (∀ k, k < w.heap.size → some k ≠ some g → ((w.drew.setRow g L1.toArray).setRow g L2.toArray).heap[k]? = w.heap[k]?) := ⟨fun k hk hne => by
        have hkg : k ≠ g := fun e => hne (by rw [e])
        exact (setRow_other _ _ _ _ hkg).trans (setRow_other _ _ _ _ hkg)⟩
      have HROW := Aside0.mk hrow
      have HFIT1 : Aside0 (i + 1 + (vs.drop i).length ≤ L.length) := ⟨by rw [hD]; omega⟩
      have HLEN1 : Aside0 ((vs.drop i).length = vs.length - i) := ⟨hD⟩
      have HFIT2 : Aside0 (i + ([u] : List Value).length ≤ L1.length) := ⟨by simp; omega⟩
      have HL1 := Aside0.mk hL1
      have HL2 := Aside0.mk hL2
      have HLEN2 := Aside0.mk hl2
      have HONE := Aside0.mk hone1
      have HONED := Aside0.mk honeD
      have HONEU := Aside0.mk honeU
      have hroomz : ¬ ((cap : Int) < (vs.length : Int) + 1) := by omega
      have hw1 : IntKind.i64.wrap ((vs.length : Int) + 1) = (vs.length : Int) + 1 := by rw [IntKind.wrap_i64]; omega
      have hw2 : IntKind.i64.wrap ((i : Int) + 1) = (i : Int) + 1 := by rw [IntKind.wrap_i64]; omega
      have htn1 : ((vs.length : Int) + 1).toNat = vs.length + 1 := by omega
      have htn2 : ((i : Int) + 1).toNat = i + 1 := by omega
      have hci2 : ¬ (cap = i + 1) := by omega
      have hb3 : (i : Int) ≤ (vs.length : Int) + 1 := by omega
      clear hrow hsrc1 hl1 hl2 hL1 hL2 hLd hLi ht hL hD hfl hvb hg hone1 honeD honeU
      go_enter Tryz.func24, Tryz.ntmps24
      go_wp2_with (simp only [hov])
      refine st_ 9 (S := fun w' => True) (ds := []) trivial (fun hHeld => ?_)
      refine with_tabW (T := (true, [([], []), ([], []), ([], []), ([1, 2], [1, 2]), ([0, 3], [0, 3]), ([], []), ([], []), ([5, 6], [5, 6]), ([4, 7], [4, 7])])) (B := [0, 0, 0, 6, 15, 0, 0, 96, 255]) (by kernel_rfl) (by kernel_rfl) (fun HT_ HW_ => ?_)
      refine pd_ 0 69 1 HT_ ?_
      refine pd_ 1 70 3 HT_ ?_
      refine pd_ 2 71 7 HT_ ?_
      refine pd_ 3 72 15 HT_ ?_
      refine pd_ 4 73 31 HT_ ?_
      refine pd_ 5 74 63 HT_ ?_
      refine pd_ 6 75 127 HT_ ?_
      refine pd_ 7 76 255 HT_ ?_
      refine on_ 8 (some 77) 511 HT_ (fun K hK => ?_)
      (refine copyR (.tmp 73) (.tmp 76) 26 26 22 1 Tryz.underlying26 sizeV g (i + 1) _ _ ⟨g, i, none⟩ _ _ rfl rfl L 22 HG1.out (vs.drop i) (by rw [HLEN1.out]; simp only [Nat.min_def]; split <;> omega) HS1.out HFIT1.out HONED.out ?_; rw [← HL1.out])
      refine hK.out _ _ trivial (fun hHeld => ?_)
      clear hK K
      refine nm_ ?_
      refine dn_ HT_ ?_
      go_wp2_with (refine copyL rfl (.tmp 80) (.tmp 81) 26 26 rfl 22 1 Tryz.underlying26 sizeV g i _ _ ⟨vb, 0, none⟩ 1 1 rfl rfl L1 22 HG2.out [u] (by simp only [Nat.min_def]; split <;> first | rfl | omega) HS2.out HFIT2.out HONEU.out ?_; rw [← HL2.out])
      go_ret
      exact ⟨_, rfl, by have := VO.mk HONE.out hbg HG3.out (cap := cap) (by rw [hres]; exact hroom) hcm HLEN2.out HROW.out; rwa [hres] at this, HB3.out, by simp [setRow_size], HK3.out⟩
    · -- no room: a new row
      obtain ⟨G, hG⟩ : ∃ G, G = grownCap w (vs.length + 1) cap 22 := ⟨_, rfl⟩
      have hGn : vs.length + 1 ≤ G := by rw [hG]; exact grownCap_ge w _ _ _
      have hGm : G ≤ maxLen := by rw [hG]; exact grownCap_le_maxLen w _ _ _ hmax
      obtain ⟨i0, hi0, hz0, hzs, hzb⟩ := info_parts infoV
      have hik : i + (vs.length + 1 - i) = vs.length + 1 := by omega
      have hold : (Builtin.firstCells i0.size i (.slice (some ⟨g, 0, none⟩) i cap)).run Tryz.prog w.drew = .ok (vs.take i).toArray w.drew := by
        rw [hzs]
        exact run_firstCells_some w.drew 1 i ⟨g, 0, none⟩ i cap (vs.take i) (by simp; omega) (cells_src (w := w.drew) hg (by rw [List.drop_zero, List.length_take, Nat.min_eq_left (by omega), hLi]))
      obtain ⟨L0, hL0⟩ : ∃ L0 : List Value, L0 = vs.take i ++ ((Builtin.zeroCells (Value.slice none 0 0).cells (vs.length + 1 - i)).toList ++ (Builtin.zeroCells (Value.slice none 0 0).cells (G - (vs.length + 1))).toList) := ⟨_, rfl⟩
      have hrz : ∀ ty, (Builtin.append_ #[26, 3] ty #[.slice (some ⟨g, 0, none⟩) i cap, .int .i64 ((vs.length : Int) + 1 - (i : Int))]).run Tryz.prog w =
          .ok (.slice (some ⟨w.heap.size, 0, none⟩) (vs.length + 1) G) (w.drew.alloc (.cells L0.toArray 22)) := fun ty => by
        have h := Lib.run_append_grow_zeros w 26 3 ty 22 i0 _ .i64 .i64 Tryz.underlying26 Tryz.underlying3 hi0 hz0 (some ⟨g, 0, none⟩) i cap (vs.take i) hold (vs.length + 1 - i) (by omega) (by omega) (by omega) (by omega) (by rw [hzb]; omega) (by rw [hzb, hik]; exact growslice_fits (by omega) (by omega))
        rw [hik, ← hG] at h
        have harr : (vs.take i).toArray ++ Builtin.zeroCells (Value.slice none 0 0).cells (vs.length + 1 - i) ++ Builtin.zeroCells (Value.slice none 0 0).cells (G - (vs.length + 1)) = L0.toArray := by
          rw [hL0]; apply Array.ext'; simp
        rw [show (vs.length : Int) + 1 - (i : Int) = ((vs.length + 1 - i : Nat) : Int) by omega, h, harr]
      have hl0 : L0.length = G := by
        rw [hL0]
        simp [Builtin.zeroCells, Value.cells]
        omega
      have hP0 : L0.take i = vs.take i := by
        rw [hL0, List.take_append_of_le_length (by simp; omega), List.take_of_length_le (by simp; omega)]
      obtain ⟨L1, hL1⟩ : ∃ L1, L1 = splice L0 i [u] := ⟨_, rfl⟩
      obtain ⟨L2, hL2⟩ : ∃ L2, L2 = splice L1 (i + 1) (vs.drop i) := ⟨_, rfl⟩
      have hl1 : L1.length = G := by rw [hL1, length_splice _ _ _ (by simp; omega), hl0]
      have hl2 : L2.length = G := by rw [hL2, length_splice _ _ _ (by rw [hD]; omega), hl1]
      have hrow : L2.take (vs.take i ++ u :: vs.drop i).length = vs.take i ++ u :: vs.drop i := by
        rw [hres, hfl, hL2, hL1]
        have := grown_cells (L := L0) (M := [u]) (D := vs.drop i) hP0 (by omega) (by rw [hD]; simp; omega)
        rw [hD] at this
        rw [show vs.length + 1 = i + [u].length + (vs.length - i) by simp; omega]
        exact this
      obtain ⟨W1, hW1⟩ : ∃ W1, W1 = w.drew.alloc (.cells L0.toArray 22) := ⟨_, rfl⟩
      rw [← hW1] at hrz
      have hN1 : W1.heap[w.heap.size]? = some (.cells L0.toArray 22 (0, 0)) := by rw [hW1]; exact heap_alloc_new w.drew _
      have hO1 : ∀ k, k < w.heap.size → W1.heap[k]? = w.heap[k]? := fun k hk => by rw [hW1]; exact (below_alloc (Below.refl w.drew.heap.size w.drew) (.cells L0.toArray 22)).block k hk
      have hBW : Below base w W1 := by rw [hW1]; exact Below.alloc (below_drew ((Below.refl w.heap.size w).mono hb)) hb _
      have HGA : Aside0 (W1.heap[w.heap.size]? = some (.cells L0.toArray 22 (0, 0))) := ⟨hN1⟩
      have HSA : Aside0 (∀ j x, ([u] : List Value)[j]? = some x → W1.cell? ((⟨vb, 0, none⟩ : Addr).add j) = some x) := ⟨hsrc1 _ ((hO1 vb (blk_lt hvb)).trans hvb)⟩
      have HFA : Aside0 (i + ([u] : List Value).length ≤ L0.length) := ⟨by simp; omega⟩
      have HGB : Aside0 ((W1.setRow w.heap.size L1.toArray).drew.heap[w.heap.size]? = some (.cells L1.toArray 22 (0, 0))) := ⟨setRow_heap _ _ _ _ _ _ hN1⟩
      have HSB : Aside0 (∀ j x, (vs.drop i)[j]? = some x → (W1.setRow w.heap.size L1.toArray).drew.cell? ((⟨g, i, none⟩ : Addr).add j) = some x) := ⟨cells_src (w := (W1.setRow w.heap.size L1.toArray).drew) (((setRow_other _ _ _ _ (by omega)).trans (hO1 g hglt)).trans hg) hLd⟩
      have HFB : Aside0 (i + 1 + (vs.drop i).length ≤ L1.length) := ⟨by rw [hD]; omega⟩
      have HLEN1 : Aside0 ((vs.drop i).length = vs.length - i) := ⟨hD⟩
      have HGC : Aside0 (((W1.setRow w.heap.size L1.toArray).drew.setRow w.heap.size L2.toArray).heap[w.heap.size]? = some (.cells L2.toArray 22 (0, 0))) := ⟨setRow_heap _ _ _ _ _ _ HGB.out⟩
      have HBC : Aside0 (Below base w ((W1.setRow w.heap.size L1.toArray).drew.setRow w.heap.size L2.toArray)) := ⟨below_setRow (below_drew (below_setRow hBW hb _)) hb _⟩
      have HSZ : Aside0 (w.heap.size ≤ ((W1.setRow w.heap.size L1.toArray).drew.setRow w.heap.size L2.toArray).heap.size) := ⟨(below_setRow (below_drew (below_setRow (show Below w.heap.size w W1 by rw [hW1]; exact Below.alloc (below_drew (Below.refl w.heap.size w)) (Nat.le_refl _) _) (Nat.le_refl _) _)) (Nat.le_refl _) _).size⟩
      have HKC : Aside0 (∀ k, k < w.heap.size → some k ≠ some g → ((W1.setRow w.heap.size L1.toArray).drew.setRow w.heap.size L2.toArray).heap[k]? = w.heap[k]?) := ⟨fun k hk _ => ((setRow_other _ _ _ _ (by omega)).trans (setRow_other _ _ _ _ (by omega))).trans (hO1 k hk)⟩
      have HROW := Aside0.mk hrow
      have HL1 := Aside0.mk hL1
      have HL2 := Aside0.mk hL2
      have HLEN2 := Aside0.mk hl2
      have HONE := Aside0.mk hone1
      have HONED := Aside0.mk honeD
      have HONEU := Aside0.mk honeU
      have hroomz : (cap : Int) < (vs.length : Int) + 1 := by omega
      have hw1 : IntKind.i64.wrap ((vs.length : Int) + 1) = (vs.length : Int) + 1 := by rw [IntKind.wrap_i64]; omega
      have hw2 : IntKind.i64.wrap ((i : Int) + 1) = (i : Int) + 1 := by rw [IntKind.wrap_i64]; omega
      have htn1 : ((vs.length : Int) + 1).toNat = vs.length + 1 := by omega
      have htn2 : ((i : Int) + 1).toNat = i + 1 := by omega
      have hGi : ¬ (G = i) := by omega
      have hGi2 : ¬ (G = i + 1) := by omega
      have hb3 : (i : Int) ≤ (vs.length : Int) + 1 := by omega
      have hic : (i : Int) ≤ (cap : Int) := by omega
      clear hrow hsrc1 hl1 hl2 hL1 hL2 hLd hLi ht hL hD hfl hvb hg hP0 hl0 hL0 hN1 hO1 hBW hW1 hold hik hi0 hz0 hzs hzb hG hone1 honeD honeU
      go_enter Tryz.func24, Tryz.ntmps24
      go_wp2_with (first
        | (at_builtin; refine Lib.wpList_append_run _ rfl _ _ _ _ rfl _ _ rfl rfl _ _ (hrz _) ?_)
        | (refine copyL rfl (.tmp 43) (.tmp 44) 26 26 rfl 22 1 Tryz.underlying26 sizeV w.heap.size i _ _ ⟨vb, 0, none⟩ 1 1 rfl rfl L0 22 HGA.out [u] (by simp only [Nat.min_def]; split <;> first | rfl | omega) HSA.out HFA.out HONEU.out ?_; rw [← HL1.out]))
      refine st_ 9 (S := fun w' => True) (ds := []) trivial (fun hHeld => ?_)
      refine with_tabW (T := (true, [([], []), ([], []), ([], []), ([1, 2], [1, 2]), ([0, 3], [0, 3]), ([], []), ([], []), ([5, 6], [5, 6]), ([4, 7], [4, 7])])) (B := [0, 0, 0, 6, 15, 0, 0, 96, 255]) (by kernel_rfl) (by kernel_rfl) (fun HT_ HW_ => ?_)
      refine pd_ 0 46 1 HT_ ?_
      refine pd_ 1 47 3 HT_ ?_
      refine pd_ 2 48 7 HT_ ?_
      refine pd_ 3 49 15 HT_ ?_
      refine pd_ 4 50 31 HT_ ?_
      refine pd_ 5 51 63 HT_ ?_
      refine pd_ 6 52 127 HT_ ?_
      refine pd_ 7 53 255 HT_ ?_
      refine on_ 8 (some 54) 511 HT_ (fun K hK => ?_)
      (refine copyR (.tmp 50) (.tmp 53) 26 26 22 1 Tryz.underlying26 sizeV w.heap.size (i + 1) _ _ ⟨g, i, none⟩ _ _ rfl rfl L1 22 HGB.out (vs.drop i) (by rw [HLEN1.out]; simp only [Nat.min_def]; split <;> omega) HSB.out HFB.out HONED.out ?_; rw [← HL2.out])
      refine hK.out _ _ trivial (fun hHeld => ?_)
      clear hK K
      refine nm_ ?_
      refine dn_ HT_ ?_
      go_wp2
      go_ret
      exact ⟨_, rfl, by have := VO.mk HONE.out hb HGC.out (cap := G) (by rw [hres]; exact hGn) hGm HLEN2.out HROW.out; rwa [hres] at this, HBC.out, HSZ.out, HKC.out⟩
end Go.Proofs.YtdlmlmaoacmdiaaGreat.Im
namespace Go.Proofs.YtdlmlmaoacmdiaaGreat.QS
open Cw Kp Ext Go.RowKit YtdlmlmaoacmdiaaGreatW.PrintWords YtdlmlmaoacmdiaaGreatW.PrintLast YtdlmlmaoacmdiaaGreatW.PrintMore
attribute [local go_sem] max2_int min2_int max_two min_two max_three min_three max_four min_four   -- for this text's walks alone
def spec_l01Ones.l0 : Nat → Int → Int → Option (Int)
 | 0, _, _ => none
 | k + 1, x0, x3 => if x0 > 0 then (spec_l01Ones.l0 k (wrap64 (Int.tdiv x0 2)) (wrap64 (x3 + (Int.tmod x0 2)))) else (some x3)
def spec_l01Ones.f (k : Nat) (a0 : Int) : Option (Int) := spec_l01Ones.l0 k a0 0
theorem spec_l01Ones.mono_l : ∀ k, (∀ y0 y1, LeO (spec_l01Ones.l0 k y0 y1) (spec_l01Ones.l0 (k + 1) y0 y1))
 | 0 => fun _ _ r h => by simp [spec_l01Ones.l0] at h
 | k + 1 => by
  have ih0 := spec_l01Ones.mono_l k
  ·intro y0 y1
   unfold spec_l01Ones.l0
   repeat' first
   | (with_reducible exact ih0 _ _)
   | (with_reducible exact LeO.refl _)
   | (with_reducible exact LeO.none _)
   | (with_reducible refine LeO.ite ?_ ?_)
   | (with_reducible refine LeO.bind ?_ (fun _ => ?_))
   | exact ih0 _ _
   | exact LeO.none _
   | refine LeO.ite ?_ ?_
   | refine LeO.bind ?_ (fun _ => ?_)
theorem spec_l01Ones.mono : ∀ a0 k, LeO (spec_l01Ones.f k a0) (spec_l01Ones.f (k + 1) a0) := by
 intro a0 k
 have ih0 := spec_l01Ones.mono_l k
 unfold spec_l01Ones.f
 repeat' first
   | (with_reducible exact ih0 _ _)
   | (with_reducible exact LeO.refl _)
   | (with_reducible exact LeO.none _)
   | (with_reducible refine LeO.ite ?_ ?_)
   | (with_reducible refine LeO.bind ?_ (fun _ => ?_))
   | exact ih0 _ _
   | exact LeO.none _
   | refine LeO.ite ?_ ?_
   | refine LeO.bind ?_ (fun _ => ?_)
set_option maxHeartbeats 8000000 in
set_option maxRecDepth 100000 in
theorem spec_l01Ones.calls (k : Nat) (a0 : Int) (r : Int) (w : World) (h : spec_l01Ones.f k a0 = some r) :
  Calls Tryz.prog 69 #[.int .i64 a0] w fun e w' => e = .returned (.int .i64 r) ∧ Drawn0 w w' := by
 have H : (spec_l01Ones.l0 k a0 0) = some r := h
 clear h
 have H' := Aside0.mk H
 clear H
 go_enter Tryz.func69, Tryz.ntmps69
 go_wp2
 go_loopg [0, 3] k (fun kq v0 v3 w' => ∃ (x0_1 : Int) (x3_1 : Int), v0 = .int .i64 x0_1 ∧ v3 = .int .i64 x3_1 ∧ Aside0 (spec_l01Ones.l0 kq x0_1 x3_1 = some r) ∧ Aside0 (kq ≤ k) ∧ Drawn0 w w')
 case atStart => exact ⟨(a0), (0), (by first | rfl | (simp; done) | (simp [*]; done)), (by first | rfl | (simp; done) | (simp [*]; done)), H', ⟨Nat.le_refl _⟩, by repeat (first | exact Drawn0.refl _ | apply Drawn0.step)⟩
 case round =>
  clear H'
  obtain ⟨x0_1, x3_1, rfl, rfl, HA, HK1, ⟨m1, rfl⟩⟩ := hrel
  cases gk with
  | zero => exact absurd HA.out (by simp [spec_l01Ones.l0])
  | succ k1 =>
   have H := HA.out
   clear HA
   simp only [spec_l01Ones.l0] at H
   by_cases c2 : x0_1 > 0
   ·rw [if_pos c2] at H
    have c2b0 : decide (0 < x0_1) = true := decide_eq_true c2
    clear c2
    have H' := Aside0.mk H
    clear H
    go_wp2
    go_roundg k1
    case measure => have := HK1.out; omega
    case rel => exact ⟨(wrap64 (Int.tdiv x0_1 2)), (wrap64 (x3_1 + (Int.tmod x0_1 2))), (by first | rfl | (simp; done) | (simp [*]; done)), (by first | rfl | (simp; done) | (simp [*]; done)), H', ⟨by have := HK1.out; omega⟩, by repeat (first | exact Drawn0.refl _ | apply Drawn0.step)⟩
   ·rw [if_neg c2] at H
    have c2b0 : decide (0 < x0_1) = false := decide_eq_false c2
    clear c2
    obtain rfl := Option.some.inj H
    go_wp2
    go_ret
    exact ⟨by first | rfl | (simp; done) | (simp [*]; done), by repeat (first | exact Drawn0.refl _ | apply Drawn0.step)⟩
def spec_l01Above.l0 : Nat → Int → List Int → Int → Int → List Int → Option (List Int)
 | 0, _, _, _, _, _ => none
 | k + 1, x1, x5, x6, x154000, x154001 => if x6 < (x154001.length : Int) then (if 0 ≤ x6 then (if (Go.bits .and .i64 (rd x154001 x6) x1) = x1 then ((spec_l01Ones.f k (rd x154001 x6)).bind fun t159 => ((spec_l01Ones.f k x1).bind fun t160 => (if t159 = (wrap64 (t160 + 1)) then (if x5.length < 17592186044416 then (spec_l01Above.l0 k x1 (x5 ++ [rd x154001 x6]) (wrap64 (x6 + 1)) x154000 x154001) else (none)) else (spec_l01Above.l0 k x1 x5 (wrap64 (x6 + 1)) x154000 x154001)))) else (spec_l01Above.l0 k x1 x5 (wrap64 (x6 + 1)) x154000 x154001)) else (none)) else (some x5)
def spec_l01Above.f (k : Nat) (a0_0 : Int) (l0_1 : List Int) (a1 : Int) : Option (List Int) := spec_l01Above.l0 k a1 (([] : List Int)) 0 a0_0 l0_1
set_option maxHeartbeats 8000000 in
set_option maxRecDepth 100000 in
theorem spec_l01Above.calls (k : Nat) (a0_0 : Int) (A0_1 : Option Addr) (c0_1 : Nat) (l0_1 : List Int) (a1 : Int) (r : List Int) (w : World) (hr0_1 : Kd.C (Kd.int .i64) w A0_1 l0_1.length l0_1) (hc0_1 : l0_1.length ≤ c0_1) (h : spec_l01Above.f k a0_0 l0_1 a1 = some r) :
  Calls Tryz.prog 50 #[.agg #[.int .i64 a0_0, .slice A0_1 l0_1.length c0_1], .int .i64 a1] w fun e w' => ∃ v0_ : Value, e = .returned (v0_) ∧ Kd.R (Kd.int .i64) 2 w' w.heap.size (fun _ => True) v0_ r ∧ Below w.heap.size w w' := by
 have hu29 := Tryz.underlying29
 have HR0_1 := Aside0.mk hr0_1
 have HC0_1 := Aside0.mk hc0_1
 clear hr0_1 hc0_1
 have HB := Aside0.mk (Below.refl w.heap.size w)
 have H : (spec_l01Above.l0 k a1 (([] : List Int)) 0 a0_0 l0_1) = some r := h
 clear h
 obtain ⟨y154, hy154⟩ : ∃ y_ : List Int, y_ = (([] : List Int)) := ⟨_, rfl⟩
 replace H : (spec_l01Above.l0 k a1 y154 0 a0_0 l0_1) = some r := by first | (rw [hy154]; with_reducible exact H) | (have H2_ := (Option.bind_some _ _).symm.trans H; rw [hy154]; with_reducible exact H2_) | (have H2_ := (Option.bind_some _ _).symm.trans H; with_reducible exact H2_) | with_reducible exact H | (rw [hy154]; exact H) | exact H
 have Ny154 := Aside0.mk hy154
 clear hy154
 have H' := Aside0.mk H
 clear H
 go_enter Tryz.func50, Tryz.ntmps50
 go_wp2_with (first | ((with_reducible refine gate_dst (N := 2) rfl ?_); refine box_event ?hg (N := 2) ?hd (cs := #[.int .i64 a0_0, .slice A0_1 l0_1.length c0_1]) (t := 29) ?hr ?_; (case hd => rfl); (case hg => rfl); (case hr => first | (go_simp; done) | (go_simp; rfl)); intro gb153 hg w3 hbox hb; have BK153 := Aside0.mk (hbox); have GW153 := gH HB hg; have GE153 := gH HB hg; replace HB := sH HB hb; clear hb hbox hg) | ((with_reducible refine gate_dst (N := 7) rfl ?_); refine Kd.R_lit (Kd.int .i64) _ 2 ?hg (N := 7) ?hd (xs := ([] : List Int)) (inner := []) (ok := fun _ => True) (okp := fun _ => True) ?hr ?hp (fun _ hk => hk) trivial (Below.refl _ _) (Nat.le_refl _) (by simp) ?_; (case hd => rfl); (case hg => rfl); (case hr => first | (go_simp; done) | (go_simp; rfl)); (case hp => exact (Reps.none _ _)); intro v155 w4 ho5 hb hg_ hnew_; clear hg_ hnew_; (first | rw [← Ny154.out] at ho5 | (simp only [Int.reduceToNat] at ho5; rw [← Ny154.out] at ho5)); have HO156 := Aside0.mk (Kd.R_lower ho5 (below_size (pH HB))); replace BK153 := sB BK153 hb; replace HB := sH HB hb; clear hb ho5))
 go_loopg [5, 6] k (fun kq v5 v6 w' => ∃ (x5_1 : List Int) (x6_1 : Int), v6 = .int .i64 x6_1 ∧ Aside0 (spec_l01Above.l0 kq a1 x5_1 x6_1 a0_0 l0_1 = some r) ∧ Aside0 (kq ≤ k) ∧ Aside0 (Kd.R (Kd.int .i64) 2 w' w.heap.size (fun _ => True) v5 x5_1) ∧ Aside0 (w'.heap[gb153]? = some (.cells #[.int .i64 a0_0, (.slice A0_1 l0_1.length c0_1)] 29 (0, 0))) ∧ Aside0 (Below w.heap.size w w'))
 case atStart => exact ⟨(y154), (0), (by first | rfl | (simp; done) | (simp [*]; done)), H', ⟨Nat.le_refl _⟩, ⟨by (with_reducible repeat (first | apply Kd.R_alloc | apply Kd.R_drewN | apply Kd.R_drew)); exact HO156.out⟩, ⟨pB BK153⟩, ⟨pH HB⟩⟩
 case round =>
  clear H'
  try clear p2
  try clear c5
  obtain ⟨x5_1, x6_1, rfl, HA, HK1, HO_5, BK153, HB⟩ := hrel
  cases gk with
  | zero => exact absurd HA.out (by simp [spec_l01Above.l0])
  | succ k1 =>
   have H := HA.out
   clear HA
   simp only [spec_l01Above.l0] at H
   by_cases c6 : x6_1 < (l0_1.length : Int)
   ·rw [if_pos c6] at H
    have c6b0 : decide (x6_1 < (l0_1.length : Int)) = true := decide_eq_true c6
    clear c6
    by_cases c7 : 0 ≤ x6_1
    ·rw [if_pos c7] at H
     have c7b0 : decide (0 ≤ x6_1) = true := decide_eq_true c7
     clear c7
     by_cases c8 : (Go.bits .and .i64 (rd l0_1 x6_1) a1) = a1
     ·rw [if_pos c8] at H
      have c8b0 : ((Go.bits .and .i64 (rd l0_1 x6_1) a1) == a1) = true := beq_iff_eq.mpr c8
      have c8b1 : ((Go.bits .and .i64 (rd l0_1 x6_1) a1) != a1) = false := bne_eq_false_iff_eq.mpr c8
      clear c8
      replace H := Option.bind_eq_some_iff.mp H
      obtain ⟨t159, A90, H⟩ := H
      try dsimp only at H
      have A9 := Aside0.mk A90
      clear A90
      replace H := Option.bind_eq_some_iff.mp H
      obtain ⟨t160, A100, H⟩ := H
      try dsimp only at H
      have A10 := Aside0.mk A100
      clear A100
      by_cases c11 : t159 = (wrap64 (t160 + 1))
      ·rw [if_pos c11] at H
       have c11b0 : (t159 == (wrap64 (t160 + 1))) = true := beq_iff_eq.mpr c11
       have c11b1 : (t159 != (wrap64 (t160 + 1))) = false := bne_eq_false_iff_eq.mpr c11
       clear c11
       by_cases c12 : x5_1.length < 17592186044416
       ·rw [if_pos c12] at H
        have LMc12 := Aside0.mk c12
        clear c12
        obtain ⟨y162, hy162⟩ : ∃ y_ : List Int, y_ = (x5_1 ++ [rd l0_1 x6_1]) := ⟨_, rfl⟩
        replace H : (spec_l01Above.l0 k1 a1 y162 (wrap64 (x6_1 + 1)) a0_0 l0_1) = some r := by first | (rw [hy162]; with_reducible exact H) | (have H2_ := (Option.bind_some _ _).symm.trans H; rw [hy162]; with_reducible exact H2_) | (have H2_ := (Option.bind_some _ _).symm.trans H; with_reducible exact H2_) | with_reducible exact H | (rw [hy162]; exact H) | exact H
        have Ny162 := Aside0.mk hy162
        clear hy162
        have H' := Aside0.mk H
        clear H
        have hcz13_0 : wr.cell? ⟨gb153, 0, none⟩ = some (.int .i64 a0_0) := cB BK153 0
        have hcz13_1 : wr.cell? ⟨gb153, 1, none⟩ = some (.slice A0_1 l0_1.length c0_1) := cB BK153 1
        have hfz13_0 := zB BK153 0
        have hfz13_1 := zB BK153 1
        have p157 : 0 ≤ (x6_1 : Int) := of_decide_eq_true (by first | (with_reducible assumption) | assumption)
        have q157 : x6_1 < (l0_1.length : Int) := of_decide_eq_true (by first | (with_reducible assumption) | assumption)
        obtain ⟨ad157, e157, hx157_0⟩ := Kd.at_int HR0_1.out x6_1 p157 q157
        cases e157
        replace hx157_0 := cH HB hx157_0
        replace p157 := eq_true p157
        replace q157 := eq_true q157
        have p158 : 0 ≤ (x6_1 : Int) := of_decide_eq_true (by first | (with_reducible assumption) | assumption)
        have q158 : x6_1 < (l0_1.length : Int) := of_decide_eq_true (by first | (with_reducible assumption) | assumption)
        obtain ⟨ad158, e158, hx158_0⟩ := Kd.at_int HR0_1.out x6_1 p158 q158
        obtain rfl : ad157 = ad158 := (by injection e158)
        replace hx158_0 := cH HB hx158_0
        replace p158 := eq_true p158
        replace q158 := eq_true q158
        go_wp2_with (first | (go_at_call 69; (with_reducible refine (spec_l01Ones.calls k1 (rd l0_1 x6_1) t159 _ A9.out).mono ?_); rintro e w' ⟨rfl, ⟨nd, rfl⟩⟩) | (go_at_call 69; (with_reducible refine (spec_l01Ones.calls k1 a1 t160 _ A10.out).mono ?_); rintro e w' ⟨rfl, ⟨nd, rfl⟩⟩; have p161 : 0 ≤ (x6_1 : Int) := of_decide_eq_true (by first | (with_reducible assumption) | assumption); have q161 : x6_1 < (l0_1.length : Int) := of_decide_eq_true (by first | (with_reducible assumption) | assumption); obtain ⟨ad161, e161, hx161_0⟩ := Kd.at_int HR0_1.out x6_1 p161 q161; obtain rfl : ad157 = ad161 := (by injection e161); replace hx161_0 := cH HB hx161_0; replace p161 := eq_true p161; replace q161 := eq_true q161) | ((with_reducible refine gate_builtin (b := .append) (xs := #[.tmp 36, .tmp 42]) rfl ?_); at_builtin; refine Kd.R_append (Kd.int .i64) (w0 := w) w.heap.size rfl (.tmp 36) (.tmp 42) 22 2 (.int .i64 0) 8 rfl Tryz.underlying22 info2 rfl (by decide) (by omega) u5 x5_1 (rd l0_1 x6_1) [.int .i64 (rd l0_1 x6_1)] (fun _ => True) (fun _ => False) rfl rfl ?aP (fun _ hk => hk.elim) ?aF ?aO ?aB ?aS ?aL ?_; (case aP => exact rfl); (case aB => exact (pH HB)); (case aF => exact (fun _ _ => trivial)); (case aO => exact (pR HO_5)); (case aS => exact (below_size (pH HB))); (case aL => have := LMc12.out; omega); intro v163 w14 ho hb hg hat; rw [← Ny162.out] at ho; replace BK153 := Aside0.mk (blk_grown (g := gb153) (o := .cells #[.int .i64 a0_0, .slice (some ad157) l0_1.length c0_1] 29 (0, 0)) (pB BK153) hg (Kd.R_ne HO_5.out BK153.out (by decide))); replace HB := Aside0.mk (hb); have HO164 := Aside0.mk (ho); clear HO_5; clear ho hb hg hat))
        go_roundg k1
        case measure => have := HK1.out; omega
        case rel => exact ⟨(y162), (wrap64 (x6_1 + 1)), (by first | rfl | (simp; done) | (simp [*]; done)), H', ⟨by have := HK1.out; omega⟩, ⟨by (with_reducible repeat (first | apply Kd.R_alloc | apply Kd.R_drewN | apply Kd.R_drew)); exact HO164.out⟩, ⟨pB BK153⟩, ⟨pH HB⟩⟩
       ·rw [if_neg c12] at H
        exact absurd H (by simp)
      ·rw [if_neg c11] at H
       have c11b0 : (t159 == (wrap64 (t160 + 1))) = false := beq_eq_false_iff_ne.mpr c11
       have c11b1 : (t159 != (wrap64 (t160 + 1))) = true := bne_iff_ne.mpr c11
       have H' := Aside0.mk H
       clear H
       have hcz15_0 : wr.cell? ⟨gb153, 0, none⟩ = some (.int .i64 a0_0) := cB BK153 0
       have hcz15_1 : wr.cell? ⟨gb153, 1, none⟩ = some (.slice A0_1 l0_1.length c0_1) := cB BK153 1
       have hfz15_0 := zB BK153 0
       have hfz15_1 := zB BK153 1
       have p157 : 0 ≤ (x6_1 : Int) := of_decide_eq_true (by first | (with_reducible assumption) | assumption)
       have q157 : x6_1 < (l0_1.length : Int) := of_decide_eq_true (by first | (with_reducible assumption) | assumption)
       obtain ⟨ad157, e157, hx157_0⟩ := Kd.at_int HR0_1.out x6_1 p157 q157
       cases e157
       replace hx157_0 := cH HB hx157_0
       replace p157 := eq_true p157
       replace q157 := eq_true q157
       have p158 : 0 ≤ (x6_1 : Int) := of_decide_eq_true (by first | (with_reducible assumption) | assumption)
       have q158 : x6_1 < (l0_1.length : Int) := of_decide_eq_true (by first | (with_reducible assumption) | assumption)
       obtain ⟨ad158, e158, hx158_0⟩ := Kd.at_int HR0_1.out x6_1 p158 q158
       obtain rfl : ad157 = ad158 := (by injection e158)
       replace hx158_0 := cH HB hx158_0
       replace p158 := eq_true p158
       replace q158 := eq_true q158
       go_wp2_with (first | (go_at_call 69; (with_reducible refine (spec_l01Ones.calls k1 (rd l0_1 x6_1) t159 _ A9.out).mono ?_); rintro e w' ⟨rfl, ⟨nd, rfl⟩⟩) | (go_at_call 69; (with_reducible refine (spec_l01Ones.calls k1 a1 t160 _ A10.out).mono ?_); rintro e w' ⟨rfl, ⟨nd, rfl⟩⟩))
       go_roundg k1
       case measure => have := HK1.out; omega
       case rel => exact ⟨(x5_1), (wrap64 (x6_1 + 1)), (by first | rfl | (simp; done) | (simp [*]; done)), H', ⟨by have := HK1.out; omega⟩, ⟨by (with_reducible repeat (first | apply Kd.R_alloc | apply Kd.R_drewN | apply Kd.R_drew)); exact HO_5.out⟩, ⟨pB BK153⟩, ⟨pH HB⟩⟩
     ·rw [if_neg c8] at H
      have c8b0 : ((Go.bits .and .i64 (rd l0_1 x6_1) a1) == a1) = false := beq_eq_false_iff_ne.mpr c8
      have c8b1 : ((Go.bits .and .i64 (rd l0_1 x6_1) a1) != a1) = true := bne_iff_ne.mpr c8
      have H' := Aside0.mk H
      clear H
      have hcz16_0 : wr.cell? ⟨gb153, 0, none⟩ = some (.int .i64 a0_0) := cB BK153 0
      have hcz16_1 : wr.cell? ⟨gb153, 1, none⟩ = some (.slice A0_1 l0_1.length c0_1) := cB BK153 1
      have hfz16_0 := zB BK153 0
      have hfz16_1 := zB BK153 1
      have p157 : 0 ≤ (x6_1 : Int) := of_decide_eq_true (by first | (with_reducible assumption) | assumption)
      have q157 : x6_1 < (l0_1.length : Int) := of_decide_eq_true (by first | (with_reducible assumption) | assumption)
      obtain ⟨ad157, e157, hx157_0⟩ := Kd.at_int HR0_1.out x6_1 p157 q157
      cases e157
      replace hx157_0 := cH HB hx157_0
      replace p157 := eq_true p157
      replace q157 := eq_true q157
      go_wp2
      go_roundg k1
      case measure => have := HK1.out; omega
      case rel => exact ⟨(x5_1), (wrap64 (x6_1 + 1)), (by first | rfl | (simp; done) | (simp [*]; done)), H', ⟨by have := HK1.out; omega⟩, ⟨by (with_reducible repeat (first | apply Kd.R_alloc | apply Kd.R_drewN | apply Kd.R_drew)); exact HO_5.out⟩, ⟨pB BK153⟩, ⟨pH HB⟩⟩
    ·rw [if_neg c7] at H
     exact absurd H (by simp)
   ·rw [if_neg c6] at H
    have c6b0 : decide (x6_1 < (l0_1.length : Int)) = false := decide_eq_false c6
    clear c6
    obtain rfl := Option.some.inj H
    have hcz17_0 : wr.cell? ⟨gb153, 0, none⟩ = some (.int .i64 a0_0) := cB BK153 0
    have hcz17_1 : wr.cell? ⟨gb153, 1, none⟩ = some (.slice A0_1 l0_1.length c0_1) := cB BK153 1
    have hfz17_0 := zB BK153 0
    have hfz17_1 := zB BK153 1
    go_wp2
    go_ret
    exact ⟨_, by first | rfl | (simp [errW_none, errW_some] <;> rfl) | (simp [*, errW_none, errW_some] <;> rfl) | (exfalso; simp_all), by (with_reducible repeat (first | apply Kd.R_alloc | apply Kd.R_drewN | apply Kd.R_drew)); exact HO_5.out, pH HB⟩
end Go.Proofs.YtdlmlmaoacmdiaaGreat.QS
namespace Go.Proofs.YtdlmlmaoacmdiaaGreat.Pu
open Go.RowKit QS Im YtdlmlmaoacmdiaaGreatW.PrintWords YtdlmlmaoacmdiaaGreatW.PrintLast YtdlmlmaoacmdiaaGreatW.PrintMore
theorem ones_all : ((List.range 64).all fun f => spec_l01Ones.f 8 (f : Int) == some (onesZ (f : Int))) = true := by decide +kernel
theorem ev_ones {x : Int} (h0 : 0 ≤ x) (h6 : x ≤ 63) : Ev (fun k => spec_l01Ones.f k x) (onesZ x) := by
  obtain ⟨m, rfl⟩ := Int.eq_ofNat_of_zero_le h0
  exact Ev.of (fun k => spec_l01Ones.mono _ k) (eq_of_beq (List.all_eq_true.1 ones_all m (List.mem_range.2 (by omega))))
theorem ones_le (x : Int) : 0 ≤ onesZ x ∧ onesZ x ≤ 6 := by
  have : (verts x).length ≤ 6 := verts_len x
  unfold onesZ; omega
def overP (f x : Int) : Bool := Go.bits .and .i64 x f == f && onesZ x == onesZ f + 1
theorem above_loop (n f : Int) (hf : 0 ≤ f ∧ f ≤ 63) (l : List Int) (hl : l.length ≤ 64) (hr : ∀ x ∈ l, 1 ≤ x ∧ x ≤ 63) : ∀ d (i : Nat) (acc : List Int), l.length - i = d → i ≤ l.length → acc.length ≤ i →
    Ev (fun k => spec_l01Above.l0 k f acc i n l) (acc ++ (l.drop i).filter (overP f)) := by
  intro d
  induction d with
  | zero =>
    intro i acc hd hi ha
    rw [List.drop_eq_nil_of_le (by omega), List.filter_nil, List.append_nil]
    refine Ev.step (f := fun k => some acc) (fun k => ?_) (Ev.now _)
    simp only [spec_l01Above.l0]; rw [if_neg (by omega)]
  | succ d ih =>
    intro i acc hd hi ha
    have hi' : i < l.length := by omega
    have hx := hr _ (List.getElem_mem hi')
    have hw : wrap64 ((i : Int) + 1) = ((i + 1 : Nat) : Int) := by rw [w64 (by omega) (by omega)]; omega
    rw [List.drop_eq_getElem_cons hi']
    by_cases hc : Go.bits .and .i64 l[i] f = f
    · refine Ev.step (f := fun k => (spec_l01Ones.f k l[i]).bind fun t262 => ((spec_l01Ones.f k f).bind fun t263 => (if t262 = (wrap64 (t263 + 1)) then (spec_l01Above.l0 k f (acc ++ [l[i]]) ((i + 1 : Nat) : Int) n l) else (spec_l01Above.l0 k f acc ((i + 1 : Nat) : Int) n l)))) (fun k => ?_) ?_
      · simp only [spec_l01Above.l0]
        rw [if_pos (by omega), if_pos (by omega), rd_at hi', if_pos hc, hw]
        simp only [if_pos (show acc.length < 17592186044416 by omega)]
      · refine Ev.bind (ev_ones (by omega) (by omega)) ?_
        refine Ev.bind (ev_ones hf.1 hf.2) ?_
        have h1 := ones_le f
        rw [w64 (by omega) (by omega)]
        by_cases ho : onesZ l[i] = onesZ f + 1
        · simp only [if_pos ho]
          rw [List.filter_cons_of_pos (by simp [overP, hc, ho])]
          have := ih (i + 1) (acc ++ [l[i]]) (by omega) (by omega) (by rw [List.length_append]; simp; omega)
          rw [List.append_assoc] at this
          exact this
        · simp only [if_neg ho]
          rw [List.filter_cons_of_neg (by simp [overP, ho])]
          exact ih (i + 1) acc (by omega) (by omega) (by omega)
    · refine Ev.step (f := fun k => spec_l01Above.l0 k f acc ((i + 1 : Nat) : Int) n l) (fun k => ?_) ?_
      · simp only [spec_l01Above.l0]
        rw [if_pos (by omega), if_pos (by omega), rd_at hi', if_neg hc, hw]
      · rw [List.filter_cons_of_neg (by simp [overP, hc])]
        exact ih (i + 1) acc (by omega) (by omega) (by omega)
theorem ev_above (n f : Int) (hf : 0 ≤ f ∧ f ≤ 63) {l : List Int} (hl : l.length ≤ 64) (hr : ∀ x ∈ l, 1 ≤ x ∧ x ≤ 63) : Ev (fun k => spec_l01Above.f k n l f) (l.filter (overP f)) := by
  have := above_loop n f hf l hl hr _ 0 [] rfl (Nat.zero_le _) (by simp)
  rw [List.drop_zero, List.nil_append] at this
  exact this
end Go.Proofs.YtdlmlmaoacmdiaaGreat.Pu
namespace Go.Proofs.YtdlmlmaoacmdiaaGreat.QS
open Cw Kp Ext Go.RowKit YtdlmlmaoacmdiaaGreatW.PrintWords YtdlmlmaoacmdiaaGreatW.PrintLast YtdlmlmaoacmdiaaGreatW.PrintMore
attribute [local go_sem] max2_int min2_int max_two min_two max_three min_three max_four min_four   -- for this text's walks alone
def spec_l02Less.f (a0_0 : Int) (a0_1 : Int) (a1_0 : Int) (a1_1 : Int) : Option (Bool) := if a0_0 < a1_0 then (some true) else (if a0_0 = a1_0 then (some (decide (a0_1 < a1_1))) else (some false))
set_option maxHeartbeats 8000000 in
set_option maxRecDepth 100000 in
theorem spec_l02Less.calls (a0_0 : Int) (a0_1 : Int) (a1_0 : Int) (a1_1 : Int) (r : Bool) (w : World) (h : spec_l02Less.f a0_0 a0_1 a1_0 a1_1 = some r) :
  Calls Tryz.prog 70 #[.agg #[.int .i64 a0_0, .int .i64 a0_1], .agg #[.int .i64 a1_0, .int .i64 a1_1]] w fun e w' => e = .returned (.bool r) ∧ Below w.heap.size w w' := by
 have hu62 := Tryz.underlying62
 have HB := Aside0.mk (Below.refl w.heap.size w)
 have H : (if a0_0 < a1_0 then (some true) else (if a0_0 = a1_0 then (some (decide (a0_1 < a1_1))) else (some false))) = some r := h
 clear h
 by_cases c3 : a0_0 < a1_0
 ·rw [if_pos c3] at H
  have c3b0 : decide (a0_0 < a1_0) = true := decide_eq_true c3
  clear c3
  obtain rfl := Option.some.inj H
  go_enter Tryz.func70, Tryz.ntmps70
  go_wp2_with (first | ((with_reducible refine gate_dst (N := 2) rfl ?_); refine box_event ?hg (N := 2) ?hd (cs := #[.int .i64 a0_0, .int .i64 a0_1]) (t := 62) ?hr ?_; (case hd => rfl); (case hg => rfl); (case hr => first | (go_simp; done) | (go_simp; rfl)); intro gb165 hg w4 hbox hb; have BK165 := Aside0.mk (hbox); have GW165 := gH HB hg; have GE165 := gH HB hg; replace HB := sH HB hb; clear hb hbox hg) | ((with_reducible refine gate_dst (N := 3) rfl ?_); refine box_event ?hg (N := 3) ?hd (cs := #[.int .i64 a1_0, .int .i64 a1_1]) (t := 62) ?hr ?_; (case hd => rfl); (case hg => rfl); (case hr => first | (go_simp; done) | (go_simp; rfl)); intro gb166 hg w5 hbox hb; have BK166 := Aside0.mk (hbox); have GW166 := gH HB hg; have GE166 := gH HB hg; replace HB := sH HB hb; have NB165_166 := nB BK165 hg; have NB166_165 := oB BK165 hg; replace BK165 := sB BK165 hb; clear hb hbox hg; (try have hnb6 := NB165_166.out); (try have hnc6 := NB166_165.out); have hcz7_0 : w5.cell? ⟨gb165, 0, none⟩ = some (.int .i64 a0_0) := cB BK165 0; have hcz7_1 : w5.cell? ⟨gb165, 1, none⟩ = some (.int .i64 a0_1) := cB BK165 1; have hfz7_0 := zB BK165 0; have hfz7_1 := zB BK165 1; have hcz8_0 : w5.cell? ⟨gb166, 0, none⟩ = some (.int .i64 a1_0) := cB BK166 0; have hcz8_1 : w5.cell? ⟨gb166, 1, none⟩ = some (.int .i64 a1_1) := cB BK166 1; have hfz8_0 := zB BK166 0; have hfz8_1 := zB BK166 1))
  go_ret
  exact ⟨by first | rfl | (simp [errW_none, errW_some] <;> rfl) | (simp [*, errW_none, errW_some] <;> rfl) | (exfalso; simp_all), pH HB⟩
 ·rw [if_neg c3] at H
  have c3b0 : decide (a0_0 < a1_0) = false := decide_eq_false c3
  clear c3
  by_cases c9 : a0_0 = a1_0
  ·rw [if_pos c9] at H
   have c9b0 : (a0_0 == a1_0) = true := beq_iff_eq.mpr c9
   have c9b1 : (a0_0 != a1_0) = false := bne_eq_false_iff_eq.mpr c9
   clear c9
   obtain rfl := Option.some.inj H
   go_enter Tryz.func70, Tryz.ntmps70
   go_wp2_with (first | ((with_reducible refine gate_dst (N := 2) rfl ?_); refine box_event ?hg (N := 2) ?hd (cs := #[.int .i64 a0_0, .int .i64 a0_1]) (t := 62) ?hr ?_; (case hd => rfl); (case hg => rfl); (case hr => first | (go_simp; done) | (go_simp; rfl)); intro gb165 hg w10 hbox hb; have BK165 := Aside0.mk (hbox); have GW165 := gH HB hg; have GE165 := gH HB hg; replace HB := sH HB hb; clear hb hbox hg) | ((with_reducible refine gate_dst (N := 3) rfl ?_); refine box_event ?hg (N := 3) ?hd (cs := #[.int .i64 a1_0, .int .i64 a1_1]) (t := 62) ?hr ?_; (case hd => rfl); (case hg => rfl); (case hr => first | (go_simp; done) | (go_simp; rfl)); intro gb166 hg w11 hbox hb; have BK166 := Aside0.mk (hbox); have GW166 := gH HB hg; have GE166 := gH HB hg; replace HB := sH HB hb; have NB165_166 := nB BK165 hg; have NB166_165 := oB BK165 hg; replace BK165 := sB BK165 hb; clear hb hbox hg; (try have hnb12 := NB165_166.out); (try have hnc12 := NB166_165.out); have hcz13_0 : w11.cell? ⟨gb165, 0, none⟩ = some (.int .i64 a0_0) := cB BK165 0; have hcz13_1 : w11.cell? ⟨gb165, 1, none⟩ = some (.int .i64 a0_1) := cB BK165 1; have hfz13_0 := zB BK165 0; have hfz13_1 := zB BK165 1; have hcz14_0 : w11.cell? ⟨gb166, 0, none⟩ = some (.int .i64 a1_0) := cB BK166 0; have hcz14_1 : w11.cell? ⟨gb166, 1, none⟩ = some (.int .i64 a1_1) := cB BK166 1; have hfz14_0 := zB BK166 0; have hfz14_1 := zB BK166 1))
   go_ret
   exact ⟨by first | rfl | (simp [errW_none, errW_some] <;> rfl) | (simp [*, errW_none, errW_some] <;> rfl) | (exfalso; simp_all), pH HB⟩
  ·rw [if_neg c9] at H
   have c9b0 : (a0_0 == a1_0) = false := beq_eq_false_iff_ne.mpr c9
   have c9b1 : (a0_0 != a1_0) = true := bne_iff_ne.mpr c9
   obtain rfl := Option.some.inj H
   go_enter Tryz.func70, Tryz.ntmps70
   go_wp2_with (first | ((with_reducible refine gate_dst (N := 2) rfl ?_); refine box_event ?hg (N := 2) ?hd (cs := #[.int .i64 a0_0, .int .i64 a0_1]) (t := 62) ?hr ?_; (case hd => rfl); (case hg => rfl); (case hr => first | (go_simp; done) | (go_simp; rfl)); intro gb165 hg w15 hbox hb; have BK165 := Aside0.mk (hbox); have GW165 := gH HB hg; have GE165 := gH HB hg; replace HB := sH HB hb; clear hb hbox hg) | ((with_reducible refine gate_dst (N := 3) rfl ?_); refine box_event ?hg (N := 3) ?hd (cs := #[.int .i64 a1_0, .int .i64 a1_1]) (t := 62) ?hr ?_; (case hd => rfl); (case hg => rfl); (case hr => first | (go_simp; done) | (go_simp; rfl)); intro gb166 hg w16 hbox hb; have BK166 := Aside0.mk (hbox); have GW166 := gH HB hg; have GE166 := gH HB hg; replace HB := sH HB hb; have NB165_166 := nB BK165 hg; have NB166_165 := oB BK165 hg; replace BK165 := sB BK165 hb; clear hb hbox hg; (try have hnb17 := NB165_166.out); (try have hnc17 := NB166_165.out); have hcz18_0 : w16.cell? ⟨gb165, 0, none⟩ = some (.int .i64 a0_0) := cB BK165 0; have hcz18_1 : w16.cell? ⟨gb165, 1, none⟩ = some (.int .i64 a0_1) := cB BK165 1; have hfz18_0 := zB BK165 0; have hfz18_1 := zB BK165 1; have hcz19_0 : w16.cell? ⟨gb166, 0, none⟩ = some (.int .i64 a1_0) := cB BK166 0; have hcz19_1 : w16.cell? ⟨gb166, 1, none⟩ = some (.int .i64 a1_1) := cB BK166 1; have hfz19_0 := zB BK166 0; have hfz19_1 := zB BK166 1))
   go_ret
   exact ⟨by first | rfl | (simp [errW_none, errW_some] <;> rfl) | (simp [*, errW_none, errW_some] <;> rfl) | (exfalso; simp_all), pH HB⟩
def spec_l02Pair.f (k : Nat) (a0_0 : Int) (l0_1 : List Int) (a1_0 : Int) (a1_1 : Int) : Option (Bool) := (spec_l01Has.f k a0_0 l0_1 a1_0).bind fun t169 => (if t169 = true then ((spec_l01Has.f k a0_0 l0_1 a1_1).bind fun t170 => (if t170 = true then (if (Go.bits .and .i64 a1_0 a1_1) = a1_0 then ((spec_l01Ones.f k a1_1).bind fun t171 => ((spec_l01Ones.f k a1_0).bind fun t172 => (some (t171 == (wrap64 (t172 + 1)))))) else (some false)) else (some false))) else (some false))
def spec_l02Pair.T1 : Bool × List (List Nat × List Nat) := (true, [([], []), ([], []), ([1], [1]), ([0, 2], [0, 2]), ([3, 3], [3]), ([4], [4]), ([4], [4]), ([6, 4], [4, 6]), ([5, 7, 4, 4], [4, 5, 7]), ([4, 8], [4, 8]), ([9, 8], [9]), ([10], [10]), ([11, 10], [10, 11]), ([10], [10]), ([13, 10], [10, 13]), ([12, 14, 10], [10, 12, 14]), ([10], [10]), ([16, 10], [10, 16]), ([15, 17, 10], [10, 15, 17]), ([10, 18], [10, 18]), ([19, 10], [19]), ([20], [20]), ([21, 20], [20, 21]), ([22, 20, 20], [20, 22]), ([20], [20]), ([24, 20], [20, 24]), ([25, 23, 20], [20, 25]), ([26, 20], [20, 26]), ([23, 27, 20], [20, 23, 27]), ([20, 28], [20, 28]), ([29, 26, 0, 1, 2, 3, 4, 5, 6, 7, 8, 9, 10, 11, 12, 13, 14, 15, 16, 17, 18, 19, 20, 21, 22, 23, 24, 25, 26, 27, 28, 29], [29])])
def spec_l02Pair.B1 : List Nat := [0, 0, 2, 7, 15, 31, 31, 95, 255, 511, 1023, 2047, 4095, 2047, 10239, 32767, 2047, 67583, 262143, 524287, 1048575, 2097151, 4194303, 8388607, 2097151, 18874367, 67108863, 134217727, 268435455, 536870911, 1073741823]
theorem spec_l02Pair.tab1 : rtab .any (opsOf Tryz.f92 1) = spec_l02Pair.T1 := by kernel_rfl
theorem spec_l02Pair.bits1 : waitsOk spec_l02Pair.T1.2 spec_l02Pair.B1 = true := by kernel_rfl
set_option maxHeartbeats 8000000 in
set_option maxRecDepth 100000 in
theorem spec_l02Pair.calls (k : Nat) (a0_0 : Int) (A0_1 : Option Addr) (c0_1 : Nat) (l0_1 : List Int) (a1_0 : Int) (a1_1 : Int) (r : Bool) (w : World) (hr0_1 : Kd.C (Kd.int .i64) w A0_1 l0_1.length l0_1) (hc0_1 : l0_1.length ≤ c0_1) (h : spec_l02Pair.f k a0_0 l0_1 a1_0 a1_1 = some r) :
  Calls Tryz.prog 92 #[.agg #[.int .i64 a0_0, .slice A0_1 l0_1.length c0_1], .agg #[.int .i64 a1_0, .int .i64 a1_1]] w fun e w' => e = .returned (.bool r) ∧ Below w.heap.size w w' := by
 have hu29 := Tryz.underlying29
 have hu62 := Tryz.underlying62
 have HR0_1 := Aside0.mk hr0_1
 have HC0_1 := Aside0.mk hc0_1
 clear hr0_1 hc0_1
 have HB := Aside0.mk (Below.refl w.heap.size w)
 have H : ((spec_l01Has.f k a0_0 l0_1 a1_0).bind fun t169 => (if t169 = true then ((spec_l01Has.f k a0_0 l0_1 a1_1).bind fun t170 => (if t170 = true then (if (Go.bits .and .i64 a1_0 a1_1) = a1_0 then ((spec_l01Ones.f k a1_1).bind fun t171 => ((spec_l01Ones.f k a1_0).bind fun t172 => (some (t171 == (wrap64 (t172 + 1)))))) else (some false)) else (some false))) else (some false))) = some r := h
 clear h
 replace H := Option.bind_eq_some_iff.mp H
 obtain ⟨t169, A30, H⟩ := H
 try dsimp only at H
 have A3 := Aside0.mk A30
 clear A30
 by_cases c4 : t169 = true
 ·subst c4
  have H1 : ((spec_l01Has.f k a0_0 l0_1 a1_1).bind fun t170 => (if t170 = true then (if (Go.bits .and .i64 a1_0 a1_1) = a1_0 then ((spec_l01Ones.f k a1_1).bind fun t171 => ((spec_l01Ones.f k a1_0).bind fun t172 => (some (t171 == (wrap64 (t172 + 1)))))) else (some false)) else (some false))) = some r := by rw [if_pos rfl] at H; exact H
  clear H
  have H := H1
  clear H1
  replace H := Option.bind_eq_some_iff.mp H
  obtain ⟨t170, A50, H⟩ := H
  try dsimp only at H
  have A5 := Aside0.mk A50
  clear A50
  by_cases c6 : t170 = true
  ·subst c6
   have H1 : (if (Go.bits .and .i64 a1_0 a1_1) = a1_0 then ((spec_l01Ones.f k a1_1).bind fun t171 => ((spec_l01Ones.f k a1_0).bind fun t172 => (some (t171 == (wrap64 (t172 + 1)))))) else (some false)) = some r := by rw [if_pos rfl] at H; exact H
   clear H
   have H := H1
   clear H1
   by_cases c7 : (Go.bits .and .i64 a1_0 a1_1) = a1_0
   ·rw [if_pos c7] at H
    have c7b0 : ((Go.bits .and .i64 a1_0 a1_1) == a1_0) = true := beq_iff_eq.mpr c7
    have c7b1 : ((Go.bits .and .i64 a1_0 a1_1) != a1_0) = false := bne_eq_false_iff_eq.mpr c7
    clear c7
    replace H := Option.bind_eq_some_iff.mp H
    obtain ⟨t171, A80, H⟩ := H
    try dsimp only at H
    have A8 := Aside0.mk A80
    clear A80
    replace H := Option.bind_eq_some_iff.mp H
    obtain ⟨t172, A90, H⟩ := H
    try dsimp only at H
    have A9 := Aside0.mk A90
    clear A90
    obtain rfl := Option.some.inj H
    go_enter Tryz.func92, Tryz.ntmps92
    try go_wp2_with (first | ((with_reducible refine gate_dst (N := 2) rfl ?_); refine box_event ?hg (N := 2) ?hd (cs := #[.int .i64 a0_0, .slice A0_1 l0_1.length c0_1]) (t := 29) ?hr ?_; (case hd => rfl); (case hg => rfl); (case hr => first | (go_simp; done) | (go_simp; rfl)); intro gb167 hg w10 hbox hb; have BK167 := Aside0.mk (hbox); have GW167 := gH HB hg; have GE167 := gH HB hg; replace HB := sH HB hb; clear hb hbox hg) | ((with_reducible refine gate_dst (N := 3) rfl ?_); refine box_event ?hg (N := 3) ?hd (cs := #[.int .i64 a1_0, .int .i64 a1_1]) (t := 62) ?hr ?_; (case hd => rfl); (case hg => rfl); (case hr => first | (go_simp; done) | (go_simp; rfl)); intro gb168 hg w11 hbox hb; have BK168 := Aside0.mk (hbox); have GW168 := gH HB hg; have GE168 := gH HB hg; replace HB := sH HB hb; have NB167_168 := nB BK167 hg; have NB168_167 := oB BK167 hg; replace BK167 := sB BK167 hb; clear hb hbox hg))
    replace BK167 := dB BK167
    replace BK168 := dB BK168
    replace HB := dH HB
    refine st_ 31 (S := fun w' => w'.cell? ⟨gb167, 0, none⟩ = some (.int .i64 a0_0) ∧ w'.cell? ⟨gb167, 1, none⟩ = some (.slice A0_1 l0_1.length c0_1) ∧ w'.cell? ⟨gb168, 0, none⟩ = some (.int .i64 a1_0) ∧ w'.cell? ⟨gb168, 1, none⟩ = some (.int .i64 a1_1)) (ds := []) ⟨cB BK167 0, cB BK167 1, cB BK168 0, cB BK168 1⟩ (fun hHeld => ?_); refine with_tabW spec_l02Pair.tab1 spec_l02Pair.bits1 (fun HT_ HW_ => ?_)
    generalize w11.drew = w12 at BK167 BK168 HB hHeld ⊢
    refine pu_ 1 6 2 HT_ ?_
    refine tk_ 0 5 3 HT_ HW_ hHeld ?_
    refine tk_ 2 7 7 HT_ HW_ hHeld ?_
    refine on_ 3 (some 8) 15 HT_ (fun K hK => ?_)
    refine ca_ Tryz.func49 #[.agg #[.int .i64 a0_0, .slice A0_1 l0_1.length c0_1], .int .i64 a1_0] ?_
    with_reducible refine (spec_l01Has.calls k a0_0 _ _ l0_1 a1_0 true _ ?side1 ?side2 A3.out).mono ?_
    (case side1 => exact pC ((Kd.C_below HR0_1.out HB.out)))
    (case side2 => exact HC0_1.out)
    rintro e w13 ⟨rfl, hb⟩
    refine ⟨_, rfl, ?_⟩
    replace BK167 := sB BK167 hb
    replace BK168 := sB BK168 hb
    replace HB := sH HB hb
    (try clear hb)
    (try clear hb2)
    (try clear hk)
    (try clear hi)
    refine hK.out _ _ ⟨cB BK167 0, cB BK167 1, cB BK168 0, cB BK168 1⟩ (fun hHeld => ?_)
    clear hK K
    refine nm_ ?_
    refine pu_ 4 9 31 HT_ ?_
    refine pu_ 6 11 95 HT_ ?_
    refine tk_ 5 10 127 HT_ HW_ hHeld ?_
    refine tk_ 7 12 255 HT_ HW_ hHeld ?_
    refine on_ 8 (some 13) 511 HT_ (fun K hK => ?_)
    refine ca_ Tryz.func49 #[.agg #[.int .i64 a0_0, .slice A0_1 l0_1.length c0_1], .int .i64 a1_1] ?_
    with_reducible refine (spec_l01Has.calls k a0_0 _ _ l0_1 a1_1 true _ ?side1 ?side2 A5.out).mono ?_
    (case side1 => exact pC ((Kd.C_below HR0_1.out HB.out)))
    (case side2 => exact HC0_1.out)
    rintro e w14 ⟨rfl, hb⟩
    refine ⟨_, rfl, ?_⟩
    replace BK167 := sB BK167 hb
    replace BK168 := sB BK168 hb
    replace HB := sH HB hb
    (try clear hb)
    (try clear hb2)
    (try clear hk)
    (try clear hi)
    refine hK.out _ _ ⟨cB BK167 0, cB BK167 1, cB BK168 0, cB BK168 1⟩ (fun hHeld => ?_)
    clear hK K
    refine nm_ ?_
    refine pu_ 9 14 1023 HT_ ?_
    refine pu_ 10 15 2047 HT_ ?_
    refine pu_ 11 16 4095 HT_ ?_
    refine pu_ 13 18 12287 HT_ ?_
    refine pu_ 16 21 77823 HT_ ?_
    refine tk_ 12 17 81919 HT_ HW_ hHeld ?_
    refine tk_ 14 19 98303 HT_ HW_ hHeld ?_
    refine pu_ 15 20 131071 HT_ ?_
    refine tk_ 17 22 262143 HT_ HW_ hHeld ?_
    refine pu_ 18 23 524287 HT_ ?_
    refine pu_ 19 24 1048575 HT_ ?_
    refine pu_ 20 25 2097151 HT_ ?_
    refine pu_ 21 26 4194303 HT_ ?_
    refine pu_ 24 29 20971519 HT_ ?_
    refine tk_ 22 27 25165823 HT_ HW_ hHeld ?_
    refine tk_ 25 30 58720255 HT_ HW_ hHeld ?_
    refine on_ 23 (some 28) 67108863 HT_ (fun K hK => ?_)
    refine ca_ Tryz.func69 #[.int .i64 a1_1] ?_
    with_reducible refine (spec_l01Ones.calls k a1_1 t171 _ A8.out).mono ?_
    rintro e w' ⟨rfl, ⟨nd, rfl⟩⟩
    refine ⟨_, rfl, ?_⟩
    refine hK.out _ _ ⟨cB BK167 0, cB BK167 1, cB BK168 0, cB BK168 1⟩ (fun hHeld => ?_)
    clear hK K
    refine nm_ ?_
    refine on_ 26 (some 31) 134217727 HT_ (fun K hK => ?_)
    refine ca_ Tryz.func69 #[.int .i64 a1_0] ?_
    with_reducible refine (spec_l01Ones.calls k a1_0 t172 _ A9.out).mono ?_
    rintro e w' ⟨rfl, ⟨nd, rfl⟩⟩
    refine ⟨_, rfl, ?_⟩
    refine hK.out _ _ ⟨cB BK167 0, cB BK167 1, cB BK168 0, cB BK168 1⟩ (fun hHeld => ?_)
    clear hK K
    refine nm_ ?_
    refine pu_ 27 32 268435455 HT_ ?_
    refine pu_ 28 33 536870911 HT_ ?_
    refine pu_ 29 34 1073741823 HT_ ?_
    refine pu_ 30 4 2147483647 HT_ ?_
    refine dn_ HT_ ?_
    try go_wp2
    go_ret
    exact ⟨by first | rfl | (simp [errW_none, errW_some] <;> rfl) | (simp [*, errW_none, errW_some] <;> rfl) | (exfalso; simp_all), pH HB⟩
   ·rw [if_neg c7] at H
    have c7b0 : ((Go.bits .and .i64 a1_0 a1_1) == a1_0) = false := beq_eq_false_iff_ne.mpr c7
    have c7b1 : ((Go.bits .and .i64 a1_0 a1_1) != a1_0) = true := bne_iff_ne.mpr c7
    obtain rfl := Option.some.inj H
    go_enter Tryz.func92, Tryz.ntmps92
    try go_wp2_with (first | ((with_reducible refine gate_dst (N := 2) rfl ?_); refine box_event ?hg (N := 2) ?hd (cs := #[.int .i64 a0_0, .slice A0_1 l0_1.length c0_1]) (t := 29) ?hr ?_; (case hd => rfl); (case hg => rfl); (case hr => first | (go_simp; done) | (go_simp; rfl)); intro gb167 hg w15 hbox hb; have BK167 := Aside0.mk (hbox); have GW167 := gH HB hg; have GE167 := gH HB hg; replace HB := sH HB hb; clear hb hbox hg) | ((with_reducible refine gate_dst (N := 3) rfl ?_); refine box_event ?hg (N := 3) ?hd (cs := #[.int .i64 a1_0, .int .i64 a1_1]) (t := 62) ?hr ?_; (case hd => rfl); (case hg => rfl); (case hr => first | (go_simp; done) | (go_simp; rfl)); intro gb168 hg w16 hbox hb; have BK168 := Aside0.mk (hbox); have GW168 := gH HB hg; have GE168 := gH HB hg; replace HB := sH HB hb; have NB167_168 := nB BK167 hg; have NB168_167 := oB BK167 hg; replace BK167 := sB BK167 hb; clear hb hbox hg))
    replace BK167 := dB BK167
    replace BK168 := dB BK168
    replace HB := dH HB
    refine st_ 31 (S := fun w' => w'.cell? ⟨gb167, 0, none⟩ = some (.int .i64 a0_0) ∧ w'.cell? ⟨gb167, 1, none⟩ = some (.slice A0_1 l0_1.length c0_1) ∧ w'.cell? ⟨gb168, 0, none⟩ = some (.int .i64 a1_0) ∧ w'.cell? ⟨gb168, 1, none⟩ = some (.int .i64 a1_1)) (ds := []) ⟨cB BK167 0, cB BK167 1, cB BK168 0, cB BK168 1⟩ (fun hHeld => ?_); refine with_tabW spec_l02Pair.tab1 spec_l02Pair.bits1 (fun HT_ HW_ => ?_)
    generalize w16.drew = w17 at BK167 BK168 HB hHeld ⊢
    refine pu_ 1 6 2 HT_ ?_
    refine tk_ 0 5 3 HT_ HW_ hHeld ?_
    refine tk_ 2 7 7 HT_ HW_ hHeld ?_
    refine on_ 3 (some 8) 15 HT_ (fun K hK => ?_)
    refine ca_ Tryz.func49 #[.agg #[.int .i64 a0_0, .slice A0_1 l0_1.length c0_1], .int .i64 a1_0] ?_
    with_reducible refine (spec_l01Has.calls k a0_0 _ _ l0_1 a1_0 true _ ?side1 ?side2 A3.out).mono ?_
    (case side1 => exact pC ((Kd.C_below HR0_1.out HB.out)))
    (case side2 => exact HC0_1.out)
    rintro e w18 ⟨rfl, hb⟩
    refine ⟨_, rfl, ?_⟩
    replace BK167 := sB BK167 hb
    replace BK168 := sB BK168 hb
    replace HB := sH HB hb
    (try clear hb)
    (try clear hb2)
    (try clear hk)
    (try clear hi)
    refine hK.out _ _ ⟨cB BK167 0, cB BK167 1, cB BK168 0, cB BK168 1⟩ (fun hHeld => ?_)
    clear hK K
    refine nm_ ?_
    refine pu_ 4 9 31 HT_ ?_
    refine pu_ 6 11 95 HT_ ?_
    refine tk_ 5 10 127 HT_ HW_ hHeld ?_
    refine tk_ 7 12 255 HT_ HW_ hHeld ?_
    refine on_ 8 (some 13) 511 HT_ (fun K hK => ?_)
    refine ca_ Tryz.func49 #[.agg #[.int .i64 a0_0, .slice A0_1 l0_1.length c0_1], .int .i64 a1_1] ?_
    with_reducible refine (spec_l01Has.calls k a0_0 _ _ l0_1 a1_1 true _ ?side1 ?side2 A5.out).mono ?_
    (case side1 => exact pC ((Kd.C_below HR0_1.out HB.out)))
    (case side2 => exact HC0_1.out)
    rintro e w19 ⟨rfl, hb⟩
    refine ⟨_, rfl, ?_⟩
    replace BK167 := sB BK167 hb
    replace BK168 := sB BK168 hb
    replace HB := sH HB hb
    (try clear hb)
    (try clear hb2)
    (try clear hk)
    (try clear hi)
    refine hK.out _ _ ⟨cB BK167 0, cB BK167 1, cB BK168 0, cB BK168 1⟩ (fun hHeld => ?_)
    clear hK K
    refine nm_ ?_
    refine pu_ 9 14 1023 HT_ ?_
    refine pu_ 10 15 2047 HT_ ?_
    refine pu_ 11 16 4095 HT_ ?_
    refine pu_ 13 18 12287 HT_ ?_
    refine pu_ 16 21 77823 HT_ ?_
    refine tk_ 12 17 81919 HT_ HW_ hHeld ?_
    refine tk_ 14 19 98303 HT_ HW_ hHeld ?_
    refine pu_ 15 20 131071 HT_ ?_
    refine tk_ 17 22 262143 HT_ HW_ hHeld ?_
    refine pu_ 18 23 524287 HT_ ?_
    refine pu_ 19 24 1048575 HT_ ?_
    refine pu_ 20 25 2097151 HT_ ?_
    refine pn_ 21 26 4194303 HT_ ?_
    refine pn_ 22 27 8388607 HT_ ?_
    refine pn_ 23 28 16777215 HT_ ?_
    refine pn_ 24 29 33554431 HT_ ?_
    refine pn_ 25 30 67108863 HT_ ?_
    refine pn_ 26 31 134217727 HT_ ?_
    refine pn_ 27 32 268435455 HT_ ?_
    refine pn_ 28 33 536870911 HT_ ?_
    refine pu_ 29 34 1073741823 HT_ ?_
    refine pu_ 30 4 2147483647 HT_ ?_
    refine dn_ HT_ ?_
    try go_wp2
    go_ret
    exact ⟨by first | rfl | (simp [errW_none, errW_some] <;> rfl) | (simp [*, errW_none, errW_some] <;> rfl) | (exfalso; simp_all), pH HB⟩
  ·replace c6 := Bool.eq_false_iff.mpr c6
   subst c6
   have H1 : (some false) = some r := by rw [if_neg (show ¬ (false = true) by decide)] at H; exact H
   clear H
   have H := H1
   clear H1
   obtain rfl := Option.some.inj H
   go_enter Tryz.func92, Tryz.ntmps92
   try go_wp2_with (first | ((with_reducible refine gate_dst (N := 2) rfl ?_); refine box_event ?hg (N := 2) ?hd (cs := #[.int .i64 a0_0, .slice A0_1 l0_1.length c0_1]) (t := 29) ?hr ?_; (case hd => rfl); (case hg => rfl); (case hr => first | (go_simp; done) | (go_simp; rfl)); intro gb167 hg w20 hbox hb; have BK167 := Aside0.mk (hbox); have GW167 := gH HB hg; have GE167 := gH HB hg; replace HB := sH HB hb; clear hb hbox hg) | ((with_reducible refine gate_dst (N := 3) rfl ?_); refine box_event ?hg (N := 3) ?hd (cs := #[.int .i64 a1_0, .int .i64 a1_1]) (t := 62) ?hr ?_; (case hd => rfl); (case hg => rfl); (case hr => first | (go_simp; done) | (go_simp; rfl)); intro gb168 hg w21 hbox hb; have BK168 := Aside0.mk (hbox); have GW168 := gH HB hg; have GE168 := gH HB hg; replace HB := sH HB hb; have NB167_168 := nB BK167 hg; have NB168_167 := oB BK167 hg; replace BK167 := sB BK167 hb; clear hb hbox hg))
   replace BK167 := dB BK167
   replace BK168 := dB BK168
   replace HB := dH HB
   refine st_ 31 (S := fun w' => w'.cell? ⟨gb167, 0, none⟩ = some (.int .i64 a0_0) ∧ w'.cell? ⟨gb167, 1, none⟩ = some (.slice A0_1 l0_1.length c0_1) ∧ w'.cell? ⟨gb168, 0, none⟩ = some (.int .i64 a1_0) ∧ w'.cell? ⟨gb168, 1, none⟩ = some (.int .i64 a1_1)) (ds := []) ⟨cB BK167 0, cB BK167 1, cB BK168 0, cB BK168 1⟩ (fun hHeld => ?_); refine with_tabW spec_l02Pair.tab1 spec_l02Pair.bits1 (fun HT_ HW_ => ?_)
   generalize w21.drew = w22 at BK167 BK168 HB hHeld ⊢
   refine pu_ 1 6 2 HT_ ?_
   refine tk_ 0 5 3 HT_ HW_ hHeld ?_
   refine tk_ 2 7 7 HT_ HW_ hHeld ?_
   refine on_ 3 (some 8) 15 HT_ (fun K hK => ?_)
   refine ca_ Tryz.func49 #[.agg #[.int .i64 a0_0, .slice A0_1 l0_1.length c0_1], .int .i64 a1_0] ?_
   with_reducible refine (spec_l01Has.calls k a0_0 _ _ l0_1 a1_0 true _ ?side1 ?side2 A3.out).mono ?_
   (case side1 => exact pC ((Kd.C_below HR0_1.out HB.out)))
   (case side2 => exact HC0_1.out)
   rintro e w23 ⟨rfl, hb⟩
   refine ⟨_, rfl, ?_⟩
   replace BK167 := sB BK167 hb
   replace BK168 := sB BK168 hb
   replace HB := sH HB hb
   (try clear hb)
   (try clear hb2)
   (try clear hk)
   (try clear hi)
   refine hK.out _ _ ⟨cB BK167 0, cB BK167 1, cB BK168 0, cB BK168 1⟩ (fun hHeld => ?_)
   clear hK K
   refine nm_ ?_
   refine pu_ 4 9 31 HT_ ?_
   refine pu_ 6 11 95 HT_ ?_
   refine tk_ 5 10 127 HT_ HW_ hHeld ?_
   refine tk_ 7 12 255 HT_ HW_ hHeld ?_
   refine on_ 8 (some 13) 511 HT_ (fun K hK => ?_)
   refine ca_ Tryz.func49 #[.agg #[.int .i64 a0_0, .slice A0_1 l0_1.length c0_1], .int .i64 a1_1] ?_
   with_reducible refine (spec_l01Has.calls k a0_0 _ _ l0_1 a1_1 false _ ?side1 ?side2 A5.out).mono ?_
   (case side1 => exact pC ((Kd.C_below HR0_1.out HB.out)))
   (case side2 => exact HC0_1.out)
   rintro e w24 ⟨rfl, hb⟩
   refine ⟨_, rfl, ?_⟩
   replace BK167 := sB BK167 hb
   replace BK168 := sB BK168 hb
   replace HB := sH HB hb
   (try clear hb)
   (try clear hb2)
   (try clear hk)
   (try clear hi)
   refine hK.out _ _ ⟨cB BK167 0, cB BK167 1, cB BK168 0, cB BK168 1⟩ (fun hHeld => ?_)
   clear hK K
   refine nm_ ?_
   refine pu_ 9 14 1023 HT_ ?_
   refine pu_ 10 15 2047 HT_ ?_
   refine pn_ 11 16 4095 HT_ ?_
   refine pn_ 12 17 8191 HT_ ?_
   refine pn_ 13 18 16383 HT_ ?_
   refine pn_ 14 19 32767 HT_ ?_
   refine pn_ 15 20 65535 HT_ ?_
   refine pn_ 16 21 131071 HT_ ?_
   refine pn_ 17 22 262143 HT_ ?_
   refine pn_ 18 23 524287 HT_ ?_
   refine pu_ 19 24 1048575 HT_ ?_
   refine pu_ 20 25 2097151 HT_ ?_
   refine pn_ 21 26 4194303 HT_ ?_
   refine pn_ 22 27 8388607 HT_ ?_
   refine pn_ 23 28 16777215 HT_ ?_
   refine pn_ 24 29 33554431 HT_ ?_
   refine pn_ 25 30 67108863 HT_ ?_
   refine pn_ 26 31 134217727 HT_ ?_
   refine pn_ 27 32 268435455 HT_ ?_
   refine pn_ 28 33 536870911 HT_ ?_
   refine pu_ 29 34 1073741823 HT_ ?_
   refine pu_ 30 4 2147483647 HT_ ?_
   refine dn_ HT_ ?_
   try go_wp2
   go_ret
   exact ⟨by first | rfl | (simp [errW_none, errW_some] <;> rfl) | (simp [*, errW_none, errW_some] <;> rfl) | (exfalso; simp_all), pH HB⟩
 ·replace c4 := Bool.eq_false_iff.mpr c4
  subst c4
  have H1 : (some false) = some r := by rw [if_neg (show ¬ (false = true) by decide)] at H; exact H
  clear H
  have H := H1
  clear H1
  obtain rfl := Option.some.inj H
  go_enter Tryz.func92, Tryz.ntmps92
  try go_wp2_with (first | ((with_reducible refine gate_dst (N := 2) rfl ?_); refine box_event ?hg (N := 2) ?hd (cs := #[.int .i64 a0_0, .slice A0_1 l0_1.length c0_1]) (t := 29) ?hr ?_; (case hd => rfl); (case hg => rfl); (case hr => first | (go_simp; done) | (go_simp; rfl)); intro gb167 hg w25 hbox hb; have BK167 := Aside0.mk (hbox); have GW167 := gH HB hg; have GE167 := gH HB hg; replace HB := sH HB hb; clear hb hbox hg) | ((with_reducible refine gate_dst (N := 3) rfl ?_); refine box_event ?hg (N := 3) ?hd (cs := #[.int .i64 a1_0, .int .i64 a1_1]) (t := 62) ?hr ?_; (case hd => rfl); (case hg => rfl); (case hr => first | (go_simp; done) | (go_simp; rfl)); intro gb168 hg w26 hbox hb; have BK168 := Aside0.mk (hbox); have GW168 := gH HB hg; have GE168 := gH HB hg; replace HB := sH HB hb; have NB167_168 := nB BK167 hg; have NB168_167 := oB BK167 hg; replace BK167 := sB BK167 hb; clear hb hbox hg))
  replace BK167 := dB BK167
  replace BK168 := dB BK168
  replace HB := dH HB
  refine st_ 31 (S := fun w' => w'.cell? ⟨gb167, 0, none⟩ = some (.int .i64 a0_0) ∧ w'.cell? ⟨gb167, 1, none⟩ = some (.slice A0_1 l0_1.length c0_1) ∧ w'.cell? ⟨gb168, 0, none⟩ = some (.int .i64 a1_0) ∧ w'.cell? ⟨gb168, 1, none⟩ = some (.int .i64 a1_1)) (ds := []) ⟨cB BK167 0, cB BK167 1, cB BK168 0, cB BK168 1⟩ (fun hHeld => ?_); refine with_tabW spec_l02Pair.tab1 spec_l02Pair.bits1 (fun HT_ HW_ => ?_)
  generalize w26.drew = w27 at BK167 BK168 HB hHeld ⊢
  refine pu_ 1 6 2 HT_ ?_
  refine tk_ 0 5 3 HT_ HW_ hHeld ?_
  refine tk_ 2 7 7 HT_ HW_ hHeld ?_
  refine on_ 3 (some 8) 15 HT_ (fun K hK => ?_)
  refine ca_ Tryz.func49 #[.agg #[.int .i64 a0_0, .slice A0_1 l0_1.length c0_1], .int .i64 a1_0] ?_
  with_reducible refine (spec_l01Has.calls k a0_0 _ _ l0_1 a1_0 false _ ?side1 ?side2 A3.out).mono ?_
  (case side1 => exact pC ((Kd.C_below HR0_1.out HB.out)))
  (case side2 => exact HC0_1.out)
  rintro e w28 ⟨rfl, hb⟩
  refine ⟨_, rfl, ?_⟩
  replace BK167 := sB BK167 hb
  replace BK168 := sB BK168 hb
  replace HB := sH HB hb
  (try clear hb)
  (try clear hb2)
  (try clear hk)
  (try clear hi)
  refine hK.out _ _ ⟨cB BK167 0, cB BK167 1, cB BK168 0, cB BK168 1⟩ (fun hHeld => ?_)
  clear hK K
  refine nm_ ?_
  refine pu_ 4 9 31 HT_ ?_
  refine pn_ 5 10 63 HT_ ?_
  refine pn_ 6 11 127 HT_ ?_
  refine pn_ 7 12 255 HT_ ?_
  refine pn_ 8 13 511 HT_ ?_
  refine pu_ 9 14 1023 HT_ ?_
  refine pu_ 10 15 2047 HT_ ?_
  refine pn_ 11 16 4095 HT_ ?_
  refine pn_ 12 17 8191 HT_ ?_
  refine pn_ 13 18 16383 HT_ ?_
  refine pn_ 14 19 32767 HT_ ?_
  refine pn_ 15 20 65535 HT_ ?_
  refine pn_ 16 21 131071 HT_ ?_
  refine pn_ 17 22 262143 HT_ ?_
  refine pn_ 18 23 524287 HT_ ?_
  refine pu_ 19 24 1048575 HT_ ?_
  refine pu_ 20 25 2097151 HT_ ?_
  refine pn_ 21 26 4194303 HT_ ?_
  refine pn_ 22 27 8388607 HT_ ?_
  refine pn_ 23 28 16777215 HT_ ?_
  refine pn_ 24 29 33554431 HT_ ?_
  refine pn_ 25 30 67108863 HT_ ?_
  refine pn_ 26 31 134217727 HT_ ?_
  refine pn_ 27 32 268435455 HT_ ?_
  refine pn_ 28 33 536870911 HT_ ?_
  refine pu_ 29 34 1073741823 HT_ ?_
  refine pu_ 30 4 2147483647 HT_ ?_
  refine dn_ HT_ ?_
  try go_wp2
  go_ret
  exact ⟨by first | rfl | (simp [errW_none, errW_some] <;> rfl) | (simp [*, errW_none, errW_some] <;> rfl) | (exfalso; simp_all), pH HB⟩
mutual
def spec_l02Is.l0 : Nat → List (S62) → Int → Int → List Int → Option (Bool)
 | 0, _, _, _, _ => none
 | k + 1, x1, x5, x174000, x174001 => if x5 < (x1.length : Int) then (if 0 ≤ x5 then ((spec_l02Pair.f k x174000 x174001 ((rd_T62 x1 x5).f0) ((rd_T62 x1 x5).f1)).bind fun t175 => (if t175 = true then (if x5 > 0 then (if 0 ≤ (wrap64 (x5 - 1)) then (if (wrap64 (x5 - 1)) < (x1.length : Int) then ((spec_l02Less.f ((rd_T62 x1 (wrap64 (x5 - 1))).f0) ((rd_T62 x1 (wrap64 (x5 - 1))).f1) ((rd_T62 x1 x5).f0) ((rd_T62 x1 x5).f1)).bind fun t178 => (spec_l02Is.j1 k x1 x5 (!t178) x174000 x174001)) else (none)) else (none)) else (spec_l02Is.j1 k x1 x5 false x174000 x174001)) else (spec_l02Is.j1 k x1 x5 true x174000 x174001))) else (none)) else (some true)
def spec_l02Is.j1 : Nat → List (S62) → Int → Bool → Int → List Int → Option (Bool)
 | 0, _, _, _, _, _ => none
 | k + 1, x1, x5, x36, x174000, x174001 => if x36 = true then (some false) else (spec_l02Is.l1 k x1 x5 0 x174000 x174001)
def spec_l02Is.l1 : Nat → List (S62) → Int → Int → Int → List Int → Option (Bool)
 | 0, _, _, _, _, _ => none
 | k + 1, x1, x5, x6, x174000, x174001 => if x6 < x5 then (if 0 ≤ x5 then (if x5 < (x1.length : Int) then (if 0 ≤ x6 then (if x6 < (x1.length : Int) then (if ((rd_T62 x1 x5).f0) = ((rd_T62 x1 x6).f0) then (some false) else (if ((rd_T62 x1 x5).f0) = ((rd_T62 x1 x6).f1) then (some false) else (if ((rd_T62 x1 x5).f1) = ((rd_T62 x1 x6).f0) then (some false) else (if ((rd_T62 x1 x5).f1) = ((rd_T62 x1 x6).f1) then (some false) else (spec_l02Is.l1 k x1 x5 (wrap64 (x6 + 1)) x174000 x174001))))) else (none)) else (none)) else (none)) else (none)) else (spec_l02Is.l0 k x1 (wrap64 (x5 + 1)) x174000 x174001)
end
def spec_l02Is.f (k : Nat) (a0_0 : Int) (l0_1 : List Int) (l1 : List (S62)) : Option (Bool) := spec_l02Is.l0 k l1 0 a0_0 l0_1
def spec_l02Is.T4 : Bool × List (List Nat × List Nat) := (true, [([], []), ([], []), ([], []), ([1, 2], [1, 2]), ([3], [3]), ([0, 4], [0, 4]), ([5], [5]), ([6, 5], [6]), ([7], [7]), ([8, 7], [7, 8]), ([9, 7, 7], [7, 9]), ([10], [10]), ([10], [10]), ([12, 10], [10, 12]), ([11, 13, 10], [10, 11, 13]), ([14, 10], [10, 14]), ([10], [10]), ([10], [10]), ([16, 17, 10], [10, 16, 17]), ([18, 10], [10, 18]), ([15, 19, 10, 10], [10, 15, 19]), ([20, 10], [10, 20]), ([10, 21, 7], [7, 10, 21]), ([7, 22], [7, 22])])
def spec_l02Is.B4 : List Nat := [0, 0, 0, 6, 14, 31, 63, 127, 255, 511, 1023, 2047, 2047, 6143, 16383, 32767, 2047, 2047, 198655, 460799, 1048575, 2097151, 4194303, 8388607]
theorem spec_l02Is.tab4 : rtab .any (opsOf Tryz.f71 4) = spec_l02Is.T4 := by kernel_rfl
theorem spec_l02Is.bits4 : waitsOk spec_l02Is.T4.2 spec_l02Is.B4 = true := by kernel_rfl
def spec_l02Is.T9 : Bool × List (List Nat × List Nat) := (true, [([], []), ([], []), ([0, 1], [0, 1]), ([2], [2]), ([3], [3]), ([], []), ([], []), ([5, 6], [5, 6]), ([7], [7]), ([8], [8]), ([4, 9], [4, 9]), ([10], [10]), ([11], [11]), ([11], [11]), ([12, 13, 11], [11, 12, 13]), ([14, 11], [11, 14]), ([15, 11], [11, 15]), ([11], [11]), ([11], [11]), ([17, 18, 11], [11, 17, 18]), ([19, 11], [11, 19]), ([20, 11], [11, 20]), ([16, 21, 11], [11, 16, 21]), ([11, 22], [11, 22]), ([23, 11], [23]), ([24], [24]), ([24], [24]), ([25, 26, 24], [24, 25, 26]), ([27, 24], [24, 27]), ([28, 24], [24, 28]), ([24], [24]), ([24], [24]), ([30, 31, 24], [24, 30, 31]), ([32, 24], [24, 32]), ([33, 24], [24, 33]), ([29, 34, 24], [24, 29, 34]), ([24, 35], [24, 35]), ([36, 24], [36]), ([37], [37]), ([37], [37]), ([38, 39, 37], [37, 38, 39]), ([40, 37], [37, 40]), ([41, 37], [37, 41]), ([37], [37]), ([37], [37]), ([43, 44, 37], [37, 43, 44]), ([45, 37], [37, 45]), ([46, 37], [37, 46]), ([42, 47, 37], [37, 42, 47]), ([37, 48], [37, 48])])
def spec_l02Is.B9 : List Nat := [0, 0, 3, 7, 15, 0, 0, 96, 224, 480, 1023, 2047, 4095, 4095, 16383, 32767, 65535, 4095, 4095, 397311, 921599, 1970175, 4194303, 8388607, 16777215, 33554431, 33554431, 134217727, 268435455, 536870911, 33554431, 33554431, 3254779903, 7549747199, 16139681791, 34359738367, 68719476735, 137438953471, 274877906943, 274877906943, 1099511627775, 2199023255551, 4398046511103, 274877906943, 274877906943, 26663156973567, 61847529062399, 132216273240063, 281474976710655, 562949953421311]
theorem spec_l02Is.tab9 : rtab .any (opsOf Tryz.f71 9) = spec_l02Is.T9 := by kernel_rfl
theorem spec_l02Is.bits9 : waitsOk spec_l02Is.T9.2 spec_l02Is.B9 = true := by kernel_rfl
set_option maxHeartbeats 8000000 in
set_option maxRecDepth 100000 in
theorem spec_l02Is.calls (k : Nat) (a0_0 : Int) (A0_1 : Option Addr) (c0_1 : Nat) (l0_1 : List Int) (A1 : Option Addr) (c1 : Nat) (l1 : List (S62)) (r : Bool) (w : World) (hr0_1 : Kd.C (Kd.int .i64) w A0_1 l0_1.length l0_1) (hc0_1 : l0_1.length ≤ c0_1) (hr1 : Kd.C k62 w A1 l1.length l1) (hc1 : l1.length ≤ c1) (h : spec_l02Is.f k a0_0 l0_1 l1 = some r) :
  Calls Tryz.prog 71 #[.agg #[.int .i64 a0_0, .slice A0_1 l0_1.length c0_1], .slice A1 l1.length c1] w fun e w' => e = .returned (.bool r) ∧ Below w.heap.size w w' := by
 have hu29 := Tryz.underlying29
 have hu62 := Tryz.underlying62
 have HR0_1 := Aside0.mk hr0_1
 have HC0_1 := Aside0.mk hc0_1
 clear hr0_1 hc0_1
 have HR1 := Aside0.mk hr1
 have HC1 := Aside0.mk hc1
 clear hr1 hc1
 have HB := Aside0.mk (Below.refl w.heap.size w)
 have H : (spec_l02Is.l0 k l1 0 a0_0 l0_1) = some r := h
 clear h
 have H' := Aside0.mk H
 clear H
 go_enter Tryz.func71, Tryz.ntmps71
 go_wp2_with (first | ((with_reducible refine gate_dst (N := 2) rfl ?_); refine box_event ?hg (N := 2) ?hd (cs := #[.int .i64 a0_0, .slice A0_1 l0_1.length c0_1]) (t := 29) ?hr ?_; (case hd => rfl); (case hg => rfl); (case hr => first | (go_simp; done) | (go_simp; rfl)); intro gb173 hg w3 hbox hb; have BK173 := Aside0.mk (hbox); have GW173 := gH HB hg; have GE173 := gH HB hg; replace HB := sH HB hb; clear hb hbox hg))
 go_loopg [5] k (fun kq v5 w' => ∃ (x5_1 : Int), v5 = .int .i64 x5_1 ∧ Aside0 (spec_l02Is.l0 kq l1 x5_1 a0_0 l0_1 = some r) ∧ Aside0 (kq ≤ k) ∧ Aside0 (w'.heap[gb173]? = some (.cells #[.int .i64 a0_0, (.slice A0_1 l0_1.length c0_1)] 29 (0, 0))) ∧ Aside0 (Below w.heap.size w w'))
 case atStart => exact ⟨(0), (by first | rfl | (simp; done) | (simp [*]; done)), H', ⟨Nat.le_refl _⟩, ⟨pB BK173⟩, ⟨pH HB⟩⟩
 case round =>
  clear H'
  try clear c1
  try clear p2
  obtain ⟨x5_1, rfl, HA, HK1, BK173, HB⟩ := hrel
  cases gk with
  | zero => exact absurd HA.out (by simp [spec_l02Is.l0])
  | succ k1 =>
   have H := HA.out
   clear HA
   simp only [spec_l02Is.l0] at H
   by_cases c4 : x5_1 < (l1.length : Int)
   ·rw [if_pos c4] at H
    have c4b0 : decide (x5_1 < (l1.length : Int)) = true := decide_eq_true c4
    clear c4
    have HC5 := Aside0.mk H
    clear H
    go_upto_region 4 with (fail)
    go_cut [36] (fun v36 wc => ∃ (kq : Nat) (x36_4 : Bool), v36 = .bool x36_4 ∧ Aside0 (spec_l02Is.j1 kq l1 x5_1 x36_4 a0_0 l0_1 = some r) ∧ Aside0 (kq ≤ k1) ∧ Aside0 (wc.heap[gb173]? = some (.cells #[.int .i64 a0_0, (.slice A0_1 l0_1.length c0_1)] 29 (0, 0))) ∧ Aside0 (Below w.heap.size w wc))
    case first =>
     have H := HC5.out
     clear HC5
     by_cases c6 : 0 ≤ x5_1
     ·rw [if_pos c6] at H
      have c6b0 : decide (0 ≤ x5_1) = true := decide_eq_true c6
      clear c6
      (first | rw [c6b0] | (simp only [i64_w, i32_w]; rw [c6b0]) | skip)
      replace H := Option.bind_eq_some_iff.mp H
      obtain ⟨t175, A70, H⟩ := H
      try dsimp only at H
      have A7 := Aside0.mk A70
      clear A70
      by_cases c8 : t175 = true
      ·subst c8
       have H1 : (if x5_1 > 0 then (if 0 ≤ (wrap64 (x5_1 - 1)) then (if (wrap64 (x5_1 - 1)) < (l1.length : Int) then ((spec_l02Less.f ((rd_T62 l1 (wrap64 (x5_1 - 1))).f0) ((rd_T62 l1 (wrap64 (x5_1 - 1))).f1) ((rd_T62 l1 x5_1).f0) ((rd_T62 l1 x5_1).f1)).bind fun t178 => (spec_l02Is.j1 k1 l1 x5_1 (!t178) a0_0 l0_1)) else (none)) else (none)) else (spec_l02Is.j1 k1 l1 x5_1 false a0_0 l0_1)) = some r := by rw [if_pos rfl] at H; exact H
       clear H
       have H := H1
       clear H1
       by_cases c9 : x5_1 > 0
       ·rw [if_pos c9] at H
        have c9b0 : decide (0 < x5_1) = true := decide_eq_true c9
        clear c9
        obtain ⟨ji10, hji10⟩ : ∃ j_ : Int, (wrap64 (x5_1 - 1)) = j_ := ⟨_, rfl⟩
        replace H : (if 0 ≤ (ji10) then (if (ji10) < (l1.length : Int) then ((spec_l02Less.f ((rd_T62 l1 (ji10)).f0) ((rd_T62 l1 (ji10)).f1) ((rd_T62 l1 x5_1).f0) ((rd_T62 l1 x5_1).f1)).bind fun t178 => (spec_l02Is.j1 k1 l1 x5_1 (!t178) a0_0 l0_1)) else (none)) else (none)) = some r := by first | (rw [hji10] at H; exact H) | (simp only [hji10] at H ⊢; exact H)
        (try rw [hji10] at A7)
        have hji10w : (IntKind.i64.wrap (x5_1 - 1)) = ji10 := (i64_w _).trans hji10
        by_cases c11 : 0 ≤ (ji10)
        ·rw [if_pos c11] at H
         have c11b0 : decide (0 ≤ (ji10)) = true := decide_eq_true c11
         clear c11
         by_cases c12 : (ji10) < (l1.length : Int)
         ·rw [if_pos c12] at H
          have c12b0 : decide ((ji10) < (l1.length : Int)) = true := decide_eq_true c12
          clear c12
          replace H := Option.bind_eq_some_iff.mp H
          obtain ⟨t178, A130, H⟩ := H
          try dsimp only at H
          have A13 := Aside0.mk A130
          clear A130
          have H' := Aside0.mk H
          clear H
          try go_wp2
          replace BK173 := dB BK173
          replace HB := dH HB
          have p174 : 0 ≤ (x5_1 : Int) := of_decide_eq_true (by first | (with_reducible assumption) | assumption)
          have q174 : x5_1 < (l1.length : Int) := of_decide_eq_true (by first | (with_reducible assumption) | assumption)
          obtain ⟨ad174, e174, hx174_0, hx174_1⟩ := at_T62 HR1.out x5_1 p174 q174
          have hw174_1 := hx174_1
          have hw174_0 := hx174_0
          cases e174
          replace hx174_0 := cH HB hx174_0
          replace hx174_1 := cH HB hx174_1
          replace p174 := eq_true p174
          replace q174 := eq_true q174
          have p176 : 0 ≤ ((ji10) : Int) := of_decide_eq_true (by first | (with_reducible assumption) | assumption)
          have q176 : (ji10) < (l1.length : Int) := of_decide_eq_true (by first | (with_reducible assumption) | assumption)
          obtain ⟨ad176, e176, hx176_0, hx176_1⟩ := at_T62 HR1.out (ji10) p176 q176
          have hw176_1 := hx176_1
          have hw176_0 := hx176_0
          obtain rfl : ad174 = ad176 := (by injection e176)
          replace hx176_0 := cH HB hx176_0
          replace hx176_1 := cH HB hx176_1
          replace p176 := eq_true p176
          replace q176 := eq_true q176
          have p177 : 0 ≤ (x5_1 : Int) := of_decide_eq_true (by first | (with_reducible assumption) | assumption)
          have q177 : x5_1 < (l1.length : Int) := of_decide_eq_true (by first | (with_reducible assumption) | assumption)
          obtain ⟨ad177, e177, hx177_0, hx177_1⟩ := at_T62 HR1.out x5_1 p177 q177
          have hw177_1 := hx177_1
          have hw177_0 := hx177_0
          obtain rfl : ad174 = ad177 := (by injection e177)
          replace hx177_0 := cH HB hx177_0
          replace hx177_1 := cH HB hx177_1
          replace p177 := eq_true p177
          replace q177 := eq_true q177
          refine st_ 24 (S := fun w' => w'.cell? ⟨gb173, 0, none⟩ = some (.int .i64 a0_0) ∧ w'.cell? ⟨gb173, 1, none⟩ = some (.slice A0_1 l0_1.length c0_1) ∧ w'.cell? (ad174.add ((x5_1).toNat * 2)) = some (.int .i64 ((rd_T62 l1 x5_1).f0)) ∧ w'.cell? ⟨(ad174.add ((x5_1).toNat * 2)).block, (ad174.add ((x5_1).toNat * 2)).off + 1, none⟩ = some (.int .i64 ((rd_T62 l1 x5_1).f1)) ∧ w'.cell? (ad174.add (((ji10)).toNat * 2)) = some (.int .i64 ((rd_T62 l1 (ji10)).f0)) ∧ w'.cell? ⟨(ad174.add (((ji10)).toNat * 2)).block, (ad174.add (((ji10)).toNat * 2)).off + 1, none⟩ = some (.int .i64 ((rd_T62 l1 (ji10)).f1)) ∧ w'.cell? (ad174.add ((x5_1).toNat * 2)) = some (.int .i64 ((rd_T62 l1 x5_1).f0)) ∧ w'.cell? ⟨(ad174.add ((x5_1).toNat * 2)).block, (ad174.add ((x5_1).toNat * 2)).off + 1, none⟩ = some (.int .i64 ((rd_T62 l1 x5_1).f1))) (ds := []) ⟨cB BK173 0, cB BK173 1, (cH HB hw174_0 :), (cH HB hw174_1 :), (cH HB hw176_0 :), (cH HB hw176_1 :), (cH HB hw177_0 :), (cH HB hw177_1 :)⟩ (fun hHeld => ?_); refine with_tabW spec_l02Is.tab4 spec_l02Is.bits4 (fun HT_ HW_ => ?_)
          generalize wr.drew = w14 at BK173 HB hx174_0 hx174_1 hx176_0 hx176_1 hx177_0 hx177_1 hHeld ⊢
          refine pu_ 1 14 2 HT_ ?_
          refine pu_ 2 15 6 HT_ ?_
          refine pu_ 3 16 14 HT_ ?_
          refine tk_ 0 13 15 HT_ HW_ hHeld ?_
          refine tk_ 4 17 31 HT_ HW_ hHeld ?_
          refine on_ 5 (some 18) 63 HT_ (fun K hK => ?_)
          refine ca_ Tryz.func92 #[.agg #[.int .i64 a0_0, .slice A0_1 l0_1.length c0_1], .agg #[.int .i64 ((rd_T62 l1 x5_1).f0), .int .i64 ((rd_T62 l1 x5_1).f1)]] ?_
          with_reducible refine (spec_l02Pair.calls k1 a0_0 _ _ l0_1 ((rd_T62 l1 x5_1).f0) ((rd_T62 l1 x5_1).f1) true _ ?side1 ?side2 A7.out).mono ?_
          (case side1 => exact pC ((Kd.C_below HR0_1.out HB.out)))
          (case side2 => exact HC0_1.out)
          rintro e w15 ⟨rfl, hb⟩
          refine ⟨_, rfl, ?_⟩
          replace BK173 := sB BK173 hb
          replace HB := sH HB hb
          (try clear hb)
          (try clear hb2)
          (try clear hk)
          (try clear hi)
          refine hK.out _ _ ⟨cB BK173 0, cB BK173 1, (cH HB hw174_0 :), (cH HB hw174_1 :), (cH HB hw176_0 :), (cH HB hw176_1 :), (cH HB hw177_0 :), (cH HB hw177_1 :)⟩ (fun hHeld => ?_)
          clear hK K
          refine nm_ ?_
          refine pu_ 6 19 127 HT_ ?_
          refine pu_ 7 20 255 HT_ ?_
          refine pu_ 8 21 511 HT_ ?_
          refine pu_ 9 22 1023 HT_ ?_
          refine pu_ 10 23 2047 HT_ ?_
          refine pu_ 11 24 4095 HT_ ?_
          refine pu_ 12 25 8191 HT_ ?_
          refine pu_ 13 26 16383 HT_ ?_
          refine pu_ 14 27 32767 HT_ ?_
          refine pu_ 16 29 98303 HT_ ?_
          refine pu_ 17 30 229375 HT_ ?_
          refine pu_ 18 31 491519 HT_ ?_
          refine tk_ 15 28 524287 HT_ HW_ hHeld ?_
          refine tk_ 19 32 1048575 HT_ HW_ hHeld ?_
          refine on_ 20 (some 33) 2097151 HT_ (fun K hK => ?_)
          refine ca_ Tryz.func70 #[.agg #[.int .i64 ((rd_T62 l1 (ji10)).f0), .int .i64 ((rd_T62 l1 (ji10)).f1)], .agg #[.int .i64 ((rd_T62 l1 x5_1).f0), .int .i64 ((rd_T62 l1 x5_1).f1)]] (hargs := by (try simp only [List.map_toArray, List.map_cons, List.map_nil]); first | done | (simp only [hji10]; rfl) | rfl | (simp only [List.length_drop, List.length_take]; rfl)) ?_
          with_reducible refine (spec_l02Less.calls ((rd_T62 l1 (ji10)).f0) ((rd_T62 l1 (ji10)).f1) ((rd_T62 l1 x5_1).f0) ((rd_T62 l1 x5_1).f1) t178 _ A13.out).mono ?_
          rintro e w16 ⟨rfl, hb⟩
          refine ⟨_, rfl, ?_⟩
          replace BK173 := sB BK173 hb
          replace HB := sH HB hb
          (try clear hb)
          (try clear hb2)
          (try clear hk)
          (try clear hi)
          refine hK.out _ _ ⟨cB BK173 0, cB BK173 1, (cH HB hw174_0 :), (cH HB hw174_1 :), (cH HB hw176_0 :), (cH HB hw176_1 :), (cH HB hw177_0 :), (cH HB hw177_1 :)⟩ (fun hHeld => ?_)
          clear hK K
          refine nm_ ?_
          refine pu_ 21 34 4194303 HT_ ?_
          refine pu_ 22 35 8388607 HT_ ?_
          refine pu_ 23 36 16777215 HT_ ?_
          refine dn_ HT_ ?_
          try go_wp2
          go_meet
          case rel => exact ⟨_, (!t178), (by first | rfl | (simp; done) | (simp [*]; done)), H', ⟨by have := HK1.out; first | omega | exact Nat.le_refl _⟩, ⟨pB BK173⟩, ⟨pH HB⟩⟩
         ·rw [if_neg c12] at H
          exact absurd H (by simp)
        ·rw [if_neg c11] at H
         exact absurd H (by simp)
       ·rw [if_neg c9] at H
        have c9b0 : decide (0 < x5_1) = false := decide_eq_false c9
        clear c9
        have H' := Aside0.mk H
        clear H
        try go_wp2
        replace BK173 := dB BK173
        replace HB := dH HB
        have p174 : 0 ≤ (x5_1 : Int) := of_decide_eq_true (by first | (with_reducible assumption) | assumption)
        have q174 : x5_1 < (l1.length : Int) := of_decide_eq_true (by first | (with_reducible assumption) | assumption)
        obtain ⟨ad174, e174, hx174_0, hx174_1⟩ := at_T62 HR1.out x5_1 p174 q174
        have hw174_1 := hx174_1
        have hw174_0 := hx174_0
        cases e174
        replace hx174_0 := cH HB hx174_0
        replace hx174_1 := cH HB hx174_1
        replace p174 := eq_true p174
        replace q174 := eq_true q174
        refine st_ 24 (S := fun w' => w'.cell? ⟨gb173, 0, none⟩ = some (.int .i64 a0_0) ∧ w'.cell? ⟨gb173, 1, none⟩ = some (.slice A0_1 l0_1.length c0_1) ∧ w'.cell? (ad174.add ((x5_1).toNat * 2)) = some (.int .i64 ((rd_T62 l1 x5_1).f0)) ∧ w'.cell? ⟨(ad174.add ((x5_1).toNat * 2)).block, (ad174.add ((x5_1).toNat * 2)).off + 1, none⟩ = some (.int .i64 ((rd_T62 l1 x5_1).f1))) (ds := []) ⟨cB BK173 0, cB BK173 1, (cH HB hw174_0 :), (cH HB hw174_1 :)⟩ (fun hHeld => ?_); refine with_tabW spec_l02Is.tab4 spec_l02Is.bits4 (fun HT_ HW_ => ?_)
        generalize wr.drew = w17 at BK173 HB hx174_0 hx174_1 hHeld ⊢
        refine pu_ 1 14 2 HT_ ?_
        refine pu_ 2 15 6 HT_ ?_
        refine pu_ 3 16 14 HT_ ?_
        refine tk_ 0 13 15 HT_ HW_ hHeld ?_
        refine tk_ 4 17 31 HT_ HW_ hHeld ?_
        refine on_ 5 (some 18) 63 HT_ (fun K hK => ?_)
        refine ca_ Tryz.func92 #[.agg #[.int .i64 a0_0, .slice A0_1 l0_1.length c0_1], .agg #[.int .i64 ((rd_T62 l1 x5_1).f0), .int .i64 ((rd_T62 l1 x5_1).f1)]] ?_
        with_reducible refine (spec_l02Pair.calls k1 a0_0 _ _ l0_1 ((rd_T62 l1 x5_1).f0) ((rd_T62 l1 x5_1).f1) true _ ?side1 ?side2 A7.out).mono ?_
        (case side1 => exact pC ((Kd.C_below HR0_1.out HB.out)))
        (case side2 => exact HC0_1.out)
        rintro e w18 ⟨rfl, hb⟩
        refine ⟨_, rfl, ?_⟩
        replace BK173 := sB BK173 hb
        replace HB := sH HB hb
        (try clear hb)
        (try clear hb2)
        (try clear hk)
        (try clear hi)
        refine hK.out _ _ ⟨cB BK173 0, cB BK173 1, (cH HB hw174_0 :), (cH HB hw174_1 :)⟩ (fun hHeld => ?_)
        clear hK K
        refine nm_ ?_
        refine pu_ 6 19 127 HT_ ?_
        refine pu_ 7 20 255 HT_ ?_
        refine pu_ 8 21 511 HT_ ?_
        refine pu_ 9 22 1023 HT_ ?_
        refine pu_ 10 23 2047 HT_ ?_
        refine pn_ 11 24 4095 HT_ ?_
        refine pn_ 12 25 8191 HT_ ?_
        refine pn_ 13 26 16383 HT_ ?_
        refine pn_ 14 27 32767 HT_ ?_
        refine pn_ 15 28 65535 HT_ ?_
        refine pn_ 16 29 131071 HT_ ?_
        refine pn_ 17 30 262143 HT_ ?_
        refine pn_ 18 31 524287 HT_ ?_
        refine pn_ 19 32 1048575 HT_ ?_
        refine pn_ 20 33 2097151 HT_ ?_
        refine pn_ 21 34 4194303 HT_ ?_
        refine pu_ 22 35 8388607 HT_ ?_
        refine pu_ 23 36 16777215 HT_ ?_
        refine dn_ HT_ ?_
        try go_wp2
        go_meet
        case rel => exact ⟨_, (false), (by first | rfl | (simp; done) | (simp [*]; done)), H', ⟨by have := HK1.out; first | omega | exact Nat.le_refl _⟩, ⟨pB BK173⟩, ⟨pH HB⟩⟩
      ·replace c8 := Bool.eq_false_iff.mpr c8
       subst c8
       have H1 : (spec_l02Is.j1 k1 l1 x5_1 true a0_0 l0_1) = some r := by rw [if_neg (show ¬ (false = true) by decide)] at H; exact H
       clear H
       have H := H1
       clear H1
       have H' := Aside0.mk H
       clear H
       try go_wp2
       replace BK173 := dB BK173
       replace HB := dH HB
       have p174 : 0 ≤ (x5_1 : Int) := of_decide_eq_true (by first | (with_reducible assumption) | assumption)
       have q174 : x5_1 < (l1.length : Int) := of_decide_eq_true (by first | (with_reducible assumption) | assumption)
       obtain ⟨ad174, e174, hx174_0, hx174_1⟩ := at_T62 HR1.out x5_1 p174 q174
       have hw174_1 := hx174_1
       have hw174_0 := hx174_0
       cases e174
       replace hx174_0 := cH HB hx174_0
       replace hx174_1 := cH HB hx174_1
       replace p174 := eq_true p174
       replace q174 := eq_true q174
       refine st_ 24 (S := fun w' => w'.cell? ⟨gb173, 0, none⟩ = some (.int .i64 a0_0) ∧ w'.cell? ⟨gb173, 1, none⟩ = some (.slice A0_1 l0_1.length c0_1) ∧ w'.cell? (ad174.add ((x5_1).toNat * 2)) = some (.int .i64 ((rd_T62 l1 x5_1).f0)) ∧ w'.cell? ⟨(ad174.add ((x5_1).toNat * 2)).block, (ad174.add ((x5_1).toNat * 2)).off + 1, none⟩ = some (.int .i64 ((rd_T62 l1 x5_1).f1))) (ds := []) ⟨cB BK173 0, cB BK173 1, (cH HB hw174_0 :), (cH HB hw174_1 :)⟩ (fun hHeld => ?_); refine with_tabW spec_l02Is.tab4 spec_l02Is.bits4 (fun HT_ HW_ => ?_)
       generalize wr.drew = w19 at BK173 HB hx174_0 hx174_1 hHeld ⊢
       refine pu_ 1 14 2 HT_ ?_
       refine pu_ 2 15 6 HT_ ?_
       refine pu_ 3 16 14 HT_ ?_
       refine tk_ 0 13 15 HT_ HW_ hHeld ?_
       refine tk_ 4 17 31 HT_ HW_ hHeld ?_
       refine on_ 5 (some 18) 63 HT_ (fun K hK => ?_)
       refine ca_ Tryz.func92 #[.agg #[.int .i64 a0_0, .slice A0_1 l0_1.length c0_1], .agg #[.int .i64 ((rd_T62 l1 x5_1).f0), .int .i64 ((rd_T62 l1 x5_1).f1)]] ?_
       with_reducible refine (spec_l02Pair.calls k1 a0_0 _ _ l0_1 ((rd_T62 l1 x5_1).f0) ((rd_T62 l1 x5_1).f1) false _ ?side1 ?side2 A7.out).mono ?_
       (case side1 => exact pC ((Kd.C_below HR0_1.out HB.out)))
       (case side2 => exact HC0_1.out)
       rintro e w20 ⟨rfl, hb⟩
       refine ⟨_, rfl, ?_⟩
       replace BK173 := sB BK173 hb
       replace HB := sH HB hb
       (try clear hb)
       (try clear hb2)
       (try clear hk)
       (try clear hi)
       refine hK.out _ _ ⟨cB BK173 0, cB BK173 1, (cH HB hw174_0 :), (cH HB hw174_1 :)⟩ (fun hHeld => ?_)
       clear hK K
       refine nm_ ?_
       refine pu_ 6 19 127 HT_ ?_
       refine pu_ 7 20 255 HT_ ?_
       refine pn_ 8 21 511 HT_ ?_
       refine pn_ 9 22 1023 HT_ ?_
       refine pn_ 10 23 2047 HT_ ?_
       refine pn_ 11 24 4095 HT_ ?_
       refine pn_ 12 25 8191 HT_ ?_
       refine pn_ 13 26 16383 HT_ ?_
       refine pn_ 14 27 32767 HT_ ?_
       refine pn_ 15 28 65535 HT_ ?_
       refine pn_ 16 29 131071 HT_ ?_
       refine pn_ 17 30 262143 HT_ ?_
       refine pn_ 18 31 524287 HT_ ?_
       refine pn_ 19 32 1048575 HT_ ?_
       refine pn_ 20 33 2097151 HT_ ?_
       refine pn_ 21 34 4194303 HT_ ?_
       refine pn_ 22 35 8388607 HT_ ?_
       refine pu_ 23 36 16777215 HT_ ?_
       refine dn_ HT_ ?_
       try go_wp2
       go_meet
       case rel => exact ⟨_, (true), (by first | rfl | (simp; done) | (simp [*]; done)), H', ⟨by have := HK1.out; first | omega | exact Nat.le_refl _⟩, ⟨pB BK173⟩, ⟨pH HB⟩⟩
     ·rw [if_neg c6] at H
      exact absurd H (by simp)
    case rest =>
     clear HC5
     try clear c1
     try clear p1
     try clear q1
     try clear hx1
     try clear p2
     try clear c6
     try clear c7
     try clear c8
     try clear c9
     try clear c9b0
     try clear c11
     try clear c12
     try clear p17
     try clear q17
     try clear hx17
     try clear hx174_0
     try clear hx174_1
     try clear p174
     try clear q174
     obtain ⟨kq, x36_4, rfl, HA, HJ4, BK173, HB⟩ := hcut
     cases kq with
     | zero => exact absurd HA.out (by simp [spec_l02Is.j1])
     | succ kj4 =>
      have H := HA.out
      clear HA
      simp only [spec_l02Is.j1] at H
      by_cases c21 : x36_4 = true
      ·subst c21
       have H1 : (some false) = some r := by rw [if_pos rfl] at H; exact H
       clear H
       have H := H1
       clear H1
       obtain rfl := Option.some.inj H
       go_wp2
       go_ret
       exact ⟨by first | rfl | (simp [errW_none, errW_some] <;> rfl) | (simp [*, errW_none, errW_some] <;> rfl) | (exfalso; simp_all), pH HB⟩
      ·replace c21 := Bool.eq_false_iff.mpr c21
       subst c21
       have H1 : (spec_l02Is.l1 kj4 l1 x5_1 0 a0_0 l0_1) = some r := by rw [if_neg (show ¬ (false = true) by decide)] at H; exact H
       clear H
       have H := H1
       clear H1
       have H' := Aside0.mk H
       clear H
       go_wp2
       go_loopg [6] kj4 (fun kq v6 w' => ∃ (x6_3 : Int), v6 = .int .i64 x6_3 ∧ Aside0 (spec_l02Is.l1 kq l1 x5_1 x6_3 a0_0 l0_1 = some r) ∧ Aside0 (kq ≤ kj4) ∧ Aside0 (w'.heap[gb173]? = some (.cells #[.int .i64 a0_0, (.slice A0_1 l0_1.length c0_1)] 29 (0, 0))) ∧ Aside0 (Below w.heap.size w w'))
       case atStart => exact ⟨(0), (by first | rfl | (simp; done) | (simp [*]; done)), H', ⟨Nat.le_refl _⟩, ⟨pB BK173⟩, ⟨pH HB⟩⟩
       case round =>
        clear H'
        try clear c1
        try clear p1
        try clear q1
        try clear hx1
        try clear c2
        try clear p2
        try clear c6
        try clear c7
        try clear c8
        try clear c9
        try clear c9b0
        try clear c11
        try clear c12
        try clear p17
        try clear q17
        try clear hx17
        try clear c21
        try clear hx174_0
        try clear hx174_1
        try clear p1
        try clear p17
        try clear p174
        try clear p2
        try clear q1
        try clear q17
        try clear q174
        obtain ⟨x6_3, rfl, HA, HK3, BK173, HB⟩ := hrel
        cases gk with
        | zero => exact absurd HA.out (by simp [spec_l02Is.l1])
        | succ k3 =>
         have H := HA.out
         clear HA
         simp only [spec_l02Is.l1] at H
         by_cases c22 : x6_3 < x5_1
         ·rw [if_pos c22] at H
          have c22b0 : decide (x6_3 < x5_1) = true := decide_eq_true c22
          clear c22
          by_cases c23 : 0 ≤ x5_1
          ·rw [if_pos c23] at H
           have c23b0 : decide (0 ≤ x5_1) = true := decide_eq_true c23
           clear c23
           by_cases c24 : x5_1 < (l1.length : Int)
           ·rw [if_pos c24] at H
            have c24b0 : decide (x5_1 < (l1.length : Int)) = true := decide_eq_true c24
            clear c24
            by_cases c25 : 0 ≤ x6_3
            ·rw [if_pos c25] at H
             have c25b0 : decide (0 ≤ x6_3) = true := decide_eq_true c25
             clear c25
             by_cases c26 : x6_3 < (l1.length : Int)
             ·rw [if_pos c26] at H
              have c26b0 : decide (x6_3 < (l1.length : Int)) = true := decide_eq_true c26
              clear c26
              by_cases c27 : ((rd_T62 l1 x5_1).f0) = ((rd_T62 l1 x6_3).f0)
              ·rw [if_pos c27] at H
               have c27b0 : (((rd_T62 l1 x5_1).f0) == ((rd_T62 l1 x6_3).f0)) = true := beq_iff_eq.mpr c27
               have c27b1 : (((rd_T62 l1 x5_1).f0) != ((rd_T62 l1 x6_3).f0)) = false := bne_eq_false_iff_eq.mpr c27
               clear c27
               obtain rfl := Option.some.inj H
               try go_wp2
               replace BK173 := dB BK173
               replace HB := dH HB
               have p179 : 0 ≤ (x5_1 : Int) := of_decide_eq_true (by first | (with_reducible assumption) | assumption)
               have q179 : x5_1 < (l1.length : Int) := of_decide_eq_true (by first | (with_reducible assumption) | assumption)
               obtain ⟨ad179, e179, hx179_0, hx179_1⟩ := at_T62 HR1.out x5_1 p179 q179
               have hw179_1 := hx179_1
               have hw179_0 := hx179_0
               cases e179
               replace hx179_0 := cH HB hx179_0
               replace hx179_1 := cH HB hx179_1
               replace p179 := eq_true p179
               replace q179 := eq_true q179
               have p180 : 0 ≤ (x6_3 : Int) := of_decide_eq_true (by first | (with_reducible assumption) | assumption)
               have q180 : x6_3 < (l1.length : Int) := of_decide_eq_true (by first | (with_reducible assumption) | assumption)
               obtain ⟨ad180, e180, hx180_0, hx180_1⟩ := at_T62 HR1.out x6_3 p180 q180
               have hw180_1 := hx180_1
               have hw180_0 := hx180_0
               obtain rfl : ad179 = ad180 := (by injection e180)
               replace hx180_0 := cH HB hx180_0
               replace hx180_1 := cH HB hx180_1
               replace p180 := eq_true p180
               replace q180 := eq_true q180
               refine st_ 50 (S := fun w' => w'.cell? (ad179.add ((x5_1).toNat * 2)) = some (.int .i64 ((rd_T62 l1 x5_1).f0)) ∧ w'.cell? ⟨(ad179.add ((x5_1).toNat * 2)).block, (ad179.add ((x5_1).toNat * 2)).off + 1, none⟩ = some (.int .i64 ((rd_T62 l1 x5_1).f1)) ∧ w'.cell? (ad179.add ((x6_3).toNat * 2)) = some (.int .i64 ((rd_T62 l1 x6_3).f0)) ∧ w'.cell? ⟨(ad179.add ((x6_3).toNat * 2)).block, (ad179.add ((x6_3).toNat * 2)).off + 1, none⟩ = some (.int .i64 ((rd_T62 l1 x6_3).f1))) (ds := []) ⟨(cH HB hw179_0 :), (cH HB hw179_1 :), (cH HB hw180_0 :), (cH HB hw180_1 :)⟩ (fun hHeld => ?_); refine with_tabW spec_l02Is.tab9 spec_l02Is.bits9 (fun HT_ HW_ => ?_)
               generalize wr.drew = w28 at BK173 HB hx179_0 hx179_1 hx180_0 hx180_1 hHeld ⊢
               refine pu_ 0 42 1 HT_ ?_
               refine pu_ 1 43 3 HT_ ?_
               refine pu_ 2 44 7 HT_ ?_
               refine pu_ 3 45 15 HT_ ?_
               refine pu_ 5 47 47 HT_ ?_
               refine pu_ 6 48 111 HT_ ?_
               refine pu_ 7 49 239 HT_ ?_
               refine pu_ 8 50 495 HT_ ?_
               refine tk_ 4 46 511 HT_ HW_ hHeld ?_
               refine tk_ 9 51 1023 HT_ HW_ hHeld ?_
               refine pu_ 10 52 2047 HT_ ?_
               refine pu_ 11 53 4095 HT_ ?_
               refine pn_ 12 54 8191 HT_ ?_
               refine pn_ 13 55 16383 HT_ ?_
               refine pn_ 14 56 32767 HT_ ?_
               refine pn_ 15 57 65535 HT_ ?_
               refine pn_ 16 58 131071 HT_ ?_
               refine pn_ 17 59 262143 HT_ ?_
               refine pn_ 18 60 524287 HT_ ?_
               refine pn_ 19 61 1048575 HT_ ?_
               refine pn_ 20 62 2097151 HT_ ?_
               refine pn_ 21 63 4194303 HT_ ?_
               refine pn_ 22 64 8388607 HT_ ?_
               refine pu_ 23 65 16777215 HT_ ?_
               refine pu_ 24 66 33554431 HT_ ?_
               refine pn_ 25 67 67108863 HT_ ?_
               refine pn_ 26 68 134217727 HT_ ?_
               refine pn_ 27 69 268435455 HT_ ?_
               refine pn_ 28 70 536870911 HT_ ?_
               refine pn_ 29 71 1073741823 HT_ ?_
               refine pn_ 30 72 2147483647 HT_ ?_
               refine pn_ 31 73 4294967295 HT_ ?_
               refine pn_ 32 74 8589934591 HT_ ?_
               refine pn_ 33 75 17179869183 HT_ ?_
               refine pn_ 34 76 34359738367 HT_ ?_
               refine pn_ 35 77 68719476735 HT_ ?_
               refine pu_ 36 78 137438953471 HT_ ?_
               refine pu_ 37 79 274877906943 HT_ ?_
               refine pn_ 38 80 549755813887 HT_ ?_
               refine pn_ 39 81 1099511627775 HT_ ?_
               refine pn_ 40 82 2199023255551 HT_ ?_
               refine pn_ 41 83 4398046511103 HT_ ?_
               refine pn_ 42 84 8796093022207 HT_ ?_
               refine pn_ 43 85 17592186044415 HT_ ?_
               refine pn_ 44 86 35184372088831 HT_ ?_
               refine pn_ 45 87 70368744177663 HT_ ?_
               refine pn_ 46 88 140737488355327 HT_ ?_
               refine pn_ 47 89 281474976710655 HT_ ?_
               refine pn_ 48 90 562949953421311 HT_ ?_
               refine pu_ 49 91 1125899906842623 HT_ ?_
               refine dn_ HT_ ?_
               try go_wp2
               go_ret
               exact ⟨by first | rfl | (simp [errW_none, errW_some] <;> rfl) | (simp [*, errW_none, errW_some] <;> rfl) | (exfalso; simp_all), pH HB⟩
              ·rw [if_neg c27] at H
               have c27b0 : (((rd_T62 l1 x5_1).f0) == ((rd_T62 l1 x6_3).f0)) = false := beq_eq_false_iff_ne.mpr c27
               have c27b1 : (((rd_T62 l1 x5_1).f0) != ((rd_T62 l1 x6_3).f0)) = true := bne_iff_ne.mpr c27
               by_cases c29 : ((rd_T62 l1 x5_1).f0) = ((rd_T62 l1 x6_3).f1)
               ·rw [if_pos c29] at H
                have c29b0 : (((rd_T62 l1 x5_1).f0) == ((rd_T62 l1 x6_3).f1)) = true := beq_iff_eq.mpr c29
                have c29b1 : (((rd_T62 l1 x5_1).f0) != ((rd_T62 l1 x6_3).f1)) = false := bne_eq_false_iff_eq.mpr c29
                clear c29
                obtain rfl := Option.some.inj H
                try go_wp2
                replace BK173 := dB BK173
                replace HB := dH HB
                have p179 : 0 ≤ (x5_1 : Int) := of_decide_eq_true (by first | (with_reducible assumption) | assumption)
                have q179 : x5_1 < (l1.length : Int) := of_decide_eq_true (by first | (with_reducible assumption) | assumption)
                obtain ⟨ad179, e179, hx179_0, hx179_1⟩ := at_T62 HR1.out x5_1 p179 q179
                have hw179_1 := hx179_1
                have hw179_0 := hx179_0
                cases e179
                replace hx179_0 := cH HB hx179_0
                replace hx179_1 := cH HB hx179_1
                replace p179 := eq_true p179
                replace q179 := eq_true q179
                have p180 : 0 ≤ (x6_3 : Int) := of_decide_eq_true (by first | (with_reducible assumption) | assumption)
                have q180 : x6_3 < (l1.length : Int) := of_decide_eq_true (by first | (with_reducible assumption) | assumption)
                obtain ⟨ad180, e180, hx180_0, hx180_1⟩ := at_T62 HR1.out x6_3 p180 q180
                have hw180_1 := hx180_1
                have hw180_0 := hx180_0
                obtain rfl : ad179 = ad180 := (by injection e180)
                replace hx180_0 := cH HB hx180_0
                replace hx180_1 := cH HB hx180_1
                replace p180 := eq_true p180
                replace q180 := eq_true q180
                have p181 : 0 ≤ (x5_1 : Int) := of_decide_eq_true (by first | (with_reducible assumption) | assumption)
                have q181 : x5_1 < (l1.length : Int) := of_decide_eq_true (by first | (with_reducible assumption) | assumption)
                obtain ⟨ad181, e181, hx181_0, hx181_1⟩ := at_T62 HR1.out x5_1 p181 q181
                have hw181_1 := hx181_1
                have hw181_0 := hx181_0
                obtain rfl : ad179 = ad181 := (by injection e181)
                replace hx181_0 := cH HB hx181_0
                replace hx181_1 := cH HB hx181_1
                replace p181 := eq_true p181
                replace q181 := eq_true q181
                have p182 : 0 ≤ (x6_3 : Int) := of_decide_eq_true (by first | (with_reducible assumption) | assumption)
                have q182 : x6_3 < (l1.length : Int) := of_decide_eq_true (by first | (with_reducible assumption) | assumption)
                obtain ⟨ad182, e182, hx182_0, hx182_1⟩ := at_T62 HR1.out x6_3 p182 q182
                have hw182_1 := hx182_1
                have hw182_0 := hx182_0
                obtain rfl : ad179 = ad182 := (by injection e182)
                replace hx182_0 := cH HB hx182_0
                replace hx182_1 := cH HB hx182_1
                replace p182 := eq_true p182
                replace q182 := eq_true q182
                refine st_ 50 (S := fun w' => w'.cell? (ad179.add ((x5_1).toNat * 2)) = some (.int .i64 ((rd_T62 l1 x5_1).f0)) ∧ w'.cell? ⟨(ad179.add ((x5_1).toNat * 2)).block, (ad179.add ((x5_1).toNat * 2)).off + 1, none⟩ = some (.int .i64 ((rd_T62 l1 x5_1).f1)) ∧ w'.cell? (ad179.add ((x6_3).toNat * 2)) = some (.int .i64 ((rd_T62 l1 x6_3).f0)) ∧ w'.cell? ⟨(ad179.add ((x6_3).toNat * 2)).block, (ad179.add ((x6_3).toNat * 2)).off + 1, none⟩ = some (.int .i64 ((rd_T62 l1 x6_3).f1)) ∧ w'.cell? (ad179.add ((x5_1).toNat * 2)) = some (.int .i64 ((rd_T62 l1 x5_1).f0)) ∧ w'.cell? ⟨(ad179.add ((x5_1).toNat * 2)).block, (ad179.add ((x5_1).toNat * 2)).off + 1, none⟩ = some (.int .i64 ((rd_T62 l1 x5_1).f1)) ∧ w'.cell? (ad179.add ((x6_3).toNat * 2)) = some (.int .i64 ((rd_T62 l1 x6_3).f0)) ∧ w'.cell? ⟨(ad179.add ((x6_3).toNat * 2)).block, (ad179.add ((x6_3).toNat * 2)).off + 1, none⟩ = some (.int .i64 ((rd_T62 l1 x6_3).f1))) (ds := []) ⟨(cH HB hw179_0 :), (cH HB hw179_1 :), (cH HB hw180_0 :), (cH HB hw180_1 :), (cH HB hw181_0 :), (cH HB hw181_1 :), (cH HB hw182_0 :), (cH HB hw182_1 :)⟩ (fun hHeld => ?_); refine with_tabW spec_l02Is.tab9 spec_l02Is.bits9 (fun HT_ HW_ => ?_)
                generalize wr.drew = w30 at BK173 HB hx179_0 hx179_1 hx180_0 hx180_1 hx181_0 hx181_1 hx182_0 hx182_1 hHeld ⊢
                refine pu_ 0 42 1 HT_ ?_
                refine pu_ 1 43 3 HT_ ?_
                refine pu_ 2 44 7 HT_ ?_
                refine pu_ 3 45 15 HT_ ?_
                refine pu_ 5 47 47 HT_ ?_
                refine pu_ 6 48 111 HT_ ?_
                refine pu_ 7 49 239 HT_ ?_
                refine pu_ 8 50 495 HT_ ?_
                refine tk_ 4 46 511 HT_ HW_ hHeld ?_
                refine tk_ 9 51 1023 HT_ HW_ hHeld ?_
                refine pu_ 10 52 2047 HT_ ?_
                refine pu_ 11 53 4095 HT_ ?_
                refine pu_ 12 54 8191 HT_ ?_
                refine pu_ 13 55 16383 HT_ ?_
                refine pu_ 14 56 32767 HT_ ?_
                refine pu_ 15 57 65535 HT_ ?_
                refine pu_ 17 59 196607 HT_ ?_
                refine pu_ 18 60 458751 HT_ ?_
                refine pu_ 19 61 983039 HT_ ?_
                refine pu_ 20 62 2031615 HT_ ?_
                refine tk_ 16 58 2097151 HT_ HW_ hHeld ?_
                refine tk_ 21 63 4194303 HT_ HW_ hHeld ?_
                refine pu_ 22 64 8388607 HT_ ?_
                refine pu_ 23 65 16777215 HT_ ?_
                refine pu_ 24 66 33554431 HT_ ?_
                refine pn_ 25 67 67108863 HT_ ?_
                refine pn_ 26 68 134217727 HT_ ?_
                refine pn_ 27 69 268435455 HT_ ?_
                refine pn_ 28 70 536870911 HT_ ?_
                refine pn_ 29 71 1073741823 HT_ ?_
                refine pn_ 30 72 2147483647 HT_ ?_
                refine pn_ 31 73 4294967295 HT_ ?_
                refine pn_ 32 74 8589934591 HT_ ?_
                refine pn_ 33 75 17179869183 HT_ ?_
                refine pn_ 34 76 34359738367 HT_ ?_
                refine pn_ 35 77 68719476735 HT_ ?_
                refine pu_ 36 78 137438953471 HT_ ?_
                refine pu_ 37 79 274877906943 HT_ ?_
                refine pn_ 38 80 549755813887 HT_ ?_
                refine pn_ 39 81 1099511627775 HT_ ?_
                refine pn_ 40 82 2199023255551 HT_ ?_
                refine pn_ 41 83 4398046511103 HT_ ?_
                refine pn_ 42 84 8796093022207 HT_ ?_
                refine pn_ 43 85 17592186044415 HT_ ?_
                refine pn_ 44 86 35184372088831 HT_ ?_
                refine pn_ 45 87 70368744177663 HT_ ?_
                refine pn_ 46 88 140737488355327 HT_ ?_
                refine pn_ 47 89 281474976710655 HT_ ?_
                refine pn_ 48 90 562949953421311 HT_ ?_
                refine pu_ 49 91 1125899906842623 HT_ ?_
                refine dn_ HT_ ?_
                try go_wp2
                go_ret
                exact ⟨by first | rfl | (simp [errW_none, errW_some] <;> rfl) | (simp [*, errW_none, errW_some] <;> rfl) | (exfalso; simp_all), pH HB⟩
               ·rw [if_neg c29] at H
                have c29b0 : (((rd_T62 l1 x5_1).f0) == ((rd_T62 l1 x6_3).f1)) = false := beq_eq_false_iff_ne.mpr c29
                have c29b1 : (((rd_T62 l1 x5_1).f0) != ((rd_T62 l1 x6_3).f1)) = true := bne_iff_ne.mpr c29
                by_cases c31 : ((rd_T62 l1 x5_1).f1) = ((rd_T62 l1 x6_3).f0)
                ·rw [if_pos c31] at H
                 have c31b0 : (((rd_T62 l1 x5_1).f1) == ((rd_T62 l1 x6_3).f0)) = true := beq_iff_eq.mpr c31
                 have c31b1 : (((rd_T62 l1 x5_1).f1) != ((rd_T62 l1 x6_3).f0)) = false := bne_eq_false_iff_eq.mpr c31
                 clear c31
                 obtain rfl := Option.some.inj H
                 try go_wp2
                 replace BK173 := dB BK173
                 replace HB := dH HB
                 have p179 : 0 ≤ (x5_1 : Int) := of_decide_eq_true (by first | (with_reducible assumption) | assumption)
                 have q179 : x5_1 < (l1.length : Int) := of_decide_eq_true (by first | (with_reducible assumption) | assumption)
                 obtain ⟨ad179, e179, hx179_0, hx179_1⟩ := at_T62 HR1.out x5_1 p179 q179
                 have hw179_1 := hx179_1
                 have hw179_0 := hx179_0
                 cases e179
                 replace hx179_0 := cH HB hx179_0
                 replace hx179_1 := cH HB hx179_1
                 replace p179 := eq_true p179
                 replace q179 := eq_true q179
                 have p180 : 0 ≤ (x6_3 : Int) := of_decide_eq_true (by first | (with_reducible assumption) | assumption)
                 have q180 : x6_3 < (l1.length : Int) := of_decide_eq_true (by first | (with_reducible assumption) | assumption)
                 obtain ⟨ad180, e180, hx180_0, hx180_1⟩ := at_T62 HR1.out x6_3 p180 q180
                 have hw180_1 := hx180_1
                 have hw180_0 := hx180_0
                 obtain rfl : ad179 = ad180 := (by injection e180)
                 replace hx180_0 := cH HB hx180_0
                 replace hx180_1 := cH HB hx180_1
                 replace p180 := eq_true p180
                 replace q180 := eq_true q180
                 have p181 : 0 ≤ (x5_1 : Int) := of_decide_eq_true (by first | (with_reducible assumption) | assumption)
                 have q181 : x5_1 < (l1.length : Int) := of_decide_eq_true (by first | (with_reducible assumption) | assumption)
                 obtain ⟨ad181, e181, hx181_0, hx181_1⟩ := at_T62 HR1.out x5_1 p181 q181
                 have hw181_1 := hx181_1
                 have hw181_0 := hx181_0
                 obtain rfl : ad179 = ad181 := (by injection e181)
                 replace hx181_0 := cH HB hx181_0
                 replace hx181_1 := cH HB hx181_1
                 replace p181 := eq_true p181
                 replace q181 := eq_true q181
                 have p182 : 0 ≤ (x6_3 : Int) := of_decide_eq_true (by first | (with_reducible assumption) | assumption)
                 have q182 : x6_3 < (l1.length : Int) := of_decide_eq_true (by first | (with_reducible assumption) | assumption)
                 obtain ⟨ad182, e182, hx182_0, hx182_1⟩ := at_T62 HR1.out x6_3 p182 q182
                 have hw182_1 := hx182_1
                 have hw182_0 := hx182_0
                 obtain rfl : ad179 = ad182 := (by injection e182)
                 replace hx182_0 := cH HB hx182_0
                 replace hx182_1 := cH HB hx182_1
                 replace p182 := eq_true p182
                 replace q182 := eq_true q182
                 have p183 : 0 ≤ (x5_1 : Int) := of_decide_eq_true (by first | (with_reducible assumption) | assumption)
                 have q183 : x5_1 < (l1.length : Int) := of_decide_eq_true (by first | (with_reducible assumption) | assumption)
                 obtain ⟨ad183, e183, hx183_0, hx183_1⟩ := at_T62 HR1.out x5_1 p183 q183
                 have hw183_1 := hx183_1
                 have hw183_0 := hx183_0
                 obtain rfl : ad179 = ad183 := (by injection e183)
                 replace hx183_0 := cH HB hx183_0
                 replace hx183_1 := cH HB hx183_1
                 replace p183 := eq_true p183
                 replace q183 := eq_true q183
                 have p184 : 0 ≤ (x6_3 : Int) := of_decide_eq_true (by first | (with_reducible assumption) | assumption)
                 have q184 : x6_3 < (l1.length : Int) := of_decide_eq_true (by first | (with_reducible assumption) | assumption)
                 obtain ⟨ad184, e184, hx184_0, hx184_1⟩ := at_T62 HR1.out x6_3 p184 q184
                 have hw184_1 := hx184_1
                 have hw184_0 := hx184_0
                 obtain rfl : ad179 = ad184 := (by injection e184)
                 replace hx184_0 := cH HB hx184_0
                 replace hx184_1 := cH HB hx184_1
                 replace p184 := eq_true p184
                 replace q184 := eq_true q184
                 refine st_ 50 (S := fun w' => w'.cell? (ad179.add ((x5_1).toNat * 2)) = some (.int .i64 ((rd_T62 l1 x5_1).f0)) ∧ w'.cell? ⟨(ad179.add ((x5_1).toNat * 2)).block, (ad179.add ((x5_1).toNat * 2)).off + 1, none⟩ = some (.int .i64 ((rd_T62 l1 x5_1).f1)) ∧ w'.cell? (ad179.add ((x6_3).toNat * 2)) = some (.int .i64 ((rd_T62 l1 x6_3).f0)) ∧ w'.cell? ⟨(ad179.add ((x6_3).toNat * 2)).block, (ad179.add ((x6_3).toNat * 2)).off + 1, none⟩ = some (.int .i64 ((rd_T62 l1 x6_3).f1)) ∧ w'.cell? (ad179.add ((x5_1).toNat * 2)) = some (.int .i64 ((rd_T62 l1 x5_1).f0)) ∧ w'.cell? ⟨(ad179.add ((x5_1).toNat * 2)).block, (ad179.add ((x5_1).toNat * 2)).off + 1, none⟩ = some (.int .i64 ((rd_T62 l1 x5_1).f1)) ∧ w'.cell? (ad179.add ((x6_3).toNat * 2)) = some (.int .i64 ((rd_T62 l1 x6_3).f0)) ∧ w'.cell? ⟨(ad179.add ((x6_3).toNat * 2)).block, (ad179.add ((x6_3).toNat * 2)).off + 1, none⟩ = some (.int .i64 ((rd_T62 l1 x6_3).f1)) ∧ w'.cell? (ad179.add ((x5_1).toNat * 2)) = some (.int .i64 ((rd_T62 l1 x5_1).f0)) ∧ w'.cell? ⟨(ad179.add ((x5_1).toNat * 2)).block, (ad179.add ((x5_1).toNat * 2)).off + 1, none⟩ = some (.int .i64 ((rd_T62 l1 x5_1).f1)) ∧ w'.cell? (ad179.add ((x6_3).toNat * 2)) = some (.int .i64 ((rd_T62 l1 x6_3).f0)) ∧ w'.cell? ⟨(ad179.add ((x6_3).toNat * 2)).block, (ad179.add ((x6_3).toNat * 2)).off + 1, none⟩ = some (.int .i64 ((rd_T62 l1 x6_3).f1))) (ds := []) ⟨(cH HB hw179_0 :), (cH HB hw179_1 :), (cH HB hw180_0 :), (cH HB hw180_1 :), (cH HB hw181_0 :), (cH HB hw181_1 :), (cH HB hw182_0 :), (cH HB hw182_1 :), (cH HB hw183_0 :), (cH HB hw183_1 :), (cH HB hw184_0 :), (cH HB hw184_1 :)⟩ (fun hHeld => ?_); refine with_tabW spec_l02Is.tab9 spec_l02Is.bits9 (fun HT_ HW_ => ?_)
                 generalize wr.drew = w32 at BK173 HB hx179_0 hx179_1 hx180_0 hx180_1 hx181_0 hx181_1 hx182_0 hx182_1 hx183_0 hx183_1 hx184_0 hx184_1 hHeld ⊢
                 refine pu_ 0 42 1 HT_ ?_
                 refine pu_ 1 43 3 HT_ ?_
                 refine pu_ 2 44 7 HT_ ?_
                 refine pu_ 3 45 15 HT_ ?_
                 refine pu_ 5 47 47 HT_ ?_
                 refine pu_ 6 48 111 HT_ ?_
                 refine pu_ 7 49 239 HT_ ?_
                 refine pu_ 8 50 495 HT_ ?_
                 refine tk_ 4 46 511 HT_ HW_ hHeld ?_
                 refine tk_ 9 51 1023 HT_ HW_ hHeld ?_
                 refine pu_ 10 52 2047 HT_ ?_
                 refine pu_ 11 53 4095 HT_ ?_
                 refine pu_ 12 54 8191 HT_ ?_
                 refine pu_ 13 55 16383 HT_ ?_
                 refine pu_ 14 56 32767 HT_ ?_
                 refine pu_ 15 57 65535 HT_ ?_
                 refine pu_ 17 59 196607 HT_ ?_
                 refine pu_ 18 60 458751 HT_ ?_
                 refine pu_ 19 61 983039 HT_ ?_
                 refine pu_ 20 62 2031615 HT_ ?_
                 refine tk_ 16 58 2097151 HT_ HW_ hHeld ?_
                 refine tk_ 21 63 4194303 HT_ HW_ hHeld ?_
                 refine pu_ 22 64 8388607 HT_ ?_
                 refine pu_ 23 65 16777215 HT_ ?_
                 refine pu_ 24 66 33554431 HT_ ?_
                 refine pu_ 25 67 67108863 HT_ ?_
                 refine pu_ 26 68 134217727 HT_ ?_
                 refine pu_ 27 69 268435455 HT_ ?_
                 refine pu_ 28 70 536870911 HT_ ?_
                 refine pu_ 30 72 1610612735 HT_ ?_
                 refine pu_ 31 73 3758096383 HT_ ?_
                 refine pu_ 32 74 8053063679 HT_ ?_
                 refine pu_ 33 75 16642998271 HT_ ?_
                 refine tk_ 29 71 17179869183 HT_ HW_ hHeld ?_
                 refine tk_ 34 76 34359738367 HT_ HW_ hHeld ?_
                 refine pu_ 35 77 68719476735 HT_ ?_
                 refine pu_ 36 78 137438953471 HT_ ?_
                 refine pu_ 37 79 274877906943 HT_ ?_
                 refine pn_ 38 80 549755813887 HT_ ?_
                 refine pn_ 39 81 1099511627775 HT_ ?_
                 refine pn_ 40 82 2199023255551 HT_ ?_
                 refine pn_ 41 83 4398046511103 HT_ ?_
                 refine pn_ 42 84 8796093022207 HT_ ?_
                 refine pn_ 43 85 17592186044415 HT_ ?_
                 refine pn_ 44 86 35184372088831 HT_ ?_
                 refine pn_ 45 87 70368744177663 HT_ ?_
                 refine pn_ 46 88 140737488355327 HT_ ?_
                 refine pn_ 47 89 281474976710655 HT_ ?_
                 refine pn_ 48 90 562949953421311 HT_ ?_
                 refine pu_ 49 91 1125899906842623 HT_ ?_
                 refine dn_ HT_ ?_
                 try go_wp2
                 go_ret
                 exact ⟨by first | rfl | (simp [errW_none, errW_some] <;> rfl) | (simp [*, errW_none, errW_some] <;> rfl) | (exfalso; simp_all), pH HB⟩
                ·rw [if_neg c31] at H
                 have c31b0 : (((rd_T62 l1 x5_1).f1) == ((rd_T62 l1 x6_3).f0)) = false := beq_eq_false_iff_ne.mpr c31
                 have c31b1 : (((rd_T62 l1 x5_1).f1) != ((rd_T62 l1 x6_3).f0)) = true := bne_iff_ne.mpr c31
                 by_cases c33 : ((rd_T62 l1 x5_1).f1) = ((rd_T62 l1 x6_3).f1)
                 ·rw [if_pos c33] at H
                  have c33b0 : (((rd_T62 l1 x5_1).f1) == ((rd_T62 l1 x6_3).f1)) = true := beq_iff_eq.mpr c33
                  have c33b1 : (((rd_T62 l1 x5_1).f1) != ((rd_T62 l1 x6_3).f1)) = false := bne_eq_false_iff_eq.mpr c33
                  clear c33
                  obtain rfl := Option.some.inj H
                  try go_wp2
                  replace BK173 := dB BK173
                  replace HB := dH HB
                  have p179 : 0 ≤ (x5_1 : Int) := of_decide_eq_true (by first | (with_reducible assumption) | assumption)
                  have q179 : x5_1 < (l1.length : Int) := of_decide_eq_true (by first | (with_reducible assumption) | assumption)
                  obtain ⟨ad179, e179, hx179_0, hx179_1⟩ := at_T62 HR1.out x5_1 p179 q179
                  have hw179_1 := hx179_1
                  have hw179_0 := hx179_0
                  cases e179
                  replace hx179_0 := cH HB hx179_0
                  replace hx179_1 := cH HB hx179_1
                  replace p179 := eq_true p179
                  replace q179 := eq_true q179
                  have p180 : 0 ≤ (x6_3 : Int) := of_decide_eq_true (by first | (with_reducible assumption) | assumption)
                  have q180 : x6_3 < (l1.length : Int) := of_decide_eq_true (by first | (with_reducible assumption) | assumption)
                  obtain ⟨ad180, e180, hx180_0, hx180_1⟩ := at_T62 HR1.out x6_3 p180 q180
                  have hw180_1 := hx180_1
                  have hw180_0 := hx180_0
                  obtain rfl : ad179 = ad180 := (by injection e180)
                  replace hx180_0 := cH HB hx180_0
                  replace hx180_1 := cH HB hx180_1
                  replace p180 := eq_true p180
                  replace q180 := eq_true q180
                  have p181 : 0 ≤ (x5_1 : Int) := of_decide_eq_true (by first | (with_reducible assumption) | assumption)
                  have q181 : x5_1 < (l1.length : Int) := of_decide_eq_true (by first | (with_reducible assumption) | assumption)
                  obtain ⟨ad181, e181, hx181_0, hx181_1⟩ := at_T62 HR1.out x5_1 p181 q181
                  have hw181_1 := hx181_1
                  have hw181_0 := hx181_0
                  obtain rfl : ad179 = ad181 := (by injection e181)
                  replace hx181_0 := cH HB hx181_0
                  replace hx181_1 := cH HB hx181_1
                  replace p181 := eq_true p181
                  replace q181 := eq_true q181
                  have p182 : 0 ≤ (x6_3 : Int) := of_decide_eq_true (by first | (with_reducible assumption) | assumption)
                  have q182 : x6_3 < (l1.length : Int) := of_decide_eq_true (by first | (with_reducible assumption) | assumption)
                  obtain ⟨ad182, e182, hx182_0, hx182_1⟩ := at_T62 HR1.out x6_3 p182 q182
                  have hw182_1 := hx182_1
                  have hw182_0 := hx182_0
                  obtain rfl : ad179 = ad182 := (by injection e182)
                  replace hx182_0 := cH HB hx182_0
                  replace hx182_1 := cH HB hx182_1
                  replace p182 := eq_true p182
                  replace q182 := eq_true q182
                  have p183 : 0 ≤ (x5_1 : Int) := of_decide_eq_true (by first | (with_reducible assumption) | assumption)
                  have q183 : x5_1 < (l1.length : Int) := of_decide_eq_true (by first | (with_reducible assumption) | assumption)
                  obtain ⟨ad183, e183, hx183_0, hx183_1⟩ := at_T62 HR1.out x5_1 p183 q183
                  have hw183_1 := hx183_1
                  have hw183_0 := hx183_0
                  obtain rfl : ad179 = ad183 := (by injection e183)
                  replace hx183_0 := cH HB hx183_0
                  replace hx183_1 := cH HB hx183_1
                  replace p183 := eq_true p183
                  replace q183 := eq_true q183
                  have p184 : 0 ≤ (x6_3 : Int) := of_decide_eq_true (by first | (with_reducible assumption) | assumption)
                  have q184 : x6_3 < (l1.length : Int) := of_decide_eq_true (by first | (with_reducible assumption) | assumption)
                  obtain ⟨ad184, e184, hx184_0, hx184_1⟩ := at_T62 HR1.out x6_3 p184 q184
                  have hw184_1 := hx184_1
                  have hw184_0 := hx184_0
                  obtain rfl : ad179 = ad184 := (by injection e184)
                  replace hx184_0 := cH HB hx184_0
                  replace hx184_1 := cH HB hx184_1
                  replace p184 := eq_true p184
                  replace q184 := eq_true q184
                  have p185 : 0 ≤ (x5_1 : Int) := of_decide_eq_true (by first | (with_reducible assumption) | assumption)
                  have q185 : x5_1 < (l1.length : Int) := of_decide_eq_true (by first | (with_reducible assumption) | assumption)
                  obtain ⟨ad185, e185, hx185_0, hx185_1⟩ := at_T62 HR1.out x5_1 p185 q185
                  have hw185_1 := hx185_1
                  have hw185_0 := hx185_0
                  obtain rfl : ad179 = ad185 := (by injection e185)
                  replace hx185_0 := cH HB hx185_0
                  replace hx185_1 := cH HB hx185_1
                  replace p185 := eq_true p185
                  replace q185 := eq_true q185
                  have p186 : 0 ≤ (x6_3 : Int) := of_decide_eq_true (by first | (with_reducible assumption) | assumption)
                  have q186 : x6_3 < (l1.length : Int) := of_decide_eq_true (by first | (with_reducible assumption) | assumption)
                  obtain ⟨ad186, e186, hx186_0, hx186_1⟩ := at_T62 HR1.out x6_3 p186 q186
                  have hw186_1 := hx186_1
                  have hw186_0 := hx186_0
                  obtain rfl : ad179 = ad186 := (by injection e186)
                  replace hx186_0 := cH HB hx186_0
                  replace hx186_1 := cH HB hx186_1
                  replace p186 := eq_true p186
                  replace q186 := eq_true q186
                  refine st_ 50 (S := fun w' => w'.cell? (ad179.add ((x5_1).toNat * 2)) = some (.int .i64 ((rd_T62 l1 x5_1).f0)) ∧ w'.cell? ⟨(ad179.add ((x5_1).toNat * 2)).block, (ad179.add ((x5_1).toNat * 2)).off + 1, none⟩ = some (.int .i64 ((rd_T62 l1 x5_1).f1)) ∧ w'.cell? (ad179.add ((x6_3).toNat * 2)) = some (.int .i64 ((rd_T62 l1 x6_3).f0)) ∧ w'.cell? ⟨(ad179.add ((x6_3).toNat * 2)).block, (ad179.add ((x6_3).toNat * 2)).off + 1, none⟩ = some (.int .i64 ((rd_T62 l1 x6_3).f1)) ∧ w'.cell? (ad179.add ((x5_1).toNat * 2)) = some (.int .i64 ((rd_T62 l1 x5_1).f0)) ∧ w'.cell? ⟨(ad179.add ((x5_1).toNat * 2)).block, (ad179.add ((x5_1).toNat * 2)).off + 1, none⟩ = some (.int .i64 ((rd_T62 l1 x5_1).f1)) ∧ w'.cell? (ad179.add ((x6_3).toNat * 2)) = some (.int .i64 ((rd_T62 l1 x6_3).f0)) ∧ w'.cell? ⟨(ad179.add ((x6_3).toNat * 2)).block, (ad179.add ((x6_3).toNat * 2)).off + 1, none⟩ = some (.int .i64 ((rd_T62 l1 x6_3).f1)) ∧ w'.cell? (ad179.add ((x5_1).toNat * 2)) = some (.int .i64 ((rd_T62 l1 x5_1).f0)) ∧ w'.cell? ⟨(ad179.add ((x5_1).toNat * 2)).block, (ad179.add ((x5_1).toNat * 2)).off + 1, none⟩ = some (.int .i64 ((rd_T62 l1 x5_1).f1)) ∧ w'.cell? (ad179.add ((x6_3).toNat * 2)) = some (.int .i64 ((rd_T62 l1 x6_3).f0)) ∧ w'.cell? ⟨(ad179.add ((x6_3).toNat * 2)).block, (ad179.add ((x6_3).toNat * 2)).off + 1, none⟩ = some (.int .i64 ((rd_T62 l1 x6_3).f1)) ∧ w'.cell? (ad179.add ((x5_1).toNat * 2)) = some (.int .i64 ((rd_T62 l1 x5_1).f0)) ∧ w'.cell? ⟨(ad179.add ((x5_1).toNat * 2)).block, (ad179.add ((x5_1).toNat * 2)).off + 1, none⟩ = some (.int .i64 ((rd_T62 l1 x5_1).f1)) ∧ w'.cell? (ad179.add ((x6_3).toNat * 2)) = some (.int .i64 ((rd_T62 l1 x6_3).f0)) ∧ w'.cell? ⟨(ad179.add ((x6_3).toNat * 2)).block, (ad179.add ((x6_3).toNat * 2)).off + 1, none⟩ = some (.int .i64 ((rd_T62 l1 x6_3).f1))) (ds := []) ⟨(cH HB hw179_0 :), (cH HB hw179_1 :), (cH HB hw180_0 :), (cH HB hw180_1 :), (cH HB hw181_0 :), (cH HB hw181_1 :), (cH HB hw182_0 :), (cH HB hw182_1 :), (cH HB hw183_0 :), (cH HB hw183_1 :), (cH HB hw184_0 :), (cH HB hw184_1 :), (cH HB hw185_0 :), (cH HB hw185_1 :), (cH HB hw186_0 :), (cH HB hw186_1 :)⟩ (fun hHeld => ?_); refine with_tabW spec_l02Is.tab9 spec_l02Is.bits9 (fun HT_ HW_ => ?_)
                  generalize wr.drew = w34 at BK173 HB hx179_0 hx179_1 hx180_0 hx180_1 hx181_0 hx181_1 hx182_0 hx182_1 hx183_0 hx183_1 hx184_0 hx184_1 hx185_0 hx185_1 hx186_0 hx186_1 hHeld ⊢
                  refine pu_ 0 42 1 HT_ ?_
                  refine pu_ 1 43 3 HT_ ?_
                  refine pu_ 2 44 7 HT_ ?_
                  refine pu_ 3 45 15 HT_ ?_
                  refine pu_ 5 47 47 HT_ ?_
                  refine pu_ 6 48 111 HT_ ?_
                  refine pu_ 7 49 239 HT_ ?_
                  refine pu_ 8 50 495 HT_ ?_
                  refine tk_ 4 46 511 HT_ HW_ hHeld ?_
                  refine tk_ 9 51 1023 HT_ HW_ hHeld ?_
                  refine pu_ 10 52 2047 HT_ ?_
                  refine pu_ 11 53 4095 HT_ ?_
                  refine pu_ 12 54 8191 HT_ ?_
                  refine pu_ 13 55 16383 HT_ ?_
                  refine pu_ 14 56 32767 HT_ ?_
                  refine pu_ 15 57 65535 HT_ ?_
                  refine pu_ 17 59 196607 HT_ ?_
                  refine pu_ 18 60 458751 HT_ ?_
                  refine pu_ 19 61 983039 HT_ ?_
                  refine pu_ 20 62 2031615 HT_ ?_
                  refine tk_ 16 58 2097151 HT_ HW_ hHeld ?_
                  refine tk_ 21 63 4194303 HT_ HW_ hHeld ?_
                  refine pu_ 22 64 8388607 HT_ ?_
                  refine pu_ 23 65 16777215 HT_ ?_
                  refine pu_ 24 66 33554431 HT_ ?_
                  refine pu_ 25 67 67108863 HT_ ?_
                  refine pu_ 26 68 134217727 HT_ ?_
                  refine pu_ 27 69 268435455 HT_ ?_
                  refine pu_ 28 70 536870911 HT_ ?_
                  refine pu_ 30 72 1610612735 HT_ ?_
                  refine pu_ 31 73 3758096383 HT_ ?_
                  refine pu_ 32 74 8053063679 HT_ ?_
                  refine pu_ 33 75 16642998271 HT_ ?_
                  refine tk_ 29 71 17179869183 HT_ HW_ hHeld ?_
                  refine tk_ 34 76 34359738367 HT_ HW_ hHeld ?_
                  refine pu_ 35 77 68719476735 HT_ ?_
                  refine pu_ 36 78 137438953471 HT_ ?_
                  refine pu_ 37 79 274877906943 HT_ ?_
                  refine pu_ 38 80 549755813887 HT_ ?_
                  refine pu_ 39 81 1099511627775 HT_ ?_
                  refine pu_ 40 82 2199023255551 HT_ ?_
                  refine pu_ 41 83 4398046511103 HT_ ?_
                  refine pu_ 43 85 13194139533311 HT_ ?_
                  refine pu_ 44 86 30786325577727 HT_ ?_
                  refine pu_ 45 87 65970697666559 HT_ ?_
                  refine pu_ 46 88 136339441844223 HT_ ?_
                  refine tk_ 42 84 140737488355327 HT_ HW_ hHeld ?_
                  refine tk_ 47 89 281474976710655 HT_ HW_ hHeld ?_
                  refine pu_ 48 90 562949953421311 HT_ ?_
                  refine pu_ 49 91 1125899906842623 HT_ ?_
                  refine dn_ HT_ ?_
                  try go_wp2
                  go_ret
                  exact ⟨by first | rfl | (simp [errW_none, errW_some] <;> rfl) | (simp [*, errW_none, errW_some] <;> rfl) | (exfalso; simp_all), pH HB⟩
                 ·rw [if_neg c33] at H
                  have c33b0 : (((rd_T62 l1 x5_1).f1) == ((rd_T62 l1 x6_3).f1)) = false := beq_eq_false_iff_ne.mpr c33
                  have c33b1 : (((rd_T62 l1 x5_1).f1) != ((rd_T62 l1 x6_3).f1)) = true := bne_iff_ne.mpr c33
                  have H' := Aside0.mk H
                  clear H
                  try go_wp2
                  replace BK173 := dB BK173
                  replace HB := dH HB
                  have p179 : 0 ≤ (x5_1 : Int) := of_decide_eq_true (by first | (with_reducible assumption) | assumption)
                  have q179 : x5_1 < (l1.length : Int) := of_decide_eq_true (by first | (with_reducible assumption) | assumption)
                  obtain ⟨ad179, e179, hx179_0, hx179_1⟩ := at_T62 HR1.out x5_1 p179 q179
                  have hw179_1 := hx179_1
                  have hw179_0 := hx179_0
                  cases e179
                  replace hx179_0 := cH HB hx179_0
                  replace hx179_1 := cH HB hx179_1
                  replace p179 := eq_true p179
                  replace q179 := eq_true q179
                  have p180 : 0 ≤ (x6_3 : Int) := of_decide_eq_true (by first | (with_reducible assumption) | assumption)
                  have q180 : x6_3 < (l1.length : Int) := of_decide_eq_true (by first | (with_reducible assumption) | assumption)
                  obtain ⟨ad180, e180, hx180_0, hx180_1⟩ := at_T62 HR1.out x6_3 p180 q180
                  have hw180_1 := hx180_1
                  have hw180_0 := hx180_0
                  obtain rfl : ad179 = ad180 := (by injection e180)
                  replace hx180_0 := cH HB hx180_0
                  replace hx180_1 := cH HB hx180_1
                  replace p180 := eq_true p180
                  replace q180 := eq_true q180
                  have p181 : 0 ≤ (x5_1 : Int) := of_decide_eq_true (by first | (with_reducible assumption) | assumption)
                  have q181 : x5_1 < (l1.length : Int) := of_decide_eq_true (by first | (with_reducible assumption) | assumption)
                  obtain ⟨ad181, e181, hx181_0, hx181_1⟩ := at_T62 HR1.out x5_1 p181 q181
                  have hw181_1 := hx181_1
                  have hw181_0 := hx181_0
                  obtain rfl : ad179 = ad181 := (by injection e181)
                  replace hx181_0 := cH HB hx181_0
                  replace hx181_1 := cH HB hx181_1
                  replace p181 := eq_true p181
                  replace q181 := eq_true q181
                  have p182 : 0 ≤ (x6_3 : Int) := of_decide_eq_true (by first | (with_reducible assumption) | assumption)
                  have q182 : x6_3 < (l1.length : Int) := of_decide_eq_true (by first | (with_reducible assumption) | assumption)
                  obtain ⟨ad182, e182, hx182_0, hx182_1⟩ := at_T62 HR1.out x6_3 p182 q182
                  have hw182_1 := hx182_1
                  have hw182_0 := hx182_0
                  obtain rfl : ad179 = ad182 := (by injection e182)
                  replace hx182_0 := cH HB hx182_0
                  replace hx182_1 := cH HB hx182_1
                  replace p182 := eq_true p182
                  replace q182 := eq_true q182
                  have p183 : 0 ≤ (x5_1 : Int) := of_decide_eq_true (by first | (with_reducible assumption) | assumption)
                  have q183 : x5_1 < (l1.length : Int) := of_decide_eq_true (by first | (with_reducible assumption) | assumption)
                  obtain ⟨ad183, e183, hx183_0, hx183_1⟩ := at_T62 HR1.out x5_1 p183 q183
                  have hw183_1 := hx183_1
                  have hw183_0 := hx183_0
                  obtain rfl : ad179 = ad183 := (by injection e183)
                  replace hx183_0 := cH HB hx183_0
                  replace hx183_1 := cH HB hx183_1
                  replace p183 := eq_true p183
                  replace q183 := eq_true q183
                  have p184 : 0 ≤ (x6_3 : Int) := of_decide_eq_true (by first | (with_reducible assumption) | assumption)
                  have q184 : x6_3 < (l1.length : Int) := of_decide_eq_true (by first | (with_reducible assumption) | assumption)
                  obtain ⟨ad184, e184, hx184_0, hx184_1⟩ := at_T62 HR1.out x6_3 p184 q184
                  have hw184_1 := hx184_1
                  have hw184_0 := hx184_0
                  obtain rfl : ad179 = ad184 := (by injection e184)
                  replace hx184_0 := cH HB hx184_0
                  replace hx184_1 := cH HB hx184_1
                  replace p184 := eq_true p184
                  replace q184 := eq_true q184
                  have p185 : 0 ≤ (x5_1 : Int) := of_decide_eq_true (by first | (with_reducible assumption) | assumption)
                  have q185 : x5_1 < (l1.length : Int) := of_decide_eq_true (by first | (with_reducible assumption) | assumption)
                  obtain ⟨ad185, e185, hx185_0, hx185_1⟩ := at_T62 HR1.out x5_1 p185 q185
                  have hw185_1 := hx185_1
                  have hw185_0 := hx185_0
                  obtain rfl : ad179 = ad185 := (by injection e185)
                  replace hx185_0 := cH HB hx185_0
                  replace hx185_1 := cH HB hx185_1
                  replace p185 := eq_true p185
                  replace q185 := eq_true q185
                  have p186 : 0 ≤ (x6_3 : Int) := of_decide_eq_true (by first | (with_reducible assumption) | assumption)
                  have q186 : x6_3 < (l1.length : Int) := of_decide_eq_true (by first | (with_reducible assumption) | assumption)
                  obtain ⟨ad186, e186, hx186_0, hx186_1⟩ := at_T62 HR1.out x6_3 p186 q186
                  have hw186_1 := hx186_1
                  have hw186_0 := hx186_0
                  obtain rfl : ad179 = ad186 := (by injection e186)
                  replace hx186_0 := cH HB hx186_0
                  replace hx186_1 := cH HB hx186_1
                  replace p186 := eq_true p186
                  replace q186 := eq_true q186
                  refine st_ 50 (S := fun w' => w'.cell? (ad179.add ((x5_1).toNat * 2)) = some (.int .i64 ((rd_T62 l1 x5_1).f0)) ∧ w'.cell? ⟨(ad179.add ((x5_1).toNat * 2)).block, (ad179.add ((x5_1).toNat * 2)).off + 1, none⟩ = some (.int .i64 ((rd_T62 l1 x5_1).f1)) ∧ w'.cell? (ad179.add ((x6_3).toNat * 2)) = some (.int .i64 ((rd_T62 l1 x6_3).f0)) ∧ w'.cell? ⟨(ad179.add ((x6_3).toNat * 2)).block, (ad179.add ((x6_3).toNat * 2)).off + 1, none⟩ = some (.int .i64 ((rd_T62 l1 x6_3).f1)) ∧ w'.cell? (ad179.add ((x5_1).toNat * 2)) = some (.int .i64 ((rd_T62 l1 x5_1).f0)) ∧ w'.cell? ⟨(ad179.add ((x5_1).toNat * 2)).block, (ad179.add ((x5_1).toNat * 2)).off + 1, none⟩ = some (.int .i64 ((rd_T62 l1 x5_1).f1)) ∧ w'.cell? (ad179.add ((x6_3).toNat * 2)) = some (.int .i64 ((rd_T62 l1 x6_3).f0)) ∧ w'.cell? ⟨(ad179.add ((x6_3).toNat * 2)).block, (ad179.add ((x6_3).toNat * 2)).off + 1, none⟩ = some (.int .i64 ((rd_T62 l1 x6_3).f1)) ∧ w'.cell? (ad179.add ((x5_1).toNat * 2)) = some (.int .i64 ((rd_T62 l1 x5_1).f0)) ∧ w'.cell? ⟨(ad179.add ((x5_1).toNat * 2)).block, (ad179.add ((x5_1).toNat * 2)).off + 1, none⟩ = some (.int .i64 ((rd_T62 l1 x5_1).f1)) ∧ w'.cell? (ad179.add ((x6_3).toNat * 2)) = some (.int .i64 ((rd_T62 l1 x6_3).f0)) ∧ w'.cell? ⟨(ad179.add ((x6_3).toNat * 2)).block, (ad179.add ((x6_3).toNat * 2)).off + 1, none⟩ = some (.int .i64 ((rd_T62 l1 x6_3).f1)) ∧ w'.cell? (ad179.add ((x5_1).toNat * 2)) = some (.int .i64 ((rd_T62 l1 x5_1).f0)) ∧ w'.cell? ⟨(ad179.add ((x5_1).toNat * 2)).block, (ad179.add ((x5_1).toNat * 2)).off + 1, none⟩ = some (.int .i64 ((rd_T62 l1 x5_1).f1)) ∧ w'.cell? (ad179.add ((x6_3).toNat * 2)) = some (.int .i64 ((rd_T62 l1 x6_3).f0)) ∧ w'.cell? ⟨(ad179.add ((x6_3).toNat * 2)).block, (ad179.add ((x6_3).toNat * 2)).off + 1, none⟩ = some (.int .i64 ((rd_T62 l1 x6_3).f1))) (ds := []) ⟨(cH HB hw179_0 :), (cH HB hw179_1 :), (cH HB hw180_0 :), (cH HB hw180_1 :), (cH HB hw181_0 :), (cH HB hw181_1 :), (cH HB hw182_0 :), (cH HB hw182_1 :), (cH HB hw183_0 :), (cH HB hw183_1 :), (cH HB hw184_0 :), (cH HB hw184_1 :), (cH HB hw185_0 :), (cH HB hw185_1 :), (cH HB hw186_0 :), (cH HB hw186_1 :)⟩ (fun hHeld => ?_); refine with_tabW spec_l02Is.tab9 spec_l02Is.bits9 (fun HT_ HW_ => ?_)
                  generalize wr.drew = w35 at BK173 HB hx179_0 hx179_1 hx180_0 hx180_1 hx181_0 hx181_1 hx182_0 hx182_1 hx183_0 hx183_1 hx184_0 hx184_1 hx185_0 hx185_1 hx186_0 hx186_1 hHeld ⊢
                  refine pu_ 0 42 1 HT_ ?_
                  refine pu_ 1 43 3 HT_ ?_
                  refine pu_ 2 44 7 HT_ ?_
                  refine pu_ 3 45 15 HT_ ?_
                  refine pu_ 5 47 47 HT_ ?_
                  refine pu_ 6 48 111 HT_ ?_
                  refine pu_ 7 49 239 HT_ ?_
                  refine pu_ 8 50 495 HT_ ?_
                  refine tk_ 4 46 511 HT_ HW_ hHeld ?_
                  refine tk_ 9 51 1023 HT_ HW_ hHeld ?_
                  refine pu_ 10 52 2047 HT_ ?_
                  refine pu_ 11 53 4095 HT_ ?_
                  refine pu_ 12 54 8191 HT_ ?_
                  refine pu_ 13 55 16383 HT_ ?_
                  refine pu_ 14 56 32767 HT_ ?_
                  refine pu_ 15 57 65535 HT_ ?_
                  refine pu_ 17 59 196607 HT_ ?_
                  refine pu_ 18 60 458751 HT_ ?_
                  refine pu_ 19 61 983039 HT_ ?_
                  refine pu_ 20 62 2031615 HT_ ?_
                  refine tk_ 16 58 2097151 HT_ HW_ hHeld ?_
                  refine tk_ 21 63 4194303 HT_ HW_ hHeld ?_
                  refine pu_ 22 64 8388607 HT_ ?_
                  refine pu_ 23 65 16777215 HT_ ?_
                  refine pu_ 24 66 33554431 HT_ ?_
                  refine pu_ 25 67 67108863 HT_ ?_
                  refine pu_ 26 68 134217727 HT_ ?_
                  refine pu_ 27 69 268435455 HT_ ?_
                  refine pu_ 28 70 536870911 HT_ ?_
                  refine pu_ 30 72 1610612735 HT_ ?_
                  refine pu_ 31 73 3758096383 HT_ ?_
                  refine pu_ 32 74 8053063679 HT_ ?_
                  refine pu_ 33 75 16642998271 HT_ ?_
                  refine tk_ 29 71 17179869183 HT_ HW_ hHeld ?_
                  refine tk_ 34 76 34359738367 HT_ HW_ hHeld ?_
                  refine pu_ 35 77 68719476735 HT_ ?_
                  refine pu_ 36 78 137438953471 HT_ ?_
                  refine pu_ 37 79 274877906943 HT_ ?_
                  refine pu_ 38 80 549755813887 HT_ ?_
                  refine pu_ 39 81 1099511627775 HT_ ?_
                  refine pu_ 40 82 2199023255551 HT_ ?_
                  refine pu_ 41 83 4398046511103 HT_ ?_
                  refine pu_ 43 85 13194139533311 HT_ ?_
                  refine pu_ 44 86 30786325577727 HT_ ?_
                  refine pu_ 45 87 65970697666559 HT_ ?_
                  refine pu_ 46 88 136339441844223 HT_ ?_
                  refine tk_ 42 84 140737488355327 HT_ HW_ hHeld ?_
                  refine tk_ 47 89 281474976710655 HT_ HW_ hHeld ?_
                  refine pu_ 48 90 562949953421311 HT_ ?_
                  refine pu_ 49 91 1125899906842623 HT_ ?_
                  refine dn_ HT_ ?_
                  try go_wp2
                  go_roundg k3
                  case measure => have := HK1.out; have := HJ4.out; have := HK3.out; omega
                  case rel => exact ⟨(wrap64 (x6_3 + 1)), (by first | rfl | (simp; done) | (simp [*]; done)), H', ⟨by have := HK1.out; have := HJ4.out; have := HK3.out; omega⟩, ⟨pB BK173⟩, ⟨pH HB⟩⟩
             ·rw [if_neg c26] at H
              exact absurd H (by simp)
            ·rw [if_neg c25] at H
             exact absurd H (by simp)
           ·rw [if_neg c24] at H
            exact absurd H (by simp)
          ·rw [if_neg c23] at H
           exact absurd H (by simp)
         ·rw [if_neg c22] at H
          have c22b0 : decide (x6_3 < x5_1) = false := decide_eq_false c22
          clear c22
          have H' := Aside0.mk H
          clear H
          go_wp2
          go_roundg k3
          case measure => have := HK1.out; have := HJ4.out; have := HK3.out; omega
          case rel => exact ⟨(wrap64 (x5_1 + 1)), (by first | rfl | (simp; done) | (simp [*]; done)), H', ⟨by have := HK1.out; have := HJ4.out; have := HK3.out; omega⟩, ⟨pB BK173⟩, ⟨pH HB⟩⟩
   ·rw [if_neg c4] at H
    have c4b0 : decide (x5_1 < (l1.length : Int)) = false := decide_eq_false c4
    clear c4
    obtain rfl := Option.some.inj H
    go_wp2
    go_ret
    exact ⟨by first | rfl | (simp [errW_none, errW_some] <;> rfl) | (simp [*, errW_none, errW_some] <;> rfl) | (exfalso; simp_all), pH HB⟩
mutual
def spec_l02Critical.l0 : Nat → List (S62) → List Int → Int → Int → List Int → Option (List Int)
 | 0, _, _, _, _, _ => none
 | k + 1, x1, x5, x6, x367000, x367001 => if x6 < (x367001.length : Int) then (spec_l02Critical.l1 k x1 x5 x6 true 0 x367000 x367001) else (some x5)
def spec_l02Critical.l1 : Nat → List (S62) → List Int → Int → Bool → Int → Int → List Int → Option (List Int)
 | 0, _, _, _, _, _, _, _ => none
 | k + 1, x1, x5, x6, x7, x8, x367000, x367001 => if x8 < (x1.length : Int) then (if x7 = true then (if 0 ≤ x8 then (if 0 ≤ x6 then (if x6 < (x367001.length : Int) then (if ((rd_T62 x1 x8).f0) = (rd x367001 x6) then (spec_l02Critical.l1 k x1 x5 x6 false (wrap64 (x8 + 1)) x367000 x367001) else (spec_l02Critical.l1 k x1 x5 x6 (((rd_T62 x1 x8).f1) != (rd x367001 x6)) (wrap64 (x8 + 1)) x367000 x367001)) else (none)) else (none)) else (none)) else (spec_l02Critical.l1 k x1 x5 x6 false (wrap64 (x8 + 1)) x367000 x367001)) else (if x7 = true then (if 0 ≤ x6 then (if x6 < (x367001.length : Int) then (if x5.length < 17592186044416 then (spec_l02Critical.l0 k x1 (x5 ++ [rd x367001 x6]) (wrap64 (x6 + 1)) x367000 x367001) else (none)) else (none)) else (none)) else (spec_l02Critical.l0 k x1 x5 (wrap64 (x6 + 1)) x367000 x367001))
end
def spec_l02Critical.f (k : Nat) (a0_0 : Int) (l0_1 : List Int) (l1 : List (S62)) : Option (List Int) := spec_l02Critical.l0 k l1 (([] : List Int)) 0 a0_0 l0_1
set_option maxHeartbeats 8000000 in
set_option maxRecDepth 100000 in
theorem spec_l02Critical.calls (k : Nat) (a0_0 : Int) (A0_1 : Option Addr) (c0_1 : Nat) (l0_1 : List Int) (A1 : Option Addr) (c1 : Nat) (l1 : List (S62)) (r : List Int) (w : World) (hr0_1 : Kd.C (Kd.int .i64) w A0_1 l0_1.length l0_1) (hc0_1 : l0_1.length ≤ c0_1) (hr1 : Kd.C k62 w A1 l1.length l1) (hc1 : l1.length ≤ c1) (h : spec_l02Critical.f k a0_0 l0_1 l1 = some r) :
  Calls Tryz.prog 75 #[.agg #[.int .i64 a0_0, .slice A0_1 l0_1.length c0_1], .slice A1 l1.length c1] w fun e w' => ∃ v0_ : Value, e = .returned (v0_) ∧ Kd.R (Kd.int .i64) 2 w' w.heap.size (fun _ => True) v0_ r ∧ Below w.heap.size w w' := by
 have hu29 := Tryz.underlying29
 have HR0_1 := Aside0.mk hr0_1
 have HC0_1 := Aside0.mk hc0_1
 clear hr0_1 hc0_1
 have HR1 := Aside0.mk hr1
 have HC1 := Aside0.mk hc1
 clear hr1 hc1
 have HB := Aside0.mk (Below.refl w.heap.size w)
 have H : (spec_l02Critical.l0 k l1 (([] : List Int)) 0 a0_0 l0_1) = some r := h
 clear h
 obtain ⟨y367, hy367⟩ : ∃ y_ : List Int, y_ = (([] : List Int)) := ⟨_, rfl⟩
 replace H : (spec_l02Critical.l0 k l1 y367 0 a0_0 l0_1) = some r := by first | (rw [hy367]; with_reducible exact H) | (have H2_ := (Option.bind_some _ _).symm.trans H; rw [hy367]; with_reducible exact H2_) | (have H2_ := (Option.bind_some _ _).symm.trans H; with_reducible exact H2_) | with_reducible exact H | (rw [hy367]; exact H) | exact H
 have Ny367 := Aside0.mk hy367
 clear hy367
 have H' := Aside0.mk H
 clear H
 go_enter Tryz.func75, Tryz.ntmps75
 go_wp2_with (first | ((with_reducible refine gate_dst (N := 2) rfl ?_); refine box_event ?hg (N := 2) ?hd (cs := #[.int .i64 a0_0, .slice A0_1 l0_1.length c0_1]) (t := 29) ?hr ?_; (case hd => rfl); (case hg => rfl); (case hr => first | (go_simp; done) | (go_simp; rfl)); intro gb366 hg w3 hbox hb; have BK366 := Aside0.mk (hbox); have GW366 := gH HB hg; have GE366 := gH HB hg; replace HB := sH HB hb; clear hb hbox hg) | ((with_reducible refine gate_dst (N := 9) rfl ?_); refine Kd.R_lit (Kd.int .i64) _ 2 ?hg (N := 9) ?hd (xs := ([] : List Int)) (inner := []) (ok := fun _ => True) (okp := fun _ => True) ?hr ?hp (fun _ hk => hk) trivial (Below.refl _ _) (Nat.le_refl _) (by simp) ?_; (case hd => rfl); (case hg => rfl); (case hr => first | (go_simp; done) | (go_simp; rfl)); (case hp => exact (Reps.none _ _)); intro v368 w4 ho5 hb hg_ hnew_; clear hg_ hnew_; (first | rw [← Ny367.out] at ho5 | (simp only [Int.reduceToNat] at ho5; rw [← Ny367.out] at ho5)); have HO369 := Aside0.mk (Kd.R_lower ho5 (below_size (pH HB))); replace BK366 := sB BK366 hb; replace HB := sH HB hb; clear hb ho5))
 repeat (go_quiet (first | ((with_reducible refine gate_dst (N := 2) rfl ?_); refine box_event ?hg (N := 2) ?hd (cs := #[.int .i64 a0_0, .slice A0_1 l0_1.length c0_1]) (t := 29) ?hr ?_; (case hd => rfl); (case hg => rfl); (case hr => first | (go_simp; done) | (go_simp; rfl)); intro gb366 hg w3 hbox hb; have BK366 := Aside0.mk (hbox); have GW366 := gH HB hg; have GE366 := gH HB hg; replace HB := sH HB hb; clear hb hbox hg) | ((with_reducible refine gate_dst (N := 9) rfl ?_); refine Kd.R_lit (Kd.int .i64) _ 2 ?hg (N := 9) ?hd (xs := ([] : List Int)) (inner := []) (ok := fun _ => True) (okp := fun _ => True) ?hr ?hp (fun _ hk => hk) trivial (Below.refl _ _) (Nat.le_refl _) (by simp) ?_; (case hd => rfl); (case hg => rfl); (case hr => first | (go_simp; done) | (go_simp; rfl)); (case hp => exact (Reps.none _ _)); intro v368 w4 ho5 hb hg_ hnew_; clear hg_ hnew_; (first | rw [← Ny367.out] at ho5 | (simp only [Int.reduceToNat] at ho5; rw [← Ny367.out] at ho5)); have HO369 := Aside0.mk (Kd.R_lower ho5 (below_size (pH HB))); replace BK366 := sB BK366 hb; replace HB := sH HB hb; clear hb ho5)); try go_wp2_with (first | ((with_reducible refine gate_dst (N := 2) rfl ?_); refine box_event ?hg (N := 2) ?hd (cs := #[.int .i64 a0_0, .slice A0_1 l0_1.length c0_1]) (t := 29) ?hr ?_; (case hd => rfl); (case hg => rfl); (case hr => first | (go_simp; done) | (go_simp; rfl)); intro gb366 hg w3 hbox hb; have BK366 := Aside0.mk (hbox); have GW366 := gH HB hg; have GE366 := gH HB hg; replace HB := sH HB hb; clear hb hbox hg) | ((with_reducible refine gate_dst (N := 9) rfl ?_); refine Kd.R_lit (Kd.int .i64) _ 2 ?hg (N := 9) ?hd (xs := ([] : List Int)) (inner := []) (ok := fun _ => True) (okp := fun _ => True) ?hr ?hp (fun _ hk => hk) trivial (Below.refl _ _) (Nat.le_refl _) (by simp) ?_; (case hd => rfl); (case hg => rfl); (case hr => first | (go_simp; done) | (go_simp; rfl)); (case hp => exact (Reps.none _ _)); intro v368 w4 ho5 hb hg_ hnew_; clear hg_ hnew_; (first | rw [← Ny367.out] at ho5 | (simp only [Int.reduceToNat] at ho5; rw [← Ny367.out] at ho5)); have HO369 := Aside0.mk (Kd.R_lower ho5 (below_size (pH HB))); replace BK366 := sB BK366 hb; replace HB := sH HB hb; clear hb ho5)))
 go_loopg [5, 6] k (fun kq v5 v6 w' => ∃ (x5_1 : List Int) (x6_1 : Int), v6 = .int .i64 x6_1 ∧ Aside0 (spec_l02Critical.l0 kq l1 x5_1 x6_1 a0_0 l0_1 = some r) ∧ Aside0 (kq ≤ k) ∧ Aside0 (Kd.R (Kd.int .i64) 2 w' w.heap.size (fun _ => True) v5 x5_1) ∧ Aside0 (w'.heap[gb366]? = some (.cells #[.int .i64 a0_0, (.slice A0_1 l0_1.length c0_1)] 29 (0, 0))) ∧ Aside0 (Below w.heap.size w w'))
 case atStart => exact ⟨(y367), (0), (by first | rfl | (simp; done) | (simp [*]; done)), H', ⟨Nat.le_refl _⟩, ⟨by (with_reducible repeat (first | apply Kd.R_alloc | apply Kd.R_drewN | apply Kd.R_drew)); exact HO369.out⟩, ⟨pB BK366⟩, ⟨pH HB⟩⟩
 case round =>
  clear H'
  try clear c1
  try clear p2
  obtain ⟨x5_1, x6_1, rfl, HA, HK1, HO_5, BK366, HB⟩ := hrel
  cases gk with
  | zero => exact absurd HA.out (by simp [spec_l02Critical.l0])
  | succ k1 =>
   have H := HA.out
   clear HA
   simp only [spec_l02Critical.l0] at H
   by_cases c6 : x6_1 < (l0_1.length : Int)
   ·rw [if_pos c6] at H
    have c6b0 : decide (x6_1 < (l0_1.length : Int)) = true := decide_eq_true c6
    clear c6
    have H' := Aside0.mk H
    clear H
    have hcz7_0 : wr.cell? ⟨gb366, 0, none⟩ = some (.int .i64 a0_0) := cB BK366 0
    have hcz7_1 : wr.cell? ⟨gb366, 1, none⟩ = some (.slice A0_1 l0_1.length c0_1) := cB BK366 1
    have hfz7_0 := zB BK366 0
    have hfz7_1 := zB BK366 1
    go_wp2
    repeat (go_quiet (fail); try go_wp2)
    go_loopg [7, 8] k1 (fun kq v7 v8 w' => ∃ (x7_2 : Bool) (x8_2 : Int), v7 = .bool x7_2 ∧ v8 = .int .i64 x8_2 ∧ Aside0 (spec_l02Critical.l1 kq l1 x5_1 x6_1 x7_2 x8_2 a0_0 l0_1 = some r) ∧ Aside0 (kq ≤ k1) ∧ Aside0 (Kd.R (Kd.int .i64) 2 w' w.heap.size (fun _ => True) u5 x5_1) ∧ Aside0 (w'.heap[gb366]? = some (.cells #[.int .i64 a0_0, (.slice A0_1 l0_1.length c0_1)] 29 (0, 0))) ∧ Aside0 (Below w.heap.size w w'))
    case atStart => exact ⟨(true), (0), (by first | rfl | (simp; done) | (simp [*]; done)), (by first | rfl | (simp; done) | (simp [*]; done)), H', ⟨Nat.le_refl _⟩, ⟨by (with_reducible repeat (first | apply Kd.R_alloc | apply Kd.R_drewN | apply Kd.R_drew)); exact HO_5.out⟩, ⟨pB BK366⟩, ⟨pH HB⟩⟩
    case round =>
     clear H'
     try clear c1
     try clear p2
     try clear c6
     try clear c6b0
     try clear c7
     try clear hcz7_0
     try clear hcz7_1
     try clear hfz7_0
     try clear hfz7_1
     try clear p2
     obtain ⟨x7_2, x8_2, rfl, rfl, HA, HK2, HO_5, BK366, HB⟩ := hrel
     cases gk with
     | zero => exact absurd HA.out (by simp [spec_l02Critical.l1])
     | succ k2 =>
      have H := HA.out
      clear HA
      simp only [spec_l02Critical.l1] at H
      by_cases c8 : x8_2 < (l1.length : Int)
      ·rw [if_pos c8] at H
       have c8b0 : decide (x8_2 < (l1.length : Int)) = true := decide_eq_true c8
       clear c8
       by_cases c9 : x7_2 = true
       ·subst c9
        have H1 : (if 0 ≤ x8_2 then (if 0 ≤ x6_1 then (if x6_1 < (l0_1.length : Int) then (if ((rd_T62 l1 x8_2).f0) = (rd l0_1 x6_1) then (spec_l02Critical.l1 k2 l1 x5_1 x6_1 false (wrap64 (x8_2 + 1)) a0_0 l0_1) else (spec_l02Critical.l1 k2 l1 x5_1 x6_1 (((rd_T62 l1 x8_2).f1) != (rd l0_1 x6_1)) (wrap64 (x8_2 + 1)) a0_0 l0_1)) else (none)) else (none)) else (none)) = some r := by rw [if_pos rfl] at H; exact H
        clear H
        have H := H1
        clear H1
        by_cases c10 : 0 ≤ x8_2
        ·rw [if_pos c10] at H
         have c10b0 : decide (0 ≤ x8_2) = true := decide_eq_true c10
         clear c10
         by_cases c11 : 0 ≤ x6_1
         ·rw [if_pos c11] at H
          have c11b0 : decide (0 ≤ x6_1) = true := decide_eq_true c11
          clear c11
          by_cases c12 : x6_1 < (l0_1.length : Int)
          ·rw [if_pos c12] at H
           have c12b0 : decide (x6_1 < (l0_1.length : Int)) = true := decide_eq_true c12
           clear c12
           by_cases c13 : ((rd_T62 l1 x8_2).f0) = (rd l0_1 x6_1)
           ·rw [if_pos c13] at H
            have c13b0 : (((rd_T62 l1 x8_2).f0) == (rd l0_1 x6_1)) = true := beq_iff_eq.mpr c13
            have c13b1 : (((rd_T62 l1 x8_2).f0) != (rd l0_1 x6_1)) = false := bne_eq_false_iff_eq.mpr c13
            clear c13
            have H' := Aside0.mk H
            clear H
            have p370 : 0 ≤ (x8_2 : Int) := of_decide_eq_true (by first | (with_reducible assumption) | assumption)
            have q370 : x8_2 < (l1.length : Int) := of_decide_eq_true (by first | (with_reducible assumption) | assumption)
            obtain ⟨ad370, e370, hx370_0, hx370_1⟩ := at_T62 HR1.out x8_2 p370 q370
            cases e370
            replace hx370_0 := cH HB hx370_0
            replace hx370_1 := cH HB hx370_1
            replace p370 := eq_true p370
            replace q370 := eq_true q370
            have hcz14_0 : wr.cell? ⟨gb366, 0, none⟩ = some (.int .i64 a0_0) := cB BK366 0
            have hcz14_1 : wr.cell? ⟨gb366, 1, none⟩ = some (.slice A0_1 l0_1.length c0_1) := cB BK366 1
            have hfz14_0 := zB BK366 0
            have hfz14_1 := zB BK366 1
            have p371 : 0 ≤ (x6_1 : Int) := of_decide_eq_true (by first | (with_reducible assumption) | assumption)
            have q371 : x6_1 < (l0_1.length : Int) := of_decide_eq_true (by first | (with_reducible assumption) | assumption)
            obtain ⟨ad371, e371, hx371_0⟩ := Kd.at_int HR0_1.out x6_1 p371 q371
            cases e371
            replace hx371_0 := cH HB hx371_0
            replace p371 := eq_true p371
            replace q371 := eq_true q371
            go_wp2
            repeat (go_quiet (fail); try go_wp2)
            go_roundg k2
            case measure => have := HK1.out; have := HK2.out; omega
            case rel => exact ⟨(false), (wrap64 (x8_2 + 1)), (by first | rfl | (simp; done) | (simp [*]; done)), (by first | rfl | (simp; done) | (simp [*]; done)), H', ⟨by have := HK1.out; have := HK2.out; omega⟩, ⟨by (with_reducible repeat (first | apply Kd.R_alloc | apply Kd.R_drewN | apply Kd.R_drew)); exact HO_5.out⟩, ⟨pB BK366⟩, ⟨pH HB⟩⟩
           ·rw [if_neg c13] at H
            have c13b0 : (((rd_T62 l1 x8_2).f0) == (rd l0_1 x6_1)) = false := beq_eq_false_iff_ne.mpr c13
            have c13b1 : (((rd_T62 l1 x8_2).f0) != (rd l0_1 x6_1)) = true := bne_iff_ne.mpr c13
            have H' := Aside0.mk H
            clear H
            have p370 : 0 ≤ (x8_2 : Int) := of_decide_eq_true (by first | (with_reducible assumption) | assumption)
            have q370 : x8_2 < (l1.length : Int) := of_decide_eq_true (by first | (with_reducible assumption) | assumption)
            obtain ⟨ad370, e370, hx370_0, hx370_1⟩ := at_T62 HR1.out x8_2 p370 q370
            cases e370
            replace hx370_0 := cH HB hx370_0
            replace hx370_1 := cH HB hx370_1
            replace p370 := eq_true p370
            replace q370 := eq_true q370
            have hcz15_0 : wr.cell? ⟨gb366, 0, none⟩ = some (.int .i64 a0_0) := cB BK366 0
            have hcz15_1 : wr.cell? ⟨gb366, 1, none⟩ = some (.slice A0_1 l0_1.length c0_1) := cB BK366 1
            have hfz15_0 := zB BK366 0
            have hfz15_1 := zB BK366 1
            have p371 : 0 ≤ (x6_1 : Int) := of_decide_eq_true (by first | (with_reducible assumption) | assumption)
            have q371 : x6_1 < (l0_1.length : Int) := of_decide_eq_true (by first | (with_reducible assumption) | assumption)
            obtain ⟨ad371, e371, hx371_0⟩ := Kd.at_int HR0_1.out x6_1 p371 q371
            cases e371
            replace hx371_0 := cH HB hx371_0
            replace p371 := eq_true p371
            replace q371 := eq_true q371
            have p372 : 0 ≤ (x8_2 : Int) := of_decide_eq_true (by first | (with_reducible assumption) | assumption)
            have q372 : x8_2 < (l1.length : Int) := of_decide_eq_true (by first | (with_reducible assumption) | assumption)
            obtain ⟨ad372, e372, hx372_0, hx372_1⟩ := at_T62 HR1.out x8_2 p372 q372
            obtain rfl : ad370 = ad372 := (by injection e372)
            replace hx372_0 := cH HB hx372_0
            replace hx372_1 := cH HB hx372_1
            replace p372 := eq_true p372
            replace q372 := eq_true q372
            have p373 : 0 ≤ (x6_1 : Int) := of_decide_eq_true (by first | (with_reducible assumption) | assumption)
            have q373 : x6_1 < (l0_1.length : Int) := of_decide_eq_true (by first | (with_reducible assumption) | assumption)
            obtain ⟨ad373, e373, hx373_0⟩ := Kd.at_int HR0_1.out x6_1 p373 q373
            obtain rfl : ad371 = ad373 := (by injection e373)
            replace hx373_0 := cH HB hx373_0
            replace p373 := eq_true p373
            replace q373 := eq_true q373
            go_wp2
            repeat (go_quiet (fail); try go_wp2)
            go_roundg k2
            case measure => have := HK1.out; have := HK2.out; omega
            case rel => exact ⟨((((rd_T62 l1 x8_2).f1) != (rd l0_1 x6_1))), (wrap64 (x8_2 + 1)), (by first | rfl | (simp; done) | (simp [*]; done)), (by first | rfl | (simp; done) | (simp [*]; done)), H', ⟨by have := HK1.out; have := HK2.out; omega⟩, ⟨by (with_reducible repeat (first | apply Kd.R_alloc | apply Kd.R_drewN | apply Kd.R_drew)); exact HO_5.out⟩, ⟨pB BK366⟩, ⟨pH HB⟩⟩
          ·rw [if_neg c12] at H
           exact absurd H (by simp)
         ·rw [if_neg c11] at H
          exact absurd H (by simp)
        ·rw [if_neg c10] at H
         exact absurd H (by simp)
       ·replace c9 := Bool.eq_false_iff.mpr c9
        subst c9
        have H1 : (spec_l02Critical.l1 k2 l1 x5_1 x6_1 false (wrap64 (x8_2 + 1)) a0_0 l0_1) = some r := by rw [if_neg (show ¬ (false = true) by decide)] at H; exact H
        clear H
        have H := H1
        clear H1
        have H' := Aside0.mk H
        clear H
        go_wp2
        repeat (go_quiet (fail); try go_wp2)
        go_roundg k2
        case measure => have := HK1.out; have := HK2.out; omega
        case rel => exact ⟨(false), (wrap64 (x8_2 + 1)), (by first | rfl | (simp; done) | (simp [*]; done)), (by first | rfl | (simp; done) | (simp [*]; done)), H', ⟨by have := HK1.out; have := HK2.out; omega⟩, ⟨by (with_reducible repeat (first | apply Kd.R_alloc | apply Kd.R_drewN | apply Kd.R_drew)); exact HO_5.out⟩, ⟨pB BK366⟩, ⟨pH HB⟩⟩
      ·rw [if_neg c8] at H
       have c8b0 : decide (x8_2 < (l1.length : Int)) = false := decide_eq_false c8
       clear c8
       by_cases c16 : x7_2 = true
       ·subst c16
        have H1 : (if 0 ≤ x6_1 then (if x6_1 < (l0_1.length : Int) then (if x5_1.length < 17592186044416 then (spec_l02Critical.l0 k2 l1 (x5_1 ++ [rd l0_1 x6_1]) (wrap64 (x6_1 + 1)) a0_0 l0_1) else (none)) else (none)) else (none)) = some r := by rw [if_pos rfl] at H; exact H
        clear H
        have H := H1
        clear H1
        by_cases c17 : 0 ≤ x6_1
        ·rw [if_pos c17] at H
         have c17b0 : decide (0 ≤ x6_1) = true := decide_eq_true c17
         clear c17
         by_cases c18 : x6_1 < (l0_1.length : Int)
         ·rw [if_pos c18] at H
          have c18b0 : decide (x6_1 < (l0_1.length : Int)) = true := decide_eq_true c18
          clear c18
          by_cases c19 : x5_1.length < 17592186044416
          ·rw [if_pos c19] at H
           have LMc19 := Aside0.mk c19
           clear c19
           obtain ⟨y375, hy375⟩ : ∃ y_ : List Int, y_ = (x5_1 ++ [rd l0_1 x6_1]) := ⟨_, rfl⟩
           replace H : (spec_l02Critical.l0 k2 l1 y375 (wrap64 (x6_1 + 1)) a0_0 l0_1) = some r := by first | (rw [hy375]; with_reducible exact H) | (have H2_ := (Option.bind_some _ _).symm.trans H; rw [hy375]; with_reducible exact H2_) | (have H2_ := (Option.bind_some _ _).symm.trans H; with_reducible exact H2_) | with_reducible exact H | (rw [hy375]; exact H) | exact H
           have Ny375 := Aside0.mk hy375
           clear hy375
           have H' := Aside0.mk H
           clear H
           have hcz20_0 : wr.cell? ⟨gb366, 0, none⟩ = some (.int .i64 a0_0) := cB BK366 0
           have hcz20_1 : wr.cell? ⟨gb366, 1, none⟩ = some (.slice A0_1 l0_1.length c0_1) := cB BK366 1
           have hfz20_0 := zB BK366 0
           have hfz20_1 := zB BK366 1
           have p374 : 0 ≤ (x6_1 : Int) := of_decide_eq_true (by first | (with_reducible assumption) | assumption)
           have q374 : x6_1 < (l0_1.length : Int) := of_decide_eq_true (by first | (with_reducible assumption) | assumption)
           obtain ⟨ad374, e374, hx374_0⟩ := Kd.at_int HR0_1.out x6_1 p374 q374
           cases e374
           replace hx374_0 := cH HB hx374_0
           replace p374 := eq_true p374
           replace q374 := eq_true q374
           go_wp2_with (first | ((with_reducible refine gate_builtin (b := .append) (xs := #[.tmp 51, .tmp 57]) rfl ?_); at_builtin; refine Kd.R_append (Kd.int .i64) (w0 := w) w.heap.size rfl (.tmp 51) (.tmp 57) 22 2 (.int .i64 0) 8 rfl Tryz.underlying22 info2 rfl (by decide) (by omega) u5 x5_1 (rd l0_1 x6_1) [.int .i64 (rd l0_1 x6_1)] (fun _ => True) (fun _ => False) rfl rfl ?aP (fun _ hk => hk.elim) ?aF ?aO ?aB ?aS ?aL ?_; (case aP => exact rfl); (case aB => exact (pH HB)); (case aF => exact (fun _ _ => trivial)); (case aO => exact (pR HO_5)); (case aS => exact (below_size (pH HB))); (case aL => have := LMc19.out; omega); intro v376 w21 ho hb hg hat; rw [← Ny375.out] at ho; replace BK366 := Aside0.mk (blk_grown (g := gb366) (o := .cells #[.int .i64 a0_0, .slice (some ad374) l0_1.length c0_1] 29 (0, 0)) (pB BK366) hg (Kd.R_ne HO_5.out BK366.out (by decide))); replace HB := Aside0.mk (hb); have HO377 := Aside0.mk (ho); clear HO_5; clear ho hb hg hat))
           repeat (go_quiet (first | ((with_reducible refine gate_builtin (b := .append) (xs := #[.tmp 51, .tmp 57]) rfl ?_); at_builtin; refine Kd.R_append (Kd.int .i64) (w0 := w) w.heap.size rfl (.tmp 51) (.tmp 57) 22 2 (.int .i64 0) 8 rfl Tryz.underlying22 info2 rfl (by decide) (by omega) u5 x5_1 (rd l0_1 x6_1) [.int .i64 (rd l0_1 x6_1)] (fun _ => True) (fun _ => False) rfl rfl ?aP (fun _ hk => hk.elim) ?aF ?aO ?aB ?aS ?aL ?_; (case aP => exact rfl); (case aB => exact (pH HB)); (case aF => exact (fun _ _ => trivial)); (case aO => exact (pR HO_5)); (case aS => exact (below_size (pH HB))); (case aL => have := LMc19.out; omega); intro v376 w21 ho hb hg hat; rw [← Ny375.out] at ho; replace BK366 := Aside0.mk (blk_grown (g := gb366) (o := .cells #[.int .i64 a0_0, .slice (some ad374) l0_1.length c0_1] 29 (0, 0)) (pB BK366) hg (Kd.R_ne HO_5.out BK366.out (by decide))); replace HB := Aside0.mk (hb); have HO377 := Aside0.mk (ho); clear HO_5; clear ho hb hg hat)); try go_wp2_with (first | ((with_reducible refine gate_builtin (b := .append) (xs := #[.tmp 51, .tmp 57]) rfl ?_); at_builtin; refine Kd.R_append (Kd.int .i64) (w0 := w) w.heap.size rfl (.tmp 51) (.tmp 57) 22 2 (.int .i64 0) 8 rfl Tryz.underlying22 info2 rfl (by decide) (by omega) u5 x5_1 (rd l0_1 x6_1) [.int .i64 (rd l0_1 x6_1)] (fun _ => True) (fun _ => False) rfl rfl ?aP (fun _ hk => hk.elim) ?aF ?aO ?aB ?aS ?aL ?_; (case aP => exact rfl); (case aB => exact (pH HB)); (case aF => exact (fun _ _ => trivial)); (case aO => exact (pR HO_5)); (case aS => exact (below_size (pH HB))); (case aL => have := LMc19.out; omega); intro v376 w21 ho hb hg hat; rw [← Ny375.out] at ho; replace BK366 := Aside0.mk (blk_grown (g := gb366) (o := .cells #[.int .i64 a0_0, .slice (some ad374) l0_1.length c0_1] 29 (0, 0)) (pB BK366) hg (Kd.R_ne HO_5.out BK366.out (by decide))); replace HB := Aside0.mk (hb); have HO377 := Aside0.mk (ho); clear HO_5; clear ho hb hg hat)))
           go_roundg k2
           case measure => have := HK1.out; have := HK2.out; omega
           case rel => exact ⟨(y375), (wrap64 (x6_1 + 1)), (by first | rfl | (simp; done) | (simp [*]; done)), H', ⟨by have := HK1.out; have := HK2.out; omega⟩, ⟨by (with_reducible repeat (first | apply Kd.R_alloc | apply Kd.R_drewN | apply Kd.R_drew)); exact HO377.out⟩, ⟨pB BK366⟩, ⟨pH HB⟩⟩
          ·rw [if_neg c19] at H
           exact absurd H (by simp)
         ·rw [if_neg c18] at H
          exact absurd H (by simp)
        ·rw [if_neg c17] at H
         exact absurd H (by simp)
       ·replace c16 := Bool.eq_false_iff.mpr c16
        subst c16
        have H1 : (spec_l02Critical.l0 k2 l1 x5_1 (wrap64 (x6_1 + 1)) a0_0 l0_1) = some r := by rw [if_neg (show ¬ (false = true) by decide)] at H; exact H
        clear H
        have H := H1
        clear H1
        have H' := Aside0.mk H
        clear H
        go_wp2
        repeat (go_quiet (fail); try go_wp2)
        go_roundg k2
        case measure => have := HK1.out; have := HK2.out; omega
        case rel => exact ⟨(x5_1), (wrap64 (x6_1 + 1)), (by first | rfl | (simp; done) | (simp [*]; done)), H', ⟨by have := HK1.out; have := HK2.out; omega⟩, ⟨by (with_reducible repeat (first | apply Kd.R_alloc | apply Kd.R_drewN | apply Kd.R_drew)); exact HO_5.out⟩, ⟨pB BK366⟩, ⟨pH HB⟩⟩
   ·rw [if_neg c6] at H
    have c6b0 : decide (x6_1 < (l0_1.length : Int)) = false := decide_eq_false c6
    clear c6
    obtain rfl := Option.some.inj H
    have hcz22_0 : wr.cell? ⟨gb366, 0, none⟩ = some (.int .i64 a0_0) := cB BK366 0
    have hcz22_1 : wr.cell? ⟨gb366, 1, none⟩ = some (.slice A0_1 l0_1.length c0_1) := cB BK366 1
    have hfz22_0 := zB BK366 0
    have hfz22_1 := zB BK366 1
    go_wp2
    repeat (go_quiet (fail); try go_wp2)
    go_ret
    exact ⟨_, by first | rfl | (simp [errW_none, errW_some] <;> rfl) | (simp [*, errW_none, errW_some] <;> rfl) | (exfalso; simp_all), by (with_reducible repeat (first | apply Kd.R_alloc | apply Kd.R_drewN | apply Kd.R_drew)); exact HO_5.out, pH HB⟩
end Go.Proofs.YtdlmlmaoacmdiaaGreat.QS
