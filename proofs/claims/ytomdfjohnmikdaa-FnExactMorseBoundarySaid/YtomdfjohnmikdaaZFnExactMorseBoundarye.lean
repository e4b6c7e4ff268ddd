/- Words and lemmas for FnExactMorseBoundary, part 5: what the row's text comes to. -/
import Derived.Test.YtomdfjohnmikdaaZFnExactMorseBoundaryd
set_option linter.unusedVariables false
set_option linter.unusedSimpArgs false
namespace Go.Proofs.Ytomdfjohnmikdaa.Im
open Go.RowKit Go.Shelf Kp Cw Ext Pu YtomdfjohnmikdaaW.PrintWords YtomdfjohnmikdaaW.PrintLast YtomdfjohnmikdaaW.PrintMore
def ofD (crit : List Int) (d : Int) : List Int := crit.filter fun f => onesZ f - 1 == d
set_option maxRecDepth 100000 in
theorem of11_ok (W : World) (b : Nat) (d : Int) (hb : W.heap[b]? = some (.cells #[.int .i64 d] 2 (0, 0))) : FnOk (.func (.func 148) #[] #[.pointer (some ⟨b, 0, none⟩)]) (Pred.ofI fun x => if 0 ≤ x ∧ x ≤ 63 then some (!(onesZ x - 1 == d)) else none) W := by
  refine FnOk.ofI (fun args w => enters_ Try.func148 (by kernel_rfl) (by rfl) args w) fun V x r hV hx => ?_
  by_cases hr : 0 ≤ x ∧ x ≤ 63
  · rw [if_pos hr] at hx
    have hx' := Option.some.inj hx
    have hbV := (hV.block b (blk_lt hb)).trans hb
    have hc : V.cell? ⟨b, 0, none⟩ = some (.int .i64 d) := (cell_of_row V b 0 _ _ _ hbV).trans rfl
    have HD := Aside0.mk (QI.impl_dimension.calls x (onesZ x - 1) V.drew (dim_eq hr.1 hr.2))
    obtain ⟨z, hz⟩ : ∃ z, onesZ x - 1 = z := ⟨_, rfl⟩
    rw [hz] at HD hx'
    subst hx'
    clear hx hbV hz
    go_enter Try.func148, Try.ntmps148
    go_upto_region 1 with fail
    refine st_ 5 (S := fun w' => w'.cell? ⟨b, 0, none⟩ = some (.int .i64 d)) (ds := []) hc (fun hHeld => ?_)
    refine with_tabW (T := (true, [([], []), ([0], [0]), ([], []), ([1, 2], [1, 2]), ([3, 1, 0, 1, 2, 3], [3])])) (B := [0, 1, 0, 7, 15]) (by kernel_rfl) (by kernel_rfl) (fun HT_ HW_ => ?_)
    refine pd_ 0 4 1 HT_ ?_
    refine tk_ 2 6 5 HT_ HW_ hHeld ?_
    refine on_ 1 (some 5) 7 HT_ (fun K hK => ?_)
    refine ca_ Try.func107 #[.int .i64 x] ?_
    refine HD.out.mono ?_; rintro e w1 ⟨rfl, hd⟩; have HB1 := Aside0.mk ((below_drew (Below.refl V.heap.size V)).trans (d0_below hd)); have hc1 := pw_cell_below HB1.out hc; clear hd
    refine ⟨_, rfl, ?_⟩
    refine hK.out _ _ hc1 (fun hHeld => ?_)
    clear hK K
    refine nm_ ?_
    refine pd_ 3 7 15 HT_ ?_
    refine pd_ 4 3 31 HT_ ?_
    refine dn_ HT_ ?_
    go_wp2
    go_ret
    exact ⟨rfl, HB1.out⟩
  · rw [if_neg hr] at hx; cases hx
set_option maxRecDepth 100000 in
theorem of_c (b : Nat) (d : Int) (A : Option Addr) (c : Nat) (xs : List Int) (w : World) (hr : RC w A xs.length xs) (hl : xs.length ≤ 1048576) (h63 : ∀ x ∈ xs, 0 ≤ x ∧ x ≤ 63) (hc : w.cell? ⟨b, 0, none⟩ = some (.slice A xs.length c)) (hbl : b < w.heap.size) :
    Calls Try.prog 147 #[.int .i64 d, .pointer (some ⟨b, 0, none⟩)] w (SlOnly w.heap.size w (ofD xs d)) := by
  have hb1 : Below w.heap.size w (w.alloc (.cells #[.int .i64 d] 2)) := (Below.refl _ w).alloc (Nat.le_refl _) _
  have l1 : (w.alloc (.cells #[.int .i64 d] 2)).cell? ⟨b, 0, none⟩ = some (.slice A xs.length c) := pw_cell_below hb1 hc
  obtain ⟨s1, _, p1⟩ := ofI_face (f := fun x => if 0 ≤ x ∧ x ≤ 63 then some (!(onesZ x - 1 == d)) else none) (p := fun x => !(onesZ x - 1 == d)) (fun x h0 h6 => if_pos ⟨h0, h6⟩)
  have hnew := heap_alloc_new w (.cells #[.int .i64 d] 2)
  have hlt := blk_lt hnew
  have hd := fun v W (HB : Below (w.alloc (.cells #[.int .i64 d] 2)).heap.size (w.alloc (.cells #[.int .i64 d] 2)) W) (ho : RO W (w.alloc (.cells #[.int .i64 d] 2)).heap.size v xs) =>
    deleteFuncK_c (fun k => (w.alloc (.cells #[.int .i64 d] 2)).heap.size ≤ k) v xs (.func (.func 148) #[] #[.pointer (some ⟨w.heap.size, 0, none⟩)]) (Pred.ofI fun x => if 0 ≤ x ∧ x ≤ 63 then some (!(onesZ x - 1 == d)) else none) (w.alloc (.cells #[.int .i64 d] 2)) W HB
      (RO.ok ho (fun k hk => Kd.R_base ho k hk)) hl
      (fun W_ hK => of11_ok W_ w.heap.size d (((hK.2 _ (Nat.lt_of_lt_of_le hlt HB.size) (Nat.not_le_of_lt hlt)).trans (HB.block _ hlt)).trans hnew)) s1 (fun x hx => .inr (h63 x hx))
  have HC := Aside0.mk (clone_c A xs.length c xs _ (Kd.C_below hr hb1) hl)
  have HD := Lib.hid hd
  have HB := Aside0.mk hb1
  have HE : Aside0 (ofD xs d = xs.filter fun x => !(Pred.ofI fun x => if 0 ≤ x ∧ x ≤ 63 then some (!(onesZ x - 1 == d)) else none).pI x) := ⟨by
    unfold ofD
    refine List.filter_congr fun x hx => ?_
    rw [p1 x (h63 x hx).1 (h63 x hx).2, Bool.not_not]⟩
  clear hb1 hr hl h63 hc hbl hnew hlt hd s1 p1
  rw [HE.out]
  go_enter Try.func147, Try.ntmps147
  go_wp2_with (first
    | (go_at_call 122; refine HC.out.mono ?_; rintro e w2 ⟨v, rfl, hv, hb2⟩; have HV := Aside0.mk hv; have HB2 := Aside0.mk hb2; clear hv hb2)
    | (go_at_call 121; refine (HD.out _ _ HB2.out HV.out).mono ?_; rintro e w3 ⟨v3, rfl, hv, hb3, _⟩; have HV3 := Aside0.mk hv; have HB3 := Aside0.mk hb3; clear hv hb3))
  go_ret
  exact ⟨_, rfl, Kd.R_mono (Kd.R_lower HV3.out HB.out.size) (fun _ _ => trivial), HB.out.trans (HB3.out.mono HB.out.size)⟩
def rowM (wz : Int → Int → Int) (cols : List Int) (b : Int) : List Int := cols.map fun a => (wz b a).tmod 2
def rowsM (wz : Int → Int → Int) (crit : List Int) (d : Int) : List (List Int) := (ofD crit d).map (rowM wz (ofD crit (d - 1)))
theorem MR.snoc {wr wq w' : World} {base : Nat} {v v1 u : Value} {vs : List Value} {M : List (List Int)} {row : List Int} {o : Obj} (h : MR wr base v vs M) (hb : Below wr.heap.size wr wq) (hu : RO wq wr.heap.size u row) (hbase : base ≤ wr.heap.size) (ho : VO w' base v1 (vs ++ [u])) (hg : (wq.alloc o).grownBy w' v.ownBlock) : MR w' base v1 (vs ++ [u]) (M ++ [row]) := by
  have hal : Below wq.heap.size wq (wq.alloc o) := below_alloc (Below.refl _ _) o
  have h1 := h.below hb
  have hvo : VO (wq.alloc o) base v vs := Kd.R_below h1.o hal
  refine ⟨ho, ((h1.i.below hal).grown hvo hg).append ((((VI.one hu).lower hbase).below hal).grown hvo hg), ?_⟩
  have hlt : ∀ i (hi : i < vs.length) k, vs[i].ownBlock = some k → k < wr.heap.size := fun i hi k hk => Kd.R_lt (h.i.2 i hi (by rw [← h.i.1]; exact hi)) k hk
  have hge : ∀ k, u.ownBlock = some k → wr.heap.size ≤ k := Kd.R_base hu
  intro i j hi hj hij k h2 h3
  rw [List.length_append, List.length_singleton] at hi hj
  by_cases hi' : i < vs.length
  · rw [List.getElem_append_left hi'] at h2
    by_cases hj' : j < vs.length
    · rw [List.getElem_append_left hj'] at h3
      exact h.a i j hi' hj' hij k h2 h3
    · rw [List.getElem_append_right (by omega)] at h3
      have a1 := hlt i hi' k h2
      have a2 := hge k (by simpa using h3)
      omega
  · rw [List.getElem_append_right (by omega)] at h2
    by_cases hj' : j < vs.length
    · rw [List.getElem_append_left hj'] at h3
      have a1 := hlt j hj' k h3
      have a2 := hge k (by simpa using h2)
      omega
    · omega
theorem ofD_mem {crit : List Int} {d x : Int} (h : x ∈ ofD crit d) : x ∈ crit := (List.mem_filter.1 h).1
theorem ofD_len (crit : List Int) (d : Int) : (ofD crit d).length ≤ crit.length := List.length_filter_le _ _
set_option maxRecDepth 100000 in
set_option maxHeartbeats 8000000 in
theorem morse_c (wz : Int → Int → Int) (n d : Int) (A : Option Addr) (c : Nat) (xs : List Int) (A1 : Option Addr) (c1 : Nat) (l : List Pr) (w : World) (hr : RC w A xs.length xs) (hc : xs.length ≤ c) (hr1 : Kd.C k73 w A1 l.length l) (hc1 : l.length ≤ c1) (hi : isC n xs = true) (hl : l.length ≤ 1048576) (hf : FacesP l) (hd : 1 ≤ d ∧ d ≤ 5) (hwz : ∀ b a, b ∈ xs → Ev (fun k => QV.impl_waysBetween.f k l b a) (wz b a)) :
    Calls Try.prog 99 #[.agg #[.int .i64 n, .slice A xs.length c], .slice A1 l.length c1, .int .i64 d] w fun e w' => ∃ v vs, e = .returned v ∧ MR w' w.heap.size v vs (rowsM wz (critL xs l) d) ∧ Below w.heap.size w w' := by
  have hk := CxAt.new w n A xs.length c
  have hb1 : Below w.heap.size w (w.alloc (.cells #[.int .i64 n, .slice A xs.length c] 28)) := (Below.refl _ w).alloc (Nat.le_refl _) _
  have l0 := hk.c0
  have l1 := hk.c1
  have hcr := crit_fV hi hl hf
  have hcm : ∀ x ∈ critL xs l, x ∈ xs := fun x hx => (List.mem_filter.1 hx).1
  have hs := isC_small hi
  have hcl : (critL xs l).length ≤ xs.length := List.length_filter_le _ _
  obtain ⟨crit, hcrit⟩ : ∃ crit, critL xs l = crit := ⟨_, rfl⟩
  rw [hcrit] at hcr hcm hcl ⊢
  have h63 : ∀ x ∈ crit, 0 ≤ x ∧ x ≤ 63 := fun x hx => by have := isC_63 hi x (hcm x hx); omega
  have HCR := Aside0.mk hcr
  have H63 := Aside0.mk h63
  have HCM := Aside0.mk hcm
  have HWZ := Aside0.mk hwz
  have HB := Aside0.mk hb1
  have HR := Aside0.mk hr
  have HC := Aside0.mk hc
  have HR1 := Aside0.mk hr1
  have HC1 := Aside0.mk hc1
  have hcl2 : crit.length ≤ 1048576 := by omega
  clear hb1 hk hcr hcm hwz hr hc hr1 hc1 hi hl hf hs hcl hcrit h63
  have hrl := ofD_len crit d
  have hcl3 := ofD_len crit (d - 1)
  have HRM : Aside0 (∀ b ∈ ofD crit d, b ∈ xs) := ⟨fun b hb => HCM.out b (ofD_mem hb)⟩
  obtain ⟨rows, hrows⟩ : ∃ rows, ofD crit d = rows := ⟨_, rfl⟩
  obtain ⟨cols, hcols⟩ : ∃ cols, ofD crit (d - 1) = cols := ⟨_, rfl⟩
  have HGOAL : Aside0 (rowsM wz crit d = rows.map (rowM wz cols)) := ⟨by unfold rowsM; rw [hrows, hcols]⟩
  rw [hrows] at hrl HRM
  rw [hcols] at hcl3
  have HROWS := Aside0.mk hrows
  have HCOLS := Aside0.mk hcols
  clear hrows hcols
  rw [HGOAL.out]
  go_enter Try.func99, Try.ntmps99
  go_wp2_with (first
    | (go_at_call 74; refine (QV.impl_Complex_critical.calls n A c xs A1 c1 l crit _ (Kd.C_below HR.out HB.out) HC.out (Kd.C_below HR1.out HB.out) HC1.out HCR.out).mono ?_; rintro e w2 ⟨v, rfl, hv, hb2⟩; have HV := Aside0.mk (Kd.R_lower hv HB.out.size); have HB2 := Aside0.mk (below_in HB.out hb2); obtain ⟨Ac, cc, rfl⟩ := Kd.R_slice hv; have HB3 := Aside0.mk (below_alloc HB2.out (.cells #[.slice Ac crit.length cc] 22)); have HV3 := Aside0.mk (Kd.R_alloc HV.out (.cells #[.slice Ac crit.length cc] 22)); have HCE := Aside0.mk (Boxed.new w2 22 (.slice Ac crit.length cc)); clear hv hb2)
    | (go_at_call 147; refine (of_c w2.heap.size d Ac cc crit _ (Kd.R_reads' HV3.out).2.2 hcl2 H63.out HCE.out.cell (by simp)).mono ?_; rintro e w3 ⟨v3, rfl, hv, hb⟩; rw [HROWS.out] at hv; have HV4 := Aside0.mk (Kd.R_below HV3.out hb); have hce := pw_cell_below hb HCE.out.cell; have HCE4 := Aside0.mk hce; have HLT := Aside0.mk (show w2.heap.size < w3.heap.size from Nat.lt_of_lt_of_le (by simp) hb.size); have HB4 := Aside0.mk (below_in HB3.out hb); obtain ⟨A3, c3, rfl⟩ := Kd.R_slice hv; have HR3 := Aside0.mk (Kd.R_reads' hv).2.2; clear hv hb hce))
  have HO := Aside0.mk (MR.nil w3 w3.heap.size)
  have HBL := Aside0.mk (Below.refl w3.heap.size w3)
  have HC4 := Aside0.mk (Kd.R_reads' HV4.out).2.2
  clear HB HV HB2 HB3 HV3 HCE
  go_loopw [9, 23] (fun v9 s23 wr => ∃ (i : Nat) (vs : List Value), i ≤ rows.length ∧ s23 = .int .i64 i ∧ Aside0 (MR wr w3.heap.size v9 vs ((rows.take i).map (rowM wz cols))) ∧ Aside0 (Below w3.heap.size w3 wr)) (fun _ s23 _ => rows.length - (intOf s23).toNat)
  case atStart => exact ⟨0, [], by omega, rfl, HO, HBL⟩
  case round =>
    clear HO HBL
    obtain ⟨i, vs, hi, rfl, HO, HBL⟩ := hrel
    by_cases hlt : i < rows.length
    · have hltz : (i : Int) < (rows.length : Int) := by omega
      obtain ⟨ad, rfl, hcell⟩ := Kd.at_int (Kd.C_below HR3.out HBL.out) (i : Int) (by omega) (by omega)
      rw [rd_at' hlt, show ((i : Int)).toNat = i by omega] at hcell
      have hbx := HRM.out _ (List.getElem_mem hlt)
      have HNX : Aside0 ((rows.take (i + 1)).map (rowM wz cols) = (rows.take i).map (rowM wz cols) ++ [rowM wz cols rows[i]]) := ⟨by rw [List.take_succ_eq_append_getElem hlt, List.map_append]; rfl⟩
      obtain ⟨b, hb⟩ : ∃ b, rows[i] = b := ⟨_, rfl⟩
      rw [hb] at hcell hbx HNX
      have HBX := Aside0.mk hbx
      have hce := pw_cell_below HBL.out HCE4.out
      have HLT2 := Aside0.mk (Nat.lt_of_lt_of_le HLT.out HBL.out.size)
      have HC5 := Aside0.mk (Kd.C_below HC4.out HBL.out)
      clear hb hbx
      go_wp2_with (go_at_call 147; refine (of_c w2.heap.size (d - 1) Ac cc crit _ HC5.out hcl2 H63.out hce HLT2.out).mono ?_; rintro e w4 ⟨v4, rfl, hv, hb⟩; rw [HCOLS.out] at hv; have HB5 := Aside0.mk hb; obtain ⟨A4, c4, rfl⟩ := Kd.R_slice hv; have HR4 := Aside0.mk (Kd.R_reads' hv).2.2; clear hv hb)
      have HBI := Aside0.mk (Below.refl w4.heap.size w4)
      have HRO : Aside0 (RO w4 w4.heap.size (.slice none 0 0) ((cols.take 0).map fun a => (wz b a).tmod 2)) := ⟨Kd.R_nil _ _ _ _ _⟩
      have HB6 := Aside0.mk (below_in (below_in HB4.out HBL.out) HB5.out)
      go_loopw [12, 32] (fun v12 s32 wq => ∃ j : Nat, j ≤ cols.length ∧ s32 = .int .i64 j ∧ Aside0 (RO wq w4.heap.size v12 ((cols.take j).map fun a => (wz b a).tmod 2)) ∧ Aside0 (Below w4.heap.size w4 wq)) (fun _ s32 _ => cols.length - (intOf s32).toNat)
      case atStart => exact ⟨0, by omega, rfl, HRO, HBI⟩
      case round =>
        clear HRO HBI
        obtain ⟨j, hj, rfl, HRO, HBI⟩ := hrel
        by_cases hjl : j < cols.length
        · have hjz : (j : Int) < (cols.length : Int) := by omega
          obtain ⟨ae, rfl, hcj⟩ := Kd.at_int (Kd.C_below HR4.out HBI.out) (j : Int) (by omega) (by omega)
          rw [rd_at' hjl, show ((j : Int)).toNat = j by omega] at hcj
          have HNJ : Aside0 ((cols.take (j + 1)).map (fun a => (wz b a).tmod 2) = (cols.take j).map (fun a => (wz b a).tmod 2) ++ [(wz b cols[j]).tmod 2]) := ⟨by rw [List.take_succ_eq_append_getElem hjl, List.map_append]; rfl⟩
          obtain ⟨a, ha⟩ : ∃ a, cols[j] = a := ⟨_, rfl⟩
          rw [ha] at hcj HNJ
          obtain ⟨kw, hkw⟩ := (HWZ.out b a HBX.out).rounds
          have HKW := Aside0.mk hkw
          have HLJ : Aside0 (((cols.take j).map fun a => (wz b a).tmod 2).length ≤ 1048576) := ⟨by rw [List.length_map, List.length_take]; omega⟩
          clear ha hkw
          generalize wz b a = z at HKW HNJ
          go_wp2_with (first
            | (go_at_call 149; refine (QV.impl_waysBetween.calls kw A1 c1 l b a z _ (Kd.C_below HR1.out (below_in HB6.out HBI.out)) HC1.out HKW.out).mono ?_; rintro e w5 ⟨rfl, hb⟩; have HRO5 := Aside0.mk (Kd.R_below HRO.out hb); have HBI5 := Aside0.mk (below_in HBI.out hb); clear hb hcj HRO HBI)
            | (at_builtin; refine ap64 w4.heap.size rfl (.tmp 36) (.tmp 42) 22 rfl Try.underlying22 info64 _ _ _ rfl rfl HRO5.out HBI5.out HBI5.out.size (by have := HLJ.out; omega) ?_; intro v1 w6 ho hb hg hat; rw [← HNJ.out] at ho; have HRO6 := Aside0.mk ho; have HBI6 := Aside0.mk hb; clear hat hg ho hb))
          exact ⟨⟨j + 1, by omega, by go_num, HRO6, HBI6⟩, by simp [intOf]; omega⟩
        · obtain rfl : j = cols.length := by omega
          have hjz : ¬ ((cols.length : Int) < (cols.length : Int)) := by omega
          have HRW : Aside0 ((cols.take cols.length).map (fun a => (wz b a).tmod 2) = rowM wz cols b) := ⟨by rw [List.take_length]; rfl⟩
          rw [HRW.out] at HRO
          obtain ⟨Ar, cr, hur⟩ := Kd.R_slice HRO.out
          have HVL : Aside0 (vs.length = i) := ⟨by have := HO.out.i.1; rw [List.length_map, List.length_take] at this; omega⟩
          have HBW := Aside0.mk (below_in HB5.out HBI.out)
          have HBQ := Aside0.mk (below_in HBL.out HBW.out)
          have HROL := Aside0.mk (Kd.R_lower HRO.out HB5.out.size)
          rw [hur] at HROL HRO ⊢
          have HVO := Aside0.mk (Kd.R_alloc (Kd.R_below HO.out.o HBW.out) (.cells #[.slice Ar (rowM wz cols b).length cr] 22))
          have HVC := Aside0.mk (VO.one wr 0 (.slice Ar (rowM wz cols b).length cr) rfl (Nat.zero_le _)).reads.2.2
          have HBA := Aside0.mk (below_alloc HBQ.out (.cells #[.slice Ar (rowM wz cols b).length cr] 22))
          clear hur hcell hce HRO
          go_wp2_with (at_builtin; refine apVs w3.heap.size rfl (.tmp 45) (.tmp 47) rfl _ vs [.slice Ar (rowM wz cols b).length cr] (some ⟨wr.heap.size, 0, none⟩) 1 1 rfl rfl HVO.out HVC.out HBA.out HBA.out.size (by have := HVL.out; omega) ?_; intro v1 w9 ho hb hg hat; have HM9 := Aside0.mk (HO.out.snoc HBW.out HROL.out HBL.out.size ho hg); rw [← HNX.out] at HM9; have HB9 := Aside0.mk hb; clear ho hb hg hat)
          exact ⟨⟨i + 1, vs ++ [.slice Ar (rowM wz cols b).length cr], by omega, by go_num, HM9, HB9⟩, by simp [intOf]; omega⟩
    · obtain rfl : i = rows.length := by omega
      have hltz : ¬ (rows.length : Int) < (rows.length : Int) := by omega
      rw [List.take_length] at HO
      go_wp2
      go_ret
      exact ⟨_, rfl, ⟨vs, HO.out.lower HB4.out.size⟩, below_in HB4.out HBL.out⟩
def mcode (n : Int) (xs : List Int) (l : List Pr) (d : Int) : Int := if 1 ≤ d ∧ d ≤ 5 then acode n xs l else if isC n xs then 2 else 1
theorem acodeB (n : Int) {xs : List Int} (hx : xs.length ≤ 1048576) {l : List Pr} (hl : l.length ≤ 1048576) (d : Int) : QV.impl_acyclicCode.f n xs l (decide (1 ≤ d ∧ d ≤ 5)) = some (mcode n xs l d) := by
  unfold mcode
  by_cases hd : 1 ≤ d ∧ d ≤ 5
  · rw [if_pos hd, decide_eq_true hd]
    exact acodeV_f n hx hl
  · rw [if_neg hd, decide_eq_false hd]
    unfold QV.impl_acyclicCode.f
    rw [pcode_fV n hx hl false, Option.bind_some]
    cases isC n xs <;> rfl
theorem within_d (d : Int) : QV.impl_within.f d 1 5 = some (decide (1 ≤ d ∧ d ≤ 5)) := by
  unfold QV.impl_within.f
  by_cases h : 1 ≤ d
  · rw [if_pos h]; by_cases h5 : d ≤ 5 <;> simp [h, h5]
  · rw [if_neg h, decide_eq_false (fun h' => h h'.1)]
open Classical in
noncomputable def wzV (l : List Pr) (b a : Int) : Int := if h : ∃ v, Ev (fun k => QV.impl_waysBetween.f k l b a) v ∧ Ev (fun k => QS.spec_l06Between.f k l b a) v then h.choose else 0
theorem wzV_both {n : Int} {xs : List Int} {l : List Pr} {d : Int} (hl : l.length ≤ 1048576) (h : mcode n xs l d = 0) : isC n xs = true ∧ FacesP l ∧ (1 ≤ d ∧ d ≤ 5) ∧ acycB l = true ∧ pairingB xs l = true ∧ ∀ b a, b ∈ xs → Ev (fun k => QV.impl_waysBetween.f k l b a) (wzV l b a) ∧ Ev (fun k => QS.spec_l06Between.f k l b a) (wzV l b a) := by
  unfold mcode at h
  by_cases hd : 1 ≤ d ∧ d ≤ 5
  · rw [if_pos hd] at h
    unfold acode pcode at h
    cases hi : isC n xs with
    | false => rw [hi] at h; simp at h
    | true =>
      rw [hi] at h
      cases hp : pairingB xs l with
      | false => rw [hp] at h; simp at h
      | true =>
        rw [hp] at h
        cases ha : acycB l with
        | false => rw [ha] at h; simp at h
        | true =>
          have hf := facesP_of hi hp
          refine ⟨rfl, hf, hd, rfl, rfl, fun b a hb => ?_⟩
          have hx := isC_63 hi b hb
          have he := between_bothV hl hf (no_loopV hl hf ha) (b := b) (by omega) a
          unfold wzV
          rw [dif_pos he]
          exact he.choose_spec
  · rw [if_neg hd] at h
    split at h <;> omega
noncomputable def rowsB (n : Int) (xs : List Int) (l : List Pr) (d : Int) : List (List Int) := if mcode n xs l d = 0 then rowsM (wzV l) (critL xs l) d else []
set_option maxRecDepth 100000 in
set_option maxHeartbeats 8000000 in
theorem morseB_c (n d : Int) (A : Option Addr) (c : Nat) (xs : List Int) (A1 : Option Addr) (c1 : Nat) (l : List Pr) (w : World) (hr : RC w A xs.length xs) (hc : xs.length ≤ c) (hr1 : Kd.C k73 w A1 l.length l) (hc1 : l.length ≤ c1) (hx : xs.length ≤ 1048576) (hl : l.length ≤ 1048576) :
    Calls Try.prog 45 #[.agg #[.int .i64 n, .slice A xs.length c], .slice A1 l.length c1, .int .i64 d] w fun e w' => ∃ v vs, e = .returned (.tuple #[v, .int .i64 (mcode n xs l d)]) ∧ MR w' w.heap.size v vs (rowsB n xs l d) ∧ Below w.heap.size w w' := by
  have HX := Aside0.mk ((CxAt.new w n A xs.length c).below (Below.refl _ _).drew)
  have HB := Aside0.mk ((below_alloc (Below.refl w.heap.size w) (.cells #[.int .i64 n, .slice A xs.length c] 28)).drew)
  have HR := Aside0.mk hr
  have HC := Aside0.mk hc
  have HR1 := Aside0.mk hr1
  have HC1 := Aside0.mk hc1
  have hac := acodeB n hx hl d
  have hwd := within_d d
  obtain ⟨bd, hbd⟩ : ∃ bd, decide (1 ≤ d ∧ d ≤ 5) = bd := ⟨_, rfl⟩
  rw [hbd] at hac hwd
  have hrow : ∀ z, mcode n xs l d = z → rowsB n xs l d = if z = 0 then rowsM (wzV l) (critL xs l) d else [] := fun z hz => by unfold rowsB; rw [hz]
  have hwz := fun h => wzV_both (n := n) (xs := xs) (d := d) hl h
  obtain ⟨z, hz⟩ : ∃ z, mcode n xs l d = z := ⟨_, rfl⟩
  rw [hrow z hz]
  rw [hz] at hac hwz ⊢
  have HAC := Aside0.mk hac
  have HWD := Aside0.mk hwd
  have HL := Aside0.mk hl
  have HWZ := Aside0.mk hwz
  clear hr hc hr1 hc1 hx hl hac hwd hbd hz hwz hrow
  by_cases hz0 : z = 0
  · subst hz0
    rw [if_pos rfl]
    obtain ⟨hi, hf, hd, _, _, hw⟩ := HWZ.out rfl
    have HM := Lib.hid (fun W hrW hr1W => morse_c (wzV l) n d A c xs A1 c1 l W hrW HC.out hr1W HC1.out hi HL.out hf hd (fun b a hb => (hw b a hb).1))
    clear HWZ hi hf hd hw
    go_enter Try.func45, Try.ntmps45
    go_wp2
    refine st_ 6 (S := fun w' => w'.cell? ⟨w.heap.size, 0, none⟩ = some (.int .i64 n) ∧ w'.cell? ⟨w.heap.size, 1, none⟩ = some (.slice A xs.length c)) (ds := []) ⟨HX.out.c0, HX.out.c1⟩ (fun hHeld => ?_)
    refine with_tabW (T := (true, [([], []), ([], []), ([], []), ([2], [2]), ([0, 1, 3, 3], [0, 1, 3]), ([4, 4, 0, 1, 2, 3, 4], [4])])) (B := [0, 0, 0, 4, 15, 31]) (by kernel_rfl) (by kernel_rfl) (fun HT_ HW_ => ?_)
    refine pd_ 1 10 2 HT_ ?_
    refine pd_ 2 11 6 HT_ ?_
    refine tk_ 0 9 7 HT_ HW_ hHeld ?_
    refine on_ 3 (some 12) 15 HT_ (fun K hK => ?_)
    refine ca_ Try.func59 #[.int .i64 d, .int .i64 1, .int .i64 5] ?_
    refine (QV.impl_within.calls d 1 5 bd _ HWD.out).mono ?_; rintro e w1 ⟨rfl, hdr⟩; have hB := d0_below hdr; have HX1 := Aside0.mk (HX.out.below hB); have HB1 := Aside0.mk (below_in HB.out hB); clear HX HB hB hdr
    refine ⟨_, rfl, ?_⟩
    refine hK.out _ _ ⟨HX1.out.c0, HX1.out.c1⟩ (fun hHeld => ?_)
    clear hK K
    refine nm_ ?_
    refine on_ 4 (some 13) 31 HT_ (fun K hK => ?_)
    refine ca_ Try.func65 #[.agg #[.int .i64 n, .slice A xs.length c], .slice A1 l.length c1, .bool bd] ?_
    refine (QV.impl_acyclicCode.calls n A c xs A1 c1 l bd 0 _ (Kd.C_below HR.out HB1.out) HC.out (Kd.C_below HR1.out HB1.out) HC1.out HAC.out).mono ?_; rintro e w2 ⟨rfl, hB⟩; have HX2 := Aside0.mk (HX1.out.below hB); have HB2 := Aside0.mk (below_in HB1.out hB); clear HX1 HB1 hB
    refine ⟨_, rfl, ?_⟩
    refine hK.out _ _ ⟨HX2.out.c0, HX2.out.c1⟩ (fun hHeld => ?_)
    clear hK K
    refine nm_ ?_
    refine pd_ 5 8 63 HT_ ?_
    refine dn_ HT_ ?_
    have l0 := HX2.out.c0
    have l1 := HX2.out.c1
    go_wp2_with (go_at_call 99; refine (HM.out _ (Kd.C_below HR.out HB2.out) (Kd.C_below HR1.out HB2.out)).mono ?_; rintro e w3 ⟨v3, vs, rfl, hm, hB⟩; have HMR := Aside0.mk (hm.lower HB2.out.size); have HB3 := Aside0.mk (below_in HB2.out hB); clear hm hB)
    go_ret2
    exact ⟨_, vs, rfl, HMR.out, HB3.out⟩
  · rw [if_neg hz0]
    go_enter Try.func45, Try.ntmps45
    go_wp2
    refine st_ 6 (S := fun w' => w'.cell? ⟨w.heap.size, 0, none⟩ = some (.int .i64 n) ∧ w'.cell? ⟨w.heap.size, 1, none⟩ = some (.slice A xs.length c)) (ds := []) ⟨HX.out.c0, HX.out.c1⟩ (fun hHeld => ?_)
    refine with_tabW (T := (true, [([], []), ([], []), ([], []), ([2], [2]), ([0, 1, 3, 3], [0, 1, 3]), ([4, 4, 0, 1, 2, 3, 4], [4])])) (B := [0, 0, 0, 4, 15, 31]) (by kernel_rfl) (by kernel_rfl) (fun HT_ HW_ => ?_)
    refine pd_ 1 10 2 HT_ ?_
    refine pd_ 2 11 6 HT_ ?_
    refine tk_ 0 9 7 HT_ HW_ hHeld ?_
    refine on_ 3 (some 12) 15 HT_ (fun K hK => ?_)
    refine ca_ Try.func59 #[.int .i64 d, .int .i64 1, .int .i64 5] ?_
    refine (QV.impl_within.calls d 1 5 bd _ HWD.out).mono ?_; rintro e w1 ⟨rfl, hdr⟩; have hB := d0_below hdr; have HX1 := Aside0.mk (HX.out.below hB); have HB1 := Aside0.mk (below_in HB.out hB); clear HX HB hB hdr
    refine ⟨_, rfl, ?_⟩
    refine hK.out _ _ ⟨HX1.out.c0, HX1.out.c1⟩ (fun hHeld => ?_)
    clear hK K
    refine nm_ ?_
    refine on_ 4 (some 13) 31 HT_ (fun K hK => ?_)
    refine ca_ Try.func65 #[.agg #[.int .i64 n, .slice A xs.length c], .slice A1 l.length c1, .bool bd] ?_
    refine (QV.impl_acyclicCode.calls n A c xs A1 c1 l bd z _ (Kd.C_below HR.out HB1.out) HC.out (Kd.C_below HR1.out HB1.out) HC1.out HAC.out).mono ?_; rintro e w2 ⟨rfl, hB⟩; have HX2 := Aside0.mk (HX1.out.below hB); have HB2 := Aside0.mk (below_in HB1.out hB); clear HX1 HB1 hB
    refine ⟨_, rfl, ?_⟩
    refine hK.out _ _ ⟨HX2.out.c0, HX2.out.c1⟩ (fun hHeld => ?_)
    clear hK K
    refine nm_ ?_
    refine pd_ 5 8 63 HT_ ?_
    refine dn_ HT_ ?_
    have hzb : (z == 0) = false := beq_eq_false_iff_ne.2 hz0
    have hzb2 : (z != 0) = true := bne_iff_ne.2 hz0
    go_wp2
    go_ret2
    exact ⟨_, rfl, ⟨[], MR.nil _ _⟩, HB2.out⟩
end Go.Proofs.Ytomdfjohnmikdaa.Im
namespace Go.Proofs.Ytomdfjohnmikdaa.QS
open Cw Kp Ext Go.RowKit YtomdfjohnmikdaaW.PrintWords YtomdfjohnmikdaaW.PrintLast YtomdfjohnmikdaaW.PrintMore
attribute [local go_sem] max2_int min2_int max_two min_two max_three min_three max_four min_four   -- for this text's walks alone
def spec_l02Dim.f (k : Nat) (a0 : Int) : Option (Int) := (spec_l01Ones.f k a0).bind fun t399 => (some (wrap64 (t399 - 1)))
set_option maxHeartbeats 8000000 in
set_option maxRecDepth 100000 in
theorem spec_l02Dim.calls (k : Nat) (a0 : Int) (r : Int) (w : World) (h : spec_l02Dim.f k a0 = some r) :
  Calls Try.prog 119 #[.int .i64 a0] w fun e w' => e = .returned (.int .i64 r) ∧ Drawn0 w w' := by
 have H : ((spec_l01Ones.f k a0).bind fun t399 => (some (wrap64 (t399 - 1)))) = some r := h
 clear h
 replace H := Option.bind_eq_some_iff.mp H
 obtain ⟨t399, A20, H⟩ := H
 try dsimp only at H
 have A2 := Aside0.mk A20
 clear A20
 obtain rfl := Option.some.inj H
 go_enter Try.func119, Try.ntmps119
 go_wp2_with (first | ((with_reducible refine gate_callee (f := 129) rfl ?_); refine cl_ (some 4) Try.func129 #[.int .i64 a0] ?_; (with_reducible refine (spec_l01Ones.calls k a0 t399 _ A2.out).mono ?_); rintro e w' ⟨rfl, ⟨nd, rfl⟩⟩; refine ⟨_, rfl, ?_⟩))
 go_ret
 exact ⟨by first | rfl | (simp; done) | (simp [*]; done), by repeat (first | exact Drawn0.refl _ | apply Drawn0.step)⟩
end Go.Proofs.Ytomdfjohnmikdaa.QS
namespace Go.Proofs.Ytomdfjohnmikdaa.Pu
open Go.RowKit Kp Ext QS Im YtomdfjohnmikdaaW.PrintWords YtomdfjohnmikdaaW.PrintLast YtomdfjohnmikdaaW.PrintMore
theorem ones1_all : ((List.range 64).all fun f => f == 0 || decide (1 ≤ onesZ (f : Int))) = true := by decide +kernel
theorem ones1 {x : Int} (h : 1 ≤ x ∧ x ≤ 63) : 1 ≤ onesZ x := by
  obtain ⟨m, rfl⟩ := Int.eq_ofNat_of_zero_le (show 0 ≤ x by omega)
  have h2 := List.all_eq_true.1 ones1_all m (List.mem_range.2 (by omega))
  have h0 : (m == 0) = false := by simp; omega
  rw [h0, Bool.false_or] at h2
  exact of_decide_eq_true h2
theorem ev_dim2 {x : Int} (h1 : 1 ≤ x) (h2 : x ≤ 63) : Ev (fun k => spec_l02Dim.f k x) (onesZ x - 1) := by
  have := ones_le x
  unfold spec_l02Dim.f
  refine Ev.bind (ev_ones (by omega) (by omega)) ?_
  have h : wrap64 (onesZ x - 1) = onesZ x - 1 := w64 (by have := ones1 ⟨h1, h2⟩; omega) (by omega)
  rw [h]
  exact Ev.now _
end Go.Proofs.Ytomdfjohnmikdaa.Pu
namespace Go.Proofs.Ytomdfjohnmikdaa.QS
open Cw Kp Ext Go.RowKit YtomdfjohnmikdaaW.PrintWords YtomdfjohnmikdaaW.PrintLast YtomdfjohnmikdaaW.PrintMore
attribute [local go_sem] max2_int min2_int max_two min_two max_three min_three max_four min_four   -- for this text's walks alone
mutual
def spec_l06Rows.l0 : Nat → List (S73) → Int → List Int → List (List Int) → Int → Option ((List (List Int)))
 | 0, _, _, _, _, _ => none
 | k + 1, x1, x2, x7, x8, x9 => if x9 < (x7.length : Int) then (if 0 ≤ x9 then ((spec_l02Dim.f k (rd x7 x9)).bind fun t707 => (if t707 = x2 then (spec_l06Rows.l1 k x1 x2 x7 x8 x9 (([] : List Int)) 0) else (spec_l06Rows.l0 k x1 x2 x7 x8 (wrap64 (x9 + 1))))) else (none)) else (some x8)
def spec_l06Rows.l1 : Nat → List (S73) → Int → List Int → List (List Int) → Int → List Int → Int → Option ((List (List Int)))
 | 0, _, _, _, _, _, _, _ => none
 | k + 1, x1, x2, x7, x8, x9, x10, x11 => if x11 < (x7.length : Int) then (if 0 ≤ x11 then ((spec_l02Dim.f k (rd x7 x11)).bind fun t715 => (if t715 = (wrap64 (x2 - 1)) then (if 0 ≤ x9 then (if x9 < (x7.length : Int) then ((spec_l06Between.f k x1 (rd x7 x9) (rd x7 x11)).bind fun t718 => (if x10.length < 17592186044416 then (spec_l06Rows.l1 k x1 x2 x7 x8 x9 (x10 ++ [Int.tmod t718 2]) (wrap64 (x11 + 1))) else (none))) else (none)) else (none)) else (spec_l06Rows.l1 k x1 x2 x7 x8 x9 x10 (wrap64 (x11 + 1))))) else (none)) else (if x8.length < 5864062014805 then (spec_l06Rows.l0 k x1 x2 x7 (x8 ++ [x10]) (wrap64 (x9 + 1))) else (none))
end
def spec_l06Rows.f (k : Nat) (a0_0 : Int) (l0_1 : List Int) (l1 : List (S73)) (a2 : Int) : Option ((List (List Int))) := (spec_l02Critical.f k a0_0 l0_1 l1).bind fun t700 => (spec_l06Rows.l0 k l1 a2 t700 (([] : List (List Int))) 0)
def spec_l06Rows.T11 : Bool × List (List Nat × List Nat) := (true, [([], []), ([], []), ([], []), ([], []), ([2, 3], [2, 3]), ([4], [4]), ([], []), ([], []), ([6, 7], [6, 7]), ([8], [8]), ([1, 5, 9], [1, 5, 9]), ([10], [10]), ([11], [11]), ([0, 12, 10], [0, 12]), ([13, 13, 0, 1, 2, 3, 4, 5, 6, 7, 8, 9, 10, 11, 12, 13], [0, 13])])
def spec_l06Rows.B11 : List Nat := [0, 0, 0, 0, 12, 28, 0, 0, 192, 448, 1022, 2046, 4094, 8191, 16383]
theorem spec_l06Rows.tab11 : rtab .any (opsOf Try.f98 11) = spec_l06Rows.T11 := by kernel_rfl
theorem spec_l06Rows.bits11 : waitsOk spec_l06Rows.T11.2 spec_l06Rows.B11 = true := by kernel_rfl
set_option maxHeartbeats 8000000 in
set_option maxRecDepth 100000 in
theorem spec_l06Rows.calls (k : Nat) (a0_0 : Int) (A0_1 : Option Addr) (c0_1 : Nat) (l0_1 : List Int) (A1 : Option Addr) (c1 : Nat) (l1 : List (S73)) (a2 : Int) (r : List (List Int)) (w : World) (hr0_1 : Kd.C (Kd.int .i64) w A0_1 l0_1.length l0_1) (hc0_1 : l0_1.length ≤ c0_1) (hr1 : Kd.C k73 w A1 l1.length l1) (hc1 : l1.length ≤ c1) (h : spec_l06Rows.f k a0_0 l0_1 l1 a2 = some r) :
  Calls Try.prog 98 #[.agg #[.int .i64 a0_0, .slice A0_1 l0_1.length c0_1], .slice A1 l1.length c1, .int .i64 a2] w fun e w' => ∃ v0_ : Value, e = .returned (v0_) ∧ Kd.S (Kd.slice 2 (Kd.int .i64)) 22 w' w.heap.size (fun _ => True) v0_ r ∧ Below w.heap.size w w' := by
 have hu28 := Try.underlying28
 have HR0_1 := Aside0.mk hr0_1
 have HC0_1 := Aside0.mk hc0_1
 clear hr0_1 hc0_1
 have HR1 := Aside0.mk hr1
 have HC1 := Aside0.mk hc1
 clear hr1 hc1
 have HB := Aside0.mk (Below.refl w.heap.size w)
 have H : ((spec_l02Critical.f k a0_0 l0_1 l1).bind fun t700 => (spec_l06Rows.l0 k l1 a2 t700 (([] : List (List Int))) 0)) = some r := h
 clear h
 replace H := Option.bind_eq_some_iff.mp H
 obtain ⟨t700, A40, H⟩ := H
 try dsimp only at H
 have A4 := Aside0.mk A40
 clear A40
 obtain ⟨y703, hy703⟩ : ∃ y_ : List (List Int), y_ = (([] : List (List Int))) := ⟨_, rfl⟩
 replace H : (spec_l06Rows.l0 k l1 a2 t700 y703 0) = some r := by first | (rw [hy703]; with_reducible exact H) | (have H2_ := (Option.bind_some _ _).symm.trans H; rw [hy703]; with_reducible exact H2_) | (have H2_ := (Option.bind_some _ _).symm.trans H; with_reducible exact H2_) | with_reducible exact H | (rw [hy703]; exact H) | exact H
 have Ny703 := Aside0.mk hy703
 clear hy703
 have H' := Aside0.mk H
 clear H
 go_enter Try.func98, Try.ntmps98
 go_wp2_with (first | ((with_reducible refine gate_dst (N := 3) rfl ?_); refine box_event ?hg (N := 3) ?hd (cs := #[.int .i64 a0_0, .slice A0_1 l0_1.length c0_1]) (t := 28) ?hr ?_; (case hd => rfl); (case hg => rfl); (case hr => first | (go_simp; done) | (go_simp; rfl)); intro gb699 hg w5 hbox hb; have BK699 := Aside0.mk (hbox); have GW699 := gH HB hg; have GE699 := gH HB hg; replace HB := sH HB hb; clear hb hbox hg; have hcz6_0 : w5.cell? ⟨gb699, 0, none⟩ = some (.int .i64 a0_0) := cB BK699 0; have hcz6_1 : w5.cell? ⟨gb699, 1, none⟩ = some (.slice A0_1 l0_1.length c0_1) := cB BK699 1; have hfz6_0 := zB BK699 0; have hfz6_1 := zB BK699 1) | ((with_reducible refine gate_callee (f := 120) rfl ?_); refine cl_ (some 14) Try.func120 #[.agg #[.int .i64 a0_0, .slice A0_1 l0_1.length c0_1], .slice A1 l1.length c1] ?_; (with_reducible refine (spec_l02Critical.calls k a0_0 _ _ l0_1 _ _ l1 t700 _ ?side1 ?side2 ?side3 ?side4 A4.out).mono ?_); (case side1 => exact pC ((Kd.C_below HR0_1.out HB.out))); (case side2 => exact HC0_1.out); (case side3 => exact pC ((Kd.C_below HR1.out HB.out))); (case side4 => exact HC1.out); rintro e w7 ⟨v701, rfl, ho0, hb⟩; refine ⟨_, rfl, ?_⟩; have HO702 := Aside0.mk (Kd.R_lower ho0 (below_size (pH HB))); replace BK699 := sB BK699 hb; replace HB := sH HB hb; (try clear hb); (try clear hi); (try clear ho0)) | ((with_reducible refine gate_dst (N := 15) rfl ?_); refine Kd.S_lit (Kd.slice 2 (Kd.int .i64)) _ 22 ?hg (N := 15) ?hd (xs := ([] : List (List Int))) (inner := []) (ok := fun _ => True) (okp := fun _ => True) ?hr ?hp (fun _ hk => hk) trivial (Below.refl _ _) (Nat.le_refl _) (by simp) ?_; (case hd => rfl); (case hg => rfl); (case hr => first | (go_simp; done) | (go_simp; rfl)); (case hp => exact (Reps.none _ _)); intro v704 w8 ho9 hb hg_ hnew_; clear hg_ hnew_; (first | rw [← Ny703.out] at ho9 | (simp only [Int.reduceToNat] at ho9; rw [← Ny703.out] at ho9)); have HO705 := Aside0.mk (Kd.S_lower (Kd.S_new' ho9 (Kd.R_lt (pR HO702))) (below_size (pH HB))); replace HO702 := sR HO702 hb; replace BK699 := sB BK699 hb; replace HB := sH HB hb; clear hb ho9))
 go_loopg [8, 9] k (fun kq v8 v9 w' => ∃ (x8_1 : List (List Int)) (x9_1 : Int), v9 = .int .i64 x9_1 ∧ Aside0 (spec_l06Rows.l0 kq l1 a2 t700 x8_1 x9_1 = some r) ∧ Aside0 (kq ≤ k) ∧ Aside0 (Kd.R (Kd.int .i64) 2 w' w.heap.size (fun _ => True) v701 t700) ∧ Aside0 (Kd.S (Kd.slice 2 (Kd.int .i64)) 22 w' w.heap.size (fun k_ => some k_ ≠ (v701 : Value).ownBlock) v8 x8_1) ∧ Aside0 (w'.heap[gb699]? = some (.cells #[.int .i64 a0_0, (.slice A0_1 l0_1.length c0_1)] 28 (0, 0))) ∧ Aside0 (Below w.heap.size w w'))
 case atStart => exact ⟨(y703), (0), (by first | rfl | (simp; done) | (simp [*]; done)), H', ⟨Nat.le_refl _⟩, ⟨by (with_reducible repeat (first | apply Kd.R_alloc | apply Kd.R_drewN | apply Kd.R_drew)); exact HO702.out⟩, ⟨by (with_reducible repeat (first | apply Kd.S_alloc | apply Kd.S_drewN | apply Kd.S_drew)); exact Kd.S_mono HO705.out (fun _ hk => hk.2)⟩, ⟨pB BK699⟩, ⟨pH HB⟩⟩
 case round =>
  clear H'
  try clear c1
  try clear p2
  try clear c9
  try clear hcz6_0
  try clear hcz6_1
  try clear hfz6_0
  try clear hfz6_1
  obtain ⟨x8_1, x9_1, rfl, HA, HK1, HO_7, HO_8, BK699, HB⟩ := hrel
  cases gk with
  | zero => exact absurd HA.out (by simp [spec_l06Rows.l0])
  | succ k1 =>
   have H := HA.out
   clear HA
   simp only [spec_l06Rows.l0] at H
   by_cases c10 : x9_1 < (t700.length : Int)
   ·rw [if_pos c10] at H
    have c10b0 : decide (x9_1 < (t700.length : Int)) = true := decide_eq_true c10
    clear c10
    by_cases c11 : 0 ≤ x9_1
    ·rw [if_pos c11] at H
     have c11b0 : decide (0 ≤ x9_1) = true := decide_eq_true c11
     clear c11
     replace H := Option.bind_eq_some_iff.mp H
     obtain ⟨t707, A120, H⟩ := H
     try dsimp only at H
     have A12 := Aside0.mk A120
     clear A120
     by_cases c13 : t707 = a2
     ·rw [if_pos c13] at H
      have c13b0 : (t707 == a2) = true := beq_iff_eq.mpr c13
      have c13b1 : (t707 != a2) = false := bne_eq_false_iff_eq.mpr c13
      clear c13
      obtain ⟨y708, hy708⟩ : ∃ y_ : List Int, y_ = (([] : List Int)) := ⟨_, rfl⟩
      replace H : (spec_l06Rows.l1 k1 l1 a2 t700 x8_1 x9_1 y708 0) = some r := by first | (rw [hy708]; with_reducible exact H) | (have H2_ := (Option.bind_some _ _).symm.trans H; rw [hy708]; with_reducible exact H2_) | (have H2_ := (Option.bind_some _ _).symm.trans H; with_reducible exact H2_) | with_reducible exact H | (rw [hy708]; exact H) | exact H
      have Ny708 := Aside0.mk hy708
      clear hy708
      have H' := Aside0.mk H
      clear H
      obtain ⟨Ao14, co14, eo14⟩ := Kd.R_slice HO_7.out
      subst eo14
      have p706 : 0 ≤ (x9_1 : Int) := of_decide_eq_true (by first | (with_reducible assumption) | assumption)
      have q706 : x9_1 < (t700.length : Int) := of_decide_eq_true (by first | (with_reducible assumption) | assumption)
      obtain ⟨ad706, e706, hx706_0⟩ := Kd.at_int (Kd.R_reads' HO_7.out).2.2 x9_1 p706 q706
      cases e706
      replace p706 := eq_true p706
      replace q706 := eq_true q706
      go_wp2_with (first | ((with_reducible refine gate_callee (f := 119) rfl ?_); refine cl_ (some 26) Try.func119 #[.int .i64 (rd t700 x9_1)] ?_; (with_reducible refine (spec_l02Dim.calls k1 (rd t700 x9_1) t707 _ A12.out).mono ?_); rintro e w' ⟨rfl, ⟨nd, rfl⟩⟩; refine ⟨_, rfl, ?_⟩) | ((with_reducible refine gate_dst (N := 29) rfl ?_); refine Kd.R_lit (Kd.int .i64) _ 2 ?hg (N := 29) ?hd (xs := ([] : List Int)) (inner := []) (ok := fun _ => True) (okp := fun _ => True) ?hr ?hp (fun _ hk => hk) trivial (Below.refl _ _) (Nat.le_refl _) (by simp) ?_; (case hd => rfl); (case hg => rfl); (case hr => first | (go_simp; done) | (go_simp; rfl)); (case hp => exact (Reps.none _ _)); intro v709 w15 ho16 hb hg_ hnew_; clear hg_ hnew_; (first | rw [← Ny708.out] at ho16 | (simp only [Int.reduceToNat] at ho16; rw [← Ny708.out] at ho16)); have n0_ := Aside0.mk (Kd.R_elder' (pR HO_7) (Kd.R_base ho16) hb); have n1_ := Aside0.mk (Kd.S_elder' (by (with_reducible repeat (first | apply Kd.S_alloc | apply Kd.S_drewN | apply Kd.S_drew)); exact HO_8.out) (Kd.R_base ho16) hb); have n2_ := Aside0.mk (Kd.R_lower (Kd.R_new' ho16 (Kd.R_lt (pR HO_7))) (below_size (pH HB))); have n3_ := sB BK699 hb; have n4_ := sH HB hb; clear HO_7; clear HO_8; clear BK699; clear HB; have HO_7 := n0_; have HO_8 := n1_; have HO710 := n2_; have BK699 := n3_; have HB := n4_; clear n0_ n1_ n2_ n3_ n4_; clear hb ho16))
      go_loopg [10, 11] k1 (fun kq v10 v11 w' => ∃ (x10_2 : List Int) (x11_2 : Int), v11 = .int .i64 x11_2 ∧ Aside0 (spec_l06Rows.l1 kq l1 a2 t700 x8_1 x9_1 x10_2 x11_2 = some r) ∧ Aside0 (kq ≤ k1) ∧ Aside0 (Kd.R (Kd.int .i64) 2 w' w.heap.size (fun k_ => some k_ ≠ (v10 : Value).ownBlock) (.slice (some ad706) t700.length co14) t700) ∧ Aside0 (Kd.S (Kd.slice 2 (Kd.int .i64)) 22 w' w.heap.size (fun k_ => some k_ ≠ ((.slice (some ad706) t700.length co14) : Value).ownBlock ∧ some k_ ≠ (v10 : Value).ownBlock) u8 x8_1) ∧ Aside0 (Kd.R (Kd.int .i64) 2 w' w.heap.size (fun k_ => some k_ ≠ ((.slice (some ad706) t700.length co14) : Value).ownBlock) v10 x10_2) ∧ Aside0 (w'.heap[gb699]? = some (.cells #[.int .i64 a0_0, (.slice A0_1 l0_1.length c0_1)] 28 (0, 0))) ∧ Aside0 (Below w.heap.size w w'))
      case atStart => exact ⟨(y708), (0), (by first | rfl | (simp; done) | (simp [*]; done)), H', ⟨Nat.le_refl _⟩, ⟨by (with_reducible repeat (first | apply Kd.R_alloc | apply Kd.R_drewN | apply Kd.R_drew)); exact Kd.R_mono HO_7.out (fun _ hk => hk.2)⟩, ⟨by (with_reducible repeat (first | apply Kd.S_alloc | apply Kd.S_drewN | apply Kd.S_drew)); exact HO_8.out⟩, ⟨by (with_reducible repeat (first | apply Kd.R_alloc | apply Kd.R_drewN | apply Kd.R_drew)); exact Kd.R_mono HO710.out (fun _ hk => hk.2)⟩, ⟨pB BK699⟩, ⟨pH HB⟩⟩
      case round =>
       clear H'
       try clear c1
       try clear p2
       try clear p6
       try clear p7
       try clear q7
       try clear hx7
       try clear c9
       try clear c10
       try clear c10b0
       try clear c11
       try clear c11b0
       try clear c12
       try clear c13
       try clear c13b0
       try clear c13b1
       try clear hcz6_0
       try clear hcz6_1
       try clear hfz6_0
       try clear hfz6_1
       try clear hx706_0
       try clear p2
       try clear p706
       try clear q706
       obtain ⟨x10_2, x11_2, rfl, HA, HK2, HO_7, HO_8, HO_10, BK699, HB⟩ := hrel
       cases gk with
       | zero => exact absurd HA.out (by simp [spec_l06Rows.l1])
       | succ k2 =>
        have H := HA.out
        clear HA
        simp only [spec_l06Rows.l1] at H
        by_cases c17 : x11_2 < (t700.length : Int)
        ·rw [if_pos c17] at H
         have c17b0 : decide (x11_2 < (t700.length : Int)) = true := decide_eq_true c17
         clear c17
         by_cases c18 : 0 ≤ x11_2
         ·rw [if_pos c18] at H
          have c18b0 : decide (0 ≤ x11_2) = true := decide_eq_true c18
          clear c18
          replace H := Option.bind_eq_some_iff.mp H
          obtain ⟨t715, A190, H⟩ := H
          try dsimp only at H
          have A19 := Aside0.mk A190
          clear A190
          by_cases c20 : t715 = (wrap64 (a2 - 1))
          ·rw [if_pos c20] at H
           have c20b0 : (t715 == (wrap64 (a2 - 1))) = true := beq_iff_eq.mpr c20
           have c20b1 : (t715 != (wrap64 (a2 - 1))) = false := bne_eq_false_iff_eq.mpr c20
           clear c20
           by_cases c21 : 0 ≤ x9_1
           ·rw [if_pos c21] at H
            have c21b0 : decide (0 ≤ x9_1) = true := decide_eq_true c21
            clear c21
            by_cases c22 : x9_1 < (t700.length : Int)
            ·rw [if_pos c22] at H
             have c22b0 : decide (x9_1 < (t700.length : Int)) = true := decide_eq_true c22
             clear c22
             replace H := Option.bind_eq_some_iff.mp H
             obtain ⟨t718, A230, H⟩ := H
             try dsimp only at H
             have A23 := Aside0.mk A230
             clear A230
             by_cases c24 : x10_2.length < 17592186044416
             ·rw [if_pos c24] at H
              have LMc24 := Aside0.mk c24
              clear c24
              obtain ⟨y719, hy719⟩ : ∃ y_ : List Int, y_ = (x10_2 ++ [Int.tmod t718 2]) := ⟨_, rfl⟩
              replace H : (spec_l06Rows.l1 k2 l1 a2 t700 x8_1 x9_1 y719 (wrap64 (x11_2 + 1))) = some r := by first | (rw [hy719]; with_reducible exact H) | (have H2_ := (Option.bind_some _ _).symm.trans H; rw [hy719]; with_reducible exact H2_) | (have H2_ := (Option.bind_some _ _).symm.trans H; with_reducible exact H2_) | with_reducible exact H | (rw [hy719]; exact H) | exact H
              have Ny719 := Aside0.mk hy719
              clear hy719
              have H' := Aside0.mk H
              clear H
              have p714 : 0 ≤ (x11_2 : Int) := of_decide_eq_true (by first | (with_reducible assumption) | assumption)
              have q714 : x11_2 < (t700.length : Int) := of_decide_eq_true (by first | (with_reducible assumption) | assumption)
              obtain ⟨ad714, e714, hx714_0⟩ := Kd.at_int (Kd.R_reads' HO_7.out).2.2 x11_2 p714 q714
              obtain rfl : ad706 = ad714 := (by injection e714)
              replace p714 := eq_true p714
              replace q714 := eq_true q714
              try go_wp2_with (first | ((with_reducible refine gate_callee (f := 119) rfl ?_); refine cl_ (some 40) Try.func119 #[.int .i64 (rd t700 x11_2)] ?_; (with_reducible refine (spec_l02Dim.calls k2 (rd t700 x11_2) t715 _ A19.out).mono ?_); rintro e w' ⟨rfl, ⟨nd, rfl⟩⟩; refine ⟨_, rfl, ?_⟩))
              (try (rw [drewN_self wr]; generalize hq_ : World.drewN wr _ = wr; have n0_ : Aside0 (Kd.R (Kd.int .i64) 2 wr w.heap.size (fun k_ => some k_ ≠ (.slice (some ad706) t700.length co14 : Value).ownBlock) u10 x10_2) := ⟨by rw [← hq_]; exact (pR HO_10)⟩; have n1_ : Aside0 (Kd.R (Kd.int .i64) 2 wr w.heap.size (fun k_ => some k_ ≠ (u10 : Value).ownBlock) (.slice (some ad706) t700.length co14) t700) := ⟨by rw [← hq_]; exact (pR HO_7)⟩; have n2_ : Aside0 (Kd.S (Kd.slice 2 (Kd.int .i64)) 22 wr w.heap.size (fun k_ => some k_ ≠ (u10 : Value).ownBlock ∧ some k_ ≠ (.slice (some ad706) t700.length co14 : Value).ownBlock) u8 x8_1) := ⟨by rw [← hq_]; exact (by (with_reducible repeat (first | apply Kd.S_alloc | apply Kd.S_drewN | apply Kd.S_drew)); exact Kd.S_mono HO_8.out (fun _ hk => ⟨hk.2, hk.1⟩))⟩; have n3_ : Aside0 (wr.heap[gb699]? = some (.cells #[.int .i64 a0_0, .slice A0_1 l0_1.length c0_1] 28 (0, 0))) := ⟨by rw [← hq_]; exact (pB BK699)⟩; have n4_ : Aside0 (Below w.heap.size w wr) := ⟨by rw [← hq_]; exact (pH HB)⟩; clear HO_10 HO_7 HO_8 BK699 HB hq_; have HO_10 := n0_; have HO_7 := n1_; have HO_8 := n2_; have BK699 := n3_; have HB := n4_; clear n0_ n1_ n2_ n3_ n4_))
              (try (have hcz25_0 : wr.cell? ⟨gb699, 0, none⟩ = some (.int .i64 a0_0) := cB BK699 0; have hcz25_1 : wr.cell? ⟨gb699, 1, none⟩ = some (.slice A0_1 l0_1.length c0_1) := cB BK699 1; have hfz25_0 := zB BK699 0; have hfz25_1 := zB BK699 1))
              replace HO_7 := Aside0.mk (Kd.R_drew HO_7.out)
              replace HO_8 := Aside0.mk (Kd.S_drew HO_8.out)
              replace HO_10 := Aside0.mk (Kd.R_drew HO_10.out)
              replace BK699 := dB BK699
              replace HB := dH HB
              have p716 : 0 ≤ (x9_1 : Int) := of_decide_eq_true (by first | (with_reducible assumption) | assumption)
              have q716 : x9_1 < (t700.length : Int) := of_decide_eq_true (by first | (with_reducible assumption) | assumption)
              obtain ⟨ad716, e716, hx716_0⟩ := Kd.at_int (Kd.R_reads' HO_7.out).2.2 x9_1 p716 q716
              obtain rfl : ad706 = ad716 := (by injection e716)
              replace p716 := eq_true p716
              replace q716 := eq_true q716
              have p717 : 0 ≤ (x11_2 : Int) := of_decide_eq_true (by first | (with_reducible assumption) | assumption)
              have q717 : x11_2 < (t700.length : Int) := of_decide_eq_true (by first | (with_reducible assumption) | assumption)
              obtain ⟨ad717, e717, hx717_0⟩ := Kd.at_int (Kd.R_reads' HO_7.out).2.2 x11_2 p717 q717
              obtain rfl : ad706 = ad717 := (by injection e717)
              replace p717 := eq_true p717
              replace q717 := eq_true q717
              refine st_ 15 (S := fun w' => w'.cell? (ad706.add (x9_1).toNat) = some (.int .i64 (rd t700 x9_1)) ∧ w'.cell? (ad706.add (x11_2).toNat) = some (.int .i64 (rd t700 x11_2))) (ds := [12, 13]) ⟨hx716_0, hx717_0⟩ (fun hHeld => ?_); refine with_tabW spec_l06Rows.tab11 spec_l06Rows.bits11 (fun HT_ HW_ => ?_)
              generalize wr.drew = w26 at HO_7 HO_8 HO_10 BK699 HB hx716_0 hx717_0 hHeld ⊢
              refine pu_ 0 44 1 HT_ ?_
              refine pu_ 1 45 3 HT_ ?_
              refine pu_ 2 46 7 HT_ ?_
              refine pu_ 3 47 15 HT_ ?_
              refine pu_ 4 48 31 HT_ ?_
              refine pu_ 6 50 95 HT_ ?_
              refine pu_ 7 51 223 HT_ ?_
              refine pu_ 8 52 479 HT_ ?_
              refine tk_ 5 49 511 HT_ HW_ hHeld ?_
              refine tk_ 9 53 1023 HT_ HW_ hHeld ?_
              refine on_ 10 (some 54) 2047 HT_ (fun K hK => ?_)
              refine ca_ Try.func146 #[.slice A1 l1.length c1, .int .i64 (rd t700 x9_1), .int .i64 (rd t700 x11_2)] ?_
              with_reducible refine (spec_l06Between.calls k2 _ _ l1 (rd t700 x9_1) (rd t700 x11_2) t718 _ ?side1 ?side2 A23.out).mono ?_
              (case side1 => exact pC ((Kd.C_below HR1.out HB.out)))
              (case side2 => exact HC1.out)
              rintro e w27 ⟨rfl, hb⟩
              have HS0_ := (hb.cell (World.block_lt_of_cell? _ _ (hHeld.1))).trans (hHeld.1)
              have HS1_ := (hb.cell (World.block_lt_of_cell? _ _ (hHeld.2))).trans (hHeld.2)
              refine ⟨_, rfl, ?_⟩
              replace HO_7 := sR HO_7 hb
              replace HO_8 := Aside0.mk (Kd.S_below (by (with_reducible repeat (first | apply Kd.S_alloc | apply Kd.S_drewN | apply Kd.S_drew)); exact HO_8.out) hb)
              replace HO_10 := sR HO_10 hb
              replace BK699 := sB BK699 hb
              replace HB := sH HB hb
              (try clear hb)
              (try clear hb2)
              (try clear hk)
              (try clear hi)
              refine hK.out _ _ ⟨HS0_, HS1_⟩ (fun hHeld => ?_)
              clear hK K
              refine nm_ ?_
              refine pu_ 11 55 4095 HT_ ?_
              refine last_ (i := 12) (N := some 56) (mB 15 8191) rfl rfl (one_of HT_.out (by kernel_rfl)) (by decide) (fun K hK => ?_)
              refine value_ (w1 := ?_) (v := ?_) (by rfl) rfl ?_ ?_
              rotate_left 2
              ·go_simp
               constructor
               ·rfl
               ·rfl
              refine hK.out _ _ ?_
              clear hK K
              refine nm_ ?_
              refine last_ (i := 13) (N := some 57) (mB 15 16383) rfl rfl (one_of HT_.out (by kernel_rfl)) (by decide) (fun K hK => ?_)
              refine Kd.R_append_step (Kd.int .i64) (w0 := w) w.heap.size (by rfl) (.tmp 44) (.tmp 56) 22 2 (.int .i64 0) 8 rfl Try.underlying22 info2 rfl (by decide) (by omega) u10 x10_2 (Int.tmod t718 2) [.int .i64 (Int.tmod t718 2)] (fun k_ => some k_ ≠ (.slice (some ad706) t700.length co14 : Value).ownBlock) (fun _ => False) rfl rfl ?aP (fun _ hk => hk.elim) ?aF ?aO ?aB ?aS ?aL ?_
              (case aP => exact rfl)
              (case aB => exact (pH HB))
              (case aF => exact (fun k_ hk => Kd.fresh' (Kd.R_lt (pR HO_7)) k_ hk))
              (case aO => exact (pR HO_10))
              (case aS => exact (below_size (pH HB)))
              (case aL => have := LMc24.out; omega)
              intro v720 w28 ho hb hg hat
              rw [← Ny719.out] at ho
              replace HO_7 := Aside0.mk (Kd.R_after (ok := (fun _ => True)) (by (with_reducible repeat (first | apply Kd.R_alloc | apply Kd.R_drewN | apply Kd.R_drew)); exact Kd.R_mono HO_7.out (fun _ hk => ⟨trivial, hk⟩)) hg hat)
              replace HO_8 := Aside0.mk (Kd.S_after (ok := (fun k_ => some k_ ≠ (.slice (some ad706) t700.length co14 : Value).ownBlock)) (by (with_reducible repeat (first | apply Kd.S_alloc | apply Kd.S_drewN | apply Kd.S_drew)); exact Kd.S_mono HO_8.out (fun _ hk => ⟨hk.2, hk.1⟩)) hg hat)
              replace BK699 := Aside0.mk (blk_grown (g := gb699) (o := .cells #[.int .i64 a0_0, .slice A0_1 l0_1.length c0_1] 28 (0, 0)) (pB BK699) hg (Kd.R_ne HO_10.out BK699.out (by decide)))
              replace HB := Aside0.mk (hb)
              have HO721 := Aside0.mk (ho)
              clear HO_10
              clear ho hb hg hat
              refine hK.out _ _ ?_
              clear hK K
              refine nm_ ?_
              refine pu_ 14 10 32767 HT_ ?_
              refine dn_ HT_ ?_
              try go_wp2
              go_roundg k2
              case measure => have := HK1.out; have := HK2.out; omega
              case rel => exact ⟨(y719), (wrap64 (x11_2 + 1)), (by first | rfl | (simp; done) | (simp [*]; done)), H', ⟨by have := HK1.out; have := HK2.out; omega⟩, ⟨by (with_reducible repeat (first | apply Kd.R_alloc | apply Kd.R_drewN | apply Kd.R_drew)); exact Kd.R_mono HO_7.out (fun _ hk => hk.2)⟩, ⟨by (with_reducible repeat (first | apply Kd.S_alloc | apply Kd.S_drewN | apply Kd.S_drew)); exact HO_8.out⟩, ⟨by (with_reducible repeat (first | apply Kd.R_alloc | apply Kd.R_drewN | apply Kd.R_drew)); exact HO721.out⟩, ⟨pB BK699⟩, ⟨pH HB⟩⟩
             ·rw [if_neg c24] at H
              exact absurd H (by simp)
            ·rw [if_neg c22] at H
             exact absurd H (by simp)
           ·rw [if_neg c21] at H
            exact absurd H (by simp)
          ·rw [if_neg c20] at H
           have c20b0 : (t715 == (wrap64 (a2 - 1))) = false := beq_eq_false_iff_ne.mpr c20
           have c20b1 : (t715 != (wrap64 (a2 - 1))) = true := bne_iff_ne.mpr c20
           have H' := Aside0.mk H
           clear H
           have p714 : 0 ≤ (x11_2 : Int) := of_decide_eq_true (by first | (with_reducible assumption) | assumption)
           have q714 : x11_2 < (t700.length : Int) := of_decide_eq_true (by first | (with_reducible assumption) | assumption)
           obtain ⟨ad714, e714, hx714_0⟩ := Kd.at_int (Kd.R_reads' HO_7.out).2.2 x11_2 p714 q714
           obtain rfl : ad706 = ad714 := (by injection e714)
           replace p714 := eq_true p714
           replace q714 := eq_true q714
           go_wp2_with (first | ((with_reducible refine gate_callee (f := 119) rfl ?_); refine cl_ (some 40) Try.func119 #[.int .i64 (rd t700 x11_2)] ?_; (with_reducible refine (spec_l02Dim.calls k2 (rd t700 x11_2) t715 _ A19.out).mono ?_); rintro e w' ⟨rfl, ⟨nd, rfl⟩⟩; refine ⟨_, rfl, ?_⟩))
           go_roundg k2
           case measure => have := HK1.out; have := HK2.out; omega
           case rel => exact ⟨(x10_2), (wrap64 (x11_2 + 1)), (by first | rfl | (simp; done) | (simp [*]; done)), H', ⟨by have := HK1.out; have := HK2.out; omega⟩, ⟨by (with_reducible repeat (first | apply Kd.R_alloc | apply Kd.R_drewN | apply Kd.R_drew)); exact HO_7.out⟩, ⟨by (with_reducible repeat (first | apply Kd.S_alloc | apply Kd.S_drewN | apply Kd.S_drew)); exact HO_8.out⟩, ⟨by (with_reducible repeat (first | apply Kd.R_alloc | apply Kd.R_drewN | apply Kd.R_drew)); exact HO_10.out⟩, ⟨pB BK699⟩, ⟨pH HB⟩⟩
         ·rw [if_neg c18] at H
          exact absurd H (by simp)
        ·rw [if_neg c17] at H
         have c17b0 : decide (x11_2 < (t700.length : Int)) = false := decide_eq_false c17
         clear c17
         by_cases c29 : x8_1.length < 5864062014805
         ·rw [if_pos c29] at H
          have LMc29 := Aside0.mk c29
          clear c29
          obtain ⟨y711, hy711⟩ : ∃ y_ : List (List Int), y_ = (x8_1 ++ [x10_2]) := ⟨_, rfl⟩
          replace H : (spec_l06Rows.l0 k2 l1 a2 t700 y711 (wrap64 (x9_1 + 1))) = some r := by first | (rw [hy711]; with_reducible exact H) | (have H2_ := (Option.bind_some _ _).symm.trans H; rw [hy711]; with_reducible exact H2_) | (have H2_ := (Option.bind_some _ _).symm.trans H; with_reducible exact H2_) | with_reducible exact H | (rw [hy711]; exact H) | exact H
          have Ny711 := Aside0.mk hy711
          clear hy711
          have H' := Aside0.mk H
          clear H
          obtain ⟨Ao31, co31, eo31⟩ := Kd.R_slice HO_10.out
          subst eo31
          go_wp2_with (first | ((with_reducible refine gate_builtin (b := .append) (xs := #[.tmp 58, .tmp 60]) rfl ?_); at_builtin; refine Kd.S_append (Kd.slice 2 (Kd.int .i64)) (w0 := w) w.heap.size rfl (.tmp 58) (.tmp 60) 53 22 (.slice none 0 0) 24 rfl Try.underlying53 info22 rfl (by decide) (by omega) u8 x8_1 x10_2 [.slice Ao31 x10_2.length co31] (fun k_ => some k_ ≠ (.slice (some ad706) t700.length co14 : Value).ownBlock) (fun k_ => some k_ = (.slice Ao31 x10_2.length co31 : Value).ownBlock) rfl rfl ?aP (fun k_ hk_ => ((Kd.R_mono (ok' := fun k_ => ((fun k_ => some k_ ≠ (.slice (some ad706) t700.length co14 : Value).ownBlock)) k_ ∧ some k_ ≠ (u8 : Value).ownBlock) (Kd.R_apart' (HO_10.out) (Kd.S_typed HO_8.out) (by decide)) (fun k_ hk => ⟨hk.1, hk.2⟩))).1 k_ hk_.symm) ?aF ?aO ?aB ?aS ?aL ?_; (case aP => exact Kd.M_row (Kd.R_mono (Kd.R_tight rfl (Kd.R_mono (ok' := fun k_ => ((fun k_ => some k_ ≠ (.slice (some ad706) t700.length co14 : Value).ownBlock)) k_ ∧ some k_ ≠ (u8 : Value).ownBlock) (Kd.R_apart' (HO_10.out) (Kd.S_typed HO_8.out) (by decide)) (fun k_ hk => ⟨hk.1, hk.2⟩))) (fun _ h_ => h_))); (case aB => exact (pH HB)); (case aF => exact (fun k_ hk => Kd.fresh' (Kd.R_lt (pR HO_7)) k_ hk)); (case aO => exact (by (with_reducible repeat (first | apply Kd.S_alloc | apply Kd.S_drewN | apply Kd.S_drew)); exact Kd.S_mono HO_8.out (fun k_ hk => ⟨hk.1, fun e_ => hk.2 e_⟩))); (case aS => exact (below_size (pH HB))); (case aL => have := LMc29.out; omega); intro v712 w30 ho hb hg hat; rw [← Ny711.out] at ho; have n0_ := Aside0.mk (Kd.R_over' (pR HO_7) (Kd.S_typed (by (with_reducible repeat (first | apply Kd.S_alloc | apply Kd.S_drewN | apply Kd.S_drew)); exact HO_8.out)) (by decide) hg); have n1_ := Aside0.mk (blk_grown (g := gb699) (o := .cells #[.int .i64 a0_0, .slice A0_1 l0_1.length c0_1] 28 (0, 0)) (pB BK699) hg (Kd.S_ne HO_8.out BK699.out (by decide))); have n2_ := Aside0.mk (hb); have n3_ := Aside0.mk (ho); clear HO_7; clear BK699; clear HB; clear HO_8; clear HO_10; have HO_7 := n0_; have BK699 := n1_; have HB := n2_; have HO713 := n3_; clear n0_ n1_ n2_ n3_; clear ho hb hg hat))
          go_roundg k2
          case measure => have := HK1.out; have := HK2.out; omega
          case rel => exact ⟨(y711), (wrap64 (x9_1 + 1)), (by first | rfl | (simp; done) | (simp [*]; done)), H', ⟨by have := HK1.out; have := HK2.out; omega⟩, ⟨by (with_reducible repeat (first | apply Kd.R_alloc | apply Kd.R_drewN | apply Kd.R_drew)); exact Kd.R_mono HO_7.out (fun _ hk => trivial)⟩, ⟨by (with_reducible repeat (first | apply Kd.S_alloc | apply Kd.S_drewN | apply Kd.S_drew)); exact HO713.out⟩, ⟨pB BK699⟩, ⟨pH HB⟩⟩
         ·rw [if_neg c29] at H
          exact absurd H (by simp)
     ·rw [if_neg c13] at H
      have c13b0 : (t707 == a2) = false := beq_eq_false_iff_ne.mpr c13
      have c13b1 : (t707 != a2) = true := bne_iff_ne.mpr c13
      have H' := Aside0.mk H
      clear H
      obtain ⟨Ao32, co32, eo32⟩ := Kd.R_slice HO_7.out
      subst eo32
      have p706 : 0 ≤ (x9_1 : Int) := of_decide_eq_true (by first | (with_reducible assumption) | assumption)
      have q706 : x9_1 < (t700.length : Int) := of_decide_eq_true (by first | (with_reducible assumption) | assumption)
      obtain ⟨ad706, e706, hx706_0⟩ := Kd.at_int (Kd.R_reads' HO_7.out).2.2 x9_1 p706 q706
      cases e706
      replace p706 := eq_true p706
      replace q706 := eq_true q706
      go_wp2_with (first | ((with_reducible refine gate_callee (f := 119) rfl ?_); refine cl_ (some 26) Try.func119 #[.int .i64 (rd t700 x9_1)] ?_; (with_reducible refine (spec_l02Dim.calls k1 (rd t700 x9_1) t707 _ A12.out).mono ?_); rintro e w' ⟨rfl, ⟨nd, rfl⟩⟩; refine ⟨_, rfl, ?_⟩))
      go_roundg k1
      case measure => have := HK1.out; omega
      case rel => exact ⟨(x8_1), (wrap64 (x9_1 + 1)), (by first | rfl | (simp; done) | (simp [*]; done)), H', ⟨by have := HK1.out; omega⟩, ⟨by (with_reducible repeat (first | apply Kd.R_alloc | apply Kd.R_drewN | apply Kd.R_drew)); exact HO_7.out⟩, ⟨by (with_reducible repeat (first | apply Kd.S_alloc | apply Kd.S_drewN | apply Kd.S_drew)); exact HO_8.out⟩, ⟨pB BK699⟩, ⟨pH HB⟩⟩
    ·rw [if_neg c11] at H
     exact absurd H (by simp)
   ·rw [if_neg c10] at H
    have c10b0 : decide (x9_1 < (t700.length : Int)) = false := decide_eq_false c10
    clear c10
    obtain rfl := Option.some.inj H
    obtain ⟨Ao33, co33, eo33⟩ := Kd.R_slice HO_7.out
    subst eo33
    go_wp2
    go_ret
    exact ⟨_, by first | rfl | (simp [errW_none, errW_some] <;> rfl) | (simp [*, errW_none, errW_some] <;> rfl) | (exfalso; simp_all), by (with_reducible repeat (first | apply Kd.S_alloc | apply Kd.S_drewN | apply Kd.S_drew)); exact Kd.S_mono HO_8.out (fun _ hk => trivial), pH HB⟩
mutual
def spec_MorseBoundary.j0 : Nat → List (S73) → Int → Int → Bool → Int → List Int → Option ((List (List Int)) × Int)
 | 0, _, _, _, _, _, _ => none
 | k + 1, x1, x2, x8, x18, x723000, x723001 => if x18 = true then (spec_MorseBoundary.j1 k x1 x2 2 x723000 x723001) else (spec_MorseBoundary.j1 k x1 x2 x8 x723000 x723001)
def spec_MorseBoundary.j1 : Nat → List (S73) → Int → Int → Int → List Int → Option ((List (List Int)) × Int)
 | 0, _, _, _, _, _ => none
 | k + 1, x1, x2, x8, x723000, x723001 => if x8 = 0 then ((spec_l02Acyclic.f k x1).bind fun t725 => (spec_MorseBoundary.j2 k x1 x2 x8 (!t725) x723000 x723001)) else (spec_MorseBoundary.j2 k x1 x2 x8 false x723000 x723001)
def spec_MorseBoundary.j2 : Nat → List (S73) → Int → Int → Bool → Int → List Int → Option ((List (List Int)) × Int)
 | 0, _, _, _, _, _, _ => none
 | k + 1, x1, x2, x8, x25, x723000, x723001 => if x25 = true then (if 5 = 0 then ((spec_l06Rows.f k x723000 x723001 x1 x2).bind fun t726 => (some (t726, 0))) else (some (([] : List (List Int)), 5))) else (if x8 = 0 then ((spec_l06Rows.f k x723000 x723001 x1 x2).bind fun t729 => (some (t729, 0))) else (some (([] : List (List Int)), x8)))
end
def spec_MorseBoundary.f (k : Nat) (a0_0 : Int) (l0_1 : List Int) (l1 : List (S73)) (a2 : Int) : Option ((List (List Int)) × Int) := (spec_l02Code.f k a0_0 l0_1 l1 ([] : List Int)).bind fun t723 => (if t723 = 0 then ((spec_l01In.f a2 1 5).bind fun t724 => (spec_MorseBoundary.j0 k l1 a2 t723 (!t724) a0_0 l0_1)) else (spec_MorseBoundary.j0 k l1 a2 t723 false a0_0 l0_1))
set_option maxHeartbeats 8000000 in
set_option maxRecDepth 100000 in
theorem spec_MorseBoundary.calls (k : Nat) (a0_0 : Int) (A0_1 : Option Addr) (c0_1 : Nat) (l0_1 : List Int) (A1 : Option Addr) (c1 : Nat) (l1 : List (S73)) (a2 : Int) (r1 : List (List Int)) (r2 : Int) (w : World) (hr0_1 : Kd.C (Kd.int .i64) w A0_1 l0_1.length l0_1) (hc0_1 : l0_1.length ≤ c0_1) (hr1 : Kd.C k73 w A1 l1.length l1) (hc1 : l1.length ≤ c1) (h : spec_MorseBoundary.f k a0_0 l0_1 l1 a2 = some (r1, r2)) :
  Calls Try.prog 44 #[.agg #[.int .i64 a0_0, .slice A0_1 l0_1.length c0_1], .slice A1 l1.length c1, .int .i64 a2] w fun e w' => ∃ v0_ : Value, e = .returned (.tuple #[v0_, .int .i64 r2]) ∧ Kd.S (Kd.slice 2 (Kd.int .i64)) 22 w' w.heap.size (fun _ => True) v0_ r1 ∧ Below w.heap.size w w' := by
 have hu28 := Try.underlying28
 have HR0_1 := Aside0.mk hr0_1
 have HC0_1 := Aside0.mk hc0_1
 clear hr0_1 hc0_1
 have HR1 := Aside0.mk hr1
 have HC1 := Aside0.mk hc1
 clear hr1 hc1
 have HB := Aside0.mk (Below.refl w.heap.size w)
 have H : ((spec_l02Code.f k a0_0 l0_1 l1 ([] : List Int)).bind fun t723 => (if t723 = 0 then ((spec_l01In.f a2 1 5).bind fun t724 => (spec_MorseBoundary.j0 k l1 a2 t723 (!t724) a0_0 l0_1)) else (spec_MorseBoundary.j0 k l1 a2 t723 false a0_0 l0_1))) = some (r1, r2) := h
 clear h
 replace H := Option.bind_eq_some_iff.mp H
 obtain ⟨t723, A40, H⟩ := H
 try dsimp only at H
 have A4 := Aside0.mk A40
 clear A40
 have HC5 := Aside0.mk H
 clear H
 go_enter Try.func44, Try.ntmps44
 go_upto_region 2 with (first | ((with_reducible refine gate_dst (N := 3) rfl ?_); refine box_event ?hg (N := 3) ?hd (cs := #[.int .i64 a0_0, .slice A0_1 l0_1.length c0_1]) (t := 28) ?hr ?_; (case hd => rfl); (case hg => rfl); (case hr => first | (go_simp; done) | (go_simp; rfl)); intro gb722 hg w6 hbox hb; have BK722 := Aside0.mk (hbox); have GW722 := gH HB hg; have GE722 := gH HB hg; replace HB := sH HB hb; clear hb hbox hg; have hcz7_0 : w6.cell? ⟨gb722, 0, none⟩ = some (.int .i64 a0_0) := cB BK722 0; have hcz7_1 : w6.cell? ⟨gb722, 1, none⟩ = some (.slice A0_1 l0_1.length c0_1) := cB BK722 1; have hfz7_0 := zB BK722 0; have hfz7_1 := zB BK722 1) | ((with_reducible refine gate_callee (f := 96) rfl ?_); refine cl_ (some 11) Try.func96 #[.agg #[.int .i64 a0_0, .slice A0_1 l0_1.length c0_1], .slice A1 l1.length c1, .slice none 0 0] ?_; (refine (spec_l02Code.calls k a0_0 _ _ l0_1 _ _ l1 _ _ ([] : List Int) t723 _ ?side1 ?side2 ?side3 ?side4 ?side5 ?side6 A4.out).mono ?_); (case side1 => exact pC ((Kd.C_below HR0_1.out HB.out))); (case side2 => exact HC0_1.out); (case side3 => exact pC ((Kd.C_below HR1.out HB.out))); (case side4 => exact HC1.out); (case side5 => exact Kd.C_nil _ _); (case side6 => exact Nat.le_refl _); rintro e w8 ⟨rfl, hb⟩; refine ⟨_, rfl, ?_⟩; replace BK722 := sB BK722 hb; replace HB := sH HB hb; (try clear hb); (try clear hi)))
 (try simp only [Act.put, List.setIfInBounds_toArray, List.set_cons_zero, List.set_cons_succ])
 go_cut [18] (fun v18 wc => ∃ (kq : Nat) (x18_4 : Bool), v18 = .bool x18_4 ∧ Aside0 (spec_MorseBoundary.j0 kq l1 a2 t723 x18_4 a0_0 l0_1 = some (r1, r2)) ∧ Aside0 (kq ≤ k) ∧ Aside0 (wc.heap[gb722]? = some (.cells #[.int .i64 a0_0, (.slice A0_1 l0_1.length c0_1)] 28 (0, 0))) ∧ Aside0 (Below w.heap.size w wc))
 case first =>
  have H := HC5.out
  clear HC5
  by_cases c9 : t723 = 0
  ·rw [if_pos c9] at H
   have c9b0 : (t723 == 0) = true := beq_iff_eq.mpr c9
   have c9b1 : (t723 != 0) = false := bne_eq_false_iff_eq.mpr c9
   clear c9
   (first | rw [c9b0] | (simp only [i64_w, i32_w]; rw [c9b0]) | skip)
   replace H := Option.bind_eq_some_iff.mp H
   obtain ⟨t724, A100, H⟩ := H
   try dsimp only at H
   have A10 := Aside0.mk A100
   clear A100
   have H' := Aside0.mk H
   clear H
   go_wp2_with (first | (go_at_call 52; (with_reducible refine (spec_l01In.calls a2 1 5 t724 _ A10.out).mono ?_); rintro e w' ⟨rfl, ⟨nd, rfl⟩⟩))
   go_meet
   case rel => exact ⟨_, (!t724), (by first | rfl | (simp; done) | (simp [*]; done)), H', ⟨by first | omega | exact Nat.le_refl _⟩, ⟨pB BK722⟩, ⟨pH HB⟩⟩
  ·rw [if_neg c9] at H
   have c9b0 : (t723 == 0) = false := beq_eq_false_iff_ne.mpr c9
   have c9b1 : (t723 != 0) = true := bne_iff_ne.mpr c9
   (first | rw [c9b0] | (simp only [i64_w, i32_w]; rw [c9b0]) | skip)
   have H' := Aside0.mk H
   clear H
   go_wp2
   go_meet
   case rel => exact ⟨_, (false), (by first | rfl | (simp; done) | (simp [*]; done)), H', ⟨by first | omega | exact Nat.le_refl _⟩, ⟨pB BK722⟩, ⟨pH HB⟩⟩
 case rest =>
  clear HC5
  try clear c1
  try clear p2
  try clear c4
  try clear c9
  try clear c9b0
  try clear c9b1
  try clear hcz7_0
  try clear hcz7_1
  try clear hfz7_0
  try clear hfz7_1
  obtain ⟨kq, x18_4, rfl, HA, HJ4, BK722, HB⟩ := hcut
  cases kq with
  | zero => exact absurd HA.out (by simp [spec_MorseBoundary.j0])
  | succ kj4 =>
   have H := HA.out
   clear HA
   simp only [spec_MorseBoundary.j0] at H
   have HC11 := Aside0.mk H
   clear H
   go_upto_if 18 with (fail)
   go_cut [8] (fun v8 wc => ∃ (kq : Nat) (x8_10 : Int), v8 = .int .i64 x8_10 ∧ Aside0 (spec_MorseBoundary.j1 kq l1 a2 x8_10 a0_0 l0_1 = some (r1, r2)) ∧ Aside0 (kq ≤ kj4) ∧ Aside0 (wc.heap[gb722]? = some (.cells #[.int .i64 a0_0, (.slice A0_1 l0_1.length c0_1)] 28 (0, 0))) ∧ Aside0 (Below w.heap.size w wc))
   case first =>
    have H := HC11.out
    clear HC11
    by_cases c12 : x18_4 = true
    ·subst c12
     have H1 : (spec_MorseBoundary.j1 kj4 l1 a2 2 a0_0 l0_1) = some (r1, r2) := by rw [if_pos rfl] at H; exact H
     clear H
     have H := H1
     clear H1
     have H' := Aside0.mk H
     clear H
     go_wp2
     go_meet
     case rel => exact ⟨_, (2), (by first | rfl | (simp; done) | (simp [*]; done)), H', ⟨by have := HJ4.out; first | omega | exact Nat.le_refl _⟩, ⟨pB BK722⟩, ⟨pH HB⟩⟩
    ·replace c12 := Bool.eq_false_iff.mpr c12
     subst c12
     have H1 : (spec_MorseBoundary.j1 kj4 l1 a2 t723 a0_0 l0_1) = some (r1, r2) := by rw [if_neg (show ¬ (false = true) by decide)] at H; exact H
     clear H
     have H := H1
     clear H1
     have H' := Aside0.mk H
     clear H
     go_wp2
     go_meet
     case rel => exact ⟨_, (t723), (by first | rfl | (simp; done) | (simp [*]; done)), H', ⟨by have := HJ4.out; first | omega | exact Nat.le_refl _⟩, ⟨pB BK722⟩, ⟨pH HB⟩⟩
   case rest =>
    clear HC11
    try clear c1
    try clear p2
    try clear c4
    try clear c9
    try clear c9b0
    try clear c9b1
    try clear c12
    try clear hcz7_0
    try clear hcz7_1
    try clear hfz7_0
    try clear hfz7_1
    try clear p2
    obtain ⟨kq, x8_10, rfl, HA, HJ10, BK722, HB⟩ := hcut
    cases kq with
    | zero => exact absurd HA.out (by simp [spec_MorseBoundary.j1])
    | succ kj10 =>
     have H := HA.out
     clear HA
     simp only [spec_MorseBoundary.j1] at H
     have HC13 := Aside0.mk H
     clear H
     go_upto_region 4 with (fail)
     go_cut [25] (fun v25 wc => ∃ (kq : Nat) (x25_12 : Bool), v25 = .bool x25_12 ∧ Aside0 (spec_MorseBoundary.j2 kq l1 a2 x8_10 x25_12 a0_0 l0_1 = some (r1, r2)) ∧ Aside0 (kq ≤ kj10) ∧ Aside0 (wc.heap[gb722]? = some (.cells #[.int .i64 a0_0, (.slice A0_1 l0_1.length c0_1)] 28 (0, 0))) ∧ Aside0 (Below w.heap.size w wc))
     case first =>
      have H := HC13.out
      clear HC13
      by_cases c14 : x8_10 = 0
      ·rw [if_pos c14] at H
       have c14b0 : (x8_10 == 0) = true := beq_iff_eq.mpr c14
       have c14b1 : (x8_10 != 0) = false := bne_eq_false_iff_eq.mpr c14
       clear c14
       (first | rw [c14b0] | (simp only [i64_w, i32_w]; rw [c14b0]) | skip)
       replace H := Option.bind_eq_some_iff.mp H
       obtain ⟨t725, A150, H⟩ := H
       try dsimp only at H
       have A15 := Aside0.mk A150
       clear A150
       have H' := Aside0.mk H
       clear H
       go_wp2_with (first | (go_at_call 97; (with_reducible refine (spec_l02Acyclic.calls kj10 _ _ l1 t725 _ ?side1 ?side2 A15.out).mono ?_); (case side1 => exact pC ((Kd.C_below HR1.out HB.out))); (case side2 => exact HC1.out); rintro e w16 ⟨rfl, hb⟩; replace BK722 := sB BK722 hb; replace HB := sH HB hb; (try clear hb); (try clear hi)))
       go_meet
       case rel => exact ⟨_, (!t725), (by first | rfl | (simp; done) | (simp [*]; done)), H', ⟨by have := HJ4.out; have := HJ10.out; first | omega | exact Nat.le_refl _⟩, ⟨pB BK722⟩, ⟨pH HB⟩⟩
      ·rw [if_neg c14] at H
       have c14b0 : (x8_10 == 0) = false := beq_eq_false_iff_ne.mpr c14
       have c14b1 : (x8_10 != 0) = true := bne_iff_ne.mpr c14
       (first | rw [c14b0] | (simp only [i64_w, i32_w]; rw [c14b0]) | skip)
       have H' := Aside0.mk H
       clear H
       go_wp2
       go_meet
       case rel => exact ⟨_, (false), (by first | rfl | (simp; done) | (simp [*]; done)), H', ⟨by have := HJ4.out; have := HJ10.out; first | omega | exact Nat.le_refl _⟩, ⟨pB BK722⟩, ⟨pH HB⟩⟩
     case rest =>
      clear HC13
      try clear c1
      try clear p2
      try clear c4
      try clear c9
      try clear c9b0
      try clear c9b1
      try clear c12
      try clear c14
      try clear c14b0
      try clear c14b1
      try clear hcz7_0
      try clear hcz7_1
      try clear hfz7_0
      try clear hfz7_1
      try clear p2
      obtain ⟨kq, x25_12, rfl, HA, HJ12, BK722, HB⟩ := hcut
      cases kq with
      | zero => exact absurd HA.out (by simp [spec_MorseBoundary.j2])
      | succ kj12 =>
       have H := HA.out
       clear HA
       simp only [spec_MorseBoundary.j2] at H
       by_cases c17 : x25_12 = true
       ·subst c17
        have H1 : (if 5 = 0 then ((spec_l06Rows.f kj12 a0_0 l0_1 l1 a2).bind fun t726 => (some (t726, 0))) else (some (([] : List (List Int)), 5))) = some (r1, r2) := by rw [if_pos rfl] at H; exact H
        clear H
        have H := H1
        clear H1
        by_cases c18 : 5 = 0
        ·exact absurd c18 (by decide)
        ·rw [if_neg c18] at H
         have c18b0 : (5 == 0) = false := beq_eq_false_iff_ne.mpr c18
         have c18b1 : (5 != 0) = true := bne_iff_ne.mpr c18
         simp only [Option.some.injEq, Prod.mk.injEq] at H
         obtain ⟨rfl, rfl⟩ := H
         go_wp2
         go_ret2
         exact ⟨_, by first | rfl | (simp [errW_none, errW_some] <;> rfl) | (simp [*, errW_none, errW_some] <;> rfl) | (exfalso; simp_all), by first | exact Kd.S_nil _ _ _ _ _ | exact Kd.N_nil _ _ _ _ _ | exact Kd.V_nil _ _ _ _ _ | exact Kd.Q_nil _ _ _ _ _ | exact Kd.R_nil _ _ _ _ _, pH HB⟩
       ·replace c17 := Bool.eq_false_iff.mpr c17
        subst c17
        have H1 : (if x8_10 = 0 then ((spec_l06Rows.f kj12 a0_0 l0_1 l1 a2).bind fun t729 => (some (t729, 0))) else (some (([] : List (List Int)), x8_10))) = some (r1, r2) := by rw [if_neg (show ¬ (false = true) by decide)] at H; exact H
        clear H
        have H := H1
        clear H1
        by_cases c22 : x8_10 = 0
        ·rw [if_pos c22] at H
         have c22b0 : (x8_10 == 0) = true := beq_iff_eq.mpr c22
         have c22b1 : (x8_10 != 0) = false := bne_eq_false_iff_eq.mpr c22
         clear c22
         replace H := Option.bind_eq_some_iff.mp H
         obtain ⟨t729, A230, H⟩ := H
         try dsimp only at H
         have A23 := Aside0.mk A230
         clear A230
         simp only [Option.some.injEq, Prod.mk.injEq] at H
         obtain ⟨rfl, rfl⟩ := H
         have hcz24_0 : wc.cell? ⟨gb722, 0, none⟩ = some (.int .i64 a0_0) := cB BK722 0
         have hcz24_1 : wc.cell? ⟨gb722, 1, none⟩ = some (.slice A0_1 l0_1.length c0_1) := cB BK722 1
         have hfz24_0 := zB BK722 0
         have hfz24_1 := zB BK722 1
         go_wp2_with (first | ((with_reducible refine gate_callee (f := 98) rfl ?_); refine cl_ (some 32) Try.func98 #[.agg #[.int .i64 a0_0, .slice A0_1 l0_1.length c0_1], .slice A1 l1.length c1, .int .i64 a2] ?_; (with_reducible refine (spec_l06Rows.calls kj12 a0_0 _ _ l0_1 _ _ l1 a2 t729 _ ?side1 ?side2 ?side3 ?side4 A23.out).mono ?_); (case side1 => exact pC ((Kd.C_below HR0_1.out HB.out))); (case side2 => exact HC0_1.out); (case side3 => exact pC ((Kd.C_below HR1.out HB.out))); (case side4 => exact HC1.out); rintro e w25 ⟨v730, rfl, ho0, hb⟩; refine ⟨_, rfl, ?_⟩; have HO731 := Aside0.mk (Kd.S_lower ho0 (below_size (pH HB))); replace BK722 := sB BK722 hb; replace HB := sH HB hb; (try clear hb); (try clear hi); (try clear ho0)))
         go_ret2
         exact ⟨_, by first | rfl | (simp [errW_none, errW_some] <;> rfl) | (simp [*, errW_none, errW_some] <;> rfl) | (exfalso; simp_all), by (with_reducible repeat (first | apply Kd.S_alloc | apply Kd.S_drewN | apply Kd.S_drew)); exact HO731.out, pH HB⟩
        ·rw [if_neg c22] at H
         have c22b0 : (x8_10 == 0) = false := beq_eq_false_iff_ne.mpr c22
         have c22b1 : (x8_10 != 0) = true := bne_iff_ne.mpr c22
         simp only [Option.some.injEq, Prod.mk.injEq] at H
         obtain ⟨rfl, rfl⟩ := H
         go_wp2
         go_ret2
         exact ⟨_, by first | rfl | (simp [errW_none, errW_some] <;> rfl) | (simp [*, errW_none, errW_some] <;> rfl) | (exfalso; simp_all), by first | exact Kd.S_nil _ _ _ _ _ | exact Kd.N_nil _ _ _ _ _ | exact Kd.V_nil _ _ _ _ _ | exact Kd.Q_nil _ _ _ _ _ | exact Kd.R_nil _ _ _ _ _, pH HB⟩
end Go.Proofs.Ytomdfjohnmikdaa.QS
namespace Go.Proofs.Ytomdfjohnmikdaa.Pu
open Go.RowKit Kp Ext QS Im YtomdfjohnmikdaaW.PrintWords YtomdfjohnmikdaaW.PrintLast YtomdfjohnmikdaaW.PrintMore
theorem ofD_next {crit : List Int} {i : Nat} (hi : i < crit.length) (d : Int) : ofD (crit.take (i + 1)) d = ofD (crit.take i) d ++ if onesZ crit[i] - 1 = d then [crit[i]] else [] := by
  unfold ofD
  rw [List.take_succ_eq_append_getElem hi, List.filter_append]
  congr 1
  by_cases h : onesZ crit[i] - 1 = d <;> simp [h]
theorem rows_l1 {l : List Pr} {d : Int} {crit : List Int} {wz : Int → Int → Int} (hd : 1 ≤ d ∧ d ≤ 5) (hc : crit.length ≤ 1048576) (h63 : ∀ x ∈ crit, 1 ≤ x ∧ x ≤ 63) (hwz : ∀ b a, b ∈ crit → Ev (fun k => spec_l06Between.f k l b a) (wz b a))
    {acc : List (List Int)} {i : Nat} (hi : i < crit.length) (ha : acc.length ≤ 1048576) {r : List (List Int)} (hr : Ev (fun k => spec_l06Rows.l0 k l d crit (acc ++ [rowM wz (ofD crit (d - 1)) crit[i]]) ((i + 1 : Nat) : Int)) r) :
    ∀ m (j : Nat), crit.length - j = m → j ≤ crit.length → Ev (fun k => spec_l06Rows.l1 k l d crit acc (i : Int) (rowM wz (ofD (crit.take j) (d - 1)) crit[i]) (j : Int)) r := by
  intro m
  induction m with
  | zero =>
    intro j hm hj
    obtain rfl : j = crit.length := by omega
    rw [List.take_length]
    refine Ev.step (f := fun k => spec_l06Rows.l0 k l d crit (acc ++ [rowM wz (ofD crit (d - 1)) crit[i]]) ((i + 1 : Nat) : Int)) (fun k => ?_) hr
    simp only [spec_l06Rows.l1]
    rw [if_neg (by omega), if_pos (by omega), succ64 (by omega)]
  | succ m ih =>
    intro j hm hj
    have hj' : j < crit.length := by omega
    have hx := h63 _ (List.getElem_mem hj')
    have hih := ih (j + 1) (by omega) (by omega)
    rw [ofD_next hj'] at hih
    have hlen : (rowM wz (ofD (crit.take j) (d - 1)) crit[i]).length ≤ 1048576 := by
      unfold rowM
      rw [List.length_map]
      have h1 := ofD_len (crit.take j) (d - 1)
      rw [List.length_take] at h1
      omega
    refine Ev.step (f := fun k => (spec_l02Dim.f k crit[j]).bind fun t => if t = d - 1 then ((spec_l06Between.f k l crit[i] crit[j]).bind fun t718 => spec_l06Rows.l1 k l d crit acc (i : Int) (rowM wz (ofD (crit.take j) (d - 1)) crit[i] ++ [Int.tmod t718 2]) ((j + 1 : Nat) : Int)) else spec_l06Rows.l1 k l d crit acc (i : Int) (rowM wz (ofD (crit.take j) (d - 1)) crit[i]) ((j + 1 : Nat) : Int)) (fun k => ?_) ?_
    · simp only [spec_l06Rows.l1]
      rw [if_pos (by omega), if_pos (by omega), rd_at hj', w64 (by omega) (by omega), succ64 (by omega)]
      congr 1
      funext t
      rw [if_pos (show (0 : Int) ≤ (i : Int) by omega), if_pos (show (i : Int) < (crit.length : Int) by omega), rd_at hi]
      simp only [if_pos (show (rowM wz (ofD (crit.take j) (d - 1)) crit[i]).length < 17592186044416 by omega)]
    · refine Ev.bind (ev_dim2 hx.1 hx.2) ?_
      by_cases h : onesZ crit[j] - 1 = d - 1
      · simp only [if_pos h] at hih ⊢
        refine Ev.bind (hwz _ _ (List.getElem_mem hi)) ?_
        have he : rowM wz (ofD (crit.take j) (d - 1) ++ [crit[j]]) crit[i] = rowM wz (ofD (crit.take j) (d - 1)) crit[i] ++ [Int.tmod (wz crit[i] crit[j]) 2] := by unfold rowM; rw [List.map_append]; rfl
        rw [he] at hih
        exact hih
      · simp only [if_neg h, List.append_nil] at hih ⊢
        exact hih
theorem rows_l0 {l : List Pr} {d : Int} {crit : List Int} {wz : Int → Int → Int} (hd : 1 ≤ d ∧ d ≤ 5) (hc : crit.length ≤ 1048576) (h63 : ∀ x ∈ crit, 1 ≤ x ∧ x ≤ 63) (hwz : ∀ b a, b ∈ crit → Ev (fun k => spec_l06Between.f k l b a) (wz b a)) :
    ∀ m (i : Nat), crit.length - i = m → i ≤ crit.length → Ev (fun k => spec_l06Rows.l0 k l d crit ((ofD (crit.take i) d).map (rowM wz (ofD crit (d - 1)))) (i : Int)) (rowsM wz crit d) := by
  intro m
  induction m with
  | zero =>
    intro i hm hi
    obtain rfl : i = crit.length := by omega
    rw [List.take_length]
    refine Ev.step (f := fun k => some (rowsM wz crit d)) (fun k => ?_) (Ev.now _)
    simp only [spec_l06Rows.l0]
    rw [if_neg (by omega)]
    rfl
  | succ m ih =>
    intro i hm hi
    have hi' : i < crit.length := by omega
    have hx := h63 _ (List.getElem_mem hi')
    have hih := ih (i + 1) (by omega) (by omega)
    rw [ofD_next hi'] at hih
    have hlen : ((ofD (crit.take i) d).map (rowM wz (ofD crit (d - 1)))).length ≤ 1048576 := by
      rw [List.length_map]
      have h1 := ofD_len (crit.take i) d
      rw [List.length_take] at h1
      omega
    refine Ev.step (f := fun k => (spec_l02Dim.f k crit[i]).bind fun t => if t = d then spec_l06Rows.l1 k l d crit ((ofD (crit.take i) d).map (rowM wz (ofD crit (d - 1)))) (i : Int) [] 0 else spec_l06Rows.l0 k l d crit ((ofD (crit.take i) d).map (rowM wz (ofD crit (d - 1)))) ((i + 1 : Nat) : Int)) (fun k => ?_) ?_
    · simp only [spec_l06Rows.l0]
      rw [if_pos (by omega), if_pos (by omega), rd_at hi', succ64 (by omega)]
    · refine Ev.bind (ev_dim2 hx.1 hx.2) ?_
      by_cases h : onesZ crit[i] - 1 = d
      · simp only [if_pos h] at hih ⊢
        have he : (ofD (crit.take i) d ++ [crit[i]]).map (rowM wz (ofD crit (d - 1))) = (ofD (crit.take i) d).map (rowM wz (ofD crit (d - 1))) ++ [rowM wz (ofD crit (d - 1)) crit[i]] := by rw [List.map_append]; rfl
        rw [he] at hih
        exact rows_l1 hd hc h63 hwz hi' hlen hih _ 0 rfl (Nat.zero_le _)
      · simp only [if_neg h, List.append_nil] at hih ⊢
        exact hih
theorem ev_rows (n : Int) {xs : List Int} (hx : xs.length ≤ 1048576) {l : List Pr} (hl : l.length ≤ 1048576) {d : Int} (h : mcode n xs l d = 0) : Ev (fun k => spec_l06Rows.f k n xs l d) (rowsM (wzV l) (critL xs l) d) := by
  obtain ⟨hi, hf, hd, _, _, hw⟩ := wzV_both hl h
  have hcl : (critL xs l).length ≤ xs.length := List.length_filter_le _ _
  have hcm : ∀ x ∈ critL xs l, x ∈ xs := fun x hx => (List.mem_filter.1 hx).1
  unfold spec_l06Rows.f
  refine Ev.bind (ev_crit n hx hl) ?_
  have := rows_l0 (l := l) (d := d) (crit := critL xs l) (wz := wzV l) hd (by omega) (fun x hx => by have := isC_63 hi x (hcm x hx); omega) (fun b a hb => (hw b a (hcm b hb)).2) _ 0 rfl (Nat.zero_le _)
  exact this
theorem ev_specMB (n : Int) {xs : List Int} (hx : xs.length ≤ 1048576) {l : List Pr} (hl : l.length ≤ 1048576) (d : Int) : Ev (fun k => spec_MorseBoundary.f k n xs l d) (rowsB n xs l d, mcode n xs l d) := by
  have hrows := fun h => ev_rows n hx hl (d := d) h
  have j2f : ∀ z : Int, rowsB n xs l d = (if z = 0 then rowsM (wzV l) (critL xs l) d else []) → mcode n xs l d = z → Ev (fun k => spec_MorseBoundary.j2 k l d z false n xs) (rowsB n xs l d, mcode n xs l d) := by
    intro z hz hm
    by_cases h0 : z = 0
    · subst h0
      refine Ev.step (f := fun k => (spec_l06Rows.f k n xs l d).bind fun t => some (t, 0)) (fun k => by simp [spec_MorseBoundary.j2]) ?_
      rw [hz, if_pos rfl, hm]
      exact Ev.bind (hrows hm) (Ev.now _)
    · refine Ev.step (f := fun k => some ([], z)) (fun k => by simp [spec_MorseBoundary.j2, h0]) ?_
      rw [hz, if_neg h0, hm]
      exact Ev.now _
  have hrb : ∀ z, mcode n xs l d = z → rowsB n xs l d = (if z = 0 then rowsM (wzV l) (critL xs l) d else []) := fun z hz => by unfold rowsB; rw [hz]
  unfold spec_MorseBoundary.f
  refine Ev.bind (ev_pcode n hx hl) ?_
  by_cases hp : pcode n xs l = 0
  · simp only [if_pos hp, in_eq, Option.bind_some]
    rw [hp]
    by_cases hd : 1 ≤ d ∧ d ≤ 5
    · have hw : withinB d 1 5 = true := by unfold withinB; simp; omega
      rw [hw]
      refine Ev.step (f := fun k => spec_MorseBoundary.j1 k l d 0 n xs) (fun k => by simp [spec_MorseBoundary.j0]) ?_
      have hi : isC n xs = true ∧ pairingB xs l = true := by
        unfold pcode at hp
        cases h1 : isC n xs <;> cases h2 : pairingB xs l <;> simp [h1, h2] at hp ⊢
      have hf := facesP_of hi.1 hi.2
      refine Ev.step (f := fun k => (spec_l02Acyclic.f k l).bind fun t => spec_MorseBoundary.j2 k l d 0 (!t) n xs) (fun k => by simp [spec_MorseBoundary.j1]) ?_
      refine Ev.bind (ev_acyclic hl hf) ?_
      have hm : mcode n xs l d = if acycB l then 0 else 5 := by unfold mcode acode; rw [if_pos hd, if_pos hp]
      cases ha : acycB l with
      | true =>
        rw [ha] at hm
        exact j2f 0 (hrb 0 hm) hm
      | false =>
        rw [ha] at hm
        refine Ev.step (f := fun k => some ([], 5)) (fun k => by simp [spec_MorseBoundary.j2]) ?_
        rw [hrb 5 hm, if_neg (by decide), show mcode n xs l d = 5 from hm]
        exact Ev.now _
    · have hw : withinB d 1 5 = false := by unfold withinB; simp; omega
      rw [hw]
      refine Ev.step (f := fun k => spec_MorseBoundary.j1 k l d 2 n xs) (fun k => by simp [spec_MorseBoundary.j0]) ?_
      refine Ev.step (f := fun k => spec_MorseBoundary.j2 k l d 2 false n xs) (fun k => by simp [spec_MorseBoundary.j1]) ?_
      have hm : mcode n xs l d = 2 := by
        unfold mcode; rw [if_neg hd]
        unfold pcode at hp
        cases h1 : isC n xs with
        | false => rw [h1] at hp; simp at hp
        | true => rfl
      exact j2f 2 (hrb 2 hm) hm
  · simp only [if_neg hp]
    refine Ev.step (f := fun k => spec_MorseBoundary.j1 k l d (pcode n xs l) n xs) (fun k => by simp [spec_MorseBoundary.j0]) ?_
    refine Ev.step (f := fun k => spec_MorseBoundary.j2 k l d (pcode n xs l) false n xs) (fun k => by simp [spec_MorseBoundary.j1, hp]) ?_
    have hm : mcode n xs l d = pcode n xs l := by
      unfold mcode acode
      by_cases hd : 1 ≤ d ∧ d ≤ 5
      · rw [if_pos hd, if_neg hp]
      · rw [if_neg hd]
        unfold pcode at hp ⊢
        cases h1 : isC n xs <;> cases h2 : pairingB xs l <;> simp [h1, h2] at hp ⊢
    exact j2f _ (hrb _ hm) hm
end Go.Proofs.Ytomdfjohnmikdaa.Pu
namespace Go.Proofs.Ytomdfjohnmikdaa.QS
open Cw Kp Ext Go.RowKit YtomdfjohnmikdaaW.PrintWords YtomdfjohnmikdaaW.PrintLast YtomdfjohnmikdaaW.PrintMore
attribute [local go_sem] max2_int min2_int max_two min_two max_three min_three max_four min_four   -- for this text's walks alone
def laws_eqPairS.l0 : Nat → List (S73) → List (S73) → Int → Option (Bool)
 | 0, _, _, _ => none
 | k + 1, x0, x1, x5 => if x5 < (x0.length : Int) then (if 0 ≤ x5 then (if x5 < (x1.length : Int) then ((laws_eqPair.f ((rd_T73 x0 x5).f0) ((rd_T73 x0 x5).f1) ((rd_T73 x1 x5).f0) ((rd_T73 x1 x5).f1)).bind fun t133 => (if t133 = true then (laws_eqPairS.l0 k x0 x1 (wrap64 (x5 + 1))) else (some false))) else (none)) else (none)) else (some true)
def laws_eqPairS.f (k : Nat) (l0 : List (S73)) (l1 : List (S73)) : Option (Bool) := if (l0.length : Int) = (l1.length : Int) then (laws_eqPairS.l0 k l0 l1 0) else (some false)
def laws_eqPairS.T6 : Bool × List (List Nat × List Nat) := (true, [([], []), ([], []), ([0, 1], [0, 1]), ([2], [2]), ([], []), ([], []), ([4, 5], [4, 5]), ([6], [6]), ([3, 7], [3, 7]), ([8], [8])])
def laws_eqPairS.B6 : List Nat := [0, 0, 3, 7, 0, 0, 48, 112, 255, 511]
theorem laws_eqPairS.tab6 : rtab .any (opsOf Try.f27 6) = laws_eqPairS.T6 := by kernel_rfl
theorem laws_eqPairS.bits6 : waitsOk laws_eqPairS.T6.2 laws_eqPairS.B6 = true := by kernel_rfl
set_option maxHeartbeats 8000000 in
set_option maxRecDepth 100000 in
theorem laws_eqPairS.calls (k : Nat) (A0 : Option Addr) (c0 : Nat) (l0 : List (S73)) (A1 : Option Addr) (c1 : Nat) (l1 : List (S73)) (r : Bool) (w : World) (hr0 : Kd.C k73 w A0 l0.length l0) (hc0 : l0.length ≤ c0) (hr1 : Kd.C k73 w A1 l1.length l1) (hc1 : l1.length ≤ c1) (h : laws_eqPairS.f k l0 l1 = some r) :
  Calls Try.prog 27 #[.slice A0 l0.length c0, .slice A1 l1.length c1] w fun e w' => e = .returned (.bool r) ∧ Below w.heap.size w w' := by
 have hu73 := Try.underlying73
 have HR0 := Aside0.mk hr0
 have HC0 := Aside0.mk hc0
 clear hr0 hc0
 have HR1 := Aside0.mk hr1
 have HC1 := Aside0.mk hc1
 clear hr1 hc1
 have HB := Aside0.mk (Below.refl w.heap.size w)
 have H : (if (l0.length : Int) = (l1.length : Int) then (laws_eqPairS.l0 k l0 l1 0) else (some false)) = some r := h
 clear h
 by_cases c3 : (l0.length : Int) = (l1.length : Int)
 ·rw [if_pos c3] at H
  have c3b0 : ((l0.length : Int) == (l1.length : Int)) = true := beq_iff_eq.mpr c3
  have c3b1 : ((l0.length : Int) != (l1.length : Int)) = false := bne_eq_false_iff_eq.mpr c3
  have c3b2 : (l0.length == l1.length) = true := by first | simpa using c3 | (simp at c3 ⊢; omega)
  clear c3
  have H' := Aside0.mk H
  clear H
  go_enter Try.func27, Try.ntmps27
  go_wp2
  go_loopg [5] k (fun kq v5 w' => ∃ (x5_1 : Int), v5 = .int .i64 x5_1 ∧ Aside0 (laws_eqPairS.l0 kq l0 l1 x5_1 = some r) ∧ Aside0 (kq ≤ k) ∧ Aside0 (Below w.heap.size w w'))
  case atStart => exact ⟨(0), (by first | rfl | (simp; done) | (simp [*]; done)), H', ⟨Nat.le_refl _⟩, ⟨pH HB⟩⟩
  case round =>
   clear H'
   try clear c1
   try clear c2
   try clear p2
   try clear c3
   try clear c3b0
   try clear c3b1
   try clear c3b2
   obtain ⟨x5_1, rfl, HA, HK1, HB⟩ := hrel
   cases gk with
   | zero => exact absurd HA.out (by simp [laws_eqPairS.l0])
   | succ k1 =>
    have H := HA.out
    clear HA
    simp only [laws_eqPairS.l0] at H
    by_cases c4 : x5_1 < (l0.length : Int)
    ·rw [if_pos c4] at H
     have c4b0 : decide (x5_1 < (l0.length : Int)) = true := decide_eq_true c4
     clear c4
     by_cases c5 : 0 ≤ x5_1
     ·rw [if_pos c5] at H
      have c5b0 : decide (0 ≤ x5_1) = true := decide_eq_true c5
      clear c5
      by_cases c6 : x5_1 < (l1.length : Int)
      ·rw [if_pos c6] at H
       have c6b0 : decide (x5_1 < (l1.length : Int)) = true := decide_eq_true c6
       clear c6
       replace H := Option.bind_eq_some_iff.mp H
       obtain ⟨t133, A70, H⟩ := H
       try dsimp only at H
       have A7 := Aside0.mk A70
       clear A70
       by_cases c8 : t133 = true
       ·subst c8
        have H1 : (laws_eqPairS.l0 k1 l0 l1 (wrap64 (x5_1 + 1))) = some r := by rw [if_pos rfl] at H; exact H
        clear H
        have H := H1
        clear H1
        have H' := Aside0.mk H
        clear H
        try go_wp2
        replace HB := dH HB
        have p131 : 0 ≤ (x5_1 : Int) := of_decide_eq_true (by first | (with_reducible assumption) | assumption)
        have q131 : x5_1 < (l0.length : Int) := of_decide_eq_true (by first | (with_reducible assumption) | assumption)
        obtain ⟨ad131, e131, hx131_0, hx131_1⟩ := at_T73 HR0.out x5_1 p131 q131
        have hw131_1 := hx131_1
        have hw131_0 := hx131_0
        cases e131
        replace hx131_0 := cH HB hx131_0
        replace hx131_1 := cH HB hx131_1
        replace p131 := eq_true p131
        replace q131 := eq_true q131
        have p132 : 0 ≤ (x5_1 : Int) := of_decide_eq_true (by first | (with_reducible assumption) | assumption)
        have q132 : x5_1 < (l1.length : Int) := of_decide_eq_true (by first | (with_reducible assumption) | assumption)
        obtain ⟨ad132, e132, hx132_0, hx132_1⟩ := at_T73 HR1.out x5_1 p132 q132
        have hw132_1 := hx132_1
        have hw132_0 := hx132_0
        cases e132
        replace hx132_0 := cH HB hx132_0
        replace hx132_1 := cH HB hx132_1
        replace p132 := eq_true p132
        replace q132 := eq_true q132
        refine st_ 10 (S := fun w' => w'.cell? (ad131.add ((x5_1).toNat * 2)) = some (.int .i64 ((rd_T73 l0 x5_1).f0)) ∧ w'.cell? ⟨(ad131.add ((x5_1).toNat * 2)).block, (ad131.add ((x5_1).toNat * 2)).off + 1, none⟩ = some (.int .i64 ((rd_T73 l0 x5_1).f1)) ∧ w'.cell? (ad132.add ((x5_1).toNat * 2)) = some (.int .i64 ((rd_T73 l1 x5_1).f0)) ∧ w'.cell? ⟨(ad132.add ((x5_1).toNat * 2)).block, (ad132.add ((x5_1).toNat * 2)).off + 1, none⟩ = some (.int .i64 ((rd_T73 l1 x5_1).f1))) (ds := []) ⟨(cH HB hw131_0 :), (cH HB hw131_1 :), (cH HB hw132_0 :), (cH HB hw132_1 :)⟩ (fun hHeld => ?_); refine with_tabW laws_eqPairS.tab6 laws_eqPairS.bits6 (fun HT_ HW_ => ?_)
        generalize wr.drew = w9 at HB hx131_0 hx131_1 hx132_0 hx132_1 hHeld ⊢
        refine pu_ 0 17 1 HT_ ?_
        refine pu_ 1 18 3 HT_ ?_
        refine pu_ 2 19 7 HT_ ?_
        refine pu_ 4 21 23 HT_ ?_
        refine pu_ 5 22 55 HT_ ?_
        refine pu_ 6 23 119 HT_ ?_
        refine tk_ 3 20 127 HT_ HW_ hHeld ?_
        refine tk_ 7 24 255 HT_ HW_ hHeld ?_
        refine on_ 8 (some 25) 511 HT_ (fun K hK => ?_)
        refine ca_ Try.func69 #[.agg #[.int .i64 ((rd_T73 l0 x5_1).f0), .int .i64 ((rd_T73 l0 x5_1).f1)], .agg #[.int .i64 ((rd_T73 l1 x5_1).f0), .int .i64 ((rd_T73 l1 x5_1).f1)]] ?_
        with_reducible refine (laws_eqPair.calls ((rd_T73 l0 x5_1).f0) ((rd_T73 l0 x5_1).f1) ((rd_T73 l1 x5_1).f0) ((rd_T73 l1 x5_1).f1) true _ A7.out).mono ?_
        rintro e w10 ⟨rfl, hb⟩
        refine ⟨_, rfl, ?_⟩
        replace HB := sH HB hb
        (try clear hb)
        (try clear hb2)
        (try clear hk)
        (try clear hi)
        refine hK.out _ _ ⟨(cH HB hw131_0 :), (cH HB hw131_1 :), (cH HB hw132_0 :), (cH HB hw132_1 :)⟩ (fun hHeld => ?_)
        clear hK K
        refine nm_ ?_
        refine pu_ 9 26 1023 HT_ ?_
        refine dn_ HT_ ?_
        try go_wp2
        go_roundg k1
        case measure => have := HK1.out; omega
        case rel => exact ⟨(wrap64 (x5_1 + 1)), (by first | rfl | (simp; done) | (simp [*]; done)), H', ⟨by have := HK1.out; omega⟩, ⟨pH HB⟩⟩
       ·replace c8 := Bool.eq_false_iff.mpr c8
        subst c8
        have H1 : (some false) = some r := by rw [if_neg (show ¬ (false = true) by decide)] at H; exact H
        clear H
        have H := H1
        clear H1
        obtain rfl := Option.some.inj H
        try go_wp2
        replace HB := dH HB
        have p131 : 0 ≤ (x5_1 : Int) := of_decide_eq_true (by first | (with_reducible assumption) | assumption)
        have q131 : x5_1 < (l0.length : Int) := of_decide_eq_true (by first | (with_reducible assumption) | assumption)
        obtain ⟨ad131, e131, hx131_0, hx131_1⟩ := at_T73 HR0.out x5_1 p131 q131
        have hw131_1 := hx131_1
        have hw131_0 := hx131_0
        cases e131
        replace hx131_0 := cH HB hx131_0
        replace hx131_1 := cH HB hx131_1
        replace p131 := eq_true p131
        replace q131 := eq_true q131
        have p132 : 0 ≤ (x5_1 : Int) := of_decide_eq_true (by first | (with_reducible assumption) | assumption)
        have q132 : x5_1 < (l1.length : Int) := of_decide_eq_true (by first | (with_reducible assumption) | assumption)
        obtain ⟨ad132, e132, hx132_0, hx132_1⟩ := at_T73 HR1.out x5_1 p132 q132
        have hw132_1 := hx132_1
        have hw132_0 := hx132_0
        cases e132
        replace hx132_0 := cH HB hx132_0
        replace hx132_1 := cH HB hx132_1
        replace p132 := eq_true p132
        replace q132 := eq_true q132
        refine st_ 10 (S := fun w' => w'.cell? (ad131.add ((x5_1).toNat * 2)) = some (.int .i64 ((rd_T73 l0 x5_1).f0)) ∧ w'.cell? ⟨(ad131.add ((x5_1).toNat * 2)).block, (ad131.add ((x5_1).toNat * 2)).off + 1, none⟩ = some (.int .i64 ((rd_T73 l0 x5_1).f1)) ∧ w'.cell? (ad132.add ((x5_1).toNat * 2)) = some (.int .i64 ((rd_T73 l1 x5_1).f0)) ∧ w'.cell? ⟨(ad132.add ((x5_1).toNat * 2)).block, (ad132.add ((x5_1).toNat * 2)).off + 1, none⟩ = some (.int .i64 ((rd_T73 l1 x5_1).f1))) (ds := []) ⟨(cH HB hw131_0 :), (cH HB hw131_1 :), (cH HB hw132_0 :), (cH HB hw132_1 :)⟩ (fun hHeld => ?_); refine with_tabW laws_eqPairS.tab6 laws_eqPairS.bits6 (fun HT_ HW_ => ?_)
        generalize wr.drew = w11 at HB hx131_0 hx131_1 hx132_0 hx132_1 hHeld ⊢
        refine pu_ 0 17 1 HT_ ?_
        refine pu_ 1 18 3 HT_ ?_
        refine pu_ 2 19 7 HT_ ?_
        refine pu_ 4 21 23 HT_ ?_
        refine pu_ 5 22 55 HT_ ?_
        refine pu_ 6 23 119 HT_ ?_
        refine tk_ 3 20 127 HT_ HW_ hHeld ?_
        refine tk_ 7 24 255 HT_ HW_ hHeld ?_
        refine on_ 8 (some 25) 511 HT_ (fun K hK => ?_)
        refine ca_ Try.func69 #[.agg #[.int .i64 ((rd_T73 l0 x5_1).f0), .int .i64 ((rd_T73 l0 x5_1).f1)], .agg #[.int .i64 ((rd_T73 l1 x5_1).f0), .int .i64 ((rd_T73 l1 x5_1).f1)]] ?_
        with_reducible refine (laws_eqPair.calls ((rd_T73 l0 x5_1).f0) ((rd_T73 l0 x5_1).f1) ((rd_T73 l1 x5_1).f0) ((rd_T73 l1 x5_1).f1) false _ A7.out).mono ?_
        rintro e w12 ⟨rfl, hb⟩
        refine ⟨_, rfl, ?_⟩
        replace HB := sH HB hb
        (try clear hb)
        (try clear hb2)
        (try clear hk)
        (try clear hi)
        refine hK.out _ _ ⟨(cH HB hw131_0 :), (cH HB hw131_1 :), (cH HB hw132_0 :), (cH HB hw132_1 :)⟩ (fun hHeld => ?_)
        clear hK K
        refine nm_ ?_
        refine pu_ 9 26 1023 HT_ ?_
        refine dn_ HT_ ?_
        try go_wp2
        go_ret
        exact ⟨by first | rfl | (simp [errW_none, errW_some] <;> rfl) | (simp [*, errW_none, errW_some] <;> rfl) | (exfalso; simp_all), pH HB⟩
      ·rw [if_neg c6] at H
       exact absurd H (by simp)
     ·rw [if_neg c5] at H
      exact absurd H (by simp)
    ·rw [if_neg c4] at H
     have c4b0 : decide (x5_1 < (l0.length : Int)) = false := decide_eq_false c4
     clear c4
     obtain rfl := Option.some.inj H
     go_wp2
     go_ret
     exact ⟨by first | rfl | (simp [errW_none, errW_some] <;> rfl) | (simp [*, errW_none, errW_some] <;> rfl) | (exfalso; simp_all), pH HB⟩
 ·rw [if_neg c3] at H
  have c3b0 : ((l0.length : Int) == (l1.length : Int)) = false := beq_eq_false_iff_ne.mpr c3
  have c3b1 : ((l0.length : Int) != (l1.length : Int)) = true := bne_iff_ne.mpr c3
  have c3b2 : (l0.length == l1.length) = false := by first | simpa using c3 | (simp at c3 ⊢; omega)
  obtain rfl := Option.some.inj H
  go_enter Try.func27, Try.ntmps27
  go_wp2
  go_ret
  exact ⟨by first | rfl | (simp [errW_none, errW_some] <;> rfl) | (simp [*, errW_none, errW_some] <;> rfl) | (exfalso; simp_all), pH HB⟩
end Go.Proofs.Ytomdfjohnmikdaa.QS
namespace Go.Proofs.Ytomdfjohnmikdaa.Pu
open Go.RowKit Kp Ext QS YtomdfjohnmikdaaW.PrintWords YtomdfjohnmikdaaW.PrintLast YtomdfjohnmikdaaW.PrintMore
theorem eqPair_loop (l : List Pr) (hl : l.length ≤ 1048576) : ∀ d (i : Nat), l.length - i = d → i ≤ l.length → Ev (fun k => laws_eqPairS.l0 k l l i) true := by
  intro d
  induction d with
  | zero =>
    intro i hd hi
    refine Ev.step (f := fun k => some true) (fun k => ?_) (Ev.now _)
    simp only [laws_eqPairS.l0]; rw [if_neg (by omega)]
  | succ d ih =>
    intro i hd hi
    refine Ev.step (fun k => ?_) (ih (i + 1) (by omega) (by omega))
    simp only [laws_eqPairS.l0]
    rw [if_pos (by omega), if_pos (by omega), if_pos (by omega), show wrap64 ((i : Int) + 1) = ((i + 1 : Nat) : Int) by rw [w64 (by omega) (by omega)]; omega]
    simp [laws_eqPair.f]
theorem ev_eqPairs {l : List Pr} (hl : l.length ≤ 1048576) : Ev (fun k => laws_eqPairS.f k l l) true := by
  unfold laws_eqPairS.f
  simp only [if_true]
  exact eqPair_loop l hl _ 0 rfl (Nat.zero_le _)
theorem ev_markPairs {l : List Pr} {a : Int} (hl : l.length ≤ 1048576) (ha : 0 ≤ a ∧ a ≤ 1073741824) : Ev (fun _ => laws_markPairS.f l a) (a + 2 * (l.length : Int), markL l.length a) := by
  unfold laws_markPairS.f
  rw [if_pos ⟨ha.1, ha.2, by omega⟩]
  exact Ev.now _
end Go.Proofs.Ytomdfjohnmikdaa.Pu
namespace Go.Proofs.Ytomdfjohnmikdaa.QS
open Cw Kp Ext Go.RowKit YtomdfjohnmikdaaW.PrintWords YtomdfjohnmikdaaW.PrintLast YtomdfjohnmikdaaW.PrintMore
attribute [local go_sem] max2_int min2_int max_two min_two max_three min_three max_four min_four   -- for this text's walks alone
def laws_toPairS.l0 : Nat → List (S72) → List (S73) → Int → Option ((List (S73)))
 | 0, _, _, _ => none
 | k + 1, x0, x3, x4 => if x4 < (x0.length : Int) then (if 0 ≤ x4 then ((laws_toPair.f ((rd_T72 x0 x4).f0) ((rd_T72 x0 x4).f1)).bind fun bt128 => (if x4 < (x3.length : Int) then (laws_toPairS.l0 k x0 (x3.set (x4 : Int).toNat (⟨bt128.1, bt128.2⟩ : S73)) (wrap64 (x4 + 1))) else (none))) else (none)) else (some x3)
def laws_toPairS.f (k : Nat) (l0 : List (S72)) : Option ((List (S73))) := if 0 ≤ (l0.length : Int) then (if ((l0.length : Int) : Int).toNat ≤ 17592186044416 then (laws_toPairS.l0 k l0 (List.replicate ((l0.length : Int) : Int).toNat z73) 0) else (none)) else (none)
set_option maxHeartbeats 8000000 in
set_option maxRecDepth 100000 in
theorem laws_toPairS.calls (k : Nat) (A0 : Option Addr) (c0 : Nat) (l0 : List (S72)) (r : List (S73)) (w : World) (hr0 : Kd.C k72 w A0 l0.length l0) (hc0 : l0.length ≤ c0) (h : laws_toPairS.f k l0 = some r) :
  Calls Try.prog 25 #[.slice A0 l0.length c0] w fun e w' => ∃ v0_ : Value, e = .returned (v0_) ∧ Kd.R k73 73 w' w.heap.size (fun _ => True) v0_ r ∧ Below w.heap.size w w' := by
 have hu72 := Try.underlying72
 have hu73 := Try.underlying73
 have HR0 := Aside0.mk hr0
 have HC0 := Aside0.mk hc0
 clear hr0 hc0
 have HB := Aside0.mk (Below.refl w.heap.size w)
 have H : (if 0 ≤ (l0.length : Int) then (if ((l0.length : Int) : Int).toNat ≤ 17592186044416 then (laws_toPairS.l0 k l0 (List.replicate ((l0.length : Int) : Int).toNat z73) 0) else (none)) else (none)) = some r := h
 clear h
 by_cases c2 : 0 ≤ (l0.length : Int)
 ·rw [if_pos c2] at H
  have c2b0 := eq_true c2
  have c2b1 : decide (0 ≤ (l0.length : Int)) = true := decide_eq_true c2
  clear c2
  by_cases c3 : ((l0.length : Int) : Int).toNat ≤ 17592186044416
  ·rw [if_pos c3] at H
   have c3b0 := eq_true c3
   have c3b1 : decide (((l0.length : Int) : Int).toNat ≤ 17592186044416) = true := decide_eq_true c3
   clear c3
   obtain ⟨y124, hy124⟩ : ∃ y_ : List (S73), y_ = (List.replicate ((l0.length : Int) : Int).toNat z73) := ⟨_, rfl⟩
   replace H : (laws_toPairS.l0 k l0 y124 0) = some r := by first | (rw [hy124]; with_reducible exact H) | (have H2_ := (Option.bind_some _ _).symm.trans H; rw [hy124]; with_reducible exact H2_) | (have H2_ := (Option.bind_some _ _).symm.trans H; with_reducible exact H2_) | with_reducible exact H | (rw [hy124]; exact H) | exact H
   have Ny124 := Aside0.mk hy124
   clear hy124
   have H' := Aside0.mk H
   clear H
   go_enter Try.func25, Try.ntmps25
   go_wp2_with (first | ((with_reducible refine gate_dst (N := 7) rfl ?_); refine Kd.R_make k73 _ 73 rfl (N := 7) rfl 38 _ _ rfl (l0.length : Int) rfl rfl Try.underlying38 (.agg #[(.int .i64 0), (.int .i64 0)]) 16 info73 rfl (by decide) (by omega) z73 (ok := fun _ => True) (okp := fun _ => True) (k73_mkM _ _ _ z73 ) (fun _ hk => hk) trivial (of_decide_eq_true (by first | (with_reducible assumption) | assumption)) (Nat.le_trans (Nat.mul_le_mul_right _ (of_decide_eq_true (by first | (with_reducible assumption) | assumption) : (l0.length : Int).toNat ≤ 17592186044416)) (by omega)) (Below.refl _ _) (Nat.le_refl _) ?_; intro v125 w4 ho5 hb hg_ hnew_; clear hg_ hnew_; (first | rw [← Ny124.out] at ho5 | (simp only [Int.reduceToNat] at ho5; rw [← Ny124.out] at ho5)); have HO126 := Aside0.mk (Kd.R_lower ho5 (below_size (pH HB))); replace HB := sH HB hb; clear hb ho5))
   go_loopg [4] k (fun kq v4 w' => ∃ (x3_1 : List (S73)) (x4_1 : Int), v4 = .int .i64 x4_1 ∧ Aside0 (laws_toPairS.l0 kq l0 x3_1 x4_1 = some r) ∧ Aside0 (kq ≤ k) ∧ Aside0 (Kd.R k73 73 w' w.heap.size (fun _ => True) v125 x3_1) ∧ Aside0 (Below w.heap.size w w'))
   case atStart => exact ⟨(y124), (0), (by first | rfl | (simp; done) | (simp [*]; done)), H', ⟨Nat.le_refl _⟩, ⟨by (with_reducible repeat (first | apply Kd.R_alloc | apply Kd.R_drewN | apply Kd.R_drew)); exact HO126.out⟩, ⟨pH HB⟩⟩
   case round =>
    clear H'
    try clear c2
    try clear c2b0
    try clear c2b1
    try clear p2
    try clear c3
    try clear c3b0
    try clear c3b1
    obtain ⟨x3_1, x4_1, rfl, HA, HK1, HO_3, HB⟩ := hrel
    cases gk with
    | zero => exact absurd HA.out (by simp [laws_toPairS.l0])
    | succ k1 =>
     have H := HA.out
     clear HA
     simp only [laws_toPairS.l0] at H
     by_cases c6 : x4_1 < (l0.length : Int)
     ·rw [if_pos c6] at H
      have c6b0 : decide (x4_1 < (l0.length : Int)) = true := decide_eq_true c6
      clear c6
      by_cases c7 : 0 ≤ x4_1
      ·rw [if_pos c7] at H
       have c7b0 : decide (0 ≤ x4_1) = true := decide_eq_true c7
       clear c7
       replace H := Option.bind_eq_some_iff.mp H
       obtain ⟨⟨t128, t129⟩, A80, H⟩ := H
       try dsimp only at H
       have A8 := Aside0.mk A80
       clear A80
       by_cases c9 : x4_1 < (x3_1.length : Int)
       ·rw [if_pos c9] at H
        have c9b0 : decide (x4_1 < (x3_1.length : Int)) = true := decide_eq_true c9
        clear c9
        obtain ⟨y130, hy130⟩ : ∃ y_ : List (S73), y_ = (x3_1.set (x4_1 : Int).toNat (⟨t128, t129⟩ : S73)) := ⟨_, rfl⟩
        replace H : (laws_toPairS.l0 k1 l0 y130 (wrap64 (x4_1 + 1))) = some r := by first | (rw [hy130]; with_reducible exact H) | (have H2_ := (Option.bind_some _ _).symm.trans H; rw [hy130]; with_reducible exact H2_) | (have H2_ := (Option.bind_some _ _).symm.trans H; with_reducible exact H2_) | with_reducible exact H | (rw [hy130]; exact H) | exact H
        have Ny130 := Aside0.mk hy130
        clear hy130
        have H' := Aside0.mk H
        clear H
        have p127 : 0 ≤ (x4_1 : Int) := of_decide_eq_true (by first | (with_reducible assumption) | assumption)
        have q127 : x4_1 < (l0.length : Int) := of_decide_eq_true (by first | (with_reducible assumption) | assumption)
        obtain ⟨ad127, e127, hx127_0, hx127_1⟩ := at_T72 HR0.out x4_1 p127 q127
        cases e127
        replace hx127_0 := cH HB hx127_0
        replace hx127_1 := cH HB hx127_1
        replace p127 := eq_true p127
        replace q127 := eq_true q127
        go_wp2_with (first | ((with_reducible refine gate_callee (f := 64) rfl ?_); refine cl_ (some 20) Try.func64 #[.agg #[.int .i64 ((rd_T72 l0 x4_1).f0), .int .i64 ((rd_T72 l0 x4_1).f1)]] ?_; (with_reducible refine (laws_toPair.calls ((rd_T72 l0 x4_1).f0) ((rd_T72 l0 x4_1).f1) t128 t129 _ A8.out).mono ?_); rintro e w11 ⟨rfl, hb⟩; refine ⟨_, rfl, ?_⟩; replace HO_3 := sR HO_3 hb; replace HB := sH HB hb; (try clear hb); (try clear hi); have p10 : 0 ≤ (x4_1 : Int) := of_decide_eq_true (by first | (with_reducible assumption) | assumption); have q10 : (x4_1 : Int) < ((x3_1.length : Int) : Int) := of_decide_eq_true (by first | (with_reducible assumption) | assumption); obtain ⟨go10, co10, eo10, gb10, gl10, cl10, HG10⟩ := Kd.R_form HO_3.out (by omega); (first | cases eo10 | (injection eo10 with ea_ en_ ec_; (first | subst ea_ | (injection ea_ with ea_; subst ea_)); subst ec_; clear en_)); have GB10 := Aside0.mk gb10; have GG10 := Aside0.mk HG10; clear gb10 gl10 HG10; obtain ⟨ce10, hcl10, hM10, hcc10, hfr10⟩ := Kd.R_elem HO_3.out z73 (x4_1 : Int) p10 q10; obtain rfl := k73_openM hM10; have hx10_0 : w11.cell? ⟨go10, (x4_1 : Int).toNat * 2, none⟩ = some (.int .i64 ((rd_T73 x3_1 x4_1).f0)) := hcc10 0 _ rfl; have hx10_1 : w11.cell? ⟨go10, (x4_1 : Int).toNat * 2 + 1, none⟩ = some (.int .i64 ((rd_T73 x3_1 x4_1).f1)) := hcc10 1 _ rfl; have hf10_0 : w11.frozen? ⟨go10, (x4_1 : Int).toNat * 2, none⟩ = false := hfr10 0; have hf10_1 : w11.frozen? ⟨go10, (x4_1 : Int).toNat * 2 + 1, none⟩ = false := hfr10 1; clear hcl10 hcc10 hfr10 hM10; replace p10 := eq_true p10; replace q10 := eq_true q10; have HX12 := Aside0.mk (show Kd.R k73 73 w11 w.heap.size (fun _ => True) (.slice (some ⟨go10, 0, none⟩) x3_1.length co10) x3_1 from (pR HO_3)); obtain ⟨ce12, hcl12, hM12, hcc12, hfr12⟩ := Kd.R_elem HX12.out z73 (x4_1 : Int) (of_decide_eq_true (by first | (with_reducible assumption) | assumption)) (by have h_ : (x4_1 : Int) < ((x3_1.length : Int) : Int) := of_decide_eq_true (by first | (with_reducible assumption) | assumption); first | exact h_ | (have e_ := (Kd.R_reads' HO_3.out).1; omega) | simpa using h_); obtain rfl := k73_openM hM12; have HP12 := Kd.R_seg HX12.out (x4_1 : Int) (of_decide_eq_true (by first | (with_reducible assumption) | assumption)) (by have h_ : (x4_1 : Int) < ((x3_1.length : Int) : Int) := of_decide_eq_true (by first | (with_reducible assumption) | assumption); first | exact h_ | (have e_ := (Kd.R_reads' HO_3.out).1; omega) | simpa using h_) (seg := [.int .i64 t128, .int .i64 t129]) (j := 0) hcl12 hcc12 (show 2 ≤ 2 from by decide) (x' := (⟨t128, t129⟩ : S73)) (k73_mkM _ _ _ (⟨t128, t129⟩ : S73) ) (fun _ hk => hk); have hx12_0 := hcc12 0 _ rfl; (try simp only [show (k73).sz = 2 from rfl, Nat.mul_one, Nat.add_zero] at hx12_0); have hf12_0 := hfr12 0; (try simp only [show (k73).sz = 2 from rfl, Nat.mul_one, Nat.add_zero] at hf12_0); have hx12_1 := hcc12 1 _ rfl; (try simp only [show (k73).sz = 2 from rfl, Nat.mul_one, Nat.add_zero] at hx12_1); have hf12_1 := hfr12 1; (try simp only [show (k73).sz = 2 from rfl, Nat.mul_one, Nat.add_zero] at hf12_1); clear hcl12 hcc12 hfr12 hM12) | ((with_reducible refine gate_store (t := 73) (p := 21) rfl ?_); refine store_event (t := 73) (p := 21) (v := ?vo_w13) (w1 := ((w11.setCell ⟨go10, (x4_1 : Int).toNat * 2, none⟩ (.int .i64 t128)).setCell ⟨go10, (x4_1 : Int).toNat * 2 + 1, none⟩ (.int .i64 t129))) ?hg ?ho ?hn ?hr ?_; (case ho => rfl); (case hg => rfl); (case hn => rfl); (case hr => first | (go_simp; done) | (go_simp; rfl)); intro w13 hw; have hg : w11.grownBy w13 (some go10) := (by rw [hw]; exact HP12.2); have hp_ : Kd.R k73 73 w13 w.heap.size (fun _ => True) (.slice (some ⟨go10, 0, none⟩) x3_1.length co10) y130 := (by rw [hw, Ny130.out]; exact HP12.1); clear HP12; have n0_ := Aside0.mk (hp_); have n1_ := Aside0.mk ((by rw [hw]; exact below_set (below_set (HB.out) GB10.out) GB10.out : Below w.heap.size w w13)); clear HO_3; clear HB; have HO_3 := n0_; have HB := n1_; clear n0_ n1_; clear hg hw hp_))
        go_roundg k1
        case measure => have := HK1.out; omega
        case rel => exact ⟨(y130), (wrap64 (x4_1 + 1)), (by first | rfl | (simp; done) | (simp [*]; done)), H', ⟨by have := HK1.out; omega⟩, ⟨by (with_reducible repeat (first | apply Kd.R_alloc | apply Kd.R_drewN | apply Kd.R_drew)); exact HO_3.out⟩, ⟨pH HB⟩⟩
       ·rw [if_neg c9] at H
        exact absurd H (by simp)
      ·rw [if_neg c7] at H
       exact absurd H (by simp)
     ·rw [if_neg c6] at H
      have c6b0 : decide (x4_1 < (l0.length : Int)) = false := decide_eq_false c6
      clear c6
      obtain rfl := Option.some.inj H
      go_wp2
      go_ret
      exact ⟨_, by first | rfl | (simp [errW_none, errW_some] <;> rfl) | (simp [*, errW_none, errW_some] <;> rfl) | (exfalso; simp_all), by (with_reducible repeat (first | apply Kd.R_alloc | apply Kd.R_drewN | apply Kd.R_drew)); exact HO_3.out, pH HB⟩
  ·rw [if_neg c3] at H
   exact absurd H (by simp)
 ·rw [if_neg c2] at H
  exact absurd H (by simp)
def laws_szPairS.f (l0 : List (S72)) (a1 : Int) : Option (Int) := if (wrap64 (a1 - (l0.length : Int))) < 0 then (some (-1)) else (some (wrap64 (a1 - (l0.length : Int))))
set_option maxHeartbeats 8000000 in
set_option maxRecDepth 100000 in
theorem laws_szPairS.calls (A0 : Option Addr) (c0 : Nat) (l0 : List (S72)) (a1 : Int) (r : Int) (w : World) (hr0 : Kd.C k72 w A0 l0.length l0) (hc0 : l0.length ≤ c0) (h : laws_szPairS.f l0 a1 = some r) :
  Calls Try.prog 23 #[.slice A0 l0.length c0, .int .i64 a1] w fun e w' => e = .returned (.int .i64 r) ∧ Drawn0 w w' := by
 have HR0 := Aside0.mk hr0
 have HC0 := Aside0.mk hc0
 clear hr0 hc0
 have H : (if (wrap64 (a1 - (l0.length : Int))) < 0 then (some (-1)) else (some (wrap64 (a1 - (l0.length : Int))))) = some r := h
 clear h
 by_cases c3 : (wrap64 (a1 - (l0.length : Int))) < 0
 ·rw [if_pos c3] at H
  have c3b0 : decide ((wrap64 (a1 - (l0.length : Int))) < 0) = true := decide_eq_true c3
  clear c3
  obtain rfl := Option.some.inj H
  go_enter Try.func23, Try.ntmps23
  go_wp2
  go_ret
  exact ⟨by first | rfl | (simp; done) | (simp [*]; done), by repeat (first | exact Drawn0.refl _ | apply Drawn0.step)⟩
 ·rw [if_neg c3] at H
  have c3b0 : decide ((wrap64 (a1 - (l0.length : Int))) < 0) = false := decide_eq_false c3
  clear c3
  obtain rfl := Option.some.inj H
  go_enter Try.func23, Try.ntmps23
  go_wp2
  go_ret
  exact ⟨by first | rfl | (simp; done) | (simp [*]; done), by repeat (first | exact Drawn0.refl _ | apply Drawn0.step)⟩
end Go.Proofs.Ytomdfjohnmikdaa.QS
namespace Go.Proofs.Ytomdfjohnmikdaa.Pu
open Go.RowKit Kp Ext QS YtomdfjohnmikdaaW.PrintWords YtomdfjohnmikdaaW.PrintLast YtomdfjohnmikdaaW.PrintMore
def toPr (q : S72) : Pr := ⟨q.f0, q.f1⟩
theorem sz_prs {l : List S72} (hm : l.length ≤ maxLen) {b : Int} (h0 : 0 ≤ b) (h1 : b ≤ 1048576) : laws_szPairS.f l b = some (if b < (l.length : Int) then -1 else b - l.length) := by
  unfold laws_szPairS.f
  simp only [maxLen] at hm
  rw [w64 (by omega) (by omega)]
  by_cases h : b < (l.length : Int)
  · rw [if_pos (by omega), if_pos h]
  · rw [if_neg (by omega), if_neg h]
theorem rdA_at {l : List S72} {i : Nat} (h : i < l.length) : rd_T72 l (i : Int) = l[i] := by unfold rd_T72; rw [List.getD_eq_getElem?_getD, Int.toNat_natCast, List.getElem?_eq_getElem h]; rfl
theorem toPair_loop (l : List S72) (hl : l.length ≤ 1048576) : ∀ d (i : Nat) (x3 : List Pr), l.length - i = d → i ≤ l.length → x3.length = l.length → (∀ j, j < i → x3[j]? = (l[j]?).map toPr) → Ev (fun k => laws_toPairS.l0 k l x3 i) (l.map toPr) := by
  intro d
  induction d with
  | zero =>
    intro i x3 hd hi hx hj
    have he : x3 = l.map toPr := by
      apply List.ext_getElem?
      intro j
      rw [List.getElem?_map]
      rcases Nat.lt_or_ge j i with h | h
      · exact hj j h
      · rw [List.getElem?_eq_none (by omega), List.getElem?_eq_none (by omega)]; rfl
    refine Ev.step (f := fun _ => some x3) (fun k => ?_) (by rw [he]; exact Ev.now _)
    simp only [laws_toPairS.l0]; rw [if_neg (by omega)]
  | succ d ih =>
    intro i x3 hd hi hx hj
    have hi' : i < l.length := by omega
    refine Ev.step (f := fun k => laws_toPairS.l0 k l (x3.set i (toPr l[i])) ((i + 1 : Nat) : Int)) (fun k => ?_) (ih (i + 1) (x3.set i (toPr l[i])) (by omega) (by omega) (by simpa using hx) (fun j hji => ?_))
    · simp only [laws_toPairS.l0]
      rw [if_pos (by omega), if_pos (by omega), rdA_at hi', show wrap64 ((i : Int) + 1) = ((i + 1 : Nat) : Int) by rw [w64 (by omega) (by omega)]; omega]
      simp only [laws_toPair.f, Option.bind_some]
      rw [if_pos (by omega), Int.toNat_natCast]
      rfl
    · rw [List.getElem?_set]
      by_cases h : i = j
      · subst h
        rw [if_pos rfl, if_pos (by omega), List.getElem?_eq_getElem hi']; rfl
      · rw [if_neg h]
        exact hj j (by omega)
theorem ev_toPairs {l : List S72} (hl : l.length ≤ 1048576) : Ev (fun k => laws_toPairS.f k l) (l.map toPr) := by
  unfold laws_toPairS.f
  simp only [show (0 : Int) ≤ (l.length : Int) by omega, if_true, show ((l.length : Int)).toNat ≤ 17592186044416 by omega]
  exact toPair_loop l hl _ 0 _ rfl (Nat.zero_le _) (by simp) (fun j hj => absurd hj (Nat.not_lt_zero _))
end Go.Proofs.Ytomdfjohnmikdaa.Pu
namespace Go.Proofs.Ytomdfjohnmikdaa.QFnExactMorseBoundary
open Go.RowKit Go.Shelf Kp Cw Ext Im Pu YtomdfjohnmikdaaW.PrintWords YtomdfjohnmikdaaW.PrintLast YtomdfjohnmikdaaW.PrintMore
theorem tot_bound : ∀ (M : List (List Int)), (∀ r ∈ M, r.length ≤ 63) → totL M ≤ 63 * (M.length : Int)
  | [], _ => by simp [totL]
  | r :: M, h => by
    rw [tot_cons, List.length_cons]
    have h1 := tot_bound M (fun x hx => h x (by simp [hx]))
    have h2 := h r (by simp)
    omega
theorem rowsB_bound (n : Int) (xs : List Int) (l : List Pr) (d : Int) (hl : l.length ≤ 1048576) : (rowsB n xs l d).length ≤ 63 ∧ ∀ r ∈ rowsB n xs l d, r.length ≤ 63 := by
  unfold rowsB
  split
  · rename_i h
    have hs := isC_small (wzV_both hl h).1
    have hc : (critL xs l).length ≤ xs.length := List.length_filter_le _ _
    have h1 := ofD_len (critL xs l) d
    have h2 := ofD_len (critL xs l) (d - 1)
    unfold rowsM
    refine ⟨by rw [List.length_map]; omega, fun r hr => ?_⟩
    obtain ⟨b, _, rfl⟩ := List.mem_map.1 hr
    unfold rowM
    rw [List.length_map]
    omega
  · exact ⟨by simp, fun r hr => by cases hr⟩
theorem base_world (w : World) {n : Nat} (h : n ≤ w.heap.size) : ∃ w0 : World, w0.heap.size = n ∧ Below n w0 w := by
  refine ⟨{ w with heap := w.heap.extract 0 n }, by simp; omega, ⟨rfl, rfl, rfl, by simp; omega, fun k hk => ?_⟩⟩
  show w.heap[k]? = (w.heap.extract 0 n)[k]?
  rw [Array.getElem?_extract]
  simp [hk]
  intro _
  omega
theorem below_via {w w0 w1 w2 : World} {m n : Nat} (h : Below m w w1) (h1 : Below n w0 w1) (h2 : Below n w0 w2) (hm : m ≤ n) (hn : w.heap.size ≤ n) (h0 : w0.heap.size = n) : Below m w w2 :=
  ⟨h2.os.trans (h1.os.symm.trans h.os), h2.tape.trans (h1.tape.symm.trans h.tape), h2.output.trans (h1.output.symm.trans h.output), by have := h2.size; omega, fun k hk => (h2.block k (by omega)).trans ((h1.block k (by omega)).symm.trans (h.block k hk))⟩
theorem mr_reads2 {w : World} {base m : Nat} {A : Option Addr} {c : Nat} {vs : List Value} {M : List (List Int)} (h : MR w base (.slice A m c) vs M) : Kd.C (Kd.slice 2 (Kd.int .i64)) w A M.length M ∧ M.length ≤ c := by
  obtain ⟨h1, h2, _⟩ := h.o.reads
  subst h1
  exact ⟨MR.reads h.o h.i, by rw [← h.i.1]; exact h2⟩
theorem mr_reads {w : World} {base : Nat} {A : Option Addr} {c : Nat} {vs : List Value} {M : List (List Int)} (h : MR w base (.slice A M.length c) vs M) : Kd.C (Kd.slice 2 (Kd.int .i64)) w A M.length M ∧ M.length ≤ c := by
  have hl := h.i.1
  have ho := h.o
  rw [← hl] at ho
  refine ⟨MR.reads ho h.i, ?_⟩
  rw [← hl]
  exact ho.reads.2.1
def laws_FnExactMorseBoundary.f (k : Nat) (a0_0 : Int) (l0_1 : List Int) (l1 : List S72) (a2 : Int) : Option Bool := if l0_1.length ≤ maxLen ∧ l1.length ≤ maxLen then some true else none
set_option maxRecDepth 100000 in
set_option maxHeartbeats 8000000 in
theorem way1 (n : Int) (A : Option Addr) (c : Nat) (xs : List Int) (A1 : Option Addr) (c1 : Nat) (l1 : List S72) (d : Int) (w : World) (hr : RC w A xs.length xs) (hc : xs.length ≤ c) (hm : xs.length ≤ maxLen) (h : 1048576 < xs.length) :
    Calls Try.prog 12 #[.agg #[.int .i64 n, .slice A xs.length c], .slice A1 l1.length c1, .int .i64 d] w fun e w' => e = .returned (.bool true) ∧ Below w.heap.size w w' := by
  have HB := Aside0.mk (below_alloc (Below.refl w.heap.size w) (.cells #[.int .i64 n, .slice A xs.length c] 24))
  have HR := Aside0.mk hr
  have HC := Aside0.mk hc
  have hs := sz_big (n := n) hm h
  have HS := Aside0.mk hs
  clear hr hc hm h hs
  go_enter Try.func12, Try.ntmps12
  go_wp2_with (go_at_call 13; refine (QS.laws_szComplex.calls n A c xs 1048576 (-1) _ (Kd.C_below HR.out HB.out) HC.out HS.out).mono ?_; rintro e w2 ⟨rfl, hb⟩; have HB2 := Aside0.mk (below_in HB.out hb); clear hb)
  go_ret
  exact ⟨rfl, HB2.out⟩
set_option maxRecDepth 100000 in
set_option maxHeartbeats 8000000 in
theorem way2 (n : Int) (A : Option Addr) (c : Nat) (xs : List Int) (A1 : Option Addr) (c1 : Nat) (l1 : List S72) (d : Int) (w : World) (hr : RC w A xs.length xs) (hc : xs.length ≤ c) (hr1 : Kd.C k72 w A1 l1.length l1) (hc1 : l1.length ≤ c1) (hm : l1.length ≤ maxLen) (hl : xs.length ≤ 1048576) (h : (1048576 : Int) - (xs.length : Int) < (l1.length : Int)) :
    Calls Try.prog 12 #[.agg #[.int .i64 n, .slice A xs.length c], .slice A1 l1.length c1, .int .i64 d] w fun e w' => e = .returned (.bool true) ∧ Below w.heap.size w w' := by
  have HB := Aside0.mk (below_alloc (Below.refl w.heap.size w) (.cells #[.int .i64 n, .slice A xs.length c] 24))
  have HR := Aside0.mk hr
  have HC := Aside0.mk hc
  have HR1 := Aside0.mk hr1
  have HC1 := Aside0.mk hc1
  have hml : xs.length ≤ maxLen := by simp only [maxLen]; omega
  have hs := sz_cx (n := n) hml (show (0 : Int) ≤ (1048576 : Int) by omega) (show (1048576 : Int) ≤ 1048576 by omega)
  rw [if_neg (by omega)] at hs
  have hs2 := sz_prs hm (show (0 : Int) ≤ (1048576 : Int) - (xs.length : Int) by omega) (show (1048576 : Int) - (xs.length : Int) ≤ 1048576 by omega)
  rw [if_pos h] at hs2
  have hz : ¬ ((1048576 : Int) - (xs.length : Int) < 0) := by omega
  obtain ⟨t, ht⟩ : ∃ t, (1048576 : Int) - (xs.length : Int) = t := ⟨_, rfl⟩
  rw [ht] at hs hs2 hz
  have HS := Aside0.mk hs
  have HS2 := Aside0.mk hs2
  clear hr hc hr1 hc1 hm hml h hs hs2 hl ht
  go_enter Try.func12, Try.ntmps12
  go_wp2_with (first
    | (go_at_call 13; refine (QS.laws_szComplex.calls n A c xs 1048576 t _ (Kd.C_below HR.out HB.out) HC.out HS.out).mono ?_; rintro e w2 ⟨rfl, hb⟩; have HB2 := Aside0.mk (below_in HB.out hb); clear hb HB)
    | (go_at_call 23; refine (QS.laws_szPairS.calls A1 c1 l1 t (-1) _ (Kd.C_below HR1.out HB2.out) HC1.out HS2.out).mono ?_; rintro e w3 ⟨rfl, hd⟩; have HB3 := Aside0.mk (below_in HB2.out (d0_below hd)); clear hd HB2))
  go_ret
  exact ⟨rfl, HB3.out⟩
set_option maxRecDepth 100000 in
set_option maxHeartbeats 16000000 in
theorem way3 (n : Int) (A : Option Addr) (c : Nat) (xs : List Int) (A1 : Option Addr) (c1 : Nat) (l1 : List S72) (d : Int) (w : World) (hr : RC w A xs.length xs) (hc : xs.length ≤ c) (hr1 : Kd.C k72 w A1 l1.length l1) (hc1 : l1.length ≤ c1) (hm : l1.length ≤ maxLen) (hl : xs.length ≤ 1048576) (h : ¬ (1048576 : Int) - (xs.length : Int) < (l1.length : Int)) :
    Calls Try.prog 12 #[.agg #[.int .i64 n, .slice A xs.length c], .slice A1 l1.length c1, .int .i64 d] w fun e w' => e = .returned (.bool true) ∧ Below w.heap.size w w' := by
  have hb0 := below_alloc (Below.refl w.heap.size w) (.cells #[.int .i64 n, .slice A xs.length c] 24)
  have HB := Aside0.mk hb0
  have HR := Aside0.mk hr
  have HC := Aside0.mk hc
  have HR1 := Aside0.mk hr1
  have HC1 := Aside0.mk hc1
  have hml : xs.length ≤ maxLen := by simp only [maxLen]; omega
  have hs := sz_cx (n := n) hml (show (0 : Int) ≤ (1048576 : Int) by omega) (show (1048576 : Int) ≤ 1048576 by omega)
  rw [if_neg (by omega)] at hs
  have hs2 := sz_prs hm (show (0 : Int) ≤ (1048576 : Int) - (xs.length : Int) by omega) (show (1048576 : Int) - (xs.length : Int) ≤ 1048576 by omega)
  rw [if_neg h] at hs2
  have hz : ¬ ((1048576 : Int) - (xs.length : Int) < 0) := by omega
  have hz2 : ¬ ((1048576 : Int) - (xs.length : Int) - (l1.length : Int) < 0) := by omega
  have hl1 : l1.length ≤ 1048576 := by omega
  obtain ⟨t, ht⟩ : ∃ t, (1048576 : Int) - (xs.length : Int) = t := ⟨_, rfl⟩
  rw [ht] at hs hs2 hz hz2
  obtain ⟨t2, ht2⟩ : ∃ t2, t - (l1.length : Int) = t2 := ⟨_, rfl⟩
  rw [ht2] at hs2 hz2
  have HS := Aside0.mk hs
  have HS2 := Aside0.mk hs2
  obtain ⟨q, hq⟩ : ∃ q, l1.map toPr = q := ⟨_, rfl⟩
  have hql : q.length ≤ 1048576 := by rw [← hq, List.length_map]; exact hl1
  obtain ⟨kp, hkp⟩ := (ev_toPairs hl1).rounds
  rw [hq] at hkp
  obtain ⟨kt, hkt⟩ := (ev_toComplex (n := n) hl).rounds
  obtain ⟨ks, hks⟩ := (ev_specMB n hl hql d).rounds
  have hbd := rowsB_bound n xs q d hql
  have him := fun A c A1 c1 W h1 h2 h3 h4 => morseB_c n d A c xs A1 c1 q W h1 h2 h3 h4 hl hql
  obtain ⟨rows, hrows⟩ : ∃ rows, rowsB n xs q d = rows := ⟨_, rfl⟩
  obtain ⟨z, hzc⟩ : ∃ z, mcode n xs q d = z := ⟨_, rfl⟩
  rw [hrows] at hks hbd him
  rw [hzc] at hks him
  have htb := tot_bound rows hbd.2
  have htn := tot_nonneg rows
  have hr20 : ∀ r ∈ rows, r.length ≤ 1048576 := fun r hr => Nat.le_trans (hbd.2 r hr) (by decide)
  obtain ⟨ke, hke⟩ := (ev_eqSS (M := rows) (by omega) hr20).rounds
  obtain ⟨kc, hkc⟩ := (ev_eqComplex (n := n) hl).rounds
  obtain ⟨kq, hkq⟩ := (ev_eqPairs hql).rounds
  obtain ⟨km, hkm⟩ := (ev_markComplex (n := n) hl (a := 1) (by omega)).rounds
  obtain ⟨_, hmp⟩ := (ev_markPairs hql (a := 1 + (xs.length : Int)) (by omega)).rounds
  obtain ⟨kh, hkh⟩ := (ev_heldSS (M := rows) (a := 1) (by omega) hr20 (by omega) (by omega)).rounds
  obtain ⟨m1, hm1⟩ : ∃ m1, 1 + (xs.length : Int) = m1 := ⟨_, rfl⟩
  rw [hm1] at hkm hmp
  have hm2 : ¬ (m1 + 2 * (q.length : Int) < 0) := by omega
  obtain ⟨m2, hm2'⟩ : ∃ m2, m1 + 2 * (q.length : Int) = m2 := ⟨_, rfl⟩
  rw [hm2'] at hmp hm2
  have HIM := Lib.hid him
  have HMK := Lib.hid (fun (w0 W : World) v vs h1 h2 => markSS_c w0 W v vs rows 1 h1 h2 (by omega) hr20 (by omega) (by omega))
  have hm3 : ¬ (1 + totL rows < 0) := by omega
  obtain ⟨m3, hm3'⟩ : ∃ m3, 1 + totL rows = m3 := ⟨_, rfl⟩
  rw [hm3'] at hkh hm3 HMK
  have HKP := Aside0.mk hkp
  have HKT := Aside0.mk hkt
  have HKS := Aside0.mk hks
  have HKE := Aside0.mk hke
  have HKC := Aside0.mk hkc
  have HKQ := Aside0.mk hkq
  have HKM := Aside0.mk hkm
  have HMP := Aside0.mk hmp
  have HKH := Aside0.mk hkh
  have x0 : (w.alloc (.cells #[.int .i64 n, .slice A xs.length c] 24)).cell? ⟨w.heap.size, 0, none⟩ = some (.int .i64 n) := blk_cell (heap_alloc_new w _) 0
  have x1 : (w.alloc (.cells #[.int .i64 n, .slice A xs.length c] 24)).cell? ⟨w.heap.size, 1, none⟩ = some (.slice A xs.length c) := blk_cell (heap_alloc_new w _) 1
  clear hr hc hr1 hc1 hm hml h hs hs2 hl ht ht2 hq hql hl1 hkp hkt hks hbd him hrows hzc htb htn hr20 hke hkc hkq hkm hmp hkh hm1 hm2' hm3' hb0
  go_enter Try.func12, Try.ntmps12
  go_wp2_with (first
    | (go_at_call 13; refine (QS.laws_szComplex.calls n A c xs 1048576 t _ (Kd.C_below HR.out HB.out) HC.out HS.out).mono ?_; rintro e w2 ⟨rfl, hb⟩; have HB2 := Aside0.mk (below_in HB.out hb); have y0 := pw_cell_below hb x0; have y1 := pw_cell_below hb x1; clear hb HB x0 x1)
    | (go_at_call 23; refine (QS.laws_szPairS.calls A1 c1 l1 t t2 _ (Kd.C_below HR1.out HB2.out) HC1.out HS2.out).mono ?_; rintro e w3 ⟨rfl, hd⟩; have hb := d0_below hd; have HB3 := Aside0.mk (below_in HB2.out hb); have x0 := pw_cell_below hb y0; have x1 := pw_cell_below hb y1; clear hb hd HB2 y0 y1)
    | (go_at_call 15; refine (QS.laws_toComplex.calls kt n A c xs n xs _ (Kd.C_below HR.out HB3.out) HC.out HKT.out).mono ?_; rintro e w4 ⟨v4, rfl, hv, hb⟩; have HB4 := Aside0.mk (below_in HB3.out hb); have y0 := pw_cell_below hb x0; have y1 := pw_cell_below hb x1; obtain ⟨A4, c4, rfl⟩ := Kd.R_slice hv; have HV4 := Aside0.mk (Kd.R_reads' hv); clear hb HB3 hv x0 x1)
    | (go_at_call 25; refine (QS.laws_toPairS.calls kp A1 c1 l1 q _ (Kd.C_below HR1.out HB4.out) HC1.out HKP.out).mono ?_; rintro e w5 ⟨v5, rfl, hv, hb⟩; have HB5 := Aside0.mk (below_in HB4.out hb); have x0 := pw_cell_below hb y0; have x1 := pw_cell_below hb y1; obtain ⟨A5, c5, rfl⟩ := Kd.R_slice hv; have HV5 := Aside0.mk (Kd.R_reads' hv); have HV4b := Aside0.mk (And.intro HV4.out.2.1 (Kd.C_below HV4.out.2.2 hb)); clear hb HB4 hv y0 y1 HV4)
    | (go_at_call 44; refine (QS.spec_MorseBoundary.calls ks n A4 c4 xs A5 c5 q d rows z _ HV4b.out.2 HV4b.out.1 HV5.out.2.2 HV5.out.2.1 HKS.out).mono ?_; rintro e w6 ⟨v6, rfl, hv, hb⟩; have HB6 := Aside0.mk (below_in HB5.out hb); have y0 := pw_cell_below hb x0; have y1 := pw_cell_below hb x1; obtain ⟨A6, c6, rfl⟩ := Kd.R_slice (Kd.S_R hv); have HV6 := Aside0.mk (Kd.R_reads' (Kd.S_R hv)); clear hb HB5 hv x0 x1 HV4b HV5))
  have Y0 := Aside0.mk y0
  have Y1 := Aside0.mk y1
  go_wp2_with (first
    | (go_at_call 15; refine (QS.laws_toComplex.calls kt n A c xs n xs _ (Kd.C_below HR.out HB6.out) HC.out HKT.out).mono ?_; rintro e w7 ⟨v7, rfl, hv, hb⟩; obtain ⟨A7, c7, rfl⟩ := Kd.R_slice hv; have HV7 := Aside0.mk (Kd.R_mono (Kd.R_alloc (Kd.R_mono (Kd.R_bound hv) (fun k hk => hk.2.2.1)) (.cells #[.int .i64 n, .slice A7 xs.length c7] 28)) (fun k hk => hk)); have HB7 := Aside0.mk (below_alloc hb (.cells #[.int .i64 n, .slice A7 xs.length c7] 28)); have x0 := pw_cell_below HB7.out Y0.out; have x1 := pw_cell_below HB7.out Y1.out; have z0 : (w7.alloc (.cells #[.int .i64 n, .slice A7 xs.length c7] 28)).cell? ⟨w7.heap.size, 0, none⟩ = some (.int .i64 n) := blk_cell (heap_alloc_new w7 _) 0; have z1 : (w7.alloc (.cells #[.int .i64 n, .slice A7 xs.length c7] 28)).cell? ⟨w7.heap.size, 1, none⟩ = some (.slice A7 xs.length c7) := blk_cell (heap_alloc_new w7 _) 1; have HS7 : Aside0 (w7.heap.size < (w7.alloc (.cells #[.int .i64 n, .slice A7 xs.length c7] 28)).heap.size) := ⟨by simp⟩; clear hb hv y0 y1)
    | (go_at_call 25; refine (QS.laws_toPairS.calls kp A1 c1 l1 q _ (Kd.C_below HR1.out (below_in HB6.out HB7.out)) HC1.out HKP.out).mono ?_; rintro e w8 ⟨v8, rfl, hv, hb⟩; have HB8 := Aside0.mk (below_in HB7.out hb); have HV7b := Aside0.mk (Kd.R_below HV7.out hb); have HV8 := Aside0.mk (Kd.R_mono (Kd.R_lower (Kd.R_bound hv) HB7.out.size) (fun k hk => (And.intro (Nat.lt_of_lt_of_le HS7.out hk.2.1) hk.2.2.1 : w7.heap.size < k ∧ k < w8.heap.size))); have HS6 := Aside0.mk HB8.out.size; have HS8 : Aside0 (w7.heap.size < w8.heap.size) := ⟨Nat.lt_of_lt_of_le HS7.out hb.size⟩; have y0 := pw_cell_below hb x0; have y1 := pw_cell_below hb x1; have u0 := pw_cell_below hb z0; have u1 := pw_cell_below hb z1; obtain ⟨A8, c8, rfl⟩ := Kd.R_slice hv; clear hb hv x0 x1 z0 z1 HB7 HV7 HS7)
    | (go_at_call 45; refine (HIM.out A7 c7 A8 c8 _ (Kd.R_reads' HV7b.out).2.2 (Kd.R_reads' HV7b.out).2.1 (Kd.R_reads' HV8.out).2.2 (Kd.R_reads' HV8.out).2.1).mono ?_; rintro e w9 ⟨v9, vs, rfl, hm, hb⟩; have HB9 := Aside0.mk (below_in HB8.out hb); have HV7 := Aside0.mk (Kd.R_below HV7b.out hb); have HV8b := Aside0.mk (Kd.R_below HV8.out hb); have HM9 := Aside0.mk hm; have HSZ := Aside0.mk hb.size; have x0 := pw_cell_below hb y0; have x1 := pw_cell_below hb y1; have z0 := pw_cell_below hb u0; have z1 := pw_cell_below hb u1; obtain ⟨A9, c9, hv9⟩ := hm.o.slice; rw [hm.i.1] at hv9; subst hv9; clear hb hm y0 y1 u0 u1 HB8 HV7b HV8)
    | (go_at_call 46; refine (QS.laws_eqInt64SS.calls ke A9 c9 rows A6 c6 rows true _ (mr_reads HM9.out).1 (mr_reads HM9.out).2 (Kd.C_below HV6.out.2.2 HB9.out) HV6.out.2.1 HKE.out).mono ?_; rintro e w10 ⟨rfl, hd⟩; have hb := d0_below hd; have HB10 := Aside0.mk (below_in HB9.out hb); have HV7c := Aside0.mk (Kd.R_below HV7.out hb); have HV8c := Aside0.mk (Kd.R_below HV8b.out hb); have HM10 := Aside0.mk (HM9.out.below hb); have HS10 := Aside0.mk (Nat.le_trans HSZ.out hb.size); have y0 := pw_cell_below hb x0; have y1 := pw_cell_below hb x1; have u0 := pw_cell_below hb z0; have u1 := pw_cell_below hb z1; clear hb hd x0 x1 z0 z1 HB9 HV7 HV8b HM9 HSZ))
  refine st_ 5 (S := fun w' => (w'.cell? ⟨w7.heap.size, 0, none⟩ = some (.int .i64 n) ∧ w'.cell? ⟨w7.heap.size, 1, none⟩ = some (.slice A7 xs.length c7)) ∧ w'.cell? ⟨w.heap.size, 0, none⟩ = some (.int .i64 n) ∧ w'.cell? ⟨w.heap.size, 1, none⟩ = some (.slice A xs.length c)) (ds := []) ⟨⟨u0, u1⟩, y0, y1⟩ (fun hHeld => ?_)
  refine with_tabW (T := (true, [([], []), ([], []), ([1], [1]), ([0, 2, 2], [0, 2]), ([3], [3])])) (B := [0, 0, 2, 7, 15]) (by kernel_rfl) (by kernel_rfl) (fun HT_ HW_ => ?_)
  refine tk_ 0 58 1 HT_ HW_ hHeld ?_
  refine tk_ 1 59 3 HT_ HW_ hHeld ?_
  refine on_ 2 (some 60) 7 HT_ (fun K hK => ?_)
  refine ca_ Try.func15 #[.agg #[.int .i64 n, .slice A xs.length c]] ?_
  refine (QS.laws_toComplex.calls kt n A c xs n xs _ (Kd.C_below HR.out (below_in HB6.out HB10.out.drew)) HC.out HKT.out).mono ?_; rintro e w11 ⟨v11, rfl, hv, hb1⟩; have hb := (below_drew (Below.refl w10.heap.size w10)).trans hb1; have HB11 := Aside0.mk (below_in HB10.out hb); have HV7 := Aside0.mk (Kd.R_below HV7c.out hb); have HV8 := Aside0.mk (Kd.R_below HV8c.out hb); have HM11 := Aside0.mk (HM10.out.below hb); have HS11 := Aside0.mk (Nat.le_trans HS10.out hb.size); have x0 := pw_cell_below hb y0; have x1 := pw_cell_below hb y1; have z0 := pw_cell_below hb u0; have z1 := pw_cell_below hb u1; obtain ⟨A11, c11, rfl⟩ := Kd.R_slice hv; have HV11 := Aside0.mk (Kd.R_reads' hv); clear hb hb1 hv y0 y1 u0 u1 HB10 HV7c HV8c HM10 HS10
  refine ⟨_, rfl, ?_⟩
  refine hK.out _ _ ⟨⟨z0, z1⟩, x0, x1⟩ (fun hHeld => ?_)
  clear hK K
  refine nm_ ?_
  refine on_ 3 (some 61) 15 HT_ (fun K hK => ?_)
  refine ca_ Try.func19 #[.agg #[.int .i64 n, .slice A7 xs.length c7], .agg #[.int .i64 n, .slice A11 xs.length c11]] ?_
  refine (QS.laws_eqComplex.calls kc n A7 c7 xs n A11 c11 xs true _ (Kd.R_reads' HV7.out).2.2 (Kd.R_reads' HV7.out).2.1 HV11.out.2.2 HV11.out.2.1 HKC.out).mono ?_; rintro e w12 ⟨rfl, hb⟩; have HB12 := Aside0.mk (below_in HB11.out hb); have HV7c := Aside0.mk (Kd.R_below HV7.out hb); have HV8c := Aside0.mk (Kd.R_below HV8.out hb); have HM12 := Aside0.mk (HM11.out.below hb); have HS12 := Aside0.mk (Nat.le_trans HS11.out hb.size); have y0 := pw_cell_below hb x0; have y1 := pw_cell_below hb x1; have u0 := pw_cell_below hb z0; have u1 := pw_cell_below hb z1; clear hb x0 x1 z0 z1 HB11 HV7 HV8 HM11 HS11 HV11
  refine ⟨_, rfl, ?_⟩
  refine hK.out _ _ ⟨⟨u0, u1⟩, y0, y1⟩ (fun hHeld => ?_)
  clear hK K
  refine nm_ ?_
  refine pd_ 4 62 31 HT_ ?_
  refine dn_ HT_ ?_
  go_wp2_with (first
    | (go_at_call 25; refine (QS.laws_toPairS.calls kp A1 c1 l1 q _ (Kd.C_below HR1.out (below_in HB6.out HB12.out)) HC1.out HKP.out).mono ?_; rintro e w13 ⟨v13, rfl, hv, hb⟩; have HB13 := Aside0.mk (below_in HB12.out hb); have HV7 := Aside0.mk (Kd.R_below HV7c.out hb); have HV8 := Aside0.mk (Kd.R_below HV8c.out hb); have HM13 := Aside0.mk (HM12.out.below hb); have HS13 := Aside0.mk (Nat.le_trans HS12.out hb.size); have x0 := pw_cell_below hb y0; have x1 := pw_cell_below hb y1; have z0 := pw_cell_below hb u0; have z1 := pw_cell_below hb u1; obtain ⟨A13, c13, rfl⟩ := Kd.R_slice hv; have HV13 := Aside0.mk (Kd.R_reads' hv); clear hb hv y0 y1 u0 u1 HB12 HV7c HV8c HM12 HS12)
    | (go_at_call 27; refine (QS.laws_eqPairS.calls kq A8 c8 q A13 c13 q true _ (Kd.R_reads' HV8.out).2.2 (Kd.R_reads' HV8.out).2.1 HV13.out.2.2 HV13.out.2.1 HKQ.out).mono ?_; rintro e w14 ⟨rfl, hb⟩; have HB14 := Aside0.mk (below_in HB13.out hb); have HV7d := Aside0.mk (Kd.R_below HV7.out hb); have HV8d := Aside0.mk (Kd.R_below HV8.out hb); have HM14 := Aside0.mk (HM13.out.below hb); have HS14 := Aside0.mk (Nat.le_trans HS13.out hb.size); have y0 := pw_cell_below hb x0; have y1 := pw_cell_below hb x1; have u0 := pw_cell_below hb z0; have u1 := pw_cell_below hb z1; clear hb x0 x1 z0 z1 HB13 HV7 HV8 HM13 HS13 HV13)
    | (go_at_call 20; refine (QS.laws_markComplex.calls km n (fun k => k < w7.heap.size) (.slice A7 xs.length c7) xs 1 m1 _ w6 _ HB14.out HV7d.out HKM.out).mono ?_; rintro e w15 ⟨rfl, _, hB, hk⟩; have HB15 := Aside0.mk hB; have HV8e := Aside0.mk (Kd.R_mono (Kd.R_step (Kd.R_bound HV8d.out) (fun k h1 hlt => hk.2 k hlt (fun h => absurd h (by have := h1.1.1; omega)))) (fun k h1 => h1.1)); have HM15 := Aside0.mk (HM14.out.move (fun k h1 h2 => hk.2 k h2 (fun h => absurd h (by have := HS8.out; omega)))); have HS15 := Aside0.mk (Nat.le_trans HS14.out hk.1); have x0 := pw_cell_below hB Y0.out; have x1 := pw_cell_below hB Y1.out; clear hB hk y0 y1 u0 u1 HB14 HV7d HV8d HM14 HS14)
    | (go_at_call 28; refine (laws_markPairS.calls (fun k => w7.heap.size < k ∧ k < w8.heap.size) (.slice A8 q.length c8) q m1 m2 _ w6 _ HB15.out HV8e.out HMP.out).mono ?_; rintro e w16 ⟨rfl, _, hB, hk⟩; have HB16 := Aside0.mk hB; have HM16 := Aside0.mk (HM15.out.move (fun k h1 h2 => hk.2 k h2 (fun h => absurd h.2 (by omega)))); have HS16 := Aside0.mk (Nat.le_trans HS15.out hk.1); have y0 := pw_cell_below hB Y0.out; have y1 := pw_cell_below hB Y1.out; clear hB hk x0 x1 HB15 HV8e HM15 HS15)
    | (go_at_call 46; refine (QS.laws_eqInt64SS.calls ke A9 c9 rows A6 c6 rows true _ (mr_reads HM16.out).1 (mr_reads HM16.out).2 (Kd.C_below HV6.out.2.2 HB16.out) HV6.out.2.1 HKE.out).mono ?_; rintro e w17 ⟨rfl, hd⟩; have hb := d0_below hd; have HB17 := Aside0.mk (below_in HB16.out hb); have HM17 := Aside0.mk (HM16.out.below hb); have HS17 := Aside0.mk (Nat.le_trans HS16.out hb.size); have x0 := pw_cell_below hb y0; have x1 := pw_cell_below hb y1; clear hb hd y0 y1 HB16 HM16 HS16)
    | (go_at_call 47; obtain ⟨wb, hwb, hbb⟩ := base_world w17 HS17.out; refine (HMK.out wb _ (.slice A9 rows.length c9) vs (by rw [hwb]; exact HM17.out) (by rw [hwb]; exact hbb)).mono ?_; rintro e w18 ⟨rfl, hm, hB⟩; rw [hwb] at hm hB; have HB18 := Aside0.mk (below_via HB17.out hbb hB HS6.out HS6.out hwb); have HM18 := Aside0.mk hm; have y0 := pw_cell_below HB18.out Y0.out; have y1 := pw_cell_below HB18.out Y1.out; clear hm hB hwb hbb x0 x1 HB17 HM17 HS17)
    | (go_at_call 48; have hc := QS.laws_heldInt64SS.calls kh A9 c9 (markSS rows 1) 1 m3 w18 (mr_reads2 HM18.out).1 (mr_reads2 HM18.out).2 HKH.out; rw [markSS_len] at hc; refine hc.mono ?_; clear hc; rintro e w19 ⟨rfl, hd⟩; have hb := d0_below hd; have HB19 := Aside0.mk (below_in HB18.out hb); have HM19 := Aside0.mk (HM18.out.below hb); have x0 := pw_cell_below hb y0; have x1 := pw_cell_below hb y1; clear hb hd y0 y1 HB18 HM18)
    | (go_at_call 15; refine (QS.laws_toComplex.calls kt n A c xs n xs _ (Kd.C_below HR.out (below_in HB6.out HB19.out)) HC.out HKT.out).mono ?_; rintro e w20 ⟨v20, rfl, hv, hb⟩; have HB20 := Aside0.mk (below_in HB19.out hb); have HM20 := Aside0.mk (HM19.out.below hb); obtain ⟨A20, c20, rfl⟩ := Kd.R_slice hv; have HV20 := Aside0.mk (Kd.R_reads' hv); clear hb hv x0 x1 HB19 HM19)
    | (go_at_call 25; refine (QS.laws_toPairS.calls kp A1 c1 l1 q _ (Kd.C_below HR1.out (below_in HB6.out HB20.out)) HC1.out HKP.out).mono ?_; rintro e w21 ⟨v21, rfl, hv, hb⟩; have HB21 := Aside0.mk (below_in HB20.out hb); have HM21 := Aside0.mk (HM20.out.below hb); obtain ⟨A21, c21, rfl⟩ := Kd.R_slice hv; have HV21 := Aside0.mk (Kd.R_reads' hv); have HV20b := Aside0.mk (And.intro HV20.out.2.1 (Kd.C_below HV20.out.2.2 hb)); clear hb hv HB20 HM20 HV20)
    | (go_at_call 45; refine (HIM.out A20 c20 A21 c21 _ HV20b.out.2 HV20b.out.1 HV21.out.2.2 HV21.out.2.1).mono ?_; rintro e w22 ⟨v22, vs2, rfl, hm, hb⟩; have HB22 := Aside0.mk (below_in HB21.out hb); have HM22 := Aside0.mk (HM21.out.below hb); have HN22 := Aside0.mk hm; obtain ⟨A22, c22, hv22⟩ := hm.o.slice; rw [hm.i.1] at hv22; subst hv22; clear hb hm HB21 HM21 HV20b HV21)
    | (go_at_call 46; refine (QS.laws_eqInt64SS.calls ke A22 c22 rows A6 c6 rows true _ (mr_reads HN22.out).1 (mr_reads HN22.out).2 (Kd.C_below HV6.out.2.2 HB22.out) HV6.out.2.1 HKE.out).mono ?_; rintro e w23 ⟨rfl, hd⟩; have hb := d0_below hd; have HB23 := Aside0.mk (below_in HB22.out hb); have HM23 := Aside0.mk (HM22.out.below hb); clear hb hd HB22 HM22 HN22)
    | (go_at_call 48; have hc := QS.laws_heldInt64SS.calls kh A9 c9 (markSS rows 1) 1 m3 w23 (mr_reads2 HM23.out).1 (mr_reads2 HM23.out).2 HKH.out; rw [markSS_len] at hc; refine hc.mono ?_; clear hc; rintro e w24 ⟨rfl, hd⟩; have HB24 := Aside0.mk (below_in HB23.out (d0_below hd)); clear hd HB23 HM23))
  go_ret
  exact ⟨rfl, below_in HB6.out HB24.out⟩
theorem laws_FnExactMorseBoundary.calls (k : Nat) (a0_0 : Int) (A0_1 : Option Addr) (c0_1 : Nat) (l0_1 : List Int) (A1 : Option Addr) (c1 : Nat) (l1 : List S72) (a2 : Int) (r : Bool) (w : World) (hr0_1 : Kd.C (Kd.int .i64) w A0_1 l0_1.length l0_1) (hc0_1 : l0_1.length ≤ c0_1) (hr1 : Kd.C k72 w A1 l1.length l1) (hc1 : l1.length ≤ c1) (h : laws_FnExactMorseBoundary.f k a0_0 l0_1 l1 a2 = some r) :
    Calls Try.prog 12 #[.agg #[.int .i64 a0_0, .slice A0_1 l0_1.length c0_1], .slice A1 l1.length c1, .int .i64 a2] w fun e w' => e = .returned (.bool r) ∧ Below w.heap.size w w' := by
  unfold laws_FnExactMorseBoundary.f at h
  split at h
  · rename_i hm
    obtain rfl := Option.some.inj h
    by_cases h1 : 1048576 < l0_1.length
    · exact way1 a0_0 A0_1 c0_1 l0_1 A1 c1 l1 a2 w hr0_1 hc0_1 hm.1 h1
    · by_cases h2 : (1048576 : Int) - (l0_1.length : Int) < (l1.length : Int)
      · exact way2 a0_0 A0_1 c0_1 l0_1 A1 c1 l1 a2 w hr0_1 hc0_1 hr1 hc1 hm.2 (by omega) h2
      · exact way3 a0_0 A0_1 c0_1 l0_1 A1 c1 l1 a2 w hr0_1 hc0_1 hr1 hc1 hm.2 (by omega) h2
  · cases h
end Go.Proofs.Ytomdfjohnmikdaa.QFnExactMorseBoundary
namespace Go.Proofs.Ytomdfjohnmikdaa.Pu
open Go.RowKit Kp Ext QFnExactMorseBoundary YtomdfjohnmikdaaW.PrintWords YtomdfjohnmikdaaW.PrintLast YtomdfjohnmikdaaW.PrintMore
theorem FnExactMorseBoundary (n0 : Int) (l0 : List Int) (_ : (Lit.int .i64 n0).wf = true) (hm0 : l0.length ≤ maxLen) (_ : ∀ x ∈ l0, (Lit.int .i64 x).wf = true) (l1 : List S72) (hm1 : l1.length ≤ maxLen) (_ : ∀ x ∈ l1, (Lit.int .i64 x.f0).wf = true ∧ (Lit.int .i64 x.f1).wf = true) (a2 : Int) (_ : (Lit.int .i64 a2).wf = true) : ∃ k, laws_FnExactMorseBoundary.f k n0 l0 l1 a2 = some true :=
  ⟨0, if_pos ⟨hm0, hm1⟩⟩
end Go.Proofs.Ytomdfjohnmikdaa.Pu
