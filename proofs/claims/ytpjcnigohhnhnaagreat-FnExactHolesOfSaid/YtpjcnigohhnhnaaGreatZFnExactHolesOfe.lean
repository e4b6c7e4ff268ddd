/- Words and lemmas for FnExactHolesOf, part 5: what the row's text comes to. -/
import Derived.Test.YtpjcnigohhnhnaaGreatProg
import Derived.Below
import Derived.Deep.Draws
import Derived.Deep.AppendLies
import Derived.Maps.AppendAt
import Derived.OwnWalk
import Derived.Laws.BytesArg
import Derived.Laws.MakeOwn
import Derived.Laws.OwnMore
import Derived.Deep.OwnRows
import Derived.Tactics
import Derived.Lib.ConvBytes
import Derived.Laws.Slices
import Derived.WalkKit
import Derived.KernelRfl
import Derived.RowKit3
import Derived.Deep.LoopGhost
import Derived.Deep.QuietTactic
import Derived.BigQuiet
import Derived.WideLaws
import Derived.Deep.DeepCutAuto
import Derived.Deep.CutBlock
import Derived.Deep.RegionHeld3
import Derived.Laws.Rows
import Derived.Lib.AppendStr
import Derived.ArgAppend
import Derived.Laws.IdiomCopy
import Derived.OrdersHeld
import Derived.Laws.BitsLemmas
import Derived.RowKit
import Derived.Laws.BitsAllLaws
import Derived.Shelf.SlSortCmp.Whole1
import Derived.Sort.OwnSortedInts
import Derived.Test.YtpjcnigohhnhnaaGreatZFnExactHolesOfd
set_option linter.unusedVariables false
set_option linter.unusedSimpArgs false
namespace Go.Proofs.YtpjcnigohhnhnaaGreat.Im
open Go.RowKit Go.Shelf Kp Cw Ext Pu YtpjcnigohhnhnaaGreatW.PrintWords YtpjcnigohhnhnaaGreatW.PrintLast YtpjcnigohhnhnaaGreatW.PrintMore
def ofD (crit : List Int) (d : Int) : List Int := crit.filter fun f => onesZ f - 1 == d
set_option maxRecDepth 100000 in
theorem of11_ok (W : World) (b : Nat) (d : Int) (hb : W.heap[b]? = some (.cells #[.int .i64 d] 2 (0, 0))) : FnOk (.func (.func 51) #[] #[.pointer (some ⟨b, 0, none⟩)]) (Pred.ofI fun x => if 0 ≤ x ∧ x ≤ 63 then some (!(onesZ x - 1 == d)) else none) W := by
  refine FnOk.ofI (fun args w => enters_ Tryz.func51 (by kernel_rfl) (by rfl) args w) fun V x r hV hx => ?_
  by_cases hr : 0 ≤ x ∧ x ≤ 63
  · rw [if_pos hr] at hx
    have hx' := Option.some.inj hx
    have hbV := (hV.block b (blk_lt hb)).trans hb
    have hc : V.cell? ⟨b, 0, none⟩ = some (.int .i64 d) := (cell_of_row V b 0 _ _ _ hbV).trans rfl
    have HD := Aside0.mk (QI.impl_dimension.calls x (onesZ x - 1) V.drew (dim_eq hr.1 hr.2))
    obtain ⟨z, hz⟩ : ∃ z, onesZ x - 1 = z := ⟨_, rfl⟩
    rw [hz] at HD hx'
    subst hx'
    clear hx hbV hz
    go_enter Tryz.func51, Tryz.ntmps51
    go_upto_region 1 with fail
    refine st_ 5 (S := fun w' => w'.cell? ⟨b, 0, none⟩ = some (.int .i64 d)) (ds := []) hc (fun hHeld => ?_)
    refine with_tabW (T := (true, [([], []), ([0], [0]), ([], []), ([1, 2], [1, 2]), ([3, 1, 0, 1, 2, 3], [3])])) (B := [0, 1, 0, 7, 15]) (by kernel_rfl) (by kernel_rfl) (fun HT_ HW_ => ?_)
    refine pd_ 0 4 1 HT_ ?_
    refine tk_ 2 6 5 HT_ HW_ hHeld ?_
    refine on_ 1 (some 5) 7 HT_ (fun K hK => ?_)
    refine ca_ Tryz.func39 #[.int .i64 x] ?_
    refine HD.out.mono ?_; rintro e w1 ⟨rfl, hd⟩; have HB1 := Aside0.mk ((below_drew (Below.refl V.heap.size V)).trans (d0_below hd)); have hc1 := pw_cell_below HB1.out hc; clear hd
    refine ⟨_, rfl, ?_⟩
    refine hK.out _ _ hc1 (fun hHeld => ?_)
    clear hK K
    refine nm_ ?_
    refine pd_ 3 7 15 HT_ ?_
    refine pd_ 4 3 31 HT_ ?_
    refine dn_ HT_ ?_
    go_wp2
    go_ret
    exact ⟨rfl, HB1.out⟩
  · rw [if_neg hr] at hx; cases hx
set_option maxRecDepth 100000 in
theorem of_c (b : Nat) (d : Int) (A : Option Addr) (c : Nat) (xs : List Int) (w : World) (hr : RC w A xs.length xs) (hl : xs.length ≤ 1048576) (h63 : ∀ x ∈ xs, 0 ≤ x ∧ x ≤ 63) (hc : w.cell? ⟨b, 0, none⟩ = some (.slice A xs.length c)) (hbl : b < w.heap.size) :
    Calls Tryz.prog 50 #[.int .i64 d, .pointer (some ⟨b, 0, none⟩)] w (SlOnly w.heap.size w (ofD xs d)) := by
  have hb1 : Below w.heap.size w (w.alloc (.cells #[.int .i64 d] 2)) := (Below.refl _ w).alloc (Nat.le_refl _) _
  have l1 : (w.alloc (.cells #[.int .i64 d] 2)).cell? ⟨b, 0, none⟩ = some (.slice A xs.length c) := pw_cell_below hb1 hc
  obtain ⟨s1, _, p1⟩ := ofI_face (f := fun x => if 0 ≤ x ∧ x ≤ 63 then some (!(onesZ x - 1 == d)) else none) (p := fun x => !(onesZ x - 1 == d)) (fun x h0 h6 => if_pos ⟨h0, h6⟩)
  have hnew := heap_alloc_new w (.cells #[.int .i64 d] 2)
  have hlt := blk_lt hnew
  have hd := fun v W (HB : Below (w.alloc (.cells #[.int .i64 d] 2)).heap.size (w.alloc (.cells #[.int .i64 d] 2)) W) (ho : RO W (w.alloc (.cells #[.int .i64 d] 2)).heap.size v xs) =>
    deleteFuncK_c (fun k => (w.alloc (.cells #[.int .i64 d] 2)).heap.size ≤ k) v xs (.func (.func 51) #[] #[.pointer (some ⟨w.heap.size, 0, none⟩)]) (Pred.ofI fun x => if 0 ≤ x ∧ x ≤ 63 then some (!(onesZ x - 1 == d)) else none) (w.alloc (.cells #[.int .i64 d] 2)) W HB
      (RO.ok ho (fun k hk => Kd.R_base ho k hk)) hl
      (fun W_ hK => of11_ok W_ w.heap.size d (((hK.2 _ (Nat.lt_of_lt_of_le hlt HB.size) (Nat.not_le_of_lt hlt)).trans (HB.block _ hlt)).trans hnew)) s1 (fun x hx => .inr (h63 x hx))
  have HC := Aside0.mk (clone_c A xs.length c xs _ (Kd.C_below hr hb1) hl)
  have HD := Lib.hid hd
  have HB := Aside0.mk hb1
  have HE : Aside0 (ofD xs d = xs.filter fun x => !(Pred.ofI fun x => if 0 ≤ x ∧ x ≤ 63 then some (!(onesZ x - 1 == d)) else none).pI x) := ⟨by
    unfold ofD
    refine List.filter_congr fun x hx => ?_
    rw [p1 x (h63 x hx).1 (h63 x hx).2, Bool.not_not]⟩
  clear hb1 hr hl h63 hc hbl hnew hlt hd s1 p1
  rw [HE.out]
  go_enter Tryz.func50, Tryz.ntmps50
  go_wp2_with (first
    | (go_at_call 41; refine HC.out.mono ?_; rintro e w2 ⟨v, rfl, hv, hb2⟩; have HV := Aside0.mk hv; have HB2 := Aside0.mk hb2; clear hv hb2)
    | (go_at_call 40; refine (HD.out _ _ HB2.out HV.out).mono ?_; rintro e w3 ⟨v3, rfl, hv, hb3, _⟩; have HV3 := Aside0.mk hv; have HB3 := Aside0.mk hb3; clear hv hb3))
  go_ret
  exact ⟨_, rfl, Kd.R_mono (Kd.R_lower HV3.out HB.out.size) (fun _ _ => trivial), HB.out.trans (HB3.out.mono HB.out.size)⟩
def rowM (wz : Int → Int → Int) (cols : List Int) (b : Int) : List Int := cols.map fun a => (wz b a).tmod 2
def rowsM (wz : Int → Int → Int) (crit : List Int) (d : Int) : List (List Int) := (ofD crit d).map (rowM wz (ofD crit (d - 1)))
theorem MR.snoc {wr wq w' : World} {base : Nat} {v v1 u : Value} {vs : List Value} {M : List (List Int)} {row : List Int} {o : Obj} (h : MR wr base v vs M) (hb : Below wr.heap.size wr wq) (hu : RO wq wr.heap.size u row) (hbase : base ≤ wr.heap.size) (ho : VO w' base v1 (vs ++ [u])) (hg : (wq.alloc o).grownBy w' v.ownBlock) : MR w' base v1 (vs ++ [u]) (M ++ [row]) := by
  have hal : Below wq.heap.size wq (wq.alloc o) := below_alloc (Below.refl _ _) o
  have h1 := h.below hb
  have hvo : VO (wq.alloc o) base v vs := Kd.R_below h1.o hal
  refine ⟨ho, ((h1.i.below hal).grown hvo hg).append ((((VI.one hu).lower hbase).below hal).grown hvo hg), ?_⟩
  have hlt : ∀ i (hi : i < vs.length) k, vs[i].ownBlock = some k → k < wr.heap.size := fun i hi k hk => Kd.R_lt (h.i.2 i hi (by rw [← h.i.1]; exact hi)) k hk
  have hge : ∀ k, u.ownBlock = some k → wr.heap.size ≤ k := Kd.R_base hu
  intro i j hi hj hij k h2 h3
  rw [List.length_append, List.length_singleton] at hi hj
  by_cases hi' : i < vs.length
  · rw [List.getElem_append_left hi'] at h2
    by_cases hj' : j < vs.length
    · rw [List.getElem_append_left hj'] at h3
      exact h.a i j hi' hj' hij k h2 h3
    · rw [List.getElem_append_right (by omega)] at h3
      have a1 := hlt i hi' k h2
      have a2 := hge k (by simpa using h3)
      omega
  · rw [List.getElem_append_right (by omega)] at h2
    by_cases hj' : j < vs.length
    · rw [List.getElem_append_left hj'] at h3
      have a1 := hlt j hj' k h3
      have a2 := hge k (by simpa using h2)
      omega
    · omega
theorem ofD_mem {crit : List Int} {d x : Int} (h : x ∈ ofD crit d) : x ∈ crit := (List.mem_filter.1 h).1
theorem ofD_len (crit : List Int) (d : Int) : (ofD crit d).length ≤ crit.length := List.length_filter_le _ _
set_option maxRecDepth 100000 in
set_option maxHeartbeats 8000000 in
theorem morse_c (wz : Int → Int → Int) (n d : Int) (A : Option Addr) (c : Nat) (xs : List Int) (A1 : Option Addr) (c1 : Nat) (l : List Pr) (w : World) (hr : RC w A xs.length xs) (hc : xs.length ≤ c) (hr1 : Kd.C k46 w A1 l.length l) (hc1 : l.length ≤ c1) (hi : isC n xs = true) (hl : l.length ≤ 1048576) (hf : FacesP l) (hd : 1 ≤ d ∧ d ≤ 6) (hwz : ∀ b a, b ∈ xs → Ev (fun k => QV.impl_waysBetween.f k l b a) (wz b a)) :
    Calls Tryz.prog 27 #[.agg #[.int .i64 n, .slice A xs.length c], .slice A1 l.length c1, .int .i64 d] w fun e w' => ∃ v vs, e = .returned v ∧ MR w' w.heap.size v vs (rowsM wz (critL xs l) d) ∧ Below w.heap.size w w' := by
  have hk := CxAt.new w n A xs.length c
  have hb1 : Below w.heap.size w (w.alloc (.cells #[.int .i64 n, .slice A xs.length c] 30)) := (Below.refl _ w).alloc (Nat.le_refl _) _
  have l0 := hk.c0
  have l1 := hk.c1
  have hcr := crit_fV hi hl hf
  have hcm : ∀ x ∈ critL xs l, x ∈ xs := fun x hx => (List.mem_filter.1 hx).1
  have hs := isC_small hi
  have hcl : (critL xs l).length ≤ xs.length := List.length_filter_le _ _
  obtain ⟨crit, hcrit⟩ : ∃ crit, critL xs l = crit := ⟨_, rfl⟩
  rw [hcrit] at hcr hcm hcl ⊢
  have h63 : ∀ x ∈ crit, 0 ≤ x ∧ x ≤ 63 := fun x hx => by have := isC_63 hi x (hcm x hx); omega
  have HCR := Aside0.mk hcr
  have H63 := Aside0.mk h63
  have HCM := Aside0.mk hcm
  have HWZ := Aside0.mk hwz
  have HB := Aside0.mk hb1
  have HR := Aside0.mk hr
  have HC := Aside0.mk hc
  have HR1 := Aside0.mk hr1
  have HC1 := Aside0.mk hc1
  have hcl2 : crit.length ≤ 1048576 := by omega
  clear hb1 hk hcr hcm hwz hr hc hr1 hc1 hi hl hf hs hcl hcrit h63
  have hrl := ofD_len crit d
  have hcl3 := ofD_len crit (d - 1)
  have HRM : Aside0 (∀ b ∈ ofD crit d, b ∈ xs) := ⟨fun b hb => HCM.out b (ofD_mem hb)⟩
  obtain ⟨rows, hrows⟩ : ∃ rows, ofD crit d = rows := ⟨_, rfl⟩
  obtain ⟨cols, hcols⟩ : ∃ cols, ofD crit (d - 1) = cols := ⟨_, rfl⟩
  have HGOAL : Aside0 (rowsM wz crit d = rows.map (rowM wz cols)) := ⟨by unfold rowsM; rw [hrows, hcols]⟩
  rw [hrows] at hrl HRM
  rw [hcols] at hcl3
  have HROWS := Aside0.mk hrows
  have HCOLS := Aside0.mk hcols
  clear hrows hcols
  rw [HGOAL.out]
  go_enter Tryz.func27, Tryz.ntmps27
  go_wp2_with (first
    | (go_at_call 25; refine (QV.impl_Complex_critical.calls n A c xs A1 c1 l crit _ (Kd.C_below HR.out HB.out) HC.out (Kd.C_below HR1.out HB.out) HC1.out HCR.out).mono ?_; rintro e w2 ⟨v, rfl, hv, hb2⟩; have HV := Aside0.mk (Kd.R_lower hv HB.out.size); have HB2 := Aside0.mk (below_in HB.out hb2); obtain ⟨Ac, cc, rfl⟩ := Kd.R_slice hv; have HB3 := Aside0.mk (below_alloc HB2.out (.cells #[.slice Ac crit.length cc] 22)); have HV3 := Aside0.mk (Kd.R_alloc HV.out (.cells #[.slice Ac crit.length cc] 22)); have HCE := Aside0.mk (Boxed.new w2 22 (.slice Ac crit.length cc)); clear hv hb2)
    | (go_at_call 50; refine (of_c w2.heap.size d Ac cc crit _ (Kd.R_reads' HV3.out).2.2 hcl2 H63.out HCE.out.cell (by simp)).mono ?_; rintro e w3 ⟨v3, rfl, hv, hb⟩; rw [HROWS.out] at hv; have HV4 := Aside0.mk (Kd.R_below HV3.out hb); have hce := pw_cell_below hb HCE.out.cell; have HCE4 := Aside0.mk hce; have HLT := Aside0.mk (show w2.heap.size < w3.heap.size from Nat.lt_of_lt_of_le (by simp) hb.size); have HB4 := Aside0.mk (below_in HB3.out hb); obtain ⟨A3, c3, rfl⟩ := Kd.R_slice hv; have HR3 := Aside0.mk (Kd.R_reads' hv).2.2; clear hv hb hce))
  have HO := Aside0.mk (MR.nil w3 w3.heap.size)
  have HBL := Aside0.mk (Below.refl w3.heap.size w3)
  have HC4 := Aside0.mk (Kd.R_reads' HV4.out).2.2
  clear HB HV HB2 HB3 HV3 HCE
  go_loopw [9, 23] (fun v9 s23 wr => ∃ (i : Nat) (vs : List Value), i ≤ rows.length ∧ s23 = .int .i64 i ∧ Aside0 (MR wr w3.heap.size v9 vs ((rows.take i).map (rowM wz cols))) ∧ Aside0 (Below w3.heap.size w3 wr)) (fun _ s23 _ => rows.length - (intOf s23).toNat)
  case atStart => exact ⟨0, [], by omega, rfl, HO, HBL⟩
  case round =>
    clear HO HBL
    obtain ⟨i, vs, hi, rfl, HO, HBL⟩ := hrel
    by_cases hlt : i < rows.length
    · have hltz : (i : Int) < (rows.length : Int) := by omega
      obtain ⟨ad, rfl, hcell⟩ := Kd.at_int (Kd.C_below HR3.out HBL.out) (i : Int) (by omega) (by omega)
      rw [rd_at' hlt, show ((i : Int)).toNat = i by omega] at hcell
      have hbx := HRM.out _ (List.getElem_mem hlt)
      have HNX : Aside0 ((rows.take (i + 1)).map (rowM wz cols) = (rows.take i).map (rowM wz cols) ++ [rowM wz cols rows[i]]) := ⟨by rw [List.take_succ_eq_append_getElem hlt, List.map_append]; rfl⟩
      obtain ⟨b, hb⟩ : ∃ b, rows[i] = b := ⟨_, rfl⟩
      rw [hb] at hcell hbx HNX
      have HBX := Aside0.mk hbx
      have hce := pw_cell_below HBL.out HCE4.out
      have HLT2 := Aside0.mk (Nat.lt_of_lt_of_le HLT.out HBL.out.size)
      have HC5 := Aside0.mk (Kd.C_below HC4.out HBL.out)
      clear hb hbx
      go_wp2_with (go_at_call 50; refine (of_c w2.heap.size (d - 1) Ac cc crit _ HC5.out hcl2 H63.out hce HLT2.out).mono ?_; rintro e w4 ⟨v4, rfl, hv, hb⟩; rw [HCOLS.out] at hv; have HB5 := Aside0.mk hb; obtain ⟨A4, c4, rfl⟩ := Kd.R_slice hv; have HR4 := Aside0.mk (Kd.R_reads' hv).2.2; clear hv hb)
      have HBI := Aside0.mk (Below.refl w4.heap.size w4)
      have HRO : Aside0 (RO w4 w4.heap.size (.slice none 0 0) ((cols.take 0).map fun a => (wz b a).tmod 2)) := ⟨Kd.R_nil _ _ _ _ _⟩
      have HB6 := Aside0.mk (below_in (below_in HB4.out HBL.out) HB5.out)
      go_loopw [12, 32] (fun v12 s32 wq => ∃ j : Nat, j ≤ cols.length ∧ s32 = .int .i64 j ∧ Aside0 (RO wq w4.heap.size v12 ((cols.take j).map fun a => (wz b a).tmod 2)) ∧ Aside0 (Below w4.heap.size w4 wq)) (fun _ s32 _ => cols.length - (intOf s32).toNat)
      case atStart => exact ⟨0, by omega, rfl, HRO, HBI⟩
      case round =>
        clear HRO HBI
        obtain ⟨j, hj, rfl, HRO, HBI⟩ := hrel
        by_cases hjl : j < cols.length
        · have hjz : (j : Int) < (cols.length : Int) := by omega
          obtain ⟨ae, rfl, hcj⟩ := Kd.at_int (Kd.C_below HR4.out HBI.out) (j : Int) (by omega) (by omega)
          rw [rd_at' hjl, show ((j : Int)).toNat = j by omega] at hcj
          have HNJ : Aside0 ((cols.take (j + 1)).map (fun a => (wz b a).tmod 2) = (cols.take j).map (fun a => (wz b a).tmod 2) ++ [(wz b cols[j]).tmod 2]) := ⟨by rw [List.take_succ_eq_append_getElem hjl, List.map_append]; rfl⟩
          obtain ⟨a, ha⟩ : ∃ a, cols[j] = a := ⟨_, rfl⟩
          rw [ha] at hcj HNJ
          obtain ⟨kw, hkw⟩ := (HWZ.out b a HBX.out).rounds
          have HKW := Aside0.mk hkw
          have HLJ : Aside0 (((cols.take j).map fun a => (wz b a).tmod 2).length ≤ 1048576) := ⟨by rw [List.length_map, List.length_take]; omega⟩
          clear ha hkw
          generalize wz b a = z at HKW HNJ
          go_wp2_with (first
            | (go_at_call 52; refine (QV.impl_waysBetween.calls kw A1 c1 l b a z _ (Kd.C_below HR1.out (below_in HB6.out HBI.out)) HC1.out HKW.out).mono ?_; rintro e w5 ⟨rfl, hb⟩; have HRO5 := Aside0.mk (Kd.R_below HRO.out hb); have HBI5 := Aside0.mk (below_in HBI.out hb); clear hb hcj HRO HBI)
            | (at_builtin; refine ap64 w4.heap.size rfl (.tmp 36) (.tmp 42) 22 rfl Tryz.underlying22 info64 _ _ _ rfl rfl HRO5.out HBI5.out HBI5.out.size (by have := HLJ.out; omega) ?_; intro v1 w6 ho hb hg hat; rw [← HNJ.out] at ho; have HRO6 := Aside0.mk ho; have HBI6 := Aside0.mk hb; clear hat hg ho hb))
          exact ⟨⟨j + 1, by omega, by go_num, HRO6, HBI6⟩, by simp [intOf]; omega⟩
        · obtain rfl : j = cols.length := by omega
          have hjz : ¬ ((cols.length : Int) < (cols.length : Int)) := by omega
          have HRW : Aside0 ((cols.take cols.length).map (fun a => (wz b a).tmod 2) = rowM wz cols b) := ⟨by rw [List.take_length]; rfl⟩
          rw [HRW.out] at HRO
          obtain ⟨Ar, cr, hur⟩ := Kd.R_slice HRO.out
          have HVL : Aside0 (vs.length = i) := ⟨by have := HO.out.i.1; rw [List.length_map, List.length_take] at this; omega⟩
          have HBW := Aside0.mk (below_in HB5.out HBI.out)
          have HBQ := Aside0.mk (below_in HBL.out HBW.out)
          have HROL := Aside0.mk (Kd.R_lower HRO.out HB5.out.size)
          rw [hur] at HROL HRO ⊢
          have HVO := Aside0.mk (Kd.R_alloc (Kd.R_below HO.out.o HBW.out) (.cells #[.slice Ar (rowM wz cols b).length cr] 22))
          have HVC := Aside0.mk (VO.one wr 0 (.slice Ar (rowM wz cols b).length cr) rfl (Nat.zero_le _)).reads.2.2
          have HBA := Aside0.mk (below_alloc HBQ.out (.cells #[.slice Ar (rowM wz cols b).length cr] 22))
          clear hur hcell hce HRO
          go_wp2_with (at_builtin; refine apVs w3.heap.size rfl (.tmp 45) (.tmp 47) rfl _ vs [.slice Ar (rowM wz cols b).length cr] (some ⟨wr.heap.size, 0, none⟩) 1 1 rfl rfl HVO.out HVC.out HBA.out HBA.out.size (by have := HVL.out; omega) ?_; intro v1 w9 ho hb hg hat; have HM9 := Aside0.mk (HO.out.snoc HBW.out HROL.out HBL.out.size ho hg); rw [← HNX.out] at HM9; have HB9 := Aside0.mk hb; clear ho hb hg hat)
          exact ⟨⟨i + 1, vs ++ [.slice Ar (rowM wz cols b).length cr], by omega, by go_num, HM9, HB9⟩, by simp [intOf]; omega⟩
    · obtain rfl : i = rows.length := by omega
      have hltz : ¬ (rows.length : Int) < (rows.length : Int) := by omega
      rw [List.take_length] at HO
      go_wp2
      go_ret
      exact ⟨_, rfl, ⟨vs, HO.out.lower HB4.out.size⟩, below_in HB4.out HBL.out⟩
end Go.Proofs.YtpjcnigohhnhnaaGreat.Im
namespace Go.Proofs.YtpjcnigohhnhnaaGreat.Pu
open Go.RowKit Kp Ext Im YtpjcnigohhnhnaaGreatW.PrintWords YtpjcnigohhnhnaaGreatW.PrintLast YtpjcnigohhnhnaaGreatW.PrintMore
def sumW : List Int → Int
  | [] => 0
  | x :: l => x + sumW l
theorem sumW_append : ∀ (a b : List Int), sumW (a ++ b) = sumW a + sumW b
  | [], b => by simp [sumW]
  | x :: a, b => by rw [List.cons_append, sumW, sumW, sumW_append a b]; omega
theorem sumW_nonneg : ∀ {l : List Int}, (∀ x ∈ l, 0 ≤ x) → 0 ≤ sumW l
  | [], _ => Int.le_refl _
  | x :: l, h => by
    have h1 := h x (List.mem_cons_self ..)
    have h2 := sumW_nonneg (l := l) fun y hy => h y (List.mem_cons_of_mem _ hy)
    rw [sumW]; omega
theorem sumW_le {B : Nat} : ∀ {l : List Int}, (∀ x ∈ l, x ≤ (B : Int)) → sumW l ≤ ((l.length * B : Nat) : Int)
  | [], _ => by simp [sumW]
  | x :: l, h => by
    have h1 := h x (List.mem_cons_self ..)
    have h2 := sumW_le (l := l) fun y hy => h y (List.mem_cons_of_mem _ hy)
    rw [sumW, List.length_cons, Nat.succ_mul]; omega
theorem sumW_take {f : Int → Int} {L : List Int} (h : ∀ y ∈ L, 0 ≤ f y) (i : Nat) : 0 ≤ sumW ((L.take i).map f) ∧ sumW ((L.take i).map f) ≤ sumW (L.map f) := by
  have h1 : 0 ≤ sumW ((L.take i).map f) := sumW_nonneg fun x hx => by
    obtain ⟨y, hy, rfl⟩ := List.mem_map.1 hx
    exact h y (List.mem_of_mem_take hy)
  have h2 : 0 ≤ sumW ((L.drop i).map f) := sumW_nonneg fun x hx => by
    obtain ⟨y, hy, rfl⟩ := List.mem_map.1 hx
    exact h y (List.mem_of_mem_drop hy)
  have h3 : sumW (L.map f) = sumW ((L.take i).map f) + sumW ((L.drop i).map f) := by
    rw [← sumW_append, ← List.map_append, List.take_append_drop]
  omega
theorem sumW_succ {f : Int → Int} {L : List Int} {i : Nat} (hi : i < L.length) : sumW ((L.take (i + 1)).map f) = sumW ((L.take i).map f) + f L[i] := by
  rw [List.take_succ_eq_append_getElem hi, List.map_append, sumW_append]
  simp [sumW]
open Classical in
noncomputable def rankC (l : List Pr) (a : Int) : Nat := ((List.range 64).filter fun y : Nat => decide (Rch l a (y : Int))).length
theorem filter_leC {p q : Nat → Bool} : ∀ (L : List Nat), (∀ x ∈ L, p x = true → q x = true) → (L.filter p).length ≤ (L.filter q).length
  | [], _ => by simp
  | y :: L, h => by
    have h1 := filter_leC L (fun z hz => h z (by simp [hz]))
    have h2 := h y (by simp)
    rw [List.filter_cons, List.filter_cons]
    cases hp : p y with
    | true => rw [h2 hp]; simp; omega
    | false => cases q y <;> simp <;> omega
theorem filter_ltC {p q : Nat → Bool} : ∀ (L : List Nat), (∀ x ∈ L, p x = true → q x = true) → (∃ x ∈ L, q x = true ∧ p x = false) → (L.filter p).length < (L.filter q).length
  | [], _, h => by obtain ⟨x, hx, _⟩ := h; cases hx
  | x :: L, h, he => by
    rw [List.filter_cons, List.filter_cons]
    have h1 := h x (by simp)
    have hL := filter_leC L (fun z hz => h z (by simp [hz]))
    obtain ⟨y, hy, hq, hp⟩ := he
    rcases List.mem_cons.1 hy with rfl | hy
    · rw [hp, hq]; simp; omega
    · have := filter_ltC L (fun z hz => h z (by simp [hz])) ⟨y, hy, hq, hp⟩
      cases hpx : p x with
      | true => rw [h1 hpx]; simp; omega
      | false => cases q x <;> simp <;> omega
open Classical in
theorem rank_ltC {l : List Pr} (hr : FacesP l) {a y : Int} (hy : y ∈ nextZ l a) (hn : ¬ Rch l y y) : rankC l y < rankC l a := by
  have hyr := nextZ_range hr hy
  unfold rankC
  refine filter_ltC _ (fun x _ h => ?_) ⟨y.toNat, List.mem_range.2 (by omega), ?_, ?_⟩
  · exact decide_eq_true (.more hy (of_decide_eq_true h))
  · rw [Int.toNat_of_nonneg (by omega)]; exact decide_eq_true (.one hy)
  · rw [Int.toNat_of_nonneg (by omega)]; exact decide_eq_false hn
theorem ones_below_all : ((List.range 64).all fun f => (bordersL (f : Int)).all fun y => onesZ y + 1 == onesZ (f : Int)) = true := by decide +kernel
theorem ones_below {f y : Int} (h1 : 0 ≤ f) (h2 : f ≤ 63) (hy : y ∈ bordersL f) : onesZ y + 1 = onesZ f := by
  obtain ⟨m, rfl⟩ := Int.eq_ofNat_of_zero_le h1
  have := List.all_eq_true.1 (List.all_eq_true.1 ones_below_all m (List.mem_range.2 (by omega))) y hy
  simpa using this
theorem ones20_all : ((List.range 64).all fun y => decide (((List.range 64).filter fun z : Nat => onesZ (z : Int) == onesZ (y : Int)).length ≤ 20)) = true := by decide +kernel
theorem pairing_mem {xs : List Int} {l : List Pr} (hp : pairingB xs l = true) {q : Pr} (hq : q ∈ l) : pairB xs q = true := by
  obtain ⟨i, hi, rfl⟩ := List.mem_iff_getElem.1 hq
  exact (pairing_at hp hi).1
theorem pair_ones {xs : List Int} {q : Pr} (h : pairB xs q = true) : onesZ q.f1 = onesZ q.f0 + 1 := by
  unfold pairB at h
  simp only [Bool.and_eq_true, beq_iff_eq] at h
  exact h.2.2.2
theorem high_mem {l : List Pr} {x : Int} (h : highZ l x ≠ 0) : ∃ q ∈ l, q.f0 = x ∧ q.f1 = highZ l x := by
  unfold highZ at h ⊢
  cases hq : l.find? (fun q => q.f0 == x) with
  | none => rw [hq] at h; exact absurd rfl h
  | some q => exact ⟨q, List.mem_of_find?_eq_some hq, by simpa using List.find?_some hq, rfl⟩
theorem next_high {l : List Pr} {x y : Int} (h : y ∈ nextZ l x) : highZ l x ≠ 0 ∧ y ∈ bordersL (highZ l x) ∧ y ≠ x := by
  unfold nextZ at h
  split at h
  · cases h
  · rename_i h0
    have := List.mem_filter.1 h
    exact ⟨h0, this.1, by simpa using this.2⟩
theorem next_ones {n : Int} {xs : List Int} (hi : isC n xs = true) {l : List Pr} (hp : pairingB xs l = true) {x y : Int} (hy : y ∈ nextZ l x) : onesZ y = onesZ x := by
  obtain ⟨h0, hb, _⟩ := next_high hy
  obtain ⟨q, hq, h1, h2⟩ := high_mem h0
  have h3 := pair_ones (pairing_mem hp hq)
  have h4 := facesP_of hi hp q hq
  have h5 := ones_below (f := highZ l x) (by omega) (by omega) hb
  rw [h1, h2] at h3
  omega
theorem rch_ones {n : Int} {xs : List Int} (hi : isC n xs = true) {l : List Pr} (hp : pairingB xs l = true) {x y : Int} (h : Rch l x y) : onesZ y = onesZ x := by
  induction h with
  | one h => exact next_ones hi hp h
  | more h _ ih => rw [ih, next_ones hi hp h]
open Classical in
theorem rank_20 {n : Int} {xs : List Int} (hi : isC n xs = true) {l : List Pr} (hp : pairingB xs l = true) (x : Int) : rankC l x ≤ 20 := by
  unfold rankC
  cases h : (List.range 64).filter fun y : Nat => decide (Rch l x (y : Int)) with
  | nil => simp
  | cons y0 t =>
    have hy : y0 ∈ (List.range 64).filter fun y : Nat => decide (Rch l x (y : Int)) := by rw [h]; exact List.mem_cons_self ..
    obtain ⟨hy1, hy2⟩ := List.mem_filter.1 hy
    have h20 := of_decide_eq_true (List.all_eq_true.1 ones20_all y0 hy1)
    rw [← h]
    refine Nat.le_trans (filter_leC _ fun z _ hz => ?_) h20
    rw [beq_iff_eq, rch_ones hi hp (of_decide_eq_true hz), rch_ones hi hp (of_decide_eq_true hy2)]
def tw (l : List Pr) (a : Int) : Nat → Int → Int
  | 0, _ => 0
  | m + 1, x => if x = a then 1 else sumW ((nextZ l x).map fun y => tw l a m y)
def TW (l : List Pr) (a x : Int) : Int := tw l a 64 x
theorem TW_self (l : List Pr) (a : Int) : TW l a a = 1 := by unfold TW; rw [tw, if_pos rfl]
theorem tw_fuel {l : List Pr} (hr : FacesP l) (hac : ∀ x, ¬ Rch l x x) (a : Int) : ∀ (m : Nat) (x : Int), rankC l x < m → tw l a m x = tw l a (m + 1) x
  | 0, x, h => absurd h (Nat.not_lt_zero _)
  | m + 1, x, h => by
    rw [tw, tw]
    by_cases hx : x = a
    · rw [if_pos hx, if_pos hx]
    · rw [if_neg hx, if_neg hx]
      refine congrArg sumW (List.map_congr_left fun y hy => ?_)
      exact tw_fuel hr hac a m y (by have := rank_ltC hr hy (hac y); omega)
theorem tw_range {l : List Pr} (hr : FacesP l) (hac : ∀ x, ¬ Rch l x x) (a : Int) : ∀ (m : Nat) (x : Int), rankC l x < m → 0 ≤ tw l a m x ∧ tw l a m x ≤ ((6 ^ rankC l x : Nat) : Int)
  | 0, x, h => absurd h (Nat.not_lt_zero _)
  | m + 1, x, h => by
    rw [tw]
    by_cases hx : x = a
    · rw [if_pos hx]
      have := Nat.one_le_pow (rankC l x) 6 (by omega)
      omega
    · rw [if_neg hx]
      have hy : ∀ y ∈ nextZ l x, 0 ≤ tw l a m y ∧ tw l a m y ≤ ((6 ^ (rankC l x - 1) : Nat) : Int) := fun y hy => by
        have h1 := rank_ltC hr hy (hac y)
        have h2 := tw_range hr hac a m y (by omega)
        have h3 : 6 ^ rankC l y ≤ 6 ^ (rankC l x - 1) := Nat.pow_le_pow_right (by omega) (by omega)
        omega
      refine ⟨sumW_nonneg fun z hz => ?_, ?_⟩
      · obtain ⟨y, hyn, rfl⟩ := List.mem_map.1 hz
        exact (hy y hyn).1
      · cases hn : nextZ l x with
        | nil => exact Int.natCast_nonneg _
        | cons y0 t =>
          have h1 := rank_ltC hr (a := x) (y := y0) (by rw [hn]; exact List.mem_cons_self ..) (hac y0)
          have h2 := sumW_le (B := 6 ^ (rankC l x - 1)) (l := (nextZ l x).map fun y => tw l a m y) fun z hz => by
            obtain ⟨y, hyn, rfl⟩ := List.mem_map.1 hz
            exact (hy y hyn).2
          rw [List.length_map, hn] at h2
          have h3 := nextZ_len (l := l) (a := x)
          rw [hn] at h3
          have h4 : (y0 :: t).length * 6 ^ (rankC l x - 1) ≤ 6 * 6 ^ (rankC l x - 1) := Nat.mul_le_mul_right _ h3
          have h5 : 6 * 6 ^ (rankC l x - 1) = 6 ^ rankC l x := by rw [Nat.mul_comm, ← Nat.pow_succ]; congr 1; omega
          omega
theorem TW_range {n : Int} {xs : List Int} (hi : isC n xs = true) {l : List Pr} (hp : pairingB xs l = true) (hac : ∀ x, ¬ Rch l x x) (a : Int) (x : Int) : 0 ≤ TW l a x ∧ TW l a x ≤ 3656158440062976 := by
  have h1 := rank_20 hi hp x
  have h2 := tw_range (facesP_of hi hp) hac a 64 x (by omega)
  have h3 : 6 ^ rankC l x ≤ 6 ^ 20 := Nat.pow_le_pow_right (by omega) h1
  have h4 : (6 : Nat) ^ 20 = 3656158440062976 := by decide
  unfold TW
  omega
theorem TW_next {n : Int} {xs : List Int} (hi : isC n xs = true) {l : List Pr} (hp : pairingB xs l = true) (hac : ∀ x, ¬ Rch l x x) (a : Int) {x : Int} (hx : x ≠ a) : TW l a x = sumW ((nextZ l x).map (TW l a)) := by
  have h1 := rank_20 hi hp x
  unfold TW
  rw [tw_fuel (facesP_of hi hp) hac a 64 x (by omega), tw, if_neg hx]
end Go.Proofs.YtpjcnigohhnhnaaGreat.Pu
namespace Go.Proofs.YtpjcnigohhnhnaaGreat.QS
open Cw Kp Ext Go.RowKit YtpjcnigohhnhnaaGreatW.PrintWords YtpjcnigohhnhnaaGreatW.PrintLast YtpjcnigohhnhnaaGreatW.PrintMore
attribute [local go_sem] max2_int min2_int max_two min_two max_three min_three max_four min_four   -- for this text's walks alone
def spec_l02Dim.f (k : Nat) (a0 : Int) : Option (Int) := (spec_l01Ones.f k a0).bind fun t220 => (some (wrap64 (t220 - 1)))
set_option maxHeartbeats 8000000 in
set_option maxRecDepth 100000 in
theorem spec_l02Dim.calls (k : Nat) (a0 : Int) (r : Int) (w : World) (h : spec_l02Dim.f k a0 = some r) :
  Calls Tryz.prog 59 #[.int .i64 a0] w fun e w' => e = .returned (.int .i64 r) ∧ Drawn0 w w' := by
 have H : ((spec_l01Ones.f k a0).bind fun t220 => (some (wrap64 (t220 - 1)))) = some r := h
 clear h
 replace H := Option.bind_eq_some_iff.mp H
 obtain ⟨t220, A20, H⟩ := H
 try dsimp only at H
 have A2 := Aside0.mk A20
 clear A20
 obtain rfl := Option.some.inj H
 go_enter Tryz.func59, Tryz.ntmps59
 go_wp2_with (first | ((with_reducible refine gate_callee (f := 76) rfl ?_); refine cl_ (some 4) Tryz.func76 #[.int .i64 a0] ?_; (with_reducible refine (spec_l01Ones.calls k a0 t220 _ A2.out).mono ?_); rintro e w' ⟨rfl, ⟨nd, rfl⟩⟩; refine ⟨_, rfl, ?_⟩))
 go_ret
 exact ⟨by first | rfl | (simp; done) | (simp [*]; done), by repeat (first | exact Drawn0.refl _ | apply Drawn0.step)⟩
mutual
def spec_l02Numbers.l0 : Nat → List (S46) → Int → Int → Int → List Int → Option (List Int)
 | 0, _, _, _, _, _ => none
 | k + 1, x1, x5, x6, x234000, x234001 => if x6 < (x234001.length : Int) then (if 0 ≤ x6 then ((spec_l02Dim.f k (rd x234001 x6)).bind fun t235 => (spec_l02Numbers.l0 k x1 (mx x5 t235) (wrap64 (x6 + 1)) x234000 x234001)) else (none)) else (if 0 ≤ (wrap64 (x5 + 1)) then (if (wrap64 (x5 + 1) : Int).toNat ≤ 35184372088832 then ((spec_l02Critical.f k x234000 x234001 x1).bind fun t239 => (spec_l02Numbers.l1 k (List.replicate (wrap64 (x5 + 1) : Int).toNat 0) t239 0)) else (none)) else (none))
def spec_l02Numbers.l1 : Nat → List Int → List Int → Int → Option (List Int)
 | 0, _, _, _ => none
 | k + 1, x7, x8, x9 => if x9 < (x8.length : Int) then (if 0 ≤ x9 then ((spec_l02Dim.f k (rd x8 x9)).bind fun t243 => (if 0 ≤ t243 then (if t243 < (x7.length : Int) then (spec_l02Numbers.l1 k (x7.set (t243 : Int).toNat (wrap64 ((rd x7 t243) + 1))) x8 (wrap64 (x9 + 1))) else (none)) else (none))) else (none)) else (some x7)
end
def spec_l02Numbers.f (k : Nat) (a0_0 : Int) (l0_1 : List Int) (l1 : List (S46)) : Option (List Int) := spec_l02Numbers.l0 k l1 (-1) 0 a0_0 l0_1
def spec_l02Numbers.T6 : Bool × List (List Nat × List Nat) := (true, [([], []), ([0], [0]), ([1, 1], [1]), ([], []), ([], []), ([3, 4], [3, 4]), ([2, 5, 0, 1, 2], [2]), ([5, 6, 0, 1, 2, 3, 4, 5, 6], [5])])
def spec_l02Numbers.B6 : List Nat := [0, 1, 3, 0, 0, 24, 63, 127]
theorem spec_l02Numbers.tab6 : rtab .any (opsOf Tryz.f33 6) = spec_l02Numbers.T6 := by kernel_rfl
theorem spec_l02Numbers.bits6 : waitsOk spec_l02Numbers.T6.2 spec_l02Numbers.B6 = true := by kernel_rfl
set_option maxHeartbeats 8000000 in
set_option maxRecDepth 100000 in
theorem spec_l02Numbers.calls (k : Nat) (a0_0 : Int) (A0_1 : Option Addr) (c0_1 : Nat) (l0_1 : List Int) (A1 : Option Addr) (c1 : Nat) (l1 : List (S46)) (r : List Int) (w : World) (hr0_1 : Kd.C (Kd.int .i64) w A0_1 l0_1.length l0_1) (hc0_1 : l0_1.length ≤ c0_1) (hr1 : Kd.C k46 w A1 l1.length l1) (hc1 : l1.length ≤ c1) (h : spec_l02Numbers.f k a0_0 l0_1 l1 = some r) :
  Calls Tryz.prog 33 #[.agg #[.int .i64 a0_0, .slice A0_1 l0_1.length c0_1], .slice A1 l1.length c1] w fun e w' => ∃ v0_ : Value, e = .returned (v0_) ∧ Kd.R (Kd.int .i64) 2 w' w.heap.size (fun _ => True) v0_ r ∧ Below w.heap.size w w' := by
 have hu30 := Tryz.underlying30
 have HR0_1 := Aside0.mk hr0_1
 have HC0_1 := Aside0.mk hc0_1
 clear hr0_1 hc0_1
 have HR1 := Aside0.mk hr1
 have HC1 := Aside0.mk hc1
 clear hr1 hc1
 have HB := Aside0.mk (Below.refl w.heap.size w)
 have H : (spec_l02Numbers.l0 k l1 (-1) 0 a0_0 l0_1) = some r := h
 clear h
 have H' := Aside0.mk H
 clear H
 go_enter Tryz.func33, Tryz.ntmps33
 go_wp2_with (first | ((with_reducible refine gate_dst (N := 2) rfl ?_); refine box_event ?hg (N := 2) ?hd (cs := #[.int .i64 a0_0, .slice A0_1 l0_1.length c0_1]) (t := 30) ?hr ?_; (case hd => rfl); (case hg => rfl); (case hr => first | (go_simp; done) | (go_simp; rfl)); intro gb233 hg w3 hbox hb; have BK233 := Aside0.mk (hbox); have GW233 := gH HB hg; have GE233 := gH HB hg; replace HB := sH HB hb; clear hb hbox hg))
 go_loopg [5, 6] k (fun kq v5 v6 w' => ∃ (x5_1 : Int) (x6_1 : Int), v5 = .int .i64 x5_1 ∧ v6 = .int .i64 x6_1 ∧ Aside0 (spec_l02Numbers.l0 kq l1 x5_1 x6_1 a0_0 l0_1 = some r) ∧ Aside0 (kq ≤ k) ∧ Aside0 (w'.heap[gb233]? = some (.cells #[.int .i64 a0_0, (.slice A0_1 l0_1.length c0_1)] 30 (0, 0))) ∧ Aside0 (Below w.heap.size w w'))
 case atStart => exact ⟨((-1)), (0), (by first | rfl | (simp; done) | (simp [*]; done)), (by first | rfl | (simp; done) | (simp [*]; done)), H', ⟨Nat.le_refl _⟩, ⟨pB BK233⟩, ⟨pH HB⟩⟩
 case round =>
  clear H'
  try clear c1
  try clear p2
  try clear c3
  obtain ⟨x5_1, x6_1, rfl, rfl, HA, HK1, BK233, HB⟩ := hrel
  cases gk with
  | zero => exact absurd HA.out (by simp [spec_l02Numbers.l0])
  | succ k1 =>
   have H := HA.out
   clear HA
   simp only [spec_l02Numbers.l0] at H
   by_cases c4 : x6_1 < (l0_1.length : Int)
   ·rw [if_pos c4] at H
    have c4b0 : decide (x6_1 < (l0_1.length : Int)) = true := decide_eq_true c4
    clear c4
    by_cases c5 : 0 ≤ x6_1
    ·rw [if_pos c5] at H
     have c5b0 : decide (0 ≤ x6_1) = true := decide_eq_true c5
     clear c5
     replace H := Option.bind_eq_some_iff.mp H
     obtain ⟨t235, A60, H⟩ := H
     try dsimp only at H
     have A6 := Aside0.mk A60
     clear A60
     obtain ⟨ji7, hji7⟩ : ∃ j_ : Int, (mx x5_1 t235) = j_ := ⟨_, rfl⟩
     replace H : (spec_l02Numbers.l0 k1 l1 ji7 (wrap64 (x6_1 + 1)) a0_0 l0_1) = some r := by first | (rw [hji7] at H; exact H) | (simp only [hji7] at H ⊢; exact H)
     (try rw [hji7] at A6)
     have hji7_ : (if x5_1 < t235 then t235 else x5_1) = ji7 := hji7
     have H' := Aside0.mk H
     clear H
     have hcz8_0 : wr.cell? ⟨gb233, 0, none⟩ = some (.int .i64 a0_0) := cB BK233 0
     have hcz8_1 : wr.cell? ⟨gb233, 1, none⟩ = some (.slice A0_1 l0_1.length c0_1) := cB BK233 1
     have hfz8_0 := zB BK233 0
     have hfz8_1 := zB BK233 1
     have p234 : 0 ≤ (x6_1 : Int) := of_decide_eq_true (by first | (with_reducible assumption) | assumption)
     have q234 : x6_1 < (l0_1.length : Int) := of_decide_eq_true (by first | (with_reducible assumption) | assumption)
     obtain ⟨ad234, e234, hx234_0⟩ := Kd.at_int HR0_1.out x6_1 p234 q234
     cases e234
     replace hx234_0 := cH HB hx234_0
     replace p234 := eq_true p234
     replace q234 := eq_true q234
     go_wp2_with (first | ((with_reducible refine gate_callee (f := 59) rfl ?_); refine cl_ (some 23) Tryz.func59 #[.int .i64 (rd l0_1 x6_1)] ?_; (with_reducible refine (spec_l02Dim.calls k1 (rd l0_1 x6_1) t235 _ A6.out).mono ?_); rintro e w' ⟨rfl, ⟨nd, rfl⟩⟩; refine ⟨_, rfl, ?_⟩))
     go_roundg k1
     case measure => have := HK1.out; omega
     case rel => exact ⟨(ji7), (wrap64 (x6_1 + 1)), (by first | rfl | (simp; done) | (simp only [← hji7] <;> (first | rfl | simp)) | (simp [*]; done)), (by first | rfl | (simp; done) | (simp [*]; done)), H', ⟨by have := HK1.out; omega⟩, ⟨pB BK233⟩, ⟨pH HB⟩⟩
    ·rw [if_neg c5] at H
     exact absurd H (by simp)
   ·rw [if_neg c4] at H
    have c4b0 : decide (x6_1 < (l0_1.length : Int)) = false := decide_eq_false c4
    clear c4
    obtain ⟨ji9, hji9⟩ : ∃ j_ : Int, (wrap64 (x5_1 + 1)) = j_ := ⟨_, rfl⟩
    replace H : (if 0 ≤ (ji9) then (if (ji9 : Int).toNat ≤ 35184372088832 then ((spec_l02Critical.f k1 a0_0 l0_1 l1).bind fun t239 => (spec_l02Numbers.l1 k1 (List.replicate (ji9 : Int).toNat 0) t239 0)) else (none)) else (none)) = some r := by first | (rw [hji9] at H; exact H) | (simp only [hji9] at H ⊢; exact H)
    have hji9w : (IntKind.i64.wrap (x5_1 + 1)) = ji9 := (i64_w _).trans hji9
    by_cases c10 : 0 ≤ (ji9)
    ·rw [if_pos c10] at H
     have c10b0 := eq_true c10
     have c10b1 : decide (0 ≤ (ji9)) = true := decide_eq_true c10
     clear c10
     by_cases c11 : (ji9 : Int).toNat ≤ 35184372088832
     ·rw [if_pos c11] at H
      have c11b0 := eq_true c11
      have c11b1 : decide ((ji9 : Int).toNat ≤ 35184372088832) = true := decide_eq_true c11
      clear c11
      obtain ⟨y236, hy236⟩ : ∃ y_ : List Int, y_ = (List.replicate (ji9 : Int).toNat 0) := ⟨_, rfl⟩
      replace H : ((spec_l02Critical.f k1 a0_0 l0_1 l1).bind fun t239 => (spec_l02Numbers.l1 k1 y236 t239 0)) = some r := by first | (rw [hy236]; with_reducible exact H) | (have H2_ := (Option.bind_some _ _).symm.trans H; rw [hy236]; with_reducible exact H2_) | (have H2_ := (Option.bind_some _ _).symm.trans H; with_reducible exact H2_) | with_reducible exact H | (rw [hy236]; exact H) | exact H
      have Ny236 := Aside0.mk hy236
      clear hy236
      replace H := Option.bind_eq_some_iff.mp H
      obtain ⟨t239, A120, H⟩ := H
      try dsimp only at H
      have A12 := Aside0.mk A120
      clear A120
      have H' := Aside0.mk H
      clear H
      have hcz13_0 : wr.cell? ⟨gb233, 0, none⟩ = some (.int .i64 a0_0) := cB BK233 0
      have hcz13_1 : wr.cell? ⟨gb233, 1, none⟩ = some (.slice A0_1 l0_1.length c0_1) := cB BK233 1
      have hfz13_0 := zB BK233 0
      have hfz13_1 := zB BK233 1
      try go_wp2
      replace BK233 := dB BK233
      replace HB := dH HB
      refine st_ 8 (S := fun w' => w'.cell? ⟨gb233, 0, none⟩ = some (.int .i64 a0_0) ∧ w'.cell? ⟨gb233, 1, none⟩ = some (.slice A0_1 l0_1.length c0_1)) (ds := []) ⟨cB BK233 0, cB BK233 1⟩ (fun hHeld => ?_); refine with_tabW spec_l02Numbers.tab6 spec_l02Numbers.bits6 (fun HT_ HW_ => ?_)
      generalize wr.drew = w14 at BK233 HB hHeld ⊢
      refine pu_ 0 25 1 HT_ ?_
      refine pu_ 1 26 3 HT_ ?_
      refine pu_ 4 29 19 HT_ ?_
      refine tk_ 3 28 27 HT_ HW_ hHeld ?_
      refine join_ (σ := Value × Value) 2 (mB 8 63) (fun s_ => [(27, s_.1), (30, s_.2)]) (fun s_ w' => (w'.cell? ⟨gb233, 0, none⟩ = some (.int .i64 a0_0) ∧ w'.cell? ⟨gb233, 1, none⟩ = some (.slice A0_1 l0_1.length c0_1)) ∧ (Kd.R (Kd.int .i64) 2 w' w.heap.size (fun k_ => some k_ ≠ (s_.2 : Value).ownBlock) s_.1 y236) ∧ (Kd.R (Kd.int .i64) 2 w' w.heap.size (fun k_ => some k_ ≠ (s_.1 : Value).ownBlock) s_.2 t239) ∧ (w'.heap[gb233]? = some (.cells #[.int .i64 a0_0, .slice A0_1 l0_1.length c0_1] 30 (0, 0))) ∧ (Below w.heap.size w w')) ?_ ?_
      rotate_left
      ·intro hCont
       refine two_ (i := 2) (j := 5) (Ni := some 27) (Nj := some 30) (mB 8 31) (mB 8 59) rfl rfl rfl rfl (two_of HT_.out (by kernel_rfl)) (by decide) (by decide) (fun K hK => ?_) (fun K hK => ?_)
       ·skip
        refine Kd.R_make_step (Kd.int .i64) _ 2 (by rfl) (N := 27) rfl 22 _ _ rfl ji9 rfl rfl Tryz.underlying22 (.int .i64 0) 8 info2 rfl (by decide) (by omega) 0 (ok := fun _ => True) (okp := fun _ => True) rfl (fun _ hk => hk) trivial (of_decide_eq_true (by first | (with_reducible assumption) | assumption)) (Nat.le_trans (Nat.mul_le_mul_right _ (of_decide_eq_true (by first | (with_reducible assumption) | assumption) : ji9.toNat ≤ 35184372088832)) (by omega)) (Below.refl _ _) (Nat.le_refl _) ?_
        intro v237 w15 ho16 hb hg_ hnew_
        clear hg_ hnew_
        (first | rw [← Ny236.out] at ho16 | (simp only [Int.reduceToNat] at ho16; rw [← Ny236.out] at ho16))
        have HO238 := Aside0.mk (Kd.R_lower ho16 (below_size (pH HB)))
        replace BK233 := sB BK233 hb
        replace HB := sH HB hb
        clear hb ho16
        refine hK.out _ _ ⟨cB BK233 0, cB BK233 1⟩ (fun hHeld => ?_)
        clear hK K
        refine nm_ ?_
        refine on_ 5 (some 30) 63 HT_ (fun K hK => ?_)
        refine ca_ Tryz.func60 #[.agg #[.int .i64 a0_0, .slice A0_1 l0_1.length c0_1], .slice A1 l1.length c1] ?_
        with_reducible refine (spec_l02Critical.calls k1 a0_0 _ _ l0_1 _ _ l1 t239 _ ?side1 ?side2 ?side3 ?side4 A12.out).mono ?_
        (case side1 => exact pC ((Kd.C_below HR0_1.out HB.out)))
        (case side2 => exact HC0_1.out)
        (case side3 => exact pC ((Kd.C_below HR1.out HB.out)))
        (case side4 => exact HC1.out)
        rintro e w17 ⟨v240, rfl, ho0, hb⟩
        refine ⟨_, rfl, ?_⟩
        have HO241 := Aside0.mk (Kd.R_lower (Kd.R_new' ho0 (Kd.R_lt (pR HO238))) (below_size (pH HB)))
        replace HO238 := Aside0.mk (Kd.R_elder' (pR HO238) (Kd.R_base ho0) hb)
        replace BK233 := sB BK233 hb
        replace HB := sH HB hb
        (try clear hb)
        (try clear hb2)
        (try clear hk)
        (try clear hi)
        (try clear ho0)
        refine hK.out _ _ ⟨cB BK233 0, cB BK233 1⟩ (fun hHeld => ?_)
        clear hK K
        refine nm_ ?_
        exact norm_ (by simp only [putAll, Act.put, List.setIfInBounds_toArray, List.set_cons_zero, List.set_cons_succ]) (hCont (v237, v240) _ ⟨hHeld, (by (with_reducible repeat (first | apply Kd.R_alloc | apply Kd.R_drewN | apply Kd.R_drew)); exact Kd.R_mono HO238.out (fun _ hk => hk.2)), (by (with_reducible repeat (first | apply Kd.R_alloc | apply Kd.R_drewN | apply Kd.R_drew)); exact Kd.R_mono HO241.out (fun _ hk => hk.2)), (pB BK233), (pH HB)⟩)
       ·skip
        refine ca_ Tryz.func60 #[.agg #[.int .i64 a0_0, .slice A0_1 l0_1.length c0_1], .slice A1 l1.length c1] ?_
        with_reducible refine (spec_l02Critical.calls k1 a0_0 _ _ l0_1 _ _ l1 t239 _ ?side1 ?side2 ?side3 ?side4 A12.out).mono ?_
        (case side1 => exact pC ((Kd.C_below HR0_1.out HB.out)))
        (case side2 => exact HC0_1.out)
        (case side3 => exact pC ((Kd.C_below HR1.out HB.out)))
        (case side4 => exact HC1.out)
        rintro e w15 ⟨v240, rfl, ho0, hb⟩
        refine ⟨_, rfl, ?_⟩
        have HO241 := Aside0.mk (Kd.R_lower ho0 (below_size (pH HB)))
        replace BK233 := sB BK233 hb
        replace HB := sH HB hb
        (try clear hb)
        (try clear hb2)
        (try clear hk)
        (try clear hi)
        (try clear ho0)
        refine hK.out _ _ ⟨cB BK233 0, cB BK233 1⟩ (fun hHeld => ?_)
        clear hK K
        refine nm_ ?_
        refine on_ 2 (some 27) 63 HT_ (fun K hK => ?_)
        refine Kd.R_make_step (Kd.int .i64) _ 2 (by rfl) (N := 27) rfl 22 _ _ rfl ji9 rfl rfl Tryz.underlying22 (.int .i64 0) 8 info2 rfl (by decide) (by omega) 0 (ok := fun _ => True) (okp := fun _ => True) rfl (fun _ hk => hk) trivial (of_decide_eq_true (by first | (with_reducible assumption) | assumption)) (Nat.le_trans (Nat.mul_le_mul_right _ (of_decide_eq_true (by first | (with_reducible assumption) | assumption) : ji9.toNat ≤ 35184372088832)) (by omega)) (Below.refl _ _) (Nat.le_refl _) ?_
        intro v237 w16 ho17 hb hg_ hnew_
        clear hg_ hnew_
        (first | rw [← Ny236.out] at ho17 | (simp only [Int.reduceToNat] at ho17; rw [← Ny236.out] at ho17))
        have HO238 := Aside0.mk (Kd.R_lower (Kd.R_new' ho17 (Kd.R_lt (pR HO241))) (below_size (pH HB)))
        replace HO241 := Aside0.mk (Kd.R_elder' (pR HO241) (Kd.R_base ho17) hb)
        replace BK233 := sB BK233 hb
        replace HB := sH HB hb
        clear hb ho17
        refine hK.out _ _ ⟨cB BK233 0, cB BK233 1⟩ (fun hHeld => ?_)
        clear hK K
        refine nm_ ?_
        exact norm_ (by simp only [putAll, Act.put, List.setIfInBounds_toArray, List.set_cons_zero, List.set_cons_succ]) (hCont (v237, v240) _ ⟨hHeld, (by (with_reducible repeat (first | apply Kd.R_alloc | apply Kd.R_drewN | apply Kd.R_drew)); exact Kd.R_mono HO238.out (fun _ hk => hk.2)), (by (with_reducible repeat (first | apply Kd.R_alloc | apply Kd.R_drewN | apply Kd.R_drew)); exact Kd.R_mono HO241.out (fun _ hk => hk.2)), (pB BK233), (pH HB)⟩)
      rintro ⟨v237, v240⟩ w18 ⟨hS_, h0_, h1_, h2_, h3_⟩
      have n0_ : Aside0 (Kd.R (Kd.int .i64) 2 w18 w.heap.size (fun k_ => some k_ ≠ (v240 : Value).ownBlock) v237 y236) := ⟨h0_⟩
      have n1_ : Aside0 (Kd.R (Kd.int .i64) 2 w18 w.heap.size (fun k_ => some k_ ≠ (v237 : Value).ownBlock) v240 t239) := ⟨h1_⟩
      have n2_ : Aside0 (w18.heap[gb233]? = some (.cells #[.int .i64 a0_0, .slice A0_1 l0_1.length c0_1] 30 (0, 0))) := ⟨h2_⟩
      have n3_ : Aside0 (Below w.heap.size w w18) := ⟨h3_⟩
      clear BK233
      clear HB
      clear h0_ h1_ h2_ h3_
      have HO238 := n0_
      have HO241 := n1_
      have BK233 := n2_
      have HB := n3_
      clear n0_ n1_ n2_ n3_
      have hHeld : w18.cell? ⟨gb233, 0, none⟩ = some (.int .i64 a0_0) ∧ w18.cell? ⟨gb233, 1, none⟩ = some (.slice A0_1 l0_1.length c0_1) := hS_
      refine norm_ (a' := ?_) ?_ ?_
      rotate_left
      ·simp only [putAll, Act.put, List.setIfInBounds_toArray, List.set_cons_zero, List.set_cons_succ]
       rfl
      refine pu_ 6 7 127 HT_ ?_
      refine pu_ 7 8 255 HT_ ?_
      refine dn_ HT_ ?_
      try go_wp2
      go_loopg [9] k1 (fun kq v9 w' => ∃ (x7_2 : List Int) (x9_2 : Int), v9 = .int .i64 x9_2 ∧ Aside0 (spec_l02Numbers.l1 kq x7_2 t239 x9_2 = some r) ∧ Aside0 (kq ≤ k1) ∧ Aside0 (Kd.R (Kd.int .i64) 2 w' w.heap.size (fun k_ => some k_ ≠ (v240 : Value).ownBlock) v237 x7_2) ∧ Aside0 (Kd.R (Kd.int .i64) 2 w' w.heap.size (fun k_ => some k_ ≠ (v237 : Value).ownBlock) v240 t239) ∧ Aside0 (w'.heap[gb233]? = some (.cells #[.int .i64 a0_0, (.slice A0_1 l0_1.length c0_1)] 30 (0, 0))) ∧ Aside0 (Below w.heap.size w w'))
      case atStart => exact ⟨(y236), (0), (by first | rfl | (simp; done) | (simp [*]; done)), H', ⟨Nat.le_refl _⟩, ⟨by (with_reducible repeat (first | apply Kd.R_alloc | apply Kd.R_drewN | apply Kd.R_drew)); exact HO238.out⟩, ⟨by (with_reducible repeat (first | apply Kd.R_alloc | apply Kd.R_drewN | apply Kd.R_drew)); exact HO241.out⟩, ⟨pB BK233⟩, ⟨pH HB⟩⟩
      case round =>
       clear H'
       try clear c1
       try clear p2
       try clear q2
       try clear hx2
       try clear c3
       try clear c4
       try clear c4b0
       try clear c5
       try clear c5b0
       try clear c6
       try clear p6
       try clear c10
       try clear c10b0
       try clear c10b1
       try clear c11
       try clear c11b0
       try clear c11b1
       try clear hcz13_0
       try clear hcz13_1
       try clear hcz8_0
       try clear hcz8_1
       try clear hfz13_0
       try clear hfz13_1
       try clear hfz8_0
       try clear hfz8_1
       try clear hx234_0
       try clear p2
       try clear p234
       try clear q234
       obtain ⟨x7_2, x9_2, rfl, HA, HK2, HO_7, HO_8, BK233, HB⟩ := hrel
       cases gk with
       | zero => exact absurd HA.out (by simp [spec_l02Numbers.l1])
       | succ k2 =>
        have H := HA.out
        clear HA
        simp only [spec_l02Numbers.l1] at H
        by_cases c19 : x9_2 < (t239.length : Int)
        ·rw [if_pos c19] at H
         have c19b0 : decide (x9_2 < (t239.length : Int)) = true := decide_eq_true c19
         clear c19
         by_cases c20 : 0 ≤ x9_2
         ·rw [if_pos c20] at H
          have c20b0 : decide (0 ≤ x9_2) = true := decide_eq_true c20
          clear c20
          replace H := Option.bind_eq_some_iff.mp H
          obtain ⟨t243, A210, H⟩ := H
          try dsimp only at H
          have A21 := Aside0.mk A210
          clear A210
          by_cases c22 : 0 ≤ t243
          ·rw [if_pos c22] at H
           have c22b0 : decide (0 ≤ t243) = true := decide_eq_true c22
           clear c22
           by_cases c23 : t243 < (x7_2.length : Int)
           ·rw [if_pos c23] at H
            have c23b0 : decide (t243 < (x7_2.length : Int)) = true := decide_eq_true c23
            clear c23
            obtain ⟨y245, hy245⟩ : ∃ y_ : List Int, y_ = (x7_2.set (t243 : Int).toNat (wrap64 ((rd x7_2 t243) + 1))) := ⟨_, rfl⟩
            replace H : (spec_l02Numbers.l1 k2 y245 t239 (wrap64 (x9_2 + 1))) = some r := by first | (rw [hy245]; with_reducible exact H) | (have H2_ := (Option.bind_some _ _).symm.trans H; rw [hy245]; with_reducible exact H2_) | (have H2_ := (Option.bind_some _ _).symm.trans H; with_reducible exact H2_) | with_reducible exact H | (rw [hy245]; exact H) | exact H
            have Ny245 := Aside0.mk hy245
            clear hy245
            have H' := Aside0.mk H
            clear H
            obtain ⟨Ao25, co25, eo25⟩ := Kd.R_slice HO_8.out
            subst eo25
            have p242 : 0 ≤ (x9_2 : Int) := of_decide_eq_true (by first | (with_reducible assumption) | assumption)
            have q242 : x9_2 < (t239.length : Int) := of_decide_eq_true (by first | (with_reducible assumption) | assumption)
            obtain ⟨ad242, e242, hx242_0⟩ := Kd.at_int (Kd.R_reads' HO_8.out).2.2 x9_2 p242 q242
            cases e242
            replace p242 := eq_true p242
            replace q242 := eq_true q242
            go_wp2_with (first | ((with_reducible refine gate_callee (f := 59) rfl ?_); refine cl_ (some 42) Tryz.func59 #[.int .i64 (rd t239 x9_2)] ?_; (with_reducible refine (spec_l02Dim.calls k2 (rd t239 x9_2) t243 _ A21.out).mono ?_); rintro e w' ⟨rfl, ⟨nd, rfl⟩⟩; refine ⟨_, rfl, ?_⟩; (try (rw [drewN_self wr]; generalize hq_ : World.drewN wr _ = wr; have n0_ : Aside0 (Kd.R (Kd.int .i64) 2 wr w.heap.size (fun k_ => some k_ ≠ (.slice (some ad242) t239.length co25 : Value).ownBlock) v237 x7_2) := ⟨by rw [← hq_]; exact (pR HO_7)⟩; have n1_ : Aside0 (Kd.R (Kd.int .i64) 2 wr w.heap.size (fun k_ => some k_ ≠ (v237 : Value).ownBlock) (.slice (some ad242) t239.length co25) t239) := ⟨by rw [← hq_]; exact (pR HO_8)⟩; have n2_ : Aside0 (wr.heap[gb233]? = some (.cells #[.int .i64 a0_0, .slice A0_1 l0_1.length c0_1] 30 (0, 0))) := ⟨by rw [← hq_]; exact (pB BK233)⟩; have n3_ : Aside0 (Below w.heap.size w wr) := ⟨by rw [← hq_]; exact (pH HB)⟩; clear HO_7 HO_8 BK233 HB hq_; have HO_7 := n0_; have HO_8 := n1_; have BK233 := n2_; have HB := n3_; clear n0_ n1_ n2_ n3_)); (try (have hcz26_0 : wr.cell? ⟨gb233, 0, none⟩ = some (.int .i64 a0_0) := cB BK233 0; have hcz26_1 : wr.cell? ⟨gb233, 1, none⟩ = some (.slice A0_1 l0_1.length c0_1) := cB BK233 1; have hfz26_0 := zB BK233 0; have hfz26_1 := zB BK233 1)); obtain ⟨Ao27, co27, eo27⟩ := Kd.R_slice HO_7.out; subst eo27; have p244 : 0 ≤ (t243 : Int) := of_decide_eq_true (by first | (with_reducible assumption) | assumption); have q244 : t243 < (x7_2.length : Int) := of_decide_eq_true (by first | (with_reducible assumption) | assumption); obtain ⟨ad244, e244, hx244_0⟩ := Kd.at_int (Kd.R_reads' HO_7.out).2.2 t243 p244 q244; cases e244; replace p244 := eq_true p244; replace q244 := eq_true q244; have p24 : 0 ≤ (t243 : Int) := of_decide_eq_true (by first | (with_reducible assumption) | assumption); have q24 : (t243 : Int) < ((x7_2.length : Int) : Int) := of_decide_eq_true (by first | (with_reducible assumption) | assumption); obtain ⟨go24, co24, eo24, gb24, gl24, cl24, HG24⟩ := Kd.R_form HO_7.out (by omega); (first | cases eo24 | (injection eo24 with ea_ en_ ec_; (first | subst ea_ | (injection ea_ with ea_; subst ea_)); subst ec_; clear en_)); have GB24 := Aside0.mk gb24; have GG24 := Aside0.mk HG24; clear gb24 gl24 HG24; (first | simp only [add_plain] at hx244_0 | skip); obtain ⟨hx24_0, hf24_0⟩ := Kd.R_celln 0 HO_7.out (t243 : Int) p24 q24; replace p24 := eq_true p24; replace q24 := eq_true q24; obtain ⟨hy28_, hz28_⟩ := Kd.R_celln 0 HO_7.out (t243 : Int) (of_decide_eq_true (by first | (with_reducible assumption) | assumption)) (of_decide_eq_true (by first | (with_reducible assumption) | assumption)); have HP28 := Kd.R_putg HO_7.out (t243 : Int) (wrap64 ((rd x7_2 t243) + 1))) | ((with_reducible refine gate_store (t := 2) (p := 46) rfl ?_); refine store_event (t := 2) (p := 46) (v := ?vo_w29) (w1 := (wr.setCell ⟨go24, (t243 : Int).toNat, none⟩ (.int .i64 (wrap64 ((rd x7_2 t243) + 1))))) ?hg ?ho ?hn ?hr ?_; (case ho => rfl); (case hg => rfl); (case hn => rfl); (case hr => first | (go_simp; done) | (go_simp; rfl)); intro w29 hw; have hg : wr.grownBy w29 (some go24) := (by rw [hw]; exact HP28.2); have hp_ : Kd.R (Kd.int .i64) 2 w29 w.heap.size (fun k_ => some k_ ≠ (.slice (some ad242) t239.length co25 : Value).ownBlock) (.slice (some ⟨go24, 0, none⟩) x7_2.length co27) y245 := (by rw [hw, Ny245.out]; exact HP28.1); clear HP28; have n0_ := Aside0.mk (hp_); have n1_ := Aside0.mk (Kd.R_after (v := (.slice (some ⟨go24, 0, none⟩) x7_2.length co27)) (v1 := (.slice (some ⟨go24, 0, none⟩) x7_2.length co27)) (ok := (fun _ => True)) (by (with_reducible repeat (first | apply Kd.R_alloc | apply Kd.R_drewN | apply Kd.R_drew)); exact Kd.R_mono HO_8.out (fun _ hk => ⟨trivial, hk⟩)) hg (.inl rfl)); have n2_ := Aside0.mk (blk_grown (g := gb233) (o := .cells #[.int .i64 a0_0, .slice A0_1 l0_1.length c0_1] 30 (0, 0)) (pB BK233) hg (Kd.R_ne HO_7.out BK233.out (by decide))); have n3_ := Aside0.mk ((by rw [hw]; exact below_set (HB.out) GB24.out : Below w.heap.size w w29)); clear HO_7; clear HO_8; clear BK233; clear HB; have HO_7 := n0_; have HO_8 := n1_; have BK233 := n2_; have HB := n3_; clear n0_ n1_ n2_ n3_; clear hg hw hp_))
            go_roundg k2
            case measure => have := HK1.out; have := HK2.out; omega
            case rel => exact ⟨(y245), (wrap64 (x9_2 + 1)), (by first | rfl | (simp; done) | (simp [*]; done)), H', ⟨by have := HK1.out; have := HK2.out; omega⟩, ⟨by (with_reducible repeat (first | apply Kd.R_alloc | apply Kd.R_drewN | apply Kd.R_drew)); exact HO_7.out⟩, ⟨by (with_reducible repeat (first | apply Kd.R_alloc | apply Kd.R_drewN | apply Kd.R_drew)); exact Kd.R_mono HO_8.out (fun _ hk => hk.2)⟩, ⟨pB BK233⟩, ⟨pH HB⟩⟩
           ·rw [if_neg c23] at H
            exact absurd H (by simp)
          ·rw [if_neg c22] at H
           exact absurd H (by simp)
         ·rw [if_neg c20] at H
          exact absurd H (by simp)
        ·rw [if_neg c19] at H
         have c19b0 : decide (x9_2 < (t239.length : Int)) = false := decide_eq_false c19
         clear c19
         obtain rfl := Option.some.inj H
         obtain ⟨Ao30, co30, eo30⟩ := Kd.R_slice HO_8.out
         subst eo30
         go_wp2
         go_ret
         exact ⟨_, by first | rfl | (simp [errW_none, errW_some] <;> rfl) | (simp only [← hji9]; first | rfl | (simp [errW_none, errW_some] <;> rfl)) | (simp [*, errW_none, errW_some] <;> rfl) | (exfalso; simp_all), by (with_reducible repeat (first | apply Kd.R_alloc | apply Kd.R_drewN | apply Kd.R_drew)); exact Kd.R_mono HO_7.out (fun _ hk => trivial), pH HB⟩
     ·rw [if_neg c11] at H
      exact absurd H (by simp)
    ·rw [if_neg c10] at H
     exact absurd H (by simp)
end Go.Proofs.YtpjcnigohhnhnaaGreat.QS
namespace Go.Proofs.YtpjcnigohhnhnaaGreat.Pu
open Go.RowKit Kp Ext QS Im YtpjcnigohhnhnaaGreatW.PrintWords YtpjcnigohhnhnaaGreatW.PrintLast YtpjcnigohhnhnaaGreatW.PrintMore
def cntL (D : Nat) (l : List Int) : List Int := (List.range D).map fun j => ((l.filter fun x => onesZ x == ((j + 1 : Nat) : Int)).length : Int)
theorem cntL_len (D : Nat) (l : List Int) : (cntL D l).length = D := by simp [cntL]
theorem cntL_at {D j : Nat} (l : List Int) (h : j < D) : (cntL D l)[j]? = some ((l.filter fun x => onesZ x == ((j + 1 : Nat) : Int)).length : Int) := by simp [cntL, h]
theorem cntL_nil (D : Nat) : cntL D [] = List.replicate D 0 := by
  refine List.ext_getElem? fun j => ?_
  rcases Nat.lt_or_ge j D with h | h
  · rw [cntL_at [] h]; simp [h]
  · rw [List.getElem?_eq_none (by rw [cntL_len]; exact h), List.getElem?_eq_none (by simp; exact h)]
theorem cntL_snoc {D d : Nat} (l : List Int) (x : Int) (hd : d < D) (hx : onesZ x = ((d + 1 : Nat) : Int)) : (cntL D l).set d ((cntL D l)[d]?.getD 0 + 1) = cntL D (l ++ [x]) := by
  refine List.ext_getElem? fun j => ?_
  rcases Nat.lt_or_ge j D with h | h
  · rw [cntL_at (l ++ [x]) h, List.filter_append, List.length_append, cntL_at l hd]
    by_cases e : d = j
    · subst e
      rw [List.getElem?_set_self (by rw [cntL_len]; exact h)]
      simp [hx]
    · rw [List.getElem?_set_ne e, cntL_at l h]
      have : (onesZ x == ((j + 1 : Nat) : Int)) = false := by rw [hx]; simp; omega
      rw [List.filter_cons_of_neg (a := x) (l := []) (by rw [this]; exact Bool.false_ne_true), List.filter_nil]; simp
  · rw [List.getElem?_eq_none (by rw [List.length_set, cntL_len]; exact h), List.getElem?_eq_none (by rw [cntL_len]; exact h)]
theorem cntL_le {D d : Nat} (l : List Int) : (cntL D l)[d]?.getD 0 ≤ (l.length : Int) ∧ 0 ≤ (cntL D l)[d]?.getD 0 := by
  rcases Nat.lt_or_ge d D with h | h
  · rw [cntL_at l h]
    have := List.length_filter_le (fun x => onesZ x == ((d + 1 : Nat) : Int)) l
    simp only [Option.getD_some]; omega
  · rw [List.getElem?_eq_none (by rw [cntL_len]; exact h)]; simp
theorem ones1_all : ((List.range 64).all fun f => f == 0 || decide (1 ≤ onesZ (f : Int))) = true := by decide +kernel
theorem ones1 {x : Int} (h : 1 ≤ x ∧ x ≤ 63) : 1 ≤ onesZ x := by
  obtain ⟨m, rfl⟩ := Int.eq_ofNat_of_zero_le (show 0 ≤ x by omega)
  have h2 := List.all_eq_true.1 ones1_all m (List.mem_range.2 (by omega))
  have h0 : (m == 0) = false := by simp; omega
  rw [h0, Bool.false_or] at h2
  exact of_decide_eq_true h2
theorem foldmx_ge (g : Int → Int) : ∀ (l : List Int) (a : Int), a ≤ l.foldl (fun a x => max a (g x)) a ∧ ∀ x ∈ l, g x ≤ l.foldl (fun a x => max a (g x)) a
  | [], a => ⟨Int.le_refl _, fun x hx => by cases hx⟩
  | x :: l, a => by
    rw [List.foldl_cons]
    obtain ⟨h1, h2⟩ := foldmx_ge g l (max a (g x))
    refine ⟨by have := Int.le_max_left a (g x); omega, fun y hy => ?_⟩
    rcases List.mem_cons.1 hy with rfl | hy
    · have := Int.le_max_right a (g y); omega
    · exact h2 y hy
theorem foldmx_hit (g : Int → Int) : ∀ (l : List Int) (a : Int), l.foldl (fun a x => max a (g x)) a = a ∨ ∃ x ∈ l, g x = l.foldl (fun a x => max a (g x)) a
  | [], a => .inl rfl
  | x :: l, a => by
    rw [List.foldl_cons]
    rcases foldmx_hit g l (max a (g x)) with h | ⟨y, hy, h⟩
    · rw [h]
      rcases Int.le_total a (g x) with h1 | h1
      · rw [Int.max_eq_right h1]
        exact .inr ⟨x, by simp, rfl⟩
      · rw [Int.max_eq_left h1]
        exact .inl rfl
    · exact .inr ⟨y, by simp [hy], h⟩
theorem dim_rng (l : List Int) : -1 ≤ dimL l ∧ dimL l ≤ 5 ∧ ∀ x ∈ l, onesZ x ≤ dimL l + 1 := by
  obtain ⟨h1, h2⟩ := foldmx_ge (fun x => onesZ x - 1) l (-1)
  refine ⟨h1, ?_, fun x hx => ?_⟩
  · rcases foldmx_hit (fun x => onesZ x - 1) l (-1) with h | ⟨x, _, h⟩
    · unfold dimL; omega
    · have h3 : onesZ x - 1 = dimL l := h
      have := ones_le x
      omega
  · have := h2 x hx
    have h3 : onesZ x - 1 ≤ dimL l := this
    omega
theorem ev_dim2 {x : Int} (h1 : 1 ≤ x) (h2 : x ≤ 63) : Ev (fun k => spec_l02Dim.f k x) (onesZ x - 1) := by
  have := ones_le x
  unfold spec_l02Dim.f
  refine Ev.bind (ev_ones (by omega) (by omega)) ?_
  have h : wrap64 (onesZ x - 1) = onesZ x - 1 := w64 (by have := ones1 ⟨h1, h2⟩; omega) (by omega)
  rw [h]
  exact Ev.now _
theorem num_l1 (D : Nat) (l : List Int) (hr : ∀ x ∈ l, (1 ≤ x ∧ x ≤ 63) ∧ 1 ≤ onesZ x ∧ onesZ x ≤ (D : Int)) (hm : l.length ≤ 1048576) :
    ∀ d (i : Nat), l.length - i = d → i ≤ l.length → Ev (fun k => spec_l02Numbers.l1 k (cntL D (l.take i)) l (i : Int)) (cntL D l) := by
  intro d
  induction d with
  | zero =>
    intro i hd hi
    rw [List.take_of_length_le (by omega)]
    refine Ev.step (f := fun k => some (cntL D l)) (fun k => ?_) (Ev.now _)
    simp only [spec_l02Numbers.l1]; rw [if_neg (by omega)]
  | succ d ih =>
    intro i hd hi
    have hi' : i < l.length := by omega
    obtain ⟨hx, hx1, hx2⟩ := hr _ (List.getElem_mem hi')
    obtain ⟨e, he⟩ : ∃ e : Nat, onesZ l[i] = ((e + 1 : Nat) : Int) := ⟨(onesZ l[i]).toNat - 1, by omega⟩
    have heD : e < D := by omega
    have hle := cntL_le (D := D) (d := e) (l.take i)
    rw [List.length_take] at hle
    have hlen := cntL_len D (l.take i)
    refine Ev.step (f := fun k => (spec_l02Dim.f k l[i]).bind fun t => if 0 ≤ t then (if t < ((cntL D (l.take i)).length : Int) then spec_l02Numbers.l1 k ((cntL D (l.take i)).set t.toNat (wrap64 (rd (cntL D (l.take i)) t + 1))) l ((i + 1 : Nat) : Int) else none) else none) (fun k => ?_) ?_
    · simp only [spec_l02Numbers.l1]
      rw [if_pos (by omega), if_pos (by omega), rd_at hi', succ64 (by omega)]
    · refine Ev.bind (ev_dim2 hx.1 hx.2) ?_
      rw [he, show ((e + 1 : Nat) : Int) - 1 = (e : Int) by omega]
      simp only [if_pos (show (0 : Int) ≤ (e : Int) by omega), if_pos (show (e : Int) < ((cntL D (l.take i)).length : Int) by omega), Int.toNat_natCast]
      have hrd : rd (cntL D (l.take i)) (e : Int) = (cntL D (l.take i))[e]?.getD 0 := by rw [rd_at (by omega), List.getElem?_eq_getElem (by omega)]; rfl
      rw [hrd, w64 (by omega) (by omega), cntL_snoc (l.take i) l[i] heD he, ← List.take_succ_eq_append_getElem hi']
      exact ih (i + 1) (by omega) (by omega)
theorem num_l0 {n : Int} {xs : List Int} (hi : isC n xs = true) {l : List Pr} (hl : l.length ≤ 1048576) : ∀ d (i : Nat) (a : Int), xs.length - i = d → i ≤ xs.length → (xs.drop i).foldl (fun a x => max a (onesZ x - 1)) a = dimL xs → -1 ≤ a ∧ a ≤ 5 → Ev (fun k => spec_l02Numbers.l0 k l a (i : Int) n xs) (cntL (dimL xs + 1).toNat (critL xs l)) := by
  have hs := isC_small hi
  have h63 := isC_63 hi
  obtain ⟨d1, d2, d3⟩ := dim_rng xs
  intro d
  induction d with
  | zero =>
    intro i a hd hil hf ha
    rw [List.drop_eq_nil_of_le (by omega)] at hf
    have hf' : a = dimL xs := hf
    subst hf'
    have hcl : (critL xs l).length ≤ xs.length := List.length_filter_le _ _
    have hcm : ∀ x ∈ critL xs l, x ∈ xs := fun x hx => (List.mem_filter.1 hx).1
    obtain ⟨D, hD⟩ := Int.eq_ofNat_of_zero_le (show 0 ≤ dimL xs + 1 by omega)
    refine Ev.step (f := fun k => (spec_l02Critical.f k n xs l).bind fun t => spec_l02Numbers.l1 k (List.replicate D 0) t 0) (fun k => ?_) ?_
    · simp only [spec_l02Numbers.l0]
      rw [if_neg (by omega), w64 (by omega) (by omega), hD, if_pos (by omega), if_pos (by omega), Int.toNat_natCast]
    · refine Ev.bind (ev_crit n (by omega) hl) ?_
      rw [hD, Int.toNat_natCast]
      have := num_l1 D (critL xs l) (fun x hx => ⟨h63 x (hcm x hx), ones1 (h63 x (hcm x hx)), by have := d3 x (hcm x hx); omega⟩) (by omega) _ 0 rfl (Nat.zero_le _)
      rw [List.take_zero, cntL_nil] at this
      exact this
  | succ d ih =>
    intro i a hd hil hf ha
    have hi' : i < xs.length := by omega
    have hx := h63 _ (List.getElem_mem hi')
    have h1 := ones_le xs[i]
    have h2 := ones1 hx
    rw [List.drop_eq_getElem_cons hi', List.foldl_cons] at hf
    refine Ev.step (f := fun k => (spec_l02Dim.f k xs[i]).bind fun t => spec_l02Numbers.l0 k l (mx a t) ((i + 1 : Nat) : Int) n xs) (fun k => ?_) (Ev.bind (ev_dim2 hx.1 hx.2) ?_)
    · simp only [spec_l02Numbers.l0]
      rw [if_pos (by omega), if_pos (by omega), rd_at hi', succ64 (by omega)]
    · rw [show mx a (onesZ xs[i] - 1) = max a (onesZ xs[i] - 1) by unfold mx; split <;> omega]
      exact ih (i + 1) _ (by omega) (by omega) hf (by omega)
theorem ev_numbers {n : Int} {xs : List Int} (hi : isC n xs = true) {l : List Pr} (hl : l.length ≤ 1048576) : Ev (fun k => spec_l02Numbers.f k n xs l) (cntL (dimL xs + 1).toNat (critL xs l)) := by
  unfold spec_l02Numbers.f
  exact num_l0 hi hl _ 0 (-1) rfl (Nat.zero_le _) rfl (by omega)
end Go.Proofs.YtpjcnigohhnhnaaGreat.Pu
namespace Go.Proofs.YtpjcnigohhnhnaaGreat.Pu
def inS : List Nat → Nat → Bool
  | [], x => x == 0
  | v :: L, x => inS L x || inS L (x ^^^ v)
theorem inS_zero : ∀ L, inS L 0 = true
  | [] => rfl
  | v :: L => by rw [inS, inS_zero L]; rfl
theorem inS_cons {L : List Nat} {x : Nat} (v : Nat) (h : inS L x = true) : inS (v :: L) x = true := by rw [inS, h]; rfl
theorem xor_cancel (x y : Nat) : (x ^^^ y) ^^^ y = x := by rw [Nat.xor_assoc, Nat.xor_self, Nat.xor_zero]
theorem inS_xor : ∀ {L : List Nat} {x y : Nat}, inS L x = true → inS L y = true → inS L (x ^^^ y) = true
  | [], x, y, hx, hy => by
    simp only [inS, beq_iff_eq] at *
    subst hx; subst hy
    rfl
  | v :: L, x, y, hx, hy => by
    rw [inS, Bool.or_eq_true] at *
    rcases hx with hx | hx <;> rcases hy with hy | hy
    · exact .inl (inS_xor hx hy)
    · refine .inr ?_
      have := inS_xor hx hy
      rwa [← Nat.xor_assoc] at this
    · refine .inr ?_
      have := inS_xor hx hy
      rwa [show (x ^^^ v) ^^^ y = (x ^^^ y) ^^^ v by rw [Nat.xor_assoc, Nat.xor_assoc, Nat.xor_comm v y]] at this
    · refine .inl ?_
      have := inS_xor hx hy
      rwa [show (x ^^^ v) ^^^ (y ^^^ v) = x ^^^ y by rw [Nat.xor_assoc, Nat.xor_comm y v, ← Nat.xor_assoc v v y, Nat.xor_self, Nat.zero_xor]] at this
theorem inS_mem : ∀ {L : List Nat} {v : Nat}, v ∈ L → inS L v = true
  | u :: L, v, h => by
    rcases List.mem_cons.1 h with rfl | h
    · rw [inS, Nat.xor_self, inS_zero, Bool.or_true]
    · exact inS_cons u (inS_mem h)
def SubS (L M : List Nat) : Prop := ∀ x, inS L x = true → inS M x = true
theorem sub_of : ∀ {L M : List Nat}, (∀ v ∈ L, inS M v = true) → SubS L M
  | [], M, _, x, hx => by
    simp only [inS, beq_iff_eq] at hx
    subst hx
    exact inS_zero M
  | v :: L, M, h, x, hx => by
    have ih : SubS L M := sub_of fun u hu => h u (List.mem_cons_of_mem _ hu)
    rw [inS, Bool.or_eq_true] at hx
    rcases hx with hx | hx
    · exact ih x hx
    · have := inS_xor (ih _ hx) (h v (List.mem_cons_self ..))
      rwa [xor_cancel] at this
theorem SubS.refl (L : List Nat) : SubS L L := fun _ h => h
theorem SubS.trans {L M K : List Nat} (h : SubS L M) (h1 : SubS M K) : SubS L K := fun x hx => h1 x (h x hx)
def cntS (m : Nat) (L : List Nat) : Nat := ((List.range (2 ^ m)).filter (inS L)).length
theorem nodup_sub_len : ∀ {L M : List Nat}, L.Nodup → (∀ x ∈ L, x ∈ M) → L.length ≤ M.length
  | [], M, _, _ => Nat.zero_le _
  | x :: L, M, hn, hs => by
    obtain ⟨h1, h2⟩ := List.nodup_cons.1 hn
    have hx := hs x (List.mem_cons_self ..)
    have := nodup_sub_len (L := L) (M := M.erase x) h2 fun y hy => (List.mem_erase_of_ne (fun (e : y = x) => h1 (e ▸ hy))).2 (hs y (List.mem_cons_of_mem _ hy))
    rw [List.length_erase_of_mem hx] at this
    have hp := List.length_pos_of_mem hx
    rw [List.length_cons]; omega
theorem count_xor_le {m v : Nat} (hv : v < 2 ^ m) (p : Nat → Bool) : ((List.range (2 ^ m)).filter fun x => p (x ^^^ v)).length ≤ ((List.range (2 ^ m)).filter p).length := by
  have h1 : (((List.range (2 ^ m)).filter fun x => p (x ^^^ v)).map fun x => x ^^^ v).length = ((List.range (2 ^ m)).filter fun x => p (x ^^^ v)).length := List.length_map _
  rw [← h1]
  refine nodup_sub_len ?_ fun y hy => ?_
  · refine List.Pairwise.map (R := (· ≠ ·)) _ (fun x y h e => h ?_) (List.Pairwise.sublist List.filter_sublist List.nodup_range)
    rw [← xor_cancel x v, ← xor_cancel y v, e]
  · obtain ⟨x, hx, rfl⟩ := List.mem_map.1 hy
    obtain ⟨hx1, hx2⟩ := List.mem_filter.1 hx
    exact List.mem_filter.2 ⟨List.mem_range.2 (Nat.xor_lt_two_pow (List.mem_range.1 hx1) hv), hx2⟩
theorem count_xor {m v : Nat} (hv : v < 2 ^ m) (p : Nat → Bool) : ((List.range (2 ^ m)).filter fun x => p (x ^^^ v)).length = ((List.range (2 ^ m)).filter p).length := by
  refine Nat.le_antisymm (count_xor_le hv p) ?_
  have := count_xor_le hv fun x => p (x ^^^ v)
  simp only [xor_cancel] at this
  exact this
theorem count_or {p q : Nat → Bool} : ∀ (L : List Nat), (∀ x ∈ L, p x = true → q x = true → False) → (L.filter fun x => p x || q x).length = (L.filter p).length + (L.filter q).length
  | [], _ => rfl
  | x :: L, h => by
    have ih := count_or L fun y hy => h y (List.mem_cons_of_mem _ hy)
    have hx := h x (List.mem_cons_self ..)
    rw [List.filter_cons, List.filter_cons, List.filter_cons]
    cases hp : p x <;> cases hq : q x
    · simpa using ih
    · simp; omega
    · simp; omega
    · exact absurd hq (fun h => hx hp h)
theorem cnt_double {m v : Nat} {L : List Nat} (hv : v < 2 ^ m) (h : inS L v = false) : cntS m (v :: L) = 2 * cntS m L := by
  have h1 : cntS m (v :: L) = ((List.range (2 ^ m)).filter (inS L)).length + ((List.range (2 ^ m)).filter fun x => inS L (x ^^^ v)).length := by
    unfold cntS
    refine count_or (p := inS L) (q := fun x => inS L (x ^^^ v)) _ fun x _ hp hq => ?_
    have := inS_xor hp hq
    rw [← Nat.xor_assoc, Nat.xor_self, Nat.zero_xor, h] at this
    cases this
  rw [h1, count_xor hv (inS L)]
  unfold cntS
  omega
theorem cnt_nil (m : Nat) : cntS m [] = 1 := by
  unfold cntS
  have hp : 0 < 2 ^ m := Nat.two_pow_pos m
  obtain ⟨N, hN⟩ : ∃ N, 2 ^ m = N + 1 := ⟨2 ^ m - 1, by omega⟩
  rw [hN, List.range_succ_eq_map, List.filter_cons_of_pos (by rfl), List.filter_eq_nil_iff.2 fun x hx => ?_]
  · rfl
  · obtain ⟨y, _, rfl⟩ := List.mem_map.1 hx
    simp [inS]
theorem cnt_le {m : Nat} {L M : List Nat} (h : SubS L M) : cntS m L ≤ cntS m M :=
  nodup_sub_len (List.Pairwise.sublist List.filter_sublist List.nodup_range) fun x hx => by
    obtain ⟨h1, h2⟩ := List.mem_filter.1 hx
    exact List.mem_filter.2 ⟨h1, h x h2⟩
def IndS (m : Nat) : List Nat → Prop
  | [] => True
  | v :: L => IndS m L ∧ v < 2 ^ m ∧ inS L v = false
theorem cnt_ind {m : Nat} : ∀ {L : List Nat}, IndS m L → cntS m L = 2 ^ L.length
  | [], _ => cnt_nil m
  | v :: L, h => by
    rw [cnt_double h.2.1 h.2.2, cnt_ind h.1, List.length_cons, Nat.pow_succ]
    omega
theorem ind_len {m : Nat} {L M : List Nat} (hL : IndS m L) (hM : IndS m M) (h1 : SubS L M) (h2 : SubS M L) : L.length = M.length := by
  have e : 2 ^ L.length = 2 ^ M.length := by
    rw [← cnt_ind hL, ← cnt_ind hM]
    exact Nat.le_antisymm (cnt_le h1) (cnt_le h2)
  rcases Nat.lt_trichotomy L.length M.length with h | h | h
  · have := Nat.pow_lt_pow_right (a := 2) (by omega) h
    omega
  · exact h
  · have := Nat.pow_lt_pow_right (a := 2) (by omega) h
    omega
end Go.Proofs.YtpjcnigohhnhnaaGreat.Pu
namespace Go.Proofs.YtpjcnigohhnhnaaGreat.Im
open Go.RowKit Go.Shelf Cw YtpjcnigohhnhnaaGreatW.PrintWords YtpjcnigohhnhnaaGreatW.PrintLast YtpjcnigohhnhnaaGreatW.PrintMore
section
variable {P : Program} {ops : Array Oper} {Q : Exit → Act → World → Prop} {S : World → Prop} {ds : List Nat} {md : Region.Mode} {T : Bool × List (List Nat × List Nat)} {n m fuel : Nat} {a : Act} {w : World} {oi : Oper}
theorem la_ (i : Nat) (N : Option Tmp) (m' : Nat) (hT : Aside0 (rtab md ops = T))
    (h : ∀ K : Act → World → Prop, Shut (∀ a' w', wpAnyLast P md ops Q S ds fuel (mB n m') a' w' → K a' w') → if Region.wanted oi (yielded ops a.tmps) = true then Oper.wp P oi a w K Q else K (a.put N undef) w)
    (hi : ops[i]? = some oi := by rfl) (hN : oi.dst = N := by rfl) (hc : (readyT T.2 (mB n m).toList == [i] && (mB n m).toList.set i true == (mB n m').toList) = true := by kernel_rfl) (hd : i ∈ ds := by decide) :
    wpAnyLast P md ops Q S ds (fuel + 1) (mB n m) a w := last_ (mB n m') hi hN (one_of hT.out hc) hd h
end
theorem nd_inj {α : Type} {l : List α} (h : l.Nodup) {x y : Nat} (hx : x < l.length) (hy : y < l.length) (e : l[x] = l[y]) : x = y := by
  have hp := List.pairwise_iff_getElem.1 (List.nodup_iff_pairwise_ne.1 h)
  rcases Nat.lt_trichotomy x y with h1 | h1 | h1
  · exact absurd e (hp x y hx hy h1)
  · exact h1
  · exact absurd e.symm (hp y x hy hx h1)
def rowV (m x : Nat) : Value := .slice (some ⟨x, 0, none⟩) m m
def numV (l : List Int) : List Value := l.map fun v => Value.int .i64 v
def MxO (w : World) (base b cap : Nat) (bs : List Nat) (m : Nat) : Prop :=
  base ≤ b ∧ bs.length ≤ cap ∧ cap ≤ maxLen ∧ ∃ rest : List Value, rest.length = cap - bs.length ∧ w.heap[b]? = some (.cells (bs.map (rowV m) ++ rest).toArray 22 (0, 0))
def MxI (w : World) (base : Nat) (bs : List Nat) (m : Nat) (M : List (List Int)) : Prop :=
  bs.length = M.length ∧ bs.Nodup ∧ ∀ i (h1 : i < bs.length) (h2 : i < M.length), base ≤ bs[i] ∧ M[i].length = m ∧ w.heap[bs[i]]? = some (.cells (numV M[i]).toArray 2 (0, 0))
section
variable {w w1 : World} {base b cap m : Nat} {bs : List Nat} {M : List (List Int)}
theorem MxO.below (h : MxO w base b cap bs m) (hb : Below w.heap.size w w1) : MxO w1 base b cap bs m := by
  obtain ⟨h1, h2, h3, rest, h4, h5⟩ := h
  exact ⟨h1, h2, h3, rest, h4, (hb.block b (blk_lt h5)).trans h5⟩
theorem MxO.drew (h : MxO w base b cap bs m) : MxO w.drew base b cap bs m := h
theorem MxI.below (h : MxI w base bs m M) (hb : Below w.heap.size w w1) : MxI w1 base bs m M := by
  refine ⟨h.1, h.2.1, fun i h1 h2 => ?_⟩
  obtain ⟨a1, a2, a3⟩ := h.2.2 i h1 h2
  exact ⟨a1, a2, (hb.block _ (blk_lt a3)).trans a3⟩
theorem MxI.drew (h : MxI w base bs m M) : MxI w.drew base bs m M := h
theorem MxO.cell (h : MxO w base b cap bs m) {i : Nat} (hi : i < bs.length) : w.cell? ⟨b, i, none⟩ = some (rowV m bs[i]) ∧ w.frozen? ⟨b, i, none⟩ = false := by
  obtain ⟨h1, h2, h3, rest, h4, h5⟩ := h
  refine ⟨(cell_of_row w b i _ _ _ h5).trans ?_, blk_frozen h5 i⟩
  simp [List.getElem?_append_left, hi]
theorem MxO.far (h : MxO w base b cap bs m) {x j : Nat} (hne : b ≠ x) (u : Value) : MxO (w.setCell ⟨x, j, none⟩ u) base b cap bs m := by
  obtain ⟨h1, h2, h3, rest, h4, h5⟩ := h
  exact ⟨h1, h2, h3, rest, h4, (Below.heap_setCell w ⟨x, j, none⟩ u b hne).trans h5⟩
theorem MxO.put (h : MxO w base b cap bs m) {i : Nat} (hi : i < bs.length) (y : Nat) : MxO (w.setCell ⟨b, i, none⟩ (rowV m y)) base b cap (bs.set i y) m := by
  obtain ⟨h1, h2, h3, rest, h4, h5⟩ := h
  refine ⟨h1, by simpa using h2, h3, rest, by simpa using h4, ?_⟩
  have := blk_put h5 i (rowV m y) rfl
  rw [this]
  congr 2
  apply Array.ext'
  simp [List.set_append_left, hi]
theorem MxI.len (h : MxI w base bs m M) : bs.length = M.length := h.1
theorem MxI.row (h : MxI w base bs m M) {i : Nat} (hi : i < M.length) : M[i].length = m := (h.2.2 i (by rw [h.1]; exact hi) hi).2.1
theorem MxI.cell (h : MxI w base bs m M) {i j : Nat} (hb : i < bs.length) (hi : i < M.length) (hj : j < m) : w.cell? ⟨bs[i], j, none⟩ = some (.int .i64 (M[i][j]'(by rw [h.row hi]; exact hj))) ∧ w.frozen? ⟨bs[i], j, none⟩ = false := by
  obtain ⟨a1, a2, a3⟩ := h.2.2 i hb hi
  refine ⟨(cell_of_row w _ j _ _ _ a3).trans ?_, blk_frozen a3 j⟩
  have hj' : j < M[i].length := by rw [a2]; exact hj
  simp [numV, hj']
theorem MxI.ne (h : MxI w base bs m M) (ho : MxO w base b cap bs m) {i : Nat} (hi : i < bs.length) : b ≠ bs[i] := by
  obtain ⟨_, _, a3⟩ := h.2.2 i hi (by rw [← h.1]; exact hi)
  obtain ⟨_, _, _, rest, _, h5⟩ := ho
  exact blk_ne h5 a3 (by decide)
theorem MxI.ne' {bs' : List Nat} (h : MxI w base bs m M) (ho : MxO w base b cap bs' m) {i : Nat} (hi : i < bs.length) : b ≠ bs[i] := by
  obtain ⟨_, _, a3⟩ := h.2.2 i hi (by rw [← h.1]; exact hi)
  obtain ⟨_, _, _, rest, _, h5⟩ := ho
  exact blk_ne h5 a3 (by decide)
theorem MxI.outer {bs' : List Nat} (h : MxI w base bs m M) (ho : MxO w base b cap bs' m) (j : Nat) (u : Value) : MxI (w.setCell ⟨b, j, none⟩ u) base bs m M := by
  refine ⟨h.1, h.2.1, fun i h1 h2 => ?_⟩
  obtain ⟨a1, a2, a3⟩ := h.2.2 i h1 h2
  exact ⟨a1, a2, (Below.heap_setCell w ⟨b, j, none⟩ u _ (h.ne' ho h1).symm).trans a3⟩
theorem MxI.put (h : MxI w base bs m M) {i j : Nat} (hb : i < bs.length) (hi : i < M.length) (hj : j < m) (v : Int) : MxI (w.setCell ⟨bs[i], j, none⟩ (.int .i64 v)) base bs m (M.set i (M[i].set j v)) := by
  refine ⟨by simpa using h.1, h.2.1, fun k h1 h2 => ?_⟩
  have h2' : k < M.length := by simpa using h2
  obtain ⟨a1, a2, a3⟩ := h.2.2 k h1 h2'
  by_cases hk : k = i
  · subst hk
    refine ⟨a1, by simpa using a2, ?_⟩
    have := blk_put a3 j (.int .i64 v) rfl
    rw [this]
    congr 2
    apply Array.ext'
    simp [numV, List.map_set]
  · have hne : bs[k] ≠ bs[i] := fun e => hk (nd_inj h.2.1 h1 hb e)
    rw [List.getElem_set_ne (Ne.symm hk)]
    exact ⟨a1, a2, (Below.heap_setCell w ⟨bs[i], j, none⟩ _ _ hne).trans a3⟩
end
def swapL {α : Type} (l : List α) (i j : Nat) : List α := match l[i]?, l[j]? with
  | some a, some b => (l.set i b).set j a
  | _, _ => l
theorem swapL_len {α : Type} (l : List α) (i j : Nat) : (swapL l i j).length = l.length := by
  unfold swapL
  split <;> simp
theorem swapL_eq {α : Type} {l : List α} {i j : Nat} (hi : i < l.length) (hj : j < l.length) : swapL l i j = (l.set i l[j]).set j l[i] := by
  unfold swapL
  rw [List.getElem?_eq_getElem hi, List.getElem?_eq_getElem hj]
theorem swapL_at {α : Type} {l : List α} {i j k : Nat} (hi : i < l.length) (hj : j < l.length) (hk : k < (swapL l i j).length) : (swapL l i j)[k] = if k = j then l[i] else if k = i then l[j] else l[k]'(by rw [swapL_len] at hk; exact hk) := by
  have hk' : k < l.length := by rw [swapL_len] at hk; exact hk
  simp only [swapL_eq hi hj, List.getElem_set]
  by_cases h1 : k = j
  · subst h1; simp
  · by_cases h2 : k = i
    · subst h2; simp [Ne.symm h1, h1]
    · simp [Ne.symm h1, Ne.symm h2, h1, h2]
theorem swapL_nodup {α : Type} {l : List α} {i j : Nat} (hi : i < l.length) (hj : j < l.length) (h : l.Nodup) : (swapL l i j).Nodup := by
  rw [List.nodup_iff_pairwise_ne, List.pairwise_iff_getElem]
  intro a b ha hb hab
  have ha' : a < l.length := by rw [swapL_len] at ha; exact ha
  have hb' : b < l.length := by rw [swapL_len] at hb; exact hb
  have inj : ∀ (x y : Nat) (hx : x < l.length) (hy : y < l.length), l[x] = l[y] → x = y := fun x y hx hy e => nd_inj h hx hy e
  rw [swapL_at hi hj, swapL_at hi hj]
  intro e
  split at e <;> split at e <;> first
    | (have := inj _ _ _ _ e; omega)
    | (split at e <;> first | (have := inj _ _ _ _ e; omega) | (split at e <;> (have := inj _ _ _ _ e; omega)))
theorem MxI.swap {w : World} {base m : Nat} {bs : List Nat} {M : List (List Int)} (h : MxI w base bs m M) {i j : Nat} (hi : i < M.length) (hj : j < M.length) : MxI w base (swapL bs i j) m (swapL M i j) := by
  have hi' : i < bs.length := by rw [h.1]; exact hi
  have hj' : j < bs.length := by rw [h.1]; exact hj
  refine ⟨by rw [swapL_len, swapL_len, h.1], swapL_nodup hi' hj' h.2.1, fun k h1 h2 => ?_⟩
  have h1' : k < bs.length := by rw [swapL_len] at h1; exact h1
  have h2' : k < M.length := by rw [swapL_len] at h2; exact h2
  rw [swapL_at hi' hj', swapL_at hi hj]
  split
  · exact h.2.2 i hi' hi
  · split
    · exact h.2.2 j hj' hj
    · exact h.2.2 k h1' h2'
end Go.Proofs.YtpjcnigohhnhnaaGreat.Im
namespace Go.Proofs.YtpjcnigohhnhnaaGreat.Im
def ent (M : List (List Int)) (i c : Nat) : Int := (M.getD i []).getD c 0
def Bit (x : Int) : Prop := x = 0 ∨ x = 1
def Bits (M : List (List Int)) : Prop := ∀ row ∈ M, ∀ x ∈ row, Bit x
def findZ (M : List (List Int)) (c r : Nat) : Option Nat := (List.range' r (M.length - r)).find? fun i => ent M i c != 0
def xr (x t y : Int) : Int := if t = 1 ∧ y = 1 then 1 - x else x
def stepR (lo c : Nat) (own row : List Int) (j : Nat) : List Int := row.mapIdx fun q x => if lo ≤ q ∧ q < j then xr x (row.getD c 0 * own.getD c 0) (own.getD q 0) else x
def elimTo (lo c r : Nat) (M : List (List Int)) (i : Nat) : List (List Int) := M.mapIdx fun q row => if r < q ∧ q < i then stepR lo c (M.getD r []) row row.length else row
def elimStep (lo : Nat → Nat) (s : List (List Int) × Nat) (c : Nat) : List (List Int) × Nat := match findZ s.1 c s.2 with
  | none => s
  | some i => (elimTo (lo c) c s.2 (swapL s.1 i s.2) s.1.length, s.2 + 1)
def elimAll (lo : Nat → Nat) (M : List (List Int)) (m : Nat) : List (List Int) × Nat := (List.range m).foldl (elimStep lo) (M, 0)
theorem bit_xr {x : Int} (t y : Int) (h : Bit x) : Bit (xr x t y) := by
  unfold xr
  unfold Bit at *
  split <;> omega
theorem bit_getD {row : List Int} (h : ∀ x ∈ row, Bit x) (c : Nat) : Bit (row.getD c 0) := by
  rw [List.getD_eq_getElem?_getD]
  cases hc : row[c]? with
  | none => exact .inl rfl
  | some v => exact h v (List.mem_of_getElem? hc)
theorem bits_getD {M : List (List Int)} (h : Bits M) (i : Nat) : ∀ x ∈ M.getD i [], Bit x := by
  rw [List.getD_eq_getElem?_getD]
  cases hc : M[i]? with
  | none => intro x hx; simp at hx
  | some v => exact h v (List.mem_of_getElem? hc)
theorem bit_ent {M : List (List Int)} (h : Bits M) (i c : Nat) : Bit (ent M i c) := bit_getD (bits_getD h i) c
theorem ent_at {M : List (List Int)} {i c : Nat} (hi : i < M.length) (hc : c < M[i].length) : ent M i c = M[i][c] := by
  unfold ent
  rw [show M.getD i [] = M[i] by rw [List.getD_eq_getElem?_getD, List.getElem?_eq_getElem hi]; rfl, List.getD_eq_getElem?_getD, List.getElem?_eq_getElem hc]
  rfl
theorem stepR_len (lo c : Nat) (own row : List Int) (j : Nat) : (stepR lo c own row j).length = row.length := by unfold stepR; simp
theorem stepR_at {lo c : Nat} {own row : List Int} {j q : Nat} (hq : q < row.length) : (stepR lo c own row j)[q]'(by rw [stepR_len]; exact hq) = if lo ≤ q ∧ q < j then xr row[q] (row.getD c 0 * own.getD c 0) (own.getD q 0) else row[q] := by
  unfold stepR
  simp
theorem stepR_lo (lo c : Nat) (own row : List Int) {j : Nat} (h : j ≤ lo) : stepR lo c own row j = row := by
  apply List.ext_getElem
  · rw [stepR_len]
  · intro q h1 h2
    rw [stepR_at h2, if_neg (by omega)]
theorem stepR_next {lo c : Nat} {own row : List Int} {j : Nat} (hl : lo ≤ j) (hj : j < row.length) : (stepR lo c own row j).set j (xr row[j] (row.getD c 0 * own.getD c 0) (own.getD j 0)) = stepR lo c own row (j + 1) := by
  apply List.ext_getElem
  · simp [stepR_len]
  · intro q h1 h2
    have hq : q < row.length := by rw [stepR_len] at h2; exact h2
    rw [List.getElem_set]
    by_cases hqj : j = q
    · subst hqj
      rw [if_pos rfl, stepR_at hq, if_pos (by omega)]
    · rw [if_neg hqj, stepR_at hq, stepR_at hq]
      by_cases h3 : lo ≤ q ∧ q < j
      · rw [if_pos h3, if_pos (by omega)]
      · rw [if_neg h3, if_neg (by omega)]
theorem stepR_bits {lo c : Nat} {own row : List Int} {j : Nat} (h : ∀ x ∈ row, Bit x) : ∀ x ∈ stepR lo c own row j, Bit x := by
  intro x hx
  obtain ⟨q, hq, rfl⟩ := List.mem_iff_getElem.1 hx
  have hq' : q < row.length := by rw [stepR_len] at hq; exact hq
  rw [stepR_at hq']
  split
  · exact bit_xr _ _ (h _ (List.getElem_mem hq'))
  · exact h _ (List.getElem_mem hq')
theorem elimTo_len (lo c r : Nat) (M : List (List Int)) (i : Nat) : (elimTo lo c r M i).length = M.length := by unfold elimTo; simp
theorem elimTo_at {lo c r : Nat} {M : List (List Int)} {i q : Nat} (hq : q < M.length) : (elimTo lo c r M i)[q]'(by rw [elimTo_len]; exact hq) = if r < q ∧ q < i then stepR lo c (M.getD r []) M[q] M[q].length else M[q] := by
  unfold elimTo
  simp
theorem elimTo_lo (lo c r : Nat) (M : List (List Int)) {i : Nat} (h : i ≤ r + 1) : elimTo lo c r M i = M := by
  apply List.ext_getElem
  · rw [elimTo_len]
  · intro q h1 h2
    rw [elimTo_at h2, if_neg (by omega)]
theorem elimTo_next {lo c r : Nat} {M : List (List Int)} {i : Nat} (hr : r < i) (hi : i < M.length) : (elimTo lo c r M i).set i (stepR lo c (M.getD r []) M[i] M[i].length) = elimTo lo c r M (i + 1) := by
  apply List.ext_getElem
  · simp [elimTo_len]
  · intro q h1 h2
    have hq : q < M.length := by rw [elimTo_len] at h2; exact h2
    rw [List.getElem_set]
    by_cases hqi : i = q
    · subst hqi
      rw [if_pos rfl, elimTo_at hq, if_pos (by omega)]
    · rw [if_neg hqi, elimTo_at hq, elimTo_at hq]
      by_cases h3 : r < q ∧ q < i
      · rw [if_pos h3, if_pos (by omega)]
      · rw [if_neg h3, if_neg (by omega)]
theorem elimTo_bits {lo c r : Nat} {M : List (List Int)} {i : Nat} (h : Bits M) : Bits (elimTo lo c r M i) := by
  intro row hrow
  obtain ⟨q, hq, rfl⟩ := List.mem_iff_getElem.1 hrow
  have hq' : q < M.length := by rw [elimTo_len] at hq; exact hq
  rw [elimTo_at hq']
  split
  · exact stepR_bits (h _ (List.getElem_mem hq'))
  · exact h _ (List.getElem_mem hq')
theorem swap_bits {M : List (List Int)} {i j : Nat} (h : Bits M) (hi : i < M.length) (hj : j < M.length) : Bits (swapL M i j) := by
  intro row hrow
  obtain ⟨q, hq, rfl⟩ := List.mem_iff_getElem.1 hrow
  rw [swapL_at hi hj]
  split
  · exact h _ (List.getElem_mem hi)
  · split
    · exact h _ (List.getElem_mem hj)
    · exact h _ (List.getElem_mem _)
theorem findZ_none {M : List (List Int)} {c r : Nat} (h : ∀ i, r ≤ i → i < M.length → ent M i c = 0) : findZ M c r = none := by
  unfold findZ
  rw [List.find?_eq_none]
  intro i hi
  have := List.mem_range'_1.1 hi
  simp [h i this.1 (by omega)]
theorem findZ_some {M : List (List Int)} {c r i : Nat} (hr : r ≤ i) (hi : i < M.length) (hz : ent M i c ≠ 0) (h : ∀ j, r ≤ j → j < i → ent M j c = 0) : findZ M c r = some i := by
  unfold findZ
  rw [List.find?_eq_some_iff_append]
  refine ⟨by simpa using hz, List.range' r (i - r), List.range' (i + 1) (M.length - i - 1), ?_, ?_⟩
  · have h1 : List.range' r (M.length - r) = List.range' r (i - r) ++ List.range' (r + (i - r)) (M.length - i) := by
      rw [List.range'_append_1]
      congr 1
      omega
    rw [h1, show r + (i - r) = i by omega, show M.length - i = (M.length - i - 1) + 1 by omega, List.range'_succ]
    simp
  · intro j hj
    have := List.mem_range'_1.1 hj
    simp [h j this.1 (by omega)]
end Go.Proofs.YtpjcnigohhnhnaaGreat.Im
namespace Go.Proofs.YtpjcnigohhnhnaaGreat.Pu
open Im
def mask : List Int → Nat
  | [] => 0
  | x :: r => (if x = 1 then 1 else 0) + 2 * mask r
theorem mask_bit : ∀ (r : List Int) (j : Nat), (mask r).testBit j = (r.getD j 0 == 1)
  | [], j => by simp [mask]
  | x :: r, 0 => by
    rw [mask, Nat.testBit_zero, List.getD_cons_zero]
    by_cases h : x = 1
    · rw [if_pos h, h]; simp
    · rw [if_neg h]; simp [h]
  | x :: r, j + 1 => by
    rw [mask, Nat.testBit_succ, List.getD_cons_succ, ← mask_bit r j]
    congr 1
    split <;> omega
theorem mask_lt : ∀ (r : List Int), mask r < 2 ^ r.length
  | [] => by simp [mask]
  | x :: r => by
    have := mask_lt r
    rw [mask, List.length_cons, Nat.pow_succ]
    split <;> omega
theorem mask_zero {r : List Int} (h : ∀ j, r.getD j 0 = 0) : mask r = 0 := by
  refine Nat.eq_of_testBit_eq fun j => ?_
  rw [mask_bit, h j, Nat.zero_testBit]
  rfl
theorem getD_bit {row : List Int} (h : ∀ x ∈ row, Bit x) (j : Nat) : row.getD j 0 = 0 ∨ row.getD j 0 = 1 := bit_getD h j
theorem stepR_getD0 (c : Nat) (own row : List Int) (q : Nat) : (stepR 0 c own row row.length).getD q 0 = if q < row.length then xr (row.getD q 0) (row.getD c 0 * own.getD c 0) (own.getD q 0) else 0 := by
  by_cases hq : q < row.length
  · rw [if_pos hq, List.getD_eq_getElem?_getD, List.getElem?_eq_getElem (show q < (stepR 0 c own row row.length).length by rw [stepR_len]; exact hq), Option.getD_some, stepR_at hq, if_pos (by omega)]
    rw [show row.getD q 0 = row[q] by rw [List.getD_eq_getElem?_getD, List.getElem?_eq_getElem hq]; rfl]
  · rw [if_neg hq, List.getD_eq_getElem?_getD, List.getElem?_eq_none (by rw [stepR_len]; omega)]
    rfl
theorem mask_step {c : Nat} {own row : List Int} (ho : ∀ x ∈ own, Bit x) (hr : ∀ x ∈ row, Bit x) (hl : own.length = row.length) :
    mask (stepR 0 c own row row.length) = if row.getD c 0 = 1 ∧ own.getD c 0 = 1 then mask row ^^^ mask own else mask row := by
  refine Nat.eq_of_testBit_eq fun q => ?_
  rw [mask_bit, stepR_getD0]
  have hb := getD_bit hr q
  have hob := getD_bit ho q
  have hc := getD_bit hr c
  have hoc := getD_bit ho c
  have hout : ¬ q < row.length → row.getD q 0 = 0 ∧ own.getD q 0 = 0 := fun h => by
    constructor
    · rw [List.getD_eq_getElem?_getD, List.getElem?_eq_none (by omega)]; rfl
    · rw [List.getD_eq_getElem?_getD, List.getElem?_eq_none (by omega)]; rfl
  by_cases h : row.getD c 0 = 1 ∧ own.getD c 0 = 1
  · rw [if_pos h, Nat.testBit_xor, mask_bit, mask_bit, h.1, h.2]
    by_cases hq : q < row.length
    · rw [if_pos hq]
      unfold xr
      rcases hb with e | e <;> rcases hob with e2 | e2 <;> rw [e, e2] <;> decide
    · rw [if_neg hq, (hout hq).1, (hout hq).2]; rfl
  · rw [if_neg h, mask_bit]
    by_cases hq : q < row.length
    · rw [if_pos hq]
      have h0 : row.getD c 0 * own.getD c 0 = 0 := by
        rcases hc with e | e <;> rcases hoc with e2 | e2 <;> rw [e, e2] <;> first | rfl | exact absurd ⟨e, e2⟩ h
      rw [h0]
      unfold xr
      rw [if_neg (by omega)]
    · rw [if_neg hq, (hout hq).1]
theorem find_some {M : List (List Int)} {c r i : Nat} (h : findZ M c r = some i) : r ≤ i ∧ i < M.length ∧ ent M i c ≠ 0 := by
  unfold findZ at h
  have h1 := List.mem_range'_1.1 (List.mem_of_find?_eq_some h)
  have h2 := List.find?_some h
  exact ⟨h1.1, by omega, by simpa using h2⟩
theorem find_none {M : List (List Int)} {c r : Nat} (h : findZ M c r = none) : ∀ i, r ≤ i → i < M.length → ent M i c = 0 := fun i h1 h2 => by
  unfold findZ at h
  have := List.find?_eq_none.1 h i (List.mem_range'_1.2 ⟨h1, by omega⟩)
  simpa using this
structure Ech (m c r : Nat) (M0 M : List (List Int)) : Prop where
  bits : Bits M
  len : M.length = M0.length
  row : ∀ x ∈ M, x.length = m
  rle : r ≤ M.length
  piv : ∀ i, i < r → ∃ d, ent M i d = 1 ∧ ∀ j, i < j → j < M.length → ent M j d = 0
  low : ∀ j, r ≤ j → j < M.length → ∀ d, d < c → ent M j d = 0
  s1 : SubS (M.map mask) (M0.map mask)
  s2 : SubS (M0.map mask) (M.map mask)
theorem ent_mask {M : List (List Int)} {i : Nat} (hi : i < M.length) (d : Nat) : ent M i d = M[i].getD d 0 := by
  unfold ent
  rw [show M.getD i [] = M[i] by rw [List.getD_eq_getElem?_getD, List.getElem?_eq_getElem hi]; rfl]
theorem sub_rows {M N : List (List Int)} (h : ∀ i (hi : i < M.length), inS (N.map mask) (mask M[i]) = true) : SubS (M.map mask) (N.map mask) := sub_of fun v hv => by
  obtain ⟨row, hr, rfl⟩ := List.mem_map.1 hv
  obtain ⟨i, hi, rfl⟩ := List.mem_iff_getElem.1 hr
  exact h i hi
theorem sub_rows' {M : List (List Int)} {B : List Nat} (h : ∀ i (hi : i < M.length), inS B (mask M[i]) = true) : SubS (M.map mask) B := sub_of fun v hv => by
  obtain ⟨row, hr, rfl⟩ := List.mem_map.1 hv
  obtain ⟨i, hi, rfl⟩ := List.mem_iff_getElem.1 hr
  exact h i hi
theorem mem_rows {N : List (List Int)} {i : Nat} (hi : i < N.length) : inS (N.map mask) (mask N[i]) = true := inS_mem (List.mem_map_of_mem (List.getElem_mem hi))
theorem ech_step {m c r : Nat} {M0 M : List (List Int)} (h : Ech m c r M0 M) : ∃ M' r', elimStep (fun _ => 0) (M, r) c = (M', r') ∧ Ech m (c + 1) r' M0 M' := by
  unfold elimStep
  cases hf : findZ M c r with
  | none =>
    have hz := find_none hf
    refine ⟨M, r, by simp only [hf], h.bits, h.len, h.row, h.rle, h.piv, fun j h1 h2 d hd => ?_, h.s1, h.s2⟩
    rcases Nat.lt_or_ge d c with h3 | h3
    · exact h.low j h1 h2 d h3
    · obtain rfl : d = c := by omega
      exact hz j h1 h2
  | some i =>
    obtain ⟨hri, hin, hne⟩ := find_some hf
    have hrn : r < M.length := by omega
    obtain ⟨S, hS⟩ : ∃ S, swapL M i r = S := ⟨_, rfl⟩
    have hSl : S.length = M.length := by rw [← hS, swapL_len]
    have hSb : Bits S := by rw [← hS]; exact swap_bits h.bits hin hrn
    have hSat : ∀ q (hq : q < S.length), S[q] = if q = r then M[i] else if q = i then M[r] else M[q]'(by omega) := fun q hq => by
      subst hS
      exact swapL_at hin hrn hq
    have hSrow : ∀ q (hq : q < S.length), S[q].length = m := fun q hq => by
      rw [hSat q hq]
      split
      · exact h.row _ (List.getElem_mem hin)
      · split
        · exact h.row _ (List.getElem_mem hrn)
        · exact h.row _ (List.getElem_mem _)
    have hSr : S[r]'(by omega) = M[i] := by rw [hSat r (by omega), if_pos rfl]
    have hgd : S.getD r [] = M[i] := by rw [List.getD_eq_getElem?_getD, List.getElem?_eq_getElem (show r < S.length by omega), Option.getD_some, hSr]
    have hob : ∀ x ∈ M[i], Bit x := h.bits _ (List.getElem_mem hin)
    have hol : M[i].length = m := h.row _ (List.getElem_mem hin)
    have hoc : M[i].getD c 0 = 1 := by
      rw [ent_mask hin] at hne
      rcases getD_bit hob c with e | e
      · exact absurd e hne
      · exact e
    -- a row behind r that was no pivot row comes of one that was at r or behind
    have hSge : ∀ q (hq : q < S.length), r < q → ∃ q', ∃ hq' : q' < M.length, r ≤ q' ∧ S[q] = M[q'] := fun q hq hrq => by
      rw [hSat q hq, if_neg (by omega)]
      by_cases e : q = i
      · rw [if_pos e]; exact ⟨r, hrn, Nat.le_refl _, rfl⟩
      · rw [if_neg e]; exact ⟨q, by omega, by omega, rfl⟩
    obtain ⟨E, hE⟩ : ∃ E, elimTo 0 c r S M.length = E := ⟨_, rfl⟩
    have hEl : E.length = S.length := by rw [← hE, elimTo_len]
    have hEb : Bits E := by rw [← hE]; exact elimTo_bits hSb
    have hEat : ∀ q (hq : q < E.length), E[q] = if r < q then stepR 0 c M[i] (S[q]'(by omega)) (S[q]'(by omega)).length else S[q]'(by omega) := fun q hq => by
      subst hE
      have hq2 : q < S.length := by rw [elimTo_len] at hq; exact hq
      rw [elimTo_at hq2, hgd]
      by_cases e : r < q
      · rw [if_pos ⟨e, by omega⟩, if_pos e]
      · rw [if_neg (fun h => e h.1), if_neg e]
    have hEm : ∀ q (hq : q < E.length), r < q → mask E[q] = if (S[q]'(by omega)).getD c 0 = 1 then mask (S[q]'(by omega)) ^^^ mask M[i] else mask (S[q]'(by omega)) := fun q hq hrq => by
      rw [hEat q hq, if_pos hrq, mask_step hob (hSb _ (List.getElem_mem _)) (by rw [hol, hSrow q (by omega)])]
      by_cases e : (S[q]'(by omega)).getD c 0 = 1
      · rw [if_pos ⟨e, hoc⟩, if_pos e]
      · rw [if_neg (fun h => e h.1), if_neg e]
    have hEd : ∀ q (hq : q < E.length) (d : Nat), r < q → ent E q d = (if (S[q]'(by omega)).getD c 0 = 1 then (if ((S[q]'(by omega)).getD d 0 == 1) == (M[i].getD d 0 == 1) then 0 else 1) else (S[q]'(by omega)).getD d 0) := fun q hq d hrq => by
      have hb := getD_bit (hEb _ (List.getElem_mem hq)) d
      have hsb := getD_bit (hSb _ (List.getElem_mem (show q < S.length by omega))) d
      have ht := mask_bit E[q] d
      rw [hEm q hq hrq] at ht
      rw [ent_mask hq]
      by_cases e : (S[q]'(by omega)).getD c 0 = 1
      · rw [if_pos e] at ht ⊢
        rw [Nat.testBit_xor, mask_bit, mask_bit] at ht
        generalize ((S[q]'(by omega)).getD d 0 == 1) = p1 at ht ⊢
        generalize (M[i].getD d 0 == 1) = p2 at ht ⊢
        rcases hb with e1 | e1 <;> rw [e1] at ht ⊢ <;> cases p1 <;> cases p2 <;> first | rfl | exact absurd ht (by decide)
      · rw [if_neg e] at ht ⊢
        rw [mask_bit] at ht
        rcases hb with e1 | e1 <;> rcases hsb with e2 | e2 <;> rw [e1, e2] at ht <;> first | exact absurd ht (by decide) | rw [e1, e2]
    have hEr : E[r]'(by omega) = M[i] := by rw [hEat r (by omega), if_neg (Nat.lt_irrefl _), hSr]
    have hElo : ∀ q (hq : q < E.length), q < r → E[q] = M[q]'(by omega) := fun q hq hqr => by
      rw [hEat q hq, if_neg (by omega), hSat q (by omega), if_neg (by omega), if_neg (by omega)]
    refine ⟨E, r + 1, by simp only [hf]; rw [hS, hE], hEb, by rw [hEl, hSl, h.len], fun x hx => ?_, by omega, fun q hq => ?_, fun j h1 h2 d hd => ?_, ?_, ?_⟩
    · obtain ⟨q, hq, rfl⟩ := List.mem_iff_getElem.1 hx
      rw [hEat q hq]
      split
      · rw [stepR_len]; exact hSrow q (by omega)
      · exact hSrow q (by omega)
    · rcases Nat.lt_or_ge q r with hqr | hqr
      · obtain ⟨d, hd1, hd2⟩ := h.piv q hqr
        refine ⟨d, ?_, fun j hj1 hj2 => ?_⟩
        · rw [ent_mask (by omega)] at hd1 ⊢
          rw [hElo q (by omega) hqr]; exact hd1
        · have hz : ∀ q' (hq' : q' < M.length), r ≤ q' → M[q'].getD d 0 = 0 := fun q' hq' hr' => by
            have := hd2 q' (by omega) hq'
            rwa [ent_mask hq'] at this
          rcases Nat.lt_trichotomy j r with h3 | h3 | h3
          · have := hd2 j hj1 (by omega)
            rw [ent_mask (by omega)] at this ⊢
            rw [hElo j (by omega) h3]; exact this
          · subst h3
            rw [ent_mask (by omega), hEr]; exact hz i hin hri
          · obtain ⟨q', hq', hr', e⟩ := hSge j (by omega) h3
            rw [hEd j (by omega) d h3]
            have h4 : (S[j]'(by omega)).getD d 0 = 0 := by rw [e]; exact hz q' hq' hr'
            rw [h4, hz i hin hri]
            simp
      · obtain rfl : q = r := by omega
        refine ⟨c, by rw [ent_mask (by omega), hEr]; exact hoc, fun j hj1 hj2 => ?_⟩
        rw [hEd j (by omega) c hj1]
        by_cases e : (S[j]'(by omega)).getD c 0 = 1
        · rw [if_pos e, hoc, e]; simp
        · rw [if_neg e]
          rcases getD_bit (hSb _ (List.getElem_mem (show j < S.length by omega))) c with e1 | e1
          · exact e1
          · exact absurd e1 e
    · obtain ⟨q', hq', hr', e⟩ := hSge j (by omega) (by omega)
      rw [hEd j (by omega) d (by omega)]
      by_cases hdc : d = c
      · subst hdc
        by_cases e1 : (S[j]'(by omega)).getD d 0 = 1
        · rw [if_pos e1, hoc, e1]; simp
        · rw [if_neg e1]
          rcases getD_bit (hSb _ (List.getElem_mem (show j < S.length by omega))) d with e2 | e2
          · exact e2
          · exact absurd e2 e1
      · have h4 := h.low q' hr' hq' d (by omega)
        have h5 := h.low i hri hin d (by omega)
        rw [ent_mask hq'] at h4
        rw [ent_mask hin] at h5
        rw [e, h4, h5]
        simp
    · refine SubS.trans (sub_rows fun q hq => ?_) h.s1
      have hM : ∀ q (hq : q < S.length), inS (M.map mask) (mask S[q]) = true := fun q hq => by
        rw [hSat q hq]
        split
        · exact mem_rows hin
        · split
          · exact mem_rows hrn
          · exact mem_rows _
      by_cases hrq : r < q
      · rw [hEm q hq hrq]
        split
        · exact inS_xor (hM q (by omega)) (mem_rows hin)
        · exact hM q (by omega)
      · rw [hEat q hq, if_neg hrq]
        exact hM q (by omega)
    · refine SubS.trans h.s2 (sub_rows fun q hq => ?_)
      have hown : inS (E.map mask) (mask M[i]) = true := by
        have := mem_rows (N := E) (i := r) (by omega)
        rwa [hEr] at this
      have hES : ∀ q (hq : q < S.length), inS (E.map mask) (mask S[q]) = true := fun q hq => by
        have h6 := mem_rows (N := E) (i := q) (by omega)
        by_cases hrq : r < q
        · rw [hEm q (by omega) hrq] at h6
          split at h6
          · have := inS_xor h6 hown
            rwa [xor_cancel] at this
          · exact h6
        · rwa [hEat q (by omega), if_neg hrq] at h6
      by_cases e1 : q = i
      · subst e1; exact hown
      · by_cases e2 : q = r
        · subst e2
          have := hES i (by omega)
          rwa [hSat i (by omega), if_neg (by omega), if_pos rfl] at this
        · have := hES q (by omega)
          rwa [hSat q (by omega), if_neg e2, if_neg e1] at this
theorem ech_all {m : Nat} {M0 : List (List Int)} (hb : Bits M0) (hr : ∀ x ∈ M0, x.length = m) : ∀ c, ∃ M r, (List.range c).foldl (elimStep fun _ => 0) (M0, 0) = (M, r) ∧ Ech m c r M0 M
  | 0 => ⟨M0, 0, rfl, hb, rfl, hr, Nat.zero_le _, fun i h => absurd h (Nat.not_lt_zero _), fun j _ _ d h => absurd h (Nat.not_lt_zero _), SubS.refl _, SubS.refl _⟩
  | c + 1 => by
    obtain ⟨M, r, h1, h2⟩ := ech_all hb hr c
    obtain ⟨M', r', h3, h4⟩ := ech_step h2
    refine ⟨M', r', ?_, h4⟩
    rw [List.range_succ, List.foldl_append, h1]
    exact h3
theorem inS_low {L : List Nat} {d : Nat} (h : ∀ v ∈ L, v.testBit d = false) : ∀ {x : Nat}, inS L x = true → x.testBit d = false := by
  induction L with
  | nil =>
    intro x hx
    simp only [inS, beq_iff_eq] at hx
    subst hx
    exact Nat.zero_testBit d
  | cons v L ih =>
    intro x hx
    have ih' := fun {x : Nat} => ih (fun u hu => h u (List.mem_cons_of_mem _ hu)) (x := x)
    rw [inS, Bool.or_eq_true] at hx
    rcases hx with hx | hx
    · exact ih' hx
    · have h1 := ih' hx
      rw [Nat.testBit_xor, h v (List.mem_cons_self ..)] at h1
      simpa using h1
theorem elim_ind {m : Nat} {M0 : List (List Int)} (hb : Bits M0) (hr : ∀ x ∈ M0, x.length = m) : ∃ B : List Nat, B.length = (elimAll (fun _ => 0) M0 m).2 ∧ IndS m B ∧ SubS B (M0.map mask) ∧ SubS (M0.map mask) B := by
  obtain ⟨M, r, h1, h⟩ := ech_all hb hr m
  have hrk : (elimAll (fun _ => 0) M0 m).2 = r := by unfold elimAll; rw [h1]
  rw [hrk]
  refine ⟨(M.take r).map mask, by rw [List.length_map, List.length_take]; have := h.rle; omega, ?_, ?_, ?_⟩
  · have key : ∀ k i, r - i = k → i ≤ r → IndS m (((M.take r).drop i).map mask) := by
      intro k
      induction k with
      | zero =>
        intro i hk hi
        rw [List.drop_eq_nil_of_le (by rw [List.length_take]; omega)]
        exact trivial
      | succ k ih =>
        intro i hk hi
        have hil : i < (M.take r).length := by rw [List.length_take]; have := h.rle; omega
        have hiM : i < M.length := by rw [List.length_take] at hil; omega
        rw [List.drop_eq_getElem_cons hil, List.map_cons]
        obtain ⟨d, hd1, hd2⟩ := h.piv i (by omega)
        have hg : (M.take r)[i] = M[i] := List.getElem_take
        refine ⟨ih (i + 1) (by omega) (by omega), ?_, ?_⟩
        · rw [hg]
          have := mask_lt M[i]
          rwa [h.row _ (List.getElem_mem hiM)] at this
        · rw [Bool.eq_false_iff]
          intro hin
          have hlow := inS_low (d := d) (fun v hv => by
            obtain ⟨row, hrow, rfl⟩ := List.mem_map.1 hv
            obtain ⟨j, hj, rfl⟩ := List.mem_iff_getElem.1 hrow
            rw [List.length_drop, List.length_take] at hj
            rw [List.getElem_drop, List.getElem_take, mask_bit]
            have := hd2 (i + 1 + j) (by omega) (by omega)
            rw [ent_mask (by omega)] at this
            rw [this]; rfl) hin
          rw [hg, mask_bit] at hlow
          rw [ent_mask hiM] at hd1
          rw [hd1] at hlow
          exact absurd hlow (by decide)
    have := key r 0 (by omega) (Nat.zero_le _)
    simpa using this
  · refine SubS.trans (sub_of fun v hv => ?_) h.s1
    obtain ⟨row, hrow, rfl⟩ := List.mem_map.1 hv
    exact inS_mem (List.mem_map_of_mem (List.mem_of_mem_take hrow))
  · refine SubS.trans h.s2 (sub_rows' fun i hi => ?_)
    rcases Nat.lt_or_ge i r with h2 | h2
    · exact inS_mem (List.mem_map_of_mem (by rw [List.mem_take_iff_getElem]; exact ⟨i, by omega, rfl⟩))
    · have hz : mask M[i] = 0 := mask_zero fun j => by
        rcases Nat.lt_or_ge j m with h3 | h3
        · have := h.low i h2 hi j h3
          rwa [ent_mask hi] at this
        · rw [List.getD_eq_getElem?_getD, List.getElem?_eq_none (by rw [h.row _ (List.getElem_mem hi)]; exact h3)]
          rfl
      rw [hz]
      exact inS_zero _
def redN : Nat → List Nat → Nat
  | c, [] => c
  | c, b :: L => redN (min c (c ^^^ b)) L
theorem bit_at {b t : Nat} (h1 : 2 ^ t ≤ b) (h2 : b < 2 ^ (t + 1)) : b.testBit t = true := by
  rw [Nat.testBit_eq_decide_div_mod_eq]
  have h3 : b / 2 ^ t = 1 := by
    rw [Nat.pow_succ] at h2
    exact Nat.div_eq_of_lt_le (by omega) (by omega)
  rw [h3]
  rfl
theorem lt_of_bit {n m : Nat} (i : Nat) (hn : n.testBit i = false) (hm : m.testBit i = true) (h : ∀ j, i < j → n.testBit j = m.testBit j) : n < m := by
  have hd : n / 2 ^ (i + 1) = m / 2 ^ (i + 1) := Nat.eq_of_testBit_eq fun j => by
    rw [Nat.testBit_div_two_pow, Nat.testBit_div_two_pow]
    exact h _ (by omega)
  have hp : 0 < 2 ^ (i + 1) := Nat.two_pow_pos _
  have n1 := Nat.mod_lt n hp
  have m1 := Nat.mod_lt m hp
  have n2 : n % 2 ^ (i + 1) < 2 ^ i := by
    rcases Nat.lt_or_ge (n % 2 ^ (i + 1)) (2 ^ i) with h1 | h1
    · exact h1
    · have := bit_at h1 n1
      rw [Nat.testBit_mod_two_pow, hn, Bool.and_false] at this
      cases this
  have m2 : 2 ^ i ≤ m % 2 ^ (i + 1) := by
    rcases Nat.lt_or_ge (m % 2 ^ (i + 1)) (2 ^ i) with h1 | h1
    · have := Nat.testBit_lt_two_pow h1
      rw [Nat.testBit_mod_two_pow, hm, Bool.and_true] at this
      simp at this
    · exact h1
  have e1 := Nat.div_add_mod n (2 ^ (i + 1))
  have e2 := Nat.div_add_mod m (2 ^ (i + 1))
  rw [hd] at e1
  omega
theorem bit_top {b : Nat} (h : b ≠ 0) : b.testBit b.log2 = true := by
  have h1 := Nat.log2_self_le h
  have h2 : b < 2 ^ (b.log2 + 1) := Nat.lt_log2_self
  generalize b.log2 = t at h1 h2
  rw [Nat.testBit_eq_decide_div_mod_eq]
  have h3 : b / 2 ^ t = 1 := by
    rw [Nat.pow_succ] at h2
    exact Nat.div_eq_of_lt_le (by omega) (by omega)
  rw [h3]
  rfl
theorem bit_above {b j : Nat} (h : b.log2 < j) : b.testBit j = false :=
  Nat.testBit_lt_two_pow (Nat.lt_of_lt_of_le (Nat.lt_log2_self (n := b)) (Nat.pow_le_pow_right (by omega) h))
theorem min_bit {b : Nat} (hb : b ≠ 0) (c : Nat) : (min c (c ^^^ b)).testBit b.log2 = false ∧ (min c (c ^^^ b) = c ∨ min c (c ^^^ b) = c ^^^ b) := by
  have ht := bit_top hb
  have hj : ∀ j, b.log2 < j → (c ^^^ b).testBit j = c.testBit j := fun j h => by rw [Nat.testBit_xor, bit_above h, Bool.xor_false]
  cases hc : c.testBit b.log2 with
  | true =>
    have h0 : (c ^^^ b).testBit b.log2 = false := by rw [Nat.testBit_xor, hc, ht]; rfl
    have hlt : c ^^^ b < c := lt_of_bit b.log2 h0 hc hj
    rw [Nat.min_eq_right (Nat.le_of_lt hlt)]
    exact ⟨h0, .inr rfl⟩
  | false =>
    have h0 : (c ^^^ b).testBit b.log2 = true := by rw [Nat.testBit_xor, hc, ht]; rfl
    have hlt : c < c ^^^ b := lt_of_bit b.log2 hc h0 fun j h => (hj j h).symm
    rw [Nat.min_eq_left (Nat.le_of_lt hlt)]
    exact ⟨hc, .inl rfl⟩
def DescN (L : List Nat) : Prop := (∀ b ∈ L, b ≠ 0) ∧ L.Pairwise fun a b => b.log2 < a.log2
theorem DescN.tail {b : Nat} {L : List Nat} (h : DescN (b :: L)) : DescN L := ⟨fun x hx => h.1 x (List.mem_cons_of_mem _ hx), (List.pairwise_cons.1 h.2).2⟩
theorem red_keep {t : Nat} : ∀ (L : List Nat) (c : Nat), (∀ b ∈ L, b.log2 < t) → (∀ b ∈ L, b ≠ 0) → (redN c L).testBit t = c.testBit t
  | [], c, _, _ => rfl
  | b :: L, c, h, h0 => by
    rw [redN, red_keep L _ (fun x hx => h x (List.mem_cons_of_mem _ hx)) (fun x hx => h0 x (List.mem_cons_of_mem _ hx))]
    rcases (min_bit (h0 b (List.mem_cons_self ..)) c).2 with e | e <;> rw [e]
    rw [Nat.testBit_xor, bit_above (h b (List.mem_cons_self ..)), Bool.xor_false]
theorem red_bits : ∀ (L : List Nat) (c : Nat), DescN L → ∀ b ∈ L, (redN c L).testBit b.log2 = false
  | [], _, _, b, hb => by cases hb
  | b :: L, c, h, x, hx => by
    rw [redN]
    rcases List.mem_cons.1 hx with rfl | hx
    · rw [red_keep L _ (fun y hy => (List.pairwise_cons.1 h.2).1 y hy) h.tail.1]
      exact (min_bit (h.1 x (List.mem_cons_self ..)) c).1
    · exact red_bits L _ h.tail x hx
theorem red_span : ∀ (L : List Nat) (c : Nat), (∀ b ∈ L, b ≠ 0) → ∃ s, inS L s = true ∧ redN c L = c ^^^ s
  | [], c, _ => ⟨0, rfl, (Nat.xor_zero c).symm⟩
  | b :: L, c, h => by
    obtain ⟨s, h1, h2⟩ := red_span L (min c (c ^^^ b)) fun x hx => h x (List.mem_cons_of_mem _ hx)
    rcases (min_bit (h b (List.mem_cons_self ..)) c).2 with e | e
    · exact ⟨s, inS_cons b h1, by rw [redN, h2, e]⟩
    · exact ⟨b ^^^ s, inS_xor (inS_mem (List.mem_cons_self ..)) (inS_cons b h1), by rw [redN, h2, e, Nat.xor_assoc]⟩
theorem inS_ltp {t : Nat} {L : List Nat} (h : ∀ v ∈ L, v < 2 ^ t) : ∀ {x : Nat}, inS L x = true → x < 2 ^ t := by
  induction L with
  | nil =>
    intro x hx
    simp only [inS, beq_iff_eq] at hx
    subst hx
    exact Nat.two_pow_pos t
  | cons v L ih =>
    intro x hx
    have ih' := fun {x : Nat} => ih (fun u hu => h u (List.mem_cons_of_mem _ hu)) (x := x)
    rw [inS, Bool.or_eq_true] at hx
    rcases hx with hx | hx
    · exact ih' hx
    · have := Nat.xor_lt_two_pow (ih' hx) (h v (List.mem_cons_self ..))
      rwa [xor_cancel] at this
theorem desc_ind {m : Nat} : ∀ {L : List Nat}, DescN L → (∀ b ∈ L, b < 2 ^ m) → IndS m L
  | [], _, _ => trivial
  | b :: L, h, hm => by
    refine ⟨desc_ind h.tail fun x hx => hm x (List.mem_cons_of_mem _ hx), hm b (List.mem_cons_self ..), ?_⟩
    rw [Bool.eq_false_iff]
    intro hin
    have h1 := inS_ltp (t := b.log2) (fun v hv => Nat.lt_of_lt_of_le (Nat.lt_log2_self (n := v)) (Nat.pow_le_pow_right (by omega) ((List.pairwise_cons.1 h.2).1 v hv))) hin
    have h2 := Nat.log2_self_le (h.1 b (List.mem_cons_self ..))
    omega
theorem sub_mono {A B : List Nat} (h : ∀ v ∈ A, v ∈ B) : SubS A B := sub_of fun v hv => inS_mem (h v hv)
structure Bas (m : Nat) (L R : List Nat) : Prop where
  d : DescN L
  lt : ∀ b ∈ L, b < 2 ^ m
  s1 : SubS L R
  s2 : SubS R L
theorem Bas.nil (m : Nat) : Bas m [] [] := ⟨⟨(fun b h => by cases h), List.Pairwise.nil⟩, (fun b h => by cases h), SubS.refl _, SubS.refl _⟩
theorem Bas.skip {m : Nat} {L R : List Nat} {c : Nat} (h : Bas m L R) (h0 : redN c L = 0) : Bas m L (R ++ [c]) := by
  obtain ⟨s, h1, h2⟩ := red_span L c h.d.1
  have hc : c = s := by
    have : c ^^^ s ^^^ s = s := by rw [← h2, h0, Nat.zero_xor]
    rwa [xor_cancel] at this
  refine ⟨h.d, h.lt, h.s1.trans (sub_mono fun v hv => List.mem_append_left _ hv), sub_of fun v hv => ?_⟩
  rcases List.mem_append.1 hv with hv | hv
  · exact h.s2 v (inS_mem hv)
  · rw [List.mem_singleton.1 hv, hc]; exact h1
theorem Bas.add {m : Nat} {L R L' : List Nat} {c : Nat} (h : Bas m L R) (hc : c < 2 ^ m) (h0 : redN c L ≠ 0) (hp : L'.Perm (L ++ [redN c L])) (hs : L'.Pairwise fun a b => ¬ a < b) : Bas m L' (R ++ [c]) := by
  obtain ⟨s, h1, h2⟩ := red_span L c h.d.1
  have hr : redN c L < 2 ^ m := by rw [h2]; exact Nat.xor_lt_two_pow hc (inS_ltp h.lt h1)
  have hmem : ∀ v, v ∈ L' ↔ v ∈ L ∨ v = redN c L := fun v => by rw [hp.mem_iff, List.mem_append, List.mem_singleton]
  have hn : ∀ b ∈ L', b ≠ 0 := fun b hb => by
    rcases (hmem b).1 hb with hb | rfl
    · exact h.d.1 b hb
    · exact h0
  have hne : ∀ b ∈ L, b.log2 ≠ (redN c L).log2 := fun b hb e => by
    have h3 := red_bits L c h.d b hb
    rw [e, bit_top h0] at h3
    cases h3
  have hdis : (L ++ [redN c L]).Pairwise fun a b => a.log2 ≠ b.log2 := by
    rw [List.pairwise_append]
    refine ⟨List.Pairwise.imp (fun {a b} h => by omega) h.d.2, List.pairwise_singleton _ _, fun a ha b hb => ?_⟩
    rw [List.mem_singleton.1 hb]
    exact hne a ha
  have hdis' : L'.Pairwise fun a b => a.log2 ≠ b.log2 := (hp.pairwise_iff (fun {a b} h => Ne.symm h)).2 hdis
  have hcan : inS L' c = true := by
    have h4 : inS L' (redN c L ^^^ s) = true := inS_xor (inS_mem ((hmem _).2 (.inr rfl))) (sub_mono (fun v hv => (hmem v).2 (.inl hv)) s h1)
    rwa [h2, xor_cancel] at h4
  refine ⟨⟨hn, ?_⟩, fun b hb => ?_, sub_of fun v hv => ?_, sub_of fun v hv => ?_⟩
  · have h5 := List.Pairwise.and hs hdis'
    have h6 := List.pairwise_iff_getElem.1 h5
    refine List.pairwise_iff_getElem.2 fun i j hi hj hij => ?_
    obtain ⟨a1, a2⟩ := h6 i j hi hj hij
    have n1 := hn _ (List.getElem_mem hi)
    have n2 := hn _ (List.getElem_mem hj)
    generalize L'[i] = x at *
    generalize L'[j] = y at *
    rcases Nat.lt_or_ge y.log2 x.log2 with h7 | h7
    · exact h7
    · exfalso
      have e1 : x < 2 ^ (x.log2 + 1) := Nat.lt_log2_self
      have e2 := Nat.log2_self_le n2
      have e3 : 2 ^ (x.log2 + 1) ≤ 2 ^ y.log2 := Nat.pow_le_pow_right (by omega) (by omega)
      omega
  · rcases (hmem b).1 hb with hb | rfl
    · exact h.lt b hb
    · exact hr
  · rcases (hmem v).1 hv with hv | rfl
    · exact (sub_mono (fun v hv => List.mem_append_left _ hv)) v (h.s1 v (inS_mem hv))
    · rw [h2]
      exact inS_xor (inS_mem (List.mem_append_right _ (List.mem_singleton.2 rfl))) ((sub_mono (fun v hv => List.mem_append_left _ hv)) s (h.s1 s h1))
  · rcases List.mem_append.1 hv with hv | hv
    · exact (sub_mono fun v hv => (hmem v).2 (.inl hv)) v (h.s2 v (inS_mem hv))
    · rw [List.mem_singleton.1 hv]; exact hcan
theorem Bas.rank {m : Nat} {L : List Nat} {M : List (List Int)} (hb : Bits M) (hr : ∀ x ∈ M, x.length = m) (h : Bas m L (M.map mask)) : L.length = (elimAll (fun _ => 0) M m).2 := by
  obtain ⟨B, h1, h2, h3, h4⟩ := elim_ind hb hr
  rw [← h1]
  exact ind_len (desc_ind h.d h.lt) h2 (h.s1.trans h4) (h3.trans h.s2)
end Go.Proofs.YtpjcnigohhnhnaaGreat.Pu
namespace Go.Proofs.YtpjcnigohhnhnaaGreat.QS
open Cw Kp Ext Go.RowKit YtpjcnigohhnhnaaGreatW.PrintWords YtpjcnigohhnhnaaGreatW.PrintLast YtpjcnigohhnhnaaGreatW.PrintMore
attribute [local go_sem] max2_int min2_int max_two min_two max_three min_three max_four min_four   -- for this text's walks alone
mutual
def spec_l06Rows.l0 : Nat → List (S46) → Int → List Int → List (List Int) → Int → Option ((List (List Int)))
 | 0, _, _, _, _, _ => none
 | k + 1, x1, x2, x7, x8, x9 => if x9 < (x7.length : Int) then (if 0 ≤ x9 then ((spec_l02Dim.f k (rd x7 x9)).bind fun t269 => (if t269 = x2 then (spec_l06Rows.l1 k x1 x2 x7 x8 x9 (([] : List Int)) 0) else (spec_l06Rows.l0 k x1 x2 x7 x8 (wrap64 (x9 + 1))))) else (none)) else (some x8)
def spec_l06Rows.l1 : Nat → List (S46) → Int → List Int → List (List Int) → Int → List Int → Int → Option ((List (List Int)))
 | 0, _, _, _, _, _, _, _ => none
 | k + 1, x1, x2, x7, x8, x9, x10, x11 => if x11 < (x7.length : Int) then (if 0 ≤ x11 then ((spec_l02Dim.f k (rd x7 x11)).bind fun t277 => (if t277 = (wrap64 (x2 - 1)) then (if 0 ≤ x9 then (if x9 < (x7.length : Int) then ((spec_l06Between.f k x1 (rd x7 x9) (rd x7 x11)).bind fun t280 => (if x10.length < 17592186044416 then (spec_l06Rows.l1 k x1 x2 x7 x8 x9 (x10 ++ [Int.tmod t280 2]) (wrap64 (x11 + 1))) else (none))) else (none)) else (none)) else (spec_l06Rows.l1 k x1 x2 x7 x8 x9 x10 (wrap64 (x11 + 1))))) else (none)) else (if x8.length < 5864062014805 then (spec_l06Rows.l0 k x1 x2 x7 (x8 ++ [x10]) (wrap64 (x9 + 1))) else (none))
end
def spec_l06Rows.f (k : Nat) (a0_0 : Int) (l0_1 : List Int) (l1 : List (S46)) (a2 : Int) : Option ((List (List Int))) := (spec_l02Critical.f k a0_0 l0_1 l1).bind fun t262 => (spec_l06Rows.l0 k l1 a2 t262 (([] : List (List Int))) 0)
def spec_l06Rows.T11 : Bool × List (List Nat × List Nat) := (true, [([], []), ([], []), ([], []), ([], []), ([2, 3], [2, 3]), ([4], [4]), ([], []), ([], []), ([6, 7], [6, 7]), ([8], [8]), ([1, 5, 9], [1, 5, 9]), ([10], [10]), ([11], [11]), ([0, 12, 10], [0, 12]), ([13, 13, 0, 1, 2, 3, 4, 5, 6, 7, 8, 9, 10, 11, 12, 13], [0, 13])])
def spec_l06Rows.B11 : List Nat := [0, 0, 0, 0, 12, 28, 0, 0, 192, 448, 1022, 2046, 4094, 8191, 16383]
theorem spec_l06Rows.tab11 : rtab .any (opsOf Tryz.f35 11) = spec_l06Rows.T11 := by kernel_rfl
theorem spec_l06Rows.bits11 : waitsOk spec_l06Rows.T11.2 spec_l06Rows.B11 = true := by kernel_rfl
set_option maxHeartbeats 8000000 in
set_option maxRecDepth 100000 in
theorem spec_l06Rows.calls (k : Nat) (a0_0 : Int) (A0_1 : Option Addr) (c0_1 : Nat) (l0_1 : List Int) (A1 : Option Addr) (c1 : Nat) (l1 : List (S46)) (a2 : Int) (r : List (List Int)) (w : World) (hr0_1 : Kd.C (Kd.int .i64) w A0_1 l0_1.length l0_1) (hc0_1 : l0_1.length ≤ c0_1) (hr1 : Kd.C k46 w A1 l1.length l1) (hc1 : l1.length ≤ c1) (h : spec_l06Rows.f k a0_0 l0_1 l1 a2 = some r) :
  Calls Tryz.prog 35 #[.agg #[.int .i64 a0_0, .slice A0_1 l0_1.length c0_1], .slice A1 l1.length c1, .int .i64 a2] w fun e w' => ∃ v0_ : Value, e = .returned (v0_) ∧ Kd.S (Kd.slice 2 (Kd.int .i64)) 22 w' w.heap.size (fun _ => True) v0_ r ∧ Below w.heap.size w w' := by
 have hu30 := Tryz.underlying30
 have HR0_1 := Aside0.mk hr0_1
 have HC0_1 := Aside0.mk hc0_1
 clear hr0_1 hc0_1
 have HR1 := Aside0.mk hr1
 have HC1 := Aside0.mk hc1
 clear hr1 hc1
 have HB := Aside0.mk (Below.refl w.heap.size w)
 have H : ((spec_l02Critical.f k a0_0 l0_1 l1).bind fun t262 => (spec_l06Rows.l0 k l1 a2 t262 (([] : List (List Int))) 0)) = some r := h
 clear h
 replace H := Option.bind_eq_some_iff.mp H
 obtain ⟨t262, A40, H⟩ := H
 try dsimp only at H
 have A4 := Aside0.mk A40
 clear A40
 obtain ⟨y265, hy265⟩ : ∃ y_ : List (List Int), y_ = (([] : List (List Int))) := ⟨_, rfl⟩
 replace H : (spec_l06Rows.l0 k l1 a2 t262 y265 0) = some r := by first | (rw [hy265]; with_reducible exact H) | (have H2_ := (Option.bind_some _ _).symm.trans H; rw [hy265]; with_reducible exact H2_) | (have H2_ := (Option.bind_some _ _).symm.trans H; with_reducible exact H2_) | with_reducible exact H | (rw [hy265]; exact H) | exact H
 have Ny265 := Aside0.mk hy265
 clear hy265
 have H' := Aside0.mk H
 clear H
 go_enter Tryz.func35, Tryz.ntmps35
 go_wp2_with (first | ((with_reducible refine gate_dst (N := 3) rfl ?_); refine box_event ?hg (N := 3) ?hd (cs := #[.int .i64 a0_0, .slice A0_1 l0_1.length c0_1]) (t := 30) ?hr ?_; (case hd => rfl); (case hg => rfl); (case hr => first | (go_simp; done) | (go_simp; rfl)); intro gb261 hg w5 hbox hb; have BK261 := Aside0.mk (hbox); have GW261 := gH HB hg; have GE261 := gH HB hg; replace HB := sH HB hb; clear hb hbox hg; have hcz6_0 : w5.cell? ⟨gb261, 0, none⟩ = some (.int .i64 a0_0) := cB BK261 0; have hcz6_1 : w5.cell? ⟨gb261, 1, none⟩ = some (.slice A0_1 l0_1.length c0_1) := cB BK261 1; have hfz6_0 := zB BK261 0; have hfz6_1 := zB BK261 1) | ((with_reducible refine gate_callee (f := 60) rfl ?_); refine cl_ (some 14) Tryz.func60 #[.agg #[.int .i64 a0_0, .slice A0_1 l0_1.length c0_1], .slice A1 l1.length c1] ?_; (with_reducible refine (spec_l02Critical.calls k a0_0 _ _ l0_1 _ _ l1 t262 _ ?side1 ?side2 ?side3 ?side4 A4.out).mono ?_); (case side1 => exact pC ((Kd.C_below HR0_1.out HB.out))); (case side2 => exact HC0_1.out); (case side3 => exact pC ((Kd.C_below HR1.out HB.out))); (case side4 => exact HC1.out); rintro e w7 ⟨v263, rfl, ho0, hb⟩; refine ⟨_, rfl, ?_⟩; have HO264 := Aside0.mk (Kd.R_lower ho0 (below_size (pH HB))); replace BK261 := sB BK261 hb; replace HB := sH HB hb; (try clear hb); (try clear hi); (try clear ho0)) | ((with_reducible refine gate_dst (N := 15) rfl ?_); refine Kd.S_lit (Kd.slice 2 (Kd.int .i64)) _ 22 ?hg (N := 15) ?hd (xs := ([] : List (List Int))) (inner := []) (ok := fun _ => True) (okp := fun _ => True) ?hr ?hp (fun _ hk => hk) trivial (Below.refl _ _) (Nat.le_refl _) (by simp) ?_; (case hd => rfl); (case hg => rfl); (case hr => first | (go_simp; done) | (go_simp; rfl)); (case hp => exact (Reps.none _ _)); intro v266 w8 ho9 hb hg_ hnew_; clear hg_ hnew_; (first | rw [← Ny265.out] at ho9 | (simp only [Int.reduceToNat] at ho9; rw [← Ny265.out] at ho9)); have HO267 := Aside0.mk (Kd.S_lower (Kd.S_new' ho9 (Kd.R_lt (pR HO264))) (below_size (pH HB))); replace HO264 := sR HO264 hb; replace BK261 := sB BK261 hb; replace HB := sH HB hb; clear hb ho9))
 go_loopg [8, 9] k (fun kq v8 v9 w' => ∃ (x8_1 : List (List Int)) (x9_1 : Int), v9 = .int .i64 x9_1 ∧ Aside0 (spec_l06Rows.l0 kq l1 a2 t262 x8_1 x9_1 = some r) ∧ Aside0 (kq ≤ k) ∧ Aside0 (Kd.R (Kd.int .i64) 2 w' w.heap.size (fun _ => True) v263 t262) ∧ Aside0 (Kd.S (Kd.slice 2 (Kd.int .i64)) 22 w' w.heap.size (fun k_ => some k_ ≠ (v263 : Value).ownBlock) v8 x8_1) ∧ Aside0 (w'.heap[gb261]? = some (.cells #[.int .i64 a0_0, (.slice A0_1 l0_1.length c0_1)] 30 (0, 0))) ∧ Aside0 (Below w.heap.size w w'))
 case atStart => exact ⟨(y265), (0), (by first | rfl | (simp; done) | (simp [*]; done)), H', ⟨Nat.le_refl _⟩, ⟨by (with_reducible repeat (first | apply Kd.R_alloc | apply Kd.R_drewN | apply Kd.R_drew)); exact HO264.out⟩, ⟨by (with_reducible repeat (first | apply Kd.S_alloc | apply Kd.S_drewN | apply Kd.S_drew)); exact Kd.S_mono HO267.out (fun _ hk => hk.2)⟩, ⟨pB BK261⟩, ⟨pH HB⟩⟩
 case round =>
  clear H'
  try clear c1
  try clear p2
  try clear c3
  try clear c6
  try clear hcz6_0
  try clear hcz6_1
  try clear hfz6_0
  try clear hfz6_1
  obtain ⟨x8_1, x9_1, rfl, HA, HK1, HO_7, HO_8, BK261, HB⟩ := hrel
  cases gk with
  | zero => exact absurd HA.out (by simp [spec_l06Rows.l0])
  | succ k1 =>
   have H := HA.out
   clear HA
   simp only [spec_l06Rows.l0] at H
   by_cases c10 : x9_1 < (t262.length : Int)
   ·rw [if_pos c10] at H
    have c10b0 : decide (x9_1 < (t262.length : Int)) = true := decide_eq_true c10
    clear c10
    by_cases c11 : 0 ≤ x9_1
    ·rw [if_pos c11] at H
     have c11b0 : decide (0 ≤ x9_1) = true := decide_eq_true c11
     clear c11
     replace H := Option.bind_eq_some_iff.mp H
     obtain ⟨t269, A120, H⟩ := H
     try dsimp only at H
     have A12 := Aside0.mk A120
     clear A120
     by_cases c13 : t269 = a2
     ·rw [if_pos c13] at H
      have c13b0 : (t269 == a2) = true := beq_iff_eq.mpr c13
      have c13b1 : (t269 != a2) = false := bne_eq_false_iff_eq.mpr c13
      clear c13
      obtain ⟨y270, hy270⟩ : ∃ y_ : List Int, y_ = (([] : List Int)) := ⟨_, rfl⟩
      replace H : (spec_l06Rows.l1 k1 l1 a2 t262 x8_1 x9_1 y270 0) = some r := by first | (rw [hy270]; with_reducible exact H) | (have H2_ := (Option.bind_some _ _).symm.trans H; rw [hy270]; with_reducible exact H2_) | (have H2_ := (Option.bind_some _ _).symm.trans H; with_reducible exact H2_) | with_reducible exact H | (rw [hy270]; exact H) | exact H
      have Ny270 := Aside0.mk hy270
      clear hy270
      have H' := Aside0.mk H
      clear H
      obtain ⟨Ao14, co14, eo14⟩ := Kd.R_slice HO_7.out
      subst eo14
      have p268 : 0 ≤ (x9_1 : Int) := of_decide_eq_true (by first | (with_reducible assumption) | assumption)
      have q268 : x9_1 < (t262.length : Int) := of_decide_eq_true (by first | (with_reducible assumption) | assumption)
      obtain ⟨ad268, e268, hx268_0⟩ := Kd.at_int (Kd.R_reads' HO_7.out).2.2 x9_1 p268 q268
      cases e268
      replace p268 := eq_true p268
      replace q268 := eq_true q268
      go_wp2_with (first | ((with_reducible refine gate_callee (f := 59) rfl ?_); refine cl_ (some 26) Tryz.func59 #[.int .i64 (rd t262 x9_1)] ?_; (with_reducible refine (spec_l02Dim.calls k1 (rd t262 x9_1) t269 _ A12.out).mono ?_); rintro e w' ⟨rfl, ⟨nd, rfl⟩⟩; refine ⟨_, rfl, ?_⟩) | ((with_reducible refine gate_dst (N := 29) rfl ?_); refine Kd.R_lit (Kd.int .i64) _ 2 ?hg (N := 29) ?hd (xs := ([] : List Int)) (inner := []) (ok := fun _ => True) (okp := fun _ => True) ?hr ?hp (fun _ hk => hk) trivial (Below.refl _ _) (Nat.le_refl _) (by simp) ?_; (case hd => rfl); (case hg => rfl); (case hr => first | (go_simp; done) | (go_simp; rfl)); (case hp => exact (Reps.none _ _)); intro v271 w15 ho16 hb hg_ hnew_; clear hg_ hnew_; (first | rw [← Ny270.out] at ho16 | (simp only [Int.reduceToNat] at ho16; rw [← Ny270.out] at ho16)); have n0_ := Aside0.mk (Kd.R_elder' (pR HO_7) (Kd.R_base ho16) hb); have n1_ := Aside0.mk (Kd.S_elder' (by (with_reducible repeat (first | apply Kd.S_alloc | apply Kd.S_drewN | apply Kd.S_drew)); exact HO_8.out) (Kd.R_base ho16) hb); have n2_ := Aside0.mk (Kd.R_lower (Kd.R_new' ho16 (Kd.R_lt (pR HO_7))) (below_size (pH HB))); have n3_ := sB BK261 hb; have n4_ := sH HB hb; clear HO_7; clear HO_8; clear BK261; clear HB; have HO_7 := n0_; have HO_8 := n1_; have HO272 := n2_; have BK261 := n3_; have HB := n4_; clear n0_ n1_ n2_ n3_ n4_; clear hb ho16))
      go_loopg [10, 11] k1 (fun kq v10 v11 w' => ∃ (x10_2 : List Int) (x11_2 : Int), v11 = .int .i64 x11_2 ∧ Aside0 (spec_l06Rows.l1 kq l1 a2 t262 x8_1 x9_1 x10_2 x11_2 = some r) ∧ Aside0 (kq ≤ k1) ∧ Aside0 (Kd.R (Kd.int .i64) 2 w' w.heap.size (fun k_ => some k_ ≠ (v10 : Value).ownBlock) (.slice (some ad268) t262.length co14) t262) ∧ Aside0 (Kd.S (Kd.slice 2 (Kd.int .i64)) 22 w' w.heap.size (fun k_ => some k_ ≠ ((.slice (some ad268) t262.length co14) : Value).ownBlock ∧ some k_ ≠ (v10 : Value).ownBlock) u8 x8_1) ∧ Aside0 (Kd.R (Kd.int .i64) 2 w' w.heap.size (fun k_ => some k_ ≠ ((.slice (some ad268) t262.length co14) : Value).ownBlock) v10 x10_2) ∧ Aside0 (w'.heap[gb261]? = some (.cells #[.int .i64 a0_0, (.slice A0_1 l0_1.length c0_1)] 30 (0, 0))) ∧ Aside0 (Below w.heap.size w w'))
      case atStart => exact ⟨(y270), (0), (by first | rfl | (simp; done) | (simp [*]; done)), H', ⟨Nat.le_refl _⟩, ⟨by (with_reducible repeat (first | apply Kd.R_alloc | apply Kd.R_drewN | apply Kd.R_drew)); exact Kd.R_mono HO_7.out (fun _ hk => hk.2)⟩, ⟨by (with_reducible repeat (first | apply Kd.S_alloc | apply Kd.S_drewN | apply Kd.S_drew)); exact HO_8.out⟩, ⟨by (with_reducible repeat (first | apply Kd.R_alloc | apply Kd.R_drewN | apply Kd.R_drew)); exact Kd.R_mono HO272.out (fun _ hk => hk.2)⟩, ⟨pB BK261⟩, ⟨pH HB⟩⟩
      case round =>
       clear H'
       try clear c1
       try clear p2
       try clear q2
       try clear hx2
       try clear c3
       try clear c5
       try clear c6
       try clear p6
       try clear c10
       try clear c10b0
       try clear c11
       try clear c11b0
       try clear c13
       try clear c13b0
       try clear c13b1
       try clear hcz6_0
       try clear hcz6_1
       try clear hfz6_0
       try clear hfz6_1
       try clear hx268_0
       try clear p2
       try clear p268
       try clear q268
       obtain ⟨x10_2, x11_2, rfl, HA, HK2, HO_7, HO_8, HO_10, BK261, HB⟩ := hrel
       cases gk with
       | zero => exact absurd HA.out (by simp [spec_l06Rows.l1])
       | succ k2 =>
        have H := HA.out
        clear HA
        simp only [spec_l06Rows.l1] at H
        by_cases c17 : x11_2 < (t262.length : Int)
        ·rw [if_pos c17] at H
         have c17b0 : decide (x11_2 < (t262.length : Int)) = true := decide_eq_true c17
         clear c17
         by_cases c18 : 0 ≤ x11_2
         ·rw [if_pos c18] at H
          have c18b0 : decide (0 ≤ x11_2) = true := decide_eq_true c18
          clear c18
          replace H := Option.bind_eq_some_iff.mp H
          obtain ⟨t277, A190, H⟩ := H
          try dsimp only at H
          have A19 := Aside0.mk A190
          clear A190
          by_cases c20 : t277 = (wrap64 (a2 - 1))
          ·rw [if_pos c20] at H
           have c20b0 : (t277 == (wrap64 (a2 - 1))) = true := beq_iff_eq.mpr c20
           have c20b1 : (t277 != (wrap64 (a2 - 1))) = false := bne_eq_false_iff_eq.mpr c20
           clear c20
           by_cases c21 : 0 ≤ x9_1
           ·rw [if_pos c21] at H
            have c21b0 : decide (0 ≤ x9_1) = true := decide_eq_true c21
            clear c21
            by_cases c22 : x9_1 < (t262.length : Int)
            ·rw [if_pos c22] at H
             have c22b0 : decide (x9_1 < (t262.length : Int)) = true := decide_eq_true c22
             clear c22
             replace H := Option.bind_eq_some_iff.mp H
             obtain ⟨t280, A230, H⟩ := H
             try dsimp only at H
             have A23 := Aside0.mk A230
             clear A230
             by_cases c24 : x10_2.length < 17592186044416
             ·rw [if_pos c24] at H
              have LMc24 := Aside0.mk c24
              clear c24
              obtain ⟨y281, hy281⟩ : ∃ y_ : List Int, y_ = (x10_2 ++ [Int.tmod t280 2]) := ⟨_, rfl⟩
              replace H : (spec_l06Rows.l1 k2 l1 a2 t262 x8_1 x9_1 y281 (wrap64 (x11_2 + 1))) = some r := by first | (rw [hy281]; with_reducible exact H) | (have H2_ := (Option.bind_some _ _).symm.trans H; rw [hy281]; with_reducible exact H2_) | (have H2_ := (Option.bind_some _ _).symm.trans H; with_reducible exact H2_) | with_reducible exact H | (rw [hy281]; exact H) | exact H
              have Ny281 := Aside0.mk hy281
              clear hy281
              have H' := Aside0.mk H
              clear H
              have p276 : 0 ≤ (x11_2 : Int) := of_decide_eq_true (by first | (with_reducible assumption) | assumption)
              have q276 : x11_2 < (t262.length : Int) := of_decide_eq_true (by first | (with_reducible assumption) | assumption)
              obtain ⟨ad276, e276, hx276_0⟩ := Kd.at_int (Kd.R_reads' HO_7.out).2.2 x11_2 p276 q276
              obtain rfl : ad268 = ad276 := (by injection e276)
              replace p276 := eq_true p276
              replace q276 := eq_true q276
              try go_wp2_with (first | ((with_reducible refine gate_callee (f := 59) rfl ?_); refine cl_ (some 40) Tryz.func59 #[.int .i64 (rd t262 x11_2)] ?_; (with_reducible refine (spec_l02Dim.calls k2 (rd t262 x11_2) t277 _ A19.out).mono ?_); rintro e w' ⟨rfl, ⟨nd, rfl⟩⟩; refine ⟨_, rfl, ?_⟩))
              (try (rw [drewN_self wr]; generalize hq_ : World.drewN wr _ = wr; have n0_ : Aside0 (Kd.R (Kd.int .i64) 2 wr w.heap.size (fun k_ => some k_ ≠ (.slice (some ad268) t262.length co14 : Value).ownBlock) u10 x10_2) := ⟨by rw [← hq_]; exact (pR HO_10)⟩; have n1_ : Aside0 (Kd.R (Kd.int .i64) 2 wr w.heap.size (fun k_ => some k_ ≠ (u10 : Value).ownBlock) (.slice (some ad268) t262.length co14) t262) := ⟨by rw [← hq_]; exact (pR HO_7)⟩; have n2_ : Aside0 (Kd.S (Kd.slice 2 (Kd.int .i64)) 22 wr w.heap.size (fun k_ => some k_ ≠ (u10 : Value).ownBlock ∧ some k_ ≠ (.slice (some ad268) t262.length co14 : Value).ownBlock) u8 x8_1) := ⟨by rw [← hq_]; exact (by (with_reducible repeat (first | apply Kd.S_alloc | apply Kd.S_drewN | apply Kd.S_drew)); exact Kd.S_mono HO_8.out (fun _ hk => ⟨hk.2, hk.1⟩))⟩; have n3_ : Aside0 (wr.heap[gb261]? = some (.cells #[.int .i64 a0_0, .slice A0_1 l0_1.length c0_1] 30 (0, 0))) := ⟨by rw [← hq_]; exact (pB BK261)⟩; have n4_ : Aside0 (Below w.heap.size w wr) := ⟨by rw [← hq_]; exact (pH HB)⟩; clear HO_10 HO_7 HO_8 BK261 HB hq_; have HO_10 := n0_; have HO_7 := n1_; have HO_8 := n2_; have BK261 := n3_; have HB := n4_; clear n0_ n1_ n2_ n3_ n4_))
              (try (have hcz25_0 : wr.cell? ⟨gb261, 0, none⟩ = some (.int .i64 a0_0) := cB BK261 0; have hcz25_1 : wr.cell? ⟨gb261, 1, none⟩ = some (.slice A0_1 l0_1.length c0_1) := cB BK261 1; have hfz25_0 := zB BK261 0; have hfz25_1 := zB BK261 1))
              replace HO_7 := Aside0.mk (Kd.R_drew HO_7.out)
              replace HO_8 := Aside0.mk (Kd.S_drew HO_8.out)
              replace HO_10 := Aside0.mk (Kd.R_drew HO_10.out)
              replace BK261 := dB BK261
              replace HB := dH HB
              have p278 : 0 ≤ (x9_1 : Int) := of_decide_eq_true (by first | (with_reducible assumption) | assumption)
              have q278 : x9_1 < (t262.length : Int) := of_decide_eq_true (by first | (with_reducible assumption) | assumption)
              obtain ⟨ad278, e278, hx278_0⟩ := Kd.at_int (Kd.R_reads' HO_7.out).2.2 x9_1 p278 q278
              obtain rfl : ad268 = ad278 := (by injection e278)
              replace p278 := eq_true p278
              replace q278 := eq_true q278
              have p279 : 0 ≤ (x11_2 : Int) := of_decide_eq_true (by first | (with_reducible assumption) | assumption)
              have q279 : x11_2 < (t262.length : Int) := of_decide_eq_true (by first | (with_reducible assumption) | assumption)
              obtain ⟨ad279, e279, hx279_0⟩ := Kd.at_int (Kd.R_reads' HO_7.out).2.2 x11_2 p279 q279
              obtain rfl : ad268 = ad279 := (by injection e279)
              replace p279 := eq_true p279
              replace q279 := eq_true q279
              refine st_ 15 (S := fun w' => w'.cell? (ad268.add (x9_1).toNat) = some (.int .i64 (rd t262 x9_1)) ∧ w'.cell? (ad268.add (x11_2).toNat) = some (.int .i64 (rd t262 x11_2))) (ds := [12, 13]) ⟨hx278_0, hx279_0⟩ (fun hHeld => ?_); refine with_tabW spec_l06Rows.tab11 spec_l06Rows.bits11 (fun HT_ HW_ => ?_)
              generalize wr.drew = w26 at HO_7 HO_8 HO_10 BK261 HB hx278_0 hx279_0 hHeld ⊢
              refine pu_ 0 44 1 HT_ ?_
              refine pu_ 1 45 3 HT_ ?_
              refine pu_ 2 46 7 HT_ ?_
              refine pu_ 3 47 15 HT_ ?_
              refine pu_ 4 48 31 HT_ ?_
              refine pu_ 6 50 95 HT_ ?_
              refine pu_ 7 51 223 HT_ ?_
              refine pu_ 8 52 479 HT_ ?_
              refine tk_ 5 49 511 HT_ HW_ hHeld ?_
              refine tk_ 9 53 1023 HT_ HW_ hHeld ?_
              refine on_ 10 (some 54) 2047 HT_ (fun K hK => ?_)
              refine ca_ Tryz.func61 #[.slice A1 l1.length c1, .int .i64 (rd t262 x9_1), .int .i64 (rd t262 x11_2)] ?_
              with_reducible refine (spec_l06Between.calls k2 _ _ l1 (rd t262 x9_1) (rd t262 x11_2) t280 _ ?side1 ?side2 A23.out).mono ?_
              (case side1 => exact pC ((Kd.C_below HR1.out HB.out)))
              (case side2 => exact HC1.out)
              rintro e w27 ⟨rfl, hb⟩
              have HS0_ := (hb.cell (World.block_lt_of_cell? _ _ (hHeld.1))).trans (hHeld.1)
              have HS1_ := (hb.cell (World.block_lt_of_cell? _ _ (hHeld.2))).trans (hHeld.2)
              refine ⟨_, rfl, ?_⟩
              replace HO_7 := sR HO_7 hb
              replace HO_8 := Aside0.mk (Kd.S_below (by (with_reducible repeat (first | apply Kd.S_alloc | apply Kd.S_drewN | apply Kd.S_drew)); exact HO_8.out) hb)
              replace HO_10 := sR HO_10 hb
              replace BK261 := sB BK261 hb
              replace HB := sH HB hb
              (try clear hb)
              (try clear hb2)
              (try clear hk)
              (try clear hi)
              refine hK.out _ _ ⟨HS0_, HS1_⟩ (fun hHeld => ?_)
              clear hK K
              refine nm_ ?_
              refine pu_ 11 55 4095 HT_ ?_
              refine last_ (i := 12) (N := some 56) (mB 15 8191) rfl rfl (one_of HT_.out (by kernel_rfl)) (by decide) (fun K hK => ?_)
              refine value_ (w1 := ?_) (v := ?_) (by rfl) rfl ?_ ?_
              rotate_left 2
              ·go_simp
               constructor
               ·rfl
               ·rfl
              refine hK.out _ _ ?_
              clear hK K
              refine nm_ ?_
              refine last_ (i := 13) (N := some 57) (mB 15 16383) rfl rfl (one_of HT_.out (by kernel_rfl)) (by decide) (fun K hK => ?_)
              refine Kd.R_append_step (Kd.int .i64) (w0 := w) w.heap.size (by rfl) (.tmp 44) (.tmp 56) 22 2 (.int .i64 0) 8 rfl Tryz.underlying22 info2 rfl (by decide) (by omega) u10 x10_2 (Int.tmod t280 2) [.int .i64 (Int.tmod t280 2)] (fun k_ => some k_ ≠ (.slice (some ad268) t262.length co14 : Value).ownBlock) (fun _ => False) rfl rfl ?aP (fun _ hk => hk.elim) ?aF ?aO ?aB ?aS ?aL ?_
              (case aP => exact rfl)
              (case aB => exact (pH HB))
              (case aF => exact (fun k_ hk => Kd.fresh' (Kd.R_lt (pR HO_7)) k_ hk))
              (case aO => exact (pR HO_10))
              (case aS => exact (below_size (pH HB)))
              (case aL => have := LMc24.out; omega)
              intro v282 w28 ho hb hg hat
              rw [← Ny281.out] at ho
              replace HO_7 := Aside0.mk (Kd.R_after (ok := (fun _ => True)) (by (with_reducible repeat (first | apply Kd.R_alloc | apply Kd.R_drewN | apply Kd.R_drew)); exact Kd.R_mono HO_7.out (fun _ hk => ⟨trivial, hk⟩)) hg hat)
              replace HO_8 := Aside0.mk (Kd.S_after (ok := (fun k_ => some k_ ≠ (.slice (some ad268) t262.length co14 : Value).ownBlock)) (by (with_reducible repeat (first | apply Kd.S_alloc | apply Kd.S_drewN | apply Kd.S_drew)); exact Kd.S_mono HO_8.out (fun _ hk => ⟨hk.2, hk.1⟩)) hg hat)
              replace BK261 := Aside0.mk (blk_grown (g := gb261) (o := .cells #[.int .i64 a0_0, .slice A0_1 l0_1.length c0_1] 30 (0, 0)) (pB BK261) hg (Kd.R_ne HO_10.out BK261.out (by decide)))
              replace HB := Aside0.mk (hb)
              have HO283 := Aside0.mk (ho)
              clear HO_10
              clear ho hb hg hat
              refine hK.out _ _ ?_
              clear hK K
              refine nm_ ?_
              refine pu_ 14 10 32767 HT_ ?_
              refine dn_ HT_ ?_
              try go_wp2
              go_roundg k2
              case measure => have := HK1.out; have := HK2.out; omega
              case rel => exact ⟨(y281), (wrap64 (x11_2 + 1)), (by first | rfl | (simp; done) | (simp [*]; done)), H', ⟨by have := HK1.out; have := HK2.out; omega⟩, ⟨by (with_reducible repeat (first | apply Kd.R_alloc | apply Kd.R_drewN | apply Kd.R_drew)); exact Kd.R_mono HO_7.out (fun _ hk => hk.2)⟩, ⟨by (with_reducible repeat (first | apply Kd.S_alloc | apply Kd.S_drewN | apply Kd.S_drew)); exact HO_8.out⟩, ⟨by (with_reducible repeat (first | apply Kd.R_alloc | apply Kd.R_drewN | apply Kd.R_drew)); exact HO283.out⟩, ⟨pB BK261⟩, ⟨pH HB⟩⟩
             ·rw [if_neg c24] at H
              exact absurd H (by simp)
            ·rw [if_neg c22] at H
             exact absurd H (by simp)
           ·rw [if_neg c21] at H
            exact absurd H (by simp)
          ·rw [if_neg c20] at H
           have c20b0 : (t277 == (wrap64 (a2 - 1))) = false := beq_eq_false_iff_ne.mpr c20
           have c20b1 : (t277 != (wrap64 (a2 - 1))) = true := bne_iff_ne.mpr c20
           have H' := Aside0.mk H
           clear H
           have p276 : 0 ≤ (x11_2 : Int) := of_decide_eq_true (by first | (with_reducible assumption) | assumption)
           have q276 : x11_2 < (t262.length : Int) := of_decide_eq_true (by first | (with_reducible assumption) | assumption)
           obtain ⟨ad276, e276, hx276_0⟩ := Kd.at_int (Kd.R_reads' HO_7.out).2.2 x11_2 p276 q276
           obtain rfl : ad268 = ad276 := (by injection e276)
           replace p276 := eq_true p276
           replace q276 := eq_true q276
           go_wp2_with (first | ((with_reducible refine gate_callee (f := 59) rfl ?_); refine cl_ (some 40) Tryz.func59 #[.int .i64 (rd t262 x11_2)] ?_; (with_reducible refine (spec_l02Dim.calls k2 (rd t262 x11_2) t277 _ A19.out).mono ?_); rintro e w' ⟨rfl, ⟨nd, rfl⟩⟩; refine ⟨_, rfl, ?_⟩))
           go_roundg k2
           case measure => have := HK1.out; have := HK2.out; omega
           case rel => exact ⟨(x10_2), (wrap64 (x11_2 + 1)), (by first | rfl | (simp; done) | (simp [*]; done)), H', ⟨by have := HK1.out; have := HK2.out; omega⟩, ⟨by (with_reducible repeat (first | apply Kd.R_alloc | apply Kd.R_drewN | apply Kd.R_drew)); exact HO_7.out⟩, ⟨by (with_reducible repeat (first | apply Kd.S_alloc | apply Kd.S_drewN | apply Kd.S_drew)); exact HO_8.out⟩, ⟨by (with_reducible repeat (first | apply Kd.R_alloc | apply Kd.R_drewN | apply Kd.R_drew)); exact HO_10.out⟩, ⟨pB BK261⟩, ⟨pH HB⟩⟩
         ·rw [if_neg c18] at H
          exact absurd H (by simp)
        ·rw [if_neg c17] at H
         have c17b0 : decide (x11_2 < (t262.length : Int)) = false := decide_eq_false c17
         clear c17
         by_cases c29 : x8_1.length < 5864062014805
         ·rw [if_pos c29] at H
          have LMc29 := Aside0.mk c29
          clear c29
          obtain ⟨y273, hy273⟩ : ∃ y_ : List (List Int), y_ = (x8_1 ++ [x10_2]) := ⟨_, rfl⟩
          replace H : (spec_l06Rows.l0 k2 l1 a2 t262 y273 (wrap64 (x9_1 + 1))) = some r := by first | (rw [hy273]; with_reducible exact H) | (have H2_ := (Option.bind_some _ _).symm.trans H; rw [hy273]; with_reducible exact H2_) | (have H2_ := (Option.bind_some _ _).symm.trans H; with_reducible exact H2_) | with_reducible exact H | (rw [hy273]; exact H) | exact H
          have Ny273 := Aside0.mk hy273
          clear hy273
          have H' := Aside0.mk H
          clear H
          obtain ⟨Ao31, co31, eo31⟩ := Kd.R_slice HO_10.out
          subst eo31
          go_wp2_with (first | ((with_reducible refine gate_builtin (b := .append) (xs := #[.tmp 58, .tmp 60]) rfl ?_); at_builtin; refine Kd.S_append (Kd.slice 2 (Kd.int .i64)) (w0 := w) w.heap.size rfl (.tmp 58) (.tmp 60) 51 22 (.slice none 0 0) 24 rfl Tryz.underlying51 info22 rfl (by decide) (by omega) u8 x8_1 x10_2 [.slice Ao31 x10_2.length co31] (fun k_ => some k_ ≠ (.slice (some ad268) t262.length co14 : Value).ownBlock) (fun k_ => some k_ = (.slice Ao31 x10_2.length co31 : Value).ownBlock) rfl rfl ?aP (fun k_ hk_ => ((Kd.R_mono (ok' := fun k_ => ((fun k_ => some k_ ≠ (.slice (some ad268) t262.length co14 : Value).ownBlock)) k_ ∧ some k_ ≠ (u8 : Value).ownBlock) (Kd.R_apart' (HO_10.out) (Kd.S_typed HO_8.out) (by decide)) (fun k_ hk => ⟨hk.1, hk.2⟩))).1 k_ hk_.symm) ?aF ?aO ?aB ?aS ?aL ?_; (case aP => exact Kd.M_row (Kd.R_mono (Kd.R_tight rfl (Kd.R_mono (ok' := fun k_ => ((fun k_ => some k_ ≠ (.slice (some ad268) t262.length co14 : Value).ownBlock)) k_ ∧ some k_ ≠ (u8 : Value).ownBlock) (Kd.R_apart' (HO_10.out) (Kd.S_typed HO_8.out) (by decide)) (fun k_ hk => ⟨hk.1, hk.2⟩))) (fun _ h_ => h_))); (case aB => exact (pH HB)); (case aF => exact (fun k_ hk => Kd.fresh' (Kd.R_lt (pR HO_7)) k_ hk)); (case aO => exact (by (with_reducible repeat (first | apply Kd.S_alloc | apply Kd.S_drewN | apply Kd.S_drew)); exact Kd.S_mono HO_8.out (fun k_ hk => ⟨hk.1, fun e_ => hk.2 e_⟩))); (case aS => exact (below_size (pH HB))); (case aL => have := LMc29.out; omega); intro v274 w30 ho hb hg hat; rw [← Ny273.out] at ho; have n0_ := Aside0.mk (Kd.R_over' (pR HO_7) (Kd.S_typed (by (with_reducible repeat (first | apply Kd.S_alloc | apply Kd.S_drewN | apply Kd.S_drew)); exact HO_8.out)) (by decide) hg); have n1_ := Aside0.mk (blk_grown (g := gb261) (o := .cells #[.int .i64 a0_0, .slice A0_1 l0_1.length c0_1] 30 (0, 0)) (pB BK261) hg (Kd.S_ne HO_8.out BK261.out (by decide))); have n2_ := Aside0.mk (hb); have n3_ := Aside0.mk (ho); clear HO_7; clear BK261; clear HB; clear HO_8; clear HO_10; have HO_7 := n0_; have BK261 := n1_; have HB := n2_; have HO275 := n3_; clear n0_ n1_ n2_ n3_; clear ho hb hg hat))
          go_roundg k2
          case measure => have := HK1.out; have := HK2.out; omega
          case rel => exact ⟨(y273), (wrap64 (x9_1 + 1)), (by first | rfl | (simp; done) | (simp [*]; done)), H', ⟨by have := HK1.out; have := HK2.out; omega⟩, ⟨by (with_reducible repeat (first | apply Kd.R_alloc | apply Kd.R_drewN | apply Kd.R_drew)); exact Kd.R_mono HO_7.out (fun _ hk => trivial)⟩, ⟨by (with_reducible repeat (first | apply Kd.S_alloc | apply Kd.S_drewN | apply Kd.S_drew)); exact HO275.out⟩, ⟨pB BK261⟩, ⟨pH HB⟩⟩
         ·rw [if_neg c29] at H
          exact absurd H (by simp)
     ·rw [if_neg c13] at H
      have c13b0 : (t269 == a2) = false := beq_eq_false_iff_ne.mpr c13
      have c13b1 : (t269 != a2) = true := bne_iff_ne.mpr c13
      have H' := Aside0.mk H
      clear H
      obtain ⟨Ao32, co32, eo32⟩ := Kd.R_slice HO_7.out
      subst eo32
      have p268 : 0 ≤ (x9_1 : Int) := of_decide_eq_true (by first | (with_reducible assumption) | assumption)
      have q268 : x9_1 < (t262.length : Int) := of_decide_eq_true (by first | (with_reducible assumption) | assumption)
      obtain ⟨ad268, e268, hx268_0⟩ := Kd.at_int (Kd.R_reads' HO_7.out).2.2 x9_1 p268 q268
      cases e268
      replace p268 := eq_true p268
      replace q268 := eq_true q268
      go_wp2_with (first | ((with_reducible refine gate_callee (f := 59) rfl ?_); refine cl_ (some 26) Tryz.func59 #[.int .i64 (rd t262 x9_1)] ?_; (with_reducible refine (spec_l02Dim.calls k1 (rd t262 x9_1) t269 _ A12.out).mono ?_); rintro e w' ⟨rfl, ⟨nd, rfl⟩⟩; refine ⟨_, rfl, ?_⟩))
      go_roundg k1
      case measure => have := HK1.out; omega
      case rel => exact ⟨(x8_1), (wrap64 (x9_1 + 1)), (by first | rfl | (simp; done) | (simp [*]; done)), H', ⟨by have := HK1.out; omega⟩, ⟨by (with_reducible repeat (first | apply Kd.R_alloc | apply Kd.R_drewN | apply Kd.R_drew)); exact HO_7.out⟩, ⟨by (with_reducible repeat (first | apply Kd.S_alloc | apply Kd.S_drewN | apply Kd.S_drew)); exact HO_8.out⟩, ⟨pB BK261⟩, ⟨pH HB⟩⟩
    ·rw [if_neg c11] at H
     exact absurd H (by simp)
   ·rw [if_neg c10] at H
    have c10b0 : decide (x9_1 < (t262.length : Int)) = false := decide_eq_false c10
    clear c10
    obtain rfl := Option.some.inj H
    obtain ⟨Ao33, co33, eo33⟩ := Kd.R_slice HO_7.out
    subst eo33
    go_wp2
    go_ret
    exact ⟨_, by first | rfl | (simp [errW_none, errW_some] <;> rfl) | (simp [*, errW_none, errW_some] <;> rfl) | (exfalso; simp_all), by (with_reducible repeat (first | apply Kd.S_alloc | apply Kd.S_drewN | apply Kd.S_drew)); exact Kd.S_mono HO_8.out (fun _ hk => trivial), pH HB⟩
end Go.Proofs.YtpjcnigohhnhnaaGreat.QS
namespace Go.Proofs.YtpjcnigohhnhnaaGreat.Pu
open Go.RowKit Kp Ext QS Im YtpjcnigohhnhnaaGreatW.PrintWords YtpjcnigohhnhnaaGreatW.PrintLast YtpjcnigohhnhnaaGreatW.PrintMore
theorem part_range {n : Int} {xs : List Int} (hi : isC n xs = true) {l : List Pr} (hp : pairingB xs l = true) (hac : ∀ x, ¬ Rch l x x) (a : Int) (L : List Int) (i : Nat) : 0 ≤ sumW ((L.take i).map (TW l a)) ∧ sumW ((L.take i).map (TW l a)) ≤ sumW (L.map (TW l a)) :=
  sumW_take (fun y _ => (TW_range hi hp hac a y).1) i
theorem all_range {n : Int} {xs : List Int} (hi : isC n xs = true) {l : List Pr} (hp : pairingB xs l = true) (hac : ∀ x, ¬ Rch l x x) (a : Int) {L : List Int} (hL : L.length ≤ 6) : sumW (L.map (TW l a)) ≤ 21936950640377856 := by
  have h := sumW_le (B := 3656158440062976) (l := L.map (TW l a)) fun x hx => by
    obtain ⟨y, _, rfl⟩ := List.mem_map.1 hx
    exact (TW_range hi hp hac a y).2
  rw [List.length_map] at h
  have h2 : L.length * 3656158440062976 ≤ 6 * 3656158440062976 := Nat.mul_le_mul_right _ hL
  omega
theorem ev_countW {n : Int} {xs : List Int} (hi : isC n xs = true) {l : List Pr} (hp : pairingB xs l = true) (hac : ∀ x, ¬ Rch l x x) (a : Int) : ∀ (m : Nat) (x : Int), rankC l x < m → Ev (fun k => QV.impl_countWays.f k l x a) (TW l a x)
  | 0, x, h => absurd h (Nat.not_lt_zero _)
  | m + 1, x, h => by
    have hr := facesP_of hi hp
    have hl := pairing_len hi hp
    by_cases hx : x = a
    · subst hx
      rw [TW_self]
      exact Ev.step (f := fun _ => some 1) (fun k => by simp [QV.impl_countWays.f]) (Ev.now _)
    · rw [TW_next hi hp hac a hx]
      have hs : impl_steps.f l x = some (nextZ l x) := steps_f (by omega) hr x
      have hz : ∀ y ∈ nextZ l x, Ev (fun k => QV.impl_countWays.f k l y a) (TW l a y) := fun y hy => ev_countW hi hp hac a m y (by have := rank_ltC hr hy (hac y); omega)
      have hlen := nextZ_len (l := l) (a := x)
      generalize nextZ l x = L at hs hz hlen ⊢
      have hall := all_range hi hp hac a hlen
      have loop : ∀ d (i : Nat), L.length - i = d → i ≤ L.length → Ev (fun k => QV.impl_countWays.l0 k l a (sumW ((L.take i).map (TW l a))) L (L.length : Int) i) (sumW (L.map (TW l a))) := by
        intro d
        induction d with
        | zero =>
          intro i hd hi2
          rw [List.take_of_length_le (by omega)]
          exact Ev.step (f := fun _ => some (sumW (L.map (TW l a)))) (fun k => by simp only [QV.impl_countWays.l0]; rw [if_neg (by omega)]) (Ev.now _)
        | succ d ihd =>
          intro i hd hi2
          have hi' : i < L.length := by omega
          have h1 := part_range hi hp hac a L i
          have h2 := part_range hi hp hac a L (i + 1)
          rw [sumW_succ hi'] at h2
          refine Ev.step (f := fun k => (QV.impl_countWays.f k l L[i] a).bind fun t => QV.impl_countWays.l0 k l a (wrap64 (sumW ((L.take i).map (TW l a)) + t)) L (L.length : Int) ((i + 1 : Nat) : Int)) (fun k => ?_) (Ev.bind (hz _ (List.getElem_mem hi')) ?_)
          · simp only [QV.impl_countWays.l0]; rw [if_pos (by omega), if_pos (by omega), if_pos (by omega), rd_at hi', succ64 (by omega)]
          · rw [w64 (by omega) (by omega), ← sumW_succ hi']
            exact ihd (i + 1) (by omega) (by omega)
      refine Ev.step (f := fun k => QV.impl_countWays.l0 k l a 0 L (L.length : Int) 0) (fun k => ?_) (loop _ 0 rfl (Nat.zero_le _))
      simp only [QV.impl_countWays.f]; rw [if_neg hx, hs]; rfl
theorem ev_betweenI {n : Int} {xs : List Int} (hi : isC n xs = true) {l : List Pr} (hp : pairingB xs l = true) (hac : ∀ x, ¬ Rch l x x) (a : Int) {b : Int} : Ev (fun k => QV.impl_waysBetween.f k l b a) (sumW ((bordersL b).map (TW l a))) := by
  have hbr : impl_borders.f b = some (bordersL b) := by unfold impl_borders.f; rw [if_pos trivial]
  have hlen := borders_len6 (f := b)
  unfold QV.impl_waysBetween.f
  simp only [hbr, Option.bind_some]
  generalize bordersL b = L at hlen ⊢
  have hall := all_range hi hp hac a hlen
  have loop : ∀ d (i : Nat), L.length - i = d → i ≤ L.length → Ev (fun k => QV.impl_waysBetween.l0 k l a (sumW ((L.take i).map (TW l a))) L (L.length : Int) i) (sumW (L.map (TW l a))) := by
    intro d
    induction d with
    | zero =>
      intro i hd hi2
      rw [List.take_of_length_le (by omega)]
      exact Ev.step (f := fun _ => some (sumW (L.map (TW l a)))) (fun k => by simp only [QV.impl_waysBetween.l0]; rw [if_neg (by omega)]) (Ev.now _)
    | succ d ihd =>
      intro i hd hi2
      have hi' : i < L.length := by omega
      have h1 := part_range hi hp hac a L i
      have h2 := part_range hi hp hac a L (i + 1)
      rw [sumW_succ hi'] at h2
      refine Ev.step (f := fun k => (QV.impl_countWays.f k l L[i] a).bind fun t => QV.impl_waysBetween.l0 k l a (wrap64 (sumW ((L.take i).map (TW l a)) + t)) L (L.length : Int) ((i + 1 : Nat) : Int)) (fun k => ?_) (Ev.bind (ev_countW hi hp hac a _ L[i] (Nat.lt_succ_self _)) ?_)
      · simp only [QV.impl_waysBetween.l0]; rw [if_pos (by omega), if_pos (by omega), if_pos (by omega), rd_at hi', succ64 (by omega)]
      · rw [w64 (by omega) (by omega), ← sumW_succ hi']
        exact ihd (i + 1) (by omega) (by omega)
  exact loop _ 0 rfl (Nat.zero_le _)
theorem ofD_next {crit : List Int} {i : Nat} (hi : i < crit.length) (d : Int) : ofD (crit.take (i + 1)) d = ofD (crit.take i) d ++ if onesZ crit[i] - 1 = d then [crit[i]] else [] := by
  unfold ofD
  rw [List.take_succ_eq_append_getElem hi, List.filter_append]
  congr 1
  by_cases h : onesZ crit[i] - 1 = d <;> simp [h]
theorem rows_l1 {l : List Pr} {d : Int} {crit : List Int} {wz : Int → Int → Int} (hd : 1 ≤ d ∧ d ≤ 6) (hc : crit.length ≤ 1048576) (h63 : ∀ x ∈ crit, 1 ≤ x ∧ x ≤ 63) (hwz : ∀ b a, b ∈ crit → Ev (fun k => spec_l06Between.f k l b a) (wz b a))
    {acc : List (List Int)} {i : Nat} (hi : i < crit.length) (ha : acc.length ≤ 1048576) {r : List (List Int)} (hr : Ev (fun k => spec_l06Rows.l0 k l d crit (acc ++ [rowM wz (ofD crit (d - 1)) crit[i]]) ((i + 1 : Nat) : Int)) r) :
    ∀ m (j : Nat), crit.length - j = m → j ≤ crit.length → Ev (fun k => spec_l06Rows.l1 k l d crit acc (i : Int) (rowM wz (ofD (crit.take j) (d - 1)) crit[i]) (j : Int)) r := by
  intro m
  induction m with
  | zero =>
    intro j hm hj
    obtain rfl : j = crit.length := by omega
    rw [List.take_length]
    refine Ev.step (f := fun k => spec_l06Rows.l0 k l d crit (acc ++ [rowM wz (ofD crit (d - 1)) crit[i]]) ((i + 1 : Nat) : Int)) (fun k => ?_) hr
    simp only [spec_l06Rows.l1]
    rw [if_neg (by omega), if_pos (by omega), succ64 (by omega)]
  | succ m ih =>
    intro j hm hj
    have hj' : j < crit.length := by omega
    have hx := h63 _ (List.getElem_mem hj')
    have hih := ih (j + 1) (by omega) (by omega)
    rw [ofD_next hj'] at hih
    have hlen : (rowM wz (ofD (crit.take j) (d - 1)) crit[i]).length ≤ 1048576 := by
      unfold rowM
      rw [List.length_map]
      have h1 := ofD_len (crit.take j) (d - 1)
      rw [List.length_take] at h1
      omega
    refine Ev.step (f := fun k => (spec_l02Dim.f k crit[j]).bind fun t => if t = d - 1 then ((spec_l06Between.f k l crit[i] crit[j]).bind fun t718 => spec_l06Rows.l1 k l d crit acc (i : Int) (rowM wz (ofD (crit.take j) (d - 1)) crit[i] ++ [Int.tmod t718 2]) ((j + 1 : Nat) : Int)) else spec_l06Rows.l1 k l d crit acc (i : Int) (rowM wz (ofD (crit.take j) (d - 1)) crit[i]) ((j + 1 : Nat) : Int)) (fun k => ?_) ?_
    · simp only [spec_l06Rows.l1]
      rw [if_pos (by omega), if_pos (by omega), rd_at hj', w64 (by omega) (by omega), succ64 (by omega)]
      congr 1
      funext t
      rw [if_pos (show (0 : Int) ≤ (i : Int) by omega), if_pos (show (i : Int) < (crit.length : Int) by omega), rd_at hi]
      simp only [if_pos (show (rowM wz (ofD (crit.take j) (d - 1)) crit[i]).length < 17592186044416 by omega)]
    · refine Ev.bind (ev_dim2 hx.1 hx.2) ?_
      by_cases h : onesZ crit[j] - 1 = d - 1
      · simp only [if_pos h] at hih ⊢
        refine Ev.bind (hwz _ _ (List.getElem_mem hi)) ?_
        have he : rowM wz (ofD (crit.take j) (d - 1) ++ [crit[j]]) crit[i] = rowM wz (ofD (crit.take j) (d - 1)) crit[i] ++ [Int.tmod (wz crit[i] crit[j]) 2] := by unfold rowM; rw [List.map_append]; rfl
        rw [he] at hih
        exact hih
      · simp only [if_neg h, List.append_nil] at hih ⊢
        exact hih
theorem rows_l0 {l : List Pr} {d : Int} {crit : List Int} {wz : Int → Int → Int} (hd : 1 ≤ d ∧ d ≤ 6) (hc : crit.length ≤ 1048576) (h63 : ∀ x ∈ crit, 1 ≤ x ∧ x ≤ 63) (hwz : ∀ b a, b ∈ crit → Ev (fun k => spec_l06Between.f k l b a) (wz b a)) :
    ∀ m (i : Nat), crit.length - i = m → i ≤ crit.length → Ev (fun k => spec_l06Rows.l0 k l d crit ((ofD (crit.take i) d).map (rowM wz (ofD crit (d - 1)))) (i : Int)) (rowsM wz crit d) := by
  intro m
  induction m with
  | zero =>
    intro i hm hi
    obtain rfl : i = crit.length := by omega
    rw [List.take_length]
    refine Ev.step (f := fun k => some (rowsM wz crit d)) (fun k => ?_) (Ev.now _)
    simp only [spec_l06Rows.l0]
    rw [if_neg (by omega)]
    rfl
  | succ m ih =>
    intro i hm hi
    have hi' : i < crit.length := by omega
    have hx := h63 _ (List.getElem_mem hi')
    have hih := ih (i + 1) (by omega) (by omega)
    rw [ofD_next hi'] at hih
    have hlen : ((ofD (crit.take i) d).map (rowM wz (ofD crit (d - 1)))).length ≤ 1048576 := by
      rw [List.length_map]
      have h1 := ofD_len (crit.take i) d
      rw [List.length_take] at h1
      omega
    refine Ev.step (f := fun k => (spec_l02Dim.f k crit[i]).bind fun t => if t = d then spec_l06Rows.l1 k l d crit ((ofD (crit.take i) d).map (rowM wz (ofD crit (d - 1)))) (i : Int) [] 0 else spec_l06Rows.l0 k l d crit ((ofD (crit.take i) d).map (rowM wz (ofD crit (d - 1)))) ((i + 1 : Nat) : Int)) (fun k => ?_) ?_
    · simp only [spec_l06Rows.l0]
      rw [if_pos (by omega), if_pos (by omega), rd_at hi', succ64 (by omega)]
    · refine Ev.bind (ev_dim2 hx.1 hx.2) ?_
      by_cases h : onesZ crit[i] - 1 = d
      · simp only [if_pos h] at hih ⊢
        have he : (ofD (crit.take i) d ++ [crit[i]]).map (rowM wz (ofD crit (d - 1))) = (ofD (crit.take i) d).map (rowM wz (ofD crit (d - 1))) ++ [rowM wz (ofD crit (d - 1)) crit[i]] := by rw [List.map_append]; rfl
        rw [he] at hih
        exact rows_l1 hd hc h63 hwz hi' hlen hih _ 0 rfl (Nat.zero_le _)
      · simp only [if_neg h, List.append_nil] at hih ⊢
        exact hih
def wzT (l : List Pr) (b a : Int) : Int := sumW ((bordersL b).map (TW l a))
theorem ev_only {α : Type} {g : Nat → Option α} {r s : α} (h : Ev g r) (h1 : Ev g s) : r = s := by
  obtain ⟨K, h⟩ := h
  obtain ⟨K1, h1⟩ := h1
  have a := h (max K K1) (Nat.le_max_left _ _)
  have b := h1 (max K K1) (Nat.le_max_right _ _)
  rw [a] at b
  exact Option.some.inj b
theorem wzT_both {n : Int} {xs : List Int} (hi : isC n xs = true) {l : List Pr} (hp : pairingB xs l = true) (ha : acycB l = true) (b a : Int) (hb : b ∈ xs) : Ev (fun k => QV.impl_waysBetween.f k l b a) (wzT l b a) ∧ Ev (fun k => spec_l06Between.f k l b a) (wzT l b a) := by
  have hf := facesP_of hi hp
  have hl := pairing_len hi hp
  have hac := no_loopV (by omega) hf ha
  have hx := isC_63 hi b hb
  obtain ⟨v, h1, h2⟩ := between_bothV (by omega) hf hac (b := b) (by omega) a
  have h3 := ev_betweenI hi hp hac a (b := b)
  have he : v = wzT l b a := ev_only h1 h3
  subst he
  exact ⟨h1, h2⟩
theorem wzT_nonneg {n : Int} {xs : List Int} (hi : isC n xs = true) {l : List Pr} (hp : pairingB xs l = true) (ha : acycB l = true) (b a : Int) : 0 ≤ wzT l b a := by
  have hl := pairing_len hi hp
  refine sumW_nonneg fun x hx => ?_
  obtain ⟨y, _, rfl⟩ := List.mem_map.1 hx
  exact (TW_range hi hp (no_loopV (by omega) (facesP_of hi hp) ha) a y).1
theorem rowsT_bits {n : Int} {xs : List Int} (hi : isC n xs = true) {l : List Pr} (hp : pairingB xs l = true) (ha : acycB l = true) (crit : List Int) (d : Int) : Bits (rowsM (wzT l) crit d) := by
  intro row hrow x hx
  obtain ⟨b, _, rfl⟩ := List.mem_map.1 hrow
  obtain ⟨a, _, rfl⟩ := List.mem_map.1 hx
  have := wzT_nonneg hi hp ha b a
  unfold Bit
  rw [Int.tmod_eq_emod_of_nonneg this]
  omega
theorem rowsT_len (wz : Int → Int → Int) (crit : List Int) (d : Int) : ∀ row ∈ rowsM wz crit d, row.length = (ofD crit (d - 1)).length := by
  intro row hrow
  obtain ⟨b, _, rfl⟩ := List.mem_map.1 hrow
  unfold rowM
  rw [List.length_map]
def rkT (xs : List Int) (l : List Pr) (d : Int) : Int := ((elimAll (fun _ => 0) (rowsM (wzT l) (critL xs l) d) (ofD (critL xs l) (d - 1)).length).2 : Int)
theorem ev_rowsT {n : Int} {xs : List Int} (hi : isC n xs = true) {l : List Pr} (hp : pairingB xs l = true) (ha : acycB l = true) {d : Int} (hd : 1 ≤ d ∧ d ≤ 6) : Ev (fun k => spec_l06Rows.f k n xs l d) (rowsM (wzT l) (critL xs l) d) := by
  have hl := pairing_len hi hp
  have hs := isC_small hi
  have hcl : (critL xs l).length ≤ xs.length := List.length_filter_le _ _
  have hcm : ∀ x ∈ critL xs l, x ∈ xs := fun x hx => (List.mem_filter.1 hx).1
  unfold spec_l06Rows.f
  refine Ev.bind (ev_crit n (by omega) (by omega)) ?_
  exact rows_l0 (l := l) (d := d) (crit := critL xs l) (wz := wzT l) hd (by omega) (fun x hx => by have := isC_63 hi x (hcm x hx); omega) (fun b a hb => (wzT_both hi hp ha b a (hcm b hb)).2) _ 0 rfl (Nat.zero_le _)
end Go.Proofs.YtpjcnigohhnhnaaGreat.Pu
namespace Go.Proofs.YtpjcnigohhnhnaaGreat.Im
open Go.RowKit Go.Shelf Kp Ext Cw YtpjcnigohhnhnaaGreatW.PrintWords YtpjcnigohhnhnaaGreatW.PrintLast YtpjcnigohhnhnaaGreatW.PrintMore
theorem reps_kV {w : World} {base : Nat} {ok : Nat → Prop} {l cs : List Value} (h : Reps (kV.M w base ok) 1 l cs) : cs = l ∧ ∀ v ∈ l, v.oneCell' = true := by
  obtain ⟨hl, hr⟩ := h
  refine ⟨List.ext_getElem (by omega) fun j h1 h2 => ?_, fun v hv => ?_⟩
  · have h3 := (hr j l[j] (List.getElem?_eq_getElem h2)).1
    rw [Nat.mul_one, List.drop_eq_getElem_cons h1, List.take_succ_cons] at h3
    injection h3
  · obtain ⟨j, hj, rfl⟩ := List.mem_iff_getElem.1 hv
    exact (hr j l[j] (List.getElem?_eq_getElem hj)).2
theorem kV_reps (w : World) (base : Nat) (ok : Nat → Prop) {l : List Value} (h : ∀ v ∈ l, v.oneCell' = true) : Reps (kV.M w base ok) 1 l l := by
  refine ⟨(Nat.mul_one _).symm, fun j p hj => ?_⟩
  obtain ⟨hj', rfl⟩ := List.getElem?_eq_some_iff.1 hj
  refine ⟨?_, h _ (List.getElem_mem hj')⟩
  rw [Nat.mul_one, List.drop_eq_getElem_cons hj', List.take_succ_cons, List.take_zero]
theorem VO.open {w : World} {base : Nat} {v : Value} {vs : List Value} (h : VO w base v vs) : (∀ u ∈ vs, u.oneCell' = true) ∧ ((v = .slice none 0 0 ∧ vs = []) ∨ ∃ g cap cur, v = .slice (some ⟨g, 0, none⟩) vs.length cap ∧ base ≤ g ∧ w.heap[g]? = some (.cells (List.toArray cur) 22 (0, 0)) ∧ vs.length ≤ cap ∧ cap ≤ maxLen ∧ cur.length = cap ∧ cur.take vs.length = vs) := by
  obtain ⟨_, inner, ⟨hl, ho⟩, hr⟩ := h
  obtain ⟨he, h1⟩ := reps_kV hr
  subst he
  refine ⟨h1, ?_⟩
  rcases ho with ⟨rfl, h0⟩ | ⟨g, cap, cur, rfl, hb, hg, hn, hc, hs, ht⟩
  · exact .inl ⟨rfl, List.eq_nil_of_length_eq_zero h0⟩
  · exact .inr ⟨g, cap, cur.toList, rfl, hb, by simpa using hg, hn, hc, by simpa [kV] using hs, by simpa [kV] using ht⟩
theorem VO.mk {w : World} {base g cap : Nat} {cur : List Value} {vs : List Value} (h1 : ∀ u ∈ vs, u.oneCell' = true) (hb : base ≤ g) (hg : w.heap[g]? = some (.cells cur.toArray 22 (0, 0))) (hn : vs.length ≤ cap) (hc : cap ≤ maxLen) (hs : cur.length = cap) (ht : cur.take vs.length = vs) :
    VO w base (.slice (some ⟨g, 0, none⟩) vs.length cap) vs :=
  ⟨fun _ _ => trivial, vs, ⟨by simp [kV], .inr ⟨g, cap, cur.toArray, rfl, hb, hg, hn, hc, by simp [kV, hs], by simpa [kV] using ht⟩⟩, kV_reps _ _ _ h1⟩
end Go.Proofs.YtpjcnigohhnhnaaGreat.Im
namespace Go.Proofs.YtpjcnigohhnhnaaGreat.Im
open Go.RowKit Go.Shelf Cw YtpjcnigohhnhnaaGreatW.PrintWords YtpjcnigohhnhnaaGreatW.PrintLast YtpjcnigohhnhnaaGreatW.PrintMore
def rowG (m : Nat) (p : Nat × Nat) : Value := .slice (some ⟨p.1, 0, none⟩) m p.2
def GxO (w : World) (base b cap : Nat) (bs : List (Nat × Nat)) (m : Nat) : Prop :=
  base ≤ b ∧ bs.length ≤ cap ∧ cap ≤ maxLen ∧ ∃ rest : List Value, rest.length = cap - bs.length ∧ w.heap[b]? = some (.cells (bs.map (rowG m) ++ rest).toArray 22 (0, 0))
def GxI (w : World) (base : Nat) (bs : List (Nat × Nat)) (m : Nat) (M : List (List Int)) : Prop :=
  bs.length = M.length ∧ (bs.map (·.1)).Nodup ∧ ∀ i (h1 : i < bs.length) (h2 : i < M.length), base ≤ bs[i].1 ∧ M[i].length = m ∧ ∃ rest : List Value, w.heap[bs[i].1]? = some (.cells (numV M[i] ++ rest).toArray 2 (0, 0))
theorem nd_fst {bs : List (Nat × Nat)} (h : (bs.map (·.1)).Nodup) {x y : Nat} (hx : x < bs.length) (hy : y < bs.length) (e : bs[x].1 = bs[y].1) : x = y := by
  refine nd_inj h (x := x) (y := y) (by simpa using hx) (by simpa using hy) ?_
  rw [List.getElem_map, List.getElem_map]
  exact e
section
variable {w w1 : World} {base b cap m : Nat} {bs : List (Nat × Nat)} {M : List (List Int)}
theorem GxO.below (h : GxO w base b cap bs m) (hb : Below w.heap.size w w1) : GxO w1 base b cap bs m := by
  obtain ⟨h1, h2, h3, rest, h4, h5⟩ := h
  exact ⟨h1, h2, h3, rest, h4, (hb.block b (blk_lt h5)).trans h5⟩
theorem GxI.below (h : GxI w base bs m M) (hb : Below w.heap.size w w1) : GxI w1 base bs m M := by
  refine ⟨h.1, h.2.1, fun i h1 h2 => ?_⟩
  obtain ⟨a1, a2, rest, a3⟩ := h.2.2 i h1 h2
  exact ⟨a1, a2, rest, (hb.block _ (blk_lt a3)).trans a3⟩
theorem GxO.cell (h : GxO w base b cap bs m) {i : Nat} (hi : i < bs.length) : w.cell? ⟨b, i, none⟩ = some (rowG m bs[i]) ∧ w.frozen? ⟨b, i, none⟩ = false := by
  obtain ⟨h1, h2, h3, rest, h4, h5⟩ := h
  refine ⟨(cell_of_row w b i _ _ _ h5).trans ?_, blk_frozen h5 i⟩
  simp [List.getElem?_append_left, hi]
theorem GxO.far (h : GxO w base b cap bs m) {x j : Nat} (hne : b ≠ x) (u : Value) : GxO (w.setCell ⟨x, j, none⟩ u) base b cap bs m := by
  obtain ⟨h1, h2, h3, rest, h4, h5⟩ := h
  exact ⟨h1, h2, h3, rest, h4, (Below.heap_setCell w ⟨x, j, none⟩ u b hne).trans h5⟩
theorem GxO.put (h : GxO w base b cap bs m) {i : Nat} (hi : i < bs.length) (y : Nat × Nat) : GxO (w.setCell ⟨b, i, none⟩ (rowG m y)) base b cap (bs.set i y) m := by
  obtain ⟨h1, h2, h3, rest, h4, h5⟩ := h
  refine ⟨h1, by simpa using h2, h3, rest, by simpa using h4, ?_⟩
  have := blk_put h5 i (rowG m y) rfl
  rw [this]
  congr 2
  apply Array.ext'
  simp [List.set_append_left, hi]
theorem GxI.row (h : GxI w base bs m M) {i : Nat} (hi : i < M.length) : M[i].length = m := (h.2.2 i (by rw [h.1]; exact hi) hi).2.1
theorem GxI.cell (h : GxI w base bs m M) {i j : Nat} (hb : i < bs.length) (hi : i < M.length) (hj : j < m) : w.cell? ⟨bs[i].1, j, none⟩ = some (.int .i64 (M[i][j]'(by rw [h.row hi]; exact hj))) ∧ w.frozen? ⟨bs[i].1, j, none⟩ = false := by
  obtain ⟨a1, a2, rest, a3⟩ := h.2.2 i hb hi
  refine ⟨(cell_of_row w _ j _ _ _ a3).trans ?_, blk_frozen a3 j⟩
  have hj' : j < M[i].length := by rw [a2]; exact hj
  have hj2 : j < (numV M[i]).length := by simpa [numV] using hj'
  show (numV M[i] ++ rest).toArray[j]? = _
  rw [List.getElem?_toArray, List.getElem?_append_left hj2]
  simp [numV, hj']
theorem GxI.ne' {bs' : List (Nat × Nat)} (h : GxI w base bs m M) (ho : GxO w base b cap bs' m) {i : Nat} (hi : i < bs.length) : b ≠ bs[i].1 := by
  obtain ⟨_, _, rest1, a3⟩ := h.2.2 i hi (by rw [← h.1]; exact hi)
  obtain ⟨_, _, _, rest, _, h5⟩ := ho
  exact blk_ne h5 a3 (by decide)
theorem GxI.outer {bs' : List (Nat × Nat)} (h : GxI w base bs m M) (ho : GxO w base b cap bs' m) (j : Nat) (u : Value) : GxI (w.setCell ⟨b, j, none⟩ u) base bs m M := by
  refine ⟨h.1, h.2.1, fun i h1 h2 => ?_⟩
  obtain ⟨a1, a2, rest, a3⟩ := h.2.2 i h1 h2
  exact ⟨a1, a2, rest, (Below.heap_setCell w ⟨b, j, none⟩ u _ (h.ne' ho h1).symm).trans a3⟩
theorem GxI.put (h : GxI w base bs m M) {i j : Nat} (hb : i < bs.length) (hi : i < M.length) (hj : j < m) (v : Int) : GxI (w.setCell ⟨bs[i].1, j, none⟩ (.int .i64 v)) base bs m (M.set i (M[i].set j v)) := by
  refine ⟨by simpa using h.1, h.2.1, fun k h1 h2 => ?_⟩
  have h2' : k < M.length := by simpa using h2
  obtain ⟨a1, a2, rest, a3⟩ := h.2.2 k h1 h2'
  by_cases hk : k = i
  · subst hk
    refine ⟨a1, by simpa using a2, rest, ?_⟩
    have hjl : j < (numV M[k]).length := by simpa [numV, a2] using hj
    have := blk_put a3 j (.int .i64 v) rfl
    rw [this]
    congr 2
    apply Array.ext'
    simp [numV, List.map_set]
    rw [List.set_append_left _ _ (by simpa [numV] using hjl)]
  · have hne : bs[k].1 ≠ bs[i].1 := fun e => hk (nd_fst h.2.1 h1 hb e)
    rw [List.getElem_set_ne (Ne.symm hk)]
    exact ⟨a1, a2, rest, (Below.heap_setCell w ⟨bs[i].1, j, none⟩ _ _ hne).trans a3⟩
end
theorem swapL_map {α β : Type} (f : α → β) (l : List α) (i j : Nat) : (swapL l i j).map f = swapL (l.map f) i j := by
  unfold swapL
  rw [List.getElem?_map, List.getElem?_map]
  cases l[i]? <;> cases l[j]? <;> simp [List.map_set]
theorem GxI.swap {w : World} {base m : Nat} {bs : List (Nat × Nat)} {M : List (List Int)} (h : GxI w base bs m M) {i j : Nat} (hi : i < M.length) (hj : j < M.length) : GxI w base (swapL bs i j) m (swapL M i j) := by
  have hi' : i < bs.length := by rw [h.1]; exact hi
  have hj' : j < bs.length := by rw [h.1]; exact hj
  refine ⟨by rw [swapL_len, swapL_len, h.1], by rw [swapL_map]; exact swapL_nodup (by simpa using hi') (by simpa using hj') h.2.1, fun k h1 h2 => ?_⟩
  have h1' : k < bs.length := by rw [swapL_len] at h1; exact h1
  have h2' : k < M.length := by rw [swapL_len] at h2; exact h2
  rw [swapL_at hi' hj', swapL_at hi hj]
  split
  · exact h.2.2 i hi' hi
  · split
    · exact h.2.2 j hj' hj
    · exact h.2.2 k h1' h2'
def GxAll (w : World) (base b cap : Nat) (bs : List (Nat × Nat)) (n m : Nat) (M : List (List Int)) : Prop := M.length = n ∧ bs.length = n ∧ Bits M ∧ GxO w base b cap bs m ∧ GxI w base bs m M
section
variable {w w1 : World} {base b cap n m : Nat} {bs : List (Nat × Nat)} {M : List (List Int)}
theorem GxAll.outCell (h : GxAll w base b cap bs n m M) {i : Nat} (hi : i < n) : ∃ x c, (∃ h1 : i < bs.length, bs[i] = (x, c)) ∧ w.cell? ⟨b, i, none⟩ = some (.slice (some ⟨x, 0, none⟩) m c) ∧ w.frozen? ⟨b, i, none⟩ = false := by
  obtain ⟨h1, h2, h3, h4, h5⟩ := h
  exact ⟨_, _, ⟨by omega, rfl⟩, (h4.cell (by omega)).1, (h4.cell (by omega)).2⟩
theorem GxAll.inCell (h : GxAll w base b cap bs n m M) {i j x c : Nat} (hi : i < n) (hj : j < m) (hx : ∃ h1 : i < bs.length, bs[i] = (x, c)) : w.cell? ⟨x, j, none⟩ = some (.int .i64 (ent M i j)) ∧ w.frozen? ⟨x, j, none⟩ = false := by
  obtain ⟨h1, h2, h3, h4, h5⟩ := h
  obtain ⟨hb, hx⟩ := hx
  have hr := h5.row (i := i) (by omega)
  have := h5.cell (i := i) (j := j) hb (by omega) hj
  rw [hx] at this
  rw [ent_at (by omega) (by omega)]
  exact this
theorem GxAll.put (h : GxAll w base b cap bs n m M) {i j x c : Nat} (hi : i < n) (hj : j < m) (hx : ∃ h1 : i < bs.length, bs[i] = (x, c)) {v : Int} (hv : Bit v) : GxAll (w.setCell ⟨x, j, none⟩ (.int .i64 v)) base b cap bs n m (M.set i ((M.getD i []).set j v)) := by
  obtain ⟨h1, h2, h3, h4, h5⟩ := h
  obtain ⟨hb, hx⟩ := hx
  have hg : M.getD i [] = M[i] := by rw [List.getD_eq_getElem?_getD, List.getElem?_eq_getElem (by omega)]; rfl
  have hp := h5.put (i := i) (j := j) hb (by omega) hj v
  have hne := h5.ne' h4 hb
  rw [hx] at hp hne
  rw [hg]
  refine ⟨by simpa using h1, h2, fun row hrow => ?_, h4.far hne _, hp⟩
  rcases List.mem_or_eq_of_mem_set hrow with h6 | rfl
  · exact h3 _ h6
  · intro u hu
    rcases List.mem_or_eq_of_mem_set hu with h7 | rfl
    · exact h3 _ (List.getElem_mem (by omega)) u h7
    · exact hv
theorem GxAll.below (h : GxAll w base b cap bs n m M) (hb : Below w.heap.size w w1) : GxAll w1 base b cap bs n m M := ⟨h.1, h.2.1, h.2.2.1, h.2.2.2.1.below hb, h.2.2.2.2.below hb⟩
theorem GxAll.ge (h : GxAll w base b cap bs n m M) {i x c : Nat} (hi : i < n) (hx : ∃ h1 : i < bs.length, bs[i] = (x, c)) : base ≤ x := by
  obtain ⟨hb, hx⟩ := hx
  have := (h.2.2.2.2.2.2 i hb (by have := h.1; omega)).1
  rw [hx] at this
  exact this
end
def rowOf : Value → Nat × Nat
  | .slice (some a) _ c => (a.block, c)
  | _ => (0, 0)
theorem RO.open {w : World} {base : Nat} {v : Value} {xs : List Int} (h : RO w base v xs) (h0 : xs ≠ []) : ∃ g cap rest, v = .slice (some ⟨g, 0, none⟩) xs.length cap ∧ base ≤ g ∧ w.heap[g]? = some (.cells (numV xs ++ rest).toArray 2 (0, 0)) := by
  have hr := h.row
  obtain ⟨hl, ho⟩ := hr
  rcases ho with ⟨_, h1⟩ | ⟨g, cap, cur, rfl, hb, hg, hn, hc, hs, ht⟩
  · exact absurd (List.eq_nil_of_length_eq_zero h1) h0
  · refine ⟨g, cap, cur.toList.drop (xs.length * 1), rfl, hb, ?_⟩
    have h3 : cur.toList = numV xs ++ cur.toList.drop (xs.length * 1) := by
      have h2 := List.take_append_drop (xs.length * 1) cur.toList
      rw [ht] at h2
      exact h2.symm
    rw [hg]
    congr 2
    apply Array.ext'
    exact h3
theorem GxAll.of {w : World} {base n m : Nat} {v : Value} {vs : List Value} {M : List (List Int)} (h : MR w base v vs M) (hb : Bits M) (hm : 0 < m) (hn : 0 < n) (hl : M.length = n) (hr : ∀ x ∈ M, x.length = m) :
    ∃ b cap bs, v = .slice (some ⟨b, 0, none⟩) n cap ∧ GxAll w base b cap bs n m M := by
  have hvl := h.i.1
  have hrow : ∀ i (hi : i < vs.length), ∃ g cap rest, vs[i] = .slice (some ⟨g, 0, none⟩) m cap ∧ base ≤ g ∧ w.heap[g]? = some (.cells (numV (M[i]'(by omega)) ++ rest).toArray 2 (0, 0)) := fun i hi => by
    have hx := hr _ (List.getElem_mem (show i < M.length by omega))
    obtain ⟨g, cap, rest, h1, h2, h3⟩ := RO.open (h.i.2 i hi (by omega)) (fun e => by rw [e] at hx; simp at hx; omega)
    rw [hx] at h1
    exact ⟨g, cap, rest, h1, h2, h3⟩
  have hmap : (vs.map rowOf).map (rowG m) = vs := by
    refine List.ext_getElem (by simp) fun i h1 h2 => ?_
    rw [List.getElem_map, List.getElem_map]
    obtain ⟨g, cap, rest, e, _, _⟩ := hrow i h2
    rw [e]
    rfl
  obtain ⟨_, ho⟩ := VO.open h.o
  rcases ho with ⟨rfl, hnil⟩ | ⟨g, cap, cur, rfl, hbg, hg, hnc, hcm, hL, ht⟩
  · rw [hnil] at hvl; simp at hvl; omega
  refine ⟨g, cap, vs.map rowOf, by rw [hvl, hl], hl, by rw [List.length_map, hvl, hl], hb, ⟨hbg, by rw [List.length_map]; exact hnc, hcm, cur.drop vs.length, by rw [List.length_drop, List.length_map]; omega, ?_⟩, by rw [List.length_map, hvl], ?_, fun i h1 h2 => ?_⟩
  · rw [hg, hmap]
    congr 3
    rw [← List.take_append_drop vs.length cur]
    rw [ht]
    simp
  · rw [List.nodup_iff_pairwise_ne, List.pairwise_iff_getElem]
    intro i j h1 h2 hij e
    rw [List.length_map, List.length_map] at h1 h2
    rw [List.getElem_map, List.getElem_map, List.getElem_map, List.getElem_map] at e
    obtain ⟨g1, c1, _, e1, _, _⟩ := hrow i h1
    obtain ⟨g2, c2, _, e2, _, _⟩ := hrow j h2
    have := h.a i j h1 h2 (by omega) g1 (by rw [e1]; rfl)
    rw [e1, e2] at e
    rw [e2] at this
    exact this (by simp only [rowOf] at e; rw [e]; rfl)
  · rw [List.length_map] at h1
    obtain ⟨g1, c1, rest, e1, hb1, h3⟩ := hrow i h1
    rw [List.getElem_map, e1]
    exact ⟨hb1, hr _ (List.getElem_mem h2), rest, h3⟩
theorem gent_elim {lo c r : Nat} {M : List (List Int)} {i q : Nat} (hq : q < M.length) (h : ¬ (r < q ∧ q < i)) (j : Nat) : ent (elimTo lo c r M i) q j = ent M q j := by
  unfold ent
  congr 1
  rw [List.getD_eq_getElem?_getD, List.getD_eq_getElem?_getD, List.getElem?_eq_getElem (show q < (elimTo lo c r M i).length by rw [elimTo_len]; exact hq), List.getElem?_eq_getElem hq, elimTo_at hq, if_neg h]
theorem gent_set {M : List (List Int)} {i : Nat} (hi : i < M.length) (row : List Int) (j : Nat) : ent (M.set i row) i j = row.getD j 0 := by
  unfold ent
  congr 1
  rw [List.getD_eq_getElem?_getD, List.getElem?_set_self hi]
  rfl
theorem gent_set_ne {M : List (List Int)} {i q : Nat} (h : q ≠ i) (row : List Int) (j : Nat) : ent (M.set i row) q j = ent M q j := by
  unfold ent
  congr 1
  rw [List.getD_eq_getElem?_getD, List.getD_eq_getElem?_getD, List.getElem?_set_ne (Ne.symm h)]
theorem ggetD_set {M : List (List Int)} {i : Nat} (hi : i < M.length) (row : List Int) : (M.set i row).getD i [] = row := by
  rw [List.getD_eq_getElem?_getD, List.getElem?_set_self hi]
  rfl
theorem ggetD_at {M : List (List Int)} {i : Nat} (hi : i < M.length) : M.getD i [] = M[i] := by rw [List.getD_eq_getElem?_getD, List.getElem?_eq_getElem hi]; rfl
theorem ggetD_lt {l : List Int} {j : Nat} (h : j < l.length) : l.getD j 0 = l[j] := by rw [List.getD_eq_getElem?_getD, List.getElem?_eq_getElem h]; rfl
theorem gstepR_getD {lo c : Nat} {own row : List Int} {j : Nat} (hj : j < row.length) : (stepR lo c own row j).getD j 0 = row.getD j 0 := by
  rw [List.getD_eq_getElem?_getD, List.getD_eq_getElem?_getD, List.getElem?_eq_getElem (show j < (stepR lo c own row j).length by rw [stepR_len]; exact hj), List.getElem?_eq_getElem hj, stepR_at hj, if_neg (by omega)]
theorem add_mod {x y : Int} (hx : Bit x) (hy : Bit y) : wrap64 (x + y) = x + y ∧ Int.tmod (x + y) 2 = xr x 1 y := by
  unfold Bit at *
  rcases hx with rfl | rfl <;> rcases hy with rfl | rfl <;> simp [xr, wrap64]
theorem elimTo_skip {c r : Nat} {M : List (List Int)} {i : Nat} (hr : r < i) (hi : i < M.length) (h : ent M i c = 0) : elimTo 0 c r M (i + 1) = elimTo 0 c r M i := by
  have hz : stepR 0 c (M.getD r []) M[i] M[i].length = M[i] := by
    apply List.ext_getElem
    · rw [stepR_len]
    · intro q h1 h2
      rw [stepR_at h2, show M[i].getD c 0 = 0 by rw [← ggetD_at hi]; exact h, Int.zero_mul]
      unfold xr
      rw [if_neg (show ¬ ((0 : Int) = 1 ∧ (M.getD r []).getD q 0 = 1) from fun h => absurd h.1 (by decide))]
      split <;> rfl
  rw [← elimTo_next hr hi, hz]
  have hil : i < (elimTo 0 c r M i).length := by rw [elimTo_len]; exact hi
  have := elimTo_at (lo := 0) (c := c) (r := r) (M := M) (i := i) (q := i) hi
  rw [if_neg (by omega)] at this
  conv => lhs; rw [← this]
  exact List.set_getElem_self hil
set_option maxRecDepth 100000 in
set_option maxHeartbeats 4000000 in
theorem rank6_c (b cap n m base : Nat) (bs0 : List (Nat × Nat)) (M0 : List (List Int)) (w : World) (hM : GxAll w base b cap bs0 n m M0) (hn : 0 < n) (hm : 0 < m) (hn2 : n ≤ 1048576) (hm2 : m ≤ 1048576) (hb : base ≤ w.heap.size) :
    Calls Tryz.prog 34 #[.slice (some ⟨b, 0, none⟩) n cap] w fun e w' => e = .returned (.int .i64 ((elimAll (fun _ => 0) M0 m).2 : Int)) ∧ Below base w w' := by
  have HM0 := Aside0.mk hM
  clear hM
  go_enter Tryz.func34, Tryz.ntmps34
  go_wp2
  go_loopw [3, 4] (fun s3 s4 wr => ∃ (r c : Nat) (bs : List (Nat × Nat)) (M : List (List Int)), c ≤ m ∧ r ≤ c ∧ r ≤ n ∧ s3 = .int .i64 r ∧ s4 = .int .i64 c ∧ Aside0 ((List.range c).foldl (elimStep fun _ => 0) (M0, 0) = (M, r)) ∧ Aside0 (GxAll wr base b cap bs n m M) ∧ Aside0 (Below base w wr)) (fun _ s4 _ => m - (intOf s4).toNat)
  case atStart => exact ⟨0, 0, bs0, M0, by omega, by omega, by omega, rfl, rfl, ⟨rfl⟩, HM0, ⟨(Below.refl w.heap.size w).mono hb⟩⟩
  case round =>
    clear HM0
    obtain ⟨r, c, bs, M, hcm, hrc, hrn, rfl, rfl, HF, HM, HB⟩ := hrel
    obtain ⟨x0, c0, hx0, hc0, _⟩ := HM.out.outCell hn
    have hnz : (0 : Int) < (n : Int) := by omega
    by_cases hlt : c < m
    · have hltz : (c : Int) < (m : Int) := by omega
      clear hx0
      go_wp2
      go_loopw [5] (fun s5 wq => wq = wr ∧ ∃ i : Nat, r ≤ i ∧ i ≤ n ∧ s5 = .int .i64 i ∧ Aside0 (∀ q, r ≤ q → q < i → ent M q c = 0)) (fun s5 _ => n - (intOf s5).toNat)
      case atStart => exact ⟨rfl, r, by omega, by omega, rfl, ⟨fun q h1 h2 => by omega⟩⟩
      case round =>
        obtain ⟨rfl, i, hri, hin, rfl, HZ⟩ := hrel
        by_cases hi : i < n
        · have hiz : (i : Int) < (n : Int) := by omega
          obtain ⟨x, cx, hx, hxc, hxf⟩ := HM.out.outCell hi
          obtain ⟨hxe, _⟩ := HM.out.inCell hi hlt hx
          obtain ⟨v, hv⟩ : ∃ v, ent M i c = v := ⟨_, rfl⟩
          rw [hv] at hxe
          by_cases hv0 : v = 0
          · subst hv0
            clear hx
            have HV := Aside0.mk hv
            clear hv
            go_wp2
            go_roundw
            case measure => simp [intOf]; omega
            case rel => exact ⟨trivial, i + 1, by omega, by omega, by go_num, ⟨fun q h1 h2 => by rcases Nat.lt_or_ge q i with h3 | h3; exact HZ.out q h1 h3; rw [show q = i by omega]; exact HV.out⟩⟩
          · have hv1 : (v == 0) = false := by simpa using hv0
            have hie : ¬ ((i : Int) = (n : Int)) := by omega
            have hrn' : r < n := by omega
            have hri2 : (r : Int) < (n : Int) := by omega
            have hML := HM.out.1
            have hBL := HM.out.2.1
            have HFD := Aside0.mk (findZ_some (M := M) (c := c) hri (by omega) (by rw [hv]; exact hv0) HZ.out)
            have hxp := hx
            have hcp := hxc
            have hfp := hxf
            obtain ⟨yr, cr, hxr, hcr, hfr⟩ := HM.out.outCell hrn'
            have hxp' := hxp
            obtain ⟨hxp1, hxp2⟩ := hxp
            obtain ⟨hxr1, hxr2⟩ := hxr
            have hI0 := HM.out.2.2.2.2
            have ho1 := HM.out.2.2.2.1.put (i := i) (by omega) (yr, cr)
            have ho2 := ho1.put (i := r) (by simp; omega) (x, cx)
            have hi2 := ((hI0.outer HM.out.2.2.2.1 i (rowG m (yr, cr))).outer ho1 r (rowG m (x, cx))).swap (i := i) (j := r) (by omega) (by omega)
            have hbs : (bs.set i (yr, cr)).set r (x, cx) = swapL bs i r := by rw [swapL_eq (by omega) (by omega), hxp2, hxr2]
            rw [hbs] at ho2
            have hcr1 := (ho1.cell (i := r) (by simp; omega))
            rw [show (bs.set i (yr, cr))[r]'(by simp; omega) = (yr, cr) by rw [List.getElem_set]; split <;> first | rfl | exact hxr2] at hcr1
            obtain ⟨hcr1, hfr1⟩ := hcr1
            have HB1 : Aside0 (Below base w ((wr.setCell ⟨b, i, none⟩ (rowG m (yr, cr))).setCell ⟨b, r, none⟩ (rowG m (x, cx)))) := ⟨(HB.out.setCell (p := ⟨b, i, none⟩) ho1.1 _).setCell (p := ⟨b, r, none⟩) ho1.1 _⟩
            have HM1 : Aside0 (GxAll ((wr.setCell ⟨b, i, none⟩ (rowG m (yr, cr))).setCell ⟨b, r, none⟩ (rowG m (x, cx))) base b cap (swapL bs i r) n m (swapL M i r)) := ⟨by rw [swapL_len]; exact hML, by rw [swapL_len]; exact hBL, swap_bits HM.out.2.2.1 (by omega) (by omega), ho2, hi2⟩
            have hw1 : IntKind.i64.wrap ((r : Int) + 1) = (r : Int) + 1 := by rw [IntKind.wrap_i64]; omega
            have HPV : Aside0 (ent (swapL M i r) r c = 1) := ⟨by
              have hb := bit_ent HM.out.2.2.1 i c
              have h1 : ent (swapL M i r) r c = ent M i c := by
                unfold ent
                congr 1
                rw [List.getD_eq_getElem?_getD, List.getElem?_eq_getElem (show r < (swapL M i r).length by rw [swapL_len]; omega), Option.getD_some, swapL_at (by omega) (by omega), if_pos rfl, ggetD_at (by omega)]
              rw [h1]
              rcases hb with e | e
              · exact absurd (hv ▸ e) hv0
              · exact e⟩
            clear ho1 ho2 hi2 hI0 hbs HM HB hxp1 hxr1 hxp2 hxr2 hx HZ hv hv0
            simp only [rowG] at hcr1 HB1 HM1
            obtain ⟨bs1, hbs1⟩ : ∃ z, z = swapL bs i r := ⟨_, rfl⟩
            obtain ⟨M1, hM1⟩ : ∃ z, z = swapL M i r := ⟨_, rfl⟩
            rw [← hbs1, ← hM1] at HM1
            rw [← hM1] at HPV
            have HOWN : Aside0 (∃ h1 : r < bs1.length, bs1[r] = (x, cx)) := ⟨by subst hbs1; exact ⟨by rw [swapL_len]; omega, by rw [swapL_at (by omega) (by omega), if_pos rfl]; exact hxp'.2⟩⟩
            have HE1 := Aside0.mk hM1
            have hM1l := HM1.out.1
            clear hbs1 hM1 hxp' hML hBL
            go_wp2
            all_goals
              clear hxc hxf hfr hcp hfp hcr hcr1 hfr1 hie hiz hri hin hi
              go_loopw [7] (fun s7 wq => ∃ k : Nat, r < k ∧ k ≤ n ∧ s7 = .int .i64 k ∧ Aside0 (GxAll wq base b cap bs1 n m (elimTo 0 c r M1 k)) ∧ Aside0 (Below base w wq)) (fun s7 _ => n - (intOf s7).toNat)
              case atStart => exact ⟨r + 1, by omega, by omega, by go_num, ⟨by rw [elimTo_lo _ _ _ _ (Nat.le_refl _)]; exact HM1.out⟩, HB1⟩
              case round =>
                have HB0 := Aside0.mk HM1.out.2.2.1
                have HLEN : Aside0 (∀ q (h : q < M1.length), M1[q].length = m) := ⟨fun q h => HM1.out.2.2.2.2.row h⟩
                clear HM1 HB1
                obtain ⟨k, hrk, hkn, rfl, HM, HB⟩ := hrel
                by_cases hk : k < n
                · have hkz : (k : Int) < (n : Int) := by omega
                  obtain ⟨xi, ci, hxi, hci, hfi⟩ := HM.out.outCell hk
                  obtain ⟨hec, _⟩ := HM.out.inCell hk hlt hxi
                  rw [gent_elim (by omega) (by omega)] at hec
                  obtain ⟨y, hy⟩ : ∃ y, ent M1 k c = y := ⟨_, rfl⟩
                  have hyb : Bit y := hy ▸ bit_ent HB0.out k c
                  rw [hy] at hec
                  by_cases hy0 : y = 0
                  · subst hy0
                    have HS : Aside0 (GxAll wr base b cap bs1 n m (elimTo 0 c r M1 (k + 1))) := ⟨by rw [elimTo_skip hrk (by omega) hy]; exact HM.out⟩
                    clear hy hyb hxi HM
                    go_wp2
                    exact ⟨⟨k + 1, by omega, by omega, by go_num, HS, HB⟩, by simp [intOf]; omega⟩
                  · have hy1 : y = 1 := by rcases hyb with h | h; exact absurd h hy0; exact h
                    subst hy1
                    have HY := Aside0.mk hy
                    have HXI := Aside0.mk hxi
                    have HMd : Aside0 (GxAll wr base b cap bs1 n m ((elimTo 0 c r M1 k).set k (stepR 0 c (M1.getD r []) (M1.getD k []) 0))) := ⟨by
                      have hself : (elimTo 0 c r M1 k).set k (stepR 0 c (M1.getD r []) (M1.getD k []) 0) = elimTo 0 c r M1 k := by
                        have hil : k < (elimTo 0 c r M1 k).length := by rw [elimTo_len]; omega
                        rw [stepR_lo _ _ _ _ (Nat.le_refl _), ggetD_at (by omega)]
                        have := elimTo_at (lo := 0) (c := c) (r := r) (M := M1) (i := k) (q := k) (by omega)
                        rw [if_neg (by omega)] at this
                        conv => lhs; rw [← this]
                        exact List.set_getElem_self hil
                      rw [hself]; exact HM.out⟩
                    clear hy hyb hy0 hxi HM
                    go_wp2
                    go_loopw [9] (fun s9 wz => ∃ j : Nat, j ≤ m ∧ s9 = .int .i64 j ∧ Aside0 (GxAll wz base b cap bs1 n m ((elimTo 0 c r M1 k).set k (stepR 0 c (M1.getD r []) (M1.getD k []) j))) ∧ Aside0 (Below base w wz)) (fun s9 _ => m - (intOf s9).toNat)
                    case atStart => exact ⟨0, by omega, rfl, HMd, HB⟩
                    case round =>
                      clear HMd HB hec hci hfi
                      obtain ⟨j, hjm, rfl, HM, HB⟩ := hrel
                      have hil : k < (elimTo 0 c r M1 k).length := by rw [elimTo_len]; omega
                      by_cases hj : j < m
                      · have hjz : (j : Int) < (m : Int) := by omega
                        obtain ⟨hac, haf⟩ := HM.out.inCell hk hj HXI.out
                        obtain ⟨hdc, _⟩ := HM.out.inCell hrn' hj HOWN.out
                        have hrl : (M1.getD k []).length = m := by rw [ggetD_at (by omega)]; exact HLEN.out k (by omega)
                        rw [gent_set hil, gstepR_getD (by omega)] at hac
                        rw [gent_set_ne (by omega), gent_elim (by omega) (by omega)] at hdc
                        obtain ⟨u, hu⟩ : ∃ u, (M1.getD k []).getD j 0 = u := ⟨_, rfl⟩
                        obtain ⟨d, hd⟩ : ∃ d, ent M1 r j = d := ⟨_, rfl⟩
                        have hub : Bit u := hu ▸ bit_ent HB0.out k j
                        have hdb : Bit d := hd ▸ bit_ent HB0.out r j
                        rw [hu] at hac
                        rw [hd] at hdc
                        obtain ⟨h1, h2⟩ := add_mod hub hdb
                        have hzb : Bit (xr u 1 d) := bit_xr _ _ hub
                        have hnext : ((elimTo 0 c r M1 k).set k (stepR 0 c (M1.getD r []) (M1.getD k []) j)).set k ((((elimTo 0 c r M1 k).set k (stepR 0 c (M1.getD r []) (M1.getD k []) j)).getD k []).set j (xr u 1 d)) = (elimTo 0 c r M1 k).set k (stepR 0 c (M1.getD r []) (M1.getD k []) (j + 1)) := by
                          rw [ggetD_set hil, List.set_set]
                          congr 1
                          have := stepR_next (lo := 0) (c := c) (own := M1.getD r []) (row := M1.getD k []) (j := j) (Nat.zero_le _) (by omega)
                          rw [← this]
                          congr 1
                          have e1 : (M1.getD k [])[j]'(by omega) = u := by rw [← hu]; exact (ggetD_lt (by omega)).symm
                          rw [e1, show (M1.getD k []).getD c 0 = 1 from HY.out, show (M1.getD r []).getD c 0 = 1 from HPV.out, show (M1.getD r []).getD j 0 = d from hd]
                          rfl
                        have hput := HM.out.put hk hj HXI.out hzb
                        rw [hnext] at hput
                        have HPUT : Aside0 (GxAll (wr.drew.setCell ⟨xi, j, none⟩ (.int .i64 (xr u 1 d))) base b cap bs1 n m ((elimTo 0 c r M1 k).set k (stepR 0 c (M1.getD r []) (M1.getD k []) (j + 1)))) := ⟨hput⟩
                        have HBP : Aside0 (Below base w (wr.drew.setCell ⟨xi, j, none⟩ (.int .i64 (xr u 1 d)))) := ⟨HB.out.drew.setCell (p := ⟨xi, j, none⟩) (HM.out.ge hk HXI.out) _⟩
                        clear hput hnext hu hd hub hdb hzb hrl HM HB
                        go_wp2
                        refine st_ 14 (S := fun w' => w'.cell? ⟨xi, j, none⟩ = some (.int .i64 u) ∧ w'.cell? ⟨x, j, none⟩ = some (.int .i64 d)) (ds := [13]) ⟨hac, hdc⟩ (fun hHeld => ?_)
                        refine with_tabW (T := (true, [([], []), ([], []), ([], []), ([], []), ([2, 3], [2, 3]), ([4], [4]), ([], []), ([], []), ([6, 7], [6, 7]), ([8], [8]), ([5, 9], [5, 9]), ([10], [10]), ([0, 1, 0, 1, 2, 3, 4, 5, 6, 7, 8, 9, 10, 11], [0, 1]), ([12, 11, 0, 1, 2, 3, 4, 5, 6, 7, 8, 9, 10, 11], [11, 12])])) (B := [0, 0, 0, 0, 12, 28, 0, 0, 192, 448, 1020, 2044, 4095, 8191]) (by kernel_rfl) (by kernel_rfl) (fun HT_ HW_ => ?_)
                        refine pd_ 0 85 1 HT_ ?_
                        refine pd_ 1 86 3 HT_ ?_
                        refine pd_ 2 87 7 HT_ ?_
                        refine pd_ 3 88 15 HT_ ?_
                        refine pd_ 4 89 31 HT_ ?_
                        refine pd_ 6 91 95 HT_ ?_
                        refine pd_ 7 92 223 HT_ ?_
                        refine pd_ 8 93 479 HT_ ?_
                        refine tk_ 5 90 511 HT_ HW_ hHeld ?_
                        refine tk_ 9 94 1023 HT_ HW_ hHeld ?_
                        refine pd_ 10 95 2047 HT_ ?_
                        refine pd_ 11 96 4095 HT_ ?_
                        refine pd_ 12 97 8191 HT_ ?_
                        refine la_ 13 none 16383 HT_ (fun K hK => ?_)
                        (have hac' : wr.drew.cell? ⟨xi, j, none⟩ = some (.int .i64 u) := hac; have haf' : wr.drew.frozen? ⟨xi, j, none⟩ = false := haf; refine skip_ (by rfl) rfl (w1 := wr.drew.setCell ⟨xi, j, none⟩ (.int .i64 (xr u 1 d))) (by go_simp) ?_)
                        refine hK.out _ _ ?_
                        clear hK K
                        refine dn_ HT_ ?_
                        go_wp2
                        go_roundw
                        case measure => simp [intOf]; omega
                        case rel => exact ⟨j + 1, by omega, by go_num, HPUT, HBP⟩
                      · obtain rfl : j = m := by omega
                        have hjz : ¬ (j : Int) < (j : Int) := by omega
                        have hfull : (elimTo 0 c r M1 k).set k (stepR 0 c (M1.getD r []) (M1.getD k []) j) = elimTo 0 c r M1 (k + 1) := by
                          rw [← elimTo_next hrk (by omega), ggetD_at (show k < M1.length by omega), HLEN.out k (by omega)]
                        rw [hfull] at HM
                        clear hfull
                        go_wp2
                        exact ⟨⟨k + 1, by omega, by omega, by go_num, HM, HB⟩, by simp [intOf]; omega⟩
                · obtain rfl : k = n := by omega
                  have hkz : ¬ (k : Int) < (k : Int) := by omega
                  have HF2 : Aside0 ((List.range (c + 1)).foldl (elimStep fun _ => 0) (M0, 0) = (elimTo 0 c r M1 k, r + 1)) := ⟨by
                    rw [List.range_succ, List.foldl_append, HF.out]
                    simp only [List.foldl_cons, List.foldl_nil, elimStep, HFD.out]
                    rw [← HE1.out, show M.length = k by rw [← hM1l, HE1.out, swapL_len]]⟩
                  go_wp2
                  exact ⟨⟨r + 1, c + 1, bs1, _, by omega, by omega, by omega, by go_num, by go_num, HF2, HM, HB⟩, by simp [intOf]; omega⟩
        · obtain rfl : i = n := by omega
          have hiz : ¬ (i : Int) < (i : Int) := by omega
          have hzz : ∀ q, r ≤ q → q < M.length → ent M q c = 0 := fun q h1 h2 => HZ.out q h1 (by have := HM.out.1; omega)
          have HF2 : Aside0 ((List.range (c + 1)).foldl (elimStep fun _ => 0) (M0, 0) = (M, r)) := ⟨by rw [List.range_succ, List.foldl_append, HF.out]; simp only [List.foldl_cons, List.foldl_nil, elimStep, findZ_none hzz]⟩
          clear HZ hzz HF
          go_wp2
          exact ⟨⟨r, c + 1, bs, M, by omega, by omega, by omega, rfl, by go_num, HF2, HM, HB⟩, by simp [intOf]; omega⟩
    · obtain rfl : c = m := by omega
      have hltz : ¬ (c : Int) < (c : Int) := by omega
      go_wp2
      go_ret
      exact ⟨by unfold elimAll; rw [HF.out]; rfl, HB.out⟩
theorem MR.ofS {w : World} {base : Nat} {ok : Nat → Prop} {v : Value} {M : List (List Int)} (h : Kd.S (Kd.slice 2 (Kd.int .i64)) 22 w base ok v M) : ∃ vs, MR w base v vs M := by
  obtain ⟨f, h0, inner, ho, hr⟩ := h
  have hil : inner.length = M.length := by
    have := hr.1
    rw [List.length_zipIdx] at this
    simpa [Kd.tag, Kd.slice] using this
  have key : ∀ i (h1 : i < inner.length) (h2 : i < M.length), Kd.R (Kd.int .i64) 2 w base (fun k => (ok k ∧ some k ≠ v.ownBlock) ∧ f k = i) inner[i] M[i] := fun i h1 h2 => by
    have h3 := hr.2 i (M[i], i) (Kd.zip_at (List.getElem?_eq_getElem h2))
    obtain ⟨u, hu, h4⟩ := h3
    have h5 : (inner.drop (i * 1)).take 1 = [u] := hu
    rw [Nat.mul_one, List.drop_eq_getElem_cons h1, List.take_succ_cons, List.take_zero] at h5
    injection h5 with h6
    rw [h6]
    exact h4
  rw [List.length_zipIdx, ← hil] at ho
  refine ⟨inner, ⟨fun _ _ => trivial, inner, ho, by simp [kV], fun j p hj => ?_⟩, ⟨hil, fun i h1 h2 => Kd.R_mono (key i h1 h2) (fun _ _ => trivial)⟩, fun i j hi hj hij k h1 h2 => ?_⟩
  · obtain ⟨hj', rfl⟩ := List.getElem?_eq_some_iff.1 hj
    show (inner.drop (j * 1)).take 1 = [inner[j]] ∧ _
    rw [Nat.mul_one, List.drop_eq_getElem_cons hj', List.take_succ_cons, List.take_zero]
    refine ⟨rfl, ?_⟩
    obtain ⟨A, c, e⟩ := Kd.R_slice (key j hj' (by omega))
    rw [e]
    rfl
  · have a1 := (key i hi (by omega)).1 k h1
    have a2 := (key j hj (by omega)).1 k h2
    exact hij (a1.2.symm.trans a2.2)
theorem elim_none (m : Nat) : (elimAll (fun _ => 0) [] m).2 = 0 := by
  have h : ∀ L : List Nat, L.foldl (elimStep fun _ => 0) ([], 0) = ([], 0) := by
    intro L
    induction L with
    | nil => rfl
    | cons c L ih => rw [List.foldl_cons]; exact ih
  unfold elimAll
  rw [h]
set_option maxRecDepth 100000 in
set_option maxHeartbeats 4000000 in
theorem rank6_any (base m : Nat) (v : Value) (vs : List Value) (M : List (List Int)) (w : World) (h : MR w base v vs M) (hb : Bits M) (hr : ∀ x ∈ M, x.length = m) (hn2 : M.length ≤ 1048576) (hm2 : m ≤ 1048576) (hbase : base ≤ w.heap.size) :
    Calls Tryz.prog 34 #[v] w fun e w' => e = .returned (.int .i64 ((elimAll (fun _ => 0) M m).2 : Int)) ∧ Below base w w' := by
  by_cases hpos : 0 < M.length ∧ 0 < m
  · obtain ⟨b, cap, bs, rfl, hg⟩ := GxAll.of h hb hpos.2 hpos.1 rfl hr
    exact rank6_c b cap M.length m base bs M w hg hpos.1 hpos.2 hn2 hm2 hbase
  · have hrk : (elimAll (fun _ => 0) M m).2 = 0 := by
      by_cases h0 : M.length = 0
      · rw [List.eq_nil_of_length_eq_zero h0]; exact elim_none m
      · obtain rfl : m = 0 := by omega
        rfl
    rw [hrk]
    obtain ⟨A, c, rfl⟩ := h.o.slice
    have hvl := h.i.1
    have HBW : Aside0 (Below base w w) := ⟨(Below.refl w.heap.size w).mono hbase⟩
    by_cases h0 : M.length = 0
    · have hv0 : vs.length = 0 := by omega
      rw [hv0]
      clear hb hr h hrk hvl
      go_enter Tryz.func34, Tryz.ntmps34
      go_wp2
      go_loopw [3, 4] (fun s3 s4 wr => wr = w ∧ s3 = .int .i64 0 ∧ s4 = .int .i64 0) (fun _ _ _ => 0)
      case atStart => exact ⟨rfl, rfl, rfl⟩
      case round =>
        obtain ⟨rfl, rfl, rfl⟩ := hrel
        go_wp2
        go_ret
        exact ⟨rfl, HBW.out⟩
    · obtain rfl : m = 0 := by omega
      have hv0 : 0 < vs.length := by omega
      obtain ⟨ad, hAd, hcell⟩ := VC.cell h.o.reads.2.2 hv0
      rcases VO.open h.o with ⟨_, ho⟩
      rcases ho with ⟨e1, _⟩ | ⟨g, cap, cur, e1, _⟩
      · injection e1 with e1 e2 e3
        omega
      injection e1 with e1 _ _
      rw [hAd] at e1
      injection e1 with e1
      subst e1
      subst hAd
      have hcell : w.cell? ⟨g, 0, none⟩ = some vs[0] := hcell
      have hrow := h.i.2 0 hv0 (by omega)
      have hr0 := hr _ (List.getElem_mem (show 0 < M.length by omega))
      obtain ⟨A', c', hu⟩ := Kd.R_slice hrow
      rw [hu, hr0] at hcell
      have hvz : (0 : Int) < (vs.length : Int) := by omega
      clear hb hr h hrk hvl hrow hr0 hu
      go_enter Tryz.func34, Tryz.ntmps34
      go_wp2
      go_loopw [3, 4] (fun s3 s4 wr => wr = w ∧ s3 = .int .i64 0 ∧ s4 = .int .i64 0) (fun _ _ _ => 0)
      case atStart => exact ⟨rfl, rfl, rfl⟩
      case round =>
        obtain ⟨rfl, rfl, rfl⟩ := hrel
        go_wp2
        go_ret
        exact ⟨rfl, HBW.out⟩
end Go.Proofs.YtpjcnigohhnhnaaGreat.Im
namespace Go.Proofs.YtpjcnigohhnhnaaGreat.Pu
open Go.RowKit Kp Im YtpjcnigohhnhnaaGreatW.PrintWords YtpjcnigohhnhnaaGreatW.PrintLast YtpjcnigohhnhnaaGreatW.PrintMore
def ownE (ns : List Int) (rk : Int → Int) (j : Nat) : Int := if 1 ≤ j then wrap64 (ns.getD j 0 - rk j) else ns.getD j 0
def refE (ns : List Int) (rk : Int → Int) (p : Nat) : List Int := (List.range ns.length).map fun j => if j + 1 < p then wrap64 (ownE ns rk j - rk ((j : Int) + 1)) else if j < p then ownE ns rk j else ns.getD j 0
theorem refE_len (ns : List Int) (rk : Int → Int) (p : Nat) : (refE ns rk p).length = ns.length := by simp [refE]
theorem refE_at (ns : List Int) (rk : Int → Int) (p : Nat) {j : Nat} (h : j < (refE ns rk p).length) : (refE ns rk p)[j] = if j + 1 < p then wrap64 (ownE ns rk j - rk ((j : Int) + 1)) else if j < p then ownE ns rk j else ns.getD j 0 := by simp [refE]
theorem refE_one (ns : List Int) (rk : Int → Int) : refE ns rk 1 = ns := by
  refine List.ext_getElem (refE_len _ _ _) fun j h1 h2 => ?_
  rw [refE_at]
  rw [if_neg (by omega), List.getD_eq_getElem?_getD, List.getElem?_eq_getElem h2, Option.getD_some]
  split
  · unfold ownE
    rw [if_neg (by omega), List.getD_eq_getElem?_getD, List.getElem?_eq_getElem h2, Option.getD_some]
  · rfl
theorem refE_own (ns : List Int) (rk : Int → Int) {p : Nat} (hp : 1 ≤ p) (h : p < (refE ns rk p).length) : wrap64 ((refE ns rk p)[p] - rk p) = ownE ns rk p := by
  rw [refE_at, if_neg (by omega), if_neg (by omega)]
  unfold ownE
  rw [if_pos hp]
theorem refE_next (ns : List Int) (rk : Int → Int) {p : Nat} (hp : 1 ≤ p) (h : p < ns.length) : ((refE ns rk p).set p (ownE ns rk p)).set (p - 1) (wrap64 (ownE ns rk (p - 1) - rk p)) = refE ns rk (p + 1) := by
  refine List.ext_getElem (by simp [refE_len]) fun j h1 h2 => ?_
  have hj : j < ns.length := by rw [refE_len] at h2; exact h2
  rw [refE_at, List.getElem_set]
  by_cases e1 : p - 1 = j
  · subst e1
    rw [if_pos rfl, if_pos (by omega), show ((p - 1 : Nat) : Int) + 1 = (p : Int) by omega]
  · rw [if_neg e1, List.getElem_set]
    by_cases e2 : p = j
    · subst e2
      rw [if_pos rfl, if_neg (by omega), if_pos (by omega)]
    · rw [if_neg e2, refE_at]
      by_cases e3 : j + 1 < p
      · rw [if_pos e3, if_pos (by omega)]
      · rw [if_neg e3, if_neg (by omega), if_neg (by omega), if_neg (by omega)]
theorem refE_pre (ns : List Int) (rk : Int → Int) {p : Nat} (hp : 1 ≤ p) (h : p - 1 < (refE ns rk p).length) : (refE ns rk p)[p - 1] = ownE ns rk (p - 1) := by
  rw [refE_at, if_neg (by omega), if_pos (by omega)]
def proE (ns : List Int) (rk : Int → Int) (d : Nat) : List Int := (List.range ns.length).map fun j => if j < d then wrap64 (ownE ns rk j - rk ((j : Int) + 1)) else ns.getD j 0
theorem proE_len (ns : List Int) (rk : Int → Int) (p : Nat) : (proE ns rk p).length = ns.length := by simp [proE]
theorem proE_at (ns : List Int) (rk : Int → Int) (p : Nat) {j : Nat} (h : j < (proE ns rk p).length) : (proE ns rk p)[j] = if j < p then wrap64 (ownE ns rk j - rk ((j : Int) + 1)) else ns.getD j 0 := by simp [proE]
theorem proE_zero (ns : List Int) (rk : Int → Int) : proE ns rk 0 = ns := by
  refine List.ext_getElem (proE_len _ _ _) fun j h1 h2 => ?_
  rw [proE_at, if_neg (by omega), List.getD_eq_getElem?_getD, List.getElem?_eq_getElem h2, Option.getD_some]
theorem proE_own (ns : List Int) (rk : Int → Int) {d : Nat} (hd : 1 ≤ d) (h : d < (proE ns rk d).length) : wrap64 ((proE ns rk d)[d] - rk d) = ownE ns rk d := by
  rw [proE_at, if_neg (by omega)]
  unfold ownE
  rw [if_pos hd]
theorem proE_zero_own (ns : List Int) (rk : Int → Int) (h : 0 < (proE ns rk 0).length) : (proE ns rk 0)[0] = ownE ns rk 0 := by
  rw [proE_at, if_neg (by omega)]
  rfl
theorem proE_next (ns : List Int) (rk : Int → Int) {d : Nat} (h : d < ns.length) (x : Int) : ((proE ns rk d).set d x).set d (wrap64 (ownE ns rk d - rk ((d : Int) + 1))) = proE ns rk (d + 1) := by
  refine List.ext_getElem (by simp [proE_len]) fun j h1 h2 => ?_
  rw [proE_at, List.getElem_set]
  by_cases e1 : d = j
  · subst e1
    rw [if_pos rfl, if_pos (by omega)]
  · rw [if_neg e1, List.getElem_set, if_neg e1, proE_at]
    by_cases e3 : j < d
    · rw [if_pos e3, if_pos (by omega)]
    · rw [if_neg e3, if_neg (by omega)]
theorem wrap_wrap (x : Int) : wrap64 (wrap64 x - 0) = wrap64 x := by unfold wrap64; omega
theorem wrap_own {ns : List Int} {rk : Int → Int} {j : Nat} (h : ∀ x ∈ ns, 0 ≤ x ∧ x ≤ 1048576) (hj : j < ns.length) : wrap64 (ownE ns rk j - 0) = ownE ns rk j := by
  unfold ownE
  split
  · exact wrap_wrap _
  · have := h _ (List.getElem_mem hj)
    rw [List.getD_eq_getElem?_getD, List.getElem?_eq_getElem hj, Option.getD_some]
    unfold wrap64; omega
theorem pro_ref {ns : List Int} {rk : Int → Int} (h : ∀ x ∈ ns, 0 ≤ x ∧ x ≤ 1048576) (h0 : rk ns.length = 0) : proE ns rk ns.length = refE ns rk (max 1 ns.length) := by
  refine List.ext_getElem (by rw [refE_len, proE_len]) fun j h1 h2 => ?_
  have hj : j < ns.length := by rw [refE_len] at h2; exact h2
  rw [proE_at, refE_at, if_pos hj, Nat.max_eq_right (by omega)]
  by_cases e : j + 1 < ns.length
  · rw [if_pos e]
  · rw [if_neg e, if_pos hj, show (j : Int) + 1 = (ns.length : Int) by omega, h0, wrap_own h hj]
theorem rk_top (xs : List Int) (l : List Pr) : rkT xs l ((dimL xs + 1).toNat : Int) = 0 := by
  have hr := dim_rng xs
  have h : ofD (critL xs l) ((dimL xs + 1).toNat : Int) = [] := by
    refine List.filter_eq_nil_iff.2 fun x hx => ?_
    have := hr.2.2 x (List.mem_filter.1 hx).1
    have h2 := hr.1
    simp; omega
  unfold rkT rowsM
  rw [h, List.map_nil, elim_none]
  rfl
end Go.Proofs.YtpjcnigohhnhnaaGreat.Pu
namespace Go.Proofs.YtpjcnigohhnhnaaGreat.Im
open Go.RowKit Go.Shelf Kp Ext Cw Pu YtpjcnigohhnhnaaGreatW.PrintWords YtpjcnigohhnhnaaGreatW.PrintLast YtpjcnigohhnhnaaGreatW.PrintMore
def numC (xs : List Int) (l : List Pr) : List Int := cntL (dimL xs + 1).toNat (critL xs l)
theorem numC_len (xs : List Int) (l : List Pr) : (numC xs l).length ≤ 6 := by
  have := dim_rng xs
  unfold numC
  rw [cntL_len]
  omega
theorem RO.cells {w : World} {base g n cap : Nat} {xs : List Int} (h : RO w base (.slice (some ⟨g, 0, none⟩) n cap) xs) {i : Nat} (hi : i < xs.length) : base ≤ g ∧ w.cell? ⟨g, i, none⟩ = some (.int .i64 xs[i]) ∧ w.frozen? ⟨g, i, none⟩ = false := by
  obtain ⟨g', cap', rest, e, hb, hh⟩ := RO.open h (fun e => by rw [e] at hi; simp at hi)
  injection e with e1 e2 e3
  injection e1 with e1
  injection e1 with e1 _ _
  subst e1
  refine ⟨hb, (cell_of_row w g i _ _ _ hh).trans ?_, blk_frozen hh i⟩
  rw [List.getElem?_toArray, List.getElem?_append_left (by simpa [numV] using hi)]
  simp [numV, hi]
theorem RO.putH {w : World} {base g n cap : Nat} {xs : List Int} (h : RO w base (.slice (some ⟨g, 0, none⟩) n cap) xs) (i : Nat) (x : Int) : RO (w.setCell ⟨g, i, none⟩ (.int .i64 x)) base (.slice (some ⟨g, 0, none⟩) n cap) (xs.set i x) := by
  have h1 := Kd.R_putn (enc := Value.int .i64) (h1 := fun _ => rfl) h (i : Int) x
  rw [Int.toNat_natCast] at h1
  exact h1
theorem RO.block {w : World} {base n cap : Nat} {A : Option Addr} {xs : List Int} (h : RO w base (.slice A n cap) xs) (h0 : 0 < xs.length) : ∃ g, A = some ⟨g, 0, none⟩ := by
  obtain ⟨g', cap', rest, e, hb, hh⟩ := RO.open h (fun e => by rw [e] at h0; simp at h0)
  injection e with e1 e2 e3
  exact ⟨g', e1⟩
theorem rows_len (wz : Int → Int → Int) (crit : List Int) (d : Int) : (rowsM wz crit d).length ≤ crit.length := by
  unfold rowsM
  rw [List.length_map]
  exact ofD_len crit d
set_option maxRecDepth 100000 in
set_option maxHeartbeats 8000000 in
theorem holesS_c (n : Int) (A : Option Addr) (c : Nat) (xs : List Int) (A1 : Option Addr) (c1 : Nat) (l : List Pr) (w : World) (hr : RC w A xs.length xs) (hc : xs.length ≤ c) (hr1 : Kd.C k46 w A1 l.length l) (hc1 : l.length ≤ c1) (hi : isC n xs = true) (hp : pairingB xs l = true) (ha : acycB l = true) :
    Calls Tryz.prog 20 #[.agg #[.int .i64 n, .slice A xs.length c], .slice A1 l.length c1] w fun e w' => ∃ v, e = .returned v ∧ RO w' w.heap.size v (refE (numC xs l) (rkT xs l) (max 1 (numC xs l).length)) ∧ Below w.heap.size w w' := by
  have HX0 := Aside0.mk (CxAt.new w n A xs.length c)
  have HB0 := Aside0.mk (below_alloc (Below.refl w.heap.size w) (.cells #[.int .i64 n, .slice A xs.length c] 30))
  have hx0 := HX0.out.c0
  have hx1 := HX0.out.c1
  have hl := pairing_len hi hp
  obtain ⟨kn, hkn⟩ := (ev_numbers hi (l := l) (by omega)).rounds
  have HKN : Aside0 (QS.spec_l02Numbers.f kn n xs l = some (numC xs l)) := ⟨hkn⟩
  have hs := isC_small hi
  have hcl : (critL xs l).length ≤ xs.length := List.length_filter_le _ _
  have hwin := numC_len xs l
  have HROW : Aside0 (∀ d : Int, 1 ≤ d ∧ d ≤ 6 → ∃ k, QS.spec_l06Rows.f k n xs l d = some (rowsM (wzT l) (critL xs l) d)) := ⟨fun d hd => (ev_rowsT hi hp ha hd).rounds⟩
  have hRK : ∀ (d : Int) (base : Nat) (v : Value) (vs : List Value) (W : World), MR W base v vs (rowsM (wzT l) (critL xs l) d) → base ≤ W.heap.size → Calls Tryz.prog 34 #[v] W fun e w' => e = .returned (.int .i64 (rkT xs l d)) ∧ Below base W w' := (fun (d : Int) (base : Nat) (v : Value) (vs : List Value) (W : World) (h : MR W base v vs (rowsM (wzT l) (critL xs l) d)) (hb : base ≤ W.heap.size) => rank6_any base _ v vs _ W h (rowsT_bits hi hp ha _ _) (rowsT_len _ _ _) (by have := rows_len (wzT l) (critL xs l) d; omega) (by have := ofD_len (critL xs l) (d - 1); omega) hb)
  have HRK := Lib.hid hRK
  clear hRK
  have HR := Aside0.mk hr
  have HC := Aside0.mk hc
  have HR1 := Aside0.mk hr1
  have HC1 := Aside0.mk hc1
  clear hkn hr hc hr1 hc1 hi hp ha hs hcl hl
  obtain ⟨ns, hns⟩ : ∃ ns, numC xs l = ns := ⟨_, rfl⟩
  rw [hns] at HKN hwin ⊢
  clear hns
  have HE1 := Aside0.mk (refE_one ns (rkT xs l))
  go_enter Tryz.func20, Tryz.ntmps20
  go_wp2_with (go_at_call 33; refine (QS.spec_l02Numbers.calls kn n A c xs A1 c1 l ns _ (Kd.C_below HR.out HB0.out) HC.out (Kd.C_below HR1.out HB0.out) HC1.out HKN.out).mono ?_; rintro e w2 ⟨v, rfl, hv, hb2⟩; obtain ⟨Av, cv, rfl⟩ := Kd.R_slice hv; have HV := Aside0.mk (Kd.R_lower hv HB0.out.size); have HB2 := Aside0.mk (below_in HB0.out hb2); have HX2 := Aside0.mk (HX0.out.below hb2); clear hv hb2 hx0 hx1)
  have HL0 : Aside0 (RO w2 w.heap.size (.slice Av ns.length cv) (refE ns (rkT xs l) 1)) := ⟨by rw [HE1.out]; exact HV.out⟩
  clear HB0 HX0 HV HE1
  go_loopw [6] (fun s6 wr => ∃ q : Nat, q + 1 ≤ max 1 ns.length ∧ s6 = .int .i64 ((q : Int) + 1) ∧ Aside0 (RO wr w.heap.size (.slice Av ns.length cv) (refE ns (rkT xs l) (q + 1))) ∧ Aside0 (CxAt wr w.heap.size n A xs.length c) ∧ Aside0 (Below w.heap.size w wr)) (fun s6 _ => 8 - (intOf s6).toNat)
  case atStart => exact ⟨0, by omega, rfl, HL0, HX2, HB2⟩
  case round =>
    clear HL0 HX2 HB2
    obtain ⟨q, hq, rfl, HO, HX, HB⟩ := hrel
    by_cases hlt : q + 1 < ns.length
    · have hltz : (q : Int) + 1 < (ns.length : Int) := by omega
      have hx0 := HX.out.c0
      have hx1 := HX.out.c1
      obtain ⟨kr, hkr⟩ := HROW.out ((q : Int) + 1) (by omega)
      have HKR := Aside0.mk hkr
      have hlen : (refE ns (rkT xs l) (q + 1)).length = ns.length := refE_len _ _ _
      obtain ⟨g, rfl⟩ := RO.block HO.out (by omega)
      have HG := Aside0.mk (RO.cells HO.out (i := 0) (by omega)).1
      have HW1 := Aside0.mk (refE_own ns (rkT xs l) (p := q + 1) (by omega) (by omega))
      have HW0 := Aside0.mk (refE_pre ns (rkT xs l) (p := q + 1) (by omega) (by omega))
      have HNX := Aside0.mk (refE_next ns (rkT xs l) (p := q + 1) (by omega) hlt)
      have hq1 : q + 1 < (refE ns (rkT xs l) (q + 1)).length := by omega
      have hq0 : q < (refE ns (rkT xs l) (q + 1)).length := by omega
      have HE : Aside0 (((q + 1 : Nat) : Int) = (q : Int) + 1) := ⟨by omega⟩
      simp only [Nat.add_sub_cancel] at HW0 HNX
      rw [HE.out] at HW1 HNX
      obtain ⟨R, hR⟩ : ∃ R, rkT xs l ((q : Int) + 1) = R := ⟨_, rfl⟩
      have HR2 := Lib.hid (HRK.out ((q : Int) + 1) wr.heap.size)
      rw [hR] at HW1 HNX HR2
      obtain ⟨E1, hE1⟩ : ∃ E1, ownE ns (rkT xs l) (q + 1) = E1 := ⟨_, rfl⟩
      obtain ⟨E0, hE0⟩ : ∃ E0, ownE ns (rkT xs l) q = E0 := ⟨_, rfl⟩
      rw [hE1] at HW1 HNX
      rw [hE0] at HW0 HNX
      obtain ⟨Z, hZ⟩ : ∃ Z, refE ns (rkT xs l) (q + 1) = Z := ⟨_, rfl⟩
      simp only [hZ] at HO HW1 HW0 HNX hq1 hq0
      obtain ⟨X1, hX1⟩ : ∃ X1, Z[q + 1] = X1 := ⟨_, rfl⟩
      have HX1 := Aside0.mk hX1
      have hw1 := HW1.out
      rw [hX1] at hw1
      clear hkr hR hE1 hE0 hX1 HW1
      go_wp2_with (first
        | (go_at_call 35; refine (QS.spec_l06Rows.calls kr n A c xs A1 c1 l ((q : Int) + 1) _ _ (Kd.C_below HR.out HB.out) HC.out (Kd.C_below HR1.out HB.out) HC1.out HKR.out).mono ?_; rintro e w3 ⟨v, rfl, hv, hb⟩; obtain ⟨vs, hm⟩ := MR.ofS hv; have HM := Aside0.mk hm; have HB3 := Aside0.mk hb; clear hv hm hb)
        | (go_at_call 34; refine (HR2.out v vs _ HM.out HB3.out.size).mono ?_; rintro e w4 ⟨rfl, hb⟩; have HB4 := Aside0.mk (HB3.out.trans hb); have HO4 := Aside0.mk (Kd.R_below HO.out HB4.out); have HX4 := Aside0.mk (HX.out.below HB4.out); have HBW := Aside0.mk (below_in HB.out HB4.out); obtain ⟨_, hc4, hf4⟩ := RO.cells HO4.out hq1; rw [HX1.out] at hc4; have HO5 := Aside0.mk (RO.putH HO4.out (q + 1) E1); obtain ⟨_, hc5, hf5⟩ := RO.cells HO5.out (i := q) (by rw [List.length_set]; exact hq0); rw [List.getElem_set_ne (by omega), HW0.out] at hc5; clear hb))
      have hne : w.heap.size ≠ g := fun e => (Kd.R_ne HO4.out HX4.out (by decide)) (congrArg some e)
      have hRO := RO.putH HO5.out q (wrap64 (E0 - R))
      rw [HNX.out] at hRO
      exact ⟨⟨q + 1, by omega, by go_num, ⟨hRO⟩, ⟨(HX4.out.far hne _).far hne _⟩, ⟨(HBW.out.setCell (p := ⟨g, q + 1, none⟩) HG.out _).setCell (p := ⟨g, q, none⟩) HG.out _⟩⟩, by simp [intOf]; omega⟩
    · have hltz : ¬ (q : Int) + 1 < (ns.length : Int) := by omega
      have HME : Aside0 (max 1 ns.length = q + 1) := ⟨by omega⟩
      go_wp2
      go_ret
      exact ⟨_, rfl, by rw [HME.out]; exact HO.out, HB.out⟩
end Go.Proofs.YtpjcnigohhnhnaaGreat.Im
namespace Go.Proofs.YtpjcnigohhnhnaaGreat.QF
open Cw Kp Ext Go.RowKit YtpjcnigohhnhnaaGreatW.PrintWords YtpjcnigohhnhnaaGreatW.PrintLast YtpjcnigohhnhnaaGreatW.PrintMore
attribute [local go_sem] max2_int min2_int max_two min_two max_three min_three max_four min_four   -- for this text's walks alone
def errW : Option Int → Value
 | none => .nilIface
 | some c => .iface 0 (.int .i64 c)
theorem errW_none : errW none = .nilIface := rfl
theorem errW_some (c : Int) : errW (some c) = .iface 0 (.int .i64 c) := rfl
def impl_reduced.l0 : Nat → Int → List Int → Int → Int → Option (Int)
 | 0, _, _, _, _ => none
 | k + 1, x0, x7, x8, x9 => if x9 < x8 then (if 0 ≤ x9 then (if x9 < (x7.length : Int) then (impl_reduced.l0 k (mn x0 (Go.bits .xor .u64 x0 (rd x7 x9))) x7 x8 (wrap64 (x9 + 1))) else (none)) else (none)) else (some x0)
def impl_reduced.f (k : Nat) (a0 : Int) (l1 : List Int) : Option (Int) := impl_reduced.l0 k a0 l1 (l1.length : Int) 0
set_option maxHeartbeats 8000000 in
set_option maxRecDepth 100000 in
theorem impl_reduced.calls (k : Nat) (a0 : Int) (A1 : Option Addr) (c1 : Nat) (l1 : List Int) (r : Int) (w : World) (hr1 : Kd.C (Kd.int .u64) w A1 l1.length l1) (hc1 : l1.length ≤ c1) (h : impl_reduced.f k a0 l1 = some r) :
  Calls Tryz.prog 45 #[.int .u64 a0, .slice A1 l1.length c1] w fun e w' => e = .returned (.int .u64 r) ∧ Below w.heap.size w w' := by
 have HR1 := Aside0.mk hr1
 have HC1 := Aside0.mk hc1
 clear hr1 hc1
 have HB := Aside0.mk (Below.refl w.heap.size w)
 have H : (impl_reduced.l0 k a0 l1 (l1.length : Int) 0) = some r := h
 clear h
 have H' := Aside0.mk H
 clear H
 go_enter Tryz.func45, Tryz.ntmps45
 go_wp2
 go_loopg [0, 9] k (fun kq v0 v9 w' => ∃ (x0_1 : Int) (x9_1 : Int), v0 = .int .u64 x0_1 ∧ v9 = .int .i64 x9_1 ∧ Aside0 (impl_reduced.l0 kq x0_1 l1 (l1.length : Int) x9_1 = some r) ∧ Aside0 (kq ≤ k) ∧ Aside0 (Below w.heap.size w w'))
 case atStart => exact ⟨(a0), (0), (by first | rfl | (simp; done) | (simp [*]; done)), (by first | rfl | (simp; done) | (simp [*]; done)), H', ⟨Nat.le_refl _⟩, ⟨pH HB⟩⟩
 case round =>
  clear H'
  try clear c1
  try clear p2
  obtain ⟨x0_1, x9_1, rfl, rfl, HA, HK1, HB⟩ := hrel
  cases gk with
  | zero => exact absurd HA.out (by simp [impl_reduced.l0])
  | succ k1 =>
   have H := HA.out
   clear HA
   simp only [impl_reduced.l0] at H
   by_cases c3 : x9_1 < (l1.length : Int)
   ·rw [if_pos c3] at H
    have c3b0 : decide (x9_1 < (l1.length : Int)) = true := decide_eq_true c3
    clear c3
    by_cases c4 : 0 ≤ x9_1
    ·rw [if_pos c4] at H
     have c4b0 : decide (0 ≤ x9_1) = true := decide_eq_true c4
     clear c4
     by_cases c5 : x9_1 < (l1.length : Int)
     ·rw [if_pos c5] at H
      have c5b0 : decide (x9_1 < (l1.length : Int)) = true := decide_eq_true c5
      clear c5
      obtain ⟨ji6, hji6⟩ : ∃ j_ : Int, (mn x0_1 (Go.bits .xor .u64 x0_1 (rd l1 x9_1))) = j_ := ⟨_, rfl⟩
      replace H : (impl_reduced.l0 k1 ji6 l1 (l1.length : Int) (wrap64 (x9_1 + 1))) = some r := by first | (rw [hji6] at H; exact H) | (simp only [hji6] at H ⊢; exact H)
      have hji6_ : (if (Go.bits .xor .u64 x0_1 (rd l1 x9_1)) < x0_1 then (Go.bits .xor .u64 x0_1 (rd l1 x9_1)) else x0_1) = ji6 := hji6
      have H' := Aside0.mk H
      clear H
      have p101 : 0 ≤ (x9_1 : Int) := of_decide_eq_true (by first | (with_reducible assumption) | assumption)
      have q101 : x9_1 < (l1.length : Int) := of_decide_eq_true (by first | (with_reducible assumption) | assumption)
      obtain ⟨ad101, e101, hx101_0⟩ := Kd.at_int HR1.out x9_1 p101 q101
      cases e101
      replace hx101_0 := cH HB hx101_0
      replace p101 := eq_true p101
      replace q101 := eq_true q101
      go_wp2
      go_roundg k1
      case measure => have := HK1.out; omega
      case rel => exact ⟨(ji6), (wrap64 (x9_1 + 1)), (by first | rfl | (simp; done) | (simp only [← hji6] <;> (first | rfl | simp)) | (simp [*]; done)), (by first | rfl | (simp; done) | (simp [*]; done)), H', ⟨by have := HK1.out; omega⟩, ⟨pH HB⟩⟩
     ·rw [if_neg c5] at H
      exact absurd H (by simp)
    ·rw [if_neg c4] at H
     exact absurd H (by simp)
   ·rw [if_neg c3] at H
    have c3b0 : decide (x9_1 < (l1.length : Int)) = false := decide_eq_false c3
    clear c3
    obtain rfl := Option.some.inj H
    go_wp2
    go_ret
    exact ⟨by first | rfl | (simp [errW_none, errW_some] <;> rfl) | (simp [*, errW_none, errW_some] <;> rfl) | (exfalso; simp_all), pH HB⟩
def impl_length_impl_chain.f (l0 : List Int) : Option (Int) := some (l0.length : Int)
set_option maxHeartbeats 8000000 in
set_option maxRecDepth 100000 in
theorem impl_length_impl_chain.calls (A0 : Option Addr) (c0 : Nat) (l0 : List Int) (r : Int) (w : World) (hr0 : Kd.C (Kd.int .u64) w A0 l0.length l0) (hc0 : l0.length ≤ c0) (h : impl_length_impl_chain.f l0 = some r) :
  Calls Tryz.prog 49 #[.slice A0 l0.length c0] w fun e w' => e = .returned (.int .i64 r) ∧ Drawn0 w w' := by
 have HR0 := Aside0.mk hr0
 have HC0 := Aside0.mk hc0
 clear hr0 hc0
 have H : (some (l0.length : Int)) = some r := h
 clear h
 obtain rfl := Option.some.inj H
 go_enter Tryz.func49, Tryz.ntmps49
 go_wp2
 go_ret
 exact ⟨by first | rfl | (simp; done) | (simp [*]; done), by repeat (first | exact Drawn0.refl _ | apply Drawn0.step)⟩
def cmp_isNaN_impl_chain.f (a0 : Int) : Option (Bool) := some (a0 != a0)
set_option maxHeartbeats 8000000 in
set_option maxRecDepth 100000 in
theorem cmp_isNaN_impl_chain.calls (a0 : Int) (r : Bool) (w : World) (h : cmp_isNaN_impl_chain.f a0 = some r) :
  Calls Tryz.prog 73 #[.int .u64 a0] w fun e w' => e = .returned (.bool r) ∧ Drawn0 w w' := by
 have H : (some (a0 != a0)) = some r := h
 clear h
 obtain rfl := Option.some.inj H
 go_enter Tryz.func73, Tryz.ntmps73
 go_wp2
 go_ret
 exact ⟨by first | rfl | (simp; done) | (simp [*]; done), by repeat (first | exact Drawn0.refl _ | apply Drawn0.step)⟩
def cmp_Compare_impl_chain.f (a0 : Int) (a1 : Int) : Option (Int) := (cmp_isNaN_impl_chain.f a0).bind fun t102 => ((cmp_isNaN_impl_chain.f a1).bind fun t103 => (if t102 = true then (if t103 = true then (some 0) else (some (-1))) else (if t103 = true then (some 1) else (if a0 < a1 then (some (-1)) else (if a0 > a1 then (some 1) else (some 0))))))
set_option maxHeartbeats 8000000 in
set_option maxRecDepth 100000 in
theorem cmp_Compare_impl_chain.calls (a0 : Int) (a1 : Int) (r : Int) (w : World) (h : cmp_Compare_impl_chain.f a0 a1 = some r) :
  Calls Tryz.prog 48 #[.int .u64 a0, .int .u64 a1] w fun e w' => e = .returned (.int .i64 r) ∧ Drawn0 w w' := by
 have H : ((cmp_isNaN_impl_chain.f a0).bind fun t102 => ((cmp_isNaN_impl_chain.f a1).bind fun t103 => (if t102 = true then (if t103 = true then (some 0) else (some (-1))) else (if t103 = true then (some 1) else (if a0 < a1 then (some (-1)) else (if a0 > a1 then (some 1) else (some 0))))))) = some r := h
 clear h
 replace H := Option.bind_eq_some_iff.mp H
 obtain ⟨t102, A30, H⟩ := H
 try dsimp only at H
 have A3 := Aside0.mk A30
 clear A30
 replace H := Option.bind_eq_some_iff.mp H
 obtain ⟨t103, A40, H⟩ := H
 try dsimp only at H
 have A4 := Aside0.mk A40
 clear A40
 by_cases c5 : t102 = true
 ·subst c5
  have H1 : (if t103 = true then (some 0) else (some (-1))) = some r := by rw [if_pos rfl] at H; exact H
  clear H
  have H := H1
  clear H1
  by_cases c6 : t103 = true
  ·subst c6
   have H1 : (some 0) = some r := by rw [if_pos rfl] at H; exact H
   clear H
   have H := H1
   clear H1
   obtain rfl := Option.some.inj H
   go_enter Tryz.func48, Tryz.ntmps48
   go_wp2_with (first | ((with_reducible refine gate_callee (f := 73) rfl ?_); refine cl_ (some 8) Tryz.func73 #[.int .u64 a0] ?_; (with_reducible refine (cmp_isNaN_impl_chain.calls a0 true _ A3.out).mono ?_); rintro e w' ⟨rfl, ⟨nd, rfl⟩⟩; refine ⟨_, rfl, ?_⟩) | ((with_reducible refine gate_callee (f := 73) rfl ?_); refine cl_ (some 10) Tryz.func73 #[.int .u64 a1] ?_; (with_reducible refine (cmp_isNaN_impl_chain.calls a1 true _ A4.out).mono ?_); rintro e w' ⟨rfl, ⟨nd, rfl⟩⟩; refine ⟨_, rfl, ?_⟩))
   go_ret
   exact ⟨by first | rfl | (simp; done) | (simp [*]; done), by repeat (first | exact Drawn0.refl _ | apply Drawn0.step)⟩
  ·replace c6 := Bool.eq_false_iff.mpr c6
   subst c6
   have H1 : (some (-1)) = some r := by rw [if_neg (show ¬ (false = true) by decide)] at H; exact H
   clear H
   have H := H1
   clear H1
   obtain rfl := Option.some.inj H
   go_enter Tryz.func48, Tryz.ntmps48
   go_wp2_with (first | ((with_reducible refine gate_callee (f := 73) rfl ?_); refine cl_ (some 8) Tryz.func73 #[.int .u64 a0] ?_; (with_reducible refine (cmp_isNaN_impl_chain.calls a0 true _ A3.out).mono ?_); rintro e w' ⟨rfl, ⟨nd, rfl⟩⟩; refine ⟨_, rfl, ?_⟩) | ((with_reducible refine gate_callee (f := 73) rfl ?_); refine cl_ (some 10) Tryz.func73 #[.int .u64 a1] ?_; (with_reducible refine (cmp_isNaN_impl_chain.calls a1 false _ A4.out).mono ?_); rintro e w' ⟨rfl, ⟨nd, rfl⟩⟩; refine ⟨_, rfl, ?_⟩))
   go_ret
   exact ⟨by first | rfl | (simp; done) | (simp [*]; done), by repeat (first | exact Drawn0.refl _ | apply Drawn0.step)⟩
 ·replace c5 := Bool.eq_false_iff.mpr c5
  subst c5
  have H1 : (if t103 = true then (some 1) else (if a0 < a1 then (some (-1)) else (if a0 > a1 then (some 1) else (some 0)))) = some r := by rw [if_neg (show ¬ (false = true) by decide)] at H; exact H
  clear H
  have H := H1
  clear H1
  by_cases c7 : t103 = true
  ·subst c7
   have H1 : (some 1) = some r := by rw [if_pos rfl] at H; exact H
   clear H
   have H := H1
   clear H1
   obtain rfl := Option.some.inj H
   go_enter Tryz.func48, Tryz.ntmps48
   go_wp2_with (first | ((with_reducible refine gate_callee (f := 73) rfl ?_); refine cl_ (some 8) Tryz.func73 #[.int .u64 a0] ?_; (with_reducible refine (cmp_isNaN_impl_chain.calls a0 false _ A3.out).mono ?_); rintro e w' ⟨rfl, ⟨nd, rfl⟩⟩; refine ⟨_, rfl, ?_⟩) | ((with_reducible refine gate_callee (f := 73) rfl ?_); refine cl_ (some 10) Tryz.func73 #[.int .u64 a1] ?_; (with_reducible refine (cmp_isNaN_impl_chain.calls a1 true _ A4.out).mono ?_); rintro e w' ⟨rfl, ⟨nd, rfl⟩⟩; refine ⟨_, rfl, ?_⟩))
   go_ret
   exact ⟨by first | rfl | (simp; done) | (simp [*]; done), by repeat (first | exact Drawn0.refl _ | apply Drawn0.step)⟩
  ·replace c7 := Bool.eq_false_iff.mpr c7
   subst c7
   have H1 : (if a0 < a1 then (some (-1)) else (if a0 > a1 then (some 1) else (some 0))) = some r := by rw [if_neg (show ¬ (false = true) by decide)] at H; exact H
   clear H
   have H := H1
   clear H1
   by_cases c8 : a0 < a1
   ·rw [if_pos c8] at H
    have c8b0 : decide (a0 < a1) = true := decide_eq_true c8
    clear c8
    obtain rfl := Option.some.inj H
    go_enter Tryz.func48, Tryz.ntmps48
    go_wp2_with (first | ((with_reducible refine gate_callee (f := 73) rfl ?_); refine cl_ (some 8) Tryz.func73 #[.int .u64 a0] ?_; (with_reducible refine (cmp_isNaN_impl_chain.calls a0 false _ A3.out).mono ?_); rintro e w' ⟨rfl, ⟨nd, rfl⟩⟩; refine ⟨_, rfl, ?_⟩) | ((with_reducible refine gate_callee (f := 73) rfl ?_); refine cl_ (some 10) Tryz.func73 #[.int .u64 a1] ?_; (with_reducible refine (cmp_isNaN_impl_chain.calls a1 false _ A4.out).mono ?_); rintro e w' ⟨rfl, ⟨nd, rfl⟩⟩; refine ⟨_, rfl, ?_⟩))
    go_ret
    exact ⟨by first | rfl | (simp; done) | (simp [*]; done), by repeat (first | exact Drawn0.refl _ | apply Drawn0.step)⟩
   ·rw [if_neg c8] at H
    have c8b0 : decide (a0 < a1) = false := decide_eq_false c8
    clear c8
    by_cases c9 : a0 > a1
    ·rw [if_pos c9] at H
     have c9b0 : decide (a1 < a0) = true := decide_eq_true c9
     clear c9
     obtain rfl := Option.some.inj H
     go_enter Tryz.func48, Tryz.ntmps48
     go_wp2_with (first | ((with_reducible refine gate_callee (f := 73) rfl ?_); refine cl_ (some 8) Tryz.func73 #[.int .u64 a0] ?_; (with_reducible refine (cmp_isNaN_impl_chain.calls a0 false _ A3.out).mono ?_); rintro e w' ⟨rfl, ⟨nd, rfl⟩⟩; refine ⟨_, rfl, ?_⟩) | ((with_reducible refine gate_callee (f := 73) rfl ?_); refine cl_ (some 10) Tryz.func73 #[.int .u64 a1] ?_; (with_reducible refine (cmp_isNaN_impl_chain.calls a1 false _ A4.out).mono ?_); rintro e w' ⟨rfl, ⟨nd, rfl⟩⟩; refine ⟨_, rfl, ?_⟩))
     go_ret
     exact ⟨by first | rfl | (simp; done) | (simp [*]; done), by repeat (first | exact Drawn0.refl _ | apply Drawn0.step)⟩
    ·rw [if_neg c9] at H
     have c9b0 : decide (a1 < a0) = false := decide_eq_false c9
     clear c9
     obtain rfl := Option.some.inj H
     go_enter Tryz.func48, Tryz.ntmps48
     go_wp2_with (first | ((with_reducible refine gate_callee (f := 73) rfl ?_); refine cl_ (some 8) Tryz.func73 #[.int .u64 a0] ?_; (with_reducible refine (cmp_isNaN_impl_chain.calls a0 false _ A3.out).mono ?_); rintro e w' ⟨rfl, ⟨nd, rfl⟩⟩; refine ⟨_, rfl, ?_⟩) | ((with_reducible refine gate_callee (f := 73) rfl ?_); refine cl_ (some 10) Tryz.func73 #[.int .u64 a1] ?_; (with_reducible refine (cmp_isNaN_impl_chain.calls a1 false _ A4.out).mono ?_); rintro e w' ⟨rfl, ⟨nd, rfl⟩⟩; refine ⟨_, rfl, ?_⟩))
     go_ret
     exact ⟨by first | rfl | (simp; done) | (simp [*]; done), by repeat (first | exact Drawn0.refl _ | apply Drawn0.step)⟩
def impl_rankOfRows_1.f (a0 : Int) (a1 : Int) : Option (Int) := (cmp_Compare_impl_chain.f a1 a0).bind fun t104 => (some t104)
set_option maxHeartbeats 8000000 in
set_option maxRecDepth 100000 in
theorem impl_rankOfRows_1.calls (a0 : Int) (a1 : Int) (r : Int) (w : World) (h : impl_rankOfRows_1.f a0 a1 = some r) :
  Calls Tryz.prog 47 #[.int .u64 a0, .int .u64 a1] w fun e w' => e = .returned (.int .i64 r) ∧ Drawn0 w w' := by
 have H : ((cmp_Compare_impl_chain.f a1 a0).bind fun t104 => (some t104)) = some r := h
 clear h
 replace H := Option.bind_eq_some_iff.mp H
 obtain ⟨t104, A30, H⟩ := H
 try dsimp only at H
 have A3 := Aside0.mk A30
 clear A30
 obtain rfl := Option.some.inj H
 go_enter Tryz.func47, Tryz.ntmps47
 go_wp2_with (first | ((with_reducible refine gate_callee (f := 48) rfl ?_); refine cl_ (some 7) Tryz.func48 #[.int .u64 a1, .int .u64 a0] ?_; (with_reducible refine (cmp_Compare_impl_chain.calls a1 a0 t104 _ A3.out).mono ?_); rintro e w' ⟨rfl, ⟨nd, rfl⟩⟩; refine ⟨_, rfl, ?_⟩))
 go_ret
 exact ⟨by first | rfl | (simp; done) | (simp [*]; done), by repeat (first | exact Drawn0.refl _ | apply Drawn0.step)⟩
end Go.Proofs.YtpjcnigohhnhnaaGreat.QF
namespace Go.Proofs.YtpjcnigohhnhnaaGreat.Pu
open Go.RowKit Im YtpjcnigohhnhnaaGreatW.PrintWords YtpjcnigohhnhnaaGreatW.PrintLast YtpjcnigohhnhnaaGreatW.PrintMore
def toI (L : List Nat) : List Int := L.map fun x : Nat => (x : Int)
theorem toI_len (L : List Nat) : (toI L).length = L.length := by simp [toI]
theorem toI_at {L : List Nat} {i : Nat} (h : i < (toI L).length) : (toI L)[i] = (L[i]'(by rw [toI_len] at h; exact h) : Int) := by simp [toI]
theorem mn_nat (a b : Nat) : mn (a : Int) (b : Int) = ((min a b : Nat) : Int) := by
  unfold mn
  rw [Nat.min_def]
  split <;> split <;> omega
theorem ev_reduced {L : List Nat} (hl : L.length ≤ 1048576) (hb : ∀ b ∈ L, b < 18446744073709551616) : ∀ d (i c : Nat), L.length - i = d → i ≤ L.length → c < 18446744073709551616 → Ev (fun k => QF.impl_reduced.l0 k (c : Int) (toI L) ((toI L).length : Int) (i : Int)) ((redN c (L.drop i) : Nat) : Int) := by
  intro d
  induction d with
  | zero =>
    intro i c hd hi hc
    rw [List.drop_eq_nil_of_le (by omega)]
    refine Ev.step (f := fun _ => some ((redN c [] : Nat) : Int)) (fun k => ?_) (Ev.now _)
    simp only [QF.impl_reduced.l0]
    rw [if_neg (by rw [toI_len]; omega)]
    rfl
  | succ d ih =>
    intro i c hd hi hc
    have hi' : i < L.length := by omega
    have hit : i < (toI L).length := by rw [toI_len]; exact hi'
    rw [List.drop_eq_getElem_cons hi', redN]
    refine Ev.step (fun k => ?_) (ih (i + 1) _ (by omega) (by omega) (Nat.lt_of_le_of_lt (Nat.min_le_left _ _) hc))
    simp only [QF.impl_reduced.l0]
    rw [if_pos (by rw [toI_len]; omega), if_pos (by omega), if_pos (by rw [toI_len]; omega), rd_at hit, toI_at hit, Go.u64_xor_nat _ _ hc (hb _ (List.getElem_mem hi')), mn_nat, succ64 (by omega)]
theorem ev_red {L : List Nat} (hl : L.length ≤ 1048576) (hb : ∀ b ∈ L, b < 18446744073709551616) {c : Nat} (hc : c < 18446744073709551616) : Ev (fun k => QF.impl_reduced.f k (c : Int) (toI L)) ((redN c L : Nat) : Int) := by
  unfold QF.impl_reduced.f
  exact ev_reduced hl hb _ 0 c rfl (Nat.zero_le _) hc
theorem mask_more {row : List Int} {i : Nat} (hi : i < row.length) (hb : Bit row[i]) : mask (row.take (i + 1)) = mask (row.take i) ||| (if row[i] = 1 then 2 ^ i else 0) := by
  refine Nat.eq_of_testBit_eq fun j => ?_
  rw [mask_bit, Nat.testBit_or, mask_bit]
  have hg : ∀ k, (row.take k).getD j 0 = if j < k then row.getD j 0 else 0 := fun k => by
    rw [List.getD_eq_getElem?_getD, List.getElem?_take]
    split
    · rw [List.getD_eq_getElem?_getD]
    · rfl
  rw [hg, hg]
  rcases Nat.lt_trichotomy j i with h | h | h
  · rw [if_pos (by omega), if_pos h]
    by_cases h1 : row[i] = 1
    · rw [if_pos h1, Nat.testBit_two_pow]
      simp; omega
    · rw [if_neg h1]; simp
  · subst h
    rw [if_pos (by omega), if_neg (Nat.lt_irrefl _), List.getD_eq_getElem?_getD, List.getElem?_eq_getElem hi, Option.getD_some]
    by_cases h1 : row[j] = 1
    · rw [if_pos h1, Nat.testBit_two_pow, h1]; simp
    · rw [if_neg h1]; simp [h1]
  · rw [if_neg (by omega), if_neg (by omega)]
    by_cases h1 : row[i] = 1
    · rw [if_pos h1, Nat.testBit_two_pow]
      simp; omega
    · rw [if_neg h1]; simp
end Go.Proofs.YtpjcnigohhnhnaaGreat.Pu
namespace Go.Proofs.YtpjcnigohhnhnaaGreat.Ext
open Go.Shelf
def sortU_ren : Go.Shelf.Ren := ⟨fun | 6 => 46 | 15 => 72 | 14 => 71 | 28 => 93 | 29 => 94 | 20 => 85 | 21 => 86 | 22 => 87 | 23 => 88 | 24 => 89 | 25 => 90 | 26 => 91 | 27 => 92 | 46 => 107 | 47 => 108 | 48 => 109 | 49 => 110 | 50 => 111 | 57 => 117 | n => n, fun | 22 => 66 | 24 => 68 | 25 => 71 | 3 => 3 | 39 => 87 | 0 => 0 | 53 => 101 | 55 => 67 | 4 => 4 | 46 => 94 | 45 => 93 | 50 => 98 | 5 => 5 | 9 => 9 | 66 => 108 | 70 => 112 | 76 => 117 | 77 => 118 | n => n, fun | n => n⟩
theorem sortU : Go.Proofs.SlLaysF.n6 Tryz.prog sortU_ren := {
  mixed := by kernel_rfl
  f6 := ⟨Tryz.f46.name, by decide, Tryz.func46.trans (congrArg some (by kernel_rfl))⟩
  f14 := ⟨Tryz.f71.name, by decide, Tryz.func71.trans (congrArg some (by kernel_rfl))⟩
  f15 := Tryz.func72.trans (congrArg some (by kernel_rfl))
  f20 := ⟨Tryz.f85.name, by decide, Tryz.func85.trans (congrArg some (by kernel_rfl))⟩
  f21 := ⟨Tryz.f86.name, by decide, Tryz.func86.trans (congrArg some (by kernel_rfl))⟩
  f22 := ⟨Tryz.f87.name, by decide, Tryz.func87.trans (congrArg some (by kernel_rfl))⟩
  f23 := ⟨Tryz.f88.name, by decide, Tryz.func88.trans (congrArg some (by kernel_rfl))⟩
  f24 := ⟨Tryz.f89.name, by decide, Tryz.func89.trans (congrArg some (by kernel_rfl))⟩
  f25 := ⟨Tryz.f90.name, by decide, Tryz.func90.trans (congrArg some (by kernel_rfl))⟩
  f26 := ⟨Tryz.f91.name, by decide, Tryz.func91.trans (congrArg some (by kernel_rfl))⟩
  f27 := ⟨Tryz.f92.name, by decide, Tryz.func92.trans (congrArg some (by kernel_rfl))⟩
  f28 := Tryz.func93.trans (congrArg some (by kernel_rfl))
  f29 := Tryz.func94.trans (congrArg some (by kernel_rfl))
  f46 := ⟨Tryz.f107.name, by decide, Tryz.func107.trans (congrArg some (by kernel_rfl))⟩
  f47 := Tryz.func108.trans (congrArg some (by kernel_rfl))
  f48 := Tryz.func109.trans (congrArg some (by kernel_rfl))
  f49 := ⟨Tryz.f110.name, by decide, Tryz.func110.trans (congrArg some (by kernel_rfl))⟩
  f50 := ⟨Tryz.f111.name, by decide, Tryz.func111.trans (congrArg some (by kernel_rfl))⟩
  f57 := ⟨Tryz.f117.name, by decide, Tryz.func117.trans (congrArg some (by kernel_rfl))⟩
  t0 := Tryz.underlying0
  a0 := Tryz.isAgg0
  z0 := Tryz.sizeOf0
  v0 := Tryz.zeroValue0
  t3 := Tryz.underlying3
  a3 := Tryz.isAgg3
  z3 := Tryz.sizeOf3
  v3 := Tryz.zeroValue3
  t4 := Tryz.underlying4
  a4 := Tryz.isAgg4
  z4 := Tryz.sizeOf4
  v4 := Tryz.zeroValue4
  t5 := Tryz.underlying5
  a5 := Tryz.isAgg5
  z5 := Tryz.sizeOf5
  v5 := Tryz.zeroValue5
  t9 := Tryz.underlying9
  a9 := Tryz.isAgg9
  z9 := Tryz.sizeOf9
  v9 := Tryz.zeroValue9
  t22 := Tryz.underlying66
  a22 := Tryz.isAgg66
  z22 := Tryz.sizeOf66
  v22 := Tryz.zeroValue66
  a24 := Tryz.isAgg68
  z24 := Tryz.sizeOf68
  t25 := Tryz.underlying71
  a25 := Tryz.isAgg71
  z25 := Tryz.sizeOf71
  v25 := Tryz.zeroValue71
  t39 := Tryz.underlying87
  a39 := Tryz.isAgg87
  z39 := Tryz.sizeOf87
  v39 := Tryz.zeroValue87
  t45 := Tryz.underlying93
  a45 := Tryz.isAgg93
  z45 := Tryz.sizeOf93
  v45 := Tryz.zeroValue93
  t46 := Tryz.underlying94
  a46 := Tryz.isAgg94
  z46 := Tryz.sizeOf94
  v46 := Tryz.zeroValue94
  t50 := Tryz.underlying98
  a50 := Tryz.isAgg98
  z50 := Tryz.sizeOf98
  v50 := Tryz.zeroValue98
  t53 := Tryz.underlying101
  a53 := Tryz.isAgg101
  z53 := Tryz.sizeOf101
  v53 := Tryz.zeroValue101
  t55 := Tryz.underlying67
  a55 := Tryz.isAgg67
  z55 := Tryz.sizeOf67
  v55 := Tryz.zeroValue67
  t66 := Tryz.underlying108
  a66 := Tryz.isAgg108
  z66 := Tryz.sizeOf108
  v66 := Tryz.zeroValue108
  t70 := Tryz.underlying112
  a70 := Tryz.isAgg112
  z70 := Tryz.sizeOf112
  v70 := Tryz.zeroValue112
  t76 := Tryz.underlying117
  a76 := Tryz.isAgg117
  z76 := Tryz.sizeOf117
  v76 := Tryz.zeroValue117
  t77 := Tryz.underlying118
  a77 := Tryz.isAgg118
  z77 := Tryz.sizeOf118
  v77 := Tryz.zeroValue118 }
end Go.Proofs.YtpjcnigohhnhnaaGreat.Ext
namespace Go.Proofs.YtpjcnigohhnhnaaGreat.Im
open Go.RowKit Go.Shelf Kp Ext Cw Pu YtpjcnigohhnhnaaGreatW.PrintWords YtpjcnigohhnhnaaGreatW.PrintLast YtpjcnigohhnhnaaGreatW.PrintMore
abbrev UO (w : World) (base : Nat) (v : Value) (xs : List Int) : Prop := Kd.R (Kd.int .u64) 68 w base (fun _ => True) v xs
theorem infoU : (Tryz.prog.info? 68).map (fun i => (i.zero, i.size, i.bytes)) = some (some (.int .u64 0), 1, 8) := by kernel_rfl
theorem UO.row {w : World} {base : Nat} {v : Value} {xs : List Int} (h : UO w base v xs) : w.ownsRow base 68 1 v xs.length (xs.map (Value.int .u64)) := by
  obtain ⟨_, inner, ho, hr⟩ := h
  have : inner = xs.map (Value.int .u64) := by
    apply List.ext_getElem
    · have := hr.1; simpa [Kd.int, Kd.scalar] using this
    · intro i h1 h2
      have h3 := hr.2 i (xs[i]'(by simpa using h2)) (List.getElem?_eq_getElem _)
      have h4 : inner[i]? = some (Value.int .u64 (xs[i]'(by simpa using h2))) := by
        have h5 : (inner.drop (i * 1)).take 1 = [Value.int .u64 (xs[i]'(by simpa using h2))] := h3
        rw [Nat.mul_one] at h5
        rw [List.drop_eq_getElem_cons h1, List.take_succ_cons, List.take_zero] at h5
        injection h5 with h6
        rw [List.getElem?_eq_getElem h1, h6]
      rw [List.getElem?_eq_getElem h1] at h4
      simpa using h4
  rw [← this]
  exact ho
theorem UO.open {w : World} {base : Nat} {v : Value} {xs : List Int} (h : UO w base v xs) : (v = .slice none 0 0 ∧ xs = []) ∨ ∃ g cap cur, v = .slice (some ⟨g, 0, none⟩) xs.length cap ∧ base ≤ g ∧ w.heap[g]? = some (.cells cur 68 (0, 0)) ∧ xs.length ≤ cap ∧ cap ≤ maxLen ∧ cur.size = cap ∧ cur.toList.take xs.length = xs.map (Value.int .u64) := by
  obtain ⟨_, ho⟩ := h.row
  rcases ho with ⟨rfl, h0⟩ | ⟨g, cap, cur, rfl, hb, hg, hn, hc, hs, ht⟩
  · exact .inl ⟨rfl, List.eq_nil_of_length_eq_zero h0⟩
  · exact .inr ⟨g, cap, cur, rfl, hb, hg, hn, hc, by simpa using hs, by simpa using ht⟩
theorem UO.mk {w : World} {base g cap : Nat} {cur : Array Value} {xs : List Int} (hb : base ≤ g) (hg : w.heap[g]? = some (.cells cur 68 (0, 0))) (hn : xs.length ≤ cap) (hc : cap ≤ maxLen) (hs : cur.size = cap) (ht : cur.toList.take xs.length = xs.map (Value.int .u64)) :
    UO w base (.slice (some ⟨g, 0, none⟩) xs.length cap) xs :=
  ⟨fun _ _ => trivial, xs.map (Value.int .u64), ⟨by simp [Kd.int, Kd.scalar], .inr ⟨g, cap, cur, rfl, hb, hg, hn, hc, by simp [Kd.int, Kd.scalar, hs], by simpa [Kd.int, Kd.scalar] using ht⟩⟩, by
    refine ⟨by simp [Kd.int, Kd.scalar], fun j p hj => ?_⟩
    obtain ⟨hj', rfl⟩ := List.getElem?_eq_some_iff.1 hj
    show ((xs.map (Value.int .u64)).drop (j * 1)).take 1 = [Value.int .u64 xs[j]]
    rw [Nat.mul_one, List.drop_eq_getElem_cons (by simpa using hj'), List.take_succ_cons, List.take_zero, List.getElem_map]⟩
theorem holdsU {w : World} {g : Nat} {cur : Array Value} {e : TypeId} {xs : List Int} (hb : w.heap[g]? = some (.cells cur e (0, 0))) (ht : cur.toList.take xs.length = xs.map (Value.int .u64)) : Go.Sort.Holds (Value.int .u64) w g 0 xs.toArray := by
  intro j hj
  have hj' : j < xs.length := by simpa using hj
  refine ⟨?_, by simp [World.frozen?, hb]⟩
  have h1 : (cur.toList.take xs.length)[j]? = (xs.map (Value.int .u64))[j]? := by rw [ht]
  rw [List.getElem?_take_of_lt hj'] at h1
  simp only [World.cell?, hb, Nat.zero_add]
  simp only [Option.isSome_none, Bool.false_eq_true, if_false]
  rw [← Array.getElem?_toList, h1]
  simp [hj']
theorem heap_sortedU {w : World} {g n : Nat} {os : Array Obj} {cur : Array Value} {e : TypeId} {fr : Nat × Nat} (d : Array Int) (hb : w.heap[g]? = some (.cells cur e fr)) :
    (Go.Sort.grow (Go.Sort.putRow (Value.int .u64) (Go.Sort.ahead w n) g 0 d) os).heap[g]? = some (.cells (Go.Sort.putCells (Value.int .u64) 0 d cur) e fr) := by
  have hg : g < w.heap.size := (Array.getElem?_eq_some_iff.1 hb).1
  rw [Go.Sort.heap_grow_old _ _ (by simpa using hg)]
  simp [Go.Sort.putRow, Go.Sort.mapBlock, Go.Sort.ahead, Array.getElem?_modify, hb, Go.Sort.onCells]
theorem below_sortedU {w : World} {base g n : Nat} {os : Array Obj} (d : Array Int) (hb : base ≤ g) (hs : base ≤ w.heap.size) : Below base w (Go.Sort.grow (Go.Sort.putRow (Value.int .u64) (Go.Sort.ahead w n) g 0 d) os) := by
  refine ⟨rfl, rfl, rfl, by simp, fun k hk => ?_⟩
  rw [Go.Sort.heap_grow_old _ _ (by simp; omega)]
  have : g ≠ k := by omega
  simp [Go.Sort.putRow, Go.Sort.mapBlock, Go.Sort.ahead, Array.getElem?_modify, this]
theorem take_putCellsU (cur : Array Value) (ts : List Int) (h : ts.length ≤ cur.size) : (Go.Sort.putCells (Value.int .u64) 0 ts.toArray cur).toList.take ts.length = ts.map (Value.int .u64) := by
  apply List.ext_getElem?
  intro j
  by_cases hj : j < ts.length
  · rw [List.getElem?_take_of_lt hj, Array.getElem?_toList]
    simp [Go.Sort.putCells, hj, show j < cur.size by omega]
  · rw [List.getElem?_take_eq_none (by omega), List.getElem?_eq_none (by simp; omega)]
theorem rr1_f (x y : Int) : QF.impl_rankOfRows_1.f x y = some (cmpI y x) := by
  unfold QF.impl_rankOfRows_1.f QF.cmp_Compare_impl_chain.f QF.cmp_isNaN_impl_chain.f cmpI
  simp only [Option.bind_some, bne_self_eq_false, Bool.false_eq_true, if_false]
  split
  · rfl
  · split <;> rfl
theorem rr1_c (x y : Int) (w : World) : Calls Tryz.prog 47 #[.int .u64 x, .int .u64 y] w fun e w' => e = .returned (.int .i64 (cmpI y x)) ∧ ∃ q, w' = w.drewN q :=
  (QF.impl_rankOfRows_1.calls x y (cmpI y x) w (rr1_f x y)).mono fun e w' h => ⟨h.1, by obtain ⟨q, rfl⟩ := h.2; exact ⟨q, rfl⟩⟩
theorem ltU (x y : Int) : ltOf (fun x y : Int => cmpI y x) x y = decide (y < x) := by
  unfold ltOf cmpI
  by_cases h1 : y < x
  · simp [h1]
  · by_cases h2 : y > x <;> simp [h1, h2]
theorem swoU : Go.Sort.SWO (ltOf fun x y : Int => cmpI y x) where
  irrefl x := by rw [ltU]; simp
  trans x y z h1 h2 := by rw [ltU] at *; simp at *; omega
  ntrans x y z h1 h2 := by rw [ltU] at *; simp at *; omega
theorem sortU_c (v : Value) (xs : List Int) (base : Nat) (w : World) (ho : UO w base v xs) (h0 : xs ≠ []) (hb : base ≤ w.heap.size) (hn : xs.length ≤ 1048576) :
    Calls Tryz.prog 46 #[v, .func (.func 47) #[] #[]] w fun e w' => ∃ L : List Int, e = .returned (.tuple #[]) ∧ UO w' base v L ∧ L.length = xs.length ∧ L.Perm xs ∧ (L.Pairwise fun p q => ¬ p < q) ∧ Below base w w' := by
  rcases UO.open ho with ⟨rfl, rfl⟩ | ⟨g, cap, cur, rfl, hbg, hg, hnc, hcm, hL, ht⟩
  · exact absurd rfl h0
  have eg : ∀ args w, (callFunc 47 args).run Tryz.prog w = .ok (.enter 47 args) w := enters_of Tryz.func47 (by kernel_rfl) rfl
  have hcr : CmpReads Tryz.prog 47 #[] (Value.int .u64) (fun x y : Int => cmpI y x) g 0 xs.toArray.size w := fun _ _ _ _ x y => rr1_c x y _
  have hcon := Any.slices_SortFunc sortU (Value.int .u64) (fun _ => rfl) (fun x y : Int => cmpI y x) swoU 47 #[] g 0 cap xs.toArray w eg hcr.lays (holdsU hg ht) (blk_lt hg) (by simp; omega)
  change Calls Tryz.prog 46 _ _ _ at hcon
  rw [show xs.toArray.size = xs.length by simp] at hcon
  refine hcon.mono ?_
  rintro e w' ⟨rfl, d', n, os, ⟨hsz, _, hpm⟩, hso, rfl⟩
  have hsz' : d'.size = xs.length := by simpa using hsz
  have hpm' : d'.toList.Perm xs := by
    have h9 := hpm
    have h8 : (xs.toArray.extract 0 xs.length).toList = xs := by simp
    have h7 : (d'.extract 0 xs.length).toList = d'.toList := by simp [← hsz']
    rwa [h8, h7] at h9
  have hdl : d'.toList.length = xs.length := by simpa using hsz'
  refine ⟨d'.toList, rfl, ?_, hdl, hpm', ?_, below_sortedU _ hbg hb⟩
  · have hh := heap_sortedU (n := n) (os := os) d' hg
    have h6 := take_putCellsU cur d'.toList (by rw [hdl]; omega)
    have := UO.mk (xs := d'.toList) (cap := cap) hbg hh (by rw [hdl]; exact hnc) hcm (by simp [Go.Sort.putCells, hL]) (by simpa using h6)
    rw [hdl] at this
    exact this
  · refine List.pairwise_iff_getElem.2 fun i j hi hj hij => ?_
    have h9 := hso i j (Nat.zero_le _) hij (by simpa [hsz'] using hj)
    rw [ltU] at h9
    have h10 := of_decide_eq_false h9
    have hi' : i < d'.size := by simpa using hi
    have hj' : j < d'.size := by simpa using hj
    rw [getElem!_pos d' i hi', getElem!_pos d' j hj'] at h10
    simpa using h10
section
variable {P : Program} {ops : Array Oper} {rest : List Oper} {o : Oper} {a : Act} {Q : Exit → Act → World → Prop}
theorem apU {w0 W : World} (base : Nat) (hgd : o.guard = none) (s x : Operand) (t : TypeId)
    (ho : o.op = .call { callee := .builtin .append, args := #[s, x], argTypes := #[t, t] }) (ht : P.underlying t = some (.slice 68))
    (hinfo : (P.info? 68).map (fun i => (i.zero, i.size, i.bytes)) = some (some (.int .u64 0), 1, 8)) (v : Value) (xs : List Int) (y : Int)
    (hs : a.eval s = v) (hx : a.eval x = .slice (some ⟨W.heap.size, 0, none⟩) 1 1) (HO : UO W base v xs) (HB : Below base w0 W) (hbase : base ≤ W.heap.size) (hl : xs.length ≤ 17592186044415)
    (h : ∀ v1 w1, UO w1 base v1 (xs ++ [y]) → Below base w0 w1 → W.grownBy w1 v.ownBlock → (v1.ownBlock = v.ownBlock ∨ ∃ b, v1.ownBlock = some b ∧ W.heap.size ≤ b) → wpList P ops Q rest (a.put o.dst v1) w1) :
    wpList P ops Q (o :: rest) a (W.alloc (.cells #[.int .u64 y] 68)) :=
  Kd.R_append (Kd.int .u64) base hgd s x t 68 (.int .u64 0) 8 ho ht hinfo rfl (by decide) (by decide) v xs y [.int .u64 y] (fun _ => True) (fun _ => False) hs hx rfl (fun _ hk => hk.elim) (fun _ _ => trivial) HO HB hbase (by omega) h
end
theorem rowsC_at {w : World} {A : Option Addr} {n : Nat} {M : List (List Int)} (h : Kd.C (Kd.slice 2 (Kd.int .i64)) w A n M) {i : Nat} (hi : i < M.length) :
    ∃ ad A' c', A = some ad ∧ w.cell? (ad.add i) = some (.slice A' M[i].length c') ∧ M[i].length ≤ c' ∧ Kd.C (Kd.int .i64) w A' M[i].length M[i] := by
  obtain ⟨ad, c, hA, _, hK, hc⟩ := Kd.C_get h [] (i : Int) (by omega) (by have := h.1; omega)
  rw [Int.toNat_natCast, List.getD_eq_getElem?_getD, List.getElem?_eq_getElem hi, Option.getD_some] at hK
  obtain ⟨A', c', rfl, hl, hr⟩ := hK
  refine ⟨ad, A', c', hA, ?_, hl, hr⟩
  have := hc 0 _ rfl
  rwa [show ((i : Int)).toNat * (Kd.slice 2 (Kd.int .i64)).sz + 0 = i by simp [Kd.slice]] at this
theorem shl_bit64 {x : Int} (hx : Bit x) {j : Nat} (hj : j < 64) : IntKind.u64.wrap (IntKind.u64.wrap x * 2 ^ j) = (((if x = 1 then 2 ^ j else 0 : Nat)) : Int) := by
  unfold Bit at hx
  have h2 : (2 : Int) ^ j = ((2 ^ j : Nat) : Int) := by simp
  have h3 : 2 ^ j < 2 ^ 64 := Nat.pow_lt_pow_right (by omega) hj
  rcases hx with rfl | rfl
  · rw [if_neg (by decide), show IntKind.u64.wrap 0 = 0 from rfl, Int.zero_mul]; rfl
  · rw [if_pos rfl, show IntKind.u64.wrap 1 = 1 from rfl, Int.one_mul, h2, IntKind.wrap_u64]
    generalize 2 ^ j = z at *
    omega
theorem perm_nat {L : List Nat} {r : Nat} {L2 : List Int} (h : L2.Perm (toI L ++ [(r : Int)])) (hs : L2.Pairwise fun p q => ¬ p < q) : ∃ L' : List Nat, L2 = toI L' ∧ L'.Perm (L ++ [r]) ∧ L'.Pairwise fun a b => ¬ a < b := by
  have he : toI L ++ [(r : Int)] = toI (L ++ [r]) := by unfold toI; rw [List.map_append]; rfl
  rw [he] at h
  have hn : ∀ x ∈ L2, 0 ≤ x := fun x hx => by
    obtain ⟨y, _, rfl⟩ := List.mem_map.1 (h.mem_iff.1 hx)
    omega
  have h2 : L2 = toI (L2.map Int.toNat) := by
    unfold toI
    rw [List.map_map]
    refine List.ext_getElem (by simp) fun i h1 h2 => ?_
    have := hn _ (List.getElem_mem h1)
    simp; omega
  refine ⟨L2.map Int.toNat, h2, ?_, ?_⟩
  · have h3 := h.map Int.toNat
    have h4 : (toI (L ++ [r])).map Int.toNat = L ++ [r] := by
      unfold toI
      rw [List.map_map, show (Int.toNat ∘ fun x : Nat => (x : Int)) = id from funext fun x => by simp, List.map_id]
    rwa [h4] at h3
  · rw [h2] at hs
    unfold toI at hs
    rw [List.pairwise_map] at hs
    exact hs.imp (fun {a b} h => by omega)
set_option maxRecDepth 100000 in
set_option maxHeartbeats 8000000 in
theorem rankR_c (A : Option Addr) (c m : Nat) (M : List (List Int)) (w : World) (hr : Kd.C (Kd.slice 2 (Kd.int .i64)) w A M.length M) (hc : M.length ≤ c) (hM : M.length ≤ 1048576) (hb : Bits M) (hl : ∀ row ∈ M, row.length = m) (hm : m < 64) :
    Calls Tryz.prog 26 #[.slice A M.length c] w fun e w' => e = .returned (.int .i64 ((elimAll (fun _ => 0) M m).2 : Int)) ∧ Below w.heap.size w w' := by
  have HR := Aside0.mk hr
  have HBT := Aside0.mk hb
  have HL := Aside0.mk hl
  have HO : Aside0 (UO w w.heap.size (.slice none 0 0) (toI [])) := ⟨Kd.R_nil _ _ _ _ _⟩
  have HBS : Aside0 (Bas m [] ((M.take 0).map mask)) := ⟨Bas.nil m⟩
  have HB := Aside0.mk (Below.refl w.heap.size w)
  have HP : Aside0 (2 ^ m ≤ 9223372036854775808) := ⟨by
    have := Nat.pow_le_pow_right (n := 2) (by omega) (show m ≤ 63 by omega)
    exact this⟩
  clear hr hb hl
  go_enter Tryz.func26, Tryz.ntmps26
  go_wp2
  go_loopw [3, 11] (fun s3 s11 wr => ∃ (i : Nat) (L : List Nat), i ≤ M.length ∧ L.length ≤ i ∧ s11 = .int .i64 i ∧ Aside0 (Bas m L ((M.take i).map mask)) ∧ Aside0 (UO wr w.heap.size s3 (toI L)) ∧ Aside0 (Below w.heap.size w wr)) (fun _ s11 _ => M.length - (intOf s11).toNat)
  case atStart => exact ⟨0, [], by omega, by simp, rfl, HBS, HO, HB⟩
  case round =>
    clear HO HBS HB
    obtain ⟨i, L, hi, hLi, rfl, HBS, HO, HB⟩ := hrel
    by_cases hlt : i < M.length
    · have hltz : (i : Int) < (M.length : Int) := by omega
      obtain ⟨ad, Ar, cr, rfl, hcell, hcr, hrow⟩ := rowsC_at (Kd.C_below HR.out HB.out) hlt
      have hrl := HL.out _ (List.getElem_mem hlt)
      have hrb := HBT.out _ (List.getElem_mem hlt)
      have HNX : Aside0 ((M.take (i + 1)).map mask = (M.take i).map mask ++ [mask M[i]]) := ⟨by rw [List.take_succ_eq_append_getElem hlt, List.map_append]; rfl⟩
      obtain ⟨row, hrw⟩ : ∃ row, M[i] = row := ⟨_, rfl⟩
      rw [hrw] at hcell hcr hrow hrl hrb HNX
      have HRB := Aside0.mk hrb
      have HROW := Aside0.mk hrow
      clear hrw hrb hrow
      go_wp2
      go_loopw [6, 17] (fun s6 s17 wq => wq = wr ∧ ∃ j : Nat, j ≤ row.length ∧ s17 = .int .i64 j ∧ s6 = .int .u64 (mask (row.take j) : Nat)) (fun _ s17 _ => row.length - (intOf s17).toNat)
      case atStart => exact ⟨rfl, 0, by omega, rfl, rfl⟩
      case round =>
        obtain ⟨rfl, j, hj, rfl, rfl⟩ := hrel
        by_cases hjl : j < row.length
        · have hjz : (j : Int) < (row.length : Int) := by omega
          obtain ⟨ae, rfl, hcj⟩ := Kd.at_int HROW.out (j : Int) (by omega) (by omega)
          rw [rd_at' hjl, show ((j : Int)).toNat = j by omega] at hcj
          have hbt := HRB.out _ (List.getElem_mem hjl)
          have hmm := mask_more hjl hbt
          have hsh := shl_bit64 hbt (j := j) (by omega)
          have hml : mask (row.take j) < 2 ^ m := by
            have h1 := mask_lt (row.take j)
            rw [List.length_take, Nat.min_eq_left (by omega)] at h1
            exact Nat.lt_of_lt_of_le h1 (Nat.pow_le_pow_right (by omega) (by omega))
          have hP := HP.out
          have hbl : (if row[j] = 1 then 2 ^ j else 0) < 18446744073709551616 := by
            have : 2 ^ j ≤ 2 ^ m := Nat.pow_le_pow_right (by omega) (by omega)
            split <;> omega
          have hor := Go.u64_or_nat (mask (row.take j)) (if row[j] = 1 then 2 ^ j else 0) (by omega) hbl
          rw [← hmm] at hor
          generalize row[j] = x at hcj hsh hor
          generalize hz : (if x = 1 then 2 ^ j else 0) = z at hsh hor
          generalize mask (row.take j) = mk at hor ⊢
          obtain ⟨mk2, hk2⟩ : ∃ mk2, mask (row.take (j + 1)) = mk2 := ⟨_, rfl⟩
          rw [hk2] at hor
          have HK2 := Aside0.mk hk2
          clear hmm hml hP hbl hbt hz hk2
          go_wp2
          go_roundw
          case measure => simp [intOf]; omega
          case rel => exact ⟨trivial, j + 1, by omega, by go_num, by rw [HK2.out]⟩
        · obtain rfl : j = row.length := by omega
          have hjz : ¬ ((row.length : Int) < (row.length : Int)) := by omega
          rw [List.take_length]
          have hP := HP.out
          have hcm : mask row < 2 ^ m := by rw [← hrl]; exact mask_lt row
          have hLm : ∀ b ∈ L, b < 18446744073709551616 := fun b hb => by have := HBS.out.lt b hb; omega
          obtain ⟨kr, hkr⟩ := (ev_red (L := L) (by omega) hLm (c := mask row) (by omega)).rounds
          have HKR := Aside0.mk hkr
          have HLL : Aside0 ((toI L).length = L.length) := ⟨toI_len L⟩
          obtain ⟨As, cs, rfl⟩ := Kd.R_slice HO.out
          have HRE := Aside0.mk (Kd.R_reads' HO.out)
          by_cases h0 : redN (mask row) L = 0
          · have HBS2 := Aside0.mk (HBS.out.skip h0)
            rw [← HNX.out] at HBS2
            rw [h0] at HKR
            clear hkr hcell hcr hP hcm hLm h0
            generalize hmk : mask row = mk at HKR
            clear hmk
            go_wp2_with (go_at_call 45; refine (QF.impl_reduced.calls kr _ As cs (toI L) _ _ HRE.out.2.2 HRE.out.2.1 HKR.out).mono ?_; rintro e w2 ⟨rfl, hb⟩; have HO2 := Aside0.mk (Kd.R_below HO.out hb); have HB2 := Aside0.mk (below_in HB.out hb); clear hb HO HB HRE)
            exact ⟨⟨i + 1, L, by omega, by omega, by go_num, HBS2, HO2, HB2⟩, by simp [intOf]; omega⟩
          · have hnz : ¬ (((redN (mask row) L : Nat) : Int) = 0) := by omega
            have HADD := Lib.hid (fun (L' : List Nat) hp hs => HBS.out.add (L' := L') hcm h0 hp hs)
            rw [← HNX.out] at HADD
            clear hkr hcell hcr hP hcm hLm h0
            generalize hmr : redN (mask row) L = r at HKR hnz HADD
            generalize hmk : mask row = mk at HKR
            clear hmk hmr
            go_wp2_with (first
              | (go_at_call 45; refine (QF.impl_reduced.calls kr _ As cs (toI L) _ _ HRE.out.2.2 HRE.out.2.1 HKR.out).mono ?_; rintro e w2 ⟨rfl, hb⟩; have HO2 := Aside0.mk (Kd.R_below HO.out hb); have HB2 := Aside0.mk (below_in HB.out hb); clear hb HO HB HRE)
              | (at_builtin; refine apU w.heap.size rfl (.tmp 34) (.tmp 36) 66 rfl Tryz.underlying66 infoU _ _ _ rfl rfl HO2.out HB2.out HB2.out.size (by have := HLL.out; omega) ?_; intro v1 w3 ho hb hg hat; have HO3 := Aside0.mk ho; have HB3 := Aside0.mk hb; clear hat hg ho hb HO2 HB2)
              | (go_at_call 46; refine (sortU_c _ (toI L ++ [(r : Int)]) w.heap.size _ HO3.out (by simp) HB3.out.size (by have := HLL.out; rw [List.length_append, List.length_singleton]; omega)).mono ?_; rintro e w4 ⟨L2, rfl, ho, hlen, hpm, hso, hb⟩; obtain ⟨L', hL', hp', hs'⟩ := perm_nat hpm hso; rw [hL'] at ho; have HO4 := Aside0.mk ho; have HB4 := Aside0.mk (HB3.out.trans hb); have HP4 := Aside0.mk hp'; have HS4 := Aside0.mk hs'; clear ho hlen hpm hso hb hL' hp' hs' HO3 HB3))
            have hlen4 := HP4.out.length_eq
            rw [List.length_append, List.length_singleton] at hlen4
            exact ⟨⟨i + 1, L', by omega, by omega, by go_num, ⟨HADD.out L' HP4.out HS4.out⟩, HO4, HB4⟩, by simp [intOf]; omega⟩
    · obtain rfl : i = M.length := by omega
      have hltz : ¬ (M.length : Int) < (M.length : Int) := by omega
      obtain ⟨As, cs, rfl⟩ := Kd.R_slice HO.out
      have HRE := Aside0.mk (Kd.R_reads' HO.out)
      have hrk : L.length = (elimAll (fun _ => 0) M m).2 := by
        have h1 := HBS.out
        rw [List.take_length] at h1
        exact h1.rank HBT.out HL.out
      have HRK := Aside0.mk hrk
      have HLEN : Aside0 (QF.impl_length_impl_chain.f (toI L) = some (L.length : Int)) := ⟨by unfold QF.impl_length_impl_chain.f; rw [toI_len]⟩
      clear hrk
      go_wp2_with (go_at_call 49; refine (QF.impl_length_impl_chain.calls As cs (toI L) _ _ HRE.out.2.2 HRE.out.2.1 HLEN.out).mono ?_; rintro e w2 ⟨rfl, hb⟩; have HB2 := Aside0.mk (below_in HB.out (d0_below hb)); clear hb)
      go_ret
      exact ⟨by rw [← HRK.out]; rfl, HB2.out⟩
end Go.Proofs.YtpjcnigohhnhnaaGreat.Im
namespace Go.Proofs.YtpjcnigohhnhnaaGreat.Ext
open Go.RowKit Im  YtpjcnigohhnhnaaGreatW.PrintWords YtpjcnigohhnhnaaGreatW.PrintLast YtpjcnigohhnhnaaGreatW.PrintMore
def impl_Complex_dimension.f (a0_0 : Int) (l0_1 : List Int) : Option (Int) := if isC a0_0 l0_1 = true then some (dimL l0_1) else none
theorem impl_Complex_dimension.calls (a0_0 : Int) (A0_1 : Option Addr) (c0_1 : Nat) (l0_1 : List Int) (r : Int) (w : World) (hr0_1 : Kd.C (Kd.int .i64) w A0_1 l0_1.length l0_1) (_hc0_1 : l0_1.length ≤ c0_1) (h : impl_Complex_dimension.f a0_0 l0_1 = some r) :
    Calls Tryz.prog 38 #[.agg #[.int .i64 a0_0, .slice A0_1 l0_1.length c0_1]] w fun e w' => e = .returned (.int .i64 r) ∧ Below w.heap.size w w' := by
  unfold impl_Complex_dimension.f at h
  by_cases hl : isC a0_0 l0_1 = true
  · rw [if_pos hl] at h
    have hd := Option.some.inj h
    rw [← hd]
    exact dimension_c a0_0 A0_1 c0_1 l0_1 w hr0_1 _hc0_1 hl
  · rw [if_neg hl] at h; cases h
end Go.Proofs.YtpjcnigohhnhnaaGreat.Ext
namespace Go.Proofs.YtpjcnigohhnhnaaGreat.Ext
end Go.Proofs.YtpjcnigohhnhnaaGreat.Ext
