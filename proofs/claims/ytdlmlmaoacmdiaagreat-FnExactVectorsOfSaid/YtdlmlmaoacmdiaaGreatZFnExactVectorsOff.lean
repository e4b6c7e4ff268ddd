/- Words and lemmas for FnExactVectorsOf, part 6: what the row's text comes to. -/
import Derived.Test.YtdlmlmaoacmdiaaGreatProg
import Derived.Below
import Derived.Deep.Draws
import Derived.Deep.AppendLies
import Derived.Maps.AppendAt
import Derived.OwnWalk
import Derived.Laws.BytesArg
import Derived.Laws.MakeOwn
import Derived.Laws.OwnMore
import Derived.Deep.OwnRows
import Derived.Tactics
import Derived.Lib.ConvBytes
import Derived.Laws.Slices
import Derived.WalkKit
import Derived.KernelRfl
import Derived.RowKit3
import Derived.Deep.LoopGhost
import Derived.Deep.QuietTactic
import Derived.BigQuiet
import Derived.WideLaws
import Derived.Deep.DeepCutAuto
import Derived.Deep.CutBlock
import Derived.Deep.RegionHeld3
import Derived.Laws.Rows
import Derived.Lib.AppendStr
import Derived.ArgAppend
import Derived.Laws.IdiomCopy
import Derived.OrdersHeld
import Derived.Laws.BitsLemmas
import Derived.RowKit
import Derived.Test.YtdlmlmaoacmdiaaGreatZFnExactVectorsOfe
set_option linter.unusedVariables false
set_option linter.unusedSimpArgs false
namespace Go.Proofs.YtdlmlmaoacmdiaaGreat.Im
open Go.RowKit Go.Shelf Kp Cw Ext Pu YtdlmlmaoacmdiaaGreatW.PrintWords YtdlmlmaoacmdiaaGreatW.PrintLast YtdlmlmaoacmdiaaGreatW.PrintMore
theorem go_all (w0 : World) (y : Nat) (n : Int) (A : Option Addr) (c : Nat) (xs : List Int) (va : Value) (all : List Pr) (top : Int) (hr : RC w0 A xs.length xs) (hc : xs.length ≤ c) (hi : isC n xs = true) (hal : all.length ≤ 1048576) (d : Nat) : GoOk w0 y n A c xs va all top d :=
  Nat.strongRecOn d fun d ih => go_step w0 y n A c xs va all top hr hc hi hal d ih
def allG (xs : List Int) : GoS := (enumL xs (pairsL xs) []).foldl (updG xs) ⟨0, -1, [], []⟩
def WholePost (w : World) (n : Int) (A : Option Addr) (c : Nat) (xs : List Int) (e : Ending) (w' : World) : Prop :=
  ∃ (y : Nat) (va vb vf : Value) (vs : List Value), e = .returned (.pointer (some ⟨y, 0, none⟩)) ∧ SS w' w y n A c xs.length va (pairsL xs) vb (allG xs).best (allG xs).count (allG xs).most 0 true vf vs (allG xs).found ∧ GoodV (dimN xs) (allG xs).found
set_option maxRecDepth 100000 in
set_option maxHeartbeats 8000000 in
theorem whole_c (n : Int) (A : Option Addr) (c : Nat) (xs : List Int) (w : World) (hr : RC w A xs.length xs) (hc : xs.length ≤ c) (hi : isC n xs = true) :
    Calls Tryz.prog 15 #[.agg #[.int .i64 n, .slice A xs.length c]] w (WholePost w n A c xs) := by
  obtain ⟨ka, hka⟩ := (ev_all hi).rounds
  have HKA := Aside0.mk hka
  have HX := Aside0.mk (CxAt.new w n A xs.length c).drew'
  have HB := Aside0.mk (below_alloc (Below.refl w.heap.size w) (.cells #[.int .i64 n, .slice A xs.length c] 29)).drew
  have HR := Aside0.mk hr
  have HC := Aside0.mk hc
  have HI := Aside0.mk hi
  have hpl := pairs_len hi
  clear hr hc hi hka
  go_enter Tryz.func15, Tryz.ntmps15
  go_upto_region 1 with fail
  refine st_ 8 (S := fun w' => w'.cell? ⟨w.heap.size, 0, none⟩ = some (.int .i64 n) ∧ w'.cell? ⟨w.heap.size, 1, none⟩ = some (.slice A xs.length c)) (ds := []) ⟨HX.out.c0, HX.out.c1⟩ (fun hHeld => ?_)
  refine with_tabW (T := (true, [([], []), ([], []), ([1], [1]), ([], []), ([], []), ([0, 2, 3, 4], [0, 2, 3, 4]), ([5], [5]), ([6, 2, 0, 1, 2, 3, 4, 5, 6], [6])])) (B := [0, 0, 2, 0, 0, 31, 63, 127]) (by kernel_rfl) (by kernel_rfl) (fun HT_ HW_ => ?_)
  refine tk_ 0 4 1 HT_ HW_ hHeld ?_
  refine tk_ 1 5 3 HT_ HW_ hHeld ?_
  refine tr_ 2 3 4 (some 6) (some 7) (some 8) 7 11 19 HT_ (fun K hK => ?_) (fun K hK => ?_) (fun K hK => ?_)
  refine ca_ Tryz.func29 #[.agg #[.int .i64 n, .slice A xs.length c]] ?_
  refine (QS.spec_l02All.calls ka n A c xs (pairsL xs) _ (Kd.C_below HR.out HB.out) HC.out HKA.out).mono ?_; rintro e wz1 ⟨va, rfl, hv, hb⟩; have HV := Aside0.mk (Kd.R_lower hv HB.out.size); (try (have HO3n := Aside0.mk (Kd.R_below HO3.out hb); clear HO3; have HO3 := HO3n; clear HO3n)); (try (have HO4n := Aside0.mk (Kd.R_below HO4.out hb); clear HO4; have HO4 := HO4n; clear HO4n)); (try (have HXn := Aside0.mk (HX.out.below hb); clear HX; have HX := HXn; clear HXn)); (try (have HBn := Aside0.mk (below_in HB.out hb); clear HB; have HB := HBn; clear HBn)); clear hv hb; obtain ⟨Aa, ca, rfl⟩ := Kd.R_slice HV.out
  refine ⟨_, rfl, ?_⟩
  refine hK.out _ _ ⟨HX.out.c0, HX.out.c1⟩ (fun hHeld => ?_)
  clear hK K
  refine nm_ ?_
  refine tw_ 3 4 (some 7) (some 8) 15 23 HT_ (fun K hK => ?_) (fun K hK => ?_)
  (refine value_ (by rfl) rfl (v := .slice (some ⟨(wz1).heap.size, 0, none⟩) 0 0) (w1 := (wz1).alloc (.cells #[] 62)) (by go_simp) ?_; have HO3 := Aside0.mk (PO.made (wz1) w.heap.size 0 #[] HB.out.size (Nat.zero_le _) rfl); have hb := below_alloc (Below.refl (wz1).heap.size (wz1)) (.cells #[] 62); generalize (wz1).alloc (.cells #[] 62) = wz2 at hb HO3 ⊢; generalize (some (⟨(wz1).heap.size, 0, none⟩ : Addr)) = A3 at HO3 ⊢; (try (have HVn := Aside0.mk (Kd.R_below HV.out hb); clear HV; have HV := HVn; clear HVn)); (try (have HO4n := Aside0.mk (Kd.R_below HO4.out hb); clear HO4; have HO4 := HO4n; clear HO4n)); (try (have HXn := Aside0.mk (HX.out.below hb); clear HX; have HX := HXn; clear HXn)); (try (have HBn := Aside0.mk (below_in HB.out hb); clear HB; have HB := HBn; clear HBn)); clear hb)
  refine hK.out _ _ ⟨HX.out.c0, HX.out.c1⟩ (fun hHeld => ?_)
  clear hK K
  refine nm_ ?_
  refine on_ 4 (some 8) 31 HT_ (fun K hK => ?_)
  (refine value_ (by rfl) rfl (v := .slice (some ⟨(wz2).heap.size, 0, none⟩) 0 0) (w1 := (wz2).alloc (.cells #[] 22)) (by go_simp) ?_; have HO4 := Aside0.mk (VO.made (wz2) w.heap.size 0 #[] HB.out.size (Nat.zero_le _) rfl); have hb := below_alloc (Below.refl (wz2).heap.size (wz2)) (.cells #[] 22); generalize (wz2).alloc (.cells #[] 22) = wz3 at hb HO4 ⊢; generalize (some (⟨(wz2).heap.size, 0, none⟩ : Addr)) = A4 at HO4 ⊢; (try (have HVn := Aside0.mk (Kd.R_below HV.out hb); clear HV; have HV := HVn; clear HVn)); (try (have HO3n := Aside0.mk (Kd.R_below HO3.out hb); clear HO3; have HO3 := HO3n; clear HO3n)); (try (have HXn := Aside0.mk (HX.out.below hb); clear HX; have HX := HXn; clear HXn)); (try (have HBn := Aside0.mk (below_in HB.out hb); clear HB; have HB := HBn; clear HBn)); clear hb)
  refine hK.out _ _ ⟨HX.out.c0, HX.out.c1⟩ (fun hHeld => ?_)
  clear hK K
  refine nm_ ?_
  refine pd_ 5 9 63 HT_ ?_
  refine on_ 6 (some 10) 127 HT_ (fun K hK => ?_)
  (refine value_ (by rfl) rfl (v := .pointer (some ⟨(wz3).heap.size, 0, none⟩)) (w1 := (wz3).alloc (.cells (ssC n A c xs.length (.slice Aa (pairsL xs).length ca) (.slice A3 0 0) 0 (-1) 0 true (.slice A4 0 0)) 40)) (by go_simp; rfl) ?_; have hb := below_alloc (Below.refl (wz3).heap.size (wz3)) (.cells (ssC n A c xs.length (.slice Aa (pairsL xs).length ca) (.slice A3 0 0) 0 (-1) 0 true (.slice A4 0 0)) 40); have HNB := Aside0.mk (heap_alloc_new (wz3) (.cells (ssC n A c xs.length (.slice Aa (pairsL xs).length ca) (.slice A3 0 0) 0 (-1) 0 true (.slice A4 0 0)) 40)); have HY := Aside0.mk HB.out.size; (try (have HVn := Aside0.mk (Kd.R_below HV.out hb); clear HV; have HV := HVn; clear HVn)); (try (have HO3n := Aside0.mk (Kd.R_below HO3.out hb); clear HO3; have HO3 := HO3n; clear HO3n)); (try (have HO4n := Aside0.mk (Kd.R_below HO4.out hb); clear HO4; have HO4 := HO4n; clear HO4n)); (try (have HXn := Aside0.mk (HX.out.below hb); clear HX; have HX := HXn; clear HXn)); (try (have HBn := Aside0.mk (below_in HB.out hb); clear HB; have HB := HBn; clear HBn)); clear hb)
  refine hK.out _ _ ⟨HX.out.c0, HX.out.c1⟩ (fun hHeld => ?_)
  clear hK K
  refine nm_ ?_
  refine pd_ 7 3 255 HT_ ?_
  refine dn_ HT_ ?_
  rotate_left
  (refine value_ (by rfl) rfl (v := .slice (some ⟨(wz1).heap.size, 0, none⟩) 0 0) (w1 := (wz1).alloc (.cells #[] 22)) (by go_simp) ?_; have HO4 := Aside0.mk (VO.made (wz1) w.heap.size 0 #[] HB.out.size (Nat.zero_le _) rfl); have hb := below_alloc (Below.refl (wz1).heap.size (wz1)) (.cells #[] 22); generalize (wz1).alloc (.cells #[] 22) = wz2 at hb HO4 ⊢; generalize (some (⟨(wz1).heap.size, 0, none⟩ : Addr)) = A4 at HO4 ⊢; (try (have HVn := Aside0.mk (Kd.R_below HV.out hb); clear HV; have HV := HVn; clear HVn)); (try (have HO3n := Aside0.mk (Kd.R_below HO3.out hb); clear HO3; have HO3 := HO3n; clear HO3n)); (try (have HXn := Aside0.mk (HX.out.below hb); clear HX; have HX := HXn; clear HXn)); (try (have HBn := Aside0.mk (below_in HB.out hb); clear HB; have HB := HBn; clear HBn)); clear hb)
  refine hK.out _ _ ⟨HX.out.c0, HX.out.c1⟩ (fun hHeld => ?_)
  clear hK K
  refine nm_ ?_
  refine on_ 3 (some 7) 31 HT_ (fun K hK => ?_)
  (refine value_ (by rfl) rfl (v := .slice (some ⟨(wz2).heap.size, 0, none⟩) 0 0) (w1 := (wz2).alloc (.cells #[] 62)) (by go_simp) ?_; have HO3 := Aside0.mk (PO.made (wz2) w.heap.size 0 #[] HB.out.size (Nat.zero_le _) rfl); have hb := below_alloc (Below.refl (wz2).heap.size (wz2)) (.cells #[] 62); generalize (wz2).alloc (.cells #[] 62) = wz3 at hb HO3 ⊢; generalize (some (⟨(wz2).heap.size, 0, none⟩ : Addr)) = A3 at HO3 ⊢; (try (have HVn := Aside0.mk (Kd.R_below HV.out hb); clear HV; have HV := HVn; clear HVn)); (try (have HO4n := Aside0.mk (Kd.R_below HO4.out hb); clear HO4; have HO4 := HO4n; clear HO4n)); (try (have HXn := Aside0.mk (HX.out.below hb); clear HX; have HX := HXn; clear HXn)); (try (have HBn := Aside0.mk (below_in HB.out hb); clear HB; have HB := HBn; clear HBn)); clear hb)
  refine hK.out _ _ ⟨HX.out.c0, HX.out.c1⟩ (fun hHeld => ?_)
  clear hK K
  refine nm_ ?_
  refine pd_ 5 9 63 HT_ ?_
  refine on_ 6 (some 10) 127 HT_ (fun K hK => ?_)
  (refine value_ (by rfl) rfl (v := .pointer (some ⟨(wz3).heap.size, 0, none⟩)) (w1 := (wz3).alloc (.cells (ssC n A c xs.length (.slice Aa (pairsL xs).length ca) (.slice A3 0 0) 0 (-1) 0 true (.slice A4 0 0)) 40)) (by go_simp; rfl) ?_; have hb := below_alloc (Below.refl (wz3).heap.size (wz3)) (.cells (ssC n A c xs.length (.slice Aa (pairsL xs).length ca) (.slice A3 0 0) 0 (-1) 0 true (.slice A4 0 0)) 40); have HNB := Aside0.mk (heap_alloc_new (wz3) (.cells (ssC n A c xs.length (.slice Aa (pairsL xs).length ca) (.slice A3 0 0) 0 (-1) 0 true (.slice A4 0 0)) 40)); have HY := Aside0.mk HB.out.size; (try (have HVn := Aside0.mk (Kd.R_below HV.out hb); clear HV; have HV := HVn; clear HVn)); (try (have HO3n := Aside0.mk (Kd.R_below HO3.out hb); clear HO3; have HO3 := HO3n; clear HO3n)); (try (have HO4n := Aside0.mk (Kd.R_below HO4.out hb); clear HO4; have HO4 := HO4n; clear HO4n)); (try (have HXn := Aside0.mk (HX.out.below hb); clear HX; have HX := HXn; clear HXn)); (try (have HBn := Aside0.mk (below_in HB.out hb); clear HB; have HB := HBn; clear HBn)); clear hb)
  refine hK.out _ _ ⟨HX.out.c0, HX.out.c1⟩ (fun hHeld => ?_)
  clear hK K
  refine nm_ ?_
  refine pd_ 7 3 255 HT_ ?_
  refine dn_ HT_ ?_
  rotate_left
  (refine value_ (by rfl) rfl (v := .slice (some ⟨((w.alloc (.cells #[.int .i64 n, .slice A xs.length c] 29)).drew).heap.size, 0, none⟩) 0 0) (w1 := ((w.alloc (.cells #[.int .i64 n, .slice A xs.length c] 29)).drew).alloc (.cells #[] 62)) (by go_simp) ?_; have HO3 := Aside0.mk (PO.made ((w.alloc (.cells #[.int .i64 n, .slice A xs.length c] 29)).drew) w.heap.size 0 #[] HB.out.size (Nat.zero_le _) rfl); have hb := below_alloc (Below.refl ((w.alloc (.cells #[.int .i64 n, .slice A xs.length c] 29)).drew).heap.size ((w.alloc (.cells #[.int .i64 n, .slice A xs.length c] 29)).drew)) (.cells #[] 62); generalize ((w.alloc (.cells #[.int .i64 n, .slice A xs.length c] 29)).drew).alloc (.cells #[] 62) = wz1 at hb HO3 ⊢; generalize (some (⟨((w.alloc (.cells #[.int .i64 n, .slice A xs.length c] 29)).drew).heap.size, 0, none⟩ : Addr)) = A3 at HO3 ⊢; (try (have HVn := Aside0.mk (Kd.R_below HV.out hb); clear HV; have HV := HVn; clear HVn)); (try (have HO4n := Aside0.mk (Kd.R_below HO4.out hb); clear HO4; have HO4 := HO4n; clear HO4n)); (try (have HXn := Aside0.mk (HX.out.below hb); clear HX; have HX := HXn; clear HXn)); (try (have HBn := Aside0.mk (below_in HB.out hb); clear HB; have HB := HBn; clear HBn)); clear hb)
  refine hK.out _ _ ⟨HX.out.c0, HX.out.c1⟩ (fun hHeld => ?_)
  clear hK K
  refine nm_ ?_
  refine tw_ 2 4 (some 6) (some 8) 15 27 HT_ (fun K hK => ?_) (fun K hK => ?_)
  refine ca_ Tryz.func29 #[.agg #[.int .i64 n, .slice A xs.length c]] ?_
  refine (QS.spec_l02All.calls ka n A c xs (pairsL xs) _ (Kd.C_below HR.out HB.out) HC.out HKA.out).mono ?_; rintro e wz2 ⟨va, rfl, hv, hb⟩; have HV := Aside0.mk (Kd.R_lower hv HB.out.size); (try (have HO3n := Aside0.mk (Kd.R_below HO3.out hb); clear HO3; have HO3 := HO3n; clear HO3n)); (try (have HO4n := Aside0.mk (Kd.R_below HO4.out hb); clear HO4; have HO4 := HO4n; clear HO4n)); (try (have HXn := Aside0.mk (HX.out.below hb); clear HX; have HX := HXn; clear HXn)); (try (have HBn := Aside0.mk (below_in HB.out hb); clear HB; have HB := HBn; clear HBn)); clear hv hb; obtain ⟨Aa, ca, rfl⟩ := Kd.R_slice HV.out
  refine ⟨_, rfl, ?_⟩
  refine hK.out _ _ ⟨HX.out.c0, HX.out.c1⟩ (fun hHeld => ?_)
  clear hK K
  refine nm_ ?_
  refine on_ 4 (some 8) 31 HT_ (fun K hK => ?_)
  (refine value_ (by rfl) rfl (v := .slice (some ⟨(wz2).heap.size, 0, none⟩) 0 0) (w1 := (wz2).alloc (.cells #[] 22)) (by go_simp) ?_; have HO4 := Aside0.mk (VO.made (wz2) w.heap.size 0 #[] HB.out.size (Nat.zero_le _) rfl); have hb := below_alloc (Below.refl (wz2).heap.size (wz2)) (.cells #[] 22); generalize (wz2).alloc (.cells #[] 22) = wz3 at hb HO4 ⊢; generalize (some (⟨(wz2).heap.size, 0, none⟩ : Addr)) = A4 at HO4 ⊢; (try (have HVn := Aside0.mk (Kd.R_below HV.out hb); clear HV; have HV := HVn; clear HVn)); (try (have HO3n := Aside0.mk (Kd.R_below HO3.out hb); clear HO3; have HO3 := HO3n; clear HO3n)); (try (have HXn := Aside0.mk (HX.out.below hb); clear HX; have HX := HXn; clear HXn)); (try (have HBn := Aside0.mk (below_in HB.out hb); clear HB; have HB := HBn; clear HBn)); clear hb)
  refine hK.out _ _ ⟨HX.out.c0, HX.out.c1⟩ (fun hHeld => ?_)
  clear hK K
  refine nm_ ?_
  refine pd_ 5 9 63 HT_ ?_
  refine on_ 6 (some 10) 127 HT_ (fun K hK => ?_)
  (refine value_ (by rfl) rfl (v := .pointer (some ⟨(wz3).heap.size, 0, none⟩)) (w1 := (wz3).alloc (.cells (ssC n A c xs.length (.slice Aa (pairsL xs).length ca) (.slice A3 0 0) 0 (-1) 0 true (.slice A4 0 0)) 40)) (by go_simp; rfl) ?_; have hb := below_alloc (Below.refl (wz3).heap.size (wz3)) (.cells (ssC n A c xs.length (.slice Aa (pairsL xs).length ca) (.slice A3 0 0) 0 (-1) 0 true (.slice A4 0 0)) 40); have HNB := Aside0.mk (heap_alloc_new (wz3) (.cells (ssC n A c xs.length (.slice Aa (pairsL xs).length ca) (.slice A3 0 0) 0 (-1) 0 true (.slice A4 0 0)) 40)); have HY := Aside0.mk HB.out.size; (try (have HVn := Aside0.mk (Kd.R_below HV.out hb); clear HV; have HV := HVn; clear HVn)); (try (have HO3n := Aside0.mk (Kd.R_below HO3.out hb); clear HO3; have HO3 := HO3n; clear HO3n)); (try (have HO4n := Aside0.mk (Kd.R_below HO4.out hb); clear HO4; have HO4 := HO4n; clear HO4n)); (try (have HXn := Aside0.mk (HX.out.below hb); clear HX; have HX := HXn; clear HXn)); (try (have HBn := Aside0.mk (below_in HB.out hb); clear HB; have HB := HBn; clear HBn)); clear hb)
  refine hK.out _ _ ⟨HX.out.c0, HX.out.c1⟩ (fun hHeld => ?_)
  clear hK K
  refine nm_ ?_
  refine pd_ 7 3 255 HT_ ?_
  refine dn_ HT_ ?_
  rotate_left
  (refine value_ (by rfl) rfl (v := .slice (some ⟨(wz1).heap.size, 0, none⟩) 0 0) (w1 := (wz1).alloc (.cells #[] 22)) (by go_simp) ?_; have HO4 := Aside0.mk (VO.made (wz1) w.heap.size 0 #[] HB.out.size (Nat.zero_le _) rfl); have hb := below_alloc (Below.refl (wz1).heap.size (wz1)) (.cells #[] 22); generalize (wz1).alloc (.cells #[] 22) = wz2 at hb HO4 ⊢; generalize (some (⟨(wz1).heap.size, 0, none⟩ : Addr)) = A4 at HO4 ⊢; (try (have HVn := Aside0.mk (Kd.R_below HV.out hb); clear HV; have HV := HVn; clear HVn)); (try (have HO3n := Aside0.mk (Kd.R_below HO3.out hb); clear HO3; have HO3 := HO3n; clear HO3n)); (try (have HXn := Aside0.mk (HX.out.below hb); clear HX; have HX := HXn; clear HXn)); (try (have HBn := Aside0.mk (below_in HB.out hb); clear HB; have HB := HBn; clear HBn)); clear hb)
  refine hK.out _ _ ⟨HX.out.c0, HX.out.c1⟩ (fun hHeld => ?_)
  clear hK K
  refine nm_ ?_
  refine on_ 2 (some 6) 31 HT_ (fun K hK => ?_)
  refine ca_ Tryz.func29 #[.agg #[.int .i64 n, .slice A xs.length c]] ?_
  refine (QS.spec_l02All.calls ka n A c xs (pairsL xs) _ (Kd.C_below HR.out HB.out) HC.out HKA.out).mono ?_; rintro e wz3 ⟨va, rfl, hv, hb⟩; have HV := Aside0.mk (Kd.R_lower hv HB.out.size); (try (have HO3n := Aside0.mk (Kd.R_below HO3.out hb); clear HO3; have HO3 := HO3n; clear HO3n)); (try (have HO4n := Aside0.mk (Kd.R_below HO4.out hb); clear HO4; have HO4 := HO4n; clear HO4n)); (try (have HXn := Aside0.mk (HX.out.below hb); clear HX; have HX := HXn; clear HXn)); (try (have HBn := Aside0.mk (below_in HB.out hb); clear HB; have HB := HBn; clear HBn)); clear hv hb; obtain ⟨Aa, ca, rfl⟩ := Kd.R_slice HV.out
  refine ⟨_, rfl, ?_⟩
  refine hK.out _ _ ⟨HX.out.c0, HX.out.c1⟩ (fun hHeld => ?_)
  clear hK K
  refine nm_ ?_
  refine pd_ 5 9 63 HT_ ?_
  refine on_ 6 (some 10) 127 HT_ (fun K hK => ?_)
  (refine value_ (by rfl) rfl (v := .pointer (some ⟨(wz3).heap.size, 0, none⟩)) (w1 := (wz3).alloc (.cells (ssC n A c xs.length (.slice Aa (pairsL xs).length ca) (.slice A3 0 0) 0 (-1) 0 true (.slice A4 0 0)) 40)) (by go_simp; rfl) ?_; have hb := below_alloc (Below.refl (wz3).heap.size (wz3)) (.cells (ssC n A c xs.length (.slice Aa (pairsL xs).length ca) (.slice A3 0 0) 0 (-1) 0 true (.slice A4 0 0)) 40); have HNB := Aside0.mk (heap_alloc_new (wz3) (.cells (ssC n A c xs.length (.slice Aa (pairsL xs).length ca) (.slice A3 0 0) 0 (-1) 0 true (.slice A4 0 0)) 40)); have HY := Aside0.mk HB.out.size; (try (have HVn := Aside0.mk (Kd.R_below HV.out hb); clear HV; have HV := HVn; clear HVn)); (try (have HO3n := Aside0.mk (Kd.R_below HO3.out hb); clear HO3; have HO3 := HO3n; clear HO3n)); (try (have HO4n := Aside0.mk (Kd.R_below HO4.out hb); clear HO4; have HO4 := HO4n; clear HO4n)); (try (have HXn := Aside0.mk (HX.out.below hb); clear HX; have HX := HXn; clear HXn)); (try (have HBn := Aside0.mk (below_in HB.out hb); clear HB; have HB := HBn; clear HBn)); clear hb)
  refine hK.out _ _ ⟨HX.out.c0, HX.out.c1⟩ (fun hHeld => ?_)
  clear hK K
  refine nm_ ?_
  refine pd_ 7 3 255 HT_ ?_
  refine dn_ HT_ ?_
  rotate_left
  (refine value_ (by rfl) rfl (v := .slice (some ⟨((w.alloc (.cells #[.int .i64 n, .slice A xs.length c] 29)).drew).heap.size, 0, none⟩) 0 0) (w1 := ((w.alloc (.cells #[.int .i64 n, .slice A xs.length c] 29)).drew).alloc (.cells #[] 22)) (by go_simp) ?_; have HO4 := Aside0.mk (VO.made ((w.alloc (.cells #[.int .i64 n, .slice A xs.length c] 29)).drew) w.heap.size 0 #[] HB.out.size (Nat.zero_le _) rfl); have hb := below_alloc (Below.refl ((w.alloc (.cells #[.int .i64 n, .slice A xs.length c] 29)).drew).heap.size ((w.alloc (.cells #[.int .i64 n, .slice A xs.length c] 29)).drew)) (.cells #[] 22); generalize ((w.alloc (.cells #[.int .i64 n, .slice A xs.length c] 29)).drew).alloc (.cells #[] 22) = wz1 at hb HO4 ⊢; generalize (some (⟨((w.alloc (.cells #[.int .i64 n, .slice A xs.length c] 29)).drew).heap.size, 0, none⟩ : Addr)) = A4 at HO4 ⊢; (try (have HVn := Aside0.mk (Kd.R_below HV.out hb); clear HV; have HV := HVn; clear HVn)); (try (have HO3n := Aside0.mk (Kd.R_below HO3.out hb); clear HO3; have HO3 := HO3n; clear HO3n)); (try (have HXn := Aside0.mk (HX.out.below hb); clear HX; have HX := HXn; clear HXn)); (try (have HBn := Aside0.mk (below_in HB.out hb); clear HB; have HB := HBn; clear HBn)); clear hb)
  refine hK.out _ _ ⟨HX.out.c0, HX.out.c1⟩ (fun hHeld => ?_)
  clear hK K
  refine nm_ ?_
  refine tw_ 2 3 (some 6) (some 7) 23 27 HT_ (fun K hK => ?_) (fun K hK => ?_)
  refine ca_ Tryz.func29 #[.agg #[.int .i64 n, .slice A xs.length c]] ?_
  refine (QS.spec_l02All.calls ka n A c xs (pairsL xs) _ (Kd.C_below HR.out HB.out) HC.out HKA.out).mono ?_; rintro e wz2 ⟨va, rfl, hv, hb⟩; have HV := Aside0.mk (Kd.R_lower hv HB.out.size); (try (have HO3n := Aside0.mk (Kd.R_below HO3.out hb); clear HO3; have HO3 := HO3n; clear HO3n)); (try (have HO4n := Aside0.mk (Kd.R_below HO4.out hb); clear HO4; have HO4 := HO4n; clear HO4n)); (try (have HXn := Aside0.mk (HX.out.below hb); clear HX; have HX := HXn; clear HXn)); (try (have HBn := Aside0.mk (below_in HB.out hb); clear HB; have HB := HBn; clear HBn)); clear hv hb; obtain ⟨Aa, ca, rfl⟩ := Kd.R_slice HV.out
  refine ⟨_, rfl, ?_⟩
  refine hK.out _ _ ⟨HX.out.c0, HX.out.c1⟩ (fun hHeld => ?_)
  clear hK K
  refine nm_ ?_
  refine on_ 3 (some 7) 31 HT_ (fun K hK => ?_)
  (refine value_ (by rfl) rfl (v := .slice (some ⟨(wz2).heap.size, 0, none⟩) 0 0) (w1 := (wz2).alloc (.cells #[] 62)) (by go_simp) ?_; have HO3 := Aside0.mk (PO.made (wz2) w.heap.size 0 #[] HB.out.size (Nat.zero_le _) rfl); have hb := below_alloc (Below.refl (wz2).heap.size (wz2)) (.cells #[] 62); generalize (wz2).alloc (.cells #[] 62) = wz3 at hb HO3 ⊢; generalize (some (⟨(wz2).heap.size, 0, none⟩ : Addr)) = A3 at HO3 ⊢; (try (have HVn := Aside0.mk (Kd.R_below HV.out hb); clear HV; have HV := HVn; clear HVn)); (try (have HO4n := Aside0.mk (Kd.R_below HO4.out hb); clear HO4; have HO4 := HO4n; clear HO4n)); (try (have HXn := Aside0.mk (HX.out.below hb); clear HX; have HX := HXn; clear HXn)); (try (have HBn := Aside0.mk (below_in HB.out hb); clear HB; have HB := HBn; clear HBn)); clear hb)
  refine hK.out _ _ ⟨HX.out.c0, HX.out.c1⟩ (fun hHeld => ?_)
  clear hK K
  refine nm_ ?_
  refine pd_ 5 9 63 HT_ ?_
  refine on_ 6 (some 10) 127 HT_ (fun K hK => ?_)
  (refine value_ (by rfl) rfl (v := .pointer (some ⟨(wz3).heap.size, 0, none⟩)) (w1 := (wz3).alloc (.cells (ssC n A c xs.length (.slice Aa (pairsL xs).length ca) (.slice A3 0 0) 0 (-1) 0 true (.slice A4 0 0)) 40)) (by go_simp; rfl) ?_; have hb := below_alloc (Below.refl (wz3).heap.size (wz3)) (.cells (ssC n A c xs.length (.slice Aa (pairsL xs).length ca) (.slice A3 0 0) 0 (-1) 0 true (.slice A4 0 0)) 40); have HNB := Aside0.mk (heap_alloc_new (wz3) (.cells (ssC n A c xs.length (.slice Aa (pairsL xs).length ca) (.slice A3 0 0) 0 (-1) 0 true (.slice A4 0 0)) 40)); have HY := Aside0.mk HB.out.size; (try (have HVn := Aside0.mk (Kd.R_below HV.out hb); clear HV; have HV := HVn; clear HVn)); (try (have HO3n := Aside0.mk (Kd.R_below HO3.out hb); clear HO3; have HO3 := HO3n; clear HO3n)); (try (have HO4n := Aside0.mk (Kd.R_below HO4.out hb); clear HO4; have HO4 := HO4n; clear HO4n)); (try (have HXn := Aside0.mk (HX.out.below hb); clear HX; have HX := HXn; clear HXn)); (try (have HBn := Aside0.mk (below_in HB.out hb); clear HB; have HB := HBn; clear HBn)); clear hb)
  refine hK.out _ _ ⟨HX.out.c0, HX.out.c1⟩ (fun hHeld => ?_)
  clear hK K
  refine nm_ ?_
  refine pd_ 7 3 255 HT_ ?_
  refine dn_ HT_ ?_
  rotate_left
  (refine value_ (by rfl) rfl (v := .slice (some ⟨(wz1).heap.size, 0, none⟩) 0 0) (w1 := (wz1).alloc (.cells #[] 62)) (by go_simp) ?_; have HO3 := Aside0.mk (PO.made (wz1) w.heap.size 0 #[] HB.out.size (Nat.zero_le _) rfl); have hb := below_alloc (Below.refl (wz1).heap.size (wz1)) (.cells #[] 62); generalize (wz1).alloc (.cells #[] 62) = wz2 at hb HO3 ⊢; generalize (some (⟨(wz1).heap.size, 0, none⟩ : Addr)) = A3 at HO3 ⊢; (try (have HVn := Aside0.mk (Kd.R_below HV.out hb); clear HV; have HV := HVn; clear HVn)); (try (have HO4n := Aside0.mk (Kd.R_below HO4.out hb); clear HO4; have HO4 := HO4n; clear HO4n)); (try (have HXn := Aside0.mk (HX.out.below hb); clear HX; have HX := HXn; clear HXn)); (try (have HBn := Aside0.mk (below_in HB.out hb); clear HB; have HB := HBn; clear HBn)); clear hb)
  refine hK.out _ _ ⟨HX.out.c0, HX.out.c1⟩ (fun hHeld => ?_)
  clear hK K
  refine nm_ ?_
  refine on_ 2 (some 6) 31 HT_ (fun K hK => ?_)
  refine ca_ Tryz.func29 #[.agg #[.int .i64 n, .slice A xs.length c]] ?_
  refine (QS.spec_l02All.calls ka n A c xs (pairsL xs) _ (Kd.C_below HR.out HB.out) HC.out HKA.out).mono ?_; rintro e wz3 ⟨va, rfl, hv, hb⟩; have HV := Aside0.mk (Kd.R_lower hv HB.out.size); (try (have HO3n := Aside0.mk (Kd.R_below HO3.out hb); clear HO3; have HO3 := HO3n; clear HO3n)); (try (have HO4n := Aside0.mk (Kd.R_below HO4.out hb); clear HO4; have HO4 := HO4n; clear HO4n)); (try (have HXn := Aside0.mk (HX.out.below hb); clear HX; have HX := HXn; clear HXn)); (try (have HBn := Aside0.mk (below_in HB.out hb); clear HB; have HB := HBn; clear HBn)); clear hv hb; obtain ⟨Aa, ca, rfl⟩ := Kd.R_slice HV.out
  refine ⟨_, rfl, ?_⟩
  refine hK.out _ _ ⟨HX.out.c0, HX.out.c1⟩ (fun hHeld => ?_)
  clear hK K
  refine nm_ ?_
  refine pd_ 5 9 63 HT_ ?_
  refine on_ 6 (some 10) 127 HT_ (fun K hK => ?_)
  (refine value_ (by rfl) rfl (v := .pointer (some ⟨(wz3).heap.size, 0, none⟩)) (w1 := (wz3).alloc (.cells (ssC n A c xs.length (.slice Aa (pairsL xs).length ca) (.slice A3 0 0) 0 (-1) 0 true (.slice A4 0 0)) 40)) (by go_simp; rfl) ?_; have hb := below_alloc (Below.refl (wz3).heap.size (wz3)) (.cells (ssC n A c xs.length (.slice Aa (pairsL xs).length ca) (.slice A3 0 0) 0 (-1) 0 true (.slice A4 0 0)) 40); have HNB := Aside0.mk (heap_alloc_new (wz3) (.cells (ssC n A c xs.length (.slice Aa (pairsL xs).length ca) (.slice A3 0 0) 0 (-1) 0 true (.slice A4 0 0)) 40)); have HY := Aside0.mk HB.out.size; (try (have HVn := Aside0.mk (Kd.R_below HV.out hb); clear HV; have HV := HVn; clear HVn)); (try (have HO3n := Aside0.mk (Kd.R_below HO3.out hb); clear HO3; have HO3 := HO3n; clear HO3n)); (try (have HO4n := Aside0.mk (Kd.R_below HO4.out hb); clear HO4; have HO4 := HO4n; clear HO4n)); (try (have HXn := Aside0.mk (HX.out.below hb); clear HX; have HX := HXn; clear HXn)); (try (have HBn := Aside0.mk (below_in HB.out hb); clear HB; have HB := HBn; clear HBn)); clear hb)
  refine hK.out _ _ ⟨HX.out.c0, HX.out.c1⟩ (fun hHeld => ?_)
  clear hK K
  refine nm_ ?_
  refine pd_ 7 3 255 HT_ ?_
  refine dn_ HT_ ?_
  rotate_left
  all_goals
    have hpn : pairingB xs [] = true := rfl
    generalize wz3.alloc (.cells (ssC n A c xs.length (.slice Aa (pairsL xs).length ca) (.slice A3 0 0) 0 (-1) 0 true (.slice A4 0 0)) 40) = W4 at HX HB HV HO3 HO4 HNB ⊢
    obtain ⟨y, hy⟩ : ∃ y, wz3.heap.size = y := ⟨_, rfl⟩
    rw [hy] at HNB HY ⊢
    have HS : Aside0 (SS W4 w y n A c xs.length (.slice Aa (pairsL xs).length ca) (pairsL xs) (.slice A3 0 0) [] 0 (-1) 0 true (.slice A4 0 0) [] []) := ⟨⟨HNB.out, HY.out, HV.out, HO3.out, HO4.out, VI.nil _ _, HB.out⟩⟩
    have HL5 : Aside0 (PO (W4.alloc (.cells #[] 62)) w.heap.size (.slice (some ⟨W4.heap.size, 0, none⟩) 0 0) []) := ⟨PO.made W4 w.heap.size 0 #[] HB.out.size (Nat.zero_le _) rfl⟩
    have HS5 := Aside0.mk (HS.out.below (below_alloc (Below.refl _ _) (.cells #[] 62)))
    have HGO := Aside0.mk (go_all w y n A c xs (.slice Aa (pairsL xs).length ca) (pairsL xs) 0 HR.out HC.out HI.out (by omega) ((pairsL xs).length - 0) [] ⟨0, -1, [], []⟩ (.slice (some ⟨W4.heap.size, 0, none⟩) 0 0) 0 (W4.alloc (.cells #[] 62)) (.slice A3 0 0) (.slice A4 0 0) [] HS5.out (GoodV.nil _) HL5.out hpn (Nat.zero_le _) rfl)
    clear HX HB HV HO3 HO4 HNB HY HS HL5 HS5 hy hpn
    go_wp2_with (go_at_call 30; refine HGO.out.mono ?_; rintro e w6 ⟨rfl, ⟨vb, vf, vs, hs⟩, hg, hk⟩; have HS6 := Aside0.mk hs; have HG6 := Aside0.mk hg; clear hs hg hk HGO)
    go_ret
    exact ⟨y, _, vb, vf, vs, rfl, HS6.out, HG6.out⟩
def limZ (n : Int) (xs : List Int) (m : Int) : Int := if isC n xs = true then (if (xs.length : Int) > m then 3 else 0) else 1
theorem ev_limit (n : Int) {xs : List Int} (hx : xs.length ≤ 1048576) (m : Int) : Ev (fun k => QS.spec_l08Limit.f k n xs m) (limZ n xs m) := by
  unfold QS.spec_l08Limit.f limZ
  refine Ev.bind (ev_is n (Nat.le_trans hx (by decide))) ?_
  cases isC n xs with
  | false => exact Ev.now _
  | true =>
    by_cases h : (xs.length : Int) > m
    · simp only [if_true, if_pos h]; exact Ev.now _
    · simp only [if_true, if_neg h]; exact Ev.now _
theorem limZ_zero {n : Int} {xs : List Int} {m : Int} (h : limZ n xs m = 0) : isC n xs = true := by
  unfold limZ at h
  by_cases hi : isC n xs = true
  · exact hi
  · rw [if_neg hi] at h; exact absurd h (by decide)
end Go.Proofs.YtdlmlmaoacmdiaaGreat.Im
namespace Go.Proofs.YtdlmlmaoacmdiaaGreat.Ext
open Go.RowKit Im  YtdlmlmaoacmdiaaGreatW.PrintWords YtdlmlmaoacmdiaaGreatW.PrintLast YtdlmlmaoacmdiaaGreatW.PrintMore
def impl_Complex_dimension.f (a0_0 : Int) (l0_1 : List Int) : Option (Int) := if isC a0_0 l0_1 = true then some (dimL l0_1) else none
theorem impl_Complex_dimension.calls (a0_0 : Int) (A0_1 : Option Addr) (c0_1 : Nat) (l0_1 : List Int) (r : Int) (w : World) (hr0_1 : Kd.C (Kd.int .i64) w A0_1 l0_1.length l0_1) (_hc0_1 : l0_1.length ≤ c0_1) (h : impl_Complex_dimension.f a0_0 l0_1 = some r) :
    Calls Tryz.prog 36 #[.agg #[.int .i64 a0_0, .slice A0_1 l0_1.length c0_1]] w fun e w' => e = .returned (.int .i64 r) ∧ Below w.heap.size w w' := by
  unfold impl_Complex_dimension.f at h
  by_cases hl : isC a0_0 l0_1 = true
  · rw [if_pos hl] at h
    have hd := Option.some.inj h
    rw [← hd]
    exact dimension_c a0_0 A0_1 c0_1 l0_1 w hr0_1 _hc0_1 hl
  · rw [if_neg hl] at h; cases h
end Go.Proofs.YtdlmlmaoacmdiaaGreat.Ext
namespace Go.Proofs.YtdlmlmaoacmdiaaGreat.Ext
end Go.Proofs.YtdlmlmaoacmdiaaGreat.Ext
namespace Go.Proofs.YtdlmlmaoacmdiaaGreat.QK
open Cw Kp Ext Go.RowKit YtdlmlmaoacmdiaaGreatW.PrintWords YtdlmlmaoacmdiaaGreatW.PrintLast YtdlmlmaoacmdiaaGreatW.PrintMore
attribute [local go_sem] max2_int min2_int max_two min_two max_three min_three max_four min_four   -- for this text's walks alone
def errW : Option Int → Value
 | none => .nilIface
 | some c => .iface 0 (.int .i64 c)
theorem errW_none : errW none = .nilIface := rfl
theorem errW_some (c : Int) : errW (some c) = .iface 0 (.int .i64 c) := rfl
theorem info2 : (Tryz.prog.info? 2).map (fun i => (i.zero, i.size, i.bytes)) = some (some (.int .i64 0), 1, 8) := by kernel_rfl
def impl_Complex_critical_1_1.f (a0_0 : Int) (a0_1 : Int) (a1_0 : Int) : Option (Bool) := if a0_0 = a1_0 then (some true) else (some (a0_1 == a1_0))
set_option maxHeartbeats 8000000 in
set_option maxRecDepth 100000 in
theorem impl_Complex_critical_1_1.calls (a0_0 : Int) (a0_1 : Int) (g1 : Nat) (a1_0 : Int) (r : Bool) (w : World) (hb1 : w.heap[g1]? = some (.cells #[.int .i64 a1_0] 2 (0, 0))) (h : impl_Complex_critical_1_1.f a0_0 a0_1 a1_0 = some r) :
  Calls Tryz.prog 42 #[.agg #[.int .i64 a0_0, .int .i64 a0_1], .pointer (some ⟨g1, 0, none⟩)] w fun e w' => e = .returned (.bool r) ∧ Below w.heap.size w w' := by
 have hu62 := Tryz.underlying62
 have BK101 := Aside0.mk hb1
 clear hb1
 have HB := Aside0.mk (Below.refl w.heap.size w)
 have H : (if a0_0 = a1_0 then (some true) else (some (a0_1 == a1_0))) = some r := h
 clear h
 by_cases c3 : a0_0 = a1_0
 ·rw [if_pos c3] at H
  have c3b0 : (a0_0 == a1_0) = true := beq_iff_eq.mpr c3
  have c3b1 : (a0_0 != a1_0) = false := bne_eq_false_iff_eq.mpr c3
  clear c3
  obtain rfl := Option.some.inj H
  go_enter Tryz.func42, Tryz.ntmps42
  go_wp2_with (first | ((with_reducible refine gate_dst (N := 2) rfl ?_); refine box_event ?hg (N := 2) ?hd (cs := #[.int .i64 a0_0, .int .i64 a0_1]) (t := 62) ?hr ?_; (case hd => rfl); (case hg => rfl); (case hr => first | (go_simp; done) | (go_simp; rfl)); intro gb102 hg w4 hbox hb; have BK102 := Aside0.mk (hbox); have GW102 := gH HB hg; have GE102 := gH HB hg; replace HB := sH HB hb; have NB101_102 := nB BK101 hg; have NB102_101 := oB BK101 hg; replace BK101 := sB BK101 hb; clear hb hbox hg; (try have hnb5 := NB102_101.out); (try have hnc5 := NB101_102.out); have hcz6_0 : w4.cell? ⟨gb102, 0, none⟩ = some (.int .i64 a0_0) := cB BK102 0; have hcz6_1 : w4.cell? ⟨gb102, 1, none⟩ = some (.int .i64 a0_1) := cB BK102 1; have hfz6_0 := zB BK102 0; have hfz6_1 := zB BK102 1; have hcz7_0 : w4.cell? ⟨g1, 0, none⟩ = some (.int .i64 a1_0) := cB BK101 0; have hfz7_0 := zB BK101 0))
  go_ret
  exact ⟨by first | rfl | (simp [errW_none, errW_some] <;> rfl) | (simp [*, errW_none, errW_some] <;> rfl) | (exfalso; simp_all), pH HB⟩
 ·rw [if_neg c3] at H
  have c3b0 : (a0_0 == a1_0) = false := beq_eq_false_iff_ne.mpr c3
  have c3b1 : (a0_0 != a1_0) = true := bne_iff_ne.mpr c3
  obtain rfl := Option.some.inj H
  go_enter Tryz.func42, Tryz.ntmps42
  go_wp2_with (first | ((with_reducible refine gate_dst (N := 2) rfl ?_); refine box_event ?hg (N := 2) ?hd (cs := #[.int .i64 a0_0, .int .i64 a0_1]) (t := 62) ?hr ?_; (case hd => rfl); (case hg => rfl); (case hr => first | (go_simp; done) | (go_simp; rfl)); intro gb102 hg w8 hbox hb; have BK102 := Aside0.mk (hbox); have GW102 := gH HB hg; have GE102 := gH HB hg; replace HB := sH HB hb; have NB101_102 := nB BK101 hg; have NB102_101 := oB BK101 hg; replace BK101 := sB BK101 hb; clear hb hbox hg; (try have hnb9 := NB102_101.out); (try have hnc9 := NB101_102.out); have hcz10_0 : w8.cell? ⟨gb102, 0, none⟩ = some (.int .i64 a0_0) := cB BK102 0; have hcz10_1 : w8.cell? ⟨gb102, 1, none⟩ = some (.int .i64 a0_1) := cB BK102 1; have hfz10_0 := zB BK102 0; have hfz10_1 := zB BK102 1; have hcz11_0 : w8.cell? ⟨g1, 0, none⟩ = some (.int .i64 a1_0) := cB BK101 0; have hfz11_0 := zB BK101 0))
  go_ret
  exact ⟨by first | rfl | (simp [errW_none, errW_some] <;> rfl) | (simp [*, errW_none, errW_some] <;> rfl) | (exfalso; simp_all), pH HB⟩
def clo_42 (a1_0 : Int) : Pred := Pred.ofP (fun x y => impl_Complex_critical_1_1.f x y a1_0)
set_option maxRecDepth 100000 in
theorem clo_ok_42 {W : World} {g1 : Nat} {a1_0 : Int} (hb1 : W.heap[g1]? = some (.cells #[.int .i64 a1_0] 2 (0, 0)))  : FnOk (.func (.func 42) #[] #[.pointer (some ⟨g1, 0, none⟩)]) (clo_42 a1_0) W :=
 FnOk.ofP (enters_of Tryz.func42 (by kernel_rfl) rfl) (fun V x y b hV hr => by
  show Calls Tryz.prog 42 #[.agg #[.int .i64 x, .int .i64 y], .pointer (some ⟨g1, 0, none⟩)] V _
  exact (impl_Complex_critical_1_1.calls x y g1 a1_0 b V ((hV.block g1 (blk_lt hb1)).trans hb1) hr).mono (fun e w' h_ => ⟨h_.1, h_.2⟩))
def impl_Complex_critical_1.f (a0 : Int) (l1_0 : List (S62)) : Option (Bool) := (slices_ContainsFunc_impl_Pair_impl_Pair.f l1_0 (clo_42 a0)).bind fun t105 => (some t105)
set_option maxHeartbeats 8000000 in
set_option maxRecDepth 100000 in
theorem impl_Complex_critical_1.calls (a0 : Int) (g1 : Nat) (A1_0 : Option Addr) (c1_0 : Nat) (l1_0 : List (S62)) (r : Bool) (w : World) (hb1 : w.heap[g1]? = some (.cells #[.slice A1_0 l1_0.length c1_0] 38 (0, 0))) (hr1_0 : Kd.C k62 w A1_0 l1_0.length l1_0) (hc1_0 : l1_0.length ≤ c1_0) (h : impl_Complex_critical_1.f a0 l1_0 = some r) :
  Calls Tryz.prog 40 #[.int .i64 a0, .pointer (some ⟨g1, 0, none⟩)] w fun e w' => e = .returned (.bool r) ∧ Below w.heap.size w w' := by
 have HR1_0 := Aside0.mk hr1_0
 have HC1_0 := Aside0.mk hc1_0
 clear hr1_0 hc1_0
 have BK103 := Aside0.mk hb1
 clear hb1
 have HB := Aside0.mk (Below.refl w.heap.size w)
 have H : ((slices_ContainsFunc_impl_Pair_impl_Pair.f l1_0 (clo_42 a0)).bind fun t105 => (some t105)) = some r := h
 clear h
 replace H := Option.bind_eq_some_iff.mp H
 obtain ⟨t105, A30, H⟩ := H
 try dsimp only at H
 have A3 := Aside0.mk A30
 clear A30
 obtain rfl := Option.some.inj H
 go_enter Tryz.func40, Tryz.ntmps40
 go_wp2_with (first | ((with_reducible refine gate_dst (N := 2) rfl ?_); refine box_event ?hg (N := 2) ?hd (cs := #[.int .i64 a0]) (t := 2) ?hr ?_; (case hd => rfl); (case hg => rfl); (case hr => first | (go_simp; done) | (go_simp; rfl)); intro gb104 hg w4 hbox hb; have BK104 := Aside0.mk (hbox); have GW104 := gH HB hg; have GE104 := gH HB hg; replace HB := sH HB hb; have NB103_104 := nB BK103 hg; have NB104_103 := oB BK103 hg; replace BK103 := sB BK103 hb; clear hb hbox hg; (try have hnb5 := NB103_104.out); (try have hnc5 := NB104_103.out); have hcz6_0 : w4.cell? ⟨g1, 0, none⟩ = some (.slice A1_0 l1_0.length c1_0) := cB BK103 0; have hfz6_0 := zB BK103 0) | ((with_reducible refine gate_callee (f := 41) rfl ?_); refine cl_ (some 6) Tryz.func41 #[.slice A1_0 l1_0.length c1_0, .func (.func 42) #[] #[.pointer (some ⟨gb104, 0, none⟩)]] ?_; (with_reducible refine (slices_ContainsFunc_impl_Pair_impl_Pair.calls _ _ l1_0 _ (clo_42 a0) t105 _ ?side1 ?side2 ?side3 A3.out).mono ?_); (case side1 => exact pC ((Kd.C_below HR1_0.out HB.out))); (case side2 => exact HC1_0.out); (case side3 => exact clo_ok_42 (pB BK104) ); rintro e w7 ⟨rfl, hb⟩; refine ⟨_, rfl, ?_⟩; replace BK103 := sB BK103 hb; replace BK104 := sB BK104 hb; replace HB := sH HB hb; (try clear hb); (try clear hi)))
 go_ret
 exact ⟨by first | rfl | (simp [errW_none, errW_some] <;> rfl) | (simp [*, errW_none, errW_some] <;> rfl) | (exfalso; simp_all), pH HB⟩
def clo_40 (l1_0 : List (S62)) : Pred := Pred.ofI (fun x => impl_Complex_critical_1.f x l1_0)
set_option maxRecDepth 100000 in
theorem clo_ok_40 {W : World} {g1 : Nat} {A1_0 : Option Addr} {c1_0 : Nat} {l1_0 : List (S62)} (hb1 : W.heap[g1]? = some (.cells #[.slice A1_0 l1_0.length c1_0] 38 (0, 0))) (hr1_0 : Kd.C k62 W A1_0 l1_0.length l1_0) (hc1_0 : l1_0.length ≤ c1_0) : FnOk (.func (.func 40) #[] #[.pointer (some ⟨g1, 0, none⟩)]) (clo_40 l1_0) W :=
 FnOk.ofI (enters_of Tryz.func40 (by kernel_rfl) rfl) (fun V x b hV hr => by
  show Calls Tryz.prog 40 #[.int .i64 x, .pointer (some ⟨g1, 0, none⟩)] V _
  exact (impl_Complex_critical_1.calls x g1 A1_0 c1_0 l1_0 b V ((hV.block g1 (blk_lt hb1)).trans hb1) (Kd.C_below hr1_0 hV) hc1_0 hr).mono (fun e w' h_ => ⟨h_.1, h_.2⟩))
def impl_Complex_critical.f (a0_0 : Int) (l0_1 : List Int) (l1 : List (S62)) : Option (List Int) := (slices_Clone_int64_int64.f l0_1).bind fun t108 => ((slices_DeleteFunc_int64_int64.f t108 (clo_40 l1)).bind fun t111 => (some t111))
set_option maxHeartbeats 8000000 in
set_option maxRecDepth 100000 in
theorem impl_Complex_critical.calls (a0_0 : Int) (A0_1 : Option Addr) (c0_1 : Nat) (l0_1 : List Int) (A1 : Option Addr) (c1 : Nat) (l1 : List (S62)) (r : List Int) (w : World) (hr0_1 : Kd.C (Kd.int .i64) w A0_1 l0_1.length l0_1) (hc0_1 : l0_1.length ≤ c0_1) (hr1 : Kd.C k62 w A1 l1.length l1) (hc1 : l1.length ≤ c1) (h : impl_Complex_critical.f a0_0 l0_1 l1 = some r) :
  Calls Tryz.prog 21 #[.agg #[.int .i64 a0_0, .slice A0_1 l0_1.length c0_1], .slice A1 l1.length c1] w fun e w' => ∃ v0_ : Value, e = .returned (v0_) ∧ Kd.R (Kd.int .i64) 2 w' w.heap.size (fun _ => True) v0_ r ∧ Below w.heap.size w w' := by
 have hu29 := Tryz.underlying29
 have HR0_1 := Aside0.mk hr0_1
 have HC0_1 := Aside0.mk hc0_1
 clear hr0_1 hc0_1
 have HR1 := Aside0.mk hr1
 have HC1 := Aside0.mk hc1
 clear hr1 hc1
 have HB := Aside0.mk (Below.refl w.heap.size w)
 have H : ((slices_Clone_int64_int64.f l0_1).bind fun t108 => ((slices_DeleteFunc_int64_int64.f t108 (clo_40 l1)).bind fun t111 => (some t111))) = some r := h
 clear h
 replace H := Option.bind_eq_some_iff.mp H
 obtain ⟨t108, A30, H⟩ := H
 try dsimp only at H
 have A3 := Aside0.mk A30
 clear A30
 replace H := Option.bind_eq_some_iff.mp H
 obtain ⟨t111, A40, H⟩ := H
 try dsimp only at H
 have A4 := Aside0.mk A40
 clear A40
 obtain rfl := Option.some.inj H
 go_enter Tryz.func21, Tryz.ntmps21
 go_wp2_with (first | ((with_reducible refine gate_dst (N := 2) rfl ?_); refine box_event ?hg (N := 2) ?hd (cs := #[.int .i64 a0_0, .slice A0_1 l0_1.length c0_1]) (t := 29) ?hr ?_; (case hd => rfl); (case hg => rfl); (case hr => first | (go_simp; done) | (go_simp; rfl)); intro gb106 hg w5 hbox hb; have BK106 := Aside0.mk (hbox); have GW106 := gH HB hg; have GE106 := gH HB hg; replace HB := sH HB hb; clear hb hbox hg) | ((with_reducible refine gate_dst (N := 3) rfl ?_); refine box_event ?hg (N := 3) ?hd (cs := #[.slice A1 l1.length c1]) (t := 38) ?hr ?_; (case hd => rfl); (case hg => rfl); (case hr => first | (go_simp; done) | (go_simp; rfl)); intro gb107 hg w6 hbox hb; have BK107 := Aside0.mk (hbox); have GW107 := gH HB hg; have GE107 := gH HB hg; replace HB := sH HB hb; have NB106_107 := nB BK106 hg; have NB107_106 := oB BK106 hg; replace BK106 := sB BK106 hb; clear hb hbox hg; (try have hnb7 := NB106_107.out); (try have hnc7 := NB107_106.out); have hcz8_0 : w6.cell? ⟨gb106, 0, none⟩ = some (.int .i64 a0_0) := cB BK106 0; have hcz8_1 : w6.cell? ⟨gb106, 1, none⟩ = some (.slice A0_1 l0_1.length c0_1) := cB BK106 1; have hfz8_0 := zB BK106 0; have hfz8_1 := zB BK106 1) | ((with_reducible refine gate_callee (f := 39) rfl ?_); refine cl_ (some 7) Tryz.func39 #[.slice A0_1 l0_1.length c0_1] ?_; (with_reducible refine (slices_Clone_int64_int64.calls _ _ l0_1 t108 _ ?side1 ?side2 A3.out).mono ?_); (case side1 => exact pC ((Kd.C_below HR0_1.out HB.out))); (case side2 => exact HC0_1.out); rintro e w9 ⟨v109, rfl, ho0, hb⟩; refine ⟨_, rfl, ?_⟩; have HO110 := Aside0.mk (Kd.R_lower ho0 (below_size (pH HB))); replace BK106 := sB BK106 hb; replace BK107 := sB BK107 hb; replace HB := sH HB hb; (try clear hb); (try clear hi); (try clear ho0); obtain ⟨Ao10, co10, eo10⟩ := Kd.R_slice HO110.out; subst eo10) | ((with_reducible refine gate_callee (f := 38) rfl ?_); refine cl_ (some 9) Tryz.func38 #[.slice Ao10 t108.length co10, .func (.func 40) #[] #[.pointer (some ⟨gb107, 0, none⟩)]] ?_; (with_reducible refine (slices_DeleteFunc_int64_int64.calls (fun k_ => some k_ = (.slice Ao10 t108.length co10 : Value).ownBlock) (.slice Ao10 t108.length co10) t108 _ (clo_40 l1) t111 w _ ?side1 ?side2 ?side3 A4.out).mono ?_); (case side1 => repeat (first | (with_reducible first | exact HB.out | apply below_alloc | apply pw_below_drewN | apply below_drew1 | refine below_set ?_ GE106.out | refine below_set ?_ GE107.out) | exact HB.out)); (case side2 => exact Kd.R_tight rfl HO110.out); (case side3 => intro W_ hK_; exact clo_ok_40 (blk_kept (pB BK107) hK_ (fun hs_ => (fun e_ => (Kd.R_ne HO110.out BK107.out (by decide)) e_) hs_)) ((Kd.C_kept_came k62_heap HR1.out (pH HB) (fun k_ hs_ => (fun e_ => Kd.R_base HO110.out k_ e_.symm) hs_)) W_ hK_) (by exact HC1.out)); rintro e w11 ⟨v112, rfl, ho0, hb, hkp⟩; refine ⟨_, rfl, ?_⟩; replace BK106 := Aside0.mk (blk_kept (pB BK106) hkp (fun hs_ => (fun e_ => (Kd.R_ne HO110.out BK106.out (by decide)) e_) hs_)); replace BK107 := Aside0.mk (blk_kept (pB BK107) hkp (fun hs_ => (fun e_ => (Kd.R_ne HO110.out BK107.out (by decide)) e_) hs_)); have HO113 := Aside0.mk (Kd.R_mono (ok' := fun k_ => True) ho0 (fun k_ hk_ => trivial)); replace HB := Aside0.mk (hb); clear HO110; (try clear hb); (try clear hkp); (try clear ho0)))
 go_ret
 exact ⟨_, by first | rfl | (simp [errW_none, errW_some] <;> rfl) | (simp [*, errW_none, errW_some] <;> rfl) | (exfalso; simp_all), by (with_reducible repeat (first | apply Kd.R_alloc | apply Kd.R_drewN | apply Kd.R_drew)); exact HO113.out, pH HB⟩
open Go.Proofs.YtdlmlmaoacmdiaaGreat.QA (bits_OnesCount64.f)
open Go.Proofs.YtdlmlmaoacmdiaaGreat.QA (bits_OnesCount64.calls)
def impl_size.f (a0 : Int) : Option (Int) := (bits_OnesCount64.f (IntKind.u64.wrap (a0))).bind fun t114 => (some t114)
set_option maxHeartbeats 8000000 in
set_option maxRecDepth 100000 in
theorem impl_size.calls (a0 : Int) (r : Int) (w : World) (h : impl_size.f a0 = some r) :
  Calls Tryz.prog 64 #[.int .i64 a0] w fun e w' => e = .returned (.int .i64 r) ∧ Drawn0 w w' := by
 have H : ((bits_OnesCount64.f (IntKind.u64.wrap (a0))).bind fun t114 => (some t114)) = some r := h
 clear h
 replace H := Option.bind_eq_some_iff.mp H
 obtain ⟨t114, A20, H⟩ := H
 try dsimp only at H
 have A2 := Aside0.mk A20
 clear A20
 obtain rfl := Option.some.inj H
 go_enter Tryz.func64, Tryz.ntmps64
 go_wp2_with (first | ((with_reducible refine gate_callee (f := 90) rfl ?_); refine cl_ (some 5) Tryz.func90 #[.int .u64 (IntKind.u64.wrap (a0))] ?_; (with_reducible refine (bits_OnesCount64.calls (IntKind.u64.wrap (a0)) t114 _ A2.out).mono ?_); rintro e w' ⟨rfl, ⟨nd, rfl⟩⟩; refine ⟨_, rfl, ?_⟩))
 go_ret
 exact ⟨by first | rfl | (simp; done) | (simp [*]; done), by repeat (first | exact Drawn0.refl _ | apply Drawn0.step)⟩
def impl_dimension.f (a0 : Int) : Option (Int) := (impl_size.f a0).bind fun t115 => (some (wrap64 (t115 - 1)))
set_option maxHeartbeats 8000000 in
set_option maxRecDepth 100000 in
theorem impl_dimension.calls (a0 : Int) (r : Int) (w : World) (h : impl_dimension.f a0 = some r) :
  Calls Tryz.prog 37 #[.int .i64 a0] w fun e w' => e = .returned (.int .i64 r) ∧ Drawn0 w w' := by
 have H : ((impl_size.f a0).bind fun t115 => (some (wrap64 (t115 - 1)))) = some r := h
 clear h
 replace H := Option.bind_eq_some_iff.mp H
 obtain ⟨t115, A20, H⟩ := H
 try dsimp only at H
 have A2 := Aside0.mk A20
 clear A20
 obtain rfl := Option.some.inj H
 go_enter Tryz.func37, Tryz.ntmps37
 go_wp2_with (first | ((with_reducible refine gate_callee (f := 64) rfl ?_); refine cl_ (some 4) Tryz.func64 #[.int .i64 a0] ?_; (with_reducible refine (impl_size.calls a0 t115 _ A2.out).mono ?_); rintro e w' ⟨rfl, ⟨nd, rfl⟩⟩; refine ⟨_, rfl, ?_⟩))
 go_ret
 exact ⟨by first | rfl | (simp; done) | (simp [*]; done), by repeat (first | exact Drawn0.refl _ | apply Drawn0.step)⟩
def impl_Complex_count.l0 : Nat → List Int → List Int → Int → Int → Option (List Int)
 | 0, _, _, _, _ => none
 | k + 1, x5, x12, x13, x14 => if x14 < x13 then (if 0 ≤ x14 then (if x14 < (x12.length : Int) then ((impl_dimension.f (rd x12 x14)).bind fun t122 => (if 0 ≤ t122 then (if t122 < (x5.length : Int) then (impl_Complex_count.l0 k (x5.set (t122 : Int).toNat (wrap64 ((rd x5 t122) + 1))) x12 x13 (wrap64 (x14 + 1))) else (none)) else (none))) else (none)) else (none)) else (some x5)
def impl_Complex_count.f (k : Nat) (a0_0 : Int) (l0_1 : List Int) (l1 : List Int) : Option (List Int) := (impl_Complex_dimension.f a0_0 l0_1).bind fun t117 => (if 0 ≤ (wrap64 (t117 + 1)) then (if (wrap64 (t117 + 1) : Int).toNat ≤ 35184372088832 then (impl_Complex_count.l0 k (List.replicate (wrap64 (t117 + 1) : Int).toNat 0) l1 (l1.length : Int) 0) else (none)) else (none))
set_option maxHeartbeats 8000000 in
set_option maxRecDepth 100000 in
theorem impl_Complex_count.calls (k : Nat) (a0_0 : Int) (A0_1 : Option Addr) (c0_1 : Nat) (l0_1 : List Int) (A1 : Option Addr) (c1 : Nat) (l1 : List Int) (r : List Int) (w : World) (hr0_1 : Kd.C (Kd.int .i64) w A0_1 l0_1.length l0_1) (hc0_1 : l0_1.length ≤ c0_1) (hr1 : Kd.C (Kd.int .i64) w A1 l1.length l1) (hc1 : l1.length ≤ c1) (h : impl_Complex_count.f k a0_0 l0_1 l1 = some r) :
  Calls Tryz.prog 20 #[.agg #[.int .i64 a0_0, .slice A0_1 l0_1.length c0_1], .slice A1 l1.length c1] w fun e w' => ∃ v0_ : Value, e = .returned (v0_) ∧ Kd.R (Kd.int .i64) 2 w' w.heap.size (fun _ => True) v0_ r ∧ Below w.heap.size w w' := by
 have hu29 := Tryz.underlying29
 have HR0_1 := Aside0.mk hr0_1
 have HC0_1 := Aside0.mk hc0_1
 clear hr0_1 hc0_1
 have HR1 := Aside0.mk hr1
 have HC1 := Aside0.mk hc1
 clear hr1 hc1
 have HB := Aside0.mk (Below.refl w.heap.size w)
 have H : ((impl_Complex_dimension.f a0_0 l0_1).bind fun t117 => (if 0 ≤ (wrap64 (t117 + 1)) then (if (wrap64 (t117 + 1) : Int).toNat ≤ 35184372088832 then (impl_Complex_count.l0 k (List.replicate (wrap64 (t117 + 1) : Int).toNat 0) l1 (l1.length : Int) 0) else (none)) else (none))) = some r := h
 clear h
 replace H := Option.bind_eq_some_iff.mp H
 obtain ⟨t117, A30, H⟩ := H
 try dsimp only at H
 have A3 := Aside0.mk A30
 clear A30
 obtain ⟨ji4, hji4⟩ : ∃ j_ : Int, (wrap64 (t117 + 1)) = j_ := ⟨_, rfl⟩
 replace H : (if 0 ≤ (ji4) then (if (ji4 : Int).toNat ≤ 35184372088832 then (impl_Complex_count.l0 k (List.replicate (ji4 : Int).toNat 0) l1 (l1.length : Int) 0) else (none)) else (none)) = some r := by first | (rw [hji4] at H; exact H) | (simp only [hji4] at H ⊢; exact H)
 (try rw [hji4] at A3)
 have hji4w : (IntKind.i64.wrap (t117 + 1)) = ji4 := (i64_w _).trans hji4
 by_cases c5 : 0 ≤ (ji4)
 ·rw [if_pos c5] at H
  have c5b0 := eq_true c5
  have c5b1 : decide (0 ≤ (ji4)) = true := decide_eq_true c5
  clear c5
  by_cases c6 : (ji4 : Int).toNat ≤ 35184372088832
  ·rw [if_pos c6] at H
   have c6b0 := eq_true c6
   have c6b1 : decide ((ji4 : Int).toNat ≤ 35184372088832) = true := decide_eq_true c6
   clear c6
   obtain ⟨y118, hy118⟩ : ∃ y_ : List Int, y_ = (List.replicate (ji4 : Int).toNat 0) := ⟨_, rfl⟩
   replace H : (impl_Complex_count.l0 k y118 l1 (l1.length : Int) 0) = some r := by first | (rw [hy118]; with_reducible exact H) | (have H2_ := (Option.bind_some _ _).symm.trans H; rw [hy118]; with_reducible exact H2_) | (have H2_ := (Option.bind_some _ _).symm.trans H; with_reducible exact H2_) | with_reducible exact H | (rw [hy118]; exact H) | exact H
   have Ny118 := Aside0.mk hy118
   clear hy118
   have H' := Aside0.mk H
   clear H
   go_enter Tryz.func20, Tryz.ntmps20
   go_wp2_with (first | ((with_reducible refine gate_dst (N := 2) rfl ?_); refine box_event ?hg (N := 2) ?hd (cs := #[.int .i64 a0_0, .slice A0_1 l0_1.length c0_1]) (t := 29) ?hr ?_; (case hd => rfl); (case hg => rfl); (case hr => first | (go_simp; done) | (go_simp; rfl)); intro gb116 hg w7 hbox hb; have BK116 := Aside0.mk (hbox); have GW116 := gH HB hg; have GE116 := gH HB hg; replace HB := sH HB hb; clear hb hbox hg; have hcz8_0 : w7.cell? ⟨gb116, 0, none⟩ = some (.int .i64 a0_0) := cB BK116 0; have hcz8_1 : w7.cell? ⟨gb116, 1, none⟩ = some (.slice A0_1 l0_1.length c0_1) := cB BK116 1; have hfz8_0 := zB BK116 0; have hfz8_1 := zB BK116 1) | ((with_reducible refine gate_callee (f := 36) rfl ?_); refine cl_ (some 9) Tryz.func36 #[.agg #[.int .i64 a0_0, .slice A0_1 l0_1.length c0_1]] ?_; (with_reducible refine (impl_Complex_dimension.calls a0_0 _ _ l0_1 t117 _ ?side1 ?side2 A3.out).mono ?_); (case side1 => exact pC ((Kd.C_below HR0_1.out HB.out))); (case side2 => exact HC0_1.out); rintro e w9 ⟨rfl, hb⟩; refine ⟨_, rfl, ?_⟩; replace BK116 := sB BK116 hb; replace HB := sH HB hb; (try clear hb); (try clear hi)) | ((with_reducible refine gate_dst (N := 11) rfl ?_); refine Kd.R_make (Kd.int .i64) _ 2 rfl (N := 11) rfl 22 _ _ rfl ji4 rfl rfl Tryz.underlying22 (.int .i64 0) 8 info2 rfl (by decide) (by omega) 0 (ok := fun _ => True) (okp := fun _ => True) rfl (fun _ hk => hk) trivial (of_decide_eq_true (by first | (with_reducible assumption) | assumption)) (Nat.le_trans (Nat.mul_le_mul_right _ (of_decide_eq_true (by first | (with_reducible assumption) | assumption) : ji4.toNat ≤ 35184372088832)) (by omega)) (Below.refl _ _) (Nat.le_refl _) ?_; intro v119 w10 ho11 hb hg_ hnew_; clear hg_ hnew_; (first | rw [← Ny118.out] at ho11 | (simp only [Int.reduceToNat] at ho11; rw [← Ny118.out] at ho11)); have HO120 := Aside0.mk (Kd.R_lower ho11 (below_size (pH HB))); replace BK116 := sB BK116 hb; replace HB := sH HB hb; clear hb ho11))
   go_loopg [14] k (fun kq v14 w' => ∃ (x5_1 : List Int) (x14_1 : Int), v14 = .int .i64 x14_1 ∧ Aside0 (impl_Complex_count.l0 kq x5_1 l1 (l1.length : Int) x14_1 = some r) ∧ Aside0 (kq ≤ k) ∧ Aside0 (Kd.R (Kd.int .i64) 2 w' w.heap.size (fun _ => True) v119 x5_1) ∧ Aside0 (w'.heap[gb116]? = some (.cells #[.int .i64 a0_0, (.slice A0_1 l0_1.length c0_1)] 29 (0, 0))) ∧ Aside0 (Below w.heap.size w w'))
   case atStart => exact ⟨(y118), (0), (by first | rfl | (simp; done) | (simp [*]; done)), H', ⟨Nat.le_refl _⟩, ⟨by (with_reducible repeat (first | apply Kd.R_alloc | apply Kd.R_drewN | apply Kd.R_drew)); exact HO120.out⟩, ⟨pB BK116⟩, ⟨pH HB⟩⟩
   case round =>
    clear H'
    try clear c1
    try clear c2
    try clear p2
    try clear c3
    try clear c5
    try clear c5b0
    try clear c5b1
    try clear c6
    try clear c6b0
    try clear c6b1
    try clear p6
    try clear hcz8_0
    try clear hcz8_1
    try clear hfz8_0
    try clear hfz8_1
    obtain ⟨x5_1, x14_1, rfl, HA, HK1, HO_5, BK116, HB⟩ := hrel
    cases gk with
    | zero => exact absurd HA.out (by simp [impl_Complex_count.l0])
    | succ k1 =>
     have H := HA.out
     clear HA
     simp only [impl_Complex_count.l0] at H
     by_cases c12 : x14_1 < (l1.length : Int)
     ·rw [if_pos c12] at H
      have c12b0 : decide (x14_1 < (l1.length : Int)) = true := decide_eq_true c12
      clear c12
      by_cases c13 : 0 ≤ x14_1
      ·rw [if_pos c13] at H
       have c13b0 : decide (0 ≤ x14_1) = true := decide_eq_true c13
       clear c13
       by_cases c14 : x14_1 < (l1.length : Int)
       ·rw [if_pos c14] at H
        have c14b0 : decide (x14_1 < (l1.length : Int)) = true := decide_eq_true c14
        clear c14
        replace H := Option.bind_eq_some_iff.mp H
        obtain ⟨t122, A150, H⟩ := H
        try dsimp only at H
        have A15 := Aside0.mk A150
        clear A150
        by_cases c16 : 0 ≤ t122
        ·rw [if_pos c16] at H
         have c16b0 : decide (0 ≤ t122) = true := decide_eq_true c16
         clear c16
         by_cases c17 : t122 < (x5_1.length : Int)
         ·rw [if_pos c17] at H
          have c17b0 : decide (t122 < (x5_1.length : Int)) = true := decide_eq_true c17
          clear c17
          obtain ⟨y124, hy124⟩ : ∃ y_ : List Int, y_ = (x5_1.set (t122 : Int).toNat (wrap64 ((rd x5_1 t122) + 1))) := ⟨_, rfl⟩
          replace H : (impl_Complex_count.l0 k1 y124 l1 (l1.length : Int) (wrap64 (x14_1 + 1))) = some r := by first | (rw [hy124]; with_reducible exact H) | (have H2_ := (Option.bind_some _ _).symm.trans H; rw [hy124]; with_reducible exact H2_) | (have H2_ := (Option.bind_some _ _).symm.trans H; with_reducible exact H2_) | with_reducible exact H | (rw [hy124]; exact H) | exact H
          have Ny124 := Aside0.mk hy124
          clear hy124
          have H' := Aside0.mk H
          clear H
          have p121 : 0 ≤ (x14_1 : Int) := of_decide_eq_true (by first | (with_reducible assumption) | assumption)
          have q121 : x14_1 < (l1.length : Int) := of_decide_eq_true (by first | (with_reducible assumption) | assumption)
          obtain ⟨ad121, e121, hx121_0⟩ := Kd.at_int HR1.out x14_1 p121 q121
          cases e121
          replace hx121_0 := cH HB hx121_0
          replace p121 := eq_true p121
          replace q121 := eq_true q121
          go_wp2_with (first | ((with_reducible refine gate_callee (f := 37) rfl ?_); refine cl_ (some 20) Tryz.func37 #[.int .i64 (rd l1 x14_1)] ?_; (with_reducible refine (impl_dimension.calls (rd l1 x14_1) t122 _ A15.out).mono ?_); rintro e w' ⟨rfl, ⟨nd, rfl⟩⟩; refine ⟨_, rfl, ?_⟩; (try (rw [drewN_self wr]; generalize hq_ : World.drewN wr _ = wr; have n0_ : Aside0 (Kd.R (Kd.int .i64) 2 wr w.heap.size (fun _ => True) v119 x5_1) := ⟨by rw [← hq_]; exact (pR HO_5)⟩; have n1_ : Aside0 (wr.heap[gb116]? = some (.cells #[.int .i64 a0_0, .slice A0_1 l0_1.length c0_1] 29 (0, 0))) := ⟨by rw [← hq_]; exact (pB BK116)⟩; have n2_ : Aside0 (Below w.heap.size w wr) := ⟨by rw [← hq_]; exact (pH HB)⟩; clear HO_5 BK116 HB hq_; have HO_5 := n0_; have BK116 := n1_; have HB := n2_; clear n0_ n1_ n2_)); (try (have hcz19_0 : wr.cell? ⟨gb116, 0, none⟩ = some (.int .i64 a0_0) := cB BK116 0; have hcz19_1 : wr.cell? ⟨gb116, 1, none⟩ = some (.slice A0_1 l0_1.length c0_1) := cB BK116 1; have hfz19_0 := zB BK116 0; have hfz19_1 := zB BK116 1)); obtain ⟨Ao20, co20, eo20⟩ := Kd.R_slice HO_5.out; subst eo20; have p123 : 0 ≤ (t122 : Int) := of_decide_eq_true (by first | (with_reducible assumption) | assumption); have q123 : t122 < (x5_1.length : Int) := of_decide_eq_true (by first | (with_reducible assumption) | assumption); obtain ⟨ad123, e123, hx123_0⟩ := Kd.at_int (Kd.R_reads' HO_5.out).2.2 t122 p123 q123; cases e123; replace p123 := eq_true p123; replace q123 := eq_true q123; have p18 : 0 ≤ (t122 : Int) := of_decide_eq_true (by first | (with_reducible assumption) | assumption); have q18 : (t122 : Int) < ((x5_1.length : Int) : Int) := of_decide_eq_true (by first | (with_reducible assumption) | assumption); obtain ⟨go18, co18, eo18, gb18, gl18, cl18, HG18⟩ := Kd.R_form HO_5.out (by omega); (first | cases eo18 | (injection eo18 with ea_ en_ ec_; (first | subst ea_ | (injection ea_ with ea_; subst ea_)); subst ec_; clear en_)); have GB18 := Aside0.mk gb18; have GG18 := Aside0.mk HG18; clear gb18 gl18 HG18; (first | simp only [add_plain] at hx123_0 | skip); obtain ⟨hx18_0, hf18_0⟩ := Kd.R_celln 0 HO_5.out (t122 : Int) p18 q18; replace p18 := eq_true p18; replace q18 := eq_true q18; obtain ⟨hy21_, hz21_⟩ := Kd.R_celln 0 HO_5.out (t122 : Int) (of_decide_eq_true (by first | (with_reducible assumption) | assumption)) (of_decide_eq_true (by first | (with_reducible assumption) | assumption)); have HP21 := Kd.R_putg HO_5.out (t122 : Int) (wrap64 ((rd x5_1 t122) + 1))) | ((with_reducible refine gate_store (t := 2) (p := 24) rfl ?_); refine store_event (t := 2) (p := 24) (v := ?vo_w22) (w1 := (wr.setCell ⟨go18, (t122 : Int).toNat, none⟩ (.int .i64 (wrap64 ((rd x5_1 t122) + 1))))) ?hg ?ho ?hn ?hr ?_; (case ho => rfl); (case hg => rfl); (case hn => rfl); (case hr => first | (go_simp; done) | (go_simp; rfl)); intro w22 hw; have hg : wr.grownBy w22 (some go18) := (by rw [hw]; exact HP21.2); have hp_ : Kd.R (Kd.int .i64) 2 w22 w.heap.size (fun _ => True) (.slice (some ⟨go18, 0, none⟩) x5_1.length co20) y124 := (by rw [hw, Ny124.out]; exact HP21.1); clear HP21; have n0_ := Aside0.mk (hp_); have n1_ := Aside0.mk (blk_grown (g := gb116) (o := .cells #[.int .i64 a0_0, .slice A0_1 l0_1.length c0_1] 29 (0, 0)) (pB BK116) hg (Kd.R_ne HO_5.out BK116.out (by decide))); have n2_ := Aside0.mk ((by rw [hw]; exact below_set (HB.out) GB18.out : Below w.heap.size w w22)); clear HO_5; clear BK116; clear HB; have HO_5 := n0_; have BK116 := n1_; have HB := n2_; clear n0_ n1_ n2_; clear hg hw hp_))
          go_roundg k1
          case measure => have := HK1.out; omega
          case rel => exact ⟨(y124), (wrap64 (x14_1 + 1)), (by first | rfl | (simp; done) | (simp [*]; done)), H', ⟨by have := HK1.out; omega⟩, ⟨by (with_reducible repeat (first | apply Kd.R_alloc | apply Kd.R_drewN | apply Kd.R_drew)); exact HO_5.out⟩, ⟨pB BK116⟩, ⟨pH HB⟩⟩
         ·rw [if_neg c17] at H
          exact absurd H (by simp)
        ·rw [if_neg c16] at H
         exact absurd H (by simp)
       ·rw [if_neg c14] at H
        exact absurd H (by simp)
      ·rw [if_neg c13] at H
       exact absurd H (by simp)
     ·rw [if_neg c12] at H
      have c12b0 : decide (x14_1 < (l1.length : Int)) = false := decide_eq_false c12
      clear c12
      obtain rfl := Option.some.inj H
      go_wp2
      go_ret
      exact ⟨_, by first | rfl | (simp [errW_none, errW_some] <;> rfl) | (simp only [← hji4]; first | rfl | (simp [errW_none, errW_some] <;> rfl)) | (simp [*, errW_none, errW_some] <;> rfl) | (exfalso; simp_all), by (with_reducible repeat (first | apply Kd.R_alloc | apply Kd.R_drewN | apply Kd.R_drew)); exact HO_5.out, pH HB⟩
  ·rw [if_neg c6] at H
   exact absurd H (by simp)
 ·rw [if_neg c5] at H
  exact absurd H (by simp)
end Go.Proofs.YtdlmlmaoacmdiaaGreat.QK
namespace Go.Proofs.YtdlmlmaoacmdiaaGreat.Pu
open Go.RowKit Kp Ext Im YtdlmlmaoacmdiaaGreatW.PrintWords YtdlmlmaoacmdiaaGreatW.PrintLast YtdlmlmaoacmdiaaGreatW.PrintMore
theorem dimK_eq {x : Int} (h0 : 0 ≤ x) (h6 : x ≤ 63) : QK.impl_dimension.f x = some (onesZ x - 1) :=
  (show QK.impl_dimension.f x = QI.impl_dimension.f x from rfl).trans (dim_eq h0 h6)
theorem countK_loop (D : Nat) (l : List Int) (hr : ∀ x ∈ l, (1 ≤ x ∧ x ≤ 63) ∧ 1 ≤ onesZ x ∧ onesZ x ≤ (D : Int)) (hm : l.length ≤ 1048576) :
    ∀ d (i : Nat), l.length - i = d → i ≤ l.length → Ev (fun k => QK.impl_Complex_count.l0 k (cntL D (l.take i)) l (l.length : Int) i) (cntL D l) := by
  intro d
  induction d with
  | zero =>
    intro i hd hi
    rw [List.take_of_length_le (by omega)]
    refine Ev.step (f := fun k => some (cntL D l)) (fun k => ?_) (Ev.now _)
    simp only [QK.impl_Complex_count.l0]; rw [if_neg (by omega)]
  | succ d ih =>
    intro i hd hi
    have hi' : i < l.length := by omega
    obtain ⟨hx, hx1, hx2⟩ := hr _ (List.getElem_mem hi')
    obtain ⟨e, he⟩ : ∃ e : Nat, onesZ l[i] = ((e + 1 : Nat) : Int) := ⟨(onesZ l[i]).toNat - 1, by omega⟩
    have heD : e < D := by omega
    have hle := cntL_le (D := D) (d := e) (l.take i)
    rw [List.length_take] at hle
    have hlen := cntL_len D (l.take i)
    refine Ev.step (f := fun k => QK.impl_Complex_count.l0 k (cntL D (l.take (i + 1))) l (l.length : Int) ((i + 1 : Nat) : Int)) (fun k => ?_) (ih (i + 1) (by omega) (by omega))
    simp only [QK.impl_Complex_count.l0]
    rw [if_pos (by omega), if_pos (by omega), if_pos (by omega), rd_at' hi', dimK_eq (by omega) (by omega)]
    simp only [Option.bind_some]
    rw [he, show ((e + 1 : Nat) : Int) - 1 = (e : Int) by omega, if_pos (by omega), if_pos (by omega)]
    have hrd : rd (cntL D (l.take i)) (e : Int) = (cntL D (l.take i))[e]?.getD 0 := by simp [rd, List.getD_eq_getElem?_getD]
    rw [hrd, w64' (by omega) (by omega), Int.toNat_natCast, cntL_snoc (l.take i) l[i] heD he, show wrap64 ((i : Int) + 1) = ((i + 1 : Nat) : Int) by rw [w64' (by omega) (by omega)]; omega]
    rw [List.take_add_one, List.getElem?_eq_getElem hi']
    rfl
theorem ev_cntK {n : Int} {l : List Int} (hi : isC n l = true) {m : List Int} (hm : ∀ x ∈ m, x ∈ l) (hl : m.length ≤ 1048576) : Ev (fun k => QK.impl_Complex_count.f k n l m) (cntL (dimL l + 1).toNat m) := by
  have hs := isC_small hi
  have h63 := isC_63 hi
  obtain ⟨d1, d2, d3⟩ := dim_rng l
  obtain ⟨D, hD⟩ := Int.eq_ofNat_of_zero_le (show 0 ≤ dimL l + 1 by omega)
  have hdm : impl_Complex_dimension.f n l = some (dimL l) := by unfold impl_Complex_dimension.f; rw [if_pos hi]
  unfold QK.impl_Complex_count.f
  simp only [hdm, Option.bind_some]
  rw [w64 (by omega) (by omega), hD]
  simp only [if_pos (show (0 : Int) ≤ (D : Int) by omega), Int.toNat_natCast, if_pos (show D ≤ 35184372088832 by omega)]
  have := countK_loop D m (fun x hx => ⟨h63 x (hm x hx), ones1 (h63 x (hm x hx)), by have := d3 x (hm x hx); omega⟩) hl _ 0 rfl (Nat.zero_le _)
  rw [List.take_zero, cntL_nil] at this
  exact this
theorem crit_cloK (f : Int) : (QK.clo_42 f).sort = 2 ∧ ∀ q : Pr, 0 ≤ q.f0 → q.f0 ≤ 63 → 0 ≤ q.f1 → q.f1 ≤ 63 → (QK.clo_42 f).pP q = (q.f0 == f || q.f1 == f) :=
  ofP_face (p := fun q : Pr => q.f0 == f || q.f1 == f) fun x y _ _ _ _ => by
    unfold QK.impl_Complex_critical_1_1.f
    by_cases h : x = f <;> simp [h]
theorem okDomP_facesK {l : List Pr} (hr : FacesP l) (a : Pred) : okDomP a l = true := by
  rw [okDomP, Bool.or_eq_true]
  refine .inr (List.all_eq_true.2 fun q hq => ?_)
  have := hr q hq
  simp; omega
theorem any_congr_memK {α : Type} {p q : α → Bool} {l : List α} (h : ∀ x ∈ l, p x = q x) : l.any p = l.any q := by
  induction l with
  | nil => rfl
  | cons a l ih => rw [List.any_cons, List.any_cons, h a (by simp), ih (fun x hx => h x (by simp [hx]))]
theorem crit1_fK {l : List Pr} (hl : l.length ≤ 1048576) (hr : FacesP l) (f : Int) : QK.impl_Complex_critical_1.f f l = some (!critP l f) := by
  obtain ⟨s1, p1⟩ := crit_cloK f
  unfold QK.impl_Complex_critical_1.f slices_ContainsFunc_impl_Pair_impl_Pair.f
  rw [if_pos ⟨by omega, s1, okDomP_facesK hr _⟩, Option.bind_some]
  unfold critP
  rw [Bool.not_not, any_congr_memK fun q hq => by have := hr q hq; exact p1 q (by omega) (by omega) (by omega) (by omega)]
theorem crit_fK {n : Int} {xs : List Int} (hi : isC n xs = true) {l : List Pr} (hl : l.length ≤ 1048576) (hr : FacesP l) : QK.impl_Complex_critical.f n xs l = some (critL xs l) := by
  have hs := isC_small hi
  have r := isC_63 hi
  obtain ⟨s2, _, p2⟩ := ofI_face (f := fun x => QK.impl_Complex_critical_1.f x l) (p := fun x => !critP l x) (fun x _ _ => crit1_fK hl hr x)
  have hd : okDom (QK.clo_40 l) xs = true := by
    rw [okDom, Bool.or_eq_true]
    refine .inr (List.all_eq_true.2 fun x hx => ?_)
    have := r x hx
    simp; omega
  unfold QK.impl_Complex_critical.f slices_Clone_int64_int64.f slices_DeleteFunc_int64_int64.f
  rw [if_pos (by omega), Option.bind_some, if_pos ⟨by omega, s2, hd⟩, Option.bind_some]
  unfold critL
  refine congrArg some (List.filter_congr fun x hx => ?_)
  have := r x hx
  rw [show (QK.clo_40 l).pI x = !critP l x from p2 x (by omega) (by omega), Bool.not_not]
end Go.Proofs.YtdlmlmaoacmdiaaGreat.Pu
namespace Go.Proofs.YtdlmlmaoacmdiaaGreat.Im
open Go.RowKit Go.Shelf Kp Cw Ext Pu YtdlmlmaoacmdiaaGreatW.PrintWords YtdlmlmaoacmdiaaGreatW.PrintLast YtdlmlmaoacmdiaaGreatW.PrintMore
def vfUpd (xs : List Int) (M : List (List Int)) (l : List Pr) : List (List Int) := putV M (numL xs l)
structure VfInv (w0 : World) (n : Int) (A : Option Addr) (c : Nat) (xs : List Int) (bk bo : Nat) (W : World) (M : List (List Int)) : Prop where
  x : CxAt W bk n A xs.length c
  r : ∃ v vs, W.heap[bo]? = some (.cells #[v] 26 (0, 0)) ∧ MR W w0.heap.size v vs M
  g : GoodV (dimN xs) M
theorem VfInv.below {w0 : World} {n : Int} {A : Option Addr} {c : Nat} {xs : List Int} {bk bo : Nat} {W W1 : World} {M : List (List Int)} (h : VfInv w0 n A c xs bk bo W M) (hb : Below W.heap.size W W1) : VfInv w0 n A c xs bk bo W1 M := by
  obtain ⟨v, vs, h1, h2⟩ := h.r
  exact ⟨h.x.below hb, ⟨v, vs, (hb.block _ (blk_lt h1)).trans h1, h2.below hb⟩, h.g⟩
theorem MR.set {w : World} {base : Nat} {v : Value} {vs : List Value} {M : List (List Int)} (h : MR w base v vs M) {g t : Nat} {cells : Array Value} (hb : w.heap[g]? = some (.cells cells t (0, 0))) (ht : 2 ≠ t) (ht2 : t ≠ 22) (j : Nat) (u : Value) : MR (w.setCell ⟨g, j, none⟩ u) base v vs M :=
  ⟨h.o.moveT fun k cells' hk => Below.heap_setCell w ⟨g, j, none⟩ u k (blk_ne hk hb (fun e => ht2 e.symm)), h.i.set hb ht j u, h.a⟩
theorem getElem_ins {α : Type} (L : List α) (u : α) (m : Nat) (hm : m ≤ L.length) (i : Nat) (hi : i < (L.take m ++ u :: L.drop m).length) :
    (L.take m ++ u :: L.drop m)[i] = u ∧ i = m ∨ ∃ j, ∃ hj : j < L.length, (L.take m ++ u :: L.drop m)[i] = L[j] ∧ i ≠ m ∧ (i < m ∧ j = i ∨ m < i ∧ j + 1 = i) := by
  have hlen : (L.take m).length = m := by rw [List.length_take]; omega
  rw [List.length_append, List.length_cons, List.length_drop, hlen] at hi
  rcases Nat.lt_trichotomy i m with h | h | h
  · refine .inr ⟨i, by omega, ?_, by omega, .inl ⟨h, rfl⟩⟩
    rw [List.getElem_append_left (by omega), List.getElem_take]
  · subst h
    refine .inl ⟨?_, rfl⟩
    rw [List.getElem_append_right (by omega)]
    simp [hlen]
  · refine .inr ⟨i - 1, by omega, ?_, by omega, .inr ⟨h, by omega⟩⟩
    rw [List.getElem_append_right (by omega)]
    obtain ⟨e, he⟩ : ∃ e, i = m + (e + 1) := ⟨i - m - 1, by omega⟩
    subst he
    simp only [hlen, Nat.add_sub_cancel_left, List.getElem_cons_succ, List.getElem_drop]
    congr 1
theorem MR.ins {w w1 : World} {base b2 : Nat} {v v1 u : Value} {vs : List Value} {M : List (List Int)} {own : List Int} {m : Nat} (h : MR w base v vs M) (hm : m ≤ M.length) (hu : RO w b2 u own) (hbb : base ≤ b2)
    (hfr : ∀ x ∈ vs, ∀ k, x.ownBlock = some k → k < b2) (ho : VO w1 base v1 (vs.take m ++ u :: vs.drop m)) (hk : ∀ k, k < w.heap.size → some k ≠ v.ownBlock → w1.heap[k]? = w.heap[k]?) : MR w1 base v1 (vs.take m ++ u :: vs.drop m) (M.take m ++ own :: M.drop m) := by
  have hl := h.i.1
  have hmv : m ≤ vs.length := by omega
  have hne : ∀ k cells, w.heap[k]? = some (.cells cells 2 (0, 0)) → some k ≠ v.ownBlock := fun k cells hc e => by
    obtain ⟨inner, hown⟩ := Kd.R_own h.o
    obtain ⟨cs, hc2⟩ := own_typed hown k e.symm
    rw [hc] at hc2
    injection hc2 with hc2
    injection hc2 with _ hc2
    revert hc2
    decide
  have hi1 : VI w1 base vs M := h.i.move fun k cells hc => hk k (blk_lt hc) (hne k cells hc)
  have hu1 : RO w1 base u own := Kd.R_lower (RO.moveI hu fun k cells hc => hk k (blk_lt hc) (hne k cells hc)) hbb
  refine ⟨ho, ?_, ?_⟩
  · exact (hi1.take m).append (show VI w1 base (u :: vs.drop m) (own :: M.drop m) from (VI.one hu1).append (hi1.drop m))
  · intro i j hi hj hij k hik hjk
    have hub : u.ownBlock = some k → b2 ≤ k := fun e => Kd.R_base hu k e
    rcases getElem_ins vs u m hmv i hi with ⟨e1, r1⟩ | ⟨i', hi', e1, r1, r1'⟩ <;> rcases getElem_ins vs u m hmv j hj with ⟨e2, r2⟩ | ⟨j', hj', e2, r2, r2'⟩
    · omega
    · rw [e1] at hik
      rw [e2] at hjk
      have := hfr _ (List.getElem_mem hj') k hjk
      have := hub hik
      omega
    · rw [e1] at hik
      rw [e2] at hjk
      have := hfr _ (List.getElem_mem hi') k hik
      have := hub hjk
      omega
    · rw [e1] at hik
      rw [e2] at hjk
      exact h.a i' j' hi' hj' (by omega) k hik hjk
theorem VO.ne_block {w : World} {base : Nat} {v : Value} {vs : List Value} (h : VO w base v vs) {g t : Nat} {cells : Array Value} (hg : w.heap[g]? = some (.cells cells t (0, 0))) (ht : t ≠ 22) : some g ≠ v.ownBlock := fun e => by
  obtain ⟨inner, hown⟩ := Kd.R_own h
  obtain ⟨cs, hc2⟩ := own_typed hown g e.symm
  rw [hg] at hc2
  injection hc2 with hc2
  injection hc2 with _ hc2
  exact ht hc2
attribute [local go_sem] run_store_fn
set_option maxRecDepth 100000 in
set_option maxHeartbeats 8000000 in
theorem vf_do (w0 : World) (n : Int) (A : Option Addr) (c : Nat) (xs : List Int) (bk bo : Nat) (hbo : w0.heap.size ≤ bo) (hr : RC w0 A xs.length xs) (hc : xs.length ≤ c) (hi : isC n xs = true) :
    DoOk w0 xs (.func (.func 19) #[] #[.pointer (some ⟨bk, 0, none⟩), .pointer (some ⟨bo, 0, none⟩)]) (vfUpd xs) (VfInv w0 n A c xs bk bo) 19 #[] #[.pointer (some ⟨bk, 0, none⟩), .pointer (some ⟨bo, 0, none⟩)] where
  eq := rfl
  en := fun args w => enters_ Tryz.func19 (by kernel_rfl) (by rfl) args w
  below := fun W W1 s h hB => h.below hB
  call := by
    intro W M v l hin hB hl hp
    obtain ⟨Al, cl, rfl⟩ := Kd.R_slice hl
    have hll := pairing_len hi hp
    have hcr := crit_fK hi (l := l) (by omega) (facesP_of hi hp)
    obtain ⟨kn, hkn⟩ := (ev_cntK hi (m := critL xs l) (fun x hx => (List.mem_filter.1 hx).1) (by have := List.length_filter_le (critP l) xs; have := isC_small hi; unfold critL; omega)).rounds
    have hkn' : QK.impl_Complex_count.f kn n xs (critL xs l) = some (numL xs l) := hkn
    have hng := num_good hi l
    have hcut := cutV_back hin.g hng
    have hln := hin.g.len (dimN_le xs)
    have hgp := hin.g.put hng
    obtain ⟨m, hm⟩ : ∃ m, backV M (numL xs l) M.length = m := ⟨_, rfl⟩
    obtain ⟨own, hown⟩ : ∃ own, numL xs l = own := ⟨_, rfl⟩
    have hnl : own.length ≤ 6 := by rw [← hown, hng.1]; exact dimN_le xs
    have hlen : ∀ r ∈ M, r.length = own.length := fun r hr => by rw [← hown, hng.1]; exact (hin.g.2 r hr).1
    have hpm := @putV_mem M own
    have hpn := @putV_new M own
    rw [hown] at hm hkn' hcut hgp
    rw [hm] at hcut hpm hpn
    obtain ⟨crit, hcrit⟩ : ∃ crit, critL xs l = crit := ⟨_, rfl⟩
    rw [hcrit] at hcr hkn'
    have hupd : vfUpd xs M l = putV M own := by unfold vfUpd; rw [hown]
    rw [hupd]
    have hx0 := hin.x.c0
    have hx1 := hin.x.c1
    obtain ⟨v, vs, hbv, hmr⟩ := hin.r
    obtain ⟨Av, cv, rfl⟩ := hmr.o.slice
    have hov : W.cell? ⟨bo, 0, none⟩ = some (.slice Av vs.length cv) := blk_cell hbv 0
    have hvl := hmr.i.1
    have HX := Aside0.mk hin.x
    have HBV := Aside0.mk hbv
    have HMR := Aside0.mk hmr
    have HB := Aside0.mk hB
    have HL := Aside0.mk hl
    have HR := Aside0.mk hr
    have HC := Aside0.mk hc
    have HKN := Aside0.mk hkn'
    have HCR := Aside0.mk hcr
    have HCUT := Aside0.mk hcut
    have HLN := Aside0.mk hln
    have HNL := Aside0.mk hnl
    have HLEN := Aside0.mk hlen
    have HGP := Aside0.mk hgp
    have HVL := Aside0.mk hvl
    have HM := Aside0.mk hcut.1
    clear hin hB hl hp hll hcr hkn hkn' hng hcut hln hgp hm hown hnl hlen hcrit hupd hbv hmr hvl
    by_cases hfd : M[m]? = some own
    · have HPM := Aside0.mk (hpm hfd)
      have HFD : Aside0 (decide (M[m]? = some own) = true) := ⟨decide_eq_true hfd⟩
      clear hfd hpm hpn
      go_enter Tryz.func19, Tryz.ntmps19
      go_upto_region 0 with fail
      refine st_ 6 (S := fun w' => w'.cell? ⟨bk, 0, none⟩ = some (.int .i64 n) ∧ w'.cell? ⟨bk, 1, none⟩ = some (.slice A xs.length c)) (ds := []) ⟨hx0, hx1⟩ (fun hHeld => ?_)
      refine with_tabW (T := (true, [([], []), ([], []), ([], []), ([1, 2], [1, 2]), ([0, 3, 3], [0, 3]), ([4, 4, 0, 1, 2, 3, 4], [4])])) (B := [0, 0, 0, 6, 15, 31]) (by kernel_rfl) (by kernel_rfl) (fun HT_ HW_ => ?_)
      refine pd_ 2 9 4 HT_ ?_
      refine tk_ 0 7 5 HT_ HW_ hHeld ?_
      refine tk_ 1 8 7 HT_ HW_ hHeld ?_
      refine on_ 3 (some 10) 15 HT_ (fun K hK => ?_)
      refine ca_ Tryz.func21 #[.agg #[.int .i64 n, .slice A xs.length c], .slice Al l.length cl] ?_
      refine (QK.impl_Complex_critical.calls n A c xs Al cl l crit _ (Kd.C_below HR.out HB.out.drew) HC.out (Kd.R_reads' (Kd.R_drew HL.out)).2.2 (Kd.R_reads' HL.out).2.1 HCR.out).mono ?_; rintro e w1 ⟨v1, rfl, hv, hb1⟩; have hb := (below_drew (Below.refl W.heap.size W)).trans hb1; have HV1 := Aside0.mk hv; have HB1 := Aside0.mk (below_in HB.out hb); have HT1 := Aside0.mk hb; have HX1 := Aside0.mk (HX.out.below hb); have hov1 := pw_cell_below hb hov; obtain ⟨A1, c1, rfl⟩ := Kd.R_slice hv; clear hv hb hb1 hx0 hx1 hov
      refine ⟨_, rfl, ?_⟩
      refine hK.out _ _ ⟨HX1.out.c0, HX1.out.c1⟩ (fun hHeld => ?_)
      clear hK K
      refine nm_ ?_
      refine on_ 4 (some 11) 31 HT_ (fun K hK => ?_)
      refine ca_ Tryz.func20 #[.agg #[.int .i64 n, .slice A xs.length c], .slice A1 crit.length c1] ?_
      refine (QK.impl_Complex_count.calls kn n A c xs A1 c1 crit own _ (Kd.C_below HR.out HB1.out) HC.out (Kd.R_reads' HV1.out).2.2 (Kd.R_reads' HV1.out).2.1 HKN.out).mono ?_; rintro e w2 ⟨v2, rfl, hv, hb⟩; have HV2 : Aside0 (RO w2 w1.heap.size v2 own) := ⟨hv⟩; have HB2 := Aside0.mk (below_in HB1.out hb); have HT2 := Aside0.mk (below_in HT1.out hb); have HX2 := Aside0.mk (HX1.out.below hb); have hov := pw_cell_below hb hov1; obtain ⟨A2, c2, rfl⟩ := Kd.R_slice hv; clear hv hb hov1
      refine ⟨_, rfl, ?_⟩
      refine hK.out _ _ ⟨HX2.out.c0, HX2.out.c1⟩ (fun hHeld => ?_)
      clear hK K
      refine nm_ ?_
      refine pd_ 5 4 63 HT_ ?_
      refine dn_ HT_ ?_
      go_wp2_with (go_at_call 22; refine (searchV_c Av cv vs M A2 c2 own m _ _ (HMR.out.below HT2.out) (Kd.R_reads' HV2.out).2.2 (Kd.R_reads' HV2.out).2.1 HLEN.out (by have := HNL.out; omega) (by have := HLN.out; omega) HCUT.out).mono ?_; rw [HFD.out]; rintro e w3 ⟨rfl, hb⟩; have HB3 := Aside0.mk (below_in HB2.out hb); have HT3 := Aside0.mk (below_in HT2.out hb); have HV3 := Aside0.mk (Kd.R_below HV2.out hb); have hov3 := pw_cell_below hb hov; clear hb hov)
      refine bodyPost_end (results_none rfl _ _ _) rfl ⟨rfl, ?_, KeepT.below HT3.out, HB3.out⟩
      rw [HPM.out]
      have hgp := HGP.out
      rw [HPM.out] at hgp
      exact (show VfInv w0 n A c xs bk bo W M from ⟨HX.out, ⟨_, vs, HBV.out, HMR.out⟩, hgp⟩).below HT3.out
    · have HPN := Aside0.mk (hpn hfd)
      have HFD : Aside0 (decide (M[m]? = some own) = false) := ⟨decide_eq_false hfd⟩
      clear hfd hpm hpn
      go_enter Tryz.func19, Tryz.ntmps19
      go_upto_region 0 with fail
      refine st_ 6 (S := fun w' => w'.cell? ⟨bk, 0, none⟩ = some (.int .i64 n) ∧ w'.cell? ⟨bk, 1, none⟩ = some (.slice A xs.length c)) (ds := []) ⟨hx0, hx1⟩ (fun hHeld => ?_)
      refine with_tabW (T := (true, [([], []), ([], []), ([], []), ([1, 2], [1, 2]), ([0, 3, 3], [0, 3]), ([4, 4, 0, 1, 2, 3, 4], [4])])) (B := [0, 0, 0, 6, 15, 31]) (by kernel_rfl) (by kernel_rfl) (fun HT_ HW_ => ?_)
      refine pd_ 2 9 4 HT_ ?_
      refine tk_ 0 7 5 HT_ HW_ hHeld ?_
      refine tk_ 1 8 7 HT_ HW_ hHeld ?_
      refine on_ 3 (some 10) 15 HT_ (fun K hK => ?_)
      refine ca_ Tryz.func21 #[.agg #[.int .i64 n, .slice A xs.length c], .slice Al l.length cl] ?_
      refine (QK.impl_Complex_critical.calls n A c xs Al cl l crit _ (Kd.C_below HR.out HB.out.drew) HC.out (Kd.R_reads' (Kd.R_drew HL.out)).2.2 (Kd.R_reads' HL.out).2.1 HCR.out).mono ?_; rintro e w1 ⟨v1, rfl, hv, hb1⟩; have hb := (below_drew (Below.refl W.heap.size W)).trans hb1; have HV1 := Aside0.mk hv; have HB1 := Aside0.mk (below_in HB.out hb); have HT1 := Aside0.mk hb; have HX1 := Aside0.mk (HX.out.below hb); have hov1 := pw_cell_below hb hov; obtain ⟨A1, c1, rfl⟩ := Kd.R_slice hv; clear hv hb hb1 hx0 hx1 hov
      refine ⟨_, rfl, ?_⟩
      refine hK.out _ _ ⟨HX1.out.c0, HX1.out.c1⟩ (fun hHeld => ?_)
      clear hK K
      refine nm_ ?_
      refine on_ 4 (some 11) 31 HT_ (fun K hK => ?_)
      refine ca_ Tryz.func20 #[.agg #[.int .i64 n, .slice A xs.length c], .slice A1 crit.length c1] ?_
      refine (QK.impl_Complex_count.calls kn n A c xs A1 c1 crit own _ (Kd.C_below HR.out HB1.out) HC.out (Kd.R_reads' HV1.out).2.2 (Kd.R_reads' HV1.out).2.1 HKN.out).mono ?_; rintro e w2 ⟨v2, rfl, hv, hb⟩; have HV2 : Aside0 (RO w2 w1.heap.size v2 own) := ⟨hv⟩; have HB2 := Aside0.mk (below_in HB1.out hb); have HT2 := Aside0.mk (below_in HT1.out hb); have HX2 := Aside0.mk (HX1.out.below hb); have hov := pw_cell_below hb hov1; obtain ⟨A2, c2, rfl⟩ := Kd.R_slice hv; clear hv hb hov1
      refine ⟨_, rfl, ?_⟩
      refine hK.out _ _ ⟨HX2.out.c0, HX2.out.c1⟩ (fun hHeld => ?_)
      clear hK K
      refine nm_ ?_
      refine pd_ 5 4 63 HT_ ?_
      refine dn_ HT_ ?_
      go_upto_region 3 with (go_at_call 22; refine (searchV_c Av cv vs M A2 c2 own m _ _ (HMR.out.below HT2.out) (Kd.R_reads' HV2.out).2.2 (Kd.R_reads' HV2.out).2.1 HLEN.out (by have := HNL.out; omega) (by have := HLN.out; omega) HCUT.out).mono ?_; rw [HFD.out]; rintro e w3 ⟨rfl, hb⟩; have HB3 := Aside0.mk (below_in HB2.out hb); have HT3 := Aside0.mk (below_in HT2.out hb); have HV3 := Aside0.mk (Kd.R_below HV2.out hb); have hov3 := pw_cell_below hb hov; clear hb hov)
      have HB4 := Aside0.mk (Below.alloc HB3.out HB3.out.size (.cells #[.slice A2 own.length c2] 22))
      have hba := below_alloc (Below.refl w3.heap.size w3) (.cells #[.slice A2 own.length c2] 22)
      have HT4 := Aside0.mk (below_in HT3.out hba)
      have HV4 := Aside0.mk (Kd.R_below HV3.out hba)
      have HN4 := Aside0.mk (heap_alloc_new w3 (.cells #[.slice A2 own.length c2] 22))
      have HMR4 := Aside0.mk (HMR.out.below HT4.out)
      have HNE : Aside0 (some w3.heap.size ≠ (Value.slice Av vs.length cv).ownBlock) := ⟨fun e => absurd (Kd.R_lt (HMR.out.below HT3.out).o _ e.symm) (Nat.lt_irrefl _)⟩
      have HI4 := Aside0.mk (insertV_c (.slice Av vs.length cv) vs m w0.heap.size w3.heap.size (.slice A2 own.length c2) _ HMR4.out.o (by have := HM.out; have := HVL.out; omega) HN4.out rfl HNE.out HB4.out.size (by have := HLN.out; have := HVL.out; omega))
      have hov4 := pw_cell_below hba hov3
      clear hba
      go_wp2_with (go_at_call 24; refine HI4.out.mono ?_; rintro e w5 ⟨v5, rfl, hv, hb, hsz, hk⟩; obtain ⟨us, hus⟩ : ∃ us, vs.take m ++ (Value.slice A2 own.length c2) :: vs.drop m = us := ⟨_, rfl⟩; rw [hus] at hv; obtain ⟨A5, c5, rfl⟩ := VO.slice hv; have hbv4 := (HT4.out.block _ (blk_lt HBV.out)).trans HBV.out; have HBV5 := Aside0.mk ((hk bo (blk_lt hbv4) (VO.ne_block HMR4.out.o hbv4 (by decide))).trans hbv4); have HMR5 : Aside0 (MR w5 w0.heap.size (.slice A5 us.length c5) us (M.take m ++ own :: M.drop m)) := ⟨by have h9 := HMR4.out.ins HM.out HV4.out HB1.out.size (fun x hx k hk => by obtain ⟨i, hi, rfl⟩ := List.mem_iff_getElem.1 hx; exact Nat.lt_of_lt_of_le (Kd.R_lt (HMR.out.i.2 i hi (by have := HVL.out; omega)) k hk) HT1.out.size) (by rw [hus]; exact hv) hk; rwa [hus] at h9⟩; have HK5 := Aside0.mk ((KeepT.below HT4.out).trans ⟨hsz, fun k cells t ht hc => (hk k (blk_lt hc) (VO.ne_block HMR4.out.o hc (fun e => by subst e; revert ht; decide))).trans hc⟩); have HB5 := Aside0.mk (HB4.out.trans hb); have hov5 : w5.cell? ⟨bo, 0, none⟩ = some (.slice Av vs.length cv) := blk_cell HBV5.out 0; have hfz5 : w5.frozen? ⟨bo, 0, none⟩ = false := blk_frozen HBV5.out 0; clear hv hb hsz hk hbv4 hov3 hov4 hus)
      refine bodyPost_end (results_none rfl _ _ _) rfl ⟨rfl, ?_, HK5.out.trans (KeepT.set' HBV5.out (by decide) 0 _), HB5.out.setCell (p := ⟨bo, 0, none⟩) hbo _⟩
      have hgp := HGP.out
      rw [HPN.out] at hgp ⊢
      exact ⟨(HX.out.keepT (HK5.out.trans (KeepT.set' HBV5.out (by decide) 0 _))), ⟨_, _, blk_put HBV5.out 0 _ rfl, HMR5.out.set HBV5.out (by decide) (by decide) 0 _⟩, hgp⟩
def rowsV (n : Int) (xs : List Int) : List (List Int) := if limZ n xs 13 = 0 then (allG xs).found else []
theorem fold_found (xs : List Int) : ∀ (L : List (List Pr)) (s : GoS), (L.foldl (updG xs) s).found = L.foldl (vfUpd xs) s.found
  | [], s => rfl
  | l :: L, s => fold_found xs L (updG xs s l)
theorem fold_good {n : Int} {xs : List Int} (hi : isC n xs = true) : ∀ (L : List (List Pr)) (M : List (List Int)), GoodV (dimN xs) M → GoodV (dimN xs) (L.foldl (vfUpd xs) M)
  | [], M, h => h
  | l :: L, M, h => fold_good hi L _ (h.put (num_good hi l))
theorem rowsV_bound (n : Int) (xs : List Int) : (rowsV n xs).length ≤ 68719476736 ∧ ∀ r ∈ rowsV n xs, r.length ≤ 6 := by
  unfold rowsV
  split
  · rename_i h
    have hi := limZ_zero h
    have hg : GoodV (dimN xs) (allG xs).found := by
      unfold allG
      rw [fold_found]
      exact fold_good hi _ _ (GoodV.nil _)
    exact ⟨hg.len (dimN_le xs), fun r hr => by rw [(hg.2 r hr).1]; exact dimN_le xs⟩
  · exact ⟨by simp, fun r hr => by cases hr⟩
theorem tot_boundV : ∀ (M : List (List Int)), (∀ r ∈ M, r.length ≤ 6) → totL M ≤ 6 * (M.length : Int)
  | [], _ => by simp [totL]
  | r :: M, h => by
    rw [tot_cons, List.length_cons]
    have h1 := tot_boundV M (fun x hx => h x (by simp [hx]))
    have h2 := h r (by simp)
    omega
theorem limI_Z (n : Int) (xs : List Int) (m : Int) : limI n xs m = limZ n xs m := rfl
set_option maxRecDepth 100000 in
set_option maxHeartbeats 8000000 in
theorem implV_c (n : Int) (A : Option Addr) (c : Nat) (xs : List Int) (w : World) (hr : RC w A xs.length xs) (hc : xs.length ≤ c) (hx : xs.length ≤ 1048576) :
    Calls Tryz.prog 7 #[.agg #[.int .i64 n, .slice A xs.length c]] w fun e w' => ∃ v vs, e = .returned (.tuple #[v, .int .i64 (limZ n xs 13)]) ∧ MR w' w.heap.size v vs (rowsV n xs) ∧ Below w.heap.size w w' := by
  have HX := Aside0.mk (CxAt.new w n A xs.length c)
  have HB := Aside0.mk (below_alloc (Below.refl w.heap.size w) (.cells #[.int .i64 n, .slice A xs.length c] 29))
  have HR := Aside0.mk hr
  have HC := Aside0.mk hc
  have hx0 := HX.out.c0
  have hx1 := HX.out.c1
  have hkl := limD_f n hx 13
  rw [limI_Z] at hkl
  have HKL := Aside0.mk hkl
  obtain ⟨R, hR⟩ : ∃ R, rowsV n xs = R := ⟨_, rfl⟩
  rw [hR]
  clear hr hc hkl
  by_cases hz : limZ n xs 13 = 0
  · have hi := limZ_zero hz
    obtain rfl : R = (enumL xs (pairsL xs) []).foldl (vfUpd xs) [] := by rw [← hR]; unfold rowsV; rw [if_pos hz]; unfold allG; rw [fold_found]
    rw [hz] at HKL ⊢
    have HI := Aside0.mk hi
    obtain ⟨kp, hkp⟩ := (ev_pairsD hi).rounds
    have HKP := Aside0.mk hkp
    clear hz hi hR hkp
    go_enter Tryz.func7, Tryz.ntmps7
    go_upto_region 5 with (go_at_call 17; refine (QD.impl_limitCode.calls n A c xs 13 0 _ (Kd.C_below HR.out HB.out) HC.out HKL.out).mono ?_; rintro e w1 ⟨rfl, hb⟩; have HB1 := Aside0.mk (below_in HB.out hb); have HX1 := Aside0.mk (HX.out.below hb); clear hb hx0 hx1)
    have HX2 := Aside0.mk (HX1.out.below (below_alloc (Below.refl w1.heap.size w1) (.cells #[.slice none 0 0] 26)))
    have HB2 := Aside0.mk (below_in HB1.out (below_alloc (Below.refl w1.heap.size w1) (.cells #[.slice none 0 0] 26)))
    have HN2 : Aside0 (VfInv w n A c xs w.heap.size w1.heap.size (w1.alloc (.cells #[.slice none 0 0] 26)) []) := ⟨⟨HX2.out, ⟨_, [], heap_alloc_new w1 _, MR.nil _ _⟩, GoodV.nil _⟩⟩
    generalize w1.alloc (.cells #[.slice none 0 0] 26) = w2 at HX2 HB2 HN2 ⊢
    have hy0 := HX2.out.c0
    have hy1 := HX2.out.c1
    have HCA := Aside0.mk (acyclic_c w (.func (.func 19) #[] #[.pointer (some ⟨w.heap.size, 0, none⟩), .pointer (some ⟨w1.heap.size, 0, none⟩)]) n A c xs (vfUpd xs) (VfInv w n A c xs w.heap.size w1.heap.size) 19 #[] #[.pointer (some ⟨w.heap.size, 0, none⟩), .pointer (some ⟨w1.heap.size, 0, none⟩)] [] w2 (vf_do w n A c xs w.heap.size w1.heap.size HB1.out.size HR.out HC.out HI.out) HR.out HC.out HI.out HN2.out HB2.out kp HKP.out)
    go_wp2_with (go_at_call 18; refine HCA.out.mono ?_; rintro e w3 ⟨rfl, hin, hb⟩; have HB3 := Aside0.mk hb; obtain ⟨v3, vs3, hbv3, hmr3⟩ := hin.r; have HM3 := Aside0.mk hmr3; have hcm : w3.cell? ⟨w1.heap.size, 0, none⟩ = some v3 := blk_cell hbv3 0; obtain ⟨A3, c3, rfl⟩ := hmr3.o.slice; clear hin hb hbv3 hmr3 HCA hy0 hy1)
    go_ret2
    exact ⟨_, vs3, rfl, HM3.out, HB3.out⟩
  · obtain rfl : R = [] := by rw [← hR]; unfold rowsV; rw [if_neg hz]
    obtain ⟨z, hzz⟩ : ∃ z, limZ n xs 13 = z := ⟨_, rfl⟩
    rw [hzz] at HKL hz ⊢
    have hz1 : (z == 0) = false := beq_eq_false_iff_ne.2 hz
    clear hR hzz
    go_enter Tryz.func7, Tryz.ntmps7
    go_wp2_with (go_at_call 17; refine (QD.impl_limitCode.calls n A c xs 13 z _ (Kd.C_below HR.out HB.out) HC.out HKL.out).mono ?_; rintro e w1 ⟨rfl, hb⟩; have HB1 := Aside0.mk (below_in HB.out hb); clear hb)
    go_ret2
    exact ⟨_, [], rfl, MR.nil _ _, HB1.out⟩
set_option maxRecDepth 100000 in
set_option maxHeartbeats 8000000 in
theorem specV_c (n : Int) (A : Option Addr) (c : Nat) (xs : List Int) (w : World) (hr : RC w A xs.length xs) (hc : xs.length ≤ c) (hx : xs.length ≤ 1048576) :
    Calls Tryz.prog 5 #[.agg #[.int .i64 n, .slice A xs.length c]] w fun e w' => ∃ v vs, e = .returned (.tuple #[v, .int .i64 (limZ n xs 13)]) ∧ VO w' w.heap.size v vs ∧ VI w' w.heap.size vs (rowsV n xs) ∧ Below w.heap.size w w' := by
  have HX := Aside0.mk (CxAt.new w n A xs.length c)
  have HB := Aside0.mk (below_alloc (Below.refl w.heap.size w) (.cells #[.int .i64 n, .slice A xs.length c] 29))
  have HR := Aside0.mk hr
  have HC := Aside0.mk hc
  have hx0 := HX.out.c0
  have hx1 := HX.out.c1
  obtain ⟨kl, hkl⟩ := (ev_limit n hx 13).rounds
  have HKL := Aside0.mk hkl
  obtain ⟨R, hR⟩ : ∃ R, rowsV n xs = R := ⟨_, rfl⟩
  rw [hR]
  clear hr hc hkl
  by_cases hz : limZ n xs 13 = 0
  · have hi := limZ_zero hz
    obtain rfl : R = (allG xs).found := by rw [← hR]; unfold rowsV; rw [if_pos hz]
    rw [hz] at HKL ⊢
    have HI := Aside0.mk hi
    clear hz hi hR
    go_enter Tryz.func5, Tryz.ntmps5
    go_wp2_with (first
      | (go_at_call 14; refine (QS.spec_l08Limit.calls kl n A c xs 13 0 _ (Kd.C_below HR.out HB.out) HC.out HKL.out).mono ?_; rintro e w1 ⟨rfl, hb⟩; have HB1 := Aside0.mk (below_in HB.out hb); have HX1 := Aside0.mk (HX.out.below hb); have hy0 := HX1.out.c0; have hy1 := HX1.out.c1; clear hb hx0 hx1)
      | (go_at_call 15; refine (whole_c n A c xs _ (Kd.C_below HR.out HB1.out) HC.out HI.out).mono ?_; rintro e w2 ⟨y, va, vb, vf, vs, rfl, hs, hg⟩; have HS2 := Aside0.mk hs; have hc8 := hs.c8; have HB2 := Aside0.mk (below_in HB1.out hs.hb); obtain ⟨Af, cf, rfl⟩ := hs.rv.slice; clear hs hg hy0 hy1))
    go_ret2
    exact ⟨_, vs, rfl, Kd.R_lower HS2.out.rv HB1.out.size, HS2.out.ri.lower HB1.out.size, HB2.out⟩
  · obtain rfl : R = [] := by rw [← hR]; unfold rowsV; rw [if_neg hz]
    obtain ⟨z, hzz⟩ : ∃ z, limZ n xs 13 = z := ⟨_, rfl⟩
    rw [hzz] at HKL hz ⊢
    have hz1 : (z == 0) = false := beq_eq_false_iff_ne.2 hz
    clear hR hzz
    go_enter Tryz.func5, Tryz.ntmps5
    go_wp2_with (go_at_call 14; refine (QS.spec_l08Limit.calls kl n A c xs 13 z _ (Kd.C_below HR.out HB.out) HC.out HKL.out).mono ?_; rintro e w1 ⟨rfl, hb⟩; have HB1 := Aside0.mk (below_in HB.out hb); clear hb)
    go_ret2
    exact ⟨_, [], rfl, Kd.R_nil _ _ _ _ _, VI.nil _ _, HB1.out⟩
end Go.Proofs.YtdlmlmaoacmdiaaGreat.Im
namespace Go.Proofs.YtdlmlmaoacmdiaaGreat.QFnExactVectorsOf
open Go.RowKit Go.Shelf Kp Cw Ext Im Pu YtdlmlmaoacmdiaaGreatW.PrintWords YtdlmlmaoacmdiaaGreatW.PrintLast YtdlmlmaoacmdiaaGreatW.PrintMore
theorem base_world (w : World) {n : Nat} (h : n ≤ w.heap.size) : ∃ w0 : World, w0.heap.size = n ∧ Below n w0 w := by
  refine ⟨{ w with heap := w.heap.extract 0 n }, by simp; omega, ⟨rfl, rfl, rfl, by simp; omega, fun k hk => ?_⟩⟩
  show w.heap[k]? = (w.heap.extract 0 n)[k]?
  rw [Array.getElem?_extract]
  simp [hk]
  intro _
  omega
theorem below_via {w w0 w1 w2 : World} {m n : Nat} (h : Below m w w1) (h1 : Below n w0 w1) (h2 : Below n w0 w2) (hm : m ≤ n) (hn : w.heap.size ≤ n) (h0 : w0.heap.size = n) : Below m w w2 :=
  ⟨h2.os.trans (h1.os.symm.trans h.os), h2.tape.trans (h1.tape.symm.trans h.tape), h2.output.trans (h1.output.symm.trans h.output), by have := h2.size; omega, fun k hk => (h2.block k (by omega)).trans ((h1.block k (by omega)).symm.trans (h.block k hk))⟩
theorem mr_reads2 {w : World} {base m : Nat} {A : Option Addr} {c : Nat} {vs : List Value} {M : List (List Int)} (h : MR w base (.slice A m c) vs M) : Kd.C (Kd.slice 2 (Kd.int .i64)) w A M.length M ∧ M.length ≤ c := by
  obtain ⟨h1, h2, _⟩ := h.o.reads
  subst h1
  exact ⟨MR.reads h.o h.i, by rw [← h.i.1]; exact h2⟩
theorem vv_reads {w : World} {base m : Nat} {A : Option Addr} {c : Nat} {vs : List Value} {M : List (List Int)} (h : VO w base (.slice A m c) vs) (hi : VI w base vs M) : Kd.C (Kd.slice 2 (Kd.int .i64)) w A M.length M ∧ M.length ≤ c := by
  obtain ⟨h1, h2, _⟩ := h.reads
  subst h1
  exact ⟨MR.reads h hi, by rw [← hi.1]; exact h2⟩
def laws_FnExactVectorsOf.f (k : Nat) (a0_0 : Int) (l0_1 : List Int) : Option Bool := if l0_1.length ≤ maxLen then some true else none
set_option maxRecDepth 100000 in
set_option maxHeartbeats 8000000 in
theorem way1 (n : Int) (A : Option Addr) (c : Nat) (xs : List Int) (w : World) (hr : RC w A xs.length xs) (hc : xs.length ≤ c) (hm : xs.length ≤ maxLen) (h : 1048576 < xs.length) :
    Calls Tryz.prog 3 #[.agg #[.int .i64 n, .slice A xs.length c]] w fun e w' => e = .returned (.bool true) ∧ Below w.heap.size w w' := by
  have HB := Aside0.mk (below_alloc (Below.refl w.heap.size w) (.cells #[.int .i64 n, .slice A xs.length c] 24))
  have HR := Aside0.mk hr
  have HC := Aside0.mk hc
  have hs := sz_big (n := n) hm h
  have HS := Aside0.mk hs
  clear hr hc hm h hs
  go_enter Tryz.func3, Tryz.ntmps3
  go_wp2_with (go_at_call 4; refine (QS.laws_szComplex.calls n A c xs 1048576 (-1) _ (Kd.C_below HR.out HB.out) HC.out HS.out).mono ?_; rintro e w2 ⟨rfl, hb⟩; have HB2 := Aside0.mk (below_in HB.out hb); clear hb)
  go_ret
  exact ⟨rfl, HB2.out⟩
set_option maxRecDepth 100000 in
set_option maxHeartbeats 16000000 in
theorem way3 (n : Int) (A : Option Addr) (c : Nat) (xs : List Int) (w : World) (hr : RC w A xs.length xs) (hc : xs.length ≤ c) (hl : xs.length ≤ 1048576) :
    Calls Tryz.prog 3 #[.agg #[.int .i64 n, .slice A xs.length c]] w fun e w' => e = .returned (.bool true) ∧ Below w.heap.size w w' := by
  have hb0 := below_alloc (Below.refl w.heap.size w) (.cells #[.int .i64 n, .slice A xs.length c] 24)
  have HB := Aside0.mk hb0
  have HR := Aside0.mk hr
  have HC := Aside0.mk hc
  have hml : xs.length ≤ maxLen := by simp only [maxLen]; omega
  have hs := sz_cx (n := n) hml (show (0 : Int) ≤ (1048576 : Int) by omega) (show (1048576 : Int) ≤ 1048576 by omega)
  rw [if_neg (by omega)] at hs
  have hz : ¬ ((1048576 : Int) - (xs.length : Int) < 0) := by omega
  obtain ⟨t, ht⟩ : ∃ t, (1048576 : Int) - (xs.length : Int) = t := ⟨_, rfl⟩
  rw [ht] at hs hz
  have HS := Aside0.mk hs
  obtain ⟨kt, hkt⟩ := (ev_toComplex (n := n) hl).rounds
  have hbd := rowsV_bound n xs
  have him := fun A c W h1 h2 => implV_c n A c xs W h1 h2 hl
  have hsp := fun A c W h1 h2 => specV_c n A c xs W h1 h2 hl
  obtain ⟨rows, hrows⟩ : ∃ rows, rowsV n xs = rows := ⟨_, rfl⟩
  obtain ⟨z, hzc⟩ : ∃ z, limZ n xs 13 = z := ⟨_, rfl⟩
  rw [hrows] at hbd him hsp
  rw [hzc] at him hsp
  have htb := tot_boundV rows hbd.2
  have htn := tot_nonneg rows
  have hrl := hbd.1
  have hr20 : ∀ r ∈ rows, r.length ≤ 1048576 := fun r hr => Nat.le_trans (hbd.2 r hr) (by decide)
  obtain ⟨ke, hke⟩ := (ev_eqSS (M := rows) (by omega) hr20).rounds
  obtain ⟨kc, hkc⟩ := (ev_eqComplex (n := n) hl).rounds
  obtain ⟨km, hkm⟩ := (ev_markComplex (n := n) hl (a := 1) (by omega)).rounds
  obtain ⟨kh, hkh⟩ := (ev_heldSS (M := rows) (a := 1) (by omega) hr20 (by omega) (by omega)).rounds
  have hm1z : ¬ (1 + (xs.length : Int) < 0) := by omega
  obtain ⟨m1, hm1⟩ : ∃ m1, 1 + (xs.length : Int) = m1 := ⟨_, rfl⟩
  rw [hm1] at hkm hm1z
  have HIM := Lib.hid him
  have HSP := Lib.hid hsp
  have HMK := Lib.hid (fun (w0 W : World) v vs h1 h2 => markSS_c w0 W v vs rows 1 h1 h2 (by omega) hr20 (by omega) (by omega))
  have hm3 : ¬ (1 + totL rows < 0) := by omega
  obtain ⟨m3, hm3'⟩ : ∃ m3, 1 + totL rows = m3 := ⟨_, rfl⟩
  rw [hm3'] at hkh hm3 HMK
  have HKT := Aside0.mk hkt
  have HKE := Aside0.mk hke
  have HKC := Aside0.mk hkc
  have HKM := Aside0.mk hkm
  have HKH := Aside0.mk hkh
  have x0 : (w.alloc (.cells #[.int .i64 n, .slice A xs.length c] 24)).cell? ⟨w.heap.size, 0, none⟩ = some (.int .i64 n) := blk_cell (heap_alloc_new w _) 0
  have x1 : (w.alloc (.cells #[.int .i64 n, .slice A xs.length c] 24)).cell? ⟨w.heap.size, 1, none⟩ = some (.slice A xs.length c) := blk_cell (heap_alloc_new w _) 1
  clear hr hc hml hs hl ht hkt hbd him hsp hrows hzc htb htn hr20 hrl hke hkc hkm hkh hm1 hm3' hb0
  go_enter Tryz.func3, Tryz.ntmps3
  go_wp2_with (first
    | (go_at_call 4; refine (QS.laws_szComplex.calls n A c xs 1048576 t _ (Kd.C_below HR.out HB.out) HC.out HS.out).mono ?_; rintro e w2 ⟨rfl, hb⟩; have HB3 := Aside0.mk (below_in HB.out hb); have y0 := pw_cell_below hb x0; have y1 := pw_cell_below hb x1; clear hb HB x0 x1)
    | (go_at_call 6; refine (QS.laws_toComplex.calls kt n A c xs n xs _ (Kd.C_below HR.out HB3.out) HC.out HKT.out).mono ?_; rintro e w4 ⟨v4, rfl, hv, hb⟩; have HB4 := Aside0.mk (below_in HB3.out hb); have x0 := pw_cell_below hb y0; have x1 := pw_cell_below hb y1; obtain ⟨A4, c4, rfl⟩ := Kd.R_slice hv; have HV4 := Aside0.mk (Kd.R_reads' hv); clear hb HB3 hv y0 y1)
    | (go_at_call 5; refine (HSP.out A4 c4 _ HV4.out.2.2 HV4.out.2.1).mono ?_; rintro e w6 ⟨v6, vs6, rfl, hv, hi, hb⟩; have HB6 := Aside0.mk (below_in HB4.out hb); have y0 := pw_cell_below hb x0; have y1 := pw_cell_below hb x1; obtain ⟨A6, c6, rfl⟩ := Kd.R_slice hv; have HV6 := Aside0.mk (vv_reads hv hi); obtain ⟨m6, hm6⟩ : ∃ m6, vs6.length = m6 := ⟨_, rfl⟩; have hl6 : m6 = rows.length := hm6.symm.trans hi.1; rw [hm6]; subst hl6; clear hb HB4 hv hi hm6 x0 x1 HV4))
  have Y0 := Aside0.mk y0
  have Y1 := Aside0.mk y1
  go_wp2_with (first
    | (go_at_call 6; refine (QS.laws_toComplex.calls kt n A c xs n xs _ (Kd.C_below HR.out HB6.out) HC.out HKT.out).mono ?_; rintro e w7 ⟨v7, rfl, hv, hb⟩; obtain ⟨A7, c7, rfl⟩ := Kd.R_slice hv; have HV7 := Aside0.mk (Kd.R_mono (Kd.R_alloc (Kd.R_mono (Kd.R_bound hv) (fun k hk => hk.2.2.1)) (.cells #[.int .i64 n, .slice A7 xs.length c7] 29)) (fun k hk => hk)); have HB7 := Aside0.mk (below_alloc hb (.cells #[.int .i64 n, .slice A7 xs.length c7] 29)); have x0 := pw_cell_below HB7.out Y0.out; have x1 := pw_cell_below HB7.out Y1.out; have z0 : (w7.alloc (.cells #[.int .i64 n, .slice A7 xs.length c7] 29)).cell? ⟨w7.heap.size, 0, none⟩ = some (.int .i64 n) := blk_cell (heap_alloc_new w7 _) 0; have z1 : (w7.alloc (.cells #[.int .i64 n, .slice A7 xs.length c7] 29)).cell? ⟨w7.heap.size, 1, none⟩ = some (.slice A7 xs.length c7) := blk_cell (heap_alloc_new w7 _) 1; have HS7 : Aside0 (w7.heap.size ≤ (w7.alloc (.cells #[.int .i64 n, .slice A7 xs.length c7] 29)).heap.size) := ⟨by simp⟩; clear hb hv y0 y1)
    | (go_at_call 7; refine (HIM.out A7 c7 _ (Kd.R_reads' HV7.out).2.2 (Kd.R_reads' HV7.out).2.1).mono ?_; rintro e w9 ⟨v9, vs, rfl, hm, hb⟩; have HB9 := Aside0.mk (below_in HB7.out hb); have HV7b := Aside0.mk (Kd.R_below HV7.out hb); have HM9 := Aside0.mk hm; have HS6 := Aside0.mk HB7.out.size; have HSZ := Aside0.mk hb.size; have y0 := pw_cell_below hb x0; have y1 := pw_cell_below hb x1; have u0 := pw_cell_below hb z0; have u1 := pw_cell_below hb z1; obtain ⟨A9, c9, hv9⟩ := hm.o.slice; rw [hm.i.1] at hv9; subst hv9; clear hb hm x0 x1 z0 z1 HB7 HV7)
    | (go_at_call 8; refine (QS.laws_eqInt64SS.calls ke A9 c9 rows A6 c6 rows true _ (mr_reads2 HM9.out).1 (mr_reads2 HM9.out).2 (Kd.C_below HV6.out.1 HB9.out) HV6.out.2 HKE.out).mono ?_; rintro e w10 ⟨rfl, hd⟩; have hb := d0_below hd; have HB10 := Aside0.mk (below_in HB9.out hb); have HV7c := Aside0.mk (Kd.R_below HV7b.out hb); have HM10 := Aside0.mk (HM9.out.below hb); have HS10 := Aside0.mk (Nat.le_trans HSZ.out hb.size); have x0 := pw_cell_below hb y0; have x1 := pw_cell_below hb y1; have z0 := pw_cell_below hb u0; have z1 := pw_cell_below hb u1; clear hb hd y0 y1 u0 u1 HB9 HV7b HM9 HSZ))
  refine st_ 5 (S := fun w' => (w'.cell? ⟨w7.heap.size, 0, none⟩ = some (.int .i64 n) ∧ w'.cell? ⟨w7.heap.size, 1, none⟩ = some (.slice A7 xs.length c7)) ∧ w'.cell? ⟨w.heap.size, 0, none⟩ = some (.int .i64 n) ∧ w'.cell? ⟨w.heap.size, 1, none⟩ = some (.slice A xs.length c)) (ds := []) ⟨⟨z0, z1⟩, x0, x1⟩ (fun hHeld => ?_)
  refine with_tabW (T := (true, [([], []), ([], []), ([1], [1]), ([0, 2, 2], [0, 2]), ([3], [3])])) (B := [0, 0, 2, 7, 15]) (by kernel_rfl) (by kernel_rfl) (fun HT_ HW_ => ?_)
  refine tk_ 0 41 1 HT_ HW_ hHeld ?_
  refine tk_ 1 42 3 HT_ HW_ hHeld ?_
  refine on_ 2 (some 43) 7 HT_ (fun K hK => ?_)
  refine ca_ Tryz.func6 #[.agg #[.int .i64 n, .slice A xs.length c]] ?_
  refine (QS.laws_toComplex.calls kt n A c xs n xs _ (Kd.C_below HR.out (below_in HB6.out HB10.out.drew)) HC.out HKT.out).mono ?_; rintro e w11 ⟨v11, rfl, hv, hb1⟩; have hb := (below_drew (Below.refl w10.heap.size w10)).trans hb1; have HB11 := Aside0.mk (below_in HB10.out hb); have HV7 := Aside0.mk (Kd.R_below HV7c.out hb); have HM11 := Aside0.mk (HM10.out.below hb); have HS11 := Aside0.mk (Nat.le_trans HS10.out hb.size); have y0 := pw_cell_below hb x0; have y1 := pw_cell_below hb x1; have u0 := pw_cell_below hb z0; have u1 := pw_cell_below hb z1; obtain ⟨A11, c11, rfl⟩ := Kd.R_slice hv; have HV11 := Aside0.mk (Kd.R_reads' hv); clear hb hb1 hv x0 x1 z0 z1 HB10 HV7c HM10 HS10
  refine ⟨_, rfl, ?_⟩
  refine hK.out _ _ ⟨⟨u0, u1⟩, y0, y1⟩ (fun hHeld => ?_)
  clear hK K
  refine nm_ ?_
  refine on_ 3 (some 44) 15 HT_ (fun K hK => ?_)
  refine ca_ Tryz.func9 #[.agg #[.int .i64 n, .slice A7 xs.length c7], .agg #[.int .i64 n, .slice A11 xs.length c11]] ?_
  refine (QS.laws_eqComplex.calls kc n A7 c7 xs n A11 c11 xs true _ (Kd.R_reads' HV7.out).2.2 (Kd.R_reads' HV7.out).2.1 HV11.out.2.2 HV11.out.2.1 HKC.out).mono ?_; rintro e w12 ⟨rfl, hb⟩; have HB12 := Aside0.mk (below_in HB11.out hb); have HV7c := Aside0.mk (Kd.R_below HV7.out hb); have HM12 := Aside0.mk (HM11.out.below hb); have HS12 := Aside0.mk (Nat.le_trans HS11.out hb.size); have x0 := pw_cell_below hb y0; have x1 := pw_cell_below hb y1; have z0 := pw_cell_below hb u0; have z1 := pw_cell_below hb u1; clear hb y0 y1 u0 u1 HB11 HV7 HM11 HS11 HV11
  refine ⟨_, rfl, ?_⟩
  refine hK.out _ _ ⟨⟨z0, z1⟩, x0, x1⟩ (fun hHeld => ?_)
  clear hK K
  refine nm_ ?_
  refine pd_ 4 45 31 HT_ ?_
  refine dn_ HT_ ?_
  go_wp2_with (first
    | (go_at_call 10; refine (QS.laws_markComplex.calls km n (fun k => k < w7.heap.size) (.slice A7 xs.length c7) xs 1 m1 _ w6 _ HB12.out HV7c.out HKM.out).mono ?_; rintro e w15 ⟨rfl, _, hB, hk⟩; have HB16 := Aside0.mk hB; have HM16 := Aside0.mk (HM12.out.move (fun k h1 h2 => hk.2 k h2 (fun h => absurd h (by have := HS7.out; omega)))); have HS16 := Aside0.mk (Nat.le_trans HS12.out hk.1); have y0 := pw_cell_below hB Y0.out; have y1 := pw_cell_below hB Y1.out; clear hB hk x0 x1 z0 z1 HB12 HV7c HM12 HS12)
    | (go_at_call 8; refine (QS.laws_eqInt64SS.calls ke A9 c9 rows A6 c6 rows true _ (mr_reads2 HM16.out).1 (mr_reads2 HM16.out).2 (Kd.C_below HV6.out.1 HB16.out) HV6.out.2 HKE.out).mono ?_; rintro e w17 ⟨rfl, hd⟩; have hb := d0_below hd; have HB17 := Aside0.mk (below_in HB16.out hb); have HM17 := Aside0.mk (HM16.out.below hb); have HS17 := Aside0.mk (Nat.le_trans HS16.out hb.size); have x0 := pw_cell_below hb y0; have x1 := pw_cell_below hb y1; clear hb hd y0 y1 HB16 HM16 HS16)
    | (go_at_call 11; obtain ⟨wb, hwb, hbb⟩ := base_world w17 HS17.out; refine (HMK.out wb _ (.slice A9 rows.length c9) vs (by rw [hwb]; exact HM17.out) (by rw [hwb]; exact hbb)).mono ?_; rintro e w18 ⟨rfl, hm, hB⟩; rw [hwb] at hm hB; have HB18 := Aside0.mk (below_via HB17.out hbb hB HS6.out HS6.out hwb); have HM18 := Aside0.mk hm; have y0 := pw_cell_below HB18.out Y0.out; have y1 := pw_cell_below HB18.out Y1.out; clear hm hB hwb hbb x0 x1 HB17 HM17 HS17)
    | (go_at_call 12; have hc := QS.laws_heldInt64SS.calls kh A9 c9 (markSS rows 1) 1 m3 w18 (mr_reads2 HM18.out).1 (mr_reads2 HM18.out).2 HKH.out; rw [markSS_len] at hc; refine hc.mono ?_; clear hc; rintro e w19 ⟨rfl, hd⟩; have hb := d0_below hd; have HB19 := Aside0.mk (below_in HB18.out hb); have HM19 := Aside0.mk (HM18.out.below hb); have x0 := pw_cell_below hb y0; have x1 := pw_cell_below hb y1; clear hb hd y0 y1 HB18 HM18)
    | (go_at_call 6; refine (QS.laws_toComplex.calls kt n A c xs n xs _ (Kd.C_below HR.out (below_in HB6.out HB19.out)) HC.out HKT.out).mono ?_; rintro e w20 ⟨v20, rfl, hv, hb⟩; have HB20 := Aside0.mk (below_in HB19.out hb); have HM20 := Aside0.mk (HM19.out.below hb); obtain ⟨A20, c20, rfl⟩ := Kd.R_slice hv; have HV20 := Aside0.mk (Kd.R_reads' hv); clear hb hv x0 x1 HB19 HM19)
    | (go_at_call 7; refine (HIM.out A20 c20 _ HV20.out.2.2 HV20.out.2.1).mono ?_; rintro e w22 ⟨v22, vs2, rfl, hm, hb⟩; have HB22 := Aside0.mk (below_in HB20.out hb); have HM22 := Aside0.mk (HM20.out.below hb); have HN22 := Aside0.mk hm; obtain ⟨A22, c22, hv22⟩ := hm.o.slice; rw [hm.i.1] at hv22; subst hv22; clear hb hm HB20 HM20 HV20)
    | (go_at_call 8; refine (QS.laws_eqInt64SS.calls ke A22 c22 rows A6 c6 rows true _ (mr_reads2 HN22.out).1 (mr_reads2 HN22.out).2 (Kd.C_below HV6.out.1 HB22.out) HV6.out.2 HKE.out).mono ?_; rintro e w23 ⟨rfl, hd⟩; have hb := d0_below hd; have HB23 := Aside0.mk (below_in HB22.out hb); have HM23 := Aside0.mk (HM22.out.below hb); clear hb hd HB22 HM22 HN22)
    | (go_at_call 12; have hc := QS.laws_heldInt64SS.calls kh A9 c9 (markSS rows 1) 1 m3 w23 (mr_reads2 HM23.out).1 (mr_reads2 HM23.out).2 HKH.out; rw [markSS_len] at hc; refine hc.mono ?_; clear hc; rintro e w24 ⟨rfl, hd⟩; have HB24 := Aside0.mk (below_in HB23.out (d0_below hd)); clear hd HB23 HM23))
  go_ret
  exact ⟨rfl, below_in HB6.out HB24.out⟩
theorem laws_FnExactVectorsOf.calls (k : Nat) (a0_0 : Int) (A0_1 : Option Addr) (c0_1 : Nat) (l0_1 : List Int) (r : Bool) (w : World) (hr0_1 : Kd.C (Kd.int .i64) w A0_1 l0_1.length l0_1) (hc0_1 : l0_1.length ≤ c0_1) (h : laws_FnExactVectorsOf.f k a0_0 l0_1 = some r) :
    Calls Tryz.prog 3 #[.agg #[.int .i64 a0_0, .slice A0_1 l0_1.length c0_1]] w fun e w' => e = .returned (.bool r) ∧ Below w.heap.size w w' := by
  unfold laws_FnExactVectorsOf.f at h
  split at h
  · rename_i hm
    obtain rfl := Option.some.inj h
    by_cases h1 : 1048576 < l0_1.length
    · exact way1 a0_0 A0_1 c0_1 l0_1 w hr0_1 hc0_1 hm h1
    · exact way3 a0_0 A0_1 c0_1 l0_1 w hr0_1 hc0_1 (by omega)
  · cases h
end Go.Proofs.YtdlmlmaoacmdiaaGreat.QFnExactVectorsOf
namespace Go.Proofs.YtdlmlmaoacmdiaaGreat.Pu
open Go.RowKit Kp Ext QFnExactVectorsOf YtdlmlmaoacmdiaaGreatW.PrintWords YtdlmlmaoacmdiaaGreatW.PrintLast YtdlmlmaoacmdiaaGreatW.PrintMore
theorem FnExactVectorsOf (n0 : Int) (l0 : List Int) (_ : (Lit.int .i64 n0).wf = true) (hm0 : l0.length ≤ maxLen) (_ : ∀ x ∈ l0, (Lit.int .i64 x).wf = true) : ∃ k, laws_FnExactVectorsOf.f k n0 l0 = some true :=
  ⟨0, if_pos hm0⟩
end Go.Proofs.YtdlmlmaoacmdiaaGreat.Pu
