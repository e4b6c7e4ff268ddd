/- Words and lemmas for FnExactInequalitiesFor, part 3: what the row's text comes to. -/
import Derived.Test.YtomdfjohnmikdaaProg
import Derived.Below
import Derived.Deep.Draws
import Derived.Deep.AppendLies
import Derived.Maps.AppendAt
import Derived.OwnWalk
import Derived.Laws.BytesArg
import Derived.Laws.MakeOwn
import Derived.Laws.OwnMore
import Derived.Deep.OwnRows
import Derived.Tactics
import Derived.Lib.ConvBytes
import Derived.Laws.Slices
import Derived.WalkKit
import Derived.KernelRfl
import Derived.RowKit3
import Derived.Deep.LoopGhost
import Derived.Deep.QuietTactic
import Derived.BigQuiet
import Derived.WideLaws
import Derived.Deep.DeepCutAuto
import Derived.Deep.CutBlock
import Derived.Deep.RegionHeld3
import Derived.Laws.Rows
import Derived.Lib.AppendStr
import Derived.ArgAppend
import Derived.Laws.IdiomCopy
import Derived.OrdersHeld
import Derived.Laws.BitsLemmas
import Derived.RowKit
import Derived.Test.YtomdfjohnmikdaaZFnExactInequalitiesForb
namespace Go.Proofs.Ytomdfjohnmikdaa.Im
set_option linter.unusedVariables false
set_option linter.unusedSimpArgs false
open Go.RowKit Go.Shelf Go.Proofs.Ytomdfjohnmikdaa.Cw Go.Proofs.YtomdfjohnmikdaaW.PrintWords Go.Proofs.YtomdfjohnmikdaaW.PrintLast Go.Proofs.YtomdfjohnmikdaaW.PrintMore
abbrev RI (w : World) (base : Nat) (ok : Nat → Prop) (v : Value) (xs : List Int) : Prop := Kd.R (Kd.int .i64) 2 w base ok v xs
def RowsPost (w : World) (m : Nat) (M : List (List Int)) (e : Ending) (w' : World) : Prop := ∃ (v : Value) (bs : List Nat), e = .returned v ∧ MxW w' w.heap.size v bs m ∧ MxI w' w.heap.size bs m M ∧ Below w.heap.size w w'
theorem infoR : (Try.prog.info? 22).map (fun i => (i.zero, i.size, i.bytes)) = some (some (.slice none 0 0), 1, 24) := by kernel_rfl
theorem RI.low {w : World} {base base' : Nat} {v : Value} {xs : List Int} (h : RI w base (fun _ => True) v xs) (hb : base' ≤ base) : RI w base' (fun k => k < w.heap.size) v xs := Kd.R_lower (Kd.R_mono (Kd.R_bound h) (fun k hk => hk.2.2.1)) hb
/-- Two rows that were there before the matrix grew. -/
def Two (W : World) (base Y : Nat) (v7 : Value) (F : List Int) (v8 : Value) (C : List Int) : Prop := RI W base (fun k => k < Y) v7 F ∧ RI W base (fun k => k < Y) v8 C ∧ Y ≤ W.heap.size
section
variable {W W1 : World} {base Y : Nat} {v7 v8 : Value} {F C : List Int}
theorem Two.of (h7 : RI W base (fun _ => True) v7 F) (h8 : RI W base (fun _ => True) v8 C) : ∃ Y, Two W base Y v7 F v8 C := ⟨_, RI.low h7 (Nat.le_refl _), RI.low h8 (Nat.le_refl _), Nat.le_refl _⟩
theorem Two.below (h : Two W base Y v7 F v8 C) (hb : Below W.heap.size W W1) : Two W1 base Y v7 F v8 C := ⟨Kd.R_below h.1 hb, Kd.R_below h.2.1 hb, Nat.le_trans h.2.2 hb.size⟩
theorem Two.far (h : Two W base Y v7 F v8 C) {y : Nat} (hy : Y ≤ y) (j : Nat) (u : Value) : Two (W.setCell ⟨y, j, none⟩ u) base Y v7 F v8 C :=
  ⟨Kd.R_far h.1 (p := ⟨y, j, none⟩) (fun k hk => Nat.ne_of_lt (Nat.lt_of_lt_of_le hk hy)) u, Kd.R_far h.2.1 (p := ⟨y, j, none⟩) (fun k hk => Nat.ne_of_lt (Nat.lt_of_lt_of_le hk hy)) u, by simpa using h.2.2⟩
theorem Two.grown (h : Two W base Y v7 F v8 C) {base' m : Nat} {bs : List Nat} {v : Value} (ho : MxW W base' v bs m) (hg : W.grownBy W1 v.ownBlock) : Two W1 base Y v7 F v8 C :=
  ⟨Kd.R_over' h.1 (fun k hk => own_typed ho k hk) (by decide) hg, Kd.R_over' h.2.1 (fun k hk => own_typed ho k hk) (by decide) hg, Nat.le_trans h.2.2 hg.size⟩
end
theorem sign_mod {s : Int} (h : s = 1 ∨ s = -1) : wrap64 (s + 2) = s + 2 ∧ IntKind.i64.wrap (s + 2) = s + 2 ∧ Int.tmod (s + 2) 2 = 1 := by
  rcases h with rfl | rfl
  · refine ⟨by simp [wrap64], by rw [IntKind.wrap_i64]; simp, by decide⟩
  · refine ⟨by simp [wrap64], by rw [IntKind.wrap_i64]; simp, by decide⟩
theorem MxI.rowLast {w : World} {base : Nat} {bs : List Nat} {m y : Nat} {M : List (List Int)} {row : List Int} (h : MxI w base (bs ++ [y]) m (M ++ [row])) {p : Nat} (hp : p < m) : ∃ v, w.cell? ⟨y, p, none⟩ = some (.int .i64 v) ∧ w.frozen? ⟨y, p, none⟩ = false ∧ MxI (w.setCell ⟨y, p, none⟩ (.int .i64 1)) base (bs ++ [y]) m (M ++ [row.set p 1]) := by
  have hl : bs.length = M.length := by have := h.1; simp at this; exact this
  have h1 : bs.length < (bs ++ [y]).length := by simp
  have h2 : bs.length < (M ++ [row]).length := by simp; omega
  have hc := h.cell h1 h2 hp
  have hpu := h.put h1 h2 hp 1
  have e1 : (bs ++ [y])[bs.length]'h1 = y := by simp
  have e2 : (M ++ [row])[bs.length]'h2 = row := by
    rw [List.getElem_append_right (by omega)]
    simp
  rw [e1] at hc hpu
  refine ⟨_, hc.1, hc.2, ?_⟩
  rw [e2, hl, List.set_append_right _ _ (Nat.le_refl _), Nat.sub_self] at hpu
  exact hpu
set_option maxRecDepth 100000 in
set_option maxHeartbeats 4000000 in
theorem rows2_c (k : Nat) (n : Int) (A : Option Addr) (c : Nat) (xs : List Int) (d : Int) (F C : List Int) (P : Int → List Int) (w : World) (hr : RC w A xs.length xs) (hc : xs.length ≤ c) (hd : -1 ≤ d ∧ d ≤ 100)
    (hF : QS.spec_l01Of.f k n xs d = some F) (hC : QS.spec_l01Of.f k n xs (d - 1) = some C)
    (hP : ∀ f ∈ F, QS.spec_l01Below.f k f = some (P f) ∧ ∃ S, QS.spec_l03Signs.f k f = some S ∧ S.length = (P f).length ∧ ∀ s ∈ S, s = 1 ∨ s = -1)
    (hpl : ∀ f ∈ F, ∀ g ∈ P f, ∃ p : Nat, QS.spec_l03Place.f k C g = some (p : Int) ∧ ∃ h : p < C.length, C[p] = g) (hCn : C.Nodup) (hl1 : F.length ≤ 1000) (hl2 : C.length ≤ 1000) (hl3 : ∀ f ∈ F, (P f).length ≤ 1000) :
    Calls Try.prog 151 #[.agg #[.int .i64 n, .slice A xs.length c], .int .i64 d, .int .i64 2] w (RowsPost w C.length (matZ C F P)) := by
  have hx0 := Aside0.mk (CxAt.new w n A xs.length c).drew'
  have hb0 := Aside0.mk (below_alloc (Below.refl w.heap.size w) (.cells #[.int .i64 n, .slice A xs.length c] 28)).drew
  have HR := Aside0.mk hr
  have HC := Aside0.mk hc
  have HF := Aside0.mk hF
  have HCC := Aside0.mk hC
  have HPP := Aside0.mk hP
  have HPL := Aside0.mk hpl
  have HCN := Aside0.mk hCn
  have HL3 := Aside0.mk hl3
  have hdw : wrap64 (d - 1) = d - 1 := by unfold wrap64; omega
  have hdv : IntKind.i64.wrap (d - 1) = d - 1 := by rw [IntKind.wrap_i64]; omega
  clear hr hc hF hC hP hpl hCn hl3
  go_enter Try.func151, Try.ntmps151
  go_wp2
  have HX := hx0; have HB := hb0; clear hx0 hb0
  refine st_ 11 (S := fun w' => w'.cell? ⟨w.heap.size, 0, none⟩ = some (.int .i64 n) ∧ w'.cell? ⟨w.heap.size, 1, none⟩ = some (.slice A xs.length c)) (ds := []) ⟨HX.out.c0, HX.out.c1⟩ (fun hHeld => ?_)
  refine with_tabW (T := (true, [([], []), ([], []), ([0, 1], [0, 1]), ([], []), ([], []), ([4], [4]), ([3, 5, 2], [3, 5]), ([], []), ([2, 6, 0, 1, 2], [2]), ([6, 8, 0, 1, 2, 3, 4, 5, 6, 8], [6]), ([7, 9, 0, 1, 2, 3, 4, 5, 6, 7, 8, 9], [7])])) (B := [0, 0, 3, 0, 0, 16, 63, 0, 127, 383, 1023]) (by kernel_rfl) (by kernel_rfl) (fun HT_ HW_ => ?_)
  refine pd_ 1 16 2 HT_ ?_
  refine pd_ 4 19 18 HT_ ?_
  refine pd_ 5 20 50 HT_ ?_
  refine tk_ 0 15 51 HT_ HW_ hHeld ?_
  refine tk_ 3 18 59 HT_ HW_ hHeld ?_
  refine tw_ 2 7 (some 17) (some 22) 63 187 HT_ (fun K hK => ?_) (fun K hK => ?_)
  refine ca_ Try.func104 #[.agg #[.int .i64 n, .slice A xs.length c], .int .i64 d] ?_
  refine (QS.spec_l01Of.calls k n A c xs d F _ (Kd.C_below HR.out HB.out) HC.out HF.out).mono ?_; rintro e w2 ⟨v7, rfl, hv, hb⟩; have HV7 := Aside0.mk (Kd.R_lower hv HB.out.size); have HX2 := Aside0.mk (HX.out.below hb); have HB2 := Aside0.mk (below_in HB.out hb); clear HX HB hv hb; have HX := HX2; have HB := HB2; clear HX2 HB2
  refine ⟨_, rfl, ?_⟩
  refine hK.out _ _ ⟨HX.out.c0, HX.out.c1⟩ (fun hHeld => ?_)
  clear hK K
  refine nm_ ?_
  refine tw_ 6 7 (some 21) (some 22) 127 191 HT_ (fun K hK => ?_) (fun K hK => ?_)
  refine ca_ Try.func104 #[.agg #[.int .i64 n, .slice A xs.length c], .int .i64 (d - 1)] ?_
  refine (QS.spec_l01Of.calls k n A c xs (d - 1) C _ (Kd.C_below HR.out HB.out) HC.out HCC.out).mono ?_; rintro e w4 ⟨v8, rfl, hv, hb⟩; have HV8 := Aside0.mk (Kd.R_lower hv HB.out.size); have HX2 := Aside0.mk (HX.out.below hb); have HV72 := Aside0.mk (Kd.R_below HV7.out hb); have HB2 := Aside0.mk (below_in HB.out hb); clear HX HB HV7 hv hb; have HX := HX2; have HB := HB2; have HV7 := HV72; clear HX2 HB2 HV72
  refine ⟨_, rfl, ?_⟩
  refine hK.out _ _ ⟨HX.out.c0, HX.out.c1⟩ (fun hHeld => ?_)
  clear hK K
  refine nm_ ?_
  refine pd_ 8 7 383 HT_ ?_
  refine pd_ 9 8 895 HT_ ?_
  refine on_ 7 (some 22) 1023 HT_ (fun K hK => ?_)
  (refine value_ (by rfl) rfl (v := .slice (some ⟨w4.heap.size, 0, none⟩) 0 0) (w1 := w4.alloc (.cells #[] 22)) (by go_simp) ?_; have HX2 := Aside0.mk (HX.out.below (below_alloc (Below.refl _ _) (.cells #[] 22))); have HO : Aside0 (MxW (w4.alloc (.cells #[] 22)) w.heap.size (.slice (some ⟨w4.heap.size, 0, none⟩) 0 0) [] C.length) := ⟨World.ownsRow_made w4 #[] 0 HB.out.size (Nat.zero_le _) rfl⟩; have HV72 := Aside0.mk (Kd.R_alloc HV7.out (.cells #[] 22)); have HV82 := Aside0.mk (Kd.R_alloc HV8.out (.cells #[] 22)); have HB2 := Aside0.mk (HB.out.alloc HB.out.size (.cells #[] 22)); clear HX HB HV7 HV8; have HX := HX2; have HB := HB2; have HV7 := HV72; have HV8 := HV82; clear HX2 HB2 HV72 HV82)
  refine hK.out _ _ ⟨HX.out.c0, HX.out.c1⟩ (fun hHeld => ?_)
  clear hK K
  refine nm_ ?_
  refine pd_ 10 9 2047 HT_ ?_
  refine dn_ HT_ ?_
  rotate_left
  (refine value_ (by rfl) rfl (v := .slice (some ⟨w2.heap.size, 0, none⟩) 0 0) (w1 := w2.alloc (.cells #[] 22)) (by go_simp) ?_; have HX2 := Aside0.mk (HX.out.below (below_alloc (Below.refl _ _) (.cells #[] 22))); have HO : Aside0 (MxW (w2.alloc (.cells #[] 22)) w.heap.size (.slice (some ⟨w2.heap.size, 0, none⟩) 0 0) [] C.length) := ⟨World.ownsRow_made w2 #[] 0 HB.out.size (Nat.zero_le _) rfl⟩; have HV72 := Aside0.mk (Kd.R_alloc HV7.out (.cells #[] 22)); have HB2 := Aside0.mk (HB.out.alloc HB.out.size (.cells #[] 22)); clear HX HB HV7; have HX := HX2; have HB := HB2; have HV7 := HV72; clear HX2 HB2 HV72)
  refine hK.out _ _ ⟨HX.out.c0, HX.out.c1⟩ (fun hHeld => ?_)
  clear hK K
  refine nm_ ?_
  refine on_ 6 (some 21) 255 HT_ (fun K hK => ?_)
  refine ca_ Try.func104 #[.agg #[.int .i64 n, .slice A xs.length c], .int .i64 (d - 1)] ?_
  refine (QS.spec_l01Of.calls k n A c xs (d - 1) C _ (Kd.C_below HR.out HB.out) HC.out HCC.out).mono ?_; rintro e w4 ⟨v8, rfl, hv, hb⟩; have HV8 := Aside0.mk (Kd.R_lower hv HB.out.size); have HX2 := Aside0.mk (HX.out.below hb); have HV72 := Aside0.mk (Kd.R_below HV7.out hb); have HO2 := Aside0.mk (pw_own_below HO.out hb); have HB2 := Aside0.mk (below_in HB.out hb); clear HX HB HV7 HO hv hb; have HX := HX2; have HB := HB2; have HV7 := HV72; have HO := HO2; clear HX2 HB2 HV72 HO2
  refine ⟨_, rfl, ?_⟩
  refine hK.out _ _ ⟨HX.out.c0, HX.out.c1⟩ (fun hHeld => ?_)
  clear hK K
  refine nm_ ?_
  refine pd_ 8 7 511 HT_ ?_
  refine pd_ 9 8 1023 HT_ ?_
  refine pd_ 10 9 2047 HT_ ?_
  refine dn_ HT_ ?_
  rotate_left
  (refine value_ (by rfl) rfl (v := .slice (some ⟨(w.alloc (.cells #[.int .i64 n, .slice A xs.length c] 28)).drew.heap.size, 0, none⟩) 0 0) (w1 := (w.alloc (.cells #[.int .i64 n, .slice A xs.length c] 28)).drew.alloc (.cells #[] 22)) (by go_simp) ?_; have HX2 := Aside0.mk (HX.out.below (below_alloc (Below.refl _ _) (.cells #[] 22))); have HO : Aside0 (MxW ((w.alloc (.cells #[.int .i64 n, .slice A xs.length c] 28)).drew.alloc (.cells #[] 22)) w.heap.size (.slice (some ⟨(w.alloc (.cells #[.int .i64 n, .slice A xs.length c] 28)).drew.heap.size, 0, none⟩) 0 0) [] C.length) := ⟨World.ownsRow_made (w.alloc (.cells #[.int .i64 n, .slice A xs.length c] 28)).drew #[] 0 HB.out.size (Nat.zero_le _) rfl⟩; have HB2 := Aside0.mk (HB.out.alloc HB.out.size (.cells #[] 22)); clear HX HB ; have HX := HX2; have HB := HB2; clear HX2 HB2 )
  refine hK.out _ _ ⟨HX.out.c0, HX.out.c1⟩ (fun hHeld => ?_)
  clear hK K
  refine nm_ ?_
  refine on_ 2 (some 17) 191 HT_ (fun K hK => ?_)
  refine ca_ Try.func104 #[.agg #[.int .i64 n, .slice A xs.length c], .int .i64 d] ?_
  refine (QS.spec_l01Of.calls k n A c xs d F _ (Kd.C_below HR.out HB.out) HC.out HF.out).mono ?_; rintro e w2 ⟨v7, rfl, hv, hb⟩; have HV7 := Aside0.mk (Kd.R_lower hv HB.out.size); have HX2 := Aside0.mk (HX.out.below hb); have HO2 := Aside0.mk (pw_own_below HO.out hb); have HB2 := Aside0.mk (below_in HB.out hb); clear HX HB HO hv hb; have HX := HX2; have HB := HB2; have HO := HO2; clear HX2 HB2 HO2
  refine ⟨_, rfl, ?_⟩
  refine hK.out _ _ ⟨HX.out.c0, HX.out.c1⟩ (fun hHeld => ?_)
  clear hK K
  refine nm_ ?_
  refine on_ 6 (some 21) 255 HT_ (fun K hK => ?_)
  refine ca_ Try.func104 #[.agg #[.int .i64 n, .slice A xs.length c], .int .i64 (d - 1)] ?_
  refine (QS.spec_l01Of.calls k n A c xs (d - 1) C _ (Kd.C_below HR.out HB.out) HC.out HCC.out).mono ?_; rintro e w4 ⟨v8, rfl, hv, hb⟩; have HV8 := Aside0.mk (Kd.R_lower hv HB.out.size); have HX2 := Aside0.mk (HX.out.below hb); have HV72 := Aside0.mk (Kd.R_below HV7.out hb); have HO2 := Aside0.mk (pw_own_below HO.out hb); have HB2 := Aside0.mk (below_in HB.out hb); clear HX HB HV7 HO hv hb; have HX := HX2; have HB := HB2; have HV7 := HV72; have HO := HO2; clear HX2 HB2 HV72 HO2
  refine ⟨_, rfl, ?_⟩
  refine hK.out _ _ ⟨HX.out.c0, HX.out.c1⟩ (fun hHeld => ?_)
  clear hK K
  refine nm_ ?_
  refine pd_ 8 7 511 HT_ ?_
  refine pd_ 9 8 1023 HT_ ?_
  refine pd_ 10 9 2047 HT_ ?_
  refine dn_ HT_ ?_
  rotate_left
  all_goals
    obtain ⟨A7, c7, rfl⟩ := Kd.R_slice HV7.out
    obtain ⟨A8, c8, rfl⟩ := Kd.R_slice HV8.out
    obtain ⟨Y, h2⟩ := Two.of HV7.out HV8.out
    have H2 := Aside0.mk h2
    clear HV7 HV8 HX hHeld h2
    have hmk : ∀ W : World, (Instr.makeSlice 22 (.int .i64 (C.length : Int)) (.int .i64 (C.length : Int))).run Try.prog W = .ok (.slice (some ⟨W.heap.size, 0, none⟩) C.length C.length) (W.alloc (.cells (numV (List.replicate C.length 0)).toArray 2)) := fun W => by
      rw [← made_zero]
      exact print_make_of 22 2 (.int .i64 0) 8 Try.underlying22 info64 rfl (by decide) C.length (by omega) W
    go_wp2
    go_loopw [9, 10] (fun v9 s10 wr => ∃ (i : Nat) (bs : List Nat), i ≤ F.length ∧ s10 = .int .i64 i ∧ Aside0 (MxW wr w.heap.size v9 bs C.length) ∧ Aside0 (MxI wr w.heap.size bs C.length (matZ C (F.take i) P)) ∧ Aside0 (Two wr w.heap.size Y (.slice A7 F.length c7) F (.slice A8 C.length c8) C) ∧ Aside0 (Below w.heap.size w wr)) (fun _ s10 _ => F.length - (intOf s10).toNat)
    case atStart => exact ⟨0, [], by omega, rfl, (by first | exact HO | exact ⟨by have := HO.out; rw [show (w.alloc (.cells #[.int .i64 n, .slice A xs.length c] 28)).drew.heap.size = w.heap.size + 1 by simp] at this; exact this⟩), ⟨⟨rfl, List.nodup_nil, fun i h => absurd h (Nat.not_lt_zero _)⟩⟩, H2, HB⟩
    case round =>
      clear HO H2 HB
      obtain ⟨i, bs, hi, rfl, HO, HI, H2, HB⟩ := hrel
      have HBL : Aside0 (bs.length ≤ 1000) := ⟨by have := HI.out.1; unfold matZ at this; simp at this; omega⟩
      by_cases hlt : i < F.length
      · have hltz : (i : Int) < (F.length : Int) := by omega
        obtain ⟨af, rfl, hf0⟩ := Kd.at_int (Kd.R_reads' H2.out.1).2.2 i (by omega) (by omega)
        obtain ⟨f, hf⟩ : ∃ f, rd F i = f := ⟨_, rfl⟩
        rw [hf, show ((i : Int)).toNat = i by omega] at hf0
        have hfm : f ∈ F := by rw [← hf, rd_at' hlt]; exact List.getElem_mem hlt
        obtain ⟨hpf, Sg, hsf, hsl, hsg⟩ := HPP.out f hfm
        have hpl := HPL.out f hfm
        have hpl3 := HL3.out f hfm
        have HPF := Aside0.mk hpf
        have HSF := Aside0.mk hsf
        have HSG := Aside0.mk hsg
        have HPLF := Aside0.mk hpl
        have HFE : Aside0 (matZ C (F.take (i + 1)) P = matZ C (F.take i) P ++ [rowTo C (P f) (P f).length]) := ⟨by rw [List.take_succ_eq_append_getElem hlt, ← rd_at' hlt, hf]; unfold matZ; simp⟩
        have HS1 : Aside0 (MxI (wr.alloc (.cells (numV (List.replicate C.length 0)).toArray 2)).drew w.heap.size (bs ++ [wr.heap.size]) C.length (matZ C (F.take i) P ++ [List.replicate C.length 0])) := ⟨HI.out.snoc HB.out.size⟩
        have HO1 := Aside0.mk (show MxW (wr.alloc (.cells (numV (List.replicate C.length 0)).toArray 2)).drew w.heap.size _ bs C.length from pw_own_below HO.out (below_alloc (Below.refl wr.heap.size wr) (.cells (numV (List.replicate C.length 0)).toArray 2)).drew)
        have H21 : Aside0 (Two (wr.alloc (.cells (numV (List.replicate C.length 0)).toArray 2)).drew w.heap.size Y (.slice (some af) F.length c7) F (.slice A8 C.length c8) C) := ⟨H2.out.below (below_alloc (Below.refl wr.heap.size wr) (.cells (numV (List.replicate C.length 0)).toArray 2)).drew⟩
        have HB1 : Aside0 (Below w.heap.size w (wr.alloc (.cells (numV (List.replicate C.length 0)).toArray 2)).drew) := ⟨(HB.out.alloc HB.out.size (.cells (numV (List.replicate C.length 0)).toArray 2)).drew⟩
        have HYY : Aside0 (Y ≤ wr.heap.size) := ⟨H2.out.2.2⟩
        have HWW : Aside0 (w.heap.size ≤ wr.heap.size) := ⟨HB.out.size⟩
        have hf1 : (wr.alloc (.cells (numV (List.replicate C.length 0)).toArray 2)).drew.cell? (af.add i) = some (.int .i64 f) := pw_cell_below (below_alloc (Below.refl _ _) _) hf0
        clear HO HI H2 HB hpf hsf hsg hpl hf hfm hf0
        go_wp2
        refine st_ 12 (S := fun w' => w'.cell? (af.add i) = some (.int .i64 f)) (ds := []) hf1 (fun hHeld => ?_)
        refine with_tabW (T := (true, [([], []), ([], []), ([0, 1], [0, 1]), ([2], [2]), ([3], [3]), ([], []), ([], []), ([5, 6], [5, 6]), ([7], [7]), ([8, 4], [8]), ([4, 9, 0, 1, 2, 3, 4], [4]), ([9, 10, 0, 1, 2, 3, 4, 5, 6, 7, 8, 9, 10], [9])])) (B := [0, 0, 3, 7, 15, 0, 0, 96, 224, 511, 1023, 2047]) (by kernel_rfl) (by kernel_rfl) (fun HT_ HW_ => ?_)
        refine pd_ 0 32 1 HT_ ?_
        refine pd_ 1 33 3 HT_ ?_
        refine pd_ 2 34 7 HT_ ?_
        refine pd_ 5 37 39 HT_ ?_
        refine pd_ 6 38 103 HT_ ?_
        refine pd_ 7 39 231 HT_ ?_
        refine tk_ 3 35 239 HT_ HW_ hHeld ?_
        refine tk_ 8 40 495 HT_ HW_ hHeld ?_
        refine on_ 4 (some 36) 511 HT_ (fun K hK => ?_)
        refine ca_ Try.func101 #[.int .i64 f] ?_
        refine (QS.spec_l01Below.calls k f (P f) _ HPF.out).mono ?_; rintro e w2 ⟨vp, rfl, hv, hb⟩; have HVP := Aside0.mk (Kd.R_lower (Kd.R_mono (Kd.R_bound hv) (fun k hk => (show wr.heap.size + 1 ≤ k by have := hk.2.1; simpa using this))) (base' := w.heap.size) (HB1.out.size)); have HSZ : Aside0 (wr.heap.size + 1 ≤ w2.heap.size) := ⟨by have := hb.size; simpa using this⟩; have HS2 := Aside0.mk (HS1.out.below hb); have HO2 := Aside0.mk (pw_own_below HO1.out hb); have H22 := Aside0.mk (H21.out.below hb); have hf2 := pw_cell_below hb hf1; have HB2 := Aside0.mk (below_in HB1.out hb); clear HS1 HO1 H21 HB1 hf1; have HS1 := HS2; have HO1 := HO2; have H21 := H22; have HB1 := HB2; have hf1 := hf2; clear HS2 HO2 H22 HB2 hf2; clear hv hb
        refine ⟨_, rfl, ?_⟩
        refine hK.out _ _ hf1 (fun hHeld => ?_)
        clear hK K
        refine nm_ ?_
        refine on_ 9 (some 41) 1023 HT_ (fun K hK => ?_)
        refine ca_ Try.func183 #[.int .i64 f] ?_
        refine (QS.spec_l03Signs.calls k f Sg _ HSF.out).mono ?_; rintro e w3 ⟨vs, rfl, hv, hb⟩; have HVS := Aside0.mk (Kd.R_lower (Kd.R_mono (Kd.R_bound hv) (fun k hk => (Nat.le_trans HSZ.out hk.2.1))) (base' := w.heap.size) (HB1.out.size)); have HVP2 := Aside0.mk (Kd.R_below HVP.out hb); clear HVP; have HVP := HVP2; clear HVP2; have HS2 := Aside0.mk (HS1.out.below hb); have HO2 := Aside0.mk (pw_own_below HO1.out hb); have H22 := Aside0.mk (H21.out.below hb); have hf2 := pw_cell_below hb hf1; have HB2 := Aside0.mk (below_in HB1.out hb); clear HS1 HO1 H21 HB1 hf1; have HS1 := HS2; have HO1 := HO2; have H21 := H22; have HB1 := HB2; have hf1 := hf2; clear HS2 HO2 H22 HB2 hf2; clear hv hb
        refine ⟨_, rfl, ?_⟩
        refine hK.out _ _ hf1 (fun hHeld => ?_)
        clear hK K
        refine nm_ ?_
        refine pd_ 10 12 2047 HT_ ?_
        refine pd_ 11 13 4095 HT_ ?_
        refine dn_ HT_ ?_
        have hyy := HYY.out
        have hw0 := HWW.out
        obtain ⟨Ap, cp, rfl⟩ := Kd.R_slice HVP.out
        obtain ⟨As, cs, rfl⟩ := Kd.R_slice HVS.out
        have hz0 : List.replicate C.length (0 : Int) = rowTo C (P f) 0 := (rowTo_zero _ _).symm
        rw [hz0] at HS1
        clear hf1 hHeld hz0 HSZ HYY HWW
        generalize wr.heap.size = y0 at HS1 HVP HVS hyy hw0 ⊢
        have HYY := Aside0.mk hyy
        have HW0 : Aside0 (w.heap.size ≤ y0) := ⟨hw0⟩
        clear hw0
        clear hyy
        go_wp2
        go_loopw [14] (fun s14 wq => ∃ j : Nat, j ≤ (P f).length ∧ s14 = .int .i64 j ∧ Aside0 (MxI wq w.heap.size (bs ++ [y0]) C.length (matZ C (F.take i) P ++ [rowTo C (P f) j])) ∧ Aside0 (MxW wq w.heap.size u9 bs C.length) ∧ Aside0 (Two wq w.heap.size Y (.slice (some af) F.length c7) F (.slice A8 C.length c8) C) ∧ Aside0 (RI wq w.heap.size (fun k => y0 + 1 ≤ k) (.slice Ap (P f).length cp) (P f)) ∧ Aside0 (RI wq w.heap.size (fun k => y0 + 1 ≤ k) (.slice As Sg.length cs) Sg) ∧ Aside0 (Below w.heap.size w wq)) (fun s14 _ => (P f).length - (intOf s14).toNat)
        case atStart => exact ⟨0, by omega, rfl, HS1, HO1, H21, HVP, HVS, HB1⟩
        case round =>
          clear HS1 HO1 H21 HVP HVS HB1
          obtain ⟨j, hj, rfl, HS, HO, H2, HVP, HVS, HB⟩ := hrel
          by_cases hjl : j < (P f).length
          · have hjz : (j : Int) < ((P f).length : Int) := by omega
            have hjs : (j : Int) < (Sg.length : Int) := by omega
            obtain ⟨ap, rfl, hp0⟩ := Kd.at_int (Kd.R_reads' HVP.out).2.2 j (by omega) (by omega)
            obtain ⟨ag, rfl, hs0⟩ := Kd.at_int (Kd.R_reads' HVS.out).2.2 j (by omega) (by omega)
            obtain ⟨g, hg⟩ : ∃ g, rd (P f) j = g := ⟨_, rfl⟩
            obtain ⟨sg, hsg⟩ : ∃ sg, rd Sg j = sg := ⟨_, rfl⟩
            rw [hg, show ((j : Int)).toNat = j by omega] at hp0
            rw [hsg, show ((j : Int)).toNat = j by omega] at hs0
            have hgm : g ∈ P f := by rw [← hg, rd_at' hjl]; exact List.getElem_mem hjl
            have hsm : sg ∈ Sg := by rw [← hsg, rd_at' (by omega)]; exact List.getElem_mem (by omega)
            obtain ⟨q, hpk, hqC, hqe⟩ := HPLF.out g hgm
            obtain ⟨hm1, hm2, hm3⟩ := sign_mod (HSG.out sg hsm)
            have hge : (P f)[j] = g := by rw [← hg, rd_at' hjl]
            have HNX := Aside0.mk (rowTo_next HCN.out hjl hqC (hqe.trans hge.symm))
            have hqz : (q : Int) < (C.length : Int) := by omega
            have HPK := Aside0.mk hpk
            have hbd : Below wr.heap.size wr wr.drew := (Below.refl _ wr).drew
            have HSd := Aside0.mk (HS.out.below hbd); have HOd := Aside0.mk (pw_own_below HO.out hbd); have H2d := Aside0.mk (H2.out.below hbd); have HVPd := Aside0.mk (Kd.R_below HVP.out hbd); have HVSd := Aside0.mk (Kd.R_below HVS.out hbd); have HBd := Aside0.mk (below_in HB.out hbd)
            have hp1 : wr.drew.cell? (ap.add j) = some (.int .i64 g) := hp0
            have hs1 : wr.drew.cell? (ag.add j) = some (.int .i64 sg) := hs0
            clear hg hsg hgm hsm hqe hpk hge hbd HS HO H2 HVP HVS HB hp0 hs0
            go_wp2
            refine st_ 17 (S := fun w' => w'.cell? (ap.add j) = some (.int .i64 g) ∧ w'.cell? (ag.add j) = some (.int .i64 sg)) (ds := [16]) ⟨hp1, hs1⟩ (fun hHeld => ?_)
            refine with_tabW (T := (true, [([], []), ([], []), ([], []), ([], []), ([2, 3], [2, 3]), ([4], [4]), ([1, 5], [1, 5]), ([], []), ([], []), ([7, 8], [7, 8]), ([9], [9]), ([], []), ([10, 11], [10, 11]), ([], []), ([12, 13], [12, 13]), ([0, 6, 0, 1, 2, 3, 4, 5, 6, 7, 8, 9, 10, 11, 12, 13, 14], [0, 6]), ([15, 14, 6, 0, 1, 2, 3, 4, 5, 6, 7, 8, 9, 10, 11, 12, 13, 14], [14, 15])])) (B := [0, 0, 0, 0, 12, 28, 62, 0, 0, 384, 896, 0, 3968, 0, 16256, 32767, 65535]) (by kernel_rfl) (by kernel_rfl) (fun HT_ HW_ => ?_)
            refine pd_ 0 48 1 HT_ ?_
            refine pd_ 1 49 3 HT_ ?_
            refine pd_ 2 50 7 HT_ ?_
            refine pd_ 3 51 15 HT_ ?_
            refine pd_ 4 52 31 HT_ ?_
            refine pd_ 7 55 159 HT_ ?_
            refine pd_ 8 56 415 HT_ ?_
            refine pd_ 9 57 927 HT_ ?_
            refine pd_ 11 59 2975 HT_ ?_
            refine pd_ 13 61 11167 HT_ ?_
            refine tk_ 5 53 11199 HT_ HW_ hHeld ?_
            refine tk_ 10 58 12223 HT_ HW_ hHeld ?_
            refine pd_ 12 60 16319 HT_ ?_
            refine pd_ 14 62 32703 HT_ ?_
            refine on_ 6 (some 54) 32767 HT_ (fun K hK => ?_)
            refine ca_ Try.func184 #[.slice A8 C.length c8, .int .i64 g] ?_
            refine (QS.spec_l03Place.calls k A8 c8 C g (q : Int) _ (Kd.R_reads' H2d.out.2.1).2.2 (Kd.R_reads' H2d.out.2.1).2.1 HPK.out).mono ?_; rintro e w9 ⟨rfl, hdr⟩; have hb := hdr.below; have HS := Aside0.mk (HSd.out.below hb); have HO := Aside0.mk (pw_own_below HOd.out hb); have H2 := Aside0.mk (H2d.out.below hb); have HVP := Aside0.mk (Kd.R_below HVPd.out hb); have HVS := Aside0.mk (Kd.R_below HVSd.out hb); have HB := Aside0.mk (below_in HBd.out hb); have hp2 := pw_cell_below hb hp1; have hs2 := pw_cell_below hb hs1; clear HSd HOd H2d HVPd HVSd HBd hp1 hs1 hb hdr
            refine ⟨_, rfl, ?_⟩
            refine hK.out _ _ ⟨hp2, hs2⟩ (fun hHeld => ?_)
            clear hK K
            refine nm_ ?_
            refine pd_ 15 63 65535 HT_ ?_
            refine la_ 16 none 131071 HT_ (fun K hK => ?_)
            (obtain ⟨u, hu1, hu2, hu3⟩ := HS.out.rowLast hqC; rw [HNX.out] at hu3; have hblk := HS.out.block (i := bs.length) (by simp); rw [show (bs ++ [y0])[bs.length]'(by simp) = y0 by simp] at hblk; obtain ⟨cells, hblk⟩ := hblk; have HU3 := Aside0.mk hu3; have HOS := Aside0.mk (own_far HO.out (y := y0) (j := q) (MxW.ne HO.out hblk) (.int .i64 1)); have H2S := Aside0.mk (H2.out.far HYY.out q (.int .i64 1)); have HVPS := Aside0.mk (Kd.R_far HVP.out (p := ⟨y0, q, none⟩) (fun k hk => by have : y0 + 1 ≤ k := hk; show k ≠ y0; omega) (.int .i64 1)); have HVSS := Aside0.mk (Kd.R_far HVS.out (p := ⟨y0, q, none⟩) (fun k hk => by have : y0 + 1 ≤ k := hk; show k ≠ y0; omega) (.int .i64 1)); have HBS := Aside0.mk (HB.out.setCell (p := ⟨y0, q, none⟩) (HW0.out) (.int .i64 1)); clear hu3 hblk HS HO H2 HVP HVS HB hp2 hs2; refine skip_ (by rfl) rfl (w1 := w9.setCell ⟨y0, q, none⟩ (.int .i64 1)) (by go_simp) ?_)
            refine hK.out _ _ ?_
            clear hK K
            refine dn_ HT_ ?_
            go_wp2
            go_roundw
            case measure => simp [intOf]; omega
            case rel => exact ⟨j + 1, by omega, by go_num, HU3, HOS, H2S, HVPS, HVSS, HBS⟩
          · obtain rfl : j = (P f).length := by omega
            have hjz : ¬ ((P f).length : Int) < ((P f).length : Int) := by omega
            rw [← HFE.out] at HS
            go_wp2_with (at_builtin; refine print_append_of (rowV C.length) w.heap.size rfl (.tmp 64) (.tmp 66) 53 22 (.slice none 0 0) 24 rfl Try.underlying53 infoR rfl (by decide) _ bs y0 rfl rfl (rowV_one _ _) HO.out HB.out HB.out.size (by have := HBL.out; omega) ?_; intro v1 w9 ho hb hg hat; have HI9 := Aside0.mk (HS.out.grown HO.out hg); have H29 := Aside0.mk (H2.out.grown HO.out hg); have HO9 := Aside0.mk ho; have HB9 := Aside0.mk hb; clear ho hb hg hat)
            exact ⟨⟨i + 1, bs ++ [y0], by omega, by go_num, HO9, HI9, H29, HB9⟩, by simp [intOf]; omega⟩
      · obtain rfl : i = F.length := by omega
        have hltz : ¬ (F.length : Int) < (F.length : Int) := by omega
        rw [List.take_length] at HI
        go_wp2
        go_ret
        exact ⟨_, _, rfl, HO.out, HI.out, HB.out⟩
end Go.Proofs.Ytomdfjohnmikdaa.Im
namespace Go.Proofs.Ytomdfjohnmikdaa.Im
set_option linter.unusedVariables false
set_option linter.unusedSimpArgs false
open Go.RowKit Go.Shelf Go.Proofs.Ytomdfjohnmikdaa.Cw Go.Proofs.YtomdfjohnmikdaaW.PrintWords Go.Proofs.YtomdfjohnmikdaaW.PrintLast Go.Proofs.YtomdfjohnmikdaaW.PrintMore
/-- The first place from r on at which p holds, told from r; -1 if there is none. -/
def firstR (p : Nat → Bool) (n : Nat) : Int := match (List.range n).find? p with
  | some i => (i : Int)
  | none => -1
theorem firstR_hit {p : Nat → Bool} {n k : Nat} (hk : k < n) (hp : p k = true) (hb : ∀ j, j < k → p j = false) : firstR p n = (k : Int) := by
  unfold firstR
  have h : (List.range n).find? p = some k := by
    rw [List.find?_range_eq_some]
    exact ⟨hp, List.mem_range.2 hk, fun j hj => by simpa using hb j hj⟩
  rw [h]
theorem firstR_miss {p : Nat → Bool} {n : Nat} (hb : ∀ j, j < n → p j = false) : firstR p n = -1 := by
  unfold firstR
  have h : (List.range n).find? p = none := List.find?_eq_none.2 (fun j hj => by simpa using hb j (List.mem_range.1 hj))
  rw [h]
set_option maxRecDepth 100000 in
set_option maxHeartbeats 1000000 in
theorem indexRows_c (A : Option Addr) (n c : Nat) (m : Nat) (ys : Nat → Nat) (g : FuncId) (fs lb : Array Value) (p : Nat → Bool) (w : World)
    (hr : ∀ W, Below w.heap.size w W → ∀ i, i < n → ∃ ad, A = some ad ∧ W.cell? (ad.add i) = some (.slice (some ⟨ys i, 0, none⟩) m m)) (eg : ∀ args w, (callFunc g args).run Try.prog w = .ok (.enter g args) w)
    (hcall : ∀ W i, Below w.heap.size w W → i < n → Calls Try.prog g (fs ++ #[.slice (some ⟨ys i, 0, none⟩) m m] ++ lb) W fun e w' => e = .returned (.bool (p i)) ∧ Below W.heap.size W w') (hl : n ≤ 1099511627776) :
    Calls Try.prog 160 #[.slice A n c, .func (.func g) fs lb] w fun e w' => e = .returned (.int .i64 (firstR p n)) ∧ Below w.heap.size w w' := by
  have HR := Aside0.mk hr
  have HC := Aside0.mk hcall
  clear hr hcall
  go_enter Try.func160, Try.ntmps160
  go_wp2
  go_loopw [5, 8] (fun _ i wr => ∃ k : Nat, k ≤ n ∧ i = .int .i64 k ∧ Aside0 (Below w.heap.size w wr) ∧ Aside0 (∀ j, j < k → p j = false)) (fun _ i _ => n - (intOf i).toNat)
  case atStart => exact ⟨0, by omega, rfl, ⟨Below.refl _ _⟩, ⟨fun j hj => absurd hj (Nat.not_lt_zero _)⟩⟩
  case round =>
    obtain ⟨k, hk, rfl, hB, hA⟩ := hrel
    by_cases hlt : k < n
    · have hltz : (k : Int) < (n : Int) := by omega
      obtain ⟨ad, rfl, h0⟩ := HR.out wr hB.out k hlt
      have HCY := Aside0.mk (HC.out wr k hB.out hlt)
      generalize ys k = y at h0 HCY
      cases hq : p k with
      | true =>
        rw [hq] at HCY
        have HQ := Aside0.mk hq
        clear hq
        go_wp2_with (go_at_fn g; refine HCY.out.mono ?_; rintro e w' ⟨rfl, hb⟩; have HB2 := Aside0.mk hb; clear hb)
        go_ret
        refine ⟨?_, below_in hB.out HB2.out⟩
        rw [firstR_hit hlt HQ.out hA.out]; rfl
      | false =>
        rw [hq] at HCY
        have HQ := Aside0.mk hq
        clear hq
        go_wp2_with (go_at_fn g; refine HCY.out.mono ?_; rintro e w' ⟨rfl, hb⟩; have HB2 := Aside0.mk hb; clear hb)
        go_roundw
        case measure => simp [intOf]; omega
        case rel =>
          refine ⟨k + 1, by omega, by go_num, ⟨below_in hB.out HB2.out⟩, ⟨fun j hj => ?_⟩⟩
          rcases Nat.lt_or_ge j k with h | h
          · exact hA.out j h
          · obtain rfl : j = k := by omega
            exact HQ.out
    · obtain rfl : k = n := by omega
      have hltz : ¬ (k : Int) < (k : Int) := by omega
      go_wp2
      go_ret
      exact ⟨by rw [firstR_miss hA.out]; rfl, hB.out⟩
set_option maxRecDepth 100000 in
theorem rank1_c (y m c : Nat) (v : Int) (bx : Nat) (w : World) (hb : w.cell? ⟨bx, 0, none⟩ = some (.int .i64 c)) (hc : c < m) (hv : w.cell? ⟨y, c, none⟩ = some (.int .i64 v)) :
    Calls Try.prog 161 #[.slice (some ⟨y, 0, none⟩) m m, .pointer (some ⟨bx, 0, none⟩)] w fun e w' => e = .returned (.bool (v != 0)) ∧ Below w.heap.size w w' := by
  have hcz : (c : Int) < (m : Int) := by omega
  go_enter Try.func161, Try.ntmps161
  go_wp2
  go_ret
  exact ⟨rfl, Below.refl _ _⟩
end Go.Proofs.Ytomdfjohnmikdaa.Im
namespace Go.Proofs.Ytomdfjohnmikdaa.QO
open Go.Proofs.Ytomdfjohnmikdaa.Cw Go.Proofs.Ytomdfjohnmikdaa.Kp Go.Proofs.Ytomdfjohnmikdaa.Ext Go.RowKit Go.Proofs.YtomdfjohnmikdaaW.PrintWords Go.Proofs.YtomdfjohnmikdaaW.PrintLast Go.Proofs.YtomdfjohnmikdaaW.PrintMore
attribute [local go_sem] max2_int min2_int max_two min_two max_three min_three max_four min_four   -- for this text's walks alone
set_option linter.unusedVariables false
set_option linter.unusedSimpArgs false
def errW : Option Int → Value
 | none => .nilIface
 | some c => .iface 0 (.int .i64 c)
theorem errW_none : errW none = .nilIface := rfl
theorem errW_some (c : Int) : errW (some c) = .iface 0 (.int .i64 c) := rfl
theorem info2 : (Try.prog.info? 2).map (fun i => (i.zero, i.size, i.bytes)) = some (some (.int .i64 0), 1, 8) := by kernel_rfl
end Go.Proofs.Ytomdfjohnmikdaa.QO
namespace Go.Proofs.Ytomdfjohnmikdaa.QO
open Go.Proofs.Ytomdfjohnmikdaa.Cw Go.Proofs.Ytomdfjohnmikdaa.Kp Go.Proofs.Ytomdfjohnmikdaa.Ext Go.RowKit Go.Proofs.YtomdfjohnmikdaaW.PrintWords Go.Proofs.YtomdfjohnmikdaaW.PrintLast Go.Proofs.YtomdfjohnmikdaaW.PrintMore
attribute [local go_sem] max2_int min2_int max_two min_two max_three min_three max_four min_four   -- for this text's walks alone
set_option linter.unusedVariables false
set_option linter.unusedSimpArgs false
def bits_OnesCount64.f (a0 : Int) : Option (Int) := some (Go.bits .and .i64 (wrap64 (IntKind.u64.wrap ((IntKind.u64.wrap ((IntKind.u64.wrap ((Go.bits .and .u64 (IntKind.u64.wrap (((IntKind.u64.wrap ((Go.bits .and .u64 ((IntKind.u64.wrap ((Go.bits .and .u64 (a0 / 2) 6148914691236517205) + (Go.bits .and .u64 a0 6148914691236517205))) / 4) 3689348814741910323) + (Go.bits .and .u64 (IntKind.u64.wrap ((Go.bits .and .u64 (a0 / 2) 6148914691236517205) + (Go.bits .and .u64 a0 6148914691236517205))) 3689348814741910323))) / 16) + (IntKind.u64.wrap ((Go.bits .and .u64 ((IntKind.u64.wrap ((Go.bits .and .u64 (a0 / 2) 6148914691236517205) + (Go.bits .and .u64 a0 6148914691236517205))) / 4) 3689348814741910323) + (Go.bits .and .u64 (IntKind.u64.wrap ((Go.bits .and .u64 (a0 / 2) 6148914691236517205) + (Go.bits .and .u64 a0 6148914691236517205))) 3689348814741910323))))) 1085102592571150095) + ((Go.bits .and .u64 (IntKind.u64.wrap (((IntKind.u64.wrap ((Go.bits .and .u64 ((IntKind.u64.wrap ((Go.bits .and .u64 (a0 / 2) 6148914691236517205) + (Go.bits .and .u64 a0 6148914691236517205))) / 4) 3689348814741910323) + (Go.bits .and .u64 (IntKind.u64.wrap ((Go.bits .and .u64 (a0 / 2) 6148914691236517205) + (Go.bits .and .u64 a0 6148914691236517205))) 3689348814741910323))) / 16) + (IntKind.u64.wrap ((Go.bits .and .u64 ((IntKind.u64.wrap ((Go.bits .and .u64 (a0 / 2) 6148914691236517205) + (Go.bits .and .u64 a0 6148914691236517205))) / 4) 3689348814741910323) + (Go.bits .and .u64 (IntKind.u64.wrap ((Go.bits .and .u64 (a0 / 2) 6148914691236517205) + (Go.bits .and .u64 a0 6148914691236517205))) 3689348814741910323))))) 1085102592571150095) / 256))) + ((IntKind.u64.wrap ((Go.bits .and .u64 (IntKind.u64.wrap (((IntKind.u64.wrap ((Go.bits .and .u64 ((IntKind.u64.wrap ((Go.bits .and .u64 (a0 / 2) 6148914691236517205) + (Go.bits .and .u64 a0 6148914691236517205))) / 4) 3689348814741910323) + (Go.bits .and .u64 (IntKind.u64.wrap ((Go.bits .and .u64 (a0 / 2) 6148914691236517205) + (Go.bits .and .u64 a0 6148914691236517205))) 3689348814741910323))) / 16) + (IntKind.u64.wrap ((Go.bits .and .u64 ((IntKind.u64.wrap ((Go.bits .and .u64 (a0 / 2) 6148914691236517205) + (Go.bits .and .u64 a0 6148914691236517205))) / 4) 3689348814741910323) + (Go.bits .and .u64 (IntKind.u64.wrap ((Go.bits .and .u64 (a0 / 2) 6148914691236517205) + (Go.bits .and .u64 a0 6148914691236517205))) 3689348814741910323))))) 1085102592571150095) + ((Go.bits .and .u64 (IntKind.u64.wrap (((IntKind.u64.wrap ((Go.bits .and .u64 ((IntKind.u64.wrap ((Go.bits .and .u64 (a0 / 2) 6148914691236517205) + (Go.bits .and .u64 a0 6148914691236517205))) / 4) 3689348814741910323) + (Go.bits .and .u64 (IntKind.u64.wrap ((Go.bits .and .u64 (a0 / 2) 6148914691236517205) + (Go.bits .and .u64 a0 6148914691236517205))) 3689348814741910323))) / 16) + (IntKind.u64.wrap ((Go.bits .and .u64 ((IntKind.u64.wrap ((Go.bits .and .u64 (a0 / 2) 6148914691236517205) + (Go.bits .and .u64 a0 6148914691236517205))) / 4) 3689348814741910323) + (Go.bits .and .u64 (IntKind.u64.wrap ((Go.bits .and .u64 (a0 / 2) 6148914691236517205) + (Go.bits .and .u64 a0 6148914691236517205))) 3689348814741910323))))) 1085102592571150095) / 256))) / 65536))) + ((IntKind.u64.wrap ((IntKind.u64.wrap ((Go.bits .and .u64 (IntKind.u64.wrap (((IntKind.u64.wrap ((Go.bits .and .u64 ((IntKind.u64.wrap ((Go.bits .and .u64 (a0 / 2) 6148914691236517205) + (Go.bits .and .u64 a0 6148914691236517205))) / 4) 3689348814741910323) + (Go.bits .and .u64 (IntKind.u64.wrap ((Go.bits .and .u64 (a0 / 2) 6148914691236517205) + (Go.bits .and .u64 a0 6148914691236517205))) 3689348814741910323))) / 16) + (IntKind.u64.wrap ((Go.bits .and .u64 ((IntKind.u64.wrap ((Go.bits .and .u64 (a0 / 2) 6148914691236517205) + (Go.bits .and .u64 a0 6148914691236517205))) / 4) 3689348814741910323) + (Go.bits .and .u64 (IntKind.u64.wrap ((Go.bits .and .u64 (a0 / 2) 6148914691236517205) + (Go.bits .and .u64 a0 6148914691236517205))) 3689348814741910323))))) 1085102592571150095) + ((Go.bits .and .u64 (IntKind.u64.wrap (((IntKind.u64.wrap ((Go.bits .and .u64 ((IntKind.u64.wrap ((Go.bits .and .u64 (a0 / 2) 6148914691236517205) + (Go.bits .and .u64 a0 6148914691236517205))) / 4) 3689348814741910323) + (Go.bits .and .u64 (IntKind.u64.wrap ((Go.bits .and .u64 (a0 / 2) 6148914691236517205) + (Go.bits .and .u64 a0 6148914691236517205))) 3689348814741910323))) / 16) + (IntKind.u64.wrap ((Go.bits .and .u64 ((IntKind.u64.wrap ((Go.bits .and .u64 (a0 / 2) 6148914691236517205) + (Go.bits .and .u64 a0 6148914691236517205))) / 4) 3689348814741910323) + (Go.bits .and .u64 (IntKind.u64.wrap ((Go.bits .and .u64 (a0 / 2) 6148914691236517205) + (Go.bits .and .u64 a0 6148914691236517205))) 3689348814741910323))))) 1085102592571150095) / 256))) + ((IntKind.u64.wrap ((Go.bits .and .u64 (IntKind.u64.wrap (((IntKind.u64.wrap ((Go.bits .and .u64 ((IntKind.u64.wrap ((Go.bits .and .u64 (a0 / 2) 6148914691236517205) + (Go.bits .and .u64 a0 6148914691236517205))) / 4) 3689348814741910323) + (Go.bits .and .u64 (IntKind.u64.wrap ((Go.bits .and .u64 (a0 / 2) 6148914691236517205) + (Go.bits .and .u64 a0 6148914691236517205))) 3689348814741910323))) / 16) + (IntKind.u64.wrap ((Go.bits .and .u64 ((IntKind.u64.wrap ((Go.bits .and .u64 (a0 / 2) 6148914691236517205) + (Go.bits .and .u64 a0 6148914691236517205))) / 4) 3689348814741910323) + (Go.bits .and .u64 (IntKind.u64.wrap ((Go.bits .and .u64 (a0 / 2) 6148914691236517205) + (Go.bits .and .u64 a0 6148914691236517205))) 3689348814741910323))))) 1085102592571150095) + ((Go.bits .and .u64 (IntKind.u64.wrap (((IntKind.u64.wrap ((Go.bits .and .u64 ((IntKind.u64.wrap ((Go.bits .and .u64 (a0 / 2) 6148914691236517205) + (Go.bits .and .u64 a0 6148914691236517205))) / 4) 3689348814741910323) + (Go.bits .and .u64 (IntKind.u64.wrap ((Go.bits .and .u64 (a0 / 2) 6148914691236517205) + (Go.bits .and .u64 a0 6148914691236517205))) 3689348814741910323))) / 16) + (IntKind.u64.wrap ((Go.bits .and .u64 ((IntKind.u64.wrap ((Go.bits .and .u64 (a0 / 2) 6148914691236517205) + (Go.bits .and .u64 a0 6148914691236517205))) / 4) 3689348814741910323) + (Go.bits .and .u64 (IntKind.u64.wrap ((Go.bits .and .u64 (a0 / 2) 6148914691236517205) + (Go.bits .and .u64 a0 6148914691236517205))) 3689348814741910323))))) 1085102592571150095) / 256))) / 65536))) / 4294967296)))) 127)
set_option maxHeartbeats 8000000 in
set_option maxRecDepth 100000 in
theorem bits_OnesCount64.calls (a0 : Int) (r : Int) (w : World) (h : bits_OnesCount64.f a0 = some r) :
  Calls Try.prog 174 #[.int .u64 a0] w fun e w' => e = .returned (.int .i64 r) ∧ Drawn0 w w' := by
 have H : (some (Go.bits .and .i64 (wrap64 (IntKind.u64.wrap ((IntKind.u64.wrap ((IntKind.u64.wrap ((Go.bits .and .u64 (IntKind.u64.wrap (((IntKind.u64.wrap ((Go.bits .and .u64 ((IntKind.u64.wrap ((Go.bits .and .u64 (a0 / 2) 6148914691236517205) + (Go.bits .and .u64 a0 6148914691236517205))) / 4) 3689348814741910323) + (Go.bits .and .u64 (IntKind.u64.wrap ((Go.bits .and .u64 (a0 / 2) 6148914691236517205) + (Go.bits .and .u64 a0 6148914691236517205))) 3689348814741910323))) / 16) + (IntKind.u64.wrap ((Go.bits .and .u64 ((IntKind.u64.wrap ((Go.bits .and .u64 (a0 / 2) 6148914691236517205) + (Go.bits .and .u64 a0 6148914691236517205))) / 4) 3689348814741910323) + (Go.bits .and .u64 (IntKind.u64.wrap ((Go.bits .and .u64 (a0 / 2) 6148914691236517205) + (Go.bits .and .u64 a0 6148914691236517205))) 3689348814741910323))))) 1085102592571150095) + ((Go.bits .and .u64 (IntKind.u64.wrap (((IntKind.u64.wrap ((Go.bits .and .u64 ((IntKind.u64.wrap ((Go.bits .and .u64 (a0 / 2) 6148914691236517205) + (Go.bits .and .u64 a0 6148914691236517205))) / 4) 3689348814741910323) + (Go.bits .and .u64 (IntKind.u64.wrap ((Go.bits .and .u64 (a0 / 2) 6148914691236517205) + (Go.bits .and .u64 a0 6148914691236517205))) 3689348814741910323))) / 16) + (IntKind.u64.wrap ((Go.bits .and .u64 ((IntKind.u64.wrap ((Go.bits .and .u64 (a0 / 2) 6148914691236517205) + (Go.bits .and .u64 a0 6148914691236517205))) / 4) 3689348814741910323) + (Go.bits .and .u64 (IntKind.u64.wrap ((Go.bits .and .u64 (a0 / 2) 6148914691236517205) + (Go.bits .and .u64 a0 6148914691236517205))) 3689348814741910323))))) 1085102592571150095) / 256))) + ((IntKind.u64.wrap ((Go.bits .and .u64 (IntKind.u64.wrap (((IntKind.u64.wrap ((Go.bits .and .u64 ((IntKind.u64.wrap ((Go.bits .and .u64 (a0 / 2) 6148914691236517205) + (Go.bits .and .u64 a0 6148914691236517205))) / 4) 3689348814741910323) + (Go.bits .and .u64 (IntKind.u64.wrap ((Go.bits .and .u64 (a0 / 2) 6148914691236517205) + (Go.bits .and .u64 a0 6148914691236517205))) 3689348814741910323))) / 16) + (IntKind.u64.wrap ((Go.bits .and .u64 ((IntKind.u64.wrap ((Go.bits .and .u64 (a0 / 2) 6148914691236517205) + (Go.bits .and .u64 a0 6148914691236517205))) / 4) 3689348814741910323) + (Go.bits .and .u64 (IntKind.u64.wrap ((Go.bits .and .u64 (a0 / 2) 6148914691236517205) + (Go.bits .and .u64 a0 6148914691236517205))) 3689348814741910323))))) 1085102592571150095) + ((Go.bits .and .u64 (IntKind.u64.wrap (((IntKind.u64.wrap ((Go.bits .and .u64 ((IntKind.u64.wrap ((Go.bits .and .u64 (a0 / 2) 6148914691236517205) + (Go.bits .and .u64 a0 6148914691236517205))) / 4) 3689348814741910323) + (Go.bits .and .u64 (IntKind.u64.wrap ((Go.bits .and .u64 (a0 / 2) 6148914691236517205) + (Go.bits .and .u64 a0 6148914691236517205))) 3689348814741910323))) / 16) + (IntKind.u64.wrap ((Go.bits .and .u64 ((IntKind.u64.wrap ((Go.bits .and .u64 (a0 / 2) 6148914691236517205) + (Go.bits .and .u64 a0 6148914691236517205))) / 4) 3689348814741910323) + (Go.bits .and .u64 (IntKind.u64.wrap ((Go.bits .and .u64 (a0 / 2) 6148914691236517205) + (Go.bits .and .u64 a0 6148914691236517205))) 3689348814741910323))))) 1085102592571150095) / 256))) / 65536))) + ((IntKind.u64.wrap ((IntKind.u64.wrap ((Go.bits .and .u64 (IntKind.u64.wrap (((IntKind.u64.wrap ((Go.bits .and .u64 ((IntKind.u64.wrap ((Go.bits .and .u64 (a0 / 2) 6148914691236517205) + (Go.bits .and .u64 a0 6148914691236517205))) / 4) 3689348814741910323) + (Go.bits .and .u64 (IntKind.u64.wrap ((Go.bits .and .u64 (a0 / 2) 6148914691236517205) + (Go.bits .and .u64 a0 6148914691236517205))) 3689348814741910323))) / 16) + (IntKind.u64.wrap ((Go.bits .and .u64 ((IntKind.u64.wrap ((Go.bits .and .u64 (a0 / 2) 6148914691236517205) + (Go.bits .and .u64 a0 6148914691236517205))) / 4) 3689348814741910323) + (Go.bits .and .u64 (IntKind.u64.wrap ((Go.bits .and .u64 (a0 / 2) 6148914691236517205) + (Go.bits .and .u64 a0 6148914691236517205))) 3689348814741910323))))) 1085102592571150095) + ((Go.bits .and .u64 (IntKind.u64.wrap (((IntKind.u64.wrap ((Go.bits .and .u64 ((IntKind.u64.wrap ((Go.bits .and .u64 (a0 / 2) 6148914691236517205) + (Go.bits .and .u64 a0 6148914691236517205))) / 4) 3689348814741910323) + (Go.bits .and .u64 (IntKind.u64.wrap ((Go.bits .and .u64 (a0 / 2) 6148914691236517205) + (Go.bits .and .u64 a0 6148914691236517205))) 3689348814741910323))) / 16) + (IntKind.u64.wrap ((Go.bits .and .u64 ((IntKind.u64.wrap ((Go.bits .and .u64 (a0 / 2) 6148914691236517205) + (Go.bits .and .u64 a0 6148914691236517205))) / 4) 3689348814741910323) + (Go.bits .and .u64 (IntKind.u64.wrap ((Go.bits .and .u64 (a0 / 2) 6148914691236517205) + (Go.bits .and .u64 a0 6148914691236517205))) 3689348814741910323))))) 1085102592571150095) / 256))) + ((IntKind.u64.wrap ((Go.bits .and .u64 (IntKind.u64.wrap (((IntKind.u64.wrap ((Go.bits .and .u64 ((IntKind.u64.wrap ((Go.bits .and .u64 (a0 / 2) 6148914691236517205) + (Go.bits .and .u64 a0 6148914691236517205))) / 4) 3689348814741910323) + (Go.bits .and .u64 (IntKind.u64.wrap ((Go.bits .and .u64 (a0 / 2) 6148914691236517205) + (Go.bits .and .u64 a0 6148914691236517205))) 3689348814741910323))) / 16) + (IntKind.u64.wrap ((Go.bits .and .u64 ((IntKind.u64.wrap ((Go.bits .and .u64 (a0 / 2) 6148914691236517205) + (Go.bits .and .u64 a0 6148914691236517205))) / 4) 3689348814741910323) + (Go.bits .and .u64 (IntKind.u64.wrap ((Go.bits .and .u64 (a0 / 2) 6148914691236517205) + (Go.bits .and .u64 a0 6148914691236517205))) 3689348814741910323))))) 1085102592571150095) + ((Go.bits .and .u64 (IntKind.u64.wrap (((IntKind.u64.wrap ((Go.bits .and .u64 ((IntKind.u64.wrap ((Go.bits .and .u64 (a0 / 2) 6148914691236517205) + (Go.bits .and .u64 a0 6148914691236517205))) / 4) 3689348814741910323) + (Go.bits .and .u64 (IntKind.u64.wrap ((Go.bits .and .u64 (a0 / 2) 6148914691236517205) + (Go.bits .and .u64 a0 6148914691236517205))) 3689348814741910323))) / 16) + (IntKind.u64.wrap ((Go.bits .and .u64 ((IntKind.u64.wrap ((Go.bits .and .u64 (a0 / 2) 6148914691236517205) + (Go.bits .and .u64 a0 6148914691236517205))) / 4) 3689348814741910323) + (Go.bits .and .u64 (IntKind.u64.wrap ((Go.bits .and .u64 (a0 / 2) 6148914691236517205) + (Go.bits .and .u64 a0 6148914691236517205))) 3689348814741910323))))) 1085102592571150095) / 256))) / 65536))) / 4294967296)))) 127)) = some r := h
 clear h
 obtain rfl := Option.some.inj H
 go_enter Try.func174, Try.ntmps174
 go_wp2
 go_ret
 exact ⟨by first | rfl | (simp; done) | (simp [*]; done), by repeat (first | exact Drawn0.refl _ | apply Drawn0.step)⟩
def impl_size.f (a0 : Int) : Option (Int) := (bits_OnesCount64.f (IntKind.u64.wrap (a0))).bind fun t101 => (some t101)
set_option maxHeartbeats 8000000 in
set_option maxRecDepth 100000 in
theorem impl_size.calls (a0 : Int) (r : Int) (w : World) (h : impl_size.f a0 = some r) :
  Calls Try.prog 136 #[.int .i64 a0] w fun e w' => e = .returned (.int .i64 r) ∧ Drawn0 w w' := by
 have H : ((bits_OnesCount64.f (IntKind.u64.wrap (a0))).bind fun t101 => (some t101)) = some r := h
 clear h
 replace H := Option.bind_eq_some_iff.mp H
 obtain ⟨t101, A20, H⟩ := H
 try dsimp only at H
 have A2 := Aside0.mk A20
 clear A20
 obtain rfl := Option.some.inj H
 go_enter Try.func136, Try.ntmps136
 go_wp2_with (first | ((with_reducible refine gate_callee (f := 174) rfl ?_); refine cl_ (some 5) Try.func174 #[.int .u64 (IntKind.u64.wrap (a0))] ?_; (with_reducible refine (bits_OnesCount64.calls (IntKind.u64.wrap (a0)) t101 _ A2.out).mono ?_); rintro e w' ⟨rfl, ⟨nd, rfl⟩⟩; refine ⟨_, rfl, ?_⟩))
 go_ret
 exact ⟨by first | rfl | (simp; done) | (simp [*]; done), by repeat (first | exact Drawn0.refl _ | apply Drawn0.step)⟩
def impl_dimension.f (a0 : Int) : Option (Int) := (impl_size.f a0).bind fun t102 => (some (wrap64 (t102 - 1)))
set_option maxHeartbeats 8000000 in
set_option maxRecDepth 100000 in
theorem impl_dimension.calls (a0 : Int) (r : Int) (w : World) (h : impl_dimension.f a0 = some r) :
  Calls Try.prog 107 #[.int .i64 a0] w fun e w' => e = .returned (.int .i64 r) ∧ Drawn0 w w' := by
 have H : ((impl_size.f a0).bind fun t102 => (some (wrap64 (t102 - 1)))) = some r := h
 clear h
 replace H := Option.bind_eq_some_iff.mp H
 obtain ⟨t102, A20, H⟩ := H
 try dsimp only at H
 have A2 := Aside0.mk A20
 clear A20
 obtain rfl := Option.some.inj H
 go_enter Try.func107, Try.ntmps107
 go_wp2_with (first | ((with_reducible refine gate_callee (f := 136) rfl ?_); refine cl_ (some 4) Try.func136 #[.int .i64 a0] ?_; (with_reducible refine (impl_size.calls a0 t102 _ A2.out).mono ?_); rintro e w' ⟨rfl, ⟨nd, rfl⟩⟩; refine ⟨_, rfl, ?_⟩))
 go_ret
 exact ⟨by first | rfl | (simp; done) | (simp [*]; done), by repeat (first | exact Drawn0.refl _ | apply Drawn0.step)⟩
def impl_Complex_of_1.f (a0 : Int) (a1_0 : Int) : Option (Bool) := (impl_dimension.f a0).bind fun t104 => (some (t104 != a1_0))
set_option maxHeartbeats 8000000 in
set_option maxRecDepth 100000 in
theorem impl_Complex_of_1.calls (a0 : Int) (g1 : Nat) (a1_0 : Int) (r : Bool) (w : World) (hb1 : w.heap[g1]? = some (.cells #[.int .i64 a1_0] 2 (0, 0))) (h : impl_Complex_of_1.f a0 a1_0 = some r) :
  Calls Try.prog 186 #[.int .i64 a0, .pointer (some ⟨g1, 0, none⟩)] w fun e w' => e = .returned (.bool r) ∧ Drawn0 w w' := by
 have BK103 := Aside0.mk hb1
 clear hb1
 have H : ((impl_dimension.f a0).bind fun t104 => (some (t104 != a1_0))) = some r := h
 clear h
 replace H := Option.bind_eq_some_iff.mp H
 obtain ⟨t104, A30, H⟩ := H
 try dsimp only at H
 have A3 := Aside0.mk A30
 clear A30
 obtain rfl := Option.some.inj H
 go_enter Try.func186, Try.ntmps186
 go_wp2_with (first | (go_at_call 107; (with_reducible refine (impl_dimension.calls a0 t104 _ A3.out).mono ?_); rintro e w' ⟨rfl, ⟨nd, rfl⟩⟩; (try first | exact ⟨rfl, _, World.drewN_drewN _ _ _⟩ | exact ⟨rfl, _, Eq.trans (World.drewN_drewN _ _ _) (congrArg (World.drewN _) (Nat.add_assoc _ _ _))⟩); have hcz4_0 : w.cell? ⟨g1, 0, none⟩ = some (.int .i64 a1_0) := cB BK103 0; have hfz4_0 := zB BK103 0))
 repeat (go_quiet (first | (go_at_call 107; (with_reducible refine (impl_dimension.calls a0 t104 _ A3.out).mono ?_); rintro e w' ⟨rfl, ⟨nd, rfl⟩⟩; (try first | exact ⟨rfl, _, World.drewN_drewN _ _ _⟩ | exact ⟨rfl, _, Eq.trans (World.drewN_drewN _ _ _) (congrArg (World.drewN _) (Nat.add_assoc _ _ _))⟩); have hcz4_0 : w.cell? ⟨g1, 0, none⟩ = some (.int .i64 a1_0) := cB BK103 0; have hfz4_0 := zB BK103 0)); try go_wp2_with (first | (go_at_call 107; (with_reducible refine (impl_dimension.calls a0 t104 _ A3.out).mono ?_); rintro e w' ⟨rfl, ⟨nd, rfl⟩⟩; (try first | exact ⟨rfl, _, World.drewN_drewN _ _ _⟩ | exact ⟨rfl, _, Eq.trans (World.drewN_drewN _ _ _) (congrArg (World.drewN _) (Nat.add_assoc _ _ _))⟩); have hcz4_0 : w.cell? ⟨g1, 0, none⟩ = some (.int .i64 a1_0) := cB BK103 0; have hfz4_0 := zB BK103 0)))
 go_ret
 exact ⟨by first | rfl | (simp; done) | (simp [*]; done), by repeat (first | exact Drawn0.refl _ | apply Drawn0.step)⟩
def clo_186 (a1_0 : Int) : Pred := Pred.ofI (fun x => impl_Complex_of_1.f x a1_0)
set_option maxRecDepth 100000 in
theorem clo_ok_186 {W : World} {g1 : Nat} {a1_0 : Int} (hb1 : W.heap[g1]? = some (.cells #[.int .i64 a1_0] 2 (0, 0)))  : FnOk (.func (.func 186) #[] #[.pointer (some ⟨g1, 0, none⟩)]) (clo_186 a1_0) W :=
 FnOk.ofI (enters_of Try.func186 (by kernel_rfl) rfl) (fun V x b hV hr => by
  show Calls Try.prog 186 #[.int .i64 x, .pointer (some ⟨g1, 0, none⟩)] V _
  exact (impl_Complex_of_1.calls x g1 a1_0 b V ((hV.block g1 (blk_lt hb1)).trans hb1) hr).mono (fun e w' h_ => ⟨h_.1, h_.2.below⟩))
def impl_Complex_of.f (a0_0 : Int) (l0_1 : List Int) (a1 : Int) : Option (List Int) := (slices_Clone_int64_int64.f l0_1).bind fun t107 => ((slices_DeleteFunc_int64_int64.f t107 (clo_186 a1)).bind fun t110 => (some t110))
set_option maxHeartbeats 8000000 in
set_option maxRecDepth 100000 in
theorem impl_Complex_of.calls (a0_0 : Int) (A0_1 : Option Addr) (c0_1 : Nat) (l0_1 : List Int) (a1 : Int) (r : List Int) (w : World) (hr0_1 : Kd.C (Kd.int .i64) w A0_1 l0_1.length l0_1) (hc0_1 : l0_1.length ≤ c0_1) (h : impl_Complex_of.f a0_0 l0_1 a1 = some r) :
  Calls Try.prog 157 #[.agg #[.int .i64 a0_0, .slice A0_1 l0_1.length c0_1], .int .i64 a1] w fun e w' => ∃ v0_ : Value, e = .returned (v0_) ∧ Kd.R (Kd.int .i64) 2 w' w.heap.size (fun _ => True) v0_ r ∧ Below w.heap.size w w' := by
 have hu28 := Try.underlying28
 have HR0_1 := Aside0.mk hr0_1
 have HC0_1 := Aside0.mk hc0_1
 clear hr0_1 hc0_1
 have HB := Aside0.mk (Below.refl w.heap.size w)
 have H : ((slices_Clone_int64_int64.f l0_1).bind fun t107 => ((slices_DeleteFunc_int64_int64.f t107 (clo_186 a1)).bind fun t110 => (some t110))) = some r := h
 clear h
 replace H := Option.bind_eq_some_iff.mp H
 obtain ⟨t107, A30, H⟩ := H
 try dsimp only at H
 have A3 := Aside0.mk A30
 clear A30
 replace H := Option.bind_eq_some_iff.mp H
 obtain ⟨t110, A40, H⟩ := H
 try dsimp only at H
 have A4 := Aside0.mk A40
 clear A40
 obtain rfl := Option.some.inj H
 go_enter Try.func157, Try.ntmps157
 go_wp2_with (first | ((with_reducible refine gate_dst (N := 2) rfl ?_); refine box_event ?hg (N := 2) ?hd (cs := #[.int .i64 a0_0, .slice A0_1 l0_1.length c0_1]) (t := 28) ?hr ?_; (case hd => rfl); (case hg => rfl); (case hr => first | (go_simp; done) | (go_simp; rfl)); intro gb105 hg w5 hbox hb; have BK105 := Aside0.mk (hbox); have GW105 := gH HB hg; have GE105 := gH HB hg; replace HB := sH HB hb; clear hb hbox hg) | ((with_reducible refine gate_dst (N := 3) rfl ?_); refine box_event ?hg (N := 3) ?hd (cs := #[.int .i64 a1]) (t := 2) ?hr ?_; (case hd => rfl); (case hg => rfl); (case hr => first | (go_simp; done) | (go_simp; rfl)); intro gb106 hg w6 hbox hb; have BK106 := Aside0.mk (hbox); have GW106 := gH HB hg; have GE106 := gH HB hg; replace HB := sH HB hb; have NB105_106 := nB BK105 hg; have NB106_105 := oB BK105 hg; replace BK105 := sB BK105 hb; clear hb hbox hg; (try have hnb7 := NB105_106.out); (try have hnc7 := NB106_105.out); have hcz8_0 : w6.cell? ⟨gb105, 0, none⟩ = some (.int .i64 a0_0) := cB BK105 0; have hcz8_1 : w6.cell? ⟨gb105, 1, none⟩ = some (.slice A0_1 l0_1.length c0_1) := cB BK105 1; have hfz8_0 := zB BK105 0; have hfz8_1 := zB BK105 1) | ((with_reducible refine gate_callee (f := 122) rfl ?_); refine cl_ (some 7) Try.func122 #[.slice A0_1 l0_1.length c0_1] ?_; (with_reducible refine (slices_Clone_int64_int64.calls _ _ l0_1 t107 _ ?side1 ?side2 A3.out).mono ?_); (case side1 => exact pC ((Kd.C_below HR0_1.out HB.out))); (case side2 => exact HC0_1.out); rintro e w9 ⟨v108, rfl, ho0, hb⟩; refine ⟨_, rfl, ?_⟩; have HO109 := Aside0.mk (Kd.R_lower (Kd.R_newB ho0 (g := gb106) (o := .cells #[.int .i64 a1] 2 (0, 0)) (pB BK106)) (below_size (pH HB))); replace BK105 := sB BK105 hb; replace BK106 := sB BK106 hb; replace HB := sH HB hb; (try clear hb); (try clear hi); (try clear ho0); obtain ⟨Ao10, co10, eo10⟩ := Kd.R_slice HO109.out; subst eo10) | ((with_reducible refine gate_callee (f := 121) rfl ?_); refine cl_ (some 9) Try.func121 #[.slice Ao10 t107.length co10, .func (.func 186) #[] #[.pointer (some ⟨gb106, 0, none⟩)]] ?_; (with_reducible refine (slices_DeleteFunc_int64_int64.calls (fun k_ => some k_ = (.slice Ao10 t107.length co10 : Value).ownBlock) (.slice Ao10 t107.length co10) t107 _ (clo_186 a1) t110 w _ ?side1 ?side2 ?side3 A4.out).mono ?_); (case side1 => repeat (first | (with_reducible first | exact HB.out | apply below_alloc | apply pw_below_drewN | apply below_drew1 | refine below_set ?_ GE105.out | refine below_set ?_ GE106.out) | exact HB.out)); (case side2 => exact Kd.R_tight rfl HO109.out); (case side3 => intro W_ hK_; exact clo_ok_186 (blk_kept (pB BK106) hK_ (fun hs_ => (fun e_ => (Kd.R_away HO109.out (fun _ hk => hk.2)) e_) hs_)) ); rintro e w11 ⟨v111, rfl, ho0, hb, hkp⟩; refine ⟨_, rfl, ?_⟩; have n0_ := Aside0.mk (blk_kept (pB BK105) hkp (fun hs_ => (fun e_ => (Kd.R_ne HO109.out BK105.out (by decide)) e_) hs_)); have n1_ := Aside0.mk (blk_kept (pB BK106) hkp (fun hs_ => (fun e_ => (Kd.R_away HO109.out (fun _ hk => hk.2)) e_) hs_)); have n2_ := Aside0.mk (Kd.R_mono (ok' := fun k_ => k_ ≠ gb106) ho0 (fun k_ hk_ => Or.elim hk_ (fun hs_ => fun e_ => (Kd.R_away HO109.out (fun _ hk => hk.2)) (by rw [← e_]; exact hs_)) (fun hn_ => (Kd.freshB (g := gb106) (o := .cells #[.int .i64 a1] 2 (0, 0)) (pB BK106) k_ hn_)))); have n3_ := Aside0.mk (hb); clear BK105; clear BK106; clear HB; clear HO109; have BK105 := n0_; have BK106 := n1_; have HO112 := n2_; have HB := n3_; clear n0_ n1_ n2_ n3_; (try clear hb); (try clear hkp); (try clear ho0)))
 go_ret
 exact ⟨_, by first | rfl | (simp [errW_none, errW_some] <;> rfl) | (simp [*, errW_none, errW_some] <;> rfl) | (exfalso; simp_all), by (with_reducible repeat (first | apply Kd.R_alloc | apply Kd.R_drewN | apply Kd.R_drew)); exact Kd.R_mono HO112.out (fun _ hk => trivial), pH HB⟩
def impl_signs.l0 : Nat → Int → List Int → Int → Int → Option (List Int)
 | 0, _, _, _, _ => none
 | k + 1, x0, x3, x7, x8 => if x8 < x7 then ((impl_size.f x0).bind fun t116 => (if x3.length < 17592186044416 then (impl_signs.l0 k x0 (x3 ++ [wrap64 (1 - (wrap64 (2 * (Int.tmod (wrap64 ((wrap64 (t116 - 1)) - x8)) 2))))]) x7 (wrap64 (x8 + 1))) else (none))) else (some x3)
def impl_signs.f (k : Nat) (a0 : Int) : Option (List Int) := (impl_borders.f a0).bind fun t113 => (impl_signs.l0 k a0 ([] : List Int) (t113.length : Int) 0)
theorem impl_signs.mono_l : ∀ k, (∀ y0 y1 y2 y3, LeO (impl_signs.l0 k y0 y1 y2 y3) (impl_signs.l0 (k + 1) y0 y1 y2 y3))
 | 0 => fun _ _ _ _ r h => by simp [impl_signs.l0] at h
 | k + 1 => by
  have ih0 := impl_signs.mono_l k
  ·intro y0 y1 y2 y3
   unfold impl_signs.l0
   repeat' first
   | (with_reducible exact ih0 _ _ _ _)
   | (with_reducible exact LeO.refl _)
   | (with_reducible exact LeO.none _)
   | (with_reducible refine LeO.ite ?_ ?_)
   | (with_reducible refine LeO.bind ?_ (fun _ => ?_))
   | exact ih0 _ _ _ _
   | exact LeO.none _
   | refine LeO.ite ?_ ?_
   | refine LeO.bind ?_ (fun _ => ?_)
theorem impl_signs.mono : ∀ a0 k, LeO (impl_signs.f k a0) (impl_signs.f (k + 1) a0) := by
 intro a0 k
 have ih0 := impl_signs.mono_l k
 unfold impl_signs.f
 repeat' first
   | (with_reducible exact ih0 _ _ _ _)
   | (with_reducible exact LeO.refl _)
   | (with_reducible exact LeO.none _)
   | (with_reducible refine LeO.ite ?_ ?_)
   | (with_reducible refine LeO.bind ?_ (fun _ => ?_))
   | exact ih0 _ _ _ _
   | exact LeO.none _
   | refine LeO.ite ?_ ?_
   | refine LeO.bind ?_ (fun _ => ?_)
set_option maxHeartbeats 8000000 in
set_option maxRecDepth 100000 in
theorem impl_signs.calls (k : Nat) (a0 : Int) (r : List Int) (w : World) (h : impl_signs.f k a0 = some r) :
  Calls Try.prog 159 #[.int .i64 a0] w fun e w' => ∃ v0_ : Value, e = .returned (v0_) ∧ Kd.R (Kd.int .i64) 2 w' w.heap.size (fun _ => True) v0_ r ∧ Below w.heap.size w w' := by
 have HB := Aside0.mk (Below.refl w.heap.size w)
 have H : ((impl_borders.f a0).bind fun t113 => (impl_signs.l0 k a0 ([] : List Int) (t113.length : Int) 0)) = some r := h
 clear h
 replace H := Option.bind_eq_some_iff.mp H
 obtain ⟨t113, A20, H⟩ := H
 try dsimp only at H
 have A2 := Aside0.mk A20
 clear A20
 have H' := Aside0.mk H
 clear H
 go_enter Try.func159, Try.ntmps159
 go_wp2_with (first | ((with_reducible refine gate_callee (f := 155) rfl ?_); refine cl_ (some 6) Try.func155 #[.int .i64 a0] ?_; (with_reducible refine (impl_borders.calls a0 t113 _ A2.out).mono ?_); rintro e w3 ⟨v114, rfl, ho0, hb⟩; refine ⟨_, rfl, ?_⟩; have HO115 := Aside0.mk (Kd.R_lower ho0 (below_size (pH HB))); replace HB := sH HB hb; (try clear hb); (try clear hi); (try clear ho0); obtain ⟨Ao4, co4, eo4⟩ := Kd.R_slice HO115.out; subst eo4))
 go_loopg [3, 8] k (fun kq v3 v8 w' => ∃ (x3_1 : List Int) (x8_1 : Int), v8 = .int .i64 x8_1 ∧ Aside0 (impl_signs.l0 kq a0 x3_1 (t113.length : Int) x8_1 = some r) ∧ Aside0 (kq ≤ k) ∧ Aside0 (Kd.R (Kd.int .i64) 2 w' w.heap.size (fun _ => True) v3 x3_1) ∧ Aside0 (Below w.heap.size w w'))
 case atStart => exact ⟨(([] : List Int)), (0), (by first | rfl | (simp; done) | (simp [*]; done)), H', ⟨Nat.le_refl _⟩, ⟨by first | exact Kd.R_nil _ _ _ _ _ | exact Kd.N_nil _ _ _ _ _ | exact Kd.V_nil _ _ _ _ _ | exact Kd.Q_nil _ _ _ _ _ | exact Kd.S_nil _ _ _ _ _⟩, ⟨pH HB⟩⟩
 case round =>
  clear H'
  try clear c1
  try clear p2
  obtain ⟨x3_1, x8_1, rfl, HA, HK1, HO_3, HB⟩ := hrel
  cases gk with
  | zero => exact absurd HA.out (by simp [impl_signs.l0])
  | succ k1 =>
   have H := HA.out
   clear HA
   simp only [impl_signs.l0] at H
   by_cases c5 : x8_1 < (t113.length : Int)
   ·rw [if_pos c5] at H
    have c5b0 : decide (x8_1 < (t113.length : Int)) = true := decide_eq_true c5
    clear c5
    replace H := Option.bind_eq_some_iff.mp H
    obtain ⟨t116, A60, H⟩ := H
    try dsimp only at H
    have A6 := Aside0.mk A60
    clear A60
    by_cases c7 : x3_1.length < 17592186044416
    ·rw [if_pos c7] at H
     have LMc7 := Aside0.mk c7
     clear c7
     obtain ⟨y117, hy117⟩ : ∃ y_ : List Int, y_ = (x3_1 ++ [wrap64 (1 - (wrap64 (2 * (Int.tmod (wrap64 ((wrap64 (t116 - 1)) - x8_1)) 2))))]) := ⟨_, rfl⟩
     replace H : (impl_signs.l0 k1 a0 y117 (t113.length : Int) (wrap64 (x8_1 + 1))) = some r := by first | (rw [hy117]; with_reducible exact H) | (have H2_ := (Option.bind_some _ _).symm.trans H; rw [hy117]; with_reducible exact H2_) | (have H2_ := (Option.bind_some _ _).symm.trans H; with_reducible exact H2_) | with_reducible exact H | (rw [hy117]; exact H) | exact H
     have Ny117 := Aside0.mk hy117
     clear hy117
     have H' := Aside0.mk H
     clear H
     go_wp2_with (first | ((with_reducible refine gate_callee (f := 136) rfl ?_); refine cl_ (some 13) Try.func136 #[.int .i64 a0] ?_; (with_reducible refine (impl_size.calls a0 t116 _ A6.out).mono ?_); rintro e w' ⟨rfl, ⟨nd, rfl⟩⟩; refine ⟨_, rfl, ?_⟩) | ((with_reducible refine gate_builtin (b := .append) (xs := #[.tmp 11, .tmp 20]) rfl ?_); at_builtin; refine Kd.R_append (Kd.int .i64) (w0 := w) w.heap.size rfl (.tmp 11) (.tmp 20) 22 2 (.int .i64 0) 8 rfl Try.underlying22 info2 rfl (by decide) (by omega) u3 x3_1 (wrap64 (1 - (wrap64 (2 * (Int.tmod (wrap64 ((wrap64 (t116 - 1)) - x8_1)) 2))))) [.int .i64 (wrap64 (1 - (wrap64 (2 * (Int.tmod (wrap64 ((wrap64 (t116 - 1)) - x8_1)) 2)))))] (fun _ => True) (fun _ => False) rfl rfl ?aP (fun _ hk => hk.elim) ?aF ?aO ?aB ?aS ?aL ?_; (case aP => exact rfl); (case aB => exact (pH HB)); (case aF => exact (fun _ _ => trivial)); (case aO => exact (pR HO_3)); (case aS => exact (below_size (pH HB))); (case aL => have := LMc7.out; omega); intro v118 w8 ho hb hg hat; rw [← Ny117.out] at ho; replace HB := Aside0.mk (hb); have HO119 := Aside0.mk (ho); clear HO_3; clear ho hb hg hat))
     go_roundg k1
     case measure => have := HK1.out; omega
     case rel => exact ⟨(y117), (wrap64 (x8_1 + 1)), (by first | rfl | (simp; done) | (simp [*]; done)), H', ⟨by have := HK1.out; omega⟩, ⟨by (with_reducible repeat (first | apply Kd.R_alloc | apply Kd.R_drewN | apply Kd.R_drew)); exact HO119.out⟩, ⟨pH HB⟩⟩
    ·rw [if_neg c7] at H
     exact absurd H (by simp)
   ·rw [if_neg c5] at H
    have c5b0 : decide (x8_1 < (t113.length : Int)) = false := decide_eq_false c5
    clear c5
    obtain rfl := Option.some.inj H
    go_wp2
    go_ret
    exact ⟨_, by first | rfl | (simp [errW_none, errW_some] <;> rfl) | (simp [*, errW_none, errW_some] <;> rfl) | (exfalso; simp_all), by (with_reducible repeat (first | apply Kd.R_alloc | apply Kd.R_drewN | apply Kd.R_drew)); exact HO_3.out, pH HB⟩
def cmp_isNaN_int64.f (a0 : Int) : Option (Bool) := some (a0 != a0)
set_option maxHeartbeats 8000000 in
set_option maxRecDepth 100000 in
theorem cmp_isNaN_int64.calls (a0 : Int) (r : Bool) (w : World) (h : cmp_isNaN_int64.f a0 = some r) :
  Calls Try.prog 199 #[.int .i64 a0] w fun e w' => e = .returned (.bool r) ∧ Drawn0 w w' := by
 have H : (some (a0 != a0)) = some r := h
 clear h
 obtain rfl := Option.some.inj H
 go_enter Try.func199, Try.ntmps199
 go_wp2
 go_ret
 exact ⟨by first | rfl | (simp; done) | (simp [*]; done), by repeat (first | exact Drawn0.refl _ | apply Drawn0.step)⟩
def cmp_Less_int64.f (a0 : Int) (a1 : Int) : Option (Bool) := (cmp_isNaN_int64.f a0).bind fun t120 => (if t120 = true then ((cmp_isNaN_int64.f a1).bind fun t121 => (if t121 = true then (some (decide (a0 < a1))) else (some true))) else (some (decide (a0 < a1))))
set_option maxHeartbeats 8000000 in
set_option maxRecDepth 100000 in
theorem cmp_Less_int64.calls (a0 : Int) (a1 : Int) (r : Bool) (w : World) (h : cmp_Less_int64.f a0 a1 = some r) :
  Calls Try.prog 187 #[.int .i64 a0, .int .i64 a1] w fun e w' => e = .returned (.bool r) ∧ Drawn0 w w' := by
 have H : ((cmp_isNaN_int64.f a0).bind fun t120 => (if t120 = true then ((cmp_isNaN_int64.f a1).bind fun t121 => (if t121 = true then (some (decide (a0 < a1))) else (some true))) else (some (decide (a0 < a1))))) = some r := h
 clear h
 replace H := Option.bind_eq_some_iff.mp H
 obtain ⟨t120, A30, H⟩ := H
 try dsimp only at H
 have A3 := Aside0.mk A30
 clear A30
 by_cases c4 : t120 = true
 ·subst c4
  have H1 : ((cmp_isNaN_int64.f a1).bind fun t121 => (if t121 = true then (some (decide (a0 < a1))) else (some true))) = some r := by rw [if_pos rfl] at H; exact H
  clear H
  have H := H1
  clear H1
  replace H := Option.bind_eq_some_iff.mp H
  obtain ⟨t121, A50, H⟩ := H
  try dsimp only at H
  have A5 := Aside0.mk A50
  clear A50
  by_cases c6 : t121 = true
  ·subst c6
   have H1 : (some (decide (a0 < a1))) = some r := by rw [if_pos rfl] at H; exact H
   clear H
   have H := H1
   clear H1
   obtain rfl := Option.some.inj H
   go_enter Try.func187, Try.ntmps187
   go_wp2_with (first | ((with_reducible refine gate_callee (f := 199) rfl ?_); refine cl_ (some 6) Try.func199 #[.int .i64 a0] ?_; (with_reducible refine (cmp_isNaN_int64.calls a0 true _ A3.out).mono ?_); rintro e w' ⟨rfl, ⟨nd, rfl⟩⟩; refine ⟨_, rfl, ?_⟩) | (go_at_call 199; (with_reducible refine (cmp_isNaN_int64.calls a1 true _ A5.out).mono ?_); rintro e w' ⟨rfl, ⟨nd, rfl⟩⟩))
   go_ret
   exact ⟨by first | rfl | (simp; done) | (simp [*]; done), by repeat (first | exact Drawn0.refl _ | apply Drawn0.step)⟩
  ·replace c6 := Bool.eq_false_iff.mpr c6
   subst c6
   have H1 : (some true) = some r := by rw [if_neg (show ¬ (false = true) by decide)] at H; exact H
   clear H
   have H := H1
   clear H1
   obtain rfl := Option.some.inj H
   go_enter Try.func187, Try.ntmps187
   go_wp2_with (first | ((with_reducible refine gate_callee (f := 199) rfl ?_); refine cl_ (some 6) Try.func199 #[.int .i64 a0] ?_; (with_reducible refine (cmp_isNaN_int64.calls a0 true _ A3.out).mono ?_); rintro e w' ⟨rfl, ⟨nd, rfl⟩⟩; refine ⟨_, rfl, ?_⟩) | (go_at_call 199; (with_reducible refine (cmp_isNaN_int64.calls a1 false _ A5.out).mono ?_); rintro e w' ⟨rfl, ⟨nd, rfl⟩⟩))
   go_ret
   exact ⟨by first | rfl | (simp; done) | (simp [*]; done), by repeat (first | exact Drawn0.refl _ | apply Drawn0.step)⟩
 ·replace c4 := Bool.eq_false_iff.mpr c4
  subst c4
  have H1 : (some (decide (a0 < a1))) = some r := by rw [if_neg (show ¬ (false = true) by decide)] at H; exact H
  clear H
  have H := H1
  clear H1
  obtain rfl := Option.some.inj H
  go_enter Try.func187, Try.ntmps187
  go_wp2_with (first | ((with_reducible refine gate_callee (f := 199) rfl ?_); refine cl_ (some 6) Try.func199 #[.int .i64 a0] ?_; (with_reducible refine (cmp_isNaN_int64.calls a0 false _ A3.out).mono ?_); rintro e w' ⟨rfl, ⟨nd, rfl⟩⟩; refine ⟨_, rfl, ?_⟩))
  go_ret
  exact ⟨by first | rfl | (simp; done) | (simp [*]; done), by repeat (first | exact Drawn0.refl _ | apply Drawn0.step)⟩
def slices_isNaN_int64.f (a0 : Int) : Option (Bool) := some (a0 != a0)
set_option maxHeartbeats 8000000 in
set_option maxRecDepth 100000 in
theorem slices_isNaN_int64.calls (a0 : Int) (r : Bool) (w : World) (h : slices_isNaN_int64.f a0 = some r) :
  Calls Try.prog 188 #[.int .i64 a0] w fun e w' => e = .returned (.bool r) ∧ Drawn0 w w' := by
 have H : (some (a0 != a0)) = some r := h
 clear h
 obtain rfl := Option.some.inj H
 go_enter Try.func188, Try.ntmps188
 go_wp2
 go_ret
 exact ⟨by first | rfl | (simp; done) | (simp [*]; done), by repeat (first | exact Drawn0.refl _ | apply Drawn0.step)⟩
def slices_BinarySearch_int64_int64.l0 : Nat → List Int → Int → Int → Int → Int → Option (Int × Bool)
 | 0, _, _, _, _, _ => none
 | k + 1, x0, x1, x6, x7, x8 => if x7 < x8 then (if 0 ≤ (wrap64 ((IntKind.u64.wrap (wrap64 (x7 + x8))) / 2)) then (if (wrap64 ((IntKind.u64.wrap (wrap64 (x7 + x8))) / 2)) < (x0.length : Int) then ((cmp_Less_int64.f (rd x0 (wrap64 ((IntKind.u64.wrap (wrap64 (x7 + x8))) / 2))) x1).bind fun t123 => (if t123 = true then (slices_BinarySearch_int64_int64.l0 k x0 x1 x6 (wrap64 ((wrap64 ((IntKind.u64.wrap (wrap64 (x7 + x8))) / 2)) + 1)) x8) else (slices_BinarySearch_int64_int64.l0 k x0 x1 x6 x7 (wrap64 ((IntKind.u64.wrap (wrap64 (x7 + x8))) / 2))))) else (none)) else (none)) else (if x7 < x6 then (if 0 ≤ x7 then (if x7 < (x0.length : Int) then (if (rd x0 x7) = x1 then (some (x7, true)) else ((slices_isNaN_int64.f (rd x0 x7)).bind fun t126 => (if t126 = true then ((slices_isNaN_int64.f x1).bind fun t127 => (some (x7, t127))) else (some (x7, false))))) else (none)) else (none)) else (some (x7, false)))
def slices_BinarySearch_int64_int64.f (k : Nat) (l0 : List Int) (a1 : Int) : Option (Int × Bool) := slices_BinarySearch_int64_int64.l0 k l0 a1 (l0.length : Int) 0 (l0.length : Int)
set_option maxHeartbeats 8000000 in
set_option maxRecDepth 100000 in
theorem slices_BinarySearch_int64_int64.calls (k : Nat) (A0 : Option Addr) (c0 : Nat) (l0 : List Int) (a1 : Int) (r1 : Int) (r2 : Bool) (w : World) (hr0 : Kd.C (Kd.int .i64) w A0 l0.length l0) (hc0 : l0.length ≤ c0) (h : slices_BinarySearch_int64_int64.f k l0 a1 = some (r1, r2)) :
  Calls Try.prog 158 #[.slice A0 l0.length c0, .int .i64 a1] w fun e w' => e = .returned (.tuple #[.int .i64 r1, .bool r2]) ∧ Drawn0 w w' := by
 have HR0 := Aside0.mk hr0
 have HC0 := Aside0.mk hc0
 clear hr0 hc0
 have H : (slices_BinarySearch_int64_int64.l0 k l0 a1 (l0.length : Int) 0 (l0.length : Int)) = some (r1, r2) := h
 clear h
 have H' := Aside0.mk H
 clear H
 go_enter Try.func158, Try.ntmps158
 go_wp2
 go_loopg [7, 8] k (fun kq v7 v8 w' => ∃ (x7_1 : Int) (x8_1 : Int), v7 = .int .i64 x7_1 ∧ v8 = .int .i64 x8_1 ∧ Aside0 (slices_BinarySearch_int64_int64.l0 kq l0 a1 (l0.length : Int) x7_1 x8_1 = some (r1, r2)) ∧ Aside0 (kq ≤ k) ∧ Drawn0 w w')
 case atStart => exact ⟨(0), ((l0.length : Int)), (by first | rfl | (simp; done) | (simp [*]; done)), (by first | rfl | (simp; done) | (simp [*]; done)), H', ⟨Nat.le_refl _⟩, by repeat (first | exact Drawn0.refl _ | apply Drawn0.step)⟩
 case round =>
  clear H'
  try clear c1
  try clear p2
  obtain ⟨x7_1, x8_1, rfl, rfl, HA, HK1, ⟨m1, rfl⟩⟩ := hrel
  cases gk with
  | zero => exact absurd HA.out (by simp [slices_BinarySearch_int64_int64.l0])
  | succ k1 =>
   have H := HA.out
   clear HA
   simp only [slices_BinarySearch_int64_int64.l0] at H
   by_cases c3 : x7_1 < x8_1
   ·rw [if_pos c3] at H
    have c3b0 : decide (x7_1 < x8_1) = true := decide_eq_true c3
    clear c3
    obtain ⟨ji4, hji4⟩ : ∃ j_ : Int, (wrap64 ((IntKind.u64.wrap (wrap64 (x7_1 + x8_1))) / 2)) = j_ := ⟨_, rfl⟩
    replace H : (if 0 ≤ (ji4) then (if (ji4) < (l0.length : Int) then ((cmp_Less_int64.f (rd l0 (ji4)) a1).bind fun t123 => (if t123 = true then (slices_BinarySearch_int64_int64.l0 k1 l0 a1 (l0.length : Int) (wrap64 ((ji4) + 1)) x8_1) else (slices_BinarySearch_int64_int64.l0 k1 l0 a1 (l0.length : Int) x7_1 ji4))) else (none)) else (none)) = some (r1, r2) := by first | (rw [hji4] at H; exact H) | (simp only [hji4] at H ⊢; exact H)
    have hji4w : (IntKind.i64.wrap ((IntKind.u64.wrap (wrap64 (x7_1 + x8_1))) / 2)) = ji4 := (i64_w _).trans hji4
    by_cases c5 : 0 ≤ (ji4)
    ·rw [if_pos c5] at H
     have c5b0 : decide (0 ≤ (ji4)) = true := decide_eq_true c5
     clear c5
     by_cases c6 : (ji4) < (l0.length : Int)
     ·rw [if_pos c6] at H
      have c6b0 : decide ((ji4) < (l0.length : Int)) = true := decide_eq_true c6
      clear c6
      replace H := Option.bind_eq_some_iff.mp H
      obtain ⟨t123, A70, H⟩ := H
      try dsimp only at H
      have A7 := Aside0.mk A70
      clear A70
      by_cases c8 : t123 = true
      ·subst c8
       have H1 : (slices_BinarySearch_int64_int64.l0 k1 l0 a1 (l0.length : Int) (wrap64 ((ji4) + 1)) x8_1) = some (r1, r2) := by rw [if_pos rfl] at H; exact H
       clear H
       have H := H1
       clear H1
       have H' := Aside0.mk H
       clear H
       have p122 : 0 ≤ ((ji4) : Int) := of_decide_eq_true (by first | (with_reducible assumption) | assumption)
       have q122 : (ji4) < (l0.length : Int) := of_decide_eq_true (by first | (with_reducible assumption) | assumption)
       obtain ⟨ad122, e122, hx122_0⟩ := Kd.at_int HR0.out (ji4) p122 q122
       cases e122
       replace p122 := eq_true p122
       replace q122 := eq_true q122
       go_wp2_with (first | ((with_reducible refine gate_callee (f := 187) rfl ?_); refine cl_ (some 27) Try.func187 #[.int .i64 (rd l0 (ji4)), .int .i64 a1] (hargs := by (try simp only [List.map_toArray, List.map_cons, List.map_nil]); first | done | (simp only [hji4]; rfl) | rfl | (simp only [List.length_drop, List.length_take]; rfl)) ?_; (with_reducible refine (cmp_Less_int64.calls (rd l0 (ji4)) a1 true _ A7.out).mono ?_); rintro e w' ⟨rfl, ⟨nd, rfl⟩⟩; refine ⟨_, rfl, ?_⟩))
       go_roundg k1
       case measure => have := HK1.out; omega
       case rel => exact ⟨(wrap64 ((ji4) + 1)), (x8_1), (by first | rfl | (simp; done) | (simp only [← hji4] <;> (first | rfl | simp)) | (simp [*]; done)), (by first | rfl | (simp; done) | (simp [*]; done)), H', ⟨by have := HK1.out; omega⟩, by repeat (first | exact Drawn0.refl _ | apply Drawn0.step)⟩
      ·replace c8 := Bool.eq_false_iff.mpr c8
       subst c8
       have H1 : (slices_BinarySearch_int64_int64.l0 k1 l0 a1 (l0.length : Int) x7_1 ji4) = some (r1, r2) := by rw [if_neg (show ¬ (false = true) by decide)] at H; exact H
       clear H
       have H := H1
       clear H1
       have H' := Aside0.mk H
       clear H
       have p122 : 0 ≤ ((ji4) : Int) := of_decide_eq_true (by first | (with_reducible assumption) | assumption)
       have q122 : (ji4) < (l0.length : Int) := of_decide_eq_true (by first | (with_reducible assumption) | assumption)
       obtain ⟨ad122, e122, hx122_0⟩ := Kd.at_int HR0.out (ji4) p122 q122
       cases e122
       replace p122 := eq_true p122
       replace q122 := eq_true q122
       go_wp2_with (first | ((with_reducible refine gate_callee (f := 187) rfl ?_); refine cl_ (some 27) Try.func187 #[.int .i64 (rd l0 (ji4)), .int .i64 a1] (hargs := by (try simp only [List.map_toArray, List.map_cons, List.map_nil]); first | done | (simp only [hji4]; rfl) | rfl | (simp only [List.length_drop, List.length_take]; rfl)) ?_; (with_reducible refine (cmp_Less_int64.calls (rd l0 (ji4)) a1 false _ A7.out).mono ?_); rintro e w' ⟨rfl, ⟨nd, rfl⟩⟩; refine ⟨_, rfl, ?_⟩))
       go_roundg k1
       case measure => have := HK1.out; omega
       case rel => exact ⟨(x7_1), (ji4), (by first | rfl | (simp; done) | (simp [*]; done)), (by first | rfl | (simp; done) | (simp only [← hji4] <;> (first | rfl | simp)) | (simp [*]; done)), H', ⟨by have := HK1.out; omega⟩, by repeat (first | exact Drawn0.refl _ | apply Drawn0.step)⟩
     ·rw [if_neg c6] at H
      exact absurd H (by simp)
    ·rw [if_neg c5] at H
     exact absurd H (by simp)
   ·rw [if_neg c3] at H
    have c3b0 : decide (x7_1 < x8_1) = false := decide_eq_false c3
    clear c3
    by_cases c9 : x7_1 < (l0.length : Int)
    ·rw [if_pos c9] at H
     have c9b0 : decide (x7_1 < (l0.length : Int)) = true := decide_eq_true c9
     clear c9
     by_cases c10 : 0 ≤ x7_1
     ·rw [if_pos c10] at H
      have c10b0 : decide (0 ≤ x7_1) = true := decide_eq_true c10
      clear c10
      by_cases c11 : x7_1 < (l0.length : Int)
      ·rw [if_pos c11] at H
       have c11b0 : decide (x7_1 < (l0.length : Int)) = true := decide_eq_true c11
       clear c11
       by_cases c12 : (rd l0 x7_1) = a1
       ·rw [if_pos c12] at H
        have c12b0 : ((rd l0 x7_1) == a1) = true := beq_iff_eq.mpr c12
        have c12b1 : ((rd l0 x7_1) != a1) = false := bne_eq_false_iff_eq.mpr c12
        clear c12
        simp only [Option.some.injEq, Prod.mk.injEq] at H
        obtain ⟨rfl, rfl⟩ := H
        have p124 : 0 ≤ (x7_1 : Int) := of_decide_eq_true (by first | (with_reducible assumption) | assumption)
        have q124 : x7_1 < (l0.length : Int) := of_decide_eq_true (by first | (with_reducible assumption) | assumption)
        obtain ⟨ad124, e124, hx124_0⟩ := Kd.at_int HR0.out x7_1 p124 q124
        cases e124
        replace p124 := eq_true p124
        replace q124 := eq_true q124
        go_wp2
        go_ret2
        exact ⟨by first | rfl | (simp; done) | (simp [*]; done), by repeat (first | exact Drawn0.refl _ | apply Drawn0.step)⟩
       ·rw [if_neg c12] at H
        have c12b0 : ((rd l0 x7_1) == a1) = false := beq_eq_false_iff_ne.mpr c12
        have c12b1 : ((rd l0 x7_1) != a1) = true := bne_iff_ne.mpr c12
        replace H := Option.bind_eq_some_iff.mp H
        obtain ⟨t126, A130, H⟩ := H
        try dsimp only at H
        have A13 := Aside0.mk A130
        clear A130
        by_cases c14 : t126 = true
        ·subst c14
         have H1 : ((slices_isNaN_int64.f a1).bind fun t127 => (some (x7_1, t127))) = some (r1, r2) := by rw [if_pos rfl] at H; exact H
         clear H
         have H := H1
         clear H1
         replace H := Option.bind_eq_some_iff.mp H
         obtain ⟨t127, A150, H⟩ := H
         try dsimp only at H
         have A15 := Aside0.mk A150
         clear A150
         simp only [Option.some.injEq, Prod.mk.injEq] at H
         obtain ⟨rfl, rfl⟩ := H
         have p124 : 0 ≤ (x7_1 : Int) := of_decide_eq_true (by first | (with_reducible assumption) | assumption)
         have q124 : x7_1 < (l0.length : Int) := of_decide_eq_true (by first | (with_reducible assumption) | assumption)
         obtain ⟨ad124, e124, hx124_0⟩ := Kd.at_int HR0.out x7_1 p124 q124
         cases e124
         replace p124 := eq_true p124
         replace q124 := eq_true q124
         have p125 : 0 ≤ (x7_1 : Int) := of_decide_eq_true (by first | (with_reducible assumption) | assumption)
         have q125 : x7_1 < (l0.length : Int) := of_decide_eq_true (by first | (with_reducible assumption) | assumption)
         obtain ⟨ad125, e125, hx125_0⟩ := Kd.at_int HR0.out x7_1 p125 q125
         obtain rfl : ad124 = ad125 := (by injection e125)
         replace p125 := eq_true p125
         replace q125 := eq_true q125
         go_wp2_with (first | (go_at_call 188; (with_reducible refine (slices_isNaN_int64.calls (rd l0 x7_1) true _ A13.out).mono ?_); rintro e w' ⟨rfl, ⟨nd, rfl⟩⟩) | (go_at_call 188; (with_reducible refine (slices_isNaN_int64.calls a1 t127 _ A15.out).mono ?_); rintro e w' ⟨rfl, ⟨nd, rfl⟩⟩))
         go_ret2
         exact ⟨by first | rfl | (simp; done) | (simp [*]; done), by repeat (first | exact Drawn0.refl _ | apply Drawn0.step)⟩
        ·replace c14 := Bool.eq_false_iff.mpr c14
         subst c14
         have H1 : (some (x7_1, false)) = some (r1, r2) := by rw [if_neg (show ¬ (false = true) by decide)] at H; exact H
         clear H
         have H := H1
         clear H1
         simp only [Option.some.injEq, Prod.mk.injEq] at H
         obtain ⟨rfl, rfl⟩ := H
         have p124 : 0 ≤ (x7_1 : Int) := of_decide_eq_true (by first | (with_reducible assumption) | assumption)
         have q124 : x7_1 < (l0.length : Int) := of_decide_eq_true (by first | (with_reducible assumption) | assumption)
         obtain ⟨ad124, e124, hx124_0⟩ := Kd.at_int HR0.out x7_1 p124 q124
         cases e124
         replace p124 := eq_true p124
         replace q124 := eq_true q124
         have p125 : 0 ≤ (x7_1 : Int) := of_decide_eq_true (by first | (with_reducible assumption) | assumption)
         have q125 : x7_1 < (l0.length : Int) := of_decide_eq_true (by first | (with_reducible assumption) | assumption)
         obtain ⟨ad125, e125, hx125_0⟩ := Kd.at_int HR0.out x7_1 p125 q125
         obtain rfl : ad124 = ad125 := (by injection e125)
         replace p125 := eq_true p125
         replace q125 := eq_true q125
         go_wp2_with (first | (go_at_call 188; (with_reducible refine (slices_isNaN_int64.calls (rd l0 x7_1) false _ A13.out).mono ?_); rintro e w' ⟨rfl, ⟨nd, rfl⟩⟩))
         go_ret2
         exact ⟨by first | rfl | (simp; done) | (simp [*]; done), by repeat (first | exact Drawn0.refl _ | apply Drawn0.step)⟩
      ·rw [if_neg c11] at H
       exact absurd H (by simp)
     ·rw [if_neg c10] at H
      exact absurd H (by simp)
    ·rw [if_neg c9] at H
     have c9b0 : decide (x7_1 < (l0.length : Int)) = false := decide_eq_false c9
     clear c9
     simp only [Option.some.injEq, Prod.mk.injEq] at H
     obtain ⟨rfl, rfl⟩ := H
     go_wp2
     go_ret2
     exact ⟨by first | rfl | (simp; done) | (simp [*]; done), by repeat (first | exact Drawn0.refl _ | apply Drawn0.step)⟩
end Go.Proofs.Ytomdfjohnmikdaa.QO
namespace Go.Proofs.Ytomdfjohnmikdaa.Im
set_option linter.unusedVariables false
set_option linter.unusedSimpArgs false
open Go.RowKit Go.Shelf Go.Proofs.Ytomdfjohnmikdaa.Cw Go.Proofs.Ytomdfjohnmikdaa.Ext Go.Proofs.YtomdfjohnmikdaaW.PrintWords Go.Proofs.YtomdfjohnmikdaaW.PrintLast Go.Proofs.YtomdfjohnmikdaaW.PrintMore
theorem elimAll_nil (lo : Nat → Nat) (m : Nat) : elimAll lo [] m = ([], 0) := by
  unfold elimAll
  induction m with
  | zero => rfl
  | succ m ih => rw [List.range_succ, List.foldl_append, ih]; rfl
theorem xr_mod2 {x t y : Int} (hx : Bit x) (ht : Bit t) (hy : Bit y) : wrap64 (t * y) = t * y ∧ wrap64 (x - t * y) = x - t * y ∧ wrap64 (Int.tmod (x - t * y) 2 + 2) = Int.tmod (x - t * y) 2 + 2 ∧ Int.tmod (Int.tmod (x - t * y) 2 + 2) 2 = xr x t y := by
  unfold Bit at *
  rcases hx with rfl | rfl <;> rcases ht with rfl | rfl <;> rcases hy with rfl | rfl <;> (refine ⟨?_, ?_, ?_, ?_⟩ <;> first | decide | simp [xr, wrap64])
/-- A variable of the loop, in a block of its own. -/
def CB (W : World) (y c : Nat) : Prop := W.heap[y]? = some (.cells #[.int .i64 c] 3 (0, 0))
section
variable {W W1 : World} {y c base b cap n m : Nat} {bs : List Nat} {M : List (List Int)}
theorem CB.cell (h : CB W y c) : W.cell? ⟨y, 0, none⟩ = some (.int .i64 c) := (cell_of_row W y 0 _ _ _ h).trans rfl
theorem CB.below (h : CB W y c) (hb : Below W.heap.size W W1) : CB W1 y c := (hb.block _ (blk_lt h)).trans h
theorem CB.outer (h : CB W y c) (ho : MxO W base b cap bs m) (j : Nat) (u : Value) : CB (W.setCell ⟨b, j, none⟩ u) y c := by
  obtain ⟨_, _, _, rest, _, h5⟩ := ho
  exact (Below.heap_setCell W ⟨b, j, none⟩ u y (blk_ne h h5 (by decide))).trans h
theorem CB.inner (h : CB W y c) (hi : MxI W base bs m M) {i x : Nat} (hx : ∃ h1 : i < bs.length, bs[i] = x) (j : Nat) (u : Value) : CB (W.setCell ⟨x, j, none⟩ u) y c := by
  obtain ⟨h1, rfl⟩ := hx
  obtain ⟨cells, hc⟩ := hi.block h1
  exact (Below.heap_setCell W ⟨bs[i], j, none⟩ u y (blk_ne h hc (by decide))).trans h
end
theorem swapL_comm {α : Type} {l : List α} {i j : Nat} (hi : i < l.length) (hj : j < l.length) : swapL l i j = swapL l j i := by
  apply List.ext_getElem
  · rw [swapL_len, swapL_len]
  · intro k h1 h2
    rw [swapL_at hi hj, swapL_at hj hi]
    by_cases h3 : k = j
    · subst h3
      rw [if_pos rfl]
      by_cases h4 : k = i
      · subst h4; rw [if_pos rfl]
      · rw [if_neg h4, if_pos rfl]
    · rw [if_neg h3]
      by_cases h4 : k = i
      · subst h4; rw [if_pos rfl, if_pos rfl]
      · rw [if_neg h4, if_neg h4, if_neg h3]
theorem rows_cut {w0 : World} {base b cap n0 m : Nat} {bs : List Nat} {M0 : List (List Int)} (h : MxAll w0 base b cap bs n0 m M0) (hl : n0 ≤ 1000) : ∀ (r : Nat), r ≤ n0 → ∃ D : Option Addr, (r < n0 → D = some ⟨b, r, none⟩) ∧ ∀ W : World, (Instr.slice 53 (.slice (some ⟨b, 0, none⟩) n0 cap) (some (.int .i64 r)) none none).run Try.prog W = .ok (.slice D (n0 - r) (cap - r)) W := by
  intro r hr
  obtain ⟨i0, hi0, hz0, hzs, hzb⟩ := info_parts infoR
  have hcap : n0 ≤ cap := by have := h.2.2.2.1.2.1; have := h.2.1; omega
  refine ⟨_, fun hlt => ?_, fun W => cut_from 53 22 .i64 Try.underlying53 hi0 1 hzs (some ⟨b, 0, none⟩) n0 cap r (by omega) (by omega) W⟩
  rw [Int.toNat_natCast, if_neg (by omega)]
  rw [Nat.mul_one]
  show some (Addr.add ⟨b, 0, none⟩ r) = _
  simp [Addr.add]
  exact fun h => h.symm
set_option maxRecDepth 100000 in
theorem rank_find {wr : World} {base b cap n0 m c r : Nat} {bs : List Nat} {M : List (List Int)} (h : MxAll wr base b cap bs n0 m M) (hlt : c < m) (hrn : r ≤ n0) (hl : n0 ≤ 1000) {D : Option Addr} (hD : r < n0 → D = some ⟨b, r, none⟩) :
    Calls Try.prog 160 #[.slice D (n0 - r) (cap - r), .func (.func 161) #[] #[.pointer (some ⟨wr.heap.size, 0, none⟩)]] (wr.alloc (.cells #[.int .i64 c] 3))
      fun e w' => e = .returned (.int .i64 (firstR (fun i => ent M (r + i) c != 0) (n0 - r))) ∧ Below (wr.alloc (.cells #[.int .i64 c] 3)).heap.size (wr.alloc (.cells #[.int .i64 c] 3)) w' := by
  have hba := below_alloc (Below.refl wr.heap.size wr) (.cells #[.int .i64 c] 3)
  have hM := h.below hba
  have hC : CB (wr.alloc (.cells #[.int .i64 c] 3)) wr.heap.size c := heap_alloc_new wr _
  generalize wr.alloc (.cells #[.int .i64 c] 3) = W0 at hM hC ⊢
  refine indexRows_c D (n0 - r) (cap - r) m (fun i => bs.getD (r + i) 0) 161 #[] #[.pointer (some ⟨wr.heap.size, 0, none⟩)] (fun i => ent M (r + i) c != 0) W0
    (fun W hW i hi => ?_) (enters_of Try.func161 (by kernel_rfl) rfl) (fun W i hW hi => ?_) (by omega)
  · refine ⟨⟨b, r, none⟩, hD (by omega), ?_⟩
    obtain ⟨x, ⟨hx1, hx2⟩, hx3, _⟩ := (hM.below hW).outCell (i := r + i) (by omega)
    have e : bs.getD (r + i) 0 = x := by rw [List.getD_eq_getElem?_getD, List.getElem?_eq_getElem hx1, hx2]; rfl
    show W.cell? (Addr.add ⟨b, r, none⟩ i) = some (.slice (some ⟨bs.getD (r + i) 0, 0, none⟩) m m)
    rw [e, show Addr.add ⟨b, r, none⟩ i = ⟨b, r + i, none⟩ by simp [Addr.add]]
    exact hx3
  · have hM2 := hM.below hW
    obtain ⟨x, hx, hx3, _⟩ := hM2.outCell (i := r + i) (by omega)
    have e : bs.getD (r + i) 0 = x := by obtain ⟨hx1, hx2⟩ := hx; rw [List.getD_eq_getElem?_getD, List.getElem?_eq_getElem hx1, hx2]; rfl
    obtain ⟨hc1, _⟩ := hM2.inCell (i := r + i) (by omega) hlt hx
    have := rank1_c x m c (ent M (r + i) c) wr.heap.size W (hC.below hW).cell hlt hc1
    simp only [e]
    exact this
theorem first_find (M : List (List Int)) (c r : Nat) : findZ M c r = ((List.range (M.length - r)).find? fun i => ent M (r + i) c != 0).map fun i => r + i := by
  unfold findZ
  rw [List.range'_eq_map_range, List.find?_map]
  rfl
theorem w64_ {x : Int} (h1 : -9223372036854775808 ≤ x) (h2 : x ≤ 9223372036854775807) : wrap64 x = x := by unfold wrap64; omega
theorem firstR_none {M : List (List Int)} {c r n : Nat} (h : findZ M c r = none) (hn : M.length = n) : firstR (fun i => ent M (r + i) c != 0) (n - r) = -1 := by
  subst hn
  rw [first_find] at h
  unfold firstR
  cases hf : (List.range (M.length - r)).find? fun i => ent M (r + i) c != 0 with
  | none => rfl
  | some i => rw [hf] at h; cases h
theorem firstR_some {M : List (List Int)} {c r n p : Nat} (h : findZ M c r = some p) (hn : M.length = n) : ∃ q, p = r + q ∧ firstR (fun i => ent M (r + i) c != 0) (n - r) = (q : Int) ∧ p < n ∧ ent M p c ≠ 0 := by
  subst hn
  rw [first_find] at h
  unfold firstR
  cases hf : (List.range (M.length - r)).find? fun i => ent M (r + i) c != 0 with
  | none => rw [hf] at h; cases h
  | some i =>
    rw [hf] at h
    have h1 := List.mem_range.1 (List.mem_of_find?_eq_some hf)
    have h2 := List.find?_some hf
    obtain rfl : r + i = p := Option.some.inj h
    exact ⟨i, rfl, rfl, by omega, by simpa using h2⟩
theorem fold_none {lo : Nat → Nat} {M0 M : List (List Int)} {c r : Nat} (h : (List.range c).foldl (elimStep lo) (M0, 0) = (M, r)) (hf : findZ M c r = none) : (List.range (c + 1)).foldl (elimStep lo) (M0, 0) = (M, r) := by
  rw [List.range_succ, List.foldl_append, h]
  simp only [List.foldl_cons, List.foldl_nil, elimStep, hf]
theorem fold_some {lo : Nat → Nat} {M0 M : List (List Int)} {c r p : Nat} (h : (List.range c).foldl (elimStep lo) (M0, 0) = (M, r)) (hf : findZ M c r = some p) : (List.range (c + 1)).foldl (elimStep lo) (M0, 0) = (elimTo (lo c) c r (swapL M p r) M.length, r + 1) := by
  rw [List.range_succ, List.foldl_append, h]
  simp only [List.foldl_cons, List.foldl_nil, elimStep, hf]
theorem firstR_z {M : List (List Int)} {c r n p : Nat} (h : findZ M c r = some p) (hn : M.length = n) : ∃ z : Int, (r : Int) + z = (p : Int) ∧ firstR (fun i => ent M (r + i) c != 0) (n - r) = z ∧ p < n ∧ ¬ z < 0 := by
  obtain ⟨q, h1, h2, h3, _⟩ := firstR_some h hn
  exact ⟨(q : Int), by omega, h2, h3, by omega⟩
theorem find_cases (M : List (List Int)) (c r : Nat) : findZ M c r = none ∨ ∃ p, findZ M c r = some p := by
  cases findZ M c r with
  | none => exact .inl rfl
  | some p => exact .inr ⟨p, rfl⟩
theorem swap_facts {w W : World} {base b cap n m y c r p xp yr : Nat} {bs : List Nat} {M : List (List Int)} (h : MxAll W base b cap bs n m M) (hC : CB W y c) (hB : Below base w W) (hr : r < n) (hp : p < n) (hxp : ∃ h1 : p < bs.length, bs[p] = xp) (hxr : ∃ h1 : r < bs.length, bs[r] = yr) :
    (∃ u, (W.setCell ⟨b, r, none⟩ (.slice (some ⟨xp, 0, none⟩) m m)).cell? ⟨b, p, none⟩ = some u) ∧ (W.setCell ⟨b, r, none⟩ (.slice (some ⟨xp, 0, none⟩) m m)).frozen? ⟨b, p, none⟩ = false ∧
    MxAll ((W.setCell ⟨b, r, none⟩ (.slice (some ⟨xp, 0, none⟩) m m)).setCell ⟨b, p, none⟩ (.slice (some ⟨yr, 0, none⟩) m m)) base b cap (swapL bs p r) n m (swapL M p r) ∧
    CB ((W.setCell ⟨b, r, none⟩ (.slice (some ⟨xp, 0, none⟩) m m)).setCell ⟨b, p, none⟩ (.slice (some ⟨yr, 0, none⟩) m m)) y c ∧
    Below base w ((W.setCell ⟨b, r, none⟩ (.slice (some ⟨xp, 0, none⟩) m m)).setCell ⟨b, p, none⟩ (.slice (some ⟨yr, 0, none⟩) m m)) ∧
    ((W.setCell ⟨b, r, none⟩ (.slice (some ⟨xp, 0, none⟩) m m)).setCell ⟨b, p, none⟩ (.slice (some ⟨yr, 0, none⟩) m m)).cell? ⟨b, r, none⟩ = some (.slice (some ⟨xp, 0, none⟩) m m) ∧ ∃ h1 : r < (swapL bs p r).length, (swapL bs p r)[r] = xp := by
  obtain ⟨h1, h2, h3, h4, h5⟩ := h
  obtain ⟨hp1, rfl⟩ := hxp
  obtain ⟨hr1, rfl⟩ := hxr
  have ho1 := h4.put (i := r) hr1 bs[p]
  have hl1 : (bs.set r bs[p]).length = bs.length := by simp
  have ho2 := ho1.put (i := p) (by omega) bs[r]
  have hc1 := ho1.cell (i := p) (by omega)
  have hbs : (bs.set r bs[p]).set p bs[r] = swapL bs p r := by rw [swapL_comm hp1 hr1, swapL_eq hr1 hp1]
  rw [hbs] at ho2
  have hsl : (swapL bs p r).length = bs.length := swapL_len _ _ _
  have hrr : (swapL bs p r)[r]'(by omega) = bs[p] := by rw [swapL_at hp1 hr1, if_pos rfl]
  have hc2 := (ho2.cell (i := r) (by omega)).1
  rw [hrr] at hc2
  have hi2 := ((h5.outer h4 r (rowV m bs[p])).outer ho1 p (rowV m bs[r])).swap (i := p) (j := r) (by omega) (by omega)
  exact ⟨⟨_, hc1.1⟩, hc1.2, ⟨by rw [swapL_len]; exact h1, by omega, swap_bits h3 (by omega) (by omega), ho2, hi2⟩, (hC.outer h4 r (rowV m bs[p])).outer ho1 p (rowV m bs[r]), (hB.setCell (p := ⟨b, r, none⟩) h4.1 _).setCell (p := ⟨b, p, none⟩) h4.1 _, hc2, by omega, hrr⟩
set_option maxRecDepth 100000 in
set_option maxHeartbeats 8000000 in
theorem rankI_c (k : Nat) (n : Int) (A : Option Addr) (c : Nat) (xs : List Int) (d : Int) (F C : List Int) (P : Int → List Int) (w : World) (hr : RC w A xs.length xs) (hc : xs.length ≤ c) (hd : -1 ≤ d ∧ d ≤ 100)
    (hF : QO.impl_Complex_of.f n xs d = some F) (hC : QO.impl_Complex_of.f n xs (d - 1) = some C)
    (hP : ∀ f ∈ F, impl_borders.f f = some (P f) ∧ ∃ S, QO.impl_signs.f k f = some S ∧ S.length = (P f).length ∧ ∀ s ∈ S, s = 1 ∨ s = -1)
    (hpl : ∀ f ∈ F, ∀ g ∈ P f, ∃ p : Nat, QO.slices_BinarySearch_int64_int64.f k C g = some ((p : Int), true) ∧ ∃ h : p < C.length, C[p] = g) (hCn : C.Nodup) (hl1 : F.length ≤ 1000) (hl2 : C.length ≤ 1000) (hl3 : ∀ f ∈ F, (P f).length ≤ 1000) :
    Calls Try.prog 109 #[.agg #[.int .i64 n, .slice A xs.length c], .int .i64 d, .int .i64 2] w fun e w' => e = .returned (.int .i64 ((elimAll (fun _ => 0) (matZ C F P) C.length).2 : Int)) ∧ Below w.heap.size w w' := by
  have hx0 := Aside0.mk (CxAt.new w n A xs.length c)
  have hb0 := Aside0.mk (below_alloc (Below.refl w.heap.size w) (.cells #[.int .i64 n, .slice A xs.length c] 28))
  have HR := Aside0.mk hr
  have HC := Aside0.mk hc
  have HF := Aside0.mk hF
  have HCC := Aside0.mk hC
  have HPP := Aside0.mk hP
  have HPL := Aside0.mk hpl
  have HCN := Aside0.mk hCn
  have HL3 := Aside0.mk hl3
  have hdw : wrap64 (d - 1) = d - 1 := by unfold wrap64; omega
  have hdv : IntKind.i64.wrap (d - 1) = d - 1 := by rw [IntKind.wrap_i64]; omega
  have hc0 := hx0.out.c0
  have hc1 := hx0.out.c1
  clear hr hc hF hC hP hpl hCn hl3
  go_enter Try.func109, Try.ntmps109
  go_wp2_with (first
    | (go_at_call 157; have hq_ := HV7.out; refine (QO.impl_Complex_of.calls n A c xs d F _ (Kd.C_below HR.out HB1.out) HC.out HF.out).mono ?_; rintro e w2 ⟨v31, rfl, hv, hb⟩; have HV31 := Aside0.mk (Kd.R_lower hv HB1.out.size); have HV72 := Aside0.mk (Kd.R_below HV7.out hb); have HB := Aside0.mk (below_in HB1.out hb); obtain ⟨A31, c31, rfl⟩ := Kd.R_slice HV31.out; clear hb hv HV7 HB1 hq_)
    | (go_at_call 157; refine (QO.impl_Complex_of.calls n A c xs (d - 1) C _ (Kd.C_below HR.out hb0.out) HC.out HCC.out).mono ?_; rintro e w1 ⟨v7, rfl, hv, hb⟩; have HV7 := Aside0.mk (Kd.R_lower hv hb0.out.size); have HX1 := Aside0.mk (hx0.out.below hb); have HB1 := Aside0.mk (below_in hb0.out hb); have hd0 := HX1.out.c0; have hd1 := HX1.out.c1; clear hb hv hc0 hc1))
  obtain ⟨A7, c7, rfl⟩ := Kd.R_slice HV72.out
  obtain ⟨Y, h2⟩ := Two.of HV31.out HV72.out
  have H2 := Aside0.mk h2
  have HO : Aside0 (MxW w2 w.heap.size (.slice none 0 0) [] C.length) := ⟨World.ownsRow_nil _ _ _ _⟩
  clear HV31 HV72 h2
  have hmk : ∀ W : World, (Instr.makeSlice 22 (.int .i64 (C.length : Int)) (.int .i64 (C.length : Int))).run Try.prog W = .ok (.slice (some ⟨W.heap.size, 0, none⟩) C.length C.length) (W.alloc (.cells (numV (List.replicate C.length 0)).toArray 2)) := fun W => by
    rw [← made_zero]
    exact print_make_of 22 2 (.int .i64 0) 8 Try.underlying22 info64 rfl (by decide) C.length (by omega) W
  go_loopw [8, 33] (fun v9 s10 wr => ∃ (i : Nat) (bs : List Nat), i ≤ F.length ∧ s10 = .int .i64 i ∧ Aside0 (MxW wr w.heap.size v9 bs C.length) ∧ Aside0 (MxI wr w.heap.size bs C.length (matZ C (F.take i) P)) ∧ Aside0 (Two wr w.heap.size Y (.slice A31 F.length c31) F (.slice A7 C.length c7) C) ∧ Aside0 (Below w.heap.size w wr)) (fun _ s10 _ => F.length - (intOf s10).toNat)
  case atStart => exact ⟨0, [], by omega, rfl, HO, ⟨⟨rfl, List.nodup_nil, fun i h => absurd h (Nat.not_lt_zero _)⟩⟩, H2, HB⟩
  case round =>
    clear HO H2 HB
    obtain ⟨i, bs, hi, rfl, HO, HI, H2, HB⟩ := hrel
    have HBL : Aside0 (bs.length ≤ 1000) := ⟨by have := HI.out.1; unfold matZ at this; simp at this; omega⟩
    by_cases hlt : i < F.length
    · have hltz : (i : Int) < (F.length : Int) := by omega
      obtain ⟨af, rfl, hf0⟩ := Kd.at_int (Kd.R_reads' H2.out.1).2.2 i (by omega) (by omega)
      obtain ⟨f, hf⟩ : ∃ f, rd F i = f := ⟨_, rfl⟩
      rw [hf, show ((i : Int)).toNat = i by omega] at hf0
      have hfm : f ∈ F := by rw [← hf, rd_at' hlt]; exact List.getElem_mem hlt
      obtain ⟨hpf, Sg, hsf, hsl, hsg⟩ := HPP.out f hfm
      have hpl := HPL.out f hfm
      have hpl3 := HL3.out f hfm
      have HPF := Aside0.mk hpf
      have HSF := Aside0.mk hsf
      have HSG := Aside0.mk hsg
      have HPLF := Aside0.mk hpl
      have HFE : Aside0 (matZ C (F.take (i + 1)) P = matZ C (F.take i) P ++ [rowTo C (P f) (P f).length]) := ⟨by rw [List.take_succ_eq_append_getElem hlt, ← rd_at' hlt, hf]; unfold matZ; simp⟩
      have hba : Below wr.heap.size wr (wr.alloc (.cells (numV (List.replicate C.length 0)).toArray 2)) := below_alloc (Below.refl _ _) _
      have HS1 := Aside0.mk (HI.out.snoc HB.out.size)
      have HO1 := Aside0.mk (pw_own_below HO.out hba)
      have H21 := Aside0.mk (H2.out.below hba)
      have HB1 := Aside0.mk (below_in HB.out hba)
      have hyy : Y ≤ wr.heap.size := H2.out.2.2
      have hw0 : w.heap.size ≤ wr.heap.size := HB.out.size
      have HYW : Aside0 (Y ≤ wr.heap.size ∧ w.heap.size ≤ wr.heap.size) := ⟨hyy, hw0⟩
      clear HO HI H2 HB hpf hsf hsg hpl hf hfm hba hyy hw0
      go_wp2_with (go_at_call 155; refine (impl_borders.calls f (P f) _ HPF.out).mono ?_; rintro e w4 ⟨v41, rfl, hv, hb⟩; have HVP := Aside0.mk (Kd.R_lower (Kd.R_mono (Kd.R_bound hv) (fun k hk => (show wr.heap.size + 1 ≤ k by have := hk.2.1; simpa using this))) (base' := w.heap.size) (HB1.out.size)); have HS2 := Aside0.mk (HS1.out.below hb); have HO2 := Aside0.mk (pw_own_below HO1.out hb); have H22 := Aside0.mk (H21.out.below hb); have HB2 := Aside0.mk (below_in HB1.out hb); obtain ⟨Ap, cp, rfl⟩ := Kd.R_slice HVP.out; clear hb hv HS1 HO1 H21 HB1)
      have hz0 : List.replicate C.length (0 : Int) = rowTo C (P f) 0 := (rowTo_zero _ _).symm
      rw [hz0] at HS2
      have hyw := HYW.out
      clear hz0 HYW
      generalize wr.heap.size = y0 at HS2 HVP hyw ⊢
      have HYY := Aside0.mk hyw.1
      have HW0 := Aside0.mk hyw.2
      clear hyw
      go_loopw [43] (fun s14 wq => ∃ j : Nat, j ≤ (P f).length ∧ s14 = .int .i64 j ∧ Aside0 (MxI wq w.heap.size (bs ++ [y0]) C.length (matZ C (F.take i) P ++ [rowTo C (P f) j])) ∧ Aside0 (MxW wq w.heap.size u8 bs C.length) ∧ Aside0 (Two wq w.heap.size Y (.slice (some af) F.length c31) F (.slice A7 C.length c7) C) ∧ Aside0 (RI wq w.heap.size (fun k => y0 + 1 ≤ k) (.slice Ap (P f).length cp) (P f)) ∧ Aside0 (Below w.heap.size w wq)) (fun s14 _ => (P f).length - (intOf s14).toNat)
      case atStart => exact ⟨0, by omega, rfl, HS2, HO2, H22, HVP, HB2⟩
      case round =>
        clear HS2 HO2 H22 HVP HB2
        obtain ⟨j, hj, rfl, HS, HO, H2, HVP, HB⟩ := hrel
        by_cases hjl : j < (P f).length
        · have hjz : (j : Int) < ((P f).length : Int) := by omega
          have hjs : (j : Int) < (Sg.length : Int) := by omega
          obtain ⟨ap, rfl, hp0⟩ := Kd.at_int (Kd.R_reads' HVP.out).2.2 j (by omega) (by omega)
          obtain ⟨g, hg⟩ : ∃ g, rd (P f) j = g := ⟨_, rfl⟩
          rw [hg, show ((j : Int)).toNat = j by omega] at hp0
          have hgm : g ∈ P f := by rw [← hg, rd_at' hjl]; exact List.getElem_mem hjl
          obtain ⟨q, hpk, hqC, hqe⟩ := HPLF.out g hgm
          obtain ⟨sg, hsg⟩ : ∃ sg, rd Sg j = sg := ⟨_, rfl⟩
          have hsm : sg ∈ Sg := by rw [← hsg, rd_at' (by omega)]; exact List.getElem_mem (by omega)
          obtain ⟨hm1, hm2, hm3⟩ := sign_mod (HSG.out sg hsm)
          have hge : (P f)[j] = g := by rw [← hg, rd_at' hjl]
          have HNX := Aside0.mk (rowTo_next HCN.out hjl hqC (hqe.trans hge.symm))
          have hqz : (q : Int) < (C.length : Int) := by omega
          have HPK := Aside0.mk hpk
          have HSGE := Aside0.mk hsg
          clear hg hgm hsm hqe hpk hge hsg
          go_wp2_with (first
            | (go_at_call 158; refine (QO.slices_BinarySearch_int64_int64.calls k A7 c7 C g (q : Int) true _ (Kd.R_reads' H2.out.2.1).2.2 (Kd.R_reads' H2.out.2.1).2.1 HPK.out).mono ?_; rintro e w5 ⟨rfl, hdr⟩; have hb := hdr.below; have HSa := Aside0.mk (HS.out.below hb); have HOa := Aside0.mk (pw_own_below HO.out hb); have H2a := Aside0.mk (H2.out.below hb); have HVPa := Aside0.mk (Kd.R_below HVP.out hb); have HBa := Aside0.mk (below_in HB.out hb); clear HS HO H2 HVP HB hp0 hb hdr)
            | (go_at_call 159; refine (QO.impl_signs.calls k f Sg _ HSF.out).mono ?_; rintro e w6 ⟨vs, rfl, hv, hb⟩; have HSb := Aside0.mk (HSa.out.below hb); have HOb := Aside0.mk (pw_own_below HOa.out hb); have H2b := Aside0.mk (H2a.out.below hb); have HVPb := Aside0.mk (Kd.R_below HVPa.out hb); have HBb := Aside0.mk (below_in HBa.out hb); obtain ⟨As, cs, rfl⟩ := Kd.R_slice hv; obtain ⟨ag, rfl, hs0⟩ := Kd.at_int (Kd.R_reads' hv).2.2 j (by omega) (by omega); rw [HSGE.out, show ((j : Int)).toNat = j by omega] at hs0; obtain ⟨u, hu1, hu2, hu3⟩ := HSb.out.rowLast hqC; rw [HNX.out] at hu3; have HU3 := Aside0.mk hu3; clear hb hv hu3 HSa HOa H2a HVPa HBa))
          have hblk := HSb.out.block (i := bs.length) (by simp)
          rw [show (bs ++ [y0])[bs.length]'(by simp) = y0 by simp] at hblk
          obtain ⟨cells, hblk⟩ := hblk
          have HOS := Aside0.mk (own_far HOb.out (y := y0) (j := q) (MxW.ne HOb.out hblk) (.int .i64 1))
          have H2S := Aside0.mk (H2b.out.far HYY.out q (.int .i64 1))
          have HVPS := Aside0.mk (Kd.R_far HVPb.out (p := ⟨y0, q, none⟩) (fun k hk => by have : y0 + 1 ≤ k := hk; show k ≠ y0; omega) (.int .i64 1))
          have HBS := Aside0.mk (HBb.out.setCell (p := ⟨y0, q, none⟩) (HW0.out) (.int .i64 1))
          go_roundw
          case measure => simp [intOf]; omega
          case rel => exact ⟨j + 1, by omega, by go_num, HU3, HOS, H2S, HVPS, HBS⟩
        · obtain rfl : j = (P f).length := by omega
          have hjz : ¬ ((P f).length : Int) < ((P f).length : Int) := by omega
          rw [← HFE.out] at HS
          go_wp2_with (at_builtin; refine print_append_of (rowV C.length) w.heap.size rfl (.tmp 67) (.tmp 69) 53 22 (.slice none 0 0) 24 rfl Try.underlying53 infoR rfl (by decide) _ bs y0 rfl rfl (rowV_one _ _) HO.out HB.out HB.out.size (by have := HBL.out; omega) ?_; intro v1 w9 ho hb hg hat; have HI9 := Aside0.mk (HS.out.grown HO.out hg); have H29 := Aside0.mk (H2.out.grown HO.out hg); have HO9 := Aside0.mk ho; have HB9 := Aside0.mk hb; clear ho hb hg hat)
          exact ⟨⟨i + 1, bs ++ [y0], by omega, by go_num, HO9, HI9, H29, HB9⟩, by simp [intOf]; omega⟩
    · obtain rfl : i = F.length := by omega
      have hltz : ¬ (F.length : Int) < (F.length : Int) := by omega
      rw [List.take_length] at HI
      by_cases hF0 : F = []
      · subst hF0
        have HZ : Aside0 ((elimAll (fun _ => 0) (matZ C [] P) C.length).2 = 0) := ⟨by rw [show matZ C [] P = [] from rfl, elimAll_nil]⟩
        obtain ⟨A8, c8, rfl⟩ : ∃ A8 c8, u8 = .slice A8 0 c8 := by
          rcases HO.out.2 with ⟨h, _⟩ | ⟨g, cap, cur, h, _⟩
          · exact ⟨_, _, h⟩
          · have hb0 : bs.length = 0 := by have := HI.out.1; simpa [matZ] using this
            rw [hb0] at h
            exact ⟨_, _, h⟩
        clear HO HI
        obtain ⟨D, hD⟩ : ∃ D, D = (if c8 = 0 then A8 else A8.map (·.add (0 * 1))) := ⟨_, rfl⟩
        have hcut : ∀ W : World, (Instr.slice 53 (.slice A8 0 c8) (some (.int .i64 0)) none none).run Try.prog W = .ok (.slice D 0 c8) W := by
          intro W
          obtain ⟨i0, hi0, hz0, hzs, hzb⟩ := info_parts infoR
          have := cut_from 53 22 .i64 Try.underlying53 hi0 1 hzs A8 0 c8 0 (by omega) (by omega) W
          simp only [Int.toNat_zero, Nat.sub_zero] at this
          rw [hD]
          exact this
        clear hD
        go_wp2
        go_loopw [16, 74] (fun s16 s74 wq => ∃ q : Nat, q ≤ C.length ∧ s16 = .int .i64 0 ∧ s74 = .int .i64 q ∧ Aside0 (Below w.heap.size w wq)) (fun _ s74 _ => C.length - (intOf s74).toNat)
        case atStart => exact ⟨0, by omega, rfl, rfl, HB⟩
        case round =>
          clear HB
          obtain ⟨q, hq, rfl, rfl, HB⟩ := hrel
          by_cases hql : q < C.length
          · have hqz : (q : Int) < (C.length : Int) := by omega
            go_wp2_with (go_at_call 160; refine (indexRows_c D 0 c8 0 (fun _ => 0) _ _ _ (fun _ => false) _ (fun W hW i hi => absurd hi (Nat.not_lt_zero _)) (enters_of Try.func161 (by kernel_rfl) rfl) (fun W i hW hi => absurd hi (Nat.not_lt_zero _)) (by omega)).mono ?_; rintro e w5 ⟨rfl, hb⟩; have HB5 := Aside0.mk hb; clear hb)
            exact ⟨⟨q + 1, by omega, rfl, by go_num, ⟨below_in (below_in HB.out (below_alloc (Below.refl _ _) _)) HB5.out⟩⟩, by simp [intOf]; omega⟩
          · obtain rfl : q = C.length := by omega
            have hqz : ¬ (C.length : Int) < (C.length : Int) := by omega
            go_wp2
            go_ret
            exact ⟨by rw [HZ.out]; rfl, HB.out⟩
      · have hn : 0 < (matZ C F P).length := by unfold matZ; rw [List.length_map]; exact List.length_pos_iff.2 hF0
        have hnF : (matZ C F P).length = F.length := by unfold matZ; rw [List.length_map]
        obtain ⟨b, cap, rfl, hall⟩ := MxAll.of HO.out HI.out (matZ_bits C F P) hn
        have HM0 := Aside0.mk hall
        clear HO HI H2 hall hmk HF HCC HPP HPL HCN HL3 HX1 hx0 hb0 hd0 hd1 HR HC HBL
        rw [← hnF] at hl1
        generalize hM0 : matZ C F P = M0 at HM0 hn hl1 ⊢
        generalize hm : C.length = m at HM0 hl2 ⊢
        generalize hnn : M0.length = n0 at HM0 hn hl1 ⊢
        have hcut := rows_cut HM0.out hl1
        have HCUT := Aside0.mk hcut
        clear hcut hnF hF0
        go_wp2
        go_loopw [16, 74] (fun s16 s74 wr => ∃ (r c : Nat) (bs : List Nat) (M : List (List Int)), c ≤ m ∧ r ≤ c ∧ r ≤ n0 ∧ s16 = .int .i64 r ∧ s74 = .int .i64 c ∧ Aside0 ((List.range c).foldl (elimStep fun _ => 0) (M0, 0) = (M, r)) ∧ Aside0 (MxAll wr w.heap.size b cap bs n0 m M) ∧ Aside0 (Below w.heap.size w wr)) (fun _ s74 _ => m - (intOf s74).toNat)
        case atStart => exact ⟨0, 0, bs, M0, by omega, by omega, by omega, rfl, rfl, ⟨rfl⟩, HM0, HB⟩
        case round =>
          clear HM0 HB
          obtain ⟨r, c, bs, M, hcm, hrc, hrn, rfl, rfl, HF, HM, HB⟩ := hrel
          by_cases hlt : c < m
          · have hltz : (c : Int) < (m : Int) := by omega
            obtain ⟨D, hD, hct⟩ := HCUT.out r hrn
            have hba := below_alloc (Below.refl wr.heap.size wr) (.cells #[.int .i64 c] 3)
            have HMa := Aside0.mk (HM.out.below hba)
            have HBa := Aside0.mk (below_in HB.out hba)
            have HCa : Aside0 (CB (wr.alloc (.cells #[.int .i64 c] 3)) wr.heap.size c) := ⟨heap_alloc_new wr _⟩
            have HIX := Aside0.mk (rank_find HM.out hlt hrn hl1 hD)
            rcases find_cases M c r with hfz | ⟨p, hfz⟩
            · have hfr : firstR (fun i => ent M (r + i) c != 0) (n0 - r) = -1 := firstR_none (h := hfz) HM.out.1
              rw [hfr] at HIX
              have HF2 := Aside0.mk (fold_none HF.out hfz)
              clear hfz hfr HF HM HB hba hD
              go_wp2_with (go_at_call 160; refine HIX.out.mono ?_; rintro e w5 ⟨rfl, hb⟩; have HM5 := Aside0.mk (HMa.out.below hb); have HB5 := Aside0.mk (below_in HBa.out hb); clear hb)
              exact ⟨⟨r, c + 1, bs, M, by omega, by omega, by omega, rfl, by go_num, HF2, HM5, HB5⟩, by simp [intOf]; omega⟩
            · obtain ⟨z, hzr, hfr, hpn, hz0⟩ := firstR_z hfz HM.out.1
              rw [hfr] at HIX
              have hrn' : r < n0 := by omega
              have hp0 : (0 : Int) ≤ (p : Int) := by omega
              have hpi : (p : Int) < (n0 : Int) := by omega
              have hri2 : (r : Int) < (n0 : Int) := by omega
              have HFD := Aside0.mk hfz
              obtain rfl := hD hrn'
              clear hfz hfr hba hD
              go_upto_region 22 with (go_at_call 160; refine HIX.out.mono ?_; rintro e w5 ⟨rfl, hb⟩; have HM5 := Aside0.mk (HMa.out.below hb); have HB5 := Aside0.mk (below_in HBa.out hb); have HC5 := Aside0.mk (HCa.out.below hb); clear hb HMa HBa HCa HM HB HIX)
              obtain ⟨xp, hxp, hcp, hfp⟩ := HM5.out.outCell hpn
              obtain ⟨yr, hxr, hcr, hfr⟩ := HM5.out.outCell hrn'
              obtain ⟨_, _, hm6, hc6, hb6, hcr6, hown⟩ := swap_facts (W := w5.drew) HM5.out HC5.out HB5.out.drew hrn' hpn hxp hxr
              obtain ⟨⟨u5, hcp1⟩, hfp1, _, _, _, _, _⟩ := swap_facts (W := w5) HM5.out HC5.out HB5.out hrn' hpn hxp hxr
              have HM6 := Aside0.mk hm6
              have HC6 := Aside0.mk hc6
              have HB6 := Aside0.mk hb6
              have HOWN := Aside0.mk hown
              clear hm6 hc6 hb6 hown HM5 HC5 HB5 hxp hxr
              go_wp2
              refine st_ 16 (S := fun w' => w'.cell? ⟨b, p, none⟩ = some (.slice (some ⟨xp, 0, none⟩) m m) ∧ w'.cell? ⟨b, r, none⟩ = some (.slice (some ⟨yr, 0, none⟩) m m)) (ds := [13, 15]) ⟨hcp, hcr⟩ (fun hHeld => ?_)
              refine with_tabW (T := (true, [([], []), ([], []), ([], []), ([], []), ([], []), ([], []), ([4, 5], [4, 5]), ([6], [6]), ([], []), ([], []), ([8, 9], [8, 9]), ([10], [10]), ([0, 1, 0, 1, 4, 5, 6, 7, 11], [0, 1]), ([12, 7, 0, 1, 4, 5, 6, 7, 11], [7, 12]), ([2, 3, 0, 1, 2, 3, 4, 5, 6, 7, 8, 9, 10, 11, 12, 13], [2, 3]), ([14, 11, 13, 0, 1, 2, 3, 4, 5, 6, 7, 8, 9, 10, 11, 12, 13], [11, 14])])) (B := [0, 0, 0, 0, 0, 0, 48, 112, 0, 0, 768, 1792, 4083, 8179, 16383, 32767]) (by kernel_rfl) (by kernel_rfl) (fun HT_ HW_ => ?_)
              refine pd_ 0 87 1 HT_ ?_
              refine pd_ 1 88 3 HT_ ?_
              refine pd_ 2 89 7 HT_ ?_
              refine pd_ 3 90 15 HT_ ?_
              refine pd_ 4 91 31 HT_ ?_
              refine pd_ 5 92 63 HT_ ?_
              refine pd_ 6 93 127 HT_ ?_
              refine pd_ 8 95 383 HT_ ?_
              refine pd_ 9 96 895 HT_ ?_
              refine pd_ 10 97 1919 HT_ ?_
              refine tk_ 7 94 2047 HT_ HW_ hHeld ?_
              refine tk_ 11 98 4095 HT_ HW_ hHeld ?_
              refine pd_ 12 99 8191 HT_ ?_
              refine la_ 13 none 16383 HT_ (fun K hK => ?_)
              (have hcr' : w5.drew.cell? ⟨b, r, none⟩ = some (.slice (some ⟨yr, 0, none⟩) m m) := hcr; have hfr' : w5.drew.frozen? ⟨b, r, none⟩ = false := hfr; refine skip_ (by rfl) rfl (w1 := w5.drew.setCell ⟨b, r, none⟩ (.slice (some ⟨xp, 0, none⟩) m m)) (by go_simp) ?_)
              refine hK.out _ _ ?_
              clear hK K
              refine pd_ 14 100 32767 HT_ ?_
              refine la_ 15 none 65535 HT_ (fun K hK => ?_)
              (refine skip_ (by rfl) rfl (w1 := (w5.drew.setCell ⟨b, r, none⟩ (.slice (some ⟨xp, 0, none⟩) m m)).setCell ⟨b, p, none⟩ (.slice (some ⟨yr, 0, none⟩) m m)) (by go_simp) ?_)
              refine hK.out _ _ ?_
              clear hK K
              refine dn_ HT_ ?_
              clear hcp hcr hfp hfr hcp1 hfp1 hHeld
              generalize (w5.drew.setCell ⟨b, r, none⟩ (.slice (some ⟨xp, 0, none⟩) m m)).setCell ⟨b, p, none⟩ (.slice (some ⟨yr, 0, none⟩) m m) = w6 at HM6 HC6 HB6 hcr6 ⊢
              obtain ⟨D2, hD2, hct2⟩ := HCUT.out (r + 1) (by omega)
              have hct3 : ∀ W : World, (Instr.slice 53 (.slice (some ⟨b, 0, none⟩) n0 cap) (some (.int .i64 ((r : Int) + 1))) none none).run Try.prog W = .ok (.slice D2 (n0 - (r + 1)) (cap - (r + 1))) W := fun W => by
                rw [show (r : Int) + 1 = ((r + 1 : Nat) : Int) by omega]
                exact hct2 W
              obtain ⟨bs1, hbs1⟩ : ∃ z, z = swapL bs p r := ⟨_, rfl⟩
              obtain ⟨M1, hM1⟩ : ∃ z, z = swapL M p r := ⟨_, rfl⟩
              rw [← hbs1, ← hM1] at HM6
              rw [← hbs1] at HOWN
              have HF2 := Aside0.mk (fold_some HF.out HFD.out)
              rw [← hM1] at HF2
              have hM1l := HM6.out.1
              have hMl : M.length = n0 := by rw [← hM1l, hM1, swapL_len]
              rw [hMl] at HF2
              clear hbs1 hM1 hct2 HF HFD hMl
              generalize wr.heap.size = y0 at HC6 ⊢
              go_wp2
              go_loopw [110] (fun s110 wq => ∃ i : Nat, i ≤ n0 - (r + 1) ∧ s110 = .int .i64 i ∧ Aside0 (MxAll wq w.heap.size b cap bs1 n0 m (elimTo 0 c r M1 (r + 1 + i))) ∧ Aside0 (CB wq y0 c) ∧ Aside0 (Below w.heap.size w wq)) (fun s110 _ => n0 - (r + 1) - (intOf s110).toNat)
              case atStart => exact ⟨0, by omega, rfl, ⟨by rw [elimTo_lo _ _ _ _ (by omega)]; exact HM6.out⟩, HC6, HB6⟩
              case round =>
                have HB0 := Aside0.mk HM6.out.2.2.1
                have HLEN : Aside0 (∀ q (h : q < M1.length), M1[q].length = m) := ⟨fun q h => HM6.out.2.2.2.2.row h⟩
                clear HM6 HB6 HC6
                obtain ⟨i, hin, rfl, HM, HC, HB⟩ := hrel
                by_cases hi : i < n0 - (r + 1)
                · have hiz : (i : Int) < ((n0 - (r + 1) : Nat) : Int) := by omega
                  obtain rfl := hD2 (by omega)
                  obtain ⟨R, hR⟩ : ∃ R, r + 1 + i = R := ⟨_, rfl⟩
                  have hRn : R < n0 := by omega
                  have hRr : r < R := by omega
                  rw [hR] at HM
                  obtain ⟨xi, hxi, hci, hfi⟩ := HM.out.outCell hRn
                  obtain ⟨hxc, _⟩ := HM.out.inCell hRn hlt hxi
                  obtain ⟨hyc, _⟩ := HM.out.inCell hrn' hlt HOWN.out
                  rw [ent_elim (by omega) (by omega)] at hxc hyc
                  obtain ⟨x, hx⟩ : ∃ x, ent M1 R c = x := ⟨_, rfl⟩
                  obtain ⟨y, hy⟩ : ∃ y, ent M1 r c = y := ⟨_, rfl⟩
                  have hxb : Bit x := hx ▸ bit_ent HB0.out R c
                  have hyb : Bit y := hy ▸ bit_ent HB0.out r c
                  rw [hx] at hxc
                  rw [hy] at hyc
                  obtain ⟨hmw, hmm⟩ := mul_mod hxb hyb
                  have htb := bit_mul hxb hyb
                  have HX := Aside0.mk hx
                  have HY := Aside0.mk hy
                  have HXI := Aside0.mk hxi
                  have HTB := Aside0.mk htb
                  have hyy := HC.out.cell
                  clear hx hy hxi hxb hyb htb
                  go_wp2
                  refine st_ 10 (S := fun w' => w'.cell? ⟨y0, 0, none⟩ = some (.int .i64 c) ∧ w'.cell? ⟨xi, c, none⟩ = some (.int .i64 x) ∧ w'.cell? ⟨xp, c, none⟩ = some (.int .i64 y)) (ds := []) ⟨hyy, hxc, hyc⟩ (fun hHeld => ?_)
                  refine with_tabW (T := (true, [([], []), ([], []), ([0, 1], [0, 1]), ([2], [2]), ([], []), ([], []), ([4, 5], [4, 5]), ([6], [6]), ([3, 7], [3, 7]), ([8, 0, 1, 2, 3, 4, 5, 6, 7, 8], [8])])) (B := [0, 0, 3, 7, 0, 0, 48, 112, 255, 511]) (by kernel_rfl) (by kernel_rfl) (fun HT_ HW_ => ?_)
                  refine pd_ 0 114 1 HT_ ?_
                  refine pd_ 4 118 17 HT_ ?_
                  refine tk_ 1 115 19 HT_ HW_ hHeld ?_
                  refine pd_ 2 116 23 HT_ ?_
                  refine tk_ 3 117 31 HT_ HW_ hHeld ?_
                  refine tk_ 5 119 63 HT_ HW_ hHeld ?_
                  refine pd_ 6 120 127 HT_ ?_
                  refine tk_ 7 121 255 HT_ HW_ hHeld ?_
                  refine pd_ 8 122 511 HT_ ?_
                  refine pd_ 9 23 1023 HT_ ?_
                  refine dn_ HT_ ?_
                  have HMd : Aside0 (MxAll wr.drew w.heap.size b cap bs1 n0 m ((elimTo 0 c r M1 R).set R (stepR 0 c (M1.getD r []) (M1.getD R []) 0))) := ⟨by
                    have hself : (elimTo 0 c r M1 R).set R (stepR 0 c (M1.getD r []) (M1.getD R []) 0) = elimTo 0 c r M1 R := by
                      have hil : R < (elimTo 0 c r M1 R).length := by rw [elimTo_len]; omega
                      rw [stepR_lo _ _ _ _ (Nat.le_refl _), getD_at (by omega)]
                      have := elimTo_at (lo := 0) (c := c) (r := r) (M := M1) (i := R) (q := R) (by omega)
                      rw [if_neg (by omega)] at this
                      conv => lhs; rw [← this]
                      exact List.set_getElem_self hil
                    rw [hself]; exact HM.out⟩
                  have HBd : Aside0 (Below w.heap.size w wr.drew) := ⟨HB.out.drew⟩
                  have HCd : Aside0 (CB wr.drew y0 c) := ⟨HC.out⟩
                  clear HM HB HC hxc hyc hci hfi hyy hHeld
                  go_wp2
                  go_loopw [125] (fun s125 wz => ∃ j : Nat, j ≤ m ∧ s125 = .int .i64 j ∧ Aside0 (MxAll wz w.heap.size b cap bs1 n0 m ((elimTo 0 c r M1 R).set R (stepR 0 c (M1.getD r []) (M1.getD R []) j))) ∧ Aside0 (CB wz y0 c) ∧ Aside0 (Below w.heap.size w wz)) (fun s125 _ => m - (intOf s125).toNat)
                  case atStart => exact ⟨0, by omega, rfl, HMd, HCd, HBd⟩
                  case round =>
                    clear HMd HBd HCd
                    obtain ⟨j, hjm, rfl, HM, HC, HB⟩ := hrel
                    have hil : R < (elimTo 0 c r M1 R).length := by rw [elimTo_len]; omega
                    by_cases hj : j < m
                    · have hjz : (j : Int) < (m : Int) := by omega
                      obtain ⟨hac, haf⟩ := HM.out.inCell hRn hj HXI.out
                      obtain ⟨hdc, _⟩ := HM.out.inCell hrn' hj HOWN.out
                      have hrl : (M1.getD R []).length = m := by rw [getD_at (by omega)]; exact HLEN.out R (by omega)
                      rw [ent_set hil, stepR_getD (by omega)] at hac
                      rw [ent_set_ne (by omega), ent_elim (by omega) (by omega)] at hdc
                      obtain ⟨u, hu⟩ : ∃ u, (M1.getD R []).getD j 0 = u := ⟨_, rfl⟩
                      obtain ⟨d1, hd1⟩ : ∃ d1, ent M1 r j = d1 := ⟨_, rfl⟩
                      have hub : Bit u := hu ▸ bit_ent HB0.out R j
                      have hdb : Bit d1 := hd1 ▸ bit_ent HB0.out r j
                      rw [hu] at hac
                      rw [hd1] at hdc
                      obtain ⟨h1, h2, h3, h4⟩ := xr_mod2 hub HTB.out hdb
                      have hzb : Bit (xr u (x * y) d1) := bit_xr _ _ hub
                      have hnext : ((elimTo 0 c r M1 R).set R (stepR 0 c (M1.getD r []) (M1.getD R []) j)).set R ((((elimTo 0 c r M1 R).set R (stepR 0 c (M1.getD r []) (M1.getD R []) j)).getD R []).set j (xr u (x * y) d1)) = (elimTo 0 c r M1 R).set R (stepR 0 c (M1.getD r []) (M1.getD R []) (j + 1)) := by
                        rw [getD_set hil, List.set_set]
                        congr 1
                        have := stepR_next (lo := 0) (c := c) (own := M1.getD r []) (row := M1.getD R []) (j := j) (Nat.zero_le _) (by omega)
                        rw [← this]
                        congr 1
                        have e1 : (M1.getD R [])[j]'(by omega) = u := by rw [← hu]; exact (getD_lt (by omega)).symm
                        rw [e1, show (M1.getD R []).getD c 0 = x from HX.out, show (M1.getD r []).getD c 0 = y from HY.out, show (M1.getD r []).getD j 0 = d1 from hd1]
                      have hput := HM.out.put hRn hj HXI.out hzb
                      rw [hnext] at hput
                      have HPUT : Aside0 (MxAll (wr.drew.setCell ⟨xi, j, none⟩ (.int .i64 (xr u (x * y) d1))) w.heap.size b cap bs1 n0 m ((elimTo 0 c r M1 R).set R (stepR 0 c (M1.getD r []) (M1.getD R []) (j + 1)))) := ⟨hput⟩
                      have HBP : Aside0 (Below w.heap.size w (wr.drew.setCell ⟨xi, j, none⟩ (.int .i64 (xr u (x * y) d1)))) := ⟨HB.out.drew.setCell (p := ⟨xi, j, none⟩) (HM.out.base hRn HXI.out) _⟩
                      have HCP : Aside0 (CB (wr.drew.setCell ⟨xi, j, none⟩ (.int .i64 (xr u (x * y) d1))) y0 c) := ⟨CB.inner (W := wr.drew) HC.out HM.out.2.2.2.2 HXI.out j _⟩
                      clear hput hnext hu hd1 hub hdb hzb hrl HM HB HC
                      go_wp2
                      refine st_ 21 (S := fun w' => w'.cell? ⟨xi, j, none⟩ = some (.int .i64 u) ∧ w'.cell? ⟨xp, j, none⟩ = some (.int .i64 d1)) (ds := [20]) ⟨hac, hdc⟩ (fun hHeld => ?_)
                      refine with_tabW (T := (true, [([], []), ([], []), ([], []), ([], []), ([2, 3], [2, 3]), ([4], [4]), ([], []), ([], []), ([], []), ([7, 8], [7, 8]), ([9], [9]), ([6, 10], [6, 10]), ([5, 11], [5, 11]), ([], []), ([12, 13], [12, 13]), ([], []), ([14, 15], [14, 15]), ([], []), ([16, 17], [16, 17]), ([0, 1, 0, 1, 2, 3, 4, 5, 6, 7, 8, 9, 10, 11, 12, 13, 14, 15, 16, 17, 18], [0, 1]), ([19, 18, 0, 1, 2, 3, 4, 5, 6, 7, 8, 9, 10, 11, 12, 13, 14, 15, 16, 17, 18], [18, 19])])) (B := [0, 0, 0, 0, 12, 28, 0, 0, 0, 384, 896, 1984, 4092, 0, 16380, 0, 65532, 0, 262140, 524287, 1048575]) (by kernel_rfl) (by kernel_rfl) (fun HT_ HW_ => ?_)
                      refine pd_ 0 128 1 HT_ ?_
                      refine pd_ 1 129 3 HT_ ?_
                      refine pd_ 2 130 7 HT_ ?_
                      refine pd_ 3 131 15 HT_ ?_
                      refine pd_ 4 132 31 HT_ ?_
                      refine pd_ 6 134 95 HT_ ?_
                      refine pd_ 7 135 223 HT_ ?_
                      refine pd_ 8 136 479 HT_ ?_
                      refine pd_ 9 137 991 HT_ ?_
                      refine pd_ 13 141 9183 HT_ ?_
                      refine pd_ 15 143 41951 HT_ ?_
                      refine pd_ 17 145 173023 HT_ ?_
                      refine tk_ 5 133 173055 HT_ HW_ hHeld ?_
                      refine tk_ 10 138 174079 HT_ HW_ hHeld ?_
                      refine pd_ 11 139 176127 HT_ ?_
                      refine pd_ 12 140 180223 HT_ ?_
                      refine pd_ 14 142 196607 HT_ ?_
                      refine pd_ 16 144 262143 HT_ ?_
                      refine pd_ 18 146 524287 HT_ ?_
                      refine pd_ 19 147 1048575 HT_ ?_
                      refine la_ 20 none 2097151 HT_ (fun K hK => ?_)
                      (have hac' : wr.drew.cell? ⟨xi, j, none⟩ = some (.int .i64 u) := hac; have haf' : wr.drew.frozen? ⟨xi, j, none⟩ = false := haf; refine skip_ (by rfl) rfl (w1 := wr.drew.setCell ⟨xi, j, none⟩ (.int .i64 (xr u (x * y) d1))) (by go_simp) ?_)
                      refine hK.out _ _ ?_
                      clear hK K
                      refine dn_ HT_ ?_
                      go_wp2
                      go_roundw
                      case measure => simp [intOf]; omega
                      case rel => exact ⟨j + 1, by omega, by go_num, HPUT, HCP, HBP⟩
                    · obtain rfl : j = m := by omega
                      have hjz : ¬ (j : Int) < (j : Int) := by omega
                      have hfull : (elimTo 0 c r M1 R).set R (stepR 0 c (M1.getD r []) (M1.getD R []) j) = elimTo 0 c r M1 (r + 1 + (i + 1)) := by
                        rw [show r + 1 + (i + 1) = R + 1 by omega, ← elimTo_next hRr (by omega), getD_at (show R < M1.length by omega), HLEN.out R (by omega)]
                      rw [hfull] at HM
                      clear hfull
                      go_wp2
                      exact ⟨⟨i + 1, by omega, by go_num, HM, HC, HB⟩, by simp [intOf]; omega⟩
                · obtain rfl : i = n0 - (r + 1) := by omega
                  have hiz : ¬ ((n0 - (r + 1) : Nat) : Int) < ((n0 - (r + 1) : Nat) : Int) := by omega
                  rw [show r + 1 + (n0 - (r + 1)) = n0 by omega] at HM
                  go_wp2
                  exact ⟨⟨r + 1, c + 1, bs1, _, by omega, by omega, by omega, by go_num, by go_num, HF2, HM, HB⟩, by simp [intOf]; omega⟩
          · obtain rfl : c = m := by omega
            have hltz : ¬ (c : Int) < (c : Int) := by omega
            go_wp2
            go_ret
            exact ⟨by unfold elimAll; (try rw [hM0]); (try rw [hm]); rw [HF.out]; rfl, HB.out⟩
end Go.Proofs.Ytomdfjohnmikdaa.Im
namespace Go.Proofs.Ytomdfjohnmikdaa.Im
set_option linter.unusedVariables false
set_option linter.unusedSimpArgs false
/-- What holds ahead of column c: the rows from r on are zero there. -/
def Zero (M : List (List Int)) (m r c : Nat) : Prop := Bits M ∧ (∀ row ∈ M, row.length = m) ∧ ∀ i, r ≤ i → i < M.length → ∀ q, q < c → ent M i q = 0
theorem xr_zero (x t : Int) : xr x t 0 = x := by
  unfold xr
  rw [if_neg (fun h => by have := h.2; omega)]
theorem stepR_low {lo c : Nat} {own row : List Int} (hlo : lo ≤ c) (h : ∀ q, q < c → own.getD q 0 = 0) (j : Nat) : stepR c c own row j = stepR lo c own row j := by
  apply List.ext_getElem
  · rw [stepR_len, stepR_len]
  · intro q h1 h2
    have hq : q < row.length := by rw [stepR_len] at h1; exact h1
    rw [stepR_at hq, stepR_at hq]
    by_cases h3 : c ≤ q ∧ q < j
    · rw [if_pos h3, if_pos ⟨by omega, h3.2⟩]
    · rw [if_neg h3]
      by_cases h4 : lo ≤ q ∧ q < j
      · rw [if_pos h4, h q (by omega), xr_zero]
      · rw [if_neg h4]
theorem elimTo_low {lo c r : Nat} {M : List (List Int)} (hlo : lo ≤ c) (h : ∀ q, q < c → ent M r q = 0) (i : Nat) : elimTo c c r M i = elimTo lo c r M i := by
  apply List.ext_getElem
  · rw [elimTo_len, elimTo_len]
  · intro q h1 h2
    have hq : q < M.length := by rw [elimTo_len] at h1; exact h1
    rw [elimTo_at hq, elimTo_at hq]
    by_cases h3 : r < q ∧ q < i
    · rw [if_pos h3, if_pos h3]
      exact stepR_low hlo h _
    · rw [if_neg h3, if_neg h3]
theorem findZ_hit {M : List (List Int)} {c r i : Nat} (h : findZ M c r = some i) : r ≤ i ∧ i < M.length ∧ ent M i c ≠ 0 := by
  unfold findZ at h
  have h1 := List.mem_of_find?_eq_some h
  have h2 := List.find?_some h
  have := List.mem_range'_1.1 h1
  exact ⟨this.1, by omega, by simpa using h2⟩
theorem findZ_miss {M : List (List Int)} {c r : Nat} (h : findZ M c r = none) : ∀ i, r ≤ i → i < M.length → ent M i c = 0 := by
  unfold findZ at h
  intro i h1 h2
  have := List.find?_eq_none.1 h i (List.mem_range'_1.2 ⟨h1, by omega⟩)
  simpa using this
theorem row_at {M : List (List Int)} {i : Nat} (hi : i < M.length) : M.getD i [] = M[i] := getD_at hi
theorem zero_step {lo : Nat → Nat} {M : List (List Int)} {m r c : Nat} (hlo : lo c ≤ c) (hc : c < m) (h : Zero M m r c) (hr : r ≤ M.length) : elimStep id (M, r) c = elimStep lo (M, r) c ∧ Zero (elimStep id (M, r) c).1 m (elimStep id (M, r) c).2 (c + 1) ∧ (elimStep id (M, r) c).2 ≤ (elimStep id (M, r) c).1.length := by
  unfold elimStep
  cases hf : findZ M c r with
  | none =>
    refine ⟨rfl, ⟨h.1, h.2.1, fun i h1 h2 q hq => ?_⟩, hr⟩
    by_cases hqc : q < c
    · exact h.2.2 i h1 h2 q hqc
    · rw [show q = c by omega]; exact findZ_miss hf i h1 h2
  | some p =>
    obtain ⟨h1, h2, h3⟩ := findZ_hit hf
    have hr' : r < M.length := by omega
    have hsl : (swapL M p r).length = M.length := swapL_len _ _ _
    have hsr : ∀ i (hi : i < M.length), (swapL M p r)[i]'(by rw [hsl]; exact hi) = if i = r then M[p] else if i = p then M[r] else M[i] := fun i hi => swapL_at h2 hr' (by rw [hsl]; exact hi)
    have hse : ∀ i, r ≤ i → i < M.length → ∃ k, r ≤ k ∧ k < M.length ∧ ∀ q, ent (swapL M p r) i q = ent M k q := fun i h4 h5 => by
      have e := hsr i h5
      have e1 : ∀ k (hk : k < M.length), (swapL M p r)[i]'(by rw [hsl]; exact h5) = M[k] → ∀ q, ent (swapL M p r) i q = ent M k q := fun k hk e q => by
        unfold ent
        rw [row_at (by rw [hsl]; exact h5), row_at hk, e]
      by_cases hir : i = r
      · rw [if_pos hir] at e; exact ⟨p, h1, h2, e1 p h2 e⟩
      · rw [if_neg hir] at e
        by_cases hip : i = p
        · rw [if_pos hip] at e; exact ⟨r, Nat.le_refl _, hr', e1 r hr' e⟩
        · rw [if_neg hip] at e; exact ⟨i, h4, h5, e1 i h5 e⟩
    have hz : ∀ i, r ≤ i → i < M.length → ∀ q, q < c → ent (swapL M p r) i q = 0 := fun i h4 h5 q hq => by
      obtain ⟨k, k1, k2, k3⟩ := hse i h4 h5
      rw [k3]; exact h.2.2 k k1 k2 q hq
    have hown : ent (swapL M p r) r c ≠ 0 := by
      have e := hsr r hr'
      rw [if_pos rfl] at e
      unfold ent
      rw [row_at (by rw [hsl]; exact hr'), e, ← row_at h2]
      exact h3
    have hsb := swap_bits h.1 h2 hr'
    have hslen : ∀ row ∈ swapL M p r, row.length = m := by
      intro row hrow
      obtain ⟨i, hi, rfl⟩ := List.mem_iff_getElem.1 hrow
      have hi' : i < M.length := by rw [hsl] at hi; exact hi
      rw [hsr i hi']
      split
      · exact h.2.1 _ (List.getElem_mem _)
      · split <;> exact h.2.1 _ (List.getElem_mem _)
    refine ⟨?_, ⟨elimTo_bits hsb, ?_, ?_⟩, ?_⟩
    · show (elimTo c c r (swapL M p r) M.length, r + 1) = (elimTo (lo c) c r (swapL M p r) M.length, r + 1)
      rw [elimTo_low hlo (fun q hq => hz r (Nat.le_refl _) hr' q hq)]
    · intro row hrow
      obtain ⟨i, hi, rfl⟩ := List.mem_iff_getElem.1 hrow
      have hi' : i < (swapL M p r).length := by rw [elimTo_len] at hi; exact hi
      rw [elimTo_at hi']
      split
      · rw [stepR_len]; exact hslen _ (List.getElem_mem _)
      · exact hslen _ (List.getElem_mem _)
    · intro i h4 h5 q hq
      have h5' : i < (swapL M p r).length := by
        have : (elimTo c c r (swapL M p r) M.length).length = (swapL M p r).length := elimTo_len _ _ _ _ _
        exact this ▸ h5
      have h6 : i < M.length := by rw [← hsl]; exact h5'
      have hrl := hslen _ (List.getElem_mem h5')
      have h4' : r + 1 ≤ i := h4
      have e : (elimTo c c r (swapL M p r) M.length).getD i [] = stepR c c ((swapL M p r).getD r []) (swapL M p r)[i] (swapL M p r)[i].length := by
        rw [row_at (by rw [elimTo_len]; exact h5'), elimTo_at h5', if_pos ⟨by omega, h6⟩]
      show ent (elimTo c c r (swapL M p r) M.length) i q = 0
      unfold ent
      rw [e]
      have hqm : q < (swapL M p r)[i].length := by omega
      rw [getD_lt (by rw [stepR_len]; exact hqm), stepR_at hqm]
      have hx : ent (swapL M p r) i q = (swapL M p r)[i][q] := ent_at h5' hqm
      by_cases hqc : q < c
      · rw [if_neg (by omega), ← hx]
        exact hz i (by omega) h6 q hqc
      · obtain rfl : q = c := by omega
        rw [if_pos ⟨Nat.le_refl _, hqm⟩]
        have ho : ((swapL M p r).getD r []).getD q 0 = 1 := by
          have := bit_ent hsb r q
          rcases this with h7 | h7
          · exact absurd h7 hown
          · exact h7
        have hb : Bit (swapL M p r)[i][q] := hsb _ (List.getElem_mem _) _ (List.getElem_mem _)
        rw [ho, getD_lt hqm, Int.mul_one]
        unfold xr
        rcases hb with h7 | h7 <;> rw [h7] <;> simp
    · show r + 1 ≤ (elimTo c c r (swapL M p r) M.length).length
      rw [elimTo_len, hsl]; omega
theorem elim_same {lo : Nat → Nat} (hlo : ∀ c, lo c ≤ c) {M : List (List Int)} {m : Nat} (hb : Bits M) (hl : ∀ row ∈ M, row.length = m) : elimAll id M m = elimAll lo M m := by
  have key : ∀ c, c ≤ m → (List.range c).foldl (elimStep id) (M, 0) = (List.range c).foldl (elimStep lo) (M, 0) ∧ Zero ((List.range c).foldl (elimStep id) (M, 0)).1 m ((List.range c).foldl (elimStep id) (M, 0)).2 c ∧ ((List.range c).foldl (elimStep id) (M, 0)).2 ≤ ((List.range c).foldl (elimStep id) (M, 0)).1.length := by
    intro c
    induction c with
    | zero => exact fun _ => ⟨rfl, ⟨hb, hl, fun i _ _ q hq => absurd hq (Nat.not_lt_zero _)⟩, Nat.zero_le _⟩
    | succ c ih =>
      intro hc
      obtain ⟨h1, h2, h3⟩ := ih (by omega)
      rw [List.range_succ, List.foldl_append, List.foldl_append, ← h1]
      generalize (List.range c).foldl (elimStep id) (M, 0) = s at h2 h3
      obtain ⟨M1, r⟩ := s
      obtain ⟨a1, a2, a3⟩ := zero_step (lo := lo) (hlo c) (by omega) h2 h3
      refine ⟨a1, a2, a3⟩
  exact (key m (Nat.le_refl _)).1
end Go.Proofs.Ytomdfjohnmikdaa.Im
namespace Go.Proofs.Ytomdfjohnmikdaa.QS
open Go.Proofs.Ytomdfjohnmikdaa.Cw Go.Proofs.Ytomdfjohnmikdaa.Kp Go.Proofs.Ytomdfjohnmikdaa.Ext Go.RowKit Go.Proofs.YtomdfjohnmikdaaW.PrintWords Go.Proofs.YtomdfjohnmikdaaW.PrintLast Go.Proofs.YtomdfjohnmikdaaW.PrintMore
attribute [local go_sem] max2_int min2_int max_two min_two max_three min_three max_four min_four   -- for this text's walks alone
set_option linter.unusedVariables false
set_option linter.unusedSimpArgs false
def laws_szInt64S.f (l0 : List Int) (a1 : Int) : Option (Int) := if (wrap64 (a1 - (l0.length : Int))) < 0 then (some (-1)) else (some (wrap64 (a1 - (l0.length : Int))))
set_option maxHeartbeats 8000000 in
set_option maxRecDepth 100000 in
theorem laws_szInt64S.calls (A0 : Option Addr) (c0 : Nat) (l0 : List Int) (a1 : Int) (r : Int) (w : World) (hr0 : Kd.C (Kd.int .i64) w A0 l0.length l0) (hc0 : l0.length ≤ c0) (h : laws_szInt64S.f l0 a1 = some r) :
  Calls Try.prog 49 #[.slice A0 l0.length c0, .int .i64 a1] w fun e w' => e = .returned (.int .i64 r) ∧ Drawn0 w w' := by
 have HR0 := Aside0.mk hr0
 have HC0 := Aside0.mk hc0
 clear hr0 hc0
 have H : (if (wrap64 (a1 - (l0.length : Int))) < 0 then (some (-1)) else (some (wrap64 (a1 - (l0.length : Int))))) = some r := h
 clear h
 by_cases c3 : (wrap64 (a1 - (l0.length : Int))) < 0
 ·rw [if_pos c3] at H
  have c3b0 : decide ((wrap64 (a1 - (l0.length : Int))) < 0) = true := decide_eq_true c3
  clear c3
  obtain rfl := Option.some.inj H
  go_enter Try.func49, Try.ntmps49
  go_wp2
  go_ret
  exact ⟨by first | rfl | (simp; done) | (simp [*]; done), by repeat (first | exact Drawn0.refl _ | apply Drawn0.step)⟩
 ·rw [if_neg c3] at H
  have c3b0 : decide ((wrap64 (a1 - (l0.length : Int))) < 0) = false := decide_eq_false c3
  clear c3
  obtain rfl := Option.some.inj H
  go_enter Try.func49, Try.ntmps49
  go_wp2
  go_ret
  exact ⟨by first | rfl | (simp; done) | (simp [*]; done), by repeat (first | exact Drawn0.refl _ | apply Drawn0.step)⟩
end Go.Proofs.Ytomdfjohnmikdaa.QS
namespace Go.Proofs.Ytomdfjohnmikdaa.QS
open Go.Proofs.Ytomdfjohnmikdaa.Cw Go.Proofs.Ytomdfjohnmikdaa.Kp Go.Proofs.Ytomdfjohnmikdaa.Ext Go.RowKit Go.Proofs.YtomdfjohnmikdaaW.PrintWords Go.Proofs.YtomdfjohnmikdaaW.PrintLast Go.Proofs.YtomdfjohnmikdaaW.PrintMore
attribute [local go_sem] max2_int min2_int max_two min_two max_three min_three max_four min_four   -- for this text's walks alone
set_option linter.unusedVariables false
set_option linter.unusedSimpArgs false
def laws_szComplex.f (a0_0 : Int) (l0_1 : List Int) (a1 : Int) : Option (Int) := (laws_szInt64S.f l0_1 a1).bind fun t102 => (if t102 < 0 then (some (-1)) else (some t102))
set_option maxHeartbeats 8000000 in
set_option maxRecDepth 100000 in
theorem laws_szComplex.calls (a0_0 : Int) (A0_1 : Option Addr) (c0_1 : Nat) (l0_1 : List Int) (a1 : Int) (r : Int) (w : World) (hr0_1 : Kd.C (Kd.int .i64) w A0_1 l0_1.length l0_1) (hc0_1 : l0_1.length ≤ c0_1) (h : laws_szComplex.f a0_0 l0_1 a1 = some r) :
  Calls Try.prog 13 #[.agg #[.int .i64 a0_0, .slice A0_1 l0_1.length c0_1], .int .i64 a1] w fun e w' => e = .returned (.int .i64 r) ∧ Below w.heap.size w w' := by
 have hu24 := Try.underlying24
 have HR0_1 := Aside0.mk hr0_1
 have HC0_1 := Aside0.mk hc0_1
 clear hr0_1 hc0_1
 have HB := Aside0.mk (Below.refl w.heap.size w)
 have H : ((laws_szInt64S.f l0_1 a1).bind fun t102 => (if t102 < 0 then (some (-1)) else (some t102))) = some r := h
 clear h
 replace H := Option.bind_eq_some_iff.mp H
 obtain ⟨t102, A30, H⟩ := H
 try dsimp only at H
 have A3 := Aside0.mk A30
 clear A30
 by_cases c4 : t102 < 0
 ·rw [if_pos c4] at H
  have c4b0 : decide (t102 < 0) = true := decide_eq_true c4
  clear c4
  obtain rfl := Option.some.inj H
  go_enter Try.func13, Try.ntmps13
  go_wp2_with (first | ((with_reducible refine gate_dst (N := 2) rfl ?_); refine box_event ?hg (N := 2) ?hd (cs := #[.int .i64 a0_0, .slice A0_1 l0_1.length c0_1]) (t := 24) ?hr ?_; (case hd => rfl); (case hg => rfl); (case hr => first | (go_simp; done) | (go_simp; rfl)); intro gb101 hg w5 hbox hb; have BK101 := Aside0.mk (hbox); have GW101 := gH HB hg; have GE101 := gH HB hg; replace HB := sH HB hb; clear hb hbox hg; have hcz6_0 : w5.cell? ⟨gb101, 0, none⟩ = some (.int .i64 a0_0) := cB BK101 0; have hcz6_1 : w5.cell? ⟨gb101, 1, none⟩ = some (.slice A0_1 l0_1.length c0_1) := cB BK101 1; have hfz6_0 := zB BK101 0; have hfz6_1 := zB BK101 1) | ((with_reducible refine gate_callee (f := 49) rfl ?_); refine cl_ (some 8) Try.func49 #[.slice A0_1 l0_1.length c0_1, .int .i64 a1] ?_; (with_reducible refine (laws_szInt64S.calls _ _ l0_1 a1 t102 _ ?side1 ?side2 A3.out).mono ?_); (case side1 => exact pC ((Kd.C_below HR0_1.out HB.out))); (case side2 => exact HC0_1.out); rintro e w' ⟨rfl, ⟨nd, rfl⟩⟩; refine ⟨_, rfl, ?_⟩))
  go_ret
  exact ⟨by first | rfl | (simp [errW_none, errW_some] <;> rfl) | (simp [*, errW_none, errW_some] <;> rfl) | (exfalso; simp_all), pH HB⟩
 ·rw [if_neg c4] at H
  have c4b0 : decide (t102 < 0) = false := decide_eq_false c4
  clear c4
  obtain rfl := Option.some.inj H
  go_enter Try.func13, Try.ntmps13
  go_wp2_with (first | ((with_reducible refine gate_dst (N := 2) rfl ?_); refine box_event ?hg (N := 2) ?hd (cs := #[.int .i64 a0_0, .slice A0_1 l0_1.length c0_1]) (t := 24) ?hr ?_; (case hd => rfl); (case hg => rfl); (case hr => first | (go_simp; done) | (go_simp; rfl)); intro gb101 hg w7 hbox hb; have BK101 := Aside0.mk (hbox); have GW101 := gH HB hg; have GE101 := gH HB hg; replace HB := sH HB hb; clear hb hbox hg; have hcz8_0 : w7.cell? ⟨gb101, 0, none⟩ = some (.int .i64 a0_0) := cB BK101 0; have hcz8_1 : w7.cell? ⟨gb101, 1, none⟩ = some (.slice A0_1 l0_1.length c0_1) := cB BK101 1; have hfz8_0 := zB BK101 0; have hfz8_1 := zB BK101 1) | ((with_reducible refine gate_callee (f := 49) rfl ?_); refine cl_ (some 8) Try.func49 #[.slice A0_1 l0_1.length c0_1, .int .i64 a1] ?_; (with_reducible refine (laws_szInt64S.calls _ _ l0_1 a1 t102 _ ?side1 ?side2 A3.out).mono ?_); (case side1 => exact pC ((Kd.C_below HR0_1.out HB.out))); (case side2 => exact HC0_1.out); rintro e w' ⟨rfl, ⟨nd, rfl⟩⟩; refine ⟨_, rfl, ?_⟩))
  go_ret
  exact ⟨by first | rfl | (simp [errW_none, errW_some] <;> rfl) | (simp [*, errW_none, errW_some] <;> rfl) | (exfalso; simp_all), pH HB⟩
end Go.Proofs.Ytomdfjohnmikdaa.QS
namespace Go.Proofs.Ytomdfjohnmikdaa.QS
open Go.Proofs.Ytomdfjohnmikdaa.Cw Go.Proofs.Ytomdfjohnmikdaa.Kp Go.Proofs.Ytomdfjohnmikdaa.Ext Go.RowKit Go.Proofs.YtomdfjohnmikdaaW.PrintWords Go.Proofs.YtomdfjohnmikdaaW.PrintLast Go.Proofs.YtomdfjohnmikdaaW.PrintMore
attribute [local go_sem] max2_int min2_int max_two min_two max_three min_three max_four min_four   -- for this text's walks alone
set_option linter.unusedVariables false
set_option linter.unusedSimpArgs false
def laws_toInt64S.l0 : Nat → List Int → List Int → Int → Option (List Int)
 | 0, _, _, _ => none
 | k + 1, x0, x3, x4 => if x4 < (x0.length : Int) then (if 0 ≤ x4 then (if x4 < (x3.length : Int) then (laws_toInt64S.l0 k x0 (x3.set (x4 : Int).toNat (rd x0 x4)) (wrap64 (x4 + 1))) else (none)) else (none)) else (some x3)
def laws_toInt64S.f (k : Nat) (l0 : List Int) : Option (List Int) := if 0 ≤ (l0.length : Int) then (if ((l0.length : Int) : Int).toNat ≤ 35184372088832 then (laws_toInt64S.l0 k l0 (List.replicate ((l0.length : Int) : Int).toNat 0) 0) else (none)) else (none)
set_option maxHeartbeats 8000000 in
set_option maxRecDepth 100000 in
theorem laws_toInt64S.calls (k : Nat) (A0 : Option Addr) (c0 : Nat) (l0 : List Int) (r : List Int) (w : World) (hr0 : Kd.C (Kd.int .i64) w A0 l0.length l0) (hc0 : l0.length ≤ c0) (h : laws_toInt64S.f k l0 = some r) :
  Calls Try.prog 16 #[.slice A0 l0.length c0] w fun e w' => ∃ v0_ : Value, e = .returned (v0_) ∧ Kd.R (Kd.int .i64) 2 w' w.heap.size (fun _ => True) v0_ r ∧ Below w.heap.size w w' := by
 have HR0 := Aside0.mk hr0
 have HC0 := Aside0.mk hc0
 clear hr0 hc0
 have HB := Aside0.mk (Below.refl w.heap.size w)
 have H : (if 0 ≤ (l0.length : Int) then (if ((l0.length : Int) : Int).toNat ≤ 35184372088832 then (laws_toInt64S.l0 k l0 (List.replicate ((l0.length : Int) : Int).toNat 0) 0) else (none)) else (none)) = some r := h
 clear h
 by_cases c2 : 0 ≤ (l0.length : Int)
 ·rw [if_pos c2] at H
  have c2b0 := eq_true c2
  have c2b1 : decide (0 ≤ (l0.length : Int)) = true := decide_eq_true c2
  clear c2
  by_cases c3 : ((l0.length : Int) : Int).toNat ≤ 35184372088832
  ·rw [if_pos c3] at H
   have c3b0 := eq_true c3
   have c3b1 : decide (((l0.length : Int) : Int).toNat ≤ 35184372088832) = true := decide_eq_true c3
   clear c3
   obtain ⟨y103, hy103⟩ : ∃ y_ : List Int, y_ = (List.replicate ((l0.length : Int) : Int).toNat 0) := ⟨_, rfl⟩
   replace H : (laws_toInt64S.l0 k l0 y103 0) = some r := by first | (rw [hy103]; with_reducible exact H) | (have H2_ := (Option.bind_some _ _).symm.trans H; rw [hy103]; with_reducible exact H2_) | (have H2_ := (Option.bind_some _ _).symm.trans H; with_reducible exact H2_) | with_reducible exact H | (rw [hy103]; exact H) | exact H
   have Ny103 := Aside0.mk hy103
   clear hy103
   have H' := Aside0.mk H
   clear H
   go_enter Try.func16, Try.ntmps16
   go_wp2_with (first | ((with_reducible refine gate_dst (N := 7) rfl ?_); refine Kd.R_make (Kd.int .i64) _ 2 rfl (N := 7) rfl 22 _ _ rfl (l0.length : Int) rfl rfl Try.underlying22 (.int .i64 0) 8 info2 rfl (by decide) (by omega) 0 (ok := fun _ => True) (okp := fun _ => True) rfl (fun _ hk => hk) trivial (of_decide_eq_true (by first | (with_reducible assumption) | assumption)) (Nat.le_trans (Nat.mul_le_mul_right _ (of_decide_eq_true (by first | (with_reducible assumption) | assumption) : (l0.length : Int).toNat ≤ 35184372088832)) (by omega)) (Below.refl _ _) (Nat.le_refl _) ?_; intro v104 w4 ho5 hb hg_ hnew_; clear hg_ hnew_; (first | rw [← Ny103.out] at ho5 | (simp only [Int.reduceToNat] at ho5; rw [← Ny103.out] at ho5)); have HO105 := Aside0.mk (Kd.R_lower ho5 (below_size (pH HB))); replace HB := sH HB hb; clear hb ho5))
   go_loopg [4] k (fun kq v4 w' => ∃ (x3_1 : List Int) (x4_1 : Int), v4 = .int .i64 x4_1 ∧ Aside0 (laws_toInt64S.l0 kq l0 x3_1 x4_1 = some r) ∧ Aside0 (kq ≤ k) ∧ Aside0 (Kd.R (Kd.int .i64) 2 w' w.heap.size (fun _ => True) v104 x3_1) ∧ Aside0 (Below w.heap.size w w'))
   case atStart => exact ⟨(y103), (0), (by first | rfl | (simp; done) | (simp [*]; done)), H', ⟨Nat.le_refl _⟩, ⟨by (with_reducible repeat (first | apply Kd.R_alloc | apply Kd.R_drewN | apply Kd.R_drew)); exact HO105.out⟩, ⟨pH HB⟩⟩
   case round =>
    clear H'
    try clear c1
    try clear c2
    try clear c2b0
    try clear c2b1
    try clear p2
    try clear c3
    try clear c3b0
    try clear c3b1
    obtain ⟨x3_1, x4_1, rfl, HA, HK1, HO_3, HB⟩ := hrel
    cases gk with
    | zero => exact absurd HA.out (by simp [laws_toInt64S.l0])
    | succ k1 =>
     have H := HA.out
     clear HA
     simp only [laws_toInt64S.l0] at H
     by_cases c6 : x4_1 < (l0.length : Int)
     ·rw [if_pos c6] at H
      have c6b0 : decide (x4_1 < (l0.length : Int)) = true := decide_eq_true c6
      clear c6
      by_cases c7 : 0 ≤ x4_1
      ·rw [if_pos c7] at H
       have c7b0 : decide (0 ≤ x4_1) = true := decide_eq_true c7
       clear c7
       by_cases c8 : x4_1 < (x3_1.length : Int)
       ·rw [if_pos c8] at H
        have c8b0 : decide (x4_1 < (x3_1.length : Int)) = true := decide_eq_true c8
        clear c8
        obtain ⟨y107, hy107⟩ : ∃ y_ : List Int, y_ = (x3_1.set (x4_1 : Int).toNat (rd l0 x4_1)) := ⟨_, rfl⟩
        replace H : (laws_toInt64S.l0 k1 l0 y107 (wrap64 (x4_1 + 1))) = some r := by first | (rw [hy107]; with_reducible exact H) | (have H2_ := (Option.bind_some _ _).symm.trans H; rw [hy107]; with_reducible exact H2_) | (have H2_ := (Option.bind_some _ _).symm.trans H; with_reducible exact H2_) | with_reducible exact H | (rw [hy107]; exact H) | exact H
        have Ny107 := Aside0.mk hy107
        clear hy107
        have H' := Aside0.mk H
        clear H
        have p106 : 0 ≤ (x4_1 : Int) := of_decide_eq_true (by first | (with_reducible assumption) | assumption)
        have q106 : x4_1 < (l0.length : Int) := of_decide_eq_true (by first | (with_reducible assumption) | assumption)
        obtain ⟨ad106, e106, hx106_0⟩ := Kd.at_int HR0.out x4_1 p106 q106
        cases e106
        replace hx106_0 := cH HB hx106_0
        replace p106 := eq_true p106
        replace q106 := eq_true q106
        have p9 : 0 ≤ (x4_1 : Int) := of_decide_eq_true (by first | (with_reducible assumption) | assumption)
        have q9 : (x4_1 : Int) < ((x3_1.length : Int) : Int) := of_decide_eq_true (by first | (with_reducible assumption) | assumption)
        obtain ⟨go9, co9, eo9, gb9, gl9, cl9, HG9⟩ := Kd.R_form HO_3.out (by omega)
        (first | cases eo9 | (injection eo9 with ea_ en_ ec_; (first | subst ea_ | (injection ea_ with ea_; subst ea_)); subst ec_; clear en_))
        have GB9 := Aside0.mk gb9
        have GG9 := Aside0.mk HG9
        clear gb9 gl9 HG9
        obtain ⟨hx9_0, hf9_0⟩ := Kd.R_celln 0 HO_3.out (x4_1 : Int) p9 q9
        replace p9 := eq_true p9
        replace q9 := eq_true q9
        have HP10 := Kd.R_putg HO_3.out (x4_1 : Int) (rd l0 x4_1)
        go_wp2_with (first | ((with_reducible refine gate_store (t := 2) (p := 20) rfl ?_); refine store_event (t := 2) (p := 20) (v := ?vo_w11) (w1 := (wr.setCell ⟨go9, (x4_1 : Int).toNat, none⟩ (.int .i64 (rd l0 x4_1)))) ?hg ?ho ?hn ?hr ?_; (case ho => rfl); (case hg => rfl); (case hn => rfl); (case hr => first | (go_simp; done) | (go_simp; rfl)); intro w11 hw; have hg : wr.grownBy w11 (some go9) := (by rw [hw]; exact HP10.2); have hp_ : Kd.R (Kd.int .i64) 2 w11 w.heap.size (fun _ => True) (.slice (some ⟨go9, 0, none⟩) x3_1.length co9) y107 := (by rw [hw, Ny107.out]; exact HP10.1); clear HP10; have n0_ := Aside0.mk (hp_); have n1_ := Aside0.mk ((by rw [hw]; exact below_set (HB.out) GB9.out : Below w.heap.size w w11)); clear HO_3; clear HB; have HO_3 := n0_; have HB := n1_; clear n0_ n1_; clear hg hw hp_))
        go_roundg k1
        case measure => have := HK1.out; omega
        case rel => exact ⟨(y107), (wrap64 (x4_1 + 1)), (by first | rfl | (simp; done) | (simp [*]; done)), H', ⟨by have := HK1.out; omega⟩, ⟨by (with_reducible repeat (first | apply Kd.R_alloc | apply Kd.R_drewN | apply Kd.R_drew)); exact HO_3.out⟩, ⟨pH HB⟩⟩
       ·rw [if_neg c8] at H
        exact absurd H (by simp)
      ·rw [if_neg c7] at H
       exact absurd H (by simp)
     ·rw [if_neg c6] at H
      have c6b0 : decide (x4_1 < (l0.length : Int)) = false := decide_eq_false c6
      clear c6
      obtain rfl := Option.some.inj H
      go_wp2
      go_ret
      exact ⟨_, by first | rfl | (simp [errW_none, errW_some] <;> rfl) | (simp [*, errW_none, errW_some] <;> rfl) | (exfalso; simp_all), by (with_reducible repeat (first | apply Kd.R_alloc | apply Kd.R_drewN | apply Kd.R_drew)); exact HO_3.out, pH HB⟩
  ·rw [if_neg c3] at H
   exact absurd H (by simp)
 ·rw [if_neg c2] at H
  exact absurd H (by simp)
end Go.Proofs.Ytomdfjohnmikdaa.QS
namespace Go.Proofs.Ytomdfjohnmikdaa.QS
open Go.Proofs.Ytomdfjohnmikdaa.Cw Go.Proofs.Ytomdfjohnmikdaa.Kp Go.Proofs.Ytomdfjohnmikdaa.Ext Go.RowKit Go.Proofs.YtomdfjohnmikdaaW.PrintWords Go.Proofs.YtomdfjohnmikdaaW.PrintLast Go.Proofs.YtomdfjohnmikdaaW.PrintMore
attribute [local go_sem] max2_int min2_int max_two min_two max_three min_three max_four min_four   -- for this text's walks alone
set_option linter.unusedVariables false
set_option linter.unusedSimpArgs false
def laws_toComplex.f (k : Nat) (a0_0 : Int) (l0_1 : List Int) : Option (Int × List Int) := (laws_toInt64S.f k l0_1).bind fun t111 => (some (a0_0, t111))
set_option maxHeartbeats 8000000 in
set_option maxRecDepth 100000 in
theorem laws_toComplex.calls (k : Nat) (a0_0 : Int) (A0_1 : Option Addr) (c0_1 : Nat) (l0_1 : List Int) (r1 : Int) (r2 : List Int) (w : World) (hr0_1 : Kd.C (Kd.int .i64) w A0_1 l0_1.length l0_1) (hc0_1 : l0_1.length ≤ c0_1) (h : laws_toComplex.f k a0_0 l0_1 = some (r1, r2)) :
  Calls Try.prog 15 #[.agg #[.int .i64 a0_0, .slice A0_1 l0_1.length c0_1]] w fun e w' => ∃ v1_ : Value, e = .returned (.agg #[.int .i64 r1, v1_]) ∧ Kd.R (Kd.int .i64) 2 w' w.heap.size (fun _ => True) v1_ r2 ∧ Below w.heap.size w w' := by
 have hu24 := Try.underlying24
 have hu28 := Try.underlying28
 have HR0_1 := Aside0.mk hr0_1
 have HC0_1 := Aside0.mk hc0_1
 clear hr0_1 hc0_1
 have HB := Aside0.mk (Below.refl w.heap.size w)
 have H : ((laws_toInt64S.f k l0_1).bind fun t111 => (some (a0_0, t111))) = some (r1, r2) := h
 clear h
 replace H := Option.bind_eq_some_iff.mp H
 obtain ⟨t111, A20, H⟩ := H
 try dsimp only at H
 have A2 := Aside0.mk A20
 clear A20
 simp only [Option.some.injEq, Prod.mk.injEq] at H
 obtain ⟨rfl, rfl⟩ := H
 go_enter Try.func15, Try.ntmps15
 go_wp2_with (first | ((with_reducible refine gate_dst (N := 1) rfl ?_); refine box_event ?hg (N := 1) ?hd (cs := #[.int .i64 a0_0, .slice A0_1 l0_1.length c0_1]) (t := 24) ?hr ?_; (case hd => rfl); (case hg => rfl); (case hr => first | (go_simp; done) | (go_simp; rfl)); intro gb108 hg w3 hbox hb; have BK108 := Aside0.mk (hbox); have GW108 := gH HB hg; have GE108 := gH HB hg; replace HB := sH HB hb; clear hb hbox hg) | ((with_reducible refine gate_dst (N := 2) rfl ?_); refine box_event ?hg (N := 2) ?hd (cs := #[.int .i64 0, .slice none 0 0]) (t := 28) ?hr ?_; (case hd => rfl); (case hg => rfl); (case hr => first | (go_simp; done) | (go_simp; rfl)); intro gb109 hg w4 hbox hb; have BK109 := Aside0.mk (hbox); have GW109 := gH HB hg; have GE109 := gH HB hg; replace HB := sH HB hb; have NB108_109 := nB BK108 hg; have NB109_108 := oB BK108 hg; replace BK108 := sB BK108 hb; clear hb hbox hg) | ((with_reducible refine gate_dst (N := 3) rfl ?_); refine box_event ?hg (N := 3) ?hd (cs := #[.int .i64 0, .slice none 0 0]) (t := 28) ?hr ?_; (case hd => rfl); (case hg => rfl); (case hr => first | (go_simp; done) | (go_simp; rfl)); intro gb110 hg w5 hbox hb; have BK110 := Aside0.mk (hbox); have GW110 := gH HB hg; have GE110 := gH HB hg; replace HB := sH HB hb; have NB108_110 := nB BK108 hg; have NB110_108 := oB BK108 hg; replace BK108 := sB BK108 hb; have NB109_110 := nB BK109 hg; have NB110_109 := oB BK109 hg; replace BK109 := sB BK109 hb; clear hb hbox hg; (try have hnb6 := NB108_109.out); (try have hnc6 := NB109_108.out); (try have hnb7 := NB108_110.out); (try have hnc7 := NB110_108.out); have hcz8_0 : w5.cell? ⟨gb108, 0, none⟩ = some (.int .i64 a0_0) := cB BK108 0; have hcz8_1 : w5.cell? ⟨gb108, 1, none⟩ = some (.slice A0_1 l0_1.length c0_1) := cB BK108 1; have hfz8_0 := zB BK108 0; have hfz8_1 := zB BK108 1; (try have hnb9 := NB110_109.out); (try have hnc9 := NB109_110.out); have hcz10_0 : w5.cell? ⟨gb110, 0, none⟩ = some (.int .i64 0) := cB BK110 0; have hcz10_1 : w5.cell? ⟨gb110, 1, none⟩ = some (.slice none 0 0) := cB BK110 1; have hfz10_0 := zB BK110 0; have hfz10_1 := zB BK110 1) | ((with_reducible refine gate_callee (f := 16) rfl ?_); refine cl_ (some 9) Try.func16 #[.slice A0_1 l0_1.length c0_1] ?_; (with_reducible refine (laws_toInt64S.calls k _ _ l0_1 t111 _ ?side1 ?side2 A2.out).mono ?_); (case side1 => exact Kd.C_below HR0_1.out (pH HB)); (case side2 => exact HC0_1.out); rintro e w11 ⟨v112, rfl, ho0, hb⟩; refine ⟨_, rfl, ?_⟩; have n0_ := Aside0.mk (Kd.R_lower ho0 (below_size (pH HB))); have n1_ := Aside0.mk (blk_below (g := gb108) (o := .cells #[.int .i64 a0_0, .slice A0_1 l0_1.length c0_1] 24 (0, 0)) (by (with_reducible repeat (first | refine blk_drewN ?_ _ | refine blk_drew ?_ | refine blk_alloc ?_ _)); refine blk_far ?_ NB108_110.out _; (with_reducible repeat (first | refine blk_drewN ?_ _ | refine blk_drew ?_ | refine blk_alloc ?_ _)); exact BK108.out) hb); have n2_ := Aside0.mk (blk_below (g := gb109) (o := .cells #[.int .i64 0, .slice none 0 0] 28 (0, 0)) (by (with_reducible repeat (first | refine blk_drewN ?_ _ | refine blk_drew ?_ | refine blk_alloc ?_ _)); refine blk_far ?_ NB109_110.out _; (with_reducible repeat (first | refine blk_drewN ?_ _ | refine blk_drew ?_ | refine blk_alloc ?_ _)); exact BK109.out) hb); have n3_ := Aside0.mk (blk_below (g := gb110) (o := .cells #[.int .i64 a0_0, .slice none 0 0] 28 (0, 0)) (by (with_reducible repeat (first | refine blk_drewN ?_ _ | refine blk_drew ?_ | refine blk_alloc ?_ _)); refine blk_put (cs := #[.int .i64 0, .slice none 0 0]) ?_ 0 _ rfl; (with_reducible repeat (first | refine blk_drewN ?_ _ | refine blk_drew ?_ | refine blk_alloc ?_ _)); exact BK110.out) hb); have n4_ := sH HB hb; clear BK108; clear BK109; clear BK110; clear HB; have HO113 := n0_; have BK108 := n1_; have BK109 := n2_; have BK110 := n3_; have HB := n4_; clear n0_ n1_ n2_ n3_ n4_; (try clear hb); (try clear hi); (try clear ho0); obtain ⟨Ao12, co12, eo12⟩ := Kd.R_slice HO113.out; subst eo12; have hcz13_0 : w11.cell? ⟨gb110, 0, none⟩ = some (.int .i64 a0_0) := cB BK110 0; have hcz13_1 : w11.cell? ⟨gb110, 1, none⟩ = some (.slice none 0 0) := cB BK110 1; have hfz13_0 := zB BK110 0; have hfz13_1 := zB BK110 1; have hcz14_0 : w11.cell? ⟨gb109, 0, none⟩ = some (.int .i64 0) := cB BK109 0; have hcz14_1 : w11.cell? ⟨gb109, 1, none⟩ = some (.slice none 0 0) := cB BK109 1; have hfz14_0 := zB BK109 0; have hfz14_1 := zB BK109 1))
 refine bodyPost_ret (results_cell_row rfl _ _ gb109 28 #[.int .i64 a0_0, .slice Ao12 t111.length co12] (0, 0) _ rfl (by (with_reducible repeat (first | refine blk_drewN ?_ _ | refine blk_drew ?_ | refine blk_alloc ?_ _)); refine blk_put (cs := #[.int .i64 a0_0, .slice none 0 0]) ?_ 1 _ rfl; (with_reducible repeat (first | refine blk_drewN ?_ _ | refine blk_drew ?_ | refine blk_alloc ?_ _)); refine blk_put (cs := #[.int .i64 0, .slice none 0 0]) ?_ 0 _ rfl; (with_reducible repeat (first | refine blk_drewN ?_ _ | refine blk_drew ?_ | refine blk_alloc ?_ _)); refine blk_far ?_ NB109_110.out _; (with_reducible repeat (first | refine blk_drewN ?_ _ | refine blk_drew ?_ | refine blk_alloc ?_ _)); exact BK109.out) Try.underlying28 rfl (by kernel_rfl)) rfl ?_
 exact ⟨_, by first | rfl | (simp [errW_none, errW_some] <;> rfl) | (simp [*, errW_none, errW_some] <;> rfl) | (exfalso; simp_all), by (with_reducible repeat (first | apply Kd.R_alloc | apply Kd.R_drewN | apply Kd.R_drew)); exact Kd.R_mono (Kd.R_far (p := ⟨gb109, 1, none⟩) (Kd.R_far (p := ⟨gb109, 0, none⟩) (Kd.R_far (p := ⟨gb110, 1, none⟩) (Kd.R_types (Kd.R_types HO113.out BK110.out (by decide)) BK109.out (by decide)) (fun _ hk => hk.1.2) (.slice Ao12 t111.length co12)) (fun _ hk => hk.2) (.int .i64 a0_0)) (fun _ hk => hk.2) (.slice Ao12 t111.length co12)) (fun _ hk => trivial), pH HB⟩
end Go.Proofs.Ytomdfjohnmikdaa.QS
namespace Go.Proofs.Ytomdfjohnmikdaa.QS
open Go.Proofs.Ytomdfjohnmikdaa.Cw Go.Proofs.Ytomdfjohnmikdaa.Kp Go.Proofs.Ytomdfjohnmikdaa.Ext Go.RowKit Go.Proofs.YtomdfjohnmikdaaW.PrintWords Go.Proofs.YtomdfjohnmikdaaW.PrintLast Go.Proofs.YtomdfjohnmikdaaW.PrintMore
attribute [local go_sem] max2_int min2_int max_two min_two max_three min_three max_four min_four   -- for this text's walks alone
set_option linter.unusedVariables false
set_option linter.unusedSimpArgs false
def laws_eqInt64S.l0 : Nat → List Int → List Int → Int → Option (Bool)
 | 0, _, _, _ => none
 | k + 1, x0, x1, x5 => if x5 < (x0.length : Int) then (if 0 ≤ x5 then (if x5 < (x1.length : Int) then (if (rd x0 x5) = (rd x1 x5) then (laws_eqInt64S.l0 k x0 x1 (wrap64 (x5 + 1))) else (some false)) else (none)) else (none)) else (some true)
def laws_eqInt64S.f (k : Nat) (l0 : List Int) (l1 : List Int) : Option (Bool) := if (l0.length : Int) = (l1.length : Int) then (laws_eqInt64S.l0 k l0 l1 0) else (some false)
set_option maxHeartbeats 8000000 in
set_option maxRecDepth 100000 in
theorem laws_eqInt64S.calls (k : Nat) (A0 : Option Addr) (c0 : Nat) (l0 : List Int) (A1 : Option Addr) (c1 : Nat) (l1 : List Int) (r : Bool) (w : World) (hr0 : Kd.C (Kd.int .i64) w A0 l0.length l0) (hc0 : l0.length ≤ c0) (hr1 : Kd.C (Kd.int .i64) w A1 l1.length l1) (hc1 : l1.length ≤ c1) (h : laws_eqInt64S.f k l0 l1 = some r) :
  Calls Try.prog 18 #[.slice A0 l0.length c0, .slice A1 l1.length c1] w fun e w' => e = .returned (.bool r) ∧ Drawn0 w w' := by
 have HR0 := Aside0.mk hr0
 have HC0 := Aside0.mk hc0
 clear hr0 hc0
 have HR1 := Aside0.mk hr1
 have HC1 := Aside0.mk hc1
 clear hr1 hc1
 have H : (if (l0.length : Int) = (l1.length : Int) then (laws_eqInt64S.l0 k l0 l1 0) else (some false)) = some r := h
 clear h
 by_cases c3 : (l0.length : Int) = (l1.length : Int)
 ·rw [if_pos c3] at H
  have c3b0 : ((l0.length : Int) == (l1.length : Int)) = true := beq_iff_eq.mpr c3
  have c3b1 : ((l0.length : Int) != (l1.length : Int)) = false := bne_eq_false_iff_eq.mpr c3
  have c3b2 : (l0.length == l1.length) = true := by first | simpa using c3 | (simp at c3 ⊢; omega)
  clear c3
  have H' := Aside0.mk H
  clear H
  go_enter Try.func18, Try.ntmps18
  go_wp2
  repeat (go_quiet (fail); try go_wp2)
  go_loopg [5] k (fun kq v5 w' => ∃ (x5_1 : Int), v5 = .int .i64 x5_1 ∧ Aside0 (laws_eqInt64S.l0 kq l0 l1 x5_1 = some r) ∧ Aside0 (kq ≤ k) ∧ Drawn0 w w')
  case atStart => exact ⟨(0), (by first | rfl | (simp; done) | (simp [*]; done)), H', ⟨Nat.le_refl _⟩, by repeat (first | exact Drawn0.refl _ | apply Drawn0.step)⟩
  case round =>
   clear H'
   try clear c1
   try clear p2
   try clear c3
   try clear c3b0
   try clear c3b1
   try clear c3b2
   obtain ⟨x5_1, rfl, HA, HK1, ⟨m1, rfl⟩⟩ := hrel
   cases gk with
   | zero => exact absurd HA.out (by simp [laws_eqInt64S.l0])
   | succ k1 =>
    have H := HA.out
    clear HA
    simp only [laws_eqInt64S.l0] at H
    by_cases c4 : x5_1 < (l0.length : Int)
    ·rw [if_pos c4] at H
     have c4b0 : decide (x5_1 < (l0.length : Int)) = true := decide_eq_true c4
     clear c4
     by_cases c5 : 0 ≤ x5_1
     ·rw [if_pos c5] at H
      have c5b0 : decide (0 ≤ x5_1) = true := decide_eq_true c5
      clear c5
      by_cases c6 : x5_1 < (l1.length : Int)
      ·rw [if_pos c6] at H
       have c6b0 : decide (x5_1 < (l1.length : Int)) = true := decide_eq_true c6
       clear c6
       by_cases c7 : (rd l0 x5_1) = (rd l1 x5_1)
       ·rw [if_pos c7] at H
        have c7b0 : ((rd l0 x5_1) == (rd l1 x5_1)) = true := beq_iff_eq.mpr c7
        have c7b1 : ((rd l0 x5_1) != (rd l1 x5_1)) = false := bne_eq_false_iff_eq.mpr c7
        clear c7
        have H' := Aside0.mk H
        clear H
        have p114 : 0 ≤ (x5_1 : Int) := of_decide_eq_true (by first | (with_reducible assumption) | assumption)
        have q114 : x5_1 < (l0.length : Int) := of_decide_eq_true (by first | (with_reducible assumption) | assumption)
        obtain ⟨ad114, e114, hx114_0⟩ := Kd.at_int HR0.out x5_1 p114 q114
        cases e114
        replace p114 := eq_true p114
        replace q114 := eq_true q114
        have p115 : 0 ≤ (x5_1 : Int) := of_decide_eq_true (by first | (with_reducible assumption) | assumption)
        have q115 : x5_1 < (l1.length : Int) := of_decide_eq_true (by first | (with_reducible assumption) | assumption)
        obtain ⟨ad115, e115, hx115_0⟩ := Kd.at_int HR1.out x5_1 p115 q115
        cases e115
        replace p115 := eq_true p115
        replace q115 := eq_true q115
        go_wp2
        repeat (go_quiet (fail); try go_wp2)
        go_roundg k1
        case measure => have := HK1.out; omega
        case rel => exact ⟨(wrap64 (x5_1 + 1)), (by first | rfl | (simp; done) | (simp [*]; done)), H', ⟨by have := HK1.out; omega⟩, by repeat (first | exact Drawn0.refl _ | apply Drawn0.step)⟩
       ·rw [if_neg c7] at H
        have c7b0 : ((rd l0 x5_1) == (rd l1 x5_1)) = false := beq_eq_false_iff_ne.mpr c7
        have c7b1 : ((rd l0 x5_1) != (rd l1 x5_1)) = true := bne_iff_ne.mpr c7
        obtain rfl := Option.some.inj H
        have p114 : 0 ≤ (x5_1 : Int) := of_decide_eq_true (by first | (with_reducible assumption) | assumption)
        have q114 : x5_1 < (l0.length : Int) := of_decide_eq_true (by first | (with_reducible assumption) | assumption)
        obtain ⟨ad114, e114, hx114_0⟩ := Kd.at_int HR0.out x5_1 p114 q114
        cases e114
        replace p114 := eq_true p114
        replace q114 := eq_true q114
        have p115 : 0 ≤ (x5_1 : Int) := of_decide_eq_true (by first | (with_reducible assumption) | assumption)
        have q115 : x5_1 < (l1.length : Int) := of_decide_eq_true (by first | (with_reducible assumption) | assumption)
        obtain ⟨ad115, e115, hx115_0⟩ := Kd.at_int HR1.out x5_1 p115 q115
        cases e115
        replace p115 := eq_true p115
        replace q115 := eq_true q115
        go_wp2
        repeat (go_quiet (fail); try go_wp2)
        go_ret
        exact ⟨by first | rfl | (simp; done) | (simp [*]; done), by repeat (first | exact Drawn0.refl _ | apply Drawn0.step)⟩
      ·rw [if_neg c6] at H
       exact absurd H (by simp)
     ·rw [if_neg c5] at H
      exact absurd H (by simp)
    ·rw [if_neg c4] at H
     have c4b0 : decide (x5_1 < (l0.length : Int)) = false := decide_eq_false c4
     clear c4
     obtain rfl := Option.some.inj H
     go_wp2
     repeat (go_quiet (fail); try go_wp2)
     go_ret
     exact ⟨by first | rfl | (simp; done) | (simp [*]; done), by repeat (first | exact Drawn0.refl _ | apply Drawn0.step)⟩
 ·rw [if_neg c3] at H
  have c3b0 : ((l0.length : Int) == (l1.length : Int)) = false := beq_eq_false_iff_ne.mpr c3
  have c3b1 : ((l0.length : Int) != (l1.length : Int)) = true := bne_iff_ne.mpr c3
  have c3b2 : (l0.length == l1.length) = false := by first | simpa using c3 | (simp at c3 ⊢; omega)
  obtain rfl := Option.some.inj H
  go_enter Try.func18, Try.ntmps18
  go_wp2
  repeat (go_quiet (fail); try go_wp2)
  go_ret
  exact ⟨by first | rfl | (simp; done) | (simp [*]; done), by repeat (first | exact Drawn0.refl _ | apply Drawn0.step)⟩
end Go.Proofs.Ytomdfjohnmikdaa.QS
namespace Go.Proofs.Ytomdfjohnmikdaa.QS
open Go.Proofs.Ytomdfjohnmikdaa.Cw Go.Proofs.Ytomdfjohnmikdaa.Kp Go.Proofs.Ytomdfjohnmikdaa.Ext Go.RowKit Go.Proofs.YtomdfjohnmikdaaW.PrintWords Go.Proofs.YtomdfjohnmikdaaW.PrintLast Go.Proofs.YtomdfjohnmikdaaW.PrintMore
attribute [local go_sem] max2_int min2_int max_two min_two max_three min_three max_four min_four   -- for this text's walks alone
set_option linter.unusedVariables false
set_option linter.unusedSimpArgs false
def laws_eqComplex.f (k : Nat) (a0_0 : Int) (l0_1 : List Int) (a1_0 : Int) (l1_1 : List Int) : Option (Bool) := if a0_0 = a1_0 then ((laws_eqInt64S.f k l0_1 l1_1).bind fun t118 => (if t118 = true then (some true) else (some false))) else (some false)
set_option maxHeartbeats 8000000 in
set_option maxRecDepth 100000 in
theorem laws_eqComplex.calls (k : Nat) (a0_0 : Int) (A0_1 : Option Addr) (c0_1 : Nat) (l0_1 : List Int) (a1_0 : Int) (A1_1 : Option Addr) (c1_1 : Nat) (l1_1 : List Int) (r : Bool) (w : World) (hr0_1 : Kd.C (Kd.int .i64) w A0_1 l0_1.length l0_1) (hc0_1 : l0_1.length ≤ c0_1) (hr1_1 : Kd.C (Kd.int .i64) w A1_1 l1_1.length l1_1) (hc1_1 : l1_1.length ≤ c1_1) (h : laws_eqComplex.f k a0_0 l0_1 a1_0 l1_1 = some r) :
  Calls Try.prog 19 #[.agg #[.int .i64 a0_0, .slice A0_1 l0_1.length c0_1], .agg #[.int .i64 a1_0, .slice A1_1 l1_1.length c1_1]] w fun e w' => e = .returned (.bool r) ∧ Below w.heap.size w w' := by
 have hu28 := Try.underlying28
 have HR0_1 := Aside0.mk hr0_1
 have HC0_1 := Aside0.mk hc0_1
 clear hr0_1 hc0_1
 have HR1_1 := Aside0.mk hr1_1
 have HC1_1 := Aside0.mk hc1_1
 clear hr1_1 hc1_1
 have HB := Aside0.mk (Below.refl w.heap.size w)
 have H : (if a0_0 = a1_0 then ((laws_eqInt64S.f k l0_1 l1_1).bind fun t118 => (if t118 = true then (some true) else (some false))) else (some false)) = some r := h
 clear h
 by_cases c3 : a0_0 = a1_0
 ·rw [if_pos c3] at H
  have c3b0 : (a0_0 == a1_0) = true := beq_iff_eq.mpr c3
  have c3b1 : (a0_0 != a1_0) = false := bne_eq_false_iff_eq.mpr c3
  clear c3
  replace H := Option.bind_eq_some_iff.mp H
  obtain ⟨t118, A40, H⟩ := H
  try dsimp only at H
  have A4 := Aside0.mk A40
  clear A40
  by_cases c5 : t118 = true
  ·subst c5
   have H1 : (some true) = some r := by rw [if_pos rfl] at H; exact H
   clear H
   have H := H1
   clear H1
   obtain rfl := Option.some.inj H
   go_enter Try.func19, Try.ntmps19
   go_wp2_with (first | ((with_reducible refine gate_dst (N := 2) rfl ?_); refine box_event ?hg (N := 2) ?hd (cs := #[.int .i64 a0_0, .slice A0_1 l0_1.length c0_1]) (t := 28) ?hr ?_; (case hd => rfl); (case hg => rfl); (case hr => first | (go_simp; done) | (go_simp; rfl)); intro gb116 hg w6 hbox hb; have BK116 := Aside0.mk (hbox); have GW116 := gH HB hg; have GE116 := gH HB hg; replace HB := sH HB hb; clear hb hbox hg) | ((with_reducible refine gate_dst (N := 3) rfl ?_); refine box_event ?hg (N := 3) ?hd (cs := #[.int .i64 a1_0, .slice A1_1 l1_1.length c1_1]) (t := 28) ?hr ?_; (case hd => rfl); (case hg => rfl); (case hr => first | (go_simp; done) | (go_simp; rfl)); intro gb117 hg w7 hbox hb; have BK117 := Aside0.mk (hbox); have GW117 := gH HB hg; have GE117 := gH HB hg; replace HB := sH HB hb; have NB116_117 := nB BK116 hg; have NB117_116 := oB BK116 hg; replace BK116 := sB BK116 hb; clear hb hbox hg; (try have hnb8 := NB116_117.out); (try have hnc8 := NB117_116.out); have hcz9_0 : w7.cell? ⟨gb116, 0, none⟩ = some (.int .i64 a0_0) := cB BK116 0; have hcz9_1 : w7.cell? ⟨gb116, 1, none⟩ = some (.slice A0_1 l0_1.length c0_1) := cB BK116 1; have hfz9_0 := zB BK116 0; have hfz9_1 := zB BK116 1; have hcz10_0 : w7.cell? ⟨gb117, 0, none⟩ = some (.int .i64 a1_0) := cB BK117 0; have hcz10_1 : w7.cell? ⟨gb117, 1, none⟩ = some (.slice A1_1 l1_1.length c1_1) := cB BK117 1; have hfz10_0 := zB BK117 0; have hfz10_1 := zB BK117 1) | ((with_reducible refine gate_callee (f := 18) rfl ?_); refine cl_ (some 14) Try.func18 #[.slice A0_1 l0_1.length c0_1, .slice A1_1 l1_1.length c1_1] ?_; (with_reducible refine (laws_eqInt64S.calls k _ _ l0_1 _ _ l1_1 true _ ?side1 ?side2 ?side3 ?side4 A4.out).mono ?_); (case side1 => exact pC ((Kd.C_below HR0_1.out HB.out))); (case side2 => exact HC0_1.out); (case side3 => exact pC ((Kd.C_below HR1_1.out HB.out))); (case side4 => exact HC1_1.out); rintro e w' ⟨rfl, ⟨nd, rfl⟩⟩; refine ⟨_, rfl, ?_⟩))
   go_ret
   exact ⟨by first | rfl | (simp [errW_none, errW_some] <;> rfl) | (simp [*, errW_none, errW_some] <;> rfl) | (exfalso; simp_all), pH HB⟩
  ·replace c5 := Bool.eq_false_iff.mpr c5
   subst c5
   have H1 : (some false) = some r := by rw [if_neg (show ¬ (false = true) by decide)] at H; exact H
   clear H
   have H := H1
   clear H1
   obtain rfl := Option.some.inj H
   go_enter Try.func19, Try.ntmps19
   go_wp2_with (first | ((with_reducible refine gate_dst (N := 2) rfl ?_); refine box_event ?hg (N := 2) ?hd (cs := #[.int .i64 a0_0, .slice A0_1 l0_1.length c0_1]) (t := 28) ?hr ?_; (case hd => rfl); (case hg => rfl); (case hr => first | (go_simp; done) | (go_simp; rfl)); intro gb116 hg w11 hbox hb; have BK116 := Aside0.mk (hbox); have GW116 := gH HB hg; have GE116 := gH HB hg; replace HB := sH HB hb; clear hb hbox hg) | ((with_reducible refine gate_dst (N := 3) rfl ?_); refine box_event ?hg (N := 3) ?hd (cs := #[.int .i64 a1_0, .slice A1_1 l1_1.length c1_1]) (t := 28) ?hr ?_; (case hd => rfl); (case hg => rfl); (case hr => first | (go_simp; done) | (go_simp; rfl)); intro gb117 hg w12 hbox hb; have BK117 := Aside0.mk (hbox); have GW117 := gH HB hg; have GE117 := gH HB hg; replace HB := sH HB hb; have NB116_117 := nB BK116 hg; have NB117_116 := oB BK116 hg; replace BK116 := sB BK116 hb; clear hb hbox hg; (try have hnb13 := NB116_117.out); (try have hnc13 := NB117_116.out); have hcz14_0 : w12.cell? ⟨gb116, 0, none⟩ = some (.int .i64 a0_0) := cB BK116 0; have hcz14_1 : w12.cell? ⟨gb116, 1, none⟩ = some (.slice A0_1 l0_1.length c0_1) := cB BK116 1; have hfz14_0 := zB BK116 0; have hfz14_1 := zB BK116 1; have hcz15_0 : w12.cell? ⟨gb117, 0, none⟩ = some (.int .i64 a1_0) := cB BK117 0; have hcz15_1 : w12.cell? ⟨gb117, 1, none⟩ = some (.slice A1_1 l1_1.length c1_1) := cB BK117 1; have hfz15_0 := zB BK117 0; have hfz15_1 := zB BK117 1) | ((with_reducible refine gate_callee (f := 18) rfl ?_); refine cl_ (some 14) Try.func18 #[.slice A0_1 l0_1.length c0_1, .slice A1_1 l1_1.length c1_1] ?_; (with_reducible refine (laws_eqInt64S.calls k _ _ l0_1 _ _ l1_1 false _ ?side1 ?side2 ?side3 ?side4 A4.out).mono ?_); (case side1 => exact pC ((Kd.C_below HR0_1.out HB.out))); (case side2 => exact HC0_1.out); (case side3 => exact pC ((Kd.C_below HR1_1.out HB.out))); (case side4 => exact HC1_1.out); rintro e w' ⟨rfl, ⟨nd, rfl⟩⟩; refine ⟨_, rfl, ?_⟩))
   go_ret
   exact ⟨by first | rfl | (simp [errW_none, errW_some] <;> rfl) | (simp [*, errW_none, errW_some] <;> rfl) | (exfalso; simp_all), pH HB⟩
 ·rw [if_neg c3] at H
  have c3b0 : (a0_0 == a1_0) = false := beq_eq_false_iff_ne.mpr c3
  have c3b1 : (a0_0 != a1_0) = true := bne_iff_ne.mpr c3
  obtain rfl := Option.some.inj H
  go_enter Try.func19, Try.ntmps19
  go_wp2_with (first | ((with_reducible refine gate_dst (N := 2) rfl ?_); refine box_event ?hg (N := 2) ?hd (cs := #[.int .i64 a0_0, .slice A0_1 l0_1.length c0_1]) (t := 28) ?hr ?_; (case hd => rfl); (case hg => rfl); (case hr => first | (go_simp; done) | (go_simp; rfl)); intro gb116 hg w16 hbox hb; have BK116 := Aside0.mk (hbox); have GW116 := gH HB hg; have GE116 := gH HB hg; replace HB := sH HB hb; clear hb hbox hg) | ((with_reducible refine gate_dst (N := 3) rfl ?_); refine box_event ?hg (N := 3) ?hd (cs := #[.int .i64 a1_0, .slice A1_1 l1_1.length c1_1]) (t := 28) ?hr ?_; (case hd => rfl); (case hg => rfl); (case hr => first | (go_simp; done) | (go_simp; rfl)); intro gb117 hg w17 hbox hb; have BK117 := Aside0.mk (hbox); have GW117 := gH HB hg; have GE117 := gH HB hg; replace HB := sH HB hb; have NB116_117 := nB BK116 hg; have NB117_116 := oB BK116 hg; replace BK116 := sB BK116 hb; clear hb hbox hg; (try have hnb18 := NB116_117.out); (try have hnc18 := NB117_116.out); have hcz19_0 : w17.cell? ⟨gb116, 0, none⟩ = some (.int .i64 a0_0) := cB BK116 0; have hcz19_1 : w17.cell? ⟨gb116, 1, none⟩ = some (.slice A0_1 l0_1.length c0_1) := cB BK116 1; have hfz19_0 := zB BK116 0; have hfz19_1 := zB BK116 1; have hcz20_0 : w17.cell? ⟨gb117, 0, none⟩ = some (.int .i64 a1_0) := cB BK117 0; have hcz20_1 : w17.cell? ⟨gb117, 1, none⟩ = some (.slice A1_1 l1_1.length c1_1) := cB BK117 1; have hfz20_0 := zB BK117 0; have hfz20_1 := zB BK117 1))
  go_ret
  exact ⟨by first | rfl | (simp [errW_none, errW_some] <;> rfl) | (simp [*, errW_none, errW_some] <;> rfl) | (exfalso; simp_all), pH HB⟩
end Go.Proofs.Ytomdfjohnmikdaa.QS
namespace Go.Proofs.Ytomdfjohnmikdaa.QS
open Go.Proofs.Ytomdfjohnmikdaa.Cw Go.Proofs.Ytomdfjohnmikdaa.Kp Go.Proofs.Ytomdfjohnmikdaa.Ext Go.RowKit Go.Proofs.YtomdfjohnmikdaaW.PrintWords Go.Proofs.YtomdfjohnmikdaaW.PrintLast Go.Proofs.YtomdfjohnmikdaaW.PrintMore
attribute [local go_sem] max2_int min2_int max_two min_two max_three min_three max_four min_four   -- for this text's walks alone
set_option linter.unusedVariables false
set_option linter.unusedSimpArgs false
def laws_markInt64S.l0 : Nat → List Int → Int → Int → Option (Int × List Int)
 | 0, _, _, _ => none
 | k + 1, x0, x1, x5 => if x5 < (x0.length : Int) then (if 0 ≤ x5 then (laws_markInt64S.l0 k (x0.set (x5 : Int).toNat x1) (wrap64 (x1 + 1)) (wrap64 (x5 + 1))) else (none)) else (some (x1, x0))
def laws_markInt64S.f (k : Nat) (l0 : List Int) (a1 : Int) : Option (Int × List Int) := laws_markInt64S.l0 k l0 a1 0
set_option maxHeartbeats 8000000 in
set_option maxRecDepth 100000 in
theorem laws_markInt64S.calls (k : Nat) (P0_ : Nat → Prop) (u9000_ : Value) (l0 : List Int) (a1 : Int) (r1 : Int) (r2 : List Int) (w0 w : World) (hB : Below w0.heap.size w0 w) (ho0 : Kd.R (Kd.int .i64) 2 w w0.heap.size P0_ u9000_ l0) (h : laws_markInt64S.f k l0 a1 = some (r1, r2)) :
  Calls Try.prog 21 #[u9000_, .int .i64 a1] w fun e w' => e = .returned (.int .i64 r1) ∧ Kd.R (Kd.int .i64) 2 w' w0.heap.size (fun k_ => (P0_ k_ ∨ w.heap.size ≤ k_)) u9000_ r2 ∧ Below w0.heap.size w0 w' ∧ Kept w w' (fun k_ => P0_ k_) := by
 have HO0 := Aside0.mk (show Kd.R (Kd.int .i64) 2 w w0.heap.size (fun k_ => (P0_ k_ ∨ w.heap.size ≤ k_)) u9000_ l0 from Kd.R_mono ho0 (fun k_ hk => (.inl hk)))
 have HK := Aside0.mk (Kept.refl w (fun k_ => P0_ k_))
 have HW0 := Aside0.mk hB.size
 have HB := Aside0.mk hB
 clear hB
 have H : (laws_markInt64S.l0 k l0 a1 0) = some (r1, r2) := h
 clear h
 have H' := Aside0.mk H
 clear H
 go_enter Try.func21, Try.ntmps21
 go_wp2
 go_loopg [1, 5] k (fun kq v1 v5 w' => ∃ (x0_1 : List Int) (x1_1 : Int) (x5_1 : Int), v1 = .int .i64 x1_1 ∧ v5 = .int .i64 x5_1 ∧ Aside0 (laws_markInt64S.l0 kq x0_1 x1_1 x5_1 = some (r1, r2)) ∧ Aside0 (kq ≤ k) ∧ Aside0 (Kd.R (Kd.int .i64) 2 w' w0.heap.size (fun k_ => (P0_ k_ ∨ w.heap.size ≤ k_)) u9000_ x0_1) ∧ Aside0 (Kept w w' (fun k_ => P0_ k_)) ∧ Aside0 (Below w0.heap.size w0 w'))
 case atStart => exact ⟨(l0), (a1), (0), (by first | rfl | (simp; done) | (simp [*]; done)), (by first | rfl | (simp; done) | (simp [*]; done)), H', ⟨Nat.le_refl _⟩, ⟨by (with_reducible repeat (first | apply Kd.R_alloc | apply Kd.R_drewN | apply Kd.R_drew)); exact HO0.out⟩, ⟨by repeat (first | (with_reducible first | exact HK.out | apply Kept.alloc | apply Kept.drewN | apply Kept.drew) | exact HK.out)⟩, ⟨pH HB⟩⟩
 case round =>
  clear H'
  try clear c2
  try clear p2
  obtain ⟨x0_1, x1_1, x5_1, rfl, rfl, HA, HK1, HO_0, HK, HB⟩ := hrel
  cases gk with
  | zero => exact absurd HA.out (by simp [laws_markInt64S.l0])
  | succ k1 =>
   have H := HA.out
   clear HA
   simp only [laws_markInt64S.l0] at H
   by_cases c3 : x5_1 < (x0_1.length : Int)
   ·rw [if_pos c3] at H
    have c3b0 : decide (x5_1 < (x0_1.length : Int)) = true := decide_eq_true c3
    clear c3
    by_cases c4 : 0 ≤ x5_1
    ·rw [if_pos c4] at H
     have c4b0 : decide (0 ≤ x5_1) = true := decide_eq_true c4
     clear c4
     obtain ⟨y119, hy119⟩ : ∃ y_ : List Int, y_ = (x0_1.set (x5_1 : Int).toNat x1_1) := ⟨_, rfl⟩
     replace H : (laws_markInt64S.l0 k1 y119 (wrap64 (x1_1 + 1)) (wrap64 (x5_1 + 1))) = some (r1, r2) := by first | (rw [hy119]; with_reducible exact H) | (have H2_ := (Option.bind_some _ _).symm.trans H; rw [hy119]; with_reducible exact H2_) | (have H2_ := (Option.bind_some _ _).symm.trans H; with_reducible exact H2_) | with_reducible exact H | (rw [hy119]; exact H) | exact H
     have Ny119 := Aside0.mk hy119
     clear hy119
     have H' := Aside0.mk H
     clear H
     obtain ⟨Ao6, co6, eo6⟩ := Kd.R_slice HO_0.out
     subst eo6
     have p5 : 0 ≤ (x5_1 : Int) := of_decide_eq_true (by first | (with_reducible assumption) | assumption)
     have q5 : (x5_1 : Int) < ((x0_1.length : Int) : Int) := of_decide_eq_true (by first | (with_reducible assumption) | assumption)
     obtain ⟨go5, co5, eo5, gb5, gl5, cl5, HG5⟩ := Kd.R_form HO_0.out (by omega)
     (first | cases eo5 | (injection eo5 with ea_ en_ ec_; (first | subst ea_ | (injection ea_ with ea_; subst ea_)); subst ec_; clear en_))
     have GB5 := Aside0.mk gb5
     have GG5 := Aside0.mk HG5
     clear gb5 gl5 HG5
     have HMgo5 := Aside0.mk (show (P0_ go5 ∨ w.heap.size ≤ go5) from (HO_0.out.1 _ rfl))
     obtain ⟨hx5_0, hf5_0⟩ := Kd.R_celln 0 HO_0.out (x5_1 : Int) p5 q5
     replace p5 := eq_true p5
     replace q5 := eq_true q5
     have HP7 := Kd.R_putg HO_0.out (x5_1 : Int) x1_1
     go_wp2_with (first | ((with_reducible refine gate_store (t := 2) (p := 15) rfl ?_); refine store_event (t := 2) (p := 15) (v := ?vo_w8) (w1 := (wr.setCell ⟨go5, (x5_1 : Int).toNat, none⟩ (.int .i64 x1_1))) ?hg ?ho ?hn ?hr ?_; (case ho => rfl); (case hg => rfl); (case hn => rfl); (case hr => first | (go_simp; done) | (go_simp; rfl)); intro w8 hw; have hg : wr.grownBy w8 (some go5) := (by rw [hw]; exact HP7.2); have hp_ : Kd.R (Kd.int .i64) 2 w8 w0.heap.size (fun k_ => (P0_ k_ ∨ w.heap.size ≤ k_)) (.slice (some ⟨go5, 0, none⟩) x0_1.length co6) y119 := (by rw [hw, Ny119.out]; exact HP7.1); clear HP7; have n0_ := Aside0.mk (hp_); have n1_ := Aside0.mk ((by rw [hw]; exact below_set (HB.out) GB5.out : Below w0.heap.size w0 w8)); have n2_ := Aside0.mk (Kept.of_grown (S := (fun k_ => P0_ k_)) hg (by repeat (first | (with_reducible first | exact HK.out | apply Kept.alloc | apply Kept.drewN | apply Kept.drew) | exact HK.out)) (fun k_ e_ => (HO_0.out.1 k_ e_))); clear HO_0; clear HB; clear HK; have HO_0 := n0_; have HB := n1_; have HK := n2_; clear n0_ n1_ n2_; clear hg hw hp_))
     go_roundg k1
     case measure => have := HK1.out; omega
     case rel => exact ⟨(y119), (wrap64 (x1_1 + 1)), (wrap64 (x5_1 + 1)), (by first | rfl | (simp; done) | (simp [*]; done)), (by first | rfl | (simp; done) | (simp [*]; done)), H', ⟨by have := HK1.out; omega⟩, ⟨by (with_reducible repeat (first | apply Kd.R_alloc | apply Kd.R_drewN | apply Kd.R_drew)); exact HO_0.out⟩, ⟨by repeat (first | (with_reducible first | exact HK.out | apply Kept.alloc | apply Kept.drewN | apply Kept.drew) | exact HK.out)⟩, ⟨pH HB⟩⟩
    ·rw [if_neg c4] at H
     exact absurd H (by simp)
   ·rw [if_neg c3] at H
    have c3b0 : decide (x5_1 < (x0_1.length : Int)) = false := decide_eq_false c3
    clear c3
    simp only [Option.some.injEq, Prod.mk.injEq] at H
    obtain ⟨rfl, rfl⟩ := H
    obtain ⟨Ao9, co9, eo9⟩ := Kd.R_slice HO_0.out
    subst eo9
    go_wp2
    go_ret
    exact ⟨by first | rfl | (simp [errW_none, errW_some] <;> rfl) | (simp [*, errW_none, errW_some] <;> rfl) | (exfalso; simp_all), by (with_reducible repeat (first | apply Kd.R_alloc | apply Kd.R_drewN | apply Kd.R_drew)); exact HO_0.out, by repeat (first | (with_reducible first | exact HB.out | apply below_alloc | apply pw_below_drewN | apply below_drew1) | exact HB.out), by repeat (first | (with_reducible first | exact HK.out | apply Kept.alloc | apply Kept.drewN | apply Kept.drew) | exact HK.out)⟩
end Go.Proofs.Ytomdfjohnmikdaa.QS
namespace Go.Proofs.Ytomdfjohnmikdaa.QS
open Go.Proofs.Ytomdfjohnmikdaa.Cw Go.Proofs.Ytomdfjohnmikdaa.Kp Go.Proofs.Ytomdfjohnmikdaa.Ext Go.RowKit Go.Proofs.YtomdfjohnmikdaaW.PrintWords Go.Proofs.YtomdfjohnmikdaaW.PrintLast Go.Proofs.YtomdfjohnmikdaaW.PrintMore
attribute [local go_sem] max2_int min2_int max_two min_two max_three min_three max_four min_four   -- for this text's walks alone
set_option linter.unusedVariables false
set_option linter.unusedSimpArgs false
def laws_markComplex.f (k : Nat) (a0_0 : Int) (l0_1 : List Int) (a1 : Int) : Option (Int × List Int) := (laws_markInt64S.f k l0_1 a1).bind fun bt121 => (some (bt121.1, bt121.2))
set_option maxHeartbeats 8000000 in
set_option maxRecDepth 100000 in
theorem laws_markComplex.calls (k : Nat) (a0_0 : Int) (P0_1_ : Nat → Prop) (u9000_ : Value) (l0_1 : List Int) (a1 : Int) (r1 : Int) (r2 : List Int) (w0 w : World) (hB : Below w0.heap.size w0 w) (ho0_1 : Kd.R (Kd.int .i64) 2 w w0.heap.size P0_1_ u9000_ l0_1) (h : laws_markComplex.f k a0_0 l0_1 a1 = some (r1, r2)) :
  Calls Try.prog 20 #[.agg #[.int .i64 a0_0, u9000_], .int .i64 a1] w fun e w' => e = .returned (.int .i64 r1) ∧ Kd.R (Kd.int .i64) 2 w' w0.heap.size (fun k_ => (P0_1_ k_ ∨ w.heap.size ≤ k_)) u9000_ r2 ∧ Below w0.heap.size w0 w' ∧ Kept w w' (fun k_ => P0_1_ k_) := by
 have hu28 := Try.underlying28
 have HO0_1 := Aside0.mk (show Kd.R (Kd.int .i64) 2 w w0.heap.size (fun k_ => (P0_1_ k_ ∨ w.heap.size ≤ k_)) u9000_ l0_1 from Kd.R_mono ho0_1 (fun k_ hk => (.inl hk)))
 have HK := Aside0.mk (Kept.refl w (fun k_ => P0_1_ k_))
 have HW0 := Aside0.mk hB.size
 have HB := Aside0.mk hB
 clear hB
 have H : ((laws_markInt64S.f k l0_1 a1).bind fun bt121 => (some (bt121.1, bt121.2))) = some (r1, r2) := h
 clear h
 replace H := Option.bind_eq_some_iff.mp H
 obtain ⟨⟨t121, t122⟩, A30, H⟩ := H
 try dsimp only at H
 have A3 := Aside0.mk A30
 clear A30
 simp only [Option.some.injEq, Prod.mk.injEq] at H
 obtain ⟨rfl, rfl⟩ := H
 obtain ⟨Ao4, co4, eo4⟩ := Kd.R_slice HO0_1.out
 subst eo4
 go_enter Try.func20, Try.ntmps20
 go_wp2_with (first | ((with_reducible refine gate_dst (N := 2) rfl ?_); refine box_event ?hg (N := 2) ?hd (cs := #[.int .i64 a0_0, .slice Ao4 l0_1.length co4]) (t := 28) ?hr ?_; (case hd => rfl); (case hg => rfl); (case hr => first | (go_simp; done) | (go_simp; rfl)); intro gb120 hg w5 hbox hb; have n0_ := sR HO0_1 hb; have n1_ := Aside0.mk (Kept.below (S := (fun k_ => P0_1_ k_)) (by repeat (first | (with_reducible first | exact HK.out | apply Kept.alloc | apply Kept.drewN | apply Kept.drew) | exact HK.out)) hb); have n2_ := sH HB hb; have n3_ := Aside0.mk (hbox); have n4_ := Aside0.mk ((by rw [hg]; exact (by first | exact HK.out.1 | exact (show Kept w _ (fun k_ => P0_1_ k_) from by repeat (first | (with_reducible first | exact HK.out | apply Kept.alloc | apply Kept.drewN | apply Kept.drew) | exact HK.out)).1) : w.heap.size ≤ gb120)); have n5_ := Aside0.mk ((by rw [hg]; exact (below_size (pH HB)) : w0.heap.size ≤ gb120)); clear HO0_1; clear HK; clear HB; have HO0_1 := n0_; have HK := n1_; have HB := n2_; have BK120 := n3_; have GW120 := n4_; have GE120 := n5_; clear n0_ n1_ n2_ n3_ n4_ n5_; clear hb hbox hg; have hcz6_0 : w5.cell? ⟨gb120, 0, none⟩ = some (.int .i64 a0_0) := cB BK120 0; have hcz6_1 : w5.cell? ⟨gb120, 1, none⟩ = some (.slice Ao4 l0_1.length co4) := cB BK120 1; have hfz6_0 := zB BK120 0; have hfz6_1 := zB BK120 1) | ((with_reducible refine gate_callee (f := 21) rfl ?_); refine cl_ (some 8) Try.func21 #[.slice Ao4 l0_1.length co4, .int .i64 a1] ?_; (with_reducible refine (laws_markInt64S.calls k (fun k_ => some k_ = (.slice Ao4 l0_1.length co4 : Value).ownBlock) (.slice Ao4 l0_1.length co4) l0_1 a1 t121 t122 w0 _ ?side1 ?side2 A3.out).mono ?_); (case side1 => repeat (first | (with_reducible first | exact HB.out | apply below_alloc | apply pw_below_drewN | apply below_drew1 | refine below_set ?_ GE120.out) | exact HB.out)); (case side2 => exact Kd.R_tight rfl HO0_1.out); rintro e w7 ⟨rfl, hy0, hb, hkp⟩; refine ⟨_, rfl, ?_⟩; replace BK120 := Aside0.mk (blk_kept (pB BK120) hkp (fun hs_ => (fun e_ => (Kd.R_ne HO0_1.out BK120.out (by decide)) e_) hs_)); replace HK := Aside0.mk (Kept.then_ (S := (fun k_ => P0_1_ k_)) (by repeat (first | (with_reducible first | exact HK.out | apply Kept.alloc | apply Kept.drewN | apply Kept.drew | refine Kept.setCell ?_ (.inr GW120.out) _) | exact HK.out)) hkp (fun k_ hs_ => (fun e_ => (HO0_1.out.1 k_ e_.symm)) hs_)); replace HO0_1 := Aside0.mk (Kd.R_reok rfl hy0 (fun k_ e_ => HO0_1.out.1 k_ e_)); replace HB := Aside0.mk (hb); (try clear hb); (try clear hkp); (try clear hy0)))
 go_ret
 exact ⟨by first | rfl | (simp [errW_none, errW_some] <;> rfl) | (simp [*, errW_none, errW_some] <;> rfl) | (exfalso; simp_all), by (with_reducible repeat (first | apply Kd.R_alloc | apply Kd.R_drewN | apply Kd.R_drew)); exact HO0_1.out, by repeat (first | (with_reducible first | exact HB.out | apply below_alloc | apply pw_below_drewN | apply below_drew1 | refine below_set ?_ GE120.out) | exact HB.out), by repeat (first | (with_reducible first | exact HK.out | apply Kept.alloc | apply Kept.drewN | apply Kept.drew | refine Kept.setCell ?_ (.inr GW120.out) _) | exact HK.out)⟩
end Go.Proofs.Ytomdfjohnmikdaa.QS
namespace Go.Proofs.Ytomdfjohnmikdaa.QS
open Go.Proofs.Ytomdfjohnmikdaa.Cw Go.Proofs.Ytomdfjohnmikdaa.Kp Go.Proofs.Ytomdfjohnmikdaa.Ext Go.RowKit Go.Proofs.YtomdfjohnmikdaaW.PrintWords Go.Proofs.YtomdfjohnmikdaaW.PrintLast Go.Proofs.YtomdfjohnmikdaaW.PrintMore
attribute [local go_sem] max2_int min2_int max_two min_two max_three min_three max_four min_four   -- for this text's walks alone
set_option linter.unusedVariables false
set_option linter.unusedSimpArgs false
def laws_heldInt64S.l0 : Nat → List Int → Int → Int → Option (Int)
 | 0, _, _, _ => none
 | k + 1, x0, x1, x5 => if x5 < (x0.length : Int) then (if 0 ≤ x5 then (if (rd x0 x5) = x1 then (laws_heldInt64S.l0 k x0 (wrap64 (x1 + 1)) (wrap64 (x5 + 1))) else (some (-1))) else (none)) else (some x1)
def laws_heldInt64S.f (k : Nat) (l0 : List Int) (a1 : Int) : Option (Int) := laws_heldInt64S.l0 k l0 a1 0
set_option maxHeartbeats 8000000 in
set_option maxRecDepth 100000 in
theorem laws_heldInt64S.calls (k : Nat) (A0 : Option Addr) (c0 : Nat) (l0 : List Int) (a1 : Int) (r : Int) (w : World) (hr0 : Kd.C (Kd.int .i64) w A0 l0.length l0) (hc0 : l0.length ≤ c0) (h : laws_heldInt64S.f k l0 a1 = some r) :
  Calls Try.prog 22 #[.slice A0 l0.length c0, .int .i64 a1] w fun e w' => e = .returned (.int .i64 r) ∧ Drawn0 w w' := by
 have HR0 := Aside0.mk hr0
 have HC0 := Aside0.mk hc0
 clear hr0 hc0
 have H : (laws_heldInt64S.l0 k l0 a1 0) = some r := h
 clear h
 have H' := Aside0.mk H
 clear H
 go_enter Try.func22, Try.ntmps22
 go_wp2
 go_loopg [1, 5] k (fun kq v1 v5 w' => ∃ (x1_1 : Int) (x5_1 : Int), v1 = .int .i64 x1_1 ∧ v5 = .int .i64 x5_1 ∧ Aside0 (laws_heldInt64S.l0 kq l0 x1_1 x5_1 = some r) ∧ Aside0 (kq ≤ k) ∧ Drawn0 w w')
 case atStart => exact ⟨(a1), (0), (by first | rfl | (simp; done) | (simp [*]; done)), (by first | rfl | (simp; done) | (simp [*]; done)), H', ⟨Nat.le_refl _⟩, by repeat (first | exact Drawn0.refl _ | apply Drawn0.step)⟩
 case round =>
  clear H'
  try clear c2
  try clear p2
  obtain ⟨x1_1, x5_1, rfl, rfl, HA, HK1, ⟨m1, rfl⟩⟩ := hrel
  cases gk with
  | zero => exact absurd HA.out (by simp [laws_heldInt64S.l0])
  | succ k1 =>
   have H := HA.out
   clear HA
   simp only [laws_heldInt64S.l0] at H
   by_cases c3 : x5_1 < (l0.length : Int)
   ·rw [if_pos c3] at H
    have c3b0 : decide (x5_1 < (l0.length : Int)) = true := decide_eq_true c3
    clear c3
    by_cases c4 : 0 ≤ x5_1
    ·rw [if_pos c4] at H
     have c4b0 : decide (0 ≤ x5_1) = true := decide_eq_true c4
     clear c4
     by_cases c5 : (rd l0 x5_1) = x1_1
     ·rw [if_pos c5] at H
      have c5b0 : ((rd l0 x5_1) == x1_1) = true := beq_iff_eq.mpr c5
      have c5b1 : ((rd l0 x5_1) != x1_1) = false := bne_eq_false_iff_eq.mpr c5
      clear c5
      have H' := Aside0.mk H
      clear H
      have p123 : 0 ≤ (x5_1 : Int) := of_decide_eq_true (by first | (with_reducible assumption) | assumption)
      have q123 : x5_1 < (l0.length : Int) := of_decide_eq_true (by first | (with_reducible assumption) | assumption)
      obtain ⟨ad123, e123, hx123_0⟩ := Kd.at_int HR0.out x5_1 p123 q123
      cases e123
      replace p123 := eq_true p123
      replace q123 := eq_true q123
      go_wp2
      go_roundg k1
      case measure => have := HK1.out; omega
      case rel => exact ⟨(wrap64 (x1_1 + 1)), (wrap64 (x5_1 + 1)), (by first | rfl | (simp; done) | (simp [*]; done)), (by first | rfl | (simp; done) | (simp [*]; done)), H', ⟨by have := HK1.out; omega⟩, by repeat (first | exact Drawn0.refl _ | apply Drawn0.step)⟩
     ·rw [if_neg c5] at H
      have c5b0 : ((rd l0 x5_1) == x1_1) = false := beq_eq_false_iff_ne.mpr c5
      have c5b1 : ((rd l0 x5_1) != x1_1) = true := bne_iff_ne.mpr c5
      obtain rfl := Option.some.inj H
      have p123 : 0 ≤ (x5_1 : Int) := of_decide_eq_true (by first | (with_reducible assumption) | assumption)
      have q123 : x5_1 < (l0.length : Int) := of_decide_eq_true (by first | (with_reducible assumption) | assumption)
      obtain ⟨ad123, e123, hx123_0⟩ := Kd.at_int HR0.out x5_1 p123 q123
      cases e123
      replace p123 := eq_true p123
      replace q123 := eq_true q123
      go_wp2
      go_ret
      exact ⟨by first | rfl | (simp; done) | (simp [*]; done), by repeat (first | exact Drawn0.refl _ | apply Drawn0.step)⟩
    ·rw [if_neg c4] at H
     exact absurd H (by simp)
   ·rw [if_neg c3] at H
    have c3b0 : decide (x5_1 < (l0.length : Int)) = false := decide_eq_false c3
    clear c3
    obtain rfl := Option.some.inj H
    go_wp2
    go_ret
    exact ⟨by first | rfl | (simp; done) | (simp [*]; done), by repeat (first | exact Drawn0.refl _ | apply Drawn0.step)⟩
end Go.Proofs.Ytomdfjohnmikdaa.QS
namespace Go.Proofs.Ytomdfjohnmikdaa.QS
open Go.Proofs.Ytomdfjohnmikdaa.Cw Go.Proofs.Ytomdfjohnmikdaa.Kp Go.Proofs.Ytomdfjohnmikdaa.Ext Go.RowKit Go.Proofs.YtomdfjohnmikdaaW.PrintWords Go.Proofs.YtomdfjohnmikdaaW.PrintLast Go.Proofs.YtomdfjohnmikdaaW.PrintMore
attribute [local go_sem] max2_int min2_int max_two min_two max_three min_three max_four min_four   -- for this text's walks alone
set_option linter.unusedVariables false
set_option linter.unusedSimpArgs false
def spec_l01All.f (a0 : Int) : Option (Int) := if 0 ≤ (IntKind.u64.wrap (a0)) then (some (wrap64 ((shl .i64 1 (IntKind.u64.wrap (a0))) - 1))) else (none)
set_option maxHeartbeats 8000000 in
set_option maxRecDepth 100000 in
theorem spec_l01All.calls (a0 : Int) (r : Int) (w : World) (h : spec_l01All.f a0 = some r) :
  Calls Try.prog 100 #[.int .i64 a0] w fun e w' => e = .returned (.int .i64 r) ∧ Drawn0 w w' := by
 have H : (if 0 ≤ (IntKind.u64.wrap (a0)) then (some (wrap64 ((shl .i64 1 (IntKind.u64.wrap (a0))) - 1))) else (none)) = some r := h
 clear h
 obtain ⟨ji2, hji2⟩ : ∃ j_ : Int, (IntKind.u64.wrap (a0)) = j_ := ⟨_, rfl⟩
 replace H : (if 0 ≤ (ji2) then (some (wrap64 ((shl .i64 1 (ji2)) - 1))) else (none)) = some r := by first | (rw [hji2] at H; exact H) | (simp only [hji2] at H ⊢; exact H)
 by_cases c3 : 0 ≤ (ji2)
 ·rw [if_pos c3] at H
  have c3b0 := eq_true c3
  have c3b1 : decide (0 ≤ (ji2)) = true := decide_eq_true c3
  clear c3
  obtain ⟨ji4, hji4⟩ : ∃ j_ : Int, (shl .i64 1 (ji2)) = j_ := ⟨_, rfl⟩
  replace H : (some (wrap64 ((ji4) - 1))) = some r := by first | (rw [hji4] at H; exact H) | (simp only [hji4] at H ⊢; exact H)
  have hji4_ : (IntKind.i64.wrap (1 * 2 ^ min (ji2).toNat 64)) = ji4 := hji4
  have hji4z : (ji2) ≤ 64 → (IntKind.i64.wrap (1 * 2 ^ (ji2).toNat)) = ji4 := shl_small hji4
  have hji4u : (IntKind.i64.wrap (2 ^ min (ji2).toNat 64)) = ji4 := by have h_ := hji4_; rw [Int.one_mul] at h_; exact h_
  have hji4v : (ji2) ≤ 64 → (IntKind.i64.wrap (2 ^ (ji2).toNat)) = ji4 := fun hle_ => by have h_ := hji4z hle_; rw [Int.one_mul] at h_; exact h_
  have hji4y : (wrap64 (1 * 2 ^ min (ji2).toNat 64)) = ji4 := (i64_w _).symm.trans hji4_
  have hji4x : (ji2) ≤ 64 → (wrap64 (1 * 2 ^ (ji2).toNat)) = ji4 := fun h_ => (i64_w _).symm.trans (hji4z h_)
  obtain rfl := Option.some.inj H
  go_enter Try.func100, Try.ntmps100
  go_wp2
  go_ret
  exact ⟨by first | rfl | (simp; done) | (simp only [← hji2, ← hji4] <;> (first | rfl | simp)) | (simp [*]; done), by repeat (first | exact Drawn0.refl _ | apply Drawn0.step)⟩
 ·rw [if_neg c3] at H
  exact absurd H (by simp)
end Go.Proofs.Ytomdfjohnmikdaa.QS
namespace Go.Proofs.Ytomdfjohnmikdaa.QS
open Go.Proofs.Ytomdfjohnmikdaa.Cw Go.Proofs.Ytomdfjohnmikdaa.Kp Go.Proofs.Ytomdfjohnmikdaa.Ext Go.RowKit Go.Proofs.YtomdfjohnmikdaaW.PrintWords Go.Proofs.YtomdfjohnmikdaaW.PrintLast Go.Proofs.YtomdfjohnmikdaaW.PrintMore
attribute [local go_sem] max2_int min2_int max_two min_two max_three min_three max_four min_four   -- for this text's walks alone
set_option linter.unusedVariables false
set_option linter.unusedSimpArgs false
def spec_l01Has.l0 : Nat → Int → Int → Int → List Int → Option (Bool)
 | 0, _, _, _, _ => none
 | k + 1, x1, x5, x147000, x147001 => if x5 < (x147001.length : Int) then (if 0 ≤ x5 then (if (rd x147001 x5) = x1 then (some true) else (spec_l01Has.l0 k x1 (wrap64 (x5 + 1)) x147000 x147001)) else (none)) else (some false)
def spec_l01Has.f (k : Nat) (a0_0 : Int) (l0_1 : List Int) (a1 : Int) : Option (Bool) := spec_l01Has.l0 k a1 0 a0_0 l0_1
set_option maxHeartbeats 8000000 in
set_option maxRecDepth 100000 in
theorem spec_l01Has.calls (k : Nat) (a0_0 : Int) (A0_1 : Option Addr) (c0_1 : Nat) (l0_1 : List Int) (a1 : Int) (r : Bool) (w : World) (hr0_1 : Kd.C (Kd.int .i64) w A0_1 l0_1.length l0_1) (hc0_1 : l0_1.length ≤ c0_1) (h : spec_l01Has.f k a0_0 l0_1 a1 = some r) :
  Calls Try.prog 102 #[.agg #[.int .i64 a0_0, .slice A0_1 l0_1.length c0_1], .int .i64 a1] w fun e w' => e = .returned (.bool r) ∧ Below w.heap.size w w' := by
 have hu28 := Try.underlying28
 have HR0_1 := Aside0.mk hr0_1
 have HC0_1 := Aside0.mk hc0_1
 clear hr0_1 hc0_1
 have HB := Aside0.mk (Below.refl w.heap.size w)
 have H : (spec_l01Has.l0 k a1 0 a0_0 l0_1) = some r := h
 clear h
 have H' := Aside0.mk H
 clear H
 go_enter Try.func102, Try.ntmps102
 go_wp2_with (first | ((with_reducible refine gate_dst (N := 2) rfl ?_); refine box_event ?hg (N := 2) ?hd (cs := #[.int .i64 a0_0, .slice A0_1 l0_1.length c0_1]) (t := 28) ?hr ?_; (case hd => rfl); (case hg => rfl); (case hr => first | (go_simp; done) | (go_simp; rfl)); intro gb146 hg w3 hbox hb; have BK146 := Aside0.mk (hbox); have GW146 := gH HB hg; have GE146 := gH HB hg; replace HB := sH HB hb; clear hb hbox hg))
 go_loopg [5] k (fun kq v5 w' => ∃ (x5_1 : Int), v5 = .int .i64 x5_1 ∧ Aside0 (spec_l01Has.l0 kq a1 x5_1 a0_0 l0_1 = some r) ∧ Aside0 (kq ≤ k) ∧ Aside0 (w'.heap[gb146]? = some (.cells #[.int .i64 a0_0, (.slice A0_1 l0_1.length c0_1)] 28 (0, 0))) ∧ Aside0 (Below w.heap.size w w'))
 case atStart => exact ⟨(0), (by first | rfl | (simp; done) | (simp [*]; done)), H', ⟨Nat.le_refl _⟩, ⟨pB BK146⟩, ⟨pH HB⟩⟩
 case round =>
  clear H'
  try clear c1
  try clear p2
  obtain ⟨x5_1, rfl, HA, HK1, BK146, HB⟩ := hrel
  cases gk with
  | zero => exact absurd HA.out (by simp [spec_l01Has.l0])
  | succ k1 =>
   have H := HA.out
   clear HA
   simp only [spec_l01Has.l0] at H
   by_cases c4 : x5_1 < (l0_1.length : Int)
   ·rw [if_pos c4] at H
    have c4b0 : decide (x5_1 < (l0_1.length : Int)) = true := decide_eq_true c4
    clear c4
    by_cases c5 : 0 ≤ x5_1
    ·rw [if_pos c5] at H
     have c5b0 : decide (0 ≤ x5_1) = true := decide_eq_true c5
     clear c5
     by_cases c6 : (rd l0_1 x5_1) = a1
     ·rw [if_pos c6] at H
      have c6b0 : ((rd l0_1 x5_1) == a1) = true := beq_iff_eq.mpr c6
      have c6b1 : ((rd l0_1 x5_1) != a1) = false := bne_eq_false_iff_eq.mpr c6
      clear c6
      obtain rfl := Option.some.inj H
      have hcz7_0 : wr.cell? ⟨gb146, 0, none⟩ = some (.int .i64 a0_0) := cB BK146 0
      have hcz7_1 : wr.cell? ⟨gb146, 1, none⟩ = some (.slice A0_1 l0_1.length c0_1) := cB BK146 1
      have hfz7_0 := zB BK146 0
      have hfz7_1 := zB BK146 1
      have p147 : 0 ≤ (x5_1 : Int) := of_decide_eq_true (by first | (with_reducible assumption) | assumption)
      have q147 : x5_1 < (l0_1.length : Int) := of_decide_eq_true (by first | (with_reducible assumption) | assumption)
      obtain ⟨ad147, e147, hx147_0⟩ := Kd.at_int HR0_1.out x5_1 p147 q147
      cases e147
      replace hx147_0 := cH HB hx147_0
      replace p147 := eq_true p147
      replace q147 := eq_true q147
      go_wp2
      go_ret
      exact ⟨by first | rfl | (simp [errW_none, errW_some] <;> rfl) | (simp [*, errW_none, errW_some] <;> rfl) | (exfalso; simp_all), pH HB⟩
     ·rw [if_neg c6] at H
      have c6b0 : ((rd l0_1 x5_1) == a1) = false := beq_eq_false_iff_ne.mpr c6
      have c6b1 : ((rd l0_1 x5_1) != a1) = true := bne_iff_ne.mpr c6
      have H' := Aside0.mk H
      clear H
      have hcz8_0 : wr.cell? ⟨gb146, 0, none⟩ = some (.int .i64 a0_0) := cB BK146 0
      have hcz8_1 : wr.cell? ⟨gb146, 1, none⟩ = some (.slice A0_1 l0_1.length c0_1) := cB BK146 1
      have hfz8_0 := zB BK146 0
      have hfz8_1 := zB BK146 1
      have p147 : 0 ≤ (x5_1 : Int) := of_decide_eq_true (by first | (with_reducible assumption) | assumption)
      have q147 : x5_1 < (l0_1.length : Int) := of_decide_eq_true (by first | (with_reducible assumption) | assumption)
      obtain ⟨ad147, e147, hx147_0⟩ := Kd.at_int HR0_1.out x5_1 p147 q147
      cases e147
      replace hx147_0 := cH HB hx147_0
      replace p147 := eq_true p147
      replace q147 := eq_true q147
      go_wp2
      go_roundg k1
      case measure => have := HK1.out; omega
      case rel => exact ⟨(wrap64 (x5_1 + 1)), (by first | rfl | (simp; done) | (simp [*]; done)), H', ⟨by have := HK1.out; omega⟩, ⟨pB BK146⟩, ⟨pH HB⟩⟩
    ·rw [if_neg c5] at H
     exact absurd H (by simp)
   ·rw [if_neg c4] at H
    have c4b0 : decide (x5_1 < (l0_1.length : Int)) = false := decide_eq_false c4
    clear c4
    obtain rfl := Option.some.inj H
    have hcz9_0 : wr.cell? ⟨gb146, 0, none⟩ = some (.int .i64 a0_0) := cB BK146 0
    have hcz9_1 : wr.cell? ⟨gb146, 1, none⟩ = some (.slice A0_1 l0_1.length c0_1) := cB BK146 1
    have hfz9_0 := zB BK146 0
    have hfz9_1 := zB BK146 1
    go_wp2
    go_ret
    exact ⟨by first | rfl | (simp [errW_none, errW_some] <;> rfl) | (simp [*, errW_none, errW_some] <;> rfl) | (exfalso; simp_all), pH HB⟩
end Go.Proofs.Ytomdfjohnmikdaa.QS
namespace Go.Proofs.Ytomdfjohnmikdaa.QS
open Go.Proofs.Ytomdfjohnmikdaa.Cw Go.Proofs.Ytomdfjohnmikdaa.Kp Go.Proofs.Ytomdfjohnmikdaa.Ext Go.RowKit Go.Proofs.YtomdfjohnmikdaaW.PrintWords Go.Proofs.YtomdfjohnmikdaaW.PrintLast Go.Proofs.YtomdfjohnmikdaaW.PrintMore
attribute [local go_sem] max2_int min2_int max_two min_two max_three min_three max_four min_four   -- for this text's walks alone
set_option linter.unusedVariables false
set_option linter.unusedSimpArgs false
def spec_l01In.f (a0 : Int) (a1 : Int) (a2 : Int) : Option (Bool) := if a0 ≥ a1 then (some (decide (a0 ≤ a2))) else (some false)
set_option maxHeartbeats 8000000 in
set_option maxRecDepth 100000 in
theorem spec_l01In.calls (a0 : Int) (a1 : Int) (a2 : Int) (r : Bool) (w : World) (h : spec_l01In.f a0 a1 a2 = some r) :
  Calls Try.prog 52 #[.int .i64 a0, .int .i64 a1, .int .i64 a2] w fun e w' => e = .returned (.bool r) ∧ Drawn0 w w' := by
 have H : (if a0 ≥ a1 then (some (decide (a0 ≤ a2))) else (some false)) = some r := h
 clear h
 by_cases c4 : a0 ≥ a1
 ·rw [if_pos c4] at H
  have c4b0 : decide (a1 ≤ a0) = true := decide_eq_true c4
  clear c4
  obtain rfl := Option.some.inj H
  go_enter Try.func52, Try.ntmps52
  go_wp2
  go_ret
  exact ⟨by first | rfl | (simp; done) | (simp [*]; done), by repeat (first | exact Drawn0.refl _ | apply Drawn0.step)⟩
 ·rw [if_neg c4] at H
  have c4b0 : decide (a1 ≤ a0) = false := decide_eq_false c4
  clear c4
  obtain rfl := Option.some.inj H
  go_enter Try.func52, Try.ntmps52
  go_wp2
  go_ret
  exact ⟨by first | rfl | (simp; done) | (simp [*]; done), by repeat (first | exact Drawn0.refl _ | apply Drawn0.step)⟩
end Go.Proofs.Ytomdfjohnmikdaa.QS
namespace Go.Proofs.Ytomdfjohnmikdaa.QS
open Go.Proofs.Ytomdfjohnmikdaa.Cw Go.Proofs.Ytomdfjohnmikdaa.Kp Go.Proofs.Ytomdfjohnmikdaa.Ext Go.RowKit Go.Proofs.YtomdfjohnmikdaaW.PrintWords Go.Proofs.YtomdfjohnmikdaaW.PrintLast Go.Proofs.YtomdfjohnmikdaaW.PrintMore
attribute [local go_sem] max2_int min2_int max_two min_two max_three min_three max_four min_four   -- for this text's walks alone
set_option linter.unusedVariables false
set_option linter.unusedSimpArgs false
mutual
def spec_l01Is.l0 : Nat → Int → Int → List Int → Option (Bool)
 | 0, _, _, _ => none
 | k + 1, x3, x149000, x149001 => if x3 < (x149001.length : Int) then (if 0 ≤ x3 then ((spec_l01All.f x149000).bind fun t151 => ((spec_l01In.f (rd x149001 x3) 1 t151).bind fun t152 => (if t152 = true then (if x3 > 0 then (if 0 ≤ (wrap64 (x3 - 1)) then (if (wrap64 (x3 - 1)) < (x149001.length : Int) then (if (rd x149001 x3) ≤ (rd x149001 (wrap64 (x3 - 1))) then (some false) else (spec_l01Is.l0 k (wrap64 (x3 + 1)) x149000 x149001)) else (none)) else (none)) else (spec_l01Is.l0 k (wrap64 (x3 + 1)) x149000 x149001)) else (some false)))) else (none)) else (spec_l01Is.l1 k 0 x149000 x149001)
def spec_l01Is.l1 : Nat → Int → Int → List Int → Option (Bool)
 | 0, _, _, _ => none
 | k + 1, x4, x149000, x149001 => if x4 < (x149001.length : Int) then (if 0 ≤ x4 then ((spec_l01Below.f k (rd x149001 x4)).bind fun t156 => (spec_l01Is.l2 k x4 t156 0 x149000 x149001)) else (none)) else (some true)
def spec_l01Is.l2 : Nat → Int → List Int → Int → Int → List Int → Option (Bool)
 | 0, _, _, _, _, _ => none
 | k + 1, x4, x5, x6, x149000, x149001 => if x6 < (x5.length : Int) then (if 0 ≤ x6 then ((spec_l01Has.f k x149000 x149001 (rd x5 x6)).bind fun t160 => (if t160 = true then (spec_l01Is.l2 k x4 x5 (wrap64 (x6 + 1)) x149000 x149001) else (some false))) else (none)) else (spec_l01Is.l1 k (wrap64 (x4 + 1)) x149000 x149001)
end
def spec_l01Is.f (k : Nat) (a0_0 : Int) (l0_1 : List Int) : Option (Bool) := (spec_l01In.f a0_0 1 6).bind fun t149 => (if t149 = true then (spec_l01Is.l0 k 0 a0_0 l0_1) else (some false))
def spec_l01Is.T6 : Bool × List (List Nat × List Nat) := (true, [([], []), ([0], [0]), ([], []), ([1, 2], [1, 2]), ([3], [3]), ([], []), ([5], [5]), ([6], [6]), ([4, 7, 7], [4, 7]), ([8], [8]), ([9, 8], [9]), ([10], [10]), ([11, 10], [10, 11]), ([12, 10, 10], [10, 12]), ([13], [13]), ([14, 13], [13, 14]), ([13], [13]), ([15, 16, 13], [13, 15, 16]), ([17, 13], [13, 17]), ([13], [13]), ([19, 13], [13, 19]), ([13], [13]), ([21, 13], [13, 21]), ([20, 22, 13], [13, 20, 22]), ([23, 13], [13, 23]), ([18, 24, 13], [13, 18, 24]), ([13, 25, 10], [10, 13, 25]), ([10, 26], [10, 26])])
def spec_l01Is.B6 : List Nat := [0, 1, 0, 7, 15, 0, 32, 96, 255, 511, 1023, 2047, 4095, 8191, 16383, 32767, 16383, 131071, 262143, 16383, 540671, 16383, 2113535, 7880703, 16269311, 33554431, 67108863, 134217727]
theorem spec_l01Is.tab6 : rtab .any (opsOf Try.f50 6) = spec_l01Is.T6 := by kernel_rfl
theorem spec_l01Is.bits6 : waitsOk spec_l01Is.T6.2 spec_l01Is.B6 = true := by kernel_rfl
set_option maxHeartbeats 8000000 in
set_option maxRecDepth 100000 in
theorem spec_l01Is.calls (k : Nat) (a0_0 : Int) (A0_1 : Option Addr) (c0_1 : Nat) (l0_1 : List Int) (r : Bool) (w : World) (hr0_1 : Kd.C (Kd.int .i64) w A0_1 l0_1.length l0_1) (hc0_1 : l0_1.length ≤ c0_1) (h : spec_l01Is.f k a0_0 l0_1 = some r) :
  Calls Try.prog 50 #[.agg #[.int .i64 a0_0, .slice A0_1 l0_1.length c0_1]] w fun e w' => e = .returned (.bool r) ∧ Below w.heap.size w w' := by
 have hu28 := Try.underlying28
 have HR0_1 := Aside0.mk hr0_1
 have HC0_1 := Aside0.mk hc0_1
 clear hr0_1 hc0_1
 have HB := Aside0.mk (Below.refl w.heap.size w)
 have H : ((spec_l01In.f a0_0 1 6).bind fun t149 => (if t149 = true then (spec_l01Is.l0 k 0 a0_0 l0_1) else (some false))) = some r := h
 clear h
 replace H := Option.bind_eq_some_iff.mp H
 obtain ⟨t149, A20, H⟩ := H
 try dsimp only at H
 have A2 := Aside0.mk A20
 clear A20
 by_cases c3 : t149 = true
 ·subst c3
  have H1 : (spec_l01Is.l0 k 0 a0_0 l0_1) = some r := by rw [if_pos rfl] at H; exact H
  clear H
  have H := H1
  clear H1
  have H' := Aside0.mk H
  clear H
  go_enter Try.func50, Try.ntmps50
  go_wp2_with (first | ((with_reducible refine gate_dst (N := 1) rfl ?_); refine box_event ?hg (N := 1) ?hd (cs := #[.int .i64 a0_0, .slice A0_1 l0_1.length c0_1]) (t := 28) ?hr ?_; (case hd => rfl); (case hg => rfl); (case hr => first | (go_simp; done) | (go_simp; rfl)); intro gb148 hg w4 hbox hb; have BK148 := Aside0.mk (hbox); have GW148 := gH HB hg; have GE148 := gH HB hg; replace HB := sH HB hb; clear hb hbox hg; have hcz5_0 : w4.cell? ⟨gb148, 0, none⟩ = some (.int .i64 a0_0) := cB BK148 0; have hcz5_1 : w4.cell? ⟨gb148, 1, none⟩ = some (.slice A0_1 l0_1.length c0_1) := cB BK148 1; have hfz5_0 := zB BK148 0; have hfz5_1 := zB BK148 1) | ((with_reducible refine gate_callee (f := 52) rfl ?_); refine cl_ (some 9) Try.func52 #[.int .i64 a0_0, .int .i64 1, .int .i64 6] ?_; (with_reducible refine (spec_l01In.calls a0_0 1 6 true _ A2.out).mono ?_); rintro e w' ⟨rfl, ⟨nd, rfl⟩⟩; refine ⟨_, rfl, ?_⟩))
  go_loopg [3] k (fun kq v3 w' => ∃ (x3_1 : Int), v3 = .int .i64 x3_1 ∧ Aside0 (spec_l01Is.l0 kq x3_1 a0_0 l0_1 = some r) ∧ Aside0 (kq ≤ k) ∧ Aside0 (w'.heap[gb148]? = some (.cells #[.int .i64 a0_0, (.slice A0_1 l0_1.length c0_1)] 28 (0, 0))) ∧ Aside0 (Below w.heap.size w w'))
  case atStart => exact ⟨(0), (by first | rfl | (simp; done) | (simp [*]; done)), H', ⟨Nat.le_refl _⟩, ⟨pB BK148⟩, ⟨pH HB⟩⟩
  case round =>
   clear H'
   try clear p2
   try clear c3
   try clear c5
   try clear hcz5_0
   try clear hcz5_1
   try clear hfz5_0
   try clear hfz5_1
   obtain ⟨x3_1, rfl, HA, HK1, BK148, HB⟩ := hrel
   cases gk with
   | zero => exact absurd HA.out (by simp [spec_l01Is.l0])
   | succ k1 =>
    have H := HA.out
    clear HA
    simp only [spec_l01Is.l0] at H
    by_cases c6 : x3_1 < (l0_1.length : Int)
    ·rw [if_pos c6] at H
     have c6b0 : decide (x3_1 < (l0_1.length : Int)) = true := decide_eq_true c6
     clear c6
     by_cases c7 : 0 ≤ x3_1
     ·rw [if_pos c7] at H
      have c7b0 : decide (0 ≤ x3_1) = true := decide_eq_true c7
      clear c7
      replace H := Option.bind_eq_some_iff.mp H
      obtain ⟨t151, A80, H⟩ := H
      try dsimp only at H
      have A8 := Aside0.mk A80
      clear A80
      replace H := Option.bind_eq_some_iff.mp H
      obtain ⟨t152, A90, H⟩ := H
      try dsimp only at H
      have A9 := Aside0.mk A90
      clear A90
      by_cases c10 : t152 = true
      ·subst c10
       have H1 : (if x3_1 > 0 then (if 0 ≤ (wrap64 (x3_1 - 1)) then (if (wrap64 (x3_1 - 1)) < (l0_1.length : Int) then (if (rd l0_1 x3_1) ≤ (rd l0_1 (wrap64 (x3_1 - 1))) then (some false) else (spec_l01Is.l0 k1 (wrap64 (x3_1 + 1)) a0_0 l0_1)) else (none)) else (none)) else (spec_l01Is.l0 k1 (wrap64 (x3_1 + 1)) a0_0 l0_1)) = some r := by rw [if_pos rfl] at H; exact H
       clear H
       have H := H1
       clear H1
       by_cases c11 : x3_1 > 0
       ·rw [if_pos c11] at H
        have c11b0 : decide (0 < x3_1) = true := decide_eq_true c11
        clear c11
        obtain ⟨ji12, hji12⟩ : ∃ j_ : Int, (wrap64 (x3_1 - 1)) = j_ := ⟨_, rfl⟩
        replace H : (if 0 ≤ (ji12) then (if (ji12) < (l0_1.length : Int) then (if (rd l0_1 x3_1) ≤ (rd l0_1 (ji12)) then (some false) else (spec_l01Is.l0 k1 (wrap64 (x3_1 + 1)) a0_0 l0_1)) else (none)) else (none)) = some r := by first | (rw [hji12] at H; exact H) | (simp only [hji12] at H ⊢; exact H)
        (try rw [hji12] at A8)
        (try rw [hji12] at A9)
        have hji12w : (IntKind.i64.wrap (x3_1 - 1)) = ji12 := (i64_w _).trans hji12
        by_cases c13 : 0 ≤ (ji12)
        ·rw [if_pos c13] at H
         have c13b0 : decide (0 ≤ (ji12)) = true := decide_eq_true c13
         clear c13
         by_cases c14 : (ji12) < (l0_1.length : Int)
         ·rw [if_pos c14] at H
          have c14b0 : decide ((ji12) < (l0_1.length : Int)) = true := decide_eq_true c14
          clear c14
          by_cases c15 : (rd l0_1 x3_1) ≤ (rd l0_1 (ji12))
          ·rw [if_pos c15] at H
           have c15b0 : decide ((rd l0_1 x3_1) ≤ (rd l0_1 (ji12))) = true := decide_eq_true c15
           clear c15
           obtain rfl := Option.some.inj H
           have hcz16_0 : wr.cell? ⟨gb148, 0, none⟩ = some (.int .i64 a0_0) := cB BK148 0
           have hcz16_1 : wr.cell? ⟨gb148, 1, none⟩ = some (.slice A0_1 l0_1.length c0_1) := cB BK148 1
           have hfz16_0 := zB BK148 0
           have hfz16_1 := zB BK148 1
           try go_wp2
           replace BK148 := dB BK148
           replace HB := dH HB
           have p150 : 0 ≤ (x3_1 : Int) := of_decide_eq_true (by first | (with_reducible assumption) | assumption)
           have q150 : x3_1 < (l0_1.length : Int) := of_decide_eq_true (by first | (with_reducible assumption) | assumption)
           obtain ⟨ad150, e150, hx150_0⟩ := Kd.at_int HR0_1.out x3_1 p150 q150
           have hw150_0 := hx150_0
           cases e150
           replace hx150_0 := cH HB hx150_0
           replace p150 := eq_true p150
           replace q150 := eq_true q150
           have p153 : 0 ≤ (x3_1 : Int) := of_decide_eq_true (by first | (with_reducible assumption) | assumption)
           have q153 : x3_1 < (l0_1.length : Int) := of_decide_eq_true (by first | (with_reducible assumption) | assumption)
           obtain ⟨ad153, e153, hx153_0⟩ := Kd.at_int HR0_1.out x3_1 p153 q153
           have hw153_0 := hx153_0
           obtain rfl : ad150 = ad153 := (by injection e153)
           replace hx153_0 := cH HB hx153_0
           replace p153 := eq_true p153
           replace q153 := eq_true q153
           have p154 : 0 ≤ ((ji12) : Int) := of_decide_eq_true (by first | (with_reducible assumption) | assumption)
           have q154 : (ji12) < (l0_1.length : Int) := of_decide_eq_true (by first | (with_reducible assumption) | assumption)
           obtain ⟨ad154, e154, hx154_0⟩ := Kd.at_int HR0_1.out (ji12) p154 q154
           have hw154_0 := hx154_0
           obtain rfl : ad150 = ad154 := (by injection e154)
           replace hx154_0 := cH HB hx154_0
           replace p154 := eq_true p154
           replace q154 := eq_true q154
           refine st_ 28 (S := fun w' => w'.cell? ⟨gb148, 0, none⟩ = some (.int .i64 a0_0) ∧ w'.cell? ⟨gb148, 1, none⟩ = some (.slice (some ad150) l0_1.length c0_1) ∧ w'.cell? (ad150.add (x3_1).toNat) = some (.int .i64 (rd l0_1 x3_1)) ∧ w'.cell? (ad150.add (x3_1).toNat) = some (.int .i64 (rd l0_1 x3_1)) ∧ w'.cell? (ad150.add ((ji12)).toNat) = some (.int .i64 (rd l0_1 (ji12)))) (ds := []) ⟨cB BK148 0, cB BK148 1, (cH HB hw150_0 :), (cH HB hw153_0 :), (cH HB hw154_0 :)⟩ (fun hHeld => ?_); refine with_tabW spec_l01Is.tab6 spec_l01Is.bits6 (fun HT_ HW_ => ?_)
           generalize wr.drew = w17 at BK148 HB hx150_0 hx153_0 hx154_0 hHeld ⊢
           refine pu_ 0 18 1 HT_ ?_
           refine pu_ 2 20 5 HT_ ?_
           refine pu_ 5 23 37 HT_ ?_
           refine tk_ 1 19 39 HT_ HW_ hHeld ?_
           refine pu_ 3 21 47 HT_ ?_
           refine tk_ 4 22 63 HT_ HW_ hHeld ?_
           refine tk_ 6 24 127 HT_ HW_ hHeld ?_
           refine on_ 7 (some 25) 255 HT_ (fun K hK => ?_)
           refine ca_ Try.func100 #[.int .i64 a0_0] ?_
           with_reducible refine (spec_l01All.calls a0_0 t151 _ A8.out).mono ?_
           rintro e w' ⟨rfl, ⟨nd, rfl⟩⟩
           refine ⟨_, rfl, ?_⟩
           refine hK.out _ _ ⟨cB BK148 0, cB BK148 1, (cH HB hw150_0 :), (cH HB hw153_0 :), (cH HB hw154_0 :)⟩ (fun hHeld => ?_)
           clear hK K
           refine nm_ ?_
           refine on_ 8 (some 26) 511 HT_ (fun K hK => ?_)
           refine ca_ Try.func52 #[.int .i64 (rd l0_1 x3_1), .int .i64 1, .int .i64 t151] ?_
           with_reducible refine (spec_l01In.calls (rd l0_1 x3_1) 1 t151 true _ A9.out).mono ?_
           rintro e w' ⟨rfl, ⟨nd, rfl⟩⟩
           refine ⟨_, rfl, ?_⟩
           refine hK.out _ _ ⟨cB BK148 0, cB BK148 1, (cH HB hw150_0 :), (cH HB hw153_0 :), (cH HB hw154_0 :)⟩ (fun hHeld => ?_)
           clear hK K
           refine nm_ ?_
           refine pu_ 9 27 1023 HT_ ?_
           refine pu_ 10 28 2047 HT_ ?_
           refine pu_ 11 29 4095 HT_ ?_
           refine pu_ 12 30 8191 HT_ ?_
           refine pu_ 13 31 16383 HT_ ?_
           refine pu_ 14 32 32767 HT_ ?_
           refine pu_ 16 34 98303 HT_ ?_
           refine pu_ 19 37 622591 HT_ ?_
           refine pu_ 21 39 2719743 HT_ ?_
           refine pu_ 22 40 6914047 HT_ ?_
           refine tk_ 15 33 6946815 HT_ HW_ hHeld ?_
           refine pu_ 17 35 7077887 HT_ ?_
           refine tk_ 18 36 7340031 HT_ HW_ hHeld ?_
           refine tk_ 20 38 8388607 HT_ HW_ hHeld ?_
           refine pu_ 23 41 16777215 HT_ ?_
           refine tk_ 24 42 33554431 HT_ HW_ hHeld ?_
           refine pu_ 25 43 67108863 HT_ ?_
           refine pu_ 26 44 134217727 HT_ ?_
           refine pu_ 27 45 268435455 HT_ ?_
           refine dn_ HT_ ?_
           try go_wp2
           go_ret
           exact ⟨by first | rfl | (simp [errW_none, errW_some] <;> rfl) | (simp only [← hji12]; first | rfl | (simp [errW_none, errW_some] <;> rfl)) | (simp [*, errW_none, errW_some] <;> rfl) | (exfalso; simp_all), pH HB⟩
          ·rw [if_neg c15] at H
           have c15b0 : decide ((rd l0_1 x3_1) ≤ (rd l0_1 (ji12))) = false := decide_eq_false c15
           clear c15
           have H' := Aside0.mk H
           clear H
           have hcz18_0 : wr.cell? ⟨gb148, 0, none⟩ = some (.int .i64 a0_0) := cB BK148 0
           have hcz18_1 : wr.cell? ⟨gb148, 1, none⟩ = some (.slice A0_1 l0_1.length c0_1) := cB BK148 1
           have hfz18_0 := zB BK148 0
           have hfz18_1 := zB BK148 1
           try go_wp2
           replace BK148 := dB BK148
           replace HB := dH HB
           have p150 : 0 ≤ (x3_1 : Int) := of_decide_eq_true (by first | (with_reducible assumption) | assumption)
           have q150 : x3_1 < (l0_1.length : Int) := of_decide_eq_true (by first | (with_reducible assumption) | assumption)
           obtain ⟨ad150, e150, hx150_0⟩ := Kd.at_int HR0_1.out x3_1 p150 q150
           have hw150_0 := hx150_0
           cases e150
           replace hx150_0 := cH HB hx150_0
           replace p150 := eq_true p150
           replace q150 := eq_true q150
           have p153 : 0 ≤ (x3_1 : Int) := of_decide_eq_true (by first | (with_reducible assumption) | assumption)
           have q153 : x3_1 < (l0_1.length : Int) := of_decide_eq_true (by first | (with_reducible assumption) | assumption)
           obtain ⟨ad153, e153, hx153_0⟩ := Kd.at_int HR0_1.out x3_1 p153 q153
           have hw153_0 := hx153_0
           obtain rfl : ad150 = ad153 := (by injection e153)
           replace hx153_0 := cH HB hx153_0
           replace p153 := eq_true p153
           replace q153 := eq_true q153
           have p154 : 0 ≤ ((ji12) : Int) := of_decide_eq_true (by first | (with_reducible assumption) | assumption)
           have q154 : (ji12) < (l0_1.length : Int) := of_decide_eq_true (by first | (with_reducible assumption) | assumption)
           obtain ⟨ad154, e154, hx154_0⟩ := Kd.at_int HR0_1.out (ji12) p154 q154
           have hw154_0 := hx154_0
           obtain rfl : ad150 = ad154 := (by injection e154)
           replace hx154_0 := cH HB hx154_0
           replace p154 := eq_true p154
           replace q154 := eq_true q154
           refine st_ 28 (S := fun w' => w'.cell? ⟨gb148, 0, none⟩ = some (.int .i64 a0_0) ∧ w'.cell? ⟨gb148, 1, none⟩ = some (.slice (some ad150) l0_1.length c0_1) ∧ w'.cell? (ad150.add (x3_1).toNat) = some (.int .i64 (rd l0_1 x3_1)) ∧ w'.cell? (ad150.add (x3_1).toNat) = some (.int .i64 (rd l0_1 x3_1)) ∧ w'.cell? (ad150.add ((ji12)).toNat) = some (.int .i64 (rd l0_1 (ji12)))) (ds := []) ⟨cB BK148 0, cB BK148 1, (cH HB hw150_0 :), (cH HB hw153_0 :), (cH HB hw154_0 :)⟩ (fun hHeld => ?_); refine with_tabW spec_l01Is.tab6 spec_l01Is.bits6 (fun HT_ HW_ => ?_)
           generalize wr.drew = w19 at BK148 HB hx150_0 hx153_0 hx154_0 hHeld ⊢
           refine pu_ 0 18 1 HT_ ?_
           refine pu_ 2 20 5 HT_ ?_
           refine pu_ 5 23 37 HT_ ?_
           refine tk_ 1 19 39 HT_ HW_ hHeld ?_
           refine pu_ 3 21 47 HT_ ?_
           refine tk_ 4 22 63 HT_ HW_ hHeld ?_
           refine tk_ 6 24 127 HT_ HW_ hHeld ?_
           refine on_ 7 (some 25) 255 HT_ (fun K hK => ?_)
           refine ca_ Try.func100 #[.int .i64 a0_0] ?_
           with_reducible refine (spec_l01All.calls a0_0 t151 _ A8.out).mono ?_
           rintro e w' ⟨rfl, ⟨nd, rfl⟩⟩
           refine ⟨_, rfl, ?_⟩
           refine hK.out _ _ ⟨cB BK148 0, cB BK148 1, (cH HB hw150_0 :), (cH HB hw153_0 :), (cH HB hw154_0 :)⟩ (fun hHeld => ?_)
           clear hK K
           refine nm_ ?_
           refine on_ 8 (some 26) 511 HT_ (fun K hK => ?_)
           refine ca_ Try.func52 #[.int .i64 (rd l0_1 x3_1), .int .i64 1, .int .i64 t151] ?_
           with_reducible refine (spec_l01In.calls (rd l0_1 x3_1) 1 t151 true _ A9.out).mono ?_
           rintro e w' ⟨rfl, ⟨nd, rfl⟩⟩
           refine ⟨_, rfl, ?_⟩
           refine hK.out _ _ ⟨cB BK148 0, cB BK148 1, (cH HB hw150_0 :), (cH HB hw153_0 :), (cH HB hw154_0 :)⟩ (fun hHeld => ?_)
           clear hK K
           refine nm_ ?_
           refine pu_ 9 27 1023 HT_ ?_
           refine pu_ 10 28 2047 HT_ ?_
           refine pu_ 11 29 4095 HT_ ?_
           refine pu_ 12 30 8191 HT_ ?_
           refine pu_ 13 31 16383 HT_ ?_
           refine pu_ 14 32 32767 HT_ ?_
           refine pu_ 16 34 98303 HT_ ?_
           refine pu_ 19 37 622591 HT_ ?_
           refine pu_ 21 39 2719743 HT_ ?_
           refine pu_ 22 40 6914047 HT_ ?_
           refine tk_ 15 33 6946815 HT_ HW_ hHeld ?_
           refine pu_ 17 35 7077887 HT_ ?_
           refine tk_ 18 36 7340031 HT_ HW_ hHeld ?_
           refine tk_ 20 38 8388607 HT_ HW_ hHeld ?_
           refine pu_ 23 41 16777215 HT_ ?_
           refine tk_ 24 42 33554431 HT_ HW_ hHeld ?_
           refine pu_ 25 43 67108863 HT_ ?_
           refine pu_ 26 44 134217727 HT_ ?_
           refine pu_ 27 45 268435455 HT_ ?_
           refine dn_ HT_ ?_
           try go_wp2
           go_roundg k1
           case measure => have := HK1.out; omega
           case rel => exact ⟨(wrap64 (x3_1 + 1)), (by first | rfl | (simp; done) | (simp [*]; done)), H', ⟨by have := HK1.out; omega⟩, ⟨pB BK148⟩, ⟨pH HB⟩⟩
         ·rw [if_neg c14] at H
          exact absurd H (by simp)
        ·rw [if_neg c13] at H
         exact absurd H (by simp)
       ·rw [if_neg c11] at H
        have c11b0 : decide (0 < x3_1) = false := decide_eq_false c11
        clear c11
        have H' := Aside0.mk H
        clear H
        have hcz20_0 : wr.cell? ⟨gb148, 0, none⟩ = some (.int .i64 a0_0) := cB BK148 0
        have hcz20_1 : wr.cell? ⟨gb148, 1, none⟩ = some (.slice A0_1 l0_1.length c0_1) := cB BK148 1
        have hfz20_0 := zB BK148 0
        have hfz20_1 := zB BK148 1
        try go_wp2
        replace BK148 := dB BK148
        replace HB := dH HB
        have p150 : 0 ≤ (x3_1 : Int) := of_decide_eq_true (by first | (with_reducible assumption) | assumption)
        have q150 : x3_1 < (l0_1.length : Int) := of_decide_eq_true (by first | (with_reducible assumption) | assumption)
        obtain ⟨ad150, e150, hx150_0⟩ := Kd.at_int HR0_1.out x3_1 p150 q150
        have hw150_0 := hx150_0
        cases e150
        replace hx150_0 := cH HB hx150_0
        replace p150 := eq_true p150
        replace q150 := eq_true q150
        refine st_ 28 (S := fun w' => w'.cell? ⟨gb148, 0, none⟩ = some (.int .i64 a0_0) ∧ w'.cell? ⟨gb148, 1, none⟩ = some (.slice (some ad150) l0_1.length c0_1) ∧ w'.cell? (ad150.add (x3_1).toNat) = some (.int .i64 (rd l0_1 x3_1))) (ds := []) ⟨cB BK148 0, cB BK148 1, (cH HB hw150_0 :)⟩ (fun hHeld => ?_); refine with_tabW spec_l01Is.tab6 spec_l01Is.bits6 (fun HT_ HW_ => ?_)
        generalize wr.drew = w21 at BK148 HB hx150_0 hHeld ⊢
        refine pu_ 0 18 1 HT_ ?_
        refine pu_ 2 20 5 HT_ ?_
        refine pu_ 5 23 37 HT_ ?_
        refine tk_ 1 19 39 HT_ HW_ hHeld ?_
        refine pu_ 3 21 47 HT_ ?_
        refine tk_ 4 22 63 HT_ HW_ hHeld ?_
        refine tk_ 6 24 127 HT_ HW_ hHeld ?_
        refine on_ 7 (some 25) 255 HT_ (fun K hK => ?_)
        refine ca_ Try.func100 #[.int .i64 a0_0] ?_
        with_reducible refine (spec_l01All.calls a0_0 t151 _ A8.out).mono ?_
        rintro e w' ⟨rfl, ⟨nd, rfl⟩⟩
        refine ⟨_, rfl, ?_⟩
        refine hK.out _ _ ⟨cB BK148 0, cB BK148 1, (cH HB hw150_0 :)⟩ (fun hHeld => ?_)
        clear hK K
        refine nm_ ?_
        refine on_ 8 (some 26) 511 HT_ (fun K hK => ?_)
        refine ca_ Try.func52 #[.int .i64 (rd l0_1 x3_1), .int .i64 1, .int .i64 t151] ?_
        with_reducible refine (spec_l01In.calls (rd l0_1 x3_1) 1 t151 true _ A9.out).mono ?_
        rintro e w' ⟨rfl, ⟨nd, rfl⟩⟩
        refine ⟨_, rfl, ?_⟩
        refine hK.out _ _ ⟨cB BK148 0, cB BK148 1, (cH HB hw150_0 :)⟩ (fun hHeld => ?_)
        clear hK K
        refine nm_ ?_
        refine pu_ 9 27 1023 HT_ ?_
        refine pu_ 10 28 2047 HT_ ?_
        refine pu_ 11 29 4095 HT_ ?_
        refine pu_ 12 30 8191 HT_ ?_
        refine pu_ 13 31 16383 HT_ ?_
        refine pn_ 14 32 32767 HT_ ?_
        refine pn_ 15 33 65535 HT_ ?_
        refine pn_ 16 34 131071 HT_ ?_
        refine pn_ 17 35 262143 HT_ ?_
        refine pn_ 18 36 524287 HT_ ?_
        refine pn_ 19 37 1048575 HT_ ?_
        refine pn_ 20 38 2097151 HT_ ?_
        refine pn_ 21 39 4194303 HT_ ?_
        refine pn_ 22 40 8388607 HT_ ?_
        refine pn_ 23 41 16777215 HT_ ?_
        refine pn_ 24 42 33554431 HT_ ?_
        refine pn_ 25 43 67108863 HT_ ?_
        refine pu_ 26 44 134217727 HT_ ?_
        refine pu_ 27 45 268435455 HT_ ?_
        refine dn_ HT_ ?_
        try go_wp2
        go_roundg k1
        case measure => have := HK1.out; omega
        case rel => exact ⟨(wrap64 (x3_1 + 1)), (by first | rfl | (simp; done) | (simp [*]; done)), H', ⟨by have := HK1.out; omega⟩, ⟨pB BK148⟩, ⟨pH HB⟩⟩
      ·replace c10 := Bool.eq_false_iff.mpr c10
       subst c10
       have H1 : (some false) = some r := by rw [if_neg (show ¬ (false = true) by decide)] at H; exact H
       clear H
       have H := H1
       clear H1
       obtain rfl := Option.some.inj H
       have hcz22_0 : wr.cell? ⟨gb148, 0, none⟩ = some (.int .i64 a0_0) := cB BK148 0
       have hcz22_1 : wr.cell? ⟨gb148, 1, none⟩ = some (.slice A0_1 l0_1.length c0_1) := cB BK148 1
       have hfz22_0 := zB BK148 0
       have hfz22_1 := zB BK148 1
       try go_wp2
       replace BK148 := dB BK148
       replace HB := dH HB
       have p150 : 0 ≤ (x3_1 : Int) := of_decide_eq_true (by first | (with_reducible assumption) | assumption)
       have q150 : x3_1 < (l0_1.length : Int) := of_decide_eq_true (by first | (with_reducible assumption) | assumption)
       obtain ⟨ad150, e150, hx150_0⟩ := Kd.at_int HR0_1.out x3_1 p150 q150
       have hw150_0 := hx150_0
       cases e150
       replace hx150_0 := cH HB hx150_0
       replace p150 := eq_true p150
       replace q150 := eq_true q150
       refine st_ 28 (S := fun w' => w'.cell? ⟨gb148, 0, none⟩ = some (.int .i64 a0_0) ∧ w'.cell? ⟨gb148, 1, none⟩ = some (.slice (some ad150) l0_1.length c0_1) ∧ w'.cell? (ad150.add (x3_1).toNat) = some (.int .i64 (rd l0_1 x3_1))) (ds := []) ⟨cB BK148 0, cB BK148 1, (cH HB hw150_0 :)⟩ (fun hHeld => ?_); refine with_tabW spec_l01Is.tab6 spec_l01Is.bits6 (fun HT_ HW_ => ?_)
       generalize wr.drew = w23 at BK148 HB hx150_0 hHeld ⊢
       refine pu_ 0 18 1 HT_ ?_
       refine pu_ 2 20 5 HT_ ?_
       refine pu_ 5 23 37 HT_ ?_
       refine tk_ 1 19 39 HT_ HW_ hHeld ?_
       refine pu_ 3 21 47 HT_ ?_
       refine tk_ 4 22 63 HT_ HW_ hHeld ?_
       refine tk_ 6 24 127 HT_ HW_ hHeld ?_
       refine on_ 7 (some 25) 255 HT_ (fun K hK => ?_)
       refine ca_ Try.func100 #[.int .i64 a0_0] ?_
       with_reducible refine (spec_l01All.calls a0_0 t151 _ A8.out).mono ?_
       rintro e w' ⟨rfl, ⟨nd, rfl⟩⟩
       refine ⟨_, rfl, ?_⟩
       refine hK.out _ _ ⟨cB BK148 0, cB BK148 1, (cH HB hw150_0 :)⟩ (fun hHeld => ?_)
       clear hK K
       refine nm_ ?_
       refine on_ 8 (some 26) 511 HT_ (fun K hK => ?_)
       refine ca_ Try.func52 #[.int .i64 (rd l0_1 x3_1), .int .i64 1, .int .i64 t151] ?_
       with_reducible refine (spec_l01In.calls (rd l0_1 x3_1) 1 t151 false _ A9.out).mono ?_
       rintro e w' ⟨rfl, ⟨nd, rfl⟩⟩
       refine ⟨_, rfl, ?_⟩
       refine hK.out _ _ ⟨cB BK148 0, cB BK148 1, (cH HB hw150_0 :)⟩ (fun hHeld => ?_)
       clear hK K
       refine nm_ ?_
       refine pu_ 9 27 1023 HT_ ?_
       refine pu_ 10 28 2047 HT_ ?_
       refine pn_ 11 29 4095 HT_ ?_
       refine pn_ 12 30 8191 HT_ ?_
       refine pn_ 13 31 16383 HT_ ?_
       refine pn_ 14 32 32767 HT_ ?_
       refine pn_ 15 33 65535 HT_ ?_
       refine pn_ 16 34 131071 HT_ ?_
       refine pn_ 17 35 262143 HT_ ?_
       refine pn_ 18 36 524287 HT_ ?_
       refine pn_ 19 37 1048575 HT_ ?_
       refine pn_ 20 38 2097151 HT_ ?_
       refine pn_ 21 39 4194303 HT_ ?_
       refine pn_ 22 40 8388607 HT_ ?_
       refine pn_ 23 41 16777215 HT_ ?_
       refine pn_ 24 42 33554431 HT_ ?_
       refine pn_ 25 43 67108863 HT_ ?_
       refine pn_ 26 44 134217727 HT_ ?_
       refine pu_ 27 45 268435455 HT_ ?_
       refine dn_ HT_ ?_
       try go_wp2
       go_ret
       exact ⟨by first | rfl | (simp [errW_none, errW_some] <;> rfl) | (simp [*, errW_none, errW_some] <;> rfl) | (exfalso; simp_all), pH HB⟩
     ·rw [if_neg c7] at H
      exact absurd H (by simp)
    ·rw [if_neg c6] at H
     have c6b0 : decide (x3_1 < (l0_1.length : Int)) = false := decide_eq_false c6
     clear c6
     have H' := Aside0.mk H
     clear H
     have hcz24_0 : wr.cell? ⟨gb148, 0, none⟩ = some (.int .i64 a0_0) := cB BK148 0
     have hcz24_1 : wr.cell? ⟨gb148, 1, none⟩ = some (.slice A0_1 l0_1.length c0_1) := cB BK148 1
     have hfz24_0 := zB BK148 0
     have hfz24_1 := zB BK148 1
     go_wp2
     go_loopg [4] k1 (fun kq v4 w' => ∃ (x4_2 : Int), v4 = .int .i64 x4_2 ∧ Aside0 (spec_l01Is.l1 kq x4_2 a0_0 l0_1 = some r) ∧ Aside0 (kq ≤ k1) ∧ Aside0 (w'.heap[gb148]? = some (.cells #[.int .i64 a0_0, (.slice A0_1 l0_1.length c0_1)] 28 (0, 0))) ∧ Aside0 (Below w.heap.size w w'))
     case atStart => exact ⟨(0), (by first | rfl | (simp; done) | (simp [*]; done)), H', ⟨Nat.le_refl _⟩, ⟨pB BK148⟩, ⟨pH HB⟩⟩
     case round =>
      clear H'
      try clear c1
      try clear p1
      try clear q1
      try clear hx1
      try clear p2
      try clear c5
      try clear c6
      try clear c6b0
      try clear p6
      try clear c7
      try clear c10
      try clear c11
      try clear c11b0
      try clear c13
      try clear c14
      try clear p15
      try clear q15
      try clear hx15
      try clear hcz20_0
      try clear hcz20_1
      try clear hcz22_0
      try clear hcz22_1
      try clear hcz24_0
      try clear hcz24_1
      try clear hfz20_0
      try clear hfz20_1
      try clear hfz22_0
      try clear hfz22_1
      try clear hfz24_0
      try clear hfz24_1
      try clear hx150_0
      try clear p150
      try clear q150
      obtain ⟨x4_2, rfl, HA, HK2, BK148, HB⟩ := hrel
      cases gk with
      | zero => exact absurd HA.out (by simp [spec_l01Is.l1])
      | succ k2 =>
       have H := HA.out
       clear HA
       simp only [spec_l01Is.l1] at H
       by_cases c25 : x4_2 < (l0_1.length : Int)
       ·rw [if_pos c25] at H
        have c25b0 : decide (x4_2 < (l0_1.length : Int)) = true := decide_eq_true c25
        clear c25
        by_cases c26 : 0 ≤ x4_2
        ·rw [if_pos c26] at H
         have c26b0 : decide (0 ≤ x4_2) = true := decide_eq_true c26
         clear c26
         replace H := Option.bind_eq_some_iff.mp H
         obtain ⟨t156, A270, H⟩ := H
         try dsimp only at H
         have A27 := Aside0.mk A270
         clear A270
         have H' := Aside0.mk H
         clear H
         have hcz28_0 : wr.cell? ⟨gb148, 0, none⟩ = some (.int .i64 a0_0) := cB BK148 0
         have hcz28_1 : wr.cell? ⟨gb148, 1, none⟩ = some (.slice A0_1 l0_1.length c0_1) := cB BK148 1
         have hfz28_0 := zB BK148 0
         have hfz28_1 := zB BK148 1
         have p155 : 0 ≤ (x4_2 : Int) := of_decide_eq_true (by first | (with_reducible assumption) | assumption)
         have q155 : x4_2 < (l0_1.length : Int) := of_decide_eq_true (by first | (with_reducible assumption) | assumption)
         obtain ⟨ad155, e155, hx155_0⟩ := Kd.at_int HR0_1.out x4_2 p155 q155
         cases e155
         replace hx155_0 := cH HB hx155_0
         replace p155 := eq_true p155
         replace q155 := eq_true q155
         go_wp2_with (first | ((with_reducible refine gate_callee (f := 101) rfl ?_); refine cl_ (some 58) Try.func101 #[.int .i64 (rd l0_1 x4_2)] ?_; (with_reducible refine (spec_l01Below.calls k2 (rd l0_1 x4_2) t156 _ A27.out).mono ?_); rintro e w29 ⟨v157, rfl, ho0, hb⟩; refine ⟨_, rfl, ?_⟩; have HO158 := Aside0.mk (Kd.R_lower ho0 (below_size (pH HB))); replace BK148 := sB BK148 hb; replace HB := sH HB hb; (try clear hb); (try clear hi); (try clear ho0)))
         go_loopg [6] k2 (fun kq v6 w' => ∃ (x6_3 : Int), v6 = .int .i64 x6_3 ∧ Aside0 (spec_l01Is.l2 kq x4_2 t156 x6_3 a0_0 l0_1 = some r) ∧ Aside0 (kq ≤ k2) ∧ Aside0 (Kd.R (Kd.int .i64) 2 w' w.heap.size (fun _ => True) v157 t156) ∧ Aside0 (w'.heap[gb148]? = some (.cells #[.int .i64 a0_0, (.slice (some ad155) l0_1.length c0_1)] 28 (0, 0))) ∧ Aside0 (Below w.heap.size w w'))
         case atStart => exact ⟨(0), (by first | rfl | (simp; done) | (simp [*]; done)), H', ⟨Nat.le_refl _⟩, ⟨by (with_reducible repeat (first | apply Kd.R_alloc | apply Kd.R_drewN | apply Kd.R_drew)); exact HO158.out⟩, ⟨pB BK148⟩, ⟨pH HB⟩⟩
         case round =>
          clear H'
          try clear c1
          try clear p1
          try clear q1
          try clear hx1
          try clear c2
          try clear p2
          try clear c5
          try clear c6
          try clear c6b0
          try clear p6
          try clear c7
          try clear c10
          try clear c11
          try clear c11b0
          try clear c13
          try clear c14
          try clear p15
          try clear q15
          try clear hx15
          try clear c25
          try clear c25b0
          try clear c26
          try clear c26b0
          try clear hcz20_0
          try clear hcz20_1
          try clear hcz22_0
          try clear hcz22_1
          try clear hcz24_0
          try clear hcz24_1
          try clear hcz28_0
          try clear hcz28_1
          try clear hfz20_0
          try clear hfz20_1
          try clear hfz22_0
          try clear hfz22_1
          try clear hfz24_0
          try clear hfz24_1
          try clear hfz28_0
          try clear hfz28_1
          try clear hx150_0
          try clear hx155_0
          try clear p1
          try clear p15
          try clear p150
          try clear p155
          try clear p2
          try clear p6
          try clear q1
          try clear q15
          try clear q150
          try clear q155
          obtain ⟨x6_3, rfl, HA, HK3, HO_5, BK148, HB⟩ := hrel
          cases gk with
          | zero => exact absurd HA.out (by simp [spec_l01Is.l2])
          | succ k3 =>
           have H := HA.out
           clear HA
           simp only [spec_l01Is.l2] at H
           by_cases c30 : x6_3 < (t156.length : Int)
           ·rw [if_pos c30] at H
            have c30b0 : decide (x6_3 < (t156.length : Int)) = true := decide_eq_true c30
            clear c30
            by_cases c31 : 0 ≤ x6_3
            ·rw [if_pos c31] at H
             have c31b0 : decide (0 ≤ x6_3) = true := decide_eq_true c31
             clear c31
             replace H := Option.bind_eq_some_iff.mp H
             obtain ⟨t160, A320, H⟩ := H
             try dsimp only at H
             have A32 := Aside0.mk A320
             clear A320
             by_cases c33 : t160 = true
             ·subst c33
              have H1 : (spec_l01Is.l2 k3 x4_2 t156 (wrap64 (x6_3 + 1)) a0_0 l0_1) = some r := by rw [if_pos rfl] at H; exact H
              clear H
              have H := H1
              clear H1
              have H' := Aside0.mk H
              clear H
              obtain ⟨Ao34, co34, eo34⟩ := Kd.R_slice HO_5.out
              subst eo34
              try go_wp2
              replace HO_5 := Aside0.mk (Kd.R_drew HO_5.out)
              replace BK148 := dB BK148
              replace HB := dH HB
              have p159 : 0 ≤ (x6_3 : Int) := of_decide_eq_true (by first | (with_reducible assumption) | assumption)
              have q159 : x6_3 < (t156.length : Int) := of_decide_eq_true (by first | (with_reducible assumption) | assumption)
              obtain ⟨ad159, e159, hx159_0⟩ := Kd.at_int (Kd.R_reads' HO_5.out).2.2 x6_3 p159 q159
              cases e159
              replace p159 := eq_true p159
              replace q159 := eq_true q159
              refine st_ 7 (S := fun w' => w'.cell? ⟨gb148, 0, none⟩ = some (.int .i64 a0_0) ∧ w'.cell? ⟨gb148, 1, none⟩ = some (.slice (some ad155) l0_1.length c0_1) ∧ w'.cell? (ad159.add (x6_3).toNat) = some (.int .i64 (rd t156 x6_3))) (ds := []) ⟨cB BK148 0, cB BK148 1, hx159_0⟩ (fun hHeld => ?_)
              generalize wr.drew = w35 at HO_5 BK148 HB hx159_0 hHeld ⊢
              refine pure_ (i := 1) (N := some 66) (v := ?_) (a' := ?_) (mB 7 2) rfl rfl (by kernel_rfl) (fun _ _ _ h => h) (Or.inl ⟨by rfl, ?_⟩) ?_ ?_
              rotate_left
              ·intro w'
               go_simp
               with_reducible rfl
              rotate_left
              ·simp only [Act.put, List.setIfInBounds_toArray, List.set_cons_zero, List.set_cons_succ, i64_w, i32_w]
               rfl
              refine pure_ (i := 2) (N := some 67) (v := ?_) (a' := ?_) (mB 7 6) rfl rfl (by kernel_rfl) (fun _ _ _ h => h) (Or.inl ⟨by rfl, ?_⟩) ?_ ?_
              rotate_left
              ·intro w'
               go_simp
               with_reducible rfl
              rotate_left
              ·simp only [Act.put, List.setIfInBounds_toArray, List.set_cons_zero, List.set_cons_succ, i64_w, i32_w]
               rfl
              refine pure_ (i := 3) (N := some 68) (v := ?_) (a' := ?_) (mB 7 14) rfl rfl (by kernel_rfl) (fun _ _ _ h => h) (Or.inl ⟨by rfl, ?_⟩) ?_ ?_
              rotate_left
              ·intro w'
               go_simp
               with_reducible rfl
              rotate_left
              ·simp only [Act.put, List.setIfInBounds_toArray, List.set_cons_zero, List.set_cons_succ, i64_w, i32_w]
               rfl
              refine take_ (i := 0) (N := some 65) (v := ?_) (a' := ?_) (mB 7 15) rfl rfl (by kernel_rfl) (fun _ _ _ h => h) (Or.inl ⟨by rfl, ?_⟩) hHeld ?_ ?_
              rotate_left
              ·rintro w' ⟨s0, s1, s2⟩
               go_simp
               with_reducible rfl
              rotate_left
              ·simp only [Act.put, List.setIfInBounds_toArray, List.set_cons_zero, List.set_cons_succ, i64_w, i32_w]
               rfl
              refine take_ (i := 4) (N := some 69) (v := ?_) (a' := ?_) (mB 7 31) rfl rfl (by kernel_rfl) (fun _ _ _ h => h) (Or.inl ⟨by rfl, ?_⟩) hHeld ?_ ?_
              rotate_left
              ·rintro w' ⟨s0, s1, s2⟩
               go_simp
               with_reducible rfl
              rotate_left
              ·simp only [Act.put, List.setIfInBounds_toArray, List.set_cons_zero, List.set_cons_succ, i64_w, i32_w]
               rfl
              refine one_ (i := 5) (N := some 70) (mB 7 63) rfl rfl (by kernel_rfl) (by decide) (fun K hK => ?_)
              refine ca_ Try.func102 #[.agg #[.int .i64 a0_0, .slice (some ad155) l0_1.length c0_1], .int .i64 (rd t156 x6_3)] ?_
              with_reducible refine (spec_l01Has.calls k3 a0_0 _ _ l0_1 (rd t156 x6_3) true _ ?side1 ?side2 A32.out).mono ?_
              (case side1 => exact pC ((Kd.C_below HR0_1.out HB.out)))
              (case side2 => exact HC0_1.out)
              rintro e w36 ⟨rfl, hb⟩
              have HS2_ := (hb.cell (World.block_lt_of_cell? _ _ (hHeld.2.2))).trans (hHeld.2.2)
              refine ⟨_, rfl, ?_⟩
              replace HO_5 := sR HO_5 hb
              replace BK148 := sB BK148 hb
              replace HB := sH HB hb
              (try clear hb)
              (try clear hb2)
              (try clear hk)
              (try clear hi)
              refine hK.out _ _ ⟨cB BK148 0, cB BK148 1, HS2_⟩ (fun hHeld => ?_)
              clear hK K
              refine nm_ ?_
              refine pure_ (i := 6) (N := some 71) (v := ?_) (a' := ?_) (mB 7 127) rfl rfl (by kernel_rfl) (fun _ _ _ h => h) (Or.inl ⟨by rfl, ?_⟩) ?_ ?_
              rotate_left
              ·intro w'
               go_simp
               with_reducible rfl
              rotate_left
              ·simp only [Act.put, List.setIfInBounds_toArray, List.set_cons_zero, List.set_cons_succ, i64_w, i32_w]
               rfl
              refine done_ (by kernel_rfl) ?_
              try go_wp2
              go_roundg k3
              case measure => have := HK1.out; have := HK2.out; have := HK3.out; omega
              case rel => exact ⟨(wrap64 (x6_3 + 1)), (by first | rfl | (simp; done) | (simp [*]; done)), H', ⟨by have := HK1.out; have := HK2.out; have := HK3.out; omega⟩, ⟨by (with_reducible repeat (first | apply Kd.R_alloc | apply Kd.R_drewN | apply Kd.R_drew)); exact HO_5.out⟩, ⟨pB BK148⟩, ⟨pH HB⟩⟩
             ·replace c33 := Bool.eq_false_iff.mpr c33
              subst c33
              have H1 : (some false) = some r := by rw [if_neg (show ¬ (false = true) by decide)] at H; exact H
              clear H
              have H := H1
              clear H1
              obtain rfl := Option.some.inj H
              obtain ⟨Ao37, co37, eo37⟩ := Kd.R_slice HO_5.out
              subst eo37
              try go_wp2
              replace HO_5 := Aside0.mk (Kd.R_drew HO_5.out)
              replace BK148 := dB BK148
              replace HB := dH HB
              have p159 : 0 ≤ (x6_3 : Int) := of_decide_eq_true (by first | (with_reducible assumption) | assumption)
              have q159 : x6_3 < (t156.length : Int) := of_decide_eq_true (by first | (with_reducible assumption) | assumption)
              obtain ⟨ad159, e159, hx159_0⟩ := Kd.at_int (Kd.R_reads' HO_5.out).2.2 x6_3 p159 q159
              cases e159
              replace p159 := eq_true p159
              replace q159 := eq_true q159
              refine st_ 7 (S := fun w' => w'.cell? ⟨gb148, 0, none⟩ = some (.int .i64 a0_0) ∧ w'.cell? ⟨gb148, 1, none⟩ = some (.slice (some ad155) l0_1.length c0_1) ∧ w'.cell? (ad159.add (x6_3).toNat) = some (.int .i64 (rd t156 x6_3))) (ds := []) ⟨cB BK148 0, cB BK148 1, hx159_0⟩ (fun hHeld => ?_)
              generalize wr.drew = w38 at HO_5 BK148 HB hx159_0 hHeld ⊢
              refine pure_ (i := 1) (N := some 66) (v := ?_) (a' := ?_) (mB 7 2) rfl rfl (by kernel_rfl) (fun _ _ _ h => h) (Or.inl ⟨by rfl, ?_⟩) ?_ ?_
              rotate_left
              ·intro w'
               go_simp
               with_reducible rfl
              rotate_left
              ·simp only [Act.put, List.setIfInBounds_toArray, List.set_cons_zero, List.set_cons_succ, i64_w, i32_w]
               rfl
              refine pure_ (i := 2) (N := some 67) (v := ?_) (a' := ?_) (mB 7 6) rfl rfl (by kernel_rfl) (fun _ _ _ h => h) (Or.inl ⟨by rfl, ?_⟩) ?_ ?_
              rotate_left
              ·intro w'
               go_simp
               with_reducible rfl
              rotate_left
              ·simp only [Act.put, List.setIfInBounds_toArray, List.set_cons_zero, List.set_cons_succ, i64_w, i32_w]
               rfl
              refine pure_ (i := 3) (N := some 68) (v := ?_) (a' := ?_) (mB 7 14) rfl rfl (by kernel_rfl) (fun _ _ _ h => h) (Or.inl ⟨by rfl, ?_⟩) ?_ ?_
              rotate_left
              ·intro w'
               go_simp
               with_reducible rfl
              rotate_left
              ·simp only [Act.put, List.setIfInBounds_toArray, List.set_cons_zero, List.set_cons_succ, i64_w, i32_w]
               rfl
              refine take_ (i := 0) (N := some 65) (v := ?_) (a' := ?_) (mB 7 15) rfl rfl (by kernel_rfl) (fun _ _ _ h => h) (Or.inl ⟨by rfl, ?_⟩) hHeld ?_ ?_
              rotate_left
              ·rintro w' ⟨s0, s1, s2⟩
               go_simp
               with_reducible rfl
              rotate_left
              ·simp only [Act.put, List.setIfInBounds_toArray, List.set_cons_zero, List.set_cons_succ, i64_w, i32_w]
               rfl
              refine take_ (i := 4) (N := some 69) (v := ?_) (a' := ?_) (mB 7 31) rfl rfl (by kernel_rfl) (fun _ _ _ h => h) (Or.inl ⟨by rfl, ?_⟩) hHeld ?_ ?_
              rotate_left
              ·rintro w' ⟨s0, s1, s2⟩
               go_simp
               with_reducible rfl
              rotate_left
              ·simp only [Act.put, List.setIfInBounds_toArray, List.set_cons_zero, List.set_cons_succ, i64_w, i32_w]
               rfl
              refine one_ (i := 5) (N := some 70) (mB 7 63) rfl rfl (by kernel_rfl) (by decide) (fun K hK => ?_)
              refine ca_ Try.func102 #[.agg #[.int .i64 a0_0, .slice (some ad155) l0_1.length c0_1], .int .i64 (rd t156 x6_3)] ?_
              with_reducible refine (spec_l01Has.calls k3 a0_0 _ _ l0_1 (rd t156 x6_3) false _ ?side1 ?side2 A32.out).mono ?_
              (case side1 => exact pC ((Kd.C_below HR0_1.out HB.out)))
              (case side2 => exact HC0_1.out)
              rintro e w39 ⟨rfl, hb⟩
              have HS2_ := (hb.cell (World.block_lt_of_cell? _ _ (hHeld.2.2))).trans (hHeld.2.2)
              refine ⟨_, rfl, ?_⟩
              replace HO_5 := sR HO_5 hb
              replace BK148 := sB BK148 hb
              replace HB := sH HB hb
              (try clear hb)
              (try clear hb2)
              (try clear hk)
              (try clear hi)
              refine hK.out _ _ ⟨cB BK148 0, cB BK148 1, HS2_⟩ (fun hHeld => ?_)
              clear hK K
              refine nm_ ?_
              refine pure_ (i := 6) (N := some 71) (v := ?_) (a' := ?_) (mB 7 127) rfl rfl (by kernel_rfl) (fun _ _ _ h => h) (Or.inl ⟨by rfl, ?_⟩) ?_ ?_
              rotate_left
              ·intro w'
               go_simp
               with_reducible rfl
              rotate_left
              ·simp only [Act.put, List.setIfInBounds_toArray, List.set_cons_zero, List.set_cons_succ, i64_w, i32_w]
               rfl
              refine done_ (by kernel_rfl) ?_
              try go_wp2
              go_ret
              exact ⟨by first | rfl | (simp [errW_none, errW_some] <;> rfl) | (simp [*, errW_none, errW_some] <;> rfl) | (exfalso; simp_all), pH HB⟩
            ·rw [if_neg c31] at H
             exact absurd H (by simp)
           ·rw [if_neg c30] at H
            have c30b0 : decide (x6_3 < (t156.length : Int)) = false := decide_eq_false c30
            clear c30
            have H' := Aside0.mk H
            clear H
            obtain ⟨Ao40, co40, eo40⟩ := Kd.R_slice HO_5.out
            subst eo40
            go_wp2
            go_roundg k3
            case measure => have := HK1.out; have := HK2.out; have := HK3.out; omega
            case rel => exact ⟨(wrap64 (x4_2 + 1)), (by first | rfl | (simp; done) | (simp [*]; done)), H', ⟨by have := HK1.out; have := HK2.out; have := HK3.out; omega⟩, ⟨pB BK148⟩, ⟨pH HB⟩⟩
        ·rw [if_neg c26] at H
         exact absurd H (by simp)
       ·rw [if_neg c25] at H
        have c25b0 : decide (x4_2 < (l0_1.length : Int)) = false := decide_eq_false c25
        clear c25
        obtain rfl := Option.some.inj H
        have hcz41_0 : wr.cell? ⟨gb148, 0, none⟩ = some (.int .i64 a0_0) := cB BK148 0
        have hcz41_1 : wr.cell? ⟨gb148, 1, none⟩ = some (.slice A0_1 l0_1.length c0_1) := cB BK148 1
        have hfz41_0 := zB BK148 0
        have hfz41_1 := zB BK148 1
        go_wp2
        go_ret
        exact ⟨by first | rfl | (simp [errW_none, errW_some] <;> rfl) | (simp [*, errW_none, errW_some] <;> rfl) | (exfalso; simp_all), pH HB⟩
 ·replace c3 := Bool.eq_false_iff.mpr c3
  subst c3
  have H1 : (some false) = some r := by rw [if_neg (show ¬ (false = true) by decide)] at H; exact H
  clear H
  have H := H1
  clear H1
  obtain rfl := Option.some.inj H
  go_enter Try.func50, Try.ntmps50
  go_wp2_with (first | ((with_reducible refine gate_dst (N := 1) rfl ?_); refine box_event ?hg (N := 1) ?hd (cs := #[.int .i64 a0_0, .slice A0_1 l0_1.length c0_1]) (t := 28) ?hr ?_; (case hd => rfl); (case hg => rfl); (case hr => first | (go_simp; done) | (go_simp; rfl)); intro gb148 hg w42 hbox hb; have BK148 := Aside0.mk (hbox); have GW148 := gH HB hg; have GE148 := gH HB hg; replace HB := sH HB hb; clear hb hbox hg; have hcz43_0 : w42.cell? ⟨gb148, 0, none⟩ = some (.int .i64 a0_0) := cB BK148 0; have hcz43_1 : w42.cell? ⟨gb148, 1, none⟩ = some (.slice A0_1 l0_1.length c0_1) := cB BK148 1; have hfz43_0 := zB BK148 0; have hfz43_1 := zB BK148 1) | ((with_reducible refine gate_callee (f := 52) rfl ?_); refine cl_ (some 9) Try.func52 #[.int .i64 a0_0, .int .i64 1, .int .i64 6] ?_; (with_reducible refine (spec_l01In.calls a0_0 1 6 false _ A2.out).mono ?_); rintro e w' ⟨rfl, ⟨nd, rfl⟩⟩; refine ⟨_, rfl, ?_⟩))
  go_ret
  exact ⟨by first | rfl | (simp [errW_none, errW_some] <;> rfl) | (simp [*, errW_none, errW_some] <;> rfl) | (exfalso; simp_all), pH HB⟩
end Go.Proofs.Ytomdfjohnmikdaa.QS
namespace Go.Proofs.Ytomdfjohnmikdaa.Pu
set_option linter.unusedVariables false
set_option linter.unusedSimpArgs false
open Go.RowKit Go.Proofs.Ytomdfjohnmikdaa.QS Go.Proofs.YtomdfjohnmikdaaW.PrintWords Go.Proofs.YtomdfjohnmikdaaW.PrintLast Go.Proofs.YtomdfjohnmikdaaW.PrintMore
theorem w64 {x : Int} (h1 : -9223372036854775808 ≤ x) (h2 : x ≤ 9223372036854775807) : wrap64 x = x := by unfold wrap64; omega
theorem rd_at {l : List Int} {i : Nat} (h : i < l.length) : rd l (i : Int) = l[i] := by simp [rd, List.getD_eq_getElem?_getD, List.getElem?_eq_getElem h]
theorem sz_ints {l : List Int} (hm : l.length ≤ maxLen) {b : Int} (h0 : 0 ≤ b) (h1 : b ≤ 1048576) : laws_szInt64S.f l b = some (if b < (l.length : Int) then -1 else b - l.length) := by
  unfold laws_szInt64S.f
  simp only [maxLen] at hm
  rw [w64 (by omega) (by omega)]
  by_cases h : b < (l.length : Int)
  · rw [if_pos (by omega), if_pos h]
  · rw [if_neg (by omega), if_neg h]
theorem sz_cx {n : Int} {l : List Int} (hm : l.length ≤ maxLen) {b : Int} (h0 : 0 ≤ b) (h1 : b ≤ 1048576) : laws_szComplex.f n l b = some (if b < (l.length : Int) then -1 else b - l.length) := by
  unfold laws_szComplex.f
  rw [sz_ints hm h0 h1, Option.bind_some]
  by_cases h : b < (l.length : Int)
  · rw [if_pos h, if_pos (by omega)]
  · rw [if_neg h, if_neg (by omega)]
theorem toInt_loop (l : List Int) (hl : l.length ≤ 1048576) : ∀ d (i : Nat) (x3 : List Int) k, l.length - i = d → d < k → i ≤ l.length → x3.length = l.length → (∀ j, j < i → x3[j]? = l[j]?) → laws_toInt64S.l0 k l x3 i = some l := by
  intro d
  induction d with
  | zero =>
    intro i x3 k hd hk hi hx hj
    obtain ⟨k, rfl⟩ : ∃ m, k = m + 1 := ⟨k - 1, by omega⟩
    simp only [laws_toInt64S.l0]
    rw [if_neg (by omega)]
    congr 1
    apply List.ext_getElem?
    intro j
    rcases Nat.lt_or_ge j i with h | h
    · exact hj j h
    · rw [List.getElem?_eq_none (by omega), List.getElem?_eq_none (by omega)]
  | succ d ih =>
    intro i x3 k hd hk hi hx hj
    obtain ⟨k, rfl⟩ : ∃ m, k = m + 1 := ⟨k - 1, by omega⟩
    simp only [laws_toInt64S.l0]
    rw [if_pos (by omega), if_pos (by omega), if_pos (by omega), w64 (by omega) (by omega)]
    refine ih (i + 1) _ k (by omega) (by omega) (by omega) (by simpa using hx) (fun j hji => ?_)
    rw [Int.toNat_natCast, List.getElem?_set]
    split
    · rename_i h
      subst h
      rw [if_pos (by omega), rd_at (by omega), List.getElem?_eq_getElem (by omega)]
    · exact hj j (by omega)
theorem ev_toInt {l : List Int} (hl : l.length ≤ 1048576) : Ev (fun k => laws_toInt64S.f k l) l := by
  refine ⟨l.length + 1, fun k hk => ?_⟩
  dsimp only
  unfold laws_toInt64S.f
  rw [if_pos (by omega), if_pos (by omega)]
  exact toInt_loop l hl l.length 0 _ k (by omega) (by omega) (by omega) (by simp) (fun j hj => absurd hj (Nat.not_lt_zero _))
theorem ev_toComplex {n : Int} {l : List Int} (hl : l.length ≤ 1048576) : Ev (fun k => laws_toComplex.f k n l) (n, l) := by
  unfold laws_toComplex.f
  exact Ev.bind (f := fun _ t => some (n, t)) (ev_toInt hl) (Ev.now _)
theorem eqInt_loop (l : List Int) (hl : l.length ≤ 1048576) : ∀ d (i : Nat) k, l.length - i = d → d < k → i ≤ l.length → laws_eqInt64S.l0 k l l i = some true := by
  intro d
  induction d with
  | zero =>
    intro i k hd hk hi
    obtain ⟨k, rfl⟩ : ∃ m, k = m + 1 := ⟨k - 1, by omega⟩
    simp only [laws_eqInt64S.l0]
    rw [if_neg (by omega)]
  | succ d ih =>
    intro i k hd hk hi
    obtain ⟨k, rfl⟩ : ∃ m, k = m + 1 := ⟨k - 1, by omega⟩
    simp only [laws_eqInt64S.l0]
    rw [if_pos (by omega), if_pos (by omega), if_pos (by omega), if_pos trivial, w64 (by omega) (by omega)]
    exact ih (i + 1) k (by omega) (by omega) (by omega)
theorem ev_eqInt {l : List Int} (hl : l.length ≤ 1048576) : Ev (fun k => laws_eqInt64S.f k l l) true := by
  refine ⟨l.length + 1, fun k hk => ?_⟩
  dsimp only
  unfold laws_eqInt64S.f
  rw [if_pos rfl]
  exact eqInt_loop l hl l.length 0 k (by omega) (by omega) (by omega)
theorem ev_eqComplex {n : Int} {l : List Int} (hl : l.length ≤ 1048576) : Ev (fun k => laws_eqComplex.f k n l n l) true := by
  unfold laws_eqComplex.f
  simp only [if_true]
  exact Ev.bind (f := fun _ t => if t = true then some true else some false) (ev_eqInt hl) (by simp only [if_true]; exact Ev.now _)
def marks (m : Nat) (a : Int) : List Int := (List.range m).map fun j : Nat => a + (j : Int)
theorem marks_len (m : Nat) (a : Int) : (marks m a).length = m := by simp [marks]
theorem marks_at {m : Nat} {a : Int} {j : Nat} (h : j < m) : (marks m a)[j]? = some (a + (j : Int)) := by simp [marks, h]
theorem mark_loop (n : Nat) (hl : n ≤ 1048576) (a : Int) (ha : 0 ≤ a ∧ a ≤ 1073741824) : ∀ d (i : Nat) (x0 : List Int) k, n - i = d → d < k → i ≤ n → x0.length = n → (∀ j, j < i → x0[j]? = some (a + (j : Int))) → laws_markInt64S.l0 k x0 (a + (i : Int)) i = some (a + (n : Int), marks n a) := by
  intro d
  induction d with
  | zero =>
    intro i x0 k hd hk hi hx hj
    obtain ⟨k, rfl⟩ : ∃ m, k = m + 1 := ⟨k - 1, by omega⟩
    simp only [laws_markInt64S.l0]
    rw [if_neg (by omega), show i = n by omega]
    congr 2
    apply List.ext_getElem?
    intro j
    rcases Nat.lt_or_ge j n with h | h
    · rw [hj j (by omega), marks_at h]
    · rw [List.getElem?_eq_none (by omega), List.getElem?_eq_none (by rw [marks_len]; omega)]
  | succ d ih =>
    intro i x0 k hd hk hi hx hj
    obtain ⟨k, rfl⟩ : ∃ m, k = m + 1 := ⟨k - 1, by omega⟩
    simp only [laws_markInt64S.l0]
    rw [if_pos (by omega), if_pos (by omega), w64 (by omega) (by omega), w64 (by omega) (by omega)]
    have := ih (i + 1) (x0.set (i : Int).toNat (a + i)) k (by omega) (by omega) (by omega) (by simpa using hx) (fun j hji => ?_)
    · rw [show ((i + 1 : Nat) : Int) = (i : Int) + 1 by omega, show a + ((i : Int) + 1) = a + (i : Int) + 1 by omega] at this
      exact this
    · rw [Int.toNat_natCast, List.getElem?_set]
      split
      · rename_i h
        subst h
        rw [if_pos (by omega)]
      · exact hj j (by omega)
theorem ev_mark {l : List Int} (hl : l.length ≤ 1048576) {a : Int} (ha : 0 ≤ a ∧ a ≤ 1073741824) : Ev (fun k => laws_markInt64S.f k l a) (a + (l.length : Int), marks l.length a) := by
  refine ⟨l.length + 1, fun k hk => ?_⟩
  dsimp only
  unfold laws_markInt64S.f
  have := mark_loop l.length hl a ha l.length 0 l k (by omega) (by omega) (by omega) rfl (fun j hj => absurd hj (Nat.not_lt_zero _))
  rw [show a + ((0 : Nat) : Int) = a by omega] at this
  exact this
theorem ev_markComplex {n : Int} {l : List Int} (hl : l.length ≤ 1048576) {a : Int} (ha : 0 ≤ a ∧ a ≤ 1073741824) : Ev (fun k => laws_markComplex.f k n l a) (a + (l.length : Int), marks l.length a) := by
  unfold laws_markComplex.f
  exact Ev.bind (f := fun _ t => some (t.1, t.2)) (ev_mark hl ha) (Ev.now _)
theorem held_loop (n : Nat) (hl : n ≤ 1048576) (a : Int) (ha : 0 ≤ a ∧ a ≤ 1073741824) : ∀ d (i : Nat) k, n - i = d → d < k → i ≤ n → laws_heldInt64S.l0 k (marks n a) (a + (i : Int)) i = some (a + (n : Int)) := by
  intro d
  induction d with
  | zero =>
    intro i k hd hk hi
    obtain ⟨k, rfl⟩ : ∃ m, k = m + 1 := ⟨k - 1, by omega⟩
    simp only [laws_heldInt64S.l0]
    rw [marks_len, if_neg (by omega), show i = n by omega]
  | succ d ih =>
    intro i k hd hk hi
    obtain ⟨k, rfl⟩ : ∃ m, k = m + 1 := ⟨k - 1, by omega⟩
    simp only [laws_heldInt64S.l0]
    have h0 : rd (marks n a) (i : Int) = a + (i : Int) := by
      rw [rd_at (by rw [marks_len]; omega)]
      have := marks_at (m := n) (a := a) (j := i) (by omega)
      rw [List.getElem?_eq_getElem (by rw [marks_len]; omega)] at this
      exact Option.some.inj this
    rw [marks_len, if_pos (by omega), if_pos (by omega), if_pos h0, w64 (by omega) (by omega), w64 (by omega) (by omega)]
    have := ih (i + 1) k (by omega) (by omega) (by omega)
    rw [show ((i + 1 : Nat) : Int) = (i : Int) + 1 by omega, show a + ((i : Int) + 1) = a + (i : Int) + 1 by omega] at this
    exact this
theorem ev_held {n : Nat} (hl : n ≤ 1048576) {a : Int} (ha : 0 ≤ a ∧ a ≤ 1073741824) : Ev (fun k => laws_heldInt64S.f k (marks n a) a) (a + (n : Int)) := by
  refine ⟨n + 1, fun k hk => ?_⟩
  dsimp only
  unfold laws_heldInt64S.f
  have := held_loop n hl a ha n 0 k (by omega) (by omega) (by omega)
  rw [show a + ((0 : Nat) : Int) = a by omega] at this
  exact this
end Go.Proofs.Ytomdfjohnmikdaa.Pu
namespace Go.Proofs.Ytomdfjohnmikdaa.Pu
set_option linter.unusedVariables false
set_option linter.unusedSimpArgs false
open Go.RowKit Go.Proofs.Ytomdfjohnmikdaa.QS Go.Proofs.Ytomdfjohnmikdaa.Im Go.Proofs.YtomdfjohnmikdaaW.PrintWords Go.Proofs.YtomdfjohnmikdaaW.PrintLast Go.Proofs.YtomdfjohnmikdaaW.PrintMore
theorem in_eq (a b c : Int) : spec_l01In.f a b c = some (withinB a b c) := by
  unfold spec_l01In.f withinB
  by_cases h : a ≥ b
  · rw [if_pos h, decide_eq_true (show b ≤ a by omega)]; rfl
  · rw [if_neg h, decide_eq_false (show ¬ b ≤ a by omega)]; rfl
theorem all_eq {n : Int} (h1 : 1 ≤ n) (h6 : n ≤ 6) : spec_l01All.f n = some (fullZ n) := by
  obtain rfl | rfl | rfl | rfl | rfl | rfl : n = 1 ∨ n = 2 ∨ n = 3 ∨ n = 4 ∨ n = 5 ∨ n = 6 := by omega
  all_goals decide +kernel
theorem below_all : ((List.range 64).all fun f => f == 0 || spec_l01Below.f 70 (f : Int) == some (bordersL (f : Int))) = true := by decide +kernel
theorem ev_below {f : Int} (h1 : 1 ≤ f) (h2 : f ≤ 63) : Ev (fun k => spec_l01Below.f k f) (bordersL f) := by
  obtain ⟨m, rfl⟩ := Int.eq_ofNat_of_zero_le (show 0 ≤ f by omega)
  have h := List.all_eq_true.1 below_all m (List.mem_range.2 (by omega))
  have h0 : (m == 0) = false := by simp; omega
  rw [h0, Bool.false_or] at h
  exact Ev.of (fun k => spec_l01Below.mono _ k) (k := 70) (by simpa using h)
theorem has_loop (n x : Int) (l : List Int) (hl : l.length ≤ maxLen) : ∀ d (i : Nat) k, l.length - i = d → d < k → i ≤ l.length → spec_l01Has.l0 k x i n l = some (decide (x ∈ l.drop i)) := by
  simp only [maxLen] at hl
  intro d
  induction d with
  | zero =>
    intro i k hd hk hi
    obtain ⟨k, rfl⟩ : ∃ m, k = m + 1 := ⟨k - 1, by omega⟩
    simp only [spec_l01Has.l0]
    rw [if_neg (by omega), List.drop_eq_nil_of_le (by omega)]
    rfl
  | succ d ih =>
    intro i k hd hk hi
    obtain ⟨k, rfl⟩ : ∃ m, k = m + 1 := ⟨k - 1, by omega⟩
    simp only [spec_l01Has.l0]
    rw [if_pos (by omega), if_pos (by omega), rd_at (show i < l.length by omega), List.drop_eq_getElem_cons (show i < l.length by omega)]
    by_cases hx : l[i] = x
    · rw [if_pos hx, hx]; simp
    · rw [if_neg hx, w64 (by omega) (by omega)]
      have := ih (i + 1) k (by omega) (by omega) (by omega)
      rw [show ((i + 1 : Nat) : Int) = (i : Int) + 1 by omega] at this
      rw [this]
      exact congrArg some (decide_eq_decide.2 ⟨fun h => List.mem_cons.2 (Or.inr h), fun h => (List.mem_cons.1 h).resolve_left (Ne.symm hx)⟩)
theorem ev_has {l : List Int} (hl : l.length ≤ maxLen) (n x : Int) : Ev (fun k => spec_l01Has.f k n l x) (decide (x ∈ l)) := by
  refine ⟨l.length + 1, fun k hk => ?_⟩
  dsimp only
  unfold spec_l01Has.f
  have := has_loop n x l hl l.length 0 k (by omega) (by omega) (by omega)
  rwa [List.drop_zero] at this
theorem is_l2 (n : Int) (l b : List Int) (hl : l.length ≤ maxLen) (hb : b.length ≤ maxLen) (x4 : Int) (R : Bool) (hR : Ev (fun k => spec_l01Is.l1 k (wrap64 (x4 + 1)) n l) R) :
    ∀ d (j : Nat), b.length - j = d → j ≤ b.length → Ev (fun k => spec_l01Is.l2 k x4 b j n l) (((b.drop j).all fun y => decide (y ∈ l)) && R) := by
  simp only [maxLen] at hb
  intro d
  induction d with
  | zero =>
    intro j hd hj
    refine Ev.step (f := fun k => spec_l01Is.l1 k (wrap64 (x4 + 1)) n l) (fun k => ?_) ?_
    · simp only [spec_l01Is.l2]; rw [if_neg (by omega)]
    · rw [List.drop_eq_nil_of_le (by omega)]; exact hR
  | succ d ih =>
    intro j hd hj
    refine Ev.step (f := fun k => (spec_l01Has.f k n l b[j]).bind fun t => if t = true then spec_l01Is.l2 k x4 b ((j + 1 : Nat) : Int) n l else some false) (fun k => ?_) ?_
    · simp only [spec_l01Is.l2]
      rw [if_pos (by omega), if_pos (by omega), rd_at (show j < b.length by omega), w64 (by omega) (by omega), show ((j + 1 : Nat) : Int) = (j : Int) + 1 by omega]
    · refine Ev.bind (ev_has hl n b[j]) ?_
      rw [List.drop_eq_getElem_cons (show j < b.length by omega), List.all_cons]
      by_cases hm : b[j] ∈ l
      · rw [decide_eq_true hm]
        simp only [if_true, Bool.true_and]
        exact ih (j + 1) (by omega) (by omega)
      · rw [decide_eq_false hm]
        simp only [Bool.false_and]
        exact Ev.now _
theorem borders_len6 {f : Int} : (bordersL f).length ≤ 6 := by
  unfold bordersL
  refine Nat.le_trans (bordersOf_len _ _) ?_
  rw [upto_length]
  exact verts_len f
theorem is_l1 (n : Int) (l : List Int) (hl : l.length ≤ maxLen) (hr : ∀ x ∈ l, 1 ≤ x ∧ x ≤ 63) :
    ∀ d (i : Nat), l.length - i = d → i ≤ l.length → Ev (fun k => spec_l01Is.l1 k i n l) ((l.drop i).all fun f => (bordersL f).all fun y => decide (y ∈ l)) := by
  have hl' := hl
  simp only [maxLen] at hl'
  intro d
  induction d with
  | zero =>
    intro i hd hi
    refine Ev.step (f := fun k => some true) (fun k => ?_) ?_
    · simp only [spec_l01Is.l1]; rw [if_neg (by omega)]
    · rw [List.drop_eq_nil_of_le (by omega)]; exact Ev.now _
  | succ d ih =>
    intro i hd hi
    have hi' : i < l.length := by omega
    refine Ev.step (f := fun k => (spec_l01Below.f k l[i]).bind fun t => spec_l01Is.l2 k i t 0 n l) (fun k => ?_) ?_
    · simp only [spec_l01Is.l1]
      rw [if_pos (by omega), if_pos (by omega), rd_at hi']
    · have hx := hr l[i] (List.getElem_mem hi')
      refine Ev.bind (ev_below hx.1 hx.2) ?_
      have h1 := ih (i + 1) (by omega) (by omega)
      rw [show ((i + 1 : Nat) : Int) = wrap64 ((i : Int) + 1) by rw [w64 (by omega) (by omega)]; omega] at h1
      have h2 := is_l2 n l (bordersL l[i]) hl (by have := @borders_len6 l[i]; simp only [maxLen]; omega) i _ h1 _ 0 rfl (Nat.zero_le _)
      rw [List.drop_zero] at h2
      rw [List.drop_eq_getElem_cons hi', List.all_cons]
      exact h2
theorem is_l0 (n : Int) (h1 : 1 ≤ n) (h6 : n ≤ 6) (l : List Int) (hl : l.length ≤ maxLen) :
    ∀ d (i : Nat), l.length - i = d → i ≤ l.length → (∀ j, j < i → okAt n l j = true) → Ev (fun k => spec_l01Is.l0 k i n l) (ascB n l && closedB l) := by
  have hl' := hl
  simp only [maxLen] at hl'
  have hF := fullZ_le h1 h6
  intro d
  induction d with
  | zero =>
    intro i hd hi hj
    refine Ev.step (f := fun k => spec_l01Is.l1 k 0 n l) (fun k => ?_) ?_
    · simp only [spec_l01Is.l0]; rw [if_neg (by omega)]
    · have ha : ∀ j, j < l.length → okAt n l j = true := fun j h => hj j (by omega)
      rw [ascB_yes ha, Bool.true_and]
      have hr : ∀ x ∈ l, 1 ≤ x ∧ x ≤ 63 := by
        intro x hx
        obtain ⟨j, hj', rfl⟩ := List.mem_iff_getElem.1 hx
        have := ha j hj'
        simp only [okAt, withinB, Bool.and_eq_true, decide_eq_true_eq, List.getElem?_eq_getElem hj', Option.getD_some] at this
        omega
      have := is_l1 n l hl hr l.length 0 (by omega) (Nat.zero_le _)
      rw [List.drop_zero] at this
      exact this
  | succ d ih =>
    intro i hd hi hj
    have hi' : i < l.length := by omega
    refine Ev.step (f := fun k => if okAt n l i = true then spec_l01Is.l0 k ((i + 1 : Nat) : Int) n l else some false) (fun k => ?_) ?_
    · simp only [spec_l01Is.l0]
      rw [if_pos (by omega), if_pos (by omega), all_eq h1 h6]
      simp only [Option.bind_some, in_eq, rd_at hi']
      have hg : l[i]?.getD 0 = l[i] := by rw [List.getElem?_eq_getElem hi']; rfl
      unfold okAt
      rw [hg]
      rw [show wrap64 ((i : Int) + 1) = ((i + 1 : Nat) : Int) by rw [w64 (by omega) (by omega)]; omega]
      cases hw : withinB l[i] 1 (fullZ n) with
      | false => simp
      | true =>
        simp only [if_true, Bool.true_and]
        rcases Nat.eq_zero_or_pos i with hz | hz
        · subst hz; simp
        · have hp : l[i - 1]?.getD 0 = l[i - 1] := by rw [List.getElem?_eq_getElem (by omega)]; rfl
          have hb : (i == 0) = false := by simp; omega
          rw [if_pos (by omega), w64 (by omega) (by omega), if_pos (by omega), if_pos (by omega), hp, hb, Bool.false_or, show ((i : Int) - 1) = ((i - 1 : Nat) : Int) by omega, rd_at (show i - 1 < l.length by omega)]
          by_cases hle : l[i] ≤ l[i - 1]
          · rw [if_pos hle, decide_eq_false (by omega)]; simp
          · rw [if_neg hle, decide_eq_true (by omega)]; simp
    · cases ho : okAt n l i with
      | true =>
        simp only [if_true]
        exact ih (i + 1) (by omega) (by omega) (okAt_next hj ho)
      | false =>
        rw [ascB_no hi' ho]
        simp only [Bool.false_and]
        exact Ev.now _
/-- IsComplex, the reference's. -/
theorem ev_is (n : Int) {l : List Int} (hl : l.length ≤ maxLen) : Ev (fun k => spec_l01Is.f k n l) (isC n l) := by
  unfold spec_l01Is.f isC
  simp only [in_eq, Option.bind_some]
  cases hw : withinB n 1 6 with
  | false => simp only [Bool.false_and]; exact Ev.now _
  | true =>
    simp only [if_true, Bool.true_and]
    have hn : 1 ≤ n ∧ n ≤ 6 := by simpa [withinB] using hw
    exact is_l0 n hn.1 hn.2 l hl l.length 0 (by omega) (Nat.zero_le _) (fun j hj => absurd hj (Nat.not_lt_zero _))
end Go.Proofs.Ytomdfjohnmikdaa.Pu
namespace Go.Proofs.Ytomdfjohnmikdaa.QS
open Go.Proofs.Ytomdfjohnmikdaa.Cw Go.Proofs.Ytomdfjohnmikdaa.Kp Go.Proofs.Ytomdfjohnmikdaa.Ext Go.RowKit Go.Proofs.YtomdfjohnmikdaaW.PrintWords Go.Proofs.YtomdfjohnmikdaaW.PrintLast Go.Proofs.YtomdfjohnmikdaaW.PrintMore
attribute [local go_sem] max2_int min2_int max_two min_two max_three min_three max_four min_four   -- for this text's walks alone
set_option linter.unusedVariables false
set_option linter.unusedSimpArgs false
end Go.Proofs.Ytomdfjohnmikdaa.QS
namespace Go.Proofs.Ytomdfjohnmikdaa.QS
open Go.Proofs.Ytomdfjohnmikdaa.Cw Go.Proofs.Ytomdfjohnmikdaa.Kp Go.Proofs.Ytomdfjohnmikdaa.Ext Go.RowKit Go.Proofs.YtomdfjohnmikdaaW.PrintWords Go.Proofs.YtomdfjohnmikdaaW.PrintLast Go.Proofs.YtomdfjohnmikdaaW.PrintMore
attribute [local go_sem] max2_int min2_int max_two min_two max_three min_three max_four min_four   -- for this text's walks alone
set_option linter.unusedVariables false
set_option linter.unusedSimpArgs false
end Go.Proofs.Ytomdfjohnmikdaa.QS
namespace Go.Proofs.Ytomdfjohnmikdaa.Pu
set_option linter.unusedVariables false
set_option linter.unusedSimpArgs false
open Go.RowKit Go.Proofs.Ytomdfjohnmikdaa.QS Go.Proofs.Ytomdfjohnmikdaa.Im Go.Proofs.YtomdfjohnmikdaaW.PrintWords Go.Proofs.YtomdfjohnmikdaaW.PrintLast Go.Proofs.YtomdfjohnmikdaaW.PrintMore
theorem ones_all : ((List.range 64).all fun f => spec_l01Ones.f 8 (f : Int) == some (onesZ (f : Int))) = true := by decide +kernel
theorem ev_ones {x : Int} (h0 : 0 ≤ x) (h6 : x ≤ 63) : Ev (fun k => spec_l01Ones.f k x) (onesZ x) := by
  obtain ⟨m, rfl⟩ := Int.eq_ofNat_of_zero_le h0
  exact Ev.of (fun k => spec_l01Ones.mono _ k) (eq_of_beq (List.all_eq_true.1 ones_all m (List.mem_range.2 (by omega))))
theorem ones_le (x : Int) : 0 ≤ onesZ x ∧ onesZ x ≤ 6 := by
  have : (verts x).length ≤ 6 := verts_len x
  unfold onesZ; omega
end Go.Proofs.Ytomdfjohnmikdaa.Pu
namespace Go.Proofs.Ytomdfjohnmikdaa.QS
open Go.Proofs.Ytomdfjohnmikdaa.Cw Go.Proofs.Ytomdfjohnmikdaa.Kp Go.Proofs.Ytomdfjohnmikdaa.Ext Go.RowKit Go.Proofs.YtomdfjohnmikdaaW.PrintWords Go.Proofs.YtomdfjohnmikdaaW.PrintLast Go.Proofs.YtomdfjohnmikdaaW.PrintMore
attribute [local go_sem] max2_int min2_int max_two min_two max_three min_three max_four min_four   -- for this text's walks alone
set_option linter.unusedVariables false
set_option linter.unusedSimpArgs false
def spec_l01Dim.l0 : Nat → Int → Int → Int → List Int → Option (Int)
 | 0, _, _, _, _ => none
 | k + 1, x3, x4, x162000, x162001 => if x4 < (x162001.length : Int) then (if 0 ≤ x4 then ((spec_l01Ones.f k (rd x162001 x4)).bind fun t163 => (spec_l01Dim.l0 k (mx x3 (wrap64 (t163 - 1))) (wrap64 (x4 + 1)) x162000 x162001)) else (none)) else (some x3)
def spec_l01Dim.f (k : Nat) (a0_0 : Int) (l0_1 : List Int) : Option (Int) := spec_l01Dim.l0 k (-1) 0 a0_0 l0_1
theorem spec_l01Dim.mono_l : ∀ k, (∀ y0 y1 y2 y3, LeO (spec_l01Dim.l0 k y0 y1 y2 y3) (spec_l01Dim.l0 (k + 1) y0 y1 y2 y3))
 | 0 => fun _ _ _ _ r h => by simp [spec_l01Dim.l0] at h
 | k + 1 => by
  have ih0 := spec_l01Dim.mono_l k
  ·intro y0 y1 y2 y3
   unfold spec_l01Dim.l0
   repeat' first
   | (with_reducible exact ih0 _ _ _ _)
   | (with_reducible exact spec_l01Ones.mono _ _)
   | (with_reducible exact LeO.refl _)
   | (with_reducible exact LeO.none _)
   | (with_reducible refine LeO.ite ?_ ?_)
   | (with_reducible refine LeO.bind ?_ (fun _ => ?_))
   | exact ih0 _ _ _ _
   | exact spec_l01Ones.mono _ _
   | exact LeO.none _
   | refine LeO.ite ?_ ?_
   | refine LeO.bind ?_ (fun _ => ?_)
theorem spec_l01Dim.mono : ∀ a0 a1 k, LeO (spec_l01Dim.f k a0 a1) (spec_l01Dim.f (k + 1) a0 a1) := by
 intro a0 a1 k
 have ih0 := spec_l01Dim.mono_l k
 unfold spec_l01Dim.f
 repeat' first
   | (with_reducible exact ih0 _ _ _ _)
   | (with_reducible exact spec_l01Ones.mono _ _)
   | (with_reducible exact LeO.refl _)
   | (with_reducible exact LeO.none _)
   | (with_reducible refine LeO.ite ?_ ?_)
   | (with_reducible refine LeO.bind ?_ (fun _ => ?_))
   | exact ih0 _ _ _ _
   | exact spec_l01Ones.mono _ _
   | exact LeO.none _
   | refine LeO.ite ?_ ?_
   | refine LeO.bind ?_ (fun _ => ?_)
set_option maxHeartbeats 8000000 in
set_option maxRecDepth 100000 in
theorem spec_l01Dim.calls (k : Nat) (a0_0 : Int) (A0_1 : Option Addr) (c0_1 : Nat) (l0_1 : List Int) (r : Int) (w : World) (hr0_1 : Kd.C (Kd.int .i64) w A0_1 l0_1.length l0_1) (hc0_1 : l0_1.length ≤ c0_1) (h : spec_l01Dim.f k a0_0 l0_1 = some r) :
  Calls Try.prog 103 #[.agg #[.int .i64 a0_0, .slice A0_1 l0_1.length c0_1]] w fun e w' => e = .returned (.int .i64 r) ∧ Below w.heap.size w w' := by
 have hu28 := Try.underlying28
 have HR0_1 := Aside0.mk hr0_1
 have HC0_1 := Aside0.mk hc0_1
 clear hr0_1 hc0_1
 have HB := Aside0.mk (Below.refl w.heap.size w)
 have H : (spec_l01Dim.l0 k (-1) 0 a0_0 l0_1) = some r := h
 clear h
 have H' := Aside0.mk H
 clear H
 go_enter Try.func103, Try.ntmps103
 go_wp2_with (first | ((with_reducible refine gate_dst (N := 1) rfl ?_); refine box_event ?hg (N := 1) ?hd (cs := #[.int .i64 a0_0, .slice A0_1 l0_1.length c0_1]) (t := 28) ?hr ?_; (case hd => rfl); (case hg => rfl); (case hr => first | (go_simp; done) | (go_simp; rfl)); intro gb161 hg w2 hbox hb; have BK161 := Aside0.mk (hbox); have GW161 := gH HB hg; have GE161 := gH HB hg; replace HB := sH HB hb; clear hb hbox hg))
 go_loopg [3, 4] k (fun kq v3 v4 w' => ∃ (x3_1 : Int) (x4_1 : Int), v3 = .int .i64 x3_1 ∧ v4 = .int .i64 x4_1 ∧ Aside0 (spec_l01Dim.l0 kq x3_1 x4_1 a0_0 l0_1 = some r) ∧ Aside0 (kq ≤ k) ∧ Aside0 (w'.heap[gb161]? = some (.cells #[.int .i64 a0_0, (.slice A0_1 l0_1.length c0_1)] 28 (0, 0))) ∧ Aside0 (Below w.heap.size w w'))
 case atStart => exact ⟨((-1)), (0), (by first | rfl | (simp; done) | (simp [*]; done)), (by first | rfl | (simp; done) | (simp [*]; done)), H', ⟨Nat.le_refl _⟩, ⟨pB BK161⟩, ⟨pH HB⟩⟩
 case round =>
  clear H'
  try clear c1
  try clear p2
  obtain ⟨x3_1, x4_1, rfl, rfl, HA, HK1, BK161, HB⟩ := hrel
  cases gk with
  | zero => exact absurd HA.out (by simp [spec_l01Dim.l0])
  | succ k1 =>
   have H := HA.out
   clear HA
   simp only [spec_l01Dim.l0] at H
   by_cases c3 : x4_1 < (l0_1.length : Int)
   ·rw [if_pos c3] at H
    have c3b0 : decide (x4_1 < (l0_1.length : Int)) = true := decide_eq_true c3
    clear c3
    by_cases c4 : 0 ≤ x4_1
    ·rw [if_pos c4] at H
     have c4b0 : decide (0 ≤ x4_1) = true := decide_eq_true c4
     clear c4
     replace H := Option.bind_eq_some_iff.mp H
     obtain ⟨t163, A50, H⟩ := H
     try dsimp only at H
     have A5 := Aside0.mk A50
     clear A50
     obtain ⟨ji6, hji6⟩ : ∃ j_ : Int, (mx x3_1 (wrap64 (t163 - 1))) = j_ := ⟨_, rfl⟩
     replace H : (spec_l01Dim.l0 k1 ji6 (wrap64 (x4_1 + 1)) a0_0 l0_1) = some r := by first | (rw [hji6] at H; exact H) | (simp only [hji6] at H ⊢; exact H)
     (try rw [hji6] at A5)
     have hji6_ : (if x3_1 < (wrap64 (t163 - 1)) then (wrap64 (t163 - 1)) else x3_1) = ji6 := hji6
     have H' := Aside0.mk H
     clear H
     have hcz7_0 : wr.cell? ⟨gb161, 0, none⟩ = some (.int .i64 a0_0) := cB BK161 0
     have hcz7_1 : wr.cell? ⟨gb161, 1, none⟩ = some (.slice A0_1 l0_1.length c0_1) := cB BK161 1
     have hfz7_0 := zB BK161 0
     have hfz7_1 := zB BK161 1
     have p162 : 0 ≤ (x4_1 : Int) := of_decide_eq_true (by first | (with_reducible assumption) | assumption)
     have q162 : x4_1 < (l0_1.length : Int) := of_decide_eq_true (by first | (with_reducible assumption) | assumption)
     obtain ⟨ad162, e162, hx162_0⟩ := Kd.at_int HR0_1.out x4_1 p162 q162
     cases e162
     replace hx162_0 := cH HB hx162_0
     replace p162 := eq_true p162
     replace q162 := eq_true q162
     go_wp2_with (first | ((with_reducible refine gate_callee (f := 129) rfl ?_); refine cl_ (some 18) Try.func129 #[.int .i64 (rd l0_1 x4_1)] ?_; (with_reducible refine (spec_l01Ones.calls k1 (rd l0_1 x4_1) t163 _ A5.out).mono ?_); rintro e w' ⟨rfl, ⟨nd, rfl⟩⟩; refine ⟨_, rfl, ?_⟩))
     go_roundg k1
     case measure => have := HK1.out; omega
     case rel => exact ⟨(ji6), (wrap64 (x4_1 + 1)), (by first | rfl | (simp; done) | (simp only [← hji6] <;> (first | rfl | simp)) | (simp [*]; done)), (by first | rfl | (simp; done) | (simp [*]; done)), H', ⟨by have := HK1.out; omega⟩, ⟨pB BK161⟩, ⟨pH HB⟩⟩
    ·rw [if_neg c4] at H
     exact absurd H (by simp)
   ·rw [if_neg c3] at H
    have c3b0 : decide (x4_1 < (l0_1.length : Int)) = false := decide_eq_false c3
    clear c3
    obtain rfl := Option.some.inj H
    have hcz8_0 : wr.cell? ⟨gb161, 0, none⟩ = some (.int .i64 a0_0) := cB BK161 0
    have hcz8_1 : wr.cell? ⟨gb161, 1, none⟩ = some (.slice A0_1 l0_1.length c0_1) := cB BK161 1
    have hfz8_0 := zB BK161 0
    have hfz8_1 := zB BK161 1
    go_wp2
    go_ret
    exact ⟨by first | rfl | (simp [errW_none, errW_some] <;> rfl) | (simp [*, errW_none, errW_some] <;> rfl) | (exfalso; simp_all), pH HB⟩
end Go.Proofs.Ytomdfjohnmikdaa.QS
