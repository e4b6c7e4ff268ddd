/- Words and lemmas for FnExactWaysBetween, part 3: what the row's text comes to. -/
import Derived.Test.YtnmhnkpijjmhjaaProg
import Derived.Below
import Derived.Deep.Draws
import Derived.Deep.AppendLies
import Derived.Maps.AppendAt
import Derived.OwnWalk
import Derived.Laws.BytesArg
import Derived.Laws.MakeOwn
import Derived.Laws.OwnMore
import Derived.Deep.OwnRows
import Derived.Tactics
import Derived.Lib.ConvBytes
import Derived.Laws.Slices
import Derived.WalkKit
import Derived.KernelRfl
import Derived.RowKit3
import Derived.Deep.LoopGhost
import Derived.Deep.QuietTactic
import Derived.BigQuiet
import Derived.WideLaws
import Derived.Deep.DeepCutAuto
import Derived.Deep.CutBlock
import Derived.Deep.RegionHeld3
import Derived.Laws.Rows
import Derived.Lib.AppendStr
import Derived.ArgAppend
import Derived.Laws.IdiomCopy
import Derived.OrdersHeld
import Derived.Laws.BitsLemmas
import Derived.RowKit
import Derived.Test.YtnmhnkpijjmhjaaZFnExactWaysBetweenb
namespace Go.Proofs.Ytnmhnkpijjmhjaa.Im
set_option linter.unusedVariables false
set_option linter.unusedSimpArgs false
open Go.RowKit Go.Shelf Go.Proofs.Ytnmhnkpijjmhjaa.Kp Go.Proofs.Ytnmhnkpijjmhjaa.Ext Go.Proofs.Ytnmhnkpijjmhjaa.Cw Go.Proofs.YtnmhnkpijjmhjaaW.PrintWords Go.Proofs.YtnmhnkpijjmhjaaW.PrintLast Go.Proofs.YtnmhnkpijjmhjaaW.PrintMore
/-- One face is met: it is put to the map and to the queue, if it is new. -/
def stepM (s : List (Int × Bool) × List Int) (f : Int) : List (Int × Bool) × List Int := if getM s.1 f = true then s else (putM s.1 f true, s.2 ++ [f])
/-- The queue is gone through. -/
def bfs (l : List Pr) : Nat → List (Int × Bool) → List Int → Option (List (Int × Bool))
  | 0, _, _ => none
  | _ + 1, M, [] => some M
  | k + 1, M, x :: qs => if qs.length ≤ 1000 then (QA.impl_steps.f l x).bind fun fs => if fs.length ≤ 1000 then bfs l k (fs.foldl stepM (M, x :: qs)).1 ((fs.foldl stepM (M, x :: qs)).2.drop 1) else none else none
theorem stepM_len (s : List (Int × Bool) × List Int) (f : Int) : s.2.length ≤ (stepM s f).2.length ∧ (stepM s f).2.length ≤ s.2.length + 1 := by
  unfold stepM
  split <;> simp
theorem fold_len (fs : List Int) : ∀ s : List (Int × Bool) × List Int, s.2.length ≤ (fs.foldl stepM s).2.length ∧ (fs.foldl stepM s).2.length ≤ s.2.length + fs.length := by
  induction fs with
  | nil => intro s; simp
  | cons f fs ih =>
    intro s
    have h1 := stepM_len s f
    have h2 := ih (stepM s f)
    simp only [List.foldl_cons, List.length_cons]
    omega
theorem rowLit1 (w : World) (a : Int) (base : Nat) (ok : Nat → Prop) (hb : base ≤ w.heap.size) (hok : ok w.heap.size) : Kd.R (Kd.int .i64) 2 (w.alloc (.cells #[.int .i64 a] 2)) base ok (.slice (some ⟨w.heap.size, 0, none⟩) 1 1) [a] := by
  refine ⟨fun k hk => ?_, [.int .i64 a], ?_, ⟨rfl, fun j p hj => ?_⟩⟩
  · obtain rfl : w.heap.size = k := by simpa [Value.ownBlock] using hk
    exact hok
  · have h2 := World.ownsRow_lit (base := base) (e := 2) (size := (Kd.int .i64).sz) w #[.int .i64 a] 1 hb (by simp [maxLen]) rfl
    simpa using h2
  · rcases j with _ | j
    · obtain rfl : a = p := by simpa using hj
      rfl
    · simp at hj
theorem mapB_grown {w w1 : World} {b : Nat} {M : List (Int × Bool)} (h : MapB w b M) {v : Value} (hg : w.grownBy w1 v.ownBlock) (hv : ∀ k, v.ownBlock = some k → ∃ cells, w.heap[k]? = some (.cells cells 2 (0, 0))) : MapB w1 b M := by
  have hl := h.lt
  have hne : some b ≠ v.ownBlock := fun e => by
    obtain ⟨cells, hc⟩ := hv b e.symm
    exact h.ne hc rfl
  obtain ⟨es, c, h1, h2⟩ := h
  exact ⟨es, c, (hg.block b hl hne).trans h1, h2⟩
theorem info_i64 : (Try.prog.info? 2).map (fun i => (i.zero, i.size, i.bytes)) = some (some (.int .i64 0), 1, 8) := by kernel_rfl
theorem qPut {w w1 : World} {b base : Nat} {M : List (Int × Bool)} {ok : Nat → Prop} {v : Value} {xs : List Int} (h : Kd.Q (Kd.int .i64) 2 w base ok v xs) (hm : MapB w b M) (hg : w.grownBy w1 (some b)) : Kd.Q (Kd.int .i64) 2 w1 base ok v xs :=
  Kd.Q_mono (Kd.Q_grown (Kd.Q_bound h) hg (fun k hk e => by
    obtain ⟨_, _, _, q, _, cells, hc⟩ := hk
    injection e with e
    subst e
    exact hm.ne hc rfl)) (fun k hk => hk.1)
theorem rPut {w w1 : World} {b base : Nat} {M : List (Int × Bool)} {ok : Nat → Prop} {v : Value} {xs : List Int} (h : Kd.R (Kd.int .i64) 2 w base ok v xs) (hm : MapB w b M) (hg : w.grownBy w1 (some b)) : Kd.R (Kd.int .i64) 2 w1 base ok v xs :=
  Kd.R_mono (Kd.R_step (Kd.R_bound h) (fun k hk hlt => hg.block k hlt (fun e => by
    obtain ⟨_, _, _, q, _, cells, hc⟩ := hk
    injection e with e
    subst e
    exact hm.ne hc rfl))) (fun k hk => hk.1)
def BehindPost (M : List (Int × Bool)) (w : World) (e : Ending) (w' : World) : Prop := ∃ b, e = .returned (.map (some b)) ∧ MapB w' b M ∧ w.heap.size ≤ b ∧ Below w.heap.size w w'
set_option maxRecDepth 100000 in
set_option maxHeartbeats 2000000 in
theorem behind_c (k : Nat) (A : Option Addr) (c : Nat) (l : List Pr) (a : Int) (M : List (Int × Bool)) (w : World) (hr : Kd.C k76 w A l.length l) (hc : l.length ≤ c) (hk : bfs l k [] [a] = some M) :
    Calls Try.prog 213 #[.slice A l.length c, .int .i64 a] w (BehindPost M w) := by
  have HR := Aside0.mk hr
  have HC := Aside0.mk hc
  have HK := Aside0.mk hk
  clear hr hc hk
  have hmm := @run_makeMap Try.prog
  have hq0 := Aside0.mk (Kd.Q_of_R (rowLit1 (w.alloc (.map #[] 0)) a w.heap.size (fun _ => True) (by simp) trivial))
  have hm0 := Aside0.mk ((MapB.made w).alloc (.cells #[.int .i64 a] 2))
  go_enter Try.func213, Try.ntmps213
  go_wp2
  go_loopg [6] k (fun kq q wr => ∃ (Mk : List (Int × Bool)) (qs : List Int), Aside0 (bfs l kq Mk qs = some M) ∧ Aside0 (Below w.heap.size w wr) ∧ Aside0 (MapB wr w.heap.size Mk) ∧ Aside0 (Kd.Q (Kd.int .i64) 2 wr w.heap.size (fun _ => True) q qs))
  case atStart => exact ⟨[], [a], HK, ⟨below_alloc (below_alloc (Below.refl _ _) _) _⟩, hm0, by simpa using hq0⟩
  case round =>
    clear HK hq0 hm0
    obtain ⟨Mk, qs, HK, HB, HM, HQ⟩ := hrel
    obtain ⟨Aq, cq, rfl, hcq⟩ := Kd.Q_slice HQ.out
    cases gk with
    | zero => exact absurd HK.out (by simp [bfs])
    | succ k1 =>
      cases qs with
      | nil =>
        have hk0 : M = Mk := by have := HK.out; simp only [bfs, Option.some.injEq] at this; exact this.symm
        subst hk0
        go_wp2
        go_ret
        exact ⟨_, rfl, HM.out, Nat.le_refl _, HB.out⟩
      | cons x qs =>
        have hk1 := HK.out
        simp only [bfs] at hk1
        clear HK
        by_cases hb1 : qs.length ≤ 1000
        case neg => rw [if_neg hb1] at hk1; cases hk1
        rw [if_pos hb1] at hk1
        obtain ⟨fs, hfs, hk2⟩ := Option.bind_eq_some_iff.1 hk1
        clear hk1
        by_cases hb2 : fs.length ≤ 1000
        case neg => rw [if_neg hb2] at hk2; cases hk2
        rw [if_pos hb2] at hk2
        have HK := Aside0.mk hk2
        have HF := Aside0.mk hfs
        clear hk2 hfs
        obtain ⟨_, hqc, hqr⟩ := Kd.Q_reads' HQ.out
        obtain ⟨aq, rfl, hq0⟩ := Kd.at_int hqr 0 (by omega) (by simp)
        rw [show rd (x :: qs) 0 = x from rfl, show aq.add (Int.toNat 0) = aq by unfold Addr.add; simp] at hq0
        clear hqr
        go_wp2_with (go_at_call 209; refine (QA.impl_steps.calls A c l x fs _ (Kd.C_below HR.out HB.out) HC.out HF.out).mono ?_; rintro e w1 ⟨v1, rfl, ho, hb⟩; have hm1 := Aside0.mk (HM.out.below hb); have hq1 := Aside0.mk (Kd.Q_below HQ.out hb); have ho1 := Aside0.mk (Kd.R_lower (Kd.R_new' ho (Kd.Q_lt HQ.out)) HB.out.size); have hb3 := Aside0.mk (below_in HB.out hb); clear HM HQ HB ho hb hq0; have HM := hm1; have HQ := hq1; have HB := hb3; have HO := ho1; clear hm1 hq1 hb3 ho1; obtain ⟨A2, c2, he2⟩ := Kd.R_slice HO.out; subst he2)
        go_loopw [6, 23] (fun q i wq => ∃ (j : Nat) (Mj : List (Int × Bool)) (qj : List Int), j ≤ fs.length ∧ i = .int .i64 j ∧ Aside0 ((fs.take j).foldl stepM (Mk, x :: qs) = (Mj, qj)) ∧ Aside0 (Below w.heap.size w wq) ∧ Aside0 (MapB wq w.heap.size Mj) ∧ Aside0 (Kd.Q (Kd.int .i64) 2 wq w.heap.size (fun _ => True) q qj) ∧ Aside0 (Kd.R (Kd.int .i64) 2 wq w.heap.size (fun k => True ∧ some k ≠ q.ownBlock) (.slice A2 fs.length c2) fs)) (fun _ i _ => fs.length - (intOf i).toNat)
        case atStart => exact ⟨0, Mk, x :: qs, by omega, rfl, ⟨rfl⟩, HB, HM, HQ, HO⟩
        case round =>
          clear HB HM HQ HO
          obtain ⟨j, Mj, qj, hj, rfl, HE, HB, HM, HQ, HO⟩ := hrel
          obtain ⟨Aj, cj, rfl, hcj⟩ := Kd.Q_slice HQ.out
          have hlq : qj.length ≤ 2001 := by
            have h1 := fold_len (fs.take j) (Mk, x :: qs)
            have h2 := List.length_take_le j fs
            rw [HE.out] at h1
            simp only [List.length_cons] at h1
            omega
          by_cases hlt : j < fs.length
          · have hltz : (j : Int) < (fs.length : Int) := by omega
            obtain ⟨af, rfl, hf0⟩ := Kd.at_int (Kd.R_reads' HO.out).2.2 j (by omega) (by omega)
            obtain ⟨y, hy⟩ : ∃ y, rd fs j = y := ⟨_, rfl⟩
            rw [hy, show ((j : Int)).toNat = j by omega] at hf0
            have hstep : (fs.take (j + 1)).foldl stepM (Mk, x :: qs) = stepM (Mj, qj) y := by
              rw [List.take_succ_eq_append_getElem hlt, List.foldl_append, HE.out, ← hy, rd_at' hlt]
              rfl
            have HST := Aside0.mk hstep
            clear hstep hy
            by_cases hg : getM Mj y = true
            · have hl := lookB HM.out hg
              have HG := Aside0.mk hg
              clear hg
              go_wp2
              go_roundw
              case measure => simp [intOf]; omega
              case rel => exact ⟨j + 1, Mj, qj, by omega, by go_num, ⟨by rw [HST.out]; unfold stepM; rw [if_pos HG.out]⟩, HB, HM, HQ, HO⟩
            · have hl := lookB HM.out (Bool.eq_false_iff.2 hg)
              have HG := Aside0.mk hg
              clear hg
              obtain ⟨w3, hrun, hM3, hg3, hz3⟩ := putB HM.out y true
              have hq3 := Aside0.mk (qPut HQ.out HM.out hg3)
              have ho3 := Aside0.mk (rPut HO.out HM.out hg3)
              have hb3 := Aside0.mk (HB.out.grown hg3 HB.out.size (fun k hk => by injection hk with hk; omega))
              have hm3 := Aside0.mk hM3
              have HLQ := Aside0.mk hlq
              have HLT := Aside0.mk hlt
              clear hz3 hM3 hg3 HQ HO HB HM hlq
              have HQ := hq3
              have HO := ho3
              have HB := hb3
              have HM := hm3
              clear hq3 ho3 hb3 hm3
              go_wp2_with ((with_reducible refine gate_builtin (b := .append) (xs := #[.tmp 33, .tmp 35]) rfl ?_); at_builtin; refine Kd.Q_append (Kd.int .i64) (w0 := w) w.heap.size rfl (.tmp 33) (.tmp 35) 22 2 (.int .i64 0) 8 rfl Try.underlying22 info_i64 rfl (by decide) (by omega) (.slice Aj qj.length cj) qj y [.int .i64 y] (fun _ => True) (fun _ => False) rfl rfl rfl (fun _ hk => hk.elim) (fun _ _ => trivial) HQ.out HB.out HB.out.size (by have := HLQ.out; omega) ?_; intro v4 w4 hq4 hb4 hg4 hat; have ho4 := Aside0.mk (Kd.R_after HO.out hg4 hat); have hm4 := Aside0.mk (mapB_grown HM.out hg4 (Kd.Q_typed HQ.out)); have hq5 := Aside0.mk hq4; have hb5 := Aside0.mk hb4; clear hq4 hb4 hg4 hat HO HM HQ HB)
              go_roundw
              case measure => simp [intOf]; have := HLT.out; omega
              case rel => exact ⟨j + 1, putM Mj y true, qj ++ [y], by have := HLT.out; omega, by go_num, ⟨by rw [HST.out]; unfold stepM; rw [if_neg HG.out]⟩, hb5, hm4, hq5, ho4⟩
          · obtain rfl : j = fs.length := by omega
            have hltz : ¬ (fs.length : Int) < (fs.length : Int) := by omega
            rw [List.take_length] at HE
            have h1 := fold_len fs (Mk, x :: qs)
            rw [HE.out] at h1
            simp only [List.length_cons] at h1
            have hd := Aside0.mk (Kd.Q_drop (k := 1) HQ.out (by omega))
            have hq1 : (1 : Int) ≤ (qj.length : Int) := by omega
            have hk3 := HK.out
            rw [HE.out] at hk3
            have HK3 := Aside0.mk hk3
            clear hk3 HK HE HO
            by_cases hcap : cj = 1
            · have hd2 := hd.out
              rw [if_pos hcap] at hd2
              have HD := Aside0.mk hd2
              clear hd hd2
              subst hcap
              go_wp2
              go_roundg k1
              case measure => omega
              case rel => exact ⟨Mj, qj.drop 1, HK3, HB, HM, by simpa [show qj.length - 1 = 0 by omega] using HD⟩
            · have hd2 := hd.out
              rw [if_neg hcap, show (fun x : Addr => x.add (1 * (Kd.int .i64).sz)) = (fun x => (⟨x.block, x.off + 1, none⟩ : Addr)) from funext fun x => by unfold Addr.add; simp [Kd.int, Kd.scalar]] at hd2
              have HD := Aside0.mk hd2
              clear hd hd2
              go_wp2
              go_roundg k1
              case measure => omega
              case rel => exact ⟨Mj, qj.drop 1, HK3, HB, HM, by simpa using HD⟩
/-- Whether ways from a face come back to it. -/
def loopB (l : List Pr) (a : Int) : Bool := ((bfs l 1000 [] [a]).map fun M => getM M a).getD false
def okBfs (l : List Pr) : Bool := decide (l.length ≤ 1048576) && l.all fun q => (bfs l 1000 [] [q.f0]).isSome
def acycB (l : List Pr) : Bool := l.all fun q => !loopB l q.f0
theorem okBfs_at {l : List Pr} (h : okBfs l = true) {q : Pr} (hq : q ∈ l) : ∃ M, bfs l 1000 [] [q.f0] = some M ∧ loopB l q.f0 = getM M q.f0 := by
  unfold okBfs at h
  obtain ⟨M, hM⟩ := Option.isSome_iff_exists.1 (List.all_eq_true.1 (Bool.and_eq_true _ _ ▸ h).2 q hq)
  exact ⟨M, hM, by unfold loopB; rw [hM]; rfl⟩
set_option maxRecDepth 100000 in
set_option maxHeartbeats 1000000 in
theorem isAcyclic1_f (b : Nat) (A : Option Addr) (c : Nat) (l : List Pr) (w : World) (hb : Boxed w b 27 (.slice A l.length c)) (hr : Kd.C k76 w A l.length l) (hc : l.length ≤ c) (ho : okBfs l = true) :
    FnP Try.prog (.func (.func 212) #[] #[.pointer (some ⟨b, 0, none⟩)]) (fun q => q ∈ l) (fun q => !loopB l q.f0) w := by
  refine ⟨_, _, _, rfl, enters_of Try.func212 (by kernel_rfl) rfl, fun W q hW hq => ?_⟩
  obtain ⟨M, hM, hv⟩ := okBfs_at ho hq
  have HV := Aside0.mk hv
  have hbe := behind_c 1000 A c l q.f0 M ((W.alloc (.cells #[.int .i64 q.f0, .int .i64 q.f1] 76)).drew) (Kd.C_drew (Kd.C_alloc (Kd.C_below hr hW) _)) hc hM
  have HE := Aside0.mk hbe
  have hx : Aside0 ((W.alloc (.cells #[.int .i64 q.f0, .int .i64 q.f1] 76)).drew.cell? ⟨b, 0, none⟩ = some (.slice A l.length c)) := ⟨pw_cell_below (hW.trans ((below_alloc (Below.refl W.heap.size W) _).mono hW.size)) hb.cell⟩
  have hp := Aside0.mk ((PrAt.new W q.f0 q.f1).drew)
  have HB := Aside0.mk ((below_alloc (Below.refl W.heap.size W) (.cells #[.int .i64 q.f0, .int .i64 q.f1] 76)).drew)
  clear hbe hr hc hM hv hq hW hb
  show Calls Try.prog 212 #[.agg #[.int .i64 q.f0, .int .i64 q.f1], .pointer (some ⟨b, 0, none⟩)] W fun e w' => e = .returned (.bool (!loopB l q.f0)) ∧ Below W.heap.size W w'
  go_enter Try.func212, Try.ntmps212
  go_wp2
  refine st_ 9 (S := fun w' => w'.cell? ⟨b, 0, none⟩ = some (.slice A l.length c) ∧ w'.cell? ⟨W.heap.size, 0, none⟩ = some (.int .i64 q.f0)) (ds := []) ⟨hx.out, hp.out.c0⟩ (fun hHeld => ?_)
  refine with_tabW (T := (true, [([], []), ([], []), ([1], [1]), ([0, 2], [0, 2]), ([], []), ([4], [4]), ([3, 5], [3, 5]), ([6], [6]), ([7, 3, 0, 1, 2, 3, 4, 5, 6, 7], [7])])) (B := [0, 0, 2, 7, 0, 16, 63, 127, 255]) (by kernel_rfl) (by kernel_rfl) (fun HT_ HW_ => ?_)
  refine pd_ 1 5 2 HT_ ?_
  refine pd_ 4 8 18 HT_ ?_
  refine tk_ 0 4 19 HT_ HW_ hHeld ?_
  refine tk_ 2 6 23 HT_ HW_ hHeld ?_
  refine tk_ 5 9 55 HT_ HW_ hHeld ?_
  refine on_ 3 (some 7) 63 HT_ (fun K hK => ?_)
  refine ca_ Try.func213 #[.slice A l.length c, .int .i64 q.f0] ?_
  refine HE.out.mono ?_; rintro e w1 ⟨b1, rfl, hm, hb1, hbl⟩; have HM := Aside0.mk hm; have HL := Aside0.mk hbl; clear hm hb1 hbl HE
  refine ⟨_, rfl, ?_⟩
  refine hK.out _ _ ⟨pw_cell_below HL.out hx.out, pw_cell_below HL.out hp.out.c0⟩ (fun hHeld => ?_)
  clear hK K
  refine nm_ ?_
  refine on_ 6 (some 10) 127 HT_ (fun K hK => ?_)
  (have hl := lookB (x := q.f0) HM.out HV.out.symm; refine value_ (by rfl) rfl (v := .bool (loopB l q.f0)) (w1 := w1) (by go_simp) ?_)
  refine hK.out _ _ ⟨pw_cell_below HL.out hx.out, pw_cell_below HL.out hp.out.c0⟩ (fun hHeld => ?_)
  clear hK K
  refine nm_ ?_
  refine pd_ 7 11 255 HT_ ?_
  refine pd_ 8 3 511 HT_ ?_
  refine dn_ HT_ ?_
  go_wp2
  go_ret
  exact ⟨rfl, below_in HB.out HL.out⟩
set_option maxRecDepth 100000 in
theorem isAcyclic_c (n : Int) (A : Option Addr) (c : Nat) (xs : List Int) (A1 : Option Addr) (c1 : Nat) (l : List Pr) (w : World) (hr1 : Kd.C k76 w A1 l.length l) (hc1 : l.length ≤ c1) (ho : okBfs l = true) :
    Calls Try.prog 178 #[.agg #[.int .i64 n, .slice A xs.length c], .slice A1 l.length c1] w fun e w' => e = .returned (.bool (acycB l)) ∧ Below w.heap.size w w' := by
  have hl : l.length ≤ 1048576 := by unfold okBfs at ho; exact of_decide_eq_true (Bool.and_eq_true _ _ ▸ ho).1
  have hb1 : Below w.heap.size w ((w.alloc (.cells #[.int .i64 n, .slice A xs.length c] 26)).alloc (.cells #[.slice A1 l.length c1] 27)) := below_alloc (below_alloc (Below.refl _ _) _) _
  have hbx : Boxed ((w.alloc (.cells #[.int .i64 n, .slice A xs.length c] 26)).alloc (.cells #[.slice A1 l.length c1] 27)) (w.heap.size + 1) 27 (.slice A1 l.length c1) := by simpa using Boxed.new (w.alloc (.cells #[.int .i64 n, .slice A xs.length c] 26)) 27 (.slice A1 l.length c1)
  have hc := areAllP_c A1 c1 l _ (fun q => q ∈ l) (fun q => !loopB l q.f0) ((w.alloc (.cells #[.int .i64 n, .slice A xs.length c] 26)).alloc (.cells #[.slice A1 l.length c1] 27)) (Kd.C_below hr1 hb1) (isAcyclic1_f _ A1 c1 l _ hbx (Kd.C_below hr1 hb1) hc1 ho) (fun q hq => hq) (by omega)
  have HC := Aside0.mk hc
  have HB := Aside0.mk hb1
  clear hc hb1 hbx hr1 hc1 ho
  go_enter Try.func178, Try.ntmps178
  go_wp2_with (go_at_call 125; refine HC.out.mono ?_; rintro e w' ⟨rfl, hb⟩)
  go_ret
  exact ⟨rfl, below_in HB.out hb⟩
end Go.Proofs.Ytnmhnkpijjmhjaa.Im
namespace Go.Proofs.Ytnmhnkpijjmhjaa.Ext
set_option linter.unusedVariables false
set_option linter.unusedSimpArgs false
open Go.RowKit Go.Proofs.Ytnmhnkpijjmhjaa.Im Go.Proofs.Ytnmhnkpijjmhjaa.Kp Go.Proofs.YtnmhnkpijjmhjaaW.PrintWords Go.Proofs.YtnmhnkpijjmhjaaW.PrintLast Go.Proofs.YtnmhnkpijjmhjaaW.PrintMore
def slices_ContainsFunc_impl_Pair_impl_Pair.f (l0 : List S76) (a1 : Pred) : Option (Bool) := if l0.length ≤ 1099511627776 ∧ a1.sort = 2 ∧ okDomP a1 l0 = true then some (l0.any a1.pP) else none
theorem slices_ContainsFunc_impl_Pair_impl_Pair.calls (A0 : Option Addr) (c0 : Nat) (l0 : List S76) (F1 : Value) (a1 : Pred) (r : Bool) (w : World) (hr0 : Kd.C k76 w A0 l0.length l0) (_hc0 : l0.length ≤ c0) (hq1 : FnOk F1 a1 w) (h : slices_ContainsFunc_impl_Pair_impl_Pair.f l0 a1 = some r) :
    Calls Try.prog 184 #[.slice A0 l0.length c0, F1] w fun e w' => e = .returned (.bool r) ∧ Below w.heap.size w w' := by
  unfold slices_ContainsFunc_impl_Pair_impl_Pair.f at h
  by_cases hl : l0.length ≤ 1099511627776 ∧ a1.sort = 2 ∧ okDomP a1 l0 = true
  · rw [if_pos hl] at h
    have hd := Option.some.inj h
    have := containsPair_c A0 c0 l0 F1 a1.domP a1.pP w hr0 (hq1.2.2 hl.2.1) (okDomP_mem hl.2.2) hl.1
    rw [hd] at this
    exact this
  · rw [if_neg hl] at h; cases h
def impl_Complex_isPairing.f (a0_0 : Int) (l0_1 : List Int) (l1 : List S76) : Option (Bool) := if isC a0_0 l0_1 = true ∧ l1.length ≤ 1099511627776 then some (pairingB l0_1 l1) else none
theorem impl_Complex_isPairing.calls (a0_0 : Int) (A0_1 : Option Addr) (c0_1 : Nat) (l0_1 : List Int) (A1 : Option Addr) (c1 : Nat) (l1 : List S76) (r : Bool) (w : World) (hr0_1 : Kd.C (Kd.int .i64) w A0_1 l0_1.length l0_1) (_hc0_1 : l0_1.length ≤ c0_1) (hr1 : Kd.C k76 w A1 l1.length l1) (_hc1 : l1.length ≤ c1) (h : impl_Complex_isPairing.f a0_0 l0_1 l1 = some r) :
    Calls Try.prog 191 #[.agg #[.int .i64 a0_0, .slice A0_1 l0_1.length c0_1], .slice A1 l1.length c1] w fun e w' => e = .returned (.bool r) ∧ Below w.heap.size w w' := by
  unfold impl_Complex_isPairing.f at h
  by_cases hl : isC a0_0 l0_1 = true ∧ l1.length ≤ 1099511627776
  · rw [if_pos hl] at h
    have hd := Option.some.inj h
    have := isPairing_c a0_0 A0_1 c0_1 l0_1 A1 c1 l1 w hr0_1 _hc0_1 hl.1 hr1 hl.2
    rw [hd] at this
    exact this
  · rw [if_neg hl] at h; cases h
def impl_Complex_isAcyclic.f (a0_0 : Int) (l0_1 : List Int) (l1 : List S76) : Option (Bool) := if okBfs l1 = true then some (acycB l1) else none
theorem impl_Complex_isAcyclic.calls (a0_0 : Int) (A0_1 : Option Addr) (c0_1 : Nat) (l0_1 : List Int) (A1 : Option Addr) (c1 : Nat) (l1 : List S76) (r : Bool) (w : World) (hr0_1 : Kd.C (Kd.int .i64) w A0_1 l0_1.length l0_1) (_hc0_1 : l0_1.length ≤ c0_1) (hr1 : Kd.C k76 w A1 l1.length l1) (_hc1 : l1.length ≤ c1) (h : impl_Complex_isAcyclic.f a0_0 l0_1 l1 = some r) :
    Calls Try.prog 178 #[.agg #[.int .i64 a0_0, .slice A0_1 l0_1.length c0_1], .slice A1 l1.length c1] w fun e w' => e = .returned (.bool r) ∧ Below w.heap.size w w' := by
  unfold impl_Complex_isAcyclic.f at h
  by_cases hl : okBfs l1 = true
  · rw [if_pos hl] at h
    have hd := Option.some.inj h
    have := isAcyclic_c a0_0 A0_1 c0_1 l0_1 A1 c1 l1 w hr1 _hc1 hl
    rw [hd] at this
    exact this
  · rw [if_neg hl] at h; cases h
end Go.Proofs.Ytnmhnkpijjmhjaa.Ext
namespace Go.Proofs.Ytnmhnkpijjmhjaa.Ext
open Go.RowKit Go.Proofs.Ytnmhnkpijjmhjaa.Im Go.Proofs.Ytnmhnkpijjmhjaa.Kp Go.Proofs.YtnmhnkpijjmhjaaW.PrintWords Go.Proofs.YtnmhnkpijjmhjaaW.PrintLast Go.Proofs.YtnmhnkpijjmhjaaW.PrintMore
def impl_steps.f (l0 : List S76) (a1 : Int) : Option (List Int) := QA.impl_steps.f l0 a1
theorem impl_steps.calls (A0 : Option Addr) (c0 : Nat) (l0 : List S76) (a1 : Int) (r : List Int) (w : World) (hr0 : Kd.C k76 w A0 l0.length l0) (hc0 : l0.length ≤ c0) (h : impl_steps.f l0 a1 = some r) :
    Calls Try.prog 209 #[.slice A0 l0.length c0, .int .i64 a1] w fun e w' => ∃ v0_ : Value, e = .returned (v0_) ∧ Kd.R (Kd.int .i64) 2 w' w.heap.size (fun _ => True) v0_ r ∧ Below w.heap.size w w' := QA.impl_steps.calls A0 c0 l0 a1 r w hr0 hc0 h
end Go.Proofs.Ytnmhnkpijjmhjaa.Ext
namespace Go.Proofs.Ytnmhnkpijjmhjaa.QB
open Go.Proofs.Ytnmhnkpijjmhjaa.Cw Go.Proofs.Ytnmhnkpijjmhjaa.Kp Go.Proofs.Ytnmhnkpijjmhjaa.Ext Go.RowKit Go.Proofs.YtnmhnkpijjmhjaaW.PrintWords Go.Proofs.YtnmhnkpijjmhjaaW.PrintLast Go.Proofs.YtnmhnkpijjmhjaaW.PrintMore
attribute [local go_sem] max2_int min2_int max_two min_two max_three min_three max_four min_four   -- for this text's walks alone
set_option linter.unusedVariables false
set_option linter.unusedSimpArgs false
def errW : Option Int → Value
 | none => .nilIface
 | some c => .iface 0 (.int .i64 c)
theorem errW_none : errW none = .nilIface := rfl
theorem errW_some (c : Int) : errW (some c) = .iface 0 (.int .i64 c) := rfl
end Go.Proofs.Ytnmhnkpijjmhjaa.QB
namespace Go.Proofs.Ytnmhnkpijjmhjaa.QB
open Go.Proofs.Ytnmhnkpijjmhjaa.Cw Go.Proofs.Ytnmhnkpijjmhjaa.Kp Go.Proofs.Ytnmhnkpijjmhjaa.Ext Go.RowKit Go.Proofs.YtnmhnkpijjmhjaaW.PrintWords Go.Proofs.YtnmhnkpijjmhjaaW.PrintLast Go.Proofs.YtnmhnkpijjmhjaaW.PrintMore
attribute [local go_sem] max2_int min2_int max_two min_two max_three min_three max_four min_four   -- for this text's walks alone
set_option linter.unusedVariables false
set_option linter.unusedSimpArgs false
def impl_pairingCode_1.f (a0_0 : Bool) (a1_0 : Int) (l1_1 : List Int) (l2_0 : List (S76)) : Option (Bool) := if a0_0 = true then ((impl_Complex_isPairing.f a1_0 l1_1 l2_0).bind fun t104 => (some t104)) else (some false)
set_option maxHeartbeats 8000000 in
set_option maxRecDepth 100000 in
theorem impl_pairingCode_1.calls (g0 : Nat) (a0_0 : Bool) (g1 : Nat) (a1_0 : Int) (A1_1 : Option Addr) (c1_1 : Nat) (l1_1 : List Int) (g2 : Nat) (A2_0 : Option Addr) (c2_0 : Nat) (l2_0 : List (S76)) (r : Bool) (w : World) (hb0 : w.heap[g0]? = some (.cells #[.bool a0_0] 4 (0, 0))) (hb1 : w.heap[g1]? = some (.cells #[.int .i64 a1_0, .slice A1_1 l1_1.length c1_1] 26 (0, 0))) (hr1_1 : Kd.C (Kd.int .i64) w A1_1 l1_1.length l1_1) (hc1_1 : l1_1.length ≤ c1_1) (hb2 : w.heap[g2]? = some (.cells #[.slice A2_0 l2_0.length c2_0] 27 (0, 0))) (hr2_0 : Kd.C k76 w A2_0 l2_0.length l2_0) (hc2_0 : l2_0.length ≤ c2_0) (h : impl_pairingCode_1.f a0_0 a1_0 l1_1 l2_0 = some r) :
  Calls Try.prog 208 #[.pointer (some ⟨g0, 0, none⟩), .pointer (some ⟨g1, 0, none⟩), .pointer (some ⟨g2, 0, none⟩)] w fun e w' => e = .returned (.bool r) ∧ Below w.heap.size w w' := by
 have hu26 := Try.underlying26
 have HR1_1 := Aside0.mk hr1_1
 have HC1_1 := Aside0.mk hc1_1
 clear hr1_1 hc1_1
 have HR2_0 := Aside0.mk hr2_0
 have HC2_0 := Aside0.mk hc2_0
 clear hr2_0 hc2_0
 have BK101 := Aside0.mk hb0
 clear hb0
 have BK102 := Aside0.mk hb1
 clear hb1
 have BK103 := Aside0.mk hb2
 clear hb2
 have HB := Aside0.mk (Below.refl w.heap.size w)
 have H : (if a0_0 = true then ((impl_Complex_isPairing.f a1_0 l1_1 l2_0).bind fun t104 => (some t104)) else (some false)) = some r := h
 clear h
 by_cases c4 : a0_0 = true
 ·subst c4
  have H1 : ((impl_Complex_isPairing.f a1_0 l1_1 l2_0).bind fun t104 => (some t104)) = some r := by rw [if_pos rfl] at H; exact H
  clear H
  have H := H1
  clear H1
  replace H := Option.bind_eq_some_iff.mp H
  obtain ⟨t104, A50, H⟩ := H
  try dsimp only at H
  have A5 := Aside0.mk A50
  clear A50
  obtain rfl := Option.some.inj H
  (try have hnb6 := NB101_102.out)
  (try have hnc6 := NB102_101.out)
  (try have hnb7 := NB101_103.out)
  (try have hnc7 := NB103_101.out)
  have hcz8_0 : w.cell? ⟨g0, 0, none⟩ = some (.bool true) := cB BK101 0
  have hfz8_0 := zB BK101 0
  (try have hnb9 := NB102_103.out)
  (try have hnc9 := NB103_102.out)
  have hcz10_0 : w.cell? ⟨g1, 0, none⟩ = some (.int .i64 a1_0) := cB BK102 0
  have hcz10_1 : w.cell? ⟨g1, 1, none⟩ = some (.slice A1_1 l1_1.length c1_1) := cB BK102 1
  have hfz10_0 := zB BK102 0
  have hfz10_1 := zB BK102 1
  have hcz11_0 : w.cell? ⟨g2, 0, none⟩ = some (.slice A2_0 l2_0.length c2_0) := cB BK103 0
  have hfz11_0 := zB BK103 0
  go_enter Try.func208, Try.ntmps208
  go_wp2_with (first | (go_at_call 191; (with_reducible refine (impl_Complex_isPairing.calls a1_0 _ _ l1_1 _ _ l2_0 t104 _ ?side1 ?side2 ?side3 ?side4 A5.out).mono ?_); (case side1 => exact pC (HR1_1.out)); (case side2 => exact HC1_1.out); (case side3 => exact pC (HR2_0.out)); (case side4 => exact HC2_0.out); rintro e w12 ⟨rfl, hb⟩; replace BK101 := sB BK101 hb; replace BK102 := sB BK102 hb; replace BK103 := sB BK103 hb; replace HB := sH HB hb; (try clear hb); (try clear hi)))
  go_ret
  exact ⟨by first | rfl | (simp [errW_none, errW_some] <;> rfl) | (simp [*, errW_none, errW_some] <;> rfl), pH HB⟩
 ·replace c4 := Bool.eq_false_iff.mpr c4
  subst c4
  have H1 : (some false) = some r := by rw [if_neg (show ¬ (false = true) by decide)] at H; exact H
  clear H
  have H := H1
  clear H1
  obtain rfl := Option.some.inj H
  (try have hnb13 := NB101_102.out)
  (try have hnc13 := NB102_101.out)
  (try have hnb14 := NB101_103.out)
  (try have hnc14 := NB103_101.out)
  have hcz15_0 : w.cell? ⟨g0, 0, none⟩ = some (.bool false) := cB BK101 0
  have hfz15_0 := zB BK101 0
  go_enter Try.func208, Try.ntmps208
  go_wp2
  go_ret
  exact ⟨by first | rfl | (simp [errW_none, errW_some] <;> rfl) | (simp [*, errW_none, errW_some] <;> rfl), pH HB⟩
def clo_208 (a0_0 : Bool) (a1_0 : Int) (l1_1 : List Int) (l2_0 : List (S76)) : Pred := Pred.ofU (impl_pairingCode_1.f a0_0 a1_0 l1_1 l2_0)
set_option maxRecDepth 100000 in
theorem clo_ok_208 {W : World} {g0 : Nat} {a0_0 : Bool} {g1 : Nat} {a1_0 : Int} {A1_1 : Option Addr} {c1_1 : Nat} {l1_1 : List Int} {g2 : Nat} {A2_0 : Option Addr} {c2_0 : Nat} {l2_0 : List (S76)} (hb0 : W.heap[g0]? = some (.cells #[.bool a0_0] 4 (0, 0))) (hb1 : W.heap[g1]? = some (.cells #[.int .i64 a1_0, .slice A1_1 l1_1.length c1_1] 26 (0, 0))) (hb2 : W.heap[g2]? = some (.cells #[.slice A2_0 l2_0.length c2_0] 27 (0, 0))) (hr1_1 : Kd.C (Kd.int .i64) W A1_1 l1_1.length l1_1) (hc1_1 : l1_1.length ≤ c1_1) (hr2_0 : Kd.C k76 W A2_0 l2_0.length l2_0) (hc2_0 : l2_0.length ≤ c2_0) : FnOk (.func (.func 208) #[] #[.pointer (some ⟨g0, 0, none⟩), .pointer (some ⟨g1, 0, none⟩), .pointer (some ⟨g2, 0, none⟩)]) (clo_208 a0_0 a1_0 l1_1 l2_0) W :=
 FnOk.ofU (enters_of Try.func208 (by kernel_rfl) rfl) (fun V b hV hr => by
  show Calls Try.prog 208 #[.pointer (some ⟨g0, 0, none⟩), .pointer (some ⟨g1, 0, none⟩), .pointer (some ⟨g2, 0, none⟩)] V _
  exact (impl_pairingCode_1.calls g0 a0_0 g1 a1_0 A1_1 c1_1 l1_1 g2 A2_0 c2_0 l2_0 b V ((hV.block g0 (blk_lt hb0)).trans hb0) ((hV.block g1 (blk_lt hb1)).trans hb1) (Kd.C_below hr1_1 hV) hc1_1 ((hV.block g2 (blk_lt hb2)).trans hb2) (Kd.C_below hr2_0 hV) hc2_0 hr).mono (fun e w' h_ => ⟨h_.1, h_.2⟩))
def impl_pairingCode.f (a0_0 : Int) (l0_1 : List Int) (l1 : List (S76)) (a2 : Bool) : Option (Int) := (impl_complexCode.f a0_0 l0_1 (clo_208 a2 a0_0 l0_1 l1)).bind fun t108 => (some t108)
set_option maxHeartbeats 8000000 in
set_option maxRecDepth 100000 in
theorem impl_pairingCode.calls (a0_0 : Int) (A0_1 : Option Addr) (c0_1 : Nat) (l0_1 : List Int) (A1 : Option Addr) (c1 : Nat) (l1 : List (S76)) (a2 : Bool) (r : Int) (w : World) (hr0_1 : Kd.C (Kd.int .i64) w A0_1 l0_1.length l0_1) (hc0_1 : l0_1.length ≤ c0_1) (hr1 : Kd.C k76 w A1 l1.length l1) (hc1 : l1.length ≤ c1) (h : impl_pairingCode.f a0_0 l0_1 l1 a2 = some r) :
  Calls Try.prog 171 #[.agg #[.int .i64 a0_0, .slice A0_1 l0_1.length c0_1], .slice A1 l1.length c1, .bool a2] w fun e w' => e = .returned (.int .i64 r) ∧ Below w.heap.size w w' := by
 have hu26 := Try.underlying26
 have HR0_1 := Aside0.mk hr0_1
 have HC0_1 := Aside0.mk hc0_1
 clear hr0_1 hc0_1
 have HR1 := Aside0.mk hr1
 have HC1 := Aside0.mk hc1
 clear hr1 hc1
 have HB := Aside0.mk (Below.refl w.heap.size w)
 have H : ((impl_complexCode.f a0_0 l0_1 (clo_208 a2 a0_0 l0_1 l1)).bind fun t108 => (some t108)) = some r := h
 clear h
 replace H := Option.bind_eq_some_iff.mp H
 obtain ⟨t108, A40, H⟩ := H
 try dsimp only at H
 have A4 := Aside0.mk A40
 clear A40
 obtain rfl := Option.some.inj H
 go_enter Try.func171, Try.ntmps171
 go_wp2_with (first | ((with_reducible refine gate_dst (N := 3) rfl ?_); refine box_event ?hg (N := 3) ?hd (cs := #[.int .i64 a0_0, .slice A0_1 l0_1.length c0_1]) (t := 26) ?hr ?_; (case hd => rfl); (case hg => rfl); (case hr => first | (go_simp; done) | (go_simp; rfl)); intro gb105 hg w5 hbox hb; have BK105 := Aside0.mk (hbox); have GW105 := gH HB hg; have GE105 := gH HB hg; replace HB := sH HB hb; clear hb hbox hg) | ((with_reducible refine gate_dst (N := 4) rfl ?_); refine box_event ?hg (N := 4) ?hd (cs := #[.slice A1 l1.length c1]) (t := 27) ?hr ?_; (case hd => rfl); (case hg => rfl); (case hr => first | (go_simp; done) | (go_simp; rfl)); intro gb106 hg w6 hbox hb; have BK106 := Aside0.mk (hbox); have GW106 := gH HB hg; have GE106 := gH HB hg; replace HB := sH HB hb; have NB105_106 := nB BK105 hg; have NB106_105 := oB BK105 hg; replace BK105 := sB BK105 hb; clear hb hbox hg) | ((with_reducible refine gate_dst (N := 5) rfl ?_); refine box_event ?hg (N := 5) ?hd (cs := #[.bool a2]) (t := 4) ?hr ?_; (case hd => rfl); (case hg => rfl); (case hr => first | (go_simp; done) | (go_simp; rfl)); intro gb107 hg w7 hbox hb; have BK107 := Aside0.mk (hbox); have GW107 := gH HB hg; have GE107 := gH HB hg; replace HB := sH HB hb; have NB105_107 := nB BK105 hg; have NB107_105 := oB BK105 hg; replace BK105 := sB BK105 hb; have NB106_107 := nB BK106 hg; have NB107_106 := oB BK106 hg; replace BK106 := sB BK106 hb; clear hb hbox hg; (try have hnb8 := NB105_106.out); (try have hnc8 := NB106_105.out); (try have hnb9 := NB105_107.out); (try have hnc9 := NB107_105.out); have hcz10_0 : w7.cell? ⟨gb105, 0, none⟩ = some (.int .i64 a0_0) := cB BK105 0; have hcz10_1 : w7.cell? ⟨gb105, 1, none⟩ = some (.slice A0_1 l0_1.length c0_1) := cB BK105 1; have hfz10_0 := zB BK105 0; have hfz10_1 := zB BK105 1) | ((with_reducible refine gate_callee (f := 59) rfl ?_); refine cl_ (some 9) Try.func59 #[.agg #[.int .i64 a0_0, .slice A0_1 l0_1.length c0_1], .func (.func 208) #[] #[.pointer (some ⟨gb107, 0, none⟩), .pointer (some ⟨gb105, 0, none⟩), .pointer (some ⟨gb106, 0, none⟩)]] ?_; (with_reducible refine (impl_complexCode.calls a0_0 _ _ l0_1 _ (clo_208 a2 a0_0 l0_1 l1) t108 _ ?side1 ?side2 ?side3 A4.out).mono ?_); (case side1 => exact pC ((Kd.C_below HR0_1.out HB.out))); (case side2 => exact HC0_1.out); (case side3 => exact clo_ok_208 (pB BK107) (pB BK105) (pB BK106) (by exact pC ((Kd.C_below HR0_1.out HB.out))) (by exact HC0_1.out) (by exact pC ((Kd.C_below HR1.out HB.out))) (by exact HC1.out)); rintro e w11 ⟨rfl, hb⟩; refine ⟨_, rfl, ?_⟩; replace BK105 := sB BK105 hb; replace BK106 := sB BK106 hb; replace BK107 := sB BK107 hb; replace HB := sH HB hb; (try clear hb); (try clear hi)))
 go_ret
 exact ⟨by first | rfl | (simp [errW_none, errW_some] <;> rfl) | (simp [*, errW_none, errW_some] <;> rfl), pH HB⟩
def impl_acyclicCode.f (a0_0 : Int) (l0_1 : List Int) (l1 : List (S76)) (a2 : Bool) : Option (Int) := (impl_pairingCode.f a0_0 l0_1 l1 a2).bind fun t110 => (if t110 = 0 then ((impl_Complex_isAcyclic.f a0_0 l0_1 l1).bind fun t111 => (if t111 = true then (some 0) else (some 5))) else (some t110))
set_option maxHeartbeats 8000000 in
set_option maxRecDepth 100000 in
theorem impl_acyclicCode.calls (a0_0 : Int) (A0_1 : Option Addr) (c0_1 : Nat) (l0_1 : List Int) (A1 : Option Addr) (c1 : Nat) (l1 : List (S76)) (a2 : Bool) (r : Int) (w : World) (hr0_1 : Kd.C (Kd.int .i64) w A0_1 l0_1.length l0_1) (hc0_1 : l0_1.length ≤ c0_1) (hr1 : Kd.C k76 w A1 l1.length l1) (hc1 : l1.length ≤ c1) (h : impl_acyclicCode.f a0_0 l0_1 l1 a2 = some r) :
  Calls Try.prog 121 #[.agg #[.int .i64 a0_0, .slice A0_1 l0_1.length c0_1], .slice A1 l1.length c1, .bool a2] w fun e w' => e = .returned (.int .i64 r) ∧ Below w.heap.size w w' := by
 have hu26 := Try.underlying26
 have HR0_1 := Aside0.mk hr0_1
 have HC0_1 := Aside0.mk hc0_1
 clear hr0_1 hc0_1
 have HR1 := Aside0.mk hr1
 have HC1 := Aside0.mk hc1
 clear hr1 hc1
 have HB := Aside0.mk (Below.refl w.heap.size w)
 have H : ((impl_pairingCode.f a0_0 l0_1 l1 a2).bind fun t110 => (if t110 = 0 then ((impl_Complex_isAcyclic.f a0_0 l0_1 l1).bind fun t111 => (if t111 = true then (some 0) else (some 5))) else (some t110))) = some r := h
 clear h
 replace H := Option.bind_eq_some_iff.mp H
 obtain ⟨t110, A40, H⟩ := H
 try dsimp only at H
 have A4 := Aside0.mk A40
 clear A40
 by_cases c5 : t110 = 0
 ·rw [if_pos c5] at H
  have c5b0 : (t110 == 0) = true := beq_iff_eq.mpr c5
  have c5b1 : (t110 != 0) = false := bne_eq_false_iff_eq.mpr c5
  clear c5
  replace H := Option.bind_eq_some_iff.mp H
  obtain ⟨t111, A60, H⟩ := H
  try dsimp only at H
  have A6 := Aside0.mk A60
  clear A60
  by_cases c7 : t111 = true
  ·subst c7
   have H1 : (some 0) = some r := by rw [if_pos rfl] at H; exact H
   clear H
   have H := H1
   clear H1
   obtain rfl := Option.some.inj H
   go_enter Try.func121, Try.ntmps121
   go_wp2_with (first | ((with_reducible refine gate_dst (N := 3) rfl ?_); refine box_event ?hg (N := 3) ?hd (cs := #[.int .i64 a0_0, .slice A0_1 l0_1.length c0_1]) (t := 26) ?hr ?_; (case hd => rfl); (case hg => rfl); (case hr => first | (go_simp; done) | (go_simp; rfl)); intro gb109 hg w8 hbox hb; have BK109 := Aside0.mk (hbox); have GW109 := gH HB hg; have GE109 := gH HB hg; replace HB := sH HB hb; clear hb hbox hg; have hcz9_0 : w8.cell? ⟨gb109, 0, none⟩ = some (.int .i64 a0_0) := cB BK109 0; have hcz9_1 : w8.cell? ⟨gb109, 1, none⟩ = some (.slice A0_1 l0_1.length c0_1) := cB BK109 1; have hfz9_0 := zB BK109 0; have hfz9_1 := zB BK109 1) | ((with_reducible refine gate_callee (f := 171) rfl ?_); refine cl_ (some 11) Try.func171 #[.agg #[.int .i64 a0_0, .slice A0_1 l0_1.length c0_1], .slice A1 l1.length c1, .bool a2] ?_; (with_reducible refine (impl_pairingCode.calls a0_0 _ _ l0_1 _ _ l1 a2 t110 _ ?side1 ?side2 ?side3 ?side4 A4.out).mono ?_); (case side1 => exact pC ((Kd.C_below HR0_1.out HB.out))); (case side2 => exact HC0_1.out); (case side3 => exact pC ((Kd.C_below HR1.out HB.out))); (case side4 => exact HC1.out); rintro e w10 ⟨rfl, hb⟩; refine ⟨_, rfl, ?_⟩; replace BK109 := sB BK109 hb; replace HB := sH HB hb; (try clear hb); (try clear hi); have hcz11_0 : w10.cell? ⟨gb109, 0, none⟩ = some (.int .i64 a0_0) := cB BK109 0; have hcz11_1 : w10.cell? ⟨gb109, 1, none⟩ = some (.slice A0_1 l0_1.length c0_1) := cB BK109 1; have hfz11_0 := zB BK109 0; have hfz11_1 := zB BK109 1) | ((with_reducible refine gate_callee (f := 178) rfl ?_); refine cl_ (some 17) Try.func178 #[.agg #[.int .i64 a0_0, .slice A0_1 l0_1.length c0_1], .slice A1 l1.length c1] ?_; (with_reducible refine (impl_Complex_isAcyclic.calls a0_0 _ _ l0_1 _ _ l1 true _ ?side1 ?side2 ?side3 ?side4 A6.out).mono ?_); (case side1 => exact pC ((Kd.C_below HR0_1.out HB.out))); (case side2 => exact HC0_1.out); (case side3 => exact pC ((Kd.C_below HR1.out HB.out))); (case side4 => exact HC1.out); rintro e w12 ⟨rfl, hb⟩; refine ⟨_, rfl, ?_⟩; replace BK109 := sB BK109 hb; replace HB := sH HB hb; (try clear hb); (try clear hi)))
   go_ret
   exact ⟨by first | rfl | (simp [errW_none, errW_some] <;> rfl) | (simp [*, errW_none, errW_some] <;> rfl), pH HB⟩
  ·replace c7 := Bool.eq_false_iff.mpr c7
   subst c7
   have H1 : (some 5) = some r := by rw [if_neg (show ¬ (false = true) by decide)] at H; exact H
   clear H
   have H := H1
   clear H1
   obtain rfl := Option.some.inj H
   go_enter Try.func121, Try.ntmps121
   go_wp2_with (first | ((with_reducible refine gate_dst (N := 3) rfl ?_); refine box_event ?hg (N := 3) ?hd (cs := #[.int .i64 a0_0, .slice A0_1 l0_1.length c0_1]) (t := 26) ?hr ?_; (case hd => rfl); (case hg => rfl); (case hr => first | (go_simp; done) | (go_simp; rfl)); intro gb109 hg w13 hbox hb; have BK109 := Aside0.mk (hbox); have GW109 := gH HB hg; have GE109 := gH HB hg; replace HB := sH HB hb; clear hb hbox hg; have hcz14_0 : w13.cell? ⟨gb109, 0, none⟩ = some (.int .i64 a0_0) := cB BK109 0; have hcz14_1 : w13.cell? ⟨gb109, 1, none⟩ = some (.slice A0_1 l0_1.length c0_1) := cB BK109 1; have hfz14_0 := zB BK109 0; have hfz14_1 := zB BK109 1) | ((with_reducible refine gate_callee (f := 171) rfl ?_); refine cl_ (some 11) Try.func171 #[.agg #[.int .i64 a0_0, .slice A0_1 l0_1.length c0_1], .slice A1 l1.length c1, .bool a2] ?_; (with_reducible refine (impl_pairingCode.calls a0_0 _ _ l0_1 _ _ l1 a2 t110 _ ?side1 ?side2 ?side3 ?side4 A4.out).mono ?_); (case side1 => exact pC ((Kd.C_below HR0_1.out HB.out))); (case side2 => exact HC0_1.out); (case side3 => exact pC ((Kd.C_below HR1.out HB.out))); (case side4 => exact HC1.out); rintro e w15 ⟨rfl, hb⟩; refine ⟨_, rfl, ?_⟩; replace BK109 := sB BK109 hb; replace HB := sH HB hb; (try clear hb); (try clear hi); have hcz16_0 : w15.cell? ⟨gb109, 0, none⟩ = some (.int .i64 a0_0) := cB BK109 0; have hcz16_1 : w15.cell? ⟨gb109, 1, none⟩ = some (.slice A0_1 l0_1.length c0_1) := cB BK109 1; have hfz16_0 := zB BK109 0; have hfz16_1 := zB BK109 1) | ((with_reducible refine gate_callee (f := 178) rfl ?_); refine cl_ (some 17) Try.func178 #[.agg #[.int .i64 a0_0, .slice A0_1 l0_1.length c0_1], .slice A1 l1.length c1] ?_; (with_reducible refine (impl_Complex_isAcyclic.calls a0_0 _ _ l0_1 _ _ l1 false _ ?side1 ?side2 ?side3 ?side4 A6.out).mono ?_); (case side1 => exact pC ((Kd.C_below HR0_1.out HB.out))); (case side2 => exact HC0_1.out); (case side3 => exact pC ((Kd.C_below HR1.out HB.out))); (case side4 => exact HC1.out); rintro e w17 ⟨rfl, hb⟩; refine ⟨_, rfl, ?_⟩; replace BK109 := sB BK109 hb; replace HB := sH HB hb; (try clear hb); (try clear hi)))
   go_ret
   exact ⟨by first | rfl | (simp [errW_none, errW_some] <;> rfl) | (simp [*, errW_none, errW_some] <;> rfl), pH HB⟩
 ·rw [if_neg c5] at H
  have c5b0 : (t110 == 0) = false := beq_eq_false_iff_ne.mpr c5
  have c5b1 : (t110 != 0) = true := bne_iff_ne.mpr c5
  obtain rfl := Option.some.inj H
  go_enter Try.func121, Try.ntmps121
  go_wp2_with (first | ((with_reducible refine gate_dst (N := 3) rfl ?_); refine box_event ?hg (N := 3) ?hd (cs := #[.int .i64 a0_0, .slice A0_1 l0_1.length c0_1]) (t := 26) ?hr ?_; (case hd => rfl); (case hg => rfl); (case hr => first | (go_simp; done) | (go_simp; rfl)); intro gb109 hg w18 hbox hb; have BK109 := Aside0.mk (hbox); have GW109 := gH HB hg; have GE109 := gH HB hg; replace HB := sH HB hb; clear hb hbox hg; have hcz19_0 : w18.cell? ⟨gb109, 0, none⟩ = some (.int .i64 a0_0) := cB BK109 0; have hcz19_1 : w18.cell? ⟨gb109, 1, none⟩ = some (.slice A0_1 l0_1.length c0_1) := cB BK109 1; have hfz19_0 := zB BK109 0; have hfz19_1 := zB BK109 1) | ((with_reducible refine gate_callee (f := 171) rfl ?_); refine cl_ (some 11) Try.func171 #[.agg #[.int .i64 a0_0, .slice A0_1 l0_1.length c0_1], .slice A1 l1.length c1, .bool a2] ?_; (with_reducible refine (impl_pairingCode.calls a0_0 _ _ l0_1 _ _ l1 a2 t110 _ ?side1 ?side2 ?side3 ?side4 A4.out).mono ?_); (case side1 => exact pC ((Kd.C_below HR0_1.out HB.out))); (case side2 => exact HC0_1.out); (case side3 => exact pC ((Kd.C_below HR1.out HB.out))); (case side4 => exact HC1.out); rintro e w20 ⟨rfl, hb⟩; refine ⟨_, rfl, ?_⟩; replace BK109 := sB BK109 hb; replace HB := sH HB hb; (try clear hb); (try clear hi)))
  go_ret
  exact ⟨by first | rfl | (simp [errW_none, errW_some] <;> rfl) | (simp [*, errW_none, errW_some] <;> rfl), pH HB⟩
def bits_OnesCount64.f (a0 : Int) : Option (Int) := some (Go.bits .and .i64 (wrap64 (IntKind.u64.wrap ((IntKind.u64.wrap ((IntKind.u64.wrap ((Go.bits .and .u64 (IntKind.u64.wrap (((IntKind.u64.wrap ((Go.bits .and .u64 ((IntKind.u64.wrap ((Go.bits .and .u64 (a0 / 2) 6148914691236517205) + (Go.bits .and .u64 a0 6148914691236517205))) / 4) 3689348814741910323) + (Go.bits .and .u64 (IntKind.u64.wrap ((Go.bits .and .u64 (a0 / 2) 6148914691236517205) + (Go.bits .and .u64 a0 6148914691236517205))) 3689348814741910323))) / 16) + (IntKind.u64.wrap ((Go.bits .and .u64 ((IntKind.u64.wrap ((Go.bits .and .u64 (a0 / 2) 6148914691236517205) + (Go.bits .and .u64 a0 6148914691236517205))) / 4) 3689348814741910323) + (Go.bits .and .u64 (IntKind.u64.wrap ((Go.bits .and .u64 (a0 / 2) 6148914691236517205) + (Go.bits .and .u64 a0 6148914691236517205))) 3689348814741910323))))) 1085102592571150095) + ((Go.bits .and .u64 (IntKind.u64.wrap (((IntKind.u64.wrap ((Go.bits .and .u64 ((IntKind.u64.wrap ((Go.bits .and .u64 (a0 / 2) 6148914691236517205) + (Go.bits .and .u64 a0 6148914691236517205))) / 4) 3689348814741910323) + (Go.bits .and .u64 (IntKind.u64.wrap ((Go.bits .and .u64 (a0 / 2) 6148914691236517205) + (Go.bits .and .u64 a0 6148914691236517205))) 3689348814741910323))) / 16) + (IntKind.u64.wrap ((Go.bits .and .u64 ((IntKind.u64.wrap ((Go.bits .and .u64 (a0 / 2) 6148914691236517205) + (Go.bits .and .u64 a0 6148914691236517205))) / 4) 3689348814741910323) + (Go.bits .and .u64 (IntKind.u64.wrap ((Go.bits .and .u64 (a0 / 2) 6148914691236517205) + (Go.bits .and .u64 a0 6148914691236517205))) 3689348814741910323))))) 1085102592571150095) / 256))) + ((IntKind.u64.wrap ((Go.bits .and .u64 (IntKind.u64.wrap (((IntKind.u64.wrap ((Go.bits .and .u64 ((IntKind.u64.wrap ((Go.bits .and .u64 (a0 / 2) 6148914691236517205) + (Go.bits .and .u64 a0 6148914691236517205))) / 4) 3689348814741910323) + (Go.bits .and .u64 (IntKind.u64.wrap ((Go.bits .and .u64 (a0 / 2) 6148914691236517205) + (Go.bits .and .u64 a0 6148914691236517205))) 3689348814741910323))) / 16) + (IntKind.u64.wrap ((Go.bits .and .u64 ((IntKind.u64.wrap ((Go.bits .and .u64 (a0 / 2) 6148914691236517205) + (Go.bits .and .u64 a0 6148914691236517205))) / 4) 3689348814741910323) + (Go.bits .and .u64 (IntKind.u64.wrap ((Go.bits .and .u64 (a0 / 2) 6148914691236517205) + (Go.bits .and .u64 a0 6148914691236517205))) 3689348814741910323))))) 1085102592571150095) + ((Go.bits .and .u64 (IntKind.u64.wrap (((IntKind.u64.wrap ((Go.bits .and .u64 ((IntKind.u64.wrap ((Go.bits .and .u64 (a0 / 2) 6148914691236517205) + (Go.bits .and .u64 a0 6148914691236517205))) / 4) 3689348814741910323) + (Go.bits .and .u64 (IntKind.u64.wrap ((Go.bits .and .u64 (a0 / 2) 6148914691236517205) + (Go.bits .and .u64 a0 6148914691236517205))) 3689348814741910323))) / 16) + (IntKind.u64.wrap ((Go.bits .and .u64 ((IntKind.u64.wrap ((Go.bits .and .u64 (a0 / 2) 6148914691236517205) + (Go.bits .and .u64 a0 6148914691236517205))) / 4) 3689348814741910323) + (Go.bits .and .u64 (IntKind.u64.wrap ((Go.bits .and .u64 (a0 / 2) 6148914691236517205) + (Go.bits .and .u64 a0 6148914691236517205))) 3689348814741910323))))) 1085102592571150095) / 256))) / 65536))) + ((IntKind.u64.wrap ((IntKind.u64.wrap ((Go.bits .and .u64 (IntKind.u64.wrap (((IntKind.u64.wrap ((Go.bits .and .u64 ((IntKind.u64.wrap ((Go.bits .and .u64 (a0 / 2) 6148914691236517205) + (Go.bits .and .u64 a0 6148914691236517205))) / 4) 3689348814741910323) + (Go.bits .and .u64 (IntKind.u64.wrap ((Go.bits .and .u64 (a0 / 2) 6148914691236517205) + (Go.bits .and .u64 a0 6148914691236517205))) 3689348814741910323))) / 16) + (IntKind.u64.wrap ((Go.bits .and .u64 ((IntKind.u64.wrap ((Go.bits .and .u64 (a0 / 2) 6148914691236517205) + (Go.bits .and .u64 a0 6148914691236517205))) / 4) 3689348814741910323) + (Go.bits .and .u64 (IntKind.u64.wrap ((Go.bits .and .u64 (a0 / 2) 6148914691236517205) + (Go.bits .and .u64 a0 6148914691236517205))) 3689348814741910323))))) 1085102592571150095) + ((Go.bits .and .u64 (IntKind.u64.wrap (((IntKind.u64.wrap ((Go.bits .and .u64 ((IntKind.u64.wrap ((Go.bits .and .u64 (a0 / 2) 6148914691236517205) + (Go.bits .and .u64 a0 6148914691236517205))) / 4) 3689348814741910323) + (Go.bits .and .u64 (IntKind.u64.wrap ((Go.bits .and .u64 (a0 / 2) 6148914691236517205) + (Go.bits .and .u64 a0 6148914691236517205))) 3689348814741910323))) / 16) + (IntKind.u64.wrap ((Go.bits .and .u64 ((IntKind.u64.wrap ((Go.bits .and .u64 (a0 / 2) 6148914691236517205) + (Go.bits .and .u64 a0 6148914691236517205))) / 4) 3689348814741910323) + (Go.bits .and .u64 (IntKind.u64.wrap ((Go.bits .and .u64 (a0 / 2) 6148914691236517205) + (Go.bits .and .u64 a0 6148914691236517205))) 3689348814741910323))))) 1085102592571150095) / 256))) + ((IntKind.u64.wrap ((Go.bits .and .u64 (IntKind.u64.wrap (((IntKind.u64.wrap ((Go.bits .and .u64 ((IntKind.u64.wrap ((Go.bits .and .u64 (a0 / 2) 6148914691236517205) + (Go.bits .and .u64 a0 6148914691236517205))) / 4) 3689348814741910323) + (Go.bits .and .u64 (IntKind.u64.wrap ((Go.bits .and .u64 (a0 / 2) 6148914691236517205) + (Go.bits .and .u64 a0 6148914691236517205))) 3689348814741910323))) / 16) + (IntKind.u64.wrap ((Go.bits .and .u64 ((IntKind.u64.wrap ((Go.bits .and .u64 (a0 / 2) 6148914691236517205) + (Go.bits .and .u64 a0 6148914691236517205))) / 4) 3689348814741910323) + (Go.bits .and .u64 (IntKind.u64.wrap ((Go.bits .and .u64 (a0 / 2) 6148914691236517205) + (Go.bits .and .u64 a0 6148914691236517205))) 3689348814741910323))))) 1085102592571150095) + ((Go.bits .and .u64 (IntKind.u64.wrap (((IntKind.u64.wrap ((Go.bits .and .u64 ((IntKind.u64.wrap ((Go.bits .and .u64 (a0 / 2) 6148914691236517205) + (Go.bits .and .u64 a0 6148914691236517205))) / 4) 3689348814741910323) + (Go.bits .and .u64 (IntKind.u64.wrap ((Go.bits .and .u64 (a0 / 2) 6148914691236517205) + (Go.bits .and .u64 a0 6148914691236517205))) 3689348814741910323))) / 16) + (IntKind.u64.wrap ((Go.bits .and .u64 ((IntKind.u64.wrap ((Go.bits .and .u64 (a0 / 2) 6148914691236517205) + (Go.bits .and .u64 a0 6148914691236517205))) / 4) 3689348814741910323) + (Go.bits .and .u64 (IntKind.u64.wrap ((Go.bits .and .u64 (a0 / 2) 6148914691236517205) + (Go.bits .and .u64 a0 6148914691236517205))) 3689348814741910323))))) 1085102592571150095) / 256))) / 65536))) / 4294967296)))) 127)
set_option maxHeartbeats 8000000 in
set_option maxRecDepth 100000 in
theorem bits_OnesCount64.calls (a0 : Int) (r : Int) (w : World) (h : bits_OnesCount64.f a0 = some r) :
  Calls Try.prog 201 #[.int .u64 a0] w fun e w' => e = .returned (.int .i64 r) ∧ Drawn0 w w' := by
 have H : (some (Go.bits .and .i64 (wrap64 (IntKind.u64.wrap ((IntKind.u64.wrap ((IntKind.u64.wrap ((Go.bits .and .u64 (IntKind.u64.wrap (((IntKind.u64.wrap ((Go.bits .and .u64 ((IntKind.u64.wrap ((Go.bits .and .u64 (a0 / 2) 6148914691236517205) + (Go.bits .and .u64 a0 6148914691236517205))) / 4) 3689348814741910323) + (Go.bits .and .u64 (IntKind.u64.wrap ((Go.bits .and .u64 (a0 / 2) 6148914691236517205) + (Go.bits .and .u64 a0 6148914691236517205))) 3689348814741910323))) / 16) + (IntKind.u64.wrap ((Go.bits .and .u64 ((IntKind.u64.wrap ((Go.bits .and .u64 (a0 / 2) 6148914691236517205) + (Go.bits .and .u64 a0 6148914691236517205))) / 4) 3689348814741910323) + (Go.bits .and .u64 (IntKind.u64.wrap ((Go.bits .and .u64 (a0 / 2) 6148914691236517205) + (Go.bits .and .u64 a0 6148914691236517205))) 3689348814741910323))))) 1085102592571150095) + ((Go.bits .and .u64 (IntKind.u64.wrap (((IntKind.u64.wrap ((Go.bits .and .u64 ((IntKind.u64.wrap ((Go.bits .and .u64 (a0 / 2) 6148914691236517205) + (Go.bits .and .u64 a0 6148914691236517205))) / 4) 3689348814741910323) + (Go.bits .and .u64 (IntKind.u64.wrap ((Go.bits .and .u64 (a0 / 2) 6148914691236517205) + (Go.bits .and .u64 a0 6148914691236517205))) 3689348814741910323))) / 16) + (IntKind.u64.wrap ((Go.bits .and .u64 ((IntKind.u64.wrap ((Go.bits .and .u64 (a0 / 2) 6148914691236517205) + (Go.bits .and .u64 a0 6148914691236517205))) / 4) 3689348814741910323) + (Go.bits .and .u64 (IntKind.u64.wrap ((Go.bits .and .u64 (a0 / 2) 6148914691236517205) + (Go.bits .and .u64 a0 6148914691236517205))) 3689348814741910323))))) 1085102592571150095) / 256))) + ((IntKind.u64.wrap ((Go.bits .and .u64 (IntKind.u64.wrap (((IntKind.u64.wrap ((Go.bits .and .u64 ((IntKind.u64.wrap ((Go.bits .and .u64 (a0 / 2) 6148914691236517205) + (Go.bits .and .u64 a0 6148914691236517205))) / 4) 3689348814741910323) + (Go.bits .and .u64 (IntKind.u64.wrap ((Go.bits .and .u64 (a0 / 2) 6148914691236517205) + (Go.bits .and .u64 a0 6148914691236517205))) 3689348814741910323))) / 16) + (IntKind.u64.wrap ((Go.bits .and .u64 ((IntKind.u64.wrap ((Go.bits .and .u64 (a0 / 2) 6148914691236517205) + (Go.bits .and .u64 a0 6148914691236517205))) / 4) 3689348814741910323) + (Go.bits .and .u64 (IntKind.u64.wrap ((Go.bits .and .u64 (a0 / 2) 6148914691236517205) + (Go.bits .and .u64 a0 6148914691236517205))) 3689348814741910323))))) 1085102592571150095) + ((Go.bits .and .u64 (IntKind.u64.wrap (((IntKind.u64.wrap ((Go.bits .and .u64 ((IntKind.u64.wrap ((Go.bits .and .u64 (a0 / 2) 6148914691236517205) + (Go.bits .and .u64 a0 6148914691236517205))) / 4) 3689348814741910323) + (Go.bits .and .u64 (IntKind.u64.wrap ((Go.bits .and .u64 (a0 / 2) 6148914691236517205) + (Go.bits .and .u64 a0 6148914691236517205))) 3689348814741910323))) / 16) + (IntKind.u64.wrap ((Go.bits .and .u64 ((IntKind.u64.wrap ((Go.bits .and .u64 (a0 / 2) 6148914691236517205) + (Go.bits .and .u64 a0 6148914691236517205))) / 4) 3689348814741910323) + (Go.bits .and .u64 (IntKind.u64.wrap ((Go.bits .and .u64 (a0 / 2) 6148914691236517205) + (Go.bits .and .u64 a0 6148914691236517205))) 3689348814741910323))))) 1085102592571150095) / 256))) / 65536))) + ((IntKind.u64.wrap ((IntKind.u64.wrap ((Go.bits .and .u64 (IntKind.u64.wrap (((IntKind.u64.wrap ((Go.bits .and .u64 ((IntKind.u64.wrap ((Go.bits .and .u64 (a0 / 2) 6148914691236517205) + (Go.bits .and .u64 a0 6148914691236517205))) / 4) 3689348814741910323) + (Go.bits .and .u64 (IntKind.u64.wrap ((Go.bits .and .u64 (a0 / 2) 6148914691236517205) + (Go.bits .and .u64 a0 6148914691236517205))) 3689348814741910323))) / 16) + (IntKind.u64.wrap ((Go.bits .and .u64 ((IntKind.u64.wrap ((Go.bits .and .u64 (a0 / 2) 6148914691236517205) + (Go.bits .and .u64 a0 6148914691236517205))) / 4) 3689348814741910323) + (Go.bits .and .u64 (IntKind.u64.wrap ((Go.bits .and .u64 (a0 / 2) 6148914691236517205) + (Go.bits .and .u64 a0 6148914691236517205))) 3689348814741910323))))) 1085102592571150095) + ((Go.bits .and .u64 (IntKind.u64.wrap (((IntKind.u64.wrap ((Go.bits .and .u64 ((IntKind.u64.wrap ((Go.bits .and .u64 (a0 / 2) 6148914691236517205) + (Go.bits .and .u64 a0 6148914691236517205))) / 4) 3689348814741910323) + (Go.bits .and .u64 (IntKind.u64.wrap ((Go.bits .and .u64 (a0 / 2) 6148914691236517205) + (Go.bits .and .u64 a0 6148914691236517205))) 3689348814741910323))) / 16) + (IntKind.u64.wrap ((Go.bits .and .u64 ((IntKind.u64.wrap ((Go.bits .and .u64 (a0 / 2) 6148914691236517205) + (Go.bits .and .u64 a0 6148914691236517205))) / 4) 3689348814741910323) + (Go.bits .and .u64 (IntKind.u64.wrap ((Go.bits .and .u64 (a0 / 2) 6148914691236517205) + (Go.bits .and .u64 a0 6148914691236517205))) 3689348814741910323))))) 1085102592571150095) / 256))) + ((IntKind.u64.wrap ((Go.bits .and .u64 (IntKind.u64.wrap (((IntKind.u64.wrap ((Go.bits .and .u64 ((IntKind.u64.wrap ((Go.bits .and .u64 (a0 / 2) 6148914691236517205) + (Go.bits .and .u64 a0 6148914691236517205))) / 4) 3689348814741910323) + (Go.bits .and .u64 (IntKind.u64.wrap ((Go.bits .and .u64 (a0 / 2) 6148914691236517205) + (Go.bits .and .u64 a0 6148914691236517205))) 3689348814741910323))) / 16) + (IntKind.u64.wrap ((Go.bits .and .u64 ((IntKind.u64.wrap ((Go.bits .and .u64 (a0 / 2) 6148914691236517205) + (Go.bits .and .u64 a0 6148914691236517205))) / 4) 3689348814741910323) + (Go.bits .and .u64 (IntKind.u64.wrap ((Go.bits .and .u64 (a0 / 2) 6148914691236517205) + (Go.bits .and .u64 a0 6148914691236517205))) 3689348814741910323))))) 1085102592571150095) + ((Go.bits .and .u64 (IntKind.u64.wrap (((IntKind.u64.wrap ((Go.bits .and .u64 ((IntKind.u64.wrap ((Go.bits .and .u64 (a0 / 2) 6148914691236517205) + (Go.bits .and .u64 a0 6148914691236517205))) / 4) 3689348814741910323) + (Go.bits .and .u64 (IntKind.u64.wrap ((Go.bits .and .u64 (a0 / 2) 6148914691236517205) + (Go.bits .and .u64 a0 6148914691236517205))) 3689348814741910323))) / 16) + (IntKind.u64.wrap ((Go.bits .and .u64 ((IntKind.u64.wrap ((Go.bits .and .u64 (a0 / 2) 6148914691236517205) + (Go.bits .and .u64 a0 6148914691236517205))) / 4) 3689348814741910323) + (Go.bits .and .u64 (IntKind.u64.wrap ((Go.bits .and .u64 (a0 / 2) 6148914691236517205) + (Go.bits .and .u64 a0 6148914691236517205))) 3689348814741910323))))) 1085102592571150095) / 256))) / 65536))) / 4294967296)))) 127)) = some r := h
 clear h
 obtain rfl := Option.some.inj H
 go_enter Try.func201, Try.ntmps201
 go_wp2
 go_ret
 exact ⟨by first | rfl | (simp; done) | (simp [*]; done), by repeat (first | exact Drawn0.refl _ | apply Drawn0.step)⟩
def impl_size.f (a0 : Int) : Option (Int) := (bits_OnesCount64.f (IntKind.u64.wrap (a0))).bind fun t112 => (some t112)
set_option maxHeartbeats 8000000 in
set_option maxRecDepth 100000 in
theorem impl_size.calls (a0 : Int) (r : Int) (w : World) (h : impl_size.f a0 = some r) :
  Calls Try.prog 163 #[.int .i64 a0] w fun e w' => e = .returned (.int .i64 r) ∧ Drawn0 w w' := by
 have H : ((bits_OnesCount64.f (IntKind.u64.wrap (a0))).bind fun t112 => (some t112)) = some r := h
 clear h
 replace H := Option.bind_eq_some_iff.mp H
 obtain ⟨t112, A20, H⟩ := H
 try dsimp only at H
 have A2 := Aside0.mk A20
 clear A20
 obtain rfl := Option.some.inj H
 go_enter Try.func163, Try.ntmps163
 go_wp2_with (first | ((with_reducible refine gate_callee (f := 201) rfl ?_); refine cl_ (some 5) Try.func201 #[.int .u64 (IntKind.u64.wrap (a0))] ?_; (with_reducible refine (bits_OnesCount64.calls (IntKind.u64.wrap (a0)) t112 _ A2.out).mono ?_); rintro e w' ⟨rfl, ⟨nd, rfl⟩⟩; refine ⟨_, rfl, ?_⟩))
 go_ret
 exact ⟨by first | rfl | (simp; done) | (simp [*]; done), by repeat (first | exact Drawn0.refl _ | apply Drawn0.step)⟩
def impl_Complex_critical_1_1.f (a0_0 : Int) (a0_1 : Int) (a1_0 : Int) : Option (Bool) := if a0_0 = a1_0 then (some true) else (some (a0_1 == a1_0))
set_option maxHeartbeats 8000000 in
set_option maxRecDepth 100000 in
theorem impl_Complex_critical_1_1.calls (a0_0 : Int) (a0_1 : Int) (g1 : Nat) (a1_0 : Int) (r : Bool) (w : World) (hb1 : w.heap[g1]? = some (.cells #[.int .i64 a1_0] 2 (0, 0))) (h : impl_Complex_critical_1_1.f a0_0 a0_1 a1_0 = some r) :
  Calls Try.prog 215 #[.agg #[.int .i64 a0_0, .int .i64 a0_1], .pointer (some ⟨g1, 0, none⟩)] w fun e w' => e = .returned (.bool r) ∧ Below w.heap.size w w' := by
 have hu76 := Try.underlying76
 have BK113 := Aside0.mk hb1
 clear hb1
 have HB := Aside0.mk (Below.refl w.heap.size w)
 have H : (if a0_0 = a1_0 then (some true) else (some (a0_1 == a1_0))) = some r := h
 clear h
 by_cases c3 : a0_0 = a1_0
 ·rw [if_pos c3] at H
  have c3b0 : (a0_0 == a1_0) = true := beq_iff_eq.mpr c3
  have c3b1 : (a0_0 != a1_0) = false := bne_eq_false_iff_eq.mpr c3
  clear c3
  obtain rfl := Option.some.inj H
  go_enter Try.func215, Try.ntmps215
  go_wp2_with (first | ((with_reducible refine gate_dst (N := 2) rfl ?_); refine box_event ?hg (N := 2) ?hd (cs := #[.int .i64 a0_0, .int .i64 a0_1]) (t := 76) ?hr ?_; (case hd => rfl); (case hg => rfl); (case hr => first | (go_simp; done) | (go_simp; rfl)); intro gb114 hg w4 hbox hb; have BK114 := Aside0.mk (hbox); have GW114 := gH HB hg; have GE114 := gH HB hg; replace HB := sH HB hb; have NB113_114 := nB BK113 hg; have NB114_113 := oB BK113 hg; replace BK113 := sB BK113 hb; clear hb hbox hg; (try have hnb5 := NB114_113.out); (try have hnc5 := NB113_114.out); have hcz6_0 : w4.cell? ⟨gb114, 0, none⟩ = some (.int .i64 a0_0) := cB BK114 0; have hcz6_1 : w4.cell? ⟨gb114, 1, none⟩ = some (.int .i64 a0_1) := cB BK114 1; have hfz6_0 := zB BK114 0; have hfz6_1 := zB BK114 1; have hcz7_0 : w4.cell? ⟨g1, 0, none⟩ = some (.int .i64 a1_0) := cB BK113 0; have hfz7_0 := zB BK113 0))
  go_ret
  exact ⟨by first | rfl | (simp [errW_none, errW_some] <;> rfl) | (simp [*, errW_none, errW_some] <;> rfl), pH HB⟩
 ·rw [if_neg c3] at H
  have c3b0 : (a0_0 == a1_0) = false := beq_eq_false_iff_ne.mpr c3
  have c3b1 : (a0_0 != a1_0) = true := bne_iff_ne.mpr c3
  obtain rfl := Option.some.inj H
  go_enter Try.func215, Try.ntmps215
  go_wp2_with (first | ((with_reducible refine gate_dst (N := 2) rfl ?_); refine box_event ?hg (N := 2) ?hd (cs := #[.int .i64 a0_0, .int .i64 a0_1]) (t := 76) ?hr ?_; (case hd => rfl); (case hg => rfl); (case hr => first | (go_simp; done) | (go_simp; rfl)); intro gb114 hg w8 hbox hb; have BK114 := Aside0.mk (hbox); have GW114 := gH HB hg; have GE114 := gH HB hg; replace HB := sH HB hb; have NB113_114 := nB BK113 hg; have NB114_113 := oB BK113 hg; replace BK113 := sB BK113 hb; clear hb hbox hg; (try have hnb9 := NB114_113.out); (try have hnc9 := NB113_114.out); have hcz10_0 : w8.cell? ⟨gb114, 0, none⟩ = some (.int .i64 a0_0) := cB BK114 0; have hcz10_1 : w8.cell? ⟨gb114, 1, none⟩ = some (.int .i64 a0_1) := cB BK114 1; have hfz10_0 := zB BK114 0; have hfz10_1 := zB BK114 1; have hcz11_0 : w8.cell? ⟨g1, 0, none⟩ = some (.int .i64 a1_0) := cB BK113 0; have hfz11_0 := zB BK113 0))
  go_ret
  exact ⟨by first | rfl | (simp [errW_none, errW_some] <;> rfl) | (simp [*, errW_none, errW_some] <;> rfl), pH HB⟩
def clo_215 (a1_0 : Int) : Pred := Pred.ofP (fun x y => impl_Complex_critical_1_1.f x y a1_0)
set_option maxRecDepth 100000 in
theorem clo_ok_215 {W : World} {g1 : Nat} {a1_0 : Int} (hb1 : W.heap[g1]? = some (.cells #[.int .i64 a1_0] 2 (0, 0)))  : FnOk (.func (.func 215) #[] #[.pointer (some ⟨g1, 0, none⟩)]) (clo_215 a1_0) W :=
 FnOk.ofP (enters_of Try.func215 (by kernel_rfl) rfl) (fun V x y b hV hr => by
  show Calls Try.prog 215 #[.agg #[.int .i64 x, .int .i64 y], .pointer (some ⟨g1, 0, none⟩)] V _
  exact (impl_Complex_critical_1_1.calls x y g1 a1_0 b V ((hV.block g1 (blk_lt hb1)).trans hb1) hr).mono (fun e w' h_ => ⟨h_.1, h_.2⟩))
def impl_Complex_critical_1.f (a0 : Int) (l1_0 : List (S76)) : Option (Bool) := (slices_ContainsFunc_impl_Pair_impl_Pair.f l1_0 (clo_215 a0)).bind fun t117 => (some t117)
set_option maxHeartbeats 8000000 in
set_option maxRecDepth 100000 in
theorem impl_Complex_critical_1.calls (a0 : Int) (g1 : Nat) (A1_0 : Option Addr) (c1_0 : Nat) (l1_0 : List (S76)) (r : Bool) (w : World) (hb1 : w.heap[g1]? = some (.cells #[.slice A1_0 l1_0.length c1_0] 27 (0, 0))) (hr1_0 : Kd.C k76 w A1_0 l1_0.length l1_0) (hc1_0 : l1_0.length ≤ c1_0) (h : impl_Complex_critical_1.f a0 l1_0 = some r) :
  Calls Try.prog 214 #[.int .i64 a0, .pointer (some ⟨g1, 0, none⟩)] w fun e w' => e = .returned (.bool r) ∧ Below w.heap.size w w' := by
 have HR1_0 := Aside0.mk hr1_0
 have HC1_0 := Aside0.mk hc1_0
 clear hr1_0 hc1_0
 have BK115 := Aside0.mk hb1
 clear hb1
 have HB := Aside0.mk (Below.refl w.heap.size w)
 have H : ((slices_ContainsFunc_impl_Pair_impl_Pair.f l1_0 (clo_215 a0)).bind fun t117 => (some t117)) = some r := h
 clear h
 replace H := Option.bind_eq_some_iff.mp H
 obtain ⟨t117, A30, H⟩ := H
 try dsimp only at H
 have A3 := Aside0.mk A30
 clear A30
 obtain rfl := Option.some.inj H
 go_enter Try.func214, Try.ntmps214
 go_wp2_with (first | ((with_reducible refine gate_dst (N := 2) rfl ?_); refine box_event ?hg (N := 2) ?hd (cs := #[.int .i64 a0]) (t := 2) ?hr ?_; (case hd => rfl); (case hg => rfl); (case hr => first | (go_simp; done) | (go_simp; rfl)); intro gb116 hg w4 hbox hb; have BK116 := Aside0.mk (hbox); have GW116 := gH HB hg; have GE116 := gH HB hg; replace HB := sH HB hb; have NB115_116 := nB BK115 hg; have NB116_115 := oB BK115 hg; replace BK115 := sB BK115 hb; clear hb hbox hg; (try have hnb5 := NB115_116.out); (try have hnc5 := NB116_115.out); have hcz6_0 : w4.cell? ⟨g1, 0, none⟩ = some (.slice A1_0 l1_0.length c1_0) := cB BK115 0; have hfz6_0 := zB BK115 0) | ((with_reducible refine gate_callee (f := 184) rfl ?_); refine cl_ (some 6) Try.func184 #[.slice A1_0 l1_0.length c1_0, .func (.func 215) #[] #[.pointer (some ⟨gb116, 0, none⟩)]] ?_; (with_reducible refine (slices_ContainsFunc_impl_Pair_impl_Pair.calls _ _ l1_0 _ (clo_215 a0) t117 _ ?side1 ?side2 ?side3 A3.out).mono ?_); (case side1 => exact pC ((Kd.C_below HR1_0.out HB.out))); (case side2 => exact HC1_0.out); (case side3 => exact clo_ok_215 (pB BK116) ); rintro e w7 ⟨rfl, hb⟩; refine ⟨_, rfl, ?_⟩; replace BK115 := sB BK115 hb; replace BK116 := sB BK116 hb; replace HB := sH HB hb; (try clear hb); (try clear hi)))
 go_ret
 exact ⟨by first | rfl | (simp [errW_none, errW_some] <;> rfl) | (simp [*, errW_none, errW_some] <;> rfl), pH HB⟩
def clo_214 (l1_0 : List (S76)) : Pred := Pred.ofI (fun x => impl_Complex_critical_1.f x l1_0)
set_option maxRecDepth 100000 in
theorem clo_ok_214 {W : World} {g1 : Nat} {A1_0 : Option Addr} {c1_0 : Nat} {l1_0 : List (S76)} (hb1 : W.heap[g1]? = some (.cells #[.slice A1_0 l1_0.length c1_0] 27 (0, 0))) (hr1_0 : Kd.C k76 W A1_0 l1_0.length l1_0) (hc1_0 : l1_0.length ≤ c1_0) : FnOk (.func (.func 214) #[] #[.pointer (some ⟨g1, 0, none⟩)]) (clo_214 l1_0) W :=
 FnOk.ofI (enters_of Try.func214 (by kernel_rfl) rfl) (fun V x b hV hr => by
  show Calls Try.prog 214 #[.int .i64 x, .pointer (some ⟨g1, 0, none⟩)] V _
  exact (impl_Complex_critical_1.calls x g1 A1_0 c1_0 l1_0 b V ((hV.block g1 (blk_lt hb1)).trans hb1) (Kd.C_below hr1_0 hV) hc1_0 hr).mono (fun e w' h_ => ⟨h_.1, h_.2⟩))
def impl_Complex_critical.f (a0_0 : Int) (l0_1 : List Int) (l1 : List (S76)) : Option (List Int) := (slices_Clone_int64_int64.f l0_1).bind fun t120 => ((slices_DeleteFunc_int64_int64.f t120 (clo_214 l1)).bind fun t123 => (some t123))
set_option maxHeartbeats 8000000 in
set_option maxRecDepth 100000 in
theorem impl_Complex_critical.calls (a0_0 : Int) (A0_1 : Option Addr) (c0_1 : Nat) (l0_1 : List Int) (A1 : Option Addr) (c1 : Nat) (l1 : List (S76)) (r : List Int) (w : World) (hr0_1 : Kd.C (Kd.int .i64) w A0_1 l0_1.length l0_1) (hc0_1 : l0_1.length ≤ c0_1) (hr1 : Kd.C k76 w A1 l1.length l1) (hc1 : l1.length ≤ c1) (h : impl_Complex_critical.f a0_0 l0_1 l1 = some r) :
  Calls Try.prog 179 #[.agg #[.int .i64 a0_0, .slice A0_1 l0_1.length c0_1], .slice A1 l1.length c1] w fun e w' => ∃ v0_ : Value, e = .returned (v0_) ∧ Kd.R (Kd.int .i64) 2 w' w.heap.size (fun _ => True) v0_ r ∧ Below w.heap.size w w' := by
 have hu26 := Try.underlying26
 have HR0_1 := Aside0.mk hr0_1
 have HC0_1 := Aside0.mk hc0_1
 clear hr0_1 hc0_1
 have HR1 := Aside0.mk hr1
 have HC1 := Aside0.mk hc1
 clear hr1 hc1
 have HB := Aside0.mk (Below.refl w.heap.size w)
 have H : ((slices_Clone_int64_int64.f l0_1).bind fun t120 => ((slices_DeleteFunc_int64_int64.f t120 (clo_214 l1)).bind fun t123 => (some t123))) = some r := h
 clear h
 replace H := Option.bind_eq_some_iff.mp H
 obtain ⟨t120, A30, H⟩ := H
 try dsimp only at H
 have A3 := Aside0.mk A30
 clear A30
 replace H := Option.bind_eq_some_iff.mp H
 obtain ⟨t123, A40, H⟩ := H
 try dsimp only at H
 have A4 := Aside0.mk A40
 clear A40
 obtain rfl := Option.some.inj H
 go_enter Try.func179, Try.ntmps179
 go_wp2_with (first | ((with_reducible refine gate_dst (N := 2) rfl ?_); refine box_event ?hg (N := 2) ?hd (cs := #[.int .i64 a0_0, .slice A0_1 l0_1.length c0_1]) (t := 26) ?hr ?_; (case hd => rfl); (case hg => rfl); (case hr => first | (go_simp; done) | (go_simp; rfl)); intro gb118 hg w5 hbox hb; have BK118 := Aside0.mk (hbox); have GW118 := gH HB hg; have GE118 := gH HB hg; replace HB := sH HB hb; clear hb hbox hg) | ((with_reducible refine gate_dst (N := 3) rfl ?_); refine box_event ?hg (N := 3) ?hd (cs := #[.slice A1 l1.length c1]) (t := 27) ?hr ?_; (case hd => rfl); (case hg => rfl); (case hr => first | (go_simp; done) | (go_simp; rfl)); intro gb119 hg w6 hbox hb; have BK119 := Aside0.mk (hbox); have GW119 := gH HB hg; have GE119 := gH HB hg; replace HB := sH HB hb; have NB118_119 := nB BK118 hg; have NB119_118 := oB BK118 hg; replace BK118 := sB BK118 hb; clear hb hbox hg; (try have hnb7 := NB118_119.out); (try have hnc7 := NB119_118.out); have hcz8_0 : w6.cell? ⟨gb118, 0, none⟩ = some (.int .i64 a0_0) := cB BK118 0; have hcz8_1 : w6.cell? ⟨gb118, 1, none⟩ = some (.slice A0_1 l0_1.length c0_1) := cB BK118 1; have hfz8_0 := zB BK118 0; have hfz8_1 := zB BK118 1) | ((with_reducible refine gate_callee (f := 158) rfl ?_); refine cl_ (some 7) Try.func158 #[.slice A0_1 l0_1.length c0_1] ?_; (with_reducible refine (slices_Clone_int64_int64.calls _ _ l0_1 t120 _ ?side1 ?side2 A3.out).mono ?_); (case side1 => exact pC ((Kd.C_below HR0_1.out HB.out))); (case side2 => exact HC0_1.out); rintro e w9 ⟨v121, rfl, ho0, hb⟩; refine ⟨_, rfl, ?_⟩; have HO122 := Aside0.mk (Kd.R_lower ho0 (below_size (pH HB))); replace BK118 := sB BK118 hb; replace BK119 := sB BK119 hb; replace HB := sH HB hb; (try clear hb); (try clear hi); (try clear ho0); obtain ⟨Ao10, co10, eo10⟩ := Kd.R_slice HO122.out; subst eo10) | ((with_reducible refine gate_callee (f := 96) rfl ?_); refine cl_ (some 9) Try.func96 #[.slice Ao10 t120.length co10, .func (.func 214) #[] #[.pointer (some ⟨gb119, 0, none⟩)]] ?_; (with_reducible refine (slices_DeleteFunc_int64_int64.calls (fun k_ => some k_ = (.slice Ao10 t120.length co10 : Value).ownBlock) (.slice Ao10 t120.length co10) t120 _ (clo_214 l1) t123 w _ ?side1 ?side2 ?side3 A4.out).mono ?_); (case side1 => repeat (first | (with_reducible first | exact HB.out | apply below_alloc | apply pw_below_drewN | apply below_drew1 | refine below_set ?_ GE118.out | refine below_set ?_ GE119.out) | exact HB.out)); (case side2 => exact Kd.R_tight rfl HO122.out); (case side3 => intro W_ hK_; exact clo_ok_214 (blk_kept (pB BK119) hK_ (fun hs_ => (fun e_ => (Kd.R_ne HO122.out BK119.out (by decide)) e_) hs_)) ((Kd.C_kept_came k76_heap HR1.out (pH HB) (fun k_ hs_ => (fun e_ => Kd.R_base HO122.out k_ e_.symm) hs_)) W_ hK_) (by exact HC1.out)); rintro e w11 ⟨v124, rfl, ho0, hb, hkp⟩; refine ⟨_, rfl, ?_⟩; replace BK118 := Aside0.mk (blk_kept (pB BK118) hkp (fun hs_ => (fun e_ => (Kd.R_ne HO122.out BK118.out (by decide)) e_) hs_)); replace BK119 := Aside0.mk (blk_kept (pB BK119) hkp (fun hs_ => (fun e_ => (Kd.R_ne HO122.out BK119.out (by decide)) e_) hs_)); have HO125 := Aside0.mk (Kd.R_mono (ok' := fun k_ => True) ho0 (fun k_ hk_ => trivial)); replace HB := Aside0.mk (hb); clear HO122; (try clear hb); (try clear hkp); (try clear ho0)))
 go_ret
 exact ⟨_, by first | rfl | (simp [errW_none, errW_some] <;> rfl) | (simp [*, errW_none, errW_some] <;> rfl), by (with_reducible repeat (first | apply Kd.R_alloc | apply Kd.R_drewN | apply Kd.R_drew)); exact HO125.out, pH HB⟩
def impl_Complex_areBeside.f (a0_0 : Int) (l0_1 : List Int) (l1 : List (S76)) (a2 : Int) (a3 : Int) : Option (Bool) := (impl_Complex_critical.f a0_0 l0_1 l1).bind fun t127 => ((slices_Contains_int64_int64.f t127 a2).bind fun t130 => (if t130 = true then ((slices_Contains_int64_int64.f t127 a3).bind fun t131 => (if t131 = true then ((impl_size.f a2).bind fun t132 => ((impl_size.f a3).bind fun t133 => (some (t132 == (wrap64 (t133 + 1)))))) else (some false))) else (some false)))
set_option maxHeartbeats 8000000 in
set_option maxRecDepth 100000 in
theorem impl_Complex_areBeside.calls (a0_0 : Int) (A0_1 : Option Addr) (c0_1 : Nat) (l0_1 : List Int) (A1 : Option Addr) (c1 : Nat) (l1 : List (S76)) (a2 : Int) (a3 : Int) (r : Bool) (w : World) (hr0_1 : Kd.C (Kd.int .i64) w A0_1 l0_1.length l0_1) (hc0_1 : l0_1.length ≤ c0_1) (hr1 : Kd.C k76 w A1 l1.length l1) (hc1 : l1.length ≤ c1) (h : impl_Complex_areBeside.f a0_0 l0_1 l1 a2 a3 = some r) :
  Calls Try.prog 172 #[.agg #[.int .i64 a0_0, .slice A0_1 l0_1.length c0_1], .slice A1 l1.length c1, .int .i64 a2, .int .i64 a3] w fun e w' => e = .returned (.bool r) ∧ Below w.heap.size w w' := by
 have hu26 := Try.underlying26
 have HR0_1 := Aside0.mk hr0_1
 have HC0_1 := Aside0.mk hc0_1
 clear hr0_1 hc0_1
 have HR1 := Aside0.mk hr1
 have HC1 := Aside0.mk hc1
 clear hr1 hc1
 have HB := Aside0.mk (Below.refl w.heap.size w)
 have H : ((impl_Complex_critical.f a0_0 l0_1 l1).bind fun t127 => ((slices_Contains_int64_int64.f t127 a2).bind fun t130 => (if t130 = true then ((slices_Contains_int64_int64.f t127 a3).bind fun t131 => (if t131 = true then ((impl_size.f a2).bind fun t132 => ((impl_size.f a3).bind fun t133 => (some (t132 == (wrap64 (t133 + 1)))))) else (some false))) else (some false)))) = some r := h
 clear h
 replace H := Option.bind_eq_some_iff.mp H
 obtain ⟨t127, A50, H⟩ := H
 try dsimp only at H
 have A5 := Aside0.mk A50
 clear A50
 replace H := Option.bind_eq_some_iff.mp H
 obtain ⟨t130, A60, H⟩ := H
 try dsimp only at H
 have A6 := Aside0.mk A60
 clear A60
 by_cases c7 : t130 = true
 ·subst c7
  have H1 : ((slices_Contains_int64_int64.f t127 a3).bind fun t131 => (if t131 = true then ((impl_size.f a2).bind fun t132 => ((impl_size.f a3).bind fun t133 => (some (t132 == (wrap64 (t133 + 1)))))) else (some false))) = some r := by rw [if_pos rfl] at H; exact H
  clear H
  have H := H1
  clear H1
  replace H := Option.bind_eq_some_iff.mp H
  obtain ⟨t131, A80, H⟩ := H
  try dsimp only at H
  have A8 := Aside0.mk A80
  clear A80
  by_cases c9 : t131 = true
  ·subst c9
   have H1 : ((impl_size.f a2).bind fun t132 => ((impl_size.f a3).bind fun t133 => (some (t132 == (wrap64 (t133 + 1)))))) = some r := by rw [if_pos rfl] at H; exact H
   clear H
   have H := H1
   clear H1
   replace H := Option.bind_eq_some_iff.mp H
   obtain ⟨t132, A100, H⟩ := H
   try dsimp only at H
   have A10 := Aside0.mk A100
   clear A100
   replace H := Option.bind_eq_some_iff.mp H
   obtain ⟨t133, A110, H⟩ := H
   try dsimp only at H
   have A11 := Aside0.mk A110
   clear A110
   obtain rfl := Option.some.inj H
   go_enter Try.func172, Try.ntmps172
   go_wp2_with (first | ((with_reducible refine gate_dst (N := 4) rfl ?_); refine box_event ?hg (N := 4) ?hd (cs := #[.int .i64 a0_0, .slice A0_1 l0_1.length c0_1]) (t := 26) ?hr ?_; (case hd => rfl); (case hg => rfl); (case hr => first | (go_simp; done) | (go_simp; rfl)); intro gb126 hg w12 hbox hb; have BK126 := Aside0.mk (hbox); have GW126 := gH HB hg; have GE126 := gH HB hg; replace HB := sH HB hb; clear hb hbox hg; have hcz13_0 : w12.cell? ⟨gb126, 0, none⟩ = some (.int .i64 a0_0) := cB BK126 0; have hcz13_1 : w12.cell? ⟨gb126, 1, none⟩ = some (.slice A0_1 l0_1.length c0_1) := cB BK126 1; have hfz13_0 := zB BK126 0; have hfz13_1 := zB BK126 1) | ((with_reducible refine gate_callee (f := 179) rfl ?_); refine cl_ (some 12) Try.func179 #[.agg #[.int .i64 a0_0, .slice A0_1 l0_1.length c0_1], .slice A1 l1.length c1] ?_; (with_reducible refine (impl_Complex_critical.calls a0_0 _ _ l0_1 _ _ l1 t127 _ ?side1 ?side2 ?side3 ?side4 A5.out).mono ?_); (case side1 => exact pC ((Kd.C_below HR0_1.out HB.out))); (case side2 => exact HC0_1.out); (case side3 => exact pC ((Kd.C_below HR1.out HB.out))); (case side4 => exact HC1.out); rintro e w14 ⟨v128, rfl, ho0, hb⟩; refine ⟨_, rfl, ?_⟩; have HO129 := Aside0.mk (Kd.R_lower ho0 (below_size (pH HB))); replace BK126 := sB BK126 hb; replace HB := sH HB hb; (try clear hb); (try clear hi); (try clear ho0); obtain ⟨Ao15, co15, eo15⟩ := Kd.R_slice HO129.out; subst eo15) | ((with_reducible refine gate_callee (f := 152) rfl ?_); refine cl_ (some 15) Try.func152 #[.slice Ao15 t127.length co15, .int .i64 a2] ?_; (with_reducible refine (slices_Contains_int64_int64.calls _ _ t127 a2 true _ ?side1 ?side2 A6.out).mono ?_); (case side1 => exact pC ((Kd.R_reads' HO129.out).2.2)); (case side2 => exact (Kd.R_reads' HO129.out).2.1); rintro e w16 ⟨rfl, hb⟩; refine ⟨_, rfl, ?_⟩; replace HO129 := sR HO129 hb; replace BK126 := sB BK126 hb; replace HB := sH HB hb; (try clear hb); (try clear hi)) | (go_at_call 152; (with_reducible refine (slices_Contains_int64_int64.calls _ _ t127 a3 true _ ?side1 ?side2 A8.out).mono ?_); (case side1 => exact pC ((Kd.R_reads' HO129.out).2.2)); (case side2 => exact (Kd.R_reads' HO129.out).2.1); rintro e w17 ⟨rfl, hb⟩; replace HO129 := sR HO129 hb; replace BK126 := sB BK126 hb; replace HB := sH HB hb; (try clear hb); (try clear hi)) | (go_at_call 163; (with_reducible refine (impl_size.calls a2 t132 _ A10.out).mono ?_); rintro e w' ⟨rfl, ⟨nd, rfl⟩⟩) | (go_at_call 163; (with_reducible refine (impl_size.calls a3 t133 _ A11.out).mono ?_); rintro e w' ⟨rfl, ⟨nd, rfl⟩⟩))
   go_ret
   exact ⟨by first | rfl | (simp [errW_none, errW_some] <;> rfl) | (simp [*, errW_none, errW_some] <;> rfl), pH HB⟩
  ·replace c9 := Bool.eq_false_iff.mpr c9
   subst c9
   have H1 : (some false) = some r := by rw [if_neg (show ¬ (false = true) by decide)] at H; exact H
   clear H
   have H := H1
   clear H1
   obtain rfl := Option.some.inj H
   go_enter Try.func172, Try.ntmps172
   go_wp2_with (first | ((with_reducible refine gate_dst (N := 4) rfl ?_); refine box_event ?hg (N := 4) ?hd (cs := #[.int .i64 a0_0, .slice A0_1 l0_1.length c0_1]) (t := 26) ?hr ?_; (case hd => rfl); (case hg => rfl); (case hr => first | (go_simp; done) | (go_simp; rfl)); intro gb126 hg w18 hbox hb; have BK126 := Aside0.mk (hbox); have GW126 := gH HB hg; have GE126 := gH HB hg; replace HB := sH HB hb; clear hb hbox hg; have hcz19_0 : w18.cell? ⟨gb126, 0, none⟩ = some (.int .i64 a0_0) := cB BK126 0; have hcz19_1 : w18.cell? ⟨gb126, 1, none⟩ = some (.slice A0_1 l0_1.length c0_1) := cB BK126 1; have hfz19_0 := zB BK126 0; have hfz19_1 := zB BK126 1) | ((with_reducible refine gate_callee (f := 179) rfl ?_); refine cl_ (some 12) Try.func179 #[.agg #[.int .i64 a0_0, .slice A0_1 l0_1.length c0_1], .slice A1 l1.length c1] ?_; (with_reducible refine (impl_Complex_critical.calls a0_0 _ _ l0_1 _ _ l1 t127 _ ?side1 ?side2 ?side3 ?side4 A5.out).mono ?_); (case side1 => exact pC ((Kd.C_below HR0_1.out HB.out))); (case side2 => exact HC0_1.out); (case side3 => exact pC ((Kd.C_below HR1.out HB.out))); (case side4 => exact HC1.out); rintro e w20 ⟨v128, rfl, ho0, hb⟩; refine ⟨_, rfl, ?_⟩; have HO129 := Aside0.mk (Kd.R_lower ho0 (below_size (pH HB))); replace BK126 := sB BK126 hb; replace HB := sH HB hb; (try clear hb); (try clear hi); (try clear ho0); obtain ⟨Ao21, co21, eo21⟩ := Kd.R_slice HO129.out; subst eo21) | ((with_reducible refine gate_callee (f := 152) rfl ?_); refine cl_ (some 15) Try.func152 #[.slice Ao21 t127.length co21, .int .i64 a2] ?_; (with_reducible refine (slices_Contains_int64_int64.calls _ _ t127 a2 true _ ?side1 ?side2 A6.out).mono ?_); (case side1 => exact pC ((Kd.R_reads' HO129.out).2.2)); (case side2 => exact (Kd.R_reads' HO129.out).2.1); rintro e w22 ⟨rfl, hb⟩; refine ⟨_, rfl, ?_⟩; replace HO129 := sR HO129 hb; replace BK126 := sB BK126 hb; replace HB := sH HB hb; (try clear hb); (try clear hi)) | (go_at_call 152; (with_reducible refine (slices_Contains_int64_int64.calls _ _ t127 a3 false _ ?side1 ?side2 A8.out).mono ?_); (case side1 => exact pC ((Kd.R_reads' HO129.out).2.2)); (case side2 => exact (Kd.R_reads' HO129.out).2.1); rintro e w23 ⟨rfl, hb⟩; replace HO129 := sR HO129 hb; replace BK126 := sB BK126 hb; replace HB := sH HB hb; (try clear hb); (try clear hi)))
   go_ret
   exact ⟨by first | rfl | (simp [errW_none, errW_some] <;> rfl) | (simp [*, errW_none, errW_some] <;> rfl), pH HB⟩
 ·replace c7 := Bool.eq_false_iff.mpr c7
  subst c7
  have H1 : (some false) = some r := by rw [if_neg (show ¬ (false = true) by decide)] at H; exact H
  clear H
  have H := H1
  clear H1
  obtain rfl := Option.some.inj H
  go_enter Try.func172, Try.ntmps172
  go_wp2_with (first | ((with_reducible refine gate_dst (N := 4) rfl ?_); refine box_event ?hg (N := 4) ?hd (cs := #[.int .i64 a0_0, .slice A0_1 l0_1.length c0_1]) (t := 26) ?hr ?_; (case hd => rfl); (case hg => rfl); (case hr => first | (go_simp; done) | (go_simp; rfl)); intro gb126 hg w24 hbox hb; have BK126 := Aside0.mk (hbox); have GW126 := gH HB hg; have GE126 := gH HB hg; replace HB := sH HB hb; clear hb hbox hg; have hcz25_0 : w24.cell? ⟨gb126, 0, none⟩ = some (.int .i64 a0_0) := cB BK126 0; have hcz25_1 : w24.cell? ⟨gb126, 1, none⟩ = some (.slice A0_1 l0_1.length c0_1) := cB BK126 1; have hfz25_0 := zB BK126 0; have hfz25_1 := zB BK126 1) | ((with_reducible refine gate_callee (f := 179) rfl ?_); refine cl_ (some 12) Try.func179 #[.agg #[.int .i64 a0_0, .slice A0_1 l0_1.length c0_1], .slice A1 l1.length c1] ?_; (with_reducible refine (impl_Complex_critical.calls a0_0 _ _ l0_1 _ _ l1 t127 _ ?side1 ?side2 ?side3 ?side4 A5.out).mono ?_); (case side1 => exact pC ((Kd.C_below HR0_1.out HB.out))); (case side2 => exact HC0_1.out); (case side3 => exact pC ((Kd.C_below HR1.out HB.out))); (case side4 => exact HC1.out); rintro e w26 ⟨v128, rfl, ho0, hb⟩; refine ⟨_, rfl, ?_⟩; have HO129 := Aside0.mk (Kd.R_lower ho0 (below_size (pH HB))); replace BK126 := sB BK126 hb; replace HB := sH HB hb; (try clear hb); (try clear hi); (try clear ho0); obtain ⟨Ao27, co27, eo27⟩ := Kd.R_slice HO129.out; subst eo27) | ((with_reducible refine gate_callee (f := 152) rfl ?_); refine cl_ (some 15) Try.func152 #[.slice Ao27 t127.length co27, .int .i64 a2] ?_; (with_reducible refine (slices_Contains_int64_int64.calls _ _ t127 a2 false _ ?side1 ?side2 A6.out).mono ?_); (case side1 => exact pC ((Kd.R_reads' HO129.out).2.2)); (case side2 => exact (Kd.R_reads' HO129.out).2.1); rintro e w28 ⟨rfl, hb⟩; refine ⟨_, rfl, ?_⟩; replace HO129 := sR HO129 hb; replace BK126 := sB BK126 hb; replace HB := sH HB hb; (try clear hb); (try clear hi)))
  go_ret
  exact ⟨by first | rfl | (simp [errW_none, errW_some] <;> rfl) | (simp [*, errW_none, errW_some] <;> rfl), pH HB⟩
def impl_besideCode.f (a0_0 : Int) (l0_1 : List Int) (l1 : List (S76)) (a2 : Int) (a3 : Int) : Option (Int) := (impl_pairingCode.f a0_0 l0_1 l1 true).bind fun t135 => (if t135 = 0 then ((impl_Complex_areBeside.f a0_0 l0_1 l1 a2 a3).bind fun t136 => ((impl_acyclicCode.f a0_0 l0_1 l1 t136).bind fun t137 => (some t137))) else (some t135))
def impl_besideCode.T4 : Bool × List (List Nat × List Nat) := (true, [([], []), ([], []), ([], []), ([], []), ([], []), ([], []), ([2, 3, 4, 5], [2, 3, 4, 5]), ([0, 1, 6, 6], [0, 1, 6]), ([7, 7, 0, 1, 2, 3, 4, 5, 6, 7], [7])])
def impl_besideCode.B4 : List Nat := [0, 0, 0, 0, 0, 0, 60, 127, 255]
theorem impl_besideCode.tab4 : rtab .any (opsOf Try.f116 4) = impl_besideCode.T4 := by kernel_rfl
theorem impl_besideCode.bits4 : waitsOk impl_besideCode.T4.2 impl_besideCode.B4 = true := by kernel_rfl
set_option maxHeartbeats 8000000 in
set_option maxRecDepth 100000 in
theorem impl_besideCode.calls (a0_0 : Int) (A0_1 : Option Addr) (c0_1 : Nat) (l0_1 : List Int) (A1 : Option Addr) (c1 : Nat) (l1 : List (S76)) (a2 : Int) (a3 : Int) (r : Int) (w : World) (hr0_1 : Kd.C (Kd.int .i64) w A0_1 l0_1.length l0_1) (hc0_1 : l0_1.length ≤ c0_1) (hr1 : Kd.C k76 w A1 l1.length l1) (hc1 : l1.length ≤ c1) (h : impl_besideCode.f a0_0 l0_1 l1 a2 a3 = some r) :
  Calls Try.prog 116 #[.agg #[.int .i64 a0_0, .slice A0_1 l0_1.length c0_1], .slice A1 l1.length c1, .int .i64 a2, .int .i64 a3] w fun e w' => e = .returned (.int .i64 r) ∧ Below w.heap.size w w' := by
 have hu26 := Try.underlying26
 have HR0_1 := Aside0.mk hr0_1
 have HC0_1 := Aside0.mk hc0_1
 clear hr0_1 hc0_1
 have HR1 := Aside0.mk hr1
 have HC1 := Aside0.mk hc1
 clear hr1 hc1
 have HB := Aside0.mk (Below.refl w.heap.size w)
 have H : ((impl_pairingCode.f a0_0 l0_1 l1 true).bind fun t135 => (if t135 = 0 then ((impl_Complex_areBeside.f a0_0 l0_1 l1 a2 a3).bind fun t136 => ((impl_acyclicCode.f a0_0 l0_1 l1 t136).bind fun t137 => (some t137))) else (some t135))) = some r := h
 clear h
 replace H := Option.bind_eq_some_iff.mp H
 obtain ⟨t135, A50, H⟩ := H
 try dsimp only at H
 have A5 := Aside0.mk A50
 clear A50
 by_cases c6 : t135 = 0
 ·rw [if_pos c6] at H
  have c6b0 : (t135 == 0) = true := beq_iff_eq.mpr c6
  have c6b1 : (t135 != 0) = false := bne_eq_false_iff_eq.mpr c6
  clear c6
  replace H := Option.bind_eq_some_iff.mp H
  obtain ⟨t136, A70, H⟩ := H
  try dsimp only at H
  have A7 := Aside0.mk A70
  clear A70
  replace H := Option.bind_eq_some_iff.mp H
  obtain ⟨t137, A80, H⟩ := H
  try dsimp only at H
  have A8 := Aside0.mk A80
  clear A80
  obtain rfl := Option.some.inj H
  go_enter Try.func116, Try.ntmps116
  try go_wp2_with (first | ((with_reducible refine gate_dst (N := 4) rfl ?_); refine box_event ?hg (N := 4) ?hd (cs := #[.int .i64 a0_0, .slice A0_1 l0_1.length c0_1]) (t := 26) ?hr ?_; (case hd => rfl); (case hg => rfl); (case hr => first | (go_simp; done) | (go_simp; rfl)); intro gb134 hg w9 hbox hb; have BK134 := Aside0.mk (hbox); have GW134 := gH HB hg; have GE134 := gH HB hg; replace HB := sH HB hb; clear hb hbox hg; have hcz10_0 : w9.cell? ⟨gb134, 0, none⟩ = some (.int .i64 a0_0) := cB BK134 0; have hcz10_1 : w9.cell? ⟨gb134, 1, none⟩ = some (.slice A0_1 l0_1.length c0_1) := cB BK134 1; have hfz10_0 := zB BK134 0; have hfz10_1 := zB BK134 1) | ((with_reducible refine gate_callee (f := 171) rfl ?_); refine cl_ (some 12) Try.func171 #[.agg #[.int .i64 a0_0, .slice A0_1 l0_1.length c0_1], .slice A1 l1.length c1, .bool true] ?_; (with_reducible refine (impl_pairingCode.calls a0_0 _ _ l0_1 _ _ l1 true t135 _ ?side1 ?side2 ?side3 ?side4 A5.out).mono ?_); (case side1 => exact pC ((Kd.C_below HR0_1.out HB.out))); (case side2 => exact HC0_1.out); (case side3 => exact pC ((Kd.C_below HR1.out HB.out))); (case side4 => exact HC1.out); rintro e w11 ⟨rfl, hb⟩; refine ⟨_, rfl, ?_⟩; replace BK134 := sB BK134 hb; replace HB := sH HB hb; (try clear hb); (try clear hi)))
  replace BK134 := dB BK134
  replace HB := dH HB
  refine st_ 9 (S := fun w' => w'.cell? ⟨gb134, 0, none⟩ = some (.int .i64 a0_0) ∧ w'.cell? ⟨gb134, 1, none⟩ = some (.slice A0_1 l0_1.length c0_1)) (ds := []) ⟨cB BK134 0, cB BK134 1⟩ (fun hHeld => ?_); refine with_tabW impl_besideCode.tab4 impl_besideCode.bits4 (fun HT_ HW_ => ?_)
  generalize w11.drew = w12 at BK134 HB hHeld ⊢
  refine pu_ 1 17 2 HT_ ?_
  refine pu_ 3 19 10 HT_ ?_
  refine pu_ 4 20 26 HT_ ?_
  refine pu_ 5 21 58 HT_ ?_
  refine tk_ 0 16 59 HT_ HW_ hHeld ?_
  refine tk_ 2 18 63 HT_ HW_ hHeld ?_
  refine on_ 6 (some 22) 127 HT_ (fun K hK => ?_)
  refine ca_ Try.func172 #[.agg #[.int .i64 a0_0, .slice A0_1 l0_1.length c0_1], .slice A1 l1.length c1, .int .i64 a2, .int .i64 a3] ?_
  with_reducible refine (impl_Complex_areBeside.calls a0_0 _ _ l0_1 _ _ l1 a2 a3 t136 _ ?side1 ?side2 ?side3 ?side4 A7.out).mono ?_
  (case side1 => exact pC ((Kd.C_below HR0_1.out HB.out)))
  (case side2 => exact HC0_1.out)
  (case side3 => exact pC ((Kd.C_below HR1.out HB.out)))
  (case side4 => exact HC1.out)
  rintro e w13 ⟨rfl, hb⟩
  refine ⟨_, rfl, ?_⟩
  replace BK134 := sB BK134 hb
  replace HB := sH HB hb
  (try clear hb)
  (try clear hb2)
  (try clear hk)
  (try clear hi)
  refine hK.out _ _ ⟨cB BK134 0, cB BK134 1⟩ (fun hHeld => ?_)
  clear hK K
  refine nm_ ?_
  refine on_ 7 (some 23) 255 HT_ (fun K hK => ?_)
  refine ca_ Try.func121 #[.agg #[.int .i64 a0_0, .slice A0_1 l0_1.length c0_1], .slice A1 l1.length c1, .bool t136] ?_
  with_reducible refine (impl_acyclicCode.calls a0_0 _ _ l0_1 _ _ l1 t136 t137 _ ?side1 ?side2 ?side3 ?side4 A8.out).mono ?_
  (case side1 => exact pC ((Kd.C_below HR0_1.out HB.out)))
  (case side2 => exact HC0_1.out)
  (case side3 => exact pC ((Kd.C_below HR1.out HB.out)))
  (case side4 => exact HC1.out)
  rintro e w14 ⟨rfl, hb⟩
  refine ⟨_, rfl, ?_⟩
  replace BK134 := sB BK134 hb
  replace HB := sH HB hb
  (try clear hb)
  (try clear hb2)
  (try clear hk)
  (try clear hi)
  refine hK.out _ _ ⟨cB BK134 0, cB BK134 1⟩ (fun hHeld => ?_)
  clear hK K
  refine nm_ ?_
  refine pu_ 8 8 511 HT_ ?_
  refine dn_ HT_ ?_
  try go_wp2
  go_ret
  exact ⟨by first | rfl | (simp [errW_none, errW_some] <;> rfl) | (simp [*, errW_none, errW_some] <;> rfl), pH HB⟩
 ·rw [if_neg c6] at H
  have c6b0 : (t135 == 0) = false := beq_eq_false_iff_ne.mpr c6
  have c6b1 : (t135 != 0) = true := bne_iff_ne.mpr c6
  obtain rfl := Option.some.inj H
  go_enter Try.func116, Try.ntmps116
  go_wp2_with (first | ((with_reducible refine gate_dst (N := 4) rfl ?_); refine box_event ?hg (N := 4) ?hd (cs := #[.int .i64 a0_0, .slice A0_1 l0_1.length c0_1]) (t := 26) ?hr ?_; (case hd => rfl); (case hg => rfl); (case hr => first | (go_simp; done) | (go_simp; rfl)); intro gb134 hg w15 hbox hb; have BK134 := Aside0.mk (hbox); have GW134 := gH HB hg; have GE134 := gH HB hg; replace HB := sH HB hb; clear hb hbox hg; have hcz16_0 : w15.cell? ⟨gb134, 0, none⟩ = some (.int .i64 a0_0) := cB BK134 0; have hcz16_1 : w15.cell? ⟨gb134, 1, none⟩ = some (.slice A0_1 l0_1.length c0_1) := cB BK134 1; have hfz16_0 := zB BK134 0; have hfz16_1 := zB BK134 1) | ((with_reducible refine gate_callee (f := 171) rfl ?_); refine cl_ (some 12) Try.func171 #[.agg #[.int .i64 a0_0, .slice A0_1 l0_1.length c0_1], .slice A1 l1.length c1, .bool true] ?_; (with_reducible refine (impl_pairingCode.calls a0_0 _ _ l0_1 _ _ l1 true t135 _ ?side1 ?side2 ?side3 ?side4 A5.out).mono ?_); (case side1 => exact pC ((Kd.C_below HR0_1.out HB.out))); (case side2 => exact HC0_1.out); (case side3 => exact pC ((Kd.C_below HR1.out HB.out))); (case side4 => exact HC1.out); rintro e w17 ⟨rfl, hb⟩; refine ⟨_, rfl, ?_⟩; replace BK134 := sB BK134 hb; replace HB := sH HB hb; (try clear hb); (try clear hi)))
  go_ret
  exact ⟨by first | rfl | (simp [errW_none, errW_some] <;> rfl) | (simp [*, errW_none, errW_some] <;> rfl), pH HB⟩
mutual
def impl_countWays.l0 : Nat → List (S76) → Int → Int → List Int → Int → Int → Option (Int)
 | 0, _, _, _, _, _, _ => none
 | k + 1, x0, x2, x7, x15, x16, x17 => if x17 < x16 then (if 0 ≤ x17 then (if x17 < (x15.length : Int) then ((impl_countWays.f k x0 (rd x15 x17) x2).bind fun t142 => (impl_countWays.l0 k x0 x2 (wrap64 (x7 + t142)) x15 x16 (wrap64 (x17 + 1)))) else (none)) else (none)) else (some x7)
def impl_countWays.f : Nat → List (S76) → Int → Int → Option (Int)
 | 0, _, _, _ => none
 | k + 1, l0, a1, a2 => if a1 = a2 then (some 1) else ((impl_steps.f l0 a1).bind fun t138 => (impl_countWays.l0 k l0 a2 0 t138 (t138.length : Int) 0))
end
theorem impl_countWays.mono_l : ∀ k, (∀ y0 y1 y2, LeO (impl_countWays.f k y0 y1 y2) (impl_countWays.f (k + 1) y0 y1 y2)) ∧ (∀ y0 y1 y2 y3 y4 y5, LeO (impl_countWays.l0 k y0 y1 y2 y3 y4 y5) (impl_countWays.l0 (k + 1) y0 y1 y2 y3 y4 y5))
 | 0 => ⟨fun _ _ _ r h => by simp [impl_countWays.f] at h, fun _ _ _ _ _ _ r h => by simp [impl_countWays.l0] at h⟩
 | k + 1 => by
  obtain ⟨ih0, ih1⟩ := impl_countWays.mono_l k
  refine ⟨?_, ?_⟩
  ·intro y0 y1 y2
   unfold impl_countWays.f
   repeat' first
   | (with_reducible exact ih0 _ _ _)
   | (with_reducible exact ih1 _ _ _ _ _ _)
   | (with_reducible exact LeO.refl _)
   | (with_reducible exact LeO.none _)
   | (with_reducible refine LeO.ite ?_ ?_)
   | (with_reducible refine LeO.bind ?_ (fun _ => ?_))
   | exact ih0 _ _ _
   | exact ih1 _ _ _ _ _ _
   | exact LeO.none _
   | refine LeO.ite ?_ ?_
   | refine LeO.bind ?_ (fun _ => ?_)
  ·intro y0 y1 y2 y3 y4 y5
   unfold impl_countWays.l0
   repeat' first
   | (with_reducible exact ih0 _ _ _)
   | (with_reducible exact ih1 _ _ _ _ _ _)
   | (with_reducible exact LeO.refl _)
   | (with_reducible exact LeO.none _)
   | (with_reducible refine LeO.ite ?_ ?_)
   | (with_reducible refine LeO.bind ?_ (fun _ => ?_))
   | exact ih0 _ _ _
   | exact ih1 _ _ _ _ _ _
   | exact LeO.none _
   | refine LeO.ite ?_ ?_
   | refine LeO.bind ?_ (fun _ => ?_)
theorem impl_countWays.mono : ∀ a0 a1 a2 k, LeO (impl_countWays.f k a0 a1 a2) (impl_countWays.f (k + 1) a0 a1 a2) := by
 intro a0 a1 a2 k
 obtain ⟨ih0, ih1⟩ := impl_countWays.mono_l k
 exact ih0 a0 a1 a2
set_option maxHeartbeats 8000000 in
set_option maxRecDepth 100000 in
theorem impl_countWays.calls (k : Nat) : ∀ (A0 : Option Addr) (c0 : Nat) (l0 : List (S76)) (a1 : Int) (a2 : Int) (r : Int) (w : World) (hr0 : Kd.C k76 w A0 l0.length l0) (hc0 : l0.length ≤ c0) (h : impl_countWays.f k l0 a1 a2 = some r),
  Calls Try.prog 173 #[.slice A0 l0.length c0, .int .i64 a1, .int .i64 a2] w fun e w' => e = .returned (.int .i64 r) ∧ Below w.heap.size w w' := by
 induction k using Nat.strongRecOn with
 | _ k ih =>
 intro A0 c0 l0 a1 a2 r w hr0 hc0 h
 cases k with
 | zero => exact absurd h (by simp [impl_countWays.f])
 | succ k =>
 simp only [impl_countWays.f] at h
 have HR0 := Aside0.mk hr0
 have HC0 := Aside0.mk hc0
 clear hr0 hc0
 have HB := Aside0.mk (Below.refl w.heap.size w)
 have H : (if a1 = a2 then (some 1) else ((impl_steps.f l0 a1).bind fun t138 => (impl_countWays.l0 k l0 a2 0 t138 (t138.length : Int) 0))) = some r := h
 clear h
 by_cases c4 : a1 = a2
 ·rw [if_pos c4] at H
  have c4b0 : (a1 == a2) = true := beq_iff_eq.mpr c4
  have c4b1 : (a1 != a2) = false := bne_eq_false_iff_eq.mpr c4
  clear c4
  obtain rfl := Option.some.inj H
  go_enter Try.func173, Try.ntmps173
  go_wp2
  go_ret
  exact ⟨by first | rfl | (simp [errW_none, errW_some] <;> rfl) | (simp [*, errW_none, errW_some] <;> rfl), pH HB⟩
 ·rw [if_neg c4] at H
  have c4b0 : (a1 == a2) = false := beq_eq_false_iff_ne.mpr c4
  have c4b1 : (a1 != a2) = true := bne_iff_ne.mpr c4
  replace H := Option.bind_eq_some_iff.mp H
  obtain ⟨t138, A50, H⟩ := H
  try dsimp only at H
  have A5 := Aside0.mk A50
  clear A50
  have H' := Aside0.mk H
  clear H
  go_enter Try.func173, Try.ntmps173
  go_wp2_with (first | ((with_reducible refine gate_callee (f := 209) rfl ?_); refine cl_ (some 15) Try.func209 #[.slice A0 l0.length c0, .int .i64 a1] ?_; (with_reducible refine (impl_steps.calls _ _ l0 a1 t138 _ ?side1 ?side2 A5.out).mono ?_); (case side1 => exact pC (HR0.out)); (case side2 => exact HC0.out); rintro e w6 ⟨v139, rfl, ho0, hb⟩; refine ⟨_, rfl, ?_⟩; have HO140 := Aside0.mk (Kd.R_lower ho0 (below_size (pH HB))); replace HB := sH HB hb; (try clear hb); (try clear hi); (try clear ho0); obtain ⟨Ao7, co7, eo7⟩ := Kd.R_slice HO140.out; subst eo7))
  go_loopg [7, 17] k (fun kq v7 v17 w' => ∃ (x7_1 : Int) (x17_1 : Int), v7 = .int .i64 x7_1 ∧ v17 = .int .i64 x17_1 ∧ Aside0 (impl_countWays.l0 kq l0 a2 x7_1 t138 (t138.length : Int) x17_1 = some r) ∧ Aside0 (kq ≤ k) ∧ Aside0 (Kd.R (Kd.int .i64) 2 w' w.heap.size (fun _ => True) (.slice Ao7 t138.length co7) t138) ∧ Aside0 (Below w.heap.size w w'))
  case atStart => exact ⟨(0), (0), (by first | rfl | (simp; done) | (simp [*]; done)), (by first | rfl | (simp; done) | (simp [*]; done)), H', ⟨Nat.le_refl _⟩, ⟨by (with_reducible repeat (first | apply Kd.R_alloc | apply Kd.R_drewN | apply Kd.R_drew)); exact HO140.out⟩, ⟨pH HB⟩⟩
  case round =>
   clear H'
   try clear c1
   try clear c2
   try clear p2
   try clear c4
   try clear c4b0
   try clear c4b1
   obtain ⟨x7_1, x17_1, rfl, rfl, HA, HK1, HO_15, HB⟩ := hrel
   cases gk with
   | zero => exact absurd HA.out (by simp [impl_countWays.l0])
   | succ k1 =>
    have H := HA.out
    clear HA
    simp only [impl_countWays.l0] at H
    by_cases c8 : x17_1 < (t138.length : Int)
    ·rw [if_pos c8] at H
     have c8b0 : decide (x17_1 < (t138.length : Int)) = true := decide_eq_true c8
     clear c8
     by_cases c9 : 0 ≤ x17_1
     ·rw [if_pos c9] at H
      have c9b0 : decide (0 ≤ x17_1) = true := decide_eq_true c9
      clear c9
      by_cases c10 : x17_1 < (t138.length : Int)
      ·rw [if_pos c10] at H
       have c10b0 : decide (x17_1 < (t138.length : Int)) = true := decide_eq_true c10
       clear c10
       replace H := Option.bind_eq_some_iff.mp H
       obtain ⟨t142, A110, H⟩ := H
       try dsimp only at H
       have A11 := Aside0.mk A110
       clear A110
       have H' := Aside0.mk H
       clear H
       have p141 : 0 ≤ (x17_1 : Int) := of_decide_eq_true (by first | (with_reducible assumption) | assumption)
       have q141 : x17_1 < (t138.length : Int) := of_decide_eq_true (by first | (with_reducible assumption) | assumption)
       obtain ⟨ad141, e141, hx141_0⟩ := Kd.at_int (Kd.R_reads' HO_15.out).2.2 x17_1 p141 q141
       cases e141
       replace p141 := eq_true p141
       replace q141 := eq_true q141
       go_wp2_with (first | ((with_reducible refine gate_callee (f := 173) rfl ?_); refine cl_ (some 25) Try.func173 #[.slice A0 l0.length c0, .int .i64 (rd t138 x17_1), .int .i64 a2] ?_; (with_reducible refine (ih k1 (by have := HK1.out; omega) _ _ l0 (rd t138 x17_1) a2 t142 _ ?side1 ?side2 A11.out).mono ?_); (case side1 => exact pC ((Kd.C_below HR0.out HB.out))); (case side2 => exact HC0.out); rintro e w12 ⟨rfl, hb⟩; refine ⟨_, rfl, ?_⟩; replace HO_15 := sR HO_15 hb; replace HB := sH HB hb; (try clear hb); (try clear hi)))
       go_roundg k1
       case measure => have := HK1.out; omega
       case rel => exact ⟨(wrap64 (x7_1 + t142)), (wrap64 (x17_1 + 1)), (by first | rfl | (simp; done) | (simp [*]; done)), (by first | rfl | (simp; done) | (simp [*]; done)), H', ⟨by have := HK1.out; omega⟩, ⟨by (with_reducible repeat (first | apply Kd.R_alloc | apply Kd.R_drewN | apply Kd.R_drew)); exact HO_15.out⟩, ⟨pH HB⟩⟩
      ·rw [if_neg c10] at H
       exact absurd H (by simp)
     ·rw [if_neg c9] at H
      exact absurd H (by simp)
    ·rw [if_neg c8] at H
     have c8b0 : decide (x17_1 < (t138.length : Int)) = false := decide_eq_false c8
     clear c8
     obtain rfl := Option.some.inj H
     go_wp2
     go_ret
     exact ⟨by first | rfl | (simp [errW_none, errW_some] <;> rfl) | (simp [*, errW_none, errW_some] <;> rfl), pH HB⟩
def impl_waysBetween.l0 : Nat → List (S76) → Int → Int → List Int → Int → Int → Option (Int)
 | 0, _, _, _, _, _, _ => none
 | k + 1, x0, x2, x7, x11, x12, x13 => if x13 < x12 then (if 0 ≤ x13 then (if x13 < (x11.length : Int) then ((impl_countWays.f k x0 (rd x11 x13) x2).bind fun t147 => (impl_waysBetween.l0 k x0 x2 (wrap64 (x7 + t147)) x11 x12 (wrap64 (x13 + 1)))) else (none)) else (none)) else (some x7)
def impl_waysBetween.f (k : Nat) (l0 : List (S76)) (a1 : Int) (a2 : Int) : Option (Int) := (impl_borders.f a1).bind fun t143 => (impl_waysBetween.l0 k l0 a2 0 t143 (t143.length : Int) 0)
theorem impl_waysBetween.mono_l : ∀ k, (∀ y0 y1 y2 y3 y4 y5, LeO (impl_waysBetween.l0 k y0 y1 y2 y3 y4 y5) (impl_waysBetween.l0 (k + 1) y0 y1 y2 y3 y4 y5))
 | 0 => fun _ _ _ _ _ _ r h => by simp [impl_waysBetween.l0] at h
 | k + 1 => by
  have ih0 := impl_waysBetween.mono_l k
  ·intro y0 y1 y2 y3 y4 y5
   unfold impl_waysBetween.l0
   repeat' first
   | (with_reducible exact ih0 _ _ _ _ _ _)
   | (with_reducible exact impl_countWays.mono _ _ _ _)
   | (with_reducible exact LeO.refl _)
   | (with_reducible exact LeO.none _)
   | (with_reducible refine LeO.ite ?_ ?_)
   | (with_reducible refine LeO.bind ?_ (fun _ => ?_))
   | exact ih0 _ _ _ _ _ _
   | exact impl_countWays.mono _ _ _ _
   | exact LeO.none _
   | refine LeO.ite ?_ ?_
   | refine LeO.bind ?_ (fun _ => ?_)
theorem impl_waysBetween.mono : ∀ a0 a1 a2 k, LeO (impl_waysBetween.f k a0 a1 a2) (impl_waysBetween.f (k + 1) a0 a1 a2) := by
 intro a0 a1 a2 k
 have ih0 := impl_waysBetween.mono_l k
 unfold impl_waysBetween.f
 repeat' first
   | (with_reducible exact ih0 _ _ _ _ _ _)
   | (with_reducible exact impl_countWays.mono _ _ _ _)
   | (with_reducible exact LeO.refl _)
   | (with_reducible exact LeO.none _)
   | (with_reducible refine LeO.ite ?_ ?_)
   | (with_reducible refine LeO.bind ?_ (fun _ => ?_))
   | exact ih0 _ _ _ _ _ _
   | exact impl_countWays.mono _ _ _ _
   | exact LeO.none _
   | refine LeO.ite ?_ ?_
   | refine LeO.bind ?_ (fun _ => ?_)
set_option maxHeartbeats 8000000 in
set_option maxRecDepth 100000 in
theorem impl_waysBetween.calls (k : Nat) (A0 : Option Addr) (c0 : Nat) (l0 : List (S76)) (a1 : Int) (a2 : Int) (r : Int) (w : World) (hr0 : Kd.C k76 w A0 l0.length l0) (hc0 : l0.length ≤ c0) (h : impl_waysBetween.f k l0 a1 a2 = some r) :
  Calls Try.prog 117 #[.slice A0 l0.length c0, .int .i64 a1, .int .i64 a2] w fun e w' => e = .returned (.int .i64 r) ∧ Below w.heap.size w w' := by
 have HR0 := Aside0.mk hr0
 have HC0 := Aside0.mk hc0
 clear hr0 hc0
 have HB := Aside0.mk (Below.refl w.heap.size w)
 have H : ((impl_borders.f a1).bind fun t143 => (impl_waysBetween.l0 k l0 a2 0 t143 (t143.length : Int) 0)) = some r := h
 clear h
 replace H := Option.bind_eq_some_iff.mp H
 obtain ⟨t143, A40, H⟩ := H
 try dsimp only at H
 have A4 := Aside0.mk A40
 clear A40
 have H' := Aside0.mk H
 clear H
 go_enter Try.func117, Try.ntmps117
 go_wp2_with (first | ((with_reducible refine gate_callee (f := 135) rfl ?_); refine cl_ (some 11) Try.func135 #[.int .i64 a1] ?_; (with_reducible refine (impl_borders.calls a1 t143 _ A4.out).mono ?_); rintro e w5 ⟨v144, rfl, ho0, hb⟩; refine ⟨_, rfl, ?_⟩; have HO145 := Aside0.mk (Kd.R_lower ho0 (below_size (pH HB))); replace HB := sH HB hb; (try clear hb); (try clear hi); (try clear ho0); obtain ⟨Ao6, co6, eo6⟩ := Kd.R_slice HO145.out; subst eo6))
 go_loopg [7, 13] k (fun kq v7 v13 w' => ∃ (x7_1 : Int) (x13_1 : Int), v7 = .int .i64 x7_1 ∧ v13 = .int .i64 x13_1 ∧ Aside0 (impl_waysBetween.l0 kq l0 a2 x7_1 t143 (t143.length : Int) x13_1 = some r) ∧ Aside0 (kq ≤ k) ∧ Aside0 (Kd.R (Kd.int .i64) 2 w' w.heap.size (fun _ => True) (.slice Ao6 t143.length co6) t143) ∧ Aside0 (Below w.heap.size w w'))
 case atStart => exact ⟨(0), (0), (by first | rfl | (simp; done) | (simp [*]; done)), (by first | rfl | (simp; done) | (simp [*]; done)), H', ⟨Nat.le_refl _⟩, ⟨by (with_reducible repeat (first | apply Kd.R_alloc | apply Kd.R_drewN | apply Kd.R_drew)); exact HO145.out⟩, ⟨pH HB⟩⟩
 case round =>
  clear H'
  try clear c1
  try clear p2
  obtain ⟨x7_1, x13_1, rfl, rfl, HA, HK1, HO_11, HB⟩ := hrel
  cases gk with
  | zero => exact absurd HA.out (by simp [impl_waysBetween.l0])
  | succ k1 =>
   have H := HA.out
   clear HA
   simp only [impl_waysBetween.l0] at H
   by_cases c7 : x13_1 < (t143.length : Int)
   ·rw [if_pos c7] at H
    have c7b0 : decide (x13_1 < (t143.length : Int)) = true := decide_eq_true c7
    clear c7
    by_cases c8 : 0 ≤ x13_1
    ·rw [if_pos c8] at H
     have c8b0 : decide (0 ≤ x13_1) = true := decide_eq_true c8
     clear c8
     by_cases c9 : x13_1 < (t143.length : Int)
     ·rw [if_pos c9] at H
      have c9b0 : decide (x13_1 < (t143.length : Int)) = true := decide_eq_true c9
      clear c9
      replace H := Option.bind_eq_some_iff.mp H
      obtain ⟨t147, A100, H⟩ := H
      try dsimp only at H
      have A10 := Aside0.mk A100
      clear A100
      have H' := Aside0.mk H
      clear H
      have p146 : 0 ≤ (x13_1 : Int) := of_decide_eq_true (by first | (with_reducible assumption) | assumption)
      have q146 : x13_1 < (t143.length : Int) := of_decide_eq_true (by first | (with_reducible assumption) | assumption)
      obtain ⟨ad146, e146, hx146_0⟩ := Kd.at_int (Kd.R_reads' HO_11.out).2.2 x13_1 p146 q146
      cases e146
      replace p146 := eq_true p146
      replace q146 := eq_true q146
      go_wp2_with (first | ((with_reducible refine gate_callee (f := 173) rfl ?_); refine cl_ (some 21) Try.func173 #[.slice A0 l0.length c0, .int .i64 (rd t143 x13_1), .int .i64 a2] ?_; (with_reducible refine (impl_countWays.calls k1 _ _ l0 (rd t143 x13_1) a2 t147 _ ?side1 ?side2 A10.out).mono ?_); (case side1 => exact pC ((Kd.C_below HR0.out HB.out))); (case side2 => exact HC0.out); rintro e w11 ⟨rfl, hb⟩; refine ⟨_, rfl, ?_⟩; replace HO_11 := sR HO_11 hb; replace HB := sH HB hb; (try clear hb); (try clear hi)))
      go_roundg k1
      case measure => have := HK1.out; omega
      case rel => exact ⟨(wrap64 (x7_1 + t147)), (wrap64 (x13_1 + 1)), (by first | rfl | (simp; done) | (simp [*]; done)), (by first | rfl | (simp; done) | (simp [*]; done)), H', ⟨by have := HK1.out; omega⟩, ⟨by (with_reducible repeat (first | apply Kd.R_alloc | apply Kd.R_drewN | apply Kd.R_drew)); exact HO_11.out⟩, ⟨pH HB⟩⟩
     ·rw [if_neg c9] at H
      exact absurd H (by simp)
    ·rw [if_neg c8] at H
     exact absurd H (by simp)
   ·rw [if_neg c7] at H
    have c7b0 : decide (x13_1 < (t143.length : Int)) = false := decide_eq_false c7
    clear c7
    obtain rfl := Option.some.inj H
    go_wp2
    go_ret
    exact ⟨by first | rfl | (simp [errW_none, errW_some] <;> rfl) | (simp [*, errW_none, errW_some] <;> rfl), pH HB⟩
def impl_WaysBetween.f (k : Nat) (a0_0 : Int) (l0_1 : List Int) (l1 : List (S76)) (a2 : Int) (a3 : Int) : Option (Int × Int) := (impl_besideCode.f a0_0 l0_1 l1 a2 a3).bind fun t149 => (if t149 = 0 then ((impl_waysBetween.f k l1 a2 a3).bind fun t150 => (some (t150, 0))) else (some (0, t149)))
theorem impl_WaysBetween.mono : ∀ a0 a1 a2 a3 a4 k, LeO (impl_WaysBetween.f k a0 a1 a2 a3 a4) (impl_WaysBetween.f (k + 1) a0 a1 a2 a3 a4) := by
 intro a0 a1 a2 a3 a4 k
 unfold impl_WaysBetween.f
 repeat' first
   | (with_reducible exact impl_waysBetween.mono _ _ _ _)
   | (with_reducible exact LeO.refl _)
   | (with_reducible exact LeO.none _)
   | (with_reducible refine LeO.ite ?_ ?_)
   | (with_reducible refine LeO.bind ?_ (fun _ => ?_))
   | exact impl_waysBetween.mono _ _ _ _
   | exact LeO.none _
   | refine LeO.ite ?_ ?_
   | refine LeO.bind ?_ (fun _ => ?_)
set_option maxHeartbeats 8000000 in
set_option maxRecDepth 100000 in
theorem impl_WaysBetween.calls (k : Nat) (a0_0 : Int) (A0_1 : Option Addr) (c0_1 : Nat) (l0_1 : List Int) (A1 : Option Addr) (c1 : Nat) (l1 : List (S76)) (a2 : Int) (a3 : Int) (r1 : Int) (r2 : Int) (w : World) (hr0_1 : Kd.C (Kd.int .i64) w A0_1 l0_1.length l0_1) (hc0_1 : l0_1.length ≤ c0_1) (hr1 : Kd.C k76 w A1 l1.length l1) (hc1 : l1.length ≤ c1) (h : impl_WaysBetween.f k a0_0 l0_1 l1 a2 a3 = some (r1, r2)) :
  Calls Try.prog 48 #[.agg #[.int .i64 a0_0, .slice A0_1 l0_1.length c0_1], .slice A1 l1.length c1, .int .i64 a2, .int .i64 a3] w fun e w' => e = .returned (.tuple #[.int .i64 r1, .int .i64 r2]) ∧ Below w.heap.size w w' := by
 have hu26 := Try.underlying26
 have HR0_1 := Aside0.mk hr0_1
 have HC0_1 := Aside0.mk hc0_1
 clear hr0_1 hc0_1
 have HR1 := Aside0.mk hr1
 have HC1 := Aside0.mk hc1
 clear hr1 hc1
 have HB := Aside0.mk (Below.refl w.heap.size w)
 have H : ((impl_besideCode.f a0_0 l0_1 l1 a2 a3).bind fun t149 => (if t149 = 0 then ((impl_waysBetween.f k l1 a2 a3).bind fun t150 => (some (t150, 0))) else (some (0, t149)))) = some (r1, r2) := h
 clear h
 replace H := Option.bind_eq_some_iff.mp H
 obtain ⟨t149, A50, H⟩ := H
 try dsimp only at H
 have A5 := Aside0.mk A50
 clear A50
 by_cases c6 : t149 = 0
 ·rw [if_pos c6] at H
  have c6b0 : (t149 == 0) = true := beq_iff_eq.mpr c6
  have c6b1 : (t149 != 0) = false := bne_eq_false_iff_eq.mpr c6
  clear c6
  replace H := Option.bind_eq_some_iff.mp H
  obtain ⟨t150, A70, H⟩ := H
  try dsimp only at H
  have A7 := Aside0.mk A70
  clear A70
  simp only [Option.some.injEq, Prod.mk.injEq] at H
  obtain ⟨rfl, rfl⟩ := H
  go_enter Try.func48, Try.ntmps48
  go_wp2_with (first | ((with_reducible refine gate_dst (N := 4) rfl ?_); refine box_event ?hg (N := 4) ?hd (cs := #[.int .i64 a0_0, .slice A0_1 l0_1.length c0_1]) (t := 26) ?hr ?_; (case hd => rfl); (case hg => rfl); (case hr => first | (go_simp; done) | (go_simp; rfl)); intro gb148 hg w8 hbox hb; have BK148 := Aside0.mk (hbox); have GW148 := gH HB hg; have GE148 := gH HB hg; replace HB := sH HB hb; clear hb hbox hg; have hcz9_0 : w8.cell? ⟨gb148, 0, none⟩ = some (.int .i64 a0_0) := cB BK148 0; have hcz9_1 : w8.cell? ⟨gb148, 1, none⟩ = some (.slice A0_1 l0_1.length c0_1) := cB BK148 1; have hfz9_0 := zB BK148 0; have hfz9_1 := zB BK148 1) | ((with_reducible refine gate_callee (f := 116) rfl ?_); refine cl_ (some 15) Try.func116 #[.agg #[.int .i64 a0_0, .slice A0_1 l0_1.length c0_1], .slice A1 l1.length c1, .int .i64 a2, .int .i64 a3] ?_; (with_reducible refine (impl_besideCode.calls a0_0 _ _ l0_1 _ _ l1 a2 a3 t149 _ ?side1 ?side2 ?side3 ?side4 A5.out).mono ?_); (case side1 => exact pC ((Kd.C_below HR0_1.out HB.out))); (case side2 => exact HC0_1.out); (case side3 => exact pC ((Kd.C_below HR1.out HB.out))); (case side4 => exact HC1.out); rintro e w10 ⟨rfl, hb⟩; refine ⟨_, rfl, ?_⟩; replace BK148 := sB BK148 hb; replace HB := sH HB hb; (try clear hb); (try clear hi)) | ((with_reducible refine gate_callee (f := 117) rfl ?_); refine cl_ (some 22) Try.func117 #[.slice A1 l1.length c1, .int .i64 a2, .int .i64 a3] ?_; (with_reducible refine (impl_waysBetween.calls k _ _ l1 a2 a3 t150 _ ?side1 ?side2 A7.out).mono ?_); (case side1 => exact pC ((Kd.C_below HR1.out HB.out))); (case side2 => exact HC1.out); rintro e w11 ⟨rfl, hb⟩; refine ⟨_, rfl, ?_⟩; replace BK148 := sB BK148 hb; replace HB := sH HB hb; (try clear hb); (try clear hi)))
  go_ret2
  exact ⟨by first | rfl | (simp [errW_none, errW_some] <;> rfl) | (simp [*, errW_none, errW_some] <;> rfl), pH HB⟩
 ·rw [if_neg c6] at H
  have c6b0 : (t149 == 0) = false := beq_eq_false_iff_ne.mpr c6
  have c6b1 : (t149 != 0) = true := bne_iff_ne.mpr c6
  simp only [Option.some.injEq, Prod.mk.injEq] at H
  obtain ⟨rfl, rfl⟩ := H
  go_enter Try.func48, Try.ntmps48
  go_wp2_with (first | ((with_reducible refine gate_dst (N := 4) rfl ?_); refine box_event ?hg (N := 4) ?hd (cs := #[.int .i64 a0_0, .slice A0_1 l0_1.length c0_1]) (t := 26) ?hr ?_; (case hd => rfl); (case hg => rfl); (case hr => first | (go_simp; done) | (go_simp; rfl)); intro gb148 hg w12 hbox hb; have BK148 := Aside0.mk (hbox); have GW148 := gH HB hg; have GE148 := gH HB hg; replace HB := sH HB hb; clear hb hbox hg; have hcz13_0 : w12.cell? ⟨gb148, 0, none⟩ = some (.int .i64 a0_0) := cB BK148 0; have hcz13_1 : w12.cell? ⟨gb148, 1, none⟩ = some (.slice A0_1 l0_1.length c0_1) := cB BK148 1; have hfz13_0 := zB BK148 0; have hfz13_1 := zB BK148 1) | ((with_reducible refine gate_callee (f := 116) rfl ?_); refine cl_ (some 15) Try.func116 #[.agg #[.int .i64 a0_0, .slice A0_1 l0_1.length c0_1], .slice A1 l1.length c1, .int .i64 a2, .int .i64 a3] ?_; (with_reducible refine (impl_besideCode.calls a0_0 _ _ l0_1 _ _ l1 a2 a3 t149 _ ?side1 ?side2 ?side3 ?side4 A5.out).mono ?_); (case side1 => exact pC ((Kd.C_below HR0_1.out HB.out))); (case side2 => exact HC0_1.out); (case side3 => exact pC ((Kd.C_below HR1.out HB.out))); (case side4 => exact HC1.out); rintro e w14 ⟨rfl, hb⟩; refine ⟨_, rfl, ?_⟩; replace BK148 := sB BK148 hb; replace HB := sH HB hb; (try clear hb); (try clear hi)))
  go_ret2
  exact ⟨by first | rfl | (simp [errW_none, errW_some] <;> rfl) | (simp [*, errW_none, errW_some] <;> rfl), pH HB⟩
end Go.Proofs.Ytnmhnkpijjmhjaa.QB
namespace Go.Proofs.Ytnmhnkpijjmhjaa.Ext
open Go.Proofs.YtnmhnkpijjmhjaaW.PrintWords
open Classical in
noncomputable def limO {α : Type} (g : Nat → Option α) : Option α := if h : ∃ r : α, ∃ k, g k = some r then some (Classical.choose h) else none
theorem limO_get {α : Type} {g : Nat → Option α} {r : α} (h : limO g = some r) : ∃ k, g k = some r := by
  unfold limO at h
  split at h
  · rename_i hc
    obtain rfl := Option.some.inj h
    exact Classical.choose_spec hc
  · cases h
theorem limO_of {α : Type} {g : Nat → Option α} {r : α} (hg : ∀ k, LeO (g k) (g (k + 1))) (h : Ev g r) : limO g = some r := by
  obtain ⟨k, hk⟩ := h.rounds
  have hc : ∃ r : α, ∃ k, g k = some r := ⟨r, k, hk⟩
  unfold limO
  rw [dif_pos hc]
  obtain ⟨k', hk'⟩ := Classical.choose_spec hc
  obtain ⟨K, hK⟩ := h
  have h1 := at_rounds hg (Nat.le_max_left k' K) hk'
  have h2 := hK (max k' K) (Nat.le_max_right _ _)
  rw [h1] at h2
  exact h2
end Go.Proofs.Ytnmhnkpijjmhjaa.Ext
namespace Go.Proofs.Ytnmhnkpijjmhjaa.Ext
set_option linter.unusedVariables false
open Go.RowKit Go.Proofs.Ytnmhnkpijjmhjaa.Im Go.Proofs.Ytnmhnkpijjmhjaa.Kp Go.Proofs.YtnmhnkpijjmhjaaW.PrintWords Go.Proofs.YtnmhnkpijjmhjaaW.PrintLast Go.Proofs.YtnmhnkpijjmhjaaW.PrintMore
noncomputable def impl_WaysBetween.f (a0_0 : Int) (l0_1 : List Int) (l1 : List (S76)) (a2 : Int) (a3 : Int) : Option (Int × Int) := limO fun k => QB.impl_WaysBetween.f k a0_0 l0_1 l1 a2 a3
theorem impl_WaysBetween.calls (a0_0 : Int) (A0_1 : Option Addr) (c0_1 : Nat) (l0_1 : List Int) (A1 : Option Addr) (c1 : Nat) (l1 : List (S76)) (a2 : Int) (a3 : Int) (r1 : Int) (r2 : Int) (w : World) (hr0_1 : Kd.C (Kd.int .i64) w A0_1 l0_1.length l0_1) (hc0_1 : l0_1.length ≤ c0_1) (hr1 : Kd.C k76 w A1 l1.length l1) (hc1 : l1.length ≤ c1) (h : impl_WaysBetween.f a0_0 l0_1 l1 a2 a3 = some (r1, r2)) :
    Calls Try.prog 48 #[.agg #[.int .i64 a0_0, .slice A0_1 l0_1.length c0_1], .slice A1 l1.length c1, .int .i64 a2, .int .i64 a3] w fun e w' => e = .returned (.tuple #[.int .i64 r1, .int .i64 r2]) ∧ Below w.heap.size w w' := by
  obtain ⟨k, hk⟩ := limO_get h
  exact QB.impl_WaysBetween.calls k a0_0 A0_1 c0_1 l0_1 A1 c1 l1 a2 a3 r1 r2 w hr0_1 hc0_1 hr1 hc1 hk
theorem impl_WaysBetween.come (a0_0 : Int) (l0_1 : List Int) (l1 : List (S76)) (a2 : Int) (a3 : Int) {r : (Int × Int)} (h : Ev (fun k => QB.impl_WaysBetween.f k a0_0 l0_1 l1 a2 a3) r) : impl_WaysBetween.f a0_0 l0_1 l1 a2 a3 = some r := limO_of (fun k => QB.impl_WaysBetween.mono _ _ _ _ _ k) h
end Go.Proofs.Ytnmhnkpijjmhjaa.Ext
namespace Go.Proofs.Ytnmhnkpijjmhjaa.QS
open Go.Proofs.Ytnmhnkpijjmhjaa.Cw Go.Proofs.Ytnmhnkpijjmhjaa.Kp Go.Proofs.Ytnmhnkpijjmhjaa.Ext Go.RowKit Go.Proofs.YtnmhnkpijjmhjaaW.PrintWords Go.Proofs.YtnmhnkpijjmhjaaW.PrintLast Go.Proofs.YtnmhnkpijjmhjaaW.PrintMore
attribute [local go_sem] max2_int min2_int max_two min_two max_three min_three max_four min_four   -- for this text's walks alone
set_option linter.unusedVariables false
set_option linter.unusedSimpArgs false
def spec_l01Below.l0 : Nat → Int → List Int → Int → Option (List Int)
 | 0, _, _, _ => none
 | k + 1, x0, x3, x4 => if x4 ≥ 0 then (if 0 ≤ (IntKind.u64.wrap (x4)) then (if (Go.bits .and .i64 (shr .i64 x0 (IntKind.u64.wrap (x4))) 1) = 1 then (if x0 = (shl .i64 1 (IntKind.u64.wrap (x4))) then (spec_l01Below.l0 k x0 x3 (wrap64 (x4 - 1))) else (if x3.length < 17592186044416 then (spec_l01Below.l0 k x0 (x3 ++ [wrap64 (x0 - (shl .i64 1 (IntKind.u64.wrap (x4))))]) (wrap64 (x4 - 1))) else (none))) else (spec_l01Below.l0 k x0 x3 (wrap64 (x4 - 1)))) else (none)) else (some x3)
def spec_l01Below.f (k : Nat) (a0 : Int) : Option (List Int) := spec_l01Below.l0 k a0 (([] : List Int)) 62
theorem spec_l01Below.mono_l : ∀ k, (∀ y0 y1 y2, LeO (spec_l01Below.l0 k y0 y1 y2) (spec_l01Below.l0 (k + 1) y0 y1 y2))
 | 0 => fun _ _ _ r h => by simp [spec_l01Below.l0] at h
 | k + 1 => by
  have ih0 := spec_l01Below.mono_l k
  ·intro y0 y1 y2
   unfold spec_l01Below.l0
   repeat' first
   | (with_reducible exact ih0 _ _ _)
   | (with_reducible exact LeO.refl _)
   | (with_reducible exact LeO.none _)
   | (with_reducible refine LeO.ite ?_ ?_)
   | (with_reducible refine LeO.bind ?_ (fun _ => ?_))
   | exact ih0 _ _ _
   | exact LeO.none _
   | refine LeO.ite ?_ ?_
   | refine LeO.bind ?_ (fun _ => ?_)
theorem spec_l01Below.mono : ∀ a0 k, LeO (spec_l01Below.f k a0) (spec_l01Below.f (k + 1) a0) := by
 intro a0 k
 have ih0 := spec_l01Below.mono_l k
 unfold spec_l01Below.f
 repeat' first
   | (with_reducible exact ih0 _ _ _)
   | (with_reducible exact LeO.refl _)
   | (with_reducible exact LeO.none _)
   | (with_reducible refine LeO.ite ?_ ?_)
   | (with_reducible refine LeO.bind ?_ (fun _ => ?_))
   | exact ih0 _ _ _
   | exact LeO.none _
   | refine LeO.ite ?_ ?_
   | refine LeO.bind ?_ (fun _ => ?_)
set_option maxHeartbeats 8000000 in
set_option maxRecDepth 100000 in
theorem spec_l01Below.calls (k : Nat) (a0 : Int) (r : List Int) (w : World) (h : spec_l01Below.f k a0 = some r) :
  Calls Try.prog 129 #[.int .i64 a0] w fun e w' => ∃ v0_ : Value, e = .returned (v0_) ∧ Kd.R (Kd.int .i64) 2 w' w.heap.size (fun _ => True) v0_ r ∧ Below w.heap.size w w' := by
 have HB := Aside0.mk (Below.refl w.heap.size w)
 have H : (spec_l01Below.l0 k a0 (([] : List Int)) 62) = some r := h
 clear h
 obtain ⟨y144, hy144⟩ : ∃ y_ : List Int, y_ = (([] : List Int)) := ⟨_, rfl⟩
 replace H : (spec_l01Below.l0 k a0 y144 62) = some r := by first | (rw [hy144]; with_reducible exact H) | (have H2_ := (Option.bind_some _ _).symm.trans H; rw [hy144]; with_reducible exact H2_) | (have H2_ := (Option.bind_some _ _).symm.trans H; with_reducible exact H2_) | with_reducible exact H | (rw [hy144]; exact H) | exact H
 have Ny144 := Aside0.mk hy144
 clear hy144
 have H' := Aside0.mk H
 clear H
 go_enter Try.func129, Try.ntmps129
 go_wp2_with (first | ((with_reducible refine gate_dst (N := 5) rfl ?_); refine Kd.R_lit (Kd.int .i64) _ 2 ?hg (N := 5) ?hd (xs := ([] : List Int)) (inner := []) (ok := fun _ => True) (okp := fun _ => True) ?hr ?hp (fun _ hk => hk) trivial (Below.refl _ _) (Nat.le_refl _) (by simp) ?_; (case hd => rfl); (case hg => rfl); (case hr => first | (go_simp; done) | (go_simp; rfl)); (case hp => exact (Reps.none _ _)); intro v145 w2 ho3 hb hg_ hnew_; clear hg_ hnew_; (first | rw [← Ny144.out] at ho3 | (simp only [Int.reduceToNat] at ho3; rw [← Ny144.out] at ho3)); have HO146 := Aside0.mk (Kd.R_lower ho3 (below_size (pH HB))); replace HB := sH HB hb; clear hb ho3))
 go_loopg [3, 4] k (fun kq v3 v4 w' => ∃ (x3_1 : List Int) (x4_1 : Int), v4 = .int .i64 x4_1 ∧ Aside0 (spec_l01Below.l0 kq a0 x3_1 x4_1 = some r) ∧ Aside0 (kq ≤ k) ∧ Aside0 (Kd.R (Kd.int .i64) 2 w' w.heap.size (fun _ => True) v3 x3_1) ∧ Aside0 (Below w.heap.size w w'))
 case atStart => exact ⟨(y144), (62), (by first | rfl | (simp; done) | (simp [*]; done)), H', ⟨Nat.le_refl _⟩, ⟨by (with_reducible repeat (first | apply Kd.R_alloc | apply Kd.R_drewN | apply Kd.R_drew)); exact HO146.out⟩, ⟨pH HB⟩⟩
 case round =>
  clear H'
  try clear c1
  try clear p2
  obtain ⟨x3_1, x4_1, rfl, HA, HK1, HO_3, HB⟩ := hrel
  cases gk with
  | zero => exact absurd HA.out (by simp [spec_l01Below.l0])
  | succ k1 =>
   have H := HA.out
   clear HA
   simp only [spec_l01Below.l0] at H
   by_cases c4 : x4_1 ≥ 0
   ·rw [if_pos c4] at H
    have c4b0 : decide (0 ≤ x4_1) = true := decide_eq_true c4
    clear c4
    obtain ⟨ji5, hji5⟩ : ∃ j_ : Int, (IntKind.u64.wrap (x4_1)) = j_ := ⟨_, rfl⟩
    replace H : (if 0 ≤ (ji5) then (if (Go.bits .and .i64 (shr .i64 a0 (ji5)) 1) = 1 then (if a0 = (shl .i64 1 (ji5)) then (spec_l01Below.l0 k1 a0 x3_1 (wrap64 (x4_1 - 1))) else (if x3_1.length < 17592186044416 then (spec_l01Below.l0 k1 a0 (x3_1 ++ [wrap64 (a0 - (shl .i64 1 (ji5)))]) (wrap64 (x4_1 - 1))) else (none))) else (spec_l01Below.l0 k1 a0 x3_1 (wrap64 (x4_1 - 1)))) else (none)) = some r := by first | (rw [hji5] at H; exact H) | (simp only [hji5] at H ⊢; exact H)
    by_cases c6 : 0 ≤ (ji5)
    ·rw [if_pos c6] at H
     have c6b0 := eq_true c6
     have c6b1 : decide (0 ≤ (ji5)) = true := decide_eq_true c6
     clear c6
     obtain ⟨ji7, hji7⟩ : ∃ j_ : Int, (shr .i64 a0 (ji5)) = j_ := ⟨_, rfl⟩
     replace H : (if (Go.bits .and .i64 (ji7) 1) = 1 then (if a0 = (shl .i64 1 (ji5)) then (spec_l01Below.l0 k1 a0 x3_1 (wrap64 (x4_1 - 1))) else (if x3_1.length < 17592186044416 then (spec_l01Below.l0 k1 a0 (x3_1 ++ [wrap64 (a0 - (shl .i64 1 (ji5)))]) (wrap64 (x4_1 - 1))) else (none))) else (spec_l01Below.l0 k1 a0 x3_1 (wrap64 (x4_1 - 1)))) = some r := by first | (rw [hji7] at H; exact H) | (simp only [hji7] at H ⊢; exact H)
     have hji7_ : (a0 / 2 ^ min (ji5).toNat 64) = ji7 := hji7
     have hji7z : (ji5) ≤ 64 → (a0 / 2 ^ (ji5).toNat) = ji7 := shr_small hji7
     by_cases c8 : (Go.bits .and .i64 (ji7) 1) = 1
     ·rw [if_pos c8] at H
      have c8b0 : ((Go.bits .and .i64 (ji7) 1) == 1) = true := beq_iff_eq.mpr c8
      have c8b1 : ((Go.bits .and .i64 (ji7) 1) != 1) = false := bne_eq_false_iff_eq.mpr c8
      clear c8
      have c9b0 := eq_true (of_decide_eq_true (by first | (with_reducible assumption) | assumption) : 0 ≤ (ji5))
      obtain ⟨ji10, hji10⟩ : ∃ j_ : Int, (shl .i64 1 (ji5)) = j_ := ⟨_, rfl⟩
      replace H : (if a0 = (ji10) then (spec_l01Below.l0 k1 a0 x3_1 (wrap64 (x4_1 - 1))) else (if x3_1.length < 17592186044416 then (spec_l01Below.l0 k1 a0 (x3_1 ++ [wrap64 (a0 - (ji10))]) (wrap64 (x4_1 - 1))) else (none))) = some r := by first | (rw [hji10] at H; exact H) | (simp only [hji10] at H ⊢; exact H)
      have hji10_ : (IntKind.i64.wrap (1 * 2 ^ min (ji5).toNat 64)) = ji10 := hji10
      have hji10z : (ji5) ≤ 64 → (IntKind.i64.wrap (1 * 2 ^ (ji5).toNat)) = ji10 := shl_small hji10
      have hji10u : (IntKind.i64.wrap (2 ^ min (ji5).toNat 64)) = ji10 := by have h_ := hji10_; rw [Int.one_mul] at h_; exact h_
      have hji10v : (ji5) ≤ 64 → (IntKind.i64.wrap (2 ^ (ji5).toNat)) = ji10 := fun hle_ => by have h_ := hji10z hle_; rw [Int.one_mul] at h_; exact h_
      have hji10y : (wrap64 (1 * 2 ^ min (ji5).toNat 64)) = ji10 := (i64_w _).symm.trans hji10_
      have hji10x : (ji5) ≤ 64 → (wrap64 (1 * 2 ^ (ji5).toNat)) = ji10 := fun h_ => (i64_w _).symm.trans (hji10z h_)
      by_cases c11 : a0 = (ji10)
      ·rw [if_pos c11] at H
       have c11b0 : (a0 == (ji10)) = true := beq_iff_eq.mpr c11
       have c11b1 : (a0 != (ji10)) = false := bne_eq_false_iff_eq.mpr c11
       clear c11
       have H' := Aside0.mk H
       clear H
       go_wp2
       go_roundg k1
       case measure => have := HK1.out; omega
       case rel => exact ⟨(x3_1), (wrap64 (x4_1 - 1)), (by first | rfl | (simp; done) | (simp [*]; done)), H', ⟨by have := HK1.out; omega⟩, ⟨by (with_reducible repeat (first | apply Kd.R_alloc | apply Kd.R_drewN | apply Kd.R_drew)); exact HO_3.out⟩, ⟨pH HB⟩⟩
      ·rw [if_neg c11] at H
       have c11b0 : (a0 == (ji10)) = false := beq_eq_false_iff_ne.mpr c11
       have c11b1 : (a0 != (ji10)) = true := bne_iff_ne.mpr c11
       have c12b0 := eq_true (of_decide_eq_true (by first | (with_reducible assumption) | assumption) : 0 ≤ (ji5))
       by_cases c13 : x3_1.length < 17592186044416
       ·rw [if_pos c13] at H
        have LMc13 := Aside0.mk c13
        clear c13
        obtain ⟨y147, hy147⟩ : ∃ y_ : List Int, y_ = (x3_1 ++ [wrap64 (a0 - (ji10))]) := ⟨_, rfl⟩
        replace H : (spec_l01Below.l0 k1 a0 y147 (wrap64 (x4_1 - 1))) = some r := by first | (rw [hy147]; with_reducible exact H) | (have H2_ := (Option.bind_some _ _).symm.trans H; rw [hy147]; with_reducible exact H2_) | (have H2_ := (Option.bind_some _ _).symm.trans H; with_reducible exact H2_) | with_reducible exact H | (rw [hy147]; exact H) | exact H
        have Ny147 := Aside0.mk hy147
        clear hy147
        have H' := Aside0.mk H
        clear H
        go_wp2_with (first | ((with_reducible refine gate_builtin (b := .append) (xs := #[.tmp 23, .tmp 29]) rfl ?_); at_builtin; refine Kd.R_append (Kd.int .i64) (w0 := w) w.heap.size rfl (.tmp 23) (.tmp 29) 22 2 (.int .i64 0) 8 rfl Try.underlying22 info2 rfl (by decide) (by omega) u3 x3_1 (wrap64 (a0 - (ji10))) [.int .i64 (wrap64 (a0 - (ji10)))] (fun _ => True) (fun _ => False) rfl rfl ?aP (fun _ hk => hk.elim) ?aF ?aO ?aB ?aS ?aL ?_; (case aP => exact rfl); (case aB => exact (pH HB)); (case aF => exact (fun _ _ => trivial)); (case aO => exact (pR HO_3)); (case aS => exact (below_size (pH HB))); (case aL => have := LMc13.out; omega); intro v148 w14 ho hb hg hat; rw [← Ny147.out] at ho; replace HB := Aside0.mk (hb); have HO149 := Aside0.mk (ho); clear HO_3; clear ho hb hg hat))
        go_roundg k1
        case measure => have := HK1.out; omega
        case rel => exact ⟨(y147), (wrap64 (x4_1 - 1)), (by first | rfl | (simp; done) | (simp [*]; done)), H', ⟨by have := HK1.out; omega⟩, ⟨by (with_reducible repeat (first | apply Kd.R_alloc | apply Kd.R_drewN | apply Kd.R_drew)); exact HO149.out⟩, ⟨pH HB⟩⟩
       ·rw [if_neg c13] at H
        exact absurd H (by simp)
     ·rw [if_neg c8] at H
      have c8b0 : ((Go.bits .and .i64 (ji7) 1) == 1) = false := beq_eq_false_iff_ne.mpr c8
      have c8b1 : ((Go.bits .and .i64 (ji7) 1) != 1) = true := bne_iff_ne.mpr c8
      have H' := Aside0.mk H
      clear H
      go_wp2
      go_roundg k1
      case measure => have := HK1.out; omega
      case rel => exact ⟨(x3_1), (wrap64 (x4_1 - 1)), (by first | rfl | (simp; done) | (simp [*]; done)), H', ⟨by have := HK1.out; omega⟩, ⟨by (with_reducible repeat (first | apply Kd.R_alloc | apply Kd.R_drewN | apply Kd.R_drew)); exact HO_3.out⟩, ⟨pH HB⟩⟩
    ·rw [if_neg c6] at H
     exact absurd H (by simp)
   ·rw [if_neg c4] at H
    have c4b0 : decide (0 ≤ x4_1) = false := decide_eq_false c4
    clear c4
    obtain rfl := Option.some.inj H
    go_wp2
    go_ret
    exact ⟨_, by first | rfl | (simp [errW_none, errW_some] <;> rfl) | (simp [*, errW_none, errW_some] <;> rfl), by (with_reducible repeat (first | apply Kd.R_alloc | apply Kd.R_drewN | apply Kd.R_drew)); exact HO_3.out, pH HB⟩
end Go.Proofs.Ytnmhnkpijjmhjaa.QS
namespace Go.Proofs.Ytnmhnkpijjmhjaa.QS
open Go.Proofs.Ytnmhnkpijjmhjaa.Cw Go.Proofs.Ytnmhnkpijjmhjaa.Kp Go.Proofs.Ytnmhnkpijjmhjaa.Ext Go.RowKit Go.Proofs.YtnmhnkpijjmhjaaW.PrintWords Go.Proofs.YtnmhnkpijjmhjaaW.PrintLast Go.Proofs.YtnmhnkpijjmhjaaW.PrintMore
attribute [local go_sem] max2_int min2_int max_two min_two max_three min_three max_four min_four   -- for this text's walks alone
set_option linter.unusedVariables false
set_option linter.unusedSimpArgs false
def spec_l02High.l0 : Nat → List (S76) → Int → Int → Option (Int)
 | 0, _, _, _ => none
 | k + 1, x0, x1, x5 => if x5 < (x0.length : Int) then (if 0 ≤ x5 then (if ((rd_T76 x0 x5).f0) = x1 then (some ((rd_T76 x0 x5).f1)) else (spec_l02High.l0 k x0 x1 (wrap64 (x5 + 1)))) else (none)) else (some 0)
def spec_l02High.f (k : Nat) (l0 : List (S76)) (a1 : Int) : Option (Int) := spec_l02High.l0 k l0 a1 0
set_option maxHeartbeats 8000000 in
set_option maxRecDepth 100000 in
theorem spec_l02High.calls (k : Nat) (A0 : Option Addr) (c0 : Nat) (l0 : List (S76)) (a1 : Int) (r : Int) (w : World) (hr0 : Kd.C k76 w A0 l0.length l0) (hc0 : l0.length ≤ c0) (h : spec_l02High.f k l0 a1 = some r) :
  Calls Try.prog 223 #[.slice A0 l0.length c0, .int .i64 a1] w fun e w' => e = .returned (.int .i64 r) ∧ Drawn0 w w' := by
 have HR0 := Aside0.mk hr0
 have HC0 := Aside0.mk hc0
 clear hr0 hc0
 have H : (spec_l02High.l0 k l0 a1 0) = some r := h
 clear h
 have H' := Aside0.mk H
 clear H
 go_enter Try.func223, Try.ntmps223
 go_wp2
 go_loopg [5] k (fun kq v5 w' => ∃ (x5_1 : Int), v5 = .int .i64 x5_1 ∧ Aside0 (spec_l02High.l0 kq l0 a1 x5_1 = some r) ∧ Aside0 (kq ≤ k) ∧ Drawn0 w w')
 case atStart => exact ⟨(0), (by first | rfl | (simp; done) | (simp [*]; done)), H', ⟨Nat.le_refl _⟩, by repeat (first | exact Drawn0.refl _ | apply Drawn0.step)⟩
 case round =>
  clear H'
  try clear c2
  try clear p2
  obtain ⟨x5_1, rfl, HA, HK1, ⟨m1, rfl⟩⟩ := hrel
  cases gk with
  | zero => exact absurd HA.out (by simp [spec_l02High.l0])
  | succ k1 =>
   have H := HA.out
   clear HA
   simp only [spec_l02High.l0] at H
   by_cases c3 : x5_1 < (l0.length : Int)
   ·rw [if_pos c3] at H
    have c3b0 : decide (x5_1 < (l0.length : Int)) = true := decide_eq_true c3
    clear c3
    by_cases c4 : 0 ≤ x5_1
    ·rw [if_pos c4] at H
     have c4b0 : decide (0 ≤ x5_1) = true := decide_eq_true c4
     clear c4
     by_cases c5 : ((rd_T76 l0 x5_1).f0) = a1
     ·rw [if_pos c5] at H
      have c5b0 : (((rd_T76 l0 x5_1).f0) == a1) = true := beq_iff_eq.mpr c5
      have c5b1 : (((rd_T76 l0 x5_1).f0) != a1) = false := bne_eq_false_iff_eq.mpr c5
      clear c5
      obtain rfl := Option.some.inj H
      have p591 : 0 ≤ (x5_1 : Int) := of_decide_eq_true (by first | (with_reducible assumption) | assumption)
      have q591 : x5_1 < (l0.length : Int) := of_decide_eq_true (by first | (with_reducible assumption) | assumption)
      obtain ⟨ad591, e591, hx591_0, hx591_1⟩ := at_T76 HR0.out x5_1 p591 q591
      cases e591
      replace p591 := eq_true p591
      replace q591 := eq_true q591
      have p592 : 0 ≤ (x5_1 : Int) := of_decide_eq_true (by first | (with_reducible assumption) | assumption)
      have q592 : x5_1 < (l0.length : Int) := of_decide_eq_true (by first | (with_reducible assumption) | assumption)
      obtain ⟨ad592, e592, hx592_0, hx592_1⟩ := at_T76 HR0.out x5_1 p592 q592
      obtain rfl : ad591 = ad592 := (by injection e592)
      replace p592 := eq_true p592
      replace q592 := eq_true q592
      go_wp2
      go_ret
      exact ⟨by first | rfl | (simp; done) | (simp [*]; done), by repeat (first | exact Drawn0.refl _ | apply Drawn0.step)⟩
     ·rw [if_neg c5] at H
      have c5b0 : (((rd_T76 l0 x5_1).f0) == a1) = false := beq_eq_false_iff_ne.mpr c5
      have c5b1 : (((rd_T76 l0 x5_1).f0) != a1) = true := bne_iff_ne.mpr c5
      have H' := Aside0.mk H
      clear H
      have p591 : 0 ≤ (x5_1 : Int) := of_decide_eq_true (by first | (with_reducible assumption) | assumption)
      have q591 : x5_1 < (l0.length : Int) := of_decide_eq_true (by first | (with_reducible assumption) | assumption)
      obtain ⟨ad591, e591, hx591_0, hx591_1⟩ := at_T76 HR0.out x5_1 p591 q591
      cases e591
      replace p591 := eq_true p591
      replace q591 := eq_true q591
      go_wp2
      go_roundg k1
      case measure => have := HK1.out; omega
      case rel => exact ⟨(wrap64 (x5_1 + 1)), (by first | rfl | (simp; done) | (simp [*]; done)), H', ⟨by have := HK1.out; omega⟩, by repeat (first | exact Drawn0.refl _ | apply Drawn0.step)⟩
    ·rw [if_neg c4] at H
     exact absurd H (by simp)
   ·rw [if_neg c3] at H
    have c3b0 : decide (x5_1 < (l0.length : Int)) = false := decide_eq_false c3
    clear c3
    obtain rfl := Option.some.inj H
    go_wp2
    go_ret
    exact ⟨by first | rfl | (simp; done) | (simp [*]; done), by repeat (first | exact Drawn0.refl _ | apply Drawn0.step)⟩
end Go.Proofs.Ytnmhnkpijjmhjaa.QS
namespace Go.Proofs.Ytnmhnkpijjmhjaa.QS
open Go.Proofs.Ytnmhnkpijjmhjaa.Cw Go.Proofs.Ytnmhnkpijjmhjaa.Kp Go.Proofs.Ytnmhnkpijjmhjaa.Ext Go.RowKit Go.Proofs.YtnmhnkpijjmhjaaW.PrintWords Go.Proofs.YtnmhnkpijjmhjaaW.PrintLast Go.Proofs.YtnmhnkpijjmhjaaW.PrintMore
attribute [local go_sem] max2_int min2_int max_two min_two max_three min_three max_four min_four   -- for this text's walks alone
set_option linter.unusedVariables false
set_option linter.unusedSimpArgs false
def spec_l02Next.l0 : Nat → Int → List Int → List Int → Int → Option (List Int)
 | 0, _, _, _, _ => none
 | k + 1, x1, x6, x7, x8 => if x8 < (x7.length : Int) then (if 0 ≤ x8 then (if (rd x7 x8) = x1 then (spec_l02Next.l0 k x1 x6 x7 (wrap64 (x8 + 1))) else (if x6.length < 17592186044416 then (spec_l02Next.l0 k x1 (x6 ++ [rd x7 x8]) x7 (wrap64 (x8 + 1))) else (none))) else (none)) else (some x6)
def spec_l02Next.f (k : Nat) (l0 : List (S76)) (a1 : Int) : Option (List Int) := (spec_l02High.f k l0 a1).bind fun t593 => ((some (([] : List Int) : List Int)).bind fun y594 => (if t593 = 0 then (some y594) else ((spec_l01Below.f k t593).bind fun t597 => (spec_l02Next.l0 k a1 y594 t597 0))))
set_option maxHeartbeats 8000000 in
set_option maxRecDepth 100000 in
theorem spec_l02Next.calls (k : Nat) (A0 : Option Addr) (c0 : Nat) (l0 : List (S76)) (a1 : Int) (r : List Int) (w : World) (hr0 : Kd.C k76 w A0 l0.length l0) (hc0 : l0.length ≤ c0) (h : spec_l02Next.f k l0 a1 = some r) :
  Calls Try.prog 207 #[.slice A0 l0.length c0, .int .i64 a1] w fun e w' => ∃ v0_ : Value, e = .returned (v0_) ∧ Kd.R (Kd.int .i64) 2 w' w.heap.size (fun _ => True) v0_ r ∧ Below w.heap.size w w' := by
 have HR0 := Aside0.mk hr0
 have HC0 := Aside0.mk hc0
 clear hr0 hc0
 have HB := Aside0.mk (Below.refl w.heap.size w)
 have H : ((spec_l02High.f k l0 a1).bind fun t593 => ((some (([] : List Int) : List Int)).bind fun y594 => (if t593 = 0 then (some y594) else ((spec_l01Below.f k t593).bind fun t597 => (spec_l02Next.l0 k a1 y594 t597 0))))) = some r := h
 clear h
 replace H := Option.bind_eq_some_iff.mp H
 obtain ⟨t593, A30, H⟩ := H
 try dsimp only at H
 have A3 := Aside0.mk A30
 clear A30
 obtain ⟨y594, hy594⟩ : ∃ y_ : List Int, y_ = (([] : List Int)) := ⟨_, rfl⟩
 replace H : (if t593 = 0 then (some y594) else ((spec_l01Below.f k t593).bind fun t597 => (spec_l02Next.l0 k a1 y594 t597 0))) = some r := by first | (rw [hy594]; with_reducible exact H) | (have H2_ := (Option.bind_some _ _).symm.trans H; rw [hy594]; with_reducible exact H2_) | (have H2_ := (Option.bind_some _ _).symm.trans H; with_reducible exact H2_) | with_reducible exact H | (rw [hy594]; exact H) | exact H
 have Ny594 := Aside0.mk hy594
 clear hy594
 by_cases c4 : t593 = 0
 ·rw [if_pos c4] at H
  have c4b0 : (t593 == 0) = true := beq_iff_eq.mpr c4
  have c4b1 : (t593 != 0) = false := bne_eq_false_iff_eq.mpr c4
  clear c4
  obtain rfl := Option.some.inj H
  go_enter Try.func207, Try.ntmps207
  go_wp2_with (first | ((with_reducible refine gate_callee (f := 223) rfl ?_); refine cl_ (some 11) Try.func223 #[.slice A0 l0.length c0, .int .i64 a1] ?_; (with_reducible refine (spec_l02High.calls k _ _ l0 a1 t593 _ ?side1 ?side2 A3.out).mono ?_); (case side1 => exact pC (HR0.out)); (case side2 => exact HC0.out); rintro e w' ⟨rfl, ⟨nd, rfl⟩⟩; refine ⟨_, rfl, ?_⟩) | ((with_reducible refine gate_dst (N := 12) rfl ?_); refine Kd.R_lit (Kd.int .i64) _ 2 ?hg (N := 12) ?hd (xs := ([] : List Int)) (inner := []) (ok := fun _ => True) (okp := fun _ => True) ?hr ?hp (fun _ hk => hk) trivial (Below.refl _ _) (Nat.le_refl _) (by simp) ?_; (case hd => rfl); (case hg => rfl); (case hr => first | (go_simp; done) | (go_simp; rfl)); (case hp => exact (Reps.none _ _)); intro v595 w5 ho6 hb hg_ hnew_; clear hg_ hnew_; (first | rw [← Ny594.out] at ho6 | (simp only [Int.reduceToNat] at ho6; rw [← Ny594.out] at ho6)); have HO596 := Aside0.mk (Kd.R_lower ho6 (below_size (pH HB))); replace HB := sH HB hb; clear hb ho6))
  go_ret
  exact ⟨_, by first | rfl | (simp [errW_none, errW_some] <;> rfl) | (simp [*, errW_none, errW_some] <;> rfl), by (with_reducible repeat (first | apply Kd.R_alloc | apply Kd.R_drewN | apply Kd.R_drew)); exact HO596.out, pH HB⟩
 ·rw [if_neg c4] at H
  have c4b0 : (t593 == 0) = false := beq_eq_false_iff_ne.mpr c4
  have c4b1 : (t593 != 0) = true := bne_iff_ne.mpr c4
  replace H := Option.bind_eq_some_iff.mp H
  obtain ⟨t597, A70, H⟩ := H
  try dsimp only at H
  have A7 := Aside0.mk A70
  clear A70
  have H' := Aside0.mk H
  clear H
  go_enter Try.func207, Try.ntmps207
  go_wp2_with (first | ((with_reducible refine gate_callee (f := 223) rfl ?_); refine cl_ (some 11) Try.func223 #[.slice A0 l0.length c0, .int .i64 a1] ?_; (with_reducible refine (spec_l02High.calls k _ _ l0 a1 t593 _ ?side1 ?side2 A3.out).mono ?_); (case side1 => exact pC (HR0.out)); (case side2 => exact HC0.out); rintro e w' ⟨rfl, ⟨nd, rfl⟩⟩; refine ⟨_, rfl, ?_⟩) | ((with_reducible refine gate_dst (N := 12) rfl ?_); refine Kd.R_lit (Kd.int .i64) _ 2 ?hg (N := 12) ?hd (xs := ([] : List Int)) (inner := []) (ok := fun _ => True) (okp := fun _ => True) ?hr ?hp (fun _ hk => hk) trivial (Below.refl _ _) (Nat.le_refl _) (by simp) ?_; (case hd => rfl); (case hg => rfl); (case hr => first | (go_simp; done) | (go_simp; rfl)); (case hp => exact (Reps.none _ _)); intro v595 w8 ho9 hb hg_ hnew_; clear hg_ hnew_; (first | rw [← Ny594.out] at ho9 | (simp only [Int.reduceToNat] at ho9; rw [← Ny594.out] at ho9)); have HO596 := Aside0.mk (Kd.R_lower ho9 (below_size (pH HB))); replace HB := sH HB hb; clear hb ho9) | ((with_reducible refine gate_callee (f := 129) rfl ?_); refine cl_ (some 17) Try.func129 #[.int .i64 t593] ?_; (with_reducible refine (spec_l01Below.calls k t593 t597 _ A7.out).mono ?_); rintro e w10 ⟨v598, rfl, ho0, hb⟩; refine ⟨_, rfl, ?_⟩; have HO599 := Aside0.mk (Kd.R_lower (Kd.R_new' ho0 (Kd.R_lt (pR HO596))) (below_size (pH HB))); replace HO596 := Aside0.mk (Kd.R_elder' (pR HO596) (Kd.R_base ho0) hb); replace HB := sH HB hb; (try clear hb); (try clear hi); (try clear ho0)))
  go_loopg [6, 8] k (fun kq v6 v8 w' => ∃ (x6_1 : List Int) (x8_1 : Int), v8 = .int .i64 x8_1 ∧ Aside0 (spec_l02Next.l0 kq a1 x6_1 t597 x8_1 = some r) ∧ Aside0 (kq ≤ k) ∧ Aside0 (Kd.R (Kd.int .i64) 2 w' w.heap.size (fun k_ => some k_ ≠ (v598 : Value).ownBlock) v6 x6_1) ∧ Aside0 (Kd.R (Kd.int .i64) 2 w' w.heap.size (fun k_ => some k_ ≠ (v6 : Value).ownBlock) v598 t597) ∧ Aside0 (Below w.heap.size w w'))
  case atStart => exact ⟨(y594), (0), (by first | rfl | (simp; done) | (simp [*]; done)), H', ⟨Nat.le_refl _⟩, ⟨by (with_reducible repeat (first | apply Kd.R_alloc | apply Kd.R_drewN | apply Kd.R_drew)); exact Kd.R_mono HO596.out (fun _ hk => hk.2)⟩, ⟨by (with_reducible repeat (first | apply Kd.R_alloc | apply Kd.R_drewN | apply Kd.R_drew)); exact Kd.R_mono HO599.out (fun _ hk => hk.2)⟩, ⟨pH HB⟩⟩
  case round =>
   clear H'
   try clear c1
   try clear c2
   try clear p2
   try clear c4
   try clear c4b0
   try clear c4b1
   obtain ⟨x6_1, x8_1, rfl, HA, HK1, HO_6, HO_7, HB⟩ := hrel
   cases gk with
   | zero => exact absurd HA.out (by simp [spec_l02Next.l0])
   | succ k1 =>
    have H := HA.out
    clear HA
    simp only [spec_l02Next.l0] at H
    by_cases c11 : x8_1 < (t597.length : Int)
    ·rw [if_pos c11] at H
     have c11b0 : decide (x8_1 < (t597.length : Int)) = true := decide_eq_true c11
     clear c11
     by_cases c12 : 0 ≤ x8_1
     ·rw [if_pos c12] at H
      have c12b0 : decide (0 ≤ x8_1) = true := decide_eq_true c12
      clear c12
      by_cases c13 : (rd t597 x8_1) = a1
      ·rw [if_pos c13] at H
       have c13b0 : ((rd t597 x8_1) == a1) = true := beq_iff_eq.mpr c13
       have c13b1 : ((rd t597 x8_1) != a1) = false := bne_eq_false_iff_eq.mpr c13
       clear c13
       have H' := Aside0.mk H
       clear H
       obtain ⟨Ao14, co14, eo14⟩ := Kd.R_slice HO_7.out
       subst eo14
       have p600 : 0 ≤ (x8_1 : Int) := of_decide_eq_true (by first | (with_reducible assumption) | assumption)
       have q600 : x8_1 < (t597.length : Int) := of_decide_eq_true (by first | (with_reducible assumption) | assumption)
       obtain ⟨ad600, e600, hx600_0⟩ := Kd.at_int (Kd.R_reads' HO_7.out).2.2 x8_1 p600 q600
       cases e600
       replace p600 := eq_true p600
       replace q600 := eq_true q600
       go_wp2
       go_roundg k1
       case measure => have := HK1.out; omega
       case rel => exact ⟨(x6_1), (wrap64 (x8_1 + 1)), (by first | rfl | (simp; done) | (simp [*]; done)), H', ⟨by have := HK1.out; omega⟩, ⟨by (with_reducible repeat (first | apply Kd.R_alloc | apply Kd.R_drewN | apply Kd.R_drew)); exact HO_6.out⟩, ⟨by (with_reducible repeat (first | apply Kd.R_alloc | apply Kd.R_drewN | apply Kd.R_drew)); exact HO_7.out⟩, ⟨pH HB⟩⟩
      ·rw [if_neg c13] at H
       have c13b0 : ((rd t597 x8_1) == a1) = false := beq_eq_false_iff_ne.mpr c13
       have c13b1 : ((rd t597 x8_1) != a1) = true := bne_iff_ne.mpr c13
       by_cases c15 : x6_1.length < 17592186044416
       ·rw [if_pos c15] at H
        have LMc15 := Aside0.mk c15
        clear c15
        obtain ⟨y602, hy602⟩ : ∃ y_ : List Int, y_ = (x6_1 ++ [rd t597 x8_1]) := ⟨_, rfl⟩
        replace H : (spec_l02Next.l0 k1 a1 y602 t597 (wrap64 (x8_1 + 1))) = some r := by first | (rw [hy602]; with_reducible exact H) | (have H2_ := (Option.bind_some _ _).symm.trans H; rw [hy602]; with_reducible exact H2_) | (have H2_ := (Option.bind_some _ _).symm.trans H; with_reducible exact H2_) | with_reducible exact H | (rw [hy602]; exact H) | exact H
        have Ny602 := Aside0.mk hy602
        clear hy602
        have H' := Aside0.mk H
        clear H
        obtain ⟨Ao16, co16, eo16⟩ := Kd.R_slice HO_7.out
        subst eo16
        have p600 : 0 ≤ (x8_1 : Int) := of_decide_eq_true (by first | (with_reducible assumption) | assumption)
        have q600 : x8_1 < (t597.length : Int) := of_decide_eq_true (by first | (with_reducible assumption) | assumption)
        obtain ⟨ad600, e600, hx600_0⟩ := Kd.at_int (Kd.R_reads' HO_7.out).2.2 x8_1 p600 q600
        cases e600
        replace p600 := eq_true p600
        replace q600 := eq_true q600
        have p601 : 0 ≤ (x8_1 : Int) := of_decide_eq_true (by first | (with_reducible assumption) | assumption)
        have q601 : x8_1 < (t597.length : Int) := of_decide_eq_true (by first | (with_reducible assumption) | assumption)
        obtain ⟨ad601, e601, hx601_0⟩ := Kd.at_int (Kd.R_reads' HO_7.out).2.2 x8_1 p601 q601
        obtain rfl : ad600 = ad601 := (by injection e601)
        replace p601 := eq_true p601
        replace q601 := eq_true q601
        go_wp2_with (first | ((with_reducible refine gate_builtin (b := .append) (xs := #[.tmp 30, .tmp 35]) rfl ?_); at_builtin; refine Kd.R_append (Kd.int .i64) (w0 := w) w.heap.size rfl (.tmp 30) (.tmp 35) 22 2 (.int .i64 0) 8 rfl Try.underlying22 info2 rfl (by decide) (by omega) u6 x6_1 (rd t597 x8_1) [.int .i64 (rd t597 x8_1)] (fun k_ => some k_ ≠ (.slice (some ad600) t597.length co16 : Value).ownBlock) (fun _ => False) rfl rfl ?aP (fun _ hk => hk.elim) ?aF ?aO ?aB ?aS ?aL ?_; (case aP => exact rfl); (case aB => exact (pH HB)); (case aF => exact (fun k_ hk => Kd.fresh' (Kd.R_lt (pR HO_7)) k_ hk)); (case aO => exact (pR HO_6)); (case aS => exact (below_size (pH HB))); (case aL => have := LMc15.out; omega); intro v603 w17 ho hb hg hat; rw [← Ny602.out] at ho; have n0_ := Aside0.mk (Kd.R_after (ok := (fun _ => True)) (by (with_reducible repeat (first | apply Kd.R_alloc | apply Kd.R_drewN | apply Kd.R_drew)); exact Kd.R_mono HO_7.out (fun _ hk => ⟨trivial, hk⟩)) hg hat); have n1_ := Aside0.mk (hb); have n2_ := Aside0.mk (ho); clear HO_7; clear HB; clear HO_6; have HO_7 := n0_; have HB := n1_; have HO604 := n2_; clear n0_ n1_ n2_; clear ho hb hg hat))
        go_roundg k1
        case measure => have := HK1.out; omega
        case rel => exact ⟨(y602), (wrap64 (x8_1 + 1)), (by first | rfl | (simp; done) | (simp [*]; done)), H', ⟨by have := HK1.out; omega⟩, ⟨by (with_reducible repeat (first | apply Kd.R_alloc | apply Kd.R_drewN | apply Kd.R_drew)); exact HO604.out⟩, ⟨by (with_reducible repeat (first | apply Kd.R_alloc | apply Kd.R_drewN | apply Kd.R_drew)); exact Kd.R_mono HO_7.out (fun _ hk => hk.2)⟩, ⟨pH HB⟩⟩
       ·rw [if_neg c15] at H
        exact absurd H (by simp)
     ·rw [if_neg c12] at H
      exact absurd H (by simp)
    ·rw [if_neg c11] at H
     have c11b0 : decide (x8_1 < (t597.length : Int)) = false := decide_eq_false c11
     clear c11
     obtain rfl := Option.some.inj H
     obtain ⟨Ao18, co18, eo18⟩ := Kd.R_slice HO_7.out
     subst eo18
     go_wp2
     go_ret
     exact ⟨_, by first | rfl | (simp [errW_none, errW_some] <;> rfl) | (simp [*, errW_none, errW_some] <;> rfl), by (with_reducible repeat (first | apply Kd.R_alloc | apply Kd.R_drewN | apply Kd.R_drew)); exact Kd.R_mono HO_6.out (fun _ hk => trivial), pH HB⟩
end Go.Proofs.Ytnmhnkpijjmhjaa.QS
namespace Go.Proofs.Ytnmhnkpijjmhjaa.QS
open Go.Proofs.Ytnmhnkpijjmhjaa.Cw Go.Proofs.Ytnmhnkpijjmhjaa.Kp Go.Proofs.Ytnmhnkpijjmhjaa.Ext Go.RowKit Go.Proofs.YtnmhnkpijjmhjaaW.PrintWords Go.Proofs.YtnmhnkpijjmhjaaW.PrintLast Go.Proofs.YtnmhnkpijjmhjaaW.PrintMore
attribute [local go_sem] max2_int min2_int max_two min_two max_three min_three max_four min_four   -- for this text's walks alone
set_option linter.unusedVariables false
set_option linter.unusedSimpArgs false
mutual
def spec_l02Ways.j0 : Nat → List (S76) → Int → Int → Int → Option (Int)
 | 0, _, _, _, _ => none
 | k + 1, x0, x1, x2, x7 => (spec_l02Next.f k x0 x1).bind fun t654 => (spec_l02Ways.l0 k x0 x2 x7 t654 0)
def spec_l02Ways.l0 : Nat → List (S76) → Int → Int → List Int → Int → Option (Int)
 | 0, _, _, _, _, _ => none
 | k + 1, x0, x2, x7, x8, x9 => if x9 < (x8.length : Int) then (if 0 ≤ x9 then ((spec_l02Ways.f k x0 (rd x8 x9) x2).bind fun t658 => (spec_l02Ways.l0 k x0 x2 (wrap64 (x7 + t658)) x8 (wrap64 (x9 + 1)))) else (none)) else (some x7)
def spec_l02Ways.f : Nat → List (S76) → Int → Int → Option (Int)
 | 0, _, _, _ => none
 | k + 1, l0, a1, a2 => if a1 = a2 then (spec_l02Ways.j0 k l0 a1 a2 1) else (spec_l02Ways.j0 k l0 a1 a2 0)
end
set_option maxHeartbeats 8000000 in
set_option maxRecDepth 100000 in
theorem spec_l02Ways.calls (k : Nat) : ∀ (A0 : Option Addr) (c0 : Nat) (l0 : List (S76)) (a1 : Int) (a2 : Int) (r : Int) (w : World) (hr0 : Kd.C k76 w A0 l0.length l0) (hc0 : l0.length ≤ c0) (h : spec_l02Ways.f k l0 a1 a2 = some r),
  Calls Try.prog 170 #[.slice A0 l0.length c0, .int .i64 a1, .int .i64 a2] w fun e w' => e = .returned (.int .i64 r) ∧ Below w.heap.size w w' := by
 induction k using Nat.strongRecOn with
 | _ k ih =>
 intro A0 c0 l0 a1 a2 r w hr0 hc0 h
 cases k with
 | zero => exact absurd h (by simp [spec_l02Ways.f])
 | succ k =>
 simp only [spec_l02Ways.f] at h
 have HR0 := Aside0.mk hr0
 have HC0 := Aside0.mk hc0
 clear hr0 hc0
 have HB := Aside0.mk (Below.refl w.heap.size w)
 have H : (if a1 = a2 then (spec_l02Ways.j0 k l0 a1 a2 1) else (spec_l02Ways.j0 k l0 a1 a2 0)) = some r := h
 clear h
 have HC4 := Aside0.mk H
 clear H
 go_enter Try.func170, Try.ntmps170
 go_upto_if 12 with (fail)
 go_cut [7] (fun v7 wc => ∃ (kq : Nat) (x7_3 : Int), v7 = .int .i64 x7_3 ∧ Aside0 (spec_l02Ways.j0 kq l0 a1 a2 x7_3 = some r) ∧ Aside0 (kq ≤ k) ∧ Aside0 (Below w.heap.size w wc))
 case first =>
  have H := HC4.out
  clear HC4
  by_cases c5 : a1 = a2
  ·rw [if_pos c5] at H
   have c5b0 : (a1 == a2) = true := beq_iff_eq.mpr c5
   have c5b1 : (a1 != a2) = false := bne_eq_false_iff_eq.mpr c5
   clear c5
   (first | rw [c5b0] | (simp only [i64_w, i32_w]; rw [c5b0]) | skip)
   have H' := Aside0.mk H
   clear H
   go_wp2
   go_meet
   case rel => exact ⟨_, (1), (by first | rfl | (simp; done) | (simp [*]; done)), H', ⟨by first | omega | exact Nat.le_refl _⟩, ⟨pH HB⟩⟩
  ·rw [if_neg c5] at H
   have c5b0 : (a1 == a2) = false := beq_eq_false_iff_ne.mpr c5
   have c5b1 : (a1 != a2) = true := bne_iff_ne.mpr c5
   (first | rw [c5b0] | (simp only [i64_w, i32_w]; rw [c5b0]) | skip)
   have H' := Aside0.mk H
   clear H
   go_wp2
   go_meet
   case rel => exact ⟨_, (0), (by first | rfl | (simp; done) | (simp [*]; done)), H', ⟨by first | omega | exact Nat.le_refl _⟩, ⟨pH HB⟩⟩
 case rest =>
  clear HC4
  try clear c1
  try clear p2
  try clear c5
  try clear c5b0
  try clear c5b1
  obtain ⟨kq, x7_3, rfl, HA, HJ3, HB⟩ := hcut
  cases kq with
  | zero => exact absurd HA.out (by simp [spec_l02Ways.j0])
  | succ kj3 =>
   have H := HA.out
   clear HA
   simp only [spec_l02Ways.j0] at H
   replace H := Option.bind_eq_some_iff.mp H
   obtain ⟨t654, A60, H⟩ := H
   try dsimp only at H
   have A6 := Aside0.mk A60
   clear A60
   have H' := Aside0.mk H
   clear H
   go_wp2_with (first | ((with_reducible refine gate_callee (f := 207) rfl ?_); refine cl_ (some 15) Try.func207 #[.slice A0 l0.length c0, .int .i64 a1] ?_; (with_reducible refine (spec_l02Next.calls kj3 _ _ l0 a1 t654 _ ?side1 ?side2 A6.out).mono ?_); (case side1 => exact pC ((Kd.C_below HR0.out HB.out))); (case side2 => exact HC0.out); rintro e w7 ⟨v655, rfl, ho0, hb⟩; refine ⟨_, rfl, ?_⟩; have HO656 := Aside0.mk (Kd.R_lower ho0 (below_size (pH HB))); replace HB := sH HB hb; (try clear hb); (try clear hi); (try clear ho0)))
   go_loopg [7, 9] kj3 (fun kq v7 v9 w' => ∃ (x7_2 : Int) (x9_2 : Int), v7 = .int .i64 x7_2 ∧ v9 = .int .i64 x9_2 ∧ Aside0 (spec_l02Ways.l0 kq l0 a2 x7_2 t654 x9_2 = some r) ∧ Aside0 (kq ≤ kj3) ∧ Aside0 (Kd.R (Kd.int .i64) 2 w' w.heap.size (fun _ => True) v655 t654) ∧ Aside0 (Below w.heap.size w w'))
   case atStart => exact ⟨(x7_3), (0), (by first | rfl | (simp; done) | (simp [*]; done)), (by first | rfl | (simp; done) | (simp [*]; done)), H', ⟨Nat.le_refl _⟩, ⟨by (with_reducible repeat (first | apply Kd.R_alloc | apply Kd.R_drewN | apply Kd.R_drew)); exact HO656.out⟩, ⟨pH HB⟩⟩
   case round =>
    clear H'
    try clear c1
    try clear c2
    try clear p2
    try clear c5
    try clear c5b0
    try clear c5b1
    try clear p2
    obtain ⟨x7_2, x9_2, rfl, rfl, HA, HK2, HO_8, HB⟩ := hrel
    cases gk with
    | zero => exact absurd HA.out (by simp [spec_l02Ways.l0])
    | succ k2 =>
     have H := HA.out
     clear HA
     simp only [spec_l02Ways.l0] at H
     by_cases c8 : x9_2 < (t654.length : Int)
     ·rw [if_pos c8] at H
      have c8b0 : decide (x9_2 < (t654.length : Int)) = true := decide_eq_true c8
      clear c8
      by_cases c9 : 0 ≤ x9_2
      ·rw [if_pos c9] at H
       have c9b0 : decide (0 ≤ x9_2) = true := decide_eq_true c9
       clear c9
       replace H := Option.bind_eq_some_iff.mp H
       obtain ⟨t658, A100, H⟩ := H
       try dsimp only at H
       have A10 := Aside0.mk A100
       clear A100
       have H' := Aside0.mk H
       clear H
       obtain ⟨Ao11, co11, eo11⟩ := Kd.R_slice HO_8.out
       subst eo11
       have p657 : 0 ≤ (x9_2 : Int) := of_decide_eq_true (by first | (with_reducible assumption) | assumption)
       have q657 : x9_2 < (t654.length : Int) := of_decide_eq_true (by first | (with_reducible assumption) | assumption)
       obtain ⟨ad657, e657, hx657_0⟩ := Kd.at_int (Kd.R_reads' HO_8.out).2.2 x9_2 p657 q657
       cases e657
       replace p657 := eq_true p657
       replace q657 := eq_true q657
       go_wp2_with (first | ((with_reducible refine gate_callee (f := 170) rfl ?_); refine cl_ (some 29) Try.func170 #[.slice A0 l0.length c0, .int .i64 (rd t654 x9_2), .int .i64 a2] ?_; (with_reducible refine (ih k2 (by have := HJ3.out; have := HK2.out; omega) _ _ l0 (rd t654 x9_2) a2 t658 _ ?side1 ?side2 A10.out).mono ?_); (case side1 => exact pC ((Kd.C_below HR0.out HB.out))); (case side2 => exact HC0.out); rintro e w12 ⟨rfl, hb⟩; refine ⟨_, rfl, ?_⟩; replace HO_8 := sR HO_8 hb; replace HB := sH HB hb; (try clear hb); (try clear hi)))
       go_roundg k2
       case measure => have := HJ3.out; have := HK2.out; omega
       case rel => exact ⟨(wrap64 (x7_2 + t658)), (wrap64 (x9_2 + 1)), (by first | rfl | (simp; done) | (simp [*]; done)), (by first | rfl | (simp; done) | (simp [*]; done)), H', ⟨by have := HJ3.out; have := HK2.out; omega⟩, ⟨by (with_reducible repeat (first | apply Kd.R_alloc | apply Kd.R_drewN | apply Kd.R_drew)); exact HO_8.out⟩, ⟨pH HB⟩⟩
      ·rw [if_neg c9] at H
       exact absurd H (by simp)
     ·rw [if_neg c8] at H
      have c8b0 : decide (x9_2 < (t654.length : Int)) = false := decide_eq_false c8
      clear c8
      obtain rfl := Option.some.inj H
      obtain ⟨Ao13, co13, eo13⟩ := Kd.R_slice HO_8.out
      subst eo13
      go_wp2
      go_ret
      exact ⟨by first | rfl | (simp [errW_none, errW_some] <;> rfl) | (simp [*, errW_none, errW_some] <;> rfl), pH HB⟩
end Go.Proofs.Ytnmhnkpijjmhjaa.QS
namespace Go.Proofs.Ytnmhnkpijjmhjaa.QS
open Go.Proofs.Ytnmhnkpijjmhjaa.Cw Go.Proofs.Ytnmhnkpijjmhjaa.Kp Go.Proofs.Ytnmhnkpijjmhjaa.Ext Go.RowKit Go.Proofs.YtnmhnkpijjmhjaaW.PrintWords Go.Proofs.YtnmhnkpijjmhjaaW.PrintLast Go.Proofs.YtnmhnkpijjmhjaaW.PrintMore
attribute [local go_sem] max2_int min2_int max_two min_two max_three min_three max_four min_four   -- for this text's walks alone
set_option linter.unusedVariables false
set_option linter.unusedSimpArgs false
def spec_l06Between.l0 : Nat → List (S76) → Int → List Int → Int → Int → Option (Int)
 | 0, _, _, _, _, _ => none
 | k + 1, x0, x2, x7, x8, x9 => if x9 < (x7.length : Int) then (if 0 ≤ x9 then ((spec_l02Ways.f k x0 (rd x7 x9) x2).bind fun t663 => (spec_l06Between.l0 k x0 x2 x7 (wrap64 (x8 + t663)) (wrap64 (x9 + 1)))) else (none)) else (some x8)
def spec_l06Between.f (k : Nat) (l0 : List (S76)) (a1 : Int) (a2 : Int) : Option (Int) := (spec_l01Below.f k a1).bind fun t659 => (spec_l06Between.l0 k l0 a2 t659 0 0)
set_option maxHeartbeats 8000000 in
set_option maxRecDepth 100000 in
theorem spec_l06Between.calls (k : Nat) (A0 : Option Addr) (c0 : Nat) (l0 : List (S76)) (a1 : Int) (a2 : Int) (r : Int) (w : World) (hr0 : Kd.C k76 w A0 l0.length l0) (hc0 : l0.length ≤ c0) (h : spec_l06Between.f k l0 a1 a2 = some r) :
  Calls Try.prog 114 #[.slice A0 l0.length c0, .int .i64 a1, .int .i64 a2] w fun e w' => e = .returned (.int .i64 r) ∧ Below w.heap.size w w' := by
 have HR0 := Aside0.mk hr0
 have HC0 := Aside0.mk hc0
 clear hr0 hc0
 have HB := Aside0.mk (Below.refl w.heap.size w)
 have H : ((spec_l01Below.f k a1).bind fun t659 => (spec_l06Between.l0 k l0 a2 t659 0 0)) = some r := h
 clear h
 replace H := Option.bind_eq_some_iff.mp H
 obtain ⟨t659, A40, H⟩ := H
 try dsimp only at H
 have A4 := Aside0.mk A40
 clear A40
 have H' := Aside0.mk H
 clear H
 go_enter Try.func114, Try.ntmps114
 go_wp2_with (first | ((with_reducible refine gate_callee (f := 129) rfl ?_); refine cl_ (some 11) Try.func129 #[.int .i64 a1] ?_; (with_reducible refine (spec_l01Below.calls k a1 t659 _ A4.out).mono ?_); rintro e w5 ⟨v660, rfl, ho0, hb⟩; refine ⟨_, rfl, ?_⟩; have HO661 := Aside0.mk (Kd.R_lower ho0 (below_size (pH HB))); replace HB := sH HB hb; (try clear hb); (try clear hi); (try clear ho0)))
 go_loopg [8, 9] k (fun kq v8 v9 w' => ∃ (x8_1 : Int) (x9_1 : Int), v8 = .int .i64 x8_1 ∧ v9 = .int .i64 x9_1 ∧ Aside0 (spec_l06Between.l0 kq l0 a2 t659 x8_1 x9_1 = some r) ∧ Aside0 (kq ≤ k) ∧ Aside0 (Kd.R (Kd.int .i64) 2 w' w.heap.size (fun _ => True) v660 t659) ∧ Aside0 (Below w.heap.size w w'))
 case atStart => exact ⟨(0), (0), (by first | rfl | (simp; done) | (simp [*]; done)), (by first | rfl | (simp; done) | (simp [*]; done)), H', ⟨Nat.le_refl _⟩, ⟨by (with_reducible repeat (first | apply Kd.R_alloc | apply Kd.R_drewN | apply Kd.R_drew)); exact HO661.out⟩, ⟨pH HB⟩⟩
 case round =>
  clear H'
  try clear c1
  try clear p2
  obtain ⟨x8_1, x9_1, rfl, rfl, HA, HK1, HO_7, HB⟩ := hrel
  cases gk with
  | zero => exact absurd HA.out (by simp [spec_l06Between.l0])
  | succ k1 =>
   have H := HA.out
   clear HA
   simp only [spec_l06Between.l0] at H
   by_cases c6 : x9_1 < (t659.length : Int)
   ·rw [if_pos c6] at H
    have c6b0 : decide (x9_1 < (t659.length : Int)) = true := decide_eq_true c6
    clear c6
    by_cases c7 : 0 ≤ x9_1
    ·rw [if_pos c7] at H
     have c7b0 : decide (0 ≤ x9_1) = true := decide_eq_true c7
     clear c7
     replace H := Option.bind_eq_some_iff.mp H
     obtain ⟨t663, A80, H⟩ := H
     try dsimp only at H
     have A8 := Aside0.mk A80
     clear A80
     have H' := Aside0.mk H
     clear H
     obtain ⟨Ao9, co9, eo9⟩ := Kd.R_slice HO_7.out
     subst eo9
     have p662 : 0 ≤ (x9_1 : Int) := of_decide_eq_true (by first | (with_reducible assumption) | assumption)
     have q662 : x9_1 < (t659.length : Int) := of_decide_eq_true (by first | (with_reducible assumption) | assumption)
     obtain ⟨ad662, e662, hx662_0⟩ := Kd.at_int (Kd.R_reads' HO_7.out).2.2 x9_1 p662 q662
     cases e662
     replace p662 := eq_true p662
     replace q662 := eq_true q662
     go_wp2_with (first | ((with_reducible refine gate_callee (f := 170) rfl ?_); refine cl_ (some 25) Try.func170 #[.slice A0 l0.length c0, .int .i64 (rd t659 x9_1), .int .i64 a2] ?_; (with_reducible refine (spec_l02Ways.calls k1 _ _ l0 (rd t659 x9_1) a2 t663 _ ?side1 ?side2 A8.out).mono ?_); (case side1 => exact pC ((Kd.C_below HR0.out HB.out))); (case side2 => exact HC0.out); rintro e w10 ⟨rfl, hb⟩; refine ⟨_, rfl, ?_⟩; replace HO_7 := sR HO_7 hb; replace HB := sH HB hb; (try clear hb); (try clear hi)))
     go_roundg k1
     case measure => have := HK1.out; omega
     case rel => exact ⟨(wrap64 (x8_1 + t663)), (wrap64 (x9_1 + 1)), (by first | rfl | (simp; done) | (simp [*]; done)), (by first | rfl | (simp; done) | (simp [*]; done)), H', ⟨by have := HK1.out; omega⟩, ⟨by (with_reducible repeat (first | apply Kd.R_alloc | apply Kd.R_drewN | apply Kd.R_drew)); exact HO_7.out⟩, ⟨pH HB⟩⟩
    ·rw [if_neg c7] at H
     exact absurd H (by simp)
   ·rw [if_neg c6] at H
    have c6b0 : decide (x9_1 < (t659.length : Int)) = false := decide_eq_false c6
    clear c6
    obtain rfl := Option.some.inj H
    obtain ⟨Ao11, co11, eo11⟩ := Kd.R_slice HO_7.out
    subst eo11
    go_wp2
    go_ret
    exact ⟨by first | rfl | (simp [errW_none, errW_some] <;> rfl) | (simp [*, errW_none, errW_some] <;> rfl), pH HB⟩
end Go.Proofs.Ytnmhnkpijjmhjaa.QS
namespace Go.Proofs.Ytnmhnkpijjmhjaa.QS
open Go.Proofs.Ytnmhnkpijjmhjaa.Cw Go.Proofs.Ytnmhnkpijjmhjaa.Kp Go.Proofs.Ytnmhnkpijjmhjaa.Ext Go.RowKit Go.Proofs.YtnmhnkpijjmhjaaW.PrintWords Go.Proofs.YtnmhnkpijjmhjaaW.PrintLast Go.Proofs.YtnmhnkpijjmhjaaW.PrintMore
attribute [local go_sem] max2_int min2_int max_two min_two max_three min_three max_four min_four   -- for this text's walks alone
set_option linter.unusedVariables false
set_option linter.unusedSimpArgs false
def spec_l01Ones.l0 : Nat → Int → Int → Option (Int)
 | 0, _, _ => none
 | k + 1, x0, x3 => if x0 > 0 then (spec_l01Ones.l0 k (wrap64 (Int.tdiv x0 2)) (wrap64 (x3 + (Int.tmod x0 2)))) else (some x3)
def spec_l01Ones.f (k : Nat) (a0 : Int) : Option (Int) := spec_l01Ones.l0 k a0 0
theorem spec_l01Ones.mono_l : ∀ k, (∀ y0 y1, LeO (spec_l01Ones.l0 k y0 y1) (spec_l01Ones.l0 (k + 1) y0 y1))
 | 0 => fun _ _ r h => by simp [spec_l01Ones.l0] at h
 | k + 1 => by
  have ih0 := spec_l01Ones.mono_l k
  ·intro y0 y1
   unfold spec_l01Ones.l0
   repeat' first
   | (with_reducible exact ih0 _ _)
   | (with_reducible exact LeO.refl _)
   | (with_reducible exact LeO.none _)
   | (with_reducible refine LeO.ite ?_ ?_)
   | (with_reducible refine LeO.bind ?_ (fun _ => ?_))
   | exact ih0 _ _
   | exact LeO.none _
   | refine LeO.ite ?_ ?_
   | refine LeO.bind ?_ (fun _ => ?_)
theorem spec_l01Ones.mono : ∀ a0 k, LeO (spec_l01Ones.f k a0) (spec_l01Ones.f (k + 1) a0) := by
 intro a0 k
 have ih0 := spec_l01Ones.mono_l k
 unfold spec_l01Ones.f
 repeat' first
   | (with_reducible exact ih0 _ _)
   | (with_reducible exact LeO.refl _)
   | (with_reducible exact LeO.none _)
   | (with_reducible refine LeO.ite ?_ ?_)
   | (with_reducible refine LeO.bind ?_ (fun _ => ?_))
   | exact ih0 _ _
   | exact LeO.none _
   | refine LeO.ite ?_ ?_
   | refine LeO.bind ?_ (fun _ => ?_)
set_option maxHeartbeats 8000000 in
set_option maxRecDepth 100000 in
theorem spec_l01Ones.calls (k : Nat) (a0 : Int) (r : Int) (w : World) (h : spec_l01Ones.f k a0 = some r) :
  Calls Try.prog 137 #[.int .i64 a0] w fun e w' => e = .returned (.int .i64 r) ∧ Drawn0 w w' := by
 have H : (spec_l01Ones.l0 k a0 0) = some r := h
 clear h
 have H' := Aside0.mk H
 clear H
 go_enter Try.func137, Try.ntmps137
 go_wp2
 go_loopg [0, 3] k (fun kq v0 v3 w' => ∃ (x0_1 : Int) (x3_1 : Int), v0 = .int .i64 x0_1 ∧ v3 = .int .i64 x3_1 ∧ Aside0 (spec_l01Ones.l0 kq x0_1 x3_1 = some r) ∧ Aside0 (kq ≤ k) ∧ Drawn0 w w')
 case atStart => exact ⟨(a0), (0), (by first | rfl | (simp; done) | (simp [*]; done)), (by first | rfl | (simp; done) | (simp [*]; done)), H', ⟨Nat.le_refl _⟩, by repeat (first | exact Drawn0.refl _ | apply Drawn0.step)⟩
 case round =>
  clear H'
  try clear c1
  obtain ⟨x0_1, x3_1, rfl, rfl, HA, HK1, ⟨m1, rfl⟩⟩ := hrel
  cases gk with
  | zero => exact absurd HA.out (by simp [spec_l01Ones.l0])
  | succ k1 =>
   have H := HA.out
   clear HA
   simp only [spec_l01Ones.l0] at H
   by_cases c2 : x0_1 > 0
   ·rw [if_pos c2] at H
    have c2b0 : decide (0 < x0_1) = true := decide_eq_true c2
    clear c2
    have H' := Aside0.mk H
    clear H
    go_wp2
    go_roundg k1
    case measure => have := HK1.out; omega
    case rel => exact ⟨(wrap64 (Int.tdiv x0_1 2)), (wrap64 (x3_1 + (Int.tmod x0_1 2))), (by first | rfl | (simp; done) | (simp [*]; done)), (by first | rfl | (simp; done) | (simp [*]; done)), H', ⟨by have := HK1.out; omega⟩, by repeat (first | exact Drawn0.refl _ | apply Drawn0.step)⟩
   ·rw [if_neg c2] at H
    have c2b0 : decide (0 < x0_1) = false := decide_eq_false c2
    clear c2
    obtain rfl := Option.some.inj H
    go_wp2
    go_ret
    exact ⟨by first | rfl | (simp; done) | (simp [*]; done), by repeat (first | exact Drawn0.refl _ | apply Drawn0.step)⟩
end Go.Proofs.Ytnmhnkpijjmhjaa.QS
namespace Go.Proofs.Ytnmhnkpijjmhjaa.QS
open Go.Proofs.Ytnmhnkpijjmhjaa.Cw Go.Proofs.Ytnmhnkpijjmhjaa.Kp Go.Proofs.Ytnmhnkpijjmhjaa.Ext Go.RowKit Go.Proofs.YtnmhnkpijjmhjaaW.PrintWords Go.Proofs.YtnmhnkpijjmhjaaW.PrintLast Go.Proofs.YtnmhnkpijjmhjaaW.PrintMore
attribute [local go_sem] max2_int min2_int max_two min_two max_three min_three max_four min_four   -- for this text's walks alone
set_option linter.unusedVariables false
set_option linter.unusedSimpArgs false
def spec_l02Reached.l0 : Nat → List (S76) → List Bool → List Int → Option (List Bool)
 | 0, _, _, _ => none
 | k + 1, x0, x5, x6 => if (x6.length : Int) > 0 then (if 0 ≤ (wrap64 ((x6.length : Int) - 1)) then (if (wrap64 ((x6.length : Int) - 1)) < (x6.length : Int) then (if (wrap64 ((x6.length : Int) - 1)) ≤ (x6.length : Int) then ((some (x6.take ((wrap64 ((x6.length : Int) - 1)) : Int).toNat : List Int)).bind fun y612 => (if 0 ≤ (rd x6 (wrap64 ((x6.length : Int) - 1))) then (if (rd x6 (wrap64 ((x6.length : Int) - 1))) < (x5.length : Int) then (if rdOf false x5 (rd x6 (wrap64 ((x6.length : Int) - 1))) = true then (spec_l02Reached.l0 k x0 x5 y612) else ((spec_l02Next.f k x0 (rd x6 (wrap64 ((x6.length : Int) - 1)))).bind fun t617 => (if y612.length + t617.length < 17592186044416 then (spec_l02Reached.l0 k x0 (x5.set ((rd x6 (wrap64 ((x6.length : Int) - 1))) : Int).toNat true) (y612 ++ t617)) else (none)))) else (none)) else (none))) else (none)) else (none)) else (none)) else (some x5)
def spec_l02Reached.f (k : Nat) (l0 : List (S76)) (a1 : Int) : Option (List Bool) := if 64 ≤ 281474976710656 then ((spec_l02Next.f k l0 a1).bind fun t608 => (spec_l02Reached.l0 k l0 (List.replicate 64 false) t608)) else (none)
set_option maxHeartbeats 8000000 in
set_option maxRecDepth 100000 in
theorem spec_l02Reached.calls (k : Nat) (A0 : Option Addr) (c0 : Nat) (l0 : List (S76)) (a1 : Int) (r : List Bool) (w : World) (hr0 : Kd.C k76 w A0 l0.length l0) (hc0 : l0.length ≤ c0) (h : spec_l02Reached.f k l0 a1 = some r) :
  Calls Try.prog 175 #[.slice A0 l0.length c0, .int .i64 a1] w fun e w' => ∃ v0_ : Value, e = .returned (v0_) ∧ Kd.R Kd.bool 4 w' w.heap.size (fun _ => True) v0_ r ∧ Below w.heap.size w w' := by
 have HR0 := Aside0.mk hr0
 have HC0 := Aside0.mk hc0
 clear hr0 hc0
 have HB := Aside0.mk (Below.refl w.heap.size w)
 have H : (if 64 ≤ 281474976710656 then ((spec_l02Next.f k l0 a1).bind fun t608 => (spec_l02Reached.l0 k l0 (List.replicate 64 false) t608)) else (none)) = some r := h
 clear h
 by_cases c3 : 64 ≤ 281474976710656
 ·rw [if_pos c3] at H
  have c3b0 := eq_true c3
  have c3b1 : decide (64 ≤ 281474976710656) = true := decide_eq_true c3
  clear c3
  obtain ⟨y605, hy605⟩ : ∃ y_ : List Bool, y_ = (List.replicate 64 false) := ⟨_, rfl⟩
  replace H : ((spec_l02Next.f k l0 a1).bind fun t608 => (spec_l02Reached.l0 k l0 y605 t608)) = some r := by first | (rw [hy605]; with_reducible exact H) | (have H2_ := (Option.bind_some _ _).symm.trans H; rw [hy605]; with_reducible exact H2_) | (have H2_ := (Option.bind_some _ _).symm.trans H; with_reducible exact H2_) | with_reducible exact H | (rw [hy605]; exact H) | exact H
  have Ny605 := Aside0.mk hy605
  clear hy605
  replace H := Option.bind_eq_some_iff.mp H
  obtain ⟨t608, A40, H⟩ := H
  try dsimp only at H
  have A4 := Aside0.mk A40
  clear A40
  have H' := Aside0.mk H
  clear H
  go_enter Try.func175, Try.ntmps175
  try go_wp2
  replace HB := dH HB
  refine st_ 6 (S := fun w' => True) (ds := []) trivial (fun hHeld => ?_)
  generalize w.drew = w5 at HB hHeld ⊢
  refine pure_ (i := 1) (N := some 9) (v := ?_) (a' := ?_) (mB 6 2) rfl rfl (by kernel_rfl) (fun _ _ _ h => h) (Or.inl ⟨by rfl, ?_⟩) ?_ ?_
  rotate_left
  ·intro w'
   go_simp
   with_reducible rfl
  rotate_left
  ·simp only [Act.put, List.setIfInBounds_toArray, List.set_cons_zero, List.set_cons_succ, i64_w, i32_w]
   rfl
  refine pure_ (i := 2) (N := some 10) (v := ?_) (a' := ?_) (mB 6 6) rfl rfl (by kernel_rfl) (fun _ _ _ h => h) (Or.inl ⟨by rfl, ?_⟩) ?_ ?_
  rotate_left
  ·intro w'
   go_simp
   with_reducible rfl
  rotate_left
  ·simp only [Act.put, List.setIfInBounds_toArray, List.set_cons_zero, List.set_cons_succ, i64_w, i32_w]
   rfl
  refine join_ (σ := Value × Value) 2 (mB 6 15) (fun s_ => [(8, s_.1), (11, s_.2)]) (fun s_ w' => (Kd.R Kd.bool 4 w' w.heap.size (fun _ => True) s_.1 y605) ∧ (Kd.R (Kd.int .i64) 2 w' w.heap.size (fun _ => True) s_.2 t608) ∧ (Below w.heap.size w w')) ?_ ?_
  rotate_left
  ·intro hCont
   refine two_ (i := 0) (j := 3) (Ni := some 8) (Nj := some 11) (mB 6 7) (mB 6 14) rfl rfl rfl rfl (by kernel_rfl) (by decide) (by decide) (fun K hK => ?_) (fun K hK => ?_)
   ·skip
    refine Kd.R_make_step Kd.bool _ 4 (by rfl) (N := 8) rfl 105 _ _ rfl 64 rfl rfl Try.underlying105 (.bool false) 1 info4 rfl (by decide) (by omega) false (ok := fun _ => True) (okp := fun _ => True) rfl (fun _ hk => hk) trivial (by omega) (by omega) (Below.refl _ _) (Nat.le_refl _) ?_
    intro v606 w6 ho7 hb hg_ hnew_
    clear hg_ hnew_
    (first | rw [← Ny605.out] at ho7 | (simp only [Int.reduceToNat] at ho7; rw [← Ny605.out] at ho7))
    have HO607 := Aside0.mk (Kd.R_lower ho7 (below_size (pH HB)))
    replace HB := sH HB hb
    clear hb ho7
    refine hK.out _ _ trivial (fun hHeld => ?_)
    clear hK K
    refine nm_ ?_
    refine one_ (i := 3) (N := some 11) (mB 6 15) rfl rfl (by kernel_rfl) (by decide) (fun K hK => ?_)
    refine ca_ Try.func207 #[.slice A0 l0.length c0, .int .i64 a1] ?_
    with_reducible refine (spec_l02Next.calls k _ _ l0 a1 t608 _ ?side1 ?side2 A4.out).mono ?_
    (case side1 => exact pC ((Kd.C_below HR0.out HB.out)))
    (case side2 => exact HC0.out)
    rintro e w8 ⟨v609, rfl, ho0, hb⟩
    refine ⟨_, rfl, ?_⟩
    replace HO607 := sR HO607 hb
    have HO610 := Aside0.mk (Kd.R_lower ho0 (below_size (pH HB)))
    replace HB := sH HB hb
    (try clear hb)
    (try clear hb2)
    (try clear hk)
    (try clear hi)
    (try clear ho0)
    refine hK.out _ _ trivial (fun hHeld => ?_)
    clear hK K
    refine nm_ ?_
    exact norm_ (by simp only [putAll, Act.put, List.setIfInBounds_toArray, List.set_cons_zero, List.set_cons_succ]) (hCont (v606, v609) _ ⟨(pR HO607), (pR HO610), (pH HB)⟩)
   ·skip
    refine ca_ Try.func207 #[.slice A0 l0.length c0, .int .i64 a1] ?_
    with_reducible refine (spec_l02Next.calls k _ _ l0 a1 t608 _ ?side1 ?side2 A4.out).mono ?_
    (case side1 => exact pC ((Kd.C_below HR0.out HB.out)))
    (case side2 => exact HC0.out)
    rintro e w6 ⟨v609, rfl, ho0, hb⟩
    refine ⟨_, rfl, ?_⟩
    have HO610 := Aside0.mk (Kd.R_lower ho0 (below_size (pH HB)))
    replace HB := sH HB hb
    (try clear hb)
    (try clear hb2)
    (try clear hk)
    (try clear hi)
    (try clear ho0)
    refine hK.out _ _ trivial (fun hHeld => ?_)
    clear hK K
    refine nm_ ?_
    refine one_ (i := 0) (N := some 8) (mB 6 15) rfl rfl (by kernel_rfl) (by decide) (fun K hK => ?_)
    refine Kd.R_make_step Kd.bool _ 4 (by rfl) (N := 8) rfl 105 _ _ rfl 64 rfl rfl Try.underlying105 (.bool false) 1 info4 rfl (by decide) (by omega) false (ok := fun _ => True) (okp := fun _ => True) rfl (fun _ hk => hk) trivial (by omega) (by omega) (Below.refl _ _) (Nat.le_refl _) ?_
    intro v606 w7 ho8 hb hg_ hnew_
    clear hg_ hnew_
    (first | rw [← Ny605.out] at ho8 | (simp only [Int.reduceToNat] at ho8; rw [← Ny605.out] at ho8))
    replace HO610 := sR HO610 hb
    have HO607 := Aside0.mk (Kd.R_lower ho8 (below_size (pH HB)))
    replace HB := sH HB hb
    clear hb ho8
    refine hK.out _ _ trivial (fun hHeld => ?_)
    clear hK K
    refine nm_ ?_
    exact norm_ (by simp only [putAll, Act.put, List.setIfInBounds_toArray, List.set_cons_zero, List.set_cons_succ]) (hCont (v606, v609) _ ⟨(pR HO607), (pR HO610), (pH HB)⟩)
  rintro ⟨v606, v609⟩ w9 ⟨h0_, h1_, h2_⟩
  have n0_ : Aside0 (Kd.R Kd.bool 4 w9 w.heap.size (fun _ => True) v606 y605) := ⟨h0_⟩
  have n1_ : Aside0 (Kd.R (Kd.int .i64) 2 w9 w.heap.size (fun _ => True) v609 t608) := ⟨h1_⟩
  have n2_ : Aside0 (Below w.heap.size w w9) := ⟨h2_⟩
  clear HB
  clear h0_ h1_ h2_
  have HO607 := n0_
  have HO610 := n1_
  have HB := n2_
  clear n0_ n1_ n2_
  have hHeld := trivial
  refine norm_ (a' := ?_) ?_ ?_
  rotate_left
  ·simp only [putAll, Act.put, List.setIfInBounds_toArray, List.set_cons_zero, List.set_cons_succ]
   rfl
  refine pure_ (i := 4) (N := some 5) (v := ?_) (a' := ?_) (mB 6 31) rfl rfl (by kernel_rfl) (fun _ _ _ h => h) (Or.inl ⟨by rfl, ?_⟩) ?_ ?_
  rotate_left
  ·intro w'
   go_simp
   with_reducible rfl
  rotate_left
  ·simp only [Act.put, List.setIfInBounds_toArray, List.set_cons_zero, List.set_cons_succ, i64_w, i32_w]
   rfl
  refine pure_ (i := 5) (N := some 6) (v := ?_) (a' := ?_) (mB 6 63) rfl rfl (by kernel_rfl) (fun _ _ _ h => h) (Or.inl ⟨by rfl, ?_⟩) ?_ ?_
  rotate_left
  ·intro w'
   go_simp
   with_reducible rfl
  rotate_left
  ·simp only [Act.put, List.setIfInBounds_toArray, List.set_cons_zero, List.set_cons_succ, i64_w, i32_w]
   rfl
  refine done_ (by kernel_rfl) ?_
  try go_wp2
  go_loopg [6] k (fun kq v6 w' => ∃ (x5_1 : List Bool) (x6_1 : List Int), Aside0 (spec_l02Reached.l0 kq l0 x5_1 x6_1 = some r) ∧ Aside0 (kq ≤ k) ∧ Aside0 (Kd.R Kd.bool 4 w' w.heap.size (fun _ => True) v606 x5_1) ∧ Aside0 (Kd.R (Kd.int .i64) 2 w' w.heap.size (fun _ => True) v6 x6_1) ∧ Aside0 (Below w.heap.size w w'))
  case atStart => exact ⟨(y605), (t608), H', ⟨Nat.le_refl _⟩, ⟨by (with_reducible repeat (first | apply Kd.R_alloc | apply Kd.R_drewN | apply Kd.R_drew)); exact HO607.out⟩, ⟨by (with_reducible repeat (first | apply Kd.R_alloc | apply Kd.R_drewN | apply Kd.R_drew)); exact HO610.out⟩, ⟨pH HB⟩⟩
  case round =>
   clear H'
   try clear c1
   try clear c2
   try clear p2
   try clear c3
   try clear c3b0
   try clear c3b1
   obtain ⟨x5_1, x6_1, HA, HK1, HO_5, HO_6, HB⟩ := hrel
   cases gk with
   | zero => exact absurd HA.out (by simp [spec_l02Reached.l0])
   | succ k1 =>
    have H := HA.out
    clear HA
    simp only [spec_l02Reached.l0] at H
    by_cases c10 : (x6_1.length : Int) > 0
    ·rw [if_pos c10] at H
     have c10b0 : decide (0 < (x6_1.length : Int)) = true := decide_eq_true c10
     have c10b1 : decide (0 < x6_1.length) = true := decide_eq_true (by omega)
     clear c10
     obtain ⟨ji11, hji11⟩ : ∃ j_ : Int, (wrap64 ((x6_1.length : Int) - 1)) = j_ := ⟨_, rfl⟩
     replace H : (if 0 ≤ (ji11) then (if (ji11) < (x6_1.length : Int) then (if (ji11) ≤ (x6_1.length : Int) then ((some (x6_1.take ((ji11) : Int).toNat : List Int)).bind fun y612 => (if 0 ≤ (rd x6_1 (ji11)) then (if (rd x6_1 (ji11)) < (x5_1.length : Int) then (if rdOf false x5_1 (rd x6_1 (ji11)) = true then (spec_l02Reached.l0 k1 l0 x5_1 y612) else ((spec_l02Next.f k1 l0 (rd x6_1 (ji11))).bind fun t617 => (if y612.length + t617.length < 17592186044416 then (spec_l02Reached.l0 k1 l0 (x5_1.set ((rd x6_1 (ji11)) : Int).toNat true) (y612 ++ t617)) else (none)))) else (none)) else (none))) else (none)) else (none)) else (none)) = some r := by first | (rw [hji11] at H; exact H) | (simp only [hji11] at H ⊢; exact H)
     have hji11w : (IntKind.i64.wrap ((x6_1.length : Int) - 1)) = ji11 := (i64_w _).trans hji11
     by_cases c12 : 0 ≤ (ji11)
     ·rw [if_pos c12] at H
      have c12b0 : decide (0 ≤ (ji11)) = true := decide_eq_true c12
      clear c12
      by_cases c13 : (ji11) < (x6_1.length : Int)
      ·rw [if_pos c13] at H
       have c13b0 : decide ((ji11) < (x6_1.length : Int)) = true := decide_eq_true c13
       clear c13
       by_cases c14 : (ji11) ≤ (x6_1.length : Int)
       ·rw [if_pos c14] at H
        have c14b0 := eq_true c14
        have c14b1 : decide ((ji11) ≤ (x6_1.length : Int)) = true := decide_eq_true c14
        clear c14
        obtain ⟨y612, hy612⟩ : ∃ y_ : List Int, y_ = (x6_1.take ((ji11) : Int).toNat) := ⟨_, rfl⟩
        replace H : (if 0 ≤ (rd x6_1 (ji11)) then (if (rd x6_1 (ji11)) < (x5_1.length : Int) then (if rdOf false x5_1 (rd x6_1 (ji11)) = true then (spec_l02Reached.l0 k1 l0 x5_1 y612) else ((spec_l02Next.f k1 l0 (rd x6_1 (ji11))).bind fun t617 => (if y612.length + t617.length < 17592186044416 then (spec_l02Reached.l0 k1 l0 (x5_1.set ((rd x6_1 (ji11)) : Int).toNat true) (y612 ++ t617)) else (none)))) else (none)) else (none)) = some r := by first | (rw [hy612]; with_reducible exact H) | (have H2_ := (Option.bind_some _ _).symm.trans H; rw [hy612]; with_reducible exact H2_) | (have H2_ := (Option.bind_some _ _).symm.trans H; with_reducible exact H2_) | with_reducible exact H | (rw [hy612]; exact H) | exact H
        have Ny612 := Aside0.mk hy612
        clear hy612
        by_cases c15 : 0 ≤ (rd x6_1 (ji11))
        ·rw [if_pos c15] at H
         have c15b0 : decide (0 ≤ (rd x6_1 (ji11))) = true := decide_eq_true c15
         clear c15
         by_cases c16 : (rd x6_1 (ji11)) < (x5_1.length : Int)
         ·rw [if_pos c16] at H
          have c16b0 : decide ((rd x6_1 (ji11)) < (x5_1.length : Int)) = true := decide_eq_true c16
          clear c16
          obtain ⟨bq17, hbq17⟩ : ∃ b_ : Bool, b_ = (rdOf false x5_1 (rd x6_1 (ji11))) := ⟨_, rfl⟩
          replace H : (if bq17 = true then (spec_l02Reached.l0 k1 l0 x5_1 y612) else ((spec_l02Next.f k1 l0 (rd x6_1 (ji11))).bind fun t617 => (if y612.length + t617.length < 17592186044416 then (spec_l02Reached.l0 k1 l0 (x5_1.set ((rd x6_1 (ji11)) : Int).toNat true) (y612 ++ t617)) else (none)))) = some r := by rw [← hbq17] at H; exact H
          have Nbq17 := Aside0.mk hbq17
          clear hbq17
          by_cases c18 : bq17 = true
          ·subst c18
           have H1 : (spec_l02Reached.l0 k1 l0 x5_1 y612) = some r := by rw [if_pos rfl] at H; exact H
           clear H
           have H := H1
           clear H1
           have H' := Aside0.mk H
           clear H
           obtain ⟨Ao19, co19, eo19⟩ := Kd.R_slice HO_6.out
           subst eo19
           have p611 : 0 ≤ ((ji11) : Int) := of_decide_eq_true (by first | (with_reducible assumption) | assumption)
           have q611 : (ji11) < (x6_1.length : Int) := of_decide_eq_true (by first | (with_reducible assumption) | assumption)
           obtain ⟨ad611, e611, hx611_0⟩ := Kd.at_int (Kd.R_reads' HO_6.out).2.2 (ji11) p611 q611
           cases e611
           replace p611 := eq_true p611
           replace q611 := eq_true q611
           have q20 : ((ji11) : Int) ≤ ((x6_1.length : Int) : Int) := of_decide_eq_true (by first | (with_reducible assumption) | assumption)
           obtain ⟨i020, hi020, _, hsz20, _⟩ := info_parts info2
           have hcut20 := cut_to (P := Try.prog) 22 2 .i64 Try.underlying22 hi020 (some ad611) x6_1.length co19 (ji11) (of_decide_eq_true (by first | (with_reducible assumption) | assumption)) q20 (Kd.R_reads' HO_6.out).2.1
           have hr20 := Kd.R_take (m := ((ji11) : Int).toNat) HO_6.out (by omega)
           have hy20 : y612.length = ((ji11) : Int).toNat := (by rw [Ny612.out, List.length_take]; omega)
           rw [← Ny612.out] at hr20
           rw [← hy20] at hr20 hcut20
           clear hy20 hi020 hsz20 HO_6
           have HO614 := Aside0.mk hr20
           clear hr20
           replace q20 := eq_true q20
           obtain ⟨Ao21, co21, eo21⟩ := Kd.R_slice HO_5.out
           subst eo21
           have p615 : 0 ≤ ((rd x6_1 (ji11)) : Int) := of_decide_eq_true (by first | (with_reducible assumption) | assumption)
           have q615 : (rd x6_1 (ji11)) < (x5_1.length : Int) := of_decide_eq_true (by first | (with_reducible assumption) | assumption)
           obtain ⟨ad615, e615, hx615_0⟩ := Kd.at_bool (Kd.R_reads' HO_5.out).2.2 (rd x6_1 (ji11)) p615 q615
           (try rw [← Nbq17.out] at hx615_0)
           cases e615
           replace p615 := eq_true p615
           replace q615 := eq_true q615
           go_wp2
           go_roundg k1
           case measure => have := HK1.out; omega
           case rel => exact ⟨(x5_1), (y612), H', ⟨by have := HK1.out; omega⟩, ⟨by (with_reducible repeat (first | apply Kd.R_alloc | apply Kd.R_drewN | apply Kd.R_drew)); exact HO_5.out⟩, ⟨by (with_reducible repeat (first | apply Kd.R_alloc | apply Kd.R_drewN | apply Kd.R_drew)); exact HO614.out⟩, ⟨pH HB⟩⟩
          ·replace c18 := Bool.eq_false_iff.mpr c18
           subst c18
           have H1 : ((spec_l02Next.f k1 l0 (rd x6_1 (ji11))).bind fun t617 => (if y612.length + t617.length < 17592186044416 then (spec_l02Reached.l0 k1 l0 (x5_1.set ((rd x6_1 (ji11)) : Int).toNat true) (y612 ++ t617)) else (none))) = some r := by rw [if_neg (show ¬ (false = true) by decide)] at H; exact H
           clear H
           have H := H1
           clear H1
           obtain ⟨y616, hy616⟩ : ∃ y_ : List Bool, y_ = (x5_1.set ((rd x6_1 (ji11)) : Int).toNat true) := ⟨_, rfl⟩
           replace H : ((spec_l02Next.f k1 l0 (rd x6_1 (ji11))).bind fun t617 => (if y612.length + t617.length < 17592186044416 then (spec_l02Reached.l0 k1 l0 y616 (y612 ++ t617)) else (none))) = some r := by first | (rw [hy616]; with_reducible exact H) | (have H2_ := (Option.bind_some _ _).symm.trans H; rw [hy616]; with_reducible exact H2_) | (have H2_ := (Option.bind_some _ _).symm.trans H; with_reducible exact H2_) | with_reducible exact H | (rw [hy616]; exact H) | exact H
           have Ny616 := Aside0.mk hy616
           clear hy616
           replace H := Option.bind_eq_some_iff.mp H
           obtain ⟨t617, A230, H⟩ := H
           try dsimp only at H
           have A23 := Aside0.mk A230
           clear A230
           by_cases c24 : y612.length + t617.length < 17592186044416
           ·rw [if_pos c24] at H
            have LMc24 := Aside0.mk c24
            clear c24
            obtain ⟨y620, hy620⟩ : ∃ y_ : List Int, y_ = (y612 ++ t617) := ⟨_, rfl⟩
            replace H : (spec_l02Reached.l0 k1 l0 y616 y620) = some r := by first | (rw [hy620]; with_reducible exact H) | (have H2_ := (Option.bind_some _ _).symm.trans H; rw [hy620]; with_reducible exact H2_) | (have H2_ := (Option.bind_some _ _).symm.trans H; with_reducible exact H2_) | with_reducible exact H | (rw [hy620]; exact H) | exact H
            have Ny620 := Aside0.mk hy620
            clear hy620
            have H' := Aside0.mk H
            clear H
            obtain ⟨Ao25, co25, eo25⟩ := Kd.R_slice HO_6.out
            subst eo25
            have p611 : 0 ≤ ((ji11) : Int) := of_decide_eq_true (by first | (with_reducible assumption) | assumption)
            have q611 : (ji11) < (x6_1.length : Int) := of_decide_eq_true (by first | (with_reducible assumption) | assumption)
            obtain ⟨ad611, e611, hx611_0⟩ := Kd.at_int (Kd.R_reads' HO_6.out).2.2 (ji11) p611 q611
            cases e611
            replace p611 := eq_true p611
            replace q611 := eq_true q611
            have q26 : ((ji11) : Int) ≤ ((x6_1.length : Int) : Int) := of_decide_eq_true (by first | (with_reducible assumption) | assumption)
            obtain ⟨i026, hi026, _, hsz26, _⟩ := info_parts info2
            have hcut26 := cut_to (P := Try.prog) 22 2 .i64 Try.underlying22 hi026 (some ad611) x6_1.length co25 (ji11) (of_decide_eq_true (by first | (with_reducible assumption) | assumption)) q26 (Kd.R_reads' HO_6.out).2.1
            have hr26 := Kd.R_take (m := ((ji11) : Int).toNat) HO_6.out (by omega)
            have hy26 : y612.length = ((ji11) : Int).toNat := (by rw [Ny612.out, List.length_take]; omega)
            rw [← Ny612.out] at hr26
            rw [← hy26] at hr26 hcut26
            clear hy26 hi026 hsz26 HO_6
            have HO614 := Aside0.mk hr26
            clear hr26
            replace q26 := eq_true q26
            obtain ⟨Ao27, co27, eo27⟩ := Kd.R_slice HO_5.out
            subst eo27
            have p615 : 0 ≤ ((rd x6_1 (ji11)) : Int) := of_decide_eq_true (by first | (with_reducible assumption) | assumption)
            have q615 : (rd x6_1 (ji11)) < (x5_1.length : Int) := of_decide_eq_true (by first | (with_reducible assumption) | assumption)
            obtain ⟨ad615, e615, hx615_0⟩ := Kd.at_bool (Kd.R_reads' HO_5.out).2.2 (rd x6_1 (ji11)) p615 q615
            (try rw [← Nbq17.out] at hx615_0)
            cases e615
            replace p615 := eq_true p615
            replace q615 := eq_true q615
            have p22 : 0 ≤ ((rd x6_1 (ji11)) : Int) := of_decide_eq_true (by first | (with_reducible assumption) | assumption)
            have q22 : ((rd x6_1 (ji11)) : Int) < ((x5_1.length : Int) : Int) := of_decide_eq_true (by first | (with_reducible assumption) | assumption)
            obtain ⟨go22, co22, eo22, gb22, gl22, cl22, HG22⟩ := Kd.R_form HO_5.out (by omega)
            (first | cases eo22 | (injection eo22 with ea_ en_ ec_; (first | subst ea_ | (injection ea_ with ea_; subst ea_)); subst ec_; clear en_))
            have GB22 := Aside0.mk gb22
            have GG22 := Aside0.mk HG22
            clear gb22 gl22 HG22
            (first | simp only [add_plain] at hx615_0 | skip)
            obtain ⟨hx22_0, hf22_0⟩ := Kd.R_celln false HO_5.out ((rd x6_1 (ji11)) : Int) p22 q22
            replace p22 := eq_true p22
            replace q22 := eq_true q22
            have HP28 := Kd.R_putg HO_5.out ((rd x6_1 (ji11)) : Int) true
            go_wp2_with (first | ((with_reducible refine gate_store (t := 4) (p := 32) rfl ?_); refine store_event (t := 4) (p := 32) (v := ?vo_w29) (w1 := (wr.setCell ⟨go22, ((rd x6_1 (ji11)) : Int).toNat, none⟩ (.bool true))) ?hg ?ho ?hn ?hr ?_; (case ho => rfl); (case hg => rfl); (case hn => rfl); (case hr => first | (go_simp; done) | (go_simp; rfl)); intro w29 hw; have hg : wr.grownBy w29 (some go22) := (by rw [hw]; exact HP28.2); have hp_ : Kd.R Kd.bool 4 w29 w.heap.size (fun _ => True) (.slice (some ⟨go22, 0, none⟩) x5_1.length co27) y616 := (by rw [hw, Ny616.out]; exact HP28.1); clear HP28; have n0_ := Aside0.mk (hp_); have n1_ := Aside0.mk (Kd.R_over' (v := (.slice (some ⟨go22, 0, none⟩) x5_1.length co27)) (pR HO614) (Kd.R_typed HO_5.out) (by decide) hg); have n2_ := Aside0.mk ((by rw [hw]; exact below_set (HB.out) GB22.out : Below w.heap.size w w29)); clear HO_5; clear HO614; clear HB; have HO_5 := n0_; have HO614 := n1_; have HB := n2_; clear n0_ n1_ n2_; clear hg hw hp_) | ((with_reducible refine gate_callee (f := 207) rfl ?_); refine cl_ (some 36) Try.func207 #[.slice A0 l0.length c0, .int .i64 (rd x6_1 (ji11))] (hargs := by (try simp only [List.map_toArray, List.map_cons, List.map_nil]); first | done | (simp only [hji11]; rfl) | rfl | (simp only [List.length_drop, List.length_take]; rfl)) ?_; (with_reducible refine (spec_l02Next.calls k1 _ _ l0 (rd x6_1 (ji11)) t617 _ ?side1 ?side2 A23.out).mono ?_); (case side1 => exact pC ((Kd.C_below HR0.out HB.out))); (case side2 => exact HC0.out); rintro e w30 ⟨v618, rfl, ho0, hb⟩; refine ⟨_, rfl, ?_⟩; replace HO_5 := sR HO_5 hb; have HO619 := Aside0.mk (Kd.R_lower (Kd.R_new' ho0 (Kd.R_lt (pR HO614))) (below_size (pH HB))); replace HO614 := Aside0.mk (Kd.R_elder' (pR HO614) (Kd.R_base ho0) hb); replace HB := sH HB hb; (try clear hb); (try clear hi); (try clear ho0); obtain ⟨Ao32, co32, eo32⟩ := Kd.R_slice HO619.out; subst eo32) | ((with_reducible refine gate_builtin (b := .append) (xs := #[.tmp 33, .tmp 36]) rfl ?_); at_builtin; refine Kd.R_append_rows (Kd.int .i64) (w0 := w) w.heap.size rfl (.tmp 33) (.tmp 36) 22 2 (.int .i64 0) 8 rfl Try.underlying22 info2 rfl (by decide) (by omega) (.slice (some ad611) y612.length co25) y612 t617 _ _ _ (fun k_ => some k_ ≠ (.slice Ao32 t617.length co32 : Value).ownBlock) (fun _ => False) rfl rfl ?aO ?aR (fun _ _ h => h) (fun _ h => h.elim) ?aF ?aB ?aS ?aL ?_; (case aR => exact pC ((Kd.R_reads' HO619.out).2.2)); (case aB => exact (pH HB)); (case aF => exact (fun k_ hk => Kd.fresh' (Kd.R_lt (pR HO619)) k_ hk)); (case aO => exact (by (with_reducible repeat (first | apply Kd.R_alloc | apply Kd.R_drewN | apply Kd.R_drew)); exact Kd.R_mono HO614.out (fun _ hk => hk.2))); (case aS => exact (below_size (pH HB))); (case aL => have := LMc24.out; omega); intro v621 w31 ho hb hg hat; rw [← Ny620.out] at ho; replace HO_5 := Aside0.mk (Kd.R_over' (pR HO_5) (Kd.R_typed (pR HO614)) (by decide) hg); replace HO619 := Aside0.mk (Kd.R_after (ok := (fun _ => True)) (pR HO619) hg hat); replace HB := Aside0.mk (hb); have HO622 := Aside0.mk (ho); clear HO614; clear ho hb hg hat))
            go_roundg k1
            case measure => have := HK1.out; omega
            case rel => exact ⟨(y616), (y620), H', ⟨by have := HK1.out; omega⟩, ⟨by (with_reducible repeat (first | apply Kd.R_alloc | apply Kd.R_drewN | apply Kd.R_drew)); exact HO_5.out⟩, ⟨by (with_reducible repeat (first | apply Kd.R_alloc | apply Kd.R_drewN | apply Kd.R_drew)); exact Kd.R_mono HO622.out (fun _ hk => trivial)⟩, ⟨pH HB⟩⟩
           ·rw [if_neg c24] at H
            exact absurd H (by simp)
         ·rw [if_neg c16] at H
          exact absurd H (by simp)
        ·rw [if_neg c15] at H
         exact absurd H (by simp)
       ·rw [if_neg c14] at H
        exact absurd H (by simp)
      ·rw [if_neg c13] at H
       exact absurd H (by simp)
     ·rw [if_neg c12] at H
      exact absurd H (by simp)
    ·rw [if_neg c10] at H
     have c10b0 : decide (0 < (x6_1.length : Int)) = false := decide_eq_false c10
     have c10b1 : decide (0 < x6_1.length) = false := decide_eq_false (by omega)
     clear c10
     obtain rfl := Option.some.inj H
     obtain ⟨Ao33, co33, eo33⟩ := Kd.R_slice HO_6.out
     subst eo33
     go_wp2
     go_ret
     exact ⟨_, by first | rfl | (simp [errW_none, errW_some] <;> rfl) | (simp [*, errW_none, errW_some] <;> rfl), by (with_reducible repeat (first | apply Kd.R_alloc | apply Kd.R_drewN | apply Kd.R_drew)); exact HO_5.out, pH HB⟩
 ·rw [if_neg c3] at H
  exact absurd H (by simp)
end Go.Proofs.Ytnmhnkpijjmhjaa.QS
namespace Go.Proofs.Ytnmhnkpijjmhjaa.QS
open Go.Proofs.Ytnmhnkpijjmhjaa.Cw Go.Proofs.Ytnmhnkpijjmhjaa.Kp Go.Proofs.Ytnmhnkpijjmhjaa.Ext Go.RowKit Go.Proofs.YtnmhnkpijjmhjaaW.PrintWords Go.Proofs.YtnmhnkpijjmhjaaW.PrintLast Go.Proofs.YtnmhnkpijjmhjaaW.PrintMore
attribute [local go_sem] max2_int min2_int max_two min_two max_three min_three max_four min_four   -- for this text's walks alone
set_option linter.unusedVariables false
set_option linter.unusedSimpArgs false
def spec_l02Acyclic.l0 : Nat → List (S76) → Int → Option (Bool)
 | 0, _, _ => none
 | k + 1, x0, x3 => if x3 < (x0.length : Int) then (if 0 ≤ x3 then ((spec_l02Reached.f k x0 ((rd_T76 x0 x3).f0)).bind fun t624 => (if 0 ≤ ((rd_T76 x0 x3).f0) then (if ((rd_T76 x0 x3).f0) < (t624.length : Int) then (if rdOf false t624 ((rd_T76 x0 x3).f0) = true then (some false) else (spec_l02Acyclic.l0 k x0 (wrap64 (x3 + 1)))) else (none)) else (none))) else (none)) else (some true)
def spec_l02Acyclic.f (k : Nat) (l0 : List (S76)) : Option (Bool) := spec_l02Acyclic.l0 k l0 0
def spec_l02Acyclic.T4 : Bool × List (List Nat × List Nat) := (true, [([], []), ([], []), ([], []), ([1, 2], [1, 2]), ([3], [3]), ([4], [4]), ([0, 5], [0, 5]), ([], []), ([], []), ([7, 8], [7, 8]), ([9], [9]), ([10], [10]), ([6, 11], [6, 11]), ([12], [12])])
def spec_l02Acyclic.B4 : List Nat := [0, 0, 0, 6, 14, 30, 63, 0, 0, 384, 896, 1920, 4095, 8191]
theorem spec_l02Acyclic.tab4 : rtab .any (opsOf Try.f119 4) = spec_l02Acyclic.T4 := by kernel_rfl
theorem spec_l02Acyclic.bits4 : waitsOk spec_l02Acyclic.T4.2 spec_l02Acyclic.B4 = true := by kernel_rfl
set_option maxHeartbeats 8000000 in
set_option maxRecDepth 100000 in
theorem spec_l02Acyclic.calls (k : Nat) (A0 : Option Addr) (c0 : Nat) (l0 : List (S76)) (r : Bool) (w : World) (hr0 : Kd.C k76 w A0 l0.length l0) (hc0 : l0.length ≤ c0) (h : spec_l02Acyclic.f k l0 = some r) :
  Calls Try.prog 119 #[.slice A0 l0.length c0] w fun e w' => e = .returned (.bool r) ∧ Below w.heap.size w w' := by
 have HR0 := Aside0.mk hr0
 have HC0 := Aside0.mk hc0
 clear hr0 hc0
 have HB := Aside0.mk (Below.refl w.heap.size w)
 have H : (spec_l02Acyclic.l0 k l0 0) = some r := h
 clear h
 have H' := Aside0.mk H
 clear H
 go_enter Try.func119, Try.ntmps119
 go_wp2
 go_loopg [3] k (fun kq v3 w' => ∃ (x3_1 : Int), v3 = .int .i64 x3_1 ∧ Aside0 (spec_l02Acyclic.l0 kq l0 x3_1 = some r) ∧ Aside0 (kq ≤ k) ∧ Aside0 (Below w.heap.size w w'))
 case atStart => exact ⟨(0), (by first | rfl | (simp; done) | (simp [*]; done)), H', ⟨Nat.le_refl _⟩, ⟨pH HB⟩⟩
 case round =>
  clear H'
  try clear c1
  obtain ⟨x3_1, rfl, HA, HK1, HB⟩ := hrel
  cases gk with
  | zero => exact absurd HA.out (by simp [spec_l02Acyclic.l0])
  | succ k1 =>
   have H := HA.out
   clear HA
   simp only [spec_l02Acyclic.l0] at H
   by_cases c2 : x3_1 < (l0.length : Int)
   ·rw [if_pos c2] at H
    have c2b0 : decide (x3_1 < (l0.length : Int)) = true := decide_eq_true c2
    clear c2
    by_cases c3 : 0 ≤ x3_1
    ·rw [if_pos c3] at H
     have c3b0 : decide (0 ≤ x3_1) = true := decide_eq_true c3
     clear c3
     replace H := Option.bind_eq_some_iff.mp H
     obtain ⟨t624, A40, H⟩ := H
     try dsimp only at H
     have A4 := Aside0.mk A40
     clear A40
     by_cases c5 : 0 ≤ ((rd_T76 l0 x3_1).f0)
     ·rw [if_pos c5] at H
      have c5b0 : decide (0 ≤ ((rd_T76 l0 x3_1).f0)) = true := decide_eq_true c5
      clear c5
      by_cases c6 : ((rd_T76 l0 x3_1).f0) < (t624.length : Int)
      ·rw [if_pos c6] at H
       have c6b0 : decide (((rd_T76 l0 x3_1).f0) < (t624.length : Int)) = true := decide_eq_true c6
       clear c6
       obtain ⟨bq7, hbq7⟩ : ∃ b_ : Bool, b_ = (rdOf false t624 ((rd_T76 l0 x3_1).f0)) := ⟨_, rfl⟩
       replace H : (if bq7 = true then (some false) else (spec_l02Acyclic.l0 k1 l0 (wrap64 (x3_1 + 1)))) = some r := by rw [← hbq7] at H; exact H
       have Nbq7 := Aside0.mk hbq7
       clear hbq7
       by_cases c8 : bq7 = true
       ·subst c8
        have H1 : (some false) = some r := by rw [if_pos rfl] at H; exact H
        clear H
        have H := H1
        clear H1
        obtain rfl := Option.some.inj H
        try go_wp2
        replace HB := dH HB
        have p623 : 0 ≤ (x3_1 : Int) := of_decide_eq_true (by first | (with_reducible assumption) | assumption)
        have q623 : x3_1 < (l0.length : Int) := of_decide_eq_true (by first | (with_reducible assumption) | assumption)
        obtain ⟨ad623, e623, hx623_0, hx623_1⟩ := at_T76 HR0.out x3_1 p623 q623
        have hw623_1 := hx623_1
        have hw623_0 := hx623_0
        cases e623
        replace hx623_0 := cH HB hx623_0
        replace hx623_1 := cH HB hx623_1
        replace p623 := eq_true p623
        replace q623 := eq_true q623
        have p627 : 0 ≤ (x3_1 : Int) := of_decide_eq_true (by first | (with_reducible assumption) | assumption)
        have q627 : x3_1 < (l0.length : Int) := of_decide_eq_true (by first | (with_reducible assumption) | assumption)
        obtain ⟨ad627, e627, hx627_0, hx627_1⟩ := at_T76 HR0.out x3_1 p627 q627
        have hw627_1 := hx627_1
        have hw627_0 := hx627_0
        obtain rfl : ad623 = ad627 := (by injection e627)
        replace hx627_0 := cH HB hx627_0
        replace hx627_1 := cH HB hx627_1
        replace p627 := eq_true p627
        replace q627 := eq_true q627
        refine st_ 14 (S := fun w' => w'.cell? (ad623.add ((x3_1).toNat * 2)) = some (.int .i64 ((rd_T76 l0 x3_1).f0)) ∧ w'.cell? ⟨(ad623.add ((x3_1).toNat * 2)).block, (ad623.add ((x3_1).toNat * 2)).off + 1, none⟩ = some (.int .i64 ((rd_T76 l0 x3_1).f1)) ∧ w'.cell? (ad623.add ((x3_1).toNat * 2)) = some (.int .i64 ((rd_T76 l0 x3_1).f0)) ∧ w'.cell? ⟨(ad623.add ((x3_1).toNat * 2)).block, (ad623.add ((x3_1).toNat * 2)).off + 1, none⟩ = some (.int .i64 ((rd_T76 l0 x3_1).f1))) (ds := []) ⟨(cH HB hw623_0 :), (cH HB hw623_1 :), (cH HB hw627_0 :), (cH HB hw627_1 :)⟩ (fun hHeld => ?_); refine with_tabW spec_l02Acyclic.tab4 spec_l02Acyclic.bits4 (fun HT_ HW_ => ?_)
        generalize wr.drew = w9 at HB hx623_0 hx623_1 hx627_0 hx627_1 hHeld ⊢
        refine pu_ 0 10 1 HT_ ?_
        refine pu_ 1 11 3 HT_ ?_
        refine pu_ 2 12 7 HT_ ?_
        refine pu_ 3 13 15 HT_ ?_
        refine pu_ 4 14 31 HT_ ?_
        refine pu_ 7 17 159 HT_ ?_
        refine pu_ 8 18 415 HT_ ?_
        refine pu_ 9 19 927 HT_ ?_
        refine pu_ 10 20 1951 HT_ ?_
        refine tk_ 5 15 1983 HT_ HW_ hHeld ?_
        refine tk_ 11 21 4031 HT_ HW_ hHeld ?_
        refine on_ 6 (some 16) 4095 HT_ (fun K hK => ?_)
        refine ca_ Try.func175 #[.slice (some ad623) l0.length c0, .int .i64 ((rd_T76 l0 x3_1).f0)] ?_
        with_reducible refine (spec_l02Reached.calls k1 _ _ l0 ((rd_T76 l0 x3_1).f0) t624 _ ?side1 ?side2 A4.out).mono ?_
        (case side1 => exact pC ((Kd.C_below HR0.out HB.out)))
        (case side2 => exact HC0.out)
        rintro e w10 ⟨v625, rfl, ho0, hb⟩
        refine ⟨_, rfl, ?_⟩
        have HO626 := Aside0.mk (Kd.R_lower ho0 (below_size (pH HB)))
        replace HB := sH HB hb
        (try clear hb)
        (try clear hb2)
        (try clear hk)
        (try clear hi)
        (try clear ho0)
        obtain ⟨Ao11, co11, eo11⟩ := Kd.R_slice HO626.out
        (first | subst eo11 | (injection eo11 with f1_ f2_ f3_; have f4_ := f1_.symm; have f5_ := f3_.symm; clear f1_ f2_ f3_; subst f4_; subst f5_))
        have p628 : 0 ≤ (((rd_T76 l0 x3_1).f0) : Int) := of_decide_eq_true (by first | (with_reducible assumption) | assumption)
        have q628 : ((rd_T76 l0 x3_1).f0) < (t624.length : Int) := of_decide_eq_true (by first | (with_reducible assumption) | assumption)
        obtain ⟨ad628, e628, hx628_0⟩ := Kd.at_bool (Kd.R_reads' HO626.out).2.2 ((rd_T76 l0 x3_1).f0) p628 q628
        (try rw [← Nbq7.out] at hx628_0)
        cases e628
        replace p628 := eq_true p628
        replace q628 := eq_true q628
        refine hK.out _ _ ⟨(cH HB hw623_0 :), (cH HB hw623_1 :), (cH HB hw627_0 :), (cH HB hw627_1 :)⟩ (fun hHeld => ?_)
        clear hK K
        refine nm_ ?_
        refine pu_ 12 22 8191 HT_ ?_
        refine on_ 13 (some 23) 16383 HT_ (fun K hK => ?_)
        refine value_ (by rfl) rfl (v := .bool true) (w1 := _) (by go_simp; first | done | rfl) ?_
        refine hK.out _ _ hHeld (fun hHeld => ?_)
        clear hK K
        refine nm_ ?_
        refine dn_ HT_ ?_
        try go_wp2
        go_ret
        exact ⟨by first | rfl | (simp [errW_none, errW_some] <;> rfl) | (simp [*, errW_none, errW_some] <;> rfl), pH HB⟩
       ·replace c8 := Bool.eq_false_iff.mpr c8
        subst c8
        have H1 : (spec_l02Acyclic.l0 k1 l0 (wrap64 (x3_1 + 1))) = some r := by rw [if_neg (show ¬ (false = true) by decide)] at H; exact H
        clear H
        have H := H1
        clear H1
        have H' := Aside0.mk H
        clear H
        try go_wp2
        replace HB := dH HB
        have p623 : 0 ≤ (x3_1 : Int) := of_decide_eq_true (by first | (with_reducible assumption) | assumption)
        have q623 : x3_1 < (l0.length : Int) := of_decide_eq_true (by first | (with_reducible assumption) | assumption)
        obtain ⟨ad623, e623, hx623_0, hx623_1⟩ := at_T76 HR0.out x3_1 p623 q623
        have hw623_1 := hx623_1
        have hw623_0 := hx623_0
        cases e623
        replace hx623_0 := cH HB hx623_0
        replace hx623_1 := cH HB hx623_1
        replace p623 := eq_true p623
        replace q623 := eq_true q623
        have p627 : 0 ≤ (x3_1 : Int) := of_decide_eq_true (by first | (with_reducible assumption) | assumption)
        have q627 : x3_1 < (l0.length : Int) := of_decide_eq_true (by first | (with_reducible assumption) | assumption)
        obtain ⟨ad627, e627, hx627_0, hx627_1⟩ := at_T76 HR0.out x3_1 p627 q627
        have hw627_1 := hx627_1
        have hw627_0 := hx627_0
        obtain rfl : ad623 = ad627 := (by injection e627)
        replace hx627_0 := cH HB hx627_0
        replace hx627_1 := cH HB hx627_1
        replace p627 := eq_true p627
        replace q627 := eq_true q627
        refine st_ 14 (S := fun w' => w'.cell? (ad623.add ((x3_1).toNat * 2)) = some (.int .i64 ((rd_T76 l0 x3_1).f0)) ∧ w'.cell? ⟨(ad623.add ((x3_1).toNat * 2)).block, (ad623.add ((x3_1).toNat * 2)).off + 1, none⟩ = some (.int .i64 ((rd_T76 l0 x3_1).f1)) ∧ w'.cell? (ad623.add ((x3_1).toNat * 2)) = some (.int .i64 ((rd_T76 l0 x3_1).f0)) ∧ w'.cell? ⟨(ad623.add ((x3_1).toNat * 2)).block, (ad623.add ((x3_1).toNat * 2)).off + 1, none⟩ = some (.int .i64 ((rd_T76 l0 x3_1).f1))) (ds := []) ⟨(cH HB hw623_0 :), (cH HB hw623_1 :), (cH HB hw627_0 :), (cH HB hw627_1 :)⟩ (fun hHeld => ?_); refine with_tabW spec_l02Acyclic.tab4 spec_l02Acyclic.bits4 (fun HT_ HW_ => ?_)
        generalize wr.drew = w12 at HB hx623_0 hx623_1 hx627_0 hx627_1 hHeld ⊢
        refine pu_ 0 10 1 HT_ ?_
        refine pu_ 1 11 3 HT_ ?_
        refine pu_ 2 12 7 HT_ ?_
        refine pu_ 3 13 15 HT_ ?_
        refine pu_ 4 14 31 HT_ ?_
        refine pu_ 7 17 159 HT_ ?_
        refine pu_ 8 18 415 HT_ ?_
        refine pu_ 9 19 927 HT_ ?_
        refine pu_ 10 20 1951 HT_ ?_
        refine tk_ 5 15 1983 HT_ HW_ hHeld ?_
        refine tk_ 11 21 4031 HT_ HW_ hHeld ?_
        refine on_ 6 (some 16) 4095 HT_ (fun K hK => ?_)
        refine ca_ Try.func175 #[.slice (some ad623) l0.length c0, .int .i64 ((rd_T76 l0 x3_1).f0)] ?_
        with_reducible refine (spec_l02Reached.calls k1 _ _ l0 ((rd_T76 l0 x3_1).f0) t624 _ ?side1 ?side2 A4.out).mono ?_
        (case side1 => exact pC ((Kd.C_below HR0.out HB.out)))
        (case side2 => exact HC0.out)
        rintro e w13 ⟨v625, rfl, ho0, hb⟩
        refine ⟨_, rfl, ?_⟩
        have HO626 := Aside0.mk (Kd.R_lower ho0 (below_size (pH HB)))
        replace HB := sH HB hb
        (try clear hb)
        (try clear hb2)
        (try clear hk)
        (try clear hi)
        (try clear ho0)
        obtain ⟨Ao14, co14, eo14⟩ := Kd.R_slice HO626.out
        (first | subst eo14 | (injection eo14 with f1_ f2_ f3_; have f4_ := f1_.symm; have f5_ := f3_.symm; clear f1_ f2_ f3_; subst f4_; subst f5_))
        have p628 : 0 ≤ (((rd_T76 l0 x3_1).f0) : Int) := of_decide_eq_true (by first | (with_reducible assumption) | assumption)
        have q628 : ((rd_T76 l0 x3_1).f0) < (t624.length : Int) := of_decide_eq_true (by first | (with_reducible assumption) | assumption)
        obtain ⟨ad628, e628, hx628_0⟩ := Kd.at_bool (Kd.R_reads' HO626.out).2.2 ((rd_T76 l0 x3_1).f0) p628 q628
        (try rw [← Nbq7.out] at hx628_0)
        cases e628
        replace p628 := eq_true p628
        replace q628 := eq_true q628
        refine hK.out _ _ ⟨(cH HB hw623_0 :), (cH HB hw623_1 :), (cH HB hw627_0 :), (cH HB hw627_1 :)⟩ (fun hHeld => ?_)
        clear hK K
        refine nm_ ?_
        refine pu_ 12 22 8191 HT_ ?_
        refine on_ 13 (some 23) 16383 HT_ (fun K hK => ?_)
        refine value_ (by rfl) rfl (v := .bool false) (w1 := _) (by go_simp; first | done | rfl) ?_
        refine hK.out _ _ hHeld (fun hHeld => ?_)
        clear hK K
        refine nm_ ?_
        refine dn_ HT_ ?_
        try go_wp2
        go_roundg k1
        case measure => have := HK1.out; omega
        case rel => exact ⟨(wrap64 (x3_1 + 1)), (by first | rfl | (simp; done) | (simp [*]; done)), H', ⟨by have := HK1.out; omega⟩, ⟨pH HB⟩⟩
      ·rw [if_neg c6] at H
       exact absurd H (by simp)
     ·rw [if_neg c5] at H
      exact absurd H (by simp)
    ·rw [if_neg c3] at H
     exact absurd H (by simp)
   ·rw [if_neg c2] at H
    have c2b0 : decide (x3_1 < (l0.length : Int)) = false := decide_eq_false c2
    clear c2
    obtain rfl := Option.some.inj H
    go_wp2
    go_ret
    exact ⟨by first | rfl | (simp [errW_none, errW_some] <;> rfl) | (simp [*, errW_none, errW_some] <;> rfl), pH HB⟩
end Go.Proofs.Ytnmhnkpijjmhjaa.QS
namespace Go.Proofs.Ytnmhnkpijjmhjaa.QS
open Go.Proofs.Ytnmhnkpijjmhjaa.Cw Go.Proofs.Ytnmhnkpijjmhjaa.Kp Go.Proofs.Ytnmhnkpijjmhjaa.Ext Go.RowKit Go.Proofs.YtnmhnkpijjmhjaaW.PrintWords Go.Proofs.YtnmhnkpijjmhjaaW.PrintLast Go.Proofs.YtnmhnkpijjmhjaaW.PrintMore
attribute [local go_sem] max2_int min2_int max_two min_two max_three min_three max_four min_four   -- for this text's walks alone
set_option linter.unusedVariables false
set_option linter.unusedSimpArgs false
def spec_l01Has.l0 : Nat → Int → Int → Int → List Int → Option (Bool)
 | 0, _, _, _, _ => none
 | k + 1, x1, x5, x143000, x143001 => if x5 < (x143001.length : Int) then (if 0 ≤ x5 then (if (rd x143001 x5) = x1 then (some true) else (spec_l01Has.l0 k x1 (wrap64 (x5 + 1)) x143000 x143001)) else (none)) else (some false)
def spec_l01Has.f (k : Nat) (a0_0 : Int) (l0_1 : List Int) (a1 : Int) : Option (Bool) := spec_l01Has.l0 k a1 0 a0_0 l0_1
set_option maxHeartbeats 8000000 in
set_option maxRecDepth 100000 in
theorem spec_l01Has.calls (k : Nat) (a0_0 : Int) (A0_1 : Option Addr) (c0_1 : Nat) (l0_1 : List Int) (a1 : Int) (r : Bool) (w : World) (hr0_1 : Kd.C (Kd.int .i64) w A0_1 l0_1.length l0_1) (hc0_1 : l0_1.length ≤ c0_1) (h : spec_l01Has.f k a0_0 l0_1 a1 = some r) :
  Calls Try.prog 64 #[.agg #[.int .i64 a0_0, .slice A0_1 l0_1.length c0_1], .int .i64 a1] w fun e w' => e = .returned (.bool r) ∧ Below w.heap.size w w' := by
 have hu26 := Try.underlying26
 have HR0_1 := Aside0.mk hr0_1
 have HC0_1 := Aside0.mk hc0_1
 clear hr0_1 hc0_1
 have HB := Aside0.mk (Below.refl w.heap.size w)
 have H : (spec_l01Has.l0 k a1 0 a0_0 l0_1) = some r := h
 clear h
 have H' := Aside0.mk H
 clear H
 go_enter Try.func64, Try.ntmps64
 go_wp2_with (first | ((with_reducible refine gate_dst (N := 2) rfl ?_); refine box_event ?hg (N := 2) ?hd (cs := #[.int .i64 a0_0, .slice A0_1 l0_1.length c0_1]) (t := 26) ?hr ?_; (case hd => rfl); (case hg => rfl); (case hr => first | (go_simp; done) | (go_simp; rfl)); intro gb142 hg w3 hbox hb; have BK142 := Aside0.mk (hbox); have GW142 := gH HB hg; have GE142 := gH HB hg; replace HB := sH HB hb; clear hb hbox hg))
 go_loopg [5] k (fun kq v5 w' => ∃ (x5_1 : Int), v5 = .int .i64 x5_1 ∧ Aside0 (spec_l01Has.l0 kq a1 x5_1 a0_0 l0_1 = some r) ∧ Aside0 (kq ≤ k) ∧ Aside0 (w'.heap[gb142]? = some (.cells #[.int .i64 a0_0, (.slice A0_1 l0_1.length c0_1)] 26 (0, 0))) ∧ Aside0 (Below w.heap.size w w'))
 case atStart => exact ⟨(0), (by first | rfl | (simp; done) | (simp [*]; done)), H', ⟨Nat.le_refl _⟩, ⟨pB BK142⟩, ⟨pH HB⟩⟩
 case round =>
  clear H'
  try clear p2
  obtain ⟨x5_1, rfl, HA, HK1, BK142, HB⟩ := hrel
  cases gk with
  | zero => exact absurd HA.out (by simp [spec_l01Has.l0])
  | succ k1 =>
   have H := HA.out
   clear HA
   simp only [spec_l01Has.l0] at H
   by_cases c4 : x5_1 < (l0_1.length : Int)
   ·rw [if_pos c4] at H
    have c4b0 : decide (x5_1 < (l0_1.length : Int)) = true := decide_eq_true c4
    clear c4
    by_cases c5 : 0 ≤ x5_1
    ·rw [if_pos c5] at H
     have c5b0 : decide (0 ≤ x5_1) = true := decide_eq_true c5
     clear c5
     by_cases c6 : (rd l0_1 x5_1) = a1
     ·rw [if_pos c6] at H
      have c6b0 : ((rd l0_1 x5_1) == a1) = true := beq_iff_eq.mpr c6
      have c6b1 : ((rd l0_1 x5_1) != a1) = false := bne_eq_false_iff_eq.mpr c6
      clear c6
      obtain rfl := Option.some.inj H
      have hcz7_0 : wr.cell? ⟨gb142, 0, none⟩ = some (.int .i64 a0_0) := cB BK142 0
      have hcz7_1 : wr.cell? ⟨gb142, 1, none⟩ = some (.slice A0_1 l0_1.length c0_1) := cB BK142 1
      have hfz7_0 := zB BK142 0
      have hfz7_1 := zB BK142 1
      have p143 : 0 ≤ (x5_1 : Int) := of_decide_eq_true (by first | (with_reducible assumption) | assumption)
      have q143 : x5_1 < (l0_1.length : Int) := of_decide_eq_true (by first | (with_reducible assumption) | assumption)
      obtain ⟨ad143, e143, hx143_0⟩ := Kd.at_int HR0_1.out x5_1 p143 q143
      cases e143
      replace hx143_0 := cH HB hx143_0
      replace p143 := eq_true p143
      replace q143 := eq_true q143
      go_wp2
      go_ret
      exact ⟨by first | rfl | (simp [errW_none, errW_some] <;> rfl) | (simp [*, errW_none, errW_some] <;> rfl), pH HB⟩
     ·rw [if_neg c6] at H
      have c6b0 : ((rd l0_1 x5_1) == a1) = false := beq_eq_false_iff_ne.mpr c6
      have c6b1 : ((rd l0_1 x5_1) != a1) = true := bne_iff_ne.mpr c6
      have H' := Aside0.mk H
      clear H
      have hcz8_0 : wr.cell? ⟨gb142, 0, none⟩ = some (.int .i64 a0_0) := cB BK142 0
      have hcz8_1 : wr.cell? ⟨gb142, 1, none⟩ = some (.slice A0_1 l0_1.length c0_1) := cB BK142 1
      have hfz8_0 := zB BK142 0
      have hfz8_1 := zB BK142 1
      have p143 : 0 ≤ (x5_1 : Int) := of_decide_eq_true (by first | (with_reducible assumption) | assumption)
      have q143 : x5_1 < (l0_1.length : Int) := of_decide_eq_true (by first | (with_reducible assumption) | assumption)
      obtain ⟨ad143, e143, hx143_0⟩ := Kd.at_int HR0_1.out x5_1 p143 q143
      cases e143
      replace hx143_0 := cH HB hx143_0
      replace p143 := eq_true p143
      replace q143 := eq_true q143
      go_wp2
      go_roundg k1
      case measure => have := HK1.out; omega
      case rel => exact ⟨(wrap64 (x5_1 + 1)), (by first | rfl | (simp; done) | (simp [*]; done)), H', ⟨by have := HK1.out; omega⟩, ⟨pB BK142⟩, ⟨pH HB⟩⟩
    ·rw [if_neg c5] at H
     exact absurd H (by simp)
   ·rw [if_neg c4] at H
    have c4b0 : decide (x5_1 < (l0_1.length : Int)) = false := decide_eq_false c4
    clear c4
    obtain rfl := Option.some.inj H
    have hcz9_0 : wr.cell? ⟨gb142, 0, none⟩ = some (.int .i64 a0_0) := cB BK142 0
    have hcz9_1 : wr.cell? ⟨gb142, 1, none⟩ = some (.slice A0_1 l0_1.length c0_1) := cB BK142 1
    have hfz9_0 := zB BK142 0
    have hfz9_1 := zB BK142 1
    go_wp2
    go_ret
    exact ⟨by first | rfl | (simp [errW_none, errW_some] <;> rfl) | (simp [*, errW_none, errW_some] <;> rfl), pH HB⟩
end Go.Proofs.Ytnmhnkpijjmhjaa.QS
namespace Go.Proofs.Ytnmhnkpijjmhjaa.QS
open Go.Proofs.Ytnmhnkpijjmhjaa.Cw Go.Proofs.Ytnmhnkpijjmhjaa.Kp Go.Proofs.Ytnmhnkpijjmhjaa.Ext Go.RowKit Go.Proofs.YtnmhnkpijjmhjaaW.PrintWords Go.Proofs.YtnmhnkpijjmhjaaW.PrintLast Go.Proofs.YtnmhnkpijjmhjaaW.PrintMore
attribute [local go_sem] max2_int min2_int max_two min_two max_three min_three max_four min_four   -- for this text's walks alone
set_option linter.unusedVariables false
set_option linter.unusedSimpArgs false
def spec_l01All.f (a0 : Int) : Option (Int) := if 0 ≤ (IntKind.u64.wrap (a0)) then (some (wrap64 ((shl .i64 1 (IntKind.u64.wrap (a0))) - 1))) else (none)
set_option maxHeartbeats 8000000 in
set_option maxRecDepth 100000 in
theorem spec_l01All.calls (a0 : Int) (r : Int) (w : World) (h : spec_l01All.f a0 = some r) :
  Calls Try.prog 82 #[.int .i64 a0] w fun e w' => e = .returned (.int .i64 r) ∧ Drawn0 w w' := by
 have H : (if 0 ≤ (IntKind.u64.wrap (a0)) then (some (wrap64 ((shl .i64 1 (IntKind.u64.wrap (a0))) - 1))) else (none)) = some r := h
 clear h
 obtain ⟨ji2, hji2⟩ : ∃ j_ : Int, (IntKind.u64.wrap (a0)) = j_ := ⟨_, rfl⟩
 replace H : (if 0 ≤ (ji2) then (some (wrap64 ((shl .i64 1 (ji2)) - 1))) else (none)) = some r := by first | (rw [hji2] at H; exact H) | (simp only [hji2] at H ⊢; exact H)
 by_cases c3 : 0 ≤ (ji2)
 ·rw [if_pos c3] at H
  have c3b0 := eq_true c3
  have c3b1 : decide (0 ≤ (ji2)) = true := decide_eq_true c3
  clear c3
  obtain ⟨ji4, hji4⟩ : ∃ j_ : Int, (shl .i64 1 (ji2)) = j_ := ⟨_, rfl⟩
  replace H : (some (wrap64 ((ji4) - 1))) = some r := by first | (rw [hji4] at H; exact H) | (simp only [hji4] at H ⊢; exact H)
  have hji4_ : (IntKind.i64.wrap (1 * 2 ^ min (ji2).toNat 64)) = ji4 := hji4
  have hji4z : (ji2) ≤ 64 → (IntKind.i64.wrap (1 * 2 ^ (ji2).toNat)) = ji4 := shl_small hji4
  have hji4u : (IntKind.i64.wrap (2 ^ min (ji2).toNat 64)) = ji4 := by have h_ := hji4_; rw [Int.one_mul] at h_; exact h_
  have hji4v : (ji2) ≤ 64 → (IntKind.i64.wrap (2 ^ (ji2).toNat)) = ji4 := fun hle_ => by have h_ := hji4z hle_; rw [Int.one_mul] at h_; exact h_
  have hji4y : (wrap64 (1 * 2 ^ min (ji2).toNat 64)) = ji4 := (i64_w _).symm.trans hji4_
  have hji4x : (ji2) ≤ 64 → (wrap64 (1 * 2 ^ (ji2).toNat)) = ji4 := fun h_ => (i64_w _).symm.trans (hji4z h_)
  obtain rfl := Option.some.inj H
  go_enter Try.func82, Try.ntmps82
  go_wp2
  go_ret
  exact ⟨by first | rfl | (simp; done) | (simp only [← hji2, ← hji4] <;> (first | rfl | simp)) | (simp [*]; done), by repeat (first | exact Drawn0.refl _ | apply Drawn0.step)⟩
 ·rw [if_neg c3] at H
  exact absurd H (by simp)
end Go.Proofs.Ytnmhnkpijjmhjaa.QS
namespace Go.Proofs.Ytnmhnkpijjmhjaa.QS
open Go.Proofs.Ytnmhnkpijjmhjaa.Cw Go.Proofs.Ytnmhnkpijjmhjaa.Kp Go.Proofs.Ytnmhnkpijjmhjaa.Ext Go.RowKit Go.Proofs.YtnmhnkpijjmhjaaW.PrintWords Go.Proofs.YtnmhnkpijjmhjaaW.PrintLast Go.Proofs.YtnmhnkpijjmhjaaW.PrintMore
attribute [local go_sem] max2_int min2_int max_two min_two max_three min_three max_four min_four   -- for this text's walks alone
set_option linter.unusedVariables false
set_option linter.unusedSimpArgs false
def spec_l01In.f (a0 : Int) (a1 : Int) (a2 : Int) : Option (Bool) := if a0 ≥ a1 then (some (decide (a0 ≤ a2))) else (some false)
set_option maxHeartbeats 8000000 in
set_option maxRecDepth 100000 in
theorem spec_l01In.calls (a0 : Int) (a1 : Int) (a2 : Int) (r : Bool) (w : World) (h : spec_l01In.f a0 a1 a2 = some r) :
  Calls Try.prog 106 #[.int .i64 a0, .int .i64 a1, .int .i64 a2] w fun e w' => e = .returned (.bool r) ∧ Drawn0 w w' := by
 have H : (if a0 ≥ a1 then (some (decide (a0 ≤ a2))) else (some false)) = some r := h
 clear h
 by_cases c4 : a0 ≥ a1
 ·rw [if_pos c4] at H
  have c4b0 : decide (a1 ≤ a0) = true := decide_eq_true c4
  clear c4
  obtain rfl := Option.some.inj H
  go_enter Try.func106, Try.ntmps106
  go_wp2
  go_ret
  exact ⟨by first | rfl | (simp; done) | (simp [*]; done), by repeat (first | exact Drawn0.refl _ | apply Drawn0.step)⟩
 ·rw [if_neg c4] at H
  have c4b0 : decide (a1 ≤ a0) = false := decide_eq_false c4
  clear c4
  obtain rfl := Option.some.inj H
  go_enter Try.func106, Try.ntmps106
  go_wp2
  go_ret
  exact ⟨by first | rfl | (simp; done) | (simp [*]; done), by repeat (first | exact Drawn0.refl _ | apply Drawn0.step)⟩
end Go.Proofs.Ytnmhnkpijjmhjaa.QS
namespace Go.Proofs.Ytnmhnkpijjmhjaa.QS
open Go.Proofs.Ytnmhnkpijjmhjaa.Cw Go.Proofs.Ytnmhnkpijjmhjaa.Kp Go.Proofs.Ytnmhnkpijjmhjaa.Ext Go.RowKit Go.Proofs.YtnmhnkpijjmhjaaW.PrintWords Go.Proofs.YtnmhnkpijjmhjaaW.PrintLast Go.Proofs.YtnmhnkpijjmhjaaW.PrintMore
attribute [local go_sem] max2_int min2_int max_two min_two max_three min_three max_four min_four   -- for this text's walks alone
set_option linter.unusedVariables false
set_option linter.unusedSimpArgs false
mutual
def spec_l01Is.l0 : Nat → Int → Int → List Int → Option (Bool)
 | 0, _, _, _ => none
 | k + 1, x3, x151000, x151001 => if x3 < (x151001.length : Int) then (if 0 ≤ x3 then ((spec_l01All.f x151000).bind fun t153 => ((spec_l01In.f (rd x151001 x3) 1 t153).bind fun t154 => (if t154 = true then (if x3 > 0 then (if 0 ≤ (wrap64 (x3 - 1)) then (if (wrap64 (x3 - 1)) < (x151001.length : Int) then (if (rd x151001 x3) ≤ (rd x151001 (wrap64 (x3 - 1))) then (some false) else (spec_l01Is.l0 k (wrap64 (x3 + 1)) x151000 x151001)) else (none)) else (none)) else (spec_l01Is.l0 k (wrap64 (x3 + 1)) x151000 x151001)) else (some false)))) else (none)) else (spec_l01Is.l1 k 0 x151000 x151001)
def spec_l01Is.l1 : Nat → Int → Int → List Int → Option (Bool)
 | 0, _, _, _ => none
 | k + 1, x4, x151000, x151001 => if x4 < (x151001.length : Int) then (if 0 ≤ x4 then ((spec_l01Below.f k (rd x151001 x4)).bind fun t158 => (spec_l01Is.l2 k x4 t158 0 x151000 x151001)) else (none)) else (some true)
def spec_l01Is.l2 : Nat → Int → List Int → Int → Int → List Int → Option (Bool)
 | 0, _, _, _, _, _ => none
 | k + 1, x4, x5, x6, x151000, x151001 => if x6 < (x5.length : Int) then (if 0 ≤ x6 then ((spec_l01Has.f k x151000 x151001 (rd x5 x6)).bind fun t162 => (if t162 = true then (spec_l01Is.l2 k x4 x5 (wrap64 (x6 + 1)) x151000 x151001) else (some false))) else (none)) else (spec_l01Is.l1 k (wrap64 (x4 + 1)) x151000 x151001)
end
def spec_l01Is.f (k : Nat) (a0_0 : Int) (l0_1 : List Int) : Option (Bool) := (spec_l01In.f a0_0 1 6).bind fun t151 => (if t151 = true then (spec_l01Is.l0 k 0 a0_0 l0_1) else (some false))
def spec_l01Is.T6 : Bool × List (List Nat × List Nat) := (true, [([], []), ([0], [0]), ([], []), ([1, 2], [1, 2]), ([3], [3]), ([], []), ([5], [5]), ([6], [6]), ([4, 7, 7], [4, 7]), ([8], [8]), ([9, 8], [9]), ([10], [10]), ([11, 10], [10, 11]), ([12, 10, 10], [10, 12]), ([13], [13]), ([14, 13], [13, 14]), ([13], [13]), ([15, 16, 13], [13, 15, 16]), ([17, 13], [13, 17]), ([13], [13]), ([19, 13], [13, 19]), ([13], [13]), ([21, 13], [13, 21]), ([20, 22, 13], [13, 20, 22]), ([23, 13], [13, 23]), ([18, 24, 13], [13, 18, 24]), ([13, 25, 10], [10, 13, 25]), ([10, 26], [10, 26])])
def spec_l01Is.B6 : List Nat := [0, 1, 0, 7, 15, 0, 32, 96, 255, 511, 1023, 2047, 4095, 8191, 16383, 32767, 16383, 131071, 262143, 16383, 540671, 16383, 2113535, 7880703, 16269311, 33554431, 67108863, 134217727]
theorem spec_l01Is.tab6 : rtab .any (opsOf Try.f57 6) = spec_l01Is.T6 := by kernel_rfl
theorem spec_l01Is.bits6 : waitsOk spec_l01Is.T6.2 spec_l01Is.B6 = true := by kernel_rfl
set_option maxHeartbeats 8000000 in
set_option maxRecDepth 100000 in
theorem spec_l01Is.calls (k : Nat) (a0_0 : Int) (A0_1 : Option Addr) (c0_1 : Nat) (l0_1 : List Int) (r : Bool) (w : World) (hr0_1 : Kd.C (Kd.int .i64) w A0_1 l0_1.length l0_1) (hc0_1 : l0_1.length ≤ c0_1) (h : spec_l01Is.f k a0_0 l0_1 = some r) :
  Calls Try.prog 57 #[.agg #[.int .i64 a0_0, .slice A0_1 l0_1.length c0_1]] w fun e w' => e = .returned (.bool r) ∧ Below w.heap.size w w' := by
 have hu26 := Try.underlying26
 have HR0_1 := Aside0.mk hr0_1
 have HC0_1 := Aside0.mk hc0_1
 clear hr0_1 hc0_1
 have HB := Aside0.mk (Below.refl w.heap.size w)
 have H : ((spec_l01In.f a0_0 1 6).bind fun t151 => (if t151 = true then (spec_l01Is.l0 k 0 a0_0 l0_1) else (some false))) = some r := h
 clear h
 replace H := Option.bind_eq_some_iff.mp H
 obtain ⟨t151, A20, H⟩ := H
 try dsimp only at H
 have A2 := Aside0.mk A20
 clear A20
 by_cases c3 : t151 = true
 ·subst c3
  have H1 : (spec_l01Is.l0 k 0 a0_0 l0_1) = some r := by rw [if_pos rfl] at H; exact H
  clear H
  have H := H1
  clear H1
  have H' := Aside0.mk H
  clear H
  go_enter Try.func57, Try.ntmps57
  go_wp2_with (first | ((with_reducible refine gate_dst (N := 1) rfl ?_); refine box_event ?hg (N := 1) ?hd (cs := #[.int .i64 a0_0, .slice A0_1 l0_1.length c0_1]) (t := 26) ?hr ?_; (case hd => rfl); (case hg => rfl); (case hr => first | (go_simp; done) | (go_simp; rfl)); intro gb150 hg w4 hbox hb; have BK150 := Aside0.mk (hbox); have GW150 := gH HB hg; have GE150 := gH HB hg; replace HB := sH HB hb; clear hb hbox hg; have hcz5_0 : w4.cell? ⟨gb150, 0, none⟩ = some (.int .i64 a0_0) := cB BK150 0; have hcz5_1 : w4.cell? ⟨gb150, 1, none⟩ = some (.slice A0_1 l0_1.length c0_1) := cB BK150 1; have hfz5_0 := zB BK150 0; have hfz5_1 := zB BK150 1) | ((with_reducible refine gate_callee (f := 106) rfl ?_); refine cl_ (some 9) Try.func106 #[.int .i64 a0_0, .int .i64 1, .int .i64 6] ?_; (with_reducible refine (spec_l01In.calls a0_0 1 6 true _ A2.out).mono ?_); rintro e w' ⟨rfl, ⟨nd, rfl⟩⟩; refine ⟨_, rfl, ?_⟩))
  go_loopg [3] k (fun kq v3 w' => ∃ (x3_1 : Int), v3 = .int .i64 x3_1 ∧ Aside0 (spec_l01Is.l0 kq x3_1 a0_0 l0_1 = some r) ∧ Aside0 (kq ≤ k) ∧ Aside0 (w'.heap[gb150]? = some (.cells #[.int .i64 a0_0, (.slice A0_1 l0_1.length c0_1)] 26 (0, 0))) ∧ Aside0 (Below w.heap.size w w'))
  case atStart => exact ⟨(0), (by first | rfl | (simp; done) | (simp [*]; done)), H', ⟨Nat.le_refl _⟩, ⟨pB BK150⟩, ⟨pH HB⟩⟩
  case round =>
   clear H'
   try clear c1
   try clear p2
   try clear c3
   try clear c5
   try clear hcz5_0
   try clear hcz5_1
   try clear hfz5_0
   try clear hfz5_1
   obtain ⟨x3_1, rfl, HA, HK1, BK150, HB⟩ := hrel
   cases gk with
   | zero => exact absurd HA.out (by simp [spec_l01Is.l0])
   | succ k1 =>
    have H := HA.out
    clear HA
    simp only [spec_l01Is.l0] at H
    by_cases c6 : x3_1 < (l0_1.length : Int)
    ·rw [if_pos c6] at H
     have c6b0 : decide (x3_1 < (l0_1.length : Int)) = true := decide_eq_true c6
     clear c6
     by_cases c7 : 0 ≤ x3_1
     ·rw [if_pos c7] at H
      have c7b0 : decide (0 ≤ x3_1) = true := decide_eq_true c7
      clear c7
      replace H := Option.bind_eq_some_iff.mp H
      obtain ⟨t153, A80, H⟩ := H
      try dsimp only at H
      have A8 := Aside0.mk A80
      clear A80
      replace H := Option.bind_eq_some_iff.mp H
      obtain ⟨t154, A90, H⟩ := H
      try dsimp only at H
      have A9 := Aside0.mk A90
      clear A90
      by_cases c10 : t154 = true
      ·subst c10
       have H1 : (if x3_1 > 0 then (if 0 ≤ (wrap64 (x3_1 - 1)) then (if (wrap64 (x3_1 - 1)) < (l0_1.length : Int) then (if (rd l0_1 x3_1) ≤ (rd l0_1 (wrap64 (x3_1 - 1))) then (some false) else (spec_l01Is.l0 k1 (wrap64 (x3_1 + 1)) a0_0 l0_1)) else (none)) else (none)) else (spec_l01Is.l0 k1 (wrap64 (x3_1 + 1)) a0_0 l0_1)) = some r := by rw [if_pos rfl] at H; exact H
       clear H
       have H := H1
       clear H1
       by_cases c11 : x3_1 > 0
       ·rw [if_pos c11] at H
        have c11b0 : decide (0 < x3_1) = true := decide_eq_true c11
        clear c11
        obtain ⟨ji12, hji12⟩ : ∃ j_ : Int, (wrap64 (x3_1 - 1)) = j_ := ⟨_, rfl⟩
        replace H : (if 0 ≤ (ji12) then (if (ji12) < (l0_1.length : Int) then (if (rd l0_1 x3_1) ≤ (rd l0_1 (ji12)) then (some false) else (spec_l01Is.l0 k1 (wrap64 (x3_1 + 1)) a0_0 l0_1)) else (none)) else (none)) = some r := by first | (rw [hji12] at H; exact H) | (simp only [hji12] at H ⊢; exact H)
        (try rw [hji12] at A8)
        (try rw [hji12] at A9)
        have hji12w : (IntKind.i64.wrap (x3_1 - 1)) = ji12 := (i64_w _).trans hji12
        by_cases c13 : 0 ≤ (ji12)
        ·rw [if_pos c13] at H
         have c13b0 : decide (0 ≤ (ji12)) = true := decide_eq_true c13
         clear c13
         by_cases c14 : (ji12) < (l0_1.length : Int)
         ·rw [if_pos c14] at H
          have c14b0 : decide ((ji12) < (l0_1.length : Int)) = true := decide_eq_true c14
          clear c14
          by_cases c15 : (rd l0_1 x3_1) ≤ (rd l0_1 (ji12))
          ·rw [if_pos c15] at H
           have c15b0 : decide ((rd l0_1 x3_1) ≤ (rd l0_1 (ji12))) = true := decide_eq_true c15
           clear c15
           obtain rfl := Option.some.inj H
           have hcz16_0 : wr.cell? ⟨gb150, 0, none⟩ = some (.int .i64 a0_0) := cB BK150 0
           have hcz16_1 : wr.cell? ⟨gb150, 1, none⟩ = some (.slice A0_1 l0_1.length c0_1) := cB BK150 1
           have hfz16_0 := zB BK150 0
           have hfz16_1 := zB BK150 1
           try go_wp2
           replace BK150 := dB BK150
           replace HB := dH HB
           have p152 : 0 ≤ (x3_1 : Int) := of_decide_eq_true (by first | (with_reducible assumption) | assumption)
           have q152 : x3_1 < (l0_1.length : Int) := of_decide_eq_true (by first | (with_reducible assumption) | assumption)
           obtain ⟨ad152, e152, hx152_0⟩ := Kd.at_int HR0_1.out x3_1 p152 q152
           have hw152_0 := hx152_0
           cases e152
           replace hx152_0 := cH HB hx152_0
           replace p152 := eq_true p152
           replace q152 := eq_true q152
           have p155 : 0 ≤ (x3_1 : Int) := of_decide_eq_true (by first | (with_reducible assumption) | assumption)
           have q155 : x3_1 < (l0_1.length : Int) := of_decide_eq_true (by first | (with_reducible assumption) | assumption)
           obtain ⟨ad155, e155, hx155_0⟩ := Kd.at_int HR0_1.out x3_1 p155 q155
           have hw155_0 := hx155_0
           obtain rfl : ad152 = ad155 := (by injection e155)
           replace hx155_0 := cH HB hx155_0
           replace p155 := eq_true p155
           replace q155 := eq_true q155
           have p156 : 0 ≤ ((ji12) : Int) := of_decide_eq_true (by first | (with_reducible assumption) | assumption)
           have q156 : (ji12) < (l0_1.length : Int) := of_decide_eq_true (by first | (with_reducible assumption) | assumption)
           obtain ⟨ad156, e156, hx156_0⟩ := Kd.at_int HR0_1.out (ji12) p156 q156
           have hw156_0 := hx156_0
           obtain rfl : ad152 = ad156 := (by injection e156)
           replace hx156_0 := cH HB hx156_0
           replace p156 := eq_true p156
           replace q156 := eq_true q156
           refine st_ 28 (S := fun w' => w'.cell? ⟨gb150, 0, none⟩ = some (.int .i64 a0_0) ∧ w'.cell? ⟨gb150, 1, none⟩ = some (.slice (some ad152) l0_1.length c0_1) ∧ w'.cell? (ad152.add (x3_1).toNat) = some (.int .i64 (rd l0_1 x3_1)) ∧ w'.cell? (ad152.add (x3_1).toNat) = some (.int .i64 (rd l0_1 x3_1)) ∧ w'.cell? (ad152.add ((ji12)).toNat) = some (.int .i64 (rd l0_1 (ji12)))) (ds := []) ⟨cB BK150 0, cB BK150 1, (cH HB hw152_0 :), (cH HB hw155_0 :), (cH HB hw156_0 :)⟩ (fun hHeld => ?_); refine with_tabW spec_l01Is.tab6 spec_l01Is.bits6 (fun HT_ HW_ => ?_)
           generalize wr.drew = w17 at BK150 HB hx152_0 hx155_0 hx156_0 hHeld ⊢
           refine pu_ 0 18 1 HT_ ?_
           refine pu_ 2 20 5 HT_ ?_
           refine pu_ 5 23 37 HT_ ?_
           refine tk_ 1 19 39 HT_ HW_ hHeld ?_
           refine pu_ 3 21 47 HT_ ?_
           refine tk_ 4 22 63 HT_ HW_ hHeld ?_
           refine tk_ 6 24 127 HT_ HW_ hHeld ?_
           refine on_ 7 (some 25) 255 HT_ (fun K hK => ?_)
           refine ca_ Try.func82 #[.int .i64 a0_0] ?_
           with_reducible refine (spec_l01All.calls a0_0 t153 _ A8.out).mono ?_
           rintro e w' ⟨rfl, ⟨nd, rfl⟩⟩
           refine ⟨_, rfl, ?_⟩
           refine hK.out _ _ ⟨cB BK150 0, cB BK150 1, (cH HB hw152_0 :), (cH HB hw155_0 :), (cH HB hw156_0 :)⟩ (fun hHeld => ?_)
           clear hK K
           refine nm_ ?_
           refine on_ 8 (some 26) 511 HT_ (fun K hK => ?_)
           refine ca_ Try.func106 #[.int .i64 (rd l0_1 x3_1), .int .i64 1, .int .i64 t153] ?_
           with_reducible refine (spec_l01In.calls (rd l0_1 x3_1) 1 t153 true _ A9.out).mono ?_
           rintro e w' ⟨rfl, ⟨nd, rfl⟩⟩
           refine ⟨_, rfl, ?_⟩
           refine hK.out _ _ ⟨cB BK150 0, cB BK150 1, (cH HB hw152_0 :), (cH HB hw155_0 :), (cH HB hw156_0 :)⟩ (fun hHeld => ?_)
           clear hK K
           refine nm_ ?_
           refine pu_ 9 27 1023 HT_ ?_
           refine pu_ 10 28 2047 HT_ ?_
           refine pu_ 11 29 4095 HT_ ?_
           refine pu_ 12 30 8191 HT_ ?_
           refine pu_ 13 31 16383 HT_ ?_
           refine pu_ 14 32 32767 HT_ ?_
           refine pu_ 16 34 98303 HT_ ?_
           refine pu_ 19 37 622591 HT_ ?_
           refine pu_ 21 39 2719743 HT_ ?_
           refine pu_ 22 40 6914047 HT_ ?_
           refine tk_ 15 33 6946815 HT_ HW_ hHeld ?_
           refine pu_ 17 35 7077887 HT_ ?_
           refine tk_ 18 36 7340031 HT_ HW_ hHeld ?_
           refine tk_ 20 38 8388607 HT_ HW_ hHeld ?_
           refine pu_ 23 41 16777215 HT_ ?_
           refine tk_ 24 42 33554431 HT_ HW_ hHeld ?_
           refine pu_ 25 43 67108863 HT_ ?_
           refine pu_ 26 44 134217727 HT_ ?_
           refine pu_ 27 45 268435455 HT_ ?_
           refine dn_ HT_ ?_
           try go_wp2
           go_ret
           exact ⟨by first | rfl | (simp [errW_none, errW_some] <;> rfl) | (simp only [← hji12]; first | rfl | (simp [errW_none, errW_some] <;> rfl)) | (simp [*, errW_none, errW_some] <;> rfl), pH HB⟩
          ·rw [if_neg c15] at H
           have c15b0 : decide ((rd l0_1 x3_1) ≤ (rd l0_1 (ji12))) = false := decide_eq_false c15
           clear c15
           have H' := Aside0.mk H
           clear H
           have hcz18_0 : wr.cell? ⟨gb150, 0, none⟩ = some (.int .i64 a0_0) := cB BK150 0
           have hcz18_1 : wr.cell? ⟨gb150, 1, none⟩ = some (.slice A0_1 l0_1.length c0_1) := cB BK150 1
           have hfz18_0 := zB BK150 0
           have hfz18_1 := zB BK150 1
           try go_wp2
           replace BK150 := dB BK150
           replace HB := dH HB
           have p152 : 0 ≤ (x3_1 : Int) := of_decide_eq_true (by first | (with_reducible assumption) | assumption)
           have q152 : x3_1 < (l0_1.length : Int) := of_decide_eq_true (by first | (with_reducible assumption) | assumption)
           obtain ⟨ad152, e152, hx152_0⟩ := Kd.at_int HR0_1.out x3_1 p152 q152
           have hw152_0 := hx152_0
           cases e152
           replace hx152_0 := cH HB hx152_0
           replace p152 := eq_true p152
           replace q152 := eq_true q152
           have p155 : 0 ≤ (x3_1 : Int) := of_decide_eq_true (by first | (with_reducible assumption) | assumption)
           have q155 : x3_1 < (l0_1.length : Int) := of_decide_eq_true (by first | (with_reducible assumption) | assumption)
           obtain ⟨ad155, e155, hx155_0⟩ := Kd.at_int HR0_1.out x3_1 p155 q155
           have hw155_0 := hx155_0
           obtain rfl : ad152 = ad155 := (by injection e155)
           replace hx155_0 := cH HB hx155_0
           replace p155 := eq_true p155
           replace q155 := eq_true q155
           have p156 : 0 ≤ ((ji12) : Int) := of_decide_eq_true (by first | (with_reducible assumption) | assumption)
           have q156 : (ji12) < (l0_1.length : Int) := of_decide_eq_true (by first | (with_reducible assumption) | assumption)
           obtain ⟨ad156, e156, hx156_0⟩ := Kd.at_int HR0_1.out (ji12) p156 q156
           have hw156_0 := hx156_0
           obtain rfl : ad152 = ad156 := (by injection e156)
           replace hx156_0 := cH HB hx156_0
           replace p156 := eq_true p156
           replace q156 := eq_true q156
           refine st_ 28 (S := fun w' => w'.cell? ⟨gb150, 0, none⟩ = some (.int .i64 a0_0) ∧ w'.cell? ⟨gb150, 1, none⟩ = some (.slice (some ad152) l0_1.length c0_1) ∧ w'.cell? (ad152.add (x3_1).toNat) = some (.int .i64 (rd l0_1 x3_1)) ∧ w'.cell? (ad152.add (x3_1).toNat) = some (.int .i64 (rd l0_1 x3_1)) ∧ w'.cell? (ad152.add ((ji12)).toNat) = some (.int .i64 (rd l0_1 (ji12)))) (ds := []) ⟨cB BK150 0, cB BK150 1, (cH HB hw152_0 :), (cH HB hw155_0 :), (cH HB hw156_0 :)⟩ (fun hHeld => ?_); refine with_tabW spec_l01Is.tab6 spec_l01Is.bits6 (fun HT_ HW_ => ?_)
           generalize wr.drew = w19 at BK150 HB hx152_0 hx155_0 hx156_0 hHeld ⊢
           refine pu_ 0 18 1 HT_ ?_
           refine pu_ 2 20 5 HT_ ?_
           refine pu_ 5 23 37 HT_ ?_
           refine tk_ 1 19 39 HT_ HW_ hHeld ?_
           refine pu_ 3 21 47 HT_ ?_
           refine tk_ 4 22 63 HT_ HW_ hHeld ?_
           refine tk_ 6 24 127 HT_ HW_ hHeld ?_
           refine on_ 7 (some 25) 255 HT_ (fun K hK => ?_)
           refine ca_ Try.func82 #[.int .i64 a0_0] ?_
           with_reducible refine (spec_l01All.calls a0_0 t153 _ A8.out).mono ?_
           rintro e w' ⟨rfl, ⟨nd, rfl⟩⟩
           refine ⟨_, rfl, ?_⟩
           refine hK.out _ _ ⟨cB BK150 0, cB BK150 1, (cH HB hw152_0 :), (cH HB hw155_0 :), (cH HB hw156_0 :)⟩ (fun hHeld => ?_)
           clear hK K
           refine nm_ ?_
           refine on_ 8 (some 26) 511 HT_ (fun K hK => ?_)
           refine ca_ Try.func106 #[.int .i64 (rd l0_1 x3_1), .int .i64 1, .int .i64 t153] ?_
           with_reducible refine (spec_l01In.calls (rd l0_1 x3_1) 1 t153 true _ A9.out).mono ?_
           rintro e w' ⟨rfl, ⟨nd, rfl⟩⟩
           refine ⟨_, rfl, ?_⟩
           refine hK.out _ _ ⟨cB BK150 0, cB BK150 1, (cH HB hw152_0 :), (cH HB hw155_0 :), (cH HB hw156_0 :)⟩ (fun hHeld => ?_)
           clear hK K
           refine nm_ ?_
           refine pu_ 9 27 1023 HT_ ?_
           refine pu_ 10 28 2047 HT_ ?_
           refine pu_ 11 29 4095 HT_ ?_
           refine pu_ 12 30 8191 HT_ ?_
           refine pu_ 13 31 16383 HT_ ?_
           refine pu_ 14 32 32767 HT_ ?_
           refine pu_ 16 34 98303 HT_ ?_
           refine pu_ 19 37 622591 HT_ ?_
           refine pu_ 21 39 2719743 HT_ ?_
           refine pu_ 22 40 6914047 HT_ ?_
           refine tk_ 15 33 6946815 HT_ HW_ hHeld ?_
           refine pu_ 17 35 7077887 HT_ ?_
           refine tk_ 18 36 7340031 HT_ HW_ hHeld ?_
           refine tk_ 20 38 8388607 HT_ HW_ hHeld ?_
           refine pu_ 23 41 16777215 HT_ ?_
           refine tk_ 24 42 33554431 HT_ HW_ hHeld ?_
           refine pu_ 25 43 67108863 HT_ ?_
           refine pu_ 26 44 134217727 HT_ ?_
           refine pu_ 27 45 268435455 HT_ ?_
           refine dn_ HT_ ?_
           try go_wp2
           go_roundg k1
           case measure => have := HK1.out; omega
           case rel => exact ⟨(wrap64 (x3_1 + 1)), (by first | rfl | (simp; done) | (simp [*]; done)), H', ⟨by have := HK1.out; omega⟩, ⟨pB BK150⟩, ⟨pH HB⟩⟩
         ·rw [if_neg c14] at H
          exact absurd H (by simp)
        ·rw [if_neg c13] at H
         exact absurd H (by simp)
       ·rw [if_neg c11] at H
        have c11b0 : decide (0 < x3_1) = false := decide_eq_false c11
        clear c11
        have H' := Aside0.mk H
        clear H
        have hcz20_0 : wr.cell? ⟨gb150, 0, none⟩ = some (.int .i64 a0_0) := cB BK150 0
        have hcz20_1 : wr.cell? ⟨gb150, 1, none⟩ = some (.slice A0_1 l0_1.length c0_1) := cB BK150 1
        have hfz20_0 := zB BK150 0
        have hfz20_1 := zB BK150 1
        try go_wp2
        replace BK150 := dB BK150
        replace HB := dH HB
        have p152 : 0 ≤ (x3_1 : Int) := of_decide_eq_true (by first | (with_reducible assumption) | assumption)
        have q152 : x3_1 < (l0_1.length : Int) := of_decide_eq_true (by first | (with_reducible assumption) | assumption)
        obtain ⟨ad152, e152, hx152_0⟩ := Kd.at_int HR0_1.out x3_1 p152 q152
        have hw152_0 := hx152_0
        cases e152
        replace hx152_0 := cH HB hx152_0
        replace p152 := eq_true p152
        replace q152 := eq_true q152
        refine st_ 28 (S := fun w' => w'.cell? ⟨gb150, 0, none⟩ = some (.int .i64 a0_0) ∧ w'.cell? ⟨gb150, 1, none⟩ = some (.slice (some ad152) l0_1.length c0_1) ∧ w'.cell? (ad152.add (x3_1).toNat) = some (.int .i64 (rd l0_1 x3_1))) (ds := []) ⟨cB BK150 0, cB BK150 1, (cH HB hw152_0 :)⟩ (fun hHeld => ?_); refine with_tabW spec_l01Is.tab6 spec_l01Is.bits6 (fun HT_ HW_ => ?_)
        generalize wr.drew = w21 at BK150 HB hx152_0 hHeld ⊢
        refine pu_ 0 18 1 HT_ ?_
        refine pu_ 2 20 5 HT_ ?_
        refine pu_ 5 23 37 HT_ ?_
        refine tk_ 1 19 39 HT_ HW_ hHeld ?_
        refine pu_ 3 21 47 HT_ ?_
        refine tk_ 4 22 63 HT_ HW_ hHeld ?_
        refine tk_ 6 24 127 HT_ HW_ hHeld ?_
        refine on_ 7 (some 25) 255 HT_ (fun K hK => ?_)
        refine ca_ Try.func82 #[.int .i64 a0_0] ?_
        with_reducible refine (spec_l01All.calls a0_0 t153 _ A8.out).mono ?_
        rintro e w' ⟨rfl, ⟨nd, rfl⟩⟩
        refine ⟨_, rfl, ?_⟩
        refine hK.out _ _ ⟨cB BK150 0, cB BK150 1, (cH HB hw152_0 :)⟩ (fun hHeld => ?_)
        clear hK K
        refine nm_ ?_
        refine on_ 8 (some 26) 511 HT_ (fun K hK => ?_)
        refine ca_ Try.func106 #[.int .i64 (rd l0_1 x3_1), .int .i64 1, .int .i64 t153] ?_
        with_reducible refine (spec_l01In.calls (rd l0_1 x3_1) 1 t153 true _ A9.out).mono ?_
        rintro e w' ⟨rfl, ⟨nd, rfl⟩⟩
        refine ⟨_, rfl, ?_⟩
        refine hK.out _ _ ⟨cB BK150 0, cB BK150 1, (cH HB hw152_0 :)⟩ (fun hHeld => ?_)
        clear hK K
        refine nm_ ?_
        refine pu_ 9 27 1023 HT_ ?_
        refine pu_ 10 28 2047 HT_ ?_
        refine pu_ 11 29 4095 HT_ ?_
        refine pu_ 12 30 8191 HT_ ?_
        refine pu_ 13 31 16383 HT_ ?_
        refine pn_ 14 32 32767 HT_ ?_
        refine pn_ 15 33 65535 HT_ ?_
        refine pn_ 16 34 131071 HT_ ?_
        refine pn_ 17 35 262143 HT_ ?_
        refine pn_ 18 36 524287 HT_ ?_
        refine pn_ 19 37 1048575 HT_ ?_
        refine pn_ 20 38 2097151 HT_ ?_
        refine pn_ 21 39 4194303 HT_ ?_
        refine pn_ 22 40 8388607 HT_ ?_
        refine pn_ 23 41 16777215 HT_ ?_
        refine pn_ 24 42 33554431 HT_ ?_
        refine pn_ 25 43 67108863 HT_ ?_
        refine pu_ 26 44 134217727 HT_ ?_
        refine pu_ 27 45 268435455 HT_ ?_
        refine dn_ HT_ ?_
        try go_wp2
        go_roundg k1
        case measure => have := HK1.out; omega
        case rel => exact ⟨(wrap64 (x3_1 + 1)), (by first | rfl | (simp; done) | (simp [*]; done)), H', ⟨by have := HK1.out; omega⟩, ⟨pB BK150⟩, ⟨pH HB⟩⟩
      ·replace c10 := Bool.eq_false_iff.mpr c10
       subst c10
       have H1 : (some false) = some r := by rw [if_neg (show ¬ (false = true) by decide)] at H; exact H
       clear H
       have H := H1
       clear H1
       obtain rfl := Option.some.inj H
       have hcz22_0 : wr.cell? ⟨gb150, 0, none⟩ = some (.int .i64 a0_0) := cB BK150 0
       have hcz22_1 : wr.cell? ⟨gb150, 1, none⟩ = some (.slice A0_1 l0_1.length c0_1) := cB BK150 1
       have hfz22_0 := zB BK150 0
       have hfz22_1 := zB BK150 1
       try go_wp2
       replace BK150 := dB BK150
       replace HB := dH HB
       have p152 : 0 ≤ (x3_1 : Int) := of_decide_eq_true (by first | (with_reducible assumption) | assumption)
       have q152 : x3_1 < (l0_1.length : Int) := of_decide_eq_true (by first | (with_reducible assumption) | assumption)
       obtain ⟨ad152, e152, hx152_0⟩ := Kd.at_int HR0_1.out x3_1 p152 q152
       have hw152_0 := hx152_0
       cases e152
       replace hx152_0 := cH HB hx152_0
       replace p152 := eq_true p152
       replace q152 := eq_true q152
       refine st_ 28 (S := fun w' => w'.cell? ⟨gb150, 0, none⟩ = some (.int .i64 a0_0) ∧ w'.cell? ⟨gb150, 1, none⟩ = some (.slice (some ad152) l0_1.length c0_1) ∧ w'.cell? (ad152.add (x3_1).toNat) = some (.int .i64 (rd l0_1 x3_1))) (ds := []) ⟨cB BK150 0, cB BK150 1, (cH HB hw152_0 :)⟩ (fun hHeld => ?_); refine with_tabW spec_l01Is.tab6 spec_l01Is.bits6 (fun HT_ HW_ => ?_)
       generalize wr.drew = w23 at BK150 HB hx152_0 hHeld ⊢
       refine pu_ 0 18 1 HT_ ?_
       refine pu_ 2 20 5 HT_ ?_
       refine pu_ 5 23 37 HT_ ?_
       refine tk_ 1 19 39 HT_ HW_ hHeld ?_
       refine pu_ 3 21 47 HT_ ?_
       refine tk_ 4 22 63 HT_ HW_ hHeld ?_
       refine tk_ 6 24 127 HT_ HW_ hHeld ?_
       refine on_ 7 (some 25) 255 HT_ (fun K hK => ?_)
       refine ca_ Try.func82 #[.int .i64 a0_0] ?_
       with_reducible refine (spec_l01All.calls a0_0 t153 _ A8.out).mono ?_
       rintro e w' ⟨rfl, ⟨nd, rfl⟩⟩
       refine ⟨_, rfl, ?_⟩
       refine hK.out _ _ ⟨cB BK150 0, cB BK150 1, (cH HB hw152_0 :)⟩ (fun hHeld => ?_)
       clear hK K
       refine nm_ ?_
       refine on_ 8 (some 26) 511 HT_ (fun K hK => ?_)
       refine ca_ Try.func106 #[.int .i64 (rd l0_1 x3_1), .int .i64 1, .int .i64 t153] ?_
       with_reducible refine (spec_l01In.calls (rd l0_1 x3_1) 1 t153 false _ A9.out).mono ?_
       rintro e w' ⟨rfl, ⟨nd, rfl⟩⟩
       refine ⟨_, rfl, ?_⟩
       refine hK.out _ _ ⟨cB BK150 0, cB BK150 1, (cH HB hw152_0 :)⟩ (fun hHeld => ?_)
       clear hK K
       refine nm_ ?_
       refine pu_ 9 27 1023 HT_ ?_
       refine pu_ 10 28 2047 HT_ ?_
       refine pn_ 11 29 4095 HT_ ?_
       refine pn_ 12 30 8191 HT_ ?_
       refine pn_ 13 31 16383 HT_ ?_
       refine pn_ 14 32 32767 HT_ ?_
       refine pn_ 15 33 65535 HT_ ?_
       refine pn_ 16 34 131071 HT_ ?_
       refine pn_ 17 35 262143 HT_ ?_
       refine pn_ 18 36 524287 HT_ ?_
       refine pn_ 19 37 1048575 HT_ ?_
       refine pn_ 20 38 2097151 HT_ ?_
       refine pn_ 21 39 4194303 HT_ ?_
       refine pn_ 22 40 8388607 HT_ ?_
       refine pn_ 23 41 16777215 HT_ ?_
       refine pn_ 24 42 33554431 HT_ ?_
       refine pn_ 25 43 67108863 HT_ ?_
       refine pn_ 26 44 134217727 HT_ ?_
       refine pu_ 27 45 268435455 HT_ ?_
       refine dn_ HT_ ?_
       try go_wp2
       go_ret
       exact ⟨by first | rfl | (simp [errW_none, errW_some] <;> rfl) | (simp [*, errW_none, errW_some] <;> rfl), pH HB⟩
     ·rw [if_neg c7] at H
      exact absurd H (by simp)
    ·rw [if_neg c6] at H
     have c6b0 : decide (x3_1 < (l0_1.length : Int)) = false := decide_eq_false c6
     clear c6
     have H' := Aside0.mk H
     clear H
     have hcz24_0 : wr.cell? ⟨gb150, 0, none⟩ = some (.int .i64 a0_0) := cB BK150 0
     have hcz24_1 : wr.cell? ⟨gb150, 1, none⟩ = some (.slice A0_1 l0_1.length c0_1) := cB BK150 1
     have hfz24_0 := zB BK150 0
     have hfz24_1 := zB BK150 1
     go_wp2
     go_loopg [4] k1 (fun kq v4 w' => ∃ (x4_2 : Int), v4 = .int .i64 x4_2 ∧ Aside0 (spec_l01Is.l1 kq x4_2 a0_0 l0_1 = some r) ∧ Aside0 (kq ≤ k1) ∧ Aside0 (w'.heap[gb150]? = some (.cells #[.int .i64 a0_0, (.slice A0_1 l0_1.length c0_1)] 26 (0, 0))) ∧ Aside0 (Below w.heap.size w w'))
     case atStart => exact ⟨(0), (by first | rfl | (simp; done) | (simp [*]; done)), H', ⟨Nat.le_refl _⟩, ⟨pB BK150⟩, ⟨pH HB⟩⟩
     case round =>
      clear H'
      try clear c1
      try clear p1
      try clear q1
      try clear hx1
      try clear p2
      try clear c6
      try clear c6b0
      try clear p6
      try clear c7
      try clear c8
      try clear c10
      try clear c11
      try clear c11b0
      try clear c13
      try clear c14
      try clear p15
      try clear q15
      try clear hx15
      try clear hcz20_0
      try clear hcz20_1
      try clear hcz22_0
      try clear hcz22_1
      try clear hcz24_0
      try clear hcz24_1
      try clear hfz20_0
      try clear hfz20_1
      try clear hfz22_0
      try clear hfz22_1
      try clear hfz24_0
      try clear hfz24_1
      try clear hx152_0
      try clear p152
      try clear q152
      obtain ⟨x4_2, rfl, HA, HK2, BK150, HB⟩ := hrel
      cases gk with
      | zero => exact absurd HA.out (by simp [spec_l01Is.l1])
      | succ k2 =>
       have H := HA.out
       clear HA
       simp only [spec_l01Is.l1] at H
       by_cases c25 : x4_2 < (l0_1.length : Int)
       ·rw [if_pos c25] at H
        have c25b0 : decide (x4_2 < (l0_1.length : Int)) = true := decide_eq_true c25
        clear c25
        by_cases c26 : 0 ≤ x4_2
        ·rw [if_pos c26] at H
         have c26b0 : decide (0 ≤ x4_2) = true := decide_eq_true c26
         clear c26
         replace H := Option.bind_eq_some_iff.mp H
         obtain ⟨t158, A270, H⟩ := H
         try dsimp only at H
         have A27 := Aside0.mk A270
         clear A270
         have H' := Aside0.mk H
         clear H
         have hcz28_0 : wr.cell? ⟨gb150, 0, none⟩ = some (.int .i64 a0_0) := cB BK150 0
         have hcz28_1 : wr.cell? ⟨gb150, 1, none⟩ = some (.slice A0_1 l0_1.length c0_1) := cB BK150 1
         have hfz28_0 := zB BK150 0
         have hfz28_1 := zB BK150 1
         have p157 : 0 ≤ (x4_2 : Int) := of_decide_eq_true (by first | (with_reducible assumption) | assumption)
         have q157 : x4_2 < (l0_1.length : Int) := of_decide_eq_true (by first | (with_reducible assumption) | assumption)
         obtain ⟨ad157, e157, hx157_0⟩ := Kd.at_int HR0_1.out x4_2 p157 q157
         cases e157
         replace hx157_0 := cH HB hx157_0
         replace p157 := eq_true p157
         replace q157 := eq_true q157
         go_wp2_with (first | ((with_reducible refine gate_callee (f := 129) rfl ?_); refine cl_ (some 58) Try.func129 #[.int .i64 (rd l0_1 x4_2)] ?_; (with_reducible refine (spec_l01Below.calls k2 (rd l0_1 x4_2) t158 _ A27.out).mono ?_); rintro e w29 ⟨v159, rfl, ho0, hb⟩; refine ⟨_, rfl, ?_⟩; have HO160 := Aside0.mk (Kd.R_lower ho0 (below_size (pH HB))); replace BK150 := sB BK150 hb; replace HB := sH HB hb; (try clear hb); (try clear hi); (try clear ho0)))
         go_loopg [6] k2 (fun kq v6 w' => ∃ (x6_3 : Int), v6 = .int .i64 x6_3 ∧ Aside0 (spec_l01Is.l2 kq x4_2 t158 x6_3 a0_0 l0_1 = some r) ∧ Aside0 (kq ≤ k2) ∧ Aside0 (Kd.R (Kd.int .i64) 2 w' w.heap.size (fun _ => True) v159 t158) ∧ Aside0 (w'.heap[gb150]? = some (.cells #[.int .i64 a0_0, (.slice (some ad157) l0_1.length c0_1)] 26 (0, 0))) ∧ Aside0 (Below w.heap.size w w'))
         case atStart => exact ⟨(0), (by first | rfl | (simp; done) | (simp [*]; done)), H', ⟨Nat.le_refl _⟩, ⟨by (with_reducible repeat (first | apply Kd.R_alloc | apply Kd.R_drewN | apply Kd.R_drew)); exact HO160.out⟩, ⟨pB BK150⟩, ⟨pH HB⟩⟩
         case round =>
          clear H'
          try clear c1
          try clear p1
          try clear q1
          try clear hx1
          try clear c2
          try clear p2
          try clear c6
          try clear c6b0
          try clear p6
          try clear c7
          try clear c8
          try clear c10
          try clear c11
          try clear c11b0
          try clear c12
          try clear c13
          try clear c14
          try clear p15
          try clear q15
          try clear hx15
          try clear c25
          try clear c25b0
          try clear c26
          try clear c26b0
          try clear hcz20_0
          try clear hcz20_1
          try clear hcz22_0
          try clear hcz22_1
          try clear hcz24_0
          try clear hcz24_1
          try clear hcz28_0
          try clear hcz28_1
          try clear hfz20_0
          try clear hfz20_1
          try clear hfz22_0
          try clear hfz22_1
          try clear hfz24_0
          try clear hfz24_1
          try clear hfz28_0
          try clear hfz28_1
          try clear hx152_0
          try clear hx157_0
          try clear p1
          try clear p15
          try clear p152
          try clear p157
          try clear p2
          try clear p6
          try clear q1
          try clear q15
          try clear q152
          try clear q157
          obtain ⟨x6_3, rfl, HA, HK3, HO_5, BK150, HB⟩ := hrel
          cases gk with
          | zero => exact absurd HA.out (by simp [spec_l01Is.l2])
          | succ k3 =>
           have H := HA.out
           clear HA
           simp only [spec_l01Is.l2] at H
           by_cases c30 : x6_3 < (t158.length : Int)
           ·rw [if_pos c30] at H
            have c30b0 : decide (x6_3 < (t158.length : Int)) = true := decide_eq_true c30
            clear c30
            by_cases c31 : 0 ≤ x6_3
            ·rw [if_pos c31] at H
             have c31b0 : decide (0 ≤ x6_3) = true := decide_eq_true c31
             clear c31
             replace H := Option.bind_eq_some_iff.mp H
             obtain ⟨t162, A320, H⟩ := H
             try dsimp only at H
             have A32 := Aside0.mk A320
             clear A320
             by_cases c33 : t162 = true
             ·subst c33
              have H1 : (spec_l01Is.l2 k3 x4_2 t158 (wrap64 (x6_3 + 1)) a0_0 l0_1) = some r := by rw [if_pos rfl] at H; exact H
              clear H
              have H := H1
              clear H1
              have H' := Aside0.mk H
              clear H
              obtain ⟨Ao34, co34, eo34⟩ := Kd.R_slice HO_5.out
              subst eo34
              try go_wp2
              replace HO_5 := Aside0.mk (Kd.R_drew HO_5.out)
              replace BK150 := dB BK150
              replace HB := dH HB
              have p161 : 0 ≤ (x6_3 : Int) := of_decide_eq_true (by first | (with_reducible assumption) | assumption)
              have q161 : x6_3 < (t158.length : Int) := of_decide_eq_true (by first | (with_reducible assumption) | assumption)
              obtain ⟨ad161, e161, hx161_0⟩ := Kd.at_int (Kd.R_reads' HO_5.out).2.2 x6_3 p161 q161
              cases e161
              replace p161 := eq_true p161
              replace q161 := eq_true q161
              refine st_ 7 (S := fun w' => w'.cell? ⟨gb150, 0, none⟩ = some (.int .i64 a0_0) ∧ w'.cell? ⟨gb150, 1, none⟩ = some (.slice (some ad157) l0_1.length c0_1) ∧ w'.cell? (ad161.add (x6_3).toNat) = some (.int .i64 (rd t158 x6_3))) (ds := []) ⟨cB BK150 0, cB BK150 1, hx161_0⟩ (fun hHeld => ?_)
              generalize wr.drew = w35 at HO_5 BK150 HB hx161_0 hHeld ⊢
              refine pure_ (i := 1) (N := some 66) (v := ?_) (a' := ?_) (mB 7 2) rfl rfl (by kernel_rfl) (fun _ _ _ h => h) (Or.inl ⟨by rfl, ?_⟩) ?_ ?_
              rotate_left
              ·intro w'
               go_simp
               with_reducible rfl
              rotate_left
              ·simp only [Act.put, List.setIfInBounds_toArray, List.set_cons_zero, List.set_cons_succ, i64_w, i32_w]
               rfl
              refine pure_ (i := 2) (N := some 67) (v := ?_) (a' := ?_) (mB 7 6) rfl rfl (by kernel_rfl) (fun _ _ _ h => h) (Or.inl ⟨by rfl, ?_⟩) ?_ ?_
              rotate_left
              ·intro w'
               go_simp
               with_reducible rfl
              rotate_left
              ·simp only [Act.put, List.setIfInBounds_toArray, List.set_cons_zero, List.set_cons_succ, i64_w, i32_w]
               rfl
              refine pure_ (i := 3) (N := some 68) (v := ?_) (a' := ?_) (mB 7 14) rfl rfl (by kernel_rfl) (fun _ _ _ h => h) (Or.inl ⟨by rfl, ?_⟩) ?_ ?_
              rotate_left
              ·intro w'
               go_simp
               with_reducible rfl
              rotate_left
              ·simp only [Act.put, List.setIfInBounds_toArray, List.set_cons_zero, List.set_cons_succ, i64_w, i32_w]
               rfl
              refine take_ (i := 0) (N := some 65) (v := ?_) (a' := ?_) (mB 7 15) rfl rfl (by kernel_rfl) (fun _ _ _ h => h) (Or.inl ⟨by rfl, ?_⟩) hHeld ?_ ?_
              rotate_left
              ·rintro w' ⟨s0, s1, s2⟩
               go_simp
               with_reducible rfl
              rotate_left
              ·simp only [Act.put, List.setIfInBounds_toArray, List.set_cons_zero, List.set_cons_succ, i64_w, i32_w]
               rfl
              refine take_ (i := 4) (N := some 69) (v := ?_) (a' := ?_) (mB 7 31) rfl rfl (by kernel_rfl) (fun _ _ _ h => h) (Or.inl ⟨by rfl, ?_⟩) hHeld ?_ ?_
              rotate_left
              ·rintro w' ⟨s0, s1, s2⟩
               go_simp
               with_reducible rfl
              rotate_left
              ·simp only [Act.put, List.setIfInBounds_toArray, List.set_cons_zero, List.set_cons_succ, i64_w, i32_w]
               rfl
              refine one_ (i := 5) (N := some 70) (mB 7 63) rfl rfl (by kernel_rfl) (by decide) (fun K hK => ?_)
              refine ca_ Try.func64 #[.agg #[.int .i64 a0_0, .slice (some ad157) l0_1.length c0_1], .int .i64 (rd t158 x6_3)] ?_
              with_reducible refine (spec_l01Has.calls k3 a0_0 _ _ l0_1 (rd t158 x6_3) true _ ?side1 ?side2 A32.out).mono ?_
              (case side1 => exact pC ((Kd.C_below HR0_1.out HB.out)))
              (case side2 => exact HC0_1.out)
              rintro e w36 ⟨rfl, hb⟩
              have HS2_ := (hb.cell (World.block_lt_of_cell? _ _ (hHeld.2.2))).trans (hHeld.2.2)
              refine ⟨_, rfl, ?_⟩
              replace HO_5 := sR HO_5 hb
              replace BK150 := sB BK150 hb
              replace HB := sH HB hb
              (try clear hb)
              (try clear hb2)
              (try clear hk)
              (try clear hi)
              refine hK.out _ _ ⟨cB BK150 0, cB BK150 1, HS2_⟩ (fun hHeld => ?_)
              clear hK K
              refine nm_ ?_
              refine pure_ (i := 6) (N := some 71) (v := ?_) (a' := ?_) (mB 7 127) rfl rfl (by kernel_rfl) (fun _ _ _ h => h) (Or.inl ⟨by rfl, ?_⟩) ?_ ?_
              rotate_left
              ·intro w'
               go_simp
               with_reducible rfl
              rotate_left
              ·simp only [Act.put, List.setIfInBounds_toArray, List.set_cons_zero, List.set_cons_succ, i64_w, i32_w]
               rfl
              refine done_ (by kernel_rfl) ?_
              try go_wp2
              go_roundg k3
              case measure => have := HK1.out; have := HK2.out; have := HK3.out; omega
              case rel => exact ⟨(wrap64 (x6_3 + 1)), (by first | rfl | (simp; done) | (simp [*]; done)), H', ⟨by have := HK1.out; have := HK2.out; have := HK3.out; omega⟩, ⟨by (with_reducible repeat (first | apply Kd.R_alloc | apply Kd.R_drewN | apply Kd.R_drew)); exact HO_5.out⟩, ⟨pB BK150⟩, ⟨pH HB⟩⟩
             ·replace c33 := Bool.eq_false_iff.mpr c33
              subst c33
              have H1 : (some false) = some r := by rw [if_neg (show ¬ (false = true) by decide)] at H; exact H
              clear H
              have H := H1
              clear H1
              obtain rfl := Option.some.inj H
              obtain ⟨Ao37, co37, eo37⟩ := Kd.R_slice HO_5.out
              subst eo37
              try go_wp2
              replace HO_5 := Aside0.mk (Kd.R_drew HO_5.out)
              replace BK150 := dB BK150
              replace HB := dH HB
              have p161 : 0 ≤ (x6_3 : Int) := of_decide_eq_true (by first | (with_reducible assumption) | assumption)
              have q161 : x6_3 < (t158.length : Int) := of_decide_eq_true (by first | (with_reducible assumption) | assumption)
              obtain ⟨ad161, e161, hx161_0⟩ := Kd.at_int (Kd.R_reads' HO_5.out).2.2 x6_3 p161 q161
              cases e161
              replace p161 := eq_true p161
              replace q161 := eq_true q161
              refine st_ 7 (S := fun w' => w'.cell? ⟨gb150, 0, none⟩ = some (.int .i64 a0_0) ∧ w'.cell? ⟨gb150, 1, none⟩ = some (.slice (some ad157) l0_1.length c0_1) ∧ w'.cell? (ad161.add (x6_3).toNat) = some (.int .i64 (rd t158 x6_3))) (ds := []) ⟨cB BK150 0, cB BK150 1, hx161_0⟩ (fun hHeld => ?_)
              generalize wr.drew = w38 at HO_5 BK150 HB hx161_0 hHeld ⊢
              refine pure_ (i := 1) (N := some 66) (v := ?_) (a' := ?_) (mB 7 2) rfl rfl (by kernel_rfl) (fun _ _ _ h => h) (Or.inl ⟨by rfl, ?_⟩) ?_ ?_
              rotate_left
              ·intro w'
               go_simp
               with_reducible rfl
              rotate_left
              ·simp only [Act.put, List.setIfInBounds_toArray, List.set_cons_zero, List.set_cons_succ, i64_w, i32_w]
               rfl
              refine pure_ (i := 2) (N := some 67) (v := ?_) (a' := ?_) (mB 7 6) rfl rfl (by kernel_rfl) (fun _ _ _ h => h) (Or.inl ⟨by rfl, ?_⟩) ?_ ?_
              rotate_left
              ·intro w'
               go_simp
               with_reducible rfl
              rotate_left
              ·simp only [Act.put, List.setIfInBounds_toArray, List.set_cons_zero, List.set_cons_succ, i64_w, i32_w]
               rfl
              refine pure_ (i := 3) (N := some 68) (v := ?_) (a' := ?_) (mB 7 14) rfl rfl (by kernel_rfl) (fun _ _ _ h => h) (Or.inl ⟨by rfl, ?_⟩) ?_ ?_
              rotate_left
              ·intro w'
               go_simp
               with_reducible rfl
              rotate_left
              ·simp only [Act.put, List.setIfInBounds_toArray, List.set_cons_zero, List.set_cons_succ, i64_w, i32_w]
               rfl
              refine take_ (i := 0) (N := some 65) (v := ?_) (a' := ?_) (mB 7 15) rfl rfl (by kernel_rfl) (fun _ _ _ h => h) (Or.inl ⟨by rfl, ?_⟩) hHeld ?_ ?_
              rotate_left
              ·rintro w' ⟨s0, s1, s2⟩
               go_simp
               with_reducible rfl
              rotate_left
              ·simp only [Act.put, List.setIfInBounds_toArray, List.set_cons_zero, List.set_cons_succ, i64_w, i32_w]
               rfl
              refine take_ (i := 4) (N := some 69) (v := ?_) (a' := ?_) (mB 7 31) rfl rfl (by kernel_rfl) (fun _ _ _ h => h) (Or.inl ⟨by rfl, ?_⟩) hHeld ?_ ?_
              rotate_left
              ·rintro w' ⟨s0, s1, s2⟩
               go_simp
               with_reducible rfl
              rotate_left
              ·simp only [Act.put, List.setIfInBounds_toArray, List.set_cons_zero, List.set_cons_succ, i64_w, i32_w]
               rfl
              refine one_ (i := 5) (N := some 70) (mB 7 63) rfl rfl (by kernel_rfl) (by decide) (fun K hK => ?_)
              refine ca_ Try.func64 #[.agg #[.int .i64 a0_0, .slice (some ad157) l0_1.length c0_1], .int .i64 (rd t158 x6_3)] ?_
              with_reducible refine (spec_l01Has.calls k3 a0_0 _ _ l0_1 (rd t158 x6_3) false _ ?side1 ?side2 A32.out).mono ?_
              (case side1 => exact pC ((Kd.C_below HR0_1.out HB.out)))
              (case side2 => exact HC0_1.out)
              rintro e w39 ⟨rfl, hb⟩
              have HS2_ := (hb.cell (World.block_lt_of_cell? _ _ (hHeld.2.2))).trans (hHeld.2.2)
              refine ⟨_, rfl, ?_⟩
              replace HO_5 := sR HO_5 hb
              replace BK150 := sB BK150 hb
              replace HB := sH HB hb
              (try clear hb)
              (try clear hb2)
              (try clear hk)
              (try clear hi)
              refine hK.out _ _ ⟨cB BK150 0, cB BK150 1, HS2_⟩ (fun hHeld => ?_)
              clear hK K
              refine nm_ ?_
              refine pure_ (i := 6) (N := some 71) (v := ?_) (a' := ?_) (mB 7 127) rfl rfl (by kernel_rfl) (fun _ _ _ h => h) (Or.inl ⟨by rfl, ?_⟩) ?_ ?_
              rotate_left
              ·intro w'
               go_simp
               with_reducible rfl
              rotate_left
              ·simp only [Act.put, List.setIfInBounds_toArray, List.set_cons_zero, List.set_cons_succ, i64_w, i32_w]
               rfl
              refine done_ (by kernel_rfl) ?_
              try go_wp2
              go_ret
              exact ⟨by first | rfl | (simp [errW_none, errW_some] <;> rfl) | (simp [*, errW_none, errW_some] <;> rfl), pH HB⟩
            ·rw [if_neg c31] at H
             exact absurd H (by simp)
           ·rw [if_neg c30] at H
            have c30b0 : decide (x6_3 < (t158.length : Int)) = false := decide_eq_false c30
            clear c30
            have H' := Aside0.mk H
            clear H
            obtain ⟨Ao40, co40, eo40⟩ := Kd.R_slice HO_5.out
            subst eo40
            go_wp2
            go_roundg k3
            case measure => have := HK1.out; have := HK2.out; have := HK3.out; omega
            case rel => exact ⟨(wrap64 (x4_2 + 1)), (by first | rfl | (simp; done) | (simp [*]; done)), H', ⟨by have := HK1.out; have := HK2.out; have := HK3.out; omega⟩, ⟨pB BK150⟩, ⟨pH HB⟩⟩
        ·rw [if_neg c26] at H
         exact absurd H (by simp)
       ·rw [if_neg c25] at H
        have c25b0 : decide (x4_2 < (l0_1.length : Int)) = false := decide_eq_false c25
        clear c25
        obtain rfl := Option.some.inj H
        have hcz41_0 : wr.cell? ⟨gb150, 0, none⟩ = some (.int .i64 a0_0) := cB BK150 0
        have hcz41_1 : wr.cell? ⟨gb150, 1, none⟩ = some (.slice A0_1 l0_1.length c0_1) := cB BK150 1
        have hfz41_0 := zB BK150 0
        have hfz41_1 := zB BK150 1
        go_wp2
        go_ret
        exact ⟨by first | rfl | (simp [errW_none, errW_some] <;> rfl) | (simp [*, errW_none, errW_some] <;> rfl), pH HB⟩
 ·replace c3 := Bool.eq_false_iff.mpr c3
  subst c3
  have H1 : (some false) = some r := by rw [if_neg (show ¬ (false = true) by decide)] at H; exact H
  clear H
  have H := H1
  clear H1
  obtain rfl := Option.some.inj H
  go_enter Try.func57, Try.ntmps57
  go_wp2_with (first | ((with_reducible refine gate_dst (N := 1) rfl ?_); refine box_event ?hg (N := 1) ?hd (cs := #[.int .i64 a0_0, .slice A0_1 l0_1.length c0_1]) (t := 26) ?hr ?_; (case hd => rfl); (case hg => rfl); (case hr => first | (go_simp; done) | (go_simp; rfl)); intro gb150 hg w42 hbox hb; have BK150 := Aside0.mk (hbox); have GW150 := gH HB hg; have GE150 := gH HB hg; replace HB := sH HB hb; clear hb hbox hg; have hcz43_0 : w42.cell? ⟨gb150, 0, none⟩ = some (.int .i64 a0_0) := cB BK150 0; have hcz43_1 : w42.cell? ⟨gb150, 1, none⟩ = some (.slice A0_1 l0_1.length c0_1) := cB BK150 1; have hfz43_0 := zB BK150 0; have hfz43_1 := zB BK150 1) | ((with_reducible refine gate_callee (f := 106) rfl ?_); refine cl_ (some 9) Try.func106 #[.int .i64 a0_0, .int .i64 1, .int .i64 6] ?_; (with_reducible refine (spec_l01In.calls a0_0 1 6 false _ A2.out).mono ?_); rintro e w' ⟨rfl, ⟨nd, rfl⟩⟩; refine ⟨_, rfl, ?_⟩))
  go_ret
  exact ⟨by first | rfl | (simp [errW_none, errW_some] <;> rfl) | (simp [*, errW_none, errW_some] <;> rfl), pH HB⟩
end Go.Proofs.Ytnmhnkpijjmhjaa.QS
namespace Go.Proofs.Ytnmhnkpijjmhjaa.QS
open Go.Proofs.Ytnmhnkpijjmhjaa.Cw Go.Proofs.Ytnmhnkpijjmhjaa.Kp Go.Proofs.Ytnmhnkpijjmhjaa.Ext Go.RowKit Go.Proofs.YtnmhnkpijjmhjaaW.PrintWords Go.Proofs.YtnmhnkpijjmhjaaW.PrintLast Go.Proofs.YtnmhnkpijjmhjaaW.PrintMore
attribute [local go_sem] max2_int min2_int max_two min_two max_three min_three max_four min_four   -- for this text's walks alone
set_option linter.unusedVariables false
set_option linter.unusedSimpArgs false
def spec_l02Less.f (a0_0 : Int) (a0_1 : Int) (a1_0 : Int) (a1_1 : Int) : Option (Bool) := if a0_0 < a1_0 then (some true) else (if a0_0 = a1_0 then (some (decide (a0_1 < a1_1))) else (some false))
set_option maxHeartbeats 8000000 in
set_option maxRecDepth 100000 in
theorem spec_l02Less.calls (a0_0 : Int) (a0_1 : Int) (a1_0 : Int) (a1_1 : Int) (r : Bool) (w : World) (h : spec_l02Less.f a0_0 a0_1 a1_0 a1_1 = some r) :
  Calls Try.prog 211 #[.agg #[.int .i64 a0_0, .int .i64 a0_1], .agg #[.int .i64 a1_0, .int .i64 a1_1]] w fun e w' => e = .returned (.bool r) ∧ Below w.heap.size w w' := by
 have hu76 := Try.underlying76
 have HB := Aside0.mk (Below.refl w.heap.size w)
 have H : (if a0_0 < a1_0 then (some true) else (if a0_0 = a1_0 then (some (decide (a0_1 < a1_1))) else (some false))) = some r := h
 clear h
 by_cases c3 : a0_0 < a1_0
 ·rw [if_pos c3] at H
  have c3b0 : decide (a0_0 < a1_0) = true := decide_eq_true c3
  clear c3
  obtain rfl := Option.some.inj H
  go_enter Try.func211, Try.ntmps211
  go_wp2_with (first | ((with_reducible refine gate_dst (N := 2) rfl ?_); refine box_event ?hg (N := 2) ?hd (cs := #[.int .i64 a0_0, .int .i64 a0_1]) (t := 76) ?hr ?_; (case hd => rfl); (case hg => rfl); (case hr => first | (go_simp; done) | (go_simp; rfl)); intro gb570 hg w4 hbox hb; have BK570 := Aside0.mk (hbox); have GW570 := gH HB hg; have GE570 := gH HB hg; replace HB := sH HB hb; clear hb hbox hg) | ((with_reducible refine gate_dst (N := 3) rfl ?_); refine box_event ?hg (N := 3) ?hd (cs := #[.int .i64 a1_0, .int .i64 a1_1]) (t := 76) ?hr ?_; (case hd => rfl); (case hg => rfl); (case hr => first | (go_simp; done) | (go_simp; rfl)); intro gb571 hg w5 hbox hb; have BK571 := Aside0.mk (hbox); have GW571 := gH HB hg; have GE571 := gH HB hg; replace HB := sH HB hb; have NB570_571 := nB BK570 hg; have NB571_570 := oB BK570 hg; replace BK570 := sB BK570 hb; clear hb hbox hg; (try have hnb6 := NB570_571.out); (try have hnc6 := NB571_570.out); have hcz7_0 : w5.cell? ⟨gb570, 0, none⟩ = some (.int .i64 a0_0) := cB BK570 0; have hcz7_1 : w5.cell? ⟨gb570, 1, none⟩ = some (.int .i64 a0_1) := cB BK570 1; have hfz7_0 := zB BK570 0; have hfz7_1 := zB BK570 1; have hcz8_0 : w5.cell? ⟨gb571, 0, none⟩ = some (.int .i64 a1_0) := cB BK571 0; have hcz8_1 : w5.cell? ⟨gb571, 1, none⟩ = some (.int .i64 a1_1) := cB BK571 1; have hfz8_0 := zB BK571 0; have hfz8_1 := zB BK571 1))
  go_ret
  exact ⟨by first | rfl | (simp [errW_none, errW_some] <;> rfl) | (simp [*, errW_none, errW_some] <;> rfl), pH HB⟩
 ·rw [if_neg c3] at H
  have c3b0 : decide (a0_0 < a1_0) = false := decide_eq_false c3
  clear c3
  by_cases c9 : a0_0 = a1_0
  ·rw [if_pos c9] at H
   have c9b0 : (a0_0 == a1_0) = true := beq_iff_eq.mpr c9
   have c9b1 : (a0_0 != a1_0) = false := bne_eq_false_iff_eq.mpr c9
   clear c9
   obtain rfl := Option.some.inj H
   go_enter Try.func211, Try.ntmps211
   go_wp2_with (first | ((with_reducible refine gate_dst (N := 2) rfl ?_); refine box_event ?hg (N := 2) ?hd (cs := #[.int .i64 a0_0, .int .i64 a0_1]) (t := 76) ?hr ?_; (case hd => rfl); (case hg => rfl); (case hr => first | (go_simp; done) | (go_simp; rfl)); intro gb570 hg w10 hbox hb; have BK570 := Aside0.mk (hbox); have GW570 := gH HB hg; have GE570 := gH HB hg; replace HB := sH HB hb; clear hb hbox hg) | ((with_reducible refine gate_dst (N := 3) rfl ?_); refine box_event ?hg (N := 3) ?hd (cs := #[.int .i64 a1_0, .int .i64 a1_1]) (t := 76) ?hr ?_; (case hd => rfl); (case hg => rfl); (case hr => first | (go_simp; done) | (go_simp; rfl)); intro gb571 hg w11 hbox hb; have BK571 := Aside0.mk (hbox); have GW571 := gH HB hg; have GE571 := gH HB hg; replace HB := sH HB hb; have NB570_571 := nB BK570 hg; have NB571_570 := oB BK570 hg; replace BK570 := sB BK570 hb; clear hb hbox hg; (try have hnb12 := NB570_571.out); (try have hnc12 := NB571_570.out); have hcz13_0 : w11.cell? ⟨gb570, 0, none⟩ = some (.int .i64 a0_0) := cB BK570 0; have hcz13_1 : w11.cell? ⟨gb570, 1, none⟩ = some (.int .i64 a0_1) := cB BK570 1; have hfz13_0 := zB BK570 0; have hfz13_1 := zB BK570 1; have hcz14_0 : w11.cell? ⟨gb571, 0, none⟩ = some (.int .i64 a1_0) := cB BK571 0; have hcz14_1 : w11.cell? ⟨gb571, 1, none⟩ = some (.int .i64 a1_1) := cB BK571 1; have hfz14_0 := zB BK571 0; have hfz14_1 := zB BK571 1))
   go_ret
   exact ⟨by first | rfl | (simp [errW_none, errW_some] <;> rfl) | (simp [*, errW_none, errW_some] <;> rfl), pH HB⟩
  ·rw [if_neg c9] at H
   have c9b0 : (a0_0 == a1_0) = false := beq_eq_false_iff_ne.mpr c9
   have c9b1 : (a0_0 != a1_0) = true := bne_iff_ne.mpr c9
   obtain rfl := Option.some.inj H
   go_enter Try.func211, Try.ntmps211
   go_wp2_with (first | ((with_reducible refine gate_dst (N := 2) rfl ?_); refine box_event ?hg (N := 2) ?hd (cs := #[.int .i64 a0_0, .int .i64 a0_1]) (t := 76) ?hr ?_; (case hd => rfl); (case hg => rfl); (case hr => first | (go_simp; done) | (go_simp; rfl)); intro gb570 hg w15 hbox hb; have BK570 := Aside0.mk (hbox); have GW570 := gH HB hg; have GE570 := gH HB hg; replace HB := sH HB hb; clear hb hbox hg) | ((with_reducible refine gate_dst (N := 3) rfl ?_); refine box_event ?hg (N := 3) ?hd (cs := #[.int .i64 a1_0, .int .i64 a1_1]) (t := 76) ?hr ?_; (case hd => rfl); (case hg => rfl); (case hr => first | (go_simp; done) | (go_simp; rfl)); intro gb571 hg w16 hbox hb; have BK571 := Aside0.mk (hbox); have GW571 := gH HB hg; have GE571 := gH HB hg; replace HB := sH HB hb; have NB570_571 := nB BK570 hg; have NB571_570 := oB BK570 hg; replace BK570 := sB BK570 hb; clear hb hbox hg; (try have hnb17 := NB570_571.out); (try have hnc17 := NB571_570.out); have hcz18_0 : w16.cell? ⟨gb570, 0, none⟩ = some (.int .i64 a0_0) := cB BK570 0; have hcz18_1 : w16.cell? ⟨gb570, 1, none⟩ = some (.int .i64 a0_1) := cB BK570 1; have hfz18_0 := zB BK570 0; have hfz18_1 := zB BK570 1; have hcz19_0 : w16.cell? ⟨gb571, 0, none⟩ = some (.int .i64 a1_0) := cB BK571 0; have hcz19_1 : w16.cell? ⟨gb571, 1, none⟩ = some (.int .i64 a1_1) := cB BK571 1; have hfz19_0 := zB BK571 0; have hfz19_1 := zB BK571 1))
   go_ret
   exact ⟨by first | rfl | (simp [errW_none, errW_some] <;> rfl) | (simp [*, errW_none, errW_some] <;> rfl), pH HB⟩
end Go.Proofs.Ytnmhnkpijjmhjaa.QS
