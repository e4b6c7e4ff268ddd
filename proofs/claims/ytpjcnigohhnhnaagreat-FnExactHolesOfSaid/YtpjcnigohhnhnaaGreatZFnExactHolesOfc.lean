/- Words and lemmas for FnExactHolesOf, part 3: what the row's text comes to. -/
import Derived.Test.YtpjcnigohhnhnaaGreatProg
import Derived.Below
import Derived.Deep.Draws
import Derived.Deep.AppendLies
import Derived.Maps.AppendAt
import Derived.OwnWalk
import Derived.Laws.BytesArg
import Derived.Laws.MakeOwn
import Derived.Laws.OwnMore
import Derived.Deep.OwnRows
import Derived.Tactics
import Derived.Lib.ConvBytes
import Derived.Laws.Slices
import Derived.WalkKit
import Derived.KernelRfl
import Derived.RowKit3
import Derived.Deep.LoopGhost
import Derived.Deep.QuietTactic
import Derived.BigQuiet
import Derived.WideLaws
import Derived.Deep.DeepCutAuto
import Derived.Deep.CutBlock
import Derived.Deep.RegionHeld3
import Derived.Laws.Rows
import Derived.Lib.AppendStr
import Derived.ArgAppend
import Derived.Laws.IdiomCopy
import Derived.OrdersHeld
import Derived.Laws.BitsLemmas
import Derived.RowKit
import Derived.MapKept
import Derived.Carry
import Derived.Test.YtpjcnigohhnhnaaGreatZFnExactHolesOfb
set_option linter.unusedVariables false
set_option linter.unusedSimpArgs false
namespace Go.Proofs.YtpjcnigohhnhnaaGreat.Im
open Go.RowKit Kp YtpjcnigohhnhnaaGreatW.PrintWords YtpjcnigohhnhnaaGreatW.PrintLast YtpjcnigohhnhnaaGreatW.PrintMore
def FnP (P : Program) (fv : Value) (dom : Pr → Prop) (p : Pr → Bool) (w : World) : Prop :=
  ∃ g fs lb, fv = .func (.func g) fs lb ∧ (∀ args w, (callFunc g args).run P w = .ok (.enter g args) w) ∧
    ∀ W (x : Pr), Below w.heap.size w W → dom x → Calls P g (fs ++ #[.agg #[.int .i64 x.f0, .int .i64 x.f1]] ++ lb) W fun e w' => e = .returned (.bool (p x)) ∧ Below W.heap.size W w'
theorem FnP.later {P : Program} {fv : Value} {dom : Pr → Prop} {p : Pr → Bool} {w w1 : World} (h : FnP P fv dom p w) (hb : Below w.heap.size w w1) : FnP P fv dom p w1 := by
  obtain ⟨g, fs, lb, he, hg, hc⟩ := h
  exact ⟨g, fs, lb, he, hg, fun W x hW hx => hc W x (hb.trans (hW.mono hb.size)) hx⟩
end Go.Proofs.YtpjcnigohhnhnaaGreat.Im
namespace Go.Proofs.YtpjcnigohhnhnaaGreat.Ext
open Go.RowKit Im Kp YtpjcnigohhnhnaaGreatW.PrintWords YtpjcnigohhnhnaaGreatW.PrintLast YtpjcnigohhnhnaaGreatW.PrintMore
structure Pred where
  sort : Nat
  u : Bool
  full : Bool
  pI : Int → Bool
  pP : Pr → Bool
def Pred.nul (u : Bool) : Pred := ⟨0, u, true, fun _ => true, fun _ => true⟩
def Pred.int (p : Int → Bool) : Pred := ⟨1, true, true, p, fun _ => true⟩
def Pred.face (p : Int → Bool) : Pred := ⟨1, true, false, p, fun _ => true⟩
def Pred.bad : Pred := ⟨9, true, true, fun _ => true, fun _ => true⟩
def Pred.dom (a : Pred) (x : Int) : Prop := a.full = true ∨ (0 ≤ x ∧ x ≤ 63)
def Pred.facePr (p : Pr → Bool) : Pred := ⟨2, true, false, fun _ => true, p⟩
def Pred.domP (a : Pred) (x : Pr) : Prop := a.full = true ∨ ((0 ≤ x.f0 ∧ x.f0 ≤ 63) ∧ (0 ≤ x.f1 ∧ x.f1 ≤ 63))
def okDom (a : Pred) (l : List Int) : Bool := a.full || l.all fun x => decide (0 ≤ x) && decide (x ≤ 63)
def okDomP (a : Pred) (l : List Pr) : Bool := a.full || l.all fun x => (decide (0 ≤ x.f0) && decide (x.f0 ≤ 63)) && (decide (0 ≤ x.f1) && decide (x.f1 ≤ 63))
theorem okDom_mem {a : Pred} {l : List Int} (h : okDom a l = true) : ∀ x ∈ l, a.dom x := by
  intro x hx
  rcases Bool.or_eq_true _ _ ▸ h with h | h
  · exact .inl h
  · have := List.all_eq_true.1 h x hx
    simp only [Bool.and_eq_true, decide_eq_true_eq] at this
    exact .inr this
theorem okDomP_mem {a : Pred} {l : List Pr} (h : okDomP a l = true) : ∀ x ∈ l, a.domP x := by
  intro x hx
  rcases Bool.or_eq_true _ _ ▸ h with h | h
  · exact .inl h
  · have := List.all_eq_true.1 h x hx
    simp only [Bool.and_eq_true, decide_eq_true_eq] at this
    exact .inr this
def FnOk (F : Value) (a : Pred) (w : World) : Prop :=
  (a.sort = 0 → FnU Tryz.prog F a.u w) ∧ (a.sort = 1 → FnB Tryz.prog F a.dom a.pI w) ∧ (a.sort = 2 → FnP Tryz.prog F a.domP a.pP w)
theorem FnOk.later {F : Value} {a : Pred} {w w1 : World} (h : FnOk F a w) (hb : Below w.heap.size w w1) : FnOk F a w1 :=
  ⟨fun e => (h.1 e).later hb, fun e => (h.2.1 e).later hb, fun e => (h.2.2 e).later hb⟩
theorem FnOk.nul {F : Value} {u : Bool} {w : World} (h : FnU Tryz.prog F u w) : FnOk F (Pred.nul u) w := ⟨fun _ => h, fun e => (by cases e), fun e => (by cases e)⟩
theorem FnOk.int {F : Value} {p : Int → Bool} {w : World} (h : FnB Tryz.prog F (fun _ => True) p w) : FnOk F (Pred.int p) w := ⟨fun e => (by cases e), fun _ => (by
    obtain ⟨g, fs, lb, he, hg, hc⟩ := h
    exact ⟨g, fs, lb, he, hg, fun W x hW _ => hc W x hW trivial⟩), fun e => (by cases e)⟩
theorem FnOk.face {F : Value} {p : Int → Bool} {w : World} (h : FnB Tryz.prog F (fun x => 0 ≤ x ∧ x ≤ 63) p w) : FnOk F (Pred.face p) w := ⟨fun e => (by cases e), fun _ => (by
    obtain ⟨g, fs, lb, he, hg, hc⟩ := h
    exact ⟨g, fs, lb, he, hg, fun W x hW hx => hc W x hW (hx.resolve_left (fun h_ => by cases h_))⟩), fun e => (by cases e)⟩
theorem FnOk.bad (F : Value) (w : World) : FnOk F Pred.bad w := ⟨fun e => (by cases e), fun e => (by cases e), fun e => (by cases e)⟩
theorem FnOk.facePr {F : Value} {p : Pr → Bool} {w : World} (h : FnP Tryz.prog F (fun x => (0 ≤ x.f0 ∧ x.f0 ≤ 63) ∧ (0 ≤ x.f1 ∧ x.f1 ≤ 63)) p w) : FnOk F (Pred.facePr p) w := ⟨fun e => (by cases e), fun e => (by cases e), fun _ => (by
    obtain ⟨g, fs, lb, he, hg, hc⟩ := h
    exact ⟨g, fs, lb, he, hg, fun W x hW hx => hc W x hW (hx.resolve_left (fun h_ => by cases h_))⟩)⟩
def Pred.ofU : Option Bool → Pred
  | some b => Pred.nul b
  | none => Pred.bad
def Pred.ofI (f : Int → Option Bool) : Pred := if ((List.range 64).all fun x => (f (x : Int)).isSome) = true then Pred.face (fun x => (f x).getD false) else Pred.bad
def Pred.ofP (f : Int → Int → Option Bool) : Pred := if ((List.range 64).all fun x => (List.range 64).all fun y => (f (x : Int) (y : Int)).isSome) = true then Pred.facePr (fun q => (f q.f0 q.f1).getD false) else Pred.bad
theorem ofI_face {f : Int → Option Bool} {p : Int → Bool} (h : ∀ x, 0 ≤ x → x ≤ 63 → f x = some (p x)) : (Pred.ofI f).sort = 1 ∧ (Pred.ofI f).u = true ∧ ∀ x, 0 ≤ x → x ≤ 63 → (Pred.ofI f).pI x = p x := by
  have hc : ((List.range 64).all fun x => (f (x : Int)).isSome) = true := List.all_eq_true.2 fun m hm => by
    have := List.mem_range.1 hm
    rw [h m (by omega) (by omega)]; rfl
  unfold Pred.ofI
  rw [if_pos hc]
  exact ⟨rfl, rfl, fun x h0 h6 => by simp only [Pred.face]; rw [h x h0 h6]; rfl⟩
theorem ofP_face {f : Int → Int → Option Bool} {p : Pr → Bool} (h : ∀ x y, 0 ≤ x → x ≤ 63 → 0 ≤ y → y ≤ 63 → f x y = some (p ⟨x, y⟩)) : (Pred.ofP f).sort = 2 ∧ ∀ q : Pr, 0 ≤ q.f0 → q.f0 ≤ 63 → 0 ≤ q.f1 → q.f1 ≤ 63 → (Pred.ofP f).pP q = p q := by
  have hc : ((List.range 64).all fun x => (List.range 64).all fun y => (f (x : Int) (y : Int)).isSome) = true := List.all_eq_true.2 fun m hm => List.all_eq_true.2 fun m1 hm1 => by
    have := List.mem_range.1 hm
    have := List.mem_range.1 hm1
    rw [h m m1 (by omega) (by omega) (by omega) (by omega)]; rfl
  unfold Pred.ofP
  rw [if_pos hc]
  exact ⟨rfl, fun q h0 h6 h1 h7 => by simp only [Pred.facePr]; rw [h q.f0 q.f1 h0 h6 h1 h7]; rfl⟩
theorem FnOk.ofU {o : Option Bool} {g : FuncId} {fs lb : Array Value} {W : World} (he : ∀ args w, (callFunc g args).run Tryz.prog w = .ok (.enter g args) w)
    (h : ∀ V b, Below W.heap.size W V → o = some b → Calls Tryz.prog g (fs ++ #[] ++ lb) V fun e w' => e = .returned (.bool b) ∧ Below V.heap.size V w') : FnOk (.func (.func g) fs lb) (Pred.ofU o) W := by
  cases o with
  | none => exact FnOk.bad _ _
  | some b => exact FnOk.nul ⟨g, fs, lb, rfl, he, fun V hV => h V b hV rfl⟩
theorem FnOk.ofI {f : Int → Option Bool} {g : FuncId} {fs lb : Array Value} {W : World} (he : ∀ args w, (callFunc g args).run Tryz.prog w = .ok (.enter g args) w)
    (h : ∀ V x b, Below W.heap.size W V → f x = some b → Calls Tryz.prog g (fs ++ #[.int .i64 x] ++ lb) V fun e w' => e = .returned (.bool b) ∧ Below V.heap.size V w') : FnOk (.func (.func g) fs lb) (Pred.ofI f) W := by
  unfold Pred.ofI
  split
  · rename_i hc
    refine FnOk.face ⟨g, fs, lb, rfl, he, fun V x hV hx => ?_⟩
    obtain ⟨m, rfl⟩ := Int.eq_ofNat_of_zero_le hx.1
    obtain ⟨b, hr⟩ := Option.isSome_iff_exists.1 (List.all_eq_true.1 hc m (List.mem_range.2 (by omega)))
    have := h V m b hV hr
    simp only [hr, Option.getD_some]
    exact this
  · exact FnOk.bad _ _
theorem FnOk.ofP {f : Int → Int → Option Bool} {g : FuncId} {fs lb : Array Value} {W : World} (he : ∀ args w, (callFunc g args).run Tryz.prog w = .ok (.enter g args) w)
    (h : ∀ V x y b, Below W.heap.size W V → f x y = some b → Calls Tryz.prog g (fs ++ #[.agg #[.int .i64 x, .int .i64 y]] ++ lb) V fun e w' => e = .returned (.bool b) ∧ Below V.heap.size V w') : FnOk (.func (.func g) fs lb) (Pred.ofP f) W := by
  unfold Pred.ofP
  split
  · rename_i hc
    refine FnOk.facePr ⟨g, fs, lb, rfl, he, fun V x hV hx => ?_⟩
    obtain ⟨x0, x1⟩ := x
    obtain ⟨⟨a0, a1⟩, b0, b1⟩ := hx
    simp only at a0 a1 b0 b1
    obtain ⟨m, rfl⟩ := Int.eq_ofNat_of_zero_le a0
    obtain ⟨m1, rfl⟩ := Int.eq_ofNat_of_zero_le b0
    obtain ⟨b, hr⟩ := Option.isSome_iff_exists.1 (List.all_eq_true.1 (List.all_eq_true.1 hc m (List.mem_range.2 (by omega))) m1 (List.mem_range.2 (by omega)))
    have := h V m m1 b hV hr
    simp only [hr, Option.getD_some]
    exact this
  · exact FnOk.bad _ _
end Go.Proofs.YtpjcnigohhnhnaaGreat.Ext
namespace Go.Proofs.YtpjcnigohhnhnaaGreat.Im
open Go.RowKit Go.Shelf Kp Ext YtpjcnigohhnhnaaGreatW.PrintWords YtpjcnigohhnhnaaGreatW.PrintLast YtpjcnigohhnhnaaGreatW.PrintMore
def firstP (p : Pr → Bool) (xs : List Pr) : Int := if xs.any p then (xs.findIdx p : Int) else -1
theorem firstP_hit {p : Pr → Bool} {xs : List Pr} {k : Nat} {y : Pr} (hk : k < xs.length) (hy : xs.getD k z46 = y) (hp : p y = true) (hb : ∀ j, j < k → p (xs.getD j z46) = false) : firstP p xs = (k : Int) := by
  have hxk : xs[k] = y := by rw [List.getD_eq_getElem?_getD, List.getElem?_eq_getElem hk] at hy; simpa using hy
  have ha : xs.any p = true := List.any_eq_true.2 ⟨xs[k], List.getElem_mem hk, by rw [hxk]; exact hp⟩
  have hf : xs.findIdx p = k := by
    rw [List.findIdx_eq hk]
    refine ⟨by rw [hxk]; exact hp, fun j hj => ?_⟩
    have := hb j hj
    rw [List.getD_eq_getElem?_getD, List.getElem?_eq_getElem (show j < xs.length by omega)] at this
    simpa using this
  rw [firstP, if_pos ha, hf]
theorem firstP_miss {p : Pr → Bool} {xs : List Pr} (hb : ∀ j, j < xs.length → p (xs.getD j z46) = false) : firstP p xs = -1 := by
  have ha : ¬ xs.any p = true := by
    intro h
    obtain ⟨x, hx, hp⟩ := List.any_eq_true.1 h
    obtain ⟨j, hj, rfl⟩ := List.mem_iff_getElem.1 hx
    have := hb j hj
    rw [List.getD_eq_getElem?_getD, List.getElem?_eq_getElem hj] at this
    simp at this
    rw [this] at hp; cases hp
  rw [firstP, if_neg ha]
set_option maxRecDepth 100000 in
set_option maxHeartbeats 1000000 in
theorem indexPair_c (A : Option Addr) (c : Nat) (xs : List Pr) (fv : Value) (dom : Pr → Prop) (p : Pr → Bool) (w : World) (hr : Kd.C k46 w A xs.length xs) (hf : FnP Tryz.prog fv dom p w) (hd : ∀ x ∈ xs, dom x) (hl : xs.length ≤ 1099511627776) :
    Calls Tryz.prog 70 #[.slice A xs.length c, fv] w fun e w' => e = .returned (.int .i64 (firstP p xs)) ∧ Below w.heap.size w w' := by
  obtain ⟨g, fs, lb, rfl, eg, hcall⟩ := hf
  have HR := Aside0.mk hr
  have HC := Aside0.mk hcall
  have HD := Aside0.mk hd
  clear hr hcall hd
  go_enter Tryz.func70, Tryz.ntmps70
  go_wp2
  go_loopw [5, 8] (fun _ i wr => ∃ k : Nat, k ≤ xs.length ∧ i = .int .i64 k ∧ Aside0 (Below w.heap.size w wr) ∧ Aside0 (∀ j, j < k → p (xs.getD j z46) = false)) (fun _ i _ => xs.length - (intOf i).toNat)
  case atStart => exact ⟨0, by omega, rfl, ⟨Below.refl _ _⟩, ⟨fun j hj => absurd hj (Nat.not_lt_zero _)⟩⟩
  case round =>
    obtain ⟨k, hk, rfl, hB, hA⟩ := hrel
    by_cases hlt : k < xs.length
    · have hltz : (k : Int) < (xs.length : Int) := by omega
      obtain ⟨ad, rfl, h0, h1⟩ := pair_at (Kd.C_below HR.out hB.out) k hlt
      obtain ⟨y, hy⟩ : ∃ y, xs.getD k z46 = y := ⟨_, rfl⟩
      rw [hy] at h0 h1
      have HY := Aside0.mk hy
      have hdy : dom y := by
        rw [← hy, List.getD_eq_getElem?_getD, List.getElem?_eq_getElem hlt]
        exact HD.out _ (List.getElem_mem hlt)
      have hcy := HC.out wr y hB.out hdy
      clear hy hdy
      have HCY := Aside0.mk hcy
      clear hcy
      cases hq : p y with
      | true =>
        rw [hq] at HCY
        have HQ := Aside0.mk hq
        clear hq
        go_wp2_with (go_at_fn g; refine HCY.out.mono ?_; rintro e w' ⟨rfl, hb⟩; have HB2 := Aside0.mk hb; clear hb)
        go_ret
        refine ⟨?_, below_in hB.out HB2.out⟩
        rw [firstP_hit hlt HY.out HQ.out hA.out]; rfl
      | false =>
        rw [hq] at HCY
        have HQ := Aside0.mk hq
        clear hq
        go_wp2_with (go_at_fn g; refine HCY.out.mono ?_; rintro e w' ⟨rfl, hb⟩; have HB2 := Aside0.mk hb; clear hb)
        go_roundw
        case measure => simp [intOf]; omega
        case rel =>
          refine ⟨k + 1, by omega, by go_num, ⟨below_in hB.out HB2.out⟩, ⟨fun j hj => ?_⟩⟩
          rcases Nat.lt_or_ge j k with h | h
          · exact hA.out j h
          · obtain rfl : j = k := by omega
            rw [HY.out]; exact HQ.out
    · obtain rfl : k = xs.length := by omega
      have hltz : ¬ (xs.length : Int) < (xs.length : Int) := by omega
      go_wp2
      go_ret
      refine ⟨?_, hB.out⟩
      rw [firstP_miss hA.out]; rfl
end Go.Proofs.YtpjcnigohhnhnaaGreat.Im
namespace Go.Proofs.YtpjcnigohhnhnaaGreat.Ext
open Go.RowKit Im Kp YtpjcnigohhnhnaaGreatW.PrintWords YtpjcnigohhnhnaaGreatW.PrintLast YtpjcnigohhnhnaaGreatW.PrintMore
end Go.Proofs.YtpjcnigohhnhnaaGreat.Ext
namespace Go.Proofs.YtpjcnigohhnhnaaGreat.Im
open Go.RowKit Go.Shelf Ext YtpjcnigohhnhnaaGreatW.PrintWords YtpjcnigohhnhnaaGreatW.PrintLast YtpjcnigohhnhnaaGreatW.PrintMore
theorem kept_cells {g : Nat} {w : World} {S : Nat → Prop} (hg : S g) : ∀ (vs : List Value) (k : Nat) (W : World), Kept w W S → Kept w (W.setCells g k vs) S
  | [], _, W, h => h
  | v :: vs, k, W, h => kept_cells hg vs (k + 1) _ (Kept.setCell (p := ⟨g, k, none⟩) h (.inl hg) v)
theorem RO.ok {W : World} {base : Nat} {v : Value} {xs : List Int} {ok : Nat → Prop} (h : RO W base v xs) (hk : ∀ k, v.ownBlock = some k → ok k) : Kd.R (Kd.int .i64) 2 W base ok v xs :=
  Kd.R_mono (Kd.R_tight rfl h) (fun k e => hk k e.symm)
set_option maxRecDepth 100000 in
set_option maxHeartbeats 4000000 in
theorem deleteFuncK_c (S : Nat → Prop) (v : Value) (xs : List Int) (fv : Value) (a : Pred) (w0 w : World) (HBw : Below w0.heap.size w0 w) (hoS : Kd.R (Kd.int .i64) 2 w w0.heap.size S v xs) (hn : xs.length ≤ 1048576)
    (hfn : ∀ W_, Kept w W_ S → FnOk fv a W_) (hs : a.sort = 1) (hd : ∀ x ∈ xs, a.dom x) :
    Calls Tryz.prog 40 #[v, fv] w fun e w' => ∃ v', e = .returned v' ∧ Kd.R (Kd.int .i64) 2 w' w0.heap.size (fun k_ => (S k_ ∨ w.heap.size ≤ k_)) v' (xs.filter fun x => !a.pI x) ∧ Below w0.heap.size w0 w' ∧ Kept w w' S := by
  have hfw := (hfn w (Kept.refl w S)).2.1 hs
  have ho : RO w w0.heap.size v xs := Kd.R_mono hoS (fun _ _ => trivial)
  have hS := hoS.1
  clear hoS
  obtain ⟨A0, c0, rfl⟩ := Kd.R_slice ho
  have hix := indexFunc_c A0 xs.length c0 xs fv a.dom a.pI w (Kd.R_reads' ho).2.2 hfw hd
  obtain ⟨g, fs, lb, rfl, eg, _⟩ := hfw
  have hcall : ∀ W x, Kept w W S → a.dom x → Calls Tryz.prog g (fs ++ #[.int .i64 x] ++ lb) W fun e w' => e = .returned (.bool (a.pI x)) ∧ Below W.heap.size W w' := by
    intro W x hK hx
    obtain ⟨g', fs', lb', he, _, hc⟩ := (hfn W hK).2.1 hs
    injection he with h1 h2 h3
    injection h1 with h1
    subst h1; subst h2; subst h3
    exact hc W x (Below.refl _ _) hx
  clear hfn
  obtain ⟨p, hp⟩ : ∃ p, a.pI = p := ⟨_, rfl⟩
  obtain ⟨dom, hdm⟩ : ∃ dom, a.dom = dom := ⟨_, rfl⟩
  rw [hp, hdm] at hcall
  rw [hp] at hix ⊢
  rw [hdm] at hd
  clear hp hdm hs
  cases hany : xs.any p with
  | false =>
    have he : firstI p xs = -1 := by unfold firstI; rw [hany]; rfl
    have hfl : (xs.filter fun x => !p x) = xs := by
      refine List.filter_eq_self.2 fun x hx => ?_
      have := List.any_eq_false.1 hany x hx
      simpa using this
    rw [he] at hix
    rw [hfl]
    have HI := Aside0.mk hix
    have HO := Aside0.mk ho
    have HB := Aside0.mk HBw
    have HS := Aside0.mk hS
    clear hix ho HBw hcall hany he hfl hS
    go_enter Tryz.func40, Tryz.ntmps40
    go_wp2_with (go_at_call 69; refine HI.out.mono ?_; rintro e w' ⟨rfl, hb⟩)
    go_ret
    exact ⟨_, rfl, RO.ok (Kd.R_below HO.out hb) (fun k hk => .inl (HS.out k hk)), HB.out.trans (hb.mono HB.out.size), Kept.of_below hb _⟩
  | true =>
    obtain ⟨i, hi, hil, hpi, hbi⟩ := firstI_at hany
    rw [hi] at hix
    obtain ⟨gg, cap, hvf, hgb, hgl, _⟩ := Kd.R_form ho (by omega)
    obtain ⟨rfl, rfl⟩ : A0 = some ⟨gg, 0, none⟩ ∧ c0 = cap := by injection hvf with h1 h2 h3; exact ⟨h1, h3⟩
    have hgS : S gg := hS gg rfl
    have hcapn := (Kd.R_reads' ho).2.1
    have HI := Aside0.mk hix
    have HO := Aside0.mk ho
    have HB := Aside0.mk HBw
    have HC := Aside0.mk hcall
    have HD := Aside0.mk hd
    have HP := Aside0.mk hpi
    have HF := Aside0.mk (filter_first hbi (Nat.le_of_lt hil))
    have HG := Aside0.mk hgb
    have HGS := Aside0.mk hgS
    obtain ⟨n, hnx⟩ : ∃ n, xs.length = n := ⟨_, rfl⟩
    have HN := Aside0.mk hnx
    rw [hnx] at hil hn hcapn ⊢
    rw [hnx] at HI HO
    clear hix ho HBw hcall hany hi hd hpi hbi hvf hgb hgl hnx hS hgS
    go_enter Tryz.func40, Tryz.ntmps40
    go_wp2_with (go_at_call 69; refine HI.out.mono ?_; rintro e w1 ⟨rfl, hb⟩; have HO1 := Aside0.mk (Kd.R_below HO.out hb); have HB1 := Aside0.mk (HB.out.trans (hb.mono HB.out.size)); have HK1 := Aside0.mk (Kept.of_below hb S); clear hb)
    have hst := DI.start (p := p) (by rw [HN.out]; exact hil) HP.out HF.out
    have HS := Aside0.mk hst
    clear hst
    go_loopw [5, 6] (fun vk vj wr => ∃ (k j : Nat) (ys : List Int), vk = .int .i64 k ∧ vj = .int .i64 j ∧ k < j ∧ j ≤ n ∧ Aside0 (DI (fun x => !p x) xs ys k j) ∧ Aside0 (RO wr w0.heap.size (.slice (some ⟨gg, 0, none⟩) n c0) ys) ∧ Aside0 (Below w0.heap.size w0 wr) ∧ Aside0 (Kept w wr S)) (fun _ vj _ => n - (intOf vj).toNat)
    case atStart => exact ⟨i, i + 1, xs, rfl, by go_num, by omega, by omega, HS, HO1, HB1, HK1⟩
    case round =>
      obtain ⟨k, j, ys, rfl, rfl, hkj, hjn, hD, hO, hBr, hKr⟩ := hrel
      by_cases hlt : j < n
      · have hltz : (j : Int) < (n : Int) := by omega
        have hcf := RO.cell hO.out hlt
        have hce := hcf.1
        have hkf := RO.cell hO.out (show k < n by omega)
        have hkc := hkf.1
        have hkz := hkf.2
        have hx := hD.out.at_
        have hjx : j < xs.length := by rw [HN.out]; exact hlt
        obtain ⟨y, hy⟩ : ∃ y, xs[j]?.getD 0 = y := ⟨_, rfl⟩
        rw [hx, hy] at hce
        have hdy : dom y := by
          rw [List.getElem?_eq_getElem hjx] at hy
          rw [← hy]
          exact HD.out _ (List.getElem_mem hjx)
        have hcy := HC.out wr y hKr.out hdy
        have HY := Aside0.mk hy
        have HJ := Aside0.mk hjx
        clear hy hx hdy hcf hkf hjx
        have HCY := Aside0.mk hcy
        clear hcy
        cases hq : p y with
        | true =>
          rw [hq] at HCY
          have HQ := Aside0.mk hq
          clear hq
          go_wp2_with (go_at_fn g; refine HCY.out.mono ?_; rintro e w' ⟨rfl, hb⟩; have HO2 := Aside0.mk (Kd.R_below hO.out hb); have HB2 := Aside0.mk (hBr.out.trans (hb.mono hBr.out.size)); have HK2 := Aside0.mk (Kept.below hKr.out hb); clear hb)
          go_roundw
          case measure => simp [intOf]; omega
          case rel =>
            exact ⟨_, _, _, _, _, _, _, _, _, _, _, _, _, _, _, _, _, _, _, _, _, _, _, ⟨k, j + 1, ys, rfl, by go_num, by omega, by omega, ⟨hD.out.skip HJ.out (by rw [HY.out, HQ.out]; rfl)⟩, HO2, HB2, HK2⟩, rfl⟩
        | false =>
          rw [hq] at HCY
          have HQ := Aside0.mk hq
          clear hq
          go_wp2_with (go_at_fn g; refine HCY.out.mono ?_; rintro e w' ⟨rfl, hb⟩; have HO2 := Aside0.mk (Kd.R_below hO.out hb); have HB2 := Aside0.mk (hBr.out.trans (hb.mono hBr.out.size)); have HK2 := Aside0.mk (Kept.below hKr.out hb); have hk2 := RO.cell HO2.out (show k < n by omega); have hkc2 := hk2.1; have hkz2 := hk2.2; clear hb hk2)
          go_roundw
          case measure => simp [intOf]; omega
          case rel => exact ⟨_, _, _, _, _, _, _, _, _, _, _, _, _, _, _, _, _, _, _, _, _, _, _, ⟨k + 1, j + 1, ys.set k y, by go_num, by go_num, by omega, by omega, ⟨by have := hD.out.keep HJ.out (by rw [HY.out, HQ.out]; rfl); rw [HY.out] at this; exact this⟩, ⟨RO.put HO2.out k y⟩, ⟨HB2.out.setCell (p := ⟨gg, k, none⟩) HG.out _⟩, ⟨Kept.setCell (p := ⟨gg, k, none⟩) HK2.out (.inl HGS.out) _⟩⟩, rfl⟩
      · obtain rfl : j = n := by omega
        have hltz : ¬ (j : Int) < (j : Int) := by omega
        have hcl : ∀ ty, (Builtin.clear_ #[22] ty #[.slice (some ⟨gg, k, none⟩) (j - k) (c0 - k)]).run Tryz.prog wr = .ok (.tuple #[]) (wr.setCells gg k (List.replicate (j - k) (.int .i64 0))) := fun ty =>
          Lib.run_clear_slice wr _ _ ty (.int .i64 0) Tryz.underlying22 (fun w => by kernel_rfl) rfl rfl gg k _ _ (by omega) (fun m hm => by rw [(RO.cell hO.out (show k + m < j by omega)).1]; rfl) (fun m hm => (RO.cell hO.out (show k + m < j by omega)).2)
        go_wp2
        go_ret
        obtain ⟨zs, hz, hR⟩ := RO.zeros (j - k) k _ _ hO.out
        refine ⟨_, rfl, RO.ok ?_ (fun k_ hk_ => .inl (by injection hk_ with hk_; rw [← hk_]; exact HGS.out)), below_cells HG.out _ _ _ hBr.out, kept_cells HGS.out _ _ _ hKr.out⟩
        have ht := Kd.R_take hR (m := k) (by have := (Kd.R_reads' hR).1; omega)
        rw [hz, hD.out.done, List.take_of_length_le (by rw [HN.out]; exact Nat.le_refl _)] at ht
        exact ht
end Go.Proofs.YtpjcnigohhnhnaaGreat.Im
namespace Go.Proofs.YtpjcnigohhnhnaaGreat.Ext
open Go.RowKit Im YtpjcnigohhnhnaaGreatW.PrintWords YtpjcnigohhnhnaaGreatW.PrintLast YtpjcnigohhnhnaaGreatW.PrintMore
def impl_Complex_has.f (a0_0 : Int) (l0_1 : List Int) (a1 : Int) : Option Bool := if l0_1.length ≤ 4611686018427387904 ∧ Asc l0_1 then some (decide (a1 ∈ l0_1)) else none
theorem impl_Complex_has.calls (a0_0 : Int) (A0_1 : Option Addr) (c0_1 : Nat) (l0_1 : List Int) (a1 : Int) (r : Bool) (w : World) (hr0_1 : Kd.C (Kd.int .i64) w A0_1 l0_1.length l0_1) (_hc0_1 : l0_1.length ≤ c0_1) (h : impl_Complex_has.f a0_0 l0_1 a1 = some r) :
    Calls Tryz.prog 102 #[.agg #[.int .i64 a0_0, .slice A0_1 l0_1.length c0_1], .int .i64 a1] w fun e w' => e = .returned (.bool r) ∧ Below w.heap.size w w' := by
  unfold impl_Complex_has.f at h
  by_cases hl : l0_1.length ≤ 4611686018427387904 ∧ Asc l0_1
  · rw [if_pos hl] at h
    obtain rfl := Option.some.inj h
    exact has_c a0_0 A0_1 l0_1.length c0_1 l0_1 a1 w hr0_1 hl.1 hl.2
  · rw [if_neg hl] at h; cases h
end Go.Proofs.YtpjcnigohhnhnaaGreat.Ext
namespace Go.Proofs.YtpjcnigohhnhnaaGreat.Ext
open Go.RowKit Im  YtpjcnigohhnhnaaGreatW.PrintWords YtpjcnigohhnhnaaGreatW.PrintLast YtpjcnigohhnhnaaGreatW.PrintMore
def impl_complexCode.f (a0_0 : Int) (l0_1 : List Int) (a1 : Pred) : Option (Int) := if l0_1.length ≤ 4611686018427387904 ∧ (isC a0_0 l0_1 = true → a1.sort = 0) then some (codeOf (isC a0_0 l0_1) a1.u) else none
theorem impl_complexCode.calls (a0_0 : Int) (A0_1 : Option Addr) (c0_1 : Nat) (l0_1 : List Int) (F1 : Value) (a1 : Pred) (r : Int) (w : World) (hr0_1 : Kd.C (Kd.int .i64) w A0_1 l0_1.length l0_1) (_hc0_1 : l0_1.length ≤ c0_1) (hq1 : FnOk F1 a1 w) (h : impl_complexCode.f a0_0 l0_1 a1 = some r) :
    Calls Tryz.prog 62 #[.agg #[.int .i64 a0_0, .slice A0_1 l0_1.length c0_1], F1] w fun e w' => e = .returned (.int .i64 r) ∧ Below w.heap.size w w' := by
  unfold impl_complexCode.f at h
  by_cases hl : l0_1.length ≤ 4611686018427387904 ∧ (isC a0_0 l0_1 = true → a1.sort = 0)
  · rw [if_pos hl] at h
    have hd := Option.some.inj h
    rw [← hd]
    exact complexCode_c a0_0 A0_1 l0_1.length c0_1 l0_1 _ a1.u w hr0_1 hl.1 (fun h => hq1.1 (hl.2 h))
  · rw [if_neg hl] at h; cases h
def slices_Clone_int64_int64.f (l0 : List Int) : Option (List Int) := if l0.length ≤ 1048576 then some (l0) else none
theorem slices_Clone_int64_int64.calls (A0 : Option Addr) (c0 : Nat) (l0 : List Int) (r : List Int) (w : World) (hr0 : Kd.C (Kd.int .i64) w A0 l0.length l0) (_hc0 : l0.length ≤ c0) (h : slices_Clone_int64_int64.f l0 = some r) :
    Calls Tryz.prog 41 #[.slice A0 l0.length c0] w fun e w' => ∃ v0_ : Value, e = .returned (v0_) ∧ Kd.R (Kd.int .i64) 2 w' w.heap.size (fun _ => True) v0_ r ∧ Below w.heap.size w w' := by
  unfold slices_Clone_int64_int64.f at h
  by_cases hl : l0.length ≤ 1048576
  · rw [if_pos hl] at h
    have hd := Option.some.inj h
    rw [← hd]
    exact clone_c A0 l0.length c0 l0 w hr0 hl
  · rw [if_neg hl] at h; cases h
end Go.Proofs.YtpjcnigohhnhnaaGreat.Ext
namespace Go.Proofs.YtpjcnigohhnhnaaGreat.Ext
open Go.RowKit Im Kp YtpjcnigohhnhnaaGreatW.PrintWords YtpjcnigohhnhnaaGreatW.PrintLast YtpjcnigohhnhnaaGreatW.PrintMore
def slices_DeleteFunc_int64_int64.f (l0 : List Int) (a1 : Pred) : Option (List Int) := if l0.length ≤ 1048576 ∧ a1.sort = 1 ∧ okDom a1 l0 = true then some (l0.filter fun x => !a1.pI x) else none
theorem slices_DeleteFunc_int64_int64.calls (P0_ : Nat → Prop) (u9000_ : Value) (l0 : List Int) (F1 : Value) (a1 : Pred) (r : List Int) (w0 w : World) (hB : Below w0.heap.size w0 w) (ho0 : Kd.R (Kd.int .i64) 2 w w0.heap.size P0_ u9000_ l0) (hq1 : ∀ W_, Kept w W_ (fun k_ => P0_ k_) → FnOk F1 a1 W_) (h : slices_DeleteFunc_int64_int64.f l0 a1 = some r) :
    Calls Tryz.prog 40 #[u9000_, F1] w fun e w' => ∃ v0_ : Value, e = .returned (v0_) ∧ Kd.R (Kd.int .i64) 2 w' w0.heap.size (fun k_ => (P0_ k_ ∨ w.heap.size ≤ k_)) v0_ r ∧ Below w0.heap.size w0 w' ∧ Kept w w' (fun k_ => P0_ k_) := by
  unfold slices_DeleteFunc_int64_int64.f at h
  by_cases hl : l0.length ≤ 1048576 ∧ a1.sort = 1 ∧ okDom a1 l0 = true
  · rw [if_pos hl] at h
    have hd := Option.some.inj h
    rw [← hd]
    exact deleteFuncK_c P0_ u9000_ l0 F1 a1 w0 w hB ho0 hl.1 hq1 hl.2.1 (okDom_mem hl.2.2)
  · rw [if_neg hl] at h; cases h
def impl_isIn.f (a0 : Int) (a1 : Int) : Option (Bool) := if True then some (Go.bits .andNot .i64 a0 a1 == 0) else none
theorem impl_isIn.calls (a0 : Int) (a1 : Int) (r : Bool) (w : World)  (h : impl_isIn.f a0 a1 = some r) :
    Calls Tryz.prog 103 #[.int .i64 a0, .int .i64 a1] w fun e w' => e = .returned (.bool r) ∧ Below w.heap.size w w' := by
  unfold impl_isIn.f at h
  by_cases hl : True
  · rw [if_pos hl] at h
    have hd := Option.some.inj h
    rw [← hd]
    exact (isIn_c a0 a1 w).mono (by rintro e w' ⟨rfl, rfl⟩; exact ⟨rfl, Below.refl _ _⟩)
  · rw [if_neg hl] at h; cases h
def impl_borders.f (a0 : Int) : Option (List Int) := if True then some (bordersL a0) else none
theorem impl_borders.calls (a0 : Int) (r : List Int) (w : World)  (h : impl_borders.f a0 = some r) :
    Calls Tryz.prog 74 #[.int .i64 a0] w fun e w' => ∃ v0_ : Value, e = .returned (v0_) ∧ Kd.R (Kd.int .i64) 2 w' w.heap.size (fun _ => True) v0_ r ∧ Below w.heap.size w w' := by
  unfold impl_borders.f at h
  by_cases hl : True
  · rw [if_pos hl] at h
    have hd := Option.some.inj h
    rw [← hd]
    exact borders_c a0 w
  · rw [if_neg hl] at h; cases h
def slices_IndexFunc_impl_Pair_impl_Pair.f (l0 : List S46) (a1 : Pred) : Option (Int) := if l0.length ≤ 1099511627776 ∧ a1.sort = 2 ∧ okDomP a1 l0 = true then some (firstP a1.pP l0) else none
theorem slices_IndexFunc_impl_Pair_impl_Pair.calls (A0 : Option Addr) (c0 : Nat) (l0 : List S46) (F1 : Value) (a1 : Pred) (r : Int) (w : World) (hr0 : Kd.C k46 w A0 l0.length l0) (_hc0 : l0.length ≤ c0) (hq1 : FnOk F1 a1 w) (h : slices_IndexFunc_impl_Pair_impl_Pair.f l0 a1 = some r) :
    Calls Tryz.prog 70 #[.slice A0 l0.length c0, F1] w fun e w' => e = .returned (.int .i64 r) ∧ Below w.heap.size w w' := by
  unfold slices_IndexFunc_impl_Pair_impl_Pair.f at h
  by_cases hl : l0.length ≤ 1099511627776 ∧ a1.sort = 2 ∧ okDomP a1 l0 = true
  · rw [if_pos hl] at h
    have hd := Option.some.inj h
    rw [← hd]
    exact indexPair_c A0 c0 l0 F1 a1.domP a1.pP w hr0 (hq1.2.2 hl.2.1) (okDomP_mem hl.2.2) hl.1
  · rw [if_neg hl] at h; cases h
end Go.Proofs.YtpjcnigohhnhnaaGreat.Ext
namespace Go.Proofs.YtpjcnigohhnhnaaGreat.QA
open Cw Kp Ext Go.RowKit YtpjcnigohhnhnaaGreatW.PrintWords YtpjcnigohhnhnaaGreatW.PrintLast YtpjcnigohhnhnaaGreatW.PrintMore
attribute [local go_sem] max2_int min2_int max_two min_two max_three min_three max_four min_four   -- for this text's walks alone
def errW : Option Int → Value
 | none => .nilIface
 | some c => .iface 0 (.int .i64 c)
theorem errW_none : errW none = .nilIface := rfl
theorem errW_some (c : Int) : errW (some c) = .iface 0 (.int .i64 c) := rfl
def bits_OnesCount64.f (a0 : Int) : Option (Int) := some (Go.bits .and .i64 (wrap64 (IntKind.u64.wrap ((IntKind.u64.wrap ((IntKind.u64.wrap ((Go.bits .and .u64 (IntKind.u64.wrap (((IntKind.u64.wrap ((Go.bits .and .u64 ((IntKind.u64.wrap ((Go.bits .and .u64 (a0 / 2) 6148914691236517205) + (Go.bits .and .u64 a0 6148914691236517205))) / 4) 3689348814741910323) + (Go.bits .and .u64 (IntKind.u64.wrap ((Go.bits .and .u64 (a0 / 2) 6148914691236517205) + (Go.bits .and .u64 a0 6148914691236517205))) 3689348814741910323))) / 16) + (IntKind.u64.wrap ((Go.bits .and .u64 ((IntKind.u64.wrap ((Go.bits .and .u64 (a0 / 2) 6148914691236517205) + (Go.bits .and .u64 a0 6148914691236517205))) / 4) 3689348814741910323) + (Go.bits .and .u64 (IntKind.u64.wrap ((Go.bits .and .u64 (a0 / 2) 6148914691236517205) + (Go.bits .and .u64 a0 6148914691236517205))) 3689348814741910323))))) 1085102592571150095) + ((Go.bits .and .u64 (IntKind.u64.wrap (((IntKind.u64.wrap ((Go.bits .and .u64 ((IntKind.u64.wrap ((Go.bits .and .u64 (a0 / 2) 6148914691236517205) + (Go.bits .and .u64 a0 6148914691236517205))) / 4) 3689348814741910323) + (Go.bits .and .u64 (IntKind.u64.wrap ((Go.bits .and .u64 (a0 / 2) 6148914691236517205) + (Go.bits .and .u64 a0 6148914691236517205))) 3689348814741910323))) / 16) + (IntKind.u64.wrap ((Go.bits .and .u64 ((IntKind.u64.wrap ((Go.bits .and .u64 (a0 / 2) 6148914691236517205) + (Go.bits .and .u64 a0 6148914691236517205))) / 4) 3689348814741910323) + (Go.bits .and .u64 (IntKind.u64.wrap ((Go.bits .and .u64 (a0 / 2) 6148914691236517205) + (Go.bits .and .u64 a0 6148914691236517205))) 3689348814741910323))))) 1085102592571150095) / 256))) + ((IntKind.u64.wrap ((Go.bits .and .u64 (IntKind.u64.wrap (((IntKind.u64.wrap ((Go.bits .and .u64 ((IntKind.u64.wrap ((Go.bits .and .u64 (a0 / 2) 6148914691236517205) + (Go.bits .and .u64 a0 6148914691236517205))) / 4) 3689348814741910323) + (Go.bits .and .u64 (IntKind.u64.wrap ((Go.bits .and .u64 (a0 / 2) 6148914691236517205) + (Go.bits .and .u64 a0 6148914691236517205))) 3689348814741910323))) / 16) + (IntKind.u64.wrap ((Go.bits .and .u64 ((IntKind.u64.wrap ((Go.bits .and .u64 (a0 / 2) 6148914691236517205) + (Go.bits .and .u64 a0 6148914691236517205))) / 4) 3689348814741910323) + (Go.bits .and .u64 (IntKind.u64.wrap ((Go.bits .and .u64 (a0 / 2) 6148914691236517205) + (Go.bits .and .u64 a0 6148914691236517205))) 3689348814741910323))))) 1085102592571150095) + ((Go.bits .and .u64 (IntKind.u64.wrap (((IntKind.u64.wrap ((Go.bits .and .u64 ((IntKind.u64.wrap ((Go.bits .and .u64 (a0 / 2) 6148914691236517205) + (Go.bits .and .u64 a0 6148914691236517205))) / 4) 3689348814741910323) + (Go.bits .and .u64 (IntKind.u64.wrap ((Go.bits .and .u64 (a0 / 2) 6148914691236517205) + (Go.bits .and .u64 a0 6148914691236517205))) 3689348814741910323))) / 16) + (IntKind.u64.wrap ((Go.bits .and .u64 ((IntKind.u64.wrap ((Go.bits .and .u64 (a0 / 2) 6148914691236517205) + (Go.bits .and .u64 a0 6148914691236517205))) / 4) 3689348814741910323) + (Go.bits .and .u64 (IntKind.u64.wrap ((Go.bits .and .u64 (a0 / 2) 6148914691236517205) + (Go.bits .and .u64 a0 6148914691236517205))) 3689348814741910323))))) 1085102592571150095) / 256))) / 65536))) + ((IntKind.u64.wrap ((IntKind.u64.wrap ((Go.bits .and .u64 (IntKind.u64.wrap (((IntKind.u64.wrap ((Go.bits .and .u64 ((IntKind.u64.wrap ((Go.bits .and .u64 (a0 / 2) 6148914691236517205) + (Go.bits .and .u64 a0 6148914691236517205))) / 4) 3689348814741910323) + (Go.bits .and .u64 (IntKind.u64.wrap ((Go.bits .and .u64 (a0 / 2) 6148914691236517205) + (Go.bits .and .u64 a0 6148914691236517205))) 3689348814741910323))) / 16) + (IntKind.u64.wrap ((Go.bits .and .u64 ((IntKind.u64.wrap ((Go.bits .and .u64 (a0 / 2) 6148914691236517205) + (Go.bits .and .u64 a0 6148914691236517205))) / 4) 3689348814741910323) + (Go.bits .and .u64 (IntKind.u64.wrap ((Go.bits .and .u64 (a0 / 2) 6148914691236517205) + (Go.bits .and .u64 a0 6148914691236517205))) 3689348814741910323))))) 1085102592571150095) + ((Go.bits .and .u64 (IntKind.u64.wrap (((IntKind.u64.wrap ((Go.bits .and .u64 ((IntKind.u64.wrap ((Go.bits .and .u64 (a0 / 2) 6148914691236517205) + (Go.bits .and .u64 a0 6148914691236517205))) / 4) 3689348814741910323) + (Go.bits .and .u64 (IntKind.u64.wrap ((Go.bits .and .u64 (a0 / 2) 6148914691236517205) + (Go.bits .and .u64 a0 6148914691236517205))) 3689348814741910323))) / 16) + (IntKind.u64.wrap ((Go.bits .and .u64 ((IntKind.u64.wrap ((Go.bits .and .u64 (a0 / 2) 6148914691236517205) + (Go.bits .and .u64 a0 6148914691236517205))) / 4) 3689348814741910323) + (Go.bits .and .u64 (IntKind.u64.wrap ((Go.bits .and .u64 (a0 / 2) 6148914691236517205) + (Go.bits .and .u64 a0 6148914691236517205))) 3689348814741910323))))) 1085102592571150095) / 256))) + ((IntKind.u64.wrap ((Go.bits .and .u64 (IntKind.u64.wrap (((IntKind.u64.wrap ((Go.bits .and .u64 ((IntKind.u64.wrap ((Go.bits .and .u64 (a0 / 2) 6148914691236517205) + (Go.bits .and .u64 a0 6148914691236517205))) / 4) 3689348814741910323) + (Go.bits .and .u64 (IntKind.u64.wrap ((Go.bits .and .u64 (a0 / 2) 6148914691236517205) + (Go.bits .and .u64 a0 6148914691236517205))) 3689348814741910323))) / 16) + (IntKind.u64.wrap ((Go.bits .and .u64 ((IntKind.u64.wrap ((Go.bits .and .u64 (a0 / 2) 6148914691236517205) + (Go.bits .and .u64 a0 6148914691236517205))) / 4) 3689348814741910323) + (Go.bits .and .u64 (IntKind.u64.wrap ((Go.bits .and .u64 (a0 / 2) 6148914691236517205) + (Go.bits .and .u64 a0 6148914691236517205))) 3689348814741910323))))) 1085102592571150095) + ((Go.bits .and .u64 (IntKind.u64.wrap (((IntKind.u64.wrap ((Go.bits .and .u64 ((IntKind.u64.wrap ((Go.bits .and .u64 (a0 / 2) 6148914691236517205) + (Go.bits .and .u64 a0 6148914691236517205))) / 4) 3689348814741910323) + (Go.bits .and .u64 (IntKind.u64.wrap ((Go.bits .and .u64 (a0 / 2) 6148914691236517205) + (Go.bits .and .u64 a0 6148914691236517205))) 3689348814741910323))) / 16) + (IntKind.u64.wrap ((Go.bits .and .u64 ((IntKind.u64.wrap ((Go.bits .and .u64 (a0 / 2) 6148914691236517205) + (Go.bits .and .u64 a0 6148914691236517205))) / 4) 3689348814741910323) + (Go.bits .and .u64 (IntKind.u64.wrap ((Go.bits .and .u64 (a0 / 2) 6148914691236517205) + (Go.bits .and .u64 a0 6148914691236517205))) 3689348814741910323))))) 1085102592571150095) / 256))) / 65536))) / 4294967296)))) 127)
set_option maxHeartbeats 8000000 in
set_option maxRecDepth 100000 in
theorem bits_OnesCount64.calls (a0 : Int) (r : Int) (w : World) (h : bits_OnesCount64.f a0 = some r) :
  Calls Tryz.prog 84 #[.int .u64 a0] w fun e w' => e = .returned (.int .i64 r) ∧ Drawn0 w w' := by
 have H : (some (Go.bits .and .i64 (wrap64 (IntKind.u64.wrap ((IntKind.u64.wrap ((IntKind.u64.wrap ((Go.bits .and .u64 (IntKind.u64.wrap (((IntKind.u64.wrap ((Go.bits .and .u64 ((IntKind.u64.wrap ((Go.bits .and .u64 (a0 / 2) 6148914691236517205) + (Go.bits .and .u64 a0 6148914691236517205))) / 4) 3689348814741910323) + (Go.bits .and .u64 (IntKind.u64.wrap ((Go.bits .and .u64 (a0 / 2) 6148914691236517205) + (Go.bits .and .u64 a0 6148914691236517205))) 3689348814741910323))) / 16) + (IntKind.u64.wrap ((Go.bits .and .u64 ((IntKind.u64.wrap ((Go.bits .and .u64 (a0 / 2) 6148914691236517205) + (Go.bits .and .u64 a0 6148914691236517205))) / 4) 3689348814741910323) + (Go.bits .and .u64 (IntKind.u64.wrap ((Go.bits .and .u64 (a0 / 2) 6148914691236517205) + (Go.bits .and .u64 a0 6148914691236517205))) 3689348814741910323))))) 1085102592571150095) + ((Go.bits .and .u64 (IntKind.u64.wrap (((IntKind.u64.wrap ((Go.bits .and .u64 ((IntKind.u64.wrap ((Go.bits .and .u64 (a0 / 2) 6148914691236517205) + (Go.bits .and .u64 a0 6148914691236517205))) / 4) 3689348814741910323) + (Go.bits .and .u64 (IntKind.u64.wrap ((Go.bits .and .u64 (a0 / 2) 6148914691236517205) + (Go.bits .and .u64 a0 6148914691236517205))) 3689348814741910323))) / 16) + (IntKind.u64.wrap ((Go.bits .and .u64 ((IntKind.u64.wrap ((Go.bits .and .u64 (a0 / 2) 6148914691236517205) + (Go.bits .and .u64 a0 6148914691236517205))) / 4) 3689348814741910323) + (Go.bits .and .u64 (IntKind.u64.wrap ((Go.bits .and .u64 (a0 / 2) 6148914691236517205) + (Go.bits .and .u64 a0 6148914691236517205))) 3689348814741910323))))) 1085102592571150095) / 256))) + ((IntKind.u64.wrap ((Go.bits .and .u64 (IntKind.u64.wrap (((IntKind.u64.wrap ((Go.bits .and .u64 ((IntKind.u64.wrap ((Go.bits .and .u64 (a0 / 2) 6148914691236517205) + (Go.bits .and .u64 a0 6148914691236517205))) / 4) 3689348814741910323) + (Go.bits .and .u64 (IntKind.u64.wrap ((Go.bits .and .u64 (a0 / 2) 6148914691236517205) + (Go.bits .and .u64 a0 6148914691236517205))) 3689348814741910323))) / 16) + (IntKind.u64.wrap ((Go.bits .and .u64 ((IntKind.u64.wrap ((Go.bits .and .u64 (a0 / 2) 6148914691236517205) + (Go.bits .and .u64 a0 6148914691236517205))) / 4) 3689348814741910323) + (Go.bits .and .u64 (IntKind.u64.wrap ((Go.bits .and .u64 (a0 / 2) 6148914691236517205) + (Go.bits .and .u64 a0 6148914691236517205))) 3689348814741910323))))) 1085102592571150095) + ((Go.bits .and .u64 (IntKind.u64.wrap (((IntKind.u64.wrap ((Go.bits .and .u64 ((IntKind.u64.wrap ((Go.bits .and .u64 (a0 / 2) 6148914691236517205) + (Go.bits .and .u64 a0 6148914691236517205))) / 4) 3689348814741910323) + (Go.bits .and .u64 (IntKind.u64.wrap ((Go.bits .and .u64 (a0 / 2) 6148914691236517205) + (Go.bits .and .u64 a0 6148914691236517205))) 3689348814741910323))) / 16) + (IntKind.u64.wrap ((Go.bits .and .u64 ((IntKind.u64.wrap ((Go.bits .and .u64 (a0 / 2) 6148914691236517205) + (Go.bits .and .u64 a0 6148914691236517205))) / 4) 3689348814741910323) + (Go.bits .and .u64 (IntKind.u64.wrap ((Go.bits .and .u64 (a0 / 2) 6148914691236517205) + (Go.bits .and .u64 a0 6148914691236517205))) 3689348814741910323))))) 1085102592571150095) / 256))) / 65536))) + ((IntKind.u64.wrap ((IntKind.u64.wrap ((Go.bits .and .u64 (IntKind.u64.wrap (((IntKind.u64.wrap ((Go.bits .and .u64 ((IntKind.u64.wrap ((Go.bits .and .u64 (a0 / 2) 6148914691236517205) + (Go.bits .and .u64 a0 6148914691236517205))) / 4) 3689348814741910323) + (Go.bits .and .u64 (IntKind.u64.wrap ((Go.bits .and .u64 (a0 / 2) 6148914691236517205) + (Go.bits .and .u64 a0 6148914691236517205))) 3689348814741910323))) / 16) + (IntKind.u64.wrap ((Go.bits .and .u64 ((IntKind.u64.wrap ((Go.bits .and .u64 (a0 / 2) 6148914691236517205) + (Go.bits .and .u64 a0 6148914691236517205))) / 4) 3689348814741910323) + (Go.bits .and .u64 (IntKind.u64.wrap ((Go.bits .and .u64 (a0 / 2) 6148914691236517205) + (Go.bits .and .u64 a0 6148914691236517205))) 3689348814741910323))))) 1085102592571150095) + ((Go.bits .and .u64 (IntKind.u64.wrap (((IntKind.u64.wrap ((Go.bits .and .u64 ((IntKind.u64.wrap ((Go.bits .and .u64 (a0 / 2) 6148914691236517205) + (Go.bits .and .u64 a0 6148914691236517205))) / 4) 3689348814741910323) + (Go.bits .and .u64 (IntKind.u64.wrap ((Go.bits .and .u64 (a0 / 2) 6148914691236517205) + (Go.bits .and .u64 a0 6148914691236517205))) 3689348814741910323))) / 16) + (IntKind.u64.wrap ((Go.bits .and .u64 ((IntKind.u64.wrap ((Go.bits .and .u64 (a0 / 2) 6148914691236517205) + (Go.bits .and .u64 a0 6148914691236517205))) / 4) 3689348814741910323) + (Go.bits .and .u64 (IntKind.u64.wrap ((Go.bits .and .u64 (a0 / 2) 6148914691236517205) + (Go.bits .and .u64 a0 6148914691236517205))) 3689348814741910323))))) 1085102592571150095) / 256))) + ((IntKind.u64.wrap ((Go.bits .and .u64 (IntKind.u64.wrap (((IntKind.u64.wrap ((Go.bits .and .u64 ((IntKind.u64.wrap ((Go.bits .and .u64 (a0 / 2) 6148914691236517205) + (Go.bits .and .u64 a0 6148914691236517205))) / 4) 3689348814741910323) + (Go.bits .and .u64 (IntKind.u64.wrap ((Go.bits .and .u64 (a0 / 2) 6148914691236517205) + (Go.bits .and .u64 a0 6148914691236517205))) 3689348814741910323))) / 16) + (IntKind.u64.wrap ((Go.bits .and .u64 ((IntKind.u64.wrap ((Go.bits .and .u64 (a0 / 2) 6148914691236517205) + (Go.bits .and .u64 a0 6148914691236517205))) / 4) 3689348814741910323) + (Go.bits .and .u64 (IntKind.u64.wrap ((Go.bits .and .u64 (a0 / 2) 6148914691236517205) + (Go.bits .and .u64 a0 6148914691236517205))) 3689348814741910323))))) 1085102592571150095) + ((Go.bits .and .u64 (IntKind.u64.wrap (((IntKind.u64.wrap ((Go.bits .and .u64 ((IntKind.u64.wrap ((Go.bits .and .u64 (a0 / 2) 6148914691236517205) + (Go.bits .and .u64 a0 6148914691236517205))) / 4) 3689348814741910323) + (Go.bits .and .u64 (IntKind.u64.wrap ((Go.bits .and .u64 (a0 / 2) 6148914691236517205) + (Go.bits .and .u64 a0 6148914691236517205))) 3689348814741910323))) / 16) + (IntKind.u64.wrap ((Go.bits .and .u64 ((IntKind.u64.wrap ((Go.bits .and .u64 (a0 / 2) 6148914691236517205) + (Go.bits .and .u64 a0 6148914691236517205))) / 4) 3689348814741910323) + (Go.bits .and .u64 (IntKind.u64.wrap ((Go.bits .and .u64 (a0 / 2) 6148914691236517205) + (Go.bits .and .u64 a0 6148914691236517205))) 3689348814741910323))))) 1085102592571150095) / 256))) / 65536))) / 4294967296)))) 127)) = some r := h
 clear h
 obtain rfl := Option.some.inj H
 go_enter Tryz.func84, Tryz.ntmps84
 go_wp2
 go_ret
 exact ⟨by first | rfl | (simp; done) | (simp [*]; done), by repeat (first | exact Drawn0.refl _ | apply Drawn0.step)⟩
def impl_size.f (a0 : Int) : Option (Int) := (bits_OnesCount64.f (IntKind.u64.wrap (a0))).bind fun t101 => (some t101)
set_option maxHeartbeats 8000000 in
set_option maxRecDepth 100000 in
theorem impl_size.calls (a0 : Int) (r : Int) (w : World) (h : impl_size.f a0 = some r) :
  Calls Tryz.prog 68 #[.int .i64 a0] w fun e w' => e = .returned (.int .i64 r) ∧ Drawn0 w w' := by
 have H : ((bits_OnesCount64.f (IntKind.u64.wrap (a0))).bind fun t101 => (some t101)) = some r := h
 clear h
 replace H := Option.bind_eq_some_iff.mp H
 obtain ⟨t101, A20, H⟩ := H
 try dsimp only at H
 have A2 := Aside0.mk A20
 clear A20
 obtain rfl := Option.some.inj H
 go_enter Tryz.func68, Tryz.ntmps68
 go_wp2_with (first | ((with_reducible refine gate_callee (f := 84) rfl ?_); refine cl_ (some 5) Tryz.func84 #[.int .u64 (IntKind.u64.wrap (a0))] ?_; (with_reducible refine (bits_OnesCount64.calls (IntKind.u64.wrap (a0)) t101 _ A2.out).mono ?_); rintro e w' ⟨rfl, ⟨nd, rfl⟩⟩; refine ⟨_, rfl, ?_⟩))
 go_ret
 exact ⟨by first | rfl | (simp; done) | (simp [*]; done), by repeat (first | exact Drawn0.refl _ | apply Drawn0.step)⟩
def impl_Complex_isPair.f (a0_0 : Int) (l0_1 : List Int) (a1_0 : Int) (a1_1 : Int) : Option (Bool) := (impl_Complex_has.f a0_0 l0_1 a1_0).bind fun t104 => (if t104 = true then ((impl_Complex_has.f a0_0 l0_1 a1_1).bind fun t105 => (if t105 = true then ((impl_isIn.f a1_0 a1_1).bind fun t106 => (if t106 = true then ((impl_size.f a1_1).bind fun t107 => ((impl_size.f a1_0).bind fun t108 => (some (t107 == (wrap64 (t108 + 1)))))) else (some false))) else (some false))) else (some false))
def impl_Complex_isPair.T1 : Bool × List (List Nat × List Nat) := (true, [([], []), ([], []), ([1], [1]), ([0, 2], [0, 2]), ([3, 3], [3]), ([4], [4]), ([4], [4]), ([6, 4], [4, 6]), ([5, 7, 4, 4], [4, 5, 7]), ([4, 8], [4, 8]), ([9, 8], [9]), ([10], [10]), ([11, 10], [10, 11]), ([10], [10]), ([13, 10], [10, 13]), ([12, 14, 10, 10], [10, 12, 14]), ([10, 15], [10, 15]), ([16, 15], [16]), ([17], [17]), ([18, 17], [17, 18]), ([19, 17, 17], [17, 19]), ([17], [17]), ([21, 17], [17, 21]), ([22, 20, 17], [17, 22]), ([23, 17], [17, 23]), ([20, 24, 17], [17, 20, 24]), ([17, 25], [17, 25]), ([26, 23, 0, 1, 2, 3, 4, 5, 6, 7, 8, 9, 10, 11, 12, 13, 14, 15, 16, 17, 18, 19, 20, 21, 22, 23, 24, 25, 26], [26])])
def impl_Complex_isPair.B1 : List Nat := [0, 0, 2, 7, 15, 31, 31, 95, 255, 511, 1023, 2047, 4095, 2047, 10239, 32767, 65535, 131071, 262143, 524287, 1048575, 262143, 2359295, 8388607, 16777215, 33554431, 67108863, 134217727]
theorem impl_Complex_isPair.tab1 : rtab .any (opsOf Tryz.f80 1) = impl_Complex_isPair.T1 := by kernel_rfl
theorem impl_Complex_isPair.bits1 : waitsOk impl_Complex_isPair.T1.2 impl_Complex_isPair.B1 = true := by kernel_rfl
set_option maxHeartbeats 8000000 in
set_option maxRecDepth 100000 in
theorem impl_Complex_isPair.calls (a0_0 : Int) (A0_1 : Option Addr) (c0_1 : Nat) (l0_1 : List Int) (a1_0 : Int) (a1_1 : Int) (r : Bool) (w : World) (hr0_1 : Kd.C (Kd.int .i64) w A0_1 l0_1.length l0_1) (hc0_1 : l0_1.length ≤ c0_1) (h : impl_Complex_isPair.f a0_0 l0_1 a1_0 a1_1 = some r) :
  Calls Tryz.prog 80 #[.agg #[.int .i64 a0_0, .slice A0_1 l0_1.length c0_1], .agg #[.int .i64 a1_0, .int .i64 a1_1]] w fun e w' => e = .returned (.bool r) ∧ Below w.heap.size w w' := by
 have hu30 := Tryz.underlying30
 have hu46 := Tryz.underlying46
 have HR0_1 := Aside0.mk hr0_1
 have HC0_1 := Aside0.mk hc0_1
 clear hr0_1 hc0_1
 have HB := Aside0.mk (Below.refl w.heap.size w)
 have H : ((impl_Complex_has.f a0_0 l0_1 a1_0).bind fun t104 => (if t104 = true then ((impl_Complex_has.f a0_0 l0_1 a1_1).bind fun t105 => (if t105 = true then ((impl_isIn.f a1_0 a1_1).bind fun t106 => (if t106 = true then ((impl_size.f a1_1).bind fun t107 => ((impl_size.f a1_0).bind fun t108 => (some (t107 == (wrap64 (t108 + 1)))))) else (some false))) else (some false))) else (some false))) = some r := h
 clear h
 replace H := Option.bind_eq_some_iff.mp H
 obtain ⟨t104, A30, H⟩ := H
 try dsimp only at H
 have A3 := Aside0.mk A30
 clear A30
 by_cases c4 : t104 = true
 ·subst c4
  have H1 : ((impl_Complex_has.f a0_0 l0_1 a1_1).bind fun t105 => (if t105 = true then ((impl_isIn.f a1_0 a1_1).bind fun t106 => (if t106 = true then ((impl_size.f a1_1).bind fun t107 => ((impl_size.f a1_0).bind fun t108 => (some (t107 == (wrap64 (t108 + 1)))))) else (some false))) else (some false))) = some r := by rw [if_pos rfl] at H; exact H
  clear H
  have H := H1
  clear H1
  replace H := Option.bind_eq_some_iff.mp H
  obtain ⟨t105, A50, H⟩ := H
  try dsimp only at H
  have A5 := Aside0.mk A50
  clear A50
  by_cases c6 : t105 = true
  ·subst c6
   have H1 : ((impl_isIn.f a1_0 a1_1).bind fun t106 => (if t106 = true then ((impl_size.f a1_1).bind fun t107 => ((impl_size.f a1_0).bind fun t108 => (some (t107 == (wrap64 (t108 + 1)))))) else (some false))) = some r := by rw [if_pos rfl] at H; exact H
   clear H
   have H := H1
   clear H1
   replace H := Option.bind_eq_some_iff.mp H
   obtain ⟨t106, A70, H⟩ := H
   try dsimp only at H
   have A7 := Aside0.mk A70
   clear A70
   by_cases c8 : t106 = true
   ·subst c8
    have H1 : ((impl_size.f a1_1).bind fun t107 => ((impl_size.f a1_0).bind fun t108 => (some (t107 == (wrap64 (t108 + 1)))))) = some r := by rw [if_pos rfl] at H; exact H
    clear H
    have H := H1
    clear H1
    replace H := Option.bind_eq_some_iff.mp H
    obtain ⟨t107, A90, H⟩ := H
    try dsimp only at H
    have A9 := Aside0.mk A90
    clear A90
    replace H := Option.bind_eq_some_iff.mp H
    obtain ⟨t108, A100, H⟩ := H
    try dsimp only at H
    have A10 := Aside0.mk A100
    clear A100
    obtain rfl := Option.some.inj H
    go_enter Tryz.func80, Tryz.ntmps80
    try go_wp2_with (first | ((with_reducible refine gate_dst (N := 2) rfl ?_); refine box_event ?hg (N := 2) ?hd (cs := #[.int .i64 a0_0, .slice A0_1 l0_1.length c0_1]) (t := 30) ?hr ?_; (case hd => rfl); (case hg => rfl); (case hr => first | (go_simp; done) | (go_simp; rfl)); intro gb102 hg w11 hbox hb; have BK102 := Aside0.mk (hbox); have GW102 := gH HB hg; have GE102 := gH HB hg; replace HB := sH HB hb; clear hb hbox hg) | ((with_reducible refine gate_dst (N := 3) rfl ?_); refine box_event ?hg (N := 3) ?hd (cs := #[.int .i64 a1_0, .int .i64 a1_1]) (t := 46) ?hr ?_; (case hd => rfl); (case hg => rfl); (case hr => first | (go_simp; done) | (go_simp; rfl)); intro gb103 hg w12 hbox hb; have BK103 := Aside0.mk (hbox); have GW103 := gH HB hg; have GE103 := gH HB hg; replace HB := sH HB hb; have NB102_103 := nB BK102 hg; have NB103_102 := oB BK102 hg; replace BK102 := sB BK102 hb; clear hb hbox hg))
    replace BK102 := dB BK102
    replace BK103 := dB BK103
    replace HB := dH HB
    refine st_ 28 (S := fun w' => w'.cell? ⟨gb102, 0, none⟩ = some (.int .i64 a0_0) ∧ w'.cell? ⟨gb102, 1, none⟩ = some (.slice A0_1 l0_1.length c0_1) ∧ w'.cell? ⟨gb103, 0, none⟩ = some (.int .i64 a1_0) ∧ w'.cell? ⟨gb103, 1, none⟩ = some (.int .i64 a1_1)) (ds := []) ⟨cB BK102 0, cB BK102 1, cB BK103 0, cB BK103 1⟩ (fun hHeld => ?_); refine with_tabW impl_Complex_isPair.tab1 impl_Complex_isPair.bits1 (fun HT_ HW_ => ?_)
    generalize w12.drew = w13 at BK102 BK103 HB hHeld ⊢
    refine pu_ 1 6 2 HT_ ?_
    refine tk_ 0 5 3 HT_ HW_ hHeld ?_
    refine tk_ 2 7 7 HT_ HW_ hHeld ?_
    refine on_ 3 (some 8) 15 HT_ (fun K hK => ?_)
    refine ca_ Tryz.func102 #[.agg #[.int .i64 a0_0, .slice A0_1 l0_1.length c0_1], .int .i64 a1_0] ?_
    with_reducible refine (impl_Complex_has.calls a0_0 _ _ l0_1 a1_0 true _ ?side1 ?side2 A3.out).mono ?_
    (case side1 => exact pC ((Kd.C_below HR0_1.out HB.out)))
    (case side2 => exact HC0_1.out)
    rintro e w14 ⟨rfl, hb⟩
    refine ⟨_, rfl, ?_⟩
    replace BK102 := sB BK102 hb
    replace BK103 := sB BK103 hb
    replace HB := sH HB hb
    (try clear hb)
    (try clear hb2)
    (try clear hk)
    (try clear hi)
    refine hK.out _ _ ⟨cB BK102 0, cB BK102 1, cB BK103 0, cB BK103 1⟩ (fun hHeld => ?_)
    clear hK K
    refine nm_ ?_
    refine pu_ 4 9 31 HT_ ?_
    refine pu_ 6 11 95 HT_ ?_
    refine tk_ 5 10 127 HT_ HW_ hHeld ?_
    refine tk_ 7 12 255 HT_ HW_ hHeld ?_
    refine on_ 8 (some 13) 511 HT_ (fun K hK => ?_)
    refine ca_ Tryz.func102 #[.agg #[.int .i64 a0_0, .slice A0_1 l0_1.length c0_1], .int .i64 a1_1] ?_
    with_reducible refine (impl_Complex_has.calls a0_0 _ _ l0_1 a1_1 true _ ?side1 ?side2 A5.out).mono ?_
    (case side1 => exact pC ((Kd.C_below HR0_1.out HB.out)))
    (case side2 => exact HC0_1.out)
    rintro e w15 ⟨rfl, hb⟩
    refine ⟨_, rfl, ?_⟩
    replace BK102 := sB BK102 hb
    replace BK103 := sB BK103 hb
    replace HB := sH HB hb
    (try clear hb)
    (try clear hb2)
    (try clear hk)
    (try clear hi)
    refine hK.out _ _ ⟨cB BK102 0, cB BK102 1, cB BK103 0, cB BK103 1⟩ (fun hHeld => ?_)
    clear hK K
    refine nm_ ?_
    refine pu_ 9 14 1023 HT_ ?_
    refine pu_ 10 15 2047 HT_ ?_
    refine pu_ 11 16 4095 HT_ ?_
    refine pu_ 13 18 12287 HT_ ?_
    refine tk_ 12 17 16383 HT_ HW_ hHeld ?_
    refine tk_ 14 19 32767 HT_ HW_ hHeld ?_
    refine on_ 15 (some 20) 65535 HT_ (fun K hK => ?_)
    refine ca_ Tryz.func103 #[.int .i64 a1_0, .int .i64 a1_1] ?_
    with_reducible refine (impl_isIn.calls a1_0 a1_1 true _ A7.out).mono ?_
    rintro e w16 ⟨rfl, hb⟩
    refine ⟨_, rfl, ?_⟩
    replace BK102 := sB BK102 hb
    replace BK103 := sB BK103 hb
    replace HB := sH HB hb
    (try clear hb)
    (try clear hb2)
    (try clear hk)
    (try clear hi)
    refine hK.out _ _ ⟨cB BK102 0, cB BK102 1, cB BK103 0, cB BK103 1⟩ (fun hHeld => ?_)
    clear hK K
    refine nm_ ?_
    refine pu_ 16 21 131071 HT_ ?_
    refine pu_ 17 22 262143 HT_ ?_
    refine pu_ 18 23 524287 HT_ ?_
    refine pu_ 21 26 2621439 HT_ ?_
    refine tk_ 19 24 3145727 HT_ HW_ hHeld ?_
    refine tk_ 22 27 7340031 HT_ HW_ hHeld ?_
    refine on_ 20 (some 25) 8388607 HT_ (fun K hK => ?_)
    refine ca_ Tryz.func68 #[.int .i64 a1_1] ?_
    with_reducible refine (impl_size.calls a1_1 t107 _ A9.out).mono ?_
    rintro e w' ⟨rfl, ⟨nd, rfl⟩⟩
    refine ⟨_, rfl, ?_⟩
    refine hK.out _ _ ⟨cB BK102 0, cB BK102 1, cB BK103 0, cB BK103 1⟩ (fun hHeld => ?_)
    clear hK K
    refine nm_ ?_
    refine on_ 23 (some 28) 16777215 HT_ (fun K hK => ?_)
    refine ca_ Tryz.func68 #[.int .i64 a1_0] ?_
    with_reducible refine (impl_size.calls a1_0 t108 _ A10.out).mono ?_
    rintro e w' ⟨rfl, ⟨nd, rfl⟩⟩
    refine ⟨_, rfl, ?_⟩
    refine hK.out _ _ ⟨cB BK102 0, cB BK102 1, cB BK103 0, cB BK103 1⟩ (fun hHeld => ?_)
    clear hK K
    refine nm_ ?_
    refine pu_ 24 29 33554431 HT_ ?_
    refine pu_ 25 30 67108863 HT_ ?_
    refine pu_ 26 31 134217727 HT_ ?_
    refine pu_ 27 4 268435455 HT_ ?_
    refine dn_ HT_ ?_
    try go_wp2
    go_ret
    exact ⟨by first | rfl | (simp [errW_none, errW_some] <;> rfl) | (simp [*, errW_none, errW_some] <;> rfl) | (exfalso; simp_all), pH HB⟩
   ·replace c8 := Bool.eq_false_iff.mpr c8
    subst c8
    have H1 : (some false) = some r := by rw [if_neg (show ¬ (false = true) by decide)] at H; exact H
    clear H
    have H := H1
    clear H1
    obtain rfl := Option.some.inj H
    go_enter Tryz.func80, Tryz.ntmps80
    try go_wp2_with (first | ((with_reducible refine gate_dst (N := 2) rfl ?_); refine box_event ?hg (N := 2) ?hd (cs := #[.int .i64 a0_0, .slice A0_1 l0_1.length c0_1]) (t := 30) ?hr ?_; (case hd => rfl); (case hg => rfl); (case hr => first | (go_simp; done) | (go_simp; rfl)); intro gb102 hg w17 hbox hb; have BK102 := Aside0.mk (hbox); have GW102 := gH HB hg; have GE102 := gH HB hg; replace HB := sH HB hb; clear hb hbox hg) | ((with_reducible refine gate_dst (N := 3) rfl ?_); refine box_event ?hg (N := 3) ?hd (cs := #[.int .i64 a1_0, .int .i64 a1_1]) (t := 46) ?hr ?_; (case hd => rfl); (case hg => rfl); (case hr => first | (go_simp; done) | (go_simp; rfl)); intro gb103 hg w18 hbox hb; have BK103 := Aside0.mk (hbox); have GW103 := gH HB hg; have GE103 := gH HB hg; replace HB := sH HB hb; have NB102_103 := nB BK102 hg; have NB103_102 := oB BK102 hg; replace BK102 := sB BK102 hb; clear hb hbox hg))
    replace BK102 := dB BK102
    replace BK103 := dB BK103
    replace HB := dH HB
    refine st_ 28 (S := fun w' => w'.cell? ⟨gb102, 0, none⟩ = some (.int .i64 a0_0) ∧ w'.cell? ⟨gb102, 1, none⟩ = some (.slice A0_1 l0_1.length c0_1) ∧ w'.cell? ⟨gb103, 0, none⟩ = some (.int .i64 a1_0) ∧ w'.cell? ⟨gb103, 1, none⟩ = some (.int .i64 a1_1)) (ds := []) ⟨cB BK102 0, cB BK102 1, cB BK103 0, cB BK103 1⟩ (fun hHeld => ?_); refine with_tabW impl_Complex_isPair.tab1 impl_Complex_isPair.bits1 (fun HT_ HW_ => ?_)
    generalize w18.drew = w19 at BK102 BK103 HB hHeld ⊢
    refine pu_ 1 6 2 HT_ ?_
    refine tk_ 0 5 3 HT_ HW_ hHeld ?_
    refine tk_ 2 7 7 HT_ HW_ hHeld ?_
    refine on_ 3 (some 8) 15 HT_ (fun K hK => ?_)
    refine ca_ Tryz.func102 #[.agg #[.int .i64 a0_0, .slice A0_1 l0_1.length c0_1], .int .i64 a1_0] ?_
    with_reducible refine (impl_Complex_has.calls a0_0 _ _ l0_1 a1_0 true _ ?side1 ?side2 A3.out).mono ?_
    (case side1 => exact pC ((Kd.C_below HR0_1.out HB.out)))
    (case side2 => exact HC0_1.out)
    rintro e w20 ⟨rfl, hb⟩
    refine ⟨_, rfl, ?_⟩
    replace BK102 := sB BK102 hb
    replace BK103 := sB BK103 hb
    replace HB := sH HB hb
    (try clear hb)
    (try clear hb2)
    (try clear hk)
    (try clear hi)
    refine hK.out _ _ ⟨cB BK102 0, cB BK102 1, cB BK103 0, cB BK103 1⟩ (fun hHeld => ?_)
    clear hK K
    refine nm_ ?_
    refine pu_ 4 9 31 HT_ ?_
    refine pu_ 6 11 95 HT_ ?_
    refine tk_ 5 10 127 HT_ HW_ hHeld ?_
    refine tk_ 7 12 255 HT_ HW_ hHeld ?_
    refine on_ 8 (some 13) 511 HT_ (fun K hK => ?_)
    refine ca_ Tryz.func102 #[.agg #[.int .i64 a0_0, .slice A0_1 l0_1.length c0_1], .int .i64 a1_1] ?_
    with_reducible refine (impl_Complex_has.calls a0_0 _ _ l0_1 a1_1 true _ ?side1 ?side2 A5.out).mono ?_
    (case side1 => exact pC ((Kd.C_below HR0_1.out HB.out)))
    (case side2 => exact HC0_1.out)
    rintro e w21 ⟨rfl, hb⟩
    refine ⟨_, rfl, ?_⟩
    replace BK102 := sB BK102 hb
    replace BK103 := sB BK103 hb
    replace HB := sH HB hb
    (try clear hb)
    (try clear hb2)
    (try clear hk)
    (try clear hi)
    refine hK.out _ _ ⟨cB BK102 0, cB BK102 1, cB BK103 0, cB BK103 1⟩ (fun hHeld => ?_)
    clear hK K
    refine nm_ ?_
    refine pu_ 9 14 1023 HT_ ?_
    refine pu_ 10 15 2047 HT_ ?_
    refine pu_ 11 16 4095 HT_ ?_
    refine pu_ 13 18 12287 HT_ ?_
    refine tk_ 12 17 16383 HT_ HW_ hHeld ?_
    refine tk_ 14 19 32767 HT_ HW_ hHeld ?_
    refine on_ 15 (some 20) 65535 HT_ (fun K hK => ?_)
    refine ca_ Tryz.func103 #[.int .i64 a1_0, .int .i64 a1_1] ?_
    with_reducible refine (impl_isIn.calls a1_0 a1_1 false _ A7.out).mono ?_
    rintro e w22 ⟨rfl, hb⟩
    refine ⟨_, rfl, ?_⟩
    replace BK102 := sB BK102 hb
    replace BK103 := sB BK103 hb
    replace HB := sH HB hb
    (try clear hb)
    (try clear hb2)
    (try clear hk)
    (try clear hi)
    refine hK.out _ _ ⟨cB BK102 0, cB BK102 1, cB BK103 0, cB BK103 1⟩ (fun hHeld => ?_)
    clear hK K
    refine nm_ ?_
    refine pu_ 16 21 131071 HT_ ?_
    refine pu_ 17 22 262143 HT_ ?_
    refine pn_ 18 23 524287 HT_ ?_
    refine pn_ 19 24 1048575 HT_ ?_
    refine pn_ 20 25 2097151 HT_ ?_
    refine pn_ 21 26 4194303 HT_ ?_
    refine pn_ 22 27 8388607 HT_ ?_
    refine pn_ 23 28 16777215 HT_ ?_
    refine pn_ 24 29 33554431 HT_ ?_
    refine pn_ 25 30 67108863 HT_ ?_
    refine pu_ 26 31 134217727 HT_ ?_
    refine pu_ 27 4 268435455 HT_ ?_
    refine dn_ HT_ ?_
    try go_wp2
    go_ret
    exact ⟨by first | rfl | (simp [errW_none, errW_some] <;> rfl) | (simp [*, errW_none, errW_some] <;> rfl) | (exfalso; simp_all), pH HB⟩
  ·replace c6 := Bool.eq_false_iff.mpr c6
   subst c6
   have H1 : (some false) = some r := by rw [if_neg (show ¬ (false = true) by decide)] at H; exact H
   clear H
   have H := H1
   clear H1
   obtain rfl := Option.some.inj H
   go_enter Tryz.func80, Tryz.ntmps80
   try go_wp2_with (first | ((with_reducible refine gate_dst (N := 2) rfl ?_); refine box_event ?hg (N := 2) ?hd (cs := #[.int .i64 a0_0, .slice A0_1 l0_1.length c0_1]) (t := 30) ?hr ?_; (case hd => rfl); (case hg => rfl); (case hr => first | (go_simp; done) | (go_simp; rfl)); intro gb102 hg w23 hbox hb; have BK102 := Aside0.mk (hbox); have GW102 := gH HB hg; have GE102 := gH HB hg; replace HB := sH HB hb; clear hb hbox hg) | ((with_reducible refine gate_dst (N := 3) rfl ?_); refine box_event ?hg (N := 3) ?hd (cs := #[.int .i64 a1_0, .int .i64 a1_1]) (t := 46) ?hr ?_; (case hd => rfl); (case hg => rfl); (case hr => first | (go_simp; done) | (go_simp; rfl)); intro gb103 hg w24 hbox hb; have BK103 := Aside0.mk (hbox); have GW103 := gH HB hg; have GE103 := gH HB hg; replace HB := sH HB hb; have NB102_103 := nB BK102 hg; have NB103_102 := oB BK102 hg; replace BK102 := sB BK102 hb; clear hb hbox hg))
   replace BK102 := dB BK102
   replace BK103 := dB BK103
   replace HB := dH HB
   refine st_ 28 (S := fun w' => w'.cell? ⟨gb102, 0, none⟩ = some (.int .i64 a0_0) ∧ w'.cell? ⟨gb102, 1, none⟩ = some (.slice A0_1 l0_1.length c0_1) ∧ w'.cell? ⟨gb103, 0, none⟩ = some (.int .i64 a1_0) ∧ w'.cell? ⟨gb103, 1, none⟩ = some (.int .i64 a1_1)) (ds := []) ⟨cB BK102 0, cB BK102 1, cB BK103 0, cB BK103 1⟩ (fun hHeld => ?_); refine with_tabW impl_Complex_isPair.tab1 impl_Complex_isPair.bits1 (fun HT_ HW_ => ?_)
   generalize w24.drew = w25 at BK102 BK103 HB hHeld ⊢
   refine pu_ 1 6 2 HT_ ?_
   refine tk_ 0 5 3 HT_ HW_ hHeld ?_
   refine tk_ 2 7 7 HT_ HW_ hHeld ?_
   refine on_ 3 (some 8) 15 HT_ (fun K hK => ?_)
   refine ca_ Tryz.func102 #[.agg #[.int .i64 a0_0, .slice A0_1 l0_1.length c0_1], .int .i64 a1_0] ?_
   with_reducible refine (impl_Complex_has.calls a0_0 _ _ l0_1 a1_0 true _ ?side1 ?side2 A3.out).mono ?_
   (case side1 => exact pC ((Kd.C_below HR0_1.out HB.out)))
   (case side2 => exact HC0_1.out)
   rintro e w26 ⟨rfl, hb⟩
   refine ⟨_, rfl, ?_⟩
   replace BK102 := sB BK102 hb
   replace BK103 := sB BK103 hb
   replace HB := sH HB hb
   (try clear hb)
   (try clear hb2)
   (try clear hk)
   (try clear hi)
   refine hK.out _ _ ⟨cB BK102 0, cB BK102 1, cB BK103 0, cB BK103 1⟩ (fun hHeld => ?_)
   clear hK K
   refine nm_ ?_
   refine pu_ 4 9 31 HT_ ?_
   refine pu_ 6 11 95 HT_ ?_
   refine tk_ 5 10 127 HT_ HW_ hHeld ?_
   refine tk_ 7 12 255 HT_ HW_ hHeld ?_
   refine on_ 8 (some 13) 511 HT_ (fun K hK => ?_)
   refine ca_ Tryz.func102 #[.agg #[.int .i64 a0_0, .slice A0_1 l0_1.length c0_1], .int .i64 a1_1] ?_
   with_reducible refine (impl_Complex_has.calls a0_0 _ _ l0_1 a1_1 false _ ?side1 ?side2 A5.out).mono ?_
   (case side1 => exact pC ((Kd.C_below HR0_1.out HB.out)))
   (case side2 => exact HC0_1.out)
   rintro e w27 ⟨rfl, hb⟩
   refine ⟨_, rfl, ?_⟩
   replace BK102 := sB BK102 hb
   replace BK103 := sB BK103 hb
   replace HB := sH HB hb
   (try clear hb)
   (try clear hb2)
   (try clear hk)
   (try clear hi)
   refine hK.out _ _ ⟨cB BK102 0, cB BK102 1, cB BK103 0, cB BK103 1⟩ (fun hHeld => ?_)
   clear hK K
   refine nm_ ?_
   refine pu_ 9 14 1023 HT_ ?_
   refine pu_ 10 15 2047 HT_ ?_
   refine pn_ 11 16 4095 HT_ ?_
   refine pn_ 12 17 8191 HT_ ?_
   refine pn_ 13 18 16383 HT_ ?_
   refine pn_ 14 19 32767 HT_ ?_
   refine pn_ 15 20 65535 HT_ ?_
   refine pu_ 16 21 131071 HT_ ?_
   refine pu_ 17 22 262143 HT_ ?_
   refine pn_ 18 23 524287 HT_ ?_
   refine pn_ 19 24 1048575 HT_ ?_
   refine pn_ 20 25 2097151 HT_ ?_
   refine pn_ 21 26 4194303 HT_ ?_
   refine pn_ 22 27 8388607 HT_ ?_
   refine pn_ 23 28 16777215 HT_ ?_
   refine pn_ 24 29 33554431 HT_ ?_
   refine pn_ 25 30 67108863 HT_ ?_
   refine pu_ 26 31 134217727 HT_ ?_
   refine pu_ 27 4 268435455 HT_ ?_
   refine dn_ HT_ ?_
   try go_wp2
   go_ret
   exact ⟨by first | rfl | (simp [errW_none, errW_some] <;> rfl) | (simp [*, errW_none, errW_some] <;> rfl) | (exfalso; simp_all), pH HB⟩
 ·replace c4 := Bool.eq_false_iff.mpr c4
  subst c4
  have H1 : (some false) = some r := by rw [if_neg (show ¬ (false = true) by decide)] at H; exact H
  clear H
  have H := H1
  clear H1
  obtain rfl := Option.some.inj H
  go_enter Tryz.func80, Tryz.ntmps80
  try go_wp2_with (first | ((with_reducible refine gate_dst (N := 2) rfl ?_); refine box_event ?hg (N := 2) ?hd (cs := #[.int .i64 a0_0, .slice A0_1 l0_1.length c0_1]) (t := 30) ?hr ?_; (case hd => rfl); (case hg => rfl); (case hr => first | (go_simp; done) | (go_simp; rfl)); intro gb102 hg w28 hbox hb; have BK102 := Aside0.mk (hbox); have GW102 := gH HB hg; have GE102 := gH HB hg; replace HB := sH HB hb; clear hb hbox hg) | ((with_reducible refine gate_dst (N := 3) rfl ?_); refine box_event ?hg (N := 3) ?hd (cs := #[.int .i64 a1_0, .int .i64 a1_1]) (t := 46) ?hr ?_; (case hd => rfl); (case hg => rfl); (case hr => first | (go_simp; done) | (go_simp; rfl)); intro gb103 hg w29 hbox hb; have BK103 := Aside0.mk (hbox); have GW103 := gH HB hg; have GE103 := gH HB hg; replace HB := sH HB hb; have NB102_103 := nB BK102 hg; have NB103_102 := oB BK102 hg; replace BK102 := sB BK102 hb; clear hb hbox hg))
  replace BK102 := dB BK102
  replace BK103 := dB BK103
  replace HB := dH HB
  refine st_ 28 (S := fun w' => w'.cell? ⟨gb102, 0, none⟩ = some (.int .i64 a0_0) ∧ w'.cell? ⟨gb102, 1, none⟩ = some (.slice A0_1 l0_1.length c0_1) ∧ w'.cell? ⟨gb103, 0, none⟩ = some (.int .i64 a1_0) ∧ w'.cell? ⟨gb103, 1, none⟩ = some (.int .i64 a1_1)) (ds := []) ⟨cB BK102 0, cB BK102 1, cB BK103 0, cB BK103 1⟩ (fun hHeld => ?_); refine with_tabW impl_Complex_isPair.tab1 impl_Complex_isPair.bits1 (fun HT_ HW_ => ?_)
  generalize w29.drew = w30 at BK102 BK103 HB hHeld ⊢
  refine pu_ 1 6 2 HT_ ?_
  refine tk_ 0 5 3 HT_ HW_ hHeld ?_
  refine tk_ 2 7 7 HT_ HW_ hHeld ?_
  refine on_ 3 (some 8) 15 HT_ (fun K hK => ?_)
  refine ca_ Tryz.func102 #[.agg #[.int .i64 a0_0, .slice A0_1 l0_1.length c0_1], .int .i64 a1_0] ?_
  with_reducible refine (impl_Complex_has.calls a0_0 _ _ l0_1 a1_0 false _ ?side1 ?side2 A3.out).mono ?_
  (case side1 => exact pC ((Kd.C_below HR0_1.out HB.out)))
  (case side2 => exact HC0_1.out)
  rintro e w31 ⟨rfl, hb⟩
  refine ⟨_, rfl, ?_⟩
  replace BK102 := sB BK102 hb
  replace BK103 := sB BK103 hb
  replace HB := sH HB hb
  (try clear hb)
  (try clear hb2)
  (try clear hk)
  (try clear hi)
  refine hK.out _ _ ⟨cB BK102 0, cB BK102 1, cB BK103 0, cB BK103 1⟩ (fun hHeld => ?_)
  clear hK K
  refine nm_ ?_
  refine pu_ 4 9 31 HT_ ?_
  refine pn_ 5 10 63 HT_ ?_
  refine pn_ 6 11 127 HT_ ?_
  refine pn_ 7 12 255 HT_ ?_
  refine pn_ 8 13 511 HT_ ?_
  refine pu_ 9 14 1023 HT_ ?_
  refine pu_ 10 15 2047 HT_ ?_
  refine pn_ 11 16 4095 HT_ ?_
  refine pn_ 12 17 8191 HT_ ?_
  refine pn_ 13 18 16383 HT_ ?_
  refine pn_ 14 19 32767 HT_ ?_
  refine pn_ 15 20 65535 HT_ ?_
  refine pu_ 16 21 131071 HT_ ?_
  refine pu_ 17 22 262143 HT_ ?_
  refine pn_ 18 23 524287 HT_ ?_
  refine pn_ 19 24 1048575 HT_ ?_
  refine pn_ 20 25 2097151 HT_ ?_
  refine pn_ 21 26 4194303 HT_ ?_
  refine pn_ 22 27 8388607 HT_ ?_
  refine pn_ 23 28 16777215 HT_ ?_
  refine pn_ 24 29 33554431 HT_ ?_
  refine pn_ 25 30 67108863 HT_ ?_
  refine pu_ 26 31 134217727 HT_ ?_
  refine pu_ 27 4 268435455 HT_ ?_
  refine dn_ HT_ ?_
  try go_wp2
  go_ret
  exact ⟨by first | rfl | (simp [errW_none, errW_some] <;> rfl) | (simp [*, errW_none, errW_some] <;> rfl) | (exfalso; simp_all), pH HB⟩
def cmp_isNaN_int64.f (a0 : Int) : Option (Bool) := some (a0 != a0)
set_option maxHeartbeats 8000000 in
set_option maxRecDepth 100000 in
theorem cmp_isNaN_int64.calls (a0 : Int) (r : Bool) (w : World) (h : cmp_isNaN_int64.f a0 = some r) :
  Calls Tryz.prog 120 #[.int .i64 a0] w fun e w' => e = .returned (.bool r) ∧ Drawn0 w w' := by
 have H : (some (a0 != a0)) = some r := h
 clear h
 obtain rfl := Option.some.inj H
 go_enter Tryz.func120, Tryz.ntmps120
 go_wp2
 go_ret
 exact ⟨by first | rfl | (simp; done) | (simp [*]; done), by repeat (first | exact Drawn0.refl _ | apply Drawn0.step)⟩
def cmp_Compare_int64.f (a0 : Int) (a1 : Int) : Option (Int) := (cmp_isNaN_int64.f a0).bind fun t109 => ((cmp_isNaN_int64.f a1).bind fun t110 => (if t109 = true then (if t110 = true then (some 0) else (some (-1))) else (if t110 = true then (some 1) else (if a0 < a1 then (some (-1)) else (if a0 > a1 then (some 1) else (some 0))))))
set_option maxHeartbeats 8000000 in
set_option maxRecDepth 100000 in
theorem cmp_Compare_int64.calls (a0 : Int) (a1 : Int) (r : Int) (w : World) (h : cmp_Compare_int64.f a0 a1 = some r) :
  Calls Tryz.prog 116 #[.int .i64 a0, .int .i64 a1] w fun e w' => e = .returned (.int .i64 r) ∧ Drawn0 w w' := by
 have H : ((cmp_isNaN_int64.f a0).bind fun t109 => ((cmp_isNaN_int64.f a1).bind fun t110 => (if t109 = true then (if t110 = true then (some 0) else (some (-1))) else (if t110 = true then (some 1) else (if a0 < a1 then (some (-1)) else (if a0 > a1 then (some 1) else (some 0))))))) = some r := h
 clear h
 replace H := Option.bind_eq_some_iff.mp H
 obtain ⟨t109, A30, H⟩ := H
 try dsimp only at H
 have A3 := Aside0.mk A30
 clear A30
 replace H := Option.bind_eq_some_iff.mp H
 obtain ⟨t110, A40, H⟩ := H
 try dsimp only at H
 have A4 := Aside0.mk A40
 clear A40
 by_cases c5 : t109 = true
 ·subst c5
  have H1 : (if t110 = true then (some 0) else (some (-1))) = some r := by rw [if_pos rfl] at H; exact H
  clear H
  have H := H1
  clear H1
  by_cases c6 : t110 = true
  ·subst c6
   have H1 : (some 0) = some r := by rw [if_pos rfl] at H; exact H
   clear H
   have H := H1
   clear H1
   obtain rfl := Option.some.inj H
   go_enter Tryz.func116, Tryz.ntmps116
   go_wp2_with (first | ((with_reducible refine gate_callee (f := 120) rfl ?_); refine cl_ (some 8) Tryz.func120 #[.int .i64 a0] ?_; (with_reducible refine (cmp_isNaN_int64.calls a0 true _ A3.out).mono ?_); rintro e w' ⟨rfl, ⟨nd, rfl⟩⟩; refine ⟨_, rfl, ?_⟩) | ((with_reducible refine gate_callee (f := 120) rfl ?_); refine cl_ (some 10) Tryz.func120 #[.int .i64 a1] ?_; (with_reducible refine (cmp_isNaN_int64.calls a1 true _ A4.out).mono ?_); rintro e w' ⟨rfl, ⟨nd, rfl⟩⟩; refine ⟨_, rfl, ?_⟩))
   go_ret
   exact ⟨by first | rfl | (simp; done) | (simp [*]; done), by repeat (first | exact Drawn0.refl _ | apply Drawn0.step)⟩
  ·replace c6 := Bool.eq_false_iff.mpr c6
   subst c6
   have H1 : (some (-1)) = some r := by rw [if_neg (show ¬ (false = true) by decide)] at H; exact H
   clear H
   have H := H1
   clear H1
   obtain rfl := Option.some.inj H
   go_enter Tryz.func116, Tryz.ntmps116
   go_wp2_with (first | ((with_reducible refine gate_callee (f := 120) rfl ?_); refine cl_ (some 8) Tryz.func120 #[.int .i64 a0] ?_; (with_reducible refine (cmp_isNaN_int64.calls a0 true _ A3.out).mono ?_); rintro e w' ⟨rfl, ⟨nd, rfl⟩⟩; refine ⟨_, rfl, ?_⟩) | ((with_reducible refine gate_callee (f := 120) rfl ?_); refine cl_ (some 10) Tryz.func120 #[.int .i64 a1] ?_; (with_reducible refine (cmp_isNaN_int64.calls a1 false _ A4.out).mono ?_); rintro e w' ⟨rfl, ⟨nd, rfl⟩⟩; refine ⟨_, rfl, ?_⟩))
   go_ret
   exact ⟨by first | rfl | (simp; done) | (simp [*]; done), by repeat (first | exact Drawn0.refl _ | apply Drawn0.step)⟩
 ·replace c5 := Bool.eq_false_iff.mpr c5
  subst c5
  have H1 : (if t110 = true then (some 1) else (if a0 < a1 then (some (-1)) else (if a0 > a1 then (some 1) else (some 0)))) = some r := by rw [if_neg (show ¬ (false = true) by decide)] at H; exact H
  clear H
  have H := H1
  clear H1
  by_cases c7 : t110 = true
  ·subst c7
   have H1 : (some 1) = some r := by rw [if_pos rfl] at H; exact H
   clear H
   have H := H1
   clear H1
   obtain rfl := Option.some.inj H
   go_enter Tryz.func116, Tryz.ntmps116
   go_wp2_with (first | ((with_reducible refine gate_callee (f := 120) rfl ?_); refine cl_ (some 8) Tryz.func120 #[.int .i64 a0] ?_; (with_reducible refine (cmp_isNaN_int64.calls a0 false _ A3.out).mono ?_); rintro e w' ⟨rfl, ⟨nd, rfl⟩⟩; refine ⟨_, rfl, ?_⟩) | ((with_reducible refine gate_callee (f := 120) rfl ?_); refine cl_ (some 10) Tryz.func120 #[.int .i64 a1] ?_; (with_reducible refine (cmp_isNaN_int64.calls a1 true _ A4.out).mono ?_); rintro e w' ⟨rfl, ⟨nd, rfl⟩⟩; refine ⟨_, rfl, ?_⟩))
   go_ret
   exact ⟨by first | rfl | (simp; done) | (simp [*]; done), by repeat (first | exact Drawn0.refl _ | apply Drawn0.step)⟩
  ·replace c7 := Bool.eq_false_iff.mpr c7
   subst c7
   have H1 : (if a0 < a1 then (some (-1)) else (if a0 > a1 then (some 1) else (some 0))) = some r := by rw [if_neg (show ¬ (false = true) by decide)] at H; exact H
   clear H
   have H := H1
   clear H1
   by_cases c8 : a0 < a1
   ·rw [if_pos c8] at H
    have c8b0 : decide (a0 < a1) = true := decide_eq_true c8
    clear c8
    obtain rfl := Option.some.inj H
    go_enter Tryz.func116, Tryz.ntmps116
    go_wp2_with (first | ((with_reducible refine gate_callee (f := 120) rfl ?_); refine cl_ (some 8) Tryz.func120 #[.int .i64 a0] ?_; (with_reducible refine (cmp_isNaN_int64.calls a0 false _ A3.out).mono ?_); rintro e w' ⟨rfl, ⟨nd, rfl⟩⟩; refine ⟨_, rfl, ?_⟩) | ((with_reducible refine gate_callee (f := 120) rfl ?_); refine cl_ (some 10) Tryz.func120 #[.int .i64 a1] ?_; (with_reducible refine (cmp_isNaN_int64.calls a1 false _ A4.out).mono ?_); rintro e w' ⟨rfl, ⟨nd, rfl⟩⟩; refine ⟨_, rfl, ?_⟩))
    go_ret
    exact ⟨by first | rfl | (simp; done) | (simp [*]; done), by repeat (first | exact Drawn0.refl _ | apply Drawn0.step)⟩
   ·rw [if_neg c8] at H
    have c8b0 : decide (a0 < a1) = false := decide_eq_false c8
    clear c8
    by_cases c9 : a0 > a1
    ·rw [if_pos c9] at H
     have c9b0 : decide (a1 < a0) = true := decide_eq_true c9
     clear c9
     obtain rfl := Option.some.inj H
     go_enter Tryz.func116, Tryz.ntmps116
     go_wp2_with (first | ((with_reducible refine gate_callee (f := 120) rfl ?_); refine cl_ (some 8) Tryz.func120 #[.int .i64 a0] ?_; (with_reducible refine (cmp_isNaN_int64.calls a0 false _ A3.out).mono ?_); rintro e w' ⟨rfl, ⟨nd, rfl⟩⟩; refine ⟨_, rfl, ?_⟩) | ((with_reducible refine gate_callee (f := 120) rfl ?_); refine cl_ (some 10) Tryz.func120 #[.int .i64 a1] ?_; (with_reducible refine (cmp_isNaN_int64.calls a1 false _ A4.out).mono ?_); rintro e w' ⟨rfl, ⟨nd, rfl⟩⟩; refine ⟨_, rfl, ?_⟩))
     go_ret
     exact ⟨by first | rfl | (simp; done) | (simp [*]; done), by repeat (first | exact Drawn0.refl _ | apply Drawn0.step)⟩
    ·rw [if_neg c9] at H
     have c9b0 : decide (a1 < a0) = false := decide_eq_false c9
     clear c9
     obtain rfl := Option.some.inj H
     go_enter Tryz.func116, Tryz.ntmps116
     go_wp2_with (first | ((with_reducible refine gate_callee (f := 120) rfl ?_); refine cl_ (some 8) Tryz.func120 #[.int .i64 a0] ?_; (with_reducible refine (cmp_isNaN_int64.calls a0 false _ A3.out).mono ?_); rintro e w' ⟨rfl, ⟨nd, rfl⟩⟩; refine ⟨_, rfl, ?_⟩) | ((with_reducible refine gate_callee (f := 120) rfl ?_); refine cl_ (some 10) Tryz.func120 #[.int .i64 a1] ?_; (with_reducible refine (cmp_isNaN_int64.calls a1 false _ A4.out).mono ?_); rintro e w' ⟨rfl, ⟨nd, rfl⟩⟩; refine ⟨_, rfl, ?_⟩))
     go_ret
     exact ⟨by first | rfl | (simp; done) | (simp [*]; done), by repeat (first | exact Drawn0.refl _ | apply Drawn0.step)⟩
def slices_Compare_int64_int64.l0 : Nat → List Int → List Int → List Int → Int → Int → Option (Int)
 | 0, _, _, _, _, _ => none
 | k + 1, x0, x1, x9, x10, x11 => if x11 < x10 then (if 0 ≤ x11 then (if x11 < (x9.length : Int) then (if x11 ≥ (x1.length : Int) then (some 1) else (if x11 < (x1.length : Int) then ((cmp_Compare_int64.f (rd x9 x11) (rd x1 x11)).bind fun t113 => (if t113 = 0 then (slices_Compare_int64_int64.l0 k x0 x1 x9 x10 (wrap64 (x11 + 1))) else (some t113))) else (none))) else (none)) else (none)) else (if (x0.length : Int) < (x1.length : Int) then (some (-1)) else (some 0))
def slices_Compare_int64_int64.f (k : Nat) (l0 : List Int) (l1 : List Int) : Option (Int) := slices_Compare_int64_int64.l0 k l0 l1 l0 (l0.length : Int) 0
set_option maxHeartbeats 8000000 in
set_option maxRecDepth 100000 in
theorem slices_Compare_int64_int64.calls (k : Nat) (A0 : Option Addr) (c0 : Nat) (l0 : List Int) (A1 : Option Addr) (c1 : Nat) (l1 : List Int) (r : Int) (w : World) (hr0 : Kd.C (Kd.int .i64) w A0 l0.length l0) (hc0 : l0.length ≤ c0) (hr1 : Kd.C (Kd.int .i64) w A1 l1.length l1) (hc1 : l1.length ≤ c1) (h : slices_Compare_int64_int64.f k l0 l1 = some r) :
  Calls Tryz.prog 104 #[.slice A0 l0.length c0, .slice A1 l1.length c1] w fun e w' => e = .returned (.int .i64 r) ∧ Drawn0 w w' := by
 have HR0 := Aside0.mk hr0
 have HC0 := Aside0.mk hc0
 clear hr0 hc0
 have HR1 := Aside0.mk hr1
 have HC1 := Aside0.mk hc1
 clear hr1 hc1
 have H : (slices_Compare_int64_int64.l0 k l0 l1 l0 (l0.length : Int) 0) = some r := h
 clear h
 have H' := Aside0.mk H
 clear H
 go_enter Tryz.func104, Tryz.ntmps104
 go_wp2
 go_loopg [11] k (fun kq v11 w' => ∃ (x11_1 : Int), v11 = .int .i64 x11_1 ∧ Aside0 (slices_Compare_int64_int64.l0 kq l0 l1 l0 (l0.length : Int) x11_1 = some r) ∧ Aside0 (kq ≤ k) ∧ Drawn0 w w')
 case atStart => exact ⟨(0), (by first | rfl | (simp; done) | (simp [*]; done)), H', ⟨Nat.le_refl _⟩, by repeat (first | exact Drawn0.refl _ | apply Drawn0.step)⟩
 case round =>
  clear H'
  try clear c1
  try clear p2
  obtain ⟨x11_1, rfl, HA, HK1, ⟨m1, rfl⟩⟩ := hrel
  cases gk with
  | zero => exact absurd HA.out (by simp [slices_Compare_int64_int64.l0])
  | succ k1 =>
   have H := HA.out
   clear HA
   simp only [slices_Compare_int64_int64.l0] at H
   by_cases c3 : x11_1 < (l0.length : Int)
   ·rw [if_pos c3] at H
    have c3b0 : decide (x11_1 < (l0.length : Int)) = true := decide_eq_true c3
    clear c3
    by_cases c4 : 0 ≤ x11_1
    ·rw [if_pos c4] at H
     have c4b0 : decide (0 ≤ x11_1) = true := decide_eq_true c4
     clear c4
     by_cases c5 : x11_1 < (l0.length : Int)
     ·rw [if_pos c5] at H
      have c5b0 : decide (x11_1 < (l0.length : Int)) = true := decide_eq_true c5
      clear c5
      by_cases c6 : x11_1 ≥ (l1.length : Int)
      ·rw [if_pos c6] at H
       have c6b0 : decide ((l1.length : Int) ≤ x11_1) = true := decide_eq_true c6
       clear c6
       obtain rfl := Option.some.inj H
       have p111 : 0 ≤ (x11_1 : Int) := of_decide_eq_true (by first | (with_reducible assumption) | assumption)
       have q111 : x11_1 < (l0.length : Int) := of_decide_eq_true (by first | (with_reducible assumption) | assumption)
       obtain ⟨ad111, e111, hx111_0⟩ := Kd.at_int HR0.out x11_1 p111 q111
       cases e111
       replace p111 := eq_true p111
       replace q111 := eq_true q111
       go_wp2
       go_ret
       exact ⟨by first | rfl | (simp; done) | (simp [*]; done), by repeat (first | exact Drawn0.refl _ | apply Drawn0.step)⟩
      ·rw [if_neg c6] at H
       have c6b0 : decide ((l1.length : Int) ≤ x11_1) = false := decide_eq_false c6
       clear c6
       by_cases c7 : x11_1 < (l1.length : Int)
       ·rw [if_pos c7] at H
        have c7b0 : decide (x11_1 < (l1.length : Int)) = true := decide_eq_true c7
        clear c7
        replace H := Option.bind_eq_some_iff.mp H
        obtain ⟨t113, A80, H⟩ := H
        try dsimp only at H
        have A8 := Aside0.mk A80
        clear A80
        by_cases c9 : t113 = 0
        ·rw [if_pos c9] at H
         have c9b0 : (t113 == 0) = true := beq_iff_eq.mpr c9
         have c9b1 : (t113 != 0) = false := bne_eq_false_iff_eq.mpr c9
         clear c9
         have H' := Aside0.mk H
         clear H
         have p111 : 0 ≤ (x11_1 : Int) := of_decide_eq_true (by first | (with_reducible assumption) | assumption)
         have q111 : x11_1 < (l0.length : Int) := of_decide_eq_true (by first | (with_reducible assumption) | assumption)
         obtain ⟨ad111, e111, hx111_0⟩ := Kd.at_int HR0.out x11_1 p111 q111
         cases e111
         replace p111 := eq_true p111
         replace q111 := eq_true q111
         have p112 : 0 ≤ (x11_1 : Int) := of_decide_eq_true (by first | (with_reducible assumption) | assumption)
         have q112 : x11_1 < (l1.length : Int) := of_decide_eq_true (by first | (with_reducible assumption) | assumption)
         obtain ⟨ad112, e112, hx112_0⟩ := Kd.at_int HR1.out x11_1 p112 q112
         cases e112
         replace p112 := eq_true p112
         replace q112 := eq_true q112
         go_wp2_with (first | ((with_reducible refine gate_callee (f := 116) rfl ?_); refine cl_ (some 26) Tryz.func116 #[.int .i64 (rd l0 x11_1), .int .i64 (rd l1 x11_1)] ?_; (with_reducible refine (cmp_Compare_int64.calls (rd l0 x11_1) (rd l1 x11_1) t113 _ A8.out).mono ?_); rintro e w' ⟨rfl, ⟨nd, rfl⟩⟩; refine ⟨_, rfl, ?_⟩))
         go_roundg k1
         case measure => have := HK1.out; omega
         case rel => exact ⟨(wrap64 (x11_1 + 1)), (by first | rfl | (simp; done) | (simp [*]; done)), H', ⟨by have := HK1.out; omega⟩, by repeat (first | exact Drawn0.refl _ | apply Drawn0.step)⟩
        ·rw [if_neg c9] at H
         have c9b0 : (t113 == 0) = false := beq_eq_false_iff_ne.mpr c9
         have c9b1 : (t113 != 0) = true := bne_iff_ne.mpr c9
         obtain rfl := Option.some.inj H
         have p111 : 0 ≤ (x11_1 : Int) := of_decide_eq_true (by first | (with_reducible assumption) | assumption)
         have q111 : x11_1 < (l0.length : Int) := of_decide_eq_true (by first | (with_reducible assumption) | assumption)
         obtain ⟨ad111, e111, hx111_0⟩ := Kd.at_int HR0.out x11_1 p111 q111
         cases e111
         replace p111 := eq_true p111
         replace q111 := eq_true q111
         have p112 : 0 ≤ (x11_1 : Int) := of_decide_eq_true (by first | (with_reducible assumption) | assumption)
         have q112 : x11_1 < (l1.length : Int) := of_decide_eq_true (by first | (with_reducible assumption) | assumption)
         obtain ⟨ad112, e112, hx112_0⟩ := Kd.at_int HR1.out x11_1 p112 q112
         cases e112
         replace p112 := eq_true p112
         replace q112 := eq_true q112
         go_wp2_with (first | ((with_reducible refine gate_callee (f := 116) rfl ?_); refine cl_ (some 26) Tryz.func116 #[.int .i64 (rd l0 x11_1), .int .i64 (rd l1 x11_1)] ?_; (with_reducible refine (cmp_Compare_int64.calls (rd l0 x11_1) (rd l1 x11_1) t113 _ A8.out).mono ?_); rintro e w' ⟨rfl, ⟨nd, rfl⟩⟩; refine ⟨_, rfl, ?_⟩))
         go_ret
         exact ⟨by first | rfl | (simp; done) | (simp [*]; done), by repeat (first | exact Drawn0.refl _ | apply Drawn0.step)⟩
       ·rw [if_neg c7] at H
        exact absurd H (by simp)
     ·rw [if_neg c5] at H
      exact absurd H (by simp)
    ·rw [if_neg c4] at H
     exact absurd H (by simp)
   ·rw [if_neg c3] at H
    have c3b0 : decide (x11_1 < (l0.length : Int)) = false := decide_eq_false c3
    clear c3
    by_cases c10 : (l0.length : Int) < (l1.length : Int)
    ·rw [if_pos c10] at H
     have c10b0 : decide ((l0.length : Int) < (l1.length : Int)) = true := decide_eq_true c10
     have c10b1 : decide (l0.length < l1.length) = true := decide_eq_true (Int.ofNat_lt.mp c10)
     clear c10
     obtain rfl := Option.some.inj H
     go_wp2
     go_ret
     exact ⟨by first | rfl | (simp; done) | (simp [*]; done), by repeat (first | exact Drawn0.refl _ | apply Drawn0.step)⟩
    ·rw [if_neg c10] at H
     have c10b0 : decide ((l0.length : Int) < (l1.length : Int)) = false := decide_eq_false c10
     have c10b1 : decide (l0.length < l1.length) = false := decide_eq_false (fun h => c10 (Int.ofNat_lt.mpr h))
     clear c10
     obtain rfl := Option.some.inj H
     go_wp2
     go_ret
     exact ⟨by first | rfl | (simp; done) | (simp [*]; done), by repeat (first | exact Drawn0.refl _ | apply Drawn0.step)⟩
def impl_steps_1.f (a0_0 : Int) (a0_1 : Int) (a1_0 : Int) : Option (Bool) := some (a0_0 == a1_0)
set_option maxHeartbeats 8000000 in
set_option maxRecDepth 100000 in
theorem impl_steps_1.calls (a0_0 : Int) (a0_1 : Int) (g1 : Nat) (a1_0 : Int) (r : Bool) (w : World) (hb1 : w.heap[g1]? = some (.cells #[.int .i64 a1_0] 2 (0, 0))) (h : impl_steps_1.f a0_0 a0_1 a1_0 = some r) :
  Calls Tryz.prog 105 #[.agg #[.int .i64 a0_0, .int .i64 a0_1], .pointer (some ⟨g1, 0, none⟩)] w fun e w' => e = .returned (.bool r) ∧ Below w.heap.size w w' := by
 have hu46 := Tryz.underlying46
 have BK114 := Aside0.mk hb1
 clear hb1
 have HB := Aside0.mk (Below.refl w.heap.size w)
 have H : (some (a0_0 == a1_0)) = some r := h
 clear h
 obtain rfl := Option.some.inj H
 go_enter Tryz.func105, Tryz.ntmps105
 go_wp2_with (first | ((with_reducible refine gate_dst (N := 2) rfl ?_); refine box_event ?hg (N := 2) ?hd (cs := #[.int .i64 a0_0, .int .i64 a0_1]) (t := 46) ?hr ?_; (case hd => rfl); (case hg => rfl); (case hr => first | (go_simp; done) | (go_simp; rfl)); intro gb115 hg w3 hbox hb; have BK115 := Aside0.mk (hbox); have GW115 := gH HB hg; have GE115 := gH HB hg; replace HB := sH HB hb; have NB114_115 := nB BK114 hg; have NB115_114 := oB BK114 hg; replace BK114 := sB BK114 hb; clear hb hbox hg; (try have hnb4 := NB115_114.out); (try have hnc4 := NB114_115.out); have hcz5_0 : w3.cell? ⟨gb115, 0, none⟩ = some (.int .i64 a0_0) := cB BK115 0; have hcz5_1 : w3.cell? ⟨gb115, 1, none⟩ = some (.int .i64 a0_1) := cB BK115 1; have hfz5_0 := zB BK115 0; have hfz5_1 := zB BK115 1; have hcz6_0 : w3.cell? ⟨g1, 0, none⟩ = some (.int .i64 a1_0) := cB BK114 0; have hfz6_0 := zB BK114 0))
 go_ret
 exact ⟨by first | rfl | (simp [errW_none, errW_some] <;> rfl) | (simp [*, errW_none, errW_some] <;> rfl) | (exfalso; simp_all), pH HB⟩
def clo_105 (a1_0 : Int) : Pred := Pred.ofP (fun x y => impl_steps_1.f x y a1_0)
set_option maxRecDepth 100000 in
theorem clo_ok_105 {W : World} {g1 : Nat} {a1_0 : Int} (hb1 : W.heap[g1]? = some (.cells #[.int .i64 a1_0] 2 (0, 0)))  : FnOk (.func (.func 105) #[] #[.pointer (some ⟨g1, 0, none⟩)]) (clo_105 a1_0) W :=
 FnOk.ofP (enters_of Tryz.func105 (by kernel_rfl) rfl) (fun V x y b hV hr => by
  show Calls Tryz.prog 105 #[.agg #[.int .i64 x, .int .i64 y], .pointer (some ⟨g1, 0, none⟩)] V _
  exact (impl_steps_1.calls x y g1 a1_0 b V ((hV.block g1 (blk_lt hb1)).trans hb1) hr).mono (fun e w' h_ => ⟨h_.1, h_.2⟩))
def impl_steps_2.f (a0 : Int) (a1_0 : Int) : Option (Bool) := some (a0 == a1_0)
set_option maxHeartbeats 8000000 in
set_option maxRecDepth 100000 in
theorem impl_steps_2.calls (a0 : Int) (g1 : Nat) (a1_0 : Int) (r : Bool) (w : World) (hb1 : w.heap[g1]? = some (.cells #[.int .i64 a1_0] 2 (0, 0))) (h : impl_steps_2.f a0 a1_0 = some r) :
  Calls Tryz.prog 106 #[.int .i64 a0, .pointer (some ⟨g1, 0, none⟩)] w fun e w' => e = .returned (.bool r) ∧ Drawn0 w w' := by
 have BK116 := Aside0.mk hb1
 clear hb1
 have H : (some (a0 == a1_0)) = some r := h
 clear h
 obtain rfl := Option.some.inj H
 have hcz3_0 : w.cell? ⟨g1, 0, none⟩ = some (.int .i64 a1_0) := cB BK116 0
 have hfz3_0 := zB BK116 0
 go_enter Tryz.func106, Tryz.ntmps106
 go_wp2
 go_ret
 exact ⟨by first | rfl | (simp; done) | (simp [*]; done), by repeat (first | exact Drawn0.refl _ | apply Drawn0.step)⟩
def clo_106 (a1_0 : Int) : Pred := Pred.ofI (fun x => impl_steps_2.f x a1_0)
set_option maxRecDepth 100000 in
theorem clo_ok_106 {W : World} {g1 : Nat} {a1_0 : Int} (hb1 : W.heap[g1]? = some (.cells #[.int .i64 a1_0] 2 (0, 0)))  : FnOk (.func (.func 106) #[] #[.pointer (some ⟨g1, 0, none⟩)]) (clo_106 a1_0) W :=
 FnOk.ofI (enters_of Tryz.func106 (by kernel_rfl) rfl) (fun V x b hV hr => by
  show Calls Tryz.prog 106 #[.int .i64 x, .pointer (some ⟨g1, 0, none⟩)] V _
  exact (impl_steps_2.calls x g1 a1_0 b V ((hV.block g1 (blk_lt hb1)).trans hb1) hr).mono (fun e w' h_ => ⟨h_.1, h_.2.below⟩))
def impl_steps.f (l0 : List (S46)) (a1 : Int) : Option (List Int) := (slices_IndexFunc_impl_Pair_impl_Pair.f l0 (clo_105 a1)).bind fun t118 => (if t118 < 0 then (some ([] : List Int)) else (if 0 ≤ t118 then (if t118 < (l0.length : Int) then ((impl_borders.f ((rd_T46 l0 t118).f1)).bind fun t120 => ((slices_DeleteFunc_int64_int64.f t120 (clo_106 a1)).bind fun t123 => (some t123))) else (none)) else (none)))
set_option maxHeartbeats 8000000 in
set_option maxRecDepth 100000 in
theorem impl_steps.calls (A0 : Option Addr) (c0 : Nat) (l0 : List (S46)) (a1 : Int) (r : List Int) (w : World) (hr0 : Kd.C k46 w A0 l0.length l0) (hc0 : l0.length ≤ c0) (h : impl_steps.f l0 a1 = some r) :
  Calls Tryz.prog 83 #[.slice A0 l0.length c0, .int .i64 a1] w fun e w' => ∃ v0_ : Value, e = .returned (v0_) ∧ Kd.R (Kd.int .i64) 2 w' w.heap.size (fun _ => True) v0_ r ∧ Below w.heap.size w w' := by
 have HR0 := Aside0.mk hr0
 have HC0 := Aside0.mk hc0
 clear hr0 hc0
 have HB := Aside0.mk (Below.refl w.heap.size w)
 have H : ((slices_IndexFunc_impl_Pair_impl_Pair.f l0 (clo_105 a1)).bind fun t118 => (if t118 < 0 then (some ([] : List Int)) else (if 0 ≤ t118 then (if t118 < (l0.length : Int) then ((impl_borders.f ((rd_T46 l0 t118).f1)).bind fun t120 => ((slices_DeleteFunc_int64_int64.f t120 (clo_106 a1)).bind fun t123 => (some t123))) else (none)) else (none)))) = some r := h
 clear h
 replace H := Option.bind_eq_some_iff.mp H
 obtain ⟨t118, A30, H⟩ := H
 try dsimp only at H
 have A3 := Aside0.mk A30
 clear A30
 by_cases c4 : t118 < 0
 ·rw [if_pos c4] at H
  have c4b0 : decide (t118 < 0) = true := decide_eq_true c4
  clear c4
  obtain rfl := Option.some.inj H
  go_enter Tryz.func83, Tryz.ntmps83
  go_wp2_with (first | ((with_reducible refine gate_dst (N := 3) rfl ?_); refine box_event ?hg (N := 3) ?hd (cs := #[.int .i64 a1]) (t := 2) ?hr ?_; (case hd => rfl); (case hg => rfl); (case hr => first | (go_simp; done) | (go_simp; rfl)); intro gb117 hg w5 hbox hb; have BK117 := Aside0.mk (hbox); have GW117 := gH HB hg; have GE117 := gH HB hg; replace HB := sH HB hb; clear hb hbox hg) | ((with_reducible refine gate_callee (f := 70) rfl ?_); refine cl_ (some 8) Tryz.func70 #[.slice A0 l0.length c0, .func (.func 105) #[] #[.pointer (some ⟨gb117, 0, none⟩)]] ?_; (with_reducible refine (slices_IndexFunc_impl_Pair_impl_Pair.calls _ _ l0 _ (clo_105 a1) t118 _ ?side1 ?side2 ?side3 A3.out).mono ?_); (case side1 => exact pC ((Kd.C_below HR0.out HB.out))); (case side2 => exact HC0.out); (case side3 => exact clo_ok_105 (pB BK117) ); rintro e w6 ⟨rfl, hb⟩; refine ⟨_, rfl, ?_⟩; replace BK117 := sB BK117 hb; replace HB := sH HB hb; (try clear hb); (try clear hi)))
  go_ret
  exact ⟨_, by first | rfl | (simp [errW_none, errW_some] <;> rfl) | (simp [*, errW_none, errW_some] <;> rfl) | (exfalso; simp_all), by first | exact Kd.R_nil _ _ _ _ _ | exact Kd.N_nil _ _ _ _ _ | exact Kd.V_nil _ _ _ _ _ | exact Kd.Q_nil _ _ _ _ _ | exact Kd.S_nil _ _ _ _ _, pH HB⟩
 ·rw [if_neg c4] at H
  have c4b0 : decide (t118 < 0) = false := decide_eq_false c4
  clear c4
  by_cases c7 : 0 ≤ t118
  ·rw [if_pos c7] at H
   have c7b0 : decide (0 ≤ t118) = true := decide_eq_true c7
   clear c7
   by_cases c8 : t118 < (l0.length : Int)
   ·rw [if_pos c8] at H
    have c8b0 : decide (t118 < (l0.length : Int)) = true := decide_eq_true c8
    clear c8
    replace H := Option.bind_eq_some_iff.mp H
    obtain ⟨t120, A90, H⟩ := H
    try dsimp only at H
    have A9 := Aside0.mk A90
    clear A90
    replace H := Option.bind_eq_some_iff.mp H
    obtain ⟨t123, A100, H⟩ := H
    try dsimp only at H
    have A10 := Aside0.mk A100
    clear A100
    obtain rfl := Option.some.inj H
    go_enter Tryz.func83, Tryz.ntmps83
    go_wp2_with (first | ((with_reducible refine gate_dst (N := 3) rfl ?_); refine box_event ?hg (N := 3) ?hd (cs := #[.int .i64 a1]) (t := 2) ?hr ?_; (case hd => rfl); (case hg => rfl); (case hr => first | (go_simp; done) | (go_simp; rfl)); intro gb117 hg w11 hbox hb; have BK117 := Aside0.mk (hbox); have GW117 := gH HB hg; have GE117 := gH HB hg; replace HB := sH HB hb; clear hb hbox hg) | ((with_reducible refine gate_callee (f := 70) rfl ?_); refine cl_ (some 8) Tryz.func70 #[.slice A0 l0.length c0, .func (.func 105) #[] #[.pointer (some ⟨gb117, 0, none⟩)]] ?_; (with_reducible refine (slices_IndexFunc_impl_Pair_impl_Pair.calls _ _ l0 _ (clo_105 a1) t118 _ ?side1 ?side2 ?side3 A3.out).mono ?_); (case side1 => exact pC ((Kd.C_below HR0.out HB.out))); (case side2 => exact HC0.out); (case side3 => exact clo_ok_105 (pB BK117) ); rintro e w12 ⟨rfl, hb⟩; refine ⟨_, rfl, ?_⟩; replace BK117 := sB BK117 hb; replace HB := sH HB hb; (try clear hb); (try clear hi); have p119 : 0 ≤ (t118 : Int) := of_decide_eq_true (by first | (with_reducible assumption) | assumption); have q119 : t118 < (l0.length : Int) := of_decide_eq_true (by first | (with_reducible assumption) | assumption); obtain ⟨ad119, e119, hx119_0, hx119_1⟩ := at_T46 HR0.out t118 p119 q119; cases e119; replace hx119_0 := cH HB hx119_0; replace hx119_1 := cH HB hx119_1; replace p119 := eq_true p119; replace q119 := eq_true q119) | ((with_reducible refine gate_callee (f := 74) rfl ?_); refine cl_ (some 16) Tryz.func74 #[.int .i64 ((rd_T46 l0 t118).f1)] ?_; (with_reducible refine (impl_borders.calls ((rd_T46 l0 t118).f1) t120 _ A9.out).mono ?_); rintro e w13 ⟨v121, rfl, ho0, hb⟩; refine ⟨_, rfl, ?_⟩; have HO122 := Aside0.mk (Kd.R_lower (Kd.R_newB ho0 (g := gb117) (o := .cells #[.int .i64 a1] 2 (0, 0)) (pB BK117)) (below_size (pH HB))); replace BK117 := sB BK117 hb; replace HB := sH HB hb; (try clear hb); (try clear hi); (try clear ho0); obtain ⟨Ao14, co14, eo14⟩ := Kd.R_slice HO122.out; subst eo14) | ((with_reducible refine gate_callee (f := 40) rfl ?_); refine cl_ (some 18) Tryz.func40 #[.slice Ao14 t120.length co14, .func (.func 106) #[] #[.pointer (some ⟨gb117, 0, none⟩)]] ?_; (with_reducible refine (slices_DeleteFunc_int64_int64.calls (fun k_ => some k_ = (.slice Ao14 t120.length co14 : Value).ownBlock) (.slice Ao14 t120.length co14) t120 _ (clo_106 a1) t123 w _ ?side1 ?side2 ?side3 A10.out).mono ?_); (case side1 => repeat (first | (with_reducible first | exact HB.out | apply below_alloc | apply pw_below_drewN | apply below_drew1 | refine below_set ?_ GE117.out) | exact HB.out)); (case side2 => exact Kd.R_tight rfl HO122.out); (case side3 => intro W_ hK_; exact clo_ok_106 (blk_kept (pB BK117) hK_ (fun hs_ => (fun e_ => (Kd.R_away HO122.out (fun _ hk => hk.2)) e_) hs_)) ); rintro e w15 ⟨v124, rfl, ho0, hb, hkp⟩; refine ⟨_, rfl, ?_⟩; have n0_ := Aside0.mk (blk_kept (pB BK117) hkp (fun hs_ => (fun e_ => (Kd.R_away HO122.out (fun _ hk => hk.2)) e_) hs_)); have n1_ := Aside0.mk (Kd.R_mono (ok' := fun k_ => k_ ≠ gb117) ho0 (fun k_ hk_ => Or.elim hk_ (fun hs_ => fun e_ => (Kd.R_away HO122.out (fun _ hk => hk.2)) (by rw [← e_]; exact hs_)) (fun hn_ => (Kd.freshB (g := gb117) (o := .cells #[.int .i64 a1] 2 (0, 0)) (pB BK117) k_ hn_)))); have n2_ := Aside0.mk (hb); clear BK117; clear HB; clear HO122; have BK117 := n0_; have HO125 := n1_; have HB := n2_; clear n0_ n1_ n2_; (try clear hb); (try clear hkp); (try clear ho0)))
    go_ret
    exact ⟨_, by first | rfl | (simp [errW_none, errW_some] <;> rfl) | (simp [*, errW_none, errW_some] <;> rfl) | (exfalso; simp_all), by (with_reducible repeat (first | apply Kd.R_alloc | apply Kd.R_drewN | apply Kd.R_drew)); exact Kd.R_mono HO125.out (fun _ hk => trivial), pH HB⟩
   ·rw [if_neg c8] at H
    exact absurd H (by simp)
  ·rw [if_neg c7] at H
   exact absurd H (by simp)
end Go.Proofs.YtpjcnigohhnhnaaGreat.QA
namespace Go.Proofs.YtpjcnigohhnhnaaGreat.Im
open Go.RowKit Go.MapKept YtpjcnigohhnhnaaGreatW.PrintWords YtpjcnigohhnhnaaGreatW.PrintLast YtpjcnigohhnhnaaGreatW.PrintMore
def entV (p : Int × Bool) : Value × Value := (.int .i64 p.1, .bool p.2)
def MapB (w : World) (b : Nat) (M : List (Int × Bool)) : Prop := ∃ es clock, w.heap[b]? = some (.map es clock) ∧ es.toList.map (fun e => (e.key, e.val)) = M.map entV
def getM : List (Int × Bool) → Int → Bool
  | [], _ => false
  | p :: M, k => if k = p.1 then p.2 else getM M k
def putM : List (Int × Bool) → Int → Bool → List (Int × Bool)
  | [], k, v => [(k, v)]
  | p :: M, k, v => if k = p.1 then (k, v) :: M else p :: putM M k v
theorem getM_put (M : List (Int × Bool)) (k x : Int) (v : Bool) : getM (putM M k v) x = if x = k then v else getM M x := by
  induction M with
  | nil => simp [putM, getM]
  | cons p M ih =>
    unfold putM
    by_cases h : k = p.1
    · rw [if_pos h]
      simp only [getM]
      by_cases hx : x = k
      · rw [if_pos hx, if_pos hx]
      · rw [if_neg hx, if_neg hx, if_neg (by rw [← h]; exact hx)]
    · rw [if_neg h]
      simp only [getM, ih]
      by_cases hx : x = p.1
      · rw [if_pos hx, if_neg (by rw [hx]; exact fun e => h e.symm)]
        rw [if_pos hx]
      · rw [if_neg hx, if_neg hx]
theorem MapB.lt {w : World} {b : Nat} {M : List (Int × Bool)} (h : MapB w b M) : b < w.heap.size := by
  obtain ⟨es, c, hb, _⟩ := h
  exact (Array.getElem?_eq_some_iff.1 hb).1
theorem MapB.below {w w1 : World} {b : Nat} {M : List (Int × Bool)} (h : MapB w b M) (hb : Below w.heap.size w w1) : MapB w1 b M := by
  have hl := h.lt
  obtain ⟨es, c, h1, h2⟩ := h
  exact ⟨es, c, (hb.block b hl).trans h1, h2⟩
theorem MapB.drew {w : World} {b : Nat} {M : List (Int × Bool)} (h : MapB w b M) : MapB w.drew b M := h
theorem MapB.drewN {w : World} {b : Nat} {M : List (Int × Bool)} (h : MapB w b M) (n : Nat) : MapB (w.drewN n) b M := h
theorem MapB.alloc {w : World} {b : Nat} {M : List (Int × Bool)} (h : MapB w b M) (o : Obj) : MapB (w.alloc o) b M := h.below (below_alloc (Below.refl _ _) o)
theorem MapB.made (w : World) : MapB (w.alloc (.map #[] 0)) w.heap.size [] := ⟨#[], 0, (heap_alloc w _).1, rfl⟩
theorem MapB.far {w : World} {b : Nat} {M : List (Int × Bool)} (h : MapB w b M) {p : Addr} (hp : b ≠ p.block) (u : Value) : MapB (w.setCell p u) b M := by
  obtain ⟨es, c, h1, h2⟩ := h
  exact ⟨es, c, (Below.heap_setCell w p u b hp).trans h1, h2⟩
theorem MapB.ne {w : World} {b g : Nat} {M : List (Int × Bool)} (h : MapB w b M) {cs : Array Value} {t : TypeId} {fr : Nat × Nat} (hg : w.heap[g]? = some (.cells cs t fr)) : b ≠ g := by
  rintro rfl
  obtain ⟨es, c, h1, _⟩ := h
  rw [hg] at h1
  cases h1
theorem findNow_entV (k : Int) : ∀ (es : List MapEntry) (M : List (Int × Bool)) (i : Nat), es.map (fun e => (e.key, e.val)) = M.map entV →
    (getM M k = false ∧ (∀ v, putM M k v = M ++ [(k, v)]) ∧ Instr.findNow (.int .i64) (.int .i64 k) es i = some none) ∨
    (∃ j e, es[j]? = some e ∧ e.key = .int .i64 k ∧ e.val = .bool (getM M k) ∧ (∀ v, (putM M k v).map entV = (M.map entV).set j (.int .i64 k, .bool v)) ∧ Instr.findNow (.int .i64) (.int .i64 k) es i = some (some (i + j, .bool (getM M k))))
  | [], [], i, _ => .inl ⟨rfl, fun _ => rfl, rfl⟩
  | [], _ :: _, _, h => by simp at h
  | _ :: _, [], _, h => by simp at h
  | e :: es, p :: M, i, h => by
    simp only [List.map_cons, List.cons.injEq] at h
    obtain ⟨h1, h2⟩ := h
    have hk : e.key = .int .i64 p.1 := congrArg Prod.fst h1
    have hv : e.val = .bool p.2 := congrArg Prod.snd h1
    by_cases hp : k = p.1
    · refine .inr ⟨0, e, rfl, by rw [hk, hp], by simp [getM, hp, hv], fun v => by simp [putM, hp, entV], ?_⟩
      simp [Instr.findNow, Instr.sameNow, hk, hp, hv, getM]
    · have hf : Instr.sameNow (.int .i64) (.int .i64 k) e.key = some false := by simp [Instr.sameNow, hk, hp]
      rcases findNow_entV k es M (i + 1) h2 with ⟨a1, a2, a3⟩ | ⟨j, e', a1, a2, a3, a4, a5⟩
      · refine .inl ⟨by simp [getM, hp, a1], fun v => by simp [putM, hp, a2], ?_⟩
        simp [Instr.findNow, hf, a3]
      · refine .inr ⟨j + 1, e', by simpa using a1, a2, by simp [getM, hp, a3], fun v => by simp [putM, hp, a4], ?_⟩
        simp only [Instr.findNow, hf, a5, getM, if_neg hp]
        congr 3
        omega
section
variable {P : Program} {w : World} {t k e : TypeId} {b : Nat} {M : List (Int × Bool)}
theorem MapB.look (h : MapB w b M) (ht : P.underlying t = some (.map k e)) (hk : P.underlying k = some (.int .i64)) (hz : (zeroValue e).run P w = .ok (.bool false) w) (x : Int) :
    (Instr.lookup t (.map (some b)) (.int .i64 x) false).run P w = .ok (.bool (getM M x)) w := by
  obtain ⟨es, c, h1, h2⟩ := h
  have hc : ∀ em, (Instr.checkKey em 10000 k (.int .i64 x)).run P w = .ok () w := fun em => run_checkKey hk (by simp [IsKey]) em 9999
  rcases findNow_entV x es.toList M 0 h2 with ⟨a1, _, a3⟩ | ⟨j, e', _, _, _, _, a5⟩
  · have hf := run_findKey (w := w) hk a3
    simp [Instr.lookup, run_underlying ht, Go.MapKept.run_getObj_map h1, hc, hf, hz, Result.andThen, a1]
  · have hf := run_findKey (w := w) hk a5
    simp [Instr.lookup, run_underlying ht, Go.MapKept.run_getObj_map h1, hc, hf, Result.andThen]
theorem MapB.put (h : MapB w b M) (ht : P.underlying t = some (.map k e)) (hk : P.underlying k = some (.int .i64)) (x : Int) (v : Bool) :
    ∃ w', (Instr.mapUpdate t (.map (some b)) (.int .i64 x) (.bool v)).run P w = .ok () w' ∧ MapB w' b (putM M x v) ∧ w.grownBy w' (some b) ∧ w'.heap.size = w.heap.size := by
  obtain ⟨es, c, h1, h2⟩ := h
  have hc : (Instr.checkKey false 10000 k (.int .i64 x)).run P w = .ok () w := run_checkKey hk (by simp [IsKey]) false 9999
  have hg : ∀ o, w.grownBy { w with heap := w.heap.setIfInBounds b o } (some b) := fun o => ⟨rfl, rfl, rfl, by simp, fun i _ hi => (heap_set h1).2 i (fun q => hi (by rw [q]))⟩
  rcases findNow_entV x es.toList M 0 h2 with ⟨a1, a2, a3⟩ | ⟨j, e', a1, a2, a3, a4, a5⟩
  · have hf := run_findKey (w := w) hk a3
    refine ⟨{ w with heap := w.heap.setIfInBounds b (.map (es.push { key := .int .i64 x, val := .bool v, born := c }) (c + 1)) }, ?_, ⟨_, _, (heap_set h1).1, ?_⟩, hg _, by simp⟩
    · simp [Instr.mapUpdate, run_underlying ht, Go.MapKept.run_getObj_map h1, hc, hf, Go.MapKept.run_setObj_map _ h1, Result.andThen]
    · simp [a2, h2, entV]
  · have hf := run_findKey (w := w) hk a5
    have hj : es[j]? = some e' := by simpa using a1
    refine ⟨{ w with heap := w.heap.setIfInBounds b (.map (es.modify j fun q => { q with key := .int .i64 x, val := .bool v }) c) }, ?_, ⟨_, _, (heap_set h1).1, ?_⟩, hg _, by simp⟩
    · simp [Instr.mapUpdate, run_underlying ht, Go.MapKept.run_getObj_map h1, hc, hf, Instr.keyThatStays, Instr.sameBits, hj, a2, Go.MapKept.run_setObj_map _ h1, Result.andThen]
    · rw [a4, ← h2]
      apply List.ext_getElem?
      intro m
      simp only [Array.toList_modify, List.getElem?_map, List.getElem?_modify, List.getElem?_set, List.length_map]
      by_cases hm : j = m
      · subst hm
        have : j < es.toList.length := (List.getElem?_eq_some_iff.1 a1).1
        rw [a1]
        simpa using this
      · cases hq : es.toList[m]? <;> simp [hm]
end
end Go.Proofs.YtpjcnigohhnhnaaGreat.Im
namespace Go.Proofs.YtpjcnigohhnhnaaGreat.Im
open Go.RowKit Go.Shelf Kp Ext Cw YtpjcnigohhnhnaaGreatW.PrintWords YtpjcnigohhnhnaaGreatW.PrintLast YtpjcnigohhnhnaaGreatW.PrintMore
theorem rowOf_pr {w : World} {b : Nat} {x y : Int} (h : PrAt w b x y) : Kd.C (Kd.int .i64) w (some ⟨b, 0, none⟩) 2 [x, y] := by
  refine ⟨rfl, by omega, fun _ => ⟨⟨b, 0, none⟩, rfl, fun j p hj => ⟨[.int .i64 p], rfl, rfl, fun i u hu => ?_⟩⟩⟩
  have hi : i = 0 := by
    rcases i with _ | i
    · rfl
    · simp at hu
  subst hi
  obtain rfl : Value.int .i64 p = u := by simpa using hu
  rw [add_plain]
  rcases j with _ | _ | j
  · obtain rfl : x = p := by simpa using hj
    exact h.c0
  · obtain rfl : y = p := by simpa using hj
    exact h.c1
  · simp at hj
def cmpI (a b : Int) : Int := if a < b then -1 else if a > b then 1 else 0
def cmpP (p q : Pr) : Int := if cmpI p.f0 q.f0 = 0 then cmpI p.f1 q.f1 else cmpI p.f0 q.f0
theorem cmpI_f (a b : Int) : QA.cmp_Compare_int64.f a b = some (cmpI a b) := by
  unfold QA.cmp_Compare_int64.f QA.cmp_isNaN_int64.f cmpI
  simp only [Option.bind_some, bne_self_eq_false, Bool.false_eq_true, if_false]
  split
  · rfl
  · split <;> rfl
theorem ev_cmpP (p q : Pr) : ∃ k, QA.slices_Compare_int64_int64.f k [p.f0, p.f1] [q.f0, q.f1] = some (cmpP p q) := by
  refine ⟨3, ?_⟩
  unfold QA.slices_Compare_int64_int64.f cmpP
  simp [QA.slices_Compare_int64_int64.l0, cmpI_f, rd, wrap64]
  by_cases h0 : cmpI p.f0 q.f0 = 0
  · by_cases h1 : cmpI p.f1 q.f1 = 0
    · simp [h0, h1]
    · simp [h0, h1]
  · simp [h0]
set_option maxRecDepth 100000 in
set_option maxHeartbeats 1000000 in
theorem comparePairs_c (p q : Pr) (w : World) : Calls Tryz.prog 81 #[.agg #[.int .i64 p.f0, .int .i64 p.f1], .agg #[.int .i64 q.f0, .int .i64 q.f1]] w fun e w' => e = .returned (.int .i64 (cmpP p q)) ∧ Below w.heap.size w w' := by
  obtain ⟨k, hk⟩ := ev_cmpP p q
  have HK := Aside0.mk hk
  clear hk
  have h1 := Aside0.mk (((PrAt.new w p.f0 p.f1).alloc (.cells #[.int .i64 q.f0, .int .i64 q.f1] 46)).drew)
  have h2 : Aside0 (PrAt ((w.alloc (.cells #[.int .i64 p.f0, .int .i64 p.f1] 46)).alloc (.cells #[.int .i64 q.f0, .int .i64 q.f1] 46)).drew (w.heap.size + 1) q.f0 q.f1) := ⟨by have := (PrAt.new (w.alloc (.cells #[.int .i64 p.f0, .int .i64 p.f1] 46)) q.f0 q.f1).drew; simpa using this⟩
  have HB := Aside0.mk ((below_alloc (below_alloc (Below.refl w.heap.size w) (.cells #[.int .i64 p.f0, .int .i64 p.f1] 46)) (.cells #[.int .i64 q.f0, .int .i64 q.f1] 46)).drew)
  go_enter Tryz.func81, Tryz.ntmps81
  go_wp2
  refine st_ 4 (S := fun w' => True) (ds := []) trivial (fun hHeld => ?_)
  refine with_tabW (T := (true, [([], []), ([], []), ([0, 1], [0, 1]), ([2, 2, 0, 1, 2], [2])])) (B := [0, 0, 3, 7]) (by kernel_rfl) (by kernel_rfl) (fun HT_ HW_ => ?_)
  refine pd_ 0 5 1 HT_ ?_
  refine pd_ 1 6 3 HT_ ?_
  refine on_ 2 (some 7) 7 HT_ (fun K hK => ?_)
  refine ca_ Tryz.func104 #[.slice (some ⟨w.heap.size, 0, none⟩) 2 2, .slice (some ⟨w.heap.size + 1, 0, none⟩) 2 2] ?_
  refine (QA.slices_Compare_int64_int64.calls k _ _ [p.f0, p.f1] _ _ [q.f0, q.f1] _ _ (rowOf_pr h1.out) (Nat.le_refl _) (rowOf_pr h2.out) (Nat.le_refl _) HK.out).mono ?_; rintro e w1 ⟨rfl, hd⟩
  refine ⟨_, rfl, ?_⟩
  refine hK.out _ _ trivial (fun hHeld => ?_)
  clear hK K
  refine nm_ ?_
  refine pd_ 3 4 15 HT_ ?_
  refine dn_ HT_ ?_
  go_wp2
  go_ret
  exact ⟨rfl, HB.out.trans (hd.below.mono HB.out.size)⟩
theorem firstP_nonneg (p : Pr → Bool) (xs : List Pr) : decide (firstP p xs ≥ 0) = xs.any p := by
  unfold firstP
  cases h : xs.any p with
  | true => simp
  | false => simp
set_option maxRecDepth 100000 in
theorem containsPair_c (A : Option Addr) (c : Nat) (xs : List Pr) (fv : Value) (dom : Pr → Prop) (p : Pr → Bool) (w : World) (hr : Kd.C k46 w A xs.length xs) (hf : FnP Tryz.prog fv dom p w) (hd : ∀ x ∈ xs, dom x) (hl : xs.length ≤ 1099511627776) :
    Calls Tryz.prog 43 #[.slice A xs.length c, fv] w fun e w' => e = .returned (.bool (xs.any p)) ∧ Below w.heap.size w w' := by
  rw [← firstP_nonneg]
  have hc := indexPair_c A c xs fv dom p w hr hf hd hl
  have HC := Aside0.mk hc
  clear hc hr hf hd
  generalize firstP p xs = r at HC ⊢
  go_enter Tryz.func43, Tryz.ntmps43
  go_wp2_with (go_at_call 70; refine HC.out.mono ?_; rintro e w' ⟨rfl, hb⟩)
  go_ret
  exact ⟨rfl, hb⟩
theorem areAllP1_f (b : Nat) (fv : Value) (dom : Pr → Prop) (p : Pr → Bool) (w : World) (hb : Boxed w b 64 fv) (hf : FnP Tryz.prog fv dom p w) :
    FnP Tryz.prog (.func (.func 82) #[] #[.pointer (some ⟨b, 0, none⟩)]) dom (fun x => !p x) w := by
  refine ⟨_, _, _, rfl, enters_of Tryz.func82 (by kernel_rfl) rfl, fun W x hW hx => ?_⟩
  obtain ⟨g, fs, lb, rfl, eg, hcall⟩ := hf
  have hb1 : Below W.heap.size W (W.alloc (.cells #[.int .i64 x.f0, .int .i64 x.f1] 46)) := (Below.refl _ W).alloc (Nat.le_refl _) _
  have hc := hcall _ x (hW.trans (hb1.mono hW.size)) hx
  have HC := Aside0.mk hc
  have HB := Aside0.mk hb1
  have hcell : W.cell? ⟨b, 0, none⟩ = some (.func (.func g) fs lb) := (hW.cell (p := ⟨b, 0, none⟩) hb.lt).trans hb.cell
  have hlt : b < W.heap.size := Nat.lt_of_lt_of_le hb.lt hW.size
  clear hc hcall hW hx hb hb1
  show Calls Tryz.prog 82 #[.agg #[.int .i64 x.f0, .int .i64 x.f1], .pointer (some ⟨b, 0, none⟩)] W fun e w' => e = .returned (.bool (!p x)) ∧ Below W.heap.size W w'
  generalize p x = r at HC ⊢
  have hc1 : (W.alloc (.cells #[.int .i64 x.f0, .int .i64 x.f1] 46)).cell? ⟨b, 0, none⟩ = some (.func (.func g) fs lb) := (HB.out.cell (p := ⟨b, 0, none⟩) hlt).trans hcell
  go_enter Tryz.func82, Tryz.ntmps82
  go_wp2_with (go_at_fn g; refine HC.out.mono ?_; rintro e w' ⟨rfl, hb⟩)
  go_ret
  exact ⟨rfl, below_in HB.out hb⟩
theorem all_not_anyP (p : Pr → Bool) (xs : List Pr) : xs.all p = !(xs.any fun x => !p x) := by
  induction xs with
  | nil => rfl
  | cons x xs ih => simp only [List.all_cons, List.any_cons, ih, Bool.not_or, Bool.not_not]
theorem areAllP_c (A : Option Addr) (c : Nat) (xs : List Pr) (fv : Value) (dom : Pr → Prop) (p : Pr → Bool) (w : World) (hr : Kd.C k46 w A xs.length xs) (hf : FnP Tryz.prog fv dom p w) (hd : ∀ x ∈ xs, dom x) (hl : xs.length ≤ 1099511627776) :
    Calls Tryz.prog 65 #[.slice A xs.length c, fv] w fun e w' => e = .returned (.bool (xs.all p)) ∧ Below w.heap.size w w' := by
  have hb1 : Below w.heap.size w (w.alloc (.cells #[fv] 64)) := (Below.refl _ w).alloc (Nat.le_refl _) _
  have hc := containsPair_c A c xs _ dom (fun x => !p x) (w.alloc (.cells #[fv] 64)) (Kd.C_below hr hb1) (areAllP1_f w.heap.size fv dom p _ (Boxed.new w _ fv) (hf.later hb1)) hd hl
  have he := all_not_anyP p xs
  rw [he]
  have HC := Aside0.mk hc
  have HB := Aside0.mk hb1
  clear hc hr hd he hb1
  obtain ⟨g, fs, lb, rfl, eg, hcall⟩ := hf
  clear hcall eg
  generalize (xs.any fun x => !p x) = r at HC ⊢
  go_enter Tryz.func65, Tryz.ntmps65
  go_wp2_with (go_at_call 43; refine HC.out.mono ?_; rintro e w' ⟨rfl, hb⟩)
  go_ret
  exact ⟨rfl, below_in HB.out hb⟩
end Go.Proofs.YtpjcnigohhnhnaaGreat.Im
namespace Go.Proofs.YtpjcnigohhnhnaaGreat.QI
open Kp Ext Go.RowKit YtpjcnigohhnhnaaGreatW.PrintWords YtpjcnigohhnhnaaGreatW.PrintLast YtpjcnigohhnhnaaGreatW.PrintMore
attribute [local go_sem] max2_int min2_int max_two min_two max_three min_three max_four min_four   -- for this text's walks alone
def errW : Option Int → Value
  | none => .nilIface
  | some c => .iface 0 (.int .i64 c)
theorem errW_none : errW none = .nilIface := rfl
theorem errW_some (c : Int) : errW (some c) = .iface 0 (.int .i64 c) := rfl
open Go.Proofs.YtpjcnigohhnhnaaGreat.QA (bits_OnesCount64.f)
set_option maxHeartbeats 8000000 in
set_option maxRecDepth 100000 in
theorem bits_OnesCount64.calls (a0 : Int) (r : Int) (w : World) (h : bits_OnesCount64.f a0 = some r) :
    Calls Tryz.prog 84 #[.int .u64 a0] w fun e w' => e = .returned (.int .i64 r) ∧ Drawn0 w w' := by
  have H : (some (Go.bits .and .i64 (wrap64 (IntKind.u64.wrap ((IntKind.u64.wrap ((IntKind.u64.wrap ((Go.bits .and .u64 (IntKind.u64.wrap (((IntKind.u64.wrap ((Go.bits .and .u64 ((IntKind.u64.wrap ((Go.bits .and .u64 (a0 / 2) 6148914691236517205) + (Go.bits .and .u64 a0 6148914691236517205))) / 4) 3689348814741910323) + (Go.bits .and .u64 (IntKind.u64.wrap ((Go.bits .and .u64 (a0 / 2) 6148914691236517205) + (Go.bits .and .u64 a0 6148914691236517205))) 3689348814741910323))) / 16) + (IntKind.u64.wrap ((Go.bits .and .u64 ((IntKind.u64.wrap ((Go.bits .and .u64 (a0 / 2) 6148914691236517205) + (Go.bits .and .u64 a0 6148914691236517205))) / 4) 3689348814741910323) + (Go.bits .and .u64 (IntKind.u64.wrap ((Go.bits .and .u64 (a0 / 2) 6148914691236517205) + (Go.bits .and .u64 a0 6148914691236517205))) 3689348814741910323))))) 1085102592571150095) + ((Go.bits .and .u64 (IntKind.u64.wrap (((IntKind.u64.wrap ((Go.bits .and .u64 ((IntKind.u64.wrap ((Go.bits .and .u64 (a0 / 2) 6148914691236517205) + (Go.bits .and .u64 a0 6148914691236517205))) / 4) 3689348814741910323) + (Go.bits .and .u64 (IntKind.u64.wrap ((Go.bits .and .u64 (a0 / 2) 6148914691236517205) + (Go.bits .and .u64 a0 6148914691236517205))) 3689348814741910323))) / 16) + (IntKind.u64.wrap ((Go.bits .and .u64 ((IntKind.u64.wrap ((Go.bits .and .u64 (a0 / 2) 6148914691236517205) + (Go.bits .and .u64 a0 6148914691236517205))) / 4) 3689348814741910323) + (Go.bits .and .u64 (IntKind.u64.wrap ((Go.bits .and .u64 (a0 / 2) 6148914691236517205) + (Go.bits .and .u64 a0 6148914691236517205))) 3689348814741910323))))) 1085102592571150095) / 256))) + ((IntKind.u64.wrap ((Go.bits .and .u64 (IntKind.u64.wrap (((IntKind.u64.wrap ((Go.bits .and .u64 ((IntKind.u64.wrap ((Go.bits .and .u64 (a0 / 2) 6148914691236517205) + (Go.bits .and .u64 a0 6148914691236517205))) / 4) 3689348814741910323) + (Go.bits .and .u64 (IntKind.u64.wrap ((Go.bits .and .u64 (a0 / 2) 6148914691236517205) + (Go.bits .and .u64 a0 6148914691236517205))) 3689348814741910323))) / 16) + (IntKind.u64.wrap ((Go.bits .and .u64 ((IntKind.u64.wrap ((Go.bits .and .u64 (a0 / 2) 6148914691236517205) + (Go.bits .and .u64 a0 6148914691236517205))) / 4) 3689348814741910323) + (Go.bits .and .u64 (IntKind.u64.wrap ((Go.bits .and .u64 (a0 / 2) 6148914691236517205) + (Go.bits .and .u64 a0 6148914691236517205))) 3689348814741910323))))) 1085102592571150095) + ((Go.bits .and .u64 (IntKind.u64.wrap (((IntKind.u64.wrap ((Go.bits .and .u64 ((IntKind.u64.wrap ((Go.bits .and .u64 (a0 / 2) 6148914691236517205) + (Go.bits .and .u64 a0 6148914691236517205))) / 4) 3689348814741910323) + (Go.bits .and .u64 (IntKind.u64.wrap ((Go.bits .and .u64 (a0 / 2) 6148914691236517205) + (Go.bits .and .u64 a0 6148914691236517205))) 3689348814741910323))) / 16) + (IntKind.u64.wrap ((Go.bits .and .u64 ((IntKind.u64.wrap ((Go.bits .and .u64 (a0 / 2) 6148914691236517205) + (Go.bits .and .u64 a0 6148914691236517205))) / 4) 3689348814741910323) + (Go.bits .and .u64 (IntKind.u64.wrap ((Go.bits .and .u64 (a0 / 2) 6148914691236517205) + (Go.bits .and .u64 a0 6148914691236517205))) 3689348814741910323))))) 1085102592571150095) / 256))) / 65536))) + ((IntKind.u64.wrap ((IntKind.u64.wrap ((Go.bits .and .u64 (IntKind.u64.wrap (((IntKind.u64.wrap ((Go.bits .and .u64 ((IntKind.u64.wrap ((Go.bits .and .u64 (a0 / 2) 6148914691236517205) + (Go.bits .and .u64 a0 6148914691236517205))) / 4) 3689348814741910323) + (Go.bits .and .u64 (IntKind.u64.wrap ((Go.bits .and .u64 (a0 / 2) 6148914691236517205) + (Go.bits .and .u64 a0 6148914691236517205))) 3689348814741910323))) / 16) + (IntKind.u64.wrap ((Go.bits .and .u64 ((IntKind.u64.wrap ((Go.bits .and .u64 (a0 / 2) 6148914691236517205) + (Go.bits .and .u64 a0 6148914691236517205))) / 4) 3689348814741910323) + (Go.bits .and .u64 (IntKind.u64.wrap ((Go.bits .and .u64 (a0 / 2) 6148914691236517205) + (Go.bits .and .u64 a0 6148914691236517205))) 3689348814741910323))))) 1085102592571150095) + ((Go.bits .and .u64 (IntKind.u64.wrap (((IntKind.u64.wrap ((Go.bits .and .u64 ((IntKind.u64.wrap ((Go.bits .and .u64 (a0 / 2) 6148914691236517205) + (Go.bits .and .u64 a0 6148914691236517205))) / 4) 3689348814741910323) + (Go.bits .and .u64 (IntKind.u64.wrap ((Go.bits .and .u64 (a0 / 2) 6148914691236517205) + (Go.bits .and .u64 a0 6148914691236517205))) 3689348814741910323))) / 16) + (IntKind.u64.wrap ((Go.bits .and .u64 ((IntKind.u64.wrap ((Go.bits .and .u64 (a0 / 2) 6148914691236517205) + (Go.bits .and .u64 a0 6148914691236517205))) / 4) 3689348814741910323) + (Go.bits .and .u64 (IntKind.u64.wrap ((Go.bits .and .u64 (a0 / 2) 6148914691236517205) + (Go.bits .and .u64 a0 6148914691236517205))) 3689348814741910323))))) 1085102592571150095) / 256))) + ((IntKind.u64.wrap ((Go.bits .and .u64 (IntKind.u64.wrap (((IntKind.u64.wrap ((Go.bits .and .u64 ((IntKind.u64.wrap ((Go.bits .and .u64 (a0 / 2) 6148914691236517205) + (Go.bits .and .u64 a0 6148914691236517205))) / 4) 3689348814741910323) + (Go.bits .and .u64 (IntKind.u64.wrap ((Go.bits .and .u64 (a0 / 2) 6148914691236517205) + (Go.bits .and .u64 a0 6148914691236517205))) 3689348814741910323))) / 16) + (IntKind.u64.wrap ((Go.bits .and .u64 ((IntKind.u64.wrap ((Go.bits .and .u64 (a0 / 2) 6148914691236517205) + (Go.bits .and .u64 a0 6148914691236517205))) / 4) 3689348814741910323) + (Go.bits .and .u64 (IntKind.u64.wrap ((Go.bits .and .u64 (a0 / 2) 6148914691236517205) + (Go.bits .and .u64 a0 6148914691236517205))) 3689348814741910323))))) 1085102592571150095) + ((Go.bits .and .u64 (IntKind.u64.wrap (((IntKind.u64.wrap ((Go.bits .and .u64 ((IntKind.u64.wrap ((Go.bits .and .u64 (a0 / 2) 6148914691236517205) + (Go.bits .and .u64 a0 6148914691236517205))) / 4) 3689348814741910323) + (Go.bits .and .u64 (IntKind.u64.wrap ((Go.bits .and .u64 (a0 / 2) 6148914691236517205) + (Go.bits .and .u64 a0 6148914691236517205))) 3689348814741910323))) / 16) + (IntKind.u64.wrap ((Go.bits .and .u64 ((IntKind.u64.wrap ((Go.bits .and .u64 (a0 / 2) 6148914691236517205) + (Go.bits .and .u64 a0 6148914691236517205))) / 4) 3689348814741910323) + (Go.bits .and .u64 (IntKind.u64.wrap ((Go.bits .and .u64 (a0 / 2) 6148914691236517205) + (Go.bits .and .u64 a0 6148914691236517205))) 3689348814741910323))))) 1085102592571150095) / 256))) / 65536))) / 4294967296)))) 127)) = some r := h
  clear h
  obtain rfl := Option.some.inj H
  go_enter Tryz.func84, Tryz.ntmps84
  go_wp2
  go_ret
  exact ⟨by first | rfl | (simp; done) | (simp [*]; done), by repeat (first | exact Drawn0.refl _ | apply Drawn0.step)⟩
def impl_size.f (a0 : Int) : Option (Int) := (bits_OnesCount64.f (IntKind.u64.wrap (a0))).bind fun t101 => (some t101)
set_option maxHeartbeats 8000000 in
set_option maxRecDepth 100000 in
theorem impl_size.calls (a0 : Int) (r : Int) (w : World) (h : impl_size.f a0 = some r) :
    Calls Tryz.prog 68 #[.int .i64 a0] w fun e w' => e = .returned (.int .i64 r) ∧ Drawn0 w w' := by
  have H : ((bits_OnesCount64.f (IntKind.u64.wrap (a0))).bind fun t101 => (some t101)) = some r := h
  clear h
  replace H := Option.bind_eq_some_iff.mp H
  obtain ⟨t101, A20, H⟩ := H
  replace H : (some t101) = some r := H
  have A2 := Aside0.mk A20
  clear A20
  obtain rfl := Option.some.inj H
  go_enter Tryz.func68, Tryz.ntmps68
  go_wp2_with (first | ((with_reducible refine gate_callee (f := 84) rfl ?_); refine goesL_ (some 5) rfl rfl Tryz.func84 (by kernel_rfl) rfl #[.int .u64 (IntKind.u64.wrap (a0))] rfl (by (try simp only [List.map_toArray, List.map_cons, List.map_nil]); first | done | rfl | (simp only [List.length_drop, List.length_take]; rfl)) ?_; (with_reducible refine (bits_OnesCount64.calls (IntKind.u64.wrap (a0)) t101 _ A2.out).mono ?_); rintro e w' ⟨rfl, ⟨nd, rfl⟩⟩; refine ⟨_, rfl, ?_⟩))
  go_ret
  exact ⟨by first | rfl | (simp; done) | (simp [*]; done), by repeat (first | exact Drawn0.refl _ | apply Drawn0.step)⟩
def impl_dimension.f (a0 : Int) : Option (Int) := (impl_size.f a0).bind fun t102 => (some (wrap64 (t102 - 1)))
set_option maxHeartbeats 8000000 in
set_option maxRecDepth 100000 in
theorem impl_dimension.calls (a0 : Int) (r : Int) (w : World) (h : impl_dimension.f a0 = some r) :
    Calls Tryz.prog 39 #[.int .i64 a0] w fun e w' => e = .returned (.int .i64 r) ∧ Drawn0 w w' := by
  have H : ((impl_size.f a0).bind fun t102 => (some (wrap64 (t102 - 1)))) = some r := h
  clear h
  replace H := Option.bind_eq_some_iff.mp H
  obtain ⟨t102, A20, H⟩ := H
  replace H : (some (wrap64 (t102 - 1))) = some r := H
  have A2 := Aside0.mk A20
  clear A20
  obtain rfl := Option.some.inj H
  go_enter Tryz.func39, Tryz.ntmps39
  go_wp2_with (first | ((with_reducible refine gate_callee (f := 68) rfl ?_); refine goesL_ (some 4) rfl rfl Tryz.func68 (by kernel_rfl) rfl #[.int .i64 a0] rfl (by (try simp only [List.map_toArray, List.map_cons, List.map_nil]); first | done | rfl | (simp only [List.length_drop, List.length_take]; rfl)) ?_; (with_reducible refine (impl_size.calls a0 t102 _ A2.out).mono ?_); rintro e w' ⟨rfl, ⟨nd, rfl⟩⟩; refine ⟨_, rfl, ?_⟩))
  go_ret
  exact ⟨by first | rfl | (simp; done) | (simp [*]; done), by repeat (first | exact Drawn0.refl _ | apply Drawn0.step)⟩
def impl_Complex_dimension.l0 : Nat → Int → List Int → Int → Int → Option (Int)
  | 0, _, _, _, _ => none
  | k + 1, x3, x7, x8, x9 => if x9 < x8 then (if 0 ≤ x9 then (if x9 < (x7.length : Int) then ((impl_dimension.f (rd x7 x9)).bind fun t105 => (impl_Complex_dimension.l0 k (mx x3 t105) x7 x8 (wrap64 (x9 + 1)))) else (none)) else (none)) else (some x3)
def impl_Complex_dimension.f (k : Nat) (a0_0 : Int) (l0_1 : List Int) : Option (Int) := impl_Complex_dimension.l0 k (-1) l0_1 (l0_1.length : Int) 0
set_option maxHeartbeats 8000000 in
set_option maxRecDepth 100000 in
theorem impl_Complex_dimension.calls (k : Nat) (a0_0 : Int) (A0_1 : Option Addr) (c0_1 : Nat) (l0_1 : List Int) (r : Int) (w : World) (hr0_1 : Kd.C (Kd.int .i64) w A0_1 l0_1.length l0_1) (hc0_1 : l0_1.length ≤ c0_1) (h : impl_Complex_dimension.f k a0_0 l0_1 = some r) :
    Calls Tryz.prog 38 #[.agg #[.int .i64 a0_0, .slice A0_1 l0_1.length c0_1]] w fun e w' => e = .returned (.int .i64 r) ∧ Below w.heap.size w w' := by
  have hu30 := Tryz.underlying30
  have HR0_1 := Aside0.mk hr0_1
  have HC0_1 := Aside0.mk hc0_1
  clear hr0_1 hc0_1
  have HB := Aside0.mk (Below.refl w.heap.size w)
  have H : (impl_Complex_dimension.l0 k (-1) l0_1 (l0_1.length : Int) 0) = some r := h
  clear h
  have H' := Aside0.mk H
  clear H
  go_enter Tryz.func38, Tryz.ntmps38
  go_wp2_with (first | ((with_reducible refine gate_dst (N := 1) rfl ?_); refine box_event ?hg (N := 1) ?hd (cs := #[.int .i64 a0_0, .slice A0_1 l0_1.length c0_1]) (t := 30) ?hr ?_; (case hd => rfl); (case hg => rfl); (case hr => first | (go_simp; done) | (go_simp; rfl)); intro gb103 hg w2 hbox hb; have n0_ := Aside0.mk (below_step (by repeat (first | (with_reducible first | exact HB.out | apply below_alloc | apply pw_below_drewN | apply below_drew1) | exact HB.out)) hb); have n1_ := Aside0.mk (hbox); have n2_ := Aside0.mk ((by rw [hg]; exact (below_size (by repeat (first | (with_reducible first | exact HB.out | apply below_alloc | apply pw_below_drewN | apply below_drew1) | exact HB.out))) : w.heap.size ≤ gb103)); have n3_ := Aside0.mk ((by rw [hg]; exact (below_size (by repeat (first | (with_reducible first | exact HB.out | apply below_alloc | apply pw_below_drewN | apply below_drew1) | exact HB.out))) : w.heap.size ≤ gb103)); clear HB; have HB := n0_; have BK103 := n1_; have GW103 := n2_; have GE103 := n3_; clear n0_ n1_ n2_ n3_; clear hb hbox hg; have hcz3_0 : w2.cell? ⟨gb103, 0, none⟩ = some (.int .i64 a0_0) := (blk_cell BK103.out 0).trans rfl; have hcz3_1 : w2.cell? ⟨gb103, 1, none⟩ = some (.slice A0_1 l0_1.length c0_1) := (blk_cell BK103.out 1).trans rfl; have hfz3_0 := blk_frozen BK103.out 0; have hfz3_1 := blk_frozen BK103.out 1))
  go_loopg [3, 9] k (fun kq v3 v9 w' => ∃ (x3_1 : Int) (x9_1 : Int), v3 = .int .i64 x3_1 ∧ v9 = .int .i64 x9_1 ∧ Aside0 (impl_Complex_dimension.l0 kq x3_1 l0_1 (l0_1.length : Int) x9_1 = some r) ∧ Aside0 (kq ≤ k) ∧ Aside0 (w'.heap[gb103]? = some (.cells #[.int .i64 a0_0, (.slice A0_1 l0_1.length c0_1)] 30 (0, 0))) ∧ Aside0 (Below w.heap.size w w'))
  case atStart => exact ⟨((-1)), (0), (by first | rfl | (simp; done) | (simp [*]; done)), (by first | rfl | (simp; done) | (simp [*]; done)), H', ⟨Nat.le_refl _⟩, ⟨by (with_reducible repeat (first | refine blk_drewN ?_ _ | refine blk_drew ?_ | refine blk_alloc ?_ _)); exact BK103.out⟩, ⟨by repeat (first | (with_reducible first | exact HB.out | apply below_alloc | apply pw_below_drewN | apply below_drew1 | refine below_set ?_ GE103.out) | exact HB.out)⟩⟩
  case round =>
    clear H'
    try clear p2
    try clear c3
    try clear hcz3_0
    try clear hcz3_1
    try clear hfz3_0
    try clear hfz3_1
    obtain ⟨x3_1, x9_1, rfl, rfl, HA, HK1, BK103, HB⟩ := hrel
    cases gk with
    | zero => exact absurd HA.out (by simp [impl_Complex_dimension.l0])
    | succ k1 =>
      have H := HA.out
      clear HA
      simp only [impl_Complex_dimension.l0] at H
      by_cases c4 : x9_1 < (l0_1.length : Int)
      · rw [if_pos c4] at H
        have c4b0 : decide (x9_1 < (l0_1.length : Int)) = true := decide_eq_true c4
        clear c4
        by_cases c5 : 0 ≤ x9_1
        · rw [if_pos c5] at H
          have c5b0 : decide (0 ≤ x9_1) = true := decide_eq_true c5
          clear c5
          by_cases c6 : x9_1 < (l0_1.length : Int)
          · rw [if_pos c6] at H
            have c6b0 : decide (x9_1 < (l0_1.length : Int)) = true := decide_eq_true c6
            clear c6
            replace H := Option.bind_eq_some_iff.mp H
            obtain ⟨t105, A70, H⟩ := H
            replace H : (impl_Complex_dimension.l0 k1 (mx x3_1 t105) l0_1 (l0_1.length : Int) (wrap64 (x9_1 + 1))) = some r := H
            have A7 := Aside0.mk A70
            clear A70
            obtain ⟨ji8, hji8⟩ : ∃ j_ : Int, (mx x3_1 t105) = j_ := ⟨_, rfl⟩
            replace H : (impl_Complex_dimension.l0 k1 ji8 l0_1 (l0_1.length : Int) (wrap64 (x9_1 + 1))) = some r := by first | (rw [hji8] at H; exact H) | (simp only [hji8] at H ⊢; exact H)
            (try rw [hji8] at A7)
            have hji8_ : (if x3_1 < t105 then t105 else x3_1) = ji8 := hji8
            have H' := Aside0.mk H
            clear H
            have p104 : 0 ≤ (x9_1 : Int) := of_decide_eq_true (by first | (with_reducible assumption) | assumption)
            have q104 : x9_1 < (l0_1.length : Int) := of_decide_eq_true (by first | (with_reducible assumption) | assumption)
            obtain ⟨ad104, e104, hx104_0⟩ := Kd.at_int HR0_1.out x9_1 p104 q104
            cases e104
            replace hx104_0 := (HB.out.cell (World.block_lt_of_cell? w _ hx104_0)).trans hx104_0
            replace p104 := eq_true p104
            replace q104 := eq_true q104
            go_wp2_with (first | ((with_reducible refine gate_callee (f := 39) rfl ?_); refine goesL_ (some 15) rfl rfl Tryz.func39 (by kernel_rfl) rfl #[.int .i64 (rd l0_1 x9_1)] rfl (by (try simp only [List.map_toArray, List.map_cons, List.map_nil]); first | done | rfl | (simp only [List.length_drop, List.length_take]; rfl)) ?_; (with_reducible refine (impl_dimension.calls (rd l0_1 x9_1) t105 _ A7.out).mono ?_); rintro e w' ⟨rfl, ⟨nd, rfl⟩⟩; refine ⟨_, rfl, ?_⟩))
            go_roundg k1
            case measure => have := HK1.out; omega
            case rel => exact ⟨(ji8), (wrap64 (x9_1 + 1)), (by first | rfl | (simp; done) | (simp only [← hji8] <;> (first | rfl | simp)) | (simp [*]; done)), (by first | rfl | (simp; done) | (simp [*]; done)), H', ⟨by have := HK1.out; omega⟩, ⟨by (with_reducible repeat (first | refine blk_drewN ?_ _ | refine blk_drew ?_ | refine blk_alloc ?_ _)); exact BK103.out⟩, ⟨by repeat (first | (with_reducible first | exact HB.out | apply below_alloc | apply pw_below_drewN | apply below_drew1 | refine below_set ?_ GE103.out) | exact HB.out)⟩⟩
          · rw [if_neg c6] at H
            exact absurd H (by simp)
        · rw [if_neg c5] at H
          exact absurd H (by simp)
      · rw [if_neg c4] at H
        have c4b0 : decide (x9_1 < (l0_1.length : Int)) = false := decide_eq_false c4
        clear c4
        obtain rfl := Option.some.inj H
        go_wp2
        go_ret
        exact ⟨by first | rfl | (simp [errW_none, errW_some] <;> rfl) | (simp [*, errW_none, errW_some] <;> rfl), by repeat (first | (with_reducible first | exact HB.out | apply below_alloc | apply pw_below_drewN | apply below_drew1 | refine below_set ?_ GE103.out) | exact HB.out)⟩
end Go.Proofs.YtpjcnigohhnhnaaGreat.QI
namespace Go.Proofs.YtpjcnigohhnhnaaGreat.Im
open Go.RowKit Go.Shelf QI Ext YtpjcnigohhnhnaaGreatW.PrintWords YtpjcnigohhnhnaaGreatW.PrintLast YtpjcnigohhnhnaaGreatW.PrintMore
def onesZ (x : Int) : Int := ((verts x).length : Int)
theorem size_all : ((List.range 64).all fun f => impl_size.f (f : Int) == some (onesZ (f : Int))) = true := by decide +kernel
theorem size_eq {x : Int} (h0 : 0 ≤ x) (h6 : x ≤ 63) : impl_size.f x = some (onesZ x) := by
  obtain ⟨m, rfl⟩ := Int.eq_ofNat_of_zero_le h0
  exact eq_of_beq (List.all_eq_true.1 size_all m (List.mem_range.2 (by omega)))
theorem isC_63 {n : Int} {l : List Int} (h : isC n l = true) : ∀ x ∈ l, 1 ≤ x ∧ x ≤ 63 := by
  obtain ⟨⟨h1, h6⟩, ha, _⟩ := isC_of h
  intro x hx
  obtain ⟨i, hi, rfl⟩ := List.mem_iff_getElem.1 hx
  have h2 := List.all_eq_true.1 ha i (List.mem_range.2 hi)
  simp only [okAt, List.getElem?_eq_getElem hi, Option.getD_some, withinB, Bool.and_eq_true, decide_eq_true_eq] at h2
  have hF : fullZ n ≤ 63 := by
    obtain rfl | rfl | rfl | rfl | rfl | rfl : n = 1 ∨ n = 2 ∨ n = 3 ∨ n = 4 ∨ n = 5 ∨ n = 6 := by omega
    all_goals decide +kernel
  omega
theorem w64' {x : Int} (h1 : -9223372036854775808 ≤ x) (h2 : x ≤ 9223372036854775807) : wrap64 x = x := by unfold wrap64; omega
theorem rd_at' {l : List Int} {i : Nat} (h : i < l.length) : rd l (i : Int) = l[i] := by simp [rd, List.getD_eq_getElem?_getD, List.getElem?_eq_getElem h]
theorem dim_eq {x : Int} (h0 : 0 ≤ x) (h6 : x ≤ 63) : impl_dimension.f x = some (onesZ x - 1) := by
  unfold impl_dimension.f
  rw [size_eq h0 h6]
  have : (verts x).length ≤ 6 := verts_len x
  simp only [Option.bind_some]
  rw [w64' (by unfold onesZ; omega) (by unfold onesZ; omega)]
def dimL (l : List Int) : Int := l.foldl (fun a x => max a (onesZ x - 1)) (-1)
theorem dim_loop (l : List Int) (hr : ∀ x ∈ l, 1 ≤ x ∧ x ≤ 63) (hm : l.length ≤ 4611686018427387904) :
    ∀ d (i : Nat) (a : Int), l.length - i = d → i ≤ l.length → Ev (fun k => impl_Complex_dimension.l0 k a l (l.length : Int) i) ((l.drop i).foldl (fun a x => max a (onesZ x - 1)) a) := by
  intro d
  induction d with
  | zero =>
    intro i a hd hi
    rw [List.drop_eq_nil_of_le (by omega)]
    refine Ev.step (f := fun k => some a) (fun k => ?_) (Ev.now _)
    simp only [impl_Complex_dimension.l0]; rw [if_neg (by omega)]
  | succ d ih =>
    intro i a hd hi
    have hi' : i < l.length := by omega
    have hx := hr _ (List.getElem_mem hi')
    rw [List.drop_eq_getElem_cons hi', List.foldl_cons]
    refine Ev.step (f := fun k => impl_Complex_dimension.l0 k (max a (onesZ l[i] - 1)) l (l.length : Int) ((i + 1 : Nat) : Int)) (fun k => ?_) (ih (i + 1) _ (by omega) (by omega))
    simp only [impl_Complex_dimension.l0]
    rw [if_pos (by omega), if_pos (by omega), if_pos (by omega), rd_at' hi', dim_eq (by omega) (by omega)]
    simp only [Option.bind_some]
    rw [show wrap64 ((i : Int) + 1) = ((i + 1 : Nat) : Int) by rw [w64' (by omega) (by omega)]; omega, show mx a (onesZ l[i] - 1) = max a (onesZ l[i] - 1) by unfold mx; split <;> omega]
theorem dimension_c (m : Int) (A : Option Addr) (c : Nat) (xs : List Int) (w : World) (hr : RC w A xs.length xs) (hc : xs.length ≤ c) (hi : isC m xs = true) :
    Calls Tryz.prog 38 #[.agg #[.int .i64 m, .slice A xs.length c]] w fun e w' => e = .returned (.int .i64 (dimL xs)) ∧ Below w.heap.size w w' := by
  obtain ⟨k, hk⟩ := (dim_loop xs (isC_63 hi) (by have := isC_small hi; omega) _ 0 (-1) rfl (Nat.zero_le _)).rounds
  exact impl_Complex_dimension.calls k m A c xs _ w hr hc hk
end Go.Proofs.YtpjcnigohhnhnaaGreat.Im
namespace Go.Proofs.YtpjcnigohhnhnaaGreat.Im
open Go.RowKit Go.Shelf Kp Ext Cw YtpjcnigohhnhnaaGreatW.PrintWords YtpjcnigohhnhnaaGreatW.PrintLast YtpjcnigohhnhnaaGreatW.PrintMore
theorem sizeA_eq {x : Int} (h0 : 0 ≤ x) (h6 : x ≤ 63) : QA.impl_size.f x = some (onesZ x) := size_eq h0 h6
def pairB (xs : List Int) (p : Pr) : Bool := decide (p.f0 ∈ xs) && (decide (p.f1 ∈ xs) && ((Go.bits .andNot .i64 p.f0 p.f1 == 0) && (onesZ p.f1 == onesZ p.f0 + 1)))
theorem isPair_f {n : Int} {xs : List Int} (hi : isC n xs = true) (p : Pr) : QA.impl_Complex_isPair.f n xs p.f0 p.f1 = some (pairB xs p) := by
  have hs := isC_small hi
  have ha := ascB_asc (isC_of hi).2.1
  have r := isC_63 hi
  unfold QA.impl_Complex_isPair.f pairB impl_Complex_has.f impl_isIn.f
  rw [if_pos ⟨by omega, ha⟩, if_pos ⟨by omega, ha⟩]
  simp only [Option.bind_some, decide_eq_true_eq, if_true]
  by_cases h0 : p.f0 ∈ xs
  · by_cases h1 : p.f1 ∈ xs
    · have a0 := r _ h0
      have a1 := r _ h1
      have hv := verts_len p.f0
      rw [if_pos h0, if_pos h1, sizeA_eq (by omega) (by omega), sizeA_eq (by omega) (by omega)]
      simp only [Option.bind_some, h0, h1, decide_true, Bool.true_and]
      rw [w64' (by unfold onesZ; omega) (by unfold onesZ; omega)]
      cases (Go.bits .andNot .i64 p.f0 p.f1 == 0) <;> simp
    · simp [h0, h1]
  · simp [h0]
theorem isPair_c (n : Int) (A : Option Addr) (c : Nat) (xs : List Int) (p : Pr) (w : World) (hr : RC w A xs.length xs) (hc : xs.length ≤ c) (hi : isC n xs = true) :
    Calls Tryz.prog 80 #[.agg #[.int .i64 n, .slice A xs.length c], .agg #[.int .i64 p.f0, .int .i64 p.f1]] w fun e w' => e = .returned (.bool (pairB xs p)) ∧ Below w.heap.size w w' :=
  QA.impl_Complex_isPair.calls n A c xs p.f0 p.f1 _ w hr hc (isPair_f hi p)
def hasF (x : Int) (q : Pr) : Bool := x == q.f0 || x == q.f1
def okPairAt (xs : List Int) (l : List Pr) (i : Nat) : Bool :=
  pairB xs (l.getD i z46) && (!(l.take i).any (hasF (l.getD i z46).f0) && (!(l.take i).any (hasF (l.getD i z46).f1) && (i == 0 || decide (cmpP (l.getD (i - 1) z46) (l.getD i z46) < 0))))
def pairingB (xs : List Int) (l : List Pr) : Bool := (List.range l.length).all (okPairAt xs l)
theorem pairingB_no {xs : List Int} {l : List Pr} {i : Nat} (hi : i < l.length) (h : okPairAt xs l i = false) : pairingB xs l = false := by
  rw [Bool.eq_false_iff]
  intro hc
  rw [List.all_eq_true.1 hc i (List.mem_range.2 hi)] at h
  cases h
theorem pairingB_yes {xs : List Int} {l : List Pr} (h : ∀ i, i < l.length → okPairAt xs l i = true) : pairingB xs l = true := List.all_eq_true.2 (fun i hi => h i (List.mem_range.1 hi))
def CellsP (w : World) (ad : Addr) (m : Nat) (q : Pr) : Prop := w.cell? (ad.add (m * 2)) = some (.int .i64 q.f0) ∧ w.cell? ⟨(ad.add (m * 2)).block, (ad.add (m * 2)).off + 1, none⟩ = some (.int .i64 q.f1)
theorem cellsP_below {w w1 : World} {ad : Addr} {m : Nat} {q : Pr} (h : CellsP w ad m q) (hb : Below w.heap.size w w1) : CellsP w1 ad m q := ⟨pw_cell_below hb h.1, pw_cell_below hb h.2⟩
theorem CxAt.drew' {w : World} {b : Nat} {n : Int} {A : Option Addr} {len c : Nat} (h : CxAt w b n A len c) : CxAt w.drew b n A len c := h
theorem prAt_put {w w1 : World} {b g : Nat} {x y : Int} {M : List (Int × Bool)} (h : PrAt w g x y) (hm : MapB w b M) (hg : w.grownBy w1 (some b)) : PrAt w1 g x y := (hg.block g h.lt (fun e => hm.ne h (by injection e with e; exact e.symm))).trans h
theorem cxAt_put {w w1 : World} {b g : Nat} {n : Int} {A : Option Addr} {len c : Nat} {M : List (Int × Bool)} (h : CxAt w g n A len c) (hm : MapB w b M) (hg : w.grownBy w1 (some b)) : CxAt w1 g n A len c := (hg.block g h.lt (fun e => hm.ne h (by injection e with e; exact e.symm))).trans h
def Met (w : World) (b : Nat) (l : List Pr) : Prop := ∃ M, MapB w b M ∧ ∀ x, getM M x = l.any (hasF x)
theorem lookB {w : World} {b : Nat} {M : List (Int × Bool)} {v : Bool} (h : MapB w b M) {x : Int} (hv : getM M x = v) : (Instr.lookup 80 (.map (some b)) (.int .i64 x) false).run Tryz.prog w = .ok (.bool v) w := by
  rw [← hv]
  exact h.look Tryz.underlying80 Tryz.underlying2 (by kernel_rfl) x
theorem putB {w : World} {b : Nat} {M : List (Int × Bool)} (h : MapB w b M) (x : Int) (v : Bool) : ∃ w', (Instr.mapUpdate 80 (.map (some b)) (.int .i64 x) (.bool v)).run Tryz.prog w = .ok () w' ∧ MapB w' b (putM M x v) ∧ w.grownBy w' (some b) ∧ w'.heap.size = w.heap.size :=
  h.put Tryz.underlying80 Tryz.underlying2 x v
theorem met_snoc {w : World} {b : Nat} {M : List (Int × Bool)} {l : List Pr} {q : Pr} (h : MapB w b (putM (putM M q.f0 true) q.f1 true)) (hM : ∀ x, getM M x = l.any (hasF x)) : Met w b (l ++ [q]) := by
  refine ⟨_, h, fun x => ?_⟩
  rw [getM_put, getM_put, hM, List.any_append]
  by_cases h1 : x = q.f1
  · simp [h1, hasF]
  · by_cases h0 : x = q.f0
    · simp [h0, hasF]
    · simp [h0, h1, hasF]
theorem getD_take {l : List Pr} {k : Nat} (hk : k < l.length) : l.take (k + 1) = l.take k ++ [l.getD k z46] := by
  rw [List.take_succ_eq_append_getElem hk, List.getD_eq_getElem?_getD, List.getElem?_eq_getElem hk]
  rfl
set_option maxRecDepth 100000 in
set_option maxHeartbeats 2000000 in
theorem isPairing_c (n : Int) (A : Option Addr) (c : Nat) (xs : List Int) (A1 : Option Addr) (c1 : Nat) (l : List Pr) (w : World) (hr : RC w A xs.length xs) (hc : xs.length ≤ c) (hi : isC n xs = true) (hr1 : Kd.C k46 w A1 l.length l) (hl : l.length ≤ 1099511627776) :
    Calls Tryz.prog 64 #[.agg #[.int .i64 n, .slice A xs.length c], .slice A1 l.length c1] w fun e w' => e = .returned (.bool (pairingB xs l)) ∧ Below w.heap.size w w' := by
  have HR := Aside0.mk hr
  have HR1 := Aside0.mk hr1
  have HI := Aside0.mk hi
  have HC := Aside0.mk hc
  clear hr hr1 hi hc
  have hmm := @run_makeMap Tryz.prog
  have hx0 := Aside0.mk ((CxAt.new w n A xs.length c).below (below_alloc (Below.refl _ _) (.map #[] 0)))
  have hm0 : Aside0 (MapB ((w.alloc (.cells #[.int .i64 n, .slice A xs.length c] 30)).alloc (.map #[] 0)) (w.heap.size + 1) []) := ⟨by simpa using MapB.made (w.alloc (.cells #[.int .i64 n, .slice A xs.length c] 30))⟩
  go_enter Tryz.func64, Tryz.ntmps64
  go_wp2
  go_loopw [11] (fun i wr => ∃ k : Nat, k ≤ l.length ∧ i = .int .i64 k ∧ Aside0 (Below w.heap.size w wr) ∧ Aside0 (CxAt wr w.heap.size n A xs.length c) ∧ Aside0 (Met wr (w.heap.size + 1) (l.take k)) ∧ Aside0 (∀ j, j < k → okPairAt xs l j = true)) (fun i _ => l.length - (intOf i).toNat)
  case atStart => exact ⟨0, by omega, rfl, ⟨below_alloc (below_alloc (Below.refl _ _) _) _⟩, hx0, ⟨[], hm0.out, fun x => rfl⟩, ⟨fun j hj => absurd hj (by omega)⟩⟩
  case round =>
    clear hx0 hm0
    obtain ⟨k, hk, rfl, hB, hX, hM, hA⟩ := hrel
    by_cases hlt : k < l.length
    · have hltz : (k : Int) < (l.length : Int) := by omega
      obtain ⟨ad, rfl, h0, h1⟩ := pair_at (Kd.C_below HR1.out hB.out) k hlt
      obtain ⟨q, hq⟩ : ∃ q, l.getD k z46 = q := ⟨_, rfl⟩
      rw [hq] at h0 h1
      have HQ := Aside0.mk hq
      have HL := Aside0.mk hlt
      clear hq
      obtain ⟨M, hm1, hm2⟩ := hM.out
      clear hM
      have HN := Aside0.mk hm2
      clear hm2
      have HX := Aside0.mk ((hX.out.below (below_alloc (Below.refl _ _) (.cells #[.int .i64 q.f0, .int .i64 q.f1] 46))).below (Below.refl _ _).drew)
      have HM := Aside0.mk ((hm1.alloc (.cells #[.int .i64 q.f0, .int .i64 q.f1] 46)).drew)
      have HP := Aside0.mk ((PrAt.new wr q.f0 q.f1).drew)
      have HB := Aside0.mk ((hB.out.trans ((below_alloc (Below.refl wr.heap.size wr) (.cells #[.int .i64 q.f0, .int .i64 q.f1] 46)).mono hB.out.size)).drew)
      have HG := Aside0.mk hB.out.size
      clear hX hm1 hB
      by_cases h1' : pairB xs q = true
      case neg =>
        have H1 := Aside0.mk (Bool.eq_false_iff.2 h1')
        have hno : okPairAt xs l k = false := by unfold okPairAt; rw [HQ.out, H1.out]; rfl
        have HNO := Aside0.mk (pairingB_no HL.out hno)
        clear h1' hno
        go_wp2
        refine st_ 30 (S := fun w' => w'.cell? ⟨w.heap.size, 0, none⟩ = some (.int .i64 n) ∧ w'.cell? ⟨w.heap.size, 1, none⟩ = some (.slice A xs.length c) ∧ w'.cell? ⟨wr.heap.size, 0, none⟩ = some (.int .i64 q.f0) ∧ w'.cell? ⟨wr.heap.size, 1, none⟩ = some (.int .i64 q.f1)) (ds := []) ⟨HX.out.c0, HX.out.c1, HP.out.c0, HP.out.c1⟩ (fun hHeld => ?_)
        refine with_tabW (T := (true, [([], []), ([], []), ([0, 1], [0, 1]), ([2], [2]), ([3, 2], [3]), ([4], [4]), ([4], [4]), ([6, 4], [4, 6]), ([5, 7, 4], [4, 5, 7]), ([4, 8], [4, 8]), ([9, 4], [9]), ([10], [10]), ([10], [10]), ([12, 10], [10, 12]), ([11, 13, 10], [10, 11, 13]), ([10, 14], [10, 14]), ([15, 10], [15]), ([16], [16]), ([17, 16], [16, 17]), ([18, 16, 16], [16, 18]), ([19], [19]), ([19], [19]), ([21, 19], [19, 21]), ([20, 22, 19], [19, 20, 22]), ([23, 19], [19, 23]), ([19], [19]), ([24, 25, 19, 19], [19, 24, 25]), ([26, 19], [19, 26]), ([19, 27, 16], [16, 19, 27]), ([16, 28], [16, 28])])) (B := [0, 0, 3, 7, 15, 31, 31, 95, 255, 511, 1023, 2047, 2047, 6143, 16383, 32767, 65535, 131071, 262143, 524287, 1048575, 1048575, 3145727, 8388607, 16777215, 1048575, 67108863, 134217727, 268435455, 536870911]) (by kernel_rfl) (by kernel_rfl) (fun HT_ HW_ => ?_)
        refine tk_ 0 16 1 HT_ HW_ hHeld ?_
        refine tk_ 1 17 3 HT_ HW_ hHeld ?_
        refine on_ 2 (some 18) 7 HT_ (fun K hK => ?_)
        refine ca_ Tryz.func80 #[.agg #[.int .i64 n, .slice A xs.length c], .agg #[.int .i64 q.f0, .int .i64 q.f1]] ?_
        refine (isPair_c n A c xs q _ (Kd.C_below HR.out HB.out) HC.out HI.out).mono ?_; rw [show pairB xs q = false from H1.out]; rintro e w1 ⟨rfl, hb⟩; have HX1 := Aside0.mk (HX.out.below hb); have HM1 := Aside0.mk (HM.out.below hb); have HP1 := Aside0.mk (HP.out.below hb); have HB1 := Aside0.mk (below_in HB.out hb); clear HX HM HP HB; have HX := HX1; have HM := HM1; have HP := HP1; have HB := HB1; clear HX1 HM1 HP1 HB1
        refine ⟨_, rfl, ?_⟩
        refine hK.out _ _ ⟨HX.out.c0, HX.out.c1, HP.out.c0, HP.out.c1⟩ (fun hHeld => ?_)
        clear hK K
        refine nm_ ?_
        refine pd_ 3 19 15 HT_ ?_
        refine pd_ 4 20 31 HT_ ?_
        refine pn_ 5 21 63 HT_ ?_
        refine pn_ 6 22 127 HT_ ?_
        refine pn_ 7 23 255 HT_ ?_
        refine pn_ 8 24 511 HT_ ?_
        refine pd_ 9 25 1023 HT_ ?_
        refine pd_ 10 26 2047 HT_ ?_
        refine pn_ 11 27 4095 HT_ ?_
        refine pn_ 12 28 8191 HT_ ?_
        refine pn_ 13 29 16383 HT_ ?_
        refine pn_ 14 30 32767 HT_ ?_
        refine pd_ 15 31 65535 HT_ ?_
        refine pd_ 16 32 131071 HT_ ?_
        refine pn_ 17 33 262143 HT_ ?_
        refine pn_ 18 34 524287 HT_ ?_
        refine pn_ 19 35 1048575 HT_ ?_
        refine pn_ 20 36 2097151 HT_ ?_
        refine pn_ 21 37 4194303 HT_ ?_
        refine pn_ 22 38 8388607 HT_ ?_
        refine pn_ 23 39 16777215 HT_ ?_
        refine pn_ 24 40 33554431 HT_ ?_
        refine pn_ 25 41 67108863 HT_ ?_
        refine pn_ 26 42 134217727 HT_ ?_
        refine pn_ 27 43 268435455 HT_ ?_
        refine pn_ 28 44 536870911 HT_ ?_
        refine pd_ 29 45 1073741823 HT_ ?_
        refine dn_ HT_ ?_
        go_wp2
        go_ret
        exact ⟨by rw [HNO.out]; rfl, HB.out⟩
      have H1 := Aside0.mk h1'
      clear h1'
      by_cases h2' : getM M q.f0 = true
      case pos =>
        have H2 := Aside0.mk h2'
        have hno : okPairAt xs l k = false := by unfold okPairAt; rw [HQ.out, H1.out, ← HN.out, H2.out]; rfl
        have HNO := Aside0.mk (pairingB_no HL.out hno)
        clear h2' hno
        go_wp2
        refine st_ 30 (S := fun w' => w'.cell? ⟨w.heap.size, 0, none⟩ = some (.int .i64 n) ∧ w'.cell? ⟨w.heap.size, 1, none⟩ = some (.slice A xs.length c) ∧ w'.cell? ⟨wr.heap.size, 0, none⟩ = some (.int .i64 q.f0) ∧ w'.cell? ⟨wr.heap.size, 1, none⟩ = some (.int .i64 q.f1) ∧ (Instr.lookup 80 (.map (some (w.heap.size + 1))) (.int .i64 q.f0) false).run Tryz.prog w' = .ok (.bool true) w') (ds := []) ⟨HX.out.c0, HX.out.c1, HP.out.c0, HP.out.c1, lookB HM.out H2.out⟩ (fun hHeld => ?_)
        refine with_tabW (T := (true, [([], []), ([], []), ([0, 1], [0, 1]), ([2], [2]), ([3, 2], [3]), ([4], [4]), ([4], [4]), ([6, 4], [4, 6]), ([5, 7, 4], [4, 5, 7]), ([4, 8], [4, 8]), ([9, 4], [9]), ([10], [10]), ([10], [10]), ([12, 10], [10, 12]), ([11, 13, 10], [10, 11, 13]), ([10, 14], [10, 14]), ([15, 10], [15]), ([16], [16]), ([17, 16], [16, 17]), ([18, 16, 16], [16, 18]), ([19], [19]), ([19], [19]), ([21, 19], [19, 21]), ([20, 22, 19], [19, 20, 22]), ([23, 19], [19, 23]), ([19], [19]), ([24, 25, 19, 19], [19, 24, 25]), ([26, 19], [19, 26]), ([19, 27, 16], [16, 19, 27]), ([16, 28], [16, 28])])) (B := [0, 0, 3, 7, 15, 31, 31, 95, 255, 511, 1023, 2047, 2047, 6143, 16383, 32767, 65535, 131071, 262143, 524287, 1048575, 1048575, 3145727, 8388607, 16777215, 1048575, 67108863, 134217727, 268435455, 536870911]) (by kernel_rfl) (by kernel_rfl) (fun HT_ HW_ => ?_)
        refine tk_ 0 16 1 HT_ HW_ hHeld ?_
        refine tk_ 1 17 3 HT_ HW_ hHeld ?_
        refine on_ 2 (some 18) 7 HT_ (fun K hK => ?_)
        refine ca_ Tryz.func80 #[.agg #[.int .i64 n, .slice A xs.length c], .agg #[.int .i64 q.f0, .int .i64 q.f1]] ?_
        refine (isPair_c n A c xs q _ (Kd.C_below HR.out HB.out) HC.out HI.out).mono ?_; rw [show pairB xs q = true from H1.out]; rintro e w1 ⟨rfl, hb⟩; have HX1 := Aside0.mk (HX.out.below hb); have HM1 := Aside0.mk (HM.out.below hb); have HP1 := Aside0.mk (HP.out.below hb); have HB1 := Aside0.mk (below_in HB.out hb); clear HX HM HP HB; have HX := HX1; have HM := HM1; have HP := HP1; have HB := HB1; clear HX1 HM1 HP1 HB1
        refine ⟨_, rfl, ?_⟩
        refine hK.out _ _ ⟨HX.out.c0, HX.out.c1, HP.out.c0, HP.out.c1, lookB HM.out H2.out⟩ (fun hHeld => ?_)
        clear hK K
        refine nm_ ?_
        refine pd_ 3 19 15 HT_ ?_
        refine pd_ 4 20 31 HT_ ?_
        refine pd_ 5 21 63 HT_ ?_
        refine pd_ 6 22 127 HT_ ?_
        refine tk_ 7 23 255 HT_ HW_ hHeld ?_
        refine tk_ 8 24 511 HT_ HW_ hHeld ?_
        refine pd_ 9 25 1023 HT_ ?_
        refine pd_ 10 26 2047 HT_ ?_
        refine pn_ 11 27 4095 HT_ ?_
        refine pn_ 12 28 8191 HT_ ?_
        refine pn_ 13 29 16383 HT_ ?_
        refine pn_ 14 30 32767 HT_ ?_
        refine pd_ 15 31 65535 HT_ ?_
        refine pd_ 16 32 131071 HT_ ?_
        refine pn_ 17 33 262143 HT_ ?_
        refine pn_ 18 34 524287 HT_ ?_
        refine pn_ 19 35 1048575 HT_ ?_
        refine pn_ 20 36 2097151 HT_ ?_
        refine pn_ 21 37 4194303 HT_ ?_
        refine pn_ 22 38 8388607 HT_ ?_
        refine pn_ 23 39 16777215 HT_ ?_
        refine pn_ 24 40 33554431 HT_ ?_
        refine pn_ 25 41 67108863 HT_ ?_
        refine pn_ 26 42 134217727 HT_ ?_
        refine pn_ 27 43 268435455 HT_ ?_
        refine pn_ 28 44 536870911 HT_ ?_
        refine pd_ 29 45 1073741823 HT_ ?_
        refine dn_ HT_ ?_
        go_wp2
        go_ret
        exact ⟨by rw [HNO.out]; rfl, HB.out⟩
      have H2 := Aside0.mk (Bool.eq_false_iff.2 h2')
      clear h2'
      by_cases h3' : getM M q.f1 = true
      case pos =>
        have H3 := Aside0.mk h3'
        have hno : okPairAt xs l k = false := by unfold okPairAt; rw [HQ.out, H1.out, ← HN.out, ← HN.out, H2.out, H3.out]; rfl
        have HNO := Aside0.mk (pairingB_no HL.out hno)
        clear h3' hno
        go_wp2
        refine st_ 30 (S := fun w' => w'.cell? ⟨w.heap.size, 0, none⟩ = some (.int .i64 n) ∧ w'.cell? ⟨w.heap.size, 1, none⟩ = some (.slice A xs.length c) ∧ w'.cell? ⟨wr.heap.size, 0, none⟩ = some (.int .i64 q.f0) ∧ w'.cell? ⟨wr.heap.size, 1, none⟩ = some (.int .i64 q.f1) ∧ (Instr.lookup 80 (.map (some (w.heap.size + 1))) (.int .i64 q.f0) false).run Tryz.prog w' = .ok (.bool false) w' ∧ (Instr.lookup 80 (.map (some (w.heap.size + 1))) (.int .i64 q.f1) false).run Tryz.prog w' = .ok (.bool true) w') (ds := []) ⟨HX.out.c0, HX.out.c1, HP.out.c0, HP.out.c1, lookB HM.out H2.out, lookB HM.out H3.out⟩ (fun hHeld => ?_)
        refine with_tabW (T := (true, [([], []), ([], []), ([0, 1], [0, 1]), ([2], [2]), ([3, 2], [3]), ([4], [4]), ([4], [4]), ([6, 4], [4, 6]), ([5, 7, 4], [4, 5, 7]), ([4, 8], [4, 8]), ([9, 4], [9]), ([10], [10]), ([10], [10]), ([12, 10], [10, 12]), ([11, 13, 10], [10, 11, 13]), ([10, 14], [10, 14]), ([15, 10], [15]), ([16], [16]), ([17, 16], [16, 17]), ([18, 16, 16], [16, 18]), ([19], [19]), ([19], [19]), ([21, 19], [19, 21]), ([20, 22, 19], [19, 20, 22]), ([23, 19], [19, 23]), ([19], [19]), ([24, 25, 19, 19], [19, 24, 25]), ([26, 19], [19, 26]), ([19, 27, 16], [16, 19, 27]), ([16, 28], [16, 28])])) (B := [0, 0, 3, 7, 15, 31, 31, 95, 255, 511, 1023, 2047, 2047, 6143, 16383, 32767, 65535, 131071, 262143, 524287, 1048575, 1048575, 3145727, 8388607, 16777215, 1048575, 67108863, 134217727, 268435455, 536870911]) (by kernel_rfl) (by kernel_rfl) (fun HT_ HW_ => ?_)
        refine tk_ 0 16 1 HT_ HW_ hHeld ?_
        refine tk_ 1 17 3 HT_ HW_ hHeld ?_
        refine on_ 2 (some 18) 7 HT_ (fun K hK => ?_)
        refine ca_ Tryz.func80 #[.agg #[.int .i64 n, .slice A xs.length c], .agg #[.int .i64 q.f0, .int .i64 q.f1]] ?_
        refine (isPair_c n A c xs q _ (Kd.C_below HR.out HB.out) HC.out HI.out).mono ?_; rw [show pairB xs q = true from H1.out]; rintro e w1 ⟨rfl, hb⟩; have HX1 := Aside0.mk (HX.out.below hb); have HM1 := Aside0.mk (HM.out.below hb); have HP1 := Aside0.mk (HP.out.below hb); have HB1 := Aside0.mk (below_in HB.out hb); clear HX HM HP HB; have HX := HX1; have HM := HM1; have HP := HP1; have HB := HB1; clear HX1 HM1 HP1 HB1
        refine ⟨_, rfl, ?_⟩
        refine hK.out _ _ ⟨HX.out.c0, HX.out.c1, HP.out.c0, HP.out.c1, lookB HM.out H2.out, lookB HM.out H3.out⟩ (fun hHeld => ?_)
        clear hK K
        refine nm_ ?_
        refine pd_ 3 19 15 HT_ ?_
        refine pd_ 4 20 31 HT_ ?_
        refine pd_ 5 21 63 HT_ ?_
        refine pd_ 6 22 127 HT_ ?_
        refine tk_ 7 23 255 HT_ HW_ hHeld ?_
        refine tk_ 8 24 511 HT_ HW_ hHeld ?_
        refine pd_ 9 25 1023 HT_ ?_
        refine pd_ 10 26 2047 HT_ ?_
        refine pd_ 11 27 4095 HT_ ?_
        refine pd_ 12 28 8191 HT_ ?_
        refine tk_ 13 29 16383 HT_ HW_ hHeld ?_
        refine tk_ 14 30 32767 HT_ HW_ hHeld ?_
        refine pd_ 15 31 65535 HT_ ?_
        refine pd_ 16 32 131071 HT_ ?_
        refine pn_ 17 33 262143 HT_ ?_
        refine pn_ 18 34 524287 HT_ ?_
        refine pn_ 19 35 1048575 HT_ ?_
        refine pn_ 20 36 2097151 HT_ ?_
        refine pn_ 21 37 4194303 HT_ ?_
        refine pn_ 22 38 8388607 HT_ ?_
        refine pn_ 23 39 16777215 HT_ ?_
        refine pn_ 24 40 33554431 HT_ ?_
        refine pn_ 25 41 67108863 HT_ ?_
        refine pn_ 26 42 134217727 HT_ ?_
        refine pn_ 27 43 268435455 HT_ ?_
        refine pn_ 28 44 536870911 HT_ ?_
        refine pd_ 29 45 1073741823 HT_ ?_
        refine dn_ HT_ ?_
        go_wp2
        go_ret
        exact ⟨by rw [HNO.out]; rfl, HB.out⟩
      have H3 := Aside0.mk (Bool.eq_false_iff.2 h3')
      clear h3'
      rcases k with _ | m
      · rw [Nat.zero_mul, show ad.add 0 = ad by unfold Addr.add; simp] at h0 h1
        have hok : okPairAt xs l 0 = true := by unfold okPairAt; rw [HQ.out, H1.out, ← HN.out, ← HN.out, H2.out, H3.out]; rfl
        have HOK := Aside0.mk hok
        clear hok
        go_wp2
        refine st_ 30 (S := fun w' => w'.cell? ⟨w.heap.size, 0, none⟩ = some (.int .i64 n) ∧ w'.cell? ⟨w.heap.size, 1, none⟩ = some (.slice A xs.length c) ∧ w'.cell? ⟨wr.heap.size, 0, none⟩ = some (.int .i64 q.f0) ∧ w'.cell? ⟨wr.heap.size, 1, none⟩ = some (.int .i64 q.f1) ∧ (Instr.lookup 80 (.map (some (w.heap.size + 1))) (.int .i64 q.f0) false).run Tryz.prog w' = .ok (.bool false) w' ∧ (Instr.lookup 80 (.map (some (w.heap.size + 1))) (.int .i64 q.f1) false).run Tryz.prog w' = .ok (.bool false) w') (ds := []) ⟨HX.out.c0, HX.out.c1, HP.out.c0, HP.out.c1, lookB HM.out H2.out, lookB HM.out H3.out⟩ (fun hHeld => ?_)
        refine with_tabW (T := (true, [([], []), ([], []), ([0, 1], [0, 1]), ([2], [2]), ([3, 2], [3]), ([4], [4]), ([4], [4]), ([6, 4], [4, 6]), ([5, 7, 4], [4, 5, 7]), ([4, 8], [4, 8]), ([9, 4], [9]), ([10], [10]), ([10], [10]), ([12, 10], [10, 12]), ([11, 13, 10], [10, 11, 13]), ([10, 14], [10, 14]), ([15, 10], [15]), ([16], [16]), ([17, 16], [16, 17]), ([18, 16, 16], [16, 18]), ([19], [19]), ([19], [19]), ([21, 19], [19, 21]), ([20, 22, 19], [19, 20, 22]), ([23, 19], [19, 23]), ([19], [19]), ([24, 25, 19, 19], [19, 24, 25]), ([26, 19], [19, 26]), ([19, 27, 16], [16, 19, 27]), ([16, 28], [16, 28])])) (B := [0, 0, 3, 7, 15, 31, 31, 95, 255, 511, 1023, 2047, 2047, 6143, 16383, 32767, 65535, 131071, 262143, 524287, 1048575, 1048575, 3145727, 8388607, 16777215, 1048575, 67108863, 134217727, 268435455, 536870911]) (by kernel_rfl) (by kernel_rfl) (fun HT_ HW_ => ?_)
        refine tk_ 0 16 1 HT_ HW_ hHeld ?_
        refine tk_ 1 17 3 HT_ HW_ hHeld ?_
        refine on_ 2 (some 18) 7 HT_ (fun K hK => ?_)
        refine ca_ Tryz.func80 #[.agg #[.int .i64 n, .slice A xs.length c], .agg #[.int .i64 q.f0, .int .i64 q.f1]] ?_
        refine (isPair_c n A c xs q _ (Kd.C_below HR.out HB.out) HC.out HI.out).mono ?_; rw [show pairB xs q = true from H1.out]; rintro e w1 ⟨rfl, hb⟩; have HX1 := Aside0.mk (HX.out.below hb); have HM1 := Aside0.mk (HM.out.below hb); have HP1 := Aside0.mk (HP.out.below hb); have HB1 := Aside0.mk (below_in HB.out hb); clear HX HM HP HB; have HX := HX1; have HM := HM1; have HP := HP1; have HB := HB1; clear HX1 HM1 HP1 HB1
        refine ⟨_, rfl, ?_⟩
        refine hK.out _ _ ⟨HX.out.c0, HX.out.c1, HP.out.c0, HP.out.c1, lookB HM.out H2.out, lookB HM.out H3.out⟩ (fun hHeld => ?_)
        clear hK K
        refine nm_ ?_
        refine pd_ 3 19 15 HT_ ?_
        refine pd_ 4 20 31 HT_ ?_
        refine pd_ 5 21 63 HT_ ?_
        refine pd_ 6 22 127 HT_ ?_
        refine tk_ 7 23 255 HT_ HW_ hHeld ?_
        refine tk_ 8 24 511 HT_ HW_ hHeld ?_
        refine pd_ 9 25 1023 HT_ ?_
        refine pd_ 10 26 2047 HT_ ?_
        refine pd_ 11 27 4095 HT_ ?_
        refine pd_ 12 28 8191 HT_ ?_
        refine tk_ 13 29 16383 HT_ HW_ hHeld ?_
        refine tk_ 14 30 32767 HT_ HW_ hHeld ?_
        refine pd_ 15 31 65535 HT_ ?_
        refine pd_ 16 32 131071 HT_ ?_
        refine pd_ 17 33 262143 HT_ ?_
        refine pd_ 18 34 524287 HT_ ?_
        refine pd_ 19 35 1048575 HT_ ?_
        refine pn_ 20 36 2097151 HT_ ?_
        refine pn_ 21 37 4194303 HT_ ?_
        refine pn_ 22 38 8388607 HT_ ?_
        refine pn_ 23 39 16777215 HT_ ?_
        refine pn_ 24 40 33554431 HT_ ?_
        refine pn_ 25 41 67108863 HT_ ?_
        refine pn_ 26 42 134217727 HT_ ?_
        refine pn_ 27 43 268435455 HT_ ?_
        refine pd_ 28 44 536870911 HT_ ?_
        refine pd_ 29 45 1073741823 HT_ ?_
        refine dn_ HT_ ?_
        go_wp2
        refine st_ 8 (S := fun w' => w'.cell? ⟨wr.heap.size, 0, none⟩ = some (.int .i64 q.f0) ∧ w'.cell? ⟨wr.heap.size, 1, none⟩ = some (.int .i64 q.f1)) (ds := []) ⟨HP.out.drew.c0, HP.out.drew.c1⟩ (fun hHeld => ?_)
        refine with_tabW (T := (true, [([], []), ([], []), ([1], [1]), ([], []), ([], []), ([4], [4]), ([0, 2, 0, 1, 2], [0, 2]), ([3, 5, 6, 0, 1, 2, 3, 4, 5, 6], [3, 5])])) (B := [0, 0, 2, 0, 0, 16, 7, 127]) (by kernel_rfl) (by kernel_rfl) (fun HT_ HW_ => ?_)
        refine pd_ 0 46 1 HT_ ?_
        refine pd_ 1 47 3 HT_ ?_
        refine pd_ 3 49 11 HT_ ?_
        refine pd_ 4 50 27 HT_ ?_
        refine tk_ 2 48 31 HT_ HW_ hHeld ?_
        refine tk_ 5 51 63 HT_ HW_ hHeld ?_
        refine on_ 6 none 127 HT_ (fun K hK => ?_)
        (obtain ⟨w3, hrun, hM3, hg3, hz3⟩ := putB HM.out.drew q.f0 true; refine skip_ (by rfl) rfl (w1 := w3) (by go_simp) ?_; have HP3 := Aside0.mk (prAt_put HP.out.drew HM.out.drew hg3); have HX3 := Aside0.mk (cxAt_put HX.out.drew' HM.out.drew hg3); have HB3 := Aside0.mk (HB.out.drew.grown hg3 HB.out.drew.size (fun j hj => by injection hj with hj; omega)); have HM3 := Aside0.mk hM3; clear hrun hg3 hz3 hM3 HP HX HB HM)
        refine hK.out _ _ ⟨HP3.out.c0, HP3.out.c1⟩ (fun hHeld => ?_)
        clear hK K
        refine on_ 7 none 255 HT_ (fun K hK => ?_)
        (obtain ⟨w4, hrun, hM4, hg4, hz4⟩ := putB HM3.out q.f1 true; refine skip_ (by rfl) rfl (w1 := w4) (by go_simp) ?_; have HP := Aside0.mk (prAt_put HP3.out HM3.out hg4); have HX := Aside0.mk (cxAt_put HX3.out HM3.out hg4); have HB := Aside0.mk (HB3.out.grown hg4 HB3.out.size (fun j hj => by injection hj with hj; omega)); have HM := Aside0.mk hM4; clear hrun hg4 hz4 hM4 HP3 HX3 HB3 HM3)
        refine hK.out _ _ ⟨HP.out.c0, HP.out.c1⟩ (fun hHeld => ?_)
        clear hK K
        refine dn_ HT_ ?_
        go_wp2
        go_roundw
        case measure => simp [intOf]; omega
        case rel => exact ⟨0 + 1, by have := HL.out; omega, by go_num, HB, HX, ⟨by rw [getD_take HL.out, HQ.out]; exact met_snoc HM.out HN.out⟩, ⟨fun j hj => by rcases Nat.lt_or_ge j (0) with h | h; exact hA.out j h; obtain rfl : j = 0 := (by omega); exact HOK.out⟩⟩
      · have hltm : m < l.length := by omega
        obtain ⟨ad', ead, g0, g1⟩ := pair_at (Kd.C_below HR1.out HB.out) m hltm
        obtain rfl : ad = ad' := by injection ead
        obtain ⟨q', hq'⟩ : ∃ q', l.getD m z46 = q' := ⟨_, rfl⟩
        rw [hq'] at g0 g1
        have HQ' := Aside0.mk hq'
        have HW : Aside0 (CellsP _ ad m q') := ⟨g0, g1⟩
        clear hq' g0 g1 ead
        have hw64 : wrap64 (m : Int) = (m : Int) := w64' (by omega) (by omega)
        have hmz : (0 : Int) ≤ (m : Int) := by omega
        have hml : (m : Int) < (l.length : Int) := by omega
        clear hltm
        by_cases h4' : cmpP q' q < 0
        · have hok : okPairAt xs l (m + 1) = true := by unfold okPairAt; rw [HQ.out, H1.out, ← HN.out, ← HN.out, H2.out, H3.out, Nat.add_sub_cancel, HQ'.out]; simp [h4']
          have HOK := Aside0.mk hok
          have HC4 : Aside0 (cmpP q' q = cmpP q' q) := ⟨rfl⟩
          have h5' : ¬ 0 ≤ cmpP q' q := by omega
          clear hok
          go_wp2
          refine st_ 30 (S := fun w' => w'.cell? ⟨w.heap.size, 0, none⟩ = some (.int .i64 n) ∧ w'.cell? ⟨w.heap.size, 1, none⟩ = some (.slice A xs.length c) ∧ w'.cell? ⟨wr.heap.size, 0, none⟩ = some (.int .i64 q.f0) ∧ w'.cell? ⟨wr.heap.size, 1, none⟩ = some (.int .i64 q.f1) ∧ (Instr.lookup 80 (.map (some (w.heap.size + 1))) (.int .i64 q.f0) false).run Tryz.prog w' = .ok (.bool false) w' ∧ (Instr.lookup 80 (.map (some (w.heap.size + 1))) (.int .i64 q.f1) false).run Tryz.prog w' = .ok (.bool false) w' ∧ w'.cell? (ad.add (m * 2)) = some (.int .i64 q'.f0) ∧ w'.cell? ⟨(ad.add (m * 2)).block, (ad.add (m * 2)).off + 1, none⟩ = some (.int .i64 q'.f1)) (ds := []) ⟨HX.out.c0, HX.out.c1, HP.out.c0, HP.out.c1, lookB HM.out H2.out, lookB HM.out H3.out, HW.out.1, HW.out.2⟩ (fun hHeld => ?_)
          refine with_tabW (T := (true, [([], []), ([], []), ([0, 1], [0, 1]), ([2], [2]), ([3, 2], [3]), ([4], [4]), ([4], [4]), ([6, 4], [4, 6]), ([5, 7, 4], [4, 5, 7]), ([4, 8], [4, 8]), ([9, 4], [9]), ([10], [10]), ([10], [10]), ([12, 10], [10, 12]), ([11, 13, 10], [10, 11, 13]), ([10, 14], [10, 14]), ([15, 10], [15]), ([16], [16]), ([17, 16], [16, 17]), ([18, 16, 16], [16, 18]), ([19], [19]), ([19], [19]), ([21, 19], [19, 21]), ([20, 22, 19], [19, 20, 22]), ([23, 19], [19, 23]), ([19], [19]), ([24, 25, 19, 19], [19, 24, 25]), ([26, 19], [19, 26]), ([19, 27, 16], [16, 19, 27]), ([16, 28], [16, 28])])) (B := [0, 0, 3, 7, 15, 31, 31, 95, 255, 511, 1023, 2047, 2047, 6143, 16383, 32767, 65535, 131071, 262143, 524287, 1048575, 1048575, 3145727, 8388607, 16777215, 1048575, 67108863, 134217727, 268435455, 536870911]) (by kernel_rfl) (by kernel_rfl) (fun HT_ HW_ => ?_)
          refine tk_ 0 16 1 HT_ HW_ hHeld ?_
          refine tk_ 1 17 3 HT_ HW_ hHeld ?_
          refine on_ 2 (some 18) 7 HT_ (fun K hK => ?_)
          refine ca_ Tryz.func80 #[.agg #[.int .i64 n, .slice A xs.length c], .agg #[.int .i64 q.f0, .int .i64 q.f1]] ?_
          refine (isPair_c n A c xs q _ (Kd.C_below HR.out HB.out) HC.out HI.out).mono ?_; rw [show pairB xs q = true from H1.out]; rintro e w1 ⟨rfl, hb⟩; have HX1 := Aside0.mk (HX.out.below hb); have HM1 := Aside0.mk (HM.out.below hb); have HP1 := Aside0.mk (HP.out.below hb); have HB1 := Aside0.mk (below_in HB.out hb); clear HX HM HP HB; have HX := HX1; have HM := HM1; have HP := HP1; have HB := HB1; clear HX1 HM1 HP1 HB1; have hpw1 := Aside0.mk (cellsP_below HW.out hb); clear HW; have HW := hpw1; clear hpw1
          refine ⟨_, rfl, ?_⟩
          refine hK.out _ _ ⟨HX.out.c0, HX.out.c1, HP.out.c0, HP.out.c1, lookB HM.out H2.out, lookB HM.out H3.out, HW.out.1, HW.out.2⟩ (fun hHeld => ?_)
          clear hK K
          refine nm_ ?_
          refine pd_ 3 19 15 HT_ ?_
          refine pd_ 4 20 31 HT_ ?_
          refine pd_ 5 21 63 HT_ ?_
          refine pd_ 6 22 127 HT_ ?_
          refine tk_ 7 23 255 HT_ HW_ hHeld ?_
          refine tk_ 8 24 511 HT_ HW_ hHeld ?_
          refine pd_ 9 25 1023 HT_ ?_
          refine pd_ 10 26 2047 HT_ ?_
          refine pd_ 11 27 4095 HT_ ?_
          refine pd_ 12 28 8191 HT_ ?_
          refine tk_ 13 29 16383 HT_ HW_ hHeld ?_
          refine tk_ 14 30 32767 HT_ HW_ hHeld ?_
          refine pd_ 15 31 65535 HT_ ?_
          refine pd_ 16 32 131071 HT_ ?_
          refine pd_ 17 33 262143 HT_ ?_
          refine pd_ 18 34 524287 HT_ ?_
          refine pd_ 19 35 1048575 HT_ ?_
          refine pd_ 20 36 2097151 HT_ ?_
          refine pd_ 21 37 4194303 HT_ ?_
          refine pd_ 22 38 8388607 HT_ ?_
          refine pd_ 23 39 16777215 HT_ ?_
          refine tk_ 24 40 33554431 HT_ HW_ hHeld ?_
          refine tk_ 25 41 67108863 HT_ HW_ hHeld ?_
          refine on_ 26 (some 42) 134217727 HT_ (fun K hK => ?_)
          refine ca_ Tryz.func81 #[.agg #[.int .i64 q'.f0, .int .i64 q'.f1], .agg #[.int .i64 q.f0, .int .i64 q.f1]] ?_
          refine (comparePairs_c q' q _).mono ?_; rintro e w1 ⟨rfl, hb⟩; have HX1 := Aside0.mk (HX.out.below hb); have HM1 := Aside0.mk (HM.out.below hb); have HP1 := Aside0.mk (HP.out.below hb); have HB1 := Aside0.mk (below_in HB.out hb); have hpw1 := Aside0.mk (cellsP_below HW.out hb); clear HX HM HP HB HW; have HX := HX1; have HM := HM1; have HP := HP1; have HB := HB1; have HW := hpw1; clear HX1 HM1 HP1 HB1 hpw1; generalize cmpP q' q = cp at h4' h5' HC4
          refine ⟨_, rfl, ?_⟩
          refine hK.out _ _ ⟨HX.out.c0, HX.out.c1, HP.out.c0, HP.out.c1, lookB HM.out H2.out, lookB HM.out H3.out, HW.out.1, HW.out.2⟩ (fun hHeld => ?_)
          clear hK K
          refine nm_ ?_
          refine pd_ 27 43 268435455 HT_ ?_
          refine pd_ 28 44 536870911 HT_ ?_
          refine pd_ 29 45 1073741823 HT_ ?_
          refine dn_ HT_ ?_
          go_wp2
          refine st_ 8 (S := fun w' => w'.cell? ⟨wr.heap.size, 0, none⟩ = some (.int .i64 q.f0) ∧ w'.cell? ⟨wr.heap.size, 1, none⟩ = some (.int .i64 q.f1)) (ds := []) ⟨HP.out.drew.c0, HP.out.drew.c1⟩ (fun hHeld => ?_)
          refine with_tabW (T := (true, [([], []), ([], []), ([1], [1]), ([], []), ([], []), ([4], [4]), ([0, 2, 0, 1, 2], [0, 2]), ([3, 5, 6, 0, 1, 2, 3, 4, 5, 6], [3, 5])])) (B := [0, 0, 2, 0, 0, 16, 7, 127]) (by kernel_rfl) (by kernel_rfl) (fun HT_ HW_ => ?_)
          refine pd_ 0 46 1 HT_ ?_
          refine pd_ 1 47 3 HT_ ?_
          refine pd_ 3 49 11 HT_ ?_
          refine pd_ 4 50 27 HT_ ?_
          refine tk_ 2 48 31 HT_ HW_ hHeld ?_
          refine tk_ 5 51 63 HT_ HW_ hHeld ?_
          refine on_ 6 none 127 HT_ (fun K hK => ?_)
          (obtain ⟨w3, hrun, hM3, hg3, hz3⟩ := putB HM.out.drew q.f0 true; refine skip_ (by rfl) rfl (w1 := w3) (by go_simp) ?_; have HP3 := Aside0.mk (prAt_put HP.out.drew HM.out.drew hg3); have HX3 := Aside0.mk (cxAt_put HX.out.drew' HM.out.drew hg3); have HB3 := Aside0.mk (HB.out.drew.grown hg3 HB.out.drew.size (fun j hj => by injection hj with hj; omega)); have HM3 := Aside0.mk hM3; clear hrun hg3 hz3 hM3 HP HX HB HM)
          refine hK.out _ _ ⟨HP3.out.c0, HP3.out.c1⟩ (fun hHeld => ?_)
          clear hK K
          refine on_ 7 none 255 HT_ (fun K hK => ?_)
          (obtain ⟨w4, hrun, hM4, hg4, hz4⟩ := putB HM3.out q.f1 true; refine skip_ (by rfl) rfl (w1 := w4) (by go_simp) ?_; have HP := Aside0.mk (prAt_put HP3.out HM3.out hg4); have HX := Aside0.mk (cxAt_put HX3.out HM3.out hg4); have HB := Aside0.mk (HB3.out.grown hg4 HB3.out.size (fun j hj => by injection hj with hj; omega)); have HM := Aside0.mk hM4; clear hrun hg4 hz4 hM4 HP3 HX3 HB3 HM3)
          refine hK.out _ _ ⟨HP.out.c0, HP.out.c1⟩ (fun hHeld => ?_)
          clear hK K
          refine dn_ HT_ ?_
          go_wp2
          go_roundw
          case measure => simp [intOf]; omega
          case rel => exact ⟨(m + 1) + 1, by have := HL.out; omega, by go_num, HB, HX, ⟨by rw [getD_take HL.out, HQ.out]; exact met_snoc HM.out HN.out⟩, ⟨fun j hj => by rcases Nat.lt_or_ge j ((m + 1)) with h | h; exact hA.out j h; obtain rfl : j = (m + 1) := (by omega); exact HOK.out⟩⟩
        · have hno : okPairAt xs l (m + 1) = false := by unfold okPairAt; rw [HQ.out, H1.out, ← HN.out, ← HN.out, H2.out, H3.out, Nat.add_sub_cancel, HQ'.out]; simp [h4']
          have HNO := Aside0.mk (pairingB_no HL.out hno)
          have HC4 : Aside0 (cmpP q' q = cmpP q' q) := ⟨rfl⟩
          have h5' : 0 ≤ cmpP q' q := by omega
          clear hno
          go_wp2
          refine st_ 30 (S := fun w' => w'.cell? ⟨w.heap.size, 0, none⟩ = some (.int .i64 n) ∧ w'.cell? ⟨w.heap.size, 1, none⟩ = some (.slice A xs.length c) ∧ w'.cell? ⟨wr.heap.size, 0, none⟩ = some (.int .i64 q.f0) ∧ w'.cell? ⟨wr.heap.size, 1, none⟩ = some (.int .i64 q.f1) ∧ (Instr.lookup 80 (.map (some (w.heap.size + 1))) (.int .i64 q.f0) false).run Tryz.prog w' = .ok (.bool false) w' ∧ (Instr.lookup 80 (.map (some (w.heap.size + 1))) (.int .i64 q.f1) false).run Tryz.prog w' = .ok (.bool false) w' ∧ w'.cell? (ad.add (m * 2)) = some (.int .i64 q'.f0) ∧ w'.cell? ⟨(ad.add (m * 2)).block, (ad.add (m * 2)).off + 1, none⟩ = some (.int .i64 q'.f1)) (ds := []) ⟨HX.out.c0, HX.out.c1, HP.out.c0, HP.out.c1, lookB HM.out H2.out, lookB HM.out H3.out, HW.out.1, HW.out.2⟩ (fun hHeld => ?_)
          refine with_tabW (T := (true, [([], []), ([], []), ([0, 1], [0, 1]), ([2], [2]), ([3, 2], [3]), ([4], [4]), ([4], [4]), ([6, 4], [4, 6]), ([5, 7, 4], [4, 5, 7]), ([4, 8], [4, 8]), ([9, 4], [9]), ([10], [10]), ([10], [10]), ([12, 10], [10, 12]), ([11, 13, 10], [10, 11, 13]), ([10, 14], [10, 14]), ([15, 10], [15]), ([16], [16]), ([17, 16], [16, 17]), ([18, 16, 16], [16, 18]), ([19], [19]), ([19], [19]), ([21, 19], [19, 21]), ([20, 22, 19], [19, 20, 22]), ([23, 19], [19, 23]), ([19], [19]), ([24, 25, 19, 19], [19, 24, 25]), ([26, 19], [19, 26]), ([19, 27, 16], [16, 19, 27]), ([16, 28], [16, 28])])) (B := [0, 0, 3, 7, 15, 31, 31, 95, 255, 511, 1023, 2047, 2047, 6143, 16383, 32767, 65535, 131071, 262143, 524287, 1048575, 1048575, 3145727, 8388607, 16777215, 1048575, 67108863, 134217727, 268435455, 536870911]) (by kernel_rfl) (by kernel_rfl) (fun HT_ HW_ => ?_)
          refine tk_ 0 16 1 HT_ HW_ hHeld ?_
          refine tk_ 1 17 3 HT_ HW_ hHeld ?_
          refine on_ 2 (some 18) 7 HT_ (fun K hK => ?_)
          refine ca_ Tryz.func80 #[.agg #[.int .i64 n, .slice A xs.length c], .agg #[.int .i64 q.f0, .int .i64 q.f1]] ?_
          refine (isPair_c n A c xs q _ (Kd.C_below HR.out HB.out) HC.out HI.out).mono ?_; rw [show pairB xs q = true from H1.out]; rintro e w1 ⟨rfl, hb⟩; have HX1 := Aside0.mk (HX.out.below hb); have HM1 := Aside0.mk (HM.out.below hb); have HP1 := Aside0.mk (HP.out.below hb); have HB1 := Aside0.mk (below_in HB.out hb); clear HX HM HP HB; have HX := HX1; have HM := HM1; have HP := HP1; have HB := HB1; clear HX1 HM1 HP1 HB1; have hpw1 := Aside0.mk (cellsP_below HW.out hb); clear HW; have HW := hpw1; clear hpw1
          refine ⟨_, rfl, ?_⟩
          refine hK.out _ _ ⟨HX.out.c0, HX.out.c1, HP.out.c0, HP.out.c1, lookB HM.out H2.out, lookB HM.out H3.out, HW.out.1, HW.out.2⟩ (fun hHeld => ?_)
          clear hK K
          refine nm_ ?_
          refine pd_ 3 19 15 HT_ ?_
          refine pd_ 4 20 31 HT_ ?_
          refine pd_ 5 21 63 HT_ ?_
          refine pd_ 6 22 127 HT_ ?_
          refine tk_ 7 23 255 HT_ HW_ hHeld ?_
          refine tk_ 8 24 511 HT_ HW_ hHeld ?_
          refine pd_ 9 25 1023 HT_ ?_
          refine pd_ 10 26 2047 HT_ ?_
          refine pd_ 11 27 4095 HT_ ?_
          refine pd_ 12 28 8191 HT_ ?_
          refine tk_ 13 29 16383 HT_ HW_ hHeld ?_
          refine tk_ 14 30 32767 HT_ HW_ hHeld ?_
          refine pd_ 15 31 65535 HT_ ?_
          refine pd_ 16 32 131071 HT_ ?_
          refine pd_ 17 33 262143 HT_ ?_
          refine pd_ 18 34 524287 HT_ ?_
          refine pd_ 19 35 1048575 HT_ ?_
          refine pd_ 20 36 2097151 HT_ ?_
          refine pd_ 21 37 4194303 HT_ ?_
          refine pd_ 22 38 8388607 HT_ ?_
          refine pd_ 23 39 16777215 HT_ ?_
          refine tk_ 24 40 33554431 HT_ HW_ hHeld ?_
          refine tk_ 25 41 67108863 HT_ HW_ hHeld ?_
          refine on_ 26 (some 42) 134217727 HT_ (fun K hK => ?_)
          refine ca_ Tryz.func81 #[.agg #[.int .i64 q'.f0, .int .i64 q'.f1], .agg #[.int .i64 q.f0, .int .i64 q.f1]] ?_
          refine (comparePairs_c q' q _).mono ?_; rintro e w1 ⟨rfl, hb⟩; have HX1 := Aside0.mk (HX.out.below hb); have HM1 := Aside0.mk (HM.out.below hb); have HP1 := Aside0.mk (HP.out.below hb); have HB1 := Aside0.mk (below_in HB.out hb); have hpw1 := Aside0.mk (cellsP_below HW.out hb); clear HX HM HP HB HW; have HX := HX1; have HM := HM1; have HP := HP1; have HB := HB1; have HW := hpw1; clear HX1 HM1 HP1 HB1 hpw1; generalize cmpP q' q = cp at h4' h5' HC4
          refine ⟨_, rfl, ?_⟩
          refine hK.out _ _ ⟨HX.out.c0, HX.out.c1, HP.out.c0, HP.out.c1, lookB HM.out H2.out, lookB HM.out H3.out, HW.out.1, HW.out.2⟩ (fun hHeld => ?_)
          clear hK K
          refine nm_ ?_
          refine pd_ 27 43 268435455 HT_ ?_
          refine pd_ 28 44 536870911 HT_ ?_
          refine pd_ 29 45 1073741823 HT_ ?_
          refine dn_ HT_ ?_
          go_wp2
          go_ret
          exact ⟨by rw [HNO.out]; rfl, HB.out⟩
    · obtain rfl : k = l.length := by omega
      have hltz : ¬ (l.length : Int) < (l.length : Int) := by omega
      go_wp2
      go_ret
      exact ⟨by rw [pairingB_yes hA.out]; rfl, hB.out⟩
def stepM (s : List (Int × Bool) × List Int) (f : Int) : List (Int × Bool) × List Int := if getM s.1 f = true then s else (putM s.1 f true, s.2 ++ [f])
def bfs (l : List Pr) : Nat → List (Int × Bool) → List Int → Option (List (Int × Bool))
  | 0, _, _ => none
  | _ + 1, M, [] => some M
  | k + 1, M, x :: qs => if qs.length ≤ 1000 then (QA.impl_steps.f l x).bind fun fs => if fs.length ≤ 1000 then bfs l k (fs.foldl stepM (M, x :: qs)).1 ((fs.foldl stepM (M, x :: qs)).2.drop 1) else none else none
theorem stepM_len (s : List (Int × Bool) × List Int) (f : Int) : s.2.length ≤ (stepM s f).2.length ∧ (stepM s f).2.length ≤ s.2.length + 1 := by
  unfold stepM
  split <;> simp
theorem fold_len (fs : List Int) : ∀ s : List (Int × Bool) × List Int, s.2.length ≤ (fs.foldl stepM s).2.length ∧ (fs.foldl stepM s).2.length ≤ s.2.length + fs.length := by
  induction fs with
  | nil => intro s; simp
  | cons f fs ih =>
    intro s
    have h1 := stepM_len s f
    have h2 := ih (stepM s f)
    simp only [List.foldl_cons, List.length_cons]
    omega
theorem rowLit1 (w : World) (a : Int) (base : Nat) (ok : Nat → Prop) (hb : base ≤ w.heap.size) (hok : ok w.heap.size) : Kd.R (Kd.int .i64) 2 (w.alloc (.cells #[.int .i64 a] 2)) base ok (.slice (some ⟨w.heap.size, 0, none⟩) 1 1) [a] := by
  refine ⟨fun k hk => ?_, [.int .i64 a], ?_, ⟨rfl, fun j p hj => ?_⟩⟩
  · obtain rfl : w.heap.size = k := by simpa [Value.ownBlock] using hk
    exact hok
  · have h2 := World.ownsRow_lit (base := base) (e := 2) (size := (Kd.int .i64).sz) w #[.int .i64 a] 1 hb (by simp [maxLen]) rfl
    simpa using h2
  · rcases j with _ | j
    · obtain rfl : a = p := by simpa using hj
      rfl
    · simp at hj
theorem mapB_grown {w w1 : World} {b : Nat} {M : List (Int × Bool)} (h : MapB w b M) {v : Value} (hg : w.grownBy w1 v.ownBlock) (hv : ∀ k, v.ownBlock = some k → ∃ cells, w.heap[k]? = some (.cells cells 2 (0, 0))) : MapB w1 b M := by
  have hl := h.lt
  have hne : some b ≠ v.ownBlock := fun e => by
    obtain ⟨cells, hc⟩ := hv b e.symm
    exact h.ne hc rfl
  obtain ⟨es, c, h1, h2⟩ := h
  exact ⟨es, c, (hg.block b hl hne).trans h1, h2⟩
theorem info_i64 : (Tryz.prog.info? 2).map (fun i => (i.zero, i.size, i.bytes)) = some (some (.int .i64 0), 1, 8) := by kernel_rfl
theorem qPut {w w1 : World} {b base : Nat} {M : List (Int × Bool)} {ok : Nat → Prop} {v : Value} {xs : List Int} (h : Kd.Q (Kd.int .i64) 2 w base ok v xs) (hm : MapB w b M) (hg : w.grownBy w1 (some b)) : Kd.Q (Kd.int .i64) 2 w1 base ok v xs :=
  Kd.Q_mono (Kd.Q_grown (Kd.Q_bound h) hg (fun k hk e => by
    obtain ⟨_, _, _, q, _, cells, hc⟩ := hk
    injection e with e
    subst e
    exact hm.ne hc rfl)) (fun k hk => hk.1)
theorem rPut {w w1 : World} {b base : Nat} {M : List (Int × Bool)} {ok : Nat → Prop} {v : Value} {xs : List Int} (h : Kd.R (Kd.int .i64) 2 w base ok v xs) (hm : MapB w b M) (hg : w.grownBy w1 (some b)) : Kd.R (Kd.int .i64) 2 w1 base ok v xs :=
  Kd.R_mono (Kd.R_step (Kd.R_bound h) (fun k hk hlt => hg.block k hlt (fun e => by
    obtain ⟨_, _, _, q, _, cells, hc⟩ := hk
    injection e with e
    subst e
    exact hm.ne hc rfl))) (fun k hk => hk.1)
def BehindPost (M : List (Int × Bool)) (w : World) (e : Ending) (w' : World) : Prop := ∃ b, e = .returned (.map (some b)) ∧ MapB w' b M ∧ w.heap.size ≤ b ∧ Below w.heap.size w w'
set_option maxRecDepth 100000 in
set_option maxHeartbeats 2000000 in
theorem behind_c (k : Nat) (A : Option Addr) (c : Nat) (l : List Pr) (a : Int) (M : List (Int × Bool)) (w : World) (hr : Kd.C k46 w A l.length l) (hc : l.length ≤ c) (hk : bfs l k [] [a] = some M) :
    Calls Tryz.prog 67 #[.slice A l.length c, .int .i64 a] w (BehindPost M w) := by
  have HR := Aside0.mk hr
  have HC := Aside0.mk hc
  have HK := Aside0.mk hk
  clear hr hc hk
  have hmm := @run_makeMap Tryz.prog
  have hq0 := Aside0.mk (Kd.Q_of_R (rowLit1 (w.alloc (.map #[] 0)) a w.heap.size (fun _ => True) (by simp) trivial))
  have hm0 := Aside0.mk ((MapB.made w).alloc (.cells #[.int .i64 a] 2))
  go_enter Tryz.func67, Tryz.ntmps67
  go_wp2
  go_loopg [6] k (fun kq q wr => ∃ (Mk : List (Int × Bool)) (qs : List Int), Aside0 (bfs l kq Mk qs = some M) ∧ Aside0 (Below w.heap.size w wr) ∧ Aside0 (MapB wr w.heap.size Mk) ∧ Aside0 (Kd.Q (Kd.int .i64) 2 wr w.heap.size (fun _ => True) q qs))
  case atStart => exact ⟨[], [a], HK, ⟨below_alloc (below_alloc (Below.refl _ _) _) _⟩, hm0, by simpa using hq0⟩
  case round =>
    clear HK hq0 hm0
    obtain ⟨Mk, qs, HK, HB, HM, HQ⟩ := hrel
    obtain ⟨Aq, cq, rfl, hcq⟩ := Kd.Q_slice HQ.out
    cases gk with
    | zero => exact absurd HK.out (by simp [bfs])
    | succ k1 =>
      cases qs with
      | nil =>
        have hk0 : M = Mk := by have := HK.out; simp only [bfs, Option.some.injEq] at this; exact this.symm
        subst hk0
        go_wp2
        go_ret
        exact ⟨_, rfl, HM.out, Nat.le_refl _, HB.out⟩
      | cons x qs =>
        have hk1 := HK.out
        simp only [bfs] at hk1
        clear HK
        by_cases hb1 : qs.length ≤ 1000
        case neg => rw [if_neg hb1] at hk1; cases hk1
        rw [if_pos hb1] at hk1
        obtain ⟨fs, hfs, hk2⟩ := Option.bind_eq_some_iff.1 hk1
        clear hk1
        by_cases hb2 : fs.length ≤ 1000
        case neg => rw [if_neg hb2] at hk2; cases hk2
        rw [if_pos hb2] at hk2
        have HK := Aside0.mk hk2
        have HF := Aside0.mk hfs
        clear hk2 hfs
        obtain ⟨_, hqc, hqr⟩ := Kd.Q_reads' HQ.out
        obtain ⟨aq, rfl, hq0⟩ := Kd.at_int hqr 0 (by omega) (by simp)
        rw [show rd (x :: qs) 0 = x from rfl, show aq.add (Int.toNat 0) = aq by unfold Addr.add; simp] at hq0
        clear hqr
        go_wp2_with (go_at_call 83; refine (QA.impl_steps.calls A c l x fs _ (Kd.C_below HR.out HB.out) HC.out HF.out).mono ?_; rintro e w1 ⟨v1, rfl, ho, hb⟩; have hm1 := Aside0.mk (HM.out.below hb); have hq1 := Aside0.mk (Kd.Q_below HQ.out hb); have ho1 := Aside0.mk (Kd.R_lower (Kd.R_new' ho (Kd.Q_lt HQ.out)) HB.out.size); have hb3 := Aside0.mk (below_in HB.out hb); clear HM HQ HB ho hb hq0; have HM := hm1; have HQ := hq1; have HB := hb3; have HO := ho1; clear hm1 hq1 hb3 ho1; obtain ⟨A2, c2, he2⟩ := Kd.R_slice HO.out; subst he2)
        go_loopw [6, 23] (fun q i wq => ∃ (j : Nat) (Mj : List (Int × Bool)) (qj : List Int), j ≤ fs.length ∧ i = .int .i64 j ∧ Aside0 ((fs.take j).foldl stepM (Mk, x :: qs) = (Mj, qj)) ∧ Aside0 (Below w.heap.size w wq) ∧ Aside0 (MapB wq w.heap.size Mj) ∧ Aside0 (Kd.Q (Kd.int .i64) 2 wq w.heap.size (fun _ => True) q qj) ∧ Aside0 (Kd.R (Kd.int .i64) 2 wq w.heap.size (fun k => True ∧ some k ≠ q.ownBlock) (.slice A2 fs.length c2) fs)) (fun _ i _ => fs.length - (intOf i).toNat)
        case atStart => exact ⟨0, Mk, x :: qs, by omega, rfl, ⟨rfl⟩, HB, HM, HQ, HO⟩
        case round =>
          clear HB HM HQ HO
          obtain ⟨j, Mj, qj, hj, rfl, HE, HB, HM, HQ, HO⟩ := hrel
          obtain ⟨Aj, cj, rfl, hcj⟩ := Kd.Q_slice HQ.out
          have hlq : qj.length ≤ 2001 := by
            have h1 := fold_len (fs.take j) (Mk, x :: qs)
            have h2 := List.length_take_le j fs
            rw [HE.out] at h1
            simp only [List.length_cons] at h1
            omega
          by_cases hlt : j < fs.length
          · have hltz : (j : Int) < (fs.length : Int) := by omega
            obtain ⟨af, rfl, hf0⟩ := Kd.at_int (Kd.R_reads' HO.out).2.2 j (by omega) (by omega)
            obtain ⟨y, hy⟩ : ∃ y, rd fs j = y := ⟨_, rfl⟩
            rw [hy, show ((j : Int)).toNat = j by omega] at hf0
            have hstep : (fs.take (j + 1)).foldl stepM (Mk, x :: qs) = stepM (Mj, qj) y := by
              rw [List.take_succ_eq_append_getElem hlt, List.foldl_append, HE.out, ← hy, rd_at' hlt]
              rfl
            have HST := Aside0.mk hstep
            clear hstep hy
            by_cases hg : getM Mj y = true
            · have hl := lookB HM.out hg
              have HG := Aside0.mk hg
              clear hg
              go_wp2
              go_roundw
              case measure => simp [intOf]; omega
              case rel => exact ⟨j + 1, Mj, qj, by omega, by go_num, ⟨by rw [HST.out]; unfold stepM; rw [if_pos HG.out]⟩, HB, HM, HQ, HO⟩
            · have hl := lookB HM.out (Bool.eq_false_iff.2 hg)
              have HG := Aside0.mk hg
              clear hg
              obtain ⟨w3, hrun, hM3, hg3, hz3⟩ := putB HM.out y true
              have hq3 := Aside0.mk (qPut HQ.out HM.out hg3)
              have ho3 := Aside0.mk (rPut HO.out HM.out hg3)
              have hb3 := Aside0.mk (HB.out.grown hg3 HB.out.size (fun k hk => by injection hk with hk; omega))
              have hm3 := Aside0.mk hM3
              have HLQ := Aside0.mk hlq
              have HLT := Aside0.mk hlt
              clear hz3 hM3 hg3 HQ HO HB HM hlq
              have HQ := hq3
              have HO := ho3
              have HB := hb3
              have HM := hm3
              clear hq3 ho3 hb3 hm3
              go_wp2_with ((with_reducible refine gate_builtin (b := .append) (xs := #[.tmp 33, .tmp 35]) rfl ?_); at_builtin; refine Kd.Q_append (Kd.int .i64) (w0 := w) w.heap.size rfl (.tmp 33) (.tmp 35) 22 2 (.int .i64 0) 8 rfl Tryz.underlying22 info_i64 rfl (by decide) (by omega) (.slice Aj qj.length cj) qj y [.int .i64 y] (fun _ => True) (fun _ => False) rfl rfl rfl (fun _ hk => hk.elim) (fun _ _ => trivial) HQ.out HB.out HB.out.size (by have := HLQ.out; omega) ?_; intro v4 w4 hq4 hb4 hg4 hat; have ho4 := Aside0.mk (Kd.R_after HO.out hg4 hat); have hm4 := Aside0.mk (mapB_grown HM.out hg4 (Kd.Q_typed HQ.out)); have hq5 := Aside0.mk hq4; have hb5 := Aside0.mk hb4; clear hq4 hb4 hg4 hat HO HM HQ HB)
              go_roundw
              case measure => simp [intOf]; have := HLT.out; omega
              case rel => exact ⟨j + 1, putM Mj y true, qj ++ [y], by have := HLT.out; omega, by go_num, ⟨by rw [HST.out]; unfold stepM; rw [if_neg HG.out]⟩, hb5, hm4, hq5, ho4⟩
          · obtain rfl : j = fs.length := by omega
            have hltz : ¬ (fs.length : Int) < (fs.length : Int) := by omega
            rw [List.take_length] at HE
            have h1 := fold_len fs (Mk, x :: qs)
            rw [HE.out] at h1
            simp only [List.length_cons] at h1
            have hd := Aside0.mk (Kd.Q_drop (k := 1) HQ.out (by omega))
            have hq1 : (1 : Int) ≤ (qj.length : Int) := by omega
            have hk3 := HK.out
            rw [HE.out] at hk3
            have HK3 := Aside0.mk hk3
            clear hk3 HK HE HO
            by_cases hcap : cj = 1
            · have hd2 := hd.out
              rw [if_pos hcap] at hd2
              have HD := Aside0.mk hd2
              clear hd hd2
              subst hcap
              go_wp2
              go_roundg k1
              case measure => omega
              case rel => exact ⟨Mj, qj.drop 1, HK3, HB, HM, by simpa [show qj.length - 1 = 0 by omega] using HD⟩
            · have hd2 := hd.out
              rw [if_neg hcap, show (fun x : Addr => x.add (1 * (Kd.int .i64).sz)) = (fun x => (⟨x.block, x.off + 1, none⟩ : Addr)) from funext fun x => by unfold Addr.add; simp [Kd.int, Kd.scalar]] at hd2
              have HD := Aside0.mk hd2
              clear hd hd2
              go_wp2
              go_roundg k1
              case measure => omega
              case rel => exact ⟨Mj, qj.drop 1, HK3, HB, HM, by simpa using HD⟩
def loopB (l : List Pr) (a : Int) : Bool := ((bfs l 1000 [] [a]).map fun M => getM M a).getD false
def okBfs (l : List Pr) : Bool := decide (l.length ≤ 1048576) && l.all fun q => (bfs l 1000 [] [q.f0]).isSome
def acycB (l : List Pr) : Bool := l.all fun q => !loopB l q.f0
theorem okBfs_at {l : List Pr} (h : okBfs l = true) {q : Pr} (hq : q ∈ l) : ∃ M, bfs l 1000 [] [q.f0] = some M ∧ loopB l q.f0 = getM M q.f0 := by
  unfold okBfs at h
  obtain ⟨M, hM⟩ := Option.isSome_iff_exists.1 (List.all_eq_true.1 (Bool.and_eq_true _ _ ▸ h).2 q hq)
  exact ⟨M, hM, by unfold loopB; rw [hM]; rfl⟩
set_option maxRecDepth 100000 in
set_option maxHeartbeats 1000000 in
theorem isAcyclic1_f (b : Nat) (A : Option Addr) (c : Nat) (l : List Pr) (w : World) (hb : Boxed w b 32 (.slice A l.length c)) (hr : Kd.C k46 w A l.length l) (hc : l.length ≤ c) (ho : okBfs l = true) :
    FnP Tryz.prog (.func (.func 66) #[] #[.pointer (some ⟨b, 0, none⟩)]) (fun q => q ∈ l) (fun q => !loopB l q.f0) w := by
  refine ⟨_, _, _, rfl, enters_of Tryz.func66 (by kernel_rfl) rfl, fun W q hW hq => ?_⟩
  obtain ⟨M, hM, hv⟩ := okBfs_at ho hq
  have HV := Aside0.mk hv
  have hbe := behind_c 1000 A c l q.f0 M ((W.alloc (.cells #[.int .i64 q.f0, .int .i64 q.f1] 46)).drew) (Kd.C_drew (Kd.C_alloc (Kd.C_below hr hW) _)) hc hM
  have HE := Aside0.mk hbe
  have hx : Aside0 ((W.alloc (.cells #[.int .i64 q.f0, .int .i64 q.f1] 46)).drew.cell? ⟨b, 0, none⟩ = some (.slice A l.length c)) := ⟨pw_cell_below (hW.trans ((below_alloc (Below.refl W.heap.size W) _).mono hW.size)) hb.cell⟩
  have hp := Aside0.mk ((PrAt.new W q.f0 q.f1).drew)
  have HB := Aside0.mk ((below_alloc (Below.refl W.heap.size W) (.cells #[.int .i64 q.f0, .int .i64 q.f1] 46)).drew)
  clear hbe hr hc hM hv hq hW hb
  show Calls Tryz.prog 66 #[.agg #[.int .i64 q.f0, .int .i64 q.f1], .pointer (some ⟨b, 0, none⟩)] W fun e w' => e = .returned (.bool (!loopB l q.f0)) ∧ Below W.heap.size W w'
  go_enter Tryz.func66, Tryz.ntmps66
  go_wp2
  refine st_ 9 (S := fun w' => w'.cell? ⟨b, 0, none⟩ = some (.slice A l.length c) ∧ w'.cell? ⟨W.heap.size, 0, none⟩ = some (.int .i64 q.f0)) (ds := []) ⟨hx.out, hp.out.c0⟩ (fun hHeld => ?_)
  refine with_tabW (T := (true, [([], []), ([], []), ([1], [1]), ([0, 2], [0, 2]), ([], []), ([4], [4]), ([3, 5], [3, 5]), ([6], [6]), ([7, 3, 0, 1, 2, 3, 4, 5, 6, 7], [7])])) (B := [0, 0, 2, 7, 0, 16, 63, 127, 255]) (by kernel_rfl) (by kernel_rfl) (fun HT_ HW_ => ?_)
  refine pd_ 1 5 2 HT_ ?_
  refine pd_ 4 8 18 HT_ ?_
  refine tk_ 0 4 19 HT_ HW_ hHeld ?_
  refine tk_ 2 6 23 HT_ HW_ hHeld ?_
  refine tk_ 5 9 55 HT_ HW_ hHeld ?_
  refine on_ 3 (some 7) 63 HT_ (fun K hK => ?_)
  refine ca_ Tryz.func67 #[.slice A l.length c, .int .i64 q.f0] ?_
  refine HE.out.mono ?_; rintro e w1 ⟨b1, rfl, hm, hb1, hbl⟩; have HM := Aside0.mk hm; have HL := Aside0.mk hbl; clear hm hb1 hbl HE
  refine ⟨_, rfl, ?_⟩
  refine hK.out _ _ ⟨pw_cell_below HL.out hx.out, pw_cell_below HL.out hp.out.c0⟩ (fun hHeld => ?_)
  clear hK K
  refine nm_ ?_
  refine on_ 6 (some 10) 127 HT_ (fun K hK => ?_)
  (have hl := lookB (x := q.f0) HM.out HV.out.symm; refine value_ (by rfl) rfl (v := .bool (loopB l q.f0)) (w1 := w1) (by go_simp) ?_)
  refine hK.out _ _ ⟨pw_cell_below HL.out hx.out, pw_cell_below HL.out hp.out.c0⟩ (fun hHeld => ?_)
  clear hK K
  refine nm_ ?_
  refine pd_ 7 11 255 HT_ ?_
  refine pd_ 8 3 511 HT_ ?_
  refine dn_ HT_ ?_
  go_wp2
  go_ret
  exact ⟨rfl, below_in HB.out HL.out⟩
set_option maxRecDepth 100000 in
theorem isAcyclic_c (n : Int) (A : Option Addr) (c : Nat) (xs : List Int) (A1 : Option Addr) (c1 : Nat) (l : List Pr) (w : World) (hr1 : Kd.C k46 w A1 l.length l) (hc1 : l.length ≤ c1) (ho : okBfs l = true) :
    Calls Tryz.prog 37 #[.agg #[.int .i64 n, .slice A xs.length c], .slice A1 l.length c1] w fun e w' => e = .returned (.bool (acycB l)) ∧ Below w.heap.size w w' := by
  have hl : l.length ≤ 1048576 := by unfold okBfs at ho; exact of_decide_eq_true (Bool.and_eq_true _ _ ▸ ho).1
  have hb1 : Below w.heap.size w ((w.alloc (.cells #[.int .i64 n, .slice A xs.length c] 30)).alloc (.cells #[.slice A1 l.length c1] 32)) := below_alloc (below_alloc (Below.refl _ _) _) _
  have hbx : Boxed ((w.alloc (.cells #[.int .i64 n, .slice A xs.length c] 30)).alloc (.cells #[.slice A1 l.length c1] 32)) (w.heap.size + 1) 32 (.slice A1 l.length c1) := by simpa using Boxed.new (w.alloc (.cells #[.int .i64 n, .slice A xs.length c] 30)) 32 (.slice A1 l.length c1)
  have hc := areAllP_c A1 c1 l _ (fun q => q ∈ l) (fun q => !loopB l q.f0) ((w.alloc (.cells #[.int .i64 n, .slice A xs.length c] 30)).alloc (.cells #[.slice A1 l.length c1] 32)) (Kd.C_below hr1 hb1) (isAcyclic1_f _ A1 c1 l _ hbx (Kd.C_below hr1 hb1) hc1 ho) (fun q hq => hq) (by omega)
  have HC := Aside0.mk hc
  have HB := Aside0.mk hb1
  clear hc hb1 hbx hr1 hc1 ho
  go_enter Tryz.func37, Tryz.ntmps37
  go_wp2_with (go_at_call 65; refine HC.out.mono ?_; rintro e w' ⟨rfl, hb⟩)
  go_ret
  exact ⟨rfl, below_in HB.out hb⟩
end Go.Proofs.YtpjcnigohhnhnaaGreat.Im
namespace Go.Proofs.YtpjcnigohhnhnaaGreat.QS
open Cw Kp Ext Go.RowKit YtpjcnigohhnhnaaGreatW.PrintWords YtpjcnigohhnhnaaGreatW.PrintLast YtpjcnigohhnhnaaGreatW.PrintMore
attribute [local go_sem] max2_int min2_int max_two min_two max_three min_three max_four min_four   -- for this text's walks alone
def spec_l02High.l0 : Nat → List (S46) → Int → Int → Option (Int)
 | 0, _, _, _ => none
 | k + 1, x0, x1, x5 => if x5 < (x0.length : Int) then (if 0 ≤ x5 then (if ((rd_T46 x0 x5).f0) = x1 then (some ((rd_T46 x0 x5).f1)) else (spec_l02High.l0 k x0 x1 (wrap64 (x5 + 1)))) else (none)) else (some 0)
def spec_l02High.f (k : Nat) (l0 : List (S46)) (a1 : Int) : Option (Int) := spec_l02High.l0 k l0 a1 0
set_option maxHeartbeats 8000000 in
set_option maxRecDepth 100000 in
theorem spec_l02High.calls (k : Nat) (A0 : Option Addr) (c0 : Nat) (l0 : List (S46)) (a1 : Int) (r : Int) (w : World) (hr0 : Kd.C k46 w A0 l0.length l0) (hc0 : l0.length ≤ c0) (h : spec_l02High.f k l0 a1 = some r) :
  Calls Tryz.prog 77 #[.slice A0 l0.length c0, .int .i64 a1] w fun e w' => e = .returned (.int .i64 r) ∧ Drawn0 w w' := by
 have HR0 := Aside0.mk hr0
 have HC0 := Aside0.mk hc0
 clear hr0 hc0
 have H : (spec_l02High.l0 k l0 a1 0) = some r := h
 clear h
 have H' := Aside0.mk H
 clear H
 go_enter Tryz.func77, Tryz.ntmps77
 go_wp2
 go_loopg [5] k (fun kq v5 w' => ∃ (x5_1 : Int), v5 = .int .i64 x5_1 ∧ Aside0 (spec_l02High.l0 kq l0 a1 x5_1 = some r) ∧ Aside0 (kq ≤ k) ∧ Drawn0 w w')
 case atStart => exact ⟨(0), (by first | rfl | (simp; done) | (simp [*]; done)), H', ⟨Nat.le_refl _⟩, by repeat (first | exact Drawn0.refl _ | apply Drawn0.step)⟩
 case round =>
  clear H'
  try clear p2
  obtain ⟨x5_1, rfl, HA, HK1, ⟨m1, rfl⟩⟩ := hrel
  cases gk with
  | zero => exact absurd HA.out (by simp [spec_l02High.l0])
  | succ k1 =>
   have H := HA.out
   clear HA
   simp only [spec_l02High.l0] at H
   by_cases c3 : x5_1 < (l0.length : Int)
   ·rw [if_pos c3] at H
    have c3b0 : decide (x5_1 < (l0.length : Int)) = true := decide_eq_true c3
    clear c3
    by_cases c4 : 0 ≤ x5_1
    ·rw [if_pos c4] at H
     have c4b0 : decide (0 ≤ x5_1) = true := decide_eq_true c4
     clear c4
     by_cases c5 : ((rd_T46 l0 x5_1).f0) = a1
     ·rw [if_pos c5] at H
      have c5b0 : (((rd_T46 l0 x5_1).f0) == a1) = true := beq_iff_eq.mpr c5
      have c5b1 : (((rd_T46 l0 x5_1).f0) != a1) = false := bne_eq_false_iff_eq.mpr c5
      clear c5
      obtain rfl := Option.some.inj H
      have p182 : 0 ≤ (x5_1 : Int) := of_decide_eq_true (by first | (with_reducible assumption) | assumption)
      have q182 : x5_1 < (l0.length : Int) := of_decide_eq_true (by first | (with_reducible assumption) | assumption)
      obtain ⟨ad182, e182, hx182_0, hx182_1⟩ := at_T46 HR0.out x5_1 p182 q182
      cases e182
      replace p182 := eq_true p182
      replace q182 := eq_true q182
      have p183 : 0 ≤ (x5_1 : Int) := of_decide_eq_true (by first | (with_reducible assumption) | assumption)
      have q183 : x5_1 < (l0.length : Int) := of_decide_eq_true (by first | (with_reducible assumption) | assumption)
      obtain ⟨ad183, e183, hx183_0, hx183_1⟩ := at_T46 HR0.out x5_1 p183 q183
      obtain rfl : ad182 = ad183 := (by injection e183)
      replace p183 := eq_true p183
      replace q183 := eq_true q183
      go_wp2
      go_ret
      exact ⟨by first | rfl | (simp; done) | (simp [*]; done), by repeat (first | exact Drawn0.refl _ | apply Drawn0.step)⟩
     ·rw [if_neg c5] at H
      have c5b0 : (((rd_T46 l0 x5_1).f0) == a1) = false := beq_eq_false_iff_ne.mpr c5
      have c5b1 : (((rd_T46 l0 x5_1).f0) != a1) = true := bne_iff_ne.mpr c5
      have H' := Aside0.mk H
      clear H
      have p182 : 0 ≤ (x5_1 : Int) := of_decide_eq_true (by first | (with_reducible assumption) | assumption)
      have q182 : x5_1 < (l0.length : Int) := of_decide_eq_true (by first | (with_reducible assumption) | assumption)
      obtain ⟨ad182, e182, hx182_0, hx182_1⟩ := at_T46 HR0.out x5_1 p182 q182
      cases e182
      replace p182 := eq_true p182
      replace q182 := eq_true q182
      go_wp2
      go_roundg k1
      case measure => have := HK1.out; omega
      case rel => exact ⟨(wrap64 (x5_1 + 1)), (by first | rfl | (simp; done) | (simp [*]; done)), H', ⟨by have := HK1.out; omega⟩, by repeat (first | exact Drawn0.refl _ | apply Drawn0.step)⟩
    ·rw [if_neg c4] at H
     exact absurd H (by simp)
   ·rw [if_neg c3] at H
    have c3b0 : decide (x5_1 < (l0.length : Int)) = false := decide_eq_false c3
    clear c3
    obtain rfl := Option.some.inj H
    go_wp2
    go_ret
    exact ⟨by first | rfl | (simp; done) | (simp [*]; done), by repeat (first | exact Drawn0.refl _ | apply Drawn0.step)⟩
def spec_l02Next.l0 : Nat → Int → List Int → List Int → Int → Option (List Int)
 | 0, _, _, _, _ => none
 | k + 1, x1, x6, x7, x8 => if x8 < (x7.length : Int) then (if 0 ≤ x8 then (if (rd x7 x8) = x1 then (spec_l02Next.l0 k x1 x6 x7 (wrap64 (x8 + 1))) else (if x6.length < 17592186044416 then (spec_l02Next.l0 k x1 (x6 ++ [rd x7 x8]) x7 (wrap64 (x8 + 1))) else (none))) else (none)) else (some x6)
def spec_l02Next.f (k : Nat) (l0 : List (S46)) (a1 : Int) : Option (List Int) := (spec_l02High.f k l0 a1).bind fun t184 => ((some (([] : List Int) : List Int)).bind fun y185 => (if t184 = 0 then (some y185) else ((spec_l01Below.f k t184).bind fun t188 => (spec_l02Next.l0 k a1 y185 t188 0))))
set_option maxHeartbeats 8000000 in
set_option maxRecDepth 100000 in
theorem spec_l02Next.calls (k : Nat) (A0 : Option Addr) (c0 : Nat) (l0 : List (S46)) (a1 : Int) (r : List Int) (w : World) (hr0 : Kd.C k46 w A0 l0.length l0) (hc0 : l0.length ≤ c0) (h : spec_l02Next.f k l0 a1 = some r) :
  Calls Tryz.prog 58 #[.slice A0 l0.length c0, .int .i64 a1] w fun e w' => ∃ v0_ : Value, e = .returned (v0_) ∧ Kd.R (Kd.int .i64) 2 w' w.heap.size (fun _ => True) v0_ r ∧ Below w.heap.size w w' := by
 have HR0 := Aside0.mk hr0
 have HC0 := Aside0.mk hc0
 clear hr0 hc0
 have HB := Aside0.mk (Below.refl w.heap.size w)
 have H : ((spec_l02High.f k l0 a1).bind fun t184 => ((some (([] : List Int) : List Int)).bind fun y185 => (if t184 = 0 then (some y185) else ((spec_l01Below.f k t184).bind fun t188 => (spec_l02Next.l0 k a1 y185 t188 0))))) = some r := h
 clear h
 replace H := Option.bind_eq_some_iff.mp H
 obtain ⟨t184, A30, H⟩ := H
 try dsimp only at H
 have A3 := Aside0.mk A30
 clear A30
 obtain ⟨y185, hy185⟩ : ∃ y_ : List Int, y_ = (([] : List Int)) := ⟨_, rfl⟩
 replace H : (if t184 = 0 then (some y185) else ((spec_l01Below.f k t184).bind fun t188 => (spec_l02Next.l0 k a1 y185 t188 0))) = some r := by first | (rw [hy185]; with_reducible exact H) | (have H2_ := (Option.bind_some _ _).symm.trans H; rw [hy185]; with_reducible exact H2_) | (have H2_ := (Option.bind_some _ _).symm.trans H; with_reducible exact H2_) | with_reducible exact H | (rw [hy185]; exact H) | exact H
 have Ny185 := Aside0.mk hy185
 clear hy185
 by_cases c4 : t184 = 0
 ·rw [if_pos c4] at H
  have c4b0 : (t184 == 0) = true := beq_iff_eq.mpr c4
  have c4b1 : (t184 != 0) = false := bne_eq_false_iff_eq.mpr c4
  clear c4
  obtain rfl := Option.some.inj H
  go_enter Tryz.func58, Tryz.ntmps58
  go_wp2_with (first | ((with_reducible refine gate_callee (f := 77) rfl ?_); refine cl_ (some 11) Tryz.func77 #[.slice A0 l0.length c0, .int .i64 a1] ?_; (with_reducible refine (spec_l02High.calls k _ _ l0 a1 t184 _ ?side1 ?side2 A3.out).mono ?_); (case side1 => exact pC (HR0.out)); (case side2 => exact HC0.out); rintro e w' ⟨rfl, ⟨nd, rfl⟩⟩; refine ⟨_, rfl, ?_⟩) | ((with_reducible refine gate_dst (N := 12) rfl ?_); refine Kd.R_lit (Kd.int .i64) _ 2 ?hg (N := 12) ?hd (xs := ([] : List Int)) (inner := []) (ok := fun _ => True) (okp := fun _ => True) ?hr ?hp (fun _ hk => hk) trivial (Below.refl _ _) (Nat.le_refl _) (by simp) ?_; (case hd => rfl); (case hg => rfl); (case hr => first | (go_simp; done) | (go_simp; rfl)); (case hp => exact (Reps.none _ _)); intro v186 w5 ho6 hb hg_ hnew_; clear hg_ hnew_; (first | rw [← Ny185.out] at ho6 | (simp only [Int.reduceToNat] at ho6; rw [← Ny185.out] at ho6)); have HO187 := Aside0.mk (Kd.R_lower ho6 (below_size (pH HB))); replace HB := sH HB hb; clear hb ho6))
  go_ret
  exact ⟨_, by first | rfl | (simp [errW_none, errW_some] <;> rfl) | (simp [*, errW_none, errW_some] <;> rfl) | (exfalso; simp_all), by (with_reducible repeat (first | apply Kd.R_alloc | apply Kd.R_drewN | apply Kd.R_drew)); exact HO187.out, pH HB⟩
 ·rw [if_neg c4] at H
  have c4b0 : (t184 == 0) = false := beq_eq_false_iff_ne.mpr c4
  have c4b1 : (t184 != 0) = true := bne_iff_ne.mpr c4
  replace H := Option.bind_eq_some_iff.mp H
  obtain ⟨t188, A70, H⟩ := H
  try dsimp only at H
  have A7 := Aside0.mk A70
  clear A70
  have H' := Aside0.mk H
  clear H
  go_enter Tryz.func58, Tryz.ntmps58
  go_wp2_with (first | ((with_reducible refine gate_callee (f := 77) rfl ?_); refine cl_ (some 11) Tryz.func77 #[.slice A0 l0.length c0, .int .i64 a1] ?_; (with_reducible refine (spec_l02High.calls k _ _ l0 a1 t184 _ ?side1 ?side2 A3.out).mono ?_); (case side1 => exact pC (HR0.out)); (case side2 => exact HC0.out); rintro e w' ⟨rfl, ⟨nd, rfl⟩⟩; refine ⟨_, rfl, ?_⟩) | ((with_reducible refine gate_dst (N := 12) rfl ?_); refine Kd.R_lit (Kd.int .i64) _ 2 ?hg (N := 12) ?hd (xs := ([] : List Int)) (inner := []) (ok := fun _ => True) (okp := fun _ => True) ?hr ?hp (fun _ hk => hk) trivial (Below.refl _ _) (Nat.le_refl _) (by simp) ?_; (case hd => rfl); (case hg => rfl); (case hr => first | (go_simp; done) | (go_simp; rfl)); (case hp => exact (Reps.none _ _)); intro v186 w8 ho9 hb hg_ hnew_; clear hg_ hnew_; (first | rw [← Ny185.out] at ho9 | (simp only [Int.reduceToNat] at ho9; rw [← Ny185.out] at ho9)); have HO187 := Aside0.mk (Kd.R_lower ho9 (below_size (pH HB))); replace HB := sH HB hb; clear hb ho9) | ((with_reducible refine gate_callee (f := 55) rfl ?_); refine cl_ (some 17) Tryz.func55 #[.int .i64 t184] ?_; (with_reducible refine (spec_l01Below.calls k t184 t188 _ A7.out).mono ?_); rintro e w10 ⟨v189, rfl, ho0, hb⟩; refine ⟨_, rfl, ?_⟩; have HO190 := Aside0.mk (Kd.R_lower (Kd.R_new' ho0 (Kd.R_lt (pR HO187))) (below_size (pH HB))); replace HO187 := Aside0.mk (Kd.R_elder' (pR HO187) (Kd.R_base ho0) hb); replace HB := sH HB hb; (try clear hb); (try clear hi); (try clear ho0)))
  go_loopg [6, 8] k (fun kq v6 v8 w' => ∃ (x6_1 : List Int) (x8_1 : Int), v8 = .int .i64 x8_1 ∧ Aside0 (spec_l02Next.l0 kq a1 x6_1 t188 x8_1 = some r) ∧ Aside0 (kq ≤ k) ∧ Aside0 (Kd.R (Kd.int .i64) 2 w' w.heap.size (fun k_ => some k_ ≠ (v189 : Value).ownBlock) v6 x6_1) ∧ Aside0 (Kd.R (Kd.int .i64) 2 w' w.heap.size (fun k_ => some k_ ≠ (v6 : Value).ownBlock) v189 t188) ∧ Aside0 (Below w.heap.size w w'))
  case atStart => exact ⟨(y185), (0), (by first | rfl | (simp; done) | (simp [*]; done)), H', ⟨Nat.le_refl _⟩, ⟨by (with_reducible repeat (first | apply Kd.R_alloc | apply Kd.R_drewN | apply Kd.R_drew)); exact Kd.R_mono HO187.out (fun _ hk => hk.2)⟩, ⟨by (with_reducible repeat (first | apply Kd.R_alloc | apply Kd.R_drewN | apply Kd.R_drew)); exact Kd.R_mono HO190.out (fun _ hk => hk.2)⟩, ⟨pH HB⟩⟩
  case round =>
   clear H'
   try clear p2
   try clear c4
   try clear c4b0
   try clear c4b1
   try clear c5
   try clear c7
   obtain ⟨x6_1, x8_1, rfl, HA, HK1, HO_6, HO_7, HB⟩ := hrel
   cases gk with
   | zero => exact absurd HA.out (by simp [spec_l02Next.l0])
   | succ k1 =>
    have H := HA.out
    clear HA
    simp only [spec_l02Next.l0] at H
    by_cases c11 : x8_1 < (t188.length : Int)
    ·rw [if_pos c11] at H
     have c11b0 : decide (x8_1 < (t188.length : Int)) = true := decide_eq_true c11
     clear c11
     by_cases c12 : 0 ≤ x8_1
     ·rw [if_pos c12] at H
      have c12b0 : decide (0 ≤ x8_1) = true := decide_eq_true c12
      clear c12
      by_cases c13 : (rd t188 x8_1) = a1
      ·rw [if_pos c13] at H
       have c13b0 : ((rd t188 x8_1) == a1) = true := beq_iff_eq.mpr c13
       have c13b1 : ((rd t188 x8_1) != a1) = false := bne_eq_false_iff_eq.mpr c13
       clear c13
       have H' := Aside0.mk H
       clear H
       obtain ⟨Ao14, co14, eo14⟩ := Kd.R_slice HO_7.out
       subst eo14
       have p191 : 0 ≤ (x8_1 : Int) := of_decide_eq_true (by first | (with_reducible assumption) | assumption)
       have q191 : x8_1 < (t188.length : Int) := of_decide_eq_true (by first | (with_reducible assumption) | assumption)
       obtain ⟨ad191, e191, hx191_0⟩ := Kd.at_int (Kd.R_reads' HO_7.out).2.2 x8_1 p191 q191
       cases e191
       replace p191 := eq_true p191
       replace q191 := eq_true q191
       go_wp2
       go_roundg k1
       case measure => have := HK1.out; omega
       case rel => exact ⟨(x6_1), (wrap64 (x8_1 + 1)), (by first | rfl | (simp; done) | (simp [*]; done)), H', ⟨by have := HK1.out; omega⟩, ⟨by (with_reducible repeat (first | apply Kd.R_alloc | apply Kd.R_drewN | apply Kd.R_drew)); exact HO_6.out⟩, ⟨by (with_reducible repeat (first | apply Kd.R_alloc | apply Kd.R_drewN | apply Kd.R_drew)); exact HO_7.out⟩, ⟨pH HB⟩⟩
      ·rw [if_neg c13] at H
       have c13b0 : ((rd t188 x8_1) == a1) = false := beq_eq_false_iff_ne.mpr c13
       have c13b1 : ((rd t188 x8_1) != a1) = true := bne_iff_ne.mpr c13
       by_cases c15 : x6_1.length < 17592186044416
       ·rw [if_pos c15] at H
        have LMc15 := Aside0.mk c15
        clear c15
        obtain ⟨y193, hy193⟩ : ∃ y_ : List Int, y_ = (x6_1 ++ [rd t188 x8_1]) := ⟨_, rfl⟩
        replace H : (spec_l02Next.l0 k1 a1 y193 t188 (wrap64 (x8_1 + 1))) = some r := by first | (rw [hy193]; with_reducible exact H) | (have H2_ := (Option.bind_some _ _).symm.trans H; rw [hy193]; with_reducible exact H2_) | (have H2_ := (Option.bind_some _ _).symm.trans H; with_reducible exact H2_) | with_reducible exact H | (rw [hy193]; exact H) | exact H
        have Ny193 := Aside0.mk hy193
        clear hy193
        have H' := Aside0.mk H
        clear H
        obtain ⟨Ao16, co16, eo16⟩ := Kd.R_slice HO_7.out
        subst eo16
        have p191 : 0 ≤ (x8_1 : Int) := of_decide_eq_true (by first | (with_reducible assumption) | assumption)
        have q191 : x8_1 < (t188.length : Int) := of_decide_eq_true (by first | (with_reducible assumption) | assumption)
        obtain ⟨ad191, e191, hx191_0⟩ := Kd.at_int (Kd.R_reads' HO_7.out).2.2 x8_1 p191 q191
        cases e191
        replace p191 := eq_true p191
        replace q191 := eq_true q191
        have p192 : 0 ≤ (x8_1 : Int) := of_decide_eq_true (by first | (with_reducible assumption) | assumption)
        have q192 : x8_1 < (t188.length : Int) := of_decide_eq_true (by first | (with_reducible assumption) | assumption)
        obtain ⟨ad192, e192, hx192_0⟩ := Kd.at_int (Kd.R_reads' HO_7.out).2.2 x8_1 p192 q192
        obtain rfl : ad191 = ad192 := (by injection e192)
        replace p192 := eq_true p192
        replace q192 := eq_true q192
        go_wp2_with (first | ((with_reducible refine gate_builtin (b := .append) (xs := #[.tmp 30, .tmp 35]) rfl ?_); at_builtin; refine Kd.R_append (Kd.int .i64) (w0 := w) w.heap.size rfl (.tmp 30) (.tmp 35) 22 2 (.int .i64 0) 8 rfl Tryz.underlying22 info2 rfl (by decide) (by omega) u6 x6_1 (rd t188 x8_1) [.int .i64 (rd t188 x8_1)] (fun k_ => some k_ ≠ (.slice (some ad191) t188.length co16 : Value).ownBlock) (fun _ => False) rfl rfl ?aP (fun _ hk => hk.elim) ?aF ?aO ?aB ?aS ?aL ?_; (case aP => exact rfl); (case aB => exact (pH HB)); (case aF => exact (fun k_ hk => Kd.fresh' (Kd.R_lt (pR HO_7)) k_ hk)); (case aO => exact (pR HO_6)); (case aS => exact (below_size (pH HB))); (case aL => have := LMc15.out; omega); intro v194 w17 ho hb hg hat; rw [← Ny193.out] at ho; have n0_ := Aside0.mk (Kd.R_after (ok := (fun _ => True)) (by (with_reducible repeat (first | apply Kd.R_alloc | apply Kd.R_drewN | apply Kd.R_drew)); exact Kd.R_mono HO_7.out (fun _ hk => ⟨trivial, hk⟩)) hg hat); have n1_ := Aside0.mk (hb); have n2_ := Aside0.mk (ho); clear HO_7; clear HB; clear HO_6; have HO_7 := n0_; have HB := n1_; have HO195 := n2_; clear n0_ n1_ n2_; clear ho hb hg hat))
        go_roundg k1
        case measure => have := HK1.out; omega
        case rel => exact ⟨(y193), (wrap64 (x8_1 + 1)), (by first | rfl | (simp; done) | (simp [*]; done)), H', ⟨by have := HK1.out; omega⟩, ⟨by (with_reducible repeat (first | apply Kd.R_alloc | apply Kd.R_drewN | apply Kd.R_drew)); exact HO195.out⟩, ⟨by (with_reducible repeat (first | apply Kd.R_alloc | apply Kd.R_drewN | apply Kd.R_drew)); exact Kd.R_mono HO_7.out (fun _ hk => hk.2)⟩, ⟨pH HB⟩⟩
       ·rw [if_neg c15] at H
        exact absurd H (by simp)
     ·rw [if_neg c12] at H
      exact absurd H (by simp)
    ·rw [if_neg c11] at H
     have c11b0 : decide (x8_1 < (t188.length : Int)) = false := decide_eq_false c11
     clear c11
     obtain rfl := Option.some.inj H
     obtain ⟨Ao18, co18, eo18⟩ := Kd.R_slice HO_7.out
     subst eo18
     go_wp2
     go_ret
     exact ⟨_, by first | rfl | (simp [errW_none, errW_some] <;> rfl) | (simp [*, errW_none, errW_some] <;> rfl) | (exfalso; simp_all), by (with_reducible repeat (first | apply Kd.R_alloc | apply Kd.R_drewN | apply Kd.R_drew)); exact Kd.R_mono HO_6.out (fun _ hk => trivial), pH HB⟩
def spec_l02Reached.l0 : Nat → List (S46) → List Bool → List Int → Option (List Bool)
 | 0, _, _, _ => none
 | k + 1, x0, x5, x6 => if (x6.length : Int) > 0 then (if 0 ≤ (wrap64 ((x6.length : Int) - 1)) then (if (wrap64 ((x6.length : Int) - 1)) < (x6.length : Int) then (if (wrap64 ((x6.length : Int) - 1)) ≤ (x6.length : Int) then ((some (x6.take ((wrap64 ((x6.length : Int) - 1)) : Int).toNat : List Int)).bind fun y203 => (if 0 ≤ (rd x6 (wrap64 ((x6.length : Int) - 1))) then (if (rd x6 (wrap64 ((x6.length : Int) - 1))) < (x5.length : Int) then (if rdOf false x5 (rd x6 (wrap64 ((x6.length : Int) - 1))) = true then (spec_l02Reached.l0 k x0 x5 y203) else ((spec_l02Next.f k x0 (rd x6 (wrap64 ((x6.length : Int) - 1)))).bind fun t208 => (if y203.length + t208.length < 17592186044416 then (spec_l02Reached.l0 k x0 (x5.set ((rd x6 (wrap64 ((x6.length : Int) - 1))) : Int).toNat true) (y203 ++ t208)) else (none)))) else (none)) else (none))) else (none)) else (none)) else (none)) else (some x5)
def spec_l02Reached.f (k : Nat) (l0 : List (S46)) (a1 : Int) : Option (List Bool) := if 64 ≤ 281474976710656 then ((spec_l02Next.f k l0 a1).bind fun t199 => (spec_l02Reached.l0 k l0 (List.replicate 64 false) t199)) else (none)
set_option maxHeartbeats 8000000 in
set_option maxRecDepth 100000 in
theorem spec_l02Reached.calls (k : Nat) (A0 : Option Addr) (c0 : Nat) (l0 : List (S46)) (a1 : Int) (r : List Bool) (w : World) (hr0 : Kd.C k46 w A0 l0.length l0) (hc0 : l0.length ≤ c0) (h : spec_l02Reached.f k l0 a1 = some r) :
  Calls Tryz.prog 32 #[.slice A0 l0.length c0, .int .i64 a1] w fun e w' => ∃ v0_ : Value, e = .returned (v0_) ∧ Kd.R Kd.bool 4 w' w.heap.size (fun _ => True) v0_ r ∧ Below w.heap.size w w' := by
 have HR0 := Aside0.mk hr0
 have HC0 := Aside0.mk hc0
 clear hr0 hc0
 have HB := Aside0.mk (Below.refl w.heap.size w)
 have H : (if 64 ≤ 281474976710656 then ((spec_l02Next.f k l0 a1).bind fun t199 => (spec_l02Reached.l0 k l0 (List.replicate 64 false) t199)) else (none)) = some r := h
 clear h
 by_cases c3 : 64 ≤ 281474976710656
 ·rw [if_pos c3] at H
  have c3b0 := eq_true c3
  have c3b1 : decide (64 ≤ 281474976710656) = true := decide_eq_true c3
  clear c3
  obtain ⟨y196, hy196⟩ : ∃ y_ : List Bool, y_ = (List.replicate 64 false) := ⟨_, rfl⟩
  replace H : ((spec_l02Next.f k l0 a1).bind fun t199 => (spec_l02Reached.l0 k l0 y196 t199)) = some r := by first | (rw [hy196]; with_reducible exact H) | (have H2_ := (Option.bind_some _ _).symm.trans H; rw [hy196]; with_reducible exact H2_) | (have H2_ := (Option.bind_some _ _).symm.trans H; with_reducible exact H2_) | with_reducible exact H | (rw [hy196]; exact H) | exact H
  have Ny196 := Aside0.mk hy196
  clear hy196
  replace H := Option.bind_eq_some_iff.mp H
  obtain ⟨t199, A40, H⟩ := H
  try dsimp only at H
  have A4 := Aside0.mk A40
  clear A40
  have H' := Aside0.mk H
  clear H
  go_enter Tryz.func32, Tryz.ntmps32
  try go_wp2
  replace HB := dH HB
  refine st_ 6 (S := fun w' => True) (ds := []) trivial (fun hHeld => ?_)
  generalize w.drew = w5 at HB hHeld ⊢
  refine pure_ (i := 1) (N := some 9) (v := ?_) (a' := ?_) (mB 6 2) rfl rfl (by kernel_rfl) (fun _ _ _ h => h) (Or.inl ⟨by rfl, ?_⟩) ?_ ?_
  rotate_left
  ·intro w'
   go_simp
   with_reducible rfl
  rotate_left
  ·simp only [Act.put, List.setIfInBounds_toArray, List.set_cons_zero, List.set_cons_succ, i64_w, i32_w]
   rfl
  refine pure_ (i := 2) (N := some 10) (v := ?_) (a' := ?_) (mB 6 6) rfl rfl (by kernel_rfl) (fun _ _ _ h => h) (Or.inl ⟨by rfl, ?_⟩) ?_ ?_
  rotate_left
  ·intro w'
   go_simp
   with_reducible rfl
  rotate_left
  ·simp only [Act.put, List.setIfInBounds_toArray, List.set_cons_zero, List.set_cons_succ, i64_w, i32_w]
   rfl
  refine join_ (σ := Value × Value) 2 (mB 6 15) (fun s_ => [(8, s_.1), (11, s_.2)]) (fun s_ w' => (Kd.R Kd.bool 4 w' w.heap.size (fun _ => True) s_.1 y196) ∧ (Kd.R (Kd.int .i64) 2 w' w.heap.size (fun _ => True) s_.2 t199) ∧ (Below w.heap.size w w')) ?_ ?_
  rotate_left
  ·intro hCont
   refine two_ (i := 0) (j := 3) (Ni := some 8) (Nj := some 11) (mB 6 7) (mB 6 14) rfl rfl rfl rfl (by kernel_rfl) (by decide) (by decide) (fun K hK => ?_) (fun K hK => ?_)
   ·skip
    refine Kd.R_make_step Kd.bool _ 4 (by rfl) (N := 8) rfl 57 _ _ rfl 64 rfl rfl Tryz.underlying57 (.bool false) 1 info4 rfl (by decide) (by omega) false (ok := fun _ => True) (okp := fun _ => True) rfl (fun _ hk => hk) trivial (by omega) (by omega) (Below.refl _ _) (Nat.le_refl _) ?_
    intro v197 w6 ho7 hb hg_ hnew_
    clear hg_ hnew_
    (first | rw [← Ny196.out] at ho7 | (simp only [Int.reduceToNat] at ho7; rw [← Ny196.out] at ho7))
    have HO198 := Aside0.mk (Kd.R_lower ho7 (below_size (pH HB)))
    replace HB := sH HB hb
    clear hb ho7
    refine hK.out _ _ trivial (fun hHeld => ?_)
    clear hK K
    refine nm_ ?_
    refine one_ (i := 3) (N := some 11) (mB 6 15) rfl rfl (by kernel_rfl) (by decide) (fun K hK => ?_)
    refine ca_ Tryz.func58 #[.slice A0 l0.length c0, .int .i64 a1] ?_
    with_reducible refine (spec_l02Next.calls k _ _ l0 a1 t199 _ ?side1 ?side2 A4.out).mono ?_
    (case side1 => exact pC ((Kd.C_below HR0.out HB.out)))
    (case side2 => exact HC0.out)
    rintro e w8 ⟨v200, rfl, ho0, hb⟩
    refine ⟨_, rfl, ?_⟩
    replace HO198 := sR HO198 hb
    have HO201 := Aside0.mk (Kd.R_lower ho0 (below_size (pH HB)))
    replace HB := sH HB hb
    (try clear hb)
    (try clear hb2)
    (try clear hk)
    (try clear hi)
    (try clear ho0)
    refine hK.out _ _ trivial (fun hHeld => ?_)
    clear hK K
    refine nm_ ?_
    exact norm_ (by simp only [putAll, Act.put, List.setIfInBounds_toArray, List.set_cons_zero, List.set_cons_succ]) (hCont (v197, v200) _ ⟨(pR HO198), (pR HO201), (pH HB)⟩)
   ·skip
    refine ca_ Tryz.func58 #[.slice A0 l0.length c0, .int .i64 a1] ?_
    with_reducible refine (spec_l02Next.calls k _ _ l0 a1 t199 _ ?side1 ?side2 A4.out).mono ?_
    (case side1 => exact pC ((Kd.C_below HR0.out HB.out)))
    (case side2 => exact HC0.out)
    rintro e w6 ⟨v200, rfl, ho0, hb⟩
    refine ⟨_, rfl, ?_⟩
    have HO201 := Aside0.mk (Kd.R_lower ho0 (below_size (pH HB)))
    replace HB := sH HB hb
    (try clear hb)
    (try clear hb2)
    (try clear hk)
    (try clear hi)
    (try clear ho0)
    refine hK.out _ _ trivial (fun hHeld => ?_)
    clear hK K
    refine nm_ ?_
    refine one_ (i := 0) (N := some 8) (mB 6 15) rfl rfl (by kernel_rfl) (by decide) (fun K hK => ?_)
    refine Kd.R_make_step Kd.bool _ 4 (by rfl) (N := 8) rfl 57 _ _ rfl 64 rfl rfl Tryz.underlying57 (.bool false) 1 info4 rfl (by decide) (by omega) false (ok := fun _ => True) (okp := fun _ => True) rfl (fun _ hk => hk) trivial (by omega) (by omega) (Below.refl _ _) (Nat.le_refl _) ?_
    intro v197 w7 ho8 hb hg_ hnew_
    clear hg_ hnew_
    (first | rw [← Ny196.out] at ho8 | (simp only [Int.reduceToNat] at ho8; rw [← Ny196.out] at ho8))
    replace HO201 := sR HO201 hb
    have HO198 := Aside0.mk (Kd.R_lower ho8 (below_size (pH HB)))
    replace HB := sH HB hb
    clear hb ho8
    refine hK.out _ _ trivial (fun hHeld => ?_)
    clear hK K
    refine nm_ ?_
    exact norm_ (by simp only [putAll, Act.put, List.setIfInBounds_toArray, List.set_cons_zero, List.set_cons_succ]) (hCont (v197, v200) _ ⟨(pR HO198), (pR HO201), (pH HB)⟩)
  rintro ⟨v197, v200⟩ w9 ⟨h0_, h1_, h2_⟩
  have n0_ : Aside0 (Kd.R Kd.bool 4 w9 w.heap.size (fun _ => True) v197 y196) := ⟨h0_⟩
  have n1_ : Aside0 (Kd.R (Kd.int .i64) 2 w9 w.heap.size (fun _ => True) v200 t199) := ⟨h1_⟩
  have n2_ : Aside0 (Below w.heap.size w w9) := ⟨h2_⟩
  clear HB
  clear h0_ h1_ h2_
  have HO198 := n0_
  have HO201 := n1_
  have HB := n2_
  clear n0_ n1_ n2_
  have hHeld := trivial
  refine norm_ (a' := ?_) ?_ ?_
  rotate_left
  ·simp only [putAll, Act.put, List.setIfInBounds_toArray, List.set_cons_zero, List.set_cons_succ]
   rfl
  refine pure_ (i := 4) (N := some 5) (v := ?_) (a' := ?_) (mB 6 31) rfl rfl (by kernel_rfl) (fun _ _ _ h => h) (Or.inl ⟨by rfl, ?_⟩) ?_ ?_
  rotate_left
  ·intro w'
   go_simp
   with_reducible rfl
  rotate_left
  ·simp only [Act.put, List.setIfInBounds_toArray, List.set_cons_zero, List.set_cons_succ, i64_w, i32_w]
   rfl
  refine pure_ (i := 5) (N := some 6) (v := ?_) (a' := ?_) (mB 6 63) rfl rfl (by kernel_rfl) (fun _ _ _ h => h) (Or.inl ⟨by rfl, ?_⟩) ?_ ?_
  rotate_left
  ·intro w'
   go_simp
   with_reducible rfl
  rotate_left
  ·simp only [Act.put, List.setIfInBounds_toArray, List.set_cons_zero, List.set_cons_succ, i64_w, i32_w]
   rfl
  refine done_ (by kernel_rfl) ?_
  try go_wp2
  go_loopg [6] k (fun kq v6 w' => ∃ (x5_1 : List Bool) (x6_1 : List Int), Aside0 (spec_l02Reached.l0 kq l0 x5_1 x6_1 = some r) ∧ Aside0 (kq ≤ k) ∧ Aside0 (Kd.R Kd.bool 4 w' w.heap.size (fun _ => True) v197 x5_1) ∧ Aside0 (Kd.R (Kd.int .i64) 2 w' w.heap.size (fun _ => True) v6 x6_1) ∧ Aside0 (Below w.heap.size w w'))
  case atStart => exact ⟨(y196), (t199), H', ⟨Nat.le_refl _⟩, ⟨by (with_reducible repeat (first | apply Kd.R_alloc | apply Kd.R_drewN | apply Kd.R_drew)); exact HO198.out⟩, ⟨by (with_reducible repeat (first | apply Kd.R_alloc | apply Kd.R_drewN | apply Kd.R_drew)); exact HO201.out⟩, ⟨pH HB⟩⟩
  case round =>
   clear H'
   try clear p2
   try clear c3
   try clear c3b0
   try clear c3b1
   try clear c5
   obtain ⟨x5_1, x6_1, HA, HK1, HO_5, HO_6, HB⟩ := hrel
   cases gk with
   | zero => exact absurd HA.out (by simp [spec_l02Reached.l0])
   | succ k1 =>
    have H := HA.out
    clear HA
    simp only [spec_l02Reached.l0] at H
    by_cases c10 : (x6_1.length : Int) > 0
    ·rw [if_pos c10] at H
     have c10b0 : decide (0 < (x6_1.length : Int)) = true := decide_eq_true c10
     have c10b1 : decide (0 < x6_1.length) = true := decide_eq_true (by omega)
     clear c10
     obtain ⟨ji11, hji11⟩ : ∃ j_ : Int, (wrap64 ((x6_1.length : Int) - 1)) = j_ := ⟨_, rfl⟩
     replace H : (if 0 ≤ (ji11) then (if (ji11) < (x6_1.length : Int) then (if (ji11) ≤ (x6_1.length : Int) then ((some (x6_1.take ((ji11) : Int).toNat : List Int)).bind fun y203 => (if 0 ≤ (rd x6_1 (ji11)) then (if (rd x6_1 (ji11)) < (x5_1.length : Int) then (if rdOf false x5_1 (rd x6_1 (ji11)) = true then (spec_l02Reached.l0 k1 l0 x5_1 y203) else ((spec_l02Next.f k1 l0 (rd x6_1 (ji11))).bind fun t208 => (if y203.length + t208.length < 17592186044416 then (spec_l02Reached.l0 k1 l0 (x5_1.set ((rd x6_1 (ji11)) : Int).toNat true) (y203 ++ t208)) else (none)))) else (none)) else (none))) else (none)) else (none)) else (none)) = some r := by first | (rw [hji11] at H; exact H) | (simp only [hji11] at H ⊢; exact H)
     have hji11w : (IntKind.i64.wrap ((x6_1.length : Int) - 1)) = ji11 := (i64_w _).trans hji11
     by_cases c12 : 0 ≤ (ji11)
     ·rw [if_pos c12] at H
      have c12b0 : decide (0 ≤ (ji11)) = true := decide_eq_true c12
      clear c12
      by_cases c13 : (ji11) < (x6_1.length : Int)
      ·rw [if_pos c13] at H
       have c13b0 : decide ((ji11) < (x6_1.length : Int)) = true := decide_eq_true c13
       clear c13
       by_cases c14 : (ji11) ≤ (x6_1.length : Int)
       ·rw [if_pos c14] at H
        have c14b0 := eq_true c14
        have c14b1 : decide ((ji11) ≤ (x6_1.length : Int)) = true := decide_eq_true c14
        clear c14
        obtain ⟨y203, hy203⟩ : ∃ y_ : List Int, y_ = (x6_1.take ((ji11) : Int).toNat) := ⟨_, rfl⟩
        replace H : (if 0 ≤ (rd x6_1 (ji11)) then (if (rd x6_1 (ji11)) < (x5_1.length : Int) then (if rdOf false x5_1 (rd x6_1 (ji11)) = true then (spec_l02Reached.l0 k1 l0 x5_1 y203) else ((spec_l02Next.f k1 l0 (rd x6_1 (ji11))).bind fun t208 => (if y203.length + t208.length < 17592186044416 then (spec_l02Reached.l0 k1 l0 (x5_1.set ((rd x6_1 (ji11)) : Int).toNat true) (y203 ++ t208)) else (none)))) else (none)) else (none)) = some r := by first | (rw [hy203]; with_reducible exact H) | (have H2_ := (Option.bind_some _ _).symm.trans H; rw [hy203]; with_reducible exact H2_) | (have H2_ := (Option.bind_some _ _).symm.trans H; with_reducible exact H2_) | with_reducible exact H | (rw [hy203]; exact H) | exact H
        have Ny203 := Aside0.mk hy203
        clear hy203
        by_cases c15 : 0 ≤ (rd x6_1 (ji11))
        ·rw [if_pos c15] at H
         have c15b0 : decide (0 ≤ (rd x6_1 (ji11))) = true := decide_eq_true c15
         clear c15
         by_cases c16 : (rd x6_1 (ji11)) < (x5_1.length : Int)
         ·rw [if_pos c16] at H
          have c16b0 : decide ((rd x6_1 (ji11)) < (x5_1.length : Int)) = true := decide_eq_true c16
          clear c16
          obtain ⟨bq17, hbq17⟩ : ∃ b_ : Bool, b_ = (rdOf false x5_1 (rd x6_1 (ji11))) := ⟨_, rfl⟩
          replace H : (if bq17 = true then (spec_l02Reached.l0 k1 l0 x5_1 y203) else ((spec_l02Next.f k1 l0 (rd x6_1 (ji11))).bind fun t208 => (if y203.length + t208.length < 17592186044416 then (spec_l02Reached.l0 k1 l0 (x5_1.set ((rd x6_1 (ji11)) : Int).toNat true) (y203 ++ t208)) else (none)))) = some r := by rw [← hbq17] at H; exact H
          have Nbq17 := Aside0.mk hbq17
          clear hbq17
          by_cases c18 : bq17 = true
          ·subst c18
           have H1 : (spec_l02Reached.l0 k1 l0 x5_1 y203) = some r := by rw [if_pos rfl] at H; exact H
           clear H
           have H := H1
           clear H1
           have H' := Aside0.mk H
           clear H
           obtain ⟨Ao19, co19, eo19⟩ := Kd.R_slice HO_6.out
           subst eo19
           have p202 : 0 ≤ ((ji11) : Int) := of_decide_eq_true (by first | (with_reducible assumption) | assumption)
           have q202 : (ji11) < (x6_1.length : Int) := of_decide_eq_true (by first | (with_reducible assumption) | assumption)
           obtain ⟨ad202, e202, hx202_0⟩ := Kd.at_int (Kd.R_reads' HO_6.out).2.2 (ji11) p202 q202
           cases e202
           replace p202 := eq_true p202
           replace q202 := eq_true q202
           have q20 : ((ji11) : Int) ≤ ((x6_1.length : Int) : Int) := of_decide_eq_true (by first | (with_reducible assumption) | assumption)
           obtain ⟨i020, hi020, _, hsz20, _⟩ := info_parts info2
           have hcut20 := cut_to (P := Tryz.prog) 22 2 .i64 Tryz.underlying22 hi020 (some ad202) x6_1.length co19 (ji11) (of_decide_eq_true (by first | (with_reducible assumption) | assumption)) q20 (Kd.R_reads' HO_6.out).2.1
           have hr20 := Kd.R_take (m := ((ji11) : Int).toNat) HO_6.out (by omega)
           have hy20 : y203.length = ((ji11) : Int).toNat := (by rw [Ny203.out, List.length_take]; omega)
           rw [← Ny203.out] at hr20
           rw [← hy20] at hr20 hcut20
           clear hy20 hi020 hsz20 HO_6
           have HO205 := Aside0.mk hr20
           clear hr20
           replace q20 := eq_true q20
           obtain ⟨Ao21, co21, eo21⟩ := Kd.R_slice HO_5.out
           subst eo21
           have p206 : 0 ≤ ((rd x6_1 (ji11)) : Int) := of_decide_eq_true (by first | (with_reducible assumption) | assumption)
           have q206 : (rd x6_1 (ji11)) < (x5_1.length : Int) := of_decide_eq_true (by first | (with_reducible assumption) | assumption)
           obtain ⟨ad206, e206, hx206_0⟩ := Kd.at_bool (Kd.R_reads' HO_5.out).2.2 (rd x6_1 (ji11)) p206 q206
           (try rw [← Nbq17.out] at hx206_0)
           cases e206
           replace p206 := eq_true p206
           replace q206 := eq_true q206
           go_wp2
           go_roundg k1
           case measure => have := HK1.out; omega
           case rel => exact ⟨(x5_1), (y203), H', ⟨by have := HK1.out; omega⟩, ⟨by (with_reducible repeat (first | apply Kd.R_alloc | apply Kd.R_drewN | apply Kd.R_drew)); exact HO_5.out⟩, ⟨by (with_reducible repeat (first | apply Kd.R_alloc | apply Kd.R_drewN | apply Kd.R_drew)); exact HO205.out⟩, ⟨pH HB⟩⟩
          ·replace c18 := Bool.eq_false_iff.mpr c18
           subst c18
           have H1 : ((spec_l02Next.f k1 l0 (rd x6_1 (ji11))).bind fun t208 => (if y203.length + t208.length < 17592186044416 then (spec_l02Reached.l0 k1 l0 (x5_1.set ((rd x6_1 (ji11)) : Int).toNat true) (y203 ++ t208)) else (none))) = some r := by rw [if_neg (show ¬ (false = true) by decide)] at H; exact H
           clear H
           have H := H1
           clear H1
           obtain ⟨y207, hy207⟩ : ∃ y_ : List Bool, y_ = (x5_1.set ((rd x6_1 (ji11)) : Int).toNat true) := ⟨_, rfl⟩
           replace H : ((spec_l02Next.f k1 l0 (rd x6_1 (ji11))).bind fun t208 => (if y203.length + t208.length < 17592186044416 then (spec_l02Reached.l0 k1 l0 y207 (y203 ++ t208)) else (none))) = some r := by first | (rw [hy207]; with_reducible exact H) | (have H2_ := (Option.bind_some _ _).symm.trans H; rw [hy207]; with_reducible exact H2_) | (have H2_ := (Option.bind_some _ _).symm.trans H; with_reducible exact H2_) | with_reducible exact H | (rw [hy207]; exact H) | exact H
           have Ny207 := Aside0.mk hy207
           clear hy207
           replace H := Option.bind_eq_some_iff.mp H
           obtain ⟨t208, A230, H⟩ := H
           try dsimp only at H
           have A23 := Aside0.mk A230
           clear A230
           by_cases c24 : y203.length + t208.length < 17592186044416
           ·rw [if_pos c24] at H
            have LMc24 := Aside0.mk c24
            clear c24
            obtain ⟨y211, hy211⟩ : ∃ y_ : List Int, y_ = (y203 ++ t208) := ⟨_, rfl⟩
            replace H : (spec_l02Reached.l0 k1 l0 y207 y211) = some r := by first | (rw [hy211]; with_reducible exact H) | (have H2_ := (Option.bind_some _ _).symm.trans H; rw [hy211]; with_reducible exact H2_) | (have H2_ := (Option.bind_some _ _).symm.trans H; with_reducible exact H2_) | with_reducible exact H | (rw [hy211]; exact H) | exact H
            have Ny211 := Aside0.mk hy211
            clear hy211
            have H' := Aside0.mk H
            clear H
            obtain ⟨Ao25, co25, eo25⟩ := Kd.R_slice HO_6.out
            subst eo25
            have p202 : 0 ≤ ((ji11) : Int) := of_decide_eq_true (by first | (with_reducible assumption) | assumption)
            have q202 : (ji11) < (x6_1.length : Int) := of_decide_eq_true (by first | (with_reducible assumption) | assumption)
            obtain ⟨ad202, e202, hx202_0⟩ := Kd.at_int (Kd.R_reads' HO_6.out).2.2 (ji11) p202 q202
            cases e202
            replace p202 := eq_true p202
            replace q202 := eq_true q202
            have q26 : ((ji11) : Int) ≤ ((x6_1.length : Int) : Int) := of_decide_eq_true (by first | (with_reducible assumption) | assumption)
            obtain ⟨i026, hi026, _, hsz26, _⟩ := info_parts info2
            have hcut26 := cut_to (P := Tryz.prog) 22 2 .i64 Tryz.underlying22 hi026 (some ad202) x6_1.length co25 (ji11) (of_decide_eq_true (by first | (with_reducible assumption) | assumption)) q26 (Kd.R_reads' HO_6.out).2.1
            have hr26 := Kd.R_take (m := ((ji11) : Int).toNat) HO_6.out (by omega)
            have hy26 : y203.length = ((ji11) : Int).toNat := (by rw [Ny203.out, List.length_take]; omega)
            rw [← Ny203.out] at hr26
            rw [← hy26] at hr26 hcut26
            clear hy26 hi026 hsz26 HO_6
            have HO205 := Aside0.mk hr26
            clear hr26
            replace q26 := eq_true q26
            obtain ⟨Ao27, co27, eo27⟩ := Kd.R_slice HO_5.out
            subst eo27
            have p206 : 0 ≤ ((rd x6_1 (ji11)) : Int) := of_decide_eq_true (by first | (with_reducible assumption) | assumption)
            have q206 : (rd x6_1 (ji11)) < (x5_1.length : Int) := of_decide_eq_true (by first | (with_reducible assumption) | assumption)
            obtain ⟨ad206, e206, hx206_0⟩ := Kd.at_bool (Kd.R_reads' HO_5.out).2.2 (rd x6_1 (ji11)) p206 q206
            (try rw [← Nbq17.out] at hx206_0)
            cases e206
            replace p206 := eq_true p206
            replace q206 := eq_true q206
            have p22 : 0 ≤ ((rd x6_1 (ji11)) : Int) := of_decide_eq_true (by first | (with_reducible assumption) | assumption)
            have q22 : ((rd x6_1 (ji11)) : Int) < ((x5_1.length : Int) : Int) := of_decide_eq_true (by first | (with_reducible assumption) | assumption)
            obtain ⟨go22, co22, eo22, gb22, gl22, cl22, HG22⟩ := Kd.R_form HO_5.out (by omega)
            (first | cases eo22 | (injection eo22 with ea_ en_ ec_; (first | subst ea_ | (injection ea_ with ea_; subst ea_)); subst ec_; clear en_))
            have GB22 := Aside0.mk gb22
            have GG22 := Aside0.mk HG22
            clear gb22 gl22 HG22
            (first | simp only [add_plain] at hx206_0 | skip)
            obtain ⟨hx22_0, hf22_0⟩ := Kd.R_celln false HO_5.out ((rd x6_1 (ji11)) : Int) p22 q22
            replace p22 := eq_true p22
            replace q22 := eq_true q22
            have HP28 := Kd.R_putg HO_5.out ((rd x6_1 (ji11)) : Int) true
            go_wp2_with (first | ((with_reducible refine gate_store (t := 4) (p := 32) rfl ?_); refine store_event (t := 4) (p := 32) (v := ?vo_w29) (w1 := (wr.setCell ⟨go22, ((rd x6_1 (ji11)) : Int).toNat, none⟩ (.bool true))) ?hg ?ho ?hn ?hr ?_; (case ho => rfl); (case hg => rfl); (case hn => rfl); (case hr => first | (go_simp; done) | (go_simp; rfl)); intro w29 hw; have hg : wr.grownBy w29 (some go22) := (by rw [hw]; exact HP28.2); have hp_ : Kd.R Kd.bool 4 w29 w.heap.size (fun _ => True) (.slice (some ⟨go22, 0, none⟩) x5_1.length co27) y207 := (by rw [hw, Ny207.out]; exact HP28.1); clear HP28; have n0_ := Aside0.mk (hp_); have n1_ := Aside0.mk (Kd.R_over' (v := (.slice (some ⟨go22, 0, none⟩) x5_1.length co27)) (pR HO205) (Kd.R_typed HO_5.out) (by decide) hg); have n2_ := Aside0.mk ((by rw [hw]; exact below_set (HB.out) GB22.out : Below w.heap.size w w29)); clear HO_5; clear HO205; clear HB; have HO_5 := n0_; have HO205 := n1_; have HB := n2_; clear n0_ n1_ n2_; clear hg hw hp_) | ((with_reducible refine gate_callee (f := 58) rfl ?_); refine cl_ (some 36) Tryz.func58 #[.slice A0 l0.length c0, .int .i64 (rd x6_1 (ji11))] (hargs := by (try simp only [List.map_toArray, List.map_cons, List.map_nil]); first | done | (simp only [hji11]; rfl) | rfl | (simp only [List.length_drop, List.length_take]; rfl)) ?_; (with_reducible refine (spec_l02Next.calls k1 _ _ l0 (rd x6_1 (ji11)) t208 _ ?side1 ?side2 A23.out).mono ?_); (case side1 => exact pC ((Kd.C_below HR0.out HB.out))); (case side2 => exact HC0.out); rintro e w30 ⟨v209, rfl, ho0, hb⟩; refine ⟨_, rfl, ?_⟩; replace HO_5 := sR HO_5 hb; have HO210 := Aside0.mk (Kd.R_lower (Kd.R_new' ho0 (Kd.R_lt (pR HO205))) (below_size (pH HB))); replace HO205 := Aside0.mk (Kd.R_elder' (pR HO205) (Kd.R_base ho0) hb); replace HB := sH HB hb; (try clear hb); (try clear hi); (try clear ho0); obtain ⟨Ao32, co32, eo32⟩ := Kd.R_slice HO210.out; subst eo32) | ((with_reducible refine gate_builtin (b := .append) (xs := #[.tmp 33, .tmp 36]) rfl ?_); at_builtin; refine Kd.R_append_rows (Kd.int .i64) (w0 := w) w.heap.size rfl (.tmp 33) (.tmp 36) 22 2 (.int .i64 0) 8 rfl Tryz.underlying22 info2 rfl (by decide) (by omega) (.slice (some ad202) y203.length co25) y203 t208 _ _ _ (fun k_ => some k_ ≠ (.slice Ao32 t208.length co32 : Value).ownBlock) (fun _ => False) rfl rfl ?aO ?aR (fun _ _ h => h) (fun _ h => h.elim) ?aF ?aB ?aS ?aL ?_; (case aR => exact pC ((Kd.R_reads' HO210.out).2.2)); (case aB => exact (pH HB)); (case aF => exact (fun k_ hk => Kd.fresh' (Kd.R_lt (pR HO210)) k_ hk)); (case aO => exact (by (with_reducible repeat (first | apply Kd.R_alloc | apply Kd.R_drewN | apply Kd.R_drew)); exact Kd.R_mono HO205.out (fun _ hk => hk.2))); (case aS => exact (below_size (pH HB))); (case aL => have := LMc24.out; omega); intro v212 w31 ho hb hg hat; rw [← Ny211.out] at ho; replace HO_5 := Aside0.mk (Kd.R_over' (pR HO_5) (Kd.R_typed (pR HO205)) (by decide) hg); replace HO210 := Aside0.mk (Kd.R_after (ok := (fun _ => True)) (pR HO210) hg hat); replace HB := Aside0.mk (hb); have HO213 := Aside0.mk (ho); clear HO205; clear ho hb hg hat))
            go_roundg k1
            case measure => have := HK1.out; omega
            case rel => exact ⟨(y207), (y211), H', ⟨by have := HK1.out; omega⟩, ⟨by (with_reducible repeat (first | apply Kd.R_alloc | apply Kd.R_drewN | apply Kd.R_drew)); exact HO_5.out⟩, ⟨by (with_reducible repeat (first | apply Kd.R_alloc | apply Kd.R_drewN | apply Kd.R_drew)); exact Kd.R_mono HO213.out (fun _ hk => trivial)⟩, ⟨pH HB⟩⟩
           ·rw [if_neg c24] at H
            exact absurd H (by simp)
         ·rw [if_neg c16] at H
          exact absurd H (by simp)
        ·rw [if_neg c15] at H
         exact absurd H (by simp)
       ·rw [if_neg c14] at H
        exact absurd H (by simp)
      ·rw [if_neg c13] at H
       exact absurd H (by simp)
     ·rw [if_neg c12] at H
      exact absurd H (by simp)
    ·rw [if_neg c10] at H
     have c10b0 : decide (0 < (x6_1.length : Int)) = false := decide_eq_false c10
     have c10b1 : decide (0 < x6_1.length) = false := decide_eq_false (by omega)
     clear c10
     obtain rfl := Option.some.inj H
     obtain ⟨Ao33, co33, eo33⟩ := Kd.R_slice HO_6.out
     subst eo33
     go_wp2
     go_ret
     exact ⟨_, by first | rfl | (simp [errW_none, errW_some] <;> rfl) | (simp [*, errW_none, errW_some] <;> rfl) | (exfalso; simp_all), by (with_reducible repeat (first | apply Kd.R_alloc | apply Kd.R_drewN | apply Kd.R_drew)); exact HO_5.out, pH HB⟩
 ·rw [if_neg c3] at H
  exact absurd H (by simp)
def spec_l02Acyclic.l0 : Nat → List (S46) → Int → Option (Bool)
 | 0, _, _ => none
 | k + 1, x0, x3 => if x3 < (x0.length : Int) then (if 0 ≤ x3 then ((spec_l02Reached.f k x0 ((rd_T46 x0 x3).f0)).bind fun t215 => (if 0 ≤ ((rd_T46 x0 x3).f0) then (if ((rd_T46 x0 x3).f0) < (t215.length : Int) then (if rdOf false t215 ((rd_T46 x0 x3).f0) = true then (some false) else (spec_l02Acyclic.l0 k x0 (wrap64 (x3 + 1)))) else (none)) else (none))) else (none)) else (some true)
def spec_l02Acyclic.f (k : Nat) (l0 : List (S46)) : Option (Bool) := spec_l02Acyclic.l0 k l0 0
def spec_l02Acyclic.T4 : Bool × List (List Nat × List Nat) := (true, [([], []), ([], []), ([], []), ([1, 2], [1, 2]), ([3], [3]), ([4], [4]), ([0, 5], [0, 5]), ([], []), ([], []), ([7, 8], [7, 8]), ([9], [9]), ([10], [10]), ([6, 11], [6, 11]), ([12], [12])])
def spec_l02Acyclic.B4 : List Nat := [0, 0, 0, 6, 14, 30, 63, 0, 0, 384, 896, 1920, 4095, 8191]
theorem spec_l02Acyclic.tab4 : rtab .any (opsOf Tryz.f19 4) = spec_l02Acyclic.T4 := by kernel_rfl
theorem spec_l02Acyclic.bits4 : waitsOk spec_l02Acyclic.T4.2 spec_l02Acyclic.B4 = true := by kernel_rfl
set_option maxHeartbeats 8000000 in
set_option maxRecDepth 100000 in
theorem spec_l02Acyclic.calls (k : Nat) (A0 : Option Addr) (c0 : Nat) (l0 : List (S46)) (r : Bool) (w : World) (hr0 : Kd.C k46 w A0 l0.length l0) (hc0 : l0.length ≤ c0) (h : spec_l02Acyclic.f k l0 = some r) :
  Calls Tryz.prog 19 #[.slice A0 l0.length c0] w fun e w' => e = .returned (.bool r) ∧ Below w.heap.size w w' := by
 have HR0 := Aside0.mk hr0
 have HC0 := Aside0.mk hc0
 clear hr0 hc0
 have HB := Aside0.mk (Below.refl w.heap.size w)
 have H : (spec_l02Acyclic.l0 k l0 0) = some r := h
 clear h
 have H' := Aside0.mk H
 clear H
 go_enter Tryz.func19, Tryz.ntmps19
 go_wp2
 go_loopg [3] k (fun kq v3 w' => ∃ (x3_1 : Int), v3 = .int .i64 x3_1 ∧ Aside0 (spec_l02Acyclic.l0 kq l0 x3_1 = some r) ∧ Aside0 (kq ≤ k) ∧ Aside0 (Below w.heap.size w w'))
 case atStart => exact ⟨(0), (by first | rfl | (simp; done) | (simp [*]; done)), H', ⟨Nat.le_refl _⟩, ⟨pH HB⟩⟩
 case round =>
  clear H'
  try clear c1
  obtain ⟨x3_1, rfl, HA, HK1, HB⟩ := hrel
  cases gk with
  | zero => exact absurd HA.out (by simp [spec_l02Acyclic.l0])
  | succ k1 =>
   have H := HA.out
   clear HA
   simp only [spec_l02Acyclic.l0] at H
   by_cases c2 : x3_1 < (l0.length : Int)
   ·rw [if_pos c2] at H
    have c2b0 : decide (x3_1 < (l0.length : Int)) = true := decide_eq_true c2
    clear c2
    by_cases c3 : 0 ≤ x3_1
    ·rw [if_pos c3] at H
     have c3b0 : decide (0 ≤ x3_1) = true := decide_eq_true c3
     clear c3
     replace H := Option.bind_eq_some_iff.mp H
     obtain ⟨t215, A40, H⟩ := H
     try dsimp only at H
     have A4 := Aside0.mk A40
     clear A40
     by_cases c5 : 0 ≤ ((rd_T46 l0 x3_1).f0)
     ·rw [if_pos c5] at H
      have c5b0 : decide (0 ≤ ((rd_T46 l0 x3_1).f0)) = true := decide_eq_true c5
      clear c5
      by_cases c6 : ((rd_T46 l0 x3_1).f0) < (t215.length : Int)
      ·rw [if_pos c6] at H
       have c6b0 : decide (((rd_T46 l0 x3_1).f0) < (t215.length : Int)) = true := decide_eq_true c6
       clear c6
       obtain ⟨bq7, hbq7⟩ : ∃ b_ : Bool, b_ = (rdOf false t215 ((rd_T46 l0 x3_1).f0)) := ⟨_, rfl⟩
       replace H : (if bq7 = true then (some false) else (spec_l02Acyclic.l0 k1 l0 (wrap64 (x3_1 + 1)))) = some r := by rw [← hbq7] at H; exact H
       have Nbq7 := Aside0.mk hbq7
       clear hbq7
       by_cases c8 : bq7 = true
       ·subst c8
        have H1 : (some false) = some r := by rw [if_pos rfl] at H; exact H
        clear H
        have H := H1
        clear H1
        obtain rfl := Option.some.inj H
        try go_wp2
        replace HB := dH HB
        have p214 : 0 ≤ (x3_1 : Int) := of_decide_eq_true (by first | (with_reducible assumption) | assumption)
        have q214 : x3_1 < (l0.length : Int) := of_decide_eq_true (by first | (with_reducible assumption) | assumption)
        obtain ⟨ad214, e214, hx214_0, hx214_1⟩ := at_T46 HR0.out x3_1 p214 q214
        have hw214_1 := hx214_1
        have hw214_0 := hx214_0
        cases e214
        replace hx214_0 := cH HB hx214_0
        replace hx214_1 := cH HB hx214_1
        replace p214 := eq_true p214
        replace q214 := eq_true q214
        have p218 : 0 ≤ (x3_1 : Int) := of_decide_eq_true (by first | (with_reducible assumption) | assumption)
        have q218 : x3_1 < (l0.length : Int) := of_decide_eq_true (by first | (with_reducible assumption) | assumption)
        obtain ⟨ad218, e218, hx218_0, hx218_1⟩ := at_T46 HR0.out x3_1 p218 q218
        have hw218_1 := hx218_1
        have hw218_0 := hx218_0
        obtain rfl : ad214 = ad218 := (by injection e218)
        replace hx218_0 := cH HB hx218_0
        replace hx218_1 := cH HB hx218_1
        replace p218 := eq_true p218
        replace q218 := eq_true q218
        refine st_ 14 (S := fun w' => w'.cell? (ad214.add ((x3_1).toNat * 2)) = some (.int .i64 ((rd_T46 l0 x3_1).f0)) ∧ w'.cell? ⟨(ad214.add ((x3_1).toNat * 2)).block, (ad214.add ((x3_1).toNat * 2)).off + 1, none⟩ = some (.int .i64 ((rd_T46 l0 x3_1).f1)) ∧ w'.cell? (ad214.add ((x3_1).toNat * 2)) = some (.int .i64 ((rd_T46 l0 x3_1).f0)) ∧ w'.cell? ⟨(ad214.add ((x3_1).toNat * 2)).block, (ad214.add ((x3_1).toNat * 2)).off + 1, none⟩ = some (.int .i64 ((rd_T46 l0 x3_1).f1))) (ds := []) ⟨(cH HB hw214_0 :), (cH HB hw214_1 :), (cH HB hw218_0 :), (cH HB hw218_1 :)⟩ (fun hHeld => ?_); refine with_tabW spec_l02Acyclic.tab4 spec_l02Acyclic.bits4 (fun HT_ HW_ => ?_)
        generalize wr.drew = w9 at HB hx214_0 hx214_1 hx218_0 hx218_1 hHeld ⊢
        refine pu_ 0 10 1 HT_ ?_
        refine pu_ 1 11 3 HT_ ?_
        refine pu_ 2 12 7 HT_ ?_
        refine pu_ 3 13 15 HT_ ?_
        refine pu_ 4 14 31 HT_ ?_
        refine pu_ 7 17 159 HT_ ?_
        refine pu_ 8 18 415 HT_ ?_
        refine pu_ 9 19 927 HT_ ?_
        refine pu_ 10 20 1951 HT_ ?_
        refine tk_ 5 15 1983 HT_ HW_ hHeld ?_
        refine tk_ 11 21 4031 HT_ HW_ hHeld ?_
        refine on_ 6 (some 16) 4095 HT_ (fun K hK => ?_)
        refine ca_ Tryz.func32 #[.slice (some ad214) l0.length c0, .int .i64 ((rd_T46 l0 x3_1).f0)] ?_
        with_reducible refine (spec_l02Reached.calls k1 _ _ l0 ((rd_T46 l0 x3_1).f0) t215 _ ?side1 ?side2 A4.out).mono ?_
        (case side1 => exact pC ((Kd.C_below HR0.out HB.out)))
        (case side2 => exact HC0.out)
        rintro e w10 ⟨v216, rfl, ho0, hb⟩
        refine ⟨_, rfl, ?_⟩
        have HO217 := Aside0.mk (Kd.R_lower ho0 (below_size (pH HB)))
        replace HB := sH HB hb
        (try clear hb)
        (try clear hb2)
        (try clear hk)
        (try clear hi)
        (try clear ho0)
        obtain ⟨Ao11, co11, eo11⟩ := Kd.R_slice HO217.out
        (first | subst eo11 | (injection eo11 with f1_ f2_ f3_; have f4_ := f1_.symm; have f5_ := f3_.symm; clear f1_ f2_ f3_; subst f4_; subst f5_))
        have p219 : 0 ≤ (((rd_T46 l0 x3_1).f0) : Int) := of_decide_eq_true (by first | (with_reducible assumption) | assumption)
        have q219 : ((rd_T46 l0 x3_1).f0) < (t215.length : Int) := of_decide_eq_true (by first | (with_reducible assumption) | assumption)
        obtain ⟨ad219, e219, hx219_0⟩ := Kd.at_bool (Kd.R_reads' HO217.out).2.2 ((rd_T46 l0 x3_1).f0) p219 q219
        (try rw [← Nbq7.out] at hx219_0)
        cases e219
        replace p219 := eq_true p219
        replace q219 := eq_true q219
        refine hK.out _ _ ⟨(cH HB hw214_0 :), (cH HB hw214_1 :), (cH HB hw218_0 :), (cH HB hw218_1 :)⟩ (fun hHeld => ?_)
        clear hK K
        refine nm_ ?_
        refine pu_ 12 22 8191 HT_ ?_
        refine on_ 13 (some 23) 16383 HT_ (fun K hK => ?_)
        refine value_ (by rfl) rfl (v := .bool true) (w1 := _) (by go_simp; first | done | rfl) ?_
        refine hK.out _ _ hHeld (fun hHeld => ?_)
        clear hK K
        refine nm_ ?_
        refine dn_ HT_ ?_
        try go_wp2
        go_ret
        exact ⟨by first | rfl | (simp [errW_none, errW_some] <;> rfl) | (simp [*, errW_none, errW_some] <;> rfl) | (exfalso; simp_all), pH HB⟩
       ·replace c8 := Bool.eq_false_iff.mpr c8
        subst c8
        have H1 : (spec_l02Acyclic.l0 k1 l0 (wrap64 (x3_1 + 1))) = some r := by rw [if_neg (show ¬ (false = true) by decide)] at H; exact H
        clear H
        have H := H1
        clear H1
        have H' := Aside0.mk H
        clear H
        try go_wp2
        replace HB := dH HB
        have p214 : 0 ≤ (x3_1 : Int) := of_decide_eq_true (by first | (with_reducible assumption) | assumption)
        have q214 : x3_1 < (l0.length : Int) := of_decide_eq_true (by first | (with_reducible assumption) | assumption)
        obtain ⟨ad214, e214, hx214_0, hx214_1⟩ := at_T46 HR0.out x3_1 p214 q214
        have hw214_1 := hx214_1
        have hw214_0 := hx214_0
        cases e214
        replace hx214_0 := cH HB hx214_0
        replace hx214_1 := cH HB hx214_1
        replace p214 := eq_true p214
        replace q214 := eq_true q214
        have p218 : 0 ≤ (x3_1 : Int) := of_decide_eq_true (by first | (with_reducible assumption) | assumption)
        have q218 : x3_1 < (l0.length : Int) := of_decide_eq_true (by first | (with_reducible assumption) | assumption)
        obtain ⟨ad218, e218, hx218_0, hx218_1⟩ := at_T46 HR0.out x3_1 p218 q218
        have hw218_1 := hx218_1
        have hw218_0 := hx218_0
        obtain rfl : ad214 = ad218 := (by injection e218)
        replace hx218_0 := cH HB hx218_0
        replace hx218_1 := cH HB hx218_1
        replace p218 := eq_true p218
        replace q218 := eq_true q218
        refine st_ 14 (S := fun w' => w'.cell? (ad214.add ((x3_1).toNat * 2)) = some (.int .i64 ((rd_T46 l0 x3_1).f0)) ∧ w'.cell? ⟨(ad214.add ((x3_1).toNat * 2)).block, (ad214.add ((x3_1).toNat * 2)).off + 1, none⟩ = some (.int .i64 ((rd_T46 l0 x3_1).f1)) ∧ w'.cell? (ad214.add ((x3_1).toNat * 2)) = some (.int .i64 ((rd_T46 l0 x3_1).f0)) ∧ w'.cell? ⟨(ad214.add ((x3_1).toNat * 2)).block, (ad214.add ((x3_1).toNat * 2)).off + 1, none⟩ = some (.int .i64 ((rd_T46 l0 x3_1).f1))) (ds := []) ⟨(cH HB hw214_0 :), (cH HB hw214_1 :), (cH HB hw218_0 :), (cH HB hw218_1 :)⟩ (fun hHeld => ?_); refine with_tabW spec_l02Acyclic.tab4 spec_l02Acyclic.bits4 (fun HT_ HW_ => ?_)
        generalize wr.drew = w12 at HB hx214_0 hx214_1 hx218_0 hx218_1 hHeld ⊢
        refine pu_ 0 10 1 HT_ ?_
        refine pu_ 1 11 3 HT_ ?_
        refine pu_ 2 12 7 HT_ ?_
        refine pu_ 3 13 15 HT_ ?_
        refine pu_ 4 14 31 HT_ ?_
        refine pu_ 7 17 159 HT_ ?_
        refine pu_ 8 18 415 HT_ ?_
        refine pu_ 9 19 927 HT_ ?_
        refine pu_ 10 20 1951 HT_ ?_
        refine tk_ 5 15 1983 HT_ HW_ hHeld ?_
        refine tk_ 11 21 4031 HT_ HW_ hHeld ?_
        refine on_ 6 (some 16) 4095 HT_ (fun K hK => ?_)
        refine ca_ Tryz.func32 #[.slice (some ad214) l0.length c0, .int .i64 ((rd_T46 l0 x3_1).f0)] ?_
        with_reducible refine (spec_l02Reached.calls k1 _ _ l0 ((rd_T46 l0 x3_1).f0) t215 _ ?side1 ?side2 A4.out).mono ?_
        (case side1 => exact pC ((Kd.C_below HR0.out HB.out)))
        (case side2 => exact HC0.out)
        rintro e w13 ⟨v216, rfl, ho0, hb⟩
        refine ⟨_, rfl, ?_⟩
        have HO217 := Aside0.mk (Kd.R_lower ho0 (below_size (pH HB)))
        replace HB := sH HB hb
        (try clear hb)
        (try clear hb2)
        (try clear hk)
        (try clear hi)
        (try clear ho0)
        obtain ⟨Ao14, co14, eo14⟩ := Kd.R_slice HO217.out
        (first | subst eo14 | (injection eo14 with f1_ f2_ f3_; have f4_ := f1_.symm; have f5_ := f3_.symm; clear f1_ f2_ f3_; subst f4_; subst f5_))
        have p219 : 0 ≤ (((rd_T46 l0 x3_1).f0) : Int) := of_decide_eq_true (by first | (with_reducible assumption) | assumption)
        have q219 : ((rd_T46 l0 x3_1).f0) < (t215.length : Int) := of_decide_eq_true (by first | (with_reducible assumption) | assumption)
        obtain ⟨ad219, e219, hx219_0⟩ := Kd.at_bool (Kd.R_reads' HO217.out).2.2 ((rd_T46 l0 x3_1).f0) p219 q219
        (try rw [← Nbq7.out] at hx219_0)
        cases e219
        replace p219 := eq_true p219
        replace q219 := eq_true q219
        refine hK.out _ _ ⟨(cH HB hw214_0 :), (cH HB hw214_1 :), (cH HB hw218_0 :), (cH HB hw218_1 :)⟩ (fun hHeld => ?_)
        clear hK K
        refine nm_ ?_
        refine pu_ 12 22 8191 HT_ ?_
        refine on_ 13 (some 23) 16383 HT_ (fun K hK => ?_)
        refine value_ (by rfl) rfl (v := .bool false) (w1 := _) (by go_simp; first | done | rfl) ?_
        refine hK.out _ _ hHeld (fun hHeld => ?_)
        clear hK K
        refine nm_ ?_
        refine dn_ HT_ ?_
        try go_wp2
        go_roundg k1
        case measure => have := HK1.out; omega
        case rel => exact ⟨(wrap64 (x3_1 + 1)), (by first | rfl | (simp; done) | (simp [*]; done)), H', ⟨by have := HK1.out; omega⟩, ⟨pH HB⟩⟩
      ·rw [if_neg c6] at H
       exact absurd H (by simp)
     ·rw [if_neg c5] at H
      exact absurd H (by simp)
    ·rw [if_neg c3] at H
     exact absurd H (by simp)
   ·rw [if_neg c2] at H
    have c2b0 : decide (x3_1 < (l0.length : Int)) = false := decide_eq_false c2
    clear c2
    obtain rfl := Option.some.inj H
    go_wp2
    go_ret
    exact ⟨by first | rfl | (simp [errW_none, errW_some] <;> rfl) | (simp [*, errW_none, errW_some] <;> rfl) | (exfalso; simp_all), pH HB⟩
end Go.Proofs.YtpjcnigohhnhnaaGreat.QS
namespace Go.Proofs.YtpjcnigohhnhnaaGreat.Pu
open Go.RowKit Kp Ext QS Im YtpjcnigohhnhnaaGreatW.PrintWords YtpjcnigohhnhnaaGreatW.PrintLast YtpjcnigohhnhnaaGreatW.PrintMore
def FacesP (l : List Pr) : Prop := ∀ q ∈ l, (1 ≤ q.f0 ∧ q.f0 ≤ 63) ∧ 1 ≤ q.f1 ∧ q.f1 ≤ 63
def highZ (l : List Pr) (a : Int) : Int := ((l.find? fun q => q.f0 == a).map (·.f1)).getD 0
def nextZ (l : List Pr) (a : Int) : List Int := if highZ l a = 0 then [] else (bordersL (highZ l a)).filter fun y => !(y == a)
theorem border_all : ((List.range 64).all fun f => f == 0 || (bordersL (f : Int)).all fun y => decide (1 ≤ y) && decide (y ≤ 63)) = true := by decide +kernel
theorem border_range {f y : Int} (h1 : 1 ≤ f) (h2 : f ≤ 63) (hy : y ∈ bordersL f) : 1 ≤ y ∧ y ≤ 63 := by
  obtain ⟨m, rfl⟩ := Int.eq_ofNat_of_zero_le (show 0 ≤ f by omega)
  have h := List.all_eq_true.1 border_all m (List.mem_range.2 (by omega))
  have h0 : (m == 0) = false := by simp; omega
  rw [h0, Bool.false_or] at h
  simpa using List.all_eq_true.1 h y hy
theorem highZ_range {l : List Pr} (h : FacesP l) (a : Int) : highZ l a = 0 ∨ (1 ≤ highZ l a ∧ highZ l a ≤ 63) := by
  unfold highZ
  cases hq : l.find? (fun q => q.f0 == a) with
  | none => exact .inl rfl
  | some q => exact .inr (h q (List.mem_of_find?_eq_some hq)).2
theorem nextZ_range {l : List Pr} (h : FacesP l) {a y : Int} (hy : y ∈ nextZ l a) : 1 ≤ y ∧ y ≤ 63 := by
  unfold nextZ at hy
  rcases highZ_range h a with h0 | ⟨h1, h2⟩
  · rw [if_pos h0] at hy; cases hy
  · rw [if_neg (by omega)] at hy
    exact border_range h1 h2 (List.mem_filter.1 hy).1
theorem nextZ_len {l : List Pr} {a : Int} : (nextZ l a).length ≤ 6 := by
  unfold nextZ
  split
  · simp
  · exact Nat.le_trans (List.length_filter_le _ _) borders_len6
theorem fstP_none {p : Pr → Bool} {xs : List Pr} (h : xs.find? p = none) : firstP p xs = -1 := by
  rw [firstP, if_neg]
  intro ha
  obtain ⟨x, hx, hp⟩ := List.any_eq_true.1 ha
  exact List.find?_eq_none.1 h x hx hp
theorem fstP_some {p : Pr → Bool} {xs : List Pr} {q : Pr} (h : xs.find? p = some q) : ∃ i : Nat, firstP p xs = (i : Int) ∧ i < xs.length ∧ xs.getD i z46 = q := by
  have hq := List.find?_some h
  have hm := List.mem_of_find?_eq_some h
  have ha : xs.any p = true := List.any_eq_true.2 ⟨q, hm, hq⟩
  refine ⟨xs.findIdx p, by rw [firstP, if_pos ha], List.findIdx_lt_length_of_exists ⟨q, hm, hq⟩, ?_⟩
  rw [List.find?_eq_some_iff_getElem] at h
  obtain ⟨_, i, hi, he, hj⟩ := h
  have : xs.findIdx p = i := by
    rw [List.findIdx_eq hi]
    exact ⟨by rw [he]; exact hq, fun j hji => by simpa using hj j hji⟩
  rw [this, List.getD_eq_getElem?_getD, List.getElem?_eq_getElem hi]
  exact he
theorem find_ext {α : Type} {p p' : α → Bool} : ∀ (l : List α), (∀ q ∈ l, p q = p' q) → l.find? p = l.find? p'
  | [], _ => rfl
  | q :: l, h => by
    have h1 := h q (by simp)
    have h2 := find_ext l (fun x hx => h x (by simp [hx]))
    cases hp : p q with
    | true => rw [List.find?_cons_of_pos hp, List.find?_cons_of_pos (by rw [← h1]; exact hp)]
    | false => rw [List.find?_cons_of_neg (by simp [hp]), List.find?_cons_of_neg (by rw [← h1]; simp [hp]), h2]
theorem steps_f {l : List Pr} (hl : l.length ≤ 1048576) (hr : FacesP l) (a : Int) : QA.impl_steps.f l a = some (nextZ l a) := by
  obtain ⟨s1, p1⟩ := ofP_face (f := fun x y => QA.impl_steps_1.f x y a) (p := fun q : Pr => q.f0 == a) (fun x y _ _ _ _ => rfl)
  obtain ⟨s2, _, p2⟩ := ofI_face (f := fun x => QA.impl_steps_2.f x a) (p := fun x => x == a) (fun x _ _ => rfl)
  have hd : okDomP (QA.clo_105 a) l = true := by
    rw [okDomP, Bool.or_eq_true]
    refine .inr (List.all_eq_true.2 fun q hq => ?_)
    have := hr q hq
    simp; omega
  have hi : slices_IndexFunc_impl_Pair_impl_Pair.f l (QA.clo_105 a) = some (firstP (QA.clo_105 a).pP l) := by
    unfold slices_IndexFunc_impl_Pair_impl_Pair.f
    rw [if_pos ⟨by omega, s1, hd⟩]
  have hf : l.find? (QA.clo_105 a).pP = l.find? (fun q => q.f0 == a) := find_ext l (fun q hq => by have := hr q hq; exact p1 q (by omega) (by omega) (by omega) (by omega))
  unfold QA.impl_steps.f
  rw [hi, Option.bind_some]
  cases hq : l.find? (fun q => q.f0 == a) with
  | none =>
    rw [fstP_none (hf.trans hq), if_pos (by omega)]
    unfold nextZ highZ
    rw [hq]
    first | done | rfl
  | some q =>
    obtain ⟨i, e1, e2, e3⟩ := fstP_some (hf.trans hq)
    have hm := hr q (List.mem_of_find?_eq_some hq)
    have hz : highZ l a = q.f1 := by unfold highZ; rw [hq]; rfl
    have hrd : rd_T46 l (i : Int) = q := by rw [← e3]; rfl
    have hb : impl_borders.f q.f1 = some (bordersL q.f1) := by unfold impl_borders.f; rw [if_pos trivial]
    have hdom : okDom (QA.clo_106 a) (bordersL q.f1) = true := by
      rw [okDom, Bool.or_eq_true]
      refine .inr (List.all_eq_true.2 fun y hy => ?_)
      have := border_range hm.2.1 hm.2.2 hy
      simp; omega
    have hdel : slices_DeleteFunc_int64_int64.f (bordersL q.f1) (QA.clo_106 a) = some ((bordersL q.f1).filter fun x => !(QA.clo_106 a).pI x) := by
      unfold slices_DeleteFunc_int64_int64.f
      rw [if_pos ⟨by have := borders_len6 (f := q.f1); omega, s2, hdom⟩]
    rw [e1, if_neg (by omega), if_pos (by omega), if_pos (by omega), hrd, hb, Option.bind_some, hdel, Option.bind_some]
    unfold nextZ
    rw [hz, if_neg (by omega)]
    refine congrArg some (List.filter_congr fun y hy => ?_)
    have := border_range hm.2.1 hm.2.2 hy
    exact congrArg (!·) (p2 y (by omega) (by omega))
inductive Rch (l : List Pr) : Int → Int → Prop
  | one {x y : Int} : y ∈ nextZ l x → Rch l x y
  | more {x y z : Int} : y ∈ nextZ l x → Rch l y z → Rch l x z
theorem Rch.snoc {l : List Pr} {x y z : Int} (h : Rch l x y) (hz : z ∈ nextZ l y) : Rch l x z := by
  induction h with
  | one h => exact .more h (.one hz)
  | more h _ ih => exact .more h (ih hz)
theorem Rch.trans {l : List Pr} {x y z : Int} (h : Rch l x y) (k : Rch l y z) : Rch l x z := by
  induction h with
  | one h => exact .more h k
  | more h _ ih => exact .more h (ih k)
theorem Rch.range {l : List Pr} (hr : FacesP l) {x y : Int} (h : Rch l x y) : 1 ≤ y ∧ y ≤ 63 := by
  induction h with
  | one h => exact nextZ_range hr h
  | more _ _ ih => exact ih
theorem nodup_len : ∀ (n : Nat) (L : List Int), L.Nodup → (∀ x ∈ L, 1 ≤ x ∧ x ≤ (n : Int)) → L.length ≤ n := by
  intro n
  induction n with
  | zero =>
    intro L _ h
    cases L with
    | nil => simp
    | cons x L => have := h x (by simp); omega
  | succ n ih =>
    intro L hn h
    by_cases hm : ((n + 1 : Nat) : Int) ∈ L
    · have h1 := List.length_erase_of_mem hm
      have h2 := ih (L.erase ((n + 1 : Nat) : Int)) (hn.erase _) (fun x hx => by
        have hx' := (List.Nodup.mem_erase_iff hn).1 hx
        have := h x hx'.2
        have := hx'.1
        omega)
      omega
    · have := ih L hn (fun x hx => by
        have h1 := h x hx
        have : x ≠ ((n + 1 : Nat) : Int) := fun e => hm (e ▸ hx)
        omega)
      omega
def OkM (M : List (Int × Bool)) : Prop := (M.map (·.1)).Nodup ∧ ∀ p ∈ M, p.2 = true ∧ 1 ≤ p.1 ∧ p.1 ≤ 63
theorem OkM.len {M : List (Int × Bool)} (h : OkM M) : M.length ≤ 63 := by
  have := nodup_len 63 (M.map (·.1)) h.1 (fun x hx => by
    obtain ⟨p, hp, rfl⟩ := List.mem_map.1 hx
    have := h.2 p hp
    omega)
  simpa using this
theorem getM_false {M : List (Int × Bool)} (h0 : OkM M) {x : Int} (hx : ¬ getM M x = true) : x ∉ M.map (·.1) := by
  have h := h0.2
  clear h0
  induction M with
  | nil => simp
  | cons p M ih =>
    simp only [getM] at hx
    by_cases he : x = p.1
    · rw [if_pos he] at hx
      exact absurd (h p (by simp)).1 hx
    · rw [if_neg he] at hx
      have := ih hx (fun q hq => h q (by simp [hq]))
      simp only [List.map_cons, List.mem_cons]
      exact fun hh => hh.elim he this
theorem putM_new {M : List (Int × Bool)} {x : Int} (h : x ∉ M.map (·.1)) : putM M x true = M ++ [(x, true)] := by
  induction M with
  | nil => rfl
  | cons p M ih =>
    simp only [List.map_cons, List.mem_cons, not_or] at h
    simp only [putM, if_neg h.1, ih h.2, List.cons_append]
theorem okM_put {M : List (Int × Bool)} (h : OkM M) {x : Int} (hx : ¬ getM M x = true) (hr : 1 ≤ x ∧ x ≤ 63) : OkM (putM M x true) := by
  have hn := getM_false h hx
  rw [putM_new hn]
  refine ⟨?_, fun p hp => ?_⟩
  · rw [List.map_append, List.nodup_append]
    refine ⟨h.1, by simp, fun a ha b hb e => ?_⟩
    simp only [List.map_cons, List.map_nil, List.mem_singleton] at hb
    subst hb
    exact hn (e ▸ ha)
  · rcases List.mem_append.1 hp with hp | hp
    · exact h.2 p hp
    · obtain rfl := List.mem_singleton.1 hp
      exact ⟨rfl, hr⟩
theorem fold_spec : ∀ (fs : List Int) (M : List (Int × Bool)) (qs : List Int), OkM M → (∀ y ∈ fs, 1 ≤ y ∧ y ≤ 63) →
    OkM (fs.foldl stepM (M, qs)).1 ∧ (∀ y, getM (fs.foldl stepM (M, qs)).1 y = true ↔ getM M y = true ∨ y ∈ fs) ∧
    ∃ new, (fs.foldl stepM (M, qs)).2 = qs ++ new ∧ (fs.foldl stepM (M, qs)).1.length = M.length + new.length ∧ (∀ y ∈ new, y ∈ fs) ∧ (∀ y ∈ fs, getM M y = true ∨ y ∈ new)
  | [], M, qs, h, _ => ⟨h, fun y => by simp, [], by simp, by simp, by simp, by simp⟩
  | f :: fs, M, qs, h, hr => by
    rw [List.foldl_cons]
    by_cases hg : getM M f = true
    · rw [show stepM (M, qs) f = (M, qs) by unfold stepM; rw [if_pos hg]]
      obtain ⟨a, b, new, c, d, e, g⟩ := fold_spec fs M qs h (fun y hy => hr y (by simp [hy]))
      refine ⟨a, fun y => ?_, new, c, d, fun y hy => by simp [e y hy], fun y hy => ?_⟩
      · rw [b y, List.mem_cons]
        constructor
        · rintro (h1 | h1)
          · exact .inl h1
          · exact .inr (.inr h1)
        · rintro (h1 | rfl | h1)
          · exact .inl h1
          · exact .inl hg
          · exact .inr h1
      · rcases List.mem_cons.1 hy with rfl | hy
        · exact .inl hg
        · exact g y hy
    · rw [show stepM (M, qs) f = (putM M f true, qs ++ [f]) by unfold stepM; rw [if_neg hg]]
      have hk := okM_put h hg (hr f (by simp))
      obtain ⟨a, b, new, c, d, e, g⟩ := fold_spec fs (putM M f true) (qs ++ [f]) hk (fun y hy => hr y (by simp [hy]))
      refine ⟨a, fun y => ?_, f :: new, by rw [c]; simp, by rw [d, putM_new (getM_false h hg)]; simp; omega, fun y hy => ?_, fun y hy => ?_⟩
      · rw [b y, getM_put, List.mem_cons]
        by_cases hy : y = f
        · simp [hy]
        · simp [hy]
      · rcases List.mem_cons.1 hy with rfl | hy
        · simp
        · simp [e y hy]
      · rcases List.mem_cons.1 hy with rfl | hy
        · exact .inr (by simp)
        · rcases g y hy with h1 | h1
          · rw [getM_put] at h1
            by_cases hyf : y = f
            · exact .inr (by simp [hyf])
            · rw [if_neg hyf] at h1
              exact .inl h1
          · exact .inr (by simp [h1])
theorem bfs_spec {l : List Pr} (hl : l.length ≤ 1048576) (hr : FacesP l) (a : Int) : ∀ (d : Nat) (M : List (Int × Bool)) (qs : List Int), OkM M → qs.length + 63 - M.length = d → (∀ y, getM M y = true → Rch l a y) → (∀ x ∈ qs, x = a ∨ getM M x = true) →
    (∀ x, x = a ∨ getM M x = true → x ∈ qs ∨ ∀ y ∈ nextZ l x, getM M y = true) → d ≤ 900 → ∀ k, d < k → ∃ M', bfs l k M qs = some M' ∧ ∀ y, getM M' y = true ↔ Rch l a y := by
  intro d
  induction d with
  | zero =>
    intro M qs hM hd h1 h2 h3 hb k hk
    obtain ⟨k, rfl⟩ : ∃ m, k = m + 1 := ⟨k - 1, by omega⟩
    have := hM.len
    obtain rfl : qs = [] := List.eq_nil_of_length_eq_zero (by omega)
    refine ⟨M, rfl, fun y => ⟨h1 y, fun hy => ?_⟩⟩
    have key : ∀ x z, Rch l x z → (x = a ∨ getM M x = true) → getM M z = true := by
      intro x z hx
      induction hx with
      | one hy => exact fun hx => ((h3 _ hx).resolve_left (by simp)) _ hy
      | more hy _ ih => exact fun hx => ih (.inr (((h3 _ hx).resolve_left (by simp)) _ hy))
    exact key a y hy (.inl rfl)
  | succ d ih =>
    intro M qs hM hd h1 h2 h3 hb k hk
    obtain ⟨k, rfl⟩ : ∃ m, k = m + 1 := ⟨k - 1, by omega⟩
    have hlen := hM.len
    cases qs with
    | nil =>
      refine ⟨M, rfl, fun y => ⟨h1 y, fun hy => ?_⟩⟩
      have key : ∀ x z, Rch l x z → (x = a ∨ getM M x = true) → getM M z = true := by
        intro x z hx
        induction hx with
        | one hy => exact fun hx => ((h3 _ hx).resolve_left (by simp)) _ hy
        | more hy _ ih => exact fun hx => ih (.inr (((h3 _ hx).resolve_left (by simp)) _ hy))
      exact key a y hy (.inl rfl)
    | cons x qs =>
      simp only [List.length_cons] at hd
      have hn := nextZ_len (l := l) (a := x)
      obtain ⟨f1, f2, new, f3, f4, f5, f6⟩ := fold_spec (nextZ l x) M (x :: qs) hM (fun y hy => nextZ_range hr hy)
      simp only [bfs]
      rw [if_pos (by omega), steps_f hl hr, Option.bind_some, if_pos (by omega)]
      have hlen' := f1.len
      refine ih _ _ f1 (by rw [f3, f4]; simp; omega) (fun y hy => ?_) (fun z hz => ?_) (fun z hz => ?_) (by omega) k (by omega)
      · rcases (f2 y).1 hy with h | h
        · exact h1 y h
        · rcases h2 x (by simp) with rfl | hx
          · exact .one h
          · exact (h1 x hx).snoc h
      · rw [f3] at hz
        simp only [List.cons_append, List.drop_succ_cons, List.drop_zero, List.mem_append] at hz
        rcases hz with hz | hz
        · rcases h2 z (by simp [hz]) with h | h
          · exact .inl h
          · exact .inr ((f2 z).2 (.inl h))
        · exact .inr ((f2 z).2 (.inr (f5 z hz)))
      · rw [f3]
        simp only [List.cons_append, List.drop_succ_cons, List.drop_zero, List.mem_append]
        have hold : (z = a ∨ getM M z = true) → (z ∈ qs ∨ z ∈ new) ∨ ∀ y ∈ nextZ l z, getM (List.foldl stepM (M, x :: qs) (nextZ l x)).fst y = true := by
          intro hz
          rcases h3 z hz with h | h
          · rcases List.mem_cons.1 h with rfl | h
            · exact .inr (fun y hy => (f2 y).2 (.inr hy))
            · exact .inl (.inl h)
          · exact .inr (fun y hy => (f2 y).2 (.inl (h y hy)))
        rcases hz with hz | hz
        · exact hold (.inl hz)
        · rcases (f2 z).1 hz with h | h
          · exact hold (.inr h)
          · rcases f6 z h with h' | h'
            · exact hold (.inr h')
            · exact .inl (.inr h')
theorem bfs_ok {l : List Pr} (hl : l.length ≤ 1048576) (hr : FacesP l) (a : Int) : ∃ M, bfs l 1000 [] [a] = some M ∧ ∀ y, getM M y = true ↔ Rch l a y :=
  bfs_spec hl hr a 64 [] [a] ⟨by simp, by simp⟩ (by simp) (fun y hy => by simp [getM] at hy) (fun x hx => .inl (by simpa using hx)) (fun x hx => .inl (by rcases hx with rfl | hx; simp; simp [getM] at hx)) (by simp) 1000 (by omega)
theorem okBfs_of {l : List Pr} (hl : l.length ≤ 1048576) (hr : FacesP l) : okBfs l = true := by
  unfold okBfs
  rw [Bool.and_eq_true]
  refine ⟨decide_eq_true hl, List.all_eq_true.2 fun q _ => ?_⟩
  obtain ⟨M, h, _⟩ := bfs_ok hl hr q.f0
  rw [h]; rfl
theorem loopB_iff {l : List Pr} (hl : l.length ≤ 1048576) (hr : FacesP l) (a : Int) : loopB l a = true ↔ Rch l a a := by
  obtain ⟨M, h, h2⟩ := bfs_ok hl hr a
  unfold loopB
  rw [h]
  exact h2 a
end Go.Proofs.YtpjcnigohhnhnaaGreat.Pu
