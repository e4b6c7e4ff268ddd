/- Pairs: the laws' helpers on pairs of whole numbers (arrays of two), walked by hand. -/
import Derived.Test.YtdkoioiiacljeaaKp
import Derived.Test.YtdkoioiiacljeaaImE
namespace Go.Proofs.Ytdkoioiiacljeaa.Ext
set_option linter.unusedVariables false
set_option linter.unusedSimpArgs false
open Go.RowKit Go.Proofs.Ytdkoioiiacljeaa.Im Go.Proofs.Ytdkoioiiacljeaa.Kp Go.Proofs.YtdkoioiiacljeaaW.PrintWords Go.Proofs.YtdkoioiiacljeaaW.PrintLast Go.Proofs.YtdkoioiiacljeaaW.PrintMore

def laws_eqPair.f (a0_0 a0_1 a1_0 a1_1 : Int) : Option Bool := some (decide (a0_0 = a1_0) && decide (a0_1 = a1_1))

def PrAt (w : World) (b : Nat) (x y : Int) : Prop := w.heap[b]? = some (.cells #[.int .i64 x, .int .i64 y] 70 (0, 0))
section
variable {w w1 : World} {b : Nat} {x y : Int}
theorem PrAt.lt (h : PrAt w b x y) : b < w.heap.size := (Array.getElem?_eq_some_iff.1 h).1
theorem PrAt.below (h : PrAt w b x y) (hb : Below w.heap.size w w1) : PrAt w1 b x y := (hb.block b h.lt).trans h
theorem PrAt.alloc (h : PrAt w b x y) (o : Obj) : PrAt (w.alloc o) b x y := h.below (below_alloc (Below.refl _ _) o)
theorem PrAt.c0 (h : PrAt w b x y) : w.cell? ⟨b, 0, none⟩ = some (.int .i64 x) := (cell_of_row w b 0 _ _ _ h).trans rfl
theorem PrAt.c1 (h : PrAt w b x y) : w.cell? ⟨b, 1, none⟩ = some (.int .i64 y) := (cell_of_row w b 1 _ _ _ h).trans rfl
theorem PrAt.fz (h : PrAt w b x y) (j : Nat) : w.frozen? ⟨b, j, none⟩ = false := blk_frozen h j
theorem PrAt.drew (h : PrAt w b x y) : PrAt w.drew b x y := h
theorem PrAt.new (w : World) (x y : Int) : PrAt (w.alloc (.cells #[.int .i64 x, .int .i64 y] 70)) w.heap.size x y := heap_alloc_new w _
end

set_option maxRecDepth 100000 in
theorem laws_eqPair.calls (a0_0 a0_1 a1_0 a1_1 : Int) (r1 : Bool) (w : World) (h : laws_eqPair.f a0_0 a0_1 a1_0 a1_1 = some r1) :
    Calls Try.prog 76 #[.agg #[.int .i64 a0_0, .int .i64 a0_1], .agg #[.int .i64 a1_0, .int .i64 a1_1]] w fun e w' => e = .returned (.bool r1) ∧ Below w.heap.size w w' := by
  obtain rfl := Option.some.inj h
  clear h
  go_enter Try.func76, Try.ntmps76
  go_wp2
  go_loopw [5] (fun i wr => ∃ k : Nat, k ≤ 2 ∧ i = .int .i64 k ∧ Aside0 (Below w.heap.size w wr) ∧ Aside0 (PrAt wr w.heap.size a0_0 a0_1 ∧ PrAt wr (w.heap.size + 1) a1_0 a1_1) ∧ Aside0 (1 ≤ k → a0_0 = a1_0) ∧ Aside0 (2 ≤ k → a0_1 = a1_1)) (fun i _ => 2 - (intOf i).toNat)
  case atStart =>
    refine ⟨0, by omega, rfl, ⟨below_alloc (below_alloc (Below.refl _ _) _) _⟩, ⟨(PrAt.new _ _ _).alloc _, ?_⟩, ⟨fun h => absurd h (by omega)⟩, ⟨fun h => absurd h (by omega)⟩⟩
    simpa using PrAt.new (w.alloc (.cells #[.int .i64 a0_0, .int .i64 a0_1] 70)) a1_0 a1_1
  case round =>
    obtain ⟨k, hk, rfl, hB, hC, hE1, hE2⟩ := hrel
    obtain rfl | rfl | rfl : k = 0 ∨ k = 1 ∨ k = 2 := by omega
    · have h0 := hC.out.1.c0
      have h1 := hC.out.2.c0
      by_cases he : a0_0 = a1_0
      · have hb : (a0_0 != a1_0) = false := by simp [he]
        go_wp2
        go_region
        go_wp2
        go_roundw
        case rel => exact ⟨1, by omega, by go_num, ⟨hB.out.drew⟩, ⟨hC.out.1.drew, hC.out.2.drew⟩, ⟨fun _ => he⟩, ⟨fun h => absurd h (by omega)⟩⟩
        case measure => simp [intOf]
      · have hb : (a0_0 != a1_0) = true := by simp [he]
        go_wp2
        go_region
        go_wp2
        go_ret
        exact ⟨by simp [he], hB.out.drew⟩
    · have h0 := hC.out.1.c1
      have h1 := hC.out.2.c1
      have he0 : a0_0 = a1_0 := hE1.out (by omega)
      by_cases he : a0_1 = a1_1
      · have hb : (a0_1 != a1_1) = false := by simp [he]
        go_wp2
        go_region
        go_wp2
        go_roundw
        case rel => exact ⟨2, by omega, by go_num, ⟨hB.out.drew⟩, ⟨hC.out.1.drew, hC.out.2.drew⟩, ⟨fun _ => he0⟩, ⟨fun _ => he⟩⟩
        case measure => simp [intOf]
      · have hb : (a0_1 != a1_1) = true := by simp [he]
        go_wp2
        go_region
        go_wp2
        go_ret
        exact ⟨by simp [he], hB.out.drew⟩
    · go_wp2
      go_ret
      exact ⟨by simp [hE1.out (by omega), hE2.out (by omega)], hB.out⟩

/-- The pair that mark writes at place i. -/
def markAt (a : Int) (i : Nat) : Pr := ⟨a + 2 * i, a + 2 * i + 1⟩
def markL (n : Nat) (a : Int) : List Pr := (List.range n).map (markAt a)
def okPr (l : List Pr) (a : Int) (i : Nat) : Bool := (l.getD i z70).f0 == a + 2 * i && (l.getD i z70).f1 == a + 2 * i + 1
def heldPr (l : List Pr) (a : Int) : Int := if (List.range l.length).all (okPr l a) then a + 2 * l.length else -1
def laws_heldPairS.f (l0 : List S70) (a1 : Int) : Option Int := if 0 ≤ a1 ∧ a1 ≤ 1073741824 ∧ l0.length ≤ 1099511627776 then some (heldPr l0 a1) else none

theorem heldPr_no {l : List Pr} {a : Int} {i : Nat} (hi : i < l.length) (h : okPr l a i = false) : heldPr l a = -1 := by
  unfold heldPr
  rw [if_neg]
  intro hc
  rw [List.all_eq_true.1 hc i (List.mem_range.2 hi)] at h
  cases h
theorem heldPr_yes {l : List Pr} {a : Int} (h : ∀ i, i < l.length → okPr l a i = true) : heldPr l a = a + 2 * l.length := by
  unfold heldPr
  rw [if_pos (List.all_eq_true.2 (fun i hi => h i (List.mem_range.1 hi)))]

theorem pair_at {w : World} {A : Option Addr} {xs : List Pr} (h : Kd.C k70 w A xs.length xs) (i : Nat) (hi : i < xs.length) : ∃ ad, A = some ad ∧
    w.cell? (ad.add (i * 2)) = some (.int .i64 (xs.getD i z70).f0) ∧ w.cell? ⟨(ad.add (i * 2)).block, (ad.add (i * 2)).off + 1, none⟩ = some (.int .i64 (xs.getD i z70).f1) :=
  at_T70 h (i : Int) (by omega) (by omega)

set_option maxRecDepth 100000 in
theorem laws_heldPairS.calls (A0 : Option Addr) (c0 : Nat) (l0 : List S70) (a1 : Int) (r1 : Int) (w : World) (hr0 : Kd.C k70 w A0 l0.length l0) (hc0 : l0.length ≤ c0) (h : laws_heldPairS.f l0 a1 = some r1) :
    Calls Try.prog 40 #[.slice A0 l0.length c0, .int .i64 a1] w fun e w' => e = .returned (.int .i64 r1) ∧ Below w.heap.size w w' := by
  unfold laws_heldPairS.f at h
  by_cases hb : 0 ≤ a1 ∧ a1 ≤ 1073741824 ∧ l0.length ≤ 1099511627776
  case neg => rw [if_neg hb] at h; cases h
  rw [if_pos hb] at h
  obtain ⟨b0, b1, b2⟩ := hb
  obtain rfl := Option.some.inj h
  clear h
  have HR := Aside0.mk hr0
  clear hr0
  go_enter Try.func40, Try.ntmps40
  go_wp2
  go_loopw [1, 5] (fun c i wr => ∃ k : Nat, k ≤ l0.length ∧ c = .int .i64 (a1 + 2 * k) ∧ i = .int .i64 k ∧ wr = w ∧ Aside0 (∀ j, j < k → okPr l0 a1 j = true)) (fun _ i _ => l0.length - (intOf i).toNat)
  case atStart => exact ⟨0, by omega, by simp, rfl, rfl, ⟨fun j hj => absurd hj (by omega)⟩⟩
  case round =>
    obtain ⟨k, hk, rfl, rfl, rfl, hA⟩ := hrel
    by_cases hlt : k < l0.length
    · obtain ⟨ad, rfl, h0, h1⟩ := pair_at HR.out k hlt
      have H0 := Aside0.mk h0
      have H1 := Aside0.mk h1
      clear h0 h1
      obtain ⟨x, hx⟩ : ∃ x, (l0.getD k z70).f0 = x := ⟨_, rfl⟩
      obtain ⟨y, hy⟩ : ∃ y, (l0.getD k z70).f1 = y := ⟨_, rfl⟩
      rw [hx] at H0
      rw [hy] at H1
      have HX := Aside0.mk hx
      have HY := Aside0.mk hy
      clear hx hy
      go_wp2
      go_loopw [1, 6] (fun c j wq => ∃ m : Nat, m ≤ 2 ∧ c = .int .i64 (a1 + 2 * k + m) ∧ j = .int .i64 m ∧ wq = wr ∧ Aside0 (1 ≤ m → x = a1 + 2 * k) ∧ Aside0 (2 ≤ m → y = a1 + 2 * k + 1)) (fun _ j _ => 2 - (intOf j).toNat)
      case atStart => exact ⟨0, by omega, by simp, rfl, rfl, ⟨fun h => absurd h (by omega)⟩, ⟨fun h => absurd h (by omega)⟩⟩
      case round =>
        obtain ⟨m, hm, rfl, rfl, rfl, hE1, hE2⟩ := hrel
        obtain rfl | rfl | rfl : m = 0 ∨ m = 1 ∨ m = 2 := by omega
        · have h0 := H0.out
          by_cases he : x = a1 + 2 * k
          · have hb : (x != a1 + 2 * k + (0 : Nat)) = false := by simp [he]
            go_wp2
            go_roundw
            case rel => exact ⟨1, by omega, by go_num, rfl, trivial, ⟨fun _ => he⟩, ⟨fun h => absurd h (by omega)⟩⟩
            case measure => simp [intOf]
          · have hb : (x != a1 + 2 * k + (0 : Nat)) = true := by simp [he]
            go_wp2
            go_ret
            exact ⟨by rw [heldPr_no hlt (by rw [okPr, HX.out]; simp [he])]; rfl, Below.refl _ _⟩
        · have h1 := H1.out
          have h0 := H0.out
          by_cases he : y = a1 + 2 * k + 1
          · have hb : (y != a1 + 2 * k + (1 : Nat)) = false := by simp [he]
            go_wp2
            go_roundw
            case rel => exact ⟨2, by omega, by go_num, rfl, trivial, ⟨fun _ => hE1.out (by omega)⟩, ⟨fun _ => he⟩⟩
            case measure => simp [intOf]
          · have hb : (y != a1 + 2 * k + (1 : Nat)) = true := by simp [he]
            go_wp2
            go_ret
            exact ⟨by rw [heldPr_no hlt (by rw [okPr, HX.out, HY.out]; simp [he])]; rfl, Below.refl _ _⟩
        · go_wp2
          go_roundw
          case measure => simp [intOf]; omega
          case rel =>
            refine ⟨k + 1, by omega, by go_num, by go_num, trivial, ⟨fun j hj => ?_⟩⟩
            rcases Nat.lt_or_ge j k with h | h
            · exact hA.out j h
            · obtain rfl : j = k := by omega
              rw [okPr, HX.out, HY.out, hE1.out (by omega), hE2.out (by omega)]
              simp
    · obtain rfl : k = l0.length := by omega
      go_wp2
      go_ret
      exact ⟨by rw [heldPr_yes hA.out]; rfl, Below.refl _ _⟩

section
variable {w : World} {base g cap n : Nat} {ok : Nat → Prop} {xs : List Pr}
theorem pr_form {v : Value} (h : Kd.R k70 70 w base ok v xs) (hp : 0 < xs.length) : ∃ g cap, v = .slice (some ⟨g, 0, none⟩) xs.length cap ∧ base ≤ g ∧ ok g := by
  obtain ⟨g, cap, e, hb, _⟩ := Kd.R_form h hp
  exact ⟨g, cap, e, hb, h.1 g (by rw [e]; rfl)⟩
theorem pr_cells (h : Kd.R k70 70 w base ok (.slice (some ⟨g, 0, none⟩) n cap) xs) {k : Nat} (hk : k < n) :
    w.cell? ⟨g, k * 2, none⟩ = some (.int .i64 (xs.getD k z70).f0) ∧ w.cell? ⟨g, k * 2 + 1, none⟩ = some (.int .i64 (xs.getD k z70).f1) ∧ w.frozen? ⟨g, k * 2, none⟩ = false ∧ w.frozen? ⟨g, k * 2 + 1, none⟩ = false := by
  obtain ⟨c, hcl, hM, hcc, hf⟩ := Kd.R_elem h z70 (k : Int) (by omega) (by omega)
  obtain rfl := k70_openM hM
  exact ⟨hcc 0 _ rfl, hcc 1 _ rfl, hf 0, hf 1⟩
theorem pr_set0 (h : Kd.R k70 70 w base ok (.slice (some ⟨g, 0, none⟩) n cap) xs) {k : Nat} (hk : k < n) (v : Int) :
    Kd.R k70 70 (w.setCell ⟨g, k * 2, none⟩ (.int .i64 v)) base ok (.slice (some ⟨g, 0, none⟩) n cap) (xs.set k ⟨v, (xs.getD k z70).f1⟩) ∧ w.grownBy (w.setCell ⟨g, k * 2, none⟩ (.int .i64 v)) (some g) := by
  obtain ⟨c, hcl, hM, hcc, hf⟩ := Kd.R_elem h z70 (k : Int) (by omega) (by omega)
  obtain rfl := k70_openM hM
  exact Kd.R_seg (j := 0) (seg := [.int .i64 v]) h (k : Int) (by omega) (by omega) hcl hcc (by simp; decide) (okp := fun _ => False) (x' := ⟨v, (xs.getD k z70).f1⟩) (k70_mkM _ _ _ _) (fun _ hk => hk.elim)
theorem pr_set1 (h : Kd.R k70 70 w base ok (.slice (some ⟨g, 0, none⟩) n cap) xs) {k : Nat} (hk : k < n) (v : Int) :
    Kd.R k70 70 (w.setCell ⟨g, k * 2 + 1, none⟩ (.int .i64 v)) base ok (.slice (some ⟨g, 0, none⟩) n cap) (xs.set k ⟨(xs.getD k z70).f0, v⟩) ∧ w.grownBy (w.setCell ⟨g, k * 2 + 1, none⟩ (.int .i64 v)) (some g) := by
  obtain ⟨c, hcl, hM, hcc, hf⟩ := Kd.R_elem h z70 (k : Int) (by omega) (by omega)
  obtain rfl := k70_openM hM
  exact Kd.R_seg (j := 1) (seg := [.int .i64 v]) h (k : Int) (by omega) (by omega) hcl hcc (by simp; decide) (okp := fun _ => False) (x' := ⟨(xs.getD k z70).f0, v⟩) (k70_mkM _ _ _ _) (fun _ hk => hk.elim)
end

def updL (l : List Pr) (a : Int) : Nat → List Pr
  | 0 => l
  | k + 1 => (updL l a k).set k (markAt a k)
theorem updL_len (l : List Pr) (a : Int) (k : Nat) : (updL l a k).length = l.length := by
  induction k with
  | zero => rfl
  | succ k ih => rw [updL, List.length_set, ih]
theorem updL_get (l : List Pr) (a : Int) (k j : Nat) (hj : j < k) (hl : j < l.length) : (updL l a k)[j]? = some (markAt a j) := by
  induction k with
  | zero => omega
  | succ k ih =>
    rw [updL, List.getElem?_set]
    by_cases h : k = j
    · subst h
      rw [if_pos rfl, if_pos (by rw [updL_len]; exact hl)]
    · rw [if_neg h]
      exact ih (by omega)
theorem updL_all (l : List Pr) (a : Int) : updL l a l.length = markL l.length a := by
  apply List.ext_getElem?
  intro j
  by_cases hj : j < l.length
  · rw [updL_get _ _ _ _ hj hj, markL, List.getElem?_map, List.getElem?_range hj]
    rfl
  · rw [List.getElem?_eq_none (by rw [updL_len]; omega), List.getElem?_eq_none (by simp [markL]; omega)]
def updM (l : List Pr) (a : Int) (k : Nat) : Nat → List Pr
  | 0 => updL l a k
  | 1 => (updL l a k).set k ⟨a + 2 * k, ((updL l a k).getD k z70).f1⟩
  | _ => updL l a (k + 1)
def laws_markPairS.f (l0 : List S70) (a1 : Int) : Option (Int × List S70) := if 0 ≤ a1 ∧ a1 ≤ 1073741824 ∧ l0.length ≤ 1099511627776 then some (a1 + 2 * l0.length, markL l0.length a1) else none

set_option maxRecDepth 100000 in
theorem laws_markPairS.calls (P0_ : Nat → Prop) (u9000_ : Value) (l0 : List S70) (a1 : Int) (r1 : Int) (r2 : List S70) (w0 w : World) (hB : Below w0.heap.size w0 w) (ho0 : Kd.R k70 70 w w0.heap.size P0_ u9000_ l0) (h : laws_markPairS.f l0 a1 = some (r1, r2)) :
    Calls Try.prog 39 #[u9000_, .int .i64 a1] w fun e w' => e = .returned (.int .i64 r1) ∧ Kd.R k70 70 w' w0.heap.size (fun k_ => (P0_ k_ ∨ w.heap.size ≤ k_)) u9000_ r2 ∧ Below w0.heap.size w0 w' ∧ Kept w w' (fun k_ => P0_ k_) := by
  unfold laws_markPairS.f at h
  by_cases hb : 0 ≤ a1 ∧ a1 ≤ 1073741824 ∧ l0.length ≤ 1099511627776
  case neg => rw [if_neg hb] at h; cases h
  rw [if_pos hb] at h
  obtain ⟨b0, b1, b2⟩ := hb
  obtain ⟨rfl, rfl⟩ := Prod.mk.inj (Option.some.inj h)
  clear h
  have HR := Aside0.mk ho0
  have HB := Aside0.mk hB
  clear ho0 hB
  obtain ⟨A, cc, rfl⟩ := Kd.R_slice HR.out
  go_enter Try.func39, Try.ntmps39
  go_wp2
  go_loopw [1, 5] (fun c i wr => ∃ k : Nat, k ≤ l0.length ∧ c = .int .i64 (a1 + 2 * k) ∧ i = .int .i64 k ∧ Aside0 (Kd.R k70 70 wr w0.heap.size P0_ (.slice A l0.length cc) (updL l0 a1 k)) ∧ Aside0 (Below w0.heap.size w0 wr) ∧ Aside0 (Kept w wr P0_)) (fun _ i _ => l0.length - (intOf i).toNat)
  case atStart => exact ⟨0, by omega, by simp, rfl, HR, HB, ⟨Kept.refl _ _⟩⟩
  case round =>
    obtain ⟨k, hk, rfl, rfl, HO, HBw, HK⟩ := hrel
    by_cases hlt : k < l0.length
    · obtain ⟨g, cap, hv, hbg, hokg⟩ := pr_form HO.out (by rw [updL_len]; omega)
      obtain ⟨rfl, _, rfl⟩ : A = some ⟨g, 0, none⟩ ∧ _ ∧ cc = cap := by injection hv with e1 e2 e3; exact ⟨e1, e2, e3⟩
      clear hv
      go_wp2
      go_loopw [1, 6] (fun c j wq => ∃ m : Nat, m ≤ 2 ∧ c = .int .i64 (a1 + 2 * k + m) ∧ j = .int .i64 m ∧ Aside0 (Kd.R k70 70 wq w0.heap.size P0_ (.slice (some ⟨g, 0, none⟩) l0.length cc) (updM l0 a1 k m)) ∧ Aside0 (Below w0.heap.size w0 wq) ∧ Aside0 (Kept w wq P0_)) (fun _ j _ => 2 - (intOf j).toNat)
      case atStart => exact ⟨0, by omega, by simp, rfl, HO, HBw, HK⟩
      case round =>
        clear HO HBw HK
        obtain ⟨m, hm, rfl, rfl, HO, HBw, HK⟩ := hrel
        obtain rfl | rfl | rfl : m = 0 ∨ m = 1 ∨ m = 2 := by omega
        · obtain ⟨hc0, hc1, hf0, hf1⟩ := pr_cells HO.out hlt
          obtain ⟨hO2, hg2⟩ := pr_set0 HO.out hlt (a1 + 2 * k)
          have HO2 := Aside0.mk hO2
          have HG2 := Aside0.mk hg2
          clear hO2 hg2
          go_wp2
          go_roundw
          case measure => simp [intOf]
          case rel => exact ⟨1, by omega, by go_num, rfl, HO2, ⟨below_set HBw.out hbg⟩, ⟨Kept.of_grown HG2.out HK.out (fun k_ e_ => .inl (by injection e_ with e_; rw [← e_]; exact hokg))⟩⟩
        · obtain ⟨hc0, hc1, hf0, hf1⟩ := pr_cells HO.out hlt
          obtain ⟨hO2, hg2⟩ := pr_set1 HO.out hlt (a1 + 2 * k + (1 : Nat))
          have HO2 := Aside0.mk hO2
          have HG2 := Aside0.mk hg2
          clear hO2 hg2
          go_wp2
          go_roundw
          case measure => simp [intOf]
          case rel =>
            refine ⟨2, by omega, by go_num, rfl, ⟨?_⟩, ⟨below_set HBw.out hbg⟩, ⟨Kept.of_grown HG2.out HK.out (fun k_ e_ => .inl (by injection e_ with e_; rw [← e_]; exact hokg))⟩⟩
            have h := HO2.out
            have e : (updM l0 a1 k 1).set k ⟨((updM l0 a1 k 1).getD k z70).f0, a1 + 2 * k + (1 : Nat)⟩ = updM l0 a1 k 2 := by
              have hl : k < (updL l0 a1 k).length := by rw [updL_len]; exact hlt
              simp [updM, updL, markAt, hl, List.getD_eq_getElem?_getD]
            rw [e] at h
            exact h
        · go_wp2
          go_roundw
          case measure => simp [intOf]; omega
          case rel => exact ⟨k + 1, by omega, by go_num, by go_num, HO, HBw, HK⟩
    · obtain rfl : k = l0.length := by omega
      go_wp2
      go_ret
      refine ⟨rfl, Kd.R_mono ?_ (fun _ hk => .inl hk), HBw.out, HK.out⟩
      rw [← updL_all]
      exact HO.out

end Go.Proofs.Ytdkoioiiacljeaa.Ext
