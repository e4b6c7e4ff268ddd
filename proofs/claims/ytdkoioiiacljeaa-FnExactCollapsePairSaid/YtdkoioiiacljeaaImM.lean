/- Clone, DeleteFunc, around, IsFreeFace. -/
import Derived.Test.YtdkoioiiacljeaaImL
import Derived.Lib.SliceRun
namespace Go.Proofs.Ytdkoioiiacljeaa.Im
set_option linter.unusedVariables false
set_option linter.unusedSimpArgs false
open Go.RowKit Go.Shelf Go.Proofs.YtdkoioiiacljeaaW.PrintWords Go.Proofs.YtdkoioiiacljeaaW.PrintLast Go.Proofs.YtdkoioiiacljeaaW.PrintMore

section
variable {P : Program} {ops : Array Oper} {rest : List Oper} {o : Oper} {a : Act} {Q : Exit → Act → World → Prop}
/-- append(v, ys...) to a row of the call's own; behind 'at_builtin'. -/
theorem ap64s {w0 W : World} (base : Nat) (hgd : o.guard = none) (s x : Operand) (t : TypeId)
    (ho : o.op = .call { callee := .builtin .append, args := #[s, x], argTypes := #[t, t] }) (ht : P.underlying t = some (.slice 2))
    (hinfo : (P.info? 2).map (fun i => (i.zero, i.size, i.bytes)) = some (some (.int .i64 0), 1, 8)) (v : Value) (xs ys : List Int) (A : Option Addr) (m c : Nat)
    (hs : a.eval s = v) (hx : a.eval x = .slice A m c) (HO : RO W base v xs) (HR : RC W A m ys) (HB : Below base w0 W) (hbase : base ≤ W.heap.size) (hl : xs.length + m ≤ 17592186044415)
    (h : ∀ v1 w1, RO w1 base v1 (xs ++ ys) → Below base w0 w1 → W.grownBy w1 v.ownBlock → (v1.ownBlock = v.ownBlock ∨ ∃ b, v1.ownBlock = some b ∧ W.heap.size ≤ b) → wpList P ops Q rest (a.put o.dst v1) w1) :
    wpList P ops Q (o :: rest) a W :=
  Kd.R_append_rows (Kd.int .i64) base hgd s x t 2 (.int .i64 0) 8 ho ht hinfo rfl (by decide) (by decide) v xs ys A m c (fun _ => True) (fun _ => False) hs hx HO HR (fun _ _ h => h) (fun _ h => h.elim) (fun _ _ => trivial) HB hbase (by omega) h
end

/-- An empty row that was made. -/
theorem RO.made (w : World) (base cap : Nat) (cur : Array Value) (hb : base ≤ w.heap.size) (hm : cap ≤ maxLen) (hs : cur.size = cap * 1) : RO (w.alloc (.cells cur 2)) base (.slice (some ⟨w.heap.size, 0, none⟩) 0 cap) [] :=
  RO.of_row (World.ownsRow_made w cur cap hb hm hs)

set_option maxRecDepth 100000 in
set_option maxHeartbeats 1000000 in
theorem clone_c (A : Option Addr) (n c : Nat) (xs : List Int) (w : World) (hr : RC w A n xs) (hn : n ≤ 1048576) :
    Calls Try.prog 87 #[.slice A n c] w (SlOnly w.heap.size w xs) := by
  have qnil : ∀ (w : World) (a : Option Addr) (n c n' c' : Nat), (binOp .eql 22 (.slice a n c) (.slice none n' c')).run Try.prog w = .ok (.bool a.isNone) w := fun w a n c n' c' => Lib.run_eql_slice_nil w _ _ a n c n' c' Try.underlying22
  cases A with
  | none =>
    have h0 : n = 0 := by
      rcases Nat.eq_zero_or_pos n with h | h
      · exact h
      · obtain ⟨ad, e, _⟩ := hr.2.2 h; cases e
    have hx : xs = [] := List.eq_nil_of_length_eq_zero (by rw [hr.1, h0])
    subst hx
    clear hr
    go_enter Try.func87, Try.ntmps87
    go_wp2
    go_ret
    exact ⟨_, rfl, Kd.R_nil _ _ _ _ _, Below.refl _ _⟩
  | some ad =>
    have hb1 : Below w.heap.size w (w.alloc (.cells #[] 2)) := (Below.refl _ w).alloc (Nat.le_refl _) _
    have HR := Aside0.mk (Kd.C_below hr hb1)
    have HB := Aside0.mk hb1
    have HO := Aside0.mk (RO.made w w.heap.size 0 #[] (Nat.le_refl _) (Nat.zero_le _) rfl)
    clear hr hb1
    go_enter Try.func87, Try.ntmps87
    go_wp2_with (at_builtin; refine ap64s w.heap.size rfl (.tmp 5) (.tmp 6) 22 rfl Try.underlying22 info64 _ _ _ _ _ _ rfl rfl HO.out HR.out HB.out HB.out.size (by simp; omega) ?_; intro v1 w1 ho hb hg hat; clear hat hg; have H1 := Aside0.mk ho; have HB1 := Aside0.mk hb; clear ho hb)
    go_ret
    exact ⟨_, rfl, H1.out, HB1.out⟩

/-! ### DeleteFunc -/
theorem RO.cell {W : World} {base g n cap : Nat} {ys : List Int} (h : RO W base (.slice (some ⟨g, 0, none⟩) n cap) ys) {j : Nat} (hj : j < n) : W.cell? ⟨g, j, none⟩ = some (.int .i64 (ys[j]?.getD 0)) ∧ W.frozen? ⟨g, j, none⟩ = false := by
  have := Kd.R_celln (0 : Int) h (j : Int) (by omega) (by omega)
  simpa [rdOf] using this
theorem RO.put {W : World} {base g n cap : Nat} {ys : List Int} (h : RO W base (.slice (some ⟨g, 0, none⟩) n cap) ys) (j : Nat) (x : Int) : RO (W.setCell ⟨g, j, none⟩ (.int .i64 x)) base (.slice (some ⟨g, 0, none⟩) n cap) (ys.set j x) := by
  have := Kd.R_putn h (j : Int) x
  rw [Int.toNat_natCast] at this
  exact this
theorem RO.zeros {base g n cap : Nat} : ∀ (m k : Nat) (W : World) (ys : List Int), RO W base (.slice (some ⟨g, 0, none⟩) n cap) ys → ∃ zs, zs.take k = ys.take k ∧ RO (W.setCells g k (List.replicate m (.int .i64 0))) base (.slice (some ⟨g, 0, none⟩) n cap) zs
  | 0, k, W, ys, h => ⟨ys, rfl, h⟩
  | m + 1, k, W, ys, h => by
    obtain ⟨zs, hz, hR⟩ := RO.zeros m (k + 1) _ _ (h.put k 0)
    refine ⟨zs, ?_, hR⟩
    have := congrArg (List.take k) hz
    rw [List.take_take, List.take_take, show min k (k + 1) = k by omega] at this
    rw [this, List.take_set_of_le (Nat.le_refl k)]
theorem below_cells {base g : Nat} {w0 : World} (hg : base ≤ g) : ∀ (vs : List Value) (k : Nat) (W : World), Below base w0 W → Below base w0 (W.setCells g k vs)
  | [], _, W, h => h
  | v :: vs, k, W, h => below_cells hg vs (k + 1) _ (h.setCell (p := ⟨g, k, none⟩) hg v)

theorem filter_first {p : Int → Bool} {xs : List Int} {i : Nat} (hb : ∀ j, j < i → p (xs[j]?.getD 0) = false) (hi : i ≤ xs.length) : (xs.take i).filter (fun x => !p x) = xs.take i := by
  refine List.filter_eq_self.2 fun x hx => ?_
  obtain ⟨j, hj, rfl⟩ := List.mem_iff_getElem.1 hx
  rw [List.length_take] at hj
  have := hb j (by omega)
  rw [List.getElem?_eq_getElem (by omega)] at this
  simpa using this
theorem firstI_at {p : Int → Bool} {xs : List Int} (h : xs.any p = true) : ∃ i : Nat, firstI p xs = (i : Int) ∧ i < xs.length ∧ p (xs[i]?.getD 0) = true ∧ ∀ j, j < i → p (xs[j]?.getD 0) = false := by
  have hl : xs.findIdx p < xs.length := List.findIdx_lt_length_of_exists (List.any_eq_true.1 h)
  refine ⟨xs.findIdx p, by unfold firstI; rw [if_pos h], hl, ?_, fun j hj => ?_⟩
  · rw [List.getElem?_eq_getElem hl]
    exact List.findIdx_getElem (w := hl)
  · rw [List.getElem?_eq_getElem (by omega)]
    simpa using List.not_of_lt_findIdx hj

/-- What holds in DeleteFunc's loop: k places are filled, j are read. -/
structure DI (q : Int → Bool) (xs ys : List Int) (k j : Nat) : Prop where
  lt : k < j
  le : j ≤ xs.length
  len : ys.length = xs.length
  done : ys.take k = (xs.take j).filter q
  rest : ∀ m, j ≤ m → ys[m]? = xs[m]?
theorem DI.start {p : Int → Bool} {xs : List Int} {i : Nat} (hi : i < xs.length) (hp : p (xs[i]?.getD 0) = true) (hb : (xs.take i).filter (fun x => !p x) = xs.take i) : DI (fun x => !p x) xs xs i (i + 1) :=
  ⟨by omega, hi, rfl, by
    rw [List.take_add_one, List.filter_append, hb, List.getElem?_eq_getElem hi]
    rw [List.getElem?_eq_getElem hi] at hp
    have hp' : p xs[i] = true := hp
    simp [hp'], fun _ _ => rfl⟩
theorem DI.skip {q : Int → Bool} {xs ys : List Int} {k j : Nat} (h : DI q xs ys k j) (hj : j < xs.length) (hq : q (xs[j]?.getD 0) = false) : DI q xs ys k (j + 1) :=
  ⟨by have := h.lt; omega, hj, h.len, by
    rw [List.take_add_one, List.filter_append, h.done, List.getElem?_eq_getElem hj]
    rw [List.getElem?_eq_getElem hj] at hq
    have hq' : q xs[j] = false := hq
    simp [hq'], fun m hm => h.rest m (by omega)⟩
theorem DI.keep {q : Int → Bool} {xs ys : List Int} {k j : Nat} (h : DI q xs ys k j) (hj : j < xs.length) (hq : q (xs[j]?.getD 0) = true) : DI q xs (ys.set k (xs[j]?.getD 0)) (k + 1) (j + 1) := by
  have hk := h.lt
  have hl := h.len
  refine ⟨by omega, hj, by rw [List.length_set, hl], ?_, fun m hm => ?_⟩
  · rw [List.take_add_one (l := xs), List.filter_append, ← h.done, List.getElem?_eq_getElem hj]
    rw [List.getElem?_eq_getElem hj] at hq
    have hq' : q xs[j] = true := hq
    rw [List.take_add_one, List.take_set_of_le (Nat.le_refl k), List.getElem?_set_self (by omega)]
    simp [hq']
  · rw [List.getElem?_set_ne (by omega)]
    exact h.rest m (by omega)
theorem DI.at_ {q : Int → Bool} {xs ys : List Int} {k j : Nat} (h : DI q xs ys k j) : ys[j]?.getD 0 = xs[j]?.getD 0 := by rw [h.rest j (Nat.le_refl _)]

set_option maxRecDepth 100000 in
set_option maxHeartbeats 4000000 in
theorem deleteFunc_c (w0 : World) (v : Value) (xs : List Int) (fv : Value) (dom : Int → Prop) (p : Int → Bool) (w : World) (HBw : Below w0.heap.size w0 w) (ho : RO w w0.heap.size v xs) (hn : xs.length ≤ 1048576) (hf : FnB Try.prog fv dom p w0) (hd : ∀ x ∈ xs, dom x) :
    Calls Try.prog 93 #[v, fv] w fun e w' => ∃ v', e = .returned v' ∧ RO w' w0.heap.size v' (xs.filter fun x => !p x) ∧ Below w0.heap.size w0 w' := by
  have hfw := hf.later HBw
  obtain ⟨A0, c0, rfl⟩ := Kd.R_slice ho
  have hix := indexFunc_c A0 xs.length c0 xs fv dom p w (Kd.R_reads' ho).2.2 hfw hd
  obtain ⟨g, fs, lb, rfl, eg, hcall⟩ := hf
  clear hfw
  cases hany : xs.any p with
  | false =>
    have he : firstI p xs = -1 := by unfold firstI; rw [hany]; rfl
    have hfl : (xs.filter fun x => !p x) = xs := by
      refine List.filter_eq_self.2 fun x hx => ?_
      have := List.any_eq_false.1 hany x hx
      simpa using this
    rw [he] at hix
    rw [hfl]
    have HI := Aside0.mk hix
    have HO := Aside0.mk ho
    have HB := Aside0.mk HBw
    clear hix ho HBw hcall hany he hfl
    go_enter Try.func93, Try.ntmps93
    go_wp2_with (go_at_call 123; refine HI.out.mono ?_; rintro e w' ⟨rfl, hb⟩)
    go_ret
    exact ⟨_, rfl, Kd.R_below HO.out hb, HB.out.trans (hb.mono HB.out.size)⟩
  | true =>
    obtain ⟨i, hi, hil, hpi, hbi⟩ := firstI_at hany
    rw [hi] at hix
    obtain ⟨gg, cap, hvf, hgb, hgl, _⟩ := Kd.R_form ho (by omega)
    obtain ⟨rfl, rfl⟩ : A0 = some ⟨gg, 0, none⟩ ∧ c0 = cap := by injection hvf with h1 h2 h3; exact ⟨h1, h3⟩
    have hcapn := (Kd.R_reads' ho).2.1
    have HI := Aside0.mk hix
    have HO := Aside0.mk ho
    have HB := Aside0.mk HBw
    have HC := Aside0.mk hcall
    have HD := Aside0.mk hd
    have HP := Aside0.mk hpi
    have HF := Aside0.mk (filter_first hbi (Nat.le_of_lt hil))
    have HG := Aside0.mk hgb
    obtain ⟨n, hnx⟩ : ∃ n, xs.length = n := ⟨_, rfl⟩
    have HN := Aside0.mk hnx
    rw [hnx] at hil hn hcapn ⊢
    rw [hnx] at HI HO
    clear hix ho HBw hcall hany hi hd hpi hbi hvf hgb hgl hnx
    go_enter Try.func93, Try.ntmps93
    go_wp2_with (go_at_call 123; refine HI.out.mono ?_; rintro e w1 ⟨rfl, hb⟩; have HO1 := Aside0.mk (Kd.R_below HO.out hb); have HB1 := Aside0.mk (HB.out.trans (hb.mono HB.out.size)); clear hb)
    have hst := DI.start (p := p) (by rw [HN.out]; exact hil) HP.out HF.out
    have HS := Aside0.mk hst
    clear hst
    go_loopw [5, 6] (fun vk vj wr => ∃ (k j : Nat) (ys : List Int), vk = .int .i64 k ∧ vj = .int .i64 j ∧ k < j ∧ j ≤ n ∧ Aside0 (DI (fun x => !p x) xs ys k j) ∧ Aside0 (RO wr w0.heap.size (.slice (some ⟨gg, 0, none⟩) n c0) ys) ∧ Aside0 (Below w0.heap.size w0 wr)) (fun _ vj _ => n - (intOf vj).toNat)
    case atStart => exact ⟨i, i + 1, xs, rfl, by go_num, by omega, by omega, HS, HO1, HB1⟩
    case round =>
      obtain ⟨k, j, ys, rfl, rfl, hkj, hjn, hD, hO, hBr⟩ := hrel
      by_cases hlt : j < n
      · have hltz : (j : Int) < (n : Int) := by omega
        have hcf := RO.cell hO.out hlt
        have hce := hcf.1
        have hkf := RO.cell hO.out (show k < n by omega)
        have hkc := hkf.1
        have hkz := hkf.2
        have hx := hD.out.at_
        have hjx : j < xs.length := by rw [HN.out]; exact hlt
        obtain ⟨y, hy⟩ : ∃ y, xs[j]?.getD 0 = y := ⟨_, rfl⟩
        rw [hx, hy] at hce
        have hdy : dom y := by
          rw [List.getElem?_eq_getElem hjx] at hy
          rw [← hy]
          exact HD.out _ (List.getElem_mem hjx)
        have hcy := HC.out wr y hBr.out hdy
        have HY := Aside0.mk hy
        have HJ := Aside0.mk hjx
        clear hy hx hdy hcf hkf hjx
        have HCY := Aside0.mk hcy
        clear hcy
        cases hq : p y with
        | true =>
          rw [hq] at HCY
          have HQ := Aside0.mk hq
          clear hq
          go_wp2_with (go_at_fn g; refine HCY.out.mono ?_; rintro e w' ⟨rfl, hb⟩; have HO2 := Aside0.mk (Kd.R_below hO.out hb); have HB2 := Aside0.mk (hBr.out.trans (hb.mono hBr.out.size)); clear hb)
          go_roundw
          case measure => simp [intOf]; omega
          case rel =>
            exact ⟨_, _, _, _, _, _, _, _, _, _, _, _, _, _, _, _, _, _, _, _, _, _, _, ⟨k, j + 1, ys, rfl, by go_num, by omega, by omega, ⟨hD.out.skip HJ.out (by rw [HY.out, HQ.out]; rfl)⟩, HO2, HB2⟩, rfl⟩
        | false =>
          rw [hq] at HCY
          have HQ := Aside0.mk hq
          clear hq
          go_wp2_with (go_at_fn g; refine HCY.out.mono ?_; rintro e w' ⟨rfl, hb⟩; have HO2 := Aside0.mk (Kd.R_below hO.out hb); have HB2 := Aside0.mk (hBr.out.trans (hb.mono hBr.out.size)); have hk2 := RO.cell HO2.out (show k < n by omega); have hkc2 := hk2.1; have hkz2 := hk2.2; clear hb hk2)
          go_roundw
          case measure => simp [intOf]; omega
          case rel => exact ⟨_, _, _, _, _, _, _, _, _, _, _, _, _, _, _, _, _, _, _, _, _, _, _, ⟨k + 1, j + 1, ys.set k y, by go_num, by go_num, by omega, by omega, ⟨by have := hD.out.keep HJ.out (by rw [HY.out, HQ.out]; rfl); rw [HY.out] at this; exact this⟩, ⟨RO.put HO2.out k y⟩, ⟨HB2.out.setCell (p := ⟨gg, k, none⟩) HG.out _⟩⟩, rfl⟩
      · obtain rfl : j = n := by omega
        have hltz : ¬ (j : Int) < (j : Int) := by omega
        have hcl : ∀ ty, (Builtin.clear_ #[22] ty #[.slice (some ⟨gg, k, none⟩) (j - k) (c0 - k)]).run Try.prog wr = .ok (.tuple #[]) (wr.setCells gg k (List.replicate (j - k) (.int .i64 0))) := fun ty =>
          Lib.run_clear_slice wr _ _ ty (.int .i64 0) Try.underlying22 (fun w => by kernel_rfl) rfl rfl gg k _ _ (by omega) (fun m hm => by rw [(RO.cell hO.out (show k + m < j by omega)).1]; rfl) (fun m hm => (RO.cell hO.out (show k + m < j by omega)).2)
        go_wp2
        go_ret
        obtain ⟨zs, hz, hR⟩ := RO.zeros (j - k) k _ _ hO.out
        refine ⟨_, rfl, ?_, below_cells HG.out _ _ _ hBr.out⟩
        have ht := Kd.R_take hR (m := k) (by have := (Kd.R_reads' hR).1; omega)
        rw [hz, hD.out.done, List.take_of_length_le (by rw [HN.out]; exact Nat.le_refl _)] at ht
        exact ht

end Go.Proofs.Ytdkoioiiacljeaa.Im
