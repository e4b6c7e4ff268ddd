/- FnPairings: for every input the law returns true, and each argument reads afterwards as it read before; no condition. -/
import Derived.Test.YtpnmifahfpmplaaGreatZFnPairingsf
namespace Go.Proofs.YtpnmifahfpmplaaGreat.fnPairings
set_option linter.unusedVariables false
set_option linter.unusedSimpArgs false
open Go.ChangeShapes Go.WideShapes Go.ChangeAt Go.RowKit Go.Proofs.YtpnmifahfpmplaaGreat.Rw
open Go.ChangeMaps (open_string shut_string)
theorem own : ownKnob Tryz.prog.godebug = none := by kernel_rfl
theorem laidOut : laidOutB Tryz.prog = true := by kernel_rfl
set_option maxRecDepth 100000 in
theorem lifted (os : Os) (started : os.Started) (H : Type) (enc : TypeId × Value → H) :
    ReturnsInHanded {} Tryz.checked os 3 .any (Rows.fnPairingsSpec.pre6 enc Tryz.prog Tryz.f3 Rows.fnPairingsRow.domain false) (Rows.fnPairingsSpec.post enc Tryz.prog Tryz.f3 false true false false) := by
  refine returnsInHanded_of_change_sized (C := Tryz.checked) own started (by kernel_rfl) Tryz.func3
    (ChangeSpec.witness6 (enc := enc) (C := Tryz.checked) false ⟨#[], #[.slice none 0 0], []⟩ 8 (by kernel_rfl) (by kernel_rfl) (by kernel_rfl) (by kernel_rfl)) ?_
  intro W base args ds gs before hval0 hW hcnd hsz0 _
  have hval : ∀ (j : Nat) t v, Tryz.f3.params[j]? = some t → args[j]? = some v → Value.okWide Tryz.prog W .any base t v := hval0
  have hW' := hW
  obtain ⟨p, q, hA0, hV, rfl, hfz, hnd⟩ := hW
  have hA : DataW.TrodAll enc Tryz.prog W 0 (fun _ => true) true Tryz.f3.params.toList args.toList ds p := hA0
  rw [Tryz.params3] at hA hval
  obtain ⟨v0, vs0, d0, ds0, p0, q0, hargs, rfl, rfl, h0, r0⟩ := trodAll_cons hA
  obtain ⟨rfl, rfl, rfl⟩ := trodAll_nil r0
  obtain rfl : args = #[v0] := by cases args; simp_all
  obtain ⟨rfl, rfl⟩ := trodVars_none hV
  have k0 := h0
  have lt0 : ∀ x ∈ p0, x.block < W.heap.size := by obtain ⟨m, hm⟩ := k0; exact DataW.trod_lt m _ _ _ hm
  obtain ⟨aa0, ll0, cc0, rfl⟩ := okWide_slice Tryz.underlying22 (hval 0 22 v0 rfl rfl)
  obtain ⟨fu0, hu0⟩ := h0
  obtain ⟨A0, c0, l0, ev0, x0, m0, g0, e0⟩ := read_bytes hu0
  obtain ⟨rfl, rfl, rfl⟩ : aa0 = A0 ∧ ll0 = l0.length ∧ cc0 = c0 := by injection ev0 with e1_ e2_ e3_; exact ⟨e1_, e2_, e3_⟩
  obtain ⟨k, hk⟩ := Pu.FnPairings l0 m0 e0
  refine (QFnPairings.laws_FnPairings.calls k _ _ l0 true W g0 x0 hk).mono fun e W' ⟨he, bel⟩ => ?_
  subst he
  exact ⟨_, rfl, _, _, _, [], _, [], hW', trodAll_mk1 (shut_bool Tryz.underlying4 _), (trodAll_cons_mk (Below.trod laidOut (by kernel_rfl) (of_decide_eq_true (by kernel_rfl)) k0 bel lt0) trodAll_mk0), rfl, bel.frame _, fun h => by cases h⟩
theorem fact1 : Tryz.pinned.checked.prog.funcNamed Rows.fnPairingsRow.func = some 3 := by kernel_rfl
theorem fact2 : joinedFacts Tryz.pinned.checked.prog 3 Tryz.f3 Rows.fnPairingsSpec Rows.fnPairingsRow = true := by kernel_rfl
theorem fact3 : Tryz.f3.isInstance Tryz.pinned.checked.prog Rows.fnPairingsRow.origin Rows.fnPairingsRow.targs := of_decide_eq_true (by kernel_rfl)
theorem fact4 : Tryz.f3.isWrapper Tryz.pinned.checked.prog Rows.fnPairingsRow.wrapper Rows.fnPairingsRow.mainSum := by unfold Func.isWrapper; first | (rw [if_pos (by decide +kernel)]; kernel_rfl) | (rw [if_neg (by decide +kernel)]; exact ⟨rfl, rfl⟩)
theorem over : Rows.fnPairingsRow.holds Tryz.pinned (OpenSpec.ofChange Rows.fnPairingsSpec) :=
  OpenClaim.holds_of_wide 3 Tryz.f3 rfl rfl rfl rfl rfl rfl rfl ⟨rfl, rfl, rfl, rfl, rfl⟩ rfl rfl rfl rfl rfl fact1 Tryz.func3 fact2 fact3 fact4
    (fun os started H enc _ => lifted os started H enc)
theorem proved : Rows.FnPairingsSaid := over
#print axioms proved
end Go.Proofs.YtpnmifahfpmplaaGreat.fnPairings
namespace Go.Proofs.YtpnmifahfpmplaaGreat
theorem fnPairings_holds : Rows.FnPairingsSaid := fnPairings.proved
end Go.Proofs.YtpnmifahfpmplaaGreat
