/- The program's functions on lists of vertices. -/
import Derived.Test.YtdkoioiiacljeaaImB
namespace Go.Proofs.Ytdkoioiiacljeaa.Im
set_option linter.unusedVariables false
set_option linter.unusedSimpArgs false
open Go.RowKit Go.Proofs.YtdkoioiiacljeaaW.PrintWords Go.Proofs.YtdkoioiiacljeaaW.PrintLast Go.Proofs.YtdkoioiiacljeaaW.PrintMore

theorem info64 : (Try.prog.info? 2).map (fun i => (i.zero, i.size, i.bytes)) = some (some (.int .i64 0), 1, 8) := by kernel_rfl

/-- Is v a vertex of f? -/
def bitB (f : Int) (v : Nat) : Bool := Go.bits .and .i64 (f / 2 ^ v) 1 == 1
def vertsUpto (f : Int) (k : Nat) : List Int := ((List.range k).filter (bitB f)).map (fun v : Nat => (v : Int))
def verts (f : Int) : List Int := vertsUpto f 6
theorem vertsUpto_len (f : Int) (k : Nat) : (vertsUpto f k).length ≤ k := by
  unfold vertsUpto
  rw [List.length_map]
  exact Nat.le_trans (List.length_filter_le _ _) (by simp)
theorem vertsUpto_yes {f : Int} {k : Nat} (h : bitB f k = true) : vertsUpto f (k + 1) = vertsUpto f k ++ [(k : Int)] := by
  simp [vertsUpto, List.range_succ, h]
theorem vertsUpto_no {f : Int} {k : Nat} (h : bitB f k = false) : vertsUpto f (k + 1) = vertsUpto f k := by
  simp [vertsUpto, List.range_succ, h]

set_option maxRecDepth 100000 in
set_option maxHeartbeats 2000000 in
theorem vertices_c (f : Int) (w : World) : Calls Try.prog 127 #[.int .i64 f] w fun e w' => ∃ v, e = .returned v ∧ RO w' w.heap.size v (verts f) ∧ Below w.heap.size w w' := by
  go_enter Try.func127, Try.ntmps127
  go_wp2
  go_loopw [3, 4, 5] (fun v _ i wr => ∃ k : Nat, k ≤ 6 ∧ i = .int .i64 k ∧ Aside0 (RO wr w.heap.size v (vertsUpto f k)) ∧ Aside0 (Below w.heap.size w wr)) (fun _ _ i _ => 6 - (intOf i).toNat)
  case atStart => exact ⟨0, by omega, rfl, ⟨Kd.R_nil _ _ _ _ _⟩, ⟨Below.refl _ _⟩⟩
  case round =>
    obtain ⟨k, hk, rfl, hR, hB⟩ := hrel
    by_cases hlt : k < 6
    · all_goals
        go_wp2_with (at_builtin; refine ap64 w.heap.size rfl (.tmp 13) (.tmp 15) 22 rfl Try.underlying22 info64 _ _ _ rfl rfl hR.out hB.out hB.out.size ?hl ?_; (case hl => exact Nat.le_trans (vertsUpto_len f _) (by omega)); intro v1 w1 ho hb hg hat; clear hg hat; have hR1 := Aside0.mk ho; have hB1 := Aside0.mk hb; clear ho hb)
        · go_roundw
          case rel => exact ⟨k + 1, by omega, by go_num, ⟨by rw [vertsUpto_yes (by unfold bitB; assumption)]; exact hR1.out⟩, hB1⟩
          case measure => simp [intOf]; omega
        · go_roundw
          case rel => exact ⟨k + 1, by omega, by go_num, ⟨by rw [vertsUpto_no (by unfold bitB; assumption)]; exact hR.out⟩, hB⟩
          case measure => simp [intOf]; omega
    · obtain rfl : k = 6 := by omega
      go_wp2
      go_ret
      exact ⟨_, rfl, hR.out, hB.out⟩

end Go.Proofs.Ytdkoioiiacljeaa.Im
