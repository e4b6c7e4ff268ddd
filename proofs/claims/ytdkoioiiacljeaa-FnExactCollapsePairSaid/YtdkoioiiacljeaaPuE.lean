/- Plain: free faces. -/
import Derived.Test.YtdkoioiiacljeaaPuC
import Derived.Test.YtdkoioiiacljeaaImN
import Derived.Test.YtdkoioiiacljeaaQSgl01Face
import Derived.Test.YtdkoioiiacljeaaQSgl05Free
namespace Go.Proofs.Ytdkoioiiacljeaa.Pu
set_option linter.unusedVariables false
set_option linter.unusedSimpArgs false
open Go.RowKit Go.Proofs.Ytdkoioiiacljeaa.QS Go.Proofs.Ytdkoioiiacljeaa.Im Go.Proofs.YtdkoioiiacljeaaW.PrintWords Go.Proofs.YtdkoioiiacljeaaW.PrintLast Go.Proofs.YtdkoioiiacljeaaW.PrintMore

theorem ev_face (n v : Int) {l : List Int} (hl : l.length ≤ maxLen) : Ev (fun k => spec_l01Face.f k n l v) (codeOf (isC n l) (decide (v ∈ l))) := by
  unfold spec_l01Face.f
  refine Ev.bind (ev_is n hl) ?_
  unfold codeOf
  cases hi : isC n l with
  | false => simp only [Bool.false_eq_true, if_false]; exact Ev.now _
  | true =>
    simp only [if_true]
    refine Ev.bind (ev_has hl n v) ?_
    by_cases hv : v ∈ l
    · rw [decide_eq_true hv]; simp only [if_true]; exact Ev.now _
    · rw [decide_eq_false hv]; simp only [Bool.false_eq_true, if_false]; exact Ev.now _

theorem up_all : ((List.range 64).all fun v => (List.range 64).all fun x => (!aroundP (v : Int) (x : Int)) == (Go.bits .and .i64 (x : Int) (v : Int) == (v : Int) && (x : Int) != (v : Int))) = true := by decide +kernel
def upP (v x : Int) : Bool := Go.bits .and .i64 x v == v && x != v
theorem up_eq {v x : Int} (hv : 0 ≤ v ∧ v ≤ 63) (hx : 0 ≤ x ∧ x ≤ 63) : (!aroundP v x) = upP v x := by
  obtain ⟨a, rfl⟩ := Int.eq_ofNat_of_zero_le hv.1
  obtain ⟨b, rfl⟩ := Int.eq_ofNat_of_zero_le hx.1
  have h2 := List.all_eq_true.1 (List.all_eq_true.1 up_all a (List.mem_range.2 (by omega))) b (List.mem_range.2 (by omega))
  exact eq_of_beq h2
theorem around_up {n v : Int} {l : List Int} (h : isC n l = true) (hv : v ∈ l) : aroundL l v = l.filter (upP v) := by
  obtain ⟨⟨h1, h6⟩, _, _⟩ := isC_of h
  have hF := fullZ_le h1 h6
  have hr := isC_range h
  refine List.filter_congr fun x hx => up_eq ?_ ?_
  · have := hr v hv; omega
  · have := hr x hx; omega

def freeR : Int → List Int → Int
  | q, [] => q
  | q, y :: r => if q > 0 then 0 else freeR y r
theorem free_loop (n v : Int) (l : List Int) (hl : l.length ≤ 64) : ∀ d (i : Nat) (q : Int), l.length - i = d → i ≤ l.length →
    Ev (fun k => spec_l05Free.l0 k v q i n l) (freeR q ((l.drop i).filter (upP v))) := by
  intro d
  induction d with
  | zero =>
    intro i q hd hi
    rw [List.drop_eq_nil_of_le (by omega), List.filter_nil]
    refine Ev.step (f := fun k => some q) (fun k => ?_) (Ev.now _)
    simp only [spec_l05Free.l0]; rw [if_neg (by omega)]
  | succ d ih =>
    intro i q hd hi
    have hi' : i < l.length := by omega
    have hn := ih (i + 1)
    rw [List.drop_eq_getElem_cons hi']
    have hw : wrap64 ((i : Int) + 1) = ((i + 1 : Nat) : Int) := by rw [w64 (by omega) (by omega)]; omega
    have h0 : Ev (fun k => spec_l05Free.j1 k v q i (upP v l[i]) n l) (freeR q ((l[i] :: l.drop (i + 1)).filter (upP v))) := by
      cases hu : upP v l[i] with
      | false =>
        rw [List.filter_cons_of_neg (by simp [hu])]
        refine Ev.step (f := fun k => spec_l05Free.l0 k v q ((i + 1 : Nat) : Int) n l) (fun k => ?_) (hn q (by omega) (by omega))
        simp only [spec_l05Free.j1]; rw [hw]; rfl
      | true =>
        rw [List.filter_cons_of_pos (by simp [hu]), freeR]
        by_cases hq : q > 0
        · rw [if_pos hq]
          refine Ev.step (f := fun k => some 0) (fun k => ?_) (Ev.now _)
          simp only [spec_l05Free.j1]; rw [if_pos trivial, if_pos hq]
        · rw [if_neg hq]
          refine Ev.step (f := fun k => spec_l05Free.l0 k v l[i] ((i + 1 : Nat) : Int) n l) (fun k => ?_) (hn l[i] (by omega) (by omega))
          simp only [spec_l05Free.j1]; rw [if_pos trivial, if_neg hq, if_pos (by omega), if_pos (by omega), rd_at hi', hw]
    refine Ev.step (f := fun k => spec_l05Free.j1 k v q i (upP v l[i]) n l) (fun k => ?_) h0
    simp only [spec_l05Free.l0]
    rw [if_pos (by omega), if_pos (by omega), rd_at hi']
    unfold upP
    by_cases hc : Go.bits .and .i64 l[i] v = v
    · rw [if_pos hc, hc]; first | rfl | simp
    · rw [if_neg hc, show (Go.bits .and .i64 l[i] v == v) = false from beq_eq_false_iff_ne.2 hc]; rfl
theorem ev_free {n v : Int} {l : List Int} (h : isC n l = true) (hv : v ∈ l) : Ev (fun k => spec_l05Free.f k n l v) (freeR 0 (aroundL l v)) := by
  have := free_loop n v l (isC_len h) _ 0 0 rfl (Nat.zero_le _)
  rw [List.drop_zero, ← around_up h hv] at this
  exact this
theorem freeR_one {M : List Int} (hp : ∀ x ∈ M, 0 < x) : freeR 0 M = if (M.length : Int) = 1 then M[0]?.getD 0 else 0 := by
  match M, hp with
  | [], _ => rfl
  | [y], _ => rfl
  | y :: z :: r, hp =>
    have := hp y (by simp)
    simp only [freeR, List.length_cons]
    rw [if_neg (by omega), if_pos this, if_neg (by omega)]
theorem around_pos {n v : Int} {l : List Int} (h : isC n l = true) : ∀ x ∈ aroundL l v, 0 < x := fun x hx => by
  have := isC_range h x (List.mem_filter.1 hx).1
  omega

end Go.Proofs.Ytdkoioiiacljeaa.Pu
