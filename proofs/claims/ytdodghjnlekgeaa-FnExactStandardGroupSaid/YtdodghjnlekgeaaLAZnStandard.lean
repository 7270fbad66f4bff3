/- Plain lemmas on StandardGroup: the seventeen names. -/
import Derived.Test.YtdodghjnlekgeaaAid
import Derived.Test.YtdodghjnlekgeaaPAx0
import Derived.Test.YtdodghjnlekgeaaLAABasic
import Derived.Test.YtdodghjnlekgeaaLAVGroup
import Derived.Test.YtdodghjnlekgeaaLAZiClose
import Derived.Test.YtdodghjnlekgeaaPAx0
import Derived.Test.YtdodghjnlekgeaaPAx10
import Derived.Test.YtdodghjnlekgeaaPAx11
import Derived.Test.YtdodghjnlekgeaaPAx3
import Derived.Test.YtdodghjnlekgeaaPAx6
import Derived.Test.YtdodghjnlekgeaaPAx7
import Derived.Test.YtdodghjnlekgeaaPAx8
namespace Go.Proofs.Ytdodghjnlekgeaa.LA
open Go.RowKit Go.Proofs.Ytdodghjnlekgeaa.PA Go.Proofs.YtdodghjnlekgeaaW.PrintWords Go.Proofs.YtdodghjnlekgeaaW.PrintLast Go.Proofs.Ytdodghjnlekgeaa.Aid
set_option linter.unusedVariables false
set_option linter.unusedSimpArgs false

def StdOk (n : Int) (r : Int × List S41 × Bool) : Prop := r.2.2 = true → FL r.1 (2 * n) 0 (2 * n) ∧ (r.2.1.length : Int) ≤ 2 ∧ ∀ x ∈ r.2.1, Good r.1 (2 * n) 0 (2 * n) x
instance (n : Int) (r : Int × List S41 × Bool) : Decidable (StdOk n r) := by unfold StdOk; infer_instance
theorem std_ite {P : Int × List S41 × Bool → Prop} {c : Prop} [Decidable c] {x : Int × List S41 × Bool} {e : Option (Int × List S41 × Bool)} (hx : P x) (he : ∃ r, e = some r ∧ P r) : ∃ r, (if c then some x else e) = some r ∧ P r := by
  by_cases h : c
  · rw [if_pos h]; exact ⟨x, rfl, hx⟩
  · rw [if_neg h]; exact he
theorem std_some (a : ByteArray) (n : Int) : ∃ r, impl_standardMotions.f a n = some r ∧ True := by
  unfold impl_standardMotions.f
  repeat' (refine std_ite trivial ?_)
  exact ⟨_, rfl, trivial⟩
theorem std_ok (a : ByteArray) {n : Int} (h : 1 ≤ n ∧ n ≤ 4) : ∃ r, impl_standardMotions.f a n = some r ∧ StdOk n r := by
  have : n = 1 ∨ n = 2 ∨ n = 3 ∨ n = 4 := by omega
  unfold impl_standardMotions.f
  rcases this with rfl | rfl | rfl | rfl
  all_goals
    repeat' (refine std_ite (by decide +kernel) ?_)
    exact ⟨_, rfl, by decide +kernel⟩
theorem std_same (a : ByteArray) (n : Int) : spec_l13Motions.f a n = impl_standardMotions.f a n := rfl
theorem both_StandardGroup (a : ByteArray) (n : Int) : ∃ r : Int × Int × Int × Int × List S41 × Int, (r.2.2.2.2.1.length : Int) ≤ 1048576 ∧ Ev (fun k => spec_StandardGroup.f k a n) r ∧ Ev (fun k => impl_StandardGroup.f k a n) r := by
  have nil0 : ((([] : List S41).length : Nat) : Int) ≤ 1048576 := by decide
  by_cases h : 1 ≤ n ∧ n ≤ 4
  · obtain ⟨⟨fr, xs, b⟩, e, ok⟩ := std_ok a h
    cases b with
    | false =>
      refine ⟨(0, 0, 0, 0, [], 4), nil0, Ev.all fun k => ?_, Ev.all fun k => ?_⟩
      · show spec_StandardGroup.f k a n = _
        unfold spec_StandardGroup.f
        rw [std_same, e, Option.bind_some, if_neg Bool.false_ne_true]
      · show impl_StandardGroup.f k a n = _
        unfold impl_StandardGroup.f
        rw [e, Option.bind_some, if_neg Bool.false_ne_true]
    | true =>
      obtain ⟨hf, hl, hg⟩ := ok rfl
      have hl : (xs.length : Int) ≤ 2 := hl
      obtain ⟨o, ⟨K1, o1⟩, ⟨K2, o2⟩, o3⟩ := close_both hf xs xs (by omega) rfl (fun j hj => alike_self hf (hg _ (List.getElem_mem hj)))
      have o1 : ∀ k, K1 ≤ k → spec_l06Close.f k (2 * n) 0 (2 * n) xs = some o := o1
      have o2 : ∀ k, K2 ≤ k → impl_closeGroup.f k (2 * n) 0 (2 * n) xs = some o := o2
      have := o3.len
      have hw : wrap64 (2 * n) = 2 * n := w64s (by omega) (by omega)
      refine ⟨(fr, 2 * n, 0, 2 * n, o, 0), by show (o.length : Int) ≤ 1048576; omega, ⟨K1, fun k hk => ?_⟩, ⟨K2, fun k hk => ?_⟩⟩
      · show spec_StandardGroup.f k a n = _
        unfold spec_StandardGroup.f
        rw [std_same, e, Option.bind_some, if_pos rfl, l01In_eq, Option.bind_some, if_pos (decide_eq_true h), hw, o1 k hk, Option.bind_some]
      · show impl_StandardGroup.f k a n = _
        unfold impl_StandardGroup.f
        rw [e, Option.bind_some, if_pos rfl, within_eq, Option.bind_some, if_pos (decide_eq_true h), hw, o2 k hk, Option.bind_some]
  · obtain ⟨⟨fr, xs, b⟩, e, -⟩ := std_some a n
    cases b with
    | false =>
      refine ⟨(0, 0, 0, 0, [], 4), nil0, Ev.all fun k => ?_, Ev.all fun k => ?_⟩
      · show spec_StandardGroup.f k a n = _
        unfold spec_StandardGroup.f
        rw [std_same, e, Option.bind_some, if_neg Bool.false_ne_true]
      · show impl_StandardGroup.f k a n = _
        unfold impl_StandardGroup.f
        rw [e, Option.bind_some, if_neg Bool.false_ne_true]
    | true =>
      refine ⟨(0, 0, 0, 0, [], 2), nil0, Ev.all fun k => ?_, Ev.all fun k => ?_⟩
      · show spec_StandardGroup.f k a n = _
        unfold spec_StandardGroup.f
        rw [std_same, e, Option.bind_some, if_pos rfl, l01In_eq, Option.bind_some, if_neg (by rw [decide_eq_true_eq]; exact h)]
      · show impl_StandardGroup.f k a n = _
        unfold impl_StandardGroup.f
        rw [e, Option.bind_some, if_pos rfl, within_eq, Option.bind_some, if_neg (by rw [decide_eq_true_eq]; exact h)]

end Go.Proofs.Ytdodghjnlekgeaa.LA
