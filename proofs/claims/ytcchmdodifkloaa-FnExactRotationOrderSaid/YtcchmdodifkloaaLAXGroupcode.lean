/- Plain lemmas on the code of a group. -/
import Derived.Test.YtcchmdodifkloaaAid
import Derived.Test.YtcchmdodifkloaaPAx0
import Derived.Test.YtcchmdodifkloaaLAABasic
import Derived.Test.YtcchmdodifkloaaLAAbCodes
import Derived.Test.YtcchmdodifkloaaLAAdEv
import Derived.Test.YtcchmdodifkloaaLAOHermite
import Derived.Test.YtcchmdodifkloaaLAUOrder
import Derived.Test.YtcchmdodifkloaaLAVGroup
import Derived.Test.YtcchmdodifkloaaLAWIsgroup
import Derived.Test.YtcchmdodifkloaaPAx0
import Derived.Test.YtcchmdodifkloaaPAx10
import Derived.Test.YtcchmdodifkloaaPAx15
import Derived.Test.YtcchmdodifkloaaPAx16
namespace Go.Proofs.Ytcchmdodifkloaa.LA
open Go.RowKit Go.Proofs.Ytcchmdodifkloaa.PA Go.Proofs.YtcchmdodifkloaaW.PrintWords Go.Proofs.YtcchmdodifkloaaW.PrintLast Go.Proofs.Ytcchmdodifkloaa.Aid
set_option linter.unusedVariables false
set_option linter.unusedSimpArgs false

theorem groupCode_both (fr a b c : Int) (xs : List S55) (hl : (xs.length : Int) ≤ 1048576) : ∃ r : Bool, Ev (fun k => spec_IsGroup.f k fr a b c xs) r ∧ Ev (fun k => impl_groupCode.f k fr a b c [xs]) (if FL fr a b c then (if r = true then 0 else 2) else 1) ∧
    (r = true → FL fr a b c ∧ (∀ j (hj : j < xs.length), Good fr a b c xs[j]) ∧ Incr xs ∧ xs.length ≤ 768) := by
  obtain ⟨r, r1, r2, r3, r4⟩ := isGroup_both fr a b c xs hl
  have q := impl_frameCode_eq fr a b c
  have w01 : wrap64 (0 + 1) = 1 := w64s (by omega) (by omega)
  refine ⟨r, r1, ?_, fun e => ⟨Decidable.byContradiction fun h => absurd ((r3 h).symm.trans e) (by decide), r4 e⟩⟩
  by_cases h : FL fr a b c
  · rw [if_pos h] at q
    obtain ⟨K, hK⟩ := r2 h
    refine ⟨K + 2, fun k hk => ?_⟩
    obtain ⟨k, rfl⟩ : ∃ m, k = m + 2 := ⟨k - 2, by omega⟩
    have g : impl_isGroup.f (k + 1) fr a b c xs = some r := hK (k + 1) (by omega)
    show impl_groupCode.f (k + 2) fr a b c [xs] = _
    unfold impl_groupCode.f
    rw [q, Option.bind_some, if_pos rfl, if_pos h]
    simp only [impl_groupCode.l0, List.length_cons, List.length_nil]
    rw [if_pos (by decide), if_pos (by decide), if_pos (by decide)]
    show ((impl_isGroup.f (k + 1) fr a b c xs).bind fun t => _) = _
    rw [g, Option.bind_some, w01]
    rcases r with _ | _
    · rfl
    · simp only [if_true]
      rw [if_neg (by decide)]
  · rw [if_neg h] at q
    refine Ev.all fun k => ?_
    unfold impl_groupCode.f
    rw [q, Option.bind_some, if_neg (by decide), if_neg h]

end Go.Proofs.Ytcchmdodifkloaa.LA
