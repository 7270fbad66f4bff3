/- FnExactPointOrder: the program and the reference look the name up in the same list and read the same number. -/
import Derived.Test.YtoippagiaibmmaaAid
import Derived.Test.YtoippagiaibmmaaLANames
import Derived.Test.YtoippagiaibmmaaPAx1
namespace Go.Proofs.Ytoippagiaibmmaa.Pure
open Go.RowKit Go.Proofs.Ytoippagiaibmmaa.PA Go.Proofs.YtoippagiaibmmaaW.PrintWords Go.Proofs.YtoippagiaibmmaaW.PrintLast Go.Proofs.Ytoippagiaibmmaa.Aid
open Go.Proofs.Ytoippagiaibmmaa.LA
set_option linter.unusedVariables false
set_option linter.unusedSimpArgs false

theorem FnExactPointOrder : laws_FnExactPointOrder.Pure := by
  intro a _
  refine ⟨20, ?_⟩
  unfold laws_FnExactPointOrder.f
  by_cases hb : (a.size : Int) > 1048576
  · rw [if_pos hb]
  · rw [if_neg hb]
    unfold impl_PointOrder.f spec_PointOrder.f slices_Index_string_string.f spec_l12Index.f
    simp only [impl_GroupNames.f, spec_GroupNames.f, Option.bind_some]
    rw [index_alike]
    generalize hl : ([_, _, _, _, _, _, _, _, _, _, _, _, _, _, _, _, _] : List ByteArray) = l
    have hn : l.length = 17 := by rw [← hl]; rfl
    obtain ⟨r, hr, hb⟩ := index_some l a (by omega) 17 20 0 (by omega) (by omega) (by omega) (by omega)
    rw [hr]
    simp only [Option.bind_some]
    by_cases h : r < 0
    · simp [h]
    · have h0 : 0 ≤ r := by omega
      have h1 : r < 17 := by omega
      simp [h, h0, h1, impl_PointOrder.orders]

end Go.Proofs.Ytoippagiaibmmaa.Pure
