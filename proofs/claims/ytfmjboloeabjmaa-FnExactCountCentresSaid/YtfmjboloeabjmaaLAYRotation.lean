/- Plain lemmas on the greatest order of a rotation of a group. -/
import Derived.Test.YtfmjboloeabjmaaAid
import Derived.Test.YtfmjboloeabjmaaPAx0
import Derived.Test.YtfmjboloeabjmaaLAABasic
import Derived.Test.YtfmjboloeabjmaaLAPPoints
import Derived.Test.YtfmjboloeabjmaaLAVGroup
import Derived.Test.YtfmjboloeabjmaaPAx0
import Derived.Test.YtfmjboloeabjmaaPAx16
import Derived.Test.YtfmjboloeabjmaaPAx5
import Derived.Test.YtfmjboloeabjmaaPAx9
namespace Go.Proofs.Ytfmjboloeabjmaa.LA
open Go.RowKit Go.Proofs.Ytfmjboloeabjmaa.PA Go.Proofs.YtfmjboloeabjmaaW.PrintWords Go.Proofs.YtfmjboloeabjmaaW.PrintLast Go.Proofs.Ytfmjboloeabjmaa.Aid
set_option linter.unusedVariables false
set_option linter.unusedSimpArgs false

def ordM (m : Int × Int × Int × Int) : Int := (spec_l02Order.f 40 m.1 m.2.1 m.2.2.1 m.2.2.2).getD 0
theorem pm_ord0 (k : Nat) : ∀ m ∈ pmL 0, spec_l02Order.f (k + 40) m.1 m.2.1 m.2.2.1 m.2.2.2 = some (ordM m) ∧ impl_Mat_order.f (k + 40) m.1 m.2.1 m.2.2.1 m.2.2.2 = some (ordM m) := by
  intro m hm
  simp only [pmL, if_true, List.mem_cons, List.not_mem_nil, or_false] at hm
  rcases hm with rfl | rfl | rfl | rfl | rfl | rfl | rfl | rfl <;> exact ⟨by kernel_rfl, by kernel_rfl⟩
theorem pm_ord1 (k : Nat) : ∀ m ∈ pmL 1, spec_l02Order.f (k + 40) m.1 m.2.1 m.2.2.1 m.2.2.2 = some (ordM m) ∧ impl_Mat_order.f (k + 40) m.1 m.2.1 m.2.2.1 m.2.2.2 = some (ordM m) := by
  intro m hm
  simp only [pmL, show ¬ (1 : Int) = 0 by decide, if_false, List.mem_cons, List.not_mem_nil, or_false] at hm
  rcases hm with rfl | rfl | rfl | rfl | rfl | rfl | rfl | rfl | rfl | rfl | rfl | rfl <;> exact ⟨by kernel_rfl, by kernel_rfl⟩
theorem pm_ord {fr : Int} (hf : 0 ≤ fr ∧ fr ≤ 1) {m0 m1 m2 m3 : Int} (h : (m0, m1, m2, m3) ∈ pmL fr) (k : Nat) (hk : 40 ≤ k) : spec_l02Order.f k m0 m1 m2 m3 = some (ordM (m0, m1, m2, m3)) ∧ impl_Mat_order.f k m0 m1 m2 m3 = some (ordM (m0, m1, m2, m3)) := by
  obtain ⟨j, rfl⟩ : ∃ j, k = j + 40 := ⟨k - 40, by omega⟩
  rcases fr01 hf with rfl | rfl
  · exact pm_ord0 j _ h
  · exact pm_ord1 j _ h
theorem det_both {fr a b c : Int} (h : FL fr a b c) {m : S44} (g : Good fr a b c m) : spec_l02Det.f m.f0.f0 m.f0.f1 m.f0.f2 m.f0.f3 = some (m.f0.f0 * m.f0.f3 - m.f0.f1 * m.f0.f2) ∧ impl_Mat_det.f m.f0.f0 m.f0.f1 m.f0.f2 m.f0.f3 = some (m.f0.f0 * m.f0.f3 - m.f0.f1 * m.f0.f2) := by
  have hi := ((mem_pm h.1).1 g.1.1).1.1
  constructor
  · unfold spec_l02Det.f; rw [det_w hi]
  · unfold impl_Mat_det.f; rw [det_w hi]
end Go.Proofs.Ytfmjboloeabjmaa.LA
