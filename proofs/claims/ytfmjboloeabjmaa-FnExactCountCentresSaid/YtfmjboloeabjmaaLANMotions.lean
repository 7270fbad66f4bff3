/- Plain lemmas on lists of motions: comparing, marking and checking them. -/
import Derived.Test.YtfmjboloeabjmaaAid
import Derived.Test.YtfmjboloeabjmaaPAx0
import Derived.Test.YtfmjboloeabjmaaPAx0
import Derived.Test.YtfmjboloeabjmaaPAx18
namespace Go.Proofs.Ytfmjboloeabjmaa.LA
open Go.RowKit Go.Proofs.Ytfmjboloeabjmaa.PA Go.Proofs.YtfmjboloeabjmaaW.PrintWords Go.Proofs.YtfmjboloeabjmaaW.PrintLast Go.Proofs.Ytfmjboloeabjmaa.Aid
set_option linter.unusedVariables false
set_option linter.unusedSimpArgs false

theorem eqMotionS_loop (l : List S44) (hl : (l.length : Int) ≤ 1048576) (d : Nat) : ∀ (k i : Nat), i ≤ l.length → l.length - i = d → d < k → laws_eqMotionS.l0 k l l i = some true := by
  induction d with
  | zero =>
    intro k i hi hd hk
    obtain ⟨k, rfl⟩ := succ_of_lt hk
    simp only [laws_eqMotionS.l0]
    rw [if_neg (by omega)]
  | succ d ih =>
    intro k i hi hd hk
    obtain ⟨k, rfl⟩ := succ_of_lt hk
    have c1 : (i : Int) < (l.length : Int) := by omega
    have c2 : (0 : Int) ≤ (i : Int) := by omega
    have hw : wrap64 ((i : Int) + 1) = ((i + 1 : Nat) : Int) := by rw [w64s (by omega) (by omega)]; omega
    simp only [laws_eqMotionS.l0, laws_eqMotion.f, laws_eqMat.f, laws_eqVec.f, if_pos c1, if_pos c2, if_true, Option.bind_some, hw]
    exact ih k (i + 1) (by omega) (by omega) (by omega)
theorem eqMotionS_refl (l : List S44) (hl : (l.length : Int) ≤ 1048576) {k : Nat} (hk : l.length < k) : laws_eqMotionS.f k l l = some true := by
  unfold laws_eqMotionS.f
  rw [if_pos rfl]
  exact eqMotionS_loop l hl l.length k 0 (by omega) (by omega) hk
end Go.Proofs.Ytfmjboloeabjmaa.LA
