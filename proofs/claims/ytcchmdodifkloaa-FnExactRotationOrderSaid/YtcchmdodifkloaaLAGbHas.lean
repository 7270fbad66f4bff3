/- Plain lemmas on reducing and on membership in a lattice. -/
import Derived.Test.YtcchmdodifkloaaAid
import Derived.Test.YtcchmdodifkloaaPAx0
import Derived.Test.YtcchmdodifkloaaLAGLattice
import Derived.Test.YtcchmdodifkloaaPAx9
namespace Go.Proofs.Ytcchmdodifkloaa.LA
open Go.RowKit Go.Proofs.Ytcchmdodifkloaa.PA Go.Proofs.YtcchmdodifkloaaW.PrintWords Go.Proofs.YtcchmdodifkloaaW.PrintLast Go.Proofs.Ytcchmdodifkloaa.Aid
set_option linter.unusedVariables false
set_option linter.unusedSimpArgs false

theorem spec_reduce_eq {a b c x y : Int} (h : Mod4 a b c x y) : spec_l03Reduce.f a b c x y = some (red a b c x y) := by
  obtain ⟨h1, h2, h3, h4, h5, h6, h7, h8, h9, h10⟩ := h
  unfold spec_l03Reduce.f red
  rw [spec_mod_eq y h5 (by omega)]
  simp only [Option.bind_some]
  rw [if_neg (by omega), red_mid h3 h4 h5 h6 h7 h8 h9 h10, spec_mod_eq _ h1 (by omega)]; rfl
end Go.Proofs.Ytcchmdodifkloaa.LA
