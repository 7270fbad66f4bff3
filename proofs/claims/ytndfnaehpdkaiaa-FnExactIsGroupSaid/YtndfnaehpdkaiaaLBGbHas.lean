/- Plain lemmas on reducing and on membership in a lattice. -/
import Derived.Test.YtndfnaehpdkaiaaAid
import Derived.Test.YtndfnaehpdkaiaaPBx0
import Derived.Test.YtndfnaehpdkaiaaLBGLattice
import Derived.Test.YtndfnaehpdkaiaaPBx7
namespace Go.Proofs.Ytndfnaehpdkaiaa.LB
open Go.RowKit Go.Proofs.Ytndfnaehpdkaiaa.PB Go.Proofs.YtndfnaehpdkaiaaW.PrintWords Go.Proofs.YtndfnaehpdkaiaaW.PrintLast Go.Proofs.Ytndfnaehpdkaiaa.Aid
set_option linter.unusedVariables false
set_option linter.unusedSimpArgs false

theorem spec_reduce_eq {a b c x y : Int} (h : Mod4 a b c x y) : spec_l03Reduce.f a b c x y = some (red a b c x y) := by
  obtain ⟨h1, h2, h3, h4, h5, h6, h7, h8, h9, h10⟩ := h
  unfold spec_l03Reduce.f red
  rw [spec_mod_eq y h5 (by omega)]
  simp only [Option.bind_some]
  rw [if_neg (by omega), red_mid h3 h4 h5 h6 h7 h8 h9 h10, spec_mod_eq _ h1 (by omega)]; rfl
end Go.Proofs.Ytndfnaehpdkaiaa.LB
