import Derived.Test.YtfmjboloeabjmaaGreatAid
import Derived.Test.YtfmjboloeabjmaaGreatPAx0
import Derived.Test.YtfmjboloeabjmaaGreatLASCentred
import Derived.Test.YtfmjboloeabjmaaGreatPAx0
import Derived.Test.YtfmjboloeabjmaaGreatPAx17
import Derived.Test.YtfmjboloeabjmaaGreatPAx18
import Derived.Test.YtfmjboloeabjmaaGreatPAx19
namespace Go.Proofs.YtfmjboloeabjmaaGreat.LA
open Go.RowKit Go.Proofs.YtfmjboloeabjmaaGreat.PA Go.Proofs.YtfmjboloeabjmaaGreatW.PrintWords Go.Proofs.YtfmjboloeabjmaaGreatW.PrintLast Go.Proofs.YtfmjboloeabjmaaGreat.Aid
set_option linter.unusedVariables false
set_option linter.unusedSimpArgs false
theorem impl_cent_ev {a b c m0 m1 m2 m3 : Int} {P Q : Int × Int} (e1 : Ev (fun k => (impl_Mat_axis.f k m0 m1 m2 m3).bind fun t => impl_Lattice_multipleIn.f k a b c t.1 t.2) P) (e2 : Ev (fun k => (impl_Mat_axis.f k (wrap64 (-m0)) (wrap64 (-m1)) (wrap64 (-m2)) (wrap64 (-m3))).bind fun t => impl_Lattice_multipleIn.f k a b c t.1 t.2) Q) : Ev (fun k => impl_Lattice_isCentred.f k a b c m0 m1 m2 m3) (centB a c P Q) := by
  obtain ⟨K1, h1⟩ := e1
  obtain ⟨K2, h2⟩ := e2
  refine ⟨K1 + K2, fun k hk => ?_⟩
  have g1 := h1 k (by omega)
  have g2 := h2 k (by omega)
  dsimp only at g1 g2
  show impl_Lattice_isCentred.f k a b c m0 m1 m2 m3 = _
  unfold impl_Lattice_isCentred.f impl_Mat_negative.f
  rcases hx : impl_Mat_axis.f k m0 m1 m2 m3 with _ | t
  · simp only [hx, Option.bind_none] at g1; cases g1
  rcases hy : impl_Mat_axis.f k (wrap64 (-m0)) (wrap64 (-m1)) (wrap64 (-m2)) (wrap64 (-m3)) with _ | u
  · simp only [hy, Option.bind_none] at g2; cases g2
  simp only [hx, hy, Option.bind_some] at g1 g2 ⊢
  simp only [hy, g1, g2, Option.bind_some]
  rfl
end Go.Proofs.YtfmjboloeabjmaaGreat.LA
