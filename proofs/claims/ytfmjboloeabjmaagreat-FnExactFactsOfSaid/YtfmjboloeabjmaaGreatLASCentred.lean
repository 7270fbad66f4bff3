import Derived.Test.YtfmjboloeabjmaaGreatAid
import Derived.Test.YtfmjboloeabjmaaGreatPAx0
import Derived.Test.YtfmjboloeabjmaaGreatLAABasic
import Derived.Test.YtfmjboloeabjmaaGreatPAx0
import Derived.Test.YtfmjboloeabjmaaGreatPAx11
namespace Go.Proofs.YtfmjboloeabjmaaGreat.LA
open Go.RowKit Go.Proofs.YtfmjboloeabjmaaGreat.PA Go.Proofs.YtfmjboloeabjmaaGreatW.PrintWords Go.Proofs.YtfmjboloeabjmaaGreatW.PrintLast Go.Proofs.YtfmjboloeabjmaaGreat.Aid
set_option linter.unusedVariables false
set_option linter.unusedSimpArgs false
def centB (a c : Int) (P Q : Int × Int) : Bool := (mx (wrap64 (wrap64 (P.1 * Q.2) - wrap64 (P.2 * Q.1))) (wrap64 (-(wrap64 (wrap64 (P.1 * Q.2) - wrap64 (P.2 * Q.1)))))) != wrap64 (a * c)
theorem spec_cent_ev {a b c m0 m1 m2 m3 : Int} {P Q : Int × Int} (e1 : Ev (fun k => spec_l11Invariant.f k a b c m0 m1 m2 m3 1) P) (e2 : Ev (fun k => spec_l11Invariant.f k a b c m0 m1 m2 m3 (-1)) Q) : Ev (fun k => spec_l11Centred.f k a b c m0 m1 m2 m3) (centB a c P Q) := by
  refine Ev.congr (fun k => ?_) (Ev.bind e1 (f := fun k t => (spec_l11Invariant.f k a b c m0 m1 m2 m3 (-1)).bind fun u => some (centB a c t u)) (Ev.some_ e2 fun u => centB a c P u))
  rfl
end Go.Proofs.YtfmjboloeabjmaaGreat.LA
