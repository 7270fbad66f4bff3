/- FnCentred: a vector that a reflection leaves is in the lattice, and a motion that is a reflection, also after shifts, may reflect. -/
import Derived.Test.YtedmadofpdkekaaGreatAid
import Derived.Test.YtedmadofpdkekaaGreatLAYaDraw
import Derived.Test.YtedmadofpdkekaaGreatLAZhaLawcentred
import Derived.Test.YtedmadofpdkekaaGreatPAx19
import Derived.Test.YtedmadofpdkekaaGreatPAx5
namespace Go.Proofs.YtedmadofpdkekaaGreat.Pure
open Go.RowKit Go.Proofs.YtedmadofpdkekaaGreat.PA Go.Proofs.YtedmadofpdkekaaGreatW.PrintWords Go.Proofs.YtedmadofpdkekaaGreatW.PrintLast Go.Proofs.YtedmadofpdkekaaGreat.Aid
open Go.Proofs.YtedmadofpdkekaaGreat.LA
set_option linter.unusedVariables false
set_option linter.unusedSimpArgs false

theorem FnCentred : laws_FnCentred.Pure := by
  intro l _ hw
  by_cases h : (l.length : Int) > 4096
  · refine ⟨0, ?_⟩
    unfold laws_FnCentred.f laws_big.f
    rw [Option.bind_some, if_pos (decide_eq_true h)]
  · obtain ⟨K, hK⟩ := law_centred (byt_of hw (by omega))
    exact ⟨K, hK K (Nat.le_refl _)⟩

end Go.Proofs.YtedmadofpdkekaaGreat.Pure
