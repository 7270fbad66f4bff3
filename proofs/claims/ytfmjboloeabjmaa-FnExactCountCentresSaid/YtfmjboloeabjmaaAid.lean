/- Small plain lemmas on 64-bit wrapping and on rounds, used by the pure statements. -/
import Derived.Test.YtfmjboloeabjmaaWWords
namespace Go.Proofs.Ytfmjboloeabjmaa.Aid
open Go.RowKit Go.Proofs.YtfmjboloeabjmaaW.PrintWords

theorem w64 {x : Int} (h0 : -9223372036854775808 ≤ x) (h1 : x ≤ 9223372036854775807) : wrap64 x = x := by
  unfold wrap64; omega

theorem w64s {x : Int} (h0 : -4611686018427387904 ≤ x) (h1 : x ≤ 4611686018427387904) : wrap64 x = x := by
  unfold wrap64; omega

/-- One round is there. -/
theorem succ_of_lt {d k : Nat} (h : d < k) : ∃ m, k = m + 1 := ⟨k - 1, by omega⟩

end Go.Proofs.Ytfmjboloeabjmaa.Aid
