/- Plain lemmas on two groups: their code, and whether one is in the other. -/
import Derived.Test.YtilbokbfcmeleaaAid
import Derived.Test.YtilbokbfcmeleaaPAx0
import Derived.Test.YtilbokbfcmeleaaLAABasic
import Derived.Test.YtilbokbfcmeleaaLAUOrder
import Derived.Test.YtilbokbfcmeleaaLAVGroup
import Derived.Test.YtilbokbfcmeleaaLAWIsgroup
import Derived.Test.YtilbokbfcmeleaaPAx0
import Derived.Test.YtilbokbfcmeleaaPAx13
import Derived.Test.YtilbokbfcmeleaaPAx14
import Derived.Test.YtilbokbfcmeleaaPAx9
namespace Go.Proofs.Ytilbokbfcmeleaa.LA
open Go.RowKit Go.Proofs.Ytilbokbfcmeleaa.PA Go.Proofs.YtilbokbfcmeleaaW.PrintWords Go.Proofs.YtilbokbfcmeleaaW.PrintLast Go.Proofs.Ytilbokbfcmeleaa.Aid
set_option linter.unusedVariables false
set_option linter.unusedSimpArgs false

/-- The code of two lists. -/
def code2 (r1 r2 : Bool) : Int := if r1 = true then (if r2 = true then 0 else 2) else 2
theorem groupCode2_both (fr a b c : Int) (xs ys : List S48) (hx : (xs.length : Int) ≤ 1048576) (hy : (ys.length : Int) ≤ 1048576) : ∃ r1 r2 : Bool, Ev (fun k => spec_IsGroup.f k fr a b c xs) r1 ∧ Ev (fun k => spec_IsGroup.f k fr a b c ys) r2 ∧
    Ev (fun k => impl_groupCode.f k fr a b c [xs, ys]) (if FL fr a b c then code2 r1 r2 else 1) ∧ (¬ FL fr a b c → r1 = false ∧ r2 = false) ∧
    (r1 = true → (∀ j (hj : j < xs.length), Good fr a b c xs[j]) ∧ Incr xs ∧ xs.length ≤ 768) ∧ (r2 = true → (∀ j (hj : j < ys.length), Good fr a b c ys[j]) ∧ Incr ys ∧ ys.length ≤ 768) := by
  obtain ⟨r1, s1, i1, n1, g1⟩ := isGroup_both fr a b c xs hx
  obtain ⟨r2, s2, i2, n2, g2⟩ := isGroup_both fr a b c ys hy
  refine ⟨r1, r2, s1, s2, ?_, fun h => ⟨n1 h, n2 h⟩, g1, g2⟩
  have q := impl_frameCode_eq fr a b c
  by_cases h : FL fr a b c
  · rw [if_pos h] at q
    obtain ⟨K1, h1⟩ := i1 h
    obtain ⟨K2, h2⟩ := i2 h
    rw [if_pos h]
    refine ⟨K1 + K2 + 3, fun k hk => ?_⟩
    obtain ⟨k, rfl⟩ : ∃ m, k = m + 3 := ⟨k - 3, by omega⟩
    have e1 : impl_isGroup.f (k + 2) fr a b c xs = some r1 := h1 (k + 2) (by omega)
    have e2 : impl_isGroup.f (k + 1) fr a b c ys = some r2 := h2 (k + 1) (by omega)
    show impl_groupCode.f (k + 3) fr a b c [xs, ys] = _
    unfold impl_groupCode.f
    rw [q, Option.bind_some, if_pos rfl]
    have st : ∀ (i : Nat) (k : Nat) (z : List S48) (r : Bool), i < 2 → rd_L9 [xs, ys] (i : Int) = z → impl_isGroup.f k fr a b c z = some r → impl_groupCode.l0 (k + 1) fr [xs, ys] (([xs, ys].length : Nat) : Int) (i : Int) a b c = if r = true then impl_groupCode.l0 k fr [xs, ys] (([xs, ys].length : Nat) : Int) ((i + 1 : Nat) : Int) a b c else some 2 := by
      intro i k z r hi hz hr
      have hlen : (([xs, ys].length : Nat) : Int) = 2 := rfl
      have hw : wrap64 ((i : Int) + 1) = ((i + 1 : Nat) : Int) := by rw [w64s (by omega) (by omega)]; omega
      simp only [impl_groupCode.l0]
      rw [if_pos (by rw [hlen]; omega), if_pos (by omega), if_pos (by rw [hlen]; omega), hz, hr, Option.bind_some, hw]
    have en : ∀ k, impl_groupCode.l0 (k + 1) fr [xs, ys] (([xs, ys].length : Nat) : Int) ((2 : Nat) : Int) a b c = some 0 := by
      intro k
      simp only [impl_groupCode.l0]
      rw [if_neg (by show ¬ ((2 : Nat) : Int) < ((2 : Nat) : Int); omega)]
    have t1 := st 0 (k + 2) xs r1 (by omega) rfl e1
    have t2 := st 1 (k + 1) ys r2 (by omega) rfl e2
    show impl_groupCode.l0 (k + 2 + 1) fr [xs, ys] (([xs, ys].length : Nat) : Int) ((0 : Nat) : Int) a b c = _
    rw [t1]
    unfold code2
    by_cases c1 : r1 = true
    · rw [if_pos c1, if_pos c1]
      show impl_groupCode.l0 (k + 1 + 1) fr [xs, ys] (([xs, ys].length : Nat) : Int) ((1 : Nat) : Int) a b c = _
      rw [t2]
      by_cases c2 : r2 = true
      · rw [if_pos c2, if_pos c2]; exact en k
      · rw [if_neg c2, if_neg c2]
    · rw [if_neg c1, if_neg c1]
  · rw [if_neg h] at q
    rw [if_neg h]
    refine Ev.all fun k => ?_
    unfold impl_groupCode.f
    rw [q, Option.bind_some, if_neg (by decide)]
end Go.Proofs.Ytilbokbfcmeleaa.LA
