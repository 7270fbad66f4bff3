/- FnExactIsNormal: both turn each motion of the second group by each of the first; the products are the same since the numbers are small; the arguments stay. -/
import Derived.Test.YtcchmdodifkloaaAid
import Derived.Test.YtcchmdodifkloaaLAABasic
import Derived.Test.YtcchmdodifkloaaLANMotions
import Derived.Test.YtcchmdodifkloaaLAWIsgroup
import Derived.Test.YtcchmdodifkloaaLAZdIsnormal
import Derived.Test.YtcchmdodifkloaaPAx22
import Derived.Test.YtcchmdodifkloaaPAx23
import Derived.Test.YtcchmdodifkloaaPAx24
namespace Go.Proofs.Ytcchmdodifkloaa.Pure
open Go.RowKit Go.Proofs.Ytcchmdodifkloaa.PA Go.Proofs.YtcchmdodifkloaaW.PrintWords Go.Proofs.YtcchmdodifkloaaW.PrintLast Go.Proofs.Ytcchmdodifkloaa.Aid
open Go.Proofs.Ytcchmdodifkloaa.LA
set_option linter.unusedVariables false
set_option linter.unusedSimpArgs false

theorem FnExactIsNormal : laws_FnExactIsNormal.Pure := by
  intro fr a b c l m _ _ _ _ hl _ hm _
  by_cases hb : (1048576 : Int) < l.length
  · refine ⟨1, ?_⟩
    unfold laws_FnExactIsNormal.f
    rw [szMotionS_eq l _ (by omega) (by omega) hl]
    simp [hb]
  · have hl' : (l.length : Int) ≤ 1048576 := by omega
    have hno : ¬ (1048576 - (l.length : Int)) < 0 := by omega
    by_cases hb2 : (1048576 - (l.length : Int)) < m.length
    · refine ⟨1, ?_⟩
      unfold laws_FnExactIsNormal.f
      rw [szMotionS_eq l _ (by omega) (by omega) hl, if_neg hb, Option.bind_some, if_neg hno, szMotionS_eq m _ (by omega) (by omega) hm, if_pos hb2]
      simp
    · have hm' : (m.length : Int) ≤ 1048576 := by omega
      have hlx : ((l.map cvMo).length : Int) ≤ 1048576 := by rw [List.length_map]; exact hl'
      have hmx : ((m.map cvMo).length : Int) ≤ 1048576 := by rw [List.length_map]; exact hm'
      obtain ⟨⟨r, e⟩, ⟨K1, r1⟩, ⟨K2, r2⟩⟩ := both_IsNormal fr a b c (l.map cvMo) (m.map cvMo) hlx hmx
      obtain ⟨n, hn⟩ : ∃ n : Nat, n = 1048580 + K1 + K2 := ⟨_, rfl⟩
      refine ⟨n + 1, ?_⟩
      have s1 : spec_IsNormal.f (n + 1) fr a b c (l.map cvMo) (m.map cvMo) = some (r, e) := r1 (n + 1) (by omega)
      have s2 : impl_IsNormal.f (n + 1) fr a b c (l.map cvMo) (m.map cvMo) = some (r, e) := r2 (n + 1) (by omega)
      have t1 := toMotionS_eq l hl' (k := n + 1) (by omega)
      have t2 := toMotionS_eq m hm' (k := n + 1) (by omega)
      have t3 := toMotionS_eq l hl' (k := n) (by omega)
      have t4 := toMotionS_eq m hm' (k := n) (by omega)
      have e1 := eqMotionS_refl (l.map cvMo) hlx (k := n) (by omega)
      have e2 := eqMotionS_refl (m.map cvMo) hmx (k := n) (by omega)
      have hno2 : ¬ (1048576 - (l.length : Int) - m.length) < 0 := by omega
      unfold laws_FnExactIsNormal.f
      rw [szMotionS_eq l _ (by omega) (by omega) hl, if_neg hb, Option.bind_some, if_neg hno, szMotionS_eq m _ (by omega) (by omega) hm, if_neg hb2, Option.bind_some, if_neg hno2]
      simp only [Option.bind_some, toLattice_eq, t1, t2, t3, t4, s1, s2, e1, e2, laws_FnExactIsNormal.j0, bne_self_eq_false, Bool.false_eq_true, if_false, if_true]

end Go.Proofs.Ytcchmdodifkloaa.Pure
