import Derived.Test.YtedmadofpdkekaaAid
import Derived.Test.YtedmadofpdkekaaLAABasic
import Derived.Test.YtedmadofpdkekaaLAYRotation
import Derived.Test.YtedmadofpdkekaaLAYaDraw
import Derived.Test.YtedmadofpdkekaaLAZShifts
import Derived.Test.YtedmadofpdkekaaLAZaPoint
import Derived.Test.YtedmadofpdkekaaLAZzePoints
import Derived.Test.YtedmadofpdkekaaLAZziGrpdraw
import Derived.Test.YtedmadofpdkekaaPAx0
import Derived.Test.YtedmadofpdkekaaPAx11
import Derived.Test.YtedmadofpdkekaaPAx12
import Derived.Test.YtedmadofpdkekaaPAx15
import Derived.Test.YtedmadofpdkekaaPAx18
import Derived.Test.YtedmadofpdkekaaPAx19
import Derived.Test.YtedmadofpdkekaaPAx5
namespace Go.Proofs.Ytedmadofpdkekaa.Pure
open Go.RowKit Go.Proofs.Ytedmadofpdkekaa.PA Go.Proofs.YtedmadofpdkekaaW.PrintWords Go.Proofs.YtedmadofpdkekaaW.PrintLast Go.Proofs.Ytedmadofpdkekaa.Aid
open Go.Proofs.Ytedmadofpdkekaa.LA
set_option linter.unusedVariables false
set_option linter.unusedSimpArgs false
theorem FnPointParts : laws_FnPointParts.Pure := by
  intro l _ hw
  by_cases h : (l.length : Int) > 4096
  · refine ⟨0, ?_⟩
    unfold laws_FnPointParts.f laws_big.f
    rw [Option.bind_some, if_pos (decide_eq_true h)]
  have hb := byt_of hw (by omega)
  obtain ⟨s, e0, g0⟩ := from_ev hb
  obtain ⟨fr, a, b, c, xs, p1, s1, ⟨K1, e1⟩, g1, hx⟩ := gdraw_some hb g0
  have e1 : ∀ k, K1 ≤ k → spec_l06Draw.f k l 0 s = some (fr, a, b, c, xs, p1, s1) := e1
  have hx : (xs.length : Int) ≤ 769 := by omega
  have d1 : ∀ k, K1 + 65 ≤ k → spec_DrawPointPart.f k l = some (fr, a, b, c, xs) := fun k hk => by
    unfold spec_DrawPointPart.f
    rw [e0 k (by omega), Option.bind_some]; dsimp only
    rw [e1 k (by omega), Option.bind_some]
  have hbig : laws_big.f l = some false := by
    unfold laws_big.f
    congr 1; exact decide_eq_false h
  obtain ⟨⟨p, e⟩, lp, pS, ⟨K3, pI⟩⟩ := both_PointPart fr a b c xs (by omega)
  obtain ⟨⟨v, e2⟩, lv, vS, ⟨K5, vI⟩⟩ := both_ShiftsOf fr a b c xs (by omega)
  obtain ⟨⟨n, e3⟩, ⟨K6, nS⟩, ⟨K7, nI⟩⟩ := both_RotationOrder fr a b c xs (by omega)
  obtain ⟨p', e', v', e2', q1, q2, q3⟩ := points_count fr a b c xs (by omega)
  have u1 : (p, e) = (p', e') := Ev.unique pS q1
  have u2 : (v, e2) = (v', e2') := Ev.unique vS q2
  injection u1 with u1 u1'
  injection u2 with u2 u2'
  subst u1 u1' u2 u2'
  obtain ⟨K2, pS⟩ := pS
  obtain ⟨K4, vS⟩ := vS
  have lp : (p.length : Int) ≤ 1048576 := lp
  have lv : (v.length : Int) ≤ 1048576 := lv
  obtain ⟨K8, m1⟩ := likeMats9_eq p lp
  obtain ⟨K9, m2⟩ := likeVecs9_eq v lv
  refine ⟨K1 + K2 + K3 + K4 + K5 + K6 + K7 + K8 + K9 + 65, ?_⟩
  generalize hk : K1 + K2 + K3 + K4 + K5 + K6 + K7 + K8 + K9 + 65 = k
  have r1 : impl_PointPart.f k fr a b c xs = some (p, e) := pI k (by omega)
  have r2 : spec_PointPart.f k fr a b c xs = some (p, e) := pS k (by omega)
  have r3 : impl_ShiftsOf.f k fr a b c xs = some (v, e2) := vI k (by omega)
  have r4 : spec_ShiftsOf.f k fr a b c xs = some (v, e2) := vS k (by omega)
  have r5 : impl_RotationOrder.f k fr a b c xs = some (n, e3) := nI k (by omega)
  have r6 : spec_RotationOrder.f k fr a b c xs = some (n, e3) := nS k (by omega)
  have r7 : laws_likeMats9.f k p p = some true := m1 k (by omega)
  have r8 : laws_likeVecs9.f k v v = some true := m2 k (by omega)
  unfold laws_FnPointParts.f
  rw [hbig, Option.bind_some, if_neg (by decide), d1 k (by omega), Option.bind_some]; dsimp only
  rw [r1, Option.bind_some, r2, Option.bind_some, r3, Option.bind_some, r4, Option.bind_some, r5, Option.bind_some, r6, Option.bind_some]; dsimp only
  rw [if_pos rfl, r7, Option.bind_some, if_pos rfl, if_pos rfl, r8, Option.bind_some, if_pos rfl, if_pos rfl, if_pos rfl]
  by_cases he : e = 0
  · obtain ⟨h1, h2⟩ := q3 he
    rw [if_pos he, if_pos h1]
    congr 1
    have h3 : (p.length : Int) * (v.length : Int) = (xs.length : Int) := by rw [← h2]; exact (Int.natCast_mul ..).symm
    rw [h3, w64s (by omega) (by omega), beq_self_eq_true]
  · rw [if_neg he]
end Go.Proofs.Ytedmadofpdkekaa.Pure
