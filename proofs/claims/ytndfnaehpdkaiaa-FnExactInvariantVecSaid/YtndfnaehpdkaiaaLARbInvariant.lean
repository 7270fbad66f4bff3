/- InvariantVec: both sides. -/
import Derived.Test.YtndfnaehpdkaiaaAid
import Derived.Test.YtndfnaehpdkaiaaPAx0
import Derived.Test.YtndfnaehpdkaiaaLAABasic
import Derived.Test.YtndfnaehpdkaiaaLAAbCodes
import Derived.Test.YtndfnaehpdkaiaaLAPPoints
import Derived.Test.YtndfnaehpdkaiaaLARMirror
import Derived.Test.YtndfnaehpdkaiaaLARaMirrorcode
import Derived.Test.YtndfnaehpdkaiaaLARabMultiple
import Derived.Test.YtndfnaehpdkaiaaPAx19
import Derived.Test.YtndfnaehpdkaiaaPAx20
namespace Go.Proofs.Ytndfnaehpdkaiaa.LA
open Go.RowKit Go.Proofs.Ytndfnaehpdkaiaa.PA Go.Proofs.YtndfnaehpdkaiaaW.PrintWords Go.Proofs.YtndfnaehpdkaiaaW.PrintLast Go.Proofs.Ytndfnaehpdkaiaa.Aid
set_option linter.unusedVariables false
set_option linter.unusedSimpArgs false

theorem both_InvariantVec (fr a b c m0 m1 m2 m3 : Int) : ∃ r, Ev (fun k => spec_InvariantVec.f k fr a b c m0 m1 m2 m3) r ∧ Ev (fun k => impl_InvariantVec.f k fr a b c m0 m1 m2 m3) r := by
  have q1 : ∀ k, 10000000 ≤ k → _ := fun k hk => spec_mirror_eq fr a b c m0 m1 m2 m3 k hk
  have q2 : ∀ k, 10000000 ≤ k → _ := fun k hk => impl_mirrorCode_eq fr a b c m0 m1 m2 m3 k (by omega)
  have q3 := fun i => spec_l06Code_eq fr a b c i
  by_cases h : FL fr a b c
  · by_cases hm : ((m0, m1, m2, m3) ∈ pmL fr ∧ KeepL a b c (m0, m1, m2, m3)) ∧ detM (m0, m1, m2, m3) = -1
    · obtain ⟨p, n, hp, hn, ⟨K1, e1⟩, _⟩ := inv_ev h hm.1.1 hm.2
      obtain ⟨⟨K2, e2⟩, _⟩ := inv_impl h hm.1.1 hm.2 hp hn
      refine ⟨(p * (axP (m0, m1, m2, m3)).1, p * (axP (m0, m1, m2, m3)).2, 0), ⟨K1 + 10000000, fun k hk => ?_⟩, ⟨K2 + 10000000, fun k hk => ?_⟩⟩
      · have g := e1 k (by omega)
        dsimp only at g
        show spec_InvariantVec.f k fr a b c m0 m1 m2 m3 = _
        unfold spec_InvariantVec.f
        rw [q1 k (by omega), Option.bind_some, q3, if_pos h, if_pos (by simp [h, hm]), Option.bind_some, if_pos rfl, g]; rfl
      · have g := e2 k (by omega)
        dsimp only at g
        show impl_InvariantVec.f k fr a b c m0 m1 m2 m3 = _
        unfold impl_InvariantVec.f
        rw [q2 k (by omega), if_pos h, if_pos hm, Option.bind_some, if_pos rfl]
        rcases hx : impl_Mat_axis.f k m0 m1 m2 m3 with _ | t
        · simp only [hx, Option.bind_none] at g; cases g
        · simp only [hx, Option.bind_some] at g ⊢
          rw [g]; rfl
    · refine ⟨(0, 0, 2), ⟨10000000, fun k hk => ?_⟩, ⟨10000000, fun k hk => ?_⟩⟩
      · show spec_InvariantVec.f k fr a b c m0 m1 m2 m3 = _
        unfold spec_InvariantVec.f
        rw [q1 k (by omega), Option.bind_some, q3, if_pos h, if_neg (by simp only [decide_eq_true_iff]; exact fun x => hm x.2), Option.bind_some, if_neg (by decide)]
      · show impl_InvariantVec.f k fr a b c m0 m1 m2 m3 = _
        unfold impl_InvariantVec.f
        rw [q2 k (by omega), if_pos h, if_neg hm, Option.bind_some, if_neg (by decide)]
  · refine ⟨(0, 0, 1), ⟨10000000, fun k hk => ?_⟩, ⟨10000000, fun k hk => ?_⟩⟩
    · show spec_InvariantVec.f k fr a b c m0 m1 m2 m3 = _
      unfold spec_InvariantVec.f
      rw [q1 k (by omega), Option.bind_some, q3, if_neg h, Option.bind_some, if_neg (by decide)]
    · show impl_InvariantVec.f k fr a b c m0 m1 m2 m3 = _
      unfold impl_InvariantVec.f
      rw [q2 k (by omega), if_neg h, Option.bind_some, if_neg (by decide)]

end Go.Proofs.Ytndfnaehpdkaiaa.LA
