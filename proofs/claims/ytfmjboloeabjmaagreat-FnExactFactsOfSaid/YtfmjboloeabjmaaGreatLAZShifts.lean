import Derived.Test.YtfmjboloeabjmaaGreatAid
import Derived.Test.YtfmjboloeabjmaaGreatPAx0
import Derived.Test.YtfmjboloeabjmaaGreatLAABasic
import Derived.Test.YtfmjboloeabjmaaGreatPAx0
import Derived.Test.YtfmjboloeabjmaaGreatPAx13
import Derived.Test.YtfmjboloeabjmaaGreatPAx17
import Derived.Test.YtfmjboloeabjmaaGreatPAx7
import Derived.Test.YtfmjboloeabjmaaGreatPAx9
namespace Go.Proofs.YtfmjboloeabjmaaGreat.LA
open Go.RowKit Go.Proofs.YtfmjboloeabjmaaGreat.PA Go.Proofs.YtfmjboloeabjmaaGreatW.PrintWords Go.Proofs.YtfmjboloeabjmaaGreatW.PrintLast Go.Proofs.YtfmjboloeabjmaaGreat.Aid
set_option linter.unusedVariables false
set_option linter.unusedSimpArgs false
theorem shifts_loop (xs : List S46) (hl : (xs.length : Int) ≤ 1048576) (d : Nat) : ∀ (i : Nat) (x : List S44), i ≤ xs.length → xs.length - i = d → x.length ≤ i →
    ∃ r : List S44, r.length ≤ xs.length ∧ Ev (fun k => spec_l06Shifts.l0 k xs x i) r ∧ Ev (fun k => impl_shiftsOf.l0 k x xs (xs.length : Int) i) r := by
  induction d with
  | zero =>
    intro i x hi hd hx
    refine ⟨x, by omega, Ev.one (fun k => ?_), Ev.one (fun k => ?_)⟩
    · simp only [spec_l06Shifts.l0]; rw [if_neg (by omega)]
    · simp only [impl_shiftsOf.l0]; rw [if_neg (by omega)]
  | succ d ih =>
    intro i x hi hd hx
    have h1 : i < xs.length := by omega
    have hw : wrap64 ((i : Int) + 1) = ((i + 1 : Nat) : Int) := by rw [w64s (by omega) (by omega)]; omega
    have hc : x.length < 8796093022208 := by omega
    by_cases e : ((rd_T46 xs (i : Int)).f0.f0 == 1 && ((rd_T46 xs (i : Int)).f0.f1 == 0 && ((rd_T46 xs (i : Int)).f0.f2 == 0 && (rd_T46 xs (i : Int)).f0.f3 == 1))) = true
    · obtain ⟨r, hr, r1, r2⟩ := ih (i + 1) (x ++ [⟨(rd_T46 xs (i : Int)).f1.f0, (rd_T46 xs (i : Int)).f1.f1⟩]) (by omega) (by omega) (by simp; omega)
      refine ⟨r, hr, Ev.step (fun k => ?_) r1, Ev.step (fun k => ?_) r2⟩
      · simp only [spec_l06Shifts.l0, spec_l02Unit.f, Option.bind_some]
        rw [if_pos (by omega), if_pos (by omega), if_pos e, if_pos hc, hw]
      · simp only [impl_shiftsOf.l0, impl_unit.f, Option.bind_some]
        rw [if_pos (by omega), if_pos (by omega), if_pos (by omega), if_pos e, if_pos hc, hw]
    · obtain ⟨r, hr, r1, r2⟩ := ih (i + 1) x (by omega) (by omega) (by omega)
      refine ⟨r, hr, Ev.step (fun k => ?_) r1, Ev.step (fun k => ?_) r2⟩
      · simp only [spec_l06Shifts.l0, spec_l02Unit.f, Option.bind_some]
        rw [if_pos (by omega), if_pos (by omega), if_neg e, hw]
      · simp only [impl_shiftsOf.l0, impl_unit.f, Option.bind_some]
        rw [if_pos (by omega), if_pos (by omega), if_pos (by omega), if_neg e, hw]
end Go.Proofs.YtfmjboloeabjmaaGreat.LA
