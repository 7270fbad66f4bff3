import Derived.Test.YtdodghjnlekgeaaGreatAid
import Derived.Test.YtdodghjnlekgeaaGreatPAx0
import Derived.Test.YtdodghjnlekgeaaGreatLAABasic
import Derived.Test.YtdodghjnlekgeaaGreatPAx0
import Derived.Test.YtdodghjnlekgeaaGreatPAx13
import Derived.Test.YtdodghjnlekgeaaGreatPAx14
namespace Go.Proofs.YtdodghjnlekgeaaGreat.LA
open Go.RowKit Go.Proofs.YtdodghjnlekgeaaGreat.PA Go.Proofs.YtdodghjnlekgeaaGreatW.PrintWords Go.Proofs.YtdodghjnlekgeaaGreatW.PrintLast Go.Proofs.YtdodghjnlekgeaaGreat.Aid
set_option linter.unusedVariables false
set_option linter.unusedSimpArgs false
theorem mo_idx (l : List S48) (hl : (l.length : Int) ≤ 1048576) (x : S48) (d : Nat) : ∀ (i k : Nat), i ≤ l.length → l.length - i = d → d < k → ∃ r, impl_Motion_86.l0 k l (l.length : Int) (i : Int) x.f0.f0 x.f0.f1 x.f0.f2 x.f0.f3 x.f1.f0 x.f1.f1 = some r ∧ decide (r ≥ 0) = (l.drop i).any fun z => mapMo.eqB z x := by
  induction d with
  | zero =>
    intro i k hi hd hk
    obtain ⟨k, rfl⟩ : ∃ j, k = j + 1 := ⟨k - 1, by omega⟩
    refine ⟨-1, ?_, ?_⟩
    · simp only [impl_Motion_86.l0]; rw [if_neg (by omega)]
    · rw [List.drop_eq_nil_of_le (by omega)]; rfl
  | succ d ih =>
    intro i k hi hd hk
    obtain ⟨k, rfl⟩ : ∃ j, k = j + 1 := ⟨k - 1, by omega⟩
    have h1 : i < l.length := by omega
    have hr : rd_T48 l (i : Int) = l[i] := by unfold rd_T48; rw [Int.toNat_natCast]; simp [List.getD, h1]
    have hw : wrap64 ((i : Int) + 1) = ((i + 1 : Nat) : Int) := by rw [w64s (by omega) (by omega)]; omega
    rw [List.drop_eq_getElem_cons h1, List.any_cons]
    simp only [impl_Motion_86.l0]
    rw [if_pos (by omega), if_pos (by omega), if_pos (by omega), hr]
    by_cases e : l[i] = x
    · rw [(mapMo.eqB_iff l[i] x).2 e]
      exact ⟨i, if_pos (by rw [e]; simp), by simp⟩
    · have e' : mapMo.eqB l[i] x = false := Bool.eq_false_iff.2 (fun g => e ((mapMo.eqB_iff l[i] x).1 g))
      obtain ⟨r, r1, r2⟩ := ih (i + 1) k (by omega) (by omega) (by omega)
      refine ⟨r, ?_, by rw [r2, e']; rfl⟩
      rw [hw]
      refine (if_neg (fun g => e ?_)).trans r1
      obtain ⟨⟨a0, a1, a2, a3⟩, ⟨a4, a5⟩⟩ := x
      generalize l[i] = y at g ⊢
      obtain ⟨⟨b0, b1, b2, b3⟩, ⟨b4, b5⟩⟩ := y
      simp only [Bool.and_eq_true, beq_iff_eq] at g
      obtain ⟨⟨h0, h1, h2, h3⟩, h4, h5⟩ := g
      subst h0 h1 h2 h3 h4 h5
      rfl
theorem mo_contains (l : List S48) (hl : (l.length : Int) ≤ 1048576) (x : S48) {k : Nat} (hk : l.length < k) : impl_Motion_53.f k l x.f0.f0 x.f0.f1 x.f0.f2 x.f0.f3 x.f1.f0 x.f1.f1 = some (l.any fun z => mapMo.eqB z x) := by
  obtain ⟨r, r1, r2⟩ := mo_idx l hl x l.length 0 k (by omega) rfl hk
  unfold impl_Motion_53.f impl_Motion_86.f
  show ((impl_Motion_86.l0 k l (l.length : Int) ((0 : Nat) : Int) x.f0.f0 x.f0.f1 x.f0.f2 x.f0.f3 x.f1.f0 x.f1.f1).bind _) = _
  rw [r1, Option.bind_some, r2, List.drop_zero]
end Go.Proofs.YtdodghjnlekgeaaGreat.LA
