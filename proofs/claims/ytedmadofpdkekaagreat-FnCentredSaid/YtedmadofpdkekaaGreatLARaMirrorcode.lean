/- Plain lemmas on the codes of reflections. -/
import Derived.Test.YtedmadofpdkekaaGreatAid
import Derived.Test.YtedmadofpdkekaaGreatPAx0
import Derived.Test.YtedmadofpdkekaaGreatLAABasic
import Derived.Test.YtedmadofpdkekaaGreatLAPPoints
import Derived.Test.YtedmadofpdkekaaGreatLAPbSuit
import Derived.Test.YtedmadofpdkekaaGreatLARMirror
import Derived.Test.YtedmadofpdkekaaGreatPAx11
import Derived.Test.YtedmadofpdkekaaGreatPAx13
import Derived.Test.YtedmadofpdkekaaGreatPAx5
namespace Go.Proofs.YtedmadofpdkekaaGreat.LA
open Go.RowKit Go.Proofs.YtedmadofpdkekaaGreat.PA Go.Proofs.YtedmadofpdkekaaGreatW.PrintWords Go.Proofs.YtedmadofpdkekaaGreatW.PrintLast Go.Proofs.YtedmadofpdkekaaGreat.Aid
set_option linter.unusedVariables false
set_option linter.unusedSimpArgs false

theorem impl_mirrorCode_eq (fr a b c m0 m1 m2 m3 : Int) (k : Nat) (hk : 100 ≤ k) : impl_mirrorCode.f k fr a b c m0 m1 m2 m3 = some (if FL fr a b c then (if ((m0, m1, m2, m3) ∈ pmL fr ∧ KeepL a b c (m0, m1, m2, m3)) ∧ detM (m0, m1, m2, m3) = -1 then 0 else 2) else 1) := by
  unfold impl_mirrorCode.f
  rw [impl_frameCode_eq, Option.bind_some]
  by_cases h : FL fr a b c
  · have hn := lm_len fr a b c
    rw [if_pos h, if_pos rfl, if_pos h, latticeMats_eq h k hk, Option.bind_some, containsM _ _ _ _ _ (by rw [List.length_map]; omega) k (by rw [List.length_map]; omega), Option.bind_some, tup_mk]
    by_cases hm : (m0, m1, m2, m3) ∈ lmL fr a b c
    · rw [if_pos (by simp [hm])]
      have hm' := mem_lm.1 hm
      rw [pm_refl h.1 hm'.1 k (by omega), Option.bind_some]
      by_cases hd : detM (m0, m1, m2, m3) = -1
      · rw [if_pos (by simp [hd]), if_pos ⟨hm', hd⟩]
      · rw [if_neg (by simp [hd]), if_neg (fun x => hd x.2)]
    · rw [if_neg (by simp [hm]), if_neg (fun x => hm (mem_lm.2 x.1))]
  · rw [if_neg h, if_neg (by decide), if_neg h]
theorem spec_mirror_eq (fr a b c m0 m1 m2 m3 : Int) (k : Nat) (hk : 10000000 ≤ k) : spec_l11Mirror.f k fr a b c m0 m1 m2 m3 = some (decide (FL fr a b c ∧ ((m0, m1, m2, m3) ∈ pmL fr ∧ KeepL a b c (m0, m1, m2, m3)) ∧ detM (m0, m1, m2, m3) = -1)) := by
  unfold spec_l11Mirror.f
  rw [spec_IsSuitable_eq _ _ _ _ _ _ _ _ _ _ k hk, Option.bind_some]
  have hv : IsV 0 0 := by decide
  by_cases h : FL fr a b c ∧ Suit fr a b c m0 m1 m2 m3 0 0
  · rw [if_pos (by simp [h])]
    have hm := ((mem_pm h.1.1).1 h.2.1.1).1.1
    unfold spec_l02Det.f
    rw [det_w hm, Option.bind_some]
    congr 1
    rw [Bool.eq_iff_iff, beq_iff_eq, decide_eq_true_iff]
    exact ⟨fun x => ⟨h.1, h.2.1, x⟩, fun x => x.2.2⟩
  · rw [if_neg (by simpa using h)]
    congr 1; symm
    rw [decide_eq_false_iff_not]
    exact fun x => h ⟨x.1, x.2.1, hv⟩

end Go.Proofs.YtedmadofpdkekaaGreat.LA
