/- Plain lemmas on suitable motions. -/
import Derived.Test.YtfmjboloeabjmaaAid
import Derived.Test.YtfmjboloeabjmaaPAx0
import Derived.Test.YtfmjboloeabjmaaLAABasic
import Derived.Test.YtfmjboloeabjmaaLAPPoints
import Derived.Test.YtfmjboloeabjmaaPAx0
import Derived.Test.YtfmjboloeabjmaaPAx13
import Derived.Test.YtfmjboloeabjmaaPAx5
import Derived.Test.YtfmjboloeabjmaaPAx6
namespace Go.Proofs.Ytfmjboloeabjmaa.LA
open Go.RowKit Go.Proofs.Ytfmjboloeabjmaa.PA Go.Proofs.YtfmjboloeabjmaaW.PrintWords Go.Proofs.YtfmjboloeabjmaaW.PrintLast Go.Proofs.Ytfmjboloeabjmaa.Aid
set_option linter.unusedVariables false
set_option linter.unusedSimpArgs false

theorem spec_IsVec_eq (x y : Int) : spec_IsVec.f x y = some (decide (IsV x y)) := by
  unfold spec_IsVec.f
  simp only [l01In_eq, Option.bind_some, ifb]
  rw [b2]; rfl
theorem spec_IsMat_eq (a b c d : Int) : spec_IsMat.f a b c d = some (decide (IsM a b c d)) := by
  unfold spec_IsMat.f spec_l02Small.f spec_l02Det.f
  simp only [spec_IsVec_eq, Option.bind_some, ifb]
  rw [b2]
  simp only [Option.bind_some, ifb]
  by_cases h : IsV a b ∧ IsV c d
  · rw [if_pos h, det_w h]
    by_cases e : a * d - b * c = 1
    · rw [if_pos e]; simp [IsM, h, e]
    · rw [if_neg e]
      by_cases e' : a * d - b * c = -1
      · simp [IsM, h, e']
      · simp [IsM, e, e']
  · rw [if_neg h]
    simp only [IsM, h, false_and, decide_false]
theorem spec_norm_eq {fr x y : Int} (hx0 : -2000 ≤ x) (hx1 : x ≤ 2000) (hy0 : -2000 ≤ y) (hy1 : y ≤ 2000) : spec_l04Norm.f fr x y = some (nrm fr x y) := by
  unfold spec_l04Norm.f nrm
  obtain ⟨e1, e2⟩ := nrm_w (fr := fr) hx0 hx1 hy0 hy1
  rw [e1, e2]
  by_cases h : fr = 1
  · rw [if_pos h, if_pos h]
  · rw [if_neg h, if_neg h]
theorem spec_keeps_eq {fr a b c d : Int} (hf : 0 ≤ fr ∧ fr ≤ 1) (h : IsV a b ∧ IsV c d) : spec_l04Keeps.f fr a b c d = some (decide (Keeps fr a b c d)) := by
  obtain ⟨⟨⟨h1, h2⟩, h3, h4⟩, ⟨h5, h6⟩, h7, h8⟩ := h
  unfold spec_l04Keeps.f spec_l01Add.f Keeps
  rw [spec_norm_eq (by omega) (by omega) (by omega) (by omega), spec_norm_eq (x := b) (by omega) (by omega) (by omega) (by omega)]
  simp only [Option.bind_some]
  rw [w64s (x := a + b) (by omega) (by omega), w64s (x := c + d) (by omega) (by omega), w64s (x := 2 + fr) (by omega) (by omega), spec_norm_eq (by omega) (by omega) (by omega) (by omega)]
  simp only [Option.bind_some]
  by_cases e1 : nrm fr a c = 1
  · rw [if_pos e1]
    by_cases e2 : nrm fr b d = 1
    · rw [if_pos e2]
      congr 1
      rw [Bool.eq_iff_iff]; simp [e1, e2]
    · rw [if_neg e2]; simp [e2]
  · rw [if_neg e1]; simp [e1]
theorem spec_IsPointMat_eq {fr : Int} (a b c d : Int) (hf : 0 ≤ fr ∧ fr ≤ 1) : spec_IsPointMat.f fr a b c d = some (decide ((a, b, c, d) ∈ pmL fr)) := by
  unfold spec_IsPointMat.f
  rw [spec_IsFrame_eq, spec_IsMat_eq]
  simp only [Option.bind_some]
  rw [if_pos (by simp [hf])]
  by_cases h : IsM a b c d
  · rw [if_pos (by simp [h]), spec_keeps_eq hf h.1]
    simp only [Option.bind_some]
    congr 1
    rw [decide_eq_decide, mem_pm hf]
    exact ⟨fun x => ⟨h, x⟩, fun x => x.2⟩
  · rw [if_neg (by simpa using h)]
    congr 1; symm
    rw [decide_eq_false_iff_not, mem_pm hf]
    exact fun x => h x.1
theorem indexM (l : List S40) (a b c d : Int) (hl : (l.length : Int) ≤ 1000000000) : ∀ (n k i : Nat), i + n = l.length → n < k →
    ∃ r, impl_Mat_78.l0 k l (l.length : Int) (i : Int) a b c d = some r ∧ (0 ≤ r ↔ (a, b, c, d) ∈ (l.drop i).map tupM)
  | n, 0, i, _, h => by omega
  | n, k + 1, i, h1, h2 => by
    unfold impl_Mat_78.l0
    by_cases h : i < l.length
    · rw [if_pos (by omega), if_pos (by omega), if_pos (by omega)]
      have e : rd_T40 l (i : Int) = l[i] := by
        unfold rd_T40
        rw [Int.toNat_natCast, List.getD_eq_getElem?_getD, List.getElem?_eq_getElem h]; rfl
      rw [e, List.drop_eq_getElem_cons h, List.map_cons, List.mem_cons]
      by_cases g : (a, b, c, d) = tupM l[i]
      · have g' := g
        unfold tupM at g'
        rw [Prod.ext_iff, Prod.ext_iff, Prod.ext_iff] at g'
        dsimp only at g'
        obtain ⟨g1, g2, g3, g4⟩ := g'
        rw [if_pos (by rw [← g1, ← g2, ← g3, ← g4]; simp)]
        exact ⟨i, rfl, ⟨fun _ => Or.inl g, fun _ => by omega⟩⟩
      · rw [if_neg (by
          intro g'
          simp only [Bool.and_eq_true, beq_iff_eq] at g'
          obtain ⟨g1, g2, g3, g4⟩ := g'
          exact g (by rw [g1, g2, g3, g4]; rfl))]
        rw [w64s (by omega) (by omega)]
        obtain ⟨r, r1, r2⟩ := indexM l a b c d hl (n - 1) k (i + 1) (by omega) (by omega)
        refine ⟨r, ?_, ?_⟩
        · rw [← r1]; rfl
        · rw [r2]
          exact ⟨fun x => Or.inr x, fun x => x.resolve_left g⟩
    · rw [if_neg (by omega)]
      refine ⟨-1, rfl, ?_⟩
      rw [List.drop_eq_nil_of_le (by omega)]
      simp
theorem containsM (l : List S40) (a b c d : Int) (hl : (l.length : Int) ≤ 1000000000) (k : Nat) (hk : l.length < k) :
    impl_Mat_57.f k l a b c d = some (decide ((a, b, c, d) ∈ l.map tupM)) := by
  obtain ⟨r, r1, r2⟩ := indexM l a b c d hl l.length k 0 (by omega) hk
  unfold impl_Mat_57.f impl_Mat_78.f
  rw [show ((0 : Nat) : Int) = 0 from rfl] at r1
  rw [r1, Option.bind_some]
  congr 1
  rw [decide_eq_decide, ge_iff_le, r2, List.drop_zero]
/-- Is a motion suitable for a frame and a lattice? -/
def Suit (fr a b c m0 m1 m2 m3 x y : Int) : Prop := ((m0, m1, m2, m3) ∈ pmL fr ∧ KeepL a b c (m0, m1, m2, m3)) ∧ IsV x y
instance (fr a b c m0 m1 m2 m3 x y : Int) : Decidable (Suit fr a b c m0 m1 m2 m3 x y) := by unfold Suit; infer_instance
theorem spec_IsSuitable_eq (fr a b c m0 m1 m2 m3 x y : Int) (k : Nat) (hk : 10000000 ≤ k) : spec_IsSuitable.f k fr a b c m0 m1 m2 m3 x y = some (decide (FL fr a b c ∧ Suit fr a b c m0 m1 m2 m3 x y)) := by
  unfold spec_IsSuitable.f
  rw [spec_l04Code_eq, Option.bind_some]
  by_cases h : FL fr a b c
  · rw [if_pos h, if_pos rfl, spec_IsPointMat_eq _ _ _ _ h.1, Option.bind_some]
    by_cases hm : (m0, m1, m2, m3) ∈ pmL fr
    · rw [if_pos (by simp [hm])]
      obtain ⟨A, B, C, r1, r2⟩ := spec_image_eq h.1 h.2 hm k hk
      rw [r1, Option.bind_some]
      dsimp only
      by_cases hk : KeepL a b c (m0, m1, m2, m3)
      · obtain ⟨rfl, rfl, rfl⟩ := r2.2 hk
        rw [if_pos (by simp), spec_IsVec_eq, Option.bind_some]
        congr 1
        rw [decide_eq_decide]
        exact ⟨fun v => ⟨h, ⟨hm, hk⟩, v⟩, fun v => v.2.2⟩
      · rw [if_neg (by
          intro e
          simp only [Bool.and_eq_true, beq_iff_eq] at e
          exact hk (r2.1 e))]
        congr 1; symm
        rw [decide_eq_false_iff_not]
        exact fun v => hk v.2.1.2
    · rw [if_neg (by simpa using hm)]
      congr 1; symm
      rw [decide_eq_false_iff_not]
      exact fun v => hm v.2.1.1
  · rw [if_neg h, if_neg (by decide)]
    congr 1; symm
    rw [decide_eq_false_iff_not]
    exact fun v => h v.1
end Go.Proofs.Ytfmjboloeabjmaa.LA
