/- IsCentred: both sides. -/
import Derived.Test.YtedmadofpdkekaaGreatAid
import Derived.Test.YtedmadofpdkekaaGreatPAx0
import Derived.Test.YtedmadofpdkekaaGreatLAABasic
import Derived.Test.YtedmadofpdkekaaGreatLAPPoints
import Derived.Test.YtedmadofpdkekaaGreatLARMirror
import Derived.Test.YtedmadofpdkekaaGreatLARaMirrorcode
import Derived.Test.YtedmadofpdkekaaGreatLARabMultiple
import Derived.Test.YtedmadofpdkekaaGreatLASCentred
import Derived.Test.YtedmadofpdkekaaGreatPAx0
import Derived.Test.YtedmadofpdkekaaGreatPAx11
import Derived.Test.YtedmadofpdkekaaGreatPAx12
import Derived.Test.YtedmadofpdkekaaGreatPAx14
namespace Go.Proofs.YtedmadofpdkekaaGreat.LA
open Go.RowKit Go.Proofs.YtedmadofpdkekaaGreat.PA Go.Proofs.YtedmadofpdkekaaGreatW.PrintWords Go.Proofs.YtedmadofpdkekaaGreatW.PrintLast Go.Proofs.YtedmadofpdkekaaGreat.Aid
set_option linter.unusedVariables false
set_option linter.unusedSimpArgs false

theorem impl_cent_ev {a b c m0 m1 m2 m3 : Int} {P Q : Int × Int} (e1 : Ev (fun k => (impl_Mat_axis.f k m0 m1 m2 m3).bind fun t => impl_Lattice_multipleIn.f k a b c t.1 t.2) P) (e2 : Ev (fun k => (impl_Mat_axis.f k (wrap64 (-m0)) (wrap64 (-m1)) (wrap64 (-m2)) (wrap64 (-m3))).bind fun t => impl_Lattice_multipleIn.f k a b c t.1 t.2) Q) : Ev (fun k => impl_Lattice_isCentred.f k a b c m0 m1 m2 m3) (centB a c P Q) := by
  obtain ⟨K1, h1⟩ := e1
  obtain ⟨K2, h2⟩ := e2
  refine ⟨K1 + K2, fun k hk => ?_⟩
  have g1 := h1 k (by omega)
  have g2 := h2 k (by omega)
  dsimp only at g1 g2
  show impl_Lattice_isCentred.f k a b c m0 m1 m2 m3 = _
  unfold impl_Lattice_isCentred.f impl_Mat_negative.f
  rcases hx : impl_Mat_axis.f k m0 m1 m2 m3 with _ | t
  · simp only [hx, Option.bind_none] at g1; cases g1
  rcases hy : impl_Mat_axis.f k (wrap64 (-m0)) (wrap64 (-m1)) (wrap64 (-m2)) (wrap64 (-m3)) with _ | u
  · simp only [hy, Option.bind_none] at g2; cases g2
  simp only [hx, hy, Option.bind_some] at g1 g2 ⊢
  simp only [hy, g1, g2, Option.bind_some]
  rfl
theorem both_IsCentred (fr a b c m0 m1 m2 m3 : Int) : ∃ r, Ev (fun k => spec_IsCentred.f k fr a b c m0 m1 m2 m3) r ∧ Ev (fun k => impl_IsCentred.f k fr a b c m0 m1 m2 m3) r := by
  have q1 : ∀ k, 10000000 ≤ k → _ := fun k hk => spec_mirror_eq fr a b c m0 m1 m2 m3 k hk
  have q2 : ∀ k, 10000000 ≤ k → _ := fun k hk => impl_mirrorCode_eq fr a b c m0 m1 m2 m3 k (by omega)
  have q3 := fun i => spec_l06Code_eq fr a b c i
  by_cases h : FL fr a b c
  · by_cases hm : ((m0, m1, m2, m3) ∈ pmL fr ∧ KeepL a b c (m0, m1, m2, m3)) ∧ detM (m0, m1, m2, m3) = -1
    · obtain ⟨p, n, hp, hn, e1, e2⟩ := inv_ev h hm.1.1 hm.2
      obtain ⟨e3, e4⟩ := inv_impl h hm.1.1 hm.2 hp hn
      obtain ⟨K1, c1⟩ := spec_cent_ev e1 e2
      obtain ⟨K2, c2⟩ := impl_cent_ev e3 e4
      refine ⟨(centB a c (p * (axP (m0, m1, m2, m3)).1, p * (axP (m0, m1, m2, m3)).2) (n * (axN (m0, m1, m2, m3)).1, n * (axN (m0, m1, m2, m3)).2), 0), ⟨K1 + 10000000, fun k hk => ?_⟩, ⟨K2 + 10000000, fun k hk => ?_⟩⟩
      · have g := c1 k (by omega)
        dsimp only at g
        show spec_IsCentred.f k fr a b c m0 m1 m2 m3 = _
        unfold spec_IsCentred.f
        rw [q1 k (by omega), Option.bind_some, q3, if_pos h, if_pos (by simp [h, hm]), Option.bind_some, if_pos rfl, g]; rfl
      · have g := c2 k (by omega)
        dsimp only at g
        show impl_IsCentred.f k fr a b c m0 m1 m2 m3 = _
        unfold impl_IsCentred.f
        rw [q2 k (by omega), if_pos h, if_pos hm, Option.bind_some, if_pos rfl, g]; rfl
    · refine ⟨(false, 2), ⟨10000000, fun k hk => ?_⟩, ⟨10000000, fun k hk => ?_⟩⟩
      · show spec_IsCentred.f k fr a b c m0 m1 m2 m3 = _
        unfold spec_IsCentred.f
        rw [q1 k (by omega), Option.bind_some, q3, if_pos h, if_neg (by simp only [decide_eq_true_iff]; exact fun x => hm x.2), Option.bind_some, if_neg (by decide)]
      · show impl_IsCentred.f k fr a b c m0 m1 m2 m3 = _
        unfold impl_IsCentred.f
        rw [q2 k (by omega), if_pos h, if_neg hm, Option.bind_some, if_neg (by decide)]
  · refine ⟨(false, 1), ⟨10000000, fun k hk => ?_⟩, ⟨10000000, fun k hk => ?_⟩⟩
    · show spec_IsCentred.f k fr a b c m0 m1 m2 m3 = _
      unfold spec_IsCentred.f
      rw [q1 k (by omega), Option.bind_some, q3, if_neg h, Option.bind_some, if_neg (by decide)]
    · show impl_IsCentred.f k fr a b c m0 m1 m2 m3 = _
      unfold impl_IsCentred.f
      rw [q2 k (by omega), if_neg h, Option.bind_some, if_neg (by decide)]

end Go.Proofs.YtedmadofpdkekaaGreat.LA
