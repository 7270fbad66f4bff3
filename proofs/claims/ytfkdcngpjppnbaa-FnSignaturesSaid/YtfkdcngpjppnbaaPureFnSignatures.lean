/- FnSignatures: for all drawn names and signatures the program and the reference answer alike; each signature costs 48 parts and is found back. -/
import Derived.Test.YtfkdcngpjppnbaaAid
import Derived.Test.YtfkdcngpjppnbaaLAYaDraw
import Derived.Test.YtfkdcngpjppnbaaLAYbSigs
import Derived.Test.YtfkdcngpjppnbaaPAx0
import Derived.Test.YtfkdcngpjppnbaaPAx2
import Derived.Test.YtfkdcngpjppnbaaPAx3
import Derived.Test.YtfkdcngpjppnbaaPAx4
namespace Go.Proofs.Ytfkdcngpjppnbaa.Pure
open Go.RowKit Go.Proofs.Ytfkdcngpjppnbaa.PA Go.Proofs.YtfkdcngpjppnbaaW.PrintWords Go.Proofs.YtfkdcngpjppnbaaW.PrintLast Go.Proofs.Ytfkdcngpjppnbaa.Aid
open Go.Proofs.Ytfkdcngpjppnbaa.LA
set_option linter.unusedVariables false
set_option linter.unusedSimpArgs false

theorem FnSignatures : laws_FnSignatures.Pure := by
  intro l hl hw
  refine ⟨200, ?_⟩
  unfold laws_FnSignatures.f laws_big.f
  rw [Option.bind_some]
  by_cases big : (l.length : Int) > 4096
  · rw [if_pos (by simpa using big)]
  rw [if_neg (by simpa using big)]
  have hb : Byt l := byt_of hw (by omega)
  obtain ⟨s, e0, h0⟩ := from_some hb (k := 200) (by omega)
  obtain ⟨a, pa, sa, ea, -⟩ := draw_name hb h0
  have d1 : spec_DrawSignatureOf.f 200 l = some a := by
    unfold spec_DrawSignatureOf.f
    rw [e0, Option.bind_some]; dsimp only
    rw [ea, Option.bind_some]
  obtain ⟨t, d2, ht⟩ := draw_cost hb (k := 200) (by omega)
  rw [d1, Option.bind_some]
  obtain ⟨r, x1, x2, x3⟩ := wlook namesL len_names a 200 (by omega)
  obtain ⟨z, ⟨i1, i2, i3⟩⟩ : ∃ z : ByteArray × Int, impl_SignatureOf.f 200 a = some z ∧ spec_SignatureOf.f 200 a = some z ∧ (z.2 = 0 → 0 ≤ r ∧ r < 17 ∧ (rdOf ByteArray.empty namesL r).toList = a.toList ∧ z.1 = rdOf ByteArray.empty sigsL r) := by
    unfold impl_SignatureOf.f spec_SignatureOf.f
    rw [names1, names2, sigs1, sigs2, Option.bind_some, Option.bind_some, x1, x2, Option.bind_some, Option.bind_some]
    rcases x3 with c | ⟨c0, c1, c2⟩
    · simp only [if_pos c]; exact ⟨_, rfl, rfl, fun h => absurd h (by decide)⟩
    · simp only [if_neg (show ¬ r < 0 by omega), Option.bind_some, if_pos c0]
      rw [if_pos (show r < (sigsL.length : Int) by rw [len_sigs]; omega)]
      exact ⟨(rdOf ByteArray.empty sigsL r, 0), rfl, rfl, fun _ => ⟨c0, c1, c2, rfl⟩⟩
  obtain ⟨y, j1, j2⟩ : ∃ y, impl_SignatureCost.f 200 t = some y ∧ spec_SignatureCost.f 200 t = some y := by
    obtain ⟨y, g1, g2⟩ := cost_both t (by omega) t.size 200 0 0 false (by omega) (by omega) (by omega) (by omega)
    exact ⟨y, g2, g1⟩
  obtain ⟨u, k1, k2⟩ : ∃ u, impl_NameOfSignature.f 200 t = some u ∧ spec_NameOfSignature.f 200 t = some u := by
    obtain ⟨r, x1, x2, x3⟩ := wlook sigsL len_sigs t 200 (by omega)
    unfold impl_NameOfSignature.f spec_NameOfSignature.f
    rw [names1, names2, sigs1, sigs2, Option.bind_some, Option.bind_some, x1, x2, Option.bind_some, Option.bind_some]
    rcases x3 with c | ⟨c0, c1, c2⟩
    · simp only [if_pos c]; exact ⟨_, rfl, rfl⟩
    · simp only [if_neg (show ¬ r < 0 by omega), Option.bind_some, if_pos c0]
      rw [if_pos (show r < (namesL.length : Int) by rw [len_names]; omega)]
      exact ⟨(rdOf ByteArray.empty namesL r, 0), rfl, rfl⟩
  obtain ⟨o, m1, m2⟩ : ∃ o, impl_PointOrder.f 200 a = some o ∧ spec_PointOrder.f 200 a = some o := by
    unfold impl_PointOrder.f spec_PointOrder.f
    rw [names1, names2, Option.bind_some, Option.bind_some, x1, x2, Option.bind_some, Option.bind_some]
    rcases x3 with c | ⟨c0, c1, c2⟩
    · simp only [if_pos c]; exact ⟨_, rfl, rfl⟩
    · simp only [if_neg (show ¬ r < 0 by omega), Option.bind_some, if_pos c0, if_pos c1]
      exact ⟨_, rfl, by rw [if_pos (by simpa using c1)]; rfl⟩
  have n1 : laws_likeTexts9.f 200 namesL namesL = some true := by
    unfold laws_likeTexts9.f
    rw [if_pos rfl]
    exact likeTexts_refl namesL (by rw [len_names]; omega) 17 200 0 (by omega) (by rw [len_names]) (by omega)
  simp only [i1, i2, d2, j1, j2, k1, k2, m1, m2, names1, names2, n1, Option.bind_some, if_true, Bool.not_true]
  simp only [laws_FnSignatures.j0, Bool.false_eq_true, if_false]
  by_cases c : z.2 = 0
  · obtain ⟨c0, c1, c2, c3⟩ := i3 c
    have g1 : impl_SignatureCost.f 199 z.1 = some (48, 0) := by rw [c3]; exact sig_cost r c0 c1
    have g2 : impl_NameOfSignature.f 199 z.1 = some (rdOf ByteArray.empty namesL r, 0) := by
      unfold impl_NameOfSignature.f
      rw [sigs1, names1, Option.bind_some, c3, sig_back r c0 c1 199 (by omega), Option.bind_some, if_neg (by omega), Option.bind_some, if_pos c0, len_names, if_pos (by omega)]
    rw [if_pos c, g1, Option.bind_some, g2, Option.bind_some]
    dsimp only
    rw [if_pos rfl, if_pos rfl, if_pos rfl, c2]
    simp
  · rw [if_neg c]

end Go.Proofs.Ytfkdcngpjppnbaa.Pure
