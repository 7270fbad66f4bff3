/- FnExactFriezeText: the program's text of a frieze, and its code, are the reference's. -/
import Derived.Test.YtnblfcibgokccaaDoorAid
import Derived.Test.YtnblfcibgokccaaDoorLFBLists
import Derived.Test.YtnblfcibgokccaaDoorLFZoaBytes
import Derived.Test.YtnblfcibgokccaaDoorLFZwReadfrieze
import Derived.Test.YtnblfcibgokccaaDoorLFZyFriezetext
import Derived.Test.YtnblfcibgokccaaDoorPFx1
import Derived.Test.YtnblfcibgokccaaDoorPFx2
namespace Go.Proofs.YtnblfcibgokccaaDoor.Pure
open Go.RowKit Go.Proofs.YtnblfcibgokccaaDoor.PF Go.Proofs.YtnblfcibgokccaaDoorW.PrintWords Go.Proofs.YtnblfcibgokccaaDoorW.PrintLast Go.Proofs.YtnblfcibgokccaaDoor.Aid
open Go.Proofs.YtnblfcibgokccaaDoor.LF
set_option linter.unusedVariables false
set_option linter.unusedSimpArgs false

theorem FnExactFriezeText : laws_FnExactFriezeText.Pure := by
  intro h w l _ _ hl _
  obtain ⟨m, hm⟩ : ∃ m : Nat, m = 7000000 := ⟨_, rfl⟩
  refine ⟨m + 1, ?_⟩
  unfold laws_FnExactFriezeText.f laws_szFrieze.f
  have hl0 : (l.length : Int) ≤ maxLen := by exact_mod_cast hl
  rw [szInt64S_eq l 1048576 (by omega) (by omega) hl]
  by_cases hb : (1048576 : Int) < l.length
  · simp [hb]
  · have hl' : (l.length : Int) ≤ 1048576 := by omega
    have hno : ¬ (1048576 - (l.length : Int)) < 0 := by omega
    have t1 := toInt64S_eq l hl' (k := m + 1) (by omega)
    have t2 := toInt64S_eq l hl' (k := m) (by omega)
    have q2 := eqInt64S_eq l l hl' (k := m) (by omega)
    have h1 := spec_FriezeText_eq h w l hl' (k := m + 1) (by omega)
    have h2 := impl_FriezeText_eq h w l (k := m + 1) (by omega)
    obtain ⟨s, e, hr⟩ : ∃ s e, (if Frz h w l then some (ba (txF w.toNat 0 l), (0 : Int)) else some (⟨#[]⟩, 1)) = some (s, e) := by
      by_cases hf : Frz h w l
      · rw [if_pos hf]; exact ⟨_, _, rfl⟩
      · rw [if_neg hf]; exact ⟨_, _, rfl⟩
    rw [hr] at h1 h2
    simp only [if_neg hb, Option.bind_some, if_neg hno, laws_toFrieze.f, t1, t2, h1, h2, if_true, bne_self_eq_false, laws_FnExactFriezeText.j0, laws_eqFrieze.f, q2, decide_true, Bool.false_eq_true, if_false]

end Go.Proofs.YtnblfcibgokccaaDoor.Pure
