import Derived.Test.YtdodghjnlekgeaaGreatAid
import Derived.Test.YtdodghjnlekgeaaGreatPAx0
import Derived.Test.YtdodghjnlekgeaaGreatLAABasic
import Derived.Test.YtdodghjnlekgeaaGreatLAUOrder
import Derived.Test.YtdodghjnlekgeaaGreatLAWIsgroup
import Derived.Test.YtdodghjnlekgeaaGreatLAZeMeet
import Derived.Test.YtdodghjnlekgeaaGreatLAZiClose
import Derived.Test.YtdodghjnlekgeaaGreatLAZjGroup
import Derived.Test.YtdodghjnlekgeaaGreatPAx0
import Derived.Test.YtdodghjnlekgeaaGreatPAx11
import Derived.Test.YtdodghjnlekgeaaGreatPAx12
import Derived.Test.YtdodghjnlekgeaaGreatPAx13
import Derived.Test.YtdodghjnlekgeaaGreatPAx14
import Derived.Test.YtdodghjnlekgeaaGreatPAx15
import Derived.Test.YtdodghjnlekgeaaGreatPAx19
import Derived.Test.YtdodghjnlekgeaaGreatPAx7
import Derived.Test.YtdodghjnlekgeaaGreatPAx8
namespace Go.Proofs.YtdodghjnlekgeaaGreat.LA
open Go.RowKit Go.Proofs.YtdodghjnlekgeaaGreat.PA Go.Proofs.YtdodghjnlekgeaaGreatW.PrintWords Go.Proofs.YtdodghjnlekgeaaGreatW.PrintLast Go.Proofs.YtdodghjnlekgeaaGreat.Aid
set_option linter.unusedVariables false
set_option linter.unusedSimpArgs false
theorem both_CyclicOf (fr a b c : Int) (xs : List S48) (m : S48) (hx : (xs.length : Int) ≤ 1048576) : ∃ r : List S48 × Int, (r.1.length : Int) ≤ 1048576 ∧ Ev (fun k => spec_CyclicOf.f k fr a b c xs m.f0.f0 m.f0.f1 m.f0.f2 m.f0.f3 m.f1.f0 m.f1.f1) r ∧ Ev (fun k => impl_CyclicOf.f k fr a b c xs m.f0.f0 m.f0.f1 m.f0.f2 m.f0.f3 m.f1.f0 m.f1.f1) r := by
  obtain ⟨h, ⟨K1, s1⟩⟩ := has_any xs hx m
  obtain ⟨r, ⟨K2, s2⟩, ⟨K3, s3⟩, e1, e2, e3, e4⟩ := small_both fr a b c xs hx
  have s1 : ∀ k, K1 ≤ k → spec_l06Has.f k xs m.f0.f0 m.f0.f1 m.f0.f2 m.f0.f3 m.f1.f0 m.f1.f1 = some h := s1
  have s2 : ∀ k, K2 ≤ k → spec_l15One.f k fr a b c xs = some r := s2
  have s3 : ∀ k, K3 ≤ k → impl_smallCode.f k fr a b c xs = some r := s3
  have q := fun i => spec_l06Code_eq fr a b c i
  have cn := fun k hk => mo_contains xs hx m (k := k) hk
  have him : ∀ k, K3 + xs.length + 1 ≤ k → impl_CyclicOf.f (k + 1) fr a b c xs m.f0.f0 m.f0.f1 m.f0.f2 m.f0.f3 m.f1.f0 m.f1.f1 = if r = 1 then some ([], 1) else if (xs.any fun x => mapMo.eqB x m) = true then (if r = 0 then (impl_closeGroup.f k a b c [m]).bind fun t => some (t, 0) else some ([], r)) else some ([], 2) := fun k hk => by
    unfold impl_CyclicOf.f
    rw [s3 _ (by omega), Option.bind_some, cn _ (by omega)]
    by_cases h1 : r = 1
    · rw [if_pos h1, if_pos h1]
      simp only [impl_CyclicOf.j0]
      rw [if_neg (by decide), if_neg (by omega), h1]
    · rw [if_neg h1, if_neg h1, Option.bind_some]
      simp only [impl_CyclicOf.j0]
      by_cases h2 : (xs.any fun x => mapMo.eqB x m) = true
      · rw [if_neg (by rw [h2]; decide), if_pos h2]
      · rw [if_pos (by simp [h2]), if_neg h2]
  have hsp : ∀ k, K1 ≤ k → spec_CyclicOf.f k fr a b c xs m.f0.f0 m.f0.f1 m.f0.f2 m.f0.f3 m.f1.f0 m.f1.f1 = (spec_l07Code.f k fr a b c xs h).bind fun t => if t = 0 then ((spec_l15One.f k fr a b c xs).bind fun t => if t = 0 then ((spec_l06Close.f k a b c [m]).bind fun t => some (t, 0)) else some ([], t)) else some ([], t) := fun k hk => by
    unfold spec_CyclicOf.f
    rw [s1 k hk, Option.bind_some]
  by_cases hf : FL fr a b c
  · obtain ⟨g, ⟨K4, s4⟩, -, g1⟩ := group_iff hf xs hx
    have s4 : ∀ k, K4 ≤ k → spec_IsGroup.f k fr a b c xs = some g := s4
    rw [if_pos hf] at e1
    have hr1 : ¬ r = 1 := fun z => by
      rw [z, if_neg (by decide)] at e1
      split at e1 <;> omega
    -- the code of the group, and of its having the motion
    have sc : ∀ k, K4 ≤ k → spec_l07Code.f k fr a b c xs h = some (if h = true then (if g = true then 0 else 2) else 2) := fun k hk => by
      unfold spec_l07Code.f
      by_cases hh : h = true
      · rw [if_pos hh, if_pos hh, s4 k hk, Option.bind_some, q, Option.bind_some, if_pos hf]
      · rw [if_neg hh, if_neg hh, q, Option.bind_some, if_pos hf, if_neg (by decide)]
    by_cases hg : g = true
    · have G := g1.1 hg
      have hh : h = (xs.any fun x => mapMo.eqB x m) := Ev.unique ⟨K1, s1⟩ ⟨2000000, fun k hk => spec_has6_eq xs hx G.inc m k hk⟩
      by_cases hm : (xs.any fun x => mapMo.eqB x m) = true
      · have hmem := (any_eqB xs m).1 hm
        by_cases h0 : r = 0
        · obtain ⟨o, ⟨K5, o1⟩, ⟨K6, o2⟩, o3⟩ := close_both hf [m] [m] (by show ((1 : Nat) : Int) ≤ 1048576; omega) rfl (fun j hj => by
            have : j = 0 := by simp at hj; exact hj
            subst this
            exact alike_self hf (G.good m hmem))
          have o1 : ∀ k, K5 ≤ k → spec_l06Close.f k a b c [m] = some o := o1
          have o2 : ∀ k, K6 ≤ k → impl_closeGroup.f k a b c [m] = some o := o2
          have := o3.len
          refine ⟨(o, 0), by show (o.length : Int) ≤ 1048576; omega, ⟨K1 + K2 + K4 + K5, fun k hk => ?_⟩, ⟨K3 + xs.length + K6 + 2, fun k hk => ?_⟩⟩
          · show spec_CyclicOf.f k fr a b c xs _ _ _ _ _ _ = _
            rw [hsp k (by omega), sc k (by omega), Option.bind_some, hh, if_pos hm, if_pos hg, if_pos rfl, s2 k (by omega), Option.bind_some, if_pos h0, o1 k (by omega)]; rfl
          · obtain ⟨k, rfl⟩ : ∃ n, k = n + 1 := ⟨k - 1, by omega⟩
            show impl_CyclicOf.f (k + 1) fr a b c xs _ _ _ _ _ _ = _
            rw [him k (by omega), if_neg hr1, if_pos hm, if_pos h0, o2 k (by omega)]; rfl
        · refine ⟨([], r), by show ((0 : Nat) : Int) ≤ 1048576; omega, ⟨K1 + K2 + K4, fun k hk => ?_⟩, ⟨K3 + xs.length + 2, fun k hk => ?_⟩⟩
          · show spec_CyclicOf.f k fr a b c xs _ _ _ _ _ _ = _
            rw [hsp k (by omega), sc k (by omega), Option.bind_some, hh, if_pos hm, if_pos hg, if_pos rfl, s2 k (by omega), Option.bind_some, if_neg h0]
          · obtain ⟨k, rfl⟩ : ∃ n, k = n + 1 := ⟨k - 1, by omega⟩
            show impl_CyclicOf.f (k + 1) fr a b c xs _ _ _ _ _ _ = _
            rw [him k (by omega), if_neg hr1, if_pos hm, if_neg h0]
      · refine ⟨([], 2), by decide, ⟨K1 + K4, fun k hk => ?_⟩, ⟨K3 + xs.length + 2, fun k hk => ?_⟩⟩
        · show spec_CyclicOf.f k fr a b c xs _ _ _ _ _ _ = _
          rw [hsp k (by omega), sc k (by omega), Option.bind_some, hh, if_neg hm, if_neg (by decide)]
        · obtain ⟨k, rfl⟩ : ∃ n, k = n + 1 := ⟨k - 1, by omega⟩
          show impl_CyclicOf.f (k + 1) fr a b c xs _ _ _ _ _ _ = _
          rw [him k (by omega), if_neg hr1, if_neg hm]
    · have hr2 : r = 2 := by
        by_cases z : r = 2
        · exact z
        · rw [if_neg z] at e1
          exfalso
          by_cases hl : (xs.length : Int) > 48
          · rw [if_pos hl] at e1; exact hg (g1.2 (e3 e1).2)
          · rw [if_neg hl] at e1; exact hg (g1.2 (e2 e1).2.1)
      refine ⟨([], 2), by decide, ⟨K1 + K4, fun k hk => ?_⟩, ⟨K3 + xs.length + 2, fun k hk => ?_⟩⟩
      · show spec_CyclicOf.f k fr a b c xs _ _ _ _ _ _ = _
        rw [hsp k (by omega), sc k (by omega), Option.bind_some, if_neg hg, ite_self, if_neg (by decide)]
      · obtain ⟨k, rfl⟩ : ∃ n, k = n + 1 := ⟨k - 1, by omega⟩
        show impl_CyclicOf.f (k + 1) fr a b c xs _ _ _ _ _ _ = _
        rw [him k (by omega), if_neg hr1, hr2, if_neg (show ¬ (2 : Int) = 0 by decide), ite_self]
  · rw [if_neg hf] at e1
    obtain ⟨g, ⟨K4, s4⟩, -, hgood⟩ := groupCode_both fr a b c xs hx
    have s4 : ∀ k, K4 ≤ k → spec_IsGroup.f k fr a b c xs = some g := s4
    have sc : ∀ k, K4 ≤ k → spec_l07Code.f k fr a b c xs h = some 1 := fun k hk => by
      unfold spec_l07Code.f
      by_cases hh : h = true
      · rw [if_pos hh, s4 k hk, Option.bind_some, q, Option.bind_some, if_neg hf]
      · rw [if_neg hh, q, Option.bind_some, if_neg hf]
    refine ⟨([], 1), by decide, ⟨K1 + K4, fun k hk => ?_⟩, ⟨K3 + xs.length + 2, fun k hk => ?_⟩⟩
    · show spec_CyclicOf.f k fr a b c xs _ _ _ _ _ _ = _
      rw [hsp k (by omega), sc k (by omega), Option.bind_some, if_neg (by decide)]
    · obtain ⟨k, rfl⟩ : ∃ n, k = n + 1 := ⟨k - 1, by omega⟩
      show impl_CyclicOf.f (k + 1) fr a b c xs _ _ _ _ _ _ = _
      rw [him k (by omega), if_pos e1]
end Go.Proofs.YtdodghjnlekgeaaGreat.LA
