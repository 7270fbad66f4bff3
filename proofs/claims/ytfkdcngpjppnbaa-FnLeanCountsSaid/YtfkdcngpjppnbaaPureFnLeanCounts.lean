/- FnLeanCounts: the lean patterns of all lattices that contain a lattice are as many as the patterns for it, as the recursion itself says; the program and the reference count alike. -/
import Derived.Test.YtfkdcngpjppnbaaAid
import Derived.Test.YtfkdcngpjppnbaaLAABasic
import Derived.Test.YtfkdcngpjppnbaaLADPower
import Derived.Test.YtfkdcngpjppnbaaLAJCountlean
import Derived.Test.YtfkdcngpjppnbaaLAYaDraw
import Derived.Test.YtfkdcngpjppnbaaLAYcLeans
import Derived.Test.YtfkdcngpjppnbaaPAx2
import Derived.Test.YtfkdcngpjppnbaaPAx5
import Derived.Test.YtfkdcngpjppnbaaPAx6
import Derived.Test.YtfkdcngpjppnbaaPAx7
import Derived.Test.YtfkdcngpjppnbaaPAx8
namespace Go.Proofs.Ytfkdcngpjppnbaa.Pure
open Go.RowKit Go.Proofs.Ytfkdcngpjppnbaa.PA Go.Proofs.YtfkdcngpjppnbaaW.PrintWords Go.Proofs.YtfkdcngpjppnbaaW.PrintLast Go.Proofs.Ytfkdcngpjppnbaa.Aid
open Go.Proofs.Ytfkdcngpjppnbaa.LA
set_option linter.unusedVariables false
set_option linter.unusedSimpArgs false

theorem FnLeanCounts : laws_FnLeanCounts.Pure := by
  intro l hl hw
  by_cases big : (l.length : Int) > 4096
  · refine ⟨1, ?_⟩
    unfold laws_FnLeanCounts.f laws_big.f
    rw [Option.bind_some, if_pos (by simpa using big)]
  have hb : Byt l := byt_of hw (by omega)
  obtain ⟨fr, a, b, c, m, d1⟩ := draw_lean hb
  obtain ⟨⟨n, e⟩, ⟨K1, r1⟩, ⟨K2, r2⟩⟩ := both_CountLean fr a b c m
  have r1 : ∀ k, K1 ≤ k → spec_CountLean.f k fr a b c m = some (n, e) := r1
  have r2 : ∀ k, K2 ≤ k → impl_CountLean.f k fr a b c m = some (n, e) := r2
  have q2 : ∀ k, 1000 < k → impl_coloursCode.f k fr a b c m 1000000000000 = some (if FL fr a b c then (if 1 ≤ m ∧ m ≤ 10 then (if pw m 1000000000000 (a * c).toNat 1 > 1000000000000 then 3 else 0) else 2) else 1) := fun k hk => impl_coloursCode_eq _ _ _ _ _ _ (by omega) (by omega) hk
  obtain ⟨⟨cv, e'⟩, p1⟩ : ∃ p : Int × Int, ∀ k, 1000 < k → impl_CountPatterns.f k fr a b c m = some p ∧ spec_CountPatterns.f k fr a b c m = some p := ⟨_, fun k hk => ⟨impl_CountPatterns_eq _ _ _ _ _ hk, spec_CountPatterns_eq _ _ _ _ _ hk⟩⟩
  -- both codes are the colours' code
  have he : ∀ k, 1000 + K2 < k → impl_coloursCode.f k fr a b c m 1000000000000 = some e := fun k hk => by
    have x := r2 k (by omega)
    unfold impl_CountLean.f at x
    cases y : impl_coloursCode.f k fr a b c m 1000000000000 with
    | none => rw [y] at x; cases x
    | some z =>
      rw [y, Option.bind_some] at x
      by_cases z0 : z = 0
      · rw [if_pos z0] at x
        cases w : impl_countLean.f k a b c m with
        | none => rw [w] at x; cases x
        | some u => rw [w, Option.bind_some] at x; have := (Prod.mk.inj (Option.some.inj x)).2; rw [z0, ← this]
      · rw [if_neg z0] at x; rw [(Prod.mk.inj (Option.some.inj x)).2]
  have he' : e' = e := by
    have x := (p1 (1001 + K2) (by omega)).1
    unfold impl_CountPatterns.f at x
    rw [he _ (by omega), Option.bind_some] at x
    by_cases z0 : e = 0
    · rw [if_pos z0] at x
      cases w : impl_Lattice_index.f a b c with
      | none => rw [w] at x; cases x
      | some u =>
        rw [w, Option.bind_some] at x
        cases w' : impl_power.f (1001 + K2) m u 1000000000000 with
        | none => rw [w'] at x; cases x
        | some u' => rw [w', Option.bind_some] at x; rw [← (Prod.mk.inj (Option.some.inj x)).2, z0]
    · rw [if_neg z0] at x; exact (Prod.mk.inj (Option.some.inj x)).2.symm
  subst he'
  have start : ∀ k, 1001 + K1 + K2 ≤ k → laws_FnLeanCounts.f k l = laws_FnLeanCounts.j0 k fr m e' cv false a b c := fun k hk => by
    unfold laws_FnLeanCounts.f laws_big.f
    rw [Option.bind_some, if_neg (by simpa using big), d1 k (by omega), Option.bind_some]
    dsimp only
    rw [r2 k (by omega), Option.bind_some, r1 k (by omega), Option.bind_some, (p1 k (by omega)).1, Option.bind_some, (p1 k (by omega)).2, Option.bind_some]
    simp
  by_cases h0 : e' = 0
  · have hq := he (1001 + K2) (by omega)
    rw [q2 _ (by omega), h0] at hq
    have hq := Option.some.inj hq
    have hF : FL fr a b c := Decidable.byContradiction fun h => by rw [if_neg h] at hq; exact absurd hq (by decide)
    rw [if_pos hF] at hq
    have hm : 1 ≤ m ∧ m ≤ 10 := Decidable.byContradiction fun h => by rw [if_neg h] at hq; exact absurd hq (by decide)
    rw [if_pos hm] at hq
    have hp : ¬ pw m 1000000000000 (a * c).toNat 1 > 1000000000000 := fun h => by rw [if_pos h] at hq; exact absurd hq (by decide)
    have hL := hF.2
    have hmul := hL.mul
    have hN : wrap64 (a * c) = a * c := w64s (by omega) (by omega)
    by_cases h16 : a * c > 16
    · refine ⟨1001 + K1 + K2 + 2, ?_⟩
      rw [start _ (by omega)]
      show laws_FnLeanCounts.j0 (1001 + K1 + K2 + 1 + 1) fr m e' cv false a b c = _
      simp only [laws_FnLeanCounts.j0, laws_FnLeanCounts.j1]
      rw [if_neg (by decide), if_pos h0, if_pos (by rw [hN]; exact decide_eq_true h16)]
    · have cnt : ∀ x y z, Lat x y z → x * z ≤ a * c → Cnt fr m x y z := fun x y z hx hle => by
        obtain ⟨v, -, hv⟩ := leans m hm.1 hm.2 64 x y z hx hx.mul.2
        have hmx := hx.mul
        have hpx : ¬ pw m 1000000000000 (x * z).toNat 1 > 1000000000000 := by
          have := pw_more (base := m) (bound := 1000000000000) (x * z).toNat ((a * c).toNat - (x * z).toNat) 1 (by rw [show (x * z).toNat + ((a * c).toNat - (x * z).toNat) = (a * c).toNat by omega]; omega)
          omega
        have hFx : FL fr x y z := ⟨hF.1, hx⟩
        refine ⟨v, hv, ?_⟩
        have q3 : ∀ k, 1000 < k → impl_coloursCode.f k fr x y z m 1000000000000 = some 0 := fun k hk => by
          rw [impl_coloursCode_eq _ _ _ _ _ _ (by omega) (by omega) hk, if_pos hFx, if_pos hm, if_neg hpx]
        exact Ev.bind (g := fun k => impl_coloursCode.f k fr x y z m 1000000000000) ⟨1001, fun k hk => q3 k (by omega)⟩ (Ev.some_ hv (fun t => (t, (0 : Int))))
      obtain ⟨v, hv1, hv2⟩ := cnt a b c hL (by omega)
      have p2 : Ev (fun k => impl_power.f k m (a * c) 1000000000000) (pw m 1000000000000 (a * c).toNat 1) := ⟨1001, fun k hk => impl_power_eq hm.1 hm.2 (by omega) (by omega) (by omega) (by omega) (by omega)⟩
      obtain ⟨r, hr1, K3, hr2⟩ := couple_outer fr m cv a b c hL (by omega) v hv2 (fun x y z hx hlt => cnt x y z hx (by omega)) (a * c - 1).toNat 1 (pw m 1000000000000 (a * c).toNat 1) 0 (by omega) (by omega) (by omega)
      have hr : r = v := by
        refine Ev.unique (g := fun k => impl_countLean.f k a b c m) ?_ hv1
        refine Ev.step (fun k => ?_) (Ev.bind p2 (f := fun k t => impl_countLean.l0 k m t 1 a b c) hr1)
        simp only [impl_countLean.f, impl_Lattice_index.f, Option.bind_some]; rw [hN]
      have hcv : cv = pw m 1000000000000 (a * c).toNat 1 := by
        have x := (p1 (1001 + K2) (by omega)).1
        unfold impl_CountPatterns.f impl_Lattice_index.f at x
        rw [he _ (by omega), Option.bind_some, if_pos h0, Option.bind_some, hN, impl_power_eq hm.1 hm.2 (by omega) (by omega) (by omega) (by omega) (by omega)] at x
        exact (Prod.mk.inj (Option.some.inj x)).1.symm
      have hrange := pw_range (bound := 1000000000000) hm.1 hm.2 (a * c).toNat 1 (by omega) (by omega)
      refine ⟨1001 + K1 + K2 + K3 + 2, ?_⟩
      rw [start _ (by omega)]
      show laws_FnLeanCounts.j0 (1001 + K1 + K2 + K3 + 1 + 1) fr m e' cv false a b c = _
      simp only [laws_FnLeanCounts.j0, laws_FnLeanCounts.j1]
      rw [if_neg (by decide), if_pos h0, if_neg (by rw [hN]; simpa using h16)]
      have x := hr2 (1001 + K1 + K2 + K3) (by omega)
      have x : laws_FnLeanCounts.l0 (1001 + K1 + K2 + K3) fr m cv 0 1 a b c = _ := x
      rw [x, hr, hcv, show (0 : Int) + pw m 1000000000000 (a * c).toNat 1 - v + v = pw m 1000000000000 (a * c).toNat 1 by omega, w64s (by omega) (by omega)]
      simp
  · refine ⟨1001 + K1 + K2 + 2, ?_⟩
    rw [start _ (by omega)]
    show laws_FnLeanCounts.j0 (1001 + K1 + K2 + 1 + 1) fr m e' cv false a b c = _
    simp only [laws_FnLeanCounts.j0, laws_FnLeanCounts.j1]
    rw [if_neg (by decide), if_neg h0]
    simp

end Go.Proofs.Ytfkdcngpjppnbaa.Pure
