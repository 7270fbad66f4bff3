/- Plain lemmas on two groups: their code, and whether one is in the other. -/
import Derived.Test.YtcchmdodifkloaaAid
import Derived.Test.YtcchmdodifkloaaPAx0
import Derived.Test.YtcchmdodifkloaaLAABasic
import Derived.Test.YtcchmdodifkloaaLAUOrder
import Derived.Test.YtcchmdodifkloaaLAVGroup
import Derived.Test.YtcchmdodifkloaaLAWIsgroup
import Derived.Test.YtcchmdodifkloaaPAx0
import Derived.Test.YtcchmdodifkloaaPAx10
import Derived.Test.YtcchmdodifkloaaPAx13
import Derived.Test.YtcchmdodifkloaaPAx14
import Derived.Test.YtcchmdodifkloaaPAx15
import Derived.Test.YtcchmdodifkloaaPAx8
import Derived.Test.YtcchmdodifkloaaPAx9
namespace Go.Proofs.Ytcchmdodifkloaa.LA
open Go.RowKit Go.Proofs.Ytcchmdodifkloaa.PA Go.Proofs.YtcchmdodifkloaaW.PrintWords Go.Proofs.YtcchmdodifkloaaW.PrintLast Go.Proofs.Ytcchmdodifkloaa.Aid
set_option linter.unusedVariables false
set_option linter.unusedSimpArgs false

/-- The code of two lists. -/
def code2 (r1 r2 : Bool) : Int := if r1 = true then (if r2 = true then 0 else 2) else 2
theorem groupCode2_both (fr a b c : Int) (xs ys : List S55) (hx : (xs.length : Int) ≤ 1048576) (hy : (ys.length : Int) ≤ 1048576) : ∃ r1 r2 : Bool, Ev (fun k => spec_IsGroup.f k fr a b c xs) r1 ∧ Ev (fun k => spec_IsGroup.f k fr a b c ys) r2 ∧
    Ev (fun k => impl_groupCode.f k fr a b c [xs, ys]) (if FL fr a b c then code2 r1 r2 else 1) ∧ (¬ FL fr a b c → r1 = false ∧ r2 = false) ∧
    (r1 = true → (∀ j (hj : j < xs.length), Good fr a b c xs[j]) ∧ Incr xs ∧ xs.length ≤ 768) ∧ (r2 = true → (∀ j (hj : j < ys.length), Good fr a b c ys[j]) ∧ Incr ys ∧ ys.length ≤ 768) := by
  obtain ⟨r1, s1, i1, n1, g1⟩ := isGroup_both fr a b c xs hx
  obtain ⟨r2, s2, i2, n2, g2⟩ := isGroup_both fr a b c ys hy
  refine ⟨r1, r2, s1, s2, ?_, fun h => ⟨n1 h, n2 h⟩, g1, g2⟩
  have q := impl_frameCode_eq fr a b c
  by_cases h : FL fr a b c
  · rw [if_pos h] at q
    obtain ⟨K1, h1⟩ := i1 h
    obtain ⟨K2, h2⟩ := i2 h
    rw [if_pos h]
    refine ⟨K1 + K2 + 3, fun k hk => ?_⟩
    obtain ⟨k, rfl⟩ : ∃ m, k = m + 3 := ⟨k - 3, by omega⟩
    have e1 : impl_isGroup.f (k + 2) fr a b c xs = some r1 := h1 (k + 2) (by omega)
    have e2 : impl_isGroup.f (k + 1) fr a b c ys = some r2 := h2 (k + 1) (by omega)
    show impl_groupCode.f (k + 3) fr a b c [xs, ys] = _
    unfold impl_groupCode.f
    rw [q, Option.bind_some, if_pos rfl]
    have st : ∀ (i : Nat) (k : Nat) (z : List S55) (r : Bool), i < 2 → rd_L9 [xs, ys] (i : Int) = z → impl_isGroup.f k fr a b c z = some r → impl_groupCode.l0 (k + 1) fr [xs, ys] (([xs, ys].length : Nat) : Int) (i : Int) a b c = if r = true then impl_groupCode.l0 k fr [xs, ys] (([xs, ys].length : Nat) : Int) ((i + 1 : Nat) : Int) a b c else some 2 := by
      intro i k z r hi hz hr
      have hlen : (([xs, ys].length : Nat) : Int) = 2 := rfl
      have hw : wrap64 ((i : Int) + 1) = ((i + 1 : Nat) : Int) := by rw [w64s (by omega) (by omega)]; omega
      simp only [impl_groupCode.l0]
      rw [if_pos (by rw [hlen]; omega), if_pos (by omega), if_pos (by rw [hlen]; omega), hz, hr, Option.bind_some, hw]
    have en : ∀ k, impl_groupCode.l0 (k + 1) fr [xs, ys] (([xs, ys].length : Nat) : Int) ((2 : Nat) : Int) a b c = some 0 := by
      intro k
      simp only [impl_groupCode.l0]
      rw [if_neg (by show ¬ ((2 : Nat) : Int) < ((2 : Nat) : Int); omega)]
    have t1 := st 0 (k + 2) xs r1 (by omega) rfl e1
    have t2 := st 1 (k + 1) ys r2 (by omega) rfl e2
    show impl_groupCode.l0 (k + 2 + 1) fr [xs, ys] (([xs, ys].length : Nat) : Int) ((0 : Nat) : Int) a b c = _
    rw [t1]
    unfold code2
    by_cases c1 : r1 = true
    · rw [if_pos c1, if_pos c1]
      show impl_groupCode.l0 (k + 1 + 1) fr [xs, ys] (([xs, ys].length : Nat) : Int) ((1 : Nat) : Int) a b c = _
      rw [t2]
      by_cases c2 : r2 = true
      · rw [if_pos c2, if_pos c2]; exact en k
      · rw [if_neg c2, if_neg c2]
    · rw [if_neg c1, if_neg c1]
  · rw [if_neg h] at q
    rw [if_neg h]
    refine Ev.all fun k => ?_
    unfold impl_groupCode.f
    rw [q, Option.bind_some, if_neg (by decide)]
theorem hasB_iff (l : List S55) (x : S55) : impl_containsAll.hasB l x = true ↔ x ∈ l := by
  unfold impl_containsAll.hasB
  rw [List.any_eq_true]
  constructor
  · rintro ⟨y, hy, e⟩
    have : x = y := by
      obtain ⟨⟨a0, a1, a2, a3⟩, ⟨a4, a5⟩⟩ := x
      obtain ⟨⟨b0, b1, b2, b3⟩, ⟨b4, b5⟩⟩ := y
      simp only [impl_containsAll.eqB, Bool.and_eq_true, beq_iff_eq] at e
      obtain ⟨⟨h0, h1, h2, h3⟩, h4, h5⟩ := e
      subst h0 h1 h2 h3 h4 h5
      rfl
    exact this ▸ hy
  · intro h
    exact ⟨x, h, by simp [impl_containsAll.eqB]⟩
theorem hasB_any (l : List S55) (y : S55) : (l.any fun x => mapMo.eqB x y) = impl_containsAll.hasB l y := by
  have h1 := any_eqB l y
  have h2 := hasB_iff l y
  cases e : (l.any fun x => mapMo.eqB x y) <;> cases e' : impl_containsAll.hasB l y
  · rfl
  · exact absurd (h1.2 (h2.1 e')) (by rw [e]; decide)
  · exact absurd (h2.2 (h1.1 e)) (by rw [e']; decide)
  · rfl
theorem inside_loop (xs ys : List S55) (hx : (xs.length : Int) ≤ 1048576) (hs : Incr xs) (hy : (ys.length : Int) ≤ 1048576) (d : Nat) : ∀ i : Nat, i ≤ ys.length → ys.length - i = d → Ev (fun k => spec_l15Inside.l0 k xs ys i) (!((ys.drop i).any fun y => !(impl_containsAll.hasB xs y))) := by
  induction d with
  | zero =>
    intro i hi hd
    rw [List.drop_eq_nil_of_le (by omega)]
    refine Ev.one (fun k => ?_)
    simp only [spec_l15Inside.l0]; rw [if_neg (by omega)]; rfl
  | succ d ih =>
    intro i hi hd
    have h1 : i < ys.length := by omega
    have hw : wrap64 ((i : Int) + 1) = ((i + 1 : Nat) : Int) := by rw [w64s (by omega) (by omega)]; omega
    obtain ⟨K, hK⟩ := ih (i + 1) (by omega) (by omega)
    refine ⟨K + 2000001, fun k hk => ?_⟩
    obtain ⟨k, rfl⟩ : ∃ m, k = m + 1 := ⟨k - 1, by omega⟩
    have hr : spec_l15Inside.l0 k xs ys ((i + 1 : Nat) : Int) = some (!((ys.drop (i + 1)).any fun y => !(impl_containsAll.hasB xs y))) := hK k (by omega)
    show spec_l15Inside.l0 (k + 1) xs ys i = _
    rw [List.drop_eq_getElem_cons h1, List.any_cons]
    simp only [spec_l15Inside.l0]
    rw [if_pos (by omega), if_pos (by omega), rd_mo _ _ h1, spec_has6_eq xs hx hs ys[i] k (by omega), Option.bind_some, hasB_any]
    cases e : impl_containsAll.hasB xs ys[i] with
    | true => rw [if_pos rfl, hw, hr]; rfl
    | false => rw [if_neg (by decide)]; rfl
theorem inside_both (xs ys : List S55) (hx : (xs.length : Int) ≤ 1048576) (hs : Incr xs) (hy : (ys.length : Int) ≤ 1048576) : ∃ r : Bool, Ev (fun k => spec_l15Inside.f k xs ys) r ∧ Ev (fun k => impl_containsAll.f k xs ys) r := by
  have h := inside_loop xs ys hx hs hy ys.length 0 (by omega) rfl
  refine ⟨_, h, ⟨xs.length + 1, fun k hk => ?_⟩⟩
  show impl_containsAll.f k xs ys = _
  unfold impl_containsAll.f
  rw [if_pos (by omega), List.drop_zero]
theorem both_IsSubgroup (fr a b c : Int) (xs ys : List S55) (hx : (xs.length : Int) ≤ 1048576) (hy : (ys.length : Int) ≤ 1048576) : ∃ r : Bool, Ev (fun k => spec_IsSubgroup.f k fr a b c xs ys) r ∧ Ev (fun k => impl_IsSubgroup.f k fr a b c xs ys) r := by
  obtain ⟨r1, r2, ⟨K1, s1⟩, ⟨K2, s2⟩, ⟨K3, s3⟩, n, g1, g2⟩ := groupCode2_both fr a b c xs ys hx hy
  have s1 : ∀ k, K1 ≤ k → spec_IsGroup.f k fr a b c xs = some r1 := s1
  have s2 : ∀ k, K2 ≤ k → spec_IsGroup.f k fr a b c ys = some r2 := s2
  have s3 : ∀ k, K3 ≤ k → impl_groupCode.f k fr a b c [xs, ys] = some (if FL fr a b c then code2 r1 r2 else 1) := s3
  by_cases e1 : r1 = true
  · by_cases e2 : r2 = true
    · have h : FL fr a b c := Decidable.byContradiction fun h => absurd ((n h).1.symm.trans e1) (by decide)
      obtain ⟨r, ⟨K4, s4⟩, ⟨K5, s5⟩⟩ := inside_both xs ys hx (g1 e1).2.1 hy
      have s4 : ∀ k, K4 ≤ k → spec_l15Inside.f k xs ys = some r := s4
      have s5 : ∀ k, K5 ≤ k → impl_containsAll.f k xs ys = some r := s5
      refine ⟨r, ⟨K1 + K2 + K4, fun k hk => ?_⟩, ⟨K3 + K5, fun k hk => ?_⟩⟩
      · show spec_IsSubgroup.f k fr a b c xs ys = _
        unfold spec_IsSubgroup.f
        rw [s1 k (by omega), Option.bind_some, if_pos e1, s2 k (by omega), Option.bind_some, if_pos e2, s4 k (by omega), Option.bind_some]
      · show impl_IsSubgroup.f k fr a b c xs ys = _
        unfold impl_IsSubgroup.f
        rw [s3 k (by omega), Option.bind_some, if_pos h, if_pos (by unfold code2; rw [if_pos e1, if_pos e2]), s5 k (by omega), Option.bind_some]
    · refine ⟨false, ⟨K1 + K2, fun k hk => ?_⟩, ⟨K3, fun k hk => ?_⟩⟩
      · show spec_IsSubgroup.f k fr a b c xs ys = _
        unfold spec_IsSubgroup.f
        rw [s1 k (by omega), Option.bind_some, if_pos e1, s2 k (by omega), Option.bind_some, if_neg e2]
      · show impl_IsSubgroup.f k fr a b c xs ys = _
        unfold impl_IsSubgroup.f
        rw [s3 k (by omega), Option.bind_some, if_neg (by
          unfold code2; rw [if_pos e1, if_neg e2]
          by_cases h : FL fr a b c
          · rw [if_pos h]; decide
          · rw [if_neg h]; decide)]
  · refine ⟨false, ⟨K1, fun k hk => ?_⟩, ⟨K3, fun k hk => ?_⟩⟩
    · show spec_IsSubgroup.f k fr a b c xs ys = _
      unfold spec_IsSubgroup.f
      rw [s1 k (by omega), Option.bind_some, if_neg e1]
    · show impl_IsSubgroup.f k fr a b c xs ys = _
      unfold impl_IsSubgroup.f
      rw [s3 k (by omega), Option.bind_some, if_neg (by
        unfold code2; rw [if_neg e1]
        by_cases h : FL fr a b c
        · rw [if_pos h]; decide
        · rw [if_neg h]; decide)]

end Go.Proofs.Ytcchmdodifkloaa.LA
