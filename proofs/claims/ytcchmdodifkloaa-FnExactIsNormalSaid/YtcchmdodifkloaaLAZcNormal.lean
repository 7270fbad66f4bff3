/- Plain lemmas on normal subgroups: inverses and products of three motions. -/
import Derived.Test.YtcchmdodifkloaaAid
import Derived.Test.YtcchmdodifkloaaPAx0
import Derived.Test.YtcchmdodifkloaaLAABasic
import Derived.Test.YtcchmdodifkloaaLAUOrder
import Derived.Test.YtcchmdodifkloaaLAVGroup
import Derived.Test.YtcchmdodifkloaaLAZbSubgroup
import Derived.Test.YtcchmdodifkloaaPAx0
import Derived.Test.YtcchmdodifkloaaPAx11
import Derived.Test.YtcchmdodifkloaaPAx15
import Derived.Test.YtcchmdodifkloaaPAx17
import Derived.Test.YtcchmdodifkloaaPAx22
import Derived.Test.YtcchmdodifkloaaPAx23
import Derived.Test.YtcchmdodifkloaaPAx8
import Derived.Test.YtcchmdodifkloaaPAx9
namespace Go.Proofs.Ytcchmdodifkloaa.LA
open Go.RowKit Go.Proofs.Ytcchmdodifkloaa.PA Go.Proofs.YtcchmdodifkloaaW.PrintWords Go.Proofs.YtcchmdodifkloaaW.PrintLast Go.Proofs.Ytcchmdodifkloaa.Aid
set_option linter.unusedVariables false
set_option linter.unusedSimpArgs false

theorem subCode_both (fr a b c : Int) (xs ys : List S55) (hx : (xs.length : Int) ≤ 1048576) (hy : (ys.length : Int) ≤ 1048576) : ∃ r : Int, Ev (fun k => spec_l15Code.f k fr a b c xs ys) r ∧ Ev (fun k => impl_subCode.f k fr a b c xs ys) r ∧
    (r = 0 → FL fr a b c ∧ xs.length ≤ 48 ∧ (∀ j (hj : j < xs.length), Good fr a b c xs[j]) ∧ Incr xs ∧ (∀ j (hj : j < ys.length), Good fr a b c ys[j]) ∧ Incr ys ∧ ys.length ≤ 768 ∧ ∀ y ∈ ys, y ∈ xs) := by
  obtain ⟨r1, r2, ⟨K1, s1⟩, ⟨K2, s2⟩, ⟨K3, s3⟩, n, g1, g2⟩ := groupCode2_both fr a b c xs ys hx hy
  have s1 : ∀ k, K1 ≤ k → spec_IsGroup.f k fr a b c xs = some r1 := s1
  have s2 : ∀ k, K2 ≤ k → spec_IsGroup.f k fr a b c ys = some r2 := s2
  have s3 : ∀ k, K3 ≤ k → impl_groupCode.f k fr a b c [xs, ys] = some (if FL fr a b c then code2 r1 r2 else 1) := s3
  have q := fun i => spec_l06Code_eq fr a b c i
  have sc : ∀ k, K1 + K2 ≤ k → spec_l07Code.f k fr a b c xs r2 = some (if FL fr a b c then code2 r1 r2 else 1) := fun k hk => by
    unfold spec_l07Code.f code2
    by_cases e2 : r2 = true
    · rw [if_pos e2, s1 k (by omega), Option.bind_some, q, Option.bind_some]
      by_cases e1 : r1 = true
      · rw [if_pos e1, if_pos e1, if_pos e2]
      · rw [if_neg e1, if_neg e1]
    · rw [if_neg e2, q, Option.bind_some]
      have e2' : r2 = false := by simpa using e2
      subst e2'
      by_cases e1 : r1 = true
      · rw [if_pos e1]
      · rw [if_neg e1, if_neg (show ¬ (false = true) by decide)]
  have hsp : ∀ k, K1 + K2 ≤ k → spec_l15Code.f k fr a b c xs ys = if (if FL fr a b c then code2 r1 r2 else 1) = 0 then (if (xs.length : Int) > 48 then some 3 else ((spec_l15Inside.f k xs ys).bind fun t => if t = true then some 0 else some 5)) else some (if FL fr a b c then code2 r1 r2 else 1) := fun k hk => by
    unfold spec_l15Code.f
    rw [s2 k (by omega), Option.bind_some, sc k hk, Option.bind_some]
  have him : ∀ k, K3 ≤ k → impl_subCode.f k fr a b c xs ys = if (if FL fr a b c then code2 r1 r2 else 1) = 0 then (if (xs.length : Int) > 48 then some 3 else ((impl_containsAll.f k xs ys).bind fun t => if t = true then some 0 else some 5)) else some (if FL fr a b c then code2 r1 r2 else 1) := fun k hk => by
    unfold impl_subCode.f
    rw [s3 k hk, Option.bind_some]
  by_cases e0 : (if FL fr a b c then code2 r1 r2 else 1) = 0
  · have h : FL fr a b c := Decidable.byContradiction fun h => by rw [if_neg h] at e0; exact absurd e0 (show ¬ (1 : Int) = 0 by decide)
    rw [if_pos h] at e0
    have e1 : r1 = true := by
      cases r1
      · exact absurd e0 (show ¬ (2 : Int) = 0 by decide)
      · rfl
    have e2 : r2 = true := by
      subst e1
      cases r2
      · exact absurd e0 (show ¬ (2 : Int) = 0 by decide)
      · rfl
    by_cases hl : (xs.length : Int) > 48
    · refine ⟨3, ⟨K1 + K2, fun k hk => ?_⟩, ⟨K3, fun k hk => ?_⟩, fun h3 => absurd h3 (by decide)⟩
      · show spec_l15Code.f k fr a b c xs ys = _
        rw [hsp k hk, if_pos h, if_pos e0, if_pos hl]
      · show impl_subCode.f k fr a b c xs ys = _
        rw [him k hk, if_pos h, if_pos e0, if_pos hl]
    · have hi := inside_loop xs ys hx (g1 e1).2.1 hy ys.length 0 (by omega) rfl
      obtain ⟨K4, s4⟩ := hi
      have s4 : ∀ k, K4 ≤ k → spec_l15Inside.f k xs ys = some (!((ys.drop 0).any fun y => !(impl_containsAll.hasB xs y))) := s4
      have s5 : ∀ k, xs.length + 1 ≤ k → impl_containsAll.f k xs ys = some (!((ys.drop 0).any fun y => !(impl_containsAll.hasB xs y))) := fun k hk => by
        unfold impl_containsAll.f
        rw [if_pos (by omega), List.drop_zero]
      refine ⟨if (!((ys.drop 0).any fun y => !(impl_containsAll.hasB xs y))) = true then 0 else 5, ⟨K1 + K2 + K4, fun k hk => ?_⟩, ⟨K3 + xs.length + 1, fun k hk => ?_⟩, fun h0 => ⟨h, by omega, (g1 e1).1, (g1 e1).2.1, (g2 e2).1, (g2 e2).2.1, (g2 e2).2.2, fun y hy' => ?_⟩⟩
      · show spec_l15Code.f k fr a b c xs ys = _
        rw [hsp k (by omega), if_pos h, if_pos e0, if_neg hl, s4 k (by omega), Option.bind_some]
        split <;> rfl
      · show impl_subCode.f k fr a b c xs ys = _
        rw [him k (by omega), if_pos h, if_pos e0, if_neg hl, s5 k (by omega), Option.bind_some]
        split <;> rfl
      · have ht : (!((ys.drop 0).any fun y => !(impl_containsAll.hasB xs y))) = true := Decidable.byContradiction fun hn => by rw [if_neg hn] at h0; exact absurd h0 (by decide)
        rw [List.drop_zero, Bool.not_eq_true', List.any_eq_false] at ht
        have := ht y hy'
        exact (hasB_iff xs y).1 (by simpa using this)
  · refine ⟨if FL fr a b c then code2 r1 r2 else 1, ⟨K1 + K2, fun k hk => ?_⟩, ⟨K3, fun k hk => ?_⟩, fun h0 => absurd h0 e0⟩
    · show spec_l15Code.f k fr a b c xs ys = _
      rw [hsp k hk, if_neg e0]
    · show impl_subCode.f k fr a b c xs ys = _
      rw [him k hk, if_neg e0]
theorem um4 {u x B : Int} (h : -4 ≤ u ∧ u ≤ 4) (hx : -B ≤ x ∧ x ≤ B) : -(4 * B) ≤ u * x ∧ u * x ≤ 4 * B := by
  have : u = -4 ∨ u = -3 ∨ u = -2 ∨ u = -1 ∨ u = 0 ∨ u = 1 ∨ u = 2 ∨ u = 3 ∨ u = 4 := by omega
  rcases this with rfl | rfl | rfl | rfl | rfl | rfl | rfl | rfl | rfl <;> omega
/-- A motion with a small matrix and a vector within B. -/
def Sm (A B : Int) (m : S55) : Prop := ((-A ≤ m.f0.f0 ∧ m.f0.f0 ≤ A) ∧ (-A ≤ m.f0.f1 ∧ m.f0.f1 ≤ A) ∧ (-A ≤ m.f0.f2 ∧ m.f0.f2 ≤ A) ∧ (-A ≤ m.f0.f3 ∧ m.f0.f3 ≤ A)) ∧ (-B ≤ m.f1.f0 ∧ m.f1.f0 ≤ B) ∧ (-B ≤ m.f1.f1 ∧ m.f1.f1 ≤ B)
theorem Sm.more {A B A' B' : Int} {m : S55} (h : Sm A B m) (ha : A ≤ A') (hb : B ≤ B') : Sm A' B' m := by
  obtain ⟨⟨m0, m1, m2, m3⟩, m4, m5⟩ := h
  exact ⟨⟨⟨by omega, by omega⟩, ⟨by omega, by omega⟩, ⟨by omega, by omega⟩, by omega, by omega⟩, ⟨by omega, by omega⟩, by omega, by omega⟩
theorem times_eq {m n : S55} (hm : Sm 4 100000 m) (hn : Sm 4 100000 n) :
    impl_Motion_times.f m.f0.f0 m.f0.f1 m.f0.f2 m.f0.f3 m.f1.f0 m.f1.f1 n.f0.f0 n.f0.f1 n.f0.f2 n.f0.f3 n.f1.f0 n.f1.f1 = some ((comp m n).f0.f0, (comp m n).f0.f1, (comp m n).f0.f2, (comp m n).f0.f3, (comp m n).f1.f0, (comp m n).f1.f1) ∧ Sm 32 1000000 (comp m n) := by
  obtain ⟨⟨m0, m1, m2, m3⟩, ⟨m4, m4'⟩, m5, m5'⟩ := hm
  obtain ⟨⟨n0, n1, n2, n3⟩, ⟨n4, n4'⟩, n5, n5'⟩ := hn
  have p1 := um4 (B := 4) m0 n0
  have p2 := um4 (B := 4) m1 n2
  have p3 := um4 (B := 4) m0 n1
  have p4 := um4 (B := 4) m1 n3
  have p5 := um4 (B := 4) m2 n0
  have p6 := um4 (B := 4) m3 n2
  have p7 := um4 (B := 4) m2 n1
  have p8 := um4 (B := 4) m3 n3
  have p9 := um4 (B := 100000) (x := n.f1.f0) m0 (by omega)
  have p10 := um4 (B := 100000) (x := n.f1.f1) m1 (by omega)
  have p11 := um4 (B := 100000) (x := n.f1.f0) m2 (by omega)
  have p12 := um4 (B := 100000) (x := n.f1.f1) m3 (by omega)
  unfold Sm impl_Motion_times.f impl_Mat_times.f impl_Mat_apply.f impl_Vec_add.f comp
  simp only [Option.bind_some]
  generalize m.f0.f0 * n.f0.f0 = q1 at *
  generalize m.f0.f1 * n.f0.f2 = q2 at *
  generalize m.f0.f0 * n.f0.f1 = q3 at *
  generalize m.f0.f1 * n.f0.f3 = q4 at *
  generalize m.f0.f2 * n.f0.f0 = q5 at *
  generalize m.f0.f3 * n.f0.f2 = q6 at *
  generalize m.f0.f2 * n.f0.f1 = q7 at *
  generalize m.f0.f3 * n.f0.f3 = q8 at *
  generalize m.f0.f0 * n.f1.f0 = q9 at *
  generalize m.f0.f1 * n.f1.f1 = q10 at *
  generalize m.f0.f2 * n.f1.f0 = q11 at *
  generalize m.f0.f3 * n.f1.f1 = q12 at *
  refine ⟨?_, ⟨⟨by omega, by omega⟩, ⟨by omega, by omega⟩, ⟨by omega, by omega⟩, by omega, by omega⟩, ⟨by omega, by omega⟩, by omega, by omega⟩
  rw [w64s (x := q1) (by omega) (by omega), w64s (x := q2) (by omega) (by omega), w64s (x := q3) (by omega) (by omega), w64s (x := q4) (by omega) (by omega), w64s (x := q5) (by omega) (by omega), w64s (x := q6) (by omega) (by omega), w64s (x := q7) (by omega) (by omega), w64s (x := q8) (by omega) (by omega), w64s (x := q9) (by omega) (by omega), w64s (x := q10) (by omega) (by omega), w64s (x := q11) (by omega) (by omega), w64s (x := q12) (by omega) (by omega),
    w64s (x := q1 + q2) (by omega) (by omega), w64s (x := q3 + q4) (by omega) (by omega), w64s (x := q5 + q6) (by omega) (by omega), w64s (x := q7 + q8) (by omega) (by omega), w64s (x := q9 + q10) (by omega) (by omega), w64s (x := q11 + q12) (by omega) (by omega), w64s (x := q9 + q10 + m.f1.f0) (by omega) (by omega), w64s (x := q11 + q12 + m.f1.f1) (by omega) (by omega)]
theorem comp_assoc (x y z : S55) : comp (comp x y) z = comp x (comp y z) := by
  unfold comp
  simp only [Int.add_mul, Int.mul_add, Int.mul_assoc]
  congr 2 <;> omega
theorem inv_same (m : S55) : spec_l05Inverse.f m.f0.f0 m.f0.f1 m.f0.f2 m.f0.f3 m.f1.f0 m.f1.f1 = impl_Motion_inverse.f m.f0.f0 m.f0.f1 m.f0.f2 m.f0.f3 m.f1.f0 m.f1.f1 := rfl
theorem inv_small {fr a b c : Int} (h : FL fr a b c) {m : S55} (g : Good fr a b c m) : ∃ i : S55, Sm 2 300 i ∧ impl_Motion_inverse.f m.f0.f0 m.f0.f1 m.f0.f2 m.f0.f3 m.f1.f0 m.f1.f1 = some (i.f0.f0, i.f0.f1, i.f0.f2, i.f0.f3, i.f1.f0, i.f1.f1) := by
  obtain ⟨⟨m0, m1, m2, m3⟩, ⟨m4, m4'⟩, m5, m5'⟩ := g.small h
  have p1 := um (B := 1) m0 m3
  have p2 := um (B := 1) m1 m2
  obtain ⟨D, hD⟩ : ∃ D : Int, D = m.f0.f0 * m.f0.f3 - m.f0.f1 * m.f0.f2 := ⟨_, rfl⟩
  have hD' : -2 ≤ D ∧ D ≤ 2 := by omega
  have d1 : impl_Mat_det.f m.f0.f0 m.f0.f1 m.f0.f2 m.f0.f3 = some D := by
    unfold impl_Mat_det.f
    rw [w64s (x := m.f0.f0 * m.f0.f3) (by omega) (by omega), w64s (x := m.f0.f1 * m.f0.f2) (by omega) (by omega), w64s (by omega) (by omega), hD]
  have t : ∀ {x : Int}, -1 ≤ x ∧ x ≤ 1 → (-2 ≤ D * x ∧ D * x ≤ 2) ∧ (-2 ≤ -D * x ∧ -D * x ≤ 2) := fun {x} hx => by
    have e1 : D * x = x * D := Int.mul_comm _ _
    have e2 : -D * x = -(x * D) := by rw [Int.neg_mul, e1]
    have := um (B := 2) (x := D) hx (by omega)
    rw [e1, e2]; omega
  have q1 := (t m3).1
  have q2 := (t m1).2
  have q3 := (t m2).2
  have q4 := (t m0).1
  have hm : impl_Mat_inverse.f m.f0.f0 m.f0.f1 m.f0.f2 m.f0.f3 = some (D * m.f0.f3, -D * m.f0.f1, -D * m.f0.f2, D * m.f0.f0) := by
    unfold impl_Mat_inverse.f
    rw [d1, Option.bind_some, w64s (x := -D) (by omega) (by omega), w64s (x := D * m.f0.f3) (by omega) (by omega), w64s (x := -D * m.f0.f1) (by omega) (by omega), w64s (x := -D * m.f0.f2) (by omega) (by omega), w64s (x := D * m.f0.f0) (by omega) (by omega)]
  generalize D * m.f0.f3 = i0 at *
  generalize -D * m.f0.f1 = i1 at *
  generalize -D * m.f0.f2 = i2 at *
  generalize D * m.f0.f0 = i3 at *
  have s1 := um4 (u := i0) (B := 64) (x := m.f1.f0) (by omega) (by omega)
  have s2 := um4 (u := i1) (B := 64) (x := m.f1.f1) (by omega) (by omega)
  have s3 := um4 (u := i2) (B := 64) (x := m.f1.f0) (by omega) (by omega)
  have s4 := um4 (u := i3) (B := 64) (x := m.f1.f1) (by omega) (by omega)
  have b2 : ∀ {u x : Int}, -2 ≤ u ∧ u ≤ 2 → -64 ≤ x ∧ x ≤ 64 → -128 ≤ u * x ∧ u * x ≤ 128 := fun {u x} hu hx => by
    have : u = -2 ∨ u = -1 ∨ u = 0 ∨ u = 1 ∨ u = 2 := by omega
    rcases this with rfl | rfl | rfl | rfl | rfl <;> omega
  have z1 := b2 (u := i0) (x := m.f1.f0) q1 (by omega)
  have z2 := b2 (u := i1) (x := m.f1.f1) q2 (by omega)
  have z3 := b2 (u := i2) (x := m.f1.f0) q3 (by omega)
  have z4 := b2 (u := i3) (x := m.f1.f1) q4 (by omega)
  refine ⟨⟨⟨i0, i1, i2, i3⟩, ⟨-1 * (i0 * m.f1.f0 + i1 * m.f1.f1), -1 * (i2 * m.f1.f0 + i3 * m.f1.f1)⟩⟩, ?_, ?_⟩
  · unfold Sm
    dsimp only
    exact ⟨⟨q1, q2, q3, q4⟩, ⟨by omega, by omega⟩, by omega, by omega⟩
  · unfold impl_Motion_inverse.f impl_Mat_apply.f impl_Vec_times.f
    rw [hm]
    simp only [Option.bind_some]
    rw [w64s (x := i0 * m.f1.f0) (by omega) (by omega), w64s (x := i1 * m.f1.f1) (by omega) (by omega), w64s (x := i2 * m.f1.f0) (by omega) (by omega), w64s (x := i3 * m.f1.f1) (by omega) (by omega), w64s (x := i0 * m.f1.f0 + i1 * m.f1.f1) (by omega) (by omega), w64s (x := i2 * m.f1.f0 + i3 * m.f1.f1) (by omega) (by omega), w64s (x := -1 * (i0 * m.f1.f0 + i1 * m.f1.f1)) (by omega) (by omega), w64s (x := -1 * (i2 * m.f1.f0 + i3 * m.f1.f1)) (by omega) (by omega)]

end Go.Proofs.Ytcchmdodifkloaa.LA
