import Derived.Test.YtedmadofpdkekaaAid
import Derived.Test.YtedmadofpdkekaaPAx0
import Derived.Test.YtedmadofpdkekaaLAABasic
import Derived.Test.YtedmadofpdkekaaLAWIsgroup
import Derived.Test.YtedmadofpdkekaaPAx0
import Derived.Test.YtedmadofpdkekaaPAx15
import Derived.Test.YtedmadofpdkekaaPAx17
import Derived.Test.YtedmadofpdkekaaPAx18
namespace Go.Proofs.Ytedmadofpdkekaa.LA
open Go.RowKit Go.Proofs.Ytedmadofpdkekaa.PA Go.Proofs.YtedmadofpdkekaaW.PrintWords Go.Proofs.YtedmadofpdkekaaW.PrintLast Go.Proofs.Ytedmadofpdkekaa.Aid
set_option linter.unusedVariables false
set_option linter.unusedSimpArgs false
def matOf (m : S55) : S51 := ⟨m.f0.f0, m.f0.f1, m.f0.f2, m.f0.f3⟩
theorem rd_last (x : List S51) (v : S51) : rd_T51 (x ++ [v]) ((x.length : Nat) : Int) = v := by
  unfold rd_T51; rw [Int.toNat_natCast]; simp [List.getD]
theorem neq_sym (p q : S51) : ((!(p.f0 == q.f0)) || ((!(p.f1 == q.f1)) || ((!(p.f2 == q.f2)) || (!(p.f3 == q.f3))))) = ((!(q.f0 == p.f0)) || ((!(q.f1 == p.f1)) || ((!(q.f2 == p.f2)) || (!(q.f3 == p.f3))))) := by
  rw [Bool.beq_comm (a := p.f0), Bool.beq_comm (a := p.f1), Bool.beq_comm (a := p.f2), Bool.beq_comm (a := p.f3)]
theorem point_loop (xs : List S55) (hl : (xs.length : Int) ≤ 1048576) (d : Nat) : ∀ (i : Nat) (x : List S51), i ≤ xs.length → xs.length - i = d → x.length ≤ i → (i = 0 → x = []) → (0 < i → 0 < x.length ∧ rd_T51 x ((x.length - 1 : Nat) : Int) = matOf (qr xs ((i - 1 : Nat) : Int))) →
    ∃ r : List S51, r.length ≤ xs.length ∧ Ev (fun k => spec_l06Point.l0 k xs x i) r ∧ Ev (fun k => impl_pointPart.l0 k x xs (xs.length : Int) i) r := by
  induction d with
  | zero =>
    intro i x hi hd hx _ _
    refine ⟨x, by omega, Ev.one (fun k => ?_), Ev.one (fun k => ?_)⟩
    · simp only [spec_l06Point.l0]; rw [if_neg (by omega)]
    · simp only [impl_pointPart.l0]; rw [if_neg (by omega)]
  | succ d ih =>
    intro i x hi hd hx hz hp
    have h1 : i < xs.length := by omega
    have hw : wrap64 ((i : Int) + 1) = ((i + 1 : Nat) : Int) := by rw [w64s (by omega) (by omega)]; omega
    have hc : x.length < 4398046511104 := by omega
    have grow : ∃ r : List S51, r.length ≤ xs.length ∧ Ev (fun k => spec_l06Point.l0 k xs (x ++ [matOf (qr xs (i : Int))]) ((i + 1 : Nat) : Int)) r ∧ Ev (fun k => impl_pointPart.l0 k (x ++ [matOf (qr xs (i : Int))]) xs (xs.length : Int) ((i + 1 : Nat) : Int)) r :=
      ih (i + 1) _ (by omega) (by omega) (by simp; omega) (by omega) (fun _ => ⟨by simp, by
        rw [show (x ++ [matOf (qr xs (i : Int))]).length - 1 = x.length by simp, rd_last]; rfl⟩)
    by_cases h0 : i = 0
    · obtain rfl := hz h0
      obtain ⟨r, hr, r1, r2⟩ := grow
      subst h0
      refine ⟨r, hr, Ev.step (fun k => ?_) r1, Ev.step (fun k => ?_) r2⟩
      · simp only [spec_l06Point.l0]
        rw [if_pos (by omega), if_pos (by rfl), if_pos (by omega), if_pos hc, hw]; rfl
      · simp only [impl_pointPart.l0]
        rw [if_pos (by omega), if_pos (by omega), if_pos (by omega), if_pos (by rfl), if_pos hc, hw]; rfl
    · obtain ⟨p1, p2⟩ := hp (by omega)
      have w1 : wrap64 ((i : Int) - 1) = ((i - 1 : Nat) : Int) := by rw [w64s (by omega) (by omega)]; omega
      have w2 : wrap64 ((x.length : Int) - 1) = ((x.length - 1 : Nat) : Int) := by rw [w64s (by omega) (by omega)]; omega
      by_cases e : ((!((matOf (qr xs (i : Int))).f0 == (matOf (qr xs ((i - 1 : Nat) : Int))).f0)) || ((!((matOf (qr xs (i : Int))).f1 == (matOf (qr xs ((i - 1 : Nat) : Int))).f1)) || ((!((matOf (qr xs (i : Int))).f2 == (matOf (qr xs ((i - 1 : Nat) : Int))).f2)) || (!((matOf (qr xs (i : Int))).f3 == (matOf (qr xs ((i - 1 : Nat) : Int))).f3))))) = true
      · have e' := e
        rw [neq_sym] at e'
        obtain ⟨r, hr, r1, r2⟩ := grow
        refine ⟨r, hr, Ev.step (fun k => ?_) r1, Ev.step (fun k => ?_) r2⟩
        · simp only [spec_l06Point.l0]
          rw [if_pos (by omega), if_neg (by omega), if_pos (by omega), w1, if_pos (by omega), if_pos (by omega)]
          refine (if_pos e).trans ?_; rw [if_pos hc, hw]; rfl
        · simp only [impl_pointPart.l0]
          rw [if_pos (by omega), if_pos (by omega), if_pos (by omega), if_neg (by omega), w2, if_pos (by omega), if_pos (by omega), p2]
          refine (if_pos e').trans ?_; rw [if_pos hc, hw]; rfl
      · have e' := e
        rw [neq_sym] at e'
        have same : matOf (qr xs (i : Int)) = matOf (qr xs ((i - 1 : Nat) : Int)) := by
          simp only [Bool.or_eq_true, Bool.not_eq_true', beq_eq_false_iff_ne, ne_eq, not_or, Decidable.not_not] at e
          obtain ⟨a1, a2, a3, a4⟩ := e
          unfold matOf at *
          simp only at a1 a2 a3 a4
          rw [a1, a2, a3, a4]
        obtain ⟨r, hr, r1, r2⟩ := ih (i + 1) x (by omega) (by omega) (by omega) (by omega) (fun _ => ⟨p1, by rw [p2, ← same]; rfl⟩)
        refine ⟨r, hr, Ev.step (fun k => ?_) r1, Ev.step (fun k => ?_) r2⟩
        · simp only [spec_l06Point.l0]
          rw [if_pos (by omega), if_neg (by omega), if_pos (by omega), w1, if_pos (by omega), if_pos (by omega)]
          refine (if_neg e).trans ?_; rw [hw]
        · simp only [impl_pointPart.l0]
          rw [if_pos (by omega), if_pos (by omega), if_pos (by omega), if_neg (by omega), w2, if_pos (by omega), if_pos (by omega), p2]
          refine (if_neg e').trans ?_; rw [hw]
theorem both_PointPart (fr a b c : Int) (xs : List S55) (hl : (xs.length : Int) ≤ 1048576) : ∃ r : List S51 × Int, (r.1.length : Int) ≤ 1048576 ∧ Ev (fun k => spec_PointPart.f k fr a b c xs) r ∧ Ev (fun k => impl_PointPart.f k fr a b c xs) r := by
  obtain ⟨r, ⟨K1, r1⟩, ⟨K2, r2⟩, r3⟩ := groupCode_both fr a b c xs hl
  have q := fun i => spec_l06Code_eq fr a b c i
  have g1 : ∀ k, K1 ≤ k → spec_IsGroup.f k fr a b c xs = some r := fun k hk => r1 k hk
  have hi : ∀ k, K2 ≤ k → impl_groupCode.f k fr a b c [xs] = some (if FL fr a b c then (if r = true then 0 else 2) else 1) := fun k hk => r2 k hk
  by_cases e : r = true
  · obtain ⟨h, hg, hs, hn⟩ := r3 e
    obtain ⟨l, hl', ⟨K3, n1⟩, ⟨K4, n2⟩⟩ := point_loop xs hl xs.length 0 [] (by omega) rfl (by simp) (fun _ => rfl) (fun h => absurd h (by omega))
    refine ⟨(l, 0), by show (l.length : Int) ≤ 1048576; omega, ⟨K1 + K3, fun k hk => ?_⟩, ⟨K2 + K4, fun k hk => ?_⟩⟩
    · have g : spec_l06Point.l0 k xs [] ((0 : Nat) : Int) = some l := n1 k (by omega)
      show spec_PointPart.f k fr a b c xs = _
      unfold spec_PointPart.f spec_l06Point.f
      rw [g1 k (by omega), Option.bind_some, q, if_pos h, if_pos e, Option.bind_some, if_pos rfl]
      show ((spec_l06Point.l0 k xs [] ((0 : Nat) : Int)).bind _) = _
      rw [g]; rfl
    · have g : impl_pointPart.l0 k [] xs (xs.length : Int) ((0 : Nat) : Int) = some l := n2 k (by omega)
      show impl_PointPart.f k fr a b c xs = _
      unfold impl_PointPart.f impl_pointPart.f
      rw [hi k (by omega), if_pos h, if_pos e, Option.bind_some, if_pos rfl]
      show ((impl_pointPart.l0 k [] xs (xs.length : Int) ((0 : Nat) : Int)).bind _) = _
      rw [g]; rfl
  · have hne : (if FL fr a b c then (if r = true then 0 else 2) else 1 : Int) ≠ 0 := by
      by_cases h : FL fr a b c
      · rw [if_pos h, if_neg e]; decide
      · rw [if_neg h]; decide
    refine ⟨([], if FL fr a b c then (if r = true then 0 else 2) else 1), by show ((([] : List S51).length : Nat) : Int) ≤ 1048576; decide, ⟨K1, fun k hk => ?_⟩, ⟨K2, fun k hk => ?_⟩⟩
    · show spec_PointPart.f k fr a b c xs = _
      unfold spec_PointPart.f
      rw [g1 k hk, Option.bind_some, q, Option.bind_some, if_neg hne]
    · show impl_PointPart.f k fr a b c xs = _
      unfold impl_PointPart.f
      rw [hi k hk, Option.bind_some, if_neg hne]
end Go.Proofs.Ytedmadofpdkekaa.LA
