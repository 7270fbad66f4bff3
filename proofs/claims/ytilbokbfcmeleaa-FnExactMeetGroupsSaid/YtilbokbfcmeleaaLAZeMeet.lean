/- Plain lemmas on the motions that are in two groups. -/
import Derived.Test.YtilbokbfcmeleaaAid
import Derived.Test.YtilbokbfcmeleaaPAx0
import Derived.Test.YtilbokbfcmeleaaLAABasic
import Derived.Test.YtilbokbfcmeleaaLAUOrder
import Derived.Test.YtilbokbfcmeleaaLAZbSubgroup
import Derived.Test.YtilbokbfcmeleaaPAx0
import Derived.Test.YtilbokbfcmeleaaPAx10
import Derived.Test.YtilbokbfcmeleaaPAx12
import Derived.Test.YtilbokbfcmeleaaPAx14
import Derived.Test.YtilbokbfcmeleaaPAx9
namespace Go.Proofs.Ytilbokbfcmeleaa.LA
open Go.RowKit Go.Proofs.Ytilbokbfcmeleaa.PA Go.Proofs.YtilbokbfcmeleaaW.PrintWords Go.Proofs.YtilbokbfcmeleaaW.PrintLast Go.Proofs.Ytilbokbfcmeleaa.Aid
set_option linter.unusedVariables false
set_option linter.unusedSimpArgs false

theorem mo_idx (l : List S48) (hl : (l.length : Int) ≤ 1048576) (x : S48) (d : Nat) : ∀ (i k : Nat), i ≤ l.length → l.length - i = d → d < k → ∃ r, impl_Motion_52.l0 k l (l.length : Int) (i : Int) x.f0.f0 x.f0.f1 x.f0.f2 x.f0.f3 x.f1.f0 x.f1.f1 = some r ∧ decide (r ≥ 0) = (l.drop i).any fun z => mapMo.eqB z x := by
  induction d with
  | zero =>
    intro i k hi hd hk
    obtain ⟨k, rfl⟩ : ∃ j, k = j + 1 := ⟨k - 1, by omega⟩
    refine ⟨-1, ?_, ?_⟩
    · simp only [impl_Motion_52.l0]; rw [if_neg (by omega)]
    · rw [List.drop_eq_nil_of_le (by omega)]; rfl
  | succ d ih =>
    intro i k hi hd hk
    obtain ⟨k, rfl⟩ : ∃ j, k = j + 1 := ⟨k - 1, by omega⟩
    have h1 : i < l.length := by omega
    have hr : rd_T48 l (i : Int) = l[i] := by unfold rd_T48; rw [Int.toNat_natCast]; simp [List.getD, h1]
    have hw : wrap64 ((i : Int) + 1) = ((i + 1 : Nat) : Int) := by rw [w64s (by omega) (by omega)]; omega
    rw [List.drop_eq_getElem_cons h1, List.any_cons]
    simp only [impl_Motion_52.l0]
    rw [if_pos (by omega), if_pos (by omega), if_pos (by omega), hr]
    by_cases e : l[i] = x
    · rw [(mapMo.eqB_iff l[i] x).2 e]
      exact ⟨i, if_pos (by rw [e]; simp), by simp⟩
    · have e' : mapMo.eqB l[i] x = false := Bool.eq_false_iff.2 (fun g => e ((mapMo.eqB_iff l[i] x).1 g))
      obtain ⟨r, r1, r2⟩ := ih (i + 1) k (by omega) (by omega) (by omega)
      refine ⟨r, ?_, by rw [r2, e']; rfl⟩
      rw [hw]
      refine (if_neg (fun g => e ?_)).trans r1
      obtain ⟨⟨a0, a1, a2, a3⟩, ⟨a4, a5⟩⟩ := x
      generalize l[i] = y at g ⊢
      obtain ⟨⟨b0, b1, b2, b3⟩, ⟨b4, b5⟩⟩ := y
      simp only [Bool.and_eq_true, beq_iff_eq] at g
      obtain ⟨⟨h0, h1, h2, h3⟩, h4, h5⟩ := g
      subst h0 h1 h2 h3 h4 h5
      rfl
theorem mo_contains (l : List S48) (hl : (l.length : Int) ≤ 1048576) (x : S48) {k : Nat} (hk : l.length < k) : impl_Motion_23.f k l x.f0.f0 x.f0.f1 x.f0.f2 x.f0.f3 x.f1.f0 x.f1.f1 = some (l.any fun z => mapMo.eqB z x) := by
  obtain ⟨r, r1, r2⟩ := mo_idx l hl x l.length 0 k (by omega) rfl hk
  unfold impl_Motion_23.f impl_Motion_52.f
  show ((impl_Motion_52.l0 k l (l.length : Int) ((0 : Nat) : Int) x.f0.f0 x.f0.f1 x.f0.f2 x.f0.f3 x.f1.f0 x.f1.f1).bind _) = _
  rw [r1, Option.bind_some, r2, List.drop_zero]
theorem meet_loop (xs ys : List S48) (hx : (xs.length : Int) ≤ 1048576) (hy : (ys.length : Int) ≤ 1048576) (hs : Incr ys) (d : Nat) : ∀ (i : Nat) (x : List S48), i ≤ xs.length → xs.length - i = d → x.length ≤ i →
    ∃ r : List S48, (r.length : Int) ≤ 1048576 ∧ Ev (fun k => spec_MeetGroups.l0 k xs ys x i) (r, 0) ∧ Ev (fun k => impl_MeetGroups.l0 k ys x xs (xs.length : Int) i) (r, 0) := by
  induction d with
  | zero =>
    intro i x hi hd hl
    refine ⟨x, by omega, Ev.one (fun k => ?_), Ev.one (fun k => ?_)⟩
    · simp only [spec_MeetGroups.l0]; rw [if_neg (by omega)]
    · simp only [impl_MeetGroups.l0]; rw [if_neg (by omega)]
  | succ d ih =>
    intro i x hi hd hl
    have h1 : i < xs.length := by omega
    have hw : wrap64 ((i : Int) + 1) = ((i + 1 : Nat) : Int) := by rw [w64s (by omega) (by omega)]; omega
    have hc : x.length < 2932031007402 := by omega
    have s6 := fun k hk => spec_has6_eq ys hy hs xs[i] k hk
    have s7 := fun k hk => mo_contains ys hy xs[i] (k := k) hk
    by_cases e : (ys.any fun z => mapMo.eqB z xs[i]) = true
    · obtain ⟨r, hr, ⟨K1, r1⟩, ⟨K2, r2⟩⟩ := ih (i + 1) (x ++ [⟨⟨xs[i].f0.f0, xs[i].f0.f1, xs[i].f0.f2, xs[i].f0.f3⟩, ⟨xs[i].f1.f0, xs[i].f1.f1⟩⟩]) (by omega) (by omega) (by simp; omega)
      refine ⟨r, hr, ⟨K1 + 2000001, fun k hk => ?_⟩, ⟨K2 + ys.length + 2, fun k hk => ?_⟩⟩
      · obtain ⟨k, rfl⟩ : ∃ m, k = m + 1 := ⟨k - 1, by omega⟩
        show spec_MeetGroups.l0 (k + 1) xs ys x i = _
        simp only [spec_MeetGroups.l0]
        rw [if_pos (by omega), if_pos (by omega), rd_mo _ _ h1, s6 k (by omega), Option.bind_some, if_pos e, if_pos hc, hw]
        exact r1 k (by omega)
      · obtain ⟨k, rfl⟩ : ∃ m, k = m + 1 := ⟨k - 1, by omega⟩
        show impl_MeetGroups.l0 (k + 1) ys x xs (xs.length : Int) i = _
        simp only [impl_MeetGroups.l0]
        rw [if_pos (by omega), if_pos (by omega), if_pos (by omega), rd_mo _ _ h1, s7 k (by omega), Option.bind_some, if_pos e, if_pos hc, hw]
        exact r2 k (by omega)
    · obtain ⟨r, hr, ⟨K1, r1⟩, ⟨K2, r2⟩⟩ := ih (i + 1) x (by omega) (by omega) (by omega)
      refine ⟨r, hr, ⟨K1 + 2000001, fun k hk => ?_⟩, ⟨K2 + ys.length + 2, fun k hk => ?_⟩⟩
      · obtain ⟨k, rfl⟩ : ∃ m, k = m + 1 := ⟨k - 1, by omega⟩
        show spec_MeetGroups.l0 (k + 1) xs ys x i = _
        simp only [spec_MeetGroups.l0]
        rw [if_pos (by omega), if_pos (by omega), rd_mo _ _ h1, s6 k (by omega), Option.bind_some, if_neg e, hw]
        exact r1 k (by omega)
      · obtain ⟨k, rfl⟩ : ∃ m, k = m + 1 := ⟨k - 1, by omega⟩
        show impl_MeetGroups.l0 (k + 1) ys x xs (xs.length : Int) i = _
        simp only [impl_MeetGroups.l0]
        rw [if_pos (by omega), if_pos (by omega), if_pos (by omega), rd_mo _ _ h1, s7 k (by omega), Option.bind_some, if_neg e, hw]
        exact r2 k (by omega)
theorem both_MeetGroups (fr a b c : Int) (xs ys : List S48) (hx : (xs.length : Int) ≤ 1048576) (hy : (ys.length : Int) ≤ 1048576) : ∃ r : List S48 × Int, (r.1.length : Int) ≤ 1048576 ∧ Ev (fun k => spec_MeetGroups.f k fr a b c xs ys) r ∧ Ev (fun k => impl_MeetGroups.f k fr a b c xs ys) r := by
  obtain ⟨r1, r2, ⟨K1, s1⟩, ⟨K2, s2⟩, ⟨K3, s3⟩, n, g1, g2⟩ := groupCode2_both fr a b c xs ys hx hy
  have s1 : ∀ k, K1 ≤ k → spec_IsGroup.f k fr a b c xs = some r1 := s1
  have s2 : ∀ k, K2 ≤ k → spec_IsGroup.f k fr a b c ys = some r2 := s2
  have s3 : ∀ k, K3 ≤ k → impl_groupCode.f k fr a b c [xs, ys] = some (if FL fr a b c then code2 r1 r2 else 1) := s3
  have q := fun i => spec_l06Code_eq fr a b c i
  have hcode : ∀ r : Bool, r = (r1 && r2) → (if FL fr a b c then code2 r1 r2 else 1 : Int) = (if FL fr a b c then (if r = true then 0 else 2) else 1) := fun r hr => by
    subst hr; unfold code2; cases r1 <;> cases r2 <;> rfl
  have hsp : ∀ k, K1 + K2 ≤ k → spec_MeetGroups.f k fr a b c xs ys = spec_MeetGroups.j0 k xs ys (if FL fr a b c then code2 r1 r2 else 1) := fun k hk => by
    unfold spec_MeetGroups.f
    rw [s1 k (by omega), Option.bind_some]
    by_cases e1 : r1 = true
    · rw [if_pos e1, s2 k (by omega), Option.bind_some, q, Option.bind_some, hcode r2 (by rw [e1]; rfl)]
    · rw [if_neg e1, q, Option.bind_some, hcode false (by cases r1 with | true => exact absurd rfl e1 | false => rfl)]
  have him : ∀ k, K3 ≤ k → impl_MeetGroups.f k fr a b c xs ys = if (if FL fr a b c then code2 r1 r2 else 1 : Int) = 0 then impl_MeetGroups.l0 k ys [] xs (xs.length : Int) 0 else some ([], if FL fr a b c then code2 r1 r2 else 1) := fun k hk => by
    unfold impl_MeetGroups.f
    rw [s3 k (by omega), Option.bind_some]
  by_cases e0 : (if FL fr a b c then code2 r1 r2 else 1 : Int) = 0
  · have h : FL fr a b c := Decidable.byContradiction fun h => by rw [if_neg h] at e0; exact absurd e0 (show ¬ (1 : Int) = 0 by decide)
    have e2 : r2 = true := by
      rw [if_pos h] at e0
      cases r1 <;> cases r2 <;> first | rfl | exact absurd e0 (show ¬ (2 : Int) = 0 by decide)
    obtain ⟨l, hl, ⟨K4, n1⟩, ⟨K5, n2⟩⟩ := meet_loop xs ys hx hy (g2 e2).2.1 xs.length 0 [] (by omega) rfl (by simp)
    refine ⟨(l, 0), hl, ⟨K1 + K2 + K4 + 1, fun k hk => ?_⟩, ⟨K3 + K5, fun k hk => ?_⟩⟩
    · show spec_MeetGroups.f k fr a b c xs ys = _
      obtain ⟨m, rfl⟩ : ∃ m, k = m + 1 := ⟨k - 1, by omega⟩
      rw [hsp _ (by omega)]
      simp only [spec_MeetGroups.j0]
      rw [if_pos e0]; exact n1 m (by omega)
    · show impl_MeetGroups.f k fr a b c xs ys = _
      rw [him _ (by omega), if_pos e0]; exact n2 k (by omega)
  · refine ⟨([], if FL fr a b c then code2 r1 r2 else 1), by show ((([] : List S48).length : Nat) : Int) ≤ 1048576; decide, ⟨K1 + K2 + 1, fun k hk => ?_⟩, ⟨K3, fun k hk => ?_⟩⟩
    · show spec_MeetGroups.f k fr a b c xs ys = _
      obtain ⟨m, rfl⟩ : ∃ m, k = m + 1 := ⟨k - 1, by omega⟩
      rw [hsp _ (by omega)]
      simp only [spec_MeetGroups.j0]
      rw [if_neg e0]
    · show impl_MeetGroups.f k fr a b c xs ys = _
      rw [him _ (by omega), if_neg e0]

end Go.Proofs.Ytilbokbfcmeleaa.LA
