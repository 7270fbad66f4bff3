/- Plain lemmas on CommutingOf: the motions of a group that commute with all of them. -/
import Derived.Test.YtilbokbfcmeleaaAid
import Derived.Test.YtilbokbfcmeleaaPAx0
import Derived.Test.YtilbokbfcmeleaaLAABasic
import Derived.Test.YtilbokbfcmeleaaLAUOrder
import Derived.Test.YtilbokbfcmeleaaLAVGroup
import Derived.Test.YtilbokbfcmeleaaLAZiClose
import Derived.Test.YtilbokbfcmeleaaLAZjGroup
import Derived.Test.YtilbokbfcmeleaaPAx0
import Derived.Test.YtilbokbfcmeleaaPAx10
import Derived.Test.YtilbokbfcmeleaaPAx15
namespace Go.Proofs.Ytilbokbfcmeleaa.LA
open Go.RowKit Go.Proofs.Ytilbokbfcmeleaa.PA Go.Proofs.YtilbokbfcmeleaaW.PrintWords Go.Proofs.YtilbokbfcmeleaaW.PrintLast Go.Proofs.Ytilbokbfcmeleaa.Aid
set_option linter.unusedVariables false
set_option linter.unusedSimpArgs false

def comB (a b c : Int) (x y : S48) : Bool := ((prodM a b c x y).f0.f0 == (prodM a b c y x).f0.f0 && ((prodM a b c x y).f0.f1 == (prodM a b c y x).f0.f1 && ((prodM a b c x y).f0.f2 == (prodM a b c y x).f0.f2 && ((prodM a b c x y).f0.f3 == (prodM a b c y x).f0.f3)))) && ((prodM a b c x y).f1.f0 == (prodM a b c y x).f1.f0 && ((prodM a b c x y).f1.f1 == (prodM a b c y x).f1.f1))
theorem spec_prod {fr a b c : Int} (h : FL fr a b c) {x y : S48} (gx : Good fr a b c x) (gy : Good fr a b c y) : spec_l15Product.f a b c x.f0.f0 x.f0.f1 x.f0.f2 x.f0.f3 x.f1.f0 x.f1.f1 y.f0.f0 y.f0.f1 y.f0.f2 y.f0.f3 y.f1.f0 y.f1.f1 = some ((prodM a b c x y).f0.f0, (prodM a b c x y).f0.f1, (prodM a b c x y).f0.f2, (prodM a b c x y).f0.f3, (prodM a b c x y).f1.f0, (prodM a b c x y).f1.f1) := by
  obtain ⟨⟨p, s1, s2⟩, -⟩ := alike_comp h (alike_self h gx) gy
  unfold spec_l15Product.f
  rw [s1, Option.bind_some]
  dsimp only
  rw [s2, Option.bind_some]
theorem impl_prod {fr a b c : Int} (h : FL fr a b c) {x y : S48} (gx : Good fr a b c x) (gy : Good fr a b c y) : impl_Lattice_compose.f a b c x.f0.f0 x.f0.f1 x.f0.f2 x.f0.f3 x.f1.f0 x.f1.f1 y.f0.f0 y.f0.f1 y.f0.f2 y.f0.f3 y.f1.f0 y.f1.f1 = some ((prodM a b c x y).f0.f0, (prodM a b c x y).f0.f1, (prodM a b c x y).f0.f2, (prodM a b c x y).f0.f3, (prodM a b c x y).f1.f0, (prodM a b c x y).f1.f1) := by
  obtain ⟨-, p, s1, s2⟩ := alike_comp h (alike_self h gx) gy
  unfold impl_Lattice_compose.f
  rw [s1, Option.bind_some]
  dsimp only
  rw [s2, Option.bind_some]
theorem differs_eq {fr a b c : Int} (h : FL fr a b c) {m y : S48} (gm : Good fr a b c m) (gy : Good fr a b c y) : impl_CommutingOf_differs.f y.f0.f0 y.f0.f1 y.f0.f2 y.f0.f3 y.f1.f0 y.f1.f1 a b c m.f0.f0 m.f0.f1 m.f0.f2 m.f0.f3 m.f1.f0 m.f1.f1 = some (!comB a b c m y) := by
  unfold impl_CommutingOf_differs.f
  rw [impl_prod h gm gy, Option.bind_some, impl_prod h gy gm, Option.bind_some]
  unfold comB
  simp only [Bool.not_and]
theorem anyD_eq {fr a b c : Int} (h : FL fr a b c) (xs : List S48) (hg : ∀ z ∈ xs, Good fr a b c z) {m : S48} (gm : Good fr a b c m) : impl_CommutingOf.anyD a b c xs m.f0.f0 m.f0.f1 m.f0.f2 m.f0.f3 m.f1.f0 m.f1.f1 = some (!xs.all (comB a b c m)) := by
  unfold impl_CommutingOf.anyD
  rw [if_pos (List.all_eq_true.2 fun x hx => by rw [differs_eq h gm (hg x hx)]; rfl)]
  congr 1
  rw [List.not_all_eq_any_not]
  rw [Bool.eq_iff_iff, List.any_eq_true, List.any_eq_true]
  constructor
  · rintro ⟨x, hx, e⟩
    rw [differs_eq h gm (hg x hx), Option.getD_some] at e
    exact ⟨x, hx, e⟩
  · rintro ⟨x, hx, e⟩
    refine ⟨x, hx, ?_⟩
    rw [differs_eq h gm (hg x hx), Option.getD_some]
    exact e
def comL (a b c : Int) (xs l : List S48) : List S48 := l.filter fun x => xs.all (comB a b c x)
theorem spec_com_row {fr a b c : Int} (h : FL fr a b c) (xs : List S48) (hx : xs.length ≤ 48) (hg : ∀ z ∈ xs, Good fr a b c z) (o : List S48) (ho : o.length ≤ 48) (i : Nat) (hi : i < xs.length) (r : List S48 × Int) (d : Nat) :
    ∀ (j : Nat) (q : Bool), j ≤ xs.length → xs.length - j = d → Ev (fun k => spec_CommutingOf.l0 k xs (if (q && (xs.drop j).all (comB a b c xs[i])) = true then o ++ [xs[i]] else o) ((i + 1 : Nat) : Int) a b c) r → Ev (fun k => spec_CommutingOf.l1 k xs o (i : Int) q (j : Int) a b c) r := by
  have hw : wrap64 ((i : Int) + 1) = ((i + 1 : Nat) : Int) := by rw [w64s (by omega) (by omega)]; omega
  induction d with
  | zero =>
    intro j q hj hd e
    have hj' : j = xs.length := by omega
    subst hj'
    rw [List.drop_length, List.all_nil, Bool.and_true] at e
    refine Ev.step (fun k => ?_) e
    simp only [spec_CommutingOf.l1]
    rw [if_neg (by omega)]
    by_cases hq : q = true
    · rw [if_pos hq, if_pos hq, if_pos (by omega), if_pos (by omega), if_pos (by omega), rd_mo _ _ hi, hw]
    · rw [if_neg hq, if_neg hq, hw]
  | succ d ih =>
    intro j q hj hd e
    have hj' : j < xs.length := by omega
    have hw2 : wrap64 ((j : Int) + 1) = ((j + 1 : Nat) : Int) := by rw [w64s (by omega) (by omega)]; omega
    rw [List.drop_eq_getElem_cons hj', List.all_cons, ← Bool.and_assoc] at e
    have gi := hg _ (List.getElem_mem hi)
    have gj := hg _ (List.getElem_mem hj')
    by_cases hq : q = true
    · subst hq
      rw [Bool.true_and] at e
      refine Ev.step (fun k => ?_) (ih (j + 1) (comB a b c xs[i] xs[j]) (by omega) (by omega) e)
      simp only [spec_CommutingOf.l1]
      rw [if_pos (by omega), if_pos trivial, if_pos (by omega), if_pos (by omega), if_pos (by omega), rd_mo _ _ hi, rd_mo _ _ hj', spec_prod h gi gj, Option.bind_some, spec_prod h gj gi, Option.bind_some, hw2]
      rfl
    · obtain rfl : q = false := Bool.eq_false_iff.2 hq
      rw [Bool.false_and] at e
      refine Ev.step (fun k => ?_) (ih (j + 1) false (by omega) (by omega) e)
      simp only [spec_CommutingOf.l1]
      rw [if_pos (by omega), if_neg Bool.false_ne_true, hw2]
theorem com_len (o : List S48) (x : S48) (p : Prop) [Decidable p] (n : Nat) (h : o.length ≤ n) : (if p then o ++ [x] else o).length ≤ n + 1 := by
  split
  · rw [List.length_append]; simp; omega
  · omega
theorem comL_cons (a b c : Int) (xs l o : List S48) (x : S48) : o ++ comL a b c xs (x :: l) = (if (xs.all (comB a b c x)) = true then o ++ [x] else o) ++ comL a b c xs l := by
  unfold comL
  rw [List.filter_cons]
  by_cases e : (xs.all (comB a b c x)) = true
  · rw [if_pos e, if_pos e, List.append_assoc]; rfl
  · rw [if_neg e, if_neg e]
theorem spec_com_loop {fr a b c : Int} (h : FL fr a b c) (xs : List S48) (hx : xs.length ≤ 48) (hg : ∀ z ∈ xs, Good fr a b c z) (d : Nat) : ∀ (i : Nat) (o : List S48), i ≤ xs.length → xs.length - i = d → o.length ≤ i → Ev (fun k => spec_CommutingOf.l0 k xs o (i : Int) a b c) (o ++ comL a b c xs (xs.drop i), 0) := by
  induction d with
  | zero =>
    intro i o hi hd ho
    rw [List.drop_eq_nil_of_le (by omega)]
    refine Ev.one (fun k => ?_)
    simp only [spec_CommutingOf.l0]
    rw [if_neg (by omega)]
    simp [comL]
  | succ d ih =>
    intro i o hi hd ho
    have hi' : i < xs.length := by omega
    rw [List.drop_eq_getElem_cons hi', comL_cons]
    have e := ih (i + 1) (if (xs.all (comB a b c xs[i])) = true then o ++ [xs[i]] else o) (by omega) (by omega) (com_len o _ _ i ho)
    refine Ev.step (fun k => ?_) (spec_com_row h xs hx hg o (by omega) i hi' _ xs.length 0 true (by omega) (by omega) (by rw [List.drop_zero, Bool.true_and]; exact e))
    simp only [spec_CommutingOf.l0]
    rw [if_pos (by omega)]; rfl
theorem impl_com_loop {fr a b c : Int} (h : FL fr a b c) (xs : List S48) (hx : xs.length ≤ 48) (hg : ∀ z ∈ xs, Good fr a b c z) (d : Nat) : ∀ (i : Nat) (o : List S48), i ≤ xs.length → xs.length - i = d → o.length ≤ i → Ev (fun k => impl_CommutingOf.l0 k a b c xs o xs (xs.length : Int) (i : Int)) (o ++ comL a b c xs (xs.drop i), 0) := by
  induction d with
  | zero =>
    intro i o hi hd ho
    rw [List.drop_eq_nil_of_le (by omega)]
    refine Ev.one (fun k => ?_)
    simp only [impl_CommutingOf.l0]
    rw [if_neg (by omega)]
    simp [comL]
  | succ d ih =>
    intro i o hi hd ho
    have hi' : i < xs.length := by omega
    have hw : wrap64 ((i : Int) + 1) = ((i + 1 : Nat) : Int) := by rw [w64s (by omega) (by omega)]; omega
    rw [List.drop_eq_getElem_cons hi', comL_cons]
    have e := ih (i + 1) (if (xs.all (comB a b c xs[i])) = true then o ++ [xs[i]] else o) (by omega) (by omega) (com_len o _ _ i ho)
    refine Ev.step (fun k => ?_) e
    simp only [impl_CommutingOf.l0]
    rw [if_pos (by omega), if_pos (by omega), if_pos (by omega), rd_mo _ _ hi', anyD_eq h xs hg (hg _ (List.getElem_mem hi')), Option.bind_some, hw]
    by_cases q : (xs.all (comB a b c xs[i])) = true
    · rw [if_pos q, if_neg (by rw [q]; decide), if_pos (by omega)]
    · rw [if_neg q, if_pos (by rw [Bool.eq_false_iff.2 q]; rfl)]
theorem both_CommutingOf (fr a b c : Int) (xs : List S48) (hx : (xs.length : Int) ≤ 1048576) : ∃ r : List S48 × Int, (r.1.length : Int) ≤ 1048576 ∧ Ev (fun k => spec_CommutingOf.f k fr a b c xs) r ∧ Ev (fun k => impl_CommutingOf.f k fr a b c xs) r := by
  obtain ⟨r, ⟨K1, s1⟩, ⟨K2, s2⟩, -, g, -⟩ := small_both fr a b c xs hx
  have s1 : ∀ k, K1 ≤ k → spec_l15One.f k fr a b c xs = some r := s1
  have s2 : ∀ k, K2 ≤ k → impl_smallCode.f k fr a b c xs = some r := s2
  by_cases h0 : r = 0
  · obtain ⟨hf, G, hl⟩ := g h0
    obtain ⟨K3, s3⟩ := spec_com_loop hf xs hl G.good xs.length 0 [] (by omega) (by omega) (by simp)
    obtain ⟨K4, s4⟩ := impl_com_loop hf xs hl G.good xs.length 0 [] (by omega) (by omega) (by simp)
    have s3 : ∀ k, K3 ≤ k → spec_CommutingOf.l0 k xs [] 0 a b c = some ([] ++ comL a b c xs (xs.drop 0), 0) := s3
    have s4 : ∀ k, K4 ≤ k → impl_CommutingOf.l0 k a b c xs [] xs (xs.length : Int) 0 = some ([] ++ comL a b c xs (xs.drop 0), 0) := s4
    refine ⟨([] ++ comL a b c xs (xs.drop 0), 0), ?_, ⟨K1 + K3, fun k hk => ?_⟩, ⟨K2 + K4, fun k hk => ?_⟩⟩
    · have : (comL a b c xs (xs.drop 0)).length ≤ (xs.drop 0).length := List.length_filter_le _ _
      show (([] ++ comL a b c xs (xs.drop 0)).length : Int) ≤ 1048576
      rw [List.nil_append]
      rw [List.drop_zero] at this ⊢
      omega
    · show spec_CommutingOf.f k fr a b c xs = _
      unfold spec_CommutingOf.f
      rw [s1 k (by omega), Option.bind_some, if_pos h0, s3 k (by omega)]
    · show impl_CommutingOf.f k fr a b c xs = _
      unfold impl_CommutingOf.f
      rw [s2 k (by omega), Option.bind_some, if_pos h0, s4 k (by omega)]
  · refine ⟨([], r), by show ((0 : Nat) : Int) ≤ 1048576; omega, ⟨K1, fun k hk => ?_⟩, ⟨K2, fun k hk => ?_⟩⟩
    · show spec_CommutingOf.f k fr a b c xs = _
      unfold spec_CommutingOf.f
      rw [s1 k hk, Option.bind_some, if_neg h0]
    · show impl_CommutingOf.f k fr a b c xs = _
      unfold impl_CommutingOf.f
      rw [s2 k hk, Option.bind_some, if_neg h0]

end Go.Proofs.Ytilbokbfcmeleaa.LA
