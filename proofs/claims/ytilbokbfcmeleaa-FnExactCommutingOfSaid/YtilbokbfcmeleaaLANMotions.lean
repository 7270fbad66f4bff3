/- Plain lemmas on lists of motions: comparing, marking and checking them. -/
import Derived.Test.YtilbokbfcmeleaaAid
import Derived.Test.YtilbokbfcmeleaaPAx0
import Derived.Test.YtilbokbfcmeleaaPAx0
import Derived.Test.YtilbokbfcmeleaaPAx5
import Derived.Test.YtilbokbfcmeleaaPAx6
namespace Go.Proofs.Ytilbokbfcmeleaa.LA
open Go.RowKit Go.Proofs.Ytilbokbfcmeleaa.PA Go.Proofs.YtilbokbfcmeleaaW.PrintWords Go.Proofs.YtilbokbfcmeleaaW.PrintLast Go.Proofs.Ytilbokbfcmeleaa.Aid
set_option linter.unusedVariables false
set_option linter.unusedSimpArgs false

theorem eqMotionS_loop (l : List S48) (hl : (l.length : Int) ≤ 1048576) (d : Nat) : ∀ (k i : Nat), i ≤ l.length → l.length - i = d → d < k → laws_eqMotionS.l0 k l l i = some true := by
  induction d with
  | zero =>
    intro k i hi hd hk
    obtain ⟨k, rfl⟩ := succ_of_lt hk
    simp only [laws_eqMotionS.l0]
    rw [if_neg (by omega)]
  | succ d ih =>
    intro k i hi hd hk
    obtain ⟨k, rfl⟩ := succ_of_lt hk
    have c1 : (i : Int) < (l.length : Int) := by omega
    have c2 : (0 : Int) ≤ (i : Int) := by omega
    have hw : wrap64 ((i : Int) + 1) = ((i + 1 : Nat) : Int) := by rw [w64s (by omega) (by omega)]; omega
    simp only [laws_eqMotionS.l0, laws_eqMotion.f, laws_eqMat.f, laws_eqVec.f, if_pos c1, if_pos c2, if_true, Option.bind_some, hw]
    exact ih k (i + 1) (by omega) (by omega) (by omega)
theorem eqMotionS_refl (l : List S48) (hl : (l.length : Int) ≤ 1048576) {k : Nat} (hk : l.length < k) : laws_eqMotionS.f k l l = some true := by
  unfold laws_eqMotionS.f
  rw [if_pos rfl]
  exact eqMotionS_loop l hl l.length k 0 (by omega) (by omega) hk
theorem six_ups (b : Int) (h0 : 0 ≤ b) (h1 : b ≤ 10000000000) : wrap64 (b + 1) = b + 1 ∧ wrap64 (b + 1 + 1) = b + 2 ∧ wrap64 (b + 2 + 1) = b + 3 ∧ wrap64 (b + 3 + 1) = b + 4 ∧ wrap64 (b + 4 + 1) = b + 5 ∧ wrap64 (b + 5 + 1) = b + 6 := by
  refine ⟨?_, ?_, ?_, ?_, ?_, ?_⟩
  · rw [w64s (by omega) (by omega)]
  all_goals (rw [w64s (by omega) (by omega)]; omega)
theorem up_nat (i : Nat) (h : i ≤ 1048576) : wrap64 ((i : Int) + 1) = ((i + 1 : Nat) : Int) := by rw [w64s (by omega) (by omega)]; omega
/-- A marked motion. -/
def mkMo (m : Int) : S48 := ⟨⟨m, m + 1, m + 2, m + 3⟩, ⟨m + 4, m + 5⟩⟩
theorem rd_set_mo (x : List S48) (i : Nat) (v : S48) (h : i < x.length) : rd_T48 (x.set i v) (i : Int) = v := by
  unfold rd_T48; rw [Int.toNat_natCast]; simp [List.getD, h]
theorem markMotionS_loop (n : Nat) (m : Nat) (hl : (n : Int) ≤ 1048576) (hm : (m : Int) ≤ 1000000000) (d : Nat) : ∀ (k i : Nat) (x : List S48), x.length = n → (∀ j, j < i → rd_T48 x (j : Int) = mkMo ((m : Int) + 6 * j)) → i ≤ n → n - i = d → d < k →
    ∃ x', laws_markMotionS.l0 k x ((m : Int) + 6 * i) i = some ((m : Int) + 6 * n, x') ∧ x'.length = n ∧ ∀ j, j < n → rd_T48 x' (j : Int) = mkMo ((m : Int) + 6 * j) := by
  induction d with
  | zero =>
    intro k i x hx hj hi hd hk
    obtain ⟨k, rfl⟩ := succ_of_lt hk
    obtain rfl : i = n := by omega
    simp only [laws_markMotionS.l0]
    rw [if_neg (by omega)]
    exact ⟨x, rfl, hx, hj⟩
  | succ d ih =>
    intro k i x hx hj hi hd hk
    obtain ⟨k, rfl⟩ := succ_of_lt hk
    have hlt : i < x.length := by omega
    have c1 : (i : Int) < (x.length : Int) := by omega
    have c2 : (0 : Int) ≤ (i : Int) := by omega
    have e8 : (m : Int) + 6 * i + 6 = (m : Int) + 6 * (i + 1 : Nat) := by omega
    have s1 : 0 ≤ (m : Int) + 6 * i := by omega
    have s2 : (m : Int) + 6 * i ≤ 10000000000 := by omega
    have e7 := up_nat i (by omega)
    have hr : ∀ v, rd_T48 (x.set i v) (i : Int) = v := fun v => rd_set_mo x i v hlt
    obtain ⟨x', h1, h2, h3⟩ := ih k (i + 1) (x.set i (mkMo ((m : Int) + 6 * i))) (by simpa using hx) (fun j hj' => by
      by_cases e : j = i
      · subst e; exact hr _
      · have := hj j (by omega)
        unfold rd_T48 at this ⊢
        rw [Int.toNat_natCast] at this ⊢
        simpa [List.getD, List.getElem?_set_ne (Ne.symm e)] using this) (by omega) (by omega) (by omega)
    obtain ⟨e1, e2, e3, e4, e5, e6⟩ := six_ups ((m : Int) + 6 * i) s1 s2
    rw [e8] at e6
    refine ⟨x', ?_, h2, h3⟩
    simp only [laws_markMotionS.l0, if_pos c1, if_pos c2, Option.bind_some, e1, e2, e3, e4, e5, e6, e7, Int.toNat_natCast, List.set_set, hr]
    exact h1
theorem markMotionS_eq (l : List S48) (m : Nat) (hl : (l.length : Int) ≤ 1048576) (hm : (m : Int) ≤ 1000000000) {k : Nat} (hk : l.length < k) :
    ∃ x', laws_markMotionS.f k l m = some ((m : Int) + 6 * l.length, x') ∧ x'.length = l.length ∧ ∀ j, j < l.length → rd_T48 x' (j : Int) = mkMo ((m : Int) + 6 * j) := by
  unfold laws_markMotionS.f
  simpa using markMotionS_loop l.length m hl hm l.length k 0 l rfl (fun j hj => absurd hj (by omega)) (by omega) (by omega) hk
theorem heldMotionS_loop (x : List S48) (m : Nat) (hl : (x.length : Int) ≤ 1048576) (hm : (m : Int) ≤ 1000000000) (hj : ∀ j : Nat, j < x.length → rd_T48 x (j : Int) = mkMo ((m : Int) + 6 * j)) (d : Nat) : ∀ (k i : Nat), i ≤ x.length → x.length - i = d → d < k →
    laws_heldMotionS.l0 k x ((m : Int) + 6 * i) i = some ((m : Int) + 6 * x.length) := by
  induction d with
  | zero =>
    intro k i hi hd hk
    obtain ⟨k, rfl⟩ := succ_of_lt hk
    obtain rfl : i = x.length := by omega
    simp only [laws_heldMotionS.l0]
    rw [if_neg (by omega)]
  | succ d ih =>
    intro k i hi hd hk
    obtain ⟨k, rfl⟩ := succ_of_lt hk
    have c1 : (i : Int) < (x.length : Int) := by omega
    have c2 : (0 : Int) ≤ (i : Int) := by omega
    have e8 : (m : Int) + 6 * i + 6 = (m : Int) + 6 * (i + 1 : Nat) := by omega
    have s1 : 0 ≤ (m : Int) + 6 * i := by omega
    have s2 : (m : Int) + 6 * i ≤ 10000000000 := by omega
    have e7 := up_nat i (by omega)
    have hr := hj i (by omega)
    have d1 : i + 1 ≤ x.length := by omega
    have d2 : x.length - (i + 1) = d := by omega
    have d3 : d < k := by omega
    obtain ⟨e1, e2, e3, e4, e5, e6⟩ := six_ups ((m : Int) + 6 * i) s1 s2
    rw [e8] at e6
    simp only [laws_heldMotionS.l0, if_pos c1, if_pos c2, hr, mkMo, e1, e2, e3, e4, e5, e6, e7, if_true]
    exact ih k (i + 1) d1 d2 d3
theorem heldMotionS_eq (x : List S48) (m : Nat) (hl : (x.length : Int) ≤ 1048576) (hm : (m : Int) ≤ 1000000000) (hj : ∀ j : Nat, j < x.length → rd_T48 x (j : Int) = mkMo ((m : Int) + 6 * j)) {k : Nat} (hk : x.length < k) :
    laws_heldMotionS.f k x m = some ((m : Int) + 6 * x.length) := by
  unfold laws_heldMotionS.f
  simpa using heldMotionS_loop x m hl hm hj x.length k 0 (by omega) (by omega) hk
end Go.Proofs.Ytilbokbfcmeleaa.LA
