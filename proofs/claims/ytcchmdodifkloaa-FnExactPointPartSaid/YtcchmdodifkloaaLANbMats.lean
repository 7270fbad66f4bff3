/- Plain lemmas on lists of matrices: comparing, marking and checking them. -/
import Derived.Test.YtcchmdodifkloaaAid
import Derived.Test.YtcchmdodifkloaaPAx0
import Derived.Test.YtcchmdodifkloaaLANMotions
import Derived.Test.YtcchmdodifkloaaPAx0
import Derived.Test.YtcchmdodifkloaaPAx11
import Derived.Test.YtcchmdodifkloaaPAx16
import Derived.Test.YtcchmdodifkloaaPAx5
namespace Go.Proofs.Ytcchmdodifkloaa.LA
open Go.RowKit Go.Proofs.Ytcchmdodifkloaa.PA Go.Proofs.YtcchmdodifkloaaW.PrintWords Go.Proofs.YtcchmdodifkloaaW.PrintLast Go.Proofs.Ytcchmdodifkloaa.Aid
set_option linter.unusedVariables false
set_option linter.unusedSimpArgs false

theorem eqMatS_loop (l : List S51) (hl : (l.length : Int) ≤ 1048576) (d : Nat) : ∀ (k i : Nat), i ≤ l.length → l.length - i = d → d < k → laws_eqMatS.l0 k l l i = some true := by
  induction d with
  | zero =>
    intro k i hi hd hk
    obtain ⟨k, rfl⟩ := succ_of_lt hk
    simp only [laws_eqMatS.l0]
    rw [if_neg (by omega)]
  | succ d ih =>
    intro k i hi hd hk
    obtain ⟨k, rfl⟩ := succ_of_lt hk
    have c1 : (i : Int) < (l.length : Int) := by omega
    have c2 : (0 : Int) ≤ (i : Int) := by omega
    have hw : wrap64 ((i : Int) + 1) = ((i + 1 : Nat) : Int) := by rw [w64s (by omega) (by omega)]; omega
    simp only [laws_eqMatS.l0, laws_eqMat.f, if_pos c1, if_pos c2, if_true, Option.bind_some, hw]
    exact ih k (i + 1) (by omega) (by omega) (by omega)
theorem eqMatS_refl (l : List S51) (hl : (l.length : Int) ≤ 1048576) {k : Nat} (hk : l.length < k) : laws_eqMatS.f k l l = some true := by
  unfold laws_eqMatS.f
  rw [if_pos rfl]
  exact eqMatS_loop l hl l.length k 0 (by omega) (by omega) hk
/-- A marked mat. -/
def mkMa (m : Int) : S51 := ⟨m, m + 1, m + 2, m + 3⟩
theorem rd_set_ma (x : List S51) (i : Nat) (v : S51) (h : i < x.length) : rd_T51 (x.set i v) (i : Int) = v := by
  unfold rd_T51; rw [Int.toNat_natCast]; simp [List.getD, h]
theorem markMatS_loop (n : Nat) (m : Nat) (hl : (n : Int) ≤ 1048576) (hm : (m : Int) ≤ 1000000000) (d : Nat) : ∀ (k i : Nat) (x : List S51), x.length = n → (∀ j, j < i → rd_T51 x (j : Int) = mkMa ((m : Int) + 4 * j)) → i ≤ n → n - i = d → d < k →
    ∃ x', laws_markMatS.l0 k x ((m : Int) + 4 * i) i = some ((m : Int) + 4 * n, x') ∧ x'.length = n ∧ ∀ j, j < n → rd_T51 x' (j : Int) = mkMa ((m : Int) + 4 * j) := by
  induction d with
  | zero =>
    intro k i x hx hj hi hd hk
    obtain ⟨k, rfl⟩ := succ_of_lt hk
    obtain rfl : i = n := by omega
    simp only [laws_markMatS.l0]
    rw [if_neg (by omega)]
    exact ⟨x, rfl, hx, hj⟩
  | succ d ih =>
    intro k i x hx hj hi hd hk
    obtain ⟨k, rfl⟩ := succ_of_lt hk
    have hlt : i < x.length := by omega
    have c1 : (i : Int) < (x.length : Int) := by omega
    have c2 : (0 : Int) ≤ (i : Int) := by omega
    have e8 : (m : Int) + 4 * i + 4 = (m : Int) + 4 * (i + 1 : Nat) := by omega
    have s1 : 0 ≤ (m : Int) + 4 * i := by omega
    have s2 : (m : Int) + 4 * i ≤ 10000000000 := by omega
    have e7 := up_nat i (by omega)
    have hr : ∀ v, rd_T51 (x.set i v) (i : Int) = v := fun v => rd_set_ma x i v hlt
    obtain ⟨x', h1, h2, h3⟩ := ih k (i + 1) (x.set i (mkMa ((m : Int) + 4 * i))) (by simpa using hx) (fun j hj' => by
      by_cases e : j = i
      · subst e; exact hr _
      · have := hj j (by omega)
        unfold rd_T51 at this ⊢
        rw [Int.toNat_natCast] at this ⊢
        simpa [List.getD, List.getElem?_set_ne (Ne.symm e)] using this) (by omega) (by omega) (by omega)
    obtain ⟨e1, e2, e3, e4, e5, e6⟩ := six_ups ((m : Int) + 4 * i) s1 s2
    rw [e8] at e4
    refine ⟨x', ?_, h2, h3⟩
    simp only [laws_markMatS.l0, if_pos c1, if_pos c2, Option.bind_some, e1, e2, e3, e4, e7, Int.toNat_natCast, List.set_set, hr]
    exact h1
theorem markMatS_eq (l : List S51) (m : Nat) (hl : (l.length : Int) ≤ 1048576) (hm : (m : Int) ≤ 1000000000) {k : Nat} (hk : l.length < k) :
    ∃ x', laws_markMatS.f k l m = some ((m : Int) + 4 * l.length, x') ∧ x'.length = l.length ∧ ∀ j, j < l.length → rd_T51 x' (j : Int) = mkMa ((m : Int) + 4 * j) := by
  unfold laws_markMatS.f
  simpa using markMatS_loop l.length m hl hm l.length k 0 l rfl (fun j hj => absurd hj (by omega)) (by omega) (by omega) hk
theorem heldMatS_loop (x : List S51) (m : Nat) (hl : (x.length : Int) ≤ 1048576) (hm : (m : Int) ≤ 1000000000) (hj : ∀ j : Nat, j < x.length → rd_T51 x (j : Int) = mkMa ((m : Int) + 4 * j)) (d : Nat) : ∀ (k i : Nat), i ≤ x.length → x.length - i = d → d < k →
    laws_heldMatS.l0 k x ((m : Int) + 4 * i) i = some ((m : Int) + 4 * x.length) := by
  induction d with
  | zero =>
    intro k i hi hd hk
    obtain ⟨k, rfl⟩ := succ_of_lt hk
    obtain rfl : i = x.length := by omega
    simp only [laws_heldMatS.l0]
    rw [if_neg (by omega)]
  | succ d ih =>
    intro k i hi hd hk
    obtain ⟨k, rfl⟩ := succ_of_lt hk
    have c1 : (i : Int) < (x.length : Int) := by omega
    have c2 : (0 : Int) ≤ (i : Int) := by omega
    have e8 : (m : Int) + 4 * i + 4 = (m : Int) + 4 * (i + 1 : Nat) := by omega
    have s1 : 0 ≤ (m : Int) + 4 * i := by omega
    have s2 : (m : Int) + 4 * i ≤ 10000000000 := by omega
    have e7 := up_nat i (by omega)
    have hr := hj i (by omega)
    have d1 : i + 1 ≤ x.length := by omega
    have d2 : x.length - (i + 1) = d := by omega
    have d3 : d < k := by omega
    obtain ⟨e1, e2, e3, e4, e5, e6⟩ := six_ups ((m : Int) + 4 * i) s1 s2
    rw [e8] at e4
    simp only [laws_heldMatS.l0, if_pos c1, if_pos c2, hr, mkMa, e1, e2, e3, e4, e7, if_true]
    exact ih k (i + 1) d1 d2 d3
theorem heldMatS_eq (x : List S51) (m : Nat) (hl : (x.length : Int) ≤ 1048576) (hm : (m : Int) ≤ 1000000000) (hj : ∀ j : Nat, j < x.length → rd_T51 x (j : Int) = mkMa ((m : Int) + 4 * j)) {k : Nat} (hk : x.length < k) :
    laws_heldMatS.f k x m = some ((m : Int) + 4 * x.length) := by
  unfold laws_heldMatS.f
  simpa using heldMatS_loop x m hl hm hj x.length k 0 (by omega) (by omega) hk

end Go.Proofs.Ytcchmdodifkloaa.LA
