/- Plain lemmas on counting lean patterns. -/
import Derived.Test.YtfkdcngpjppnbaaAid
import Derived.Test.YtfkdcngpjppnbaaPAx0
import Derived.Test.YtfkdcngpjppnbaaLAABasic
import Derived.Test.YtfkdcngpjppnbaaLADPower
import Derived.Test.YtfkdcngpjppnbaaLAGLattice
import Derived.Test.YtfkdcngpjppnbaaLAISublattices
import Derived.Test.YtfkdcngpjppnbaaPAx0
import Derived.Test.YtfkdcngpjppnbaaPAx5
import Derived.Test.YtfkdcngpjppnbaaPAx6
import Derived.Test.YtfkdcngpjppnbaaPAx7
namespace Go.Proofs.Ytfkdcngpjppnbaa.LA
open Go.RowKit Go.Proofs.Ytfkdcngpjppnbaa.PA Go.Proofs.YtfkdcngpjppnbaaW.PrintWords Go.Proofs.YtfkdcngpjppnbaaW.PrintLast Go.Proofs.Ytfkdcngpjppnbaa.Aid
set_option linter.unusedVariables false
set_option linter.unusedSimpArgs false

theorem rd_lat (l : List S33) (j : Nat) (h : j < l.length) : rd_T33 l (j : Int) ∈ l := by
  unfold rd_T33
  rw [Int.toNat_natCast]
  simp [List.getD, h]
/-- What both recursions tell of one lattice. -/
def Leans (m : Int) (a b c : Int) : Prop := ∃ v, Ev (fun k => spec_l17Lean.f k a b c m) v ∧ Ev (fun k => impl_countLean.f k a b c m) v
theorem spec_skip (m A B C : Int) (hL : Lat A B C) (i : Int) (L : List S33) (hlen : L.length ≤ 4096) (hl : ∀ t ∈ L, Lat t.f0 t.f1 t.f2 ∧ ¬ (red t.f0 t.f1 t.f2 A 0 = (0, 0) ∧ red t.f0 t.f1 t.f2 B C = (0, 0))) (x r : Int) (d : Nat) : ∀ j : Nat, j ≤ L.length → L.length - j = d →
    Ev (fun k => spec_l17Lean.l0 k m x (wrap64 (i + 1)) A B C) r → Ev (fun k => spec_l17Lean.l1 k m x i L j A B C) r := by
  have hL' := hL
  obtain ⟨b1, b2, b3, b4, b5, b6, _⟩ := hL'
  induction d with
  | zero =>
    intro j hj hd h
    refine Ev.step (fun k => ?_) h
    simp only [spec_l17Lean.l1]
    rw [if_neg (by omega)]
  | succ d ih =>
    intro j hj hd h
    have h' := ih (j + 1) (by omega) (by omega) h
    have ht := hl _ (rd_lat L j (by omega))
    refine Ev.step (fun k => ?_) h'
    simp only [spec_l17Lean.l1, spec_l03Basis.f, Option.bind_some]
    rw [if_pos (by omega), if_pos (by omega), if_pos (by simp)]
    have e00 : (rd_T43 [(⟨A, 0⟩ : S43), ⟨B, C⟩] 0).f0 = A := rfl
    have e01 : (rd_T43 [(⟨A, 0⟩ : S43), ⟨B, C⟩] 0).f1 = 0 := rfl
    have e10 : (rd_T43 [(⟨A, 0⟩ : S43), ⟨B, C⟩] 1).f0 = B := rfl
    have e11 : (rd_T43 [(⟨A, 0⟩ : S43), ⟨B, C⟩] 1).f1 = C := rfl
    rw [e00, e01, e10, e11, spec_has_eq (ht.1.mod4 (by omega) (by omega) (by omega) (by omega)), spec_has_eq (ht.1.mod4 (by omega) (by omega) (by omega) (by omega)), w64s (x := (j : Int) + 1) (by omega) (by omega)]
    simp only [Option.bind_some]
    by_cases g1 : red (rd_T33 L j).f0 (rd_T33 L j).f1 (rd_T33 L j).f2 A 0 = (0, 0)
    · have g2 : ¬ red (rd_T33 L j).f0 (rd_T33 L j).f1 (rd_T33 L j).f2 B C = (0, 0) := fun g2 => ht.2 ⟨g1, g2⟩
      rw [if_pos (by simp [g1]), if_pos (by simp), if_neg (by simpa using g2)]; rfl
    · rw [if_neg (by simpa using g1)]; rfl
theorem both_list (m A B C : Int) (hL : Lat A B C) (i : Int) (L : List S33) (hlen : L.length ≤ 4096) (hl : ∀ t ∈ L, Lat t.f0 t.f1 t.f2 ∧ Leans m t.f0 t.f1 t.f2) (hnext : ∀ x, ∃ r, Ev (fun k => spec_l17Lean.l0 k m x (wrap64 (i + 1)) A B C) r ∧ Ev (fun k => impl_countLean.l0 k m x (wrap64 (i + 1)) A B C) r) (d : Nat) : ∀ (j : Nat) (x : Int), j ≤ L.length → L.length - j = d →
    ∃ r, Ev (fun k => spec_l17Lean.l1 k m x i L j A B C) r ∧ Ev (fun k => impl_countLean.l1 k m x i L (L.length : Int) j A B C) r := by
  have hL' := hL
  obtain ⟨b1, b2, b3, b4, b5, b6, _⟩ := hL'
  induction d with
  | zero =>
    intro j x hj hd
    obtain ⟨r, h1, h2⟩ := hnext x
    refine ⟨r, Ev.step (fun k => ?_) h1, Ev.step (fun k => ?_) h2⟩
    · simp only [spec_l17Lean.l1]; rw [if_neg (by omega)]
    · simp only [impl_countLean.l1]; rw [if_neg (by omega)]
  | succ d ih =>
    intro j x hj hd
    have c1 : (j : Int) < (L.length : Int) := by omega
    have c2 : (0 : Int) ≤ (j : Int) := by omega
    have c3 : j + 1 ≤ L.length := by omega
    have c4 : L.length - (j + 1) = d := by omega
    have hw : wrap64 ((j : Int) + 1) = ((j + 1 : Nat) : Int) := by rw [w64s (by omega) (by omega)]; omega
    obtain ⟨ht, v, hv1, hv2⟩ := hl _ (rd_lat L j (by omega))
    generalize hT : rd_T33 L (j : Int) = t at ht hv1 hv2
    have n1 := ht.mod4 (x := A) (y := 0) (by omega) (by omega) (by omega) (by omega)
    have n2 := ht.mod4 (x := B) (y := C) (by omega) (by omega) (by omega) (by omega)
    have e00 : (rd_T43 [(⟨A, 0⟩ : S43), ⟨B, C⟩] 0).f0 = A := rfl
    have e01 : (rd_T43 [(⟨A, 0⟩ : S43), ⟨B, C⟩] 0).f1 = 0 := rfl
    have e10 : (rd_T43 [(⟨A, 0⟩ : S43), ⟨B, C⟩] 1).f0 = B := rfl
    have e11 : (rd_T43 [(⟨A, 0⟩ : S43), ⟨B, C⟩] 1).f1 = C := rfl
    have cL : (1 : Int) < (([(⟨A, 0⟩ : S43), ⟨B, C⟩] : List S43).length : Int) := by simp
    by_cases g : red t.f0 t.f1 t.f2 A 0 = (0, 0) ∧ red t.f0 t.f1 t.f2 B C = (0, 0)
    · obtain ⟨r, h1, h2⟩ := ih (j + 1) (wrap64 (x - v)) c3 c4
      refine ⟨r, Ev.step (fun k => ?_) (Ev.bind hv1 (f := fun k u => spec_l17Lean.l1 k m (wrap64 (x - u)) i L ((j + 1 : Nat) : Int) A B C) h1), Ev.step (fun k => ?_) (Ev.bind hv2 (f := fun k u => impl_countLean.l1 k m (wrap64 (x - u)) i L (L.length : Int) ((j + 1 : Nat) : Int) A B C) h2)⟩
      · simp only [spec_l17Lean.l1, spec_l03Basis.f, Option.bind_some]
        rw [if_pos c1, if_pos c2, if_pos (by simp), hT, e00, e01, e10, e11, spec_has_eq n1, spec_has_eq n2, hw]
        simp only [Option.bind_some]
        rw [if_pos (decide_eq_true g.1), if_pos cL, if_pos (decide_eq_true g.2)]
      · simp only [impl_countLean.l1]
        rw [if_pos c1, if_pos c2, if_pos c1, hT, impl_contains_eq ht hL, hw]
        simp only [Option.bind_some]
        rw [if_pos (decide_eq_true g)]
    · obtain ⟨r, h1, h2⟩ := ih (j + 1) x c3 c4
      refine ⟨r, Ev.step (fun k => ?_) h1, Ev.step (fun k => ?_) h2⟩
      · simp only [spec_l17Lean.l1, spec_l03Basis.f, Option.bind_some]
        rw [if_pos c1, if_pos c2, if_pos (by simp), hT, e00, e01, e10, e11, spec_has_eq n1, spec_has_eq n2, hw]
        simp only [Option.bind_some]
        by_cases g1 : red t.f0 t.f1 t.f2 A 0 = (0, 0)
        · have g2 : ¬ red t.f0 t.f1 t.f2 B C = (0, 0) := fun g2 => g ⟨g1, g2⟩
          rw [if_pos (decide_eq_true g1), if_pos cL, if_neg (fun h => g2 (of_decide_eq_true h))]
        · rw [if_neg (fun h => g1 (of_decide_eq_true h))]
      · simp only [impl_countLean.l1]
        rw [if_pos c1, if_pos c2, if_pos c1, hT, impl_contains_eq ht hL, hw]
        simp only [Option.bind_some]
        rw [if_neg (fun h => g (of_decide_eq_true h))]
theorem both_outer (m A B C : Int) (hL : Lat A B C) (hrec : ∀ a b c, Lat a b c → a * c < A * C → Leans m a b c) (d : Nat) : ∀ (i : Nat) (x : Int), 1 ≤ i → (i : Int) ≤ A * C → A * C - i = d →
    ∃ r, Ev (fun k => spec_l17Lean.l0 k m x i A B C) r ∧ Ev (fun k => impl_countLean.l0 k m x i A B C) r := by
  have hm := hL.mul
  have hN : wrap64 (A * C) = A * C := w64s (by omega) (by omega)
  induction d with
  | zero =>
    intro i x h1 h2 hd
    refine ⟨x, Ev.one (fun k => ?_), Ev.one (fun k => ?_)⟩
    · simp only [spec_l17Lean.l0]; rw [hN, if_neg (by omega)]
    · simp only [impl_countLean.l0, impl_Lattice_index.f, Option.bind_some]; rw [hN, if_neg (by omega)]
  | succ d ih =>
    intro i x h1 h2 hd
    have hw : wrap64 ((i : Int) + 1) = ((i + 1 : Nat) : Int) := by rw [w64s (by omega) (by omega)]; omega
    have hnext : ∀ x, ∃ r, Ev (fun k => spec_l17Lean.l0 k m x (wrap64 ((i : Int) + 1)) A B C) r ∧ Ev (fun k => impl_countLean.l0 k m x (wrap64 ((i : Int) + 1)) A B C) r := by
      intro x; rw [hw]; exact ih (i + 1) x (by omega) (by omega) (by omega)
    have hs := spec_subs_ev (n := (i : Int)) (by omega) (by omega)
    have hi := impl_subs_ev (n := (i : Int)) (by omega) (by omega)
    have hmem : ∀ t ∈ subsL (i : Int), Lat t.f0 t.f1 t.f2 ∧ t.f0 * t.f2 = i := fun t ht => subs_mem (by omega) (by omega) ht
    have hlen := subs_len (n := (i : Int)) (by omega) (by omega)
    by_cases hdv : (A * C) % (i : Int) = 0
    · obtain ⟨r, h3, h4⟩ := both_list m A B C hL i (subsL i) hlen (fun t ht => ⟨(hmem t ht).1, hrec _ _ _ (hmem t ht).1 (by have := (hmem t ht).2; omega)⟩) hnext (subsL (i : Int)).length 0 x (by omega) (by omega)
      refine ⟨r, Ev.step (fun k => ?_) (Ev.bind hs (f := fun k t => spec_l17Lean.l1 k m x i t.1 0 A B C) h3), Ev.step (fun k => ?_) (Ev.bind hi (f := fun k t => impl_countLean.l1 k m x i t (t.length : Int) 0 A B C) h4)⟩
      · simp only [spec_l17Lean.l0]; rw [hN, if_pos (by omega)]
      · simp only [impl_countLean.l0, impl_Lattice_index.f, Option.bind_some]; rw [hN, if_pos (by omega), if_neg (by omega), tmod_pos (by omega), if_pos hdv]
    · obtain ⟨r, h3, h4⟩ := hnext x
      have h5 := spec_skip m A B C hL i (subsL i) hlen (fun t ht => ⟨(hmem t ht).1, fun g => hdv (Int.emod_eq_zero_of_dvd (by rw [← (hmem t ht).2]; exact contains_dvd (hmem t ht).1 g.1 g.2))⟩) x r (subsL (i : Int)).length 0 (by omega) (by omega) h3
      refine ⟨r, Ev.step (fun k => ?_) (Ev.bind hs (f := fun k t => spec_l17Lean.l1 k m x i t.1 0 A B C) h5), Ev.step (fun k => ?_) h4⟩
      · simp only [spec_l17Lean.l0]; rw [hN, if_pos (by omega)]
      · simp only [impl_countLean.l0, impl_Lattice_index.f, Option.bind_some]; rw [hN, if_pos (by omega), if_neg (by omega), tmod_pos (by omega), if_neg hdv]
theorem leans (m : Int) (h1 : 1 ≤ m) (h2 : m ≤ 10) (n : Nat) : ∀ a b c, Lat a b c → a * c ≤ n → Leans m a b c := by
  induction n with
  | zero => intro a b c hL h; have := hL.mul; omega
  | succ n ih =>
    intro a b c hL h
    have hm := hL.mul
    have hN : wrap64 (a * c) = a * c := w64s (by omega) (by omega)
    obtain ⟨r, h3, h4⟩ := both_outer m a b c hL (fun a' b' c' hL' hlt => ih a' b' c' hL' (by omega)) (a * c - 1).toNat 1 (pw m 1000000000000 (a * c).toNat 1) (by omega) (by omega) (by omega)
    have p1 : Ev (fun k => spec_l17Power.f k m (a * c) 1000000000000) (pw m 1000000000000 (a * c).toNat 1) := ⟨1001, fun k hk => spec_power_eq h1 h2 (by omega) (by omega) (by omega) (by omega)⟩
    have p2 : Ev (fun k => impl_power.f k m (a * c) 1000000000000) (pw m 1000000000000 (a * c).toNat 1) := ⟨1001, fun k hk => impl_power_eq h1 h2 (by omega) (by omega) (by omega) (by omega) (by omega)⟩
    refine ⟨r, Ev.step (fun k => ?_) (Ev.bind p1 (f := fun k t => spec_l17Lean.l0 k m t 1 a b c) h3), Ev.step (fun k => ?_) (Ev.bind p2 (f := fun k t => impl_countLean.l0 k m t 1 a b c) h4)⟩
    · simp only [spec_l17Lean.f]; rw [hN]
    · simp only [impl_countLean.f, impl_Lattice_index.f, Option.bind_some]; rw [hN]
theorem both_CountLean (fr a b c m : Int) : ∃ r, Ev (fun k => spec_CountLean.f k fr a b c m) r ∧ Ev (fun k => impl_CountLean.f k fr a b c m) r := by
  have q1 : ∀ k, 1000 < k → spec_l17Code.f k fr a b c true m 1000000000000 = some (if FL fr a b c then (if 1 ≤ m ∧ m ≤ 10 then (if pw m 1000000000000 (a * c).toNat 1 > 1000000000000 then 3 else 0) else 2) else 1) := fun k hk => by
    rw [spec_l17Code_eq _ _ _ _ _ _ _ (by omega) hk]; simp
  have q2 : ∀ k, 1000 < k → impl_coloursCode.f k fr a b c m 1000000000000 = some (if FL fr a b c then (if 1 ≤ m ∧ m ≤ 10 then (if pw m 1000000000000 (a * c).toNat 1 > 1000000000000 then 3 else 0) else 2) else 1) := fun k hk => impl_coloursCode_eq _ _ _ _ _ _ (by omega) (by omega) hk
  by_cases h : FL fr a b c ∧ (1 ≤ m ∧ m ≤ 10) ∧ ¬ pw m 1000000000000 (a * c).toNat 1 > 1000000000000
  · obtain ⟨v, h1, h2⟩ := leans m h.2.1.1 h.2.1.2 64 a b c h.1.2 h.1.2.mul.2
    rw [if_pos h.1, if_pos h.2.1, if_neg h.2.2] at q1 q2
    refine ⟨(v, 0), ?_, ?_⟩
    · exact Ev.bind (g := fun k => spec_l17Code.f k fr a b c true m 1000000000000) ⟨1001, fun k hk => q1 k (by omega)⟩ (Ev.some_ h1 (fun t => (t, (0 : Int))))
    · exact Ev.bind (g := fun k => impl_coloursCode.f k fr a b c m 1000000000000) ⟨1001, fun k hk => q2 k (by omega)⟩ (Ev.some_ h2 (fun t => (t, (0 : Int))))
  · generalize he : (if FL fr a b c then (if 1 ≤ m ∧ m ≤ 10 then (if pw m 1000000000000 (a * c).toNat 1 > 1000000000000 then 3 else 0) else 2) else 1 : Int) = e at q1 q2
    have hne : e ≠ 0 := by
      rw [← he]
      by_cases h1 : FL fr a b c
      · rw [if_pos h1]
        by_cases h2 : 1 ≤ m ∧ m ≤ 10
        · rw [if_pos h2]
          by_cases h3 : pw m 1000000000000 (a * c).toNat 1 > 1000000000000
          · rw [if_pos h3]; omega
          · exact absurd ⟨h1, h2, h3⟩ h
        · rw [if_neg h2]; omega
      · rw [if_neg h1]; omega
    refine ⟨(0, e), ⟨1001, fun k hk => ?_⟩, ⟨1001, fun k hk => ?_⟩⟩
    · simp only [spec_CountLean.f, q1 k (by omega), Option.bind_some, if_neg hne]
    · simp only [impl_CountLean.f, q2 k (by omega), Option.bind_some, if_neg hne]

end Go.Proofs.Ytfkdcngpjppnbaa.LA
