/- Plain lemmas on the order of matrices, on valid motions and on their texts. -/
import Derived.Test.YtnblfcibgokccaaGreatDoorAid
import Derived.Test.YtnblfcibgokccaaGreatDoorPCx0
import Derived.Test.YtnblfcibgokccaaGreatDoorLCABasic
import Derived.Test.YtnblfcibgokccaaGreatDoorLCPPoints
import Derived.Test.YtnblfcibgokccaaGreatDoorLCPbSuit
import Derived.Test.YtnblfcibgokccaaGreatDoorLCZpTexts
import Derived.Test.YtnblfcibgokccaaGreatDoorPCx0
import Derived.Test.YtnblfcibgokccaaGreatDoorPCx10
import Derived.Test.YtnblfcibgokccaaGreatDoorPCx12
import Derived.Test.YtnblfcibgokccaaGreatDoorPCx4
import Derived.Test.YtnblfcibgokccaaGreatDoorPCx6
import Derived.Test.YtnblfcibgokccaaGreatDoorPCx7
import Derived.Test.YtnblfcibgokccaaGreatDoorPCx8
import Derived.Test.YtnblfcibgokccaaGreatDoorPCx9
namespace Go.Proofs.YtnblfcibgokccaaGreatDoor.LC
open Go.RowKit Go.Proofs.YtnblfcibgokccaaGreatDoor.PC Go.Proofs.YtnblfcibgokccaaGreatDoorW.PrintWords Go.Proofs.YtnblfcibgokccaaGreatDoorW.PrintLast Go.Proofs.YtnblfcibgokccaaGreatDoor.Aid
set_option linter.unusedVariables false
set_option linter.unusedSimpArgs false

theorem small_eq (a b c d : Int) : spec_l02Small.f a b c d = some (decide (IsV a b ∧ IsV c d)) := by
  unfold spec_l02Small.f
  simp only [spec_IsVec_eq, Option.bind_some, ifb]
  rw [b2]
theorem mul_w {a b c d e f g h : Int} (hm : IsV a b ∧ IsV c d) (hp : IsV e f ∧ IsV g h) : spec_l02Multiply.f a b c d e f g h = some (a * e + b * g, a * f + b * h, c * e + d * g, c * f + d * h) := by
  obtain ⟨⟨⟨h1, h2⟩, h3, h4⟩, ⟨h5, h6⟩, h7, h8⟩ := hm
  obtain ⟨⟨⟨i1, i2⟩, i3, i4⟩, ⟨i5, i6⟩, i7, i8⟩ := hp
  have q1 := mulb h1 h2 i1 i2
  have q2 := mulb h3 h4 i5 i6
  have q3 := mulb h1 h2 i3 i4
  have q4 := mulb h3 h4 i7 i8
  have q5 := mulb h5 h6 i1 i2
  have q6 := mulb h7 h8 i5 i6
  have q7 := mulb h5 h6 i3 i4
  have q8 := mulb h7 h8 i7 i8
  unfold spec_l02Multiply.f
  rw [w64s (x := a * e) (by omega) (by omega), w64s (x := b * g) (by omega) (by omega), w64s (x := a * f) (by omega) (by omega), w64s (x := b * h) (by omega) (by omega), w64s (x := c * e) (by omega) (by omega), w64s (x := d * g) (by omega) (by omega), w64s (x := c * f) (by omega) (by omega), w64s (x := d * h) (by omega) (by omega),
    w64s (x := a * e + b * g) (by omega) (by omega), w64s (x := a * f + b * h) (by omega) (by omega), w64s (x := c * e + d * g) (by omega) (by omega), w64s (x := c * f + d * h) (by omega) (by omega)]
theorem ord_round {a b c d e f g h : Int} (hm : IsV a b ∧ IsV c d) (hp : IsV e f ∧ IsV g h) (k : Nat) (n : Int) (hn0 : 0 ≤ n) (hn : n ≤ 6) :
    spec_l02Order.l0 (k + 1) n a b c d e f g h = if IsV (a * e + b * g) (a * f + b * h) ∧ IsV (c * e + d * g) (c * f + d * h) then
      (if a * e + b * g = 1 ∧ a * f + b * h = 0 ∧ c * e + d * g = 0 ∧ c * f + d * h = 1 then some n else spec_l02Order.l0 k (n + 1) a b c d (a * e + b * g) (a * f + b * h) (c * e + d * g) (c * f + d * h)) else some 0 := by
  simp only [spec_l02Order.l0]
  rw [if_pos hn, mul_w hm hp]
  simp only [Option.bind_some]
  rw [small_eq, w64s (x := n + 1) (by omega) (by omega)]
  simp only [Option.bind_some, spec_l02Unit.f, Bool.and_eq_true, beq_iff_eq, decide_eq_true_eq]
theorem ord_ge {a b c d : Int} (hm : IsV a b ∧ IsV c d) : ∀ (j k : Nat) (n e f g h : Int), n + j = 7 → j < k → 0 ≤ n → (IsV e f ∧ IsV g h) → ∃ r, spec_l02Order.l0 k n a b c d e f g h = some r ∧ (r = 0 ∨ n ≤ r) := by
  intro j
  induction j with
  | zero =>
    intro k n e f g h hn hk h0 hp
    obtain ⟨k, rfl⟩ := succ_of_lt hk
    simp only [spec_l02Order.l0]
    rw [if_neg (by omega)]
    exact ⟨0, rfl, Or.inl rfl⟩
  | succ j ih =>
    intro k n e f g h hn hk h0 hp
    obtain ⟨k, rfl⟩ := succ_of_lt hk
    rw [ord_round hm hp k n h0 (by omega)]
    by_cases h1 : IsV (a * e + b * g) (a * f + b * h) ∧ IsV (c * e + d * g) (c * f + d * h)
    · rw [if_pos h1]
      by_cases h2 : a * e + b * g = 1 ∧ a * f + b * h = 0 ∧ c * e + d * g = 0 ∧ c * f + d * h = 1
      · rw [if_pos h2]; exact ⟨n, rfl, Or.inr (by omega)⟩
      · rw [if_neg h2]
        obtain ⟨r, h3, h4⟩ := ih k (n + 1) _ _ _ _ (by omega) (by omega) (by omega) h1
        exact ⟨r, h3, by omega⟩
    · rw [if_neg h1]; exact ⟨0, rfl, Or.inl rfl⟩
/-- The reference's round at the power u m - v. -/
def OL (k : Nat) (n a b c d u v : Int) : Option Int := spec_l02Order.l0 k n a b c d (u * a - v) (u * b) (u * c) (u * d - v)
/-- Is the power u m - v small? -/
def SU (a b c d u v : Int) : Prop := IsV (u * a - v) (u * b) ∧ IsV (u * c) (u * d - v)
theorem ord_uv {a b c d u v w : Int} (hm : IsV a b ∧ IsV c d) (h1 : a * d - b * c = 1) (hp : SU a b c d u v) (hw : w = u * (a + d) - v) (k : Nat) (n : Int) (hn0 : 0 ≤ n) (hn : n ≤ 6) :
    (¬ SU a b c d w u → OL (k + 1) n a b c d u v = some 0) ∧
    (SU a b c d w u → (w * a - u = 1 ∧ w * b = 0 ∧ w * c = 0 ∧ w * d - u = 1) → OL (k + 1) n a b c d u v = some n) ∧
    (SU a b c d w u → ¬ (w * a - u = 1 ∧ w * b = 0 ∧ w * c = 0 ∧ w * d - u = 1) → OL (k + 1) n a b c d u v = OL k (n + 1) a b c d w u) := by
  have e1 : a * (u * a - v) + b * (u * c) = w * a - u := by grind
  have e2 : a * (u * b) + b * (u * d - v) = w * b := by grind
  have e3 : c * (u * a - v) + d * (u * c) = w * c := by grind
  have e4 : c * (u * b) + d * (u * d - v) = w * d - u := by grind
  unfold OL
  rw [ord_round hm hp k n hn0 hn, e1, e2, e3, e4]
  refine ⟨fun h => if_neg h, fun h g => ?_, fun h g => ?_⟩
  · rw [if_pos (show IsV (w * a - u) (w * b) ∧ IsV (w * c) (w * d - u) from h), if_pos g]
  · rw [if_pos (show IsV (w * a - u) (w * b) ∧ IsV (w * c) (w * d - u) from h), if_neg g]
theorem ord_none {a b c d : Int} (hm : IsV a b ∧ IsV c d) (h1 : a * d - b * c = 1) (ht : a + d ≤ -2 ∨ 2 ≤ a + d) (hs : ¬ (b = 0 ∧ c = 0 ∧ a = d)) :
    ∀ (j k : Nat) (n u v : Int), n + j = 7 → j < k → 0 ≤ n → v.natAbs < u.natAbs → SU a b c d u v → OL k n a b c d u v = some 0 := by
  intro j
  induction j with
  | zero =>
    intro k n u v hn hk h0 _ _
    obtain ⟨k, rfl⟩ := succ_of_lt hk
    unfold OL
    simp only [spec_l02Order.l0]
    rw [if_neg (by omega)]
  | succ j ih =>
    intro k n u v hn hk h0 huv hp
    obtain ⟨k, rfl⟩ := succ_of_lt hk
    obtain ⟨r1, r2, r3⟩ := ord_uv (w := u * (a + d) - v) hm h1 hp rfl k n h0 (by omega)
    by_cases h2 : SU a b c d (u * (a + d) - v) u
    · have hb : u.natAbs < (u * (a + d) - v).natAbs := by
        have : (u * (a + d)).natAbs = u.natAbs * (a + d).natAbs := Int.natAbs_mul _ _
        have h3 : u.natAbs * 2 ≤ u.natAbs * (a + d).natAbs := Nat.mul_le_mul (Nat.le_refl _) (by omega)
        omega
      rw [r3 h2 (by
        rintro ⟨g1, g2, g3, g4⟩
        have hz : u * (a + d) - v ≠ 0 := by omega
        apply hs
        refine ⟨(Int.mul_eq_zero.1 g2).resolve_left hz, (Int.mul_eq_zero.1 g3).resolve_left hz, ?_⟩
        have : (u * (a + d) - v) * a = (u * (a + d) - v) * d := by omega
        exact Int.eq_of_mul_eq_mul_left hz this)]
      exact ih k (n + 1) _ u (by omega) (by omega) (by omega) hb h2
    · exact r1 h2
/-- Matrices of finite order of determinant 1. -/
def Fin1 (a b c d : Int) : Prop := a + d = -1 ∨ a + d = 0 ∨ a + d = 1 ∨ (b = 0 ∧ c = 0 ∧ a = d)
instance (a b c d : Int) : Decidable (Fin1 a b c d) := by unfold Fin1; infer_instance
theorem sq_one {a : Int} (h : a * a = 1) : a = 1 ∨ a = -1 := by
  have : (a - 1) * (a + 1) = 0 := by grind
  rcases Int.mul_eq_zero.1 this with h | h <;> omega
theorem OL_one (k : Nat) (a b c d : Int) : spec_l02Order.f k a b c d = OL k 1 a b c d 0 (-1) := by
  unfold spec_l02Order.f OL spec_l02Unit.f
  simp
theorem ord_det1 {a b c d : Int} (hm : IsV a b ∧ IsV c d) (h1 : a * d - b * c = 1) {k : Nat} (hk : 20 < k) : ∃ r, spec_l02Order.f k a b c d = some r ∧ (r ≠ 0 ↔ Fin1 a b c d) := by
  obtain ⟨k, rfl⟩ : ∃ j, k = j + 20 := ⟨k - 20, by omega⟩
  by_cases hs : b = 0 ∧ c = 0 ∧ a = d
  · obtain ⟨rfl, rfl, rfl⟩ := hs
    have hF : Fin1 a 0 0 a := Or.inr (Or.inr (Or.inr ⟨rfl, rfl, rfl⟩))
    rcases sq_one (a := a) (by omega) with rfl | rfl
    · exact ⟨1, by kernel_rfl, by simp [hF]⟩
    · exact ⟨2, by kernel_rfl, by simp [hF]⟩
  · have b0 := hm
    obtain ⟨⟨⟨x1, x2⟩, x3, x4⟩, ⟨x5, x6⟩, x7, x8⟩ := b0
    rw [OL_one]
    have s0 : SU a b c d 0 (-1) := by unfold SU IsV; omega
    have s1 : SU a b c d 1 0 := by unfold SU IsV; omega
    have st : ∀ (k : Nat) (n n' u v w : Int), n' = n + 1 → w = u * (a + d) - v → 0 ≤ n → n ≤ 6 → SU a b c d u v → SU a b c d w u → ¬ (w * a - u = 1 ∧ w * b = 0 ∧ w * c = 0 ∧ w * d - u = 1) → OL (k + 1) n a b c d u v = OL k n' a b c d w u := fun k n n' u v w hn hw h0 h6 h2 h3 h4 => by rw [hn]; exact (ord_uv hm h1 h2 hw k n h0 h6).2.2 h3 h4
    have en : ∀ (k : Nat) (n u v w : Int), w = u * (a + d) - v → 0 ≤ n → n ≤ 6 → SU a b c d u v → SU a b c d w u → (w * a - u = 1 ∧ w * b = 0 ∧ w * c = 0 ∧ w * d - u = 1) → OL (k + 1) n a b c d u v = some n := fun k n u v w hw h0 h6 h2 h3 h4 => (ord_uv hm h1 h2 hw k n h0 h6).2.1 h3 h4
    rw [st (k + 19) 1 2 0 (-1) 1 rfl (by omega) (by omega) (by omega) s0 s1 (by omega)]
    by_cases hF : Fin1 a b c d
    · unfold Fin1 at hF
      rcases hF with t | t | t | t
      · have s2 : SU a b c d (-1) 1 := by unfold SU IsV; omega
        have s3 : SU a b c d 0 (-1) := s0
        rw [st (k + 18) 2 3 1 0 (-1) rfl (by omega) (by omega) (by omega) s1 s2 (by omega), en (k + 17) 3 (-1) 1 0 (by omega) (by omega) (by omega) s2 s3 (by omega)]
        exact ⟨3, rfl, by simp [Fin1, t]⟩
      · have s2 : SU a b c d 0 1 := by unfold SU IsV; omega
        have s3 : SU a b c d (-1) 0 := by unfold SU IsV; omega
        rw [st (k + 18) 2 3 1 0 0 rfl (by omega) (by omega) (by omega) s1 s2 (by omega), st (k + 17) 3 4 0 1 (-1) rfl (by omega) (by omega) (by omega) s2 s3 (by omega), en (k + 16) 4 (-1) 0 0 (by omega) (by omega) (by omega) s3 s0 (by omega)]
        exact ⟨4, rfl, by simp [Fin1, t]⟩
      · have s2 : SU a b c d 1 1 := by unfold SU IsV; omega
        have s3 : SU a b c d 0 1 := by unfold SU IsV; omega
        have s4 : SU a b c d (-1) 0 := by unfold SU IsV; omega
        have s5 : SU a b c d (-1) (-1) := by unfold SU IsV; omega
        rw [st (k + 18) 2 3 1 0 1 rfl (by omega) (by omega) (by omega) s1 s2 (by omega), st (k + 17) 3 4 1 1 0 rfl (by omega) (by omega) (by omega) s2 s3 (by omega), st (k + 16) 4 5 0 1 (-1) rfl (by omega) (by omega) (by omega) s3 s4 (by omega), st (k + 15) 5 6 (-1) 0 (-1) rfl (by omega) (by omega) (by omega) s4 s5 (by omega), en (k + 14) 6 (-1) (-1) 0 (by omega) (by omega) (by omega) s5 s0 (by omega)]
        exact ⟨6, rfl, by simp [Fin1, t]⟩
      · exact absurd t hs
    · have ht : a + d ≤ -2 ∨ 2 ≤ a + d := by unfold Fin1 at hF; omega
      rw [ord_none hm h1 ht hs 5 (k + 19) 2 1 0 (by omega) (by omega) (by omega) (by decide) s1]
      exact ⟨0, rfl, by simp [hF]⟩
theorem ord_detm {a b c d : Int} (hm : IsV a b ∧ IsV c d) (h1 : a * d - b * c = -1) {k : Nat} (hk : 20 < k) : ∃ r, spec_l02Order.f k a b c d = some r ∧ (r = 2 ↔ a + d = 0) := by
  obtain ⟨k, rfl⟩ : ∃ j, k = j + 20 := ⟨k - 20, by omega⟩
  have b0 := hm
  obtain ⟨⟨⟨x1, x2⟩, x3, x4⟩, ⟨x5, x6⟩, x7, x8⟩ := b0
  have hI : IsV 1 0 ∧ IsV 0 1 := by decide
  unfold spec_l02Order.f spec_l02Unit.f
  simp only [Option.bind_some]
  rw [ord_round hm hI (k + 19) 1 (by omega) (by omega)]
  have e1 : a * 1 + b * 0 = a := by omega
  have e2 : a * 0 + b * 1 = b := by omega
  have e3 : c * 1 + d * 0 = c := by omega
  have e4 : c * 0 + d * 1 = d := by omega
  rw [e1, e2, e3, e4, if_pos hm, if_neg (by rintro ⟨rfl, rfl, rfl, rfl⟩; omega), ord_round hm hm (k + 18) (1 + 1) (by omega) (by omega)]
  have f1 : a * a + b * c = a * (a + d) + 1 := by grind
  have f2 : a * b + b * d = b * (a + d) := by grind
  have f3 : c * a + d * c = c * (a + d) := by grind
  have f4 : c * b + d * d = d * (a + d) + 1 := by grind
  rw [f1, f2, f3, f4]
  by_cases ht : a + d = 0
  · rw [ht, if_pos (by unfold IsV; omega), if_pos (by omega)]
    exact ⟨2, rfl, by simp⟩
  · by_cases hs : IsV (a * (a + d) + 1) (b * (a + d)) ∧ IsV (c * (a + d)) (d * (a + d) + 1)
    · rw [if_pos hs, if_neg (by
        rintro ⟨g1, g2, g3, g4⟩
        have z1 : a = 0 := (Int.mul_eq_zero.1 (by omega : a * (a + d) = 0)).resolve_right ht
        have z2 : b = 0 := (Int.mul_eq_zero.1 g2).resolve_right ht
        subst z1 z2
        omega)]
      obtain ⟨r, r1, r2⟩ := ord_ge hm 4 (k + 18) (1 + 1 + 1) _ _ _ _ (by omega) (by omega) (by omega) hs
      exact ⟨r, r1, by omega⟩
    · rw [if_neg hs]
      exact ⟨0, rfl, by omega⟩
/-- Matrices of finite order. -/
def Turn (a b c d : Int) : Prop := (a * d - b * c = 1 ∧ Fin1 a b c d) ∨ (a * d - b * c = -1 ∧ a + d = 0)
instance (a b c d : Int) : Decidable (Turn a b c d) := by unfold Turn; infer_instance
theorem spec_IsMotion_eq (a b c d x y : Int) {k : Nat} (hk : 20 < k) : spec_IsMotion.f k a b c d x y = some (decide (IsM a b c d ∧ Turn a b c d ∧ IsV x y)) := by
  unfold spec_IsMotion.f
  rw [spec_IsMat_eq]
  simp only [Option.bind_some]
  by_cases h : IsM a b c d
  · rw [if_pos (by simpa using h)]
    obtain ⟨hm, hd⟩ := h
    unfold spec_l02Kind.f spec_l02Det.f
    simp only [Option.bind_some]
    rw [det_w hm]
    have hq : ∃ q, (if a * d - b * c = 1 then (spec_l02Order.f k a b c d).bind fun t133 => some t133 else (spec_l02Order.f k a b c d).bind fun t134 => if t134 = 2 then some (-2) else some 0) = some q ∧ (q = 0 ↔ ¬ Turn a b c d) := by
      rcases hd with hd | hd
      · obtain ⟨r, r1, r2⟩ := ord_det1 hm hd hk
        rw [if_pos hd, r1]
        refine ⟨r, rfl, ?_⟩
        have : Turn a b c d ↔ Fin1 a b c d := ⟨fun h => by rcases h with ⟨_, h⟩ | ⟨h, _⟩; exact h; omega, fun h => Or.inl ⟨hd, h⟩⟩
        rw [this, ← r2]; omega
      · obtain ⟨r, r1, r2⟩ := ord_detm hm hd hk
        rw [if_neg (by omega), r1]
        have : Turn a b c d ↔ a + d = 0 := ⟨fun h => by rcases h with ⟨h, _⟩ | ⟨_, h⟩; omega; exact h, fun h => Or.inr ⟨hd, h⟩⟩
        rw [this, ← r2]
        simp only [Option.bind_some]
        by_cases e : r = 2
        · rw [if_pos e]; exact ⟨-2, rfl, by omega⟩
        · rw [if_neg e]; exact ⟨0, rfl, by omega⟩
    obtain ⟨q, q1, q2⟩ := hq
    rw [q1]
    simp only [Option.bind_some]
    by_cases ht : Turn a b c d
    · rw [if_neg (fun e => (q2.1 e) ht), spec_IsVec_eq]
      simp [IsM, hm, hd, ht]
    · rw [if_pos (q2.2 ht)]
      simp [ht]
  · rw [if_neg (by simpa using h)]
    simp [h]
theorem impl_IsMat_eq (a b c d : Int) : impl_IsMat.f a b c d = some (decide (IsM a b c d)) := by
  unfold impl_IsMat.f impl_Mat_isSmall.f impl_isCoordinate.f impl_Mat_det.f
  simp only [within_eq, Option.bind_some, ifb]
  have e : (if -1000 ≤ a ∧ a ≤ 1000 then if -1000 ≤ b ∧ b ≤ 1000 then if -1000 ≤ c ∧ c ≤ 1000 then some (decide (-1000 ≤ d ∧ d ≤ 1000)) else some false else some false else some false) = some (decide (IsV a b ∧ IsV c d)) := by
    unfold IsV
    by_cases h1 : -1000 ≤ a ∧ a ≤ 1000 <;> by_cases h2 : -1000 ≤ b ∧ b ≤ 1000 <;> by_cases h3 : -1000 ≤ c ∧ c ≤ 1000 <;> simp [h1, h2, h3]
  rw [e]
  simp only [Option.bind_some, ifb]
  by_cases h : IsV a b ∧ IsV c d
  · rw [if_pos h, det_w h]
    by_cases e : a * d - b * c = 1
    · rw [if_pos e]; simp [IsM, h, e]
    · rw [if_neg e]
      by_cases e' : a * d - b * c = -1
      · simp [IsM, h, e']
      · simp [IsM, e, e']
  · rw [if_neg h]
    simp only [IsM, h, false_and, decide_false]
theorem impl_order_det1 {a b c d : Int} (hm : IsV a b ∧ IsV c d) (h1 : a * d - b * c = 1) {k : Nat} (hk : 10 < k) : ∃ r, impl_Mat_order.f k a b c d = some r ∧ (0 < r ↔ Fin1 a b c d) := by
  obtain ⟨k, rfl⟩ : ∃ j, k = j + 1 + 1 + 1 + 1 := ⟨k - 4, by omega⟩
  have b0 := hm
  obtain ⟨⟨⟨x1, x2⟩, x3, x4⟩, ⟨x5, x6⟩, x7, x8⟩ := b0
  have hd := det_w hm
  unfold impl_Mat_order.f impl_unit.f
  simp only [Option.bind_some, Bool.and_eq_true, beq_iff_eq]
  by_cases c1 : a = 1 ∧ b = 0 ∧ c = 0 ∧ d = 1
  · rw [if_pos c1]
    exact ⟨1, rfl, by simp [Fin1, c1]⟩
  · rw [if_neg c1]
    simp only [impl_Mat_det.f, Option.bind_some, impl_Mat_order.j0, impl_Mat_order.j1, impl_Mat_order.j2, impl_Mat_order.j3, hd, h1, w64s (x := a + d) (by omega) (by omega)]
    by_cases c2 : a = -1 ∧ b = 0 ∧ c = 0 ∧ d = -1
    · obtain ⟨rfl, rfl, rfl, rfl⟩ := c2
      exact ⟨2, by simp, by simp [Fin1]⟩
    · have c3 : (a == -1 && (b == 0 && (c == 0 && d == -1))) = false := by
        rw [Bool.eq_false_iff]; simp only [ne_eq, Bool.and_eq_true, beq_iff_eq]; exact c2
      simp only [c3]
      have c4 : ¬ (b = 0 ∧ c = 0 ∧ a = d) := by
        rintro ⟨rfl, rfl, rfl⟩
        rcases sq_one (a := a) (by omega) with rfl | rfl
        · exact c1 ⟨rfl, rfl, rfl, rfl⟩
        · exact c2 ⟨rfl, rfl, rfl, rfl⟩
      by_cases t1 : a + d = -1
      · exact ⟨3, by simp [t1], by simp [Fin1, t1]⟩
      · by_cases t2 : a + d = 0
        · exact ⟨4, by simp [t2], by simp [Fin1, t2]⟩
        · by_cases t3 : a + d = 1
          · exact ⟨6, by simp [t3], by simp [Fin1, t3]⟩
          · exact ⟨0, by simp [t1, t2, t3], by simp [Fin1, t1, t2, t3, c4]⟩
theorem impl_order_detm {a b c d : Int} (hm : IsV a b ∧ IsV c d) (h1 : a * d - b * c = -1) {k : Nat} (hk : 10 < k) : ∃ r, impl_Mat_order.f k a b c d = some r ∧ (r = 2 ↔ a + d = 0) := by
  obtain ⟨k, rfl⟩ : ∃ j, k = j + 1 + 1 + 1 + 1 := ⟨k - 4, by omega⟩
  have b0 := hm
  obtain ⟨⟨⟨x1, x2⟩, x3, x4⟩, ⟨x5, x6⟩, x7, x8⟩ := b0
  have hd := det_w hm
  unfold impl_Mat_order.f impl_unit.f
  simp only [Option.bind_some, Bool.and_eq_true, beq_iff_eq]
  rw [if_neg (by rintro ⟨rfl, rfl, rfl, rfl⟩; omega)]
  simp only [impl_Mat_det.f, Option.bind_some, impl_Mat_order.j0, impl_Mat_order.j1, impl_Mat_order.j2, impl_Mat_order.j3, hd, h1, w64s (x := a + d) (by omega) (by omega)]
  have c3 : (a == -1 && (b == 0 && (c == 0 && d == -1))) = false := by
    rw [Bool.eq_false_iff]; simp only [ne_eq, Bool.and_eq_true, beq_iff_eq]; rintro ⟨rfl, rfl, rfl, rfl⟩; omega
  simp only [c3]
  by_cases t : a + d = 0
  · exact ⟨2, by simp [t], by simp [t]⟩
  · exact ⟨0, by simp [t], by simp [t]⟩
theorem impl_isTurn_eq {a b c d : Int} (hm : IsM a b c d) {k : Nat} (hk : 10 < k) : impl_Mat_isTurn.f k a b c d = some (decide (Turn a b c d)) := by
  obtain ⟨hm, hd⟩ := hm
  unfold impl_Mat_isTurn.f impl_Mat_isRotation.f impl_Mat_isReflection.f impl_Mat_det.f
  simp only [Option.bind_some]
  rw [det_w hm]
  rcases hd with hd | hd
  · obtain ⟨r, r1, r2⟩ := impl_order_det1 hm hd hk
    have ht : Turn a b c d ↔ 0 < r := by rw [r2]; exact ⟨fun h => by rcases h with ⟨_, h⟩ | ⟨h, _⟩; exact h; omega, fun h => Or.inl ⟨hd, h⟩⟩
    rw [if_pos hd, if_neg (by omega), r1]
    simp only [Option.bind_some]
    by_cases e : 0 < r
    · rw [if_pos (by simpa using e), decide_eq_true (ht.2 e)]
    · rw [if_neg (by simpa using e), decide_eq_false (fun x => e (ht.1 x))]
  · obtain ⟨r, r1, r2⟩ := impl_order_detm hm hd hk
    have ht : Turn a b c d ↔ r = 2 := by rw [r2]; exact ⟨fun h => by rcases h with ⟨h, _⟩ | ⟨_, h⟩; omega; exact h, fun h => Or.inr ⟨hd, h⟩⟩
    rw [if_neg (by omega), if_pos hd, r1]
    simp only [Option.bind_some]
    rw [if_neg (by simp)]
    by_cases e : r = 2
    · rw [decide_eq_true (ht.2 e)]; simp [e]
    · rw [decide_eq_false (fun x => e (ht.1 x))]; simp [e]
theorem impl_IsMotion_eq (a b c d x y : Int) {k : Nat} (hk : 20 < k) : impl_IsMotion.f k a b c d x y = some (decide (IsM a b c d ∧ Turn a b c d ∧ IsV x y)) := by
  unfold impl_IsMotion.f
  rw [impl_IsMat_eq]
  simp only [Option.bind_some]
  by_cases h : IsM a b c d
  · rw [if_pos (by simpa using h), impl_isTurn_eq h (by omega)]
    simp only [Option.bind_some]
    by_cases ht : Turn a b c d
    · rw [if_pos (by simpa using ht), impl_IsVec_eq]
      simp [h, ht]
    · rw [if_neg (by simpa using ht)]
      simp [ht]
  · rw [if_neg (by simpa using h)]
    simp [h]
/-- A matrix's text, and a vector's. -/
def matTxt (a b c d : Int) : ByteArray := ⟨(Lib.join ([a, b, c, d].map Lib.itoa) [44]).toArray⟩
def vecTxt (x y : Int) : ByteArray := ⟨(Lib.join ([x, y].map Lib.itoa) [44]).toArray⟩
theorem itoa_len20 (n : Int) (h0 : -1000 ≤ n) (h1 : n ≤ 1000) : (Lib.itoa n).length ≤ 20 := (l01Number_eq n (by omega) (by omega) (k := 100) (by omega)).2
theorem MatText_both {a b c d : Int} (h : IsM a b c d) {k : Nat} (hk : 50 < k) : spec_MatText.f k a b c d = some (matTxt a b c d) ∧ impl_MatText.f k a b c d = some (matTxt a b c d) ∧ (matTxt a b c d).size ≤ 1000 := by
  have b0 := h.1
  obtain ⟨⟨⟨x1, x2⟩, x3, x4⟩, ⟨x5, x6⟩, x7, x8⟩ := b0
  have hb : ∀ x ∈ [a, b, c, d], -1000 ≤ x ∧ x ≤ 1000 := by intro x hx; simp at hx; omega
  have hl : ∀ x ∈ [a, b, c, d], (Lib.itoa x).length ≤ 21 := fun x hx => by have := itoa_len20 x (hb x hx).1 (hb x hx).2; omega
  unfold spec_MatText.f impl_MatText.f spec_l02Numbers.f matTxt
  rw [spec_IsMat_eq, impl_IsMat_eq]
  simp only [Option.bind_some]
  rw [l01Join_eq [a, b, c, d] _ (by simp) (fun x hx => by have := hb x hx; omega) (by decide) (k := k) (by simp; omega), joined_eq [a, b, c, d] _ (by simp) (fun x hx => text_eq x (by have := hb x hx; omega) (by have := hb x hx; omega)) hl (by decide) (k := k) (by simp; omega)]
  refine ⟨by simp [h], by simp [h], ?_⟩
  have := join_len' [44] ([a, b, c, d].map Lib.itoa) (fun x hx => by obtain ⟨y, hy, rfl⟩ := List.mem_map.1 hx; exact hl y hy)
  rw [List.length_map] at this
  simp only [ByteArray.size, List.size_toArray]
  simp only [List.length_cons, List.length_nil] at this
  omega
theorem VecText_both {x y : Int} (h : IsV x y) {k : Nat} (hk : 50 < k) : spec_VecText.f k x y = some (vecTxt x y) ∧ impl_VecText.f k x y = some (vecTxt x y) ∧ (vecTxt x y).size ≤ 1000 := by
  have b0 := h
  obtain ⟨⟨x1, x2⟩, x3, x4⟩ := b0
  have hb : ∀ z ∈ [x, y], -1000 ≤ z ∧ z ≤ 1000 := by intro z hz; simp at hz; omega
  have hl : ∀ z ∈ [x, y], (Lib.itoa z).length ≤ 21 := fun z hz => by have := itoa_len20 z (hb z hz).1 (hb z hz).2; omega
  obtain ⟨n1, n2⟩ := l01Number_eq x (by omega) (by omega) (k := k) (by omega)
  obtain ⟨n3, n4⟩ := l01Number_eq y (by omega) (by omega) (k := k) (by omega)
  have hz := join_len' [44] ([x, y].map Lib.itoa) (fun z hz => by obtain ⟨q, hq, rfl⟩ := List.mem_map.1 hz; exact hl q hq)
  unfold spec_VecText.f impl_VecText.f vecTxt
  rw [spec_IsVec_eq, impl_IsVec_eq]
  simp only [Option.bind_some]
  rw [n1, n3, joined_eq [x, y] _ (by simp) (fun z hz => text_eq z (by have := hb z hz; omega) (by have := hb z hz; omega)) hl (by decide) (k := k) (by simp; omega)]
  have t1 : (txt x).size ≤ 20 := by simpa [txt, ByteArray.size] using n2
  have t2 : (txt y).size ≤ 20 := by simpa [txt, ByteArray.size] using n4
  have t3 : (⟨#[44]⟩ : ByteArray).size = 1 := by decide
  simp only [Option.bind_some]
  rw [if_pos (by simpa using h), if_pos (by omega), if_pos (by rw [ByteArray.size_append]; omega), if_pos (by simpa using h)]
  refine ⟨?_, rfl, ?_⟩
  · unfold txt
    rw [show (⟨#[44]⟩ : ByteArray) = ⟨[44].toArray⟩ from rfl, ba_app, ba_app, List.map_cons, Lib.join_cons]
    simp [joinTail_cons, Lib.joinTail]
  · rw [List.length_map] at hz
    simp only [ByteArray.size, List.size_toArray]
    simp only [List.length_cons, List.length_nil] at hz
    omega
theorem MotionText_both (a b c d x y : Int) {k : Nat} (hk : 100 < k) : ∃ s, spec_MotionText.f k a b c d x y = some s ∧ impl_MotionText.f k a b c d x y = some s := by
  unfold spec_MotionText.f impl_MotionText.f
  rw [spec_IsMotion_eq a b c d x y (by omega), impl_IsMotion_eq a b c d x y (by omega)]
  simp only [Option.bind_some]
  by_cases h : IsM a b c d ∧ Turn a b c d ∧ IsV x y
  · rw [if_pos (by simpa using h), if_pos (by simpa using h)]
    obtain ⟨m1, m2, m3⟩ := MatText_both h.1 (k := k) (by omega)
    obtain ⟨v1, v2, v3⟩ := VecText_both h.2.2 (k := k) (by omega)
    have t3 : (⟨#[59]⟩ : ByteArray).size = 1 := by decide
    rw [m1, m2, v1, v2]
    simp only [Option.bind_some]
    rw [if_pos (by omega), if_pos (by rw [ByteArray.size_append]; omega)]
    exact ⟨_, rfl, rfl⟩
  · rw [if_neg (by simpa using h), if_neg (by simpa using h)]
    exact ⟨_, rfl, rfl⟩

end Go.Proofs.YtnblfcibgokccaaGreatDoor.LC
