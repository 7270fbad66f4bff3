/- Plain lemmas on the sum of lean patterns over all lattices that contain a lattice. -/
import Derived.Test.YtfkdcngpjppnbaaAid
import Derived.Test.YtfkdcngpjppnbaaPAx0
import Derived.Test.YtfkdcngpjppnbaaLAABasic
import Derived.Test.YtfkdcngpjppnbaaLADPower
import Derived.Test.YtfkdcngpjppnbaaLAGLattice
import Derived.Test.YtfkdcngpjppnbaaLAISublattices
import Derived.Test.YtfkdcngpjppnbaaLAJCountlean
import Derived.Test.YtfkdcngpjppnbaaLAYaDraw
import Derived.Test.YtfkdcngpjppnbaaPAx0
import Derived.Test.YtfkdcngpjppnbaaPAx5
import Derived.Test.YtfkdcngpjppnbaaPAx6
import Derived.Test.YtfkdcngpjppnbaaPAx8
namespace Go.Proofs.Ytfkdcngpjppnbaa.LA
open Go.RowKit Go.Proofs.Ytfkdcngpjppnbaa.PA Go.Proofs.YtfkdcngpjppnbaaW.PrintWords Go.Proofs.YtfkdcngpjppnbaaW.PrintLast Go.Proofs.Ytfkdcngpjppnbaa.Aid
set_option linter.unusedVariables false
set_option linter.unusedSimpArgs false

theorem pick_some {l : List Int} (hb : Byt l) {p s : Int} (h : Src l p s) (L : List Int) (h1 : 1 ≤ (L.length : Int)) (h2 : (L.length : Int) ≤ 1000) : ∃ r p' s', spec_l01Pick.f l p s L = some (r, p', s') ∧ Src l p' s' := by
  obtain ⟨r, p1, s1, e1, g1, r0, r1⟩ := next_some hb h (n := (L.length : Int)) (by omega)
  unfold spec_l01Pick.f
  rw [e1, Option.bind_some]
  dsimp only
  rw [if_pos r0, if_pos (r1 h1)]
  exact ⟨_, _, _, rfl, g1⟩
theorem frame_some {l : List Int} (hb : Byt l) {p s : Int} (h : Src l p s) : ∃ r p' s', spec_l04DrawFrame.f l p s = some (r, p', s') ∧ Src l p' s' := by
  obtain ⟨r, p1, s1, e1, g1, -, -⟩ := next_some hb h (n := 40) (by omega)
  unfold spec_l04DrawFrame.f
  rw [e1, Option.bind_some]
  dsimp only
  by_cases c : r = 0
  · obtain ⟨q, p2, s2, e2, g2⟩ := pick_some hb g1 [(-1), 2] (by decide) (by decide)
    rw [if_pos c, e2, Option.bind_some]; exact ⟨_, _, _, rfl, g2⟩
  · obtain ⟨q, p2, s2, e2, g2, -, -⟩ := next_some hb g1 (n := 2) (by omega)
    rw [if_neg c, e2, Option.bind_some]; exact ⟨_, _, _, rfl, g2⟩
theorem lat_some {l : List Int} (hb : Byt l) {p s : Int} (h : Src l p s) : ∃ a b c p' s', spec_l03Draw.f l p s = some (a, b, c, p', s') ∧ Src l p' s' := by
  obtain ⟨r1, p1, s1, e1, g1, a0, a1⟩ := next_some hb h (n := 6) (by omega)
  obtain ⟨r2, p2, s2, e2, g2, b0, b1⟩ := next_some hb g1 (n := 6) (by omega)
  have a1 := a1 (by omega)
  have b1 := b1 (by omega)
  have w1 : wrap64 (1 + r1) = 1 + r1 := w64s (by omega) (by omega)
  obtain ⟨r3, p3, s3, e3, g3, -, -⟩ := next_some hb g2 (n := 1 + r1) (by omega)
  obtain ⟨r4, p4, s4, e4, g4, -, -⟩ := next_some hb g3 (n := 60) (by omega)
  unfold spec_l03Draw.f
  rw [e1, Option.bind_some]; dsimp only
  rw [e2, Option.bind_some]; dsimp only
  rw [w1, e3, Option.bind_some]; dsimp only
  rw [e4, Option.bind_some]; dsimp only
  by_cases c0 : r4 = 0
  · obtain ⟨q, p5, s5, e5, g5⟩ := pick_some hb g4 [0, 64, 65, 8] (by decide) (by decide)
    rw [if_pos c0, e5, Option.bind_some]; exact ⟨_, _, _, _, _, rfl, g5⟩
  rw [if_neg c0]
  by_cases c1 : r4 = 1
  · obtain ⟨q, p5, s5, e5, g5⟩ := pick_some hb g4 [(-1), 1 + r1, wrap64 (1 + r1 - 1)] (by simp) (by simp)
    rw [if_pos c1, e5, Option.bind_some]; exact ⟨_, _, _, _, _, rfl, g5⟩
  rw [if_neg c1]
  by_cases c2 : r4 = 2
  · obtain ⟨q, p5, s5, e5, g5⟩ := pick_some hb g4 [8, 9] (by decide) (by decide)
    rw [if_pos c2, e5, Option.bind_some]; exact ⟨_, _, _, _, _, rfl, g5⟩
  rw [if_neg c2]; exact ⟨_, _, _, _, _, rfl, g4⟩
theorem flat_some {l : List Int} (hb : Byt l) {p s : Int} (h : Src l p s) : ∃ fr a b c p' s', spec_l06DrawLattice.f l p s = some (fr, a, b, c, p', s') ∧ Src l p' s' := by
  obtain ⟨fr, p1, s1, e1, g1⟩ := frame_some hb h
  obtain ⟨r, p2, s2, e2, g2, -, -⟩ := next_some hb g1 (n := 5) (by omega)
  unfold spec_l06DrawLattice.f
  rw [e1, Option.bind_some]; dsimp only
  rw [e2, Option.bind_some]; dsimp only
  by_cases c0 : r = 0
  · obtain ⟨a, b, c, p3, s3, e3, g3⟩ := lat_some hb g2
    rw [if_pos c0, e3, Option.bind_some]; exact ⟨_, _, _, _, _, _, rfl, g3⟩
  rw [if_neg c0]
  by_cases c1 : r = 1
  · obtain ⟨q, p3, s3, e3, g3, -, -⟩ := next_some hb g2 (n := 4) (by omega)
    obtain ⟨q', p4, s4, e4, g4, -, -⟩ := next_some hb g3 (n := 4) (by omega)
    rw [if_pos c1, e3, Option.bind_some]; dsimp only
    rw [e4, Option.bind_some]; exact ⟨_, _, _, _, _, _, rfl, g4⟩
  rw [if_neg c1]
  by_cases c2 : r = 2
  · rw [if_pos c2]
    by_cases c3 : fr = 0
    · rw [if_pos c3]; exact ⟨_, _, _, _, _, _, rfl, g2⟩
    · rw [if_neg c3]; exact ⟨_, _, _, _, _, _, rfl, g2⟩
  · obtain ⟨q, p3, s3, e3, g3, -, -⟩ := next_some hb g2 (n := 4) (by omega)
    rw [if_neg c2, e3, Option.bind_some]; exact ⟨_, _, _, _, _, _, rfl, g3⟩
theorem draw_lean {l : List Int} (hb : Byt l) : ∃ fr a b c m, ∀ k : Nat, 64 < k → spec_DrawCountLean.f k l = some (fr, a, b, c, m) := by
  obtain ⟨s, e0, g0⟩ := from_ev hb
  obtain ⟨fr, a, b, c, p1, s1, e1, g1⟩ := flat_some hb g0
  obtain ⟨r, p2, s2, e2, g2, -, -⟩ := next_some hb g1 (n := 12) (by omega)
  obtain ⟨m, p3, s3, e3, g3⟩ := pick_some hb g2 [2, 2, 3, 1, 4, 10, r] (by simp) (by simp)
  refine ⟨fr, a, b, c, m, fun k hk => ?_⟩
  unfold spec_DrawCountLean.f spec_DrawCountPatterns.f spec_l17DrawColours.f
  rw [e0 k hk, Option.bind_some]; dsimp only
  rw [e1, Option.bind_some]; dsimp only
  rw [e2, Option.bind_some]; dsimp only
  rw [e3]; rfl
theorem contains_same {a b c A B C : Int} (ht : Lat a b c) (hL : Lat A B C) (he : a * c = A * C) (h1 : red a b c A 0 = (0, 0)) (h2 : red a b c B C = (0, 0)) : a = A ∧ b = B ∧ c = C := by
  obtain ⟨t1, t2, t3, t4, t5, t6, t7⟩ := ht
  obtain ⟨l1, l2, l3, l4, l5, l6, l7⟩ := hL
  unfold red at h1 h2
  simp only [Prod.mk.injEq] at h1 h2
  obtain ⟨h1, -⟩ := h1
  obtain ⟨h2, h3⟩ := h2
  have d1 : a ∣ A := by
    have : A - 0 / c * b = A := by rw [Int.zero_ediv, Int.zero_mul]; omega
    rw [this] at h1; exact Int.dvd_of_emod_eq_zero h1
  have d2 : c ∣ C := Int.dvd_of_emod_eq_zero h3
  have e1 : a ≤ A := Int.le_of_dvd (by omega) d1
  have e2 : c ≤ C := Int.le_of_dvd (by omega) d2
  have ea : a = A := by
    apply Decidable.byContradiction
    intro hn
    have q1 : (a + 1) * C ≤ A * C := Int.mul_le_mul_of_nonneg_right (by omega) (by omega)
    have q2 : a * c ≤ a * C := Int.mul_le_mul_of_nonneg_left e2 (by omega)
    have q3 : (a + 1) * C = a * C + C := by rw [Int.add_mul, Int.one_mul]
    omega
  have ec : c = C := by
    rw [ea] at he
    exact Int.eq_of_mul_eq_mul_left (by omega) he
  refine ⟨ea, ?_, ec⟩
  rw [ec, Int.ediv_self (by omega), Int.one_mul] at h2
  have := Int.dvd_of_emod_eq_zero h2
  obtain ⟨q, hq⟩ := this
  have : q = 0 := by
    rcases Int.lt_trichotomy q 0 with g | g | g
    · have : a * q ≤ a * (-1) := Int.mul_le_mul_of_nonneg_left (by omega) (by omega)
      omega
    · exact g
    · have : a * 1 ≤ a * q := Int.mul_le_mul_of_nonneg_left (by omega) (by omega)
      omega
  rw [this, Int.mul_zero] at hq
  omega
theorem contains_self {A B C : Int} (hL : Lat A B C) : red A B C A 0 = (0, 0) ∧ red A B C B C = (0, 0) := by
  obtain ⟨l1, l2, l3, l4, l5, l6, l7⟩ := hL
  unfold red
  rw [Int.zero_ediv, Int.zero_mul, Int.sub_zero, Int.emod_self, Int.zero_emod, Int.ediv_self (by omega), Int.one_mul, Int.sub_self, Int.zero_emod, Int.emod_self]
  exact ⟨rfl, rfl⟩
theorem in_lat {a b c x y : Int} (ht : Lat a b c) (hx : 0 ≤ x ∧ x ≤ 64) (hy : 0 ≤ y ∧ y ≤ 64) : impl_IsInLattice.f a b c x y = some (decide (red a b c x y = (0, 0)), 0) := by
  unfold impl_IsInLattice.f impl_latticeVecCode.f impl_IsVec.f impl_isCoordinate.f
  rw [impl_IsLattice_eq, Option.bind_some, if_pos (decide_eq_true ht), within_eq, within_eq]
  simp only [Option.bind_some]
  rw [if_pos (by rw [decide_eq_true_eq]; omega), Option.bind_some, if_pos (by rw [decide_eq_true_eq]; omega), Option.bind_some, if_pos rfl, impl_has_eq (ht.mod4 (by omega) (by omega) (by omega) (by omega))]
  rfl
theorem pw_more {base bound : Int} : ∀ (i j : Nat) (x : Int), pw base bound (i + j) x ≤ bound → pw base bound i x ≤ bound
  | 0, j, x, h => by
    show x ≤ bound
    apply Int.not_lt.1
    intro g
    rw [pw_big _ g] at h; omega
  | i + 1, j, x, h => by
    rw [show i + 1 + j = (i + j) + 1 by omega] at h
    simp only [pw] at h ⊢
    by_cases g : x ≤ bound
    · rw [if_pos g] at h ⊢; exact pw_more i j _ h
    · rw [if_neg g] at h; omega
theorem law_step (fr m cv y i A B C : Int) (hL : Lat A B C) (Ls : List S33) (j : Nat) (hj : j < Ls.length) (hlen : Ls.length ≤ 4096) (ht : Lat (rd_T33 Ls (j : Int)).f0 (rd_T33 Ls (j : Int)).f1 (rd_T33 Ls (j : Int)).f2) (K : Nat) :
    laws_FnLeanCounts.l1 (K + 3) fr m cv y i Ls j A B C = if (red (rd_T33 Ls (j : Int)).f0 (rd_T33 Ls (j : Int)).f1 (rd_T33 Ls (j : Int)).f2 A 0 = (0, 0) ∧ red (rd_T33 Ls (j : Int)).f0 (rd_T33 Ls (j : Int)).f1 (rd_T33 Ls (j : Int)).f2 B C = (0, 0)) then
      ((impl_CountLean.f K fr (rd_T33 Ls (j : Int)).f0 (rd_T33 Ls (j : Int)).f1 (rd_T33 Ls (j : Int)).f2 m).bind fun bt => if bt.2 = 0 then laws_FnLeanCounts.l1 K fr m cv (wrap64 (y + bt.1)) i Ls ((j + 1 : Nat) : Int) A B C else some false)
      else laws_FnLeanCounts.l1 K fr m cv y i Ls ((j + 1 : Nat) : Int) A B C := by
  obtain ⟨l1, l2, l3, l4, l5, l6, l7⟩ := hL
  have hw : wrap64 ((j : Int) + 1) = ((j + 1 : Nat) : Int) := by rw [w64s (by omega) (by omega)]; omega
  have c1 : (j : Int) < (Ls.length : Int) := by omega
  have c2 : (0 : Int) ≤ (j : Int) := by omega
  show laws_FnLeanCounts.l1 (K + 2 + 1) fr m cv y i Ls j A B C = _
  simp only [laws_FnLeanCounts.l1]
  rw [if_pos c1, if_pos c2, in_lat ht (by omega) (by omega), in_lat ht (by omega) (by omega)]
  simp only [Option.bind_some]
  rw [if_pos trivial]
  show laws_FnLeanCounts.j4 (K + 1 + 1) fr m cv y i Ls j _ _ _ A B C = _
  simp only [laws_FnLeanCounts.j4]
  rw [if_neg (by decide)]
  by_cases g1 : red (rd_T33 Ls (j : Int)).f0 (rd_T33 Ls (j : Int)).f1 (rd_T33 Ls (j : Int)).f2 A 0 = (0, 0)
  · rw [if_pos (decide_eq_true g1)]
    simp only [laws_FnLeanCounts.j5]
    by_cases g2 : red (rd_T33 Ls (j : Int)).f0 (rd_T33 Ls (j : Int)).f1 (rd_T33 Ls (j : Int)).f2 B C = (0, 0)
    · rw [if_pos (decide_eq_true g2), if_pos c2, if_pos c1, hw, if_pos (And.intro g1 g2)]
    · rw [if_neg (fun h => g2 (of_decide_eq_true h)), if_neg (fun h => g2 h.2), hw]
  · rw [if_neg (fun h => g1 (of_decide_eq_true h)), if_neg (fun h => g1 h.1)]
    simp only [laws_FnLeanCounts.j5]
    rw [if_neg (by decide), hw]
/-- What the program's recursion and its whole answer tell of one lattice. -/
def Cnt (fr m a b c : Int) : Prop := ∃ v, Ev (fun k => impl_countLean.f k a b c m) v ∧ Ev (fun k => impl_CountLean.f k fr a b c m) (v, 0)
theorem law_skip (fr m cv i A B C : Int) (hL : Lat A B C) (Ls : List S33) (hlen : Ls.length ≤ 4096) (r : Bool) (y : Int) (d : Nat) : ∀ j : Nat, j ≤ Ls.length → Ls.length - j = d →
    (∀ q : Nat, j ≤ q → q < Ls.length → Lat (rd_T33 Ls (q : Int)).f0 (rd_T33 Ls (q : Int)).f1 (rd_T33 Ls (q : Int)).f2 ∧ ¬ (red (rd_T33 Ls (q : Int)).f0 (rd_T33 Ls (q : Int)).f1 (rd_T33 Ls (q : Int)).f2 A 0 = (0, 0) ∧ red (rd_T33 Ls (q : Int)).f0 (rd_T33 Ls (q : Int)).f1 (rd_T33 Ls (q : Int)).f2 B C = (0, 0))) →
    Ev (fun k => laws_FnLeanCounts.l0 k fr m cv y (wrap64 (i + 1)) A B C) r → Ev (fun k => laws_FnLeanCounts.l1 k fr m cv y i Ls j A B C) r := by
  induction d with
  | zero =>
    intro j hj hd hq h
    refine Ev.step (fun k => ?_) h
    simp only [laws_FnLeanCounts.l1]
    rw [if_neg (by omega)]
  | succ d ih =>
    intro j hj hd hq h
    obtain ⟨ht, hno⟩ := hq j (Nat.le_refl _) (by omega)
    obtain ⟨K, hK⟩ := ih (j + 1) (by omega) (by omega) (fun q h1 h2 => hq q (by omega) h2) h
    refine ⟨K + 3, fun k hk => ?_⟩
    obtain ⟨k, rfl⟩ : ∃ n, k = n + 3 := ⟨k - 3, by omega⟩
    show laws_FnLeanCounts.l1 (k + 3) fr m cv y i Ls j A B C = some r
    rw [law_step fr m cv y i A B C hL Ls j (by omega) hlen ht k, if_neg hno]
    exact hK k (by omega)
theorem couple_list (fr m cv i A B C : Int) (hL : Lat A B C) (v : Int) (Ls : List S33) (hlen : Ls.length ≤ 4096) (hl : ∀ t ∈ Ls, Lat t.f0 t.f1 t.f2 ∧ Cnt fr m t.f0 t.f1 t.f2)
    (hnext : ∀ x y, ∃ r, Ev (fun k => impl_countLean.l0 k m x (wrap64 (i + 1)) A B C) r ∧ Ev (fun k => laws_FnLeanCounts.l0 k fr m cv y (wrap64 (i + 1)) A B C) (decide (wrap64 (y + x - r + v) = cv))) (d : Nat) : ∀ (j : Nat) (x y : Int), j ≤ Ls.length → Ls.length - j = d →
    ∃ r, Ev (fun k => impl_countLean.l1 k m x i Ls (Ls.length : Int) j A B C) r ∧ Ev (fun k => laws_FnLeanCounts.l1 k fr m cv y i Ls j A B C) (decide (wrap64 (y + x - r + v) = cv)) := by
  induction d with
  | zero =>
    intro j x y hj hd
    obtain ⟨r, h1, h2⟩ := hnext x y
    refine ⟨r, Ev.step (fun k => ?_) h1, Ev.step (fun k => ?_) h2⟩
    · simp only [impl_countLean.l1]; rw [if_neg (by omega)]
    · simp only [laws_FnLeanCounts.l1]; rw [if_neg (by omega)]
  | succ d ih =>
    intro j x y hj hd
    have c1 : (j : Int) < (Ls.length : Int) := by omega
    have c2 : (0 : Int) ≤ (j : Int) := by omega
    have hw : wrap64 ((j : Int) + 1) = ((j + 1 : Nat) : Int) := by rw [w64s (by omega) (by omega)]; omega
    obtain ⟨ht, u, hu1, K2, hu2⟩ := hl _ (rd_lat Ls j (by omega))
    have ls := fun K y => law_step fr m cv y i A B C hL Ls j (by omega) hlen ht K
    by_cases g : red (rd_T33 Ls (j : Int)).f0 (rd_T33 Ls (j : Int)).f1 (rd_T33 Ls (j : Int)).f2 A 0 = (0, 0) ∧ red (rd_T33 Ls (j : Int)).f0 (rd_T33 Ls (j : Int)).f1 (rd_T33 Ls (j : Int)).f2 B C = (0, 0)
    · obtain ⟨r, h1, K1, h2⟩ := ih (j + 1) (wrap64 (x - u)) (wrap64 (y + u)) (by omega) (by omega)
      have hsum : wrap64 (wrap64 (y + u) + wrap64 (x - u) - r + v) = wrap64 (y + x - r + v) := by unfold wrap64; omega
      rw [hsum] at h2
      refine ⟨r, Ev.step (fun k => ?_) (Ev.bind hu1 (f := fun k u => impl_countLean.l1 k m (wrap64 (x - u)) i Ls (Ls.length : Int) ((j + 1 : Nat) : Int) A B C) h1), ⟨K1 + K2 + 3, fun k hk => ?_⟩⟩
      · simp only [impl_countLean.l1]
        rw [if_pos c1, if_pos c2, if_pos c1, impl_contains_eq ht hL, hw]
        simp only [Option.bind_some]
        rw [if_pos (decide_eq_true g)]
      · obtain ⟨k, rfl⟩ : ∃ n, k = n + 3 := ⟨k - 3, by omega⟩
        show laws_FnLeanCounts.l1 (k + 3) fr m cv y i Ls j A B C = _
        have e2 : impl_CountLean.f k fr (rd_T33 Ls (j : Int)).f0 (rd_T33 Ls (j : Int)).f1 (rd_T33 Ls (j : Int)).f2 m = some (u, 0) := hu2 k (by omega)
        rw [ls, if_pos g, e2, Option.bind_some, if_pos rfl]
        exact h2 k (by omega)
    · obtain ⟨r, h1, K1, h2⟩ := ih (j + 1) x y (by omega) (by omega)
      refine ⟨r, Ev.step (fun k => ?_) h1, ⟨K1 + 3, fun k hk => ?_⟩⟩
      · simp only [impl_countLean.l1]
        rw [if_pos c1, if_pos c2, if_pos c1, impl_contains_eq ht hL, hw]
        simp only [Option.bind_some]
        rw [if_neg (fun h => g (of_decide_eq_true h))]
      · obtain ⟨k, rfl⟩ : ∃ n, k = n + 3 := ⟨k - 3, by omega⟩
        show laws_FnLeanCounts.l1 (k + 3) fr m cv y i Ls j A B C = _
        rw [ls, if_neg g]
        exact h2 k (by omega)
def tupL (t : S33) : Int × Int × Int := (t.f0, t.f1, t.f2)
theorem subs_nodup : ∀ n : Nat, n < 17 → ((subsL (n : Int)).map tupL).Nodup := by decide +kernel
theorem mem_srows (n : Int) (A B : Nat) (hd : n % (A : Int) = 0) (hB : B < A) : ∀ (d a : Nat), a ≤ A → A < a + d → (⟨(A : Int), (B : Int), n / A⟩ : S33) ∈ srows n a d
  | 0, a, h1, h2 => by omega
  | d + 1, a, h1, h2 => by
    simp only [srows, List.mem_append]
    by_cases e : a = A
    · left
      subst e
      rw [if_pos hd]
      unfold srow
      exact List.mem_map.2 ⟨B, List.mem_range.2 hB, by simp⟩
    · right; exact mem_srows n A B hd hB d (a + 1) (by omega) (by omega)
theorem mem_subs {A B C : Int} (hL : Lat A B C) : (⟨A, B, C⟩ : S33) ∈ subsL (A * C) := by
  have hm := hL.mul
  obtain ⟨l1, l2, l3, l4, l5, l6, l7⟩ := hL
  obtain ⟨a, rfl⟩ := Int.eq_ofNat_of_zero_le (show 0 ≤ A by omega)
  obtain ⟨b, rfl⟩ := Int.eq_ofNat_of_zero_le l5
  have hq : (a : Int) * C / a = C := Int.mul_ediv_cancel_left _ (by omega)
  have hle : (a : Int) * 1 ≤ a * C := Int.mul_le_mul_of_nonneg_left l3 (by omega)
  have := mem_srows ((a : Int) * C) a b (Int.mul_emod_right _ _) (by omega) ((a : Int) * C).toNat 1 (by omega) (by omega)
  rw [hq] at this
  exact this
theorem couple_last (fr m cv A B C : Int) (hL : Lat A B C) (h16 : A * C ≤ 16) (v : Int) (hv : Ev (fun k => impl_CountLean.f k fr A B C m) (v, 0)) (d : Nat) : ∀ (j : Nat) (y : Int), j ≤ (subsL (A * C)).length → (subsL (A * C)).length - j = d →
    (∃ q : Nat, j ≤ q ∧ q < (subsL (A * C)).length ∧ rd_T33 (subsL (A * C)) (q : Int) = ⟨A, B, C⟩) →
    Ev (fun k => laws_FnLeanCounts.l1 k fr m cv y (A * C) (subsL (A * C)) j A B C) (decide (wrap64 (y + v) = cv)) := by
  have hm := hL.mul
  have hlen := subs_len (n := A * C) (by omega) (by omega)
  have hmem : ∀ t ∈ subsL (A * C), Lat t.f0 t.f1 t.f2 ∧ t.f0 * t.f2 = A * C := fun t ht => subs_mem (by omega) (by omega) ht
  have hsame : ∀ t ∈ subsL (A * C), (red t.f0 t.f1 t.f2 A 0 = (0, 0) ∧ red t.f0 t.f1 t.f2 B C = (0, 0)) → t = ⟨A, B, C⟩ := fun t ht g => by
    obtain ⟨e1, e2, e3⟩ := contains_same (hmem t ht).1 hL (hmem t ht).2 g.1 g.2
    obtain ⟨t0, t1, t2⟩ := t
    subst e1 e2 e3; rfl
  have hnd : ((subsL (A * C)).map tupL).Nodup := by
    have := subs_nodup (A * C).toNat (by omega)
    rwa [show (((A * C).toNat : Nat) : Int) = A * C by omega] at this
  have hrd : ∀ q : Nat, ∀ h : q < (subsL (A * C)).length, rd_T33 (subsL (A * C)) (q : Int) = (subsL (A * C))[q] := fun q h => by
    unfold rd_T33; rw [Int.toNat_natCast]; simp [List.getD, h]
  have huniq : ∀ p q : Nat, p < (subsL (A * C)).length → q < (subsL (A * C)).length → rd_T33 (subsL (A * C)) (p : Int) = rd_T33 (subsL (A * C)) (q : Int) → p = q := fun p q hp hq e => by
    rw [hrd p hp, hrd q hq] at e
    have := (List.getElem_inj (xs := (subsL (A * C)).map tupL) (i := p) (j := q) (h₀ := by simpa using hp) (h₁ := by simpa using hq) hnd).1
    exact this (by simp [e])
  have hend : ∀ y, Ev (fun k => laws_FnLeanCounts.l0 k fr m cv y (wrap64 (A * C + 1)) A B C) (decide (y = cv)) := fun y => by
    refine Ev.one (fun k => ?_)
    simp only [laws_FnLeanCounts.l0]
    rw [w64s (x := A * C + 1) (by omega) (by omega), w64s (x := A * C) (by omega) (by omega), if_neg (by omega)]
    congr 1
  induction d with
  | zero => intro j y hj hd ⟨q, h1, h2, _⟩; omega
  | succ d ih =>
    intro j y hj hd ⟨q, h1, h2, h3⟩
    have hj' : j < (subsL (A * C)).length := by omega
    have ht := rd_lat (subsL (A * C)) j hj'
    have ls := fun K y => law_step fr m cv y (A * C) A B C hL (subsL (A * C)) j hj' hlen (hmem _ ht).1 K
    by_cases e : rd_T33 (subsL (A * C)) (j : Int) = ⟨A, B, C⟩
    · obtain ⟨K2, hv2⟩ := hv
      obtain ⟨K1, hs⟩ := law_skip fr m cv (A * C) A B C hL (subsL (A * C)) hlen _ (wrap64 (y + v)) ((subsL (A * C)).length - (j + 1)) (j + 1) (by omega) rfl (fun p hp hp' => ⟨(hmem _ (rd_lat _ p hp')).1, fun g => by
        have := hsame _ (rd_lat _ p hp') g
        have := huniq p j hp' hj' (this.trans e.symm)
        omega⟩) (hend (wrap64 (y + v)))
      refine ⟨K1 + K2 + 3, fun k hk => ?_⟩
      obtain ⟨k, rfl⟩ : ∃ n, k = n + 3 := ⟨k - 3, by omega⟩
      show laws_FnLeanCounts.l1 (k + 3) fr m cv y (A * C) (subsL (A * C)) j A B C = _
      rw [ls, e]
      have e2 : impl_CountLean.f k fr A B C m = some (v, 0) := hv2 k (by omega)
      rw [if_pos (contains_self hL)]
      show ((impl_CountLean.f k fr A B C m).bind _) = _
      rw [e2, Option.bind_some, if_pos rfl]
      exact hs k (by omega)
    · obtain ⟨K, hK⟩ := ih (j + 1) y (by omega) (by omega) ⟨q, by
        rcases Nat.lt_or_ge j q with h | h
        · omega
        · exact absurd ((show j = q by omega) ▸ h3) e, h2, h3⟩
      refine ⟨K + 3, fun k hk => ?_⟩
      obtain ⟨k, rfl⟩ : ∃ n, k = n + 3 := ⟨k - 3, by omega⟩
      show laws_FnLeanCounts.l1 (k + 3) fr m cv y (A * C) (subsL (A * C)) j A B C = _
      rw [ls, if_neg (fun g => e (hsame _ ht g))]
      exact hK k (by omega)
theorem couple_outer (fr m cv A B C : Int) (hL : Lat A B C) (h16 : A * C ≤ 16) (v : Int) (hv : Ev (fun k => impl_CountLean.f k fr A B C m) (v, 0)) (hrec : ∀ a b c, Lat a b c → a * c < A * C → Cnt fr m a b c) (d : Nat) : ∀ (i : Nat) (x y : Int), 1 ≤ i → (i : Int) ≤ A * C → A * C - i = d →
    ∃ r, Ev (fun k => impl_countLean.l0 k m x i A B C) r ∧ Ev (fun k => laws_FnLeanCounts.l0 k fr m cv y i A B C) (decide (wrap64 (y + x - r + v) = cv)) := by
  have hm := hL.mul
  have hN : wrap64 (A * C) = A * C := w64s (by omega) (by omega)
  have hsub : ∀ (i : Nat) (y : Int) (b : Bool), 1 ≤ i → (i : Int) ≤ A * C → Ev (fun k => laws_FnLeanCounts.l1 k fr m cv y i (subsL (i : Int)) 0 A B C) b → Ev (fun k => laws_FnLeanCounts.l0 k fr m cv y i A B C) b := fun i y b h1 h2 ⟨K, hK⟩ => by
    obtain ⟨K2, hi⟩ := impl_subs_ev (n := (i : Int)) (by omega) (by omega)
    refine ⟨K + K2 + 1, fun k hk => ?_⟩
    obtain ⟨k, rfl⟩ : ∃ n, k = n + 1 := ⟨k - 1, by omega⟩
    have e1 : impl_sublattices.f k (i : Int) = some (subsL (i : Int)) := hi k (by omega)
    have e2 : impl_SublatticesOf.f k (i : Int) = some (subsL (i : Int), 0) := by
      unfold impl_SublatticesOf.f
      rw [within_eq, Option.bind_some, if_pos (by rw [decide_eq_true_eq]; omega), e1]; rfl
    show laws_FnLeanCounts.l0 (k + 1) fr m cv y i A B C = _
    simp only [laws_FnLeanCounts.l0]
    rw [hN, if_pos h2, e2, Option.bind_some, if_pos rfl]
    exact hK k (by omega)
  induction d with
  | zero =>
    intro i x y h1 h2 hd
    have e : (i : Int) = A * C := by omega
    refine ⟨x, Ev.one (fun k => ?_), ?_⟩
    · simp only [impl_countLean.l0, impl_Lattice_index.f, Option.bind_some]; rw [hN, if_neg (by omega)]
    · obtain ⟨q, hq, hq'⟩ := List.getElem_of_mem (mem_subs hL)
      have := couple_last fr m cv A B C hL h16 v hv (subsL (A * C)).length 0 y (by omega) (by omega) ⟨q, by omega, hq, by unfold rd_T33; rw [Int.toNat_natCast]; simp [List.getD, hq, hq']⟩
      rw [show y + x - x + v = y + v by omega]
      refine hsub i y _ h1 h2 ?_
      rw [e]; exact this
  | succ d ih =>
    intro i x y h1 h2 hd
    have hw : wrap64 ((i : Int) + 1) = ((i + 1 : Nat) : Int) := by rw [w64s (by omega) (by omega)]; omega
    have hnext : ∀ x y, ∃ r, Ev (fun k => impl_countLean.l0 k m x (wrap64 ((i : Int) + 1)) A B C) r ∧ Ev (fun k => laws_FnLeanCounts.l0 k fr m cv y (wrap64 ((i : Int) + 1)) A B C) (decide (wrap64 (y + x - r + v) = cv)) := by
      intro x y; rw [hw]; exact ih (i + 1) x y (by omega) (by omega) (by omega)
    have hi := impl_subs_ev (n := (i : Int)) (by omega) (by omega)
    have hmem : ∀ t ∈ subsL (i : Int), Lat t.f0 t.f1 t.f2 ∧ t.f0 * t.f2 = i := fun t ht => subs_mem (by omega) (by omega) ht
    have hlen := subs_len (n := (i : Int)) (by omega) (by omega)
    by_cases hdv : (A * C) % (i : Int) = 0
    · obtain ⟨r, h3, h4⟩ := couple_list fr m cv i A B C hL v (subsL i) hlen (fun t ht => ⟨(hmem t ht).1, hrec _ _ _ (hmem t ht).1 (by have := (hmem t ht).2; omega)⟩) hnext (subsL (i : Int)).length 0 x y (by omega) (by omega)
      refine ⟨r, Ev.step (fun k => ?_) (Ev.bind hi (f := fun k t => impl_countLean.l1 k m x i t (t.length : Int) 0 A B C) h3), hsub i y _ h1 (by omega) h4⟩
      simp only [impl_countLean.l0, impl_Lattice_index.f, Option.bind_some]; rw [hN, if_pos (by omega), if_neg (by omega), tmod_pos (by omega), if_pos hdv]
    · obtain ⟨r, h3, h4⟩ := hnext x y
      refine ⟨r, Ev.step (fun k => ?_) h3, hsub i y _ h1 (by omega) (law_skip fr m cv i A B C hL (subsL i) hlen _ y (subsL (i : Int)).length 0 (by omega) (by omega) (fun q _ hq => ⟨(hmem _ (rd_lat _ q hq)).1, fun g => hdv (Int.emod_eq_zero_of_dvd (by
        have h6 := (hmem _ (rd_lat _ q hq)).2
        have h7 := contains_dvd (hmem _ (rd_lat _ q hq)).1 g.1 g.2
        rw [h6] at h7; exact h7))⟩) h4)⟩
      simp only [impl_countLean.l0, impl_Lattice_index.f, Option.bind_some]; rw [hN, if_pos (by omega), if_neg (by omega), tmod_pos (by omega), if_neg hdv]

end Go.Proofs.Ytfkdcngpjppnbaa.LA
