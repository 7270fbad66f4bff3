/- Plain lemmas on the law on reflections of lattices (FnCentred). -/
import Derived.Test.YtedmadofpdkekaaGreatAid
import Derived.Test.YtedmadofpdkekaaGreatPAx0
import Derived.Test.YtedmadofpdkekaaGreatLAABasic
import Derived.Test.YtedmadofpdkekaaGreatLAGLattice
import Derived.Test.YtedmadofpdkekaaGreatLAOHermite
import Derived.Test.YtedmadofpdkekaaGreatLAPPoints
import Derived.Test.YtedmadofpdkekaaGreatLAPbSuit
import Derived.Test.YtedmadofpdkekaaGreatLARMirror
import Derived.Test.YtedmadofpdkekaaGreatLARaMirrorcode
import Derived.Test.YtedmadofpdkekaaGreatLARabMultiple
import Derived.Test.YtedmadofpdkekaaGreatLASCentred
import Derived.Test.YtedmadofpdkekaaGreatLATMayreflect
import Derived.Test.YtedmadofpdkekaaGreatLAYaDraw
import Derived.Test.YtedmadofpdkekaaGreatLAYbaLats
import Derived.Test.YtedmadofpdkekaaGreatLAZhCentred
import Derived.Test.YtedmadofpdkekaaGreatPAx0
import Derived.Test.YtedmadofpdkekaaGreatPAx11
import Derived.Test.YtedmadofpdkekaaGreatPAx12
import Derived.Test.YtedmadofpdkekaaGreatPAx15
import Derived.Test.YtedmadofpdkekaaGreatPAx16
import Derived.Test.YtedmadofpdkekaaGreatPAx17
import Derived.Test.YtedmadofpdkekaaGreatPAx18
import Derived.Test.YtedmadofpdkekaaGreatPAx19
import Derived.Test.YtedmadofpdkekaaGreatPAx5
import Derived.Test.YtedmadofpdkekaaGreatPAx8
import Derived.Test.YtedmadofpdkekaaGreatPAx9
namespace Go.Proofs.YtedmadofpdkekaaGreat.LA
open Go.RowKit Go.Proofs.YtedmadofpdkekaaGreat.PA Go.Proofs.YtedmadofpdkekaaGreatW.PrintWords Go.Proofs.YtedmadofpdkekaaGreatW.PrintLast Go.Proofs.YtedmadofpdkekaaGreat.Aid
set_option linter.unusedVariables false
set_option linter.unusedSimpArgs false

theorem pm_neg0 : ∀ m ∈ pmL 0, (-m.1, -m.2.1, -m.2.2.1, -m.2.2.2) ∈ pmL 0 := by decide +kernel
theorem pm_neg1 : ∀ m ∈ pmL 1, (-m.1, -m.2.1, -m.2.2.1, -m.2.2.2) ∈ pmL 1 := by decide +kernel
theorem Mir.neg {fr a b c m0 m1 m2 m3 : Int} (h : FL fr a b c) (g : Mir fr a b c m0 m1 m2 m3) : Mir fr a b c (-m0) (-m1) (-m2) (-m3) := by
  obtain ⟨⟨g1, g2, g3⟩, g4⟩ := g
  obtain ⟨l1, l2, l3, l4, l5, l6, _⟩ := id h.2
  refine ⟨⟨?_, ?_, ?_⟩, ?_⟩
  · rcases fr01 h.1 with rfl | rfl
    · exact pm_neg0 _ g1
    · exact pm_neg1 _ g1
  · have := inL_neg ((red_inL l3 l1).1 g2)
    refine (red_inL l3 l1).2 ?_
    dsimp only at this ⊢
    rwa [Int.neg_mul, Int.neg_mul]
  · have := inL_neg ((red_inL l3 l1).1 g3)
    refine (red_inL l3 l1).2 ?_
    dsimp only at this ⊢
    rwa [Int.neg_mul, Int.neg_mul, Int.neg_mul, Int.neg_mul, ← Int.neg_add, ← Int.neg_add]
  · unfold detM at g4 ⊢
    dsimp only at g4 ⊢
    rw [Int.neg_mul_neg, Int.neg_mul_neg]; exact g4
theorem axis_fixed {fr m0 m1 m2 m3 : Int} (hf : 0 ≤ fr ∧ fr ≤ 1) (h : (m0, m1, m2, m3) ∈ pmL fr) (hd : detM (m0, m1, m2, m3) = -1) (p : Int) :
    m0 * (p * (axP (m0, m1, m2, m3)).1) + m1 * (p * (axP (m0, m1, m2, m3)).2) = p * (axP (m0, m1, m2, m3)).1 ∧ m2 * (p * (axP (m0, m1, m2, m3)).1) + m3 * (p * (axP (m0, m1, m2, m3)).2) = p * (axP (m0, m1, m2, m3)).2 := by
  have key : ∀ r ∈ rfL, r.1.1 * r.2.1.1 + r.1.2.1 * r.2.1.2 = r.2.1.1 ∧ r.1.2.2.1 * r.2.1.1 + r.1.2.2.2 * r.2.1.2 = r.2.1.2 := by decide +kernel
  obtain ⟨k1, k2⟩ := key _ (rf_row hf h hd)
  dsimp only at k1 k2
  constructor
  · rw [Int.mul_left_comm m0, Int.mul_left_comm m1, ← Int.mul_add, k1]
  · rw [Int.mul_left_comm m2, Int.mul_left_comm m3, ← Int.mul_add, k2]
/-- The last row of the law. -/
theorem cen_last {fr a b c m0 m1 m2 m3 : Int} {p n : Nat} (h : FL fr a b c) (g : Mir fr a b c m0 m1 m2 m3) (hp : Least a b c (axP (m0, m1, m2, m3)).1 (axP (m0, m1, m2, m3)).2 p) (hn : Least a b c (axN (m0, m1, m2, m3)).1 (axN (m0, m1, m2, m3)).2 n) :
    Ev (fun k => laws_FnCentred.j3 k fr 0 (centB a c (p * (axP (m0, m1, m2, m3)).1, p * (axP (m0, m1, m2, m3)).2) (n * (axN (m0, m1, m2, m3)).1, n * (axN (m0, m1, m2, m3)).2)) a b c m0 m1 m2 m3 (p * (axP (m0, m1, m2, m3)).1) (p * (axP (m0, m1, m2, m3)).2)) true := by
  obtain ⟨-, -, -, -, ⟨b1, b2, b3, b4⟩, b5, b6, b7, b8⟩ := pm_ax h.1 g.1.1 g.2 0
  obtain ⟨⟨a1, a2⟩, ⟨a3, a4⟩, ⟨a5, a6⟩, a7, a8⟩ := pm_small h.1 g.1.1
  dsimp only at a1 a2 a3 a4 a5 a6 a7 a8
  obtain ⟨-, K4, e4⟩ := inv_impl h g.1.1 g.2 hp hn
  have e4 : ∀ k, K4 ≤ k → ((impl_Mat_axis.f k (wrap64 (-m0)) (wrap64 (-m1)) (wrap64 (-m2)) (wrap64 (-m3))).bind fun t => impl_Lattice_multipleIn.f k a b c t.1 t.2) = some (n * (axN (m0, m1, m2, m3)).1, n * (axN (m0, m1, m2, m3)).2) := e4
  obtain ⟨⟨p1, p2⟩, pr, -⟩ := hp
  obtain ⟨⟨n1, n2⟩, -, -⟩ := hn
  have s1 := small_mul (n := p) (by omega) p2 b1 b2
  have s2 := small_mul (n := p) (by omega) p2 b3 b4
  have s3 := small_mul (n := n) (by omega) n2 b5 b6
  have s4 := small_mul (n := n) (by omega) n2 b7 b8
  obtain ⟨f1, f2⟩ := axis_fixed h.1 g.1.1 g.2 p
  generalize (p : Int) * (axP (m0, m1, m2, m3)).1 = u at *
  generalize (p : Int) * (axP (m0, m1, m2, m3)).2 = v at *
  generalize (n : Int) * (axN (m0, m1, m2, m3)).1 = u' at *
  generalize (n : Int) * (axN (m0, m1, m2, m3)).2 = v' at *
  have hv : impl_IsVec.f u v = some true := by rw [impl_IsVec_eq]; congr 1; exact decide_eq_true ⟨⟨by omega, by omega⟩, by omega, by omega⟩
  have hv' : impl_IsVec.f u' v' = some true := by rw [impl_IsVec_eq]; congr 1; exact decide_eq_true ⟨⟨by omega, by omega⟩, by omega, by omega⟩
  have x1 : impl_IsInLattice.f a b c u v = some (true, 0) := by
    unfold impl_IsInLattice.f impl_latticeVecCode.f
    rw [impl_IsLattice_eq, Option.bind_some, if_pos (by simp [h.2]), hv, Option.bind_some, if_pos rfl, Option.bind_some, if_pos rfl, impl_has_eq (h.2.mod4 (by omega) (by omega) (by omega) (by omega)), Option.bind_some, decide_eq_true pr]
  have x2 : ∀ k, impl_ApplyMat.f (k + 1) m0 m1 m2 m3 u v = some (u, v, 0) := fun k => by
    have t2 := (pm_turn h.1 g.1.1 0).2.1
    dsimp only at t2
    unfold impl_ApplyMat.f
    rw [t2, Option.bind_some, if_pos rfl, hv, Option.bind_some]
    have q1 := small1 ⟨a1, a2⟩ (show -1000 ≤ u ∧ u ≤ 1000 by omega)
    have q2 := small1 ⟨a3, a4⟩ (show -1000 ≤ v ∧ v ≤ 1000 by omega)
    have q3 := small1 ⟨a5, a6⟩ (show -1000 ≤ u ∧ u ≤ 1000 by omega)
    have q4 := small1 ⟨a7, a8⟩ (show -1000 ≤ v ∧ v ≤ 1000 by omega)
    have ha : impl_Mat_apply.f m0 m1 m2 m3 u v = some (u, v) := by
      unfold impl_Mat_apply.f
      rw [w64s (x := m0 * u) (by omega) (by omega), w64s (x := m1 * v) (by omega) (by omega), w64s (x := m2 * u) (by omega) (by omega), w64s (x := m3 * v) (by omega) (by omega), f1, f2, w64s (x := u) (by omega) (by omega), w64s (x := v) (by omega) (by omega)]
    simp only [impl_ApplyMat.j0]
    rw [if_neg (by decide), ha, Option.bind_some]
    unfold impl_limited.f
    dsimp only
    rw [hv, Option.bind_some, if_pos rfl]; rfl
  have x3 : ∀ k, K4 + 10000000 ≤ k → impl_InvariantVec.f k fr a b c (wrap64 (-m0)) (wrap64 (-m1)) (wrap64 (-m2)) (wrap64 (-m3)) = some (u', v', 0) := fun k hk => by
    have g4 := e4 k (by omega)
    have gm : ((-m0, -m1, -m2, -m3) ∈ pmL fr ∧ KeepL a b c (-m0, -m1, -m2, -m3)) ∧ detM (-m0, -m1, -m2, -m3) = -1 := g.neg h
    have q2 := impl_mirrorCode_eq fr a b c (-m0) (-m1) (-m2) (-m3) k (by omega)
    rw [w64s (x := -m0) (by omega) (by omega), w64s (x := -m1) (by omega) (by omega), w64s (x := -m2) (by omega) (by omega), w64s (x := -m3) (by omega) (by omega)] at g4 ⊢
    unfold impl_InvariantVec.f
    rw [q2, if_pos h, if_pos gm, Option.bind_some, if_pos rfl]
    rcases hx : impl_Mat_axis.f k (-m0) (-m1) (-m2) (-m3) with _ | t
    · simp only [hx, Option.bind_none] at g4; cases g4
    · simp only [hx, Option.bind_some] at g4 ⊢
      rw [g4]; rfl
  have x4 : impl_DetOf.f u v u' v' = some (wrap64 (wrap64 (u * v') - wrap64 (v * u')), 0) := by
    unfold impl_DetOf.f
    rw [hv, Option.bind_some, if_pos rfl, hv', Option.bind_some, if_pos rfl]; rfl
  refine Ev.from' (f := fun _ => some true) (K4 + 10000001) (fun k hk => ?_) (Ev.all fun _ => rfl)
  obtain ⟨k, rfl⟩ : ∃ m, k = m + 1 := ⟨k - 1, by omega⟩
  simp only [laws_FnCentred.j3]
  rw [if_pos trivial, x1, Option.bind_some, x2 k, Option.bind_some, x3 (k + 1) (by omega), Option.bind_some, x4, Option.bind_some]
  dsimp only
  rw [if_pos rfl, if_pos rfl, if_pos rfl, if_pos (by simp), if_pos rfl, if_pos rfl]
  congr 1
  unfold centB
  dsimp only
  cases e : (mx (wrap64 (wrap64 (u * v') - wrap64 (v * u'))) (wrap64 (-wrap64 (wrap64 (u * v') - wrap64 (v * u')))) == wrap64 (a * c)) <;> simp [bne, e]
/-- The loops over the shifts: no shift is a reflection, or the motion may reflect. -/
theorem cen_loop {fr bad : Int} {ok may : Bool} {a b c m0 m1 m2 m3 v0 v1 A B C r0 r1 r2 r3 r4 r5 : Int} (hA : 0 ≤ A ∧ A ≤ 64) (hB : 0 ≤ B ∧ B ≤ 64) (hC : 0 ≤ C ∧ C ≤ 64) (h4 : 0 ≤ r4 ∧ r4 ≤ 64) (h5 : 0 ≤ r5 ∧ r5 ≤ 64)
    (H : ∀ i j : Int, -2 ≤ i → i ≤ 2 → -2 ≤ j → j ≤ 2 → ∃ q : Int × Int, Ev (fun k => impl_KindOfMotion.f k r0 r1 r2 r3 (r4 + i * A + j * B) (r5 + j * C)) q ∧ (q.1 = 3 → may = true))
    (hend : Ev (fun k => laws_FnCentred.j3 k fr bad ok a b c m0 m1 m2 m3 v0 v1) true) (d : Nat) : ∀ i : Int, -2 ≤ i → i ≤ 3 → 3 - i = d →
    Ev (fun k => laws_FnCentred.l0 k fr bad ok may 0 i a b c m0 m1 m2 m3 v0 v1 A B C r0 r1 r2 r3 r4 r5) true := by
  have mb : ∀ i x : Int, -2 ≤ i → i ≤ 2 → 0 ≤ x → x ≤ 64 → -128 ≤ i * x ∧ i * x ≤ 128 := fun i x h1 h2 h3 h4 => by
    have : i = -2 ∨ i = -1 ∨ i = 0 ∨ i = 1 ∨ i = 2 := by omega
    rcases this with rfl | rfl | rfl | rfl | rfl <;> omega
  induction d with
  | zero =>
    intro i h1 h2 hd
    refine Ev.step (fun k => ?_) hend
    simp only [laws_FnCentred.l0]; rw [if_neg (by omega), if_pos trivial]
  | succ d ih =>
    intro i h1 h2 hd
    have hi : i ≤ 2 := by omega
    have hwi : wrap64 (i + 1) = i + 1 := w64s (by omega) (by omega)
    have inner : ∀ (e : Nat) (j : Int), -2 ≤ j → j ≤ 3 → 3 - j = e → Ev (fun k => laws_FnCentred.l1 k fr bad ok may 0 i j a b c m0 m1 m2 m3 v0 v1 A B C r0 r1 r2 r3 r4 r5) true := by
      intro e
      induction e with
      | zero =>
        intro j g1 g2 ge
        refine Ev.step (fun k => ?_) (ih (i + 1) (by omega) (by omega) (by omega))
        simp only [laws_FnCentred.l1]; rw [if_neg (by omega), hwi]
      | succ e ihe =>
        intro j g1 g2 ge
        have hj : j ≤ 2 := by omega
        have hwj : wrap64 (j + 1) = j + 1 := w64s (by omega) (by omega)
        have b1 := mb i A h1 hi hA.1 hA.2
        have b2 := mb j B g1 hj hB.1 hB.2
        have b3 := mb j C g1 hj hC.1 hC.2
        obtain ⟨q, ⟨K, hK⟩, hq⟩ := H i j h1 hi g1 hj
        have hK : ∀ k, K ≤ k → impl_KindOfMotion.f k r0 r1 r2 r3 (r4 + i * A + j * B) (r5 + j * C) = some q := hK
        refine Ev.from' K (fun k hk => ?_) (ihe (j + 1) (by omega) (by omega) (by omega))
        simp only [laws_FnCentred.l1]
        rw [if_pos hj, w64s (x := i * A) (by omega) (by omega), w64s (x := j * B) (by omega) (by omega), w64s (x := j * C) (by omega) (by omega), w64s (x := r4 + i * A) (by omega) (by omega), w64s (x := r4 + i * A + j * B) (by omega) (by omega), w64s (x := r5 + j * C) (by omega) (by omega), hK k hk, Option.bind_some, hwj]
        by_cases c1 : q.2 = 0
        · rw [if_pos c1]
          by_cases c2 : q.1 = 3
          · rw [if_pos c2, if_pos (hq c2)]
          · rw [if_neg c2]
        · rw [if_neg c1]
    refine Ev.step (fun k => ?_) (inner 5 (-2) (by omega) (by omega) (by omega))
    simp only [laws_FnCentred.l0]; rw [if_pos hi]
theorem law_centred {l : List Int} (hb : Byt l) : Ev (fun k => laws_FnCentred.f k l) true := by
  obtain ⟨s, e0, g0⟩ := from_ev hb
  obtain ⟨fr, a, b, c, m0, m1, m2, m3, p1, s1, ⟨K1, e1⟩, g1⟩ := mirror_some hb g0
  obtain ⟨x, y, p2, s2, e2, g2, hx, hy⟩ := vec_some hb g1
  have e1 : ∀ k, K1 ≤ k → spec_l11DrawMirror.f k l 0 s = some (fr, a, b, c, m0, m1, m2, m3, p1, s1) := e1
  have d1 : ∀ k, K1 + 65 ≤ k → spec_DrawInvariantVec.f k l = some (fr, a, b, c, m0, m1, m2, m3) := fun k hk => by
    unfold spec_DrawInvariantVec.f
    rw [e0 k (by omega), Option.bind_some]; dsimp only
    rw [e1 k (by omega), Option.bind_some]
  have d2 : ∀ k, K1 + 65 ≤ k → spec_DrawMayReflect.f k l = some (fr, a, b, c, m0, m1, m2, m3, x, y) := fun k hk => by
    unfold spec_DrawMayReflect.f
    rw [e0 k (by omega), Option.bind_some]; dsimp only
    rw [e1 k (by omega), Option.bind_some]; dsimp only
    rw [e2, Option.bind_some]
  have hbig : laws_big.f l = some false := by
    unfold laws_big.f
    congr 1; exact decide_eq_false (by have := hb.2; omega)
  obtain ⟨r, ⟨K5, m5⟩, hr⟩ := both_MayReflect fr a b c m0 m1 m2 m3 x y
  obtain ⟨K6, m6⟩ := id hr
  have m5 : ∀ k, K5 ≤ k → spec_MayReflect.f k fr a b c m0 m1 m2 m3 x y = some r := m5
  have m6 : ∀ k, K6 ≤ k → impl_MayReflect.f k fr a b c m0 m1 m2 m3 x y = some r := m6
  -- what stands behind the comparisons
  have rest : ∀ (bad v0 v1 : Int) (ok : Bool), Ev (fun k => laws_FnCentred.j3 k fr bad ok a b c m0 m1 m2 m3 v0 v1) true → Ev (fun k => laws_FnCentred.j0 k fr bad ok fr r.1 r.2 false a b c m0 m1 m2 m3 v0 v1 a b c m0 m1 m2 m3 x y) true := by
    intro bad v0 v1 ok hend
    by_cases h0 : r.2 = 0
    · obtain ⟨h, hs, hmay⟩ := may_facts hr h0
      obtain ⟨⟨hm, hkp⟩, vx, vy⟩ := id hs
      obtain ⟨l1, l2, l3, l4, l5, l6, _⟩ := id h.2
      have hrr := red_range (x := x) (y := y) h.2
      have hred : ∀ k, 100 ≤ k → impl_ReduceMotion.f k fr a b c m0 m1 m2 m3 x y = some (m0, m1, m2, m3, (red a b c x y).1, (red a b c x y).2, 0) := fun k hk => by
        unfold impl_ReduceMotion.f
        rw [impl_frameCode_eq, if_pos h, Option.bind_some, if_pos rfl, impl_isSuitable_eq h _ _ _ _ _ _ k hk, Option.bind_some, if_pos (by simp [hs])]
        unfold impl_Lattice_reduceMotion.f
        rw [impl_reduce_eq (h.2.mod4 (by omega) (by omega) (by omega) (by omega))]; rfl
      have lp := cen_loop (fr := fr) (bad := bad) (ok := ok) (may := r.1) (a := a) (b := b) (c := c) (m0 := m0) (m1 := m1) (m2 := m2) (m3 := m3) (v0 := v0) (v1 := v1) (A := a) (B := b) (C := c) (r0 := m0) (r1 := m1) (r2 := m2) (r3 := m3) (r4 := (red a b c x y).1) (r5 := (red a b c x y).2) (by omega) (by omega) (by omega) (by omega) (by omega) (fun i j i1 i2 j1 j2 => by
        have mb : ∀ i x : Int, -2 ≤ i → i ≤ 2 → 0 ≤ x → x ≤ 64 → -128 ≤ i * x ∧ i * x ≤ 128 := fun i x h1 h2 h3 h4 => by
          have : i = -2 ∨ i = -1 ∨ i = 0 ∨ i = 1 ∨ i = 2 := by omega
          rcases this with rfl | rfl | rfl | rfl | rfl <;> omega
        have b1 := mb i a i1 i2 (by omega) l2
        have b2 := mb j b j1 j2 l5 (by omega)
        have b3 := mb j c j1 j2 (by omega) l4
        obtain ⟨q, q1, q2⟩ := kind_facts h.1 hm (x := (red a b c x y).1 + i * a + j * b) (y := (red a b c x y).2 + j * c) (by omega) (by omega)
        refine ⟨q, q1, fun hq => ?_⟩
        obtain ⟨hd, z1, z2⟩ := q2 hq
        refine hmay hd ?_
        have hz := refl_along h.1 hm hd z1 z2
        -- the reduced vector and the vector differ by a vector of the lattice
        obtain ⟨t, t1, w, t2⟩ := red_diff (b := b) (x := x) (y := y) l1 l3
        generalize (alC (m0, m1, m2, m3)).1 = A1 at *
        generalize (alC (m0, m1, m2, m3)).2 = A2 at *
        have hg1 : ((Int.gcd (A1 * a) (A1 * b + A2 * c) : Nat) : Int) ∣ A1 * a := Int.gcd_dvd_left ..
        have hg2 : ((Int.gcd (A1 * a) (A1 * b + A2 * c) : Nat) : Int) ∣ A1 * b + A2 * c := Int.gcd_dvd_right ..
        generalize ((Int.gcd (A1 * a) (A1 * b + A2 * c) : Nat) : Int) = G at *
        have e : A1 * x + A2 * y = (w - i) * (A1 * a) + (t - j) * (A1 * b + A2 * c) := by
          clear hmay z1 z2 q1 q2 hrr hred b1 b2 b3
          generalize (red a b c x y).1 = R1 at hz t1 t2
          generalize (red a b c x y).2 = R2 at hz t1 t2
          have ex : x = R1 + t * b + a * w := by omega
          have ey : y = R2 + t * c := by omega
          have hz' : A1 * R1 + A2 * R2 = -(i * (A1 * a)) - j * (A1 * b + A2 * c) := by
            rw [Int.mul_add, Int.mul_add, Int.mul_add] at hz
            rw [Int.mul_add, Int.mul_left_comm j A1 b, Int.mul_left_comm j A2 c, Int.mul_left_comm i A1 a]
            omega
          rw [ex, ey, Int.mul_add, Int.mul_add, Int.mul_add, Int.sub_mul, Int.sub_mul, Int.mul_add t, Int.mul_left_comm t A1 b, Int.mul_left_comm t A2 c, Int.mul_left_comm w A1 a, Int.mul_comm w a]
          omega
        rw [e]
        exact Int.dvd_add (Int.dvd_trans hg1 (Int.dvd_mul_left _ _)) (Int.dvd_trans hg2 (Int.dvd_mul_left _ _))) hend 5 (-2) (by omega) (by omega) (by omega)
      refine Ev.from' 100 (fun k hk => ?_) lp
      simp only [laws_FnCentred.j0]
      rw [if_neg (by decide), if_pos h0, hred k hk, Option.bind_some]
    · refine Ev.step (fun k => ?_) hend
      simp only [laws_FnCentred.j0]
      rw [if_neg (by decide), if_neg h0]
  rcases inv_cases fr a b c m0 m1 m2 m3 with ⟨p, n, h, g, hp, hn, ⟨K2, i1⟩, ⟨K3, i2⟩, ⟨K4, i3⟩, ⟨K7, i4⟩⟩ | ⟨e, he, ⟨K2, i1⟩, ⟨K3, i2⟩, ⟨K4, i3⟩, ⟨K7, i4⟩⟩
  · obtain ⟨K8, i8⟩ := rest 0 _ _ _ (cen_last h g hp hn)
    refine ⟨K1 + K2 + K3 + K4 + K5 + K6 + K7 + K8 + 100, fun k hk => ?_⟩
    have i1 := i1 k (by omega)
    have i2 := i2 k (by omega)
    have i3 := i3 k (by omega)
    have i4 := i4 k (by omega)
    have i8 := i8 k (by omega)
    dsimp only at i1 i2 i3 i4 i8
    show laws_FnCentred.f k l = _
    unfold laws_FnCentred.f
    rw [hbig, Option.bind_some, if_neg (by decide), d1 k (by omega), Option.bind_some]; dsimp only
    rw [i2, Option.bind_some, i1, Option.bind_some, i4, Option.bind_some, i3, Option.bind_some, d2 k (by omega), Option.bind_some]; dsimp only
    rw [m6 k (by omega), Option.bind_some, m5 k (by omega), Option.bind_some]
    rw [if_pos rfl, if_neg (by simp), if_pos rfl, if_neg (by simp), if_pos rfl, if_neg (by simp)]
    simp only [bne_self_eq_false]
    exact i8
  · obtain ⟨K8, i8⟩ := rest e 0 0 false (Ev.step (fun k => by simp only [laws_FnCentred.j3]; exact if_neg he) (Ev.all (g := fun _ => some true) fun _ => rfl))
    refine ⟨K1 + K2 + K3 + K4 + K5 + K6 + K7 + K8 + 100, fun k hk => ?_⟩
    have i1 := i1 k (by omega)
    have i2 := i2 k (by omega)
    have i3 := i3 k (by omega)
    have i4 := i4 k (by omega)
    have i8 := i8 k (by omega)
    dsimp only at i1 i2 i3 i4 i8
    show laws_FnCentred.f k l = _
    unfold laws_FnCentred.f
    rw [hbig, Option.bind_some, if_neg (by decide), d1 k (by omega), Option.bind_some]; dsimp only
    rw [i2, Option.bind_some, i1, Option.bind_some, i4, Option.bind_some, i3, Option.bind_some, d2 k (by omega), Option.bind_some]; dsimp only
    rw [m6 k (by omega), Option.bind_some, m5 k (by omega), Option.bind_some]
    rw [if_pos rfl, if_neg (by simp), if_pos rfl, if_neg (by simp), if_pos rfl, if_neg (by simp)]
    simp only [bne_self_eq_false]
    exact i8

end Go.Proofs.YtedmadofpdkekaaGreat.LA
