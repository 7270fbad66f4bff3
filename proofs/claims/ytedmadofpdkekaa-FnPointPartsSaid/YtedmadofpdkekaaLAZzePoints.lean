import Derived.Test.YtedmadofpdkekaaAid
import Derived.Test.YtedmadofpdkekaaPAx0
import Derived.Test.YtedmadofpdkekaaLAABasic
import Derived.Test.YtedmadofpdkekaaLAGLattice
import Derived.Test.YtedmadofpdkekaaLAOHermite
import Derived.Test.YtedmadofpdkekaaLAPPoints
import Derived.Test.YtedmadofpdkekaaLAUOrder
import Derived.Test.YtedmadofpdkekaaLAVGroup
import Derived.Test.YtedmadofpdkekaaLAWIsgroup
import Derived.Test.YtedmadofpdkekaaLAZaPoint
import Derived.Test.YtedmadofpdkekaaLAZiClose
import Derived.Test.YtedmadofpdkekaaLAZjGroup
import Derived.Test.YtedmadofpdkekaaLAZzdCount
import Derived.Test.YtedmadofpdkekaaPAx0
import Derived.Test.YtedmadofpdkekaaPAx17
import Derived.Test.YtedmadofpdkekaaPAx18
import Derived.Test.YtedmadofpdkekaaPAx6
namespace Go.Proofs.Ytedmadofpdkekaa.LA
open Go.RowKit Go.Proofs.Ytedmadofpdkekaa.PA Go.Proofs.YtedmadofpdkekaaW.PrintWords Go.Proofs.YtedmadofpdkekaaW.PrintLast Go.Proofs.Ytedmadofpdkekaa.Aid
set_option linter.unusedVariables false
set_option linter.unusedSimpArgs false
instance matDec : DecidableEq S51 := fun p q => if h : p.f0 = q.f0 ∧ p.f1 = q.f1 ∧ p.f2 = q.f2 ∧ p.f3 = q.f3 then isTrue (by obtain ⟨h0, h1, h2, h3⟩ := h; cases p; cases q; simp only at h0 h1 h2 h3; rw [h0, h1, h2, h3]) else isFalse fun e => h (by rw [e]; exact ⟨rfl, rfl, rfl, rfl⟩)
def mulMt (m n : S51) : S51 := ⟨m.f0 * n.f0 + m.f1 * n.f2, m.f0 * n.f1 + m.f1 * n.f3, m.f2 * n.f0 + m.f3 * n.f2, m.f2 * n.f1 + m.f3 * n.f3⟩
theorem pm_pow0 : ∀ m ∈ pmL 0, (Nat.rec (⟨m.1, m.2.1, m.2.2.1, m.2.2.2⟩ : S51) (fun _ q => mulMt q ⟨m.1, m.2.1, m.2.2.1, m.2.2.2⟩) 11 : S51) = ⟨1, 0, 0, 1⟩ := by
  intro m hm
  simp only [pmL, if_pos, List.mem_cons, List.not_mem_nil, or_false] at hm
  rcases hm with rfl | rfl | rfl | rfl | rfl | rfl | rfl | rfl <;> rfl
theorem pm_pow1 : ∀ m ∈ pmL 1, (Nat.rec (⟨m.1, m.2.1, m.2.2.1, m.2.2.2⟩ : S51) (fun _ q => mulMt q ⟨m.1, m.2.1, m.2.2.1, m.2.2.2⟩) 11 : S51) = ⟨1, 0, 0, 1⟩ := by
  intro m hm
  simp only [pmL, if_neg (show ¬ (1 : Int) = 0 by decide), List.mem_cons, List.not_mem_nil, or_false] at hm
  rcases hm with rfl | rfl | rfl | rfl | rfl | rfl | rfl | rfl | rfl | rfl | rfl | rfl <;> rfl
theorem pm_pow {fr : Int} (hf : 0 ≤ fr ∧ fr ≤ 1) (m : S51) (hm : (m.f0, m.f1, m.f2, m.f3) ∈ pmL fr) : (Nat.rec m (fun _ q => mulMt q m) 11 : S51) = ⟨1, 0, 0, 1⟩ := by
  obtain ⟨m0, m1, m2, m3⟩ := m
  rcases fr01 hf with rfl | rfl
  · exact pm_pow0 (m0, m1, m2, m3) hm
  · exact pm_pow1 (m0, m1, m2, m3) hm
theorem incr_nodup {xs : List S55} (h : Incr xs) : xs.Nodup := by
  rw [List.nodup_iff_pairwise_ne, List.pairwise_iff_getElem]
  intro i j hi hj hij e
  have := h i j hi hj hij
  rw [e] at this
  exact ltM_irrefl _ this
theorem red_inj {a b c x y x' y' u v : Int} (ha : 1 ≤ a) (hc : 1 ≤ c) (h : red a b c (u + x) (v + y) = red a b c (u + x') (v + y')) (h1 : red a b c x y = (x, y)) (h2 : red a b c x' y' = (x', y')) : x = x' ∧ y = y' := by
  have d1 := red_diff (a := a) (b := b) (c := c) (x := u + x) (y := v + y) ha hc
  have d2 := red_diff (a := a) (b := b) (c := c) (x := u + x') (y := v + y') ha hc
  rw [h] at d1
  have d := inL_sub 1 d1 d2
  rw [Int.one_mul, Int.one_mul, show ∀ r : Int, u + x - r - (u + x' - r) = x - x' by intro r; omega, show ∀ r : Int, v + y - r - (v + y' - r) = y - y' by intro r; omega] at d
  have e := red_cong hc d
  rw [h1, h2] at e
  exact ⟨congrArg Prod.fst e, congrArg Prod.snd e⟩
theorem grp_image {fr a b c : Int} (h : FL fr a b c) {xs : List S55} (g : Grp fr a b c xs) (p : List S51) (hpn : p.Nodup) (hpm : ∀ q, q ∈ p ↔ ∃ x ∈ xs, matOf x = q) :
    p.length * (xs.filter fun x => decide (matOf x = ⟨1, 0, 0, 1⟩)).length = xs.length := by
  have ha : 1 ≤ a := h.2.1
  have hc : 1 ≤ c := h.2.2.2.1
  refine image_kernel matOf mulMt ⟨1, 0, 0, 1⟩ (prodM a b c) xs p (incr_nodup g.inc) hpn hpm g.mul (fun x _ y _ => rfl) (fun x hx x' hx' y _ e e' => ?_) (fun y _ => ?_) (fun y hy => ⟨11, ?_⟩)
  · obtain ⟨⟨m0, m1, m2, m3⟩, v0, v1⟩ := x
    obtain ⟨⟨n0, n1, n2, n3⟩, w0, w1⟩ := x'
    obtain ⟨⟨k0, k1, k2, k3⟩, u0, u1⟩ := y
    simp only [matOf] at e
    injection e with e0 e1 e2 e3
    subst e0 e1 e2 e3
    have e1 := congrArg (fun z => (z.f1.f0, z.f1.f1)) e'
    simp only [prodM, comp] at e1
    obtain ⟨r1, r2⟩ := red_inj ha hc e1 (g.good _ hx).2 (g.good _ hx').2
    rw [r1, r2]
  · simp only [mulMt, matOf, Int.one_mul, Int.zero_mul, Int.add_zero, Int.zero_add]
  · exact pm_pow h.1 (matOf y) (g.good y hy).1.1
theorem mat_between {x y z : S55} (h1 : ltM x y) (h2 : ltM y z) (e : matOf x = matOf z) : matOf x = matOf y := by
  obtain ⟨⟨a0, a1, a2, a3⟩, a4, a5⟩ := x
  obtain ⟨⟨b0, b1, b2, b3⟩, b4, b5⟩ := y
  obtain ⟨⟨c0, c1, c2, c3⟩, c4, c5⟩ := z
  simp only [matOf] at e ⊢
  injection e with e0 e1 e2 e3
  subst e0 e1 e2 e3
  simp only [ltM] at h1 h2
  have r0 : a0 = b0 := by omega
  subst r0
  have r1 : a1 = b1 := by omega
  subst r1
  have r2 : a2 = b2 := by omega
  subst r2
  have r3 : a3 = b3 := by omega
  rw [r3]
theorem rd_at (xs : List S55) (i : Nat) (h : i < xs.length) : qr xs (i : Int) = xs[i] := by unfold qr; rw [Int.toNat_natCast]; simp [List.getD, h]
theorem point_val (xs : List S55) (hl : (xs.length : Int) ≤ 1048576) (hs : Incr xs) (d : Nat) : ∀ (i : Nat) (x : List S51), i ≤ xs.length → xs.length - i = d → x.length ≤ i → x.Nodup → (∀ q ∈ x, ∃ j, ∃ hj : j < xs.length, j < i ∧ matOf xs[j] = q) → (∀ j (hj : j < xs.length), j < i → matOf xs[j] ∈ x) →
    ∃ r : List S51, r.Nodup ∧ (∀ q, q ∈ r ↔ ∃ y ∈ xs, matOf y = q) ∧ Ev (fun k => spec_l06Point.l0 k xs x i) r := by
  induction d with
  | zero =>
    intro i x hi hd hx hn h1 h2
    refine ⟨x, hn, fun q => ⟨fun hq => ?_, fun hq => ?_⟩, Ev.one (fun k => ?_)⟩
    · obtain ⟨j, hj, _, e⟩ := h1 q hq
      exact ⟨_, List.getElem_mem hj, e⟩
    · obtain ⟨y, hy, e⟩ := hq
      obtain ⟨j, hj, e'⟩ := List.getElem_of_mem hy
      rw [← e, ← e']
      exact h2 j hj (by omega)
    · simp only [spec_l06Point.l0]; rw [if_neg (by omega)]
  | succ d ih =>
    intro i x hi hd hx hn h1 h2
    have hi' : i < xs.length := by omega
    have hw : wrap64 ((i : Int) + 1) = ((i + 1 : Nat) : Int) := by rw [w64s (by omega) (by omega)]; omega
    have hc : x.length < 4398046511104 := by omega
    have grow : matOf xs[i] ∉ x → ∃ r : List S51, r.Nodup ∧ (∀ q, q ∈ r ↔ ∃ y ∈ xs, matOf y = q) ∧ Ev (fun k => spec_l06Point.l0 k xs (x ++ [matOf (qr xs (i : Int))]) ((i + 1 : Nat) : Int)) r := fun hne => by
      rw [rd_at xs i hi']
      refine ih (i + 1) _ (by omega) (by omega) (by simp; omega) ?_ (fun q hq => ?_) (fun j hj hji => ?_)
      · rw [List.nodup_append]
        refine ⟨hn, by simp, fun a ha b hb => ?_⟩
        rw [List.mem_singleton.1 hb]
        intro e
        exact hne (e ▸ ha)
      · rcases List.mem_append.1 hq with h | h
        · obtain ⟨j, hj, hji, e⟩ := h1 q h
          exact ⟨j, hj, by omega, e⟩
        · exact ⟨i, hi', by omega, (List.mem_singleton.1 h).symm⟩
      · by_cases e : j = i
        · subst e; simp
        · exact List.mem_append_left _ (h2 j hj (by omega))
    by_cases h0 : i = 0
    · subst h0
      obtain ⟨r, hr, hm, r1⟩ := grow (fun hq => by obtain ⟨j, _, hj, _⟩ := h1 _ hq; omega)
      refine ⟨r, hr, hm, Ev.step (fun k => ?_) r1⟩
      simp only [spec_l06Point.l0]
      rw [if_pos (by omega), if_pos (by rfl), if_pos (by omega), if_pos hc, hw]; rfl
    · have w1 : wrap64 ((i : Int) - 1) = ((i - 1 : Nat) : Int) := by rw [w64s (by omega) (by omega)]; omega
      by_cases e : ((!((matOf (qr xs (i : Int))).f0 == (matOf (qr xs ((i - 1 : Nat) : Int))).f0)) || ((!((matOf (qr xs (i : Int))).f1 == (matOf (qr xs ((i - 1 : Nat) : Int))).f1)) || ((!((matOf (qr xs (i : Int))).f2 == (matOf (qr xs ((i - 1 : Nat) : Int))).f2)) || (!((matOf (qr xs (i : Int))).f3 == (matOf (qr xs ((i - 1 : Nat) : Int))).f3))))) = true
      · have hne : matOf xs[i] ≠ matOf (xs[i - 1]'(by omega)) := fun h => by
          rw [rd_at xs i hi', rd_at xs (i - 1) (by omega), h] at e
          simp at e
        obtain ⟨r, hr, hm, r1⟩ := grow (fun hq => by
          obtain ⟨j, hj, hji, e⟩ := h1 _ hq
          by_cases e1 : j = i - 1
          · subst e1; exact hne e.symm
          · have l1 := hs j (i - 1) hj (by omega) (by omega)
            have l2 := hs (i - 1) i (by omega) hi' (by omega)
            have := mat_between l1 l2 e
            exact hne (e.symm.trans this))
        refine ⟨r, hr, hm, Ev.step (fun k => ?_) r1⟩
        simp only [spec_l06Point.l0]
        rw [if_pos (by omega), if_neg (by omega), if_pos (by omega), w1, if_pos (by omega), if_pos (by omega)]
        refine (if_pos e).trans ?_; rw [if_pos hc, hw]; rfl
      · have same : matOf xs[i] = matOf (xs[i - 1]'(by omega)) := by
          rw [rd_at xs i hi', rd_at xs (i - 1) (by omega)] at e
          simp only [Bool.or_eq_true, Bool.not_eq_true', beq_eq_false_iff_ne, ne_eq, not_or, Decidable.not_not] at e
          obtain ⟨a1, a2, a3, a4⟩ := e
          unfold matOf at *
          simp only at a1 a2 a3 a4
          rw [a1, a2, a3, a4]
        obtain ⟨r, hr, hm, r1⟩ := ih (i + 1) x (by omega) (by omega) (by omega) hn (fun q hq => by
          obtain ⟨j, hj, hji, e⟩ := h1 q hq
          exact ⟨j, hj, by omega, e⟩) (fun j hj hji => by
          by_cases e : j = i
          · subst e; rw [same]; exact h2 _ _ (by omega)
          · exact h2 j hj (by omega))
        refine ⟨r, hr, hm, Ev.step (fun k => ?_) r1⟩
        simp only [spec_l06Point.l0]
        rw [if_pos (by omega), if_neg (by omega), if_pos (by omega), w1, if_pos (by omega), if_pos (by omega)]
        refine (if_neg e).trans ?_; rw [hw]
theorem shifts_val (xs : List S55) (hl : (xs.length : Int) ≤ 1048576) (d : Nat) : ∀ (i : Nat) (x : List S53), i ≤ xs.length → xs.length - i = d → x.length ≤ i →
    ∃ r : List S53, r.length = x.length + ((xs.drop i).filter fun y => decide (matOf y = ⟨1, 0, 0, 1⟩)).length ∧ Ev (fun k => spec_l06Shifts.l0 k xs x i) r := by
  induction d with
  | zero =>
    intro i x hi hd hx
    refine ⟨x, ?_, Ev.one (fun k => ?_)⟩
    · rw [List.drop_of_length_le (by omega)]; rfl
    · simp only [spec_l06Shifts.l0]; rw [if_neg (by omega)]
  | succ d ih =>
    intro i x hi hd hx
    have h1 : i < xs.length := by omega
    have hw : wrap64 ((i : Int) + 1) = ((i + 1 : Nat) : Int) := by rw [w64s (by omega) (by omega)]; omega
    have hc : x.length < 8796093022208 := by omega
    rw [List.drop_eq_getElem_cons h1, List.filter_cons]
    have hd : decide (matOf xs[i] = ⟨1, 0, 0, 1⟩) = ((qr xs (i : Int)).f0.f0 == 1 && ((qr xs (i : Int)).f0.f1 == 0 && ((qr xs (i : Int)).f0.f2 == 0 && (qr xs (i : Int)).f0.f3 == 1))) := by
      rw [rd_at xs i h1, Bool.eq_iff_iff, decide_eq_true_iff, Bool.and_eq_true, Bool.and_eq_true, Bool.and_eq_true, beq_iff_eq, beq_iff_eq, beq_iff_eq, beq_iff_eq]
      unfold matOf
      constructor
      · intro h; injection h with h0 h1 h2 h3; exact ⟨h0, h1, h2, h3⟩
      · rintro ⟨h0, h1, h2, h3⟩; rw [h0, h1, h2, h3]
    rw [hd]
    by_cases e : ((qr xs (i : Int)).f0.f0 == 1 && ((qr xs (i : Int)).f0.f1 == 0 && ((qr xs (i : Int)).f0.f2 == 0 && (qr xs (i : Int)).f0.f3 == 1))) = true
    · obtain ⟨r, hr, r1⟩ := ih (i + 1) (x ++ [⟨(qr xs (i : Int)).f1.f0, (qr xs (i : Int)).f1.f1⟩]) (by omega) (by omega) (by simp; omega)
      refine ⟨r, by rw [hr, if_pos e]; simp; omega, Ev.step (fun k => ?_) r1⟩
      simp only [spec_l06Shifts.l0, spec_l02Unit.f, Option.bind_some]
      rw [if_pos (by omega), if_pos (by omega), if_pos e, if_pos hc, hw]
    · obtain ⟨r, hr, r1⟩ := ih (i + 1) x (by omega) (by omega) (by omega)
      refine ⟨r, by rw [hr, if_neg e], Ev.step (fun k => ?_) r1⟩
      simp only [spec_l06Shifts.l0, spec_l02Unit.f, Option.bind_some]
      rw [if_pos (by omega), if_pos (by omega), if_neg e, hw]
theorem points_count (fr a b c : Int) (xs : List S55) (hl : (xs.length : Int) ≤ 1048576) : ∃ (p : List S51) (e : Int) (s : List S53) (e2 : Int), Ev (fun k => spec_PointPart.f k fr a b c xs) (p, e) ∧ Ev (fun k => spec_ShiftsOf.f k fr a b c xs) (s, e2) ∧ (e = 0 → e2 = 0 ∧ p.length * s.length = xs.length) := by
  obtain ⟨r, ⟨K1, r1⟩, _, r3⟩ := groupCode_both fr a b c xs hl
  have q := fun i => spec_l06Code_eq fr a b c i
  have g1 : ∀ k, K1 ≤ k → spec_IsGroup.f k fr a b c xs = some r := fun k hk => r1 k hk
  by_cases e : r = true
  · obtain ⟨h, hg, hs, hn⟩ := r3 e
    obtain ⟨r', q1, _, q3⟩ := group_iff h xs hl
    have hr : r' = r := Ev.unique q1 ⟨K1, r1⟩
    have g : Grp fr a b c xs := q3.1 (hr.trans e)
    obtain ⟨p, p1, p2, ⟨K3, p3⟩⟩ := point_val xs hl hs xs.length 0 [] (by omega) rfl (by simp) (by simp) (by simp) (fun j hj h0 => absurd h0 (by omega))
    obtain ⟨s, s1, ⟨K4, s2⟩⟩ := shifts_val xs hl xs.length 0 [] (by omega) rfl (by simp)
    refine ⟨p, 0, s, 0, ⟨K1 + K3, fun k hk => ?_⟩, ⟨K1 + K4, fun k hk => ?_⟩, fun _ => ⟨rfl, ?_⟩⟩
    · have g : spec_l06Point.l0 k xs [] ((0 : Nat) : Int) = some p := p3 k (by omega)
      show spec_PointPart.f k fr a b c xs = _
      unfold spec_PointPart.f spec_l06Point.f
      rw [g1 k (by omega), Option.bind_some, q, if_pos h, if_pos e, Option.bind_some, if_pos rfl]
      show ((spec_l06Point.l0 k xs [] ((0 : Nat) : Int)).bind _) = _
      rw [g]; rfl
    · have g : spec_l06Shifts.l0 k xs [] ((0 : Nat) : Int) = some s := s2 k (by omega)
      show spec_ShiftsOf.f k fr a b c xs = _
      unfold spec_ShiftsOf.f spec_l06Shifts.f
      rw [g1 k (by omega), Option.bind_some, q, if_pos h, if_pos e, Option.bind_some, if_pos rfl]
      show ((spec_l06Shifts.l0 k xs [] ((0 : Nat) : Int)).bind _) = _
      rw [g]; rfl
    · rw [s1, List.length_nil, Nat.zero_add, List.drop_zero]
      exact grp_image h g p p1 p2
  · have hne : (if FL fr a b c then (if r = true then 0 else 2) else 1 : Int) ≠ 0 := by
      by_cases h : FL fr a b c
      · rw [if_pos h, if_neg e]; decide
      · rw [if_neg h]; decide
    refine ⟨[], if FL fr a b c then (if r = true then 0 else 2) else 1, [], if FL fr a b c then (if r = true then 0 else 2) else 1, ⟨K1, fun k hk => ?_⟩, ⟨K1, fun k hk => ?_⟩, fun h => absurd h hne⟩
    · show spec_PointPart.f k fr a b c xs = _
      unfold spec_PointPart.f
      rw [g1 k hk, Option.bind_some, q, Option.bind_some, if_neg hne]
    · show spec_ShiftsOf.f k fr a b c xs = _
      unfold spec_ShiftsOf.f
      rw [g1 k hk, Option.bind_some, q, Option.bind_some, if_neg hne]
end Go.Proofs.Ytedmadofpdkekaa.LA
