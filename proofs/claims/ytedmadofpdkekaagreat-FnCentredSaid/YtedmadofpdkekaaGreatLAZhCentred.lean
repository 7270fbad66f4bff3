/- Plain lemmas on the law on reflections of lattices (FnCentred). NOT BUILT YET. -/
import Derived.Test.YtedmadofpdkekaaGreatAid
import Derived.Test.YtedmadofpdkekaaGreatPAx0
import Derived.Test.YtedmadofpdkekaaGreatLAABasic
import Derived.Test.YtedmadofpdkekaaGreatLAPPoints
import Derived.Test.YtedmadofpdkekaaGreatLAPbSuit
import Derived.Test.YtedmadofpdkekaaGreatLARMirror
import Derived.Test.YtedmadofpdkekaaGreatLARaMirrorcode
import Derived.Test.YtedmadofpdkekaaGreatLARabMultiple
import Derived.Test.YtedmadofpdkekaaGreatLASCentred
import Derived.Test.YtedmadofpdkekaaGreatLASbCentred
import Derived.Test.YtedmadofpdkekaaGreatLATMayreflect
import Derived.Test.YtedmadofpdkekaaGreatLAYaDraw
import Derived.Test.YtedmadofpdkekaaGreatLAYbaLats
import Derived.Test.YtedmadofpdkekaaGreatPAx0
import Derived.Test.YtedmadofpdkekaaGreatPAx10
import Derived.Test.YtedmadofpdkekaaGreatPAx11
import Derived.Test.YtedmadofpdkekaaGreatPAx12
import Derived.Test.YtedmadofpdkekaaGreatPAx14
import Derived.Test.YtedmadofpdkekaaGreatPAx16
import Derived.Test.YtedmadofpdkekaaGreatPAx17
import Derived.Test.YtedmadofpdkekaaGreatPAx18
import Derived.Test.YtedmadofpdkekaaGreatPAx5
import Derived.Test.YtedmadofpdkekaaGreatPAx8
import Derived.Test.YtedmadofpdkekaaGreatPAx9
namespace Go.Proofs.YtedmadofpdkekaaGreat.LA
open Go.RowKit Go.Proofs.YtedmadofpdkekaaGreat.PA Go.Proofs.YtedmadofpdkekaaGreatW.PrintWords Go.Proofs.YtedmadofpdkekaaGreatW.PrintLast Go.Proofs.YtedmadofpdkekaaGreat.Aid
set_option linter.unusedVariables false
set_option linter.unusedSimpArgs false

/-- A shift of a motion that is a reflection leaves nothing along the axis. -/
theorem refl_along {fr m0 m1 m2 m3 : Int} (hf : 0 ≤ fr ∧ fr ≤ 1) (h : (m0, m1, m2, m3) ∈ pmL fr) (hd : detM (m0, m1, m2, m3) = -1) {x y : Int} (e1 : m0 * x + m1 * y + x = 0) (e2 : m2 * x + m3 * y + y = 0) : (alC (m0, m1, m2, m3)).1 * x + (alC (m0, m1, m2, m3)).2 * y = 0 := by
  obtain ⟨s1, s2⟩ := sum_axis hf h hd x y
  obtain ⟨-, hg, -⟩ := rf_facts _ (rf_row hf h hd)
  dsimp only at hg
  rw [Int.add_comm] at e1 e2
  rw [s1] at e1
  rw [s2] at e2
  rcases Int.mul_eq_zero.1 e1 with q | q
  · rcases Int.mul_eq_zero.1 e2 with q' | q'
    · rw [q, q'] at hg; exact absurd hg (by decide)
    · exact q'
  · exact q
theorem pm_turn0 (k : Nat) : ∀ m ∈ pmL 0, impl_Mat_isTurn.f (k + 30) m.1 m.2.1 m.2.2.1 m.2.2.2 = some true ∧ impl_IsMat.f m.1 m.2.1 m.2.2.1 m.2.2.2 = some true ∧ impl_Mat_det.f m.1 m.2.1 m.2.2.1 m.2.2.2 = some (detM m) := by
  intro m hm
  simp only [pmL, if_pos, List.mem_cons, List.not_mem_nil, or_false] at hm
  rcases hm with rfl | rfl | rfl | rfl | rfl | rfl | rfl | rfl <;> exact ⟨by kernel_rfl, by kernel_rfl, by kernel_rfl⟩
theorem pm_turn1 (k : Nat) : ∀ m ∈ pmL 1, impl_Mat_isTurn.f (k + 30) m.1 m.2.1 m.2.2.1 m.2.2.2 = some true ∧ impl_IsMat.f m.1 m.2.1 m.2.2.1 m.2.2.2 = some true ∧ impl_Mat_det.f m.1 m.2.1 m.2.2.1 m.2.2.2 = some (detM m) := by
  intro m hm
  have h10 : ¬ (1 : Int) = 0 := by decide
  simp only [pmL, if_neg h10, List.mem_cons, List.not_mem_nil, or_false] at hm
  rcases hm with rfl | rfl | rfl | rfl | rfl | rfl | rfl | rfl | rfl | rfl | rfl | rfl <;> exact ⟨by kernel_rfl, by kernel_rfl, by kernel_rfl⟩
theorem pm_turn {fr : Int} (hf : 0 ≤ fr ∧ fr ≤ 1) {m : Int × Int × Int × Int} (h : m ∈ pmL fr) (k : Nat) : impl_Mat_isTurn.f (k + 30) m.1 m.2.1 m.2.2.1 m.2.2.2 = some true ∧ impl_IsMat.f m.1 m.2.1 m.2.2.1 m.2.2.2 = some true ∧ impl_Mat_det.f m.1 m.2.1 m.2.2.1 m.2.2.2 = some (detM m) := by
  rcases fr01 hf with rfl | rfl
  · exact pm_turn0 k m h
  · exact pm_turn1 k m h
/-- The kind of a motion: if it is a reflection, twice it is the identity. -/
theorem kind_facts {fr m0 m1 m2 m3 x y : Int} (hf : 0 ≤ fr ∧ fr ≤ 1) (h : (m0, m1, m2, m3) ∈ pmL fr) (hx : -1000 ≤ x ∧ x ≤ 1000) (hy : -1000 ≤ y ∧ y ≤ 1000) :
    ∃ q : Int × Int, Ev (fun k => impl_KindOfMotion.f k m0 m1 m2 m3 x y) q ∧ (q.1 = 3 → detM (m0, m1, m2, m3) = -1 ∧ m0 * x + m1 * y + x = 0 ∧ m2 * x + m3 * y + y = 0) := by
  obtain ⟨⟨a1, a2⟩, ⟨a3, a4⟩, ⟨a5, a6⟩, a7, a8⟩ := pm_small hf h
  dsimp only at a1 a2 a3 a4 a5 a6 a7 a8
  have p1 := small1 ⟨a1, a2⟩ hx
  have p2 := small1 ⟨a3, a4⟩ hy
  have p3 := small1 ⟨a5, a6⟩ hx
  have p4 := small1 ⟨a7, a8⟩ hy
  have hdet := (pm_turn hf h 0).2.2
  dsimp only at hdet
  have hIM := ((mem_pm hf).1 h).1.2
  have hd : detM (m0, m1, m2, m3) = 1 ∨ detM (m0, m1, m2, m3) = -1 := hIM
  have hv : impl_IsVec.f x y = some true := by
    rw [impl_IsVec_eq]; congr 1; exact decide_eq_true ⟨hx, hy⟩
  have key : ∃ q : Int, impl_Motion_kind.f m0 m1 m2 m3 x y = some q ∧ (q = 3 → detM (m0, m1, m2, m3) = -1 ∧ m0 * x + m1 * y + x = 0 ∧ m2 * x + m3 * y + y = 0) := by
    unfold impl_Motion_kind.f
    simp only [impl_unit.f, Option.bind_some]
    split
    · exact ⟨0, rfl, fun z => absurd z (by decide)⟩
    · split
      · exact ⟨1, rfl, fun z => absurd z (by decide)⟩
      · rw [hdet, Option.bind_some]
        split
        · exact ⟨2, rfl, fun z => absurd z (by decide)⟩
        · rename_i hn
          have ht : impl_Motion_times.f m0 m1 m2 m3 x y m0 m1 m2 m3 x y = some (wrap64 (wrap64 (m0 * m0) + wrap64 (m1 * m2)), wrap64 (wrap64 (m0 * m1) + wrap64 (m1 * m3)), wrap64 (wrap64 (m2 * m0) + wrap64 (m3 * m2)), wrap64 (wrap64 (m2 * m1) + wrap64 (m3 * m3)), m0 * x + m1 * y + x, m2 * x + m3 * y + y) := by
            unfold impl_Motion_times.f impl_Mat_times.f impl_Mat_apply.f impl_Vec_add.f
            simp only [Option.bind_some]
            rw [w64s (x := m0 * x) (by omega) (by omega), w64s (x := m1 * y) (by omega) (by omega), w64s (x := m2 * x) (by omega) (by omega), w64s (x := m3 * y) (by omega) (by omega), w64s (x := m0 * x + m1 * y) (by omega) (by omega), w64s (x := m2 * x + m3 * y) (by omega) (by omega), w64s (x := m0 * x + m1 * y + x) (by omega) (by omega), w64s (x := m2 * x + m3 * y + y) (by omega) (by omega)]
          rw [ht, Option.bind_some]
          dsimp only
          split
          · rename_i hc
            simp only [Bool.and_eq_true, beq_iff_eq] at hc
            refine ⟨3, rfl, fun _ => ⟨?_, hc.2.1, hc.2.2⟩⟩
            rcases hd with hd | hd
            · exact absurd hd hn
            · exact hd
          · exact ⟨4, rfl, fun z => absurd z (by decide)⟩
  obtain ⟨q, q1, q2⟩ := key
  refine ⟨(q, 0), Ev.far 30 (fun k => ?_), q2⟩
  obtain ⟨t1, t2, -⟩ := pm_turn hf h k
  dsimp only at t1 t2
  unfold impl_KindOfMotion.f impl_IsMotion.f
  rw [t2, Option.bind_some, if_pos rfl, t1, Option.bind_some, if_pos rfl, hv, Option.bind_some, Option.bind_some, if_pos rfl, q1]
  rfl
/-- What MayReflect tells. -/
theorem may_facts {fr a b c m0 m1 m2 m3 x y : Int} {r : Bool × Int} (e : Ev (fun k => impl_MayReflect.f k fr a b c m0 m1 m2 m3 x y) r) (h0 : r.2 = 0) : FL fr a b c ∧ Suit fr a b c m0 m1 m2 m3 x y ∧
    (detM (m0, m1, m2, m3) = -1 → ((Int.gcd ((alC (m0, m1, m2, m3)).1 * a) ((alC (m0, m1, m2, m3)).1 * b + (alC (m0, m1, m2, m3)).2 * c) : Nat) : Int) ∣ (alC (m0, m1, m2, m3)).1 * x + (alC (m0, m1, m2, m3)).2 * y → r.1 = true) := by
  have q1 := impl_frameCode_eq fr a b c
  by_cases h : FL fr a b c
  · have q2 := fun k hk => impl_isSuitable_eq h m0 m1 m2 m3 x y k hk
    by_cases hs : Suit fr a b c m0 m1 m2 m3 x y
    · refine ⟨h, hs, fun hd hg => ?_⟩
      obtain ⟨⟨hm, hkp⟩, hx, hy⟩ := id hs
      obtain ⟨p, n, hp, hn, e1, e2⟩ := inv_ev h hm hd
      obtain ⟨⟨p1, p2⟩, hp⟩ := hp
      obtain ⟨⟨n1, n2⟩, hn⟩ := hn
      have hst := step_eq h hm hkp hd p1 p2 n1 n2 hp hn
      have hg0 : Int.gcd ((alC (m0, m1, m2, m3)).1 * a) ((alC (m0, m1, m2, m3)).1 * b + (alC (m0, m1, m2, m3)).2 * c) ≠ 0 := by rw [hst]; split <;> omega
      have si := fun k hk => impl_refl_eq h hm hx hy hd hg0 k hk
      have : r = (true, 0) := Ev.unique e ⟨10000000, fun k hk => by
        show impl_MayReflect.f k fr a b c m0 m1 m2 m3 x y = _
        unfold impl_MayReflect.f
        rw [q1, if_pos h, Option.bind_some, if_pos rfl, q2 k (by omega), Option.bind_some, if_pos (by simp [hs]), si k (by omega), decide_eq_true hg]
        rfl⟩
      rw [this]
    · have : r = (false, 2) := Ev.unique e ⟨100, fun k hk => by
        show impl_MayReflect.f k fr a b c m0 m1 m2 m3 x y = _
        unfold impl_MayReflect.f
        rw [q1, if_pos h, Option.bind_some, if_pos rfl, q2 k hk, Option.bind_some, if_neg (by simp [hs])]⟩
      rw [this] at h0; exact absurd h0 (by decide)
  · have : r = (false, 1) := Ev.unique e (Ev.all fun k => by
      unfold impl_MayReflect.f
      rw [q1, if_neg h, Option.bind_some, if_neg (by decide)])
    rw [this] at h0; exact absurd h0 (by decide)
/-- The valid arguments of InvariantVec and of IsCentred. -/
def Mir (fr a b c m0 m1 m2 m3 : Int) : Prop := ((m0, m1, m2, m3) ∈ pmL fr ∧ KeepL a b c (m0, m1, m2, m3)) ∧ detM (m0, m1, m2, m3) = -1
theorem inv_cases (fr a b c m0 m1 m2 m3 : Int) :
    (∃ p n : Nat, FL fr a b c ∧ Mir fr a b c m0 m1 m2 m3 ∧ Least a b c (axP (m0, m1, m2, m3)).1 (axP (m0, m1, m2, m3)).2 p ∧ Least a b c (axN (m0, m1, m2, m3)).1 (axN (m0, m1, m2, m3)).2 n ∧
      Ev (fun k => spec_InvariantVec.f k fr a b c m0 m1 m2 m3) ((p : Int) * (axP (m0, m1, m2, m3)).1, (p : Int) * (axP (m0, m1, m2, m3)).2, 0) ∧ Ev (fun k => impl_InvariantVec.f k fr a b c m0 m1 m2 m3) ((p : Int) * (axP (m0, m1, m2, m3)).1, (p : Int) * (axP (m0, m1, m2, m3)).2, 0) ∧
      Ev (fun k => spec_IsCentred.f k fr a b c m0 m1 m2 m3) (centB a c (p * (axP (m0, m1, m2, m3)).1, p * (axP (m0, m1, m2, m3)).2) (n * (axN (m0, m1, m2, m3)).1, n * (axN (m0, m1, m2, m3)).2), 0) ∧ Ev (fun k => impl_IsCentred.f k fr a b c m0 m1 m2 m3) (centB a c (p * (axP (m0, m1, m2, m3)).1, p * (axP (m0, m1, m2, m3)).2) (n * (axN (m0, m1, m2, m3)).1, n * (axN (m0, m1, m2, m3)).2), 0)) ∨
    (∃ e : Int, e ≠ 0 ∧ Ev (fun k => spec_InvariantVec.f k fr a b c m0 m1 m2 m3) (0, 0, e) ∧ Ev (fun k => impl_InvariantVec.f k fr a b c m0 m1 m2 m3) (0, 0, e) ∧ Ev (fun k => spec_IsCentred.f k fr a b c m0 m1 m2 m3) (false, e) ∧ Ev (fun k => impl_IsCentred.f k fr a b c m0 m1 m2 m3) (false, e)) := by
  have q1 : ∀ k, 10000000 ≤ k → _ := fun k hk => spec_mirror_eq fr a b c m0 m1 m2 m3 k hk
  have q2 : ∀ k, 10000000 ≤ k → _ := fun k hk => impl_mirrorCode_eq fr a b c m0 m1 m2 m3 k (by omega)
  have q3 := fun i => spec_l06Code_eq fr a b c i
  by_cases h : FL fr a b c
  · by_cases hm : ((m0, m1, m2, m3) ∈ pmL fr ∧ KeepL a b c (m0, m1, m2, m3)) ∧ detM (m0, m1, m2, m3) = -1
    · obtain ⟨p, n, hp, hn, e1, e2⟩ := inv_ev h hm.1.1 hm.2
      obtain ⟨e3, e4⟩ := inv_impl h hm.1.1 hm.2 hp hn
      obtain ⟨K1, c1⟩ := spec_cent_ev e1 e2
      obtain ⟨K2, c2⟩ := impl_cent_ev e3 e4
      obtain ⟨K3, e1⟩ := e1
      obtain ⟨K4, e3⟩ := e3
      refine .inl ⟨p, n, h, hm, hp, hn, ⟨K3 + 10000000, fun k hk => ?_⟩, ⟨K4 + 10000000, fun k hk => ?_⟩, ⟨K1 + 10000000, fun k hk => ?_⟩, ⟨K2 + 10000000, fun k hk => ?_⟩⟩
      · have g := e1 k (by omega)
        dsimp only at g
        show spec_InvariantVec.f k fr a b c m0 m1 m2 m3 = _
        unfold spec_InvariantVec.f
        rw [q1 k (by omega), Option.bind_some, q3, if_pos h, if_pos (by simp [h, hm]), Option.bind_some, if_pos rfl, g]; rfl
      · have g := e3 k (by omega)
        dsimp only at g
        show impl_InvariantVec.f k fr a b c m0 m1 m2 m3 = _
        unfold impl_InvariantVec.f
        rw [q2 k (by omega), if_pos h, if_pos hm, Option.bind_some, if_pos rfl]
        rcases hx : impl_Mat_axis.f k m0 m1 m2 m3 with _ | t
        · simp only [hx, Option.bind_none] at g; cases g
        · simp only [hx, Option.bind_some] at g ⊢
          rw [g]; rfl
      · have g := c1 k (by omega)
        dsimp only at g
        show spec_IsCentred.f k fr a b c m0 m1 m2 m3 = _
        unfold spec_IsCentred.f
        rw [q1 k (by omega), Option.bind_some, q3, if_pos h, if_pos (by simp [h, hm]), Option.bind_some, if_pos rfl, g]; rfl
      · have g := c2 k (by omega)
        dsimp only at g
        show impl_IsCentred.f k fr a b c m0 m1 m2 m3 = _
        unfold impl_IsCentred.f
        rw [q2 k (by omega), if_pos h, if_pos hm, Option.bind_some, if_pos rfl, g]; rfl
    · refine .inr ⟨2, by decide, ⟨10000000, fun k hk => ?_⟩, ⟨10000000, fun k hk => ?_⟩, ⟨10000000, fun k hk => ?_⟩, ⟨10000000, fun k hk => ?_⟩⟩
      · show spec_InvariantVec.f k fr a b c m0 m1 m2 m3 = _
        unfold spec_InvariantVec.f
        rw [q1 k (by omega), Option.bind_some, q3, if_pos h, if_neg (by simp only [decide_eq_true_iff]; exact fun x => hm x.2), Option.bind_some, if_neg (by decide)]
      · show impl_InvariantVec.f k fr a b c m0 m1 m2 m3 = _
        unfold impl_InvariantVec.f
        rw [q2 k (by omega), if_pos h, if_neg hm, Option.bind_some, if_neg (by decide)]
      · show spec_IsCentred.f k fr a b c m0 m1 m2 m3 = _
        unfold spec_IsCentred.f
        rw [q1 k (by omega), Option.bind_some, q3, if_pos h, if_neg (by simp only [decide_eq_true_iff]; exact fun x => hm x.2), Option.bind_some, if_neg (by decide)]
      · show impl_IsCentred.f k fr a b c m0 m1 m2 m3 = _
        unfold impl_IsCentred.f
        rw [q2 k (by omega), if_pos h, if_neg hm, Option.bind_some, if_neg (by decide)]
  · refine .inr ⟨1, by decide, ⟨10000000, fun k hk => ?_⟩, ⟨10000000, fun k hk => ?_⟩, ⟨10000000, fun k hk => ?_⟩, ⟨10000000, fun k hk => ?_⟩⟩
    · show spec_InvariantVec.f k fr a b c m0 m1 m2 m3 = _
      unfold spec_InvariantVec.f
      rw [q1 k (by omega), Option.bind_some, q3, if_neg h, Option.bind_some, if_neg (by decide)]
    · show impl_InvariantVec.f k fr a b c m0 m1 m2 m3 = _
      unfold impl_InvariantVec.f
      rw [q2 k (by omega), if_neg h, Option.bind_some, if_neg (by decide)]
    · show spec_IsCentred.f k fr a b c m0 m1 m2 m3 = _
      unfold spec_IsCentred.f
      rw [q1 k (by omega), Option.bind_some, q3, if_neg h, Option.bind_some, if_neg (by decide)]
    · show impl_IsCentred.f k fr a b c m0 m1 m2 m3 = _
      unfold impl_IsCentred.f
      rw [q2 k (by omega), if_neg h, Option.bind_some, if_neg (by decide)]
theorem mirror_loop {l : List Int} (hb : Byt l) (fr a b c : Int) (d : Nat) : ∀ (n p s m0 m1 m2 m3 : Int), 0 ≤ n → n ≤ 4 → 4 - n = d → Src l p s → ∃ q0 q1 q2 q3 p' s', Ev (fun k => spec_l11DrawMirror.l0 k fr n l p s a b c m0 m1 m2 m3) (fr, a, b, c, q0, q1, q2, q3, p', s') ∧ Src l p' s' := by
  induction d with
  | zero =>
    intro n p s m0 m1 m2 m3 h0 h1 hd g
    refine ⟨m0, m1, m2, m3, p, s, Ev.one (fun k => ?_), g⟩
    simp only [spec_l11DrawMirror.l0]; rw [if_neg (by omega)]
  | succ d ih =>
    intro n p s m0 m1 m2 m3 h0 h1 hd g
    have hw : wrap64 (n + 1) = n + 1 := w64s (by omega) (by omega)
    have hdet : ∃ t, spec_l02Det.f m0 m1 m2 m3 = some t := ⟨_, rfl⟩
    obtain ⟨t, ht⟩ := hdet
    by_cases c1 : t = 1
    · obtain ⟨u0, u1, u2, u3, x, y, p1, s1, ⟨K, e1⟩, g1, -⟩ := motion_some hb fr a b c g
      have e1 : ∀ k, K ≤ k → spec_l06DrawMotion.f k l p s fr a b c = some (u0, u1, u2, u3, x, y, p1, s1) := e1
      obtain ⟨q0, q1, q2, q3, p', s', e2, g2⟩ := ih (n + 1) p1 s1 u0 u1 u2 u3 (by omega) (by omega) (by omega) g1
      refine ⟨q0, q1, q2, q3, p', s', Ev.from' K (fun k hk => ?_) e2, g2⟩
      simp only [spec_l11DrawMirror.l0]
      rw [if_pos (by omega), ht, Option.bind_some, if_pos c1, e1 k hk, Option.bind_some, hw]
    · refine ⟨m0, m1, m2, m3, p, s, Ev.one (fun k => ?_), g⟩
      simp only [spec_l11DrawMirror.l0]
      rw [if_pos (by omega), ht, Option.bind_some, if_neg c1]
theorem mirror_some {l : List Int} (hb : Byt l) {p s : Int} (g : Src l p s) : ∃ fr a b c q0 q1 q2 q3 p' s', Ev (fun k => spec_l11DrawMirror.f k l p s) (fr, a, b, c, q0, q1, q2, q3, p', s') ∧ Src l p' s' := by
  obtain ⟨fr, a, b, c, p1, s1, e1, g1⟩ := flat_some hb g
  obtain ⟨u0, u1, u2, u3, x, y, p2, s2, ⟨K, e2⟩, g2, -⟩ := motion_some hb fr a b c g1
  have e2 : ∀ k, K ≤ k → spec_l06DrawMotion.f k l p1 s1 fr a b c = some (u0, u1, u2, u3, x, y, p2, s2) := e2
  obtain ⟨q0, q1, q2, q3, p', s', ⟨K2, e3⟩, g3⟩ := mirror_loop hb fr a b c 4 0 p2 s2 u0 u1 u2 u3 (by omega) (by omega) (by omega) g2
  have e3 : ∀ k, K2 ≤ k → spec_l11DrawMirror.l0 k fr 0 l p2 s2 a b c u0 u1 u2 u3 = some (fr, a, b, c, q0, q1, q2, q3, p', s') := e3
  refine ⟨fr, a, b, c, q0, q1, q2, q3, p', s', ⟨K + K2, fun k hk => ?_⟩, g3⟩
  show spec_l11DrawMirror.f k l p s = _
  unfold spec_l11DrawMirror.f
  rw [e1, Option.bind_some]; dsimp only
  rw [e2 k (by omega), Option.bind_some]; dsimp only
  exact e3 k (by omega)

end Go.Proofs.YtedmadofpdkekaaGreat.LA
