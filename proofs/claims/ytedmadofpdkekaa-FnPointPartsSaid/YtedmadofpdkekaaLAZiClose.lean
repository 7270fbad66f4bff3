import Derived.Test.YtedmadofpdkekaaAid
import Derived.Test.YtedmadofpdkekaaPAx0
import Derived.Test.YtedmadofpdkekaaLAABasic
import Derived.Test.YtedmadofpdkekaaLAGLattice
import Derived.Test.YtedmadofpdkekaaLAOHermite
import Derived.Test.YtedmadofpdkekaaLAPPoints
import Derived.Test.YtedmadofpdkekaaLAUOrder
import Derived.Test.YtedmadofpdkekaaLAVGroup
import Derived.Test.YtedmadofpdkekaaLAWIsgroup
import Derived.Test.YtedmadofpdkekaaPAx0
import Derived.Test.YtedmadofpdkekaaPAx12
import Derived.Test.YtedmadofpdkekaaPAx13
import Derived.Test.YtedmadofpdkekaaPAx6
import Derived.Test.YtedmadofpdkekaaPAx9
namespace Go.Proofs.Ytedmadofpdkekaa.LA
open Go.RowKit Go.Proofs.Ytedmadofpdkekaa.PA Go.Proofs.YtedmadofpdkekaaW.PrintWords Go.Proofs.YtedmadofpdkekaaW.PrintLast Go.Proofs.Ytedmadofpdkekaa.Aid
set_option linter.unusedVariables false
set_option linter.unusedSimpArgs false
theorem red_cong {a b c x y x' y' : Int} (hc : 1 ≤ c) (h : inL a b c (x - x') (y - y')) : red a b c x y = red a b c x' y' := by
  obtain ⟨q, h1, k, h2⟩ := h
  obtain rfl : y = y' + q * c := by omega
  obtain rfl : x = x' + q * b + a * k := by omega
  unfold red
  have e1 : (y' + q * c) / c = y' / c + q := Int.add_mul_ediv_right _ _ (by omega)
  have e2 : (y' + q * c) % c = y' % c := Int.add_mul_emod_self_right _ _ _
  rw [e1, e2, Int.add_mul, show x' + q * b + a * k - (y' / c * b + q * b) = x' - y' / c * b + a * k by omega, Int.add_mul_emod_self_left]
theorem inL_add {a b c x y x' y' : Int} (h : inL a b c x y) (h' : inL a b c x' y') : inL a b c (x + x') (y + y') := by
  have := inL_sub (-1) h h'
  rwa [Int.neg_one_mul, Int.neg_one_mul, Int.sub_neg, Int.sub_neg] at this
theorem inL_mul {a b c x y : Int} (k : Int) (h : inL a b c x y) : inL a b c (k * x) (k * y) := by
  obtain ⟨q, h1, h2⟩ := h
  refine ⟨k * q, by rw [h1, Int.mul_assoc], ?_⟩
  rw [Int.mul_assoc, ← Int.mul_sub]
  exact Int.dvd_trans h2 (Int.dvd_mul_left k _)
theorem red_add {a b c x y u v : Int} (ha : 1 ≤ a) (hc : 1 ≤ c) : red a b c (x + u) (y + v) = red a b c (x + (red a b c u v).1) (y + (red a b c u v).2) := by
  refine red_cong hc ?_
  have := red_diff (a := a) (b := b) (c := c) (x := u) (y := v) ha hc
  rwa [show x + u - (x + (red a b c u v).1) = u - (red a b c u v).1 by omega, show y + v - (y + (red a b c u v).2) = v - (red a b c u v).2 by omega]
theorem red_idem {a b c x y : Int} (ha : 1 ≤ a) (hc : 1 ≤ c) : red a b c (red a b c x y).1 (red a b c x y).2 = red a b c x y := by
  have := red_diff (a := a) (b := b) (c := c) (x := x) (y := y) ha hc
  exact (red_cong hc this).symm
theorem keep_apply {a b c : Int} {m : Int × Int × Int × Int} (ha : 1 ≤ a) (hc : 1 ≤ c) (h : KeepL a b c m) {x y : Int} (hv : inL a b c x y) : inL a b c (m.1 * x + m.2.1 * y) (m.2.2.1 * x + m.2.2.2 * y) := by
  obtain ⟨q, h1, k, h2⟩ := hv
  have k1 := (red_inL hc ha).1 h.1
  have k2 := (red_inL hc ha).1 h.2
  have := inL_add (inL_mul k k1) (inL_mul q k2)
  obtain rfl : x = q * b + a * k := by omega
  subst h1
  have e1 : m.1 * (q * b + a * k) + m.2.1 * (q * c) = k * (m.1 * a) + q * (m.1 * b + m.2.1 * c) := by
    rw [Int.mul_add, Int.mul_add, Int.mul_left_comm m.1 q b, Int.mul_left_comm m.2.1 q c, Int.mul_comm k, Int.mul_assoc]; omega
  have e2 : m.2.2.1 * (q * b + a * k) + m.2.2.2 * (q * c) = k * (m.2.2.1 * a) + q * (m.2.2.1 * b + m.2.2.2 * c) := by
    rw [Int.mul_add, Int.mul_add, Int.mul_left_comm m.2.2.1 q b, Int.mul_left_comm m.2.2.2 q c, Int.mul_comm k, Int.mul_assoc]; omega
  rw [e1, e2]; exact this
def mulM (m n : Int × Int × Int × Int) : Int × Int × Int × Int := (m.1 * n.1 + m.2.1 * n.2.2.1, m.1 * n.2.1 + m.2.1 * n.2.2.2, m.2.2.1 * n.1 + m.2.2.2 * n.2.2.1, m.2.2.1 * n.2.1 + m.2.2.2 * n.2.2.2)
theorem pm_mul0 : ∀ m ∈ pmL 0, ∀ n ∈ pmL 0, mulM m n ∈ pmL 0 := by decide +kernel
theorem pm_mul1 : ∀ m ∈ pmL 1, ∀ n ∈ pmL 1, mulM m n ∈ pmL 1 := by decide +kernel
theorem pm_mul {fr : Int} (hf : 0 ≤ fr ∧ fr ≤ 1) {m n : Int × Int × Int × Int} (h : m ∈ pmL fr) (g : n ∈ pmL fr) : mulM m n ∈ pmL fr := by
  rcases fr01 hf with rfl | rfl
  · exact pm_mul0 m h n g
  · exact pm_mul1 m h n g
theorem keep_mul {a b c : Int} {m n : Int × Int × Int × Int} (ha : 1 ≤ a) (hc : 1 ≤ c) (h : KeepL a b c m) (g : KeepL a b c n) : KeepL a b c (mulM m n) := by
  have k1 := keep_apply ha hc h ((red_inL hc ha).1 g.1)
  have k2 := keep_apply ha hc h ((red_inL hc ha).1 g.2)
  refine ⟨(red_inL hc ha).2 ?_, (red_inL hc ha).2 ?_⟩
  · have e1 : m.1 * (n.1 * a) + m.2.1 * (n.2.2.1 * a) = (mulM m n).1 * a := by unfold mulM; rw [Int.add_mul, Int.mul_assoc, Int.mul_assoc]
    have e2 : m.2.2.1 * (n.1 * a) + m.2.2.2 * (n.2.2.1 * a) = (mulM m n).2.2.1 * a := by unfold mulM; rw [Int.add_mul, Int.mul_assoc, Int.mul_assoc]
    rw [e1, e2] at k1; exact k1
  · have e1 : m.1 * (n.1 * b + n.2.1 * c) + m.2.1 * (n.2.2.1 * b + n.2.2.2 * c) = (mulM m n).1 * b + (mulM m n).2.1 * c := by unfold mulM; simp only [Int.add_mul, Int.mul_add, Int.mul_assoc]; omega
    have e2 : m.2.2.1 * (n.1 * b + n.2.1 * c) + m.2.2.2 * (n.2.2.1 * b + n.2.2.2 * c) = (mulM m n).2.2.1 * b + (mulM m n).2.2.2 * c := by unfold mulM; simp only [Int.add_mul, Int.mul_add, Int.mul_assoc]; omega
    rw [e1, e2] at k2; exact k2
theorem Good.mul {fr a b c : Int} (h : FL fr a b c) {m n : S55} (gm : Good fr a b c m) (gn : Good fr a b c n) : Good fr a b c (prodM a b c m n) :=
  ⟨⟨pm_mul h.1 gm.1.1 gn.1.1, keep_mul h.2.1 h.2.2.2.1 gm.1.2 gn.1.2⟩, red_idem h.2.1 h.2.2.2.1⟩
def unitMo : S55 := ⟨⟨1, 0, 0, 1⟩, ⟨0, 0⟩⟩
theorem unit_pm {fr : Int} (hf : 0 ≤ fr ∧ fr ≤ 1) : (1, 0, 0, 1) ∈ pmL fr := by
  rcases fr01 hf with rfl | rfl <;> decide +kernel
theorem Good.unit {fr a b c : Int} (h : FL fr a b c) : Good fr a b c unitMo := by
  obtain ⟨l1, l2, l3, l4, l5, l6, _⟩ := id h.2
  refine ⟨⟨unit_pm h.1, (red_inL l3 l1).2 ⟨0, by simp [unitMo], ⟨1, by simp [unitMo]⟩⟩, (red_inL l3 l1).2 ⟨1, by simp [unitMo], ⟨0, by simp [unitMo]⟩⟩⟩, ?_⟩
  show red a b c 0 0 = (0, 0)
  exact (red_inL l3 l1).2 ⟨0, by simp, ⟨0, by simp⟩⟩
theorem Ev.from {α : Type} {g f : Nat → Option α} {r : α} (n : Nat) (h : ∀ k, n ≤ k → g (k + 1) = f k) (e : Ev f r) : Ev g r := by
  obtain ⟨K, hK⟩ := e
  refine ⟨K + n + 1, fun k hk => ?_⟩
  obtain ⟨j, rfl⟩ : ∃ j, k = j + 1 := ⟨k - 1, by omega⟩
  rw [h j (by omega)]; exact hK j (by omega)
def Alike (fr a b c : Int) (x y : S55) : Prop := Good fr a b c x ∧ y.f0 = x.f0 ∧ IsV y.f1.f0 y.f1.f1 ∧ red a b c y.f1.f0 y.f1.f1 = (x.f1.f0, x.f1.f1)
theorem alike_self {fr a b c : Int} (h : FL fr a b c) {x : S55} (g : Good fr a b c x) : Alike fr a b c x x := by
  obtain ⟨-, h5, h6⟩ := g.small h
  exact ⟨g, rfl, ⟨by omega, by omega⟩, g.2⟩
inductive Gen (a b c : Int) (xs : List S55) : S55 → Prop
  | one : Gen a b c xs unitMo
  | mul {x z : S55} : x ∈ xs → Gen a b c xs z → Gen a b c xs (prodM a b c x z)
structure CInv (fr a b c : Int) (xs : List S55) (s q : List S55) : Prop where
  inc : Incr s
  same : ∀ z, z ∈ s ↔ z ∈ q
  nd : q.Nodup
  good : ∀ z ∈ q, Good fr a b c z
  one : unitMo ∈ q
  gen : ∀ z ∈ q, Gen a b c xs z
theorem CInv.len {fr a b c : Int} (h : FL fr a b c) {xs s q : List S55} (i : CInv fr a b c xs s q) : s.length ≤ 768 ∧ q.length ≤ 768 := by
  have h1 : s.length ≤ 768 := len_768 h s (fun j hj => i.good _ ((i.same _).1 (List.getElem_mem hj))) i.inc
  exact ⟨h1, Nat.le_trans (@pigeon _ (fun x y => Classical.propDecidable (x = y)) q s i.nd (fun z hz => (i.same z).2 hz)) h1⟩
theorem CInv.more {fr a b c : Int} (h : FL fr a b c) {xs s q s' : List S55} (i : CInv fr a b c xs s q) {x z : S55} (hx : x ∈ xs) (gx : Good fr a b c x) (hz : z ∈ q) (hn : prodM a b c x z ∉ q) (h1 : Incr s') (h2 : ∀ y, y ∈ s' ↔ y ∈ s ∨ y = prodM a b c x z) : CInv fr a b c xs s' (q ++ [prodM a b c x z]) where
  inc := h1
  same := fun y => by rw [h2, i.same, List.mem_append, List.mem_singleton]
  nd := by
    rw [List.nodup_append]
    refine ⟨i.nd, List.pairwise_singleton _ _, fun y hy w hw => ?_⟩
    rw [List.mem_singleton] at hw
    subst hw
    rintro rfl; exact hn hy
  good := fun y hy => by
    rcases List.mem_append.1 hy with hy | hy
    · exact i.good y hy
    · rw [List.mem_singleton.1 hy]; exact gx.mul h (i.good z hz)
  one := List.mem_append_left _ i.one
  gen := fun y hy => by
    rcases List.mem_append.1 hy with hy | hy
    · exact i.gen y hy
    · rw [List.mem_singleton.1 hy]; exact .mul hx (i.gen z hz)
structure Closed (fr a b c : Int) (xs r : List S55) : Prop where
  inc : Incr r
  good : ∀ z ∈ r, Good fr a b c z
  one : unitMo ∈ r
  mul : ∀ x ∈ xs, ∀ z ∈ r, prodM a b c x z ∈ r
  gen : ∀ z ∈ r, Gen a b c xs z
  len : r.length ≤ 768
theorem alike_comp {fr a b c : Int} (h : FL fr a b c) {x y q : S55} (hxy : Alike fr a b c x y) (gq : Good fr a b c q) :
    (∃ p : S55, spec_l05Compose.f x.f0.f0 x.f0.f1 x.f0.f2 x.f0.f3 x.f1.f0 x.f1.f1 q.f0.f0 q.f0.f1 q.f0.f2 q.f0.f3 q.f1.f0 q.f1.f1 = some (p.f0.f0, p.f0.f1, p.f0.f2, p.f0.f3, p.f1.f0, p.f1.f1) ∧ spec_l06Reduce.f a b c p.f0.f0 p.f0.f1 p.f0.f2 p.f0.f3 p.f1.f0 p.f1.f1 = some ((prodM a b c x q).f0.f0, (prodM a b c x q).f0.f1, (prodM a b c x q).f0.f2, (prodM a b c x q).f0.f3, (prodM a b c x q).f1.f0, (prodM a b c x q).f1.f1)) ∧
    ∃ p : S55, impl_Motion_times.f y.f0.f0 y.f0.f1 y.f0.f2 y.f0.f3 y.f1.f0 y.f1.f1 q.f0.f0 q.f0.f1 q.f0.f2 q.f0.f3 q.f1.f0 q.f1.f1 = some (p.f0.f0, p.f0.f1, p.f0.f2, p.f0.f3, p.f1.f0, p.f1.f1) ∧ impl_Lattice_reduceMotion.f a b c p.f0.f0 p.f0.f1 p.f0.f2 p.f0.f3 p.f1.f0 p.f1.f1 = some ((prodM a b c x q).f0.f0, (prodM a b c x q).f0.f1, (prodM a b c x q).f0.f2, (prodM a b c x q).f0.f3, (prodM a b c x q).f1.f0, (prodM a b c x q).f1.f1) := by
  obtain ⟨gx, e0, ⟨hv, hw⟩, er⟩ := hxy
  obtain ⟨l1, l2, l3, l4, l5, l6, _⟩ := id h.2
  obtain ⟨ce, ⟨c1, c2, c3, c4⟩, c5, c6⟩ := comp_eq h gx gq
  have hm : Mod4 a b c (comp x q).f1.f0 (comp x q).f1.f1 := h.2.mod4 (by omega) (by omega) (by omega) (by omega)
  refine ⟨⟨comp x q, by rw [comp_same]; exact ce, ?_⟩, comp y q, ?_, ?_⟩
  · unfold spec_l06Reduce.f
    rw [spec_reduce_eq hm]; rfl
  all_goals
    obtain ⟨⟨m0, m1, m2, m3⟩, -, -⟩ := gx.small h
    obtain ⟨⟨n0, n1, n2, n3⟩, ⟨n4, n4'⟩, n5, n5'⟩ := gq.small h
    obtain ⟨y0, y1⟩ := y
    dsimp only at e0 hv hw er
    subst e0
    have p1 := um (B := 1) m0 n0
    have p2 := um (B := 1) m1 n2
    have p3 := um (B := 1) m0 n1
    have p4 := um (B := 1) m1 n3
    have p5 := um (B := 1) m2 n0
    have p6 := um (B := 1) m3 n2
    have p7 := um (B := 1) m2 n1
    have p8 := um (B := 1) m3 n3
    have p9 := um (B := 64) (x := q.f1.f0) m0 (by omega)
    have p10 := um (B := 64) (x := q.f1.f1) m1 (by omega)
    have p11 := um (B := 64) (x := q.f1.f0) m2 (by omega)
    have p12 := um (B := 64) (x := q.f1.f1) m3 (by omega)
  · unfold impl_Motion_times.f impl_Mat_times.f impl_Mat_apply.f impl_Vec_add.f comp
    simp only [Option.bind_some]
    generalize x.f0.f0 * q.f0.f0 = q1 at *
    generalize x.f0.f1 * q.f0.f2 = q2 at *
    generalize x.f0.f0 * q.f0.f1 = q3 at *
    generalize x.f0.f1 * q.f0.f3 = q4 at *
    generalize x.f0.f2 * q.f0.f0 = q5 at *
    generalize x.f0.f3 * q.f0.f2 = q6 at *
    generalize x.f0.f2 * q.f0.f1 = q7 at *
    generalize x.f0.f3 * q.f0.f3 = q8 at *
    generalize x.f0.f0 * q.f1.f0 = q9 at *
    generalize x.f0.f1 * q.f1.f1 = q10 at *
    generalize x.f0.f2 * q.f1.f0 = q11 at *
    generalize x.f0.f3 * q.f1.f1 = q12 at *
    rw [w64s (x := q1) (by omega) (by omega), w64s (x := q2) (by omega) (by omega), w64s (x := q3) (by omega) (by omega), w64s (x := q4) (by omega) (by omega), w64s (x := q5) (by omega) (by omega), w64s (x := q6) (by omega) (by omega), w64s (x := q7) (by omega) (by omega), w64s (x := q8) (by omega) (by omega), w64s (x := q9) (by omega) (by omega), w64s (x := q10) (by omega) (by omega), w64s (x := q11) (by omega) (by omega), w64s (x := q12) (by omega) (by omega),
      w64s (x := q1 + q2) (by omega) (by omega), w64s (x := q3 + q4) (by omega) (by omega), w64s (x := q5 + q6) (by omega) (by omega), w64s (x := q7 + q8) (by omega) (by omega), w64s (x := q9 + q10) (by omega) (by omega), w64s (x := q11 + q12) (by omega) (by omega), w64s (x := q9 + q10 + y1.f0) (by omega) (by omega), w64s (x := q11 + q12 + y1.f1) (by omega) (by omega)]
  · have hm' : Mod4 a b c (comp ⟨x.f0, y1⟩ q).f1.f0 (comp ⟨x.f0, y1⟩ q).f1.f1 := by
      unfold comp
      exact h.2.mod4 (by dsimp only; omega) (by dsimp only; omega) (by dsimp only; omega) (by dsimp only; omega)
    have hr : red a b c (comp ⟨x.f0, y1⟩ q).f1.f0 (comp ⟨x.f0, y1⟩ q).f1.f1 = red a b c (comp x q).f1.f0 (comp x q).f1.f1 := by
      unfold comp
      dsimp only
      rw [red_add l1 l3, er]
    unfold impl_Lattice_reduceMotion.f
    rw [impl_reduce_eq hm', hr]; rfl
end Go.Proofs.Ytedmadofpdkekaa.LA
