/- Plain lemmas on closing a list of motions to a group: both sides find the same motions. -/
import Derived.Test.YtdodghjnlekgeaaAid
import Derived.Test.YtdodghjnlekgeaaPAx0
import Derived.Test.YtdodghjnlekgeaaLAABasic
import Derived.Test.YtdodghjnlekgeaaLAGLattice
import Derived.Test.YtdodghjnlekgeaaLAOHermite
import Derived.Test.YtdodghjnlekgeaaLAPPoints
import Derived.Test.YtdodghjnlekgeaaLAUOrder
import Derived.Test.YtdodghjnlekgeaaLAVGroup
import Derived.Test.YtdodghjnlekgeaaLAWIsgroup
import Derived.Test.YtdodghjnlekgeaaLAZfInsert
import Derived.Test.YtdodghjnlekgeaaPAx0
import Derived.Test.YtdodghjnlekgeaaPAx10
import Derived.Test.YtdodghjnlekgeaaPAx4
import Derived.Test.YtdodghjnlekgeaaPAx5
import Derived.Test.YtdodghjnlekgeaaPAx6
import Derived.Test.YtdodghjnlekgeaaPAx9
namespace Go.Proofs.Ytdodghjnlekgeaa.LA
open Go.RowKit Go.Proofs.Ytdodghjnlekgeaa.PA Go.Proofs.YtdodghjnlekgeaaW.PrintWords Go.Proofs.YtdodghjnlekgeaaW.PrintLast Go.Proofs.Ytdodghjnlekgeaa.Aid
set_option linter.unusedVariables false
set_option linter.unusedSimpArgs false

theorem red_cong {a b c x y x' y' : Int} (hc : 1 ≤ c) (h : inL a b c (x - x') (y - y')) : red a b c x y = red a b c x' y' := by
  obtain ⟨q, h1, k, h2⟩ := h
  obtain rfl : y = y' + q * c := by omega
  obtain rfl : x = x' + q * b + a * k := by omega
  unfold red
  have e1 : (y' + q * c) / c = y' / c + q := Int.add_mul_ediv_right _ _ (by omega)
  have e2 : (y' + q * c) % c = y' % c := Int.add_mul_emod_self_right _ _ _
  rw [e1, e2, Int.add_mul, show x' + q * b + a * k - (y' / c * b + q * b) = x' - y' / c * b + a * k by omega, Int.add_mul_emod_self_left]
theorem inL_add {a b c x y x' y' : Int} (h : inL a b c x y) (h' : inL a b c x' y') : inL a b c (x + x') (y + y') := by
  have := inL_sub (-1) h h'
  rwa [Int.neg_one_mul, Int.neg_one_mul, Int.sub_neg, Int.sub_neg] at this
theorem inL_mul {a b c x y : Int} (k : Int) (h : inL a b c x y) : inL a b c (k * x) (k * y) := by
  obtain ⟨q, h1, h2⟩ := h
  refine ⟨k * q, by rw [h1, Int.mul_assoc], ?_⟩
  rw [Int.mul_assoc, ← Int.mul_sub]
  exact Int.dvd_trans h2 (Int.dvd_mul_left k _)
/-- The parts of a sum may be reduced ahead of it. -/
theorem red_add {a b c x y u v : Int} (ha : 1 ≤ a) (hc : 1 ≤ c) : red a b c (x + u) (y + v) = red a b c (x + (red a b c u v).1) (y + (red a b c u v).2) := by
  refine red_cong hc ?_
  have := red_diff (a := a) (b := b) (c := c) (x := u) (y := v) ha hc
  rwa [show x + u - (x + (red a b c u v).1) = u - (red a b c u v).1 by omega, show y + v - (y + (red a b c u v).2) = v - (red a b c u v).2 by omega]
theorem red_idem {a b c x y : Int} (ha : 1 ≤ a) (hc : 1 ≤ c) : red a b c (red a b c x y).1 (red a b c x y).2 = red a b c x y := by
  have := red_diff (a := a) (b := b) (c := c) (x := x) (y := y) ha hc
  exact (red_cong hc this).symm
/-- A matrix that keeps a lattice takes its vectors to its vectors. -/
theorem keep_apply {a b c : Int} {m : Int × Int × Int × Int} (ha : 1 ≤ a) (hc : 1 ≤ c) (h : KeepL a b c m) {x y : Int} (hv : inL a b c x y) : inL a b c (m.1 * x + m.2.1 * y) (m.2.2.1 * x + m.2.2.2 * y) := by
  obtain ⟨q, h1, k, h2⟩ := hv
  have k1 := (red_inL hc ha).1 h.1
  have k2 := (red_inL hc ha).1 h.2
  have := inL_add (inL_mul k k1) (inL_mul q k2)
  obtain rfl : x = q * b + a * k := by omega
  subst h1
  have e1 : m.1 * (q * b + a * k) + m.2.1 * (q * c) = k * (m.1 * a) + q * (m.1 * b + m.2.1 * c) := by
    rw [Int.mul_add, Int.mul_add, Int.mul_left_comm m.1 q b, Int.mul_left_comm m.2.1 q c, Int.mul_comm k, Int.mul_assoc]; omega
  have e2 : m.2.2.1 * (q * b + a * k) + m.2.2.2 * (q * c) = k * (m.2.2.1 * a) + q * (m.2.2.1 * b + m.2.2.2 * c) := by
    rw [Int.mul_add, Int.mul_add, Int.mul_left_comm m.2.2.1 q b, Int.mul_left_comm m.2.2.2 q c, Int.mul_comm k, Int.mul_assoc]; omega
  rw [e1, e2]; exact this
def mulM (m n : Int × Int × Int × Int) : Int × Int × Int × Int := (m.1 * n.1 + m.2.1 * n.2.2.1, m.1 * n.2.1 + m.2.1 * n.2.2.2, m.2.2.1 * n.1 + m.2.2.2 * n.2.2.1, m.2.2.1 * n.2.1 + m.2.2.2 * n.2.2.2)
theorem pm_mul0 : ∀ m ∈ pmL 0, ∀ n ∈ pmL 0, mulM m n ∈ pmL 0 := by decide +kernel
theorem pm_mul1 : ∀ m ∈ pmL 1, ∀ n ∈ pmL 1, mulM m n ∈ pmL 1 := by decide +kernel
theorem pm_mul {fr : Int} (hf : 0 ≤ fr ∧ fr ≤ 1) {m n : Int × Int × Int × Int} (h : m ∈ pmL fr) (g : n ∈ pmL fr) : mulM m n ∈ pmL fr := by
  rcases fr01 hf with rfl | rfl
  · exact pm_mul0 m h n g
  · exact pm_mul1 m h n g
theorem keep_mul {a b c : Int} {m n : Int × Int × Int × Int} (ha : 1 ≤ a) (hc : 1 ≤ c) (h : KeepL a b c m) (g : KeepL a b c n) : KeepL a b c (mulM m n) := by
  have k1 := keep_apply ha hc h ((red_inL hc ha).1 g.1)
  have k2 := keep_apply ha hc h ((red_inL hc ha).1 g.2)
  refine ⟨(red_inL hc ha).2 ?_, (red_inL hc ha).2 ?_⟩
  · have e1 : m.1 * (n.1 * a) + m.2.1 * (n.2.2.1 * a) = (mulM m n).1 * a := by unfold mulM; rw [Int.add_mul, Int.mul_assoc, Int.mul_assoc]
    have e2 : m.2.2.1 * (n.1 * a) + m.2.2.2 * (n.2.2.1 * a) = (mulM m n).2.2.1 * a := by unfold mulM; rw [Int.add_mul, Int.mul_assoc, Int.mul_assoc]
    rw [e1, e2] at k1; exact k1
  · have e1 : m.1 * (n.1 * b + n.2.1 * c) + m.2.1 * (n.2.2.1 * b + n.2.2.2 * c) = (mulM m n).1 * b + (mulM m n).2.1 * c := by unfold mulM; simp only [Int.add_mul, Int.mul_add, Int.mul_assoc]; omega
    have e2 : m.2.2.1 * (n.1 * b + n.2.1 * c) + m.2.2.2 * (n.2.2.1 * b + n.2.2.2 * c) = (mulM m n).2.2.1 * b + (mulM m n).2.2.2 * c := by unfold mulM; simp only [Int.add_mul, Int.mul_add, Int.mul_assoc]; omega
    rw [e1, e2] at k2; exact k2
theorem Good.mul {fr a b c : Int} (h : FL fr a b c) {m n : S41} (gm : Good fr a b c m) (gn : Good fr a b c n) : Good fr a b c (prodM a b c m n) :=
  ⟨⟨pm_mul h.1 gm.1.1 gn.1.1, keep_mul h.2.1 h.2.2.2.1 gm.1.2 gn.1.2⟩, red_idem h.2.1 h.2.2.2.1⟩
/-- The identity. -/
def unitMo : S41 := ⟨⟨1, 0, 0, 1⟩, ⟨0, 0⟩⟩
theorem unit_pm {fr : Int} (hf : 0 ≤ fr ∧ fr ≤ 1) : (1, 0, 0, 1) ∈ pmL fr := by
  rcases fr01 hf with rfl | rfl <;> decide +kernel
theorem Good.unit {fr a b c : Int} (h : FL fr a b c) : Good fr a b c unitMo := by
  obtain ⟨l1, l2, l3, l4, l5, l6, _⟩ := id h.2
  refine ⟨⟨unit_pm h.1, (red_inL l3 l1).2 ⟨0, by simp [unitMo], ⟨1, by simp [unitMo]⟩⟩, (red_inL l3 l1).2 ⟨1, by simp [unitMo], ⟨0, by simp [unitMo]⟩⟩⟩, ?_⟩
  show red a b c 0 0 = (0, 0)
  exact (red_inL l3 l1).2 ⟨0, by simp, ⟨0, by simp⟩⟩
theorem Ev.from {α : Type} {g f : Nat → Option α} {r : α} (n : Nat) (h : ∀ k, n ≤ k → g (k + 1) = f k) (e : Ev f r) : Ev g r := by
  obtain ⟨K, hK⟩ := e
  refine ⟨K + n + 1, fun k hk => ?_⟩
  obtain ⟨j, rfl⟩ : ∃ j, k = j + 1 := ⟨k - 1, by omega⟩
  rw [h j (by omega)]; exact hK j (by omega)
/-- A motion of the list that the program closes, beside the reduced one that the reference closes. -/
def Alike (fr a b c : Int) (x y : S41) : Prop := Good fr a b c x ∧ y.f0 = x.f0 ∧ IsV y.f1.f0 y.f1.f1 ∧ red a b c y.f1.f0 y.f1.f1 = (x.f1.f0, x.f1.f1)
theorem alike_self {fr a b c : Int} (h : FL fr a b c) {x : S41} (g : Good fr a b c x) : Alike fr a b c x x := by
  obtain ⟨-, h5, h6⟩ := g.small h
  exact ⟨g, rfl, ⟨by omega, by omega⟩, g.2⟩
/-- What arises from a list: the identity, and a product of a motion of the list and what arises. -/
inductive Gen (a b c : Int) (xs : List S41) : S41 → Prop
  | one : Gen a b c xs unitMo
  | mul {x z : S41} : x ∈ xs → Gen a b c xs z → Gen a b c xs (prodM a b c x z)
/-- What closing keeps. -/
structure CInv (fr a b c : Int) (xs : List S41) (s q : List S41) : Prop where
  inc : Incr s
  same : ∀ z, z ∈ s ↔ z ∈ q
  nd : q.Nodup
  good : ∀ z ∈ q, Good fr a b c z
  one : unitMo ∈ q
  gen : ∀ z ∈ q, Gen a b c xs z
theorem CInv.len {fr a b c : Int} (h : FL fr a b c) {xs s q : List S41} (i : CInv fr a b c xs s q) : s.length ≤ 768 ∧ q.length ≤ 768 := by
  have h1 : s.length ≤ 768 := len_768 h s (fun j hj => i.good _ ((i.same _).1 (List.getElem_mem hj))) i.inc
  exact ⟨h1, Nat.le_trans (@pigeon _ (fun x y => Classical.propDecidable (x = y)) q s i.nd (fun z hz => (i.same z).2 hz)) h1⟩
theorem CInv.more {fr a b c : Int} (h : FL fr a b c) {xs s q s' : List S41} (i : CInv fr a b c xs s q) {x z : S41} (hx : x ∈ xs) (gx : Good fr a b c x) (hz : z ∈ q) (hn : prodM a b c x z ∉ q) (h1 : Incr s') (h2 : ∀ y, y ∈ s' ↔ y ∈ s ∨ y = prodM a b c x z) : CInv fr a b c xs s' (q ++ [prodM a b c x z]) where
  inc := h1
  same := fun y => by rw [h2, i.same, List.mem_append, List.mem_singleton]
  nd := by
    rw [List.nodup_append]
    refine ⟨i.nd, List.pairwise_singleton _ _, fun y hy w hw => ?_⟩
    rw [List.mem_singleton] at hw
    subst hw
    rintro rfl; exact hn hy
  good := fun y hy => by
    rcases List.mem_append.1 hy with hy | hy
    · exact i.good y hy
    · rw [List.mem_singleton.1 hy]; exact gx.mul h (i.good z hz)
  one := List.mem_append_left _ i.one
  gen := fun y hy => by
    rcases List.mem_append.1 hy with hy | hy
    · exact i.gen y hy
    · rw [List.mem_singleton.1 hy]; exact .mul hx (i.gen z hz)
/-- What a closed list is. -/
structure Closed (fr a b c : Int) (xs r : List S41) : Prop where
  inc : Incr r
  good : ∀ z ∈ r, Good fr a b c z
  one : unitMo ∈ r
  mul : ∀ x ∈ xs, ∀ z ∈ r, prodM a b c x z ∈ r
  gen : ∀ z ∈ r, Gen a b c xs z
  len : r.length ≤ 768
theorem alike_comp {fr a b c : Int} (h : FL fr a b c) {x y q : S41} (hxy : Alike fr a b c x y) (gq : Good fr a b c q) :
    (∃ p : S41, spec_l05Compose.f x.f0.f0 x.f0.f1 x.f0.f2 x.f0.f3 x.f1.f0 x.f1.f1 q.f0.f0 q.f0.f1 q.f0.f2 q.f0.f3 q.f1.f0 q.f1.f1 = some (p.f0.f0, p.f0.f1, p.f0.f2, p.f0.f3, p.f1.f0, p.f1.f1) ∧ spec_l06Reduce.f a b c p.f0.f0 p.f0.f1 p.f0.f2 p.f0.f3 p.f1.f0 p.f1.f1 = some ((prodM a b c x q).f0.f0, (prodM a b c x q).f0.f1, (prodM a b c x q).f0.f2, (prodM a b c x q).f0.f3, (prodM a b c x q).f1.f0, (prodM a b c x q).f1.f1)) ∧
    ∃ p : S41, impl_Motion_times.f y.f0.f0 y.f0.f1 y.f0.f2 y.f0.f3 y.f1.f0 y.f1.f1 q.f0.f0 q.f0.f1 q.f0.f2 q.f0.f3 q.f1.f0 q.f1.f1 = some (p.f0.f0, p.f0.f1, p.f0.f2, p.f0.f3, p.f1.f0, p.f1.f1) ∧ impl_Lattice_reduceMotion.f a b c p.f0.f0 p.f0.f1 p.f0.f2 p.f0.f3 p.f1.f0 p.f1.f1 = some ((prodM a b c x q).f0.f0, (prodM a b c x q).f0.f1, (prodM a b c x q).f0.f2, (prodM a b c x q).f0.f3, (prodM a b c x q).f1.f0, (prodM a b c x q).f1.f1) := by
  obtain ⟨gx, e0, ⟨hv, hw⟩, er⟩ := hxy
  obtain ⟨l1, l2, l3, l4, l5, l6, _⟩ := id h.2
  obtain ⟨ce, ⟨c1, c2, c3, c4⟩, c5, c6⟩ := comp_eq h gx gq
  have hm : Mod4 a b c (comp x q).f1.f0 (comp x q).f1.f1 := h.2.mod4 (by omega) (by omega) (by omega) (by omega)
  refine ⟨⟨comp x q, by rw [comp_same]; exact ce, ?_⟩, comp y q, ?_, ?_⟩
  · unfold spec_l06Reduce.f
    rw [spec_reduce_eq hm]; rfl
  all_goals
    obtain ⟨⟨m0, m1, m2, m3⟩, -, -⟩ := gx.small h
    obtain ⟨⟨n0, n1, n2, n3⟩, ⟨n4, n4'⟩, n5, n5'⟩ := gq.small h
    obtain ⟨y0, y1⟩ := y
    dsimp only at e0 hv hw er
    subst e0
    have p1 := um (B := 1) m0 n0
    have p2 := um (B := 1) m1 n2
    have p3 := um (B := 1) m0 n1
    have p4 := um (B := 1) m1 n3
    have p5 := um (B := 1) m2 n0
    have p6 := um (B := 1) m3 n2
    have p7 := um (B := 1) m2 n1
    have p8 := um (B := 1) m3 n3
    have p9 := um (B := 64) (x := q.f1.f0) m0 (by omega)
    have p10 := um (B := 64) (x := q.f1.f1) m1 (by omega)
    have p11 := um (B := 64) (x := q.f1.f0) m2 (by omega)
    have p12 := um (B := 64) (x := q.f1.f1) m3 (by omega)
  · unfold impl_Motion_times.f impl_Mat_times.f impl_Mat_apply.f impl_Vec_add.f comp
    simp only [Option.bind_some]
    generalize x.f0.f0 * q.f0.f0 = q1 at *
    generalize x.f0.f1 * q.f0.f2 = q2 at *
    generalize x.f0.f0 * q.f0.f1 = q3 at *
    generalize x.f0.f1 * q.f0.f3 = q4 at *
    generalize x.f0.f2 * q.f0.f0 = q5 at *
    generalize x.f0.f3 * q.f0.f2 = q6 at *
    generalize x.f0.f2 * q.f0.f1 = q7 at *
    generalize x.f0.f3 * q.f0.f3 = q8 at *
    generalize x.f0.f0 * q.f1.f0 = q9 at *
    generalize x.f0.f1 * q.f1.f1 = q10 at *
    generalize x.f0.f2 * q.f1.f0 = q11 at *
    generalize x.f0.f3 * q.f1.f1 = q12 at *
    rw [w64s (x := q1) (by omega) (by omega), w64s (x := q2) (by omega) (by omega), w64s (x := q3) (by omega) (by omega), w64s (x := q4) (by omega) (by omega), w64s (x := q5) (by omega) (by omega), w64s (x := q6) (by omega) (by omega), w64s (x := q7) (by omega) (by omega), w64s (x := q8) (by omega) (by omega), w64s (x := q9) (by omega) (by omega), w64s (x := q10) (by omega) (by omega), w64s (x := q11) (by omega) (by omega), w64s (x := q12) (by omega) (by omega),
      w64s (x := q1 + q2) (by omega) (by omega), w64s (x := q3 + q4) (by omega) (by omega), w64s (x := q5 + q6) (by omega) (by omega), w64s (x := q7 + q8) (by omega) (by omega), w64s (x := q9 + q10) (by omega) (by omega), w64s (x := q11 + q12) (by omega) (by omega), w64s (x := q9 + q10 + y1.f0) (by omega) (by omega), w64s (x := q11 + q12 + y1.f1) (by omega) (by omega)]
  · have hm' : Mod4 a b c (comp ⟨x.f0, y1⟩ q).f1.f0 (comp ⟨x.f0, y1⟩ q).f1.f1 := by
      unfold comp
      exact h.2.mod4 (by dsimp only; omega) (by dsimp only; omega) (by dsimp only; omega) (by dsimp only; omega)
    have hr : red a b c (comp ⟨x.f0, y1⟩ q).f1.f0 (comp ⟨x.f0, y1⟩ q).f1.f1 = red a b c (comp x q).f1.f0 (comp x q).f1.f1 := by
      unfold comp
      dsimp only
      rw [red_add l1 l3, er]
    unfold impl_Lattice_reduceMotion.f
    rw [impl_reduce_eq hm', hr]; rfl
theorem close_row {fr a b c : Int} (h : FL fr a b c) (xs ys : List S41) (hx : (xs.length : Int) ≤ 1048576) (hl : ys.length = xs.length) (hxy : ∀ j (hj : j < xs.length), Alike fr a b c xs[j] (ys[j]'(by omega))) (at_ : Nat)
    (cont : ∀ s q, CInv fr a b c xs s q → at_ < q.length → (∀ j (hj : j < q.length), j < at_ + 1 → ∀ x ∈ xs, prodM a b c x q[j] ∈ q) → ∃ r, Ev (fun k => spec_l06Close.l0 k xs s q ((at_ + 1 : Nat) : Int) a b c) r ∧ Ev (fun k => impl_closeGroup.l0 k ys q q ((at_ + 1 : Nat) : Int) a b c) r ∧ Closed fr a b c xs r) (d : Nat) :
    ∀ (i : Nat) (s q : List S41), i ≤ xs.length → xs.length - i = d → CInv fr a b c xs s q → (hat : at_ < q.length) → (∀ j (hj : j < q.length), j < at_ → ∀ x ∈ xs, prodM a b c x q[j] ∈ q) → (∀ j (hj : j < xs.length), j < i → prodM a b c xs[j] q[at_] ∈ q) →
      ∃ r, Ev (fun k => spec_l06Close.l1 k xs s q (at_ : Int) (i : Int) a b c) r ∧ Ev (fun k => impl_closeGroup.l1 k ys q q (at_ : Int) ys (ys.length : Int) (i : Int) a b c) r ∧ Closed fr a b c xs r := by
  induction d with
  | zero =>
    intro i s q hi hd hI hat h1 h2
    have hlen := hI.len h
    have hw : wrap64 ((at_ : Int) + 1) = ((at_ + 1 : Nat) : Int) := by rw [w64s (by omega) (by omega)]; omega
    obtain ⟨r, r1, r2, r3⟩ := cont s q hI hat (fun j hj hja x hx => by
      by_cases e : j = at_
      · subst e
        obtain ⟨n, hn, rfl⟩ := List.getElem_of_mem hx
        exact h2 n hn (by omega)
      · exact h1 j hj (by omega) x hx)
    refine ⟨r, Ev.step (fun k => ?_) r1, Ev.step (fun k => ?_) r2, r3⟩
    · simp only [spec_l06Close.l1]; rw [if_neg (by omega), hw]
    · simp only [impl_closeGroup.l1]; rw [if_neg (by omega), hw]
  | succ d ih =>
    intro i s q hi hd hI hat h1 h2
    have hlen := hI.len h
    have hi1 : i < xs.length := by omega
    have hi2 : i < ys.length := by omega
    have hw : wrap64 ((i : Int) + 1) = ((i + 1 : Nat) : Int) := by rw [w64s (by omega) (by omega)]; omega
    have gx := (hxy i hi1).1
    have gq := hI.good _ (List.getElem_mem hat)
    obtain ⟨⟨p, s1, s2⟩, p', t1, t2⟩ := alike_comp h (hxy i hi1) gq
    have hwf := (gx.mul h gq).wf h
    have hh := fun k hk => spec_has6_eq s (by omega) hI.inc (prodM a b c xs[i] q[at_]) k hk
    have hany : (s.any fun x => mapMo.eqB x (prodM a b c xs[i] q[at_])) = (q.any fun x => mapMo.eqB x (prodM a b c xs[i] q[at_])) := by
      rw [Bool.eq_iff_iff, any_eqB, any_eqB]; exact hI.same _
    obtain ⟨n1, n2, n3, n4⟩ := ins_incr s (by omega) hI.inc (prodM a b c xs[i] q[at_])
    by_cases hin : prodM a b c xs[i] q[at_] ∈ q
    · have hany2 : (q.any fun x => mapMo.eqB x (prodM a b c xs[i] q[at_])) = true := (any_eqB _ _).2 hin
      obtain ⟨r, r1, r2, r3⟩ := ih (i + 1) s q (by omega) (by omega) hI hat h1 (fun j hj hji => by
        by_cases e : j = i
        · subst e; exact hin
        · exact h2 j hj (by omega))
      refine ⟨r, Ev.from 2000000 (fun k hk => ?_) r1, Ev.step (fun k => ?_) r2, r3⟩
      · have e := hh k hk
        rw [hany, hany2] at e
        simp only [spec_l06Close.l1]
        rw [if_pos (by omega), if_pos (by omega), if_pos (by omega), if_pos (by omega), rd_mo _ _ hi1, rd_mo _ _ hat, s1]
        simp only [Option.bind_some, s2, e, if_true, hw]
      · simp only [impl_closeGroup.l1]
        rw [if_pos (by omega), if_pos (by omega), if_pos (by omega), if_pos (by omega), if_pos (by omega), rd_mo _ _ hi2, rd_mo _ _ hat, t1]
        simp only [Option.bind_some, t2, mapMo.has, hwf, if_true, hw, hany2]
    · have hany2 : (q.any fun x => mapMo.eqB x (prodM a b c xs[i] q[at_])) = false := Bool.eq_false_iff.2 (fun g => hin ((any_eqB _ _).1 g))
      have hI' : CInv fr a b c xs (spec_l06Insert.ins s (prodM a b c xs[i] q[at_])) (q ++ [prodM a b c xs[i] q[at_]]) := hI.more h (List.getElem_mem hi1) gx (List.getElem_mem hat) hin n2 n3
      have hat' : at_ < (q ++ [prodM a b c xs[i] q[at_]]).length := by simp; omega
      have hq : (q ++ [prodM a b c xs[i] q[at_]])[at_] = q[at_] := List.getElem_append_left hat
      obtain ⟨r, r1, r2, r3⟩ := ih (i + 1) _ _ (by omega) (by omega) hI' hat' (fun j hj hja x hx => by
        have hj' : j < q.length := by omega
        rw [List.getElem_append_left hj']
        exact List.mem_append_left _ (h1 j hj' hja x hx)) (fun j hj hji => by
        rw [hq]
        by_cases e : j = i
        · subst e; exact List.mem_append_right _ (List.mem_singleton.2 rfl)
        · exact List.mem_append_left _ (h2 j hj (by omega)))
      refine ⟨r, Ev.from 2000000 (fun k hk => ?_) r1, Ev.step (fun k => ?_) r2, r3⟩
      · have e := hh k hk
        rw [hany, hany2] at e
        simp only [spec_l06Close.l1]
        rw [if_pos (by omega), if_pos (by omega), if_pos (by omega), if_pos (by omega), rd_mo _ _ hi1, rd_mo _ _ hat, s1]
        simp only [Option.bind_some, s2, e, Bool.false_eq_true, if_false, hw]
        rw [if_pos ⟨by omega, n1⟩, if_pos (by omega)]
      · simp only [impl_closeGroup.l1]
        rw [if_pos (by omega), if_pos (by omega), if_pos (by omega), if_pos (by omega), if_pos (by omega), rd_mo _ _ hi2, rd_mo _ _ hat, t1]
        simp only [Option.bind_some, t2, mapMo.has, hwf, if_true, hw, hany2, Bool.false_eq_true, if_false]
        rw [if_pos ⟨by omega, trivial⟩, if_pos (by omega)]
theorem close_loop {fr a b c : Int} (h : FL fr a b c) (xs ys : List S41) (hx : (xs.length : Int) ≤ 1048576) (hl : ys.length = xs.length) (hxy : ∀ j (hj : j < xs.length), Alike fr a b c xs[j] (ys[j]'(by omega))) (d : Nat) :
    ∀ (at_ : Nat) (s q : List S41), 768 - at_ = d → CInv fr a b c xs s q → at_ ≤ q.length → (∀ j (hj : j < q.length), j < at_ → ∀ x ∈ xs, prodM a b c x q[j] ∈ q) →
      ∃ r, Ev (fun k => spec_l06Close.l0 k xs s q (at_ : Int) a b c) r ∧ Ev (fun k => impl_closeGroup.l0 k ys q q (at_ : Int) a b c) r ∧ Closed fr a b c xs r := by
  have fin : ∀ (at_ : Nat) (s q : List S41), CInv fr a b c xs s q → at_ = q.length → (∀ j (hj : j < q.length), j < at_ → ∀ x ∈ xs, prodM a b c x q[j] ∈ q) →
      ∃ r, Ev (fun k => spec_l06Close.l0 k xs s q (at_ : Int) a b c) r ∧ Ev (fun k => impl_closeGroup.l0 k ys q q (at_ : Int) a b c) r ∧ Closed fr a b c xs r := by
    intro at_ s q hI hat h1
    have hlen := hI.len h
    have hs : s = impl_Motion.srtMo q := incr_ext hI.inc (srt_incr _ hI.nd) (fun z => by rw [srt_mem, hI.same])
    refine ⟨s, Ev.one (fun k => ?_), Ev.one (fun k => ?_), ⟨hI.inc, fun z hz => hI.good z ((hI.same z).1 hz), (hI.same _).2 hI.one, fun x hx z hz => ?_, fun z hz => hI.gen z ((hI.same z).1 hz), hlen.1⟩⟩
    · simp only [spec_l06Close.l0]; rw [if_neg (by omega)]
    · simp only [impl_closeGroup.l0]; rw [if_neg (by omega), if_pos (by omega), ← hs]
    · obtain ⟨n, hn, rfl⟩ := List.getElem_of_mem ((hI.same z).1 hz)
      exact (hI.same _).2 (h1 n hn (by omega) x hx)
  induction d with
  | zero =>
    intro at_ s q hd hI hat h1
    have hlen := hI.len h
    exact fin at_ s q hI (by omega) h1
  | succ d ih =>
    intro at_ s q hd hI hat h1
    have hlen := hI.len h
    by_cases e : at_ = q.length
    · exact fin at_ s q hI e h1
    · obtain ⟨r, r1, r2, r3⟩ := close_row h xs ys hx hl hxy at_ (fun s q hI hat h1 => ih (at_ + 1) s q (by omega) hI (by omega) h1) xs.length 0 s q (by omega) (by omega) hI (by omega) h1 (fun j hj hj0 => by omega)
      refine ⟨r, Ev.step (fun k => ?_) r1, Ev.step (fun k => ?_) r2, r3⟩
      · simp only [spec_l06Close.l0]; rw [if_pos (by omega)]; rfl
      · simp only [impl_closeGroup.l0]; rw [if_pos (by omega)]; rfl
/-- Closing a list: both sides give one list, which is closed. -/
theorem close_both {fr a b c : Int} (h : FL fr a b c) (xs ys : List S41) (hx : (xs.length : Int) ≤ 1048576) (hl : ys.length = xs.length) (hxy : ∀ j (hj : j < xs.length), Alike fr a b c xs[j] (ys[j]'(by omega))) :
    ∃ r, Ev (fun k => spec_l06Close.f k a b c xs) r ∧ Ev (fun k => impl_closeGroup.f k a b c ys) r ∧ Closed fr a b c xs r := by
  obtain ⟨r, r1, r2, r3⟩ := close_loop h xs ys hx hl hxy 768 0 [unitMo] [unitMo] rfl ⟨fun i j hi hj hij => by simp at hi hj; omega, fun z => Iff.rfl, List.pairwise_singleton _ _, fun z hz => by rw [List.mem_singleton.1 hz]; exact Good.unit h, List.mem_singleton.2 rfl, fun z hz => by rw [List.mem_singleton.1 hz]; exact .one⟩ (by simp) (fun j hj h0 => by omega)
  refine ⟨r, r1, ?_, r3⟩
  obtain ⟨K, hK⟩ := r2
  have hK : ∀ k, K ≤ k → impl_closeGroup.l0 k ys [unitMo] [unitMo] 0 a b c = some r := hK
  refine ⟨K, fun k hk => ?_⟩
  show impl_closeGroup.f k a b c ys = _
  have hwf := (Good.unit h).wf h
  have e : impl_closeGroup.f k a b c ys = if 0 < (([unitMo] : List S41).length : Int) then (if ([] : List S41).length < 2932031007402 ∧ mapMo.wf unitMo = true then impl_closeGroup.l0 k ys [unitMo] [unitMo] 0 a b c else none) else none := rfl
  rw [e, if_pos (by decide), if_pos ⟨by decide, hwf⟩]
  exact hK k hk

end Go.Proofs.Ytdodghjnlekgeaa.LA
