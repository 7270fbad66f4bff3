/- Plain lemmas on closing a list of motions to a group: both sides find the same motions. -/
import Derived.Test.YtfmjboloeabjmaaAid
import Derived.Test.YtfmjboloeabjmaaPAx0
import Derived.Test.YtfmjboloeabjmaaLAABasic
import Derived.Test.YtfmjboloeabjmaaLAGLattice
import Derived.Test.YtfmjboloeabjmaaLAOHermite
import Derived.Test.YtfmjboloeabjmaaLAPPoints
import Derived.Test.YtfmjboloeabjmaaLAUOrder
import Derived.Test.YtfmjboloeabjmaaLAVGroup
import Derived.Test.YtfmjboloeabjmaaLAWIsgroup
import Derived.Test.YtfmjboloeabjmaaPAx0
import Derived.Test.YtfmjboloeabjmaaPAx12
import Derived.Test.YtfmjboloeabjmaaPAx14
import Derived.Test.YtfmjboloeabjmaaPAx7
namespace Go.Proofs.Ytfmjboloeabjmaa.LA
open Go.RowKit Go.Proofs.Ytfmjboloeabjmaa.PA Go.Proofs.YtfmjboloeabjmaaW.PrintWords Go.Proofs.YtfmjboloeabjmaaW.PrintLast Go.Proofs.Ytfmjboloeabjmaa.Aid
set_option linter.unusedVariables false
set_option linter.unusedSimpArgs false

theorem red_cong {a b c x y x' y' : Int} (hc : 1 ≤ c) (h : inL a b c (x - x') (y - y')) : red a b c x y = red a b c x' y' := by
  obtain ⟨q, h1, k, h2⟩ := h
  obtain rfl : y = y' + q * c := by omega
  obtain rfl : x = x' + q * b + a * k := by omega
  unfold red
  have e1 : (y' + q * c) / c = y' / c + q := Int.add_mul_ediv_right _ _ (by omega)
  have e2 : (y' + q * c) % c = y' % c := Int.add_mul_emod_self_right _ _ _
  rw [e1, e2, Int.add_mul, show x' + q * b + a * k - (y' / c * b + q * b) = x' - y' / c * b + a * k by omega, Int.add_mul_emod_self_left]
theorem inL_add {a b c x y x' y' : Int} (h : inL a b c x y) (h' : inL a b c x' y') : inL a b c (x + x') (y + y') := by
  have := inL_sub (-1) h h'
  rwa [Int.neg_one_mul, Int.neg_one_mul, Int.sub_neg, Int.sub_neg] at this
theorem inL_mul {a b c x y : Int} (k : Int) (h : inL a b c x y) : inL a b c (k * x) (k * y) := by
  obtain ⟨q, h1, h2⟩ := h
  refine ⟨k * q, by rw [h1, Int.mul_assoc], ?_⟩
  rw [Int.mul_assoc, ← Int.mul_sub]
  exact Int.dvd_trans h2 (Int.dvd_mul_left k _)
theorem red_idem {a b c x y : Int} (ha : 1 ≤ a) (hc : 1 ≤ c) : red a b c (red a b c x y).1 (red a b c x y).2 = red a b c x y := by
  have := red_diff (a := a) (b := b) (c := c) (x := x) (y := y) ha hc
  exact (red_cong hc this).symm
/-- A matrix that keeps a lattice takes its vectors to its vectors. -/
theorem keep_apply {a b c : Int} {m : Int × Int × Int × Int} (ha : 1 ≤ a) (hc : 1 ≤ c) (h : KeepL a b c m) {x y : Int} (hv : inL a b c x y) : inL a b c (m.1 * x + m.2.1 * y) (m.2.2.1 * x + m.2.2.2 * y) := by
  obtain ⟨q, h1, k, h2⟩ := hv
  have k1 := (red_inL hc ha).1 h.1
  have k2 := (red_inL hc ha).1 h.2
  have := inL_add (inL_mul k k1) (inL_mul q k2)
  obtain rfl : x = q * b + a * k := by omega
  subst h1
  have e1 : m.1 * (q * b + a * k) + m.2.1 * (q * c) = k * (m.1 * a) + q * (m.1 * b + m.2.1 * c) := by
    rw [Int.mul_add, Int.mul_add, Int.mul_left_comm m.1 q b, Int.mul_left_comm m.2.1 q c, Int.mul_comm k, Int.mul_assoc]; omega
  have e2 : m.2.2.1 * (q * b + a * k) + m.2.2.2 * (q * c) = k * (m.2.2.1 * a) + q * (m.2.2.1 * b + m.2.2.2 * c) := by
    rw [Int.mul_add, Int.mul_add, Int.mul_left_comm m.2.2.1 q b, Int.mul_left_comm m.2.2.2 q c, Int.mul_comm k, Int.mul_assoc]; omega
  rw [e1, e2]; exact this
def mulM (m n : Int × Int × Int × Int) : Int × Int × Int × Int := (m.1 * n.1 + m.2.1 * n.2.2.1, m.1 * n.2.1 + m.2.1 * n.2.2.2, m.2.2.1 * n.1 + m.2.2.2 * n.2.2.1, m.2.2.1 * n.2.1 + m.2.2.2 * n.2.2.2)
theorem pm_mul0 : ∀ m ∈ pmL 0, ∀ n ∈ pmL 0, mulM m n ∈ pmL 0 := by decide +kernel
theorem pm_mul1 : ∀ m ∈ pmL 1, ∀ n ∈ pmL 1, mulM m n ∈ pmL 1 := by decide +kernel
theorem pm_mul {fr : Int} (hf : 0 ≤ fr ∧ fr ≤ 1) {m n : Int × Int × Int × Int} (h : m ∈ pmL fr) (g : n ∈ pmL fr) : mulM m n ∈ pmL fr := by
  rcases fr01 hf with rfl | rfl
  · exact pm_mul0 m h n g
  · exact pm_mul1 m h n g
theorem keep_mul {a b c : Int} {m n : Int × Int × Int × Int} (ha : 1 ≤ a) (hc : 1 ≤ c) (h : KeepL a b c m) (g : KeepL a b c n) : KeepL a b c (mulM m n) := by
  have k1 := keep_apply ha hc h ((red_inL hc ha).1 g.1)
  have k2 := keep_apply ha hc h ((red_inL hc ha).1 g.2)
  refine ⟨(red_inL hc ha).2 ?_, (red_inL hc ha).2 ?_⟩
  · have e1 : m.1 * (n.1 * a) + m.2.1 * (n.2.2.1 * a) = (mulM m n).1 * a := by unfold mulM; rw [Int.add_mul, Int.mul_assoc, Int.mul_assoc]
    have e2 : m.2.2.1 * (n.1 * a) + m.2.2.2 * (n.2.2.1 * a) = (mulM m n).2.2.1 * a := by unfold mulM; rw [Int.add_mul, Int.mul_assoc, Int.mul_assoc]
    rw [e1, e2] at k1; exact k1
  · have e1 : m.1 * (n.1 * b + n.2.1 * c) + m.2.1 * (n.2.2.1 * b + n.2.2.2 * c) = (mulM m n).1 * b + (mulM m n).2.1 * c := by unfold mulM; simp only [Int.add_mul, Int.mul_add, Int.mul_assoc]; omega
    have e2 : m.2.2.1 * (n.1 * b + n.2.1 * c) + m.2.2.2 * (n.2.2.1 * b + n.2.2.2 * c) = (mulM m n).2.2.1 * b + (mulM m n).2.2.2 * c := by unfold mulM; simp only [Int.add_mul, Int.mul_add, Int.mul_assoc]; omega
    rw [e1, e2] at k2; exact k2
theorem Good.mul {fr a b c : Int} (h : FL fr a b c) {m n : S44} (gm : Good fr a b c m) (gn : Good fr a b c n) : Good fr a b c (prodM a b c m n) :=
  ⟨⟨pm_mul h.1 gm.1.1 gn.1.1, keep_mul h.2.1 h.2.2.2.1 gm.1.2 gn.1.2⟩, red_idem h.2.1 h.2.2.2.1⟩
/-- The identity. -/
def unitMo : S44 := ⟨⟨1, 0, 0, 1⟩, ⟨0, 0⟩⟩
theorem Ev.from {α : Type} {g f : Nat → Option α} {r : α} (n : Nat) (h : ∀ k, n ≤ k → g (k + 1) = f k) (e : Ev f r) : Ev g r := by
  obtain ⟨K, hK⟩ := e
  refine ⟨K + n + 1, fun k hk => ?_⟩
  obtain ⟨j, rfl⟩ : ∃ j, k = j + 1 := ⟨k - 1, by omega⟩
  rw [h j (by omega)]; exact hK j (by omega)
/-- What arises from a list: the identity, and a product of a motion of the list and what arises. -/
inductive Gen (a b c : Int) (xs : List S44) : S44 → Prop
  | one : Gen a b c xs unitMo
  | mul {x z : S44} : x ∈ xs → Gen a b c xs z → Gen a b c xs (prodM a b c x z)
/-- What closing keeps. -/
structure CInv (fr a b c : Int) (xs : List S44) (s q : List S44) : Prop where
  inc : Incr s
  same : ∀ z, z ∈ s ↔ z ∈ q
  nd : q.Nodup
  good : ∀ z ∈ q, Good fr a b c z
  one : unitMo ∈ q
  gen : ∀ z ∈ q, Gen a b c xs z
theorem CInv.len {fr a b c : Int} (h : FL fr a b c) {xs s q : List S44} (i : CInv fr a b c xs s q) : s.length ≤ 768 ∧ q.length ≤ 768 := by
  have h1 : s.length ≤ 768 := len_768 h s (fun j hj => i.good _ ((i.same _).1 (List.getElem_mem hj))) i.inc
  exact ⟨h1, Nat.le_trans (@pigeon _ (fun x y => Classical.propDecidable (x = y)) q s i.nd (fun z hz => (i.same z).2 hz)) h1⟩
theorem CInv.more {fr a b c : Int} (h : FL fr a b c) {xs s q s' : List S44} (i : CInv fr a b c xs s q) {x z : S44} (hx : x ∈ xs) (gx : Good fr a b c x) (hz : z ∈ q) (hn : prodM a b c x z ∉ q) (h1 : Incr s') (h2 : ∀ y, y ∈ s' ↔ y ∈ s ∨ y = prodM a b c x z) : CInv fr a b c xs s' (q ++ [prodM a b c x z]) where
  inc := h1
  same := fun y => by rw [h2, i.same, List.mem_append, List.mem_singleton]
  nd := by
    rw [List.nodup_append]
    refine ⟨i.nd, List.pairwise_singleton _ _, fun y hy w hw => ?_⟩
    rw [List.mem_singleton] at hw
    subst hw
    rintro rfl; exact hn hy
  good := fun y hy => by
    rcases List.mem_append.1 hy with hy | hy
    · exact i.good y hy
    · rw [List.mem_singleton.1 hy]; exact gx.mul h (i.good z hz)
  one := List.mem_append_left _ i.one
  gen := fun y hy => by
    rcases List.mem_append.1 hy with hy | hy
    · exact i.gen y hy
    · rw [List.mem_singleton.1 hy]; exact .mul hx (i.gen z hz)
/-- What a closed list is. -/
structure Closed (fr a b c : Int) (xs r : List S44) : Prop where
  inc : Incr r
  good : ∀ z ∈ r, Good fr a b c z
  one : unitMo ∈ r
  mul : ∀ x ∈ xs, ∀ z ∈ r, prodM a b c x z ∈ r
  gen : ∀ z ∈ r, Gen a b c xs z
  len : r.length ≤ 768
end Go.Proofs.Ytfmjboloeabjmaa.LA
