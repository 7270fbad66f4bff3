import Derived.Test.YtfmjboloeabjmaaGreatAid
import Derived.Test.YtfmjboloeabjmaaGreatPAx0
import Derived.Test.YtfmjboloeabjmaaGreatLAABasic
import Derived.Test.YtfmjboloeabjmaaGreatLAGLattice
import Derived.Test.YtfmjboloeabjmaaGreatLAOHermite
import Derived.Test.YtfmjboloeabjmaaGreatLAPPoints
import Derived.Test.YtfmjboloeabjmaaGreatLARMirror
import Derived.Test.YtfmjboloeabjmaaGreatLARabMultiple
import Derived.Test.YtfmjboloeabjmaaGreatLASCentred
import Derived.Test.YtfmjboloeabjmaaGreatLASbCentred
import Derived.Test.YtfmjboloeabjmaaGreatLATMayreflect
import Derived.Test.YtfmjboloeabjmaaGreatLAUOrder
import Derived.Test.YtfmjboloeabjmaaGreatLAVGroup
import Derived.Test.YtfmjboloeabjmaaGreatLAWIsgroup
import Derived.Test.YtfmjboloeabjmaaGreatLAYRotation
import Derived.Test.YtfmjboloeabjmaaGreatLAZShifts
import Derived.Test.YtfmjboloeabjmaaGreatPAx0
import Derived.Test.YtfmjboloeabjmaaGreatPAx10
import Derived.Test.YtfmjboloeabjmaaGreatPAx11
import Derived.Test.YtfmjboloeabjmaaGreatPAx12
import Derived.Test.YtfmjboloeabjmaaGreatPAx13
import Derived.Test.YtfmjboloeabjmaaGreatPAx17
import Derived.Test.YtfmjboloeabjmaaGreatPAx18
import Derived.Test.YtfmjboloeabjmaaGreatPAx19
import Derived.Test.YtfmjboloeabjmaaGreatPAx20
import Derived.Test.YtfmjboloeabjmaaGreatPAx21
import Derived.Test.YtfmjboloeabjmaaGreatPAx5
import Derived.Test.YtfmjboloeabjmaaGreatPAx8
import Derived.Test.YtfmjboloeabjmaaGreatPAx9
namespace Go.Proofs.YtfmjboloeabjmaaGreat.LA
open Go.RowKit Go.Proofs.YtfmjboloeabjmaaGreat.PA Go.Proofs.YtfmjboloeabjmaaGreatW.PrintWords Go.Proofs.YtfmjboloeabjmaaGreatW.PrintLast Go.Proofs.YtfmjboloeabjmaaGreat.Aid
set_option linter.unusedVariables false
set_option linter.unusedSimpArgs false
def nrq (fr x y : Int) : Int := x * x + fr * (x * y) + y * y
theorem sq_b {B x : Int} (hB : B ≤ 1000) (hx : -B ≤ x ∧ x ≤ B) : 0 ≤ x * x ∧ x * x ≤ 1000000 := by
  have h0 : (x * x).natAbs ≤ 1000 * 1000 := by rw [Int.natAbs_mul]; exact Nat.mul_le_mul (by omega) (by omega)
  have h1 : 0 ≤ x * x := by rcases Int.le_total 0 x with h | h; exact Int.mul_nonneg h h; exact Int.mul_nonneg_of_nonpos_of_nonpos h h
  omega
theorem nrq_parts {fr x y : Int} (hf : 0 ≤ fr ∧ fr ≤ 1) (hx : -200 ≤ x ∧ x ≤ 200) (hy : -200 ≤ y ∧ y ≤ 200) : (0 ≤ x * x ∧ x * x ≤ 1000000) ∧ (0 ≤ y * y ∧ y * y ≤ 1000000) ∧ (-1000000 ≤ x * y ∧ x * y ≤ 1000000) ∧ (fr = 0 ∨ fr = 1) := by
  have h0 : (x * y).natAbs ≤ 1000 * 1000 := by rw [Int.natAbs_mul]; exact Nat.mul_le_mul (by omega) (by omega)
  exact ⟨sq_b (B := 200) (by omega) hx, sq_b (B := 200) (by omega) hy, ⟨by omega, by omega⟩, by omega⟩
theorem impl_nrq {fr x y : Int} (hf : 0 ≤ fr ∧ fr ≤ 1) (hx : -200 ≤ x ∧ x ≤ 200) (hy : -200 ≤ y ∧ y ≤ 200) : impl_norm.f fr x y = some (nrq fr x y) := by
  obtain ⟨h1, h2, h3, h4⟩ := nrq_parts hf hx hy
  unfold impl_norm.f nrq
  rcases h4 with rfl | rfl
  · rw [w64s (x := x * x) (by omega) (by omega), w64s (x := y * y) (by omega) (by omega), Int.zero_mul, w64s (x := 0) (by omega) (by omega), Int.zero_mul, Int.zero_mul, w64s (x := 0) (by omega) (by omega), w64s (x := x * x + 0) (by omega) (by omega), w64s (by omega) (by omega)]
  · rw [w64s (x := x * x) (by omega) (by omega), w64s (x := y * y) (by omega) (by omega), Int.one_mul, w64s (x := x) (by omega) (by omega), Int.one_mul, w64s (x := x * y) (by omega) (by omega), w64s (x := x * x + x * y) (by omega) (by omega), w64s (by omega) (by omega)]
theorem spec_nrq {fr x y : Int} (hf : 0 ≤ fr ∧ fr ≤ 1) (hx : -200 ≤ x ∧ x ≤ 200) (hy : -200 ≤ y ∧ y ≤ 200) : spec_l04Norm.f fr x y = some (nrq fr x y) := by
  obtain ⟨h1, h2, h3, h4⟩ := nrq_parts hf hx hy
  unfold spec_l04Norm.f nrq
  rcases h4 with rfl | rfl
  · rw [if_neg (by decide), w64s (x := x * x) (by omega) (by omega), w64s (x := y * y) (by omega) (by omega), w64s (by omega) (by omega)]
    congr 1; omega
  · rw [if_pos rfl, w64s (x := x * x) (by omega) (by omega), w64s (x := y * y) (by omega) (by omega), w64s (x := x * y) (by omega) (by omega), w64s (x := x * x + y * y) (by omega) (by omega), w64s (by omega) (by omega)]
    congr 1; omega
theorem nrq_sq {fr x y : Int} (hf : 0 ≤ fr ∧ fr ≤ 1) : 3 * (x * x) ≤ 4 * nrq fr x y ∧ 3 * (y * y) ≤ 4 * nrq fr x y ∧ 0 ≤ nrq fr x y := by
  have p1 : 0 ≤ (x + 2 * y) * (x + 2 * y) := by rcases Int.le_total 0 (x + 2 * y) with h | h; exact Int.mul_nonneg h h; exact Int.mul_nonneg_of_nonpos_of_nonpos h h
  have p2 : 0 ≤ (2 * x + y) * (2 * x + y) := by rcases Int.le_total 0 (2 * x + y) with h | h; exact Int.mul_nonneg h h; exact Int.mul_nonneg_of_nonpos_of_nonpos h h
  have p3 : 0 ≤ x * x := by rcases Int.le_total 0 x with h | h; exact Int.mul_nonneg h h; exact Int.mul_nonneg_of_nonpos_of_nonpos h h
  have p4 : 0 ≤ y * y := by rcases Int.le_total 0 y with h | h; exact Int.mul_nonneg h h; exact Int.mul_nonneg_of_nonpos_of_nonpos h h
  have e1 : (x + 2 * y) * (x + 2 * y) = x * x + 4 * (x * y) + 4 * (y * y) := by
    rw [Int.add_mul, Int.mul_add, Int.mul_add, Int.mul_left_comm x 2 y, Int.mul_assoc 2 y x, Int.mul_comm y x, Int.mul_assoc 2 y (2 * y), Int.mul_left_comm y 2 y]; omega
  have e2 : (2 * x + y) * (2 * x + y) = 4 * (x * x) + 4 * (x * y) + y * y := by
    rw [Int.add_mul, Int.mul_add, Int.mul_add, Int.mul_left_comm y 2 x, Int.mul_assoc 2 x y, Int.mul_comm y x, Int.mul_assoc 2 x (2 * x), Int.mul_left_comm x 2 x]; omega
  unfold nrq
  have h4 : fr = 0 ∨ fr = 1 := by omega
  rcases h4 with rfl | rfl
  · rw [Int.zero_mul]; omega
  · rw [Int.one_mul]; omega
theorem sqq_small {x : Int} (h : x * x ≤ 168) : -12 ≤ x ∧ x ≤ 12 := by
  have key : ∀ n : Nat, n * n ≤ 168 → n ≤ 12 := fun n hn => Decidable.byContradiction fun hc => by
    have := Nat.mul_le_mul (show 13 ≤ n by omega) (show 13 ≤ n by omega)
    omega
  have e : x.natAbs * x.natAbs ≤ 168 := by
    have : ((x.natAbs * x.natAbs : Nat) : Int) = x * x := by exact Int.natAbs_mul_self
    omega
  have := key _ e
  omega
theorem nrq_box {fr x y : Int} (hf : 0 ≤ fr ∧ fr ≤ 1) (h : nrq fr x y ≤ 126) : (-12 ≤ x ∧ x ≤ 12) ∧ (-12 ≤ y ∧ y ≤ 12) := by
  obtain ⟨h1, h2, _⟩ := nrq_sq (x := x) (y := y) hf
  exact ⟨sqq_small (by omega), sqq_small (by omega)⟩
theorem nrq_zero {fr x y : Int} (hf : 0 ≤ fr ∧ fr ≤ 1) (h : nrq fr x y = 0) : x = 0 ∧ y = 0 := by
  obtain ⟨h1, h2, _⟩ := nrq_sq (x := x) (y := y) hf
  have p3 : 0 ≤ x * x := by rcases Int.le_total 0 x with h | h; exact Int.mul_nonneg h h; exact Int.mul_nonneg_of_nonpos_of_nonpos h h
  have p4 : 0 ≤ y * y := by rcases Int.le_total 0 y with h | h; exact Int.mul_nonneg h h; exact Int.mul_nonneg_of_nonpos_of_nonpos h h
  have q1 : x * x = 0 := by omega
  have q2 : y * y = 0 := by omega
  exact ⟨by simpa using Int.mul_eq_zero.1 q1, by simpa using Int.mul_eq_zero.1 q2⟩
theorem nrq_neg (fr x y : Int) : nrq fr (-x) (-y) = nrq fr x y := by unfold nrq; rw [Int.neg_mul_neg, Int.neg_mul_neg, Int.neg_mul_neg]
def shC (fr a b c : Int) : Bool := (List.range 14).any fun k => let t := ((k : Int) * b) % a; [t, t - a, if k = 0 then a else t].any fun x => decide (red a b c x (k * c) = (0, 0) ∧ nrq fr x (k * c) ≤ 126 ∧ nrq fr x (k * c) ≠ 0)
def chkS : Bool := (List.range 64).all fun i => (List.range (64 / (i + 1))).all fun j => (List.range (i + 1)).all fun b => shC 0 ((i + 1 : Nat) : Int) (b : Int) ((j + 1 : Nat) : Int) && shC 1 ((i + 1 : Nat) : Int) (b : Int) ((j + 1 : Nat) : Int)
set_option maxRecDepth 100000 in
theorem chkS_true : chkS = true := by decide +kernel
theorem short_ex {fr a b c : Int} (h : FL fr a b c) : ∃ x y, red a b c x y = (0, 0) ∧ nrq fr x y ≤ 126 ∧ nrq fr x y ≠ 0 := by
  obtain ⟨hf, l1, l2, l3, l4, l5, l6, l7⟩ := h
  have hc := chkS_true
  unfold chkS at hc
  rw [List.all_eq_true] at hc
  have h1 := hc (a.toNat - 1) (List.mem_range.2 (by omega))
  rw [List.all_eq_true] at h1
  have ha : a.toNat - 1 + 1 = a.toNat := by omega
  have h2 := h1 (c.toNat - 1) (List.mem_range.2 (by
    rw [ha]
    have e : c.toNat * a.toNat ≤ 64 := by
      have : ((c.toNat * a.toNat : Nat) : Int) = a * c := by rw [Int.natCast_mul, Int.toNat_of_nonneg (by omega), Int.toNat_of_nonneg (by omega), Int.mul_comm]
      omega
    have := (Nat.le_div_iff_mul_le (show 0 < a.toNat by omega)).2 e
    omega))
  rw [List.all_eq_true] at h2
  have h3 := h2 b.toNat (List.mem_range.2 (by omega))
  rw [ha, show c.toNat - 1 + 1 = c.toNat by omega, Int.toNat_of_nonneg (by omega), Int.toNat_of_nonneg (by omega), Int.toNat_of_nonneg (by omega), Bool.and_eq_true] at h3
  have h4 : shC fr a b c = true := by
    have : fr = 0 ∨ fr = 1 := by omega
    rcases this with rfl | rfl
    · exact h3.1
    · exact h3.2
  unfold shC at h4
  rw [List.any_eq_true] at h4
  obtain ⟨k, _, hk⟩ := h4
  dsimp only at hk
  rw [List.any_eq_true] at hk
  obtain ⟨x, _, hx⟩ := hk
  exact ⟨x, k * c, of_decide_eq_true hx⟩
theorem around_row (n : Nat) (x : Int) (d : Nat) : ∀ (y : Int) (o : List S44), -12 ≤ y → y ≤ 13 → 13 - y = d → o.length + d ≤ n → n ≤ 1000000 →
    (∀ r k, impl_vecsAround.l0 k 12 (o ++ (List.range d).map fun j : Nat => (⟨x, y + (j : Int)⟩ : S44)) (wrap64 (x + 1)) = some r → impl_vecsAround.l1 (k + d + 1) 12 o x y = some r) := by
  induction d with
  | zero =>
    intro y o h0 h1 hd ho hn r k hk
    simp only [impl_vecsAround.l1]
    rw [if_neg (by omega)]
    simpa using hk
  | succ d ih =>
    intro y o h0 h1 hd ho hn r k hk
    have hw : wrap64 (y + 1) = y + 1 := w64s (by omega) (by omega)
    have := ih (y + 1) (o ++ [⟨x, y⟩]) (by omega) (by omega) (by omega) (by simp; omega) hn r k (by
      rw [List.range_succ_eq_map, List.map_cons, List.map_map] at hk
      rw [List.append_assoc]
      refine Eq.trans ?_ hk
      congr 2
      simp only [List.singleton_append, Int.natCast_zero, Int.add_zero, List.cons.injEq, true_and]
      refine List.map_congr_left (fun j _ => ?_)
      simp only [Function.comp, Nat.succ_eq_add_one]
      congr 1; omega)
    rw [show k + (d + 1) + 1 = (k + d + 1) + 1 by omega]
    simp only [impl_vecsAround.l1]
    rw [if_pos (by omega), if_pos (by omega), hw]
    exact this
theorem around_all (d : Nat) : ∀ (x : Int) (o : List S44), -12 ≤ x → x ≤ 13 → 13 - x = d → o.length + 25 * d ≤ 1000 →
    ∃ r : List S44, Ev (fun k => impl_vecsAround.l0 k 12 o x) r ∧ (∀ v, v ∈ r ↔ v ∈ o ∨ ((x ≤ v.f0 ∧ v.f0 ≤ 12) ∧ -12 ≤ v.f1 ∧ v.f1 ≤ 12)) ∧ r.length ≤ 1000 := by
  induction d with
  | zero =>
    intro x o h0 h1 hd ho
    refine ⟨o, Ev.one (fun k => ?_), fun v => ⟨Or.inl, fun h => ?_⟩, by omega⟩
    · simp only [impl_vecsAround.l0]; rw [if_neg (by omega)]
    · rcases h with h | h
      · exact h
      · omega
  | succ d ih =>
    intro x o h0 h1 hd ho
    have hw : wrap64 (x + 1) = x + 1 := w64s (by omega) (by omega)
    obtain ⟨r, ⟨K, r1⟩, r2, r3⟩ := ih (x + 1) (o ++ (List.range 25).map fun j : Nat => (⟨x, -12 + (j : Int)⟩ : S44)) (by omega) (by omega) (by omega) (by simp; omega)
    refine ⟨r, ⟨K + 30, fun k hk => ?_⟩, fun v => ?_, r3⟩
    · obtain ⟨k, rfl⟩ : ∃ m, k = m + 27 := ⟨k - 27, by omega⟩
      have r1 : impl_vecsAround.l0 k 12 (o ++ (List.range 25).map fun j : Nat => (⟨x, -12 + (j : Int)⟩ : S44)) (x + 1) = some r := r1 k (by omega)
      rw [← hw] at r1
      have := around_row 1000000 x 25 (-12) o (by omega) (by omega) (by omega) (by omega) (by omega) r k r1
      show impl_vecsAround.l0 (k + 25 + 1 + 1) 12 o x = some r
      simp only [impl_vecsAround.l0]
      rw [if_pos (by omega), w64s (x := -12) (by omega) (by omega)]
      exact this
    · rw [r2, List.mem_append, List.mem_map, or_assoc]
      refine or_congr Iff.rfl ⟨fun h => ?_, fun h => ?_⟩
      · rcases h with ⟨j, hj, rfl⟩ | h
        · have := List.mem_range.1 hj
          exact ⟨⟨by show x ≤ x; omega, by show x ≤ 12; omega⟩, by show -12 ≤ -12 + (j : Int); omega, by show -12 + (j : Int) ≤ 12; omega⟩
        · exact ⟨⟨by omega, h.1.2⟩, h.2⟩
      · by_cases e : v.f0 = x
        · refine Or.inl ⟨(v.f1 + 12).toNat, List.mem_range.2 (by omega), ?_⟩
          obtain ⟨v0, v1⟩ := v
          dsimp only at e h ⊢
          subst e
          congr 1; omega
        · exact Or.inr ⟨⟨by omega, h.1.2⟩, h.2⟩
theorem around_some : ∃ r : List S44, Ev (fun k => impl_vecsAround.f k 12) r ∧ (∀ v, v ∈ r ↔ ((-12 ≤ v.f0 ∧ v.f0 ≤ 12) ∧ -12 ≤ v.f1 ∧ v.f1 ≤ 12)) ∧ r.length ≤ 1000 := by
  obtain ⟨r, ⟨K, r1⟩, r2, r3⟩ := around_all 25 (-12) [] (by omega) (by omega) (by omega) (by simp)
  refine ⟨r, ⟨K, fun k hk => ?_⟩, fun v => by rw [r2]; simp, r3⟩
  have r1 : impl_vecsAround.l0 k 12 [] (-12) = some r := r1 k hk
  show impl_vecsAround.f k 12 = _
  unfold impl_vecsAround.f
  rw [w64s (x := -12) (by omega) (by omega)]; exact r1
theorem take_mem {α : Type} {L : List α} {i : Nat} (h : i < L.length) (v : α) : v ∈ L.take (i + 1) ↔ v ∈ L.take i ∨ v = L[i] := by
  rw [List.take_add_one, List.getElem?_eq_getElem h, List.mem_append]; simp
theorem rd_ve (xs : List S44) (i : Nat) (h : i < xs.length) : rd_T44 xs (i : Int) = xs[i] := by unfold rd_T44; rw [Int.toNat_natCast]; simp [List.getD, h]
def Cand (fr a b c : Int) (v : S44) : Prop := red a b c v.f0 v.f1 = (0, 0) ∧ nrq fr v.f0 v.f1 ≠ 0
def SInv (fr a b c : Int) (L : List S44) (i : Nat) (m : Int) (o : List S44) : Prop :=
  (m = 0 ∧ o = [] ∧ ∀ v ∈ L.take i, ¬ Cand fr a b c v) ∨ (0 < m ∧ o ≠ [] ∧ (∀ v ∈ L.take i, Cand fr a b c v → m ≤ nrq fr v.f0 v.f1) ∧ ∀ v, v ∈ o ↔ v ∈ L.take i ∧ Cand fr a b c v ∧ nrq fr v.f0 v.f1 = m)
theorem SInv.skip {fr a b c : Int} {L : List S44} {i : Nat} {m : Int} {o : List S44} (hi : i < L.length) (h : SInv fr a b c L i m o) (hn : Cand fr a b c L[i] → 0 < m ∧ m < nrq fr L[i].f0 L[i].f1) : SInv fr a b c L (i + 1) m o := by
  rcases h with ⟨h1, h2, h3⟩ | ⟨h1, h2, h3, h4⟩
  · refine Or.inl ⟨h1, h2, fun v hv hc => ?_⟩
    rcases (take_mem hi v).1 hv with hv | rfl
    · exact h3 v hv hc
    · have := (hn hc).1; omega
  · refine Or.inr ⟨h1, h2, fun v hv hc => ?_, fun v => ?_⟩
    · rcases (take_mem hi v).1 hv with hv | rfl
      · exact h3 v hv hc
      · have := (hn hc).2; omega
    · rw [h4, take_mem hi]
      refine ⟨fun h => ⟨Or.inl h.1, h.2⟩, fun h => ⟨?_, h.2⟩⟩
      rcases h.1 with h' | rfl
      · exact h'
      · have := (hn h.2.1).2; have := h.2.2; omega
theorem SInv.same {fr a b c : Int} {L : List S44} {i : Nat} {m : Int} {o : List S44} (hi : i < L.length) (h : SInv fr a b c L i m o) (hc : Cand fr a b c L[i]) (he : nrq fr L[i].f0 L[i].f1 = m) : SInv fr a b c L (i + 1) m (o ++ [L[i]]) := by
  rcases h with ⟨h1, h2, h3⟩ | ⟨h1, h2, h3, h4⟩
  · exact absurd (he.trans h1) hc.2
  · refine Or.inr ⟨h1, by simp, fun v hv hv' => ?_, fun v => ?_⟩
    · rcases (take_mem hi v).1 hv with hv | rfl
      · exact h3 v hv hv'
      · omega
    · rw [List.mem_append, List.mem_singleton, h4, take_mem hi]
      refine ⟨fun h => ?_, fun h => ?_⟩
      · rcases h with h | rfl
        · exact ⟨Or.inl h.1, h.2⟩
        · exact ⟨Or.inr rfl, hc, he⟩
      · rcases h.1 with h' | rfl
        · exact Or.inl ⟨h', h.2⟩
        · exact Or.inr rfl
theorem SInv.less {fr a b c : Int} {L : List S44} {i : Nat} {m : Int} {o : List S44} (hi : i < L.length) (h : SInv fr a b c L i m o) (hc : Cand fr a b c L[i]) (h0 : 0 < nrq fr L[i].f0 L[i].f1) (he : m = 0 ∨ nrq fr L[i].f0 L[i].f1 < m) : SInv fr a b c L (i + 1) (nrq fr L[i].f0 L[i].f1) [L[i]] := by
  have old : ∀ v ∈ L.take i, Cand fr a b c v → nrq fr L[i].f0 L[i].f1 < nrq fr v.f0 v.f1 := fun v hv hv' => by
    rcases h with ⟨h1, h2, h3⟩ | ⟨h1, h2, h3, h4⟩
    · exact absurd hv' (h3 v hv)
    · have := h3 v hv hv'; omega
  refine Or.inr ⟨h0, by simp, fun v hv hv' => ?_, fun v => ?_⟩
  · rcases (take_mem hi v).1 hv with hv | rfl
    · exact Int.le_of_lt (old v hv hv')
    · omega
  · rw [List.mem_singleton, take_mem hi]
    refine ⟨fun h => ?_, fun h => ?_⟩
    · subst h; exact ⟨Or.inr rfl, hc, rfl⟩
    · rcases h.1 with h' | rfl
      · have := old v h' h.2.1; have := h.2.2; omega
      · rfl
theorem short_loop {fr a b c : Int} (h : FL fr a b c) (L : List S44) (hl : L.length ≤ 1000) (hb : ∀ v ∈ L, (-12 ≤ v.f0 ∧ v.f0 ≤ 12) ∧ -12 ≤ v.f1 ∧ v.f1 ≤ 12) (d : Nat) : ∀ (i : Nat) (m : Int) (o : List S44), i ≤ L.length → L.length - i = d → o.length ≤ i → SInv fr a b c L i m o →
    ∃ r m', Ev (fun k => impl_shortestVecs.l0 k fr o m L (L.length : Int) i a b c) r ∧ SInv fr a b c L L.length m' r ∧ r.length ≤ 1000 := by
  induction d with
  | zero =>
    intro i m o hi hd ho hI
    refine ⟨o, m, Ev.one (fun k => ?_), by rwa [show L.length = i by omega], by omega⟩
    simp only [impl_shortestVecs.l0]; rw [if_neg (by omega)]
  | succ d ih =>
    intro i m o hi hd ho hI
    have h1 : i < L.length := by omega
    have hw : wrap64 ((i : Int) + 1) = ((i + 1 : Nat) : Int) := by rw [w64s (by omega) (by omega)]; omega
    obtain ⟨b1, b2⟩ := hb _ (List.getElem_mem h1)
    have en := impl_nrq (x := L[i].f0) (y := L[i].f1) h.1 (by omega) (by omega)
    have eh := impl_has_eq (h.2.mod4 (x := L[i].f0) (y := L[i].f1) (by omega) (by omega) (by omega) (by omega))
    have hn0 := (nrq_sq (x := L[i].f0) (y := L[i].f1) h.1).2.2
    have skip : SInv fr a b c L (i + 1) m o → ∃ r m', Ev (fun k => impl_shortestVecs.j1 k fr o m (nrq fr L[i].f0 L[i].f1) L (L.length : Int) i true a b c L[i].f0 L[i].f1) r ∧ SInv fr a b c L L.length m' r ∧ r.length ≤ 1000 := fun hI' => by
      obtain ⟨r, m', r1, r2, r3⟩ := ih (i + 1) m o (by omega) (by omega) (by omega) hI'
      refine ⟨r, m', Ev.step (fun k => ?_) r1, r2, r3⟩
      simp only [impl_shortestVecs.j1]; rw [if_pos trivial, hw]
    have take : Cand fr a b c L[i] → (m = 0 ∨ nrq fr L[i].f0 L[i].f1 ≤ m) → ∃ r m', Ev (fun k => impl_shortestVecs.j1 k fr o m (nrq fr L[i].f0 L[i].f1) L (L.length : Int) i false a b c L[i].f0 L[i].f1) r ∧ SInv fr a b c L L.length m' r ∧ r.length ≤ 1000 := fun hc hm => by
      by_cases e : nrq fr L[i].f0 L[i].f1 = m
      · obtain ⟨r, m', r1, r2, r3⟩ := ih (i + 1) m (o ++ [L[i]]) (by omega) (by omega) (by simp; omega) (hI.same h1 hc e)
        refine ⟨r, m', Ev.step (fun k => ?_) r1, r2, r3⟩
        simp only [impl_shortestVecs.j1]; rw [if_neg (by decide), if_pos e, if_pos (by omega), hw]
      · have := hc.2
        obtain ⟨r, m', r1, r2, r3⟩ := ih (i + 1) _ [L[i]] (by omega) (by omega) (by simp) (hI.less h1 hc (by omega) (by omega))
        refine ⟨r, m', Ev.step (fun k => ?_) r1, r2, r3⟩
        simp only [impl_shortestVecs.j1]; rw [if_neg (by decide), if_neg e, if_pos (by simp), hw]; rfl
    have into : ∀ (fl : Bool) r m', Ev (fun k => impl_shortestVecs.j1 k fr o m (nrq fr L[i].f0 L[i].f1) L (L.length : Int) i fl a b c L[i].f0 L[i].f1) r → SInv fr a b c L L.length m' r ∧ r.length ≤ 1000 → (∀ k, impl_shortestVecs.l0 (k + 1) fr o m L (L.length : Int) i a b c = impl_shortestVecs.j1 k fr o m (nrq fr L[i].f0 L[i].f1) L (L.length : Int) i fl a b c L[i].f0 L[i].f1) → ∃ r m', Ev (fun k => impl_shortestVecs.l0 k fr o m L (L.length : Int) i a b c) r ∧ SInv fr a b c L L.length m' r ∧ r.length ≤ 1000 := fun fl r m' r1 r2 hk => ⟨r, m', Ev.step hk r1, r2⟩
    by_cases c0 : nrq fr L[i].f0 L[i].f1 = 0
    · obtain ⟨r, m', r1, r2⟩ := skip (hI.skip h1 fun hc => absurd c0 hc.2)
      refine into true r m' r1 r2 (fun k => ?_)
      simp only [impl_shortestVecs.l0]
      rw [if_pos (by omega), if_pos (by omega), if_pos (by omega), rd_ve _ _ h1, en, Option.bind_some, if_pos c0]
    by_cases c1 : red a b c L[i].f0 L[i].f1 = (0, 0)
    · have hc : Cand fr a b c L[i] := ⟨c1, c0⟩
      by_cases c2 : m > 0
      · by_cases c3 : nrq fr L[i].f0 L[i].f1 > m
        · obtain ⟨r, m', r1, r2⟩ := skip (hI.skip h1 fun _ => ⟨c2, c3⟩)
          refine into true r m' r1 r2 (fun k => ?_)
          simp only [impl_shortestVecs.l0]
          rw [if_pos (by omega), if_pos (by omega), if_pos (by omega), rd_ve _ _ h1, en, Option.bind_some, if_neg c0, eh, Option.bind_some, if_pos (decide_eq_true c1), if_pos c2, decide_eq_true c3]
        · obtain ⟨r, m', r1, r2⟩ := take hc (by omega)
          refine into false r m' r1 r2 (fun k => ?_)
          simp only [impl_shortestVecs.l0]
          rw [if_pos (by omega), if_pos (by omega), if_pos (by omega), rd_ve _ _ h1, en, Option.bind_some, if_neg c0, eh, Option.bind_some, if_pos (decide_eq_true c1), if_pos c2, decide_eq_false c3]
      · have hm0 : m = 0 := by rcases hI with hI | hI <;> omega
        obtain ⟨r, m', r1, r2⟩ := take hc (Or.inl hm0)
        refine into false r m' r1 r2 (fun k => ?_)
        simp only [impl_shortestVecs.l0]
        rw [if_pos (by omega), if_pos (by omega), if_pos (by omega), rd_ve _ _ h1, en, Option.bind_some, if_neg c0, eh, Option.bind_some, if_pos (decide_eq_true c1), if_neg c2]
    · obtain ⟨r, m', r1, r2⟩ := skip (hI.skip h1 fun hc => absurd hc.1 c1)
      refine into true r m' r1 r2 (fun k => ?_)
      simp only [impl_shortestVecs.l0]
      rw [if_pos (by omega), if_pos (by omega), if_pos (by omega), rd_ve _ _ h1, en, Option.bind_some, if_neg c0, eh, Option.bind_some, if_neg (by simp [c1])]
theorem short_impl {fr a b c : Int} (h : FL fr a b c) : ∃ r : List S44, Ev (fun k => impl_shortestVecs.f k fr a b c) r ∧ r.length ≤ 1000 ∧ ∀ v, v ∈ r ↔ (((-12 ≤ v.f0 ∧ v.f0 ≤ 12) ∧ -12 ≤ v.f1 ∧ v.f1 ≤ 12) ∧ Cand fr a b c v ∧ ∀ u : S44, ((-12 ≤ u.f0 ∧ u.f0 ≤ 12) ∧ -12 ≤ u.f1 ∧ u.f1 ≤ 12) → Cand fr a b c u → nrq fr v.f0 v.f1 ≤ nrq fr u.f0 u.f1) := by
  obtain ⟨L, ⟨K1, e1⟩, hL, hl⟩ := around_some
  obtain ⟨r, m, ⟨K2, r1⟩, r2, r3⟩ := short_loop h L hl (fun v hv => (hL v).1 hv) L.length 0 0 [] (by omega) rfl (by simp) (Or.inl ⟨rfl, rfl, fun v hv => by simp at hv⟩)
  refine ⟨r, ⟨K1 + K2, fun k hk => ?_⟩, r3, fun v => ?_⟩
  · have e1 : impl_vecsAround.f k 12 = some L := e1 k (by omega)
    have r1 : impl_shortestVecs.l0 k fr [] 0 L (L.length : Int) ((0 : Nat) : Int) a b c = some r := r1 k (by omega)
    show impl_shortestVecs.f k fr a b c = _
    unfold impl_shortestVecs.f
    rw [e1, Option.bind_some]; exact r1
  · unfold SInv at r2
    rw [List.take_length] at r2
    rcases r2 with ⟨q1, q2, q3⟩ | ⟨q1, q2, q3, q4⟩
    · subst q2
      refine ⟨fun h => absurd h List.not_mem_nil, fun h => absurd h.2.1 (q3 v ((hL v).2 h.1))⟩
    · rw [q4]
      refine ⟨fun h => ⟨(hL v).1 h.1, h.2.1, fun u hu hc => by rw [h.2.2]; exact q3 u ((hL u).2 hu) hc⟩, fun h => ⟨(hL v).2 h.1, h.2.1, ?_⟩⟩
      obtain ⟨u, hu⟩ := List.exists_mem_of_ne_nil _ q2
      obtain ⟨u1, u2, u3⟩ := (q4 u).1 hu
      have := h.2.2 u ((hL u).1 u1) u2
      have := q3 v ((hL v).2 h.1) h.2.1
      omega
theorem near_row {fr A x : Int} (hf : 0 ≤ fr ∧ fr ≤ 1) (hx : -128 ≤ x ∧ x ≤ 128) {Q : List S44 → Prop} (d : Nat) : ∀ (y : Int) (o : List S44), -128 ≤ y → y ≤ 129 → 129 - y = d → o.length + d ≤ 1000000 →
    (∀ o' : List S44, (∀ v, v ∈ o' ↔ v ∈ o ∨ (v.f0 = x ∧ (y ≤ v.f1 ∧ v.f1 ≤ 128) ∧ nrq fr v.f0 v.f1 ≤ A)) → o'.length ≤ o.length + d → ∃ r, Ev (fun k => spec_l04Near.l0 k fr A 128 o' (wrap64 (x + 1))) r ∧ Q r) → ∃ r, Ev (fun k => spec_l04Near.l1 k fr A 128 o x y) r ∧ Q r := by
  induction d with
  | zero =>
    intro y o h0 h1 hd ho cont
    obtain ⟨r, r1, r2⟩ := cont o (fun v => ⟨Or.inl, fun h => h.elim id fun h => by omega⟩) (by omega)
    refine ⟨r, Ev.step (fun k => ?_) r1, r2⟩
    simp only [spec_l04Near.l1]; rw [if_neg (by omega)]
  | succ d ih =>
    intro y o h0 h1 hd ho cont
    have hw : wrap64 (y + 1) = y + 1 := w64s (by omega) (by omega)
    have en := spec_nrq (x := x) (y := y) hf (by omega) (by omega)
    by_cases c : nrq fr x y ≤ A
    · obtain ⟨r, r1, r2⟩ := ih (y + 1) (o ++ [⟨x, y⟩]) (by omega) (by omega) (by omega) (by simp; omega) (fun o' h1 h2 => cont o' (fun v => by
        rw [h1, List.mem_append, List.mem_singleton, or_assoc]
        refine or_congr Iff.rfl ⟨fun h => ?_, fun h => ?_⟩
        · rcases h with rfl | h
          · exact ⟨rfl, ⟨by show y ≤ y; omega, by show y ≤ 128; omega⟩, c⟩
          · exact ⟨h.1, ⟨by omega, h.2.1.2⟩, h.2.2⟩
        · by_cases e : v.f1 = y
          · left
            obtain ⟨v0, v1⟩ := v
            dsimp only at e h
            rw [e, h.1]
          · exact Or.inr ⟨h.1, ⟨by omega, h.2.1.2⟩, h.2.2⟩) (by simp at h2; omega))
      refine ⟨r, Ev.step (fun k => ?_) r1, r2⟩
      simp only [spec_l04Near.l1]; rw [if_pos (by omega), en, Option.bind_some, if_pos c, if_pos (by omega), hw]
    · obtain ⟨r, r1, r2⟩ := ih (y + 1) o (by omega) (by omega) (by omega) (by omega) (fun o' h1 h2 => cont o' (fun v => by
        rw [h1]
        refine or_congr Iff.rfl ⟨fun h => ⟨h.1, ⟨by omega, h.2.1.2⟩, h.2.2⟩, fun h => ⟨h.1, ⟨?_, h.2.1.2⟩, h.2.2⟩⟩
        by_cases e : v.f1 = y
        · have := h.2.2; rw [h.1, e] at this; exact absurd this c
        · omega) (by omega))
      refine ⟨r, Ev.step (fun k => ?_) r1, r2⟩
      simp only [spec_l04Near.l1]; rw [if_pos (by omega), en, Option.bind_some, if_neg c, hw]
set_option maxRecDepth 100000 in
theorem near_all {fr A : Int} (hf : 0 ≤ fr ∧ fr ≤ 1) (d : Nat) : ∀ (x : Int) (o : List S44), -128 ≤ x → x ≤ 129 → 129 - x = d → o.length + 257 * d ≤ 70000 →
    ∃ r : List S44, Ev (fun k => spec_l04Near.l0 k fr A 128 o x) r ∧ (∀ v, v ∈ r ↔ v ∈ o ∨ ((x ≤ v.f0 ∧ v.f0 ≤ 128) ∧ (-128 ≤ v.f1 ∧ v.f1 ≤ 128) ∧ nrq fr v.f0 v.f1 ≤ A)) ∧ r.length ≤ 70000 := by
  induction d with
  | zero =>
    intro x o h0 h1 hd ho
    refine ⟨o, Ev.one (fun k => ?_), fun v => ⟨Or.inl, fun h => h.elim id fun h => by omega⟩, by omega⟩
    simp only [spec_l04Near.l0]; rw [if_neg (by omega)]
  | succ d ih =>
    intro x o h0 h1 hd ho
    have hw : wrap64 (x + 1) = x + 1 := w64s (by omega) (by omega)
    obtain ⟨r, r1, r2, r3⟩ := near_row (fr := fr) (A := A) (x := x) hf (by omega) (Q := fun r => (∀ v, v ∈ r ↔ v ∈ o ∨ ((x ≤ v.f0 ∧ v.f0 ≤ 128) ∧ (-128 ≤ v.f1 ∧ v.f1 ≤ 128) ∧ nrq fr v.f0 v.f1 ≤ A)) ∧ r.length ≤ 70000) 257 (-128) o (by decide) (by decide) (by simp) (by omega) (fun o' g1 g2 => by
      obtain ⟨r, r1, r2, r3⟩ := ih (x + 1) o' (by omega) (by omega) (by omega) (by omega)
      rw [hw]
      refine ⟨r, r1, fun v => ?_, r3⟩
      rw [r2, g1, or_assoc]
      refine or_congr Iff.rfl ⟨fun h => ?_, fun h => ?_⟩
      · rcases h with h | h
        · exact ⟨by omega, h.2.1, h.2.2⟩
        · exact ⟨by omega, h.2⟩
      · by_cases e : v.f0 = x
        · exact Or.inl ⟨e, h.2.1, h.2.2⟩
        · exact Or.inr ⟨by omega, h.2⟩)
    refine ⟨r, Ev.step (fun k => ?_) r1, r2, r3⟩
    simp only [spec_l04Near.l0]; rw [if_pos (by omega), w64s (x := -128) (by omega) (by omega)]
def Att (fr a b c : Int) (N : List S44) (m : Int) : Prop := ∃ v ∈ N, Cand fr a b c v ∧ nrq fr v.f0 v.f1 = m
theorem Att.mk {fr a b c : Int} {N : List S44} {m : Int} (h : ∃ v ∈ N, Cand fr a b c v ∧ nrq fr v.f0 v.f1 = m) : Att fr a b c N m := h
theorem least_loop {fr a b c : Int} (h : FL fr a b c) (N : List S44) (hN : N.length ≤ 70000) (hb : ∀ v ∈ N, (-128 ≤ v.f0 ∧ v.f0 ≤ 128) ∧ -128 ≤ v.f1 ∧ v.f1 ≤ 128) (d : Nat) : ∀ (i : Nat) (m : Int), i ≤ N.length → N.length - i = d → 0 < m → m ≤ a * a → Att fr a b c N m → (∀ v ∈ N.take i, Cand fr a b c v → m ≤ nrq fr v.f0 v.f1) →
    (∀ m', 0 < m' → m' ≤ a * a → Att fr a b c N m' → (∀ v ∈ N, Cand fr a b c v → m' ≤ nrq fr v.f0 v.f1) → ∃ r : List S44, Ev (fun k => spec_l04Shortest.l1 k fr N m' [] 0 a b c) r ∧ r ≠ [] ∧ ∀ v ∈ r, v ∈ N ∧ nrq fr v.f0 v.f1 = m') →
    ∃ (r : List S44) (m' : Int), Ev (fun k => spec_l04Shortest.l0 k fr N m i a b c) r ∧ r ≠ [] ∧ (∀ v ∈ r, v ∈ N ∧ nrq fr v.f0 v.f1 = m') ∧ m' ≤ a * a ∧ Att fr a b c N m' ∧ (∀ v ∈ N, Cand fr a b c v → m' ≤ nrq fr v.f0 v.f1) := by
  induction d with
  | zero =>
    intro i m hi hd h0 h1 he ha cont
    rw [List.take_of_length_le (by omega)] at ha
    obtain ⟨r, r1, r2, r3⟩ := cont m h0 h1 he ha
    refine ⟨r, m, Ev.step (fun k => ?_) r1, r2, r3, h1, he, ha⟩
    simp only [spec_l04Shortest.l0]; rw [if_neg (by omega)]
  | succ d ih =>
    intro i m hi hd h0 h1 he ha cont
    have hi1 : i < N.length := by omega
    have hd2 : N.length - (i + 1) = d := by omega
    have hw : wrap64 ((i : Int) + 1) = ((i + 1 : Nat) : Int) := by rw [w64s (by omega) (by omega)]; omega
    obtain ⟨b1, b2⟩ := hb _ (List.getElem_mem hi1)
    have en := spec_nrq (x := N[i].f0) (y := N[i].f1) h.1 (by omega) (by omega)
    have eh := spec_has_eq (h.2.mod4 (x := N[i].f0) (y := N[i].f1) (by omega) (by omega) (by omega) (by omega))
    have skip : (Cand fr a b c N[i] → m ≤ nrq fr N[i].f0 N[i].f1) → _ := fun hs => ih (i + 1) m hi1 hd2 h0 h1 he (fun v hv hc => by
      rcases (take_mem hi1 v).1 hv with hv | rfl
      · exact ha v hv hc
      · exact hs hc) cont
    by_cases c0 : nrq fr N[i].f0 N[i].f1 > 0
    · by_cases c1 : nrq fr N[i].f0 N[i].f1 < m
      · by_cases c2 : red a b c N[i].f0 N[i].f1 = (0, 0)
        · obtain ⟨r, m', r1, r2⟩ := ih (i + 1) (nrq fr N[i].f0 N[i].f1) hi1 hd2 c0 (Int.le_trans (Int.le_of_lt c1) h1) (Att.mk ⟨_, List.getElem_mem hi1, ⟨c2, Int.ne_of_gt c0⟩, rfl⟩) (fun v hv hc => by
            rcases (take_mem hi1 v).1 hv with hv | rfl
            · exact Int.le_of_lt (Int.lt_of_lt_of_le c1 (ha v hv hc))
            · exact Int.le_refl _) cont
          refine ⟨r, m', Ev.step (fun k => ?_) r1, r2⟩
          simp only [spec_l04Shortest.l0]
          rw [if_pos (by omega), if_pos (by omega), rd_ve _ _ hi1, en, Option.bind_some, if_pos c0, if_pos c1, eh, Option.bind_some, if_pos (decide_eq_true c2), hw]
        · obtain ⟨r, m', r1, r2⟩ := skip fun hc => absurd hc.1 c2
          refine ⟨r, m', Ev.step (fun k => ?_) r1, r2⟩
          simp only [spec_l04Shortest.l0]
          rw [if_pos (by omega), if_pos (by omega), rd_ve _ _ hi1, en, Option.bind_some, if_pos c0, if_pos c1, eh, Option.bind_some, if_neg (by simp [c2]), hw]
      · obtain ⟨r, m', r1, r2⟩ := skip fun _ => Int.not_lt.1 c1
        refine ⟨r, m', Ev.step (fun k => ?_) r1, r2⟩
        simp only [spec_l04Shortest.l0]
        rw [if_pos (by omega), if_pos (by omega), rd_ve _ _ hi1, en, Option.bind_some, if_pos c0, if_neg c1, hw]
    · obtain ⟨r, m', r1, r2⟩ := skip fun hc => by
        have := (nrq_sq (x := N[i].f0) (y := N[i].f1) h.1).2.2
        exact absurd (show nrq fr N[i].f0 N[i].f1 = 0 by omega) hc.2
      refine ⟨r, m', Ev.step (fun k => ?_) r1, r2⟩
      simp only [spec_l04Shortest.l0]
      rw [if_pos (by omega), if_pos (by omega), rd_ve _ _ hi1, en, Option.bind_some, if_neg c0, hw]
theorem pick_loop {fr a b c m : Int} (h : FL fr a b c) (N : List S44) (hN : N.length ≤ 70000) (hb : ∀ v ∈ N, (-128 ≤ v.f0 ∧ v.f0 ≤ 128) ∧ -128 ≤ v.f1 ∧ v.f1 ≤ 128) (d : Nat) : ∀ (i : Nat) (o : List S44), i ≤ N.length → N.length - i = d → o.length ≤ i → (∀ v ∈ o, v ∈ N ∧ nrq fr v.f0 v.f1 = m) → ((∃ v ∈ N.take i, red a b c v.f0 v.f1 = (0, 0) ∧ nrq fr v.f0 v.f1 = m) → o ≠ []) →
    ∃ r : List S44, Ev (fun k => spec_l04Shortest.l1 k fr N m o i a b c) r ∧ (∀ v ∈ r, v ∈ N ∧ nrq fr v.f0 v.f1 = m) ∧ ((∃ v ∈ N, red a b c v.f0 v.f1 = (0, 0) ∧ nrq fr v.f0 v.f1 = m) → r ≠ []) := by
  induction d with
  | zero =>
    intro i o hi hd ho h1 h2
    rw [List.take_of_length_le (by omega)] at h2
    refine ⟨o, Ev.one (fun k => ?_), h1, h2⟩
    simp only [spec_l04Shortest.l1]; rw [if_neg (by omega)]
  | succ d ih =>
    intro i o hi hd ho h1 h2
    have hi1 : i < N.length := by omega
    have hw : wrap64 ((i : Int) + 1) = ((i + 1 : Nat) : Int) := by rw [w64s (by omega) (by omega)]; omega
    obtain ⟨b1, b2⟩ := hb _ (List.getElem_mem hi1)
    have en := spec_nrq (x := N[i].f0) (y := N[i].f1) h.1 (by omega) (by omega)
    have eh := spec_has_eq (h.2.mod4 (x := N[i].f0) (y := N[i].f1) (by omega) (by omega) (by omega) (by omega))
    have skip : ¬ (red a b c N[i].f0 N[i].f1 = (0, 0) ∧ nrq fr N[i].f0 N[i].f1 = m) → _ := fun hs => ih (i + 1) o (by omega) (by omega) (by omega) h1 (fun ⟨v, hv, hc⟩ => by
      rcases (take_mem hi1 v).1 hv with hv | rfl
      · exact h2 ⟨v, hv, hc⟩
      · exact absurd hc hs)
    by_cases c0 : nrq fr N[i].f0 N[i].f1 = m
    · by_cases c2 : red a b c N[i].f0 N[i].f1 = (0, 0)
      · obtain ⟨r, r1, r2⟩ := ih (i + 1) (o ++ [N[i]]) (by omega) (by omega) (by simp; omega) (fun v hv => by
          rcases List.mem_append.1 hv with hv | hv
          · exact h1 v hv
          · rw [List.mem_singleton.1 hv]; exact ⟨List.getElem_mem hi1, c0⟩) (fun _ => by simp)
        refine ⟨r, Ev.step (fun k => ?_) r1, r2⟩
        simp only [spec_l04Shortest.l1]
        rw [if_pos (by omega), if_pos (by omega), rd_ve _ _ hi1, en, Option.bind_some, if_pos c0, eh, Option.bind_some, if_pos (decide_eq_true c2), if_pos (by omega), hw]
      · obtain ⟨r, r1, r2⟩ := skip fun hc => c2 hc.1
        refine ⟨r, Ev.step (fun k => ?_) r1, r2⟩
        simp only [spec_l04Shortest.l1]
        rw [if_pos (by omega), if_pos (by omega), rd_ve _ _ hi1, en, Option.bind_some, if_pos c0, eh, Option.bind_some, if_neg (by simp [c2]), hw]
    · obtain ⟨r, r1, r2⟩ := skip fun hc => c0 hc.2
      refine ⟨r, Ev.step (fun k => ?_) r1, r2⟩
      simp only [spec_l04Shortest.l1]
      rw [if_pos (by omega), if_pos (by omega), rd_ve _ _ hi1, en, Option.bind_some, if_neg c0, hw]
theorem short_spec {fr a b c : Int} (h : FL fr a b c) : ∃ (r : List S44) (m : Int), Ev (fun k => spec_l04Shortest.f k fr a b c) r ∧ r ≠ [] ∧ (∀ v ∈ r, ((-128 ≤ v.f0 ∧ v.f0 ≤ 128) ∧ -128 ≤ v.f1 ∧ v.f1 ≤ 128) ∧ nrq fr v.f0 v.f1 = m) ∧ (∃ v, Cand fr a b c v ∧ nrq fr v.f0 v.f1 = m) ∧ ∀ v : S44, ((-128 ≤ v.f0 ∧ v.f0 ≤ 128) ∧ -128 ≤ v.f1 ∧ v.f1 ≤ 128) → Cand fr a b c v → m ≤ nrq fr v.f0 v.f1 := by
  obtain ⟨l1, l2, l3, l4, l5, l6, _⟩ := id h.2
  have ha2 : 1 * 1 ≤ a * a := Int.mul_le_mul l1 l1 (by omega) (by omega)
  have ha3 := (sq_b (B := 64) (x := a) (by omega) (by omega)).2
  have hw : wrap64 (a * a) = a * a := w64s (by omega) (by omega)
  obtain ⟨N, ⟨K1, n1⟩, n2, n3⟩ := near_all (fr := fr) (A := a * a) h.1 257 (-128) [] (by omega) (by omega) (by omega) (by simp)
  have hN : ∀ v, v ∈ N ↔ (-128 ≤ v.f0 ∧ v.f0 ≤ 128) ∧ (-128 ≤ v.f1 ∧ v.f1 ≤ 128) ∧ nrq fr v.f0 v.f1 ≤ a * a := fun v => by rw [n2]; simp
  have hb : ∀ v ∈ N, (-128 ≤ v.f0 ∧ v.f0 ≤ 128) ∧ -128 ≤ v.f1 ∧ v.f1 ≤ 128 := fun v hv => ⟨((hN v).1 hv).1, ((hN v).1 hv).2.1⟩
  have hna : nrq fr a 0 = a * a := by unfold nrq; rw [Int.mul_zero, Int.mul_zero, Int.mul_zero, Int.add_zero, Int.add_zero]
  obtain ⟨r, m, ⟨K2, r1⟩, r2, r3, r4, r5, r6⟩ := least_loop h N n3 hb N.length 0 (a * a) (by omega) rfl (by omega) (by omega)
    (Att.mk ⟨(⟨a, 0⟩ : S44), (hN _).2 ⟨⟨by show -128 ≤ a; omega, by show a ≤ 128; omega⟩, ⟨by show (-128 : Int) ≤ 0; decide, by show (0 : Int) ≤ 128; decide⟩, by show nrq fr a 0 ≤ a * a; omega⟩, ⟨(red_inL l3 l1).2 ⟨0, by simp, by simp⟩, by show nrq fr a 0 ≠ 0; omega⟩, hna⟩) (fun v hv => by simp at hv)
    (fun m' g0 g1 g2 g3 => by
      obtain ⟨r, r1, r2, r3⟩ := pick_loop (m := m') h N n3 hb N.length 0 [] (by omega) rfl (by simp) (fun v hv => absurd hv List.not_mem_nil) (fun ⟨v, hv, _⟩ => by simp at hv)
      obtain ⟨v, v1, v2, v3⟩ := g2
      exact ⟨r, r1, r3 ⟨v, v1, v2.1, v3⟩, r2⟩)
  refine ⟨r, m, ⟨K1 + K2, fun k hk => ?_⟩, r2, fun v hv => ⟨hb v (r3 v hv).1, (r3 v hv).2⟩, ?_, fun v hv hc => ?_⟩
  · have n1 : spec_l04Near.l0 k fr (a * a) 128 [] (-128) = some N := n1 k (by omega)
    have r1 : spec_l04Shortest.l0 k fr N (a * a) ((0 : Nat) : Int) a b c = some r := r1 k (by omega)
    show spec_l04Shortest.f k fr a b c = _
    unfold spec_l04Shortest.f spec_l04Near.f
    rw [hw, w64s (x := -128) (by omega) (by omega), n1, Option.bind_some]; exact r1
  · obtain ⟨v, _, v2, v3⟩ := r5; exact ⟨v, v2, v3⟩
  · by_cases e : nrq fr v.f0 v.f1 ≤ a * a
    · exact r6 v ((hN v).2 ⟨hv.1, hv.2, e⟩) hc
    · omega
theorem indexV (l : List S44) (x y : Int) (hl : l.length ≤ 1000) : ∀ (n k i : Nat), i + n = l.length → n < k →
    ∃ r, impl_Vec_69.l0 k l (l.length : Int) (i : Int) x y = some r ∧ (0 ≤ r ↔ (⟨x, y⟩ : S44) ∈ l.drop i)
  | n, 0, i, _, h => by omega
  | n, k + 1, i, h1, h2 => by
    unfold impl_Vec_69.l0
    by_cases h : i < l.length
    · rw [if_pos (by omega), if_pos (by omega), if_pos (by omega), rd_ve _ _ h, List.drop_eq_getElem_cons h, List.mem_cons]
      by_cases g : (⟨x, y⟩ : S44) = l[i]
      · rw [if_pos (by rw [← g]; simp)]
        exact ⟨i, rfl, ⟨fun _ => Or.inl g, fun _ => by omega⟩⟩
      · rw [if_neg (by
          intro g'
          simp only [Bool.and_eq_true, beq_iff_eq] at g'
          exact g (by rw [g'.1, g'.2]))]
        rw [w64s (by omega) (by omega)]
        obtain ⟨r, r1, r2⟩ := indexV l x y hl (n - 1) k (i + 1) (by omega) (by omega)
        refine ⟨r, ?_, ?_⟩
        · rw [← r1]; rfl
        · rw [r2]; exact ⟨fun x => Or.inr x, fun x => x.resolve_left g⟩
    · rw [if_neg (by omega)]
      refine ⟨-1, rfl, ?_⟩
      rw [List.drop_eq_nil_of_le (by omega)]
      simp
theorem containsV (l : List S44) (x y : Int) (hl : l.length ≤ 1000) : ∃ q : Bool, Ev (fun k => impl_Vec_37.f k l x y) q ∧ (q = true ↔ (⟨x, y⟩ : S44) ∈ l) := by
  obtain ⟨r, r1, r2⟩ := indexV l x y hl l.length (l.length + 1) 0 (by omega) (by omega)
  refine ⟨decide (r ≥ 0), ⟨l.length + 1, fun k hk => ?_⟩, by rw [decide_eq_true_iff, ge_iff_le, r2, List.drop_zero]⟩
  obtain ⟨s, s1, s2⟩ := indexV l x y hl l.length k 0 (by omega) (by omega)
  show impl_Vec_37.f k l x y = _
  unfold impl_Vec_37.f impl_Vec_69.f
  rw [show ((0 : Nat) : Int) = 0 from rfl] at s1
  rw [s1, Option.bind_some]
  congr 1
  rw [decide_eq_decide, ge_iff_le, ge_iff_le, r2, s2]
theorem along_both {fr a b c : Int} (h : FL fr a b c) : ∃ (S T : List S44) (m : Int), Ev (fun k => impl_shortestVecs.f k fr a b c) S ∧ S.length ≤ 1000 ∧ Ev (fun k => spec_l04Shortest.f k fr a b c) T ∧ 0 < T.length ∧ (∀ v ∈ T, spec_l04Norm.f fr v.f0 v.f1 = some m) ∧
    ∀ u v : Int, (-128 ≤ u ∧ u ≤ 128) → (-128 ≤ v ∧ v ≤ 128) → red a b c u v = (0, 0) → nrq fr u v ≠ 0 → (((⟨u, v⟩ : S44) ∈ S ↔ nrq fr u v = m) ∧ ((⟨-u, -v⟩ : S44) ∈ S ↔ nrq fr u v = m)) := by
  obtain ⟨S, s1, s2, s3⟩ := short_impl h
  obtain ⟨T, m, t1, t2, t3, ⟨w, w1, w2⟩, t5⟩ := short_spec h
  obtain ⟨x, y, x1, x2, x3⟩ := short_ex h
  have hm : m ≤ 126 := by
    obtain ⟨b1, b2⟩ := nrq_box h.1 x2
    have := t5 (⟨x, y⟩ : S44) ⟨⟨by show -128 ≤ x; omega, by show x ≤ 128; omega⟩, by show -128 ≤ y; omega, by show y ≤ 128; omega⟩ ⟨x1, x3⟩
    exact Int.le_trans this x2
  have key : ∀ u v : Int, (-128 ≤ u ∧ u ≤ 128) → (-128 ≤ v ∧ v ≤ 128) → red a b c u v = (0, 0) → nrq fr u v ≠ 0 → ((⟨u, v⟩ : S44) ∈ S ↔ nrq fr u v = m) := fun u v hu hv hr hn => by
    have ht := t5 (⟨u, v⟩ : S44) ⟨hu, hv⟩ ⟨hr, hn⟩
    have ht : m ≤ nrq fr u v := ht
    rw [s3]
    refine ⟨fun ⟨q1, q2, q3⟩ => ?_, fun e => ⟨nrq_box h.1 (by show nrq fr u v ≤ 126; omega), ⟨hr, hn⟩, fun z hz hc => ?_⟩⟩
    · have := q3 w (nrq_box h.1 (by omega)) w1
      have : nrq fr u v ≤ nrq fr w.f0 w.f1 := this
      omega
    · have := t5 z ⟨⟨by omega, by omega⟩, by omega, by omega⟩ hc
      show nrq fr u v ≤ _
      omega
  refine ⟨S, T, m, s1, s2, t1, List.length_pos_iff.2 t2, fun v hv => ?_, fun u v hu hv hr hn => ⟨key u v hu hv hr hn, ?_⟩⟩
  · obtain ⟨⟨b1, b2⟩, b3⟩ := t3 v hv
    rw [spec_nrq h.1 (by omega) (by omega), b3]
  · have hl := h.2
    have hr' : red a b c (-u) (-v) = (0, 0) := (red_inL hl.2.2.1 hl.1).2 (by
      have := inL_sub 1 (⟨0, by simp, by simp⟩ : inL a b c 0 0) ((red_inL hl.2.2.1 hl.1).1 hr)
      rwa [Int.one_mul, Int.one_mul, Int.zero_sub, Int.zero_sub] at this)
    rw [← nrq_neg fr u v] at hn ⊢
    exact key (-u) (-v) (by omega) (by omega) hr' hn
theorem mot_both {fr a b c : Int} (h : FL fr a b c) {q : S46} (g : Good fr a b c q) (hd : detM (q.f0.f0, q.f0.f1, q.f0.f2, q.f0.f3) = -1) : ∃ (u v : Int) (re ce : Bool),
    Ev (fun k => spec_l11Invariant.f k a b c q.f0.f0 q.f0.f1 q.f0.f2 q.f0.f3 1) (u, v) ∧ Ev (fun k => (impl_Mat_axis.f k q.f0.f0 q.f0.f1 q.f0.f2 q.f0.f3).bind fun t => impl_Lattice_multipleIn.f k a b c t.1 t.2) (u, v) ∧
    ((-128 ≤ u ∧ u ≤ 128) ∧ (-128 ≤ v ∧ v ≤ 128) ∧ red a b c u v = (0, 0) ∧ nrq fr u v ≠ 0) ∧
    (Ev (fun k => spec_l11Reflects.f k a b c q.f0.f0 q.f0.f1 q.f0.f2 q.f0.f3 q.f1.f0 q.f1.f1) re ∧ Ev (fun k => impl_Lattice_mayReflect.f k a b c q.f0.f0 q.f0.f1 q.f0.f2 q.f0.f3 q.f1.f0 q.f1.f1) re) ∧
    Ev (fun k => spec_l11Centred.f k a b c q.f0.f0 q.f0.f1 q.f0.f2 q.f0.f3) ce ∧ Ev (fun k => impl_Lattice_isCentred.f k a b c q.f0.f0 q.f0.f1 q.f0.f2 q.f0.f3) ce := by
  obtain ⟨-, ⟨g5, g5'⟩, g6, g6'⟩ := g.small h
  obtain ⟨⟨hm, hkp⟩, -⟩ := g
  obtain ⟨⟨m0, m1, m2, m3⟩, x, y⟩ := q
  dsimp only at *
  have hx : -1000 ≤ x ∧ x ≤ 1000 := by omega
  have hy : -1000 ≤ y ∧ y ≤ 1000 := by omega
  obtain ⟨p, n, hp, hn, e1, e2⟩ := inv_ev h hm hd
  obtain ⟨i1, i2⟩ := inv_impl h hm hd hp hn
  obtain ⟨⟨p1, p2⟩, hp⟩ := hp
  obtain ⟨⟨n1, n2⟩, hn⟩ := hn
  have hst := step_eq h hm hkp hd p1 p2 n1 n2 hp hn
  obtain ⟨-, -, -, -, ⟨b1, b2, b3, b4⟩, b5, b6, b7, b8⟩ := pm_ax h.1 hm hd 0
  have hcb := centB_eq h.2 p2 n2 (x := (axP (m0, m1, m2, m3)).1) (y := (axP (m0, m1, m2, m3)).2) (u := (axN (m0, m1, m2, m3)).1) (v := (axN (m0, m1, m2, m3)).2) ⟨b1, b2⟩ ⟨b3, b4⟩ ⟨b5, b6⟩ ⟨b7, b8⟩
  have cs := spec_cent_ev e1 e2
  have ci := impl_cent_ev i1 i2
  rw [hcb] at cs ci
  obtain ⟨-, hgc, -⟩ := rf_facts _ (rf_row h.1 hm hd)
  dsimp only at hgc
  have hg0 : Int.gcd ((alC (m0, m1, m2, m3)).1 * a) ((alC (m0, m1, m2, m3)).1 * b + (alC (m0, m1, m2, m3)).2 * c) ≠ 0 := by rw [hst]; split <;> omega
  have si := fun k hk => impl_refl_eq h hm hx hy hd hg0 k hk
  have p64 : p ≤ 64 := by omega
  have s1 := small_mul (n := p) (by omega) p2 b1 b2
  have s2 := small_mul (n := p) (by omega) p2 b3 b4
  refine ⟨p * (axP (m0, m1, m2, m3)).1, p * (axP (m0, m1, m2, m3)).2, _, _, e1, i1, ⟨⟨by omega, by omega⟩, ⟨by omega, by omega⟩, hp.1, fun e => ?_⟩, ⟨?_, ⟨10000, fun k hk => si k hk⟩⟩, cs, ci⟩
  · obtain ⟨z1, z2⟩ := nrq_zero h.1 e
    have hp0 : (p : Int) ≠ 0 := by omega
    have y1 := (Int.mul_eq_zero.1 z1).resolve_left hp0
    have y2 := (Int.mul_eq_zero.1 z2).resolve_left hp0
    rw [y1, y2] at hgc
    exact absurd hgc (by decide)
  · obtain ⟨K1, c1⟩ := cs
    obtain ⟨K2, c2⟩ := e1
    refine ⟨K1 + K2 + 10000000, fun k hk => ?_⟩
    have g1 := c1 k (by omega)
    have g2 := c2 k (by omega)
    dsimp only at g1 g2
    show spec_l11Reflects.f k a b c m0 m1 m2 m3 x y = _
    unfold spec_l11Reflects.f
    rw [g2, Option.bind_some, g1, Option.bind_some, hst]
    by_cases hc : ((p * n * ((axP (m0, m1, m2, m3)).1 * (axN (m0, m1, m2, m3)).2 - (axP (m0, m1, m2, m3)).2 * (axN (m0, m1, m2, m3)).1).natAbs : Nat) : Int) = a * c
    · rw [if_neg (by simp [hc]), if_pos hc]
      unfold spec_l01Scale.f
      rw [Option.bind_some]
      dsimp only
      rw [w64s (by omega) (by omega), w64s (by omega) (by omega), spec_refl_j0 h.1 hm hx hy hd (2 * p) (by omega) (by omega) (by rw [Int.natCast_mul, Int.mul_assoc]; rfl) (by rw [Int.natCast_mul, Int.mul_assoc]; rfl) k (by omega)]
    · rw [if_pos (decide_eq_true hc), if_neg hc, spec_refl_j0 h.1 hm hx hy hd p p1 (by omega) rfl rfl k (by omega)]
theorem pm_det0 : ∀ m ∈ pmL 0, detM m = 1 ∨ detM m = -1 := by decide +kernel
theorem pm_det1 : ∀ m ∈ pmL 1, detM m = 1 ∨ detM m = -1 := by decide +kernel
theorem facts_loop {fr a b c : Int} (h : FL fr a b c) (xs : List S46) (hl : xs.length ≤ 768) (hg : ∀ j (hj : j < xs.length), Good fr a b c xs[j]) (d : Nat) : ∀ (i : Nat) (n m r q : Int) (al : Bool), i ≤ xs.length → xs.length - i = d →
    ∃ (R m' r' q' : Int) (al' : Bool), Ev (fun k => spec_l11Facts.l0 k fr xs i a b c n m r q al) (R, m', r', q', al') ∧ Ev (fun k => impl_rotationOrder.l0 k n xs (xs.length : Int) i) R ∧ ∀ x0 : Int, Ev (fun k => impl_factsOf.l0 k fr xs (xs.length : Int) i a b c x0 m r q al) (x0, m', r', q', al') := by
  induction d with
  | zero =>
    intro i n m r q al hi hd
    refine ⟨n, m, r, q, al, Ev.one (fun k => ?_), Ev.one (fun k => ?_), fun x0 => Ev.one (fun k => ?_)⟩
    · simp only [spec_l11Facts.l0]; rw [if_neg (by omega)]
    · simp only [impl_rotationOrder.l0]; rw [if_neg (by omega)]
    · simp only [impl_factsOf.l0]; rw [if_neg (by omega)]
  | succ d ih =>
    intro i n m r q al hi hd
    have h1 : i < xs.length := by omega
    have hw : wrap64 ((i : Int) + 1) = ((i + 1 : Nat) : Int) := by rw [w64s (by omega) (by omega)]; omega
    obtain ⟨d1, d2⟩ := det_both h (hg i h1)
    by_cases e : xs[i].f0.f0 * xs[i].f0.f3 - xs[i].f0.f1 * xs[i].f0.f2 = 1
    · have ho := fun k hk => pm_ord h.1 (hg i h1).1.1 k hk
      obtain ⟨R, m', r', q', al', r1, r2, r3⟩ := ih (i + 1) (mx n (ordM (xs[i].f0.f0, xs[i].f0.f1, xs[i].f0.f2, xs[i].f0.f3))) m r q al (by omega) (by omega)
      refine ⟨R, m', r', q', al', Ev.from' 40 (fun k hk => ?_) r1, Ev.from' 40 (fun k hk => ?_) r2, fun x0 => Ev.step (fun k => ?_) (r3 x0)⟩
      · simp only [spec_l11Facts.l0]
        rw [if_pos (by omega), if_pos (by omega), rd_mo _ _ h1, d1, Option.bind_some, if_pos e, (ho k hk).1, Option.bind_some, hw]
      · simp only [impl_rotationOrder.l0]
        rw [if_pos (by omega), if_pos (by omega), if_pos (by omega), rd_mo _ _ h1, d2, Option.bind_some, if_pos e, (ho k hk).2, Option.bind_some, hw]
      · simp only [impl_factsOf.l0]
        rw [if_pos (by omega), if_pos (by omega), if_pos (by omega), rd_mo _ _ h1, d2, Option.bind_some, if_pos e, hw]
    · have hdm : detM (xs[i].f0.f0, xs[i].f0.f1, xs[i].f0.f2, xs[i].f0.f3) = -1 := by
        have : detM (xs[i].f0.f0, xs[i].f0.f1, xs[i].f0.f2, xs[i].f0.f3) = 1 ∨ detM (xs[i].f0.f0, xs[i].f0.f1, xs[i].f0.f2, xs[i].f0.f3) = -1 := by
          rcases fr01 h.1 with hf | hf
          · exact pm_det0 _ (hf ▸ (hg i h1).1.1)
          · exact pm_det1 _ (hf ▸ (hg i h1).1.1)
        exact this.resolve_left e
      obtain ⟨u, v, re, ce, ⟨K1, v1⟩, ⟨K2, v2⟩, ⟨hu, hv, hr, hn⟩, ⟨⟨K3, v3⟩, ⟨K4, v4⟩⟩, ⟨K5, v5⟩, ⟨K6, v6⟩⟩ := mot_both h (hg i h1) hdm
      have v1 : ∀ k, K1 ≤ k → spec_l11Invariant.f k a b c xs[i].f0.f0 xs[i].f0.f1 xs[i].f0.f2 xs[i].f0.f3 1 = some (u, v) := v1
      have v2 : ∀ k, K2 ≤ k → ((impl_Mat_axis.f k xs[i].f0.f0 xs[i].f0.f1 xs[i].f0.f2 xs[i].f0.f3).bind fun t => impl_Lattice_multipleIn.f k a b c t.1 t.2) = some (u, v) := v2
      have v3 : ∀ k, K3 ≤ k → spec_l11Reflects.f k a b c xs[i].f0.f0 xs[i].f0.f1 xs[i].f0.f2 xs[i].f0.f3 xs[i].f1.f0 xs[i].f1.f1 = some re := v3
      have v4 : ∀ k, K4 ≤ k → impl_Lattice_mayReflect.f k a b c xs[i].f0.f0 xs[i].f0.f1 xs[i].f0.f2 xs[i].f0.f3 xs[i].f1.f0 xs[i].f1.f1 = some re := v4
      have v5 : ∀ k, K5 ≤ k → spec_l11Centred.f k a b c xs[i].f0.f0 xs[i].f0.f1 xs[i].f0.f2 xs[i].f0.f3 = some ce := v5
      have v6 : ∀ k, K6 ≤ k → impl_Lattice_isCentred.f k a b c xs[i].f0.f0 xs[i].f0.f1 xs[i].f0.f2 xs[i].f0.f3 = some ce := v6
      have j1 : ∀ al : Bool, ∃ (R m' r' q' : Int) (al' : Bool), Ev (fun k => spec_l11Facts.j1 k fr xs i a b c n m r q al xs[i].f0.f0 xs[i].f0.f1 xs[i].f0.f2 xs[i].f0.f3 xs[i].f1.f0 xs[i].f1.f1) (R, m', r', q', al') ∧ Ev (fun k => impl_rotationOrder.l0 k n xs (xs.length : Int) i) R ∧ ∀ x0 : Int, Ev (fun k => impl_factsOf.j1 k fr xs (xs.length : Int) i a b c x0 m r q al xs[i].f0.f0 xs[i].f0.f1 xs[i].f0.f2 xs[i].f0.f3 xs[i].f1.f0 xs[i].f1.f1) (x0, m', r', q', al') := fun al => by
        obtain ⟨R, m', r', q', al', r1, r2, r3⟩ := ih (i + 1) n (wrap64 (m + 1)) (if re = true then wrap64 (r + 1) else r) (if ce = true then wrap64 (q + 1) else q) al (by omega) (by omega)
        refine ⟨R, m', r', q', al', Ev.from' (K3 + K5) (fun k hk => ?_) r1, Ev.step (fun k => ?_) r2, fun x0 => Ev.from' (K4 + K6) (fun k hk => ?_) (r3 x0)⟩
        · simp only [spec_l11Facts.j1]
          rw [v3 k (by omega), Option.bind_some, v5 k (by omega), Option.bind_some, hw, Option.bind_some]
          cases re <;> cases ce <;> rfl
        · simp only [impl_rotationOrder.l0]
          rw [if_pos (by omega), if_pos (by omega), if_pos (by omega), rd_mo _ _ h1, d2, Option.bind_some, if_neg e, hw]
        · simp only [impl_factsOf.j1]
          rw [v4 k (by omega), Option.bind_some, v6 k (by omega), Option.bind_some, hw, Option.bind_some]
          cases re <;> cases ce <;> rfl
      by_cases hm0 : m = 0
      · obtain ⟨S, T, w, ⟨K7, s1⟩, s2, ⟨K8, t1⟩, t2, t3, key⟩ := along_both h
        have s1 : ∀ k, K7 ≤ k → impl_shortestVecs.f k fr a b c = some S := s1
        have t1 : ∀ k, K8 ≤ k → spec_l04Shortest.f k fr a b c = some T := t1
        obtain ⟨k1, k2⟩ := key u v hu hv hr hn
        obtain ⟨R, m', r', q', al', r1, r2, r3⟩ := j1 (nrq fr u v == w)
        have hT : spec_l04Norm.f fr (rd_T44 T 0).f0 (rd_T44 T 0).f1 = some w := by
          have := rd_ve T 0 t2
          rw [show ((0 : Nat) : Int) = 0 from rfl] at this
          rw [this]; exact t3 _ (List.getElem_mem t2)
        have hN := spec_nrq (x := u) (y := v) h.1 (by omega) (by omega)
        obtain ⟨c1, ⟨K9, c1e⟩, c1i⟩ := containsV S u v s2
        obtain ⟨c2, ⟨K10, c2e⟩, c2i⟩ := containsV S (-u) (-v) s2
        have c1e : ∀ k, K9 ≤ k → impl_Vec_37.f k S u v = some c1 := c1e
        have c2e : ∀ k, K10 ≤ k → impl_Vec_37.f k S (-u) (-v) = some c2 := c2e
        have f1 : c1 = (nrq fr u v == w) := by rw [Bool.eq_iff_iff, beq_iff_eq, c1i, k1]
        have f2 : c2 = (nrq fr u v == w) := by rw [Bool.eq_iff_iff, beq_iff_eq, c2i, k2]
        have ht : impl_Vec_times.f u v (-1) = some (-u, -v) := by
          unfold impl_Vec_times.f
          rw [Int.neg_mul, Int.neg_mul, Int.one_mul, Int.one_mul, w64s (x := -u) (by omega) (by omega), w64s (x := -v) (by omega) (by omega)]
        refine ⟨R, m', r', q', al', Ev.from' (K1 + K8) (fun k hk => ?_) r1, r2, fun x0 => Ev.from' (K2 + K7 + K9 + K10) (fun k hk => ?_) (r3 x0)⟩
        · simp only [spec_l11Facts.l0]
          rw [if_pos (by omega), if_pos (by omega), rd_mo _ _ h1, d1, Option.bind_some, if_neg e, if_pos hm0, t1 k (by omega), Option.bind_some, if_pos (by omega), hT, Option.bind_some, v1 k (by omega), Option.bind_some]
          dsimp only
          rw [hN, Option.bind_some]
        · have g2 := v2 k (by omega)
          simp only [impl_factsOf.l0]
          rw [if_pos (by omega), if_pos (by omega), if_pos (by omega), rd_mo _ _ h1, d2, Option.bind_some, if_neg e, if_pos hm0]
          rcases hax : impl_Mat_axis.f k xs[i].f0.f0 xs[i].f0.f1 xs[i].f0.f2 xs[i].f0.f3 with _ | t
          · rw [hax, Option.bind_none] at g2; cases g2
          rw [hax, Option.bind_some] at g2
          rw [Option.bind_some, g2, Option.bind_some, s1 k (by omega), Option.bind_some]
          dsimp only
          rw [c1e k (by omega), Option.bind_some]
          by_cases hc : c1 = true
          · rw [if_pos hc, ← f1, hc]
          · rw [if_neg hc, ht, Option.bind_some]
            dsimp only
            rw [c2e k (by omega), Option.bind_some, f2]
      · obtain ⟨R, m', r', q', al', r1, r2, r3⟩ := j1 al
        refine ⟨R, m', r', q', al', Ev.step (fun k => ?_) r1, r2, fun x0 => Ev.step (fun k => ?_) (r3 x0)⟩
        · simp only [spec_l11Facts.l0]
          rw [if_pos (by omega), if_pos (by omega), rd_mo _ _ h1, d1, Option.bind_some, if_neg e, if_neg hm0]
        · simp only [impl_factsOf.l0]
          rw [if_pos (by omega), if_pos (by omega), if_pos (by omega), rd_mo _ _ h1, d2, Option.bind_some, if_neg e, if_neg hm0]
theorem both_FactsOf (fr a b c : Int) (xs : List S46) (hl : (xs.length : Int) ≤ 1048576) : ∃ r, Ev (fun k => spec_FactsOf.f k fr a b c xs) r ∧ Ev (fun k => impl_FactsOf.f k fr a b c xs) r := by
  obtain ⟨r, ⟨K1, r1⟩, ⟨K2, r2⟩, r3⟩ := groupCode_both fr a b c xs hl
  have q := fun i => spec_l06Code_eq fr a b c i
  have hc : ∀ k, K1 ≤ k → spec_l07Code.f k fr a b c xs true = some (if FL fr a b c then (if r = true then 0 else 2) else 1) := fun k hk => by
    have g : spec_IsGroup.f k fr a b c xs = some r := r1 k hk
    unfold spec_l07Code.f
    rw [if_pos rfl, g, Option.bind_some, q, Option.bind_some]
  have hi : ∀ k, K2 ≤ k → impl_groupCode.f k fr a b c [xs] = some (if FL fr a b c then (if r = true then 0 else 2) else 1) := fun k hk => r2 k hk
  by_cases e : r = true
  · obtain ⟨h, hg, hs, hn⟩ := r3 e
    rw [if_pos h, if_pos e] at hc hi
    obtain ⟨l, hl', ⟨K3, n1⟩, ⟨K4, n2⟩⟩ := shifts_loop xs hl xs.length 0 [] (by omega) rfl (by simp)
    have n1 : ∀ k, K3 ≤ k → spec_l06Shifts.f k xs = some l := fun k hk => n1 k hk
    have n2 : ∀ k, K4 ≤ k → impl_shiftsOf.f k xs = some l := fun k hk => n2 k hk
    by_cases hs : (l.length : Int) > 1
    · refine ⟨(0, 0, 0, 0, false, 5), ⟨K1 + K3 + 1, fun k hk => ?_⟩, ⟨K2 + K4, fun k hk => ?_⟩⟩
      · obtain ⟨k, rfl⟩ : ∃ j, k = j + 1 := ⟨k - 1, by omega⟩
        show spec_FactsOf.f (k + 1) fr a b c xs = _
        unfold spec_FactsOf.f
        rw [hc (k + 1) (by omega), Option.bind_some, if_pos rfl, n1 (k + 1) (by omega), Option.bind_some, decide_eq_true hs]
        simp only [spec_FactsOf.j0]
        rw [if_pos trivial, if_neg (by decide)]
      · show impl_FactsOf.f k fr a b c xs = _
        unfold impl_FactsOf.f impl_fixedCode.f
        rw [hi k (by omega), Option.bind_some, if_pos rfl, n2 k (by omega), Option.bind_some, if_pos hs, Option.bind_some, if_neg (by decide)]
    · obtain ⟨R, m', r', q', al', ⟨K5, f1⟩, ⟨K6, f2⟩, f3⟩ := facts_loop h xs hn hg xs.length 0 1 0 0 0 false (by omega) rfl
      obtain ⟨K7, f3⟩ := f3 R
      have f1 : ∀ k, K5 ≤ k → spec_l11Facts.f k fr a b c xs = some (R, m', r', q', al') := fun k hk => f1 k hk
      have f2 : ∀ k, K6 ≤ k → impl_rotationOrder.f k xs = some R := fun k hk => f2 k hk
      have f3 : ∀ k, K7 ≤ k → impl_factsOf.l0 k fr xs (xs.length : Int) 0 a b c R 0 0 0 false = some (R, m', r', q', al') := fun k hk => f3 k hk
      refine ⟨(R, m', r', q', al', 0), ⟨K1 + K3 + K5 + 1, fun k hk => ?_⟩, ⟨K2 + K4 + K6 + K7, fun k hk => ?_⟩⟩
      · obtain ⟨k, rfl⟩ : ∃ j, k = j + 1 := ⟨k - 1, by omega⟩
        show spec_FactsOf.f (k + 1) fr a b c xs = _
        unfold spec_FactsOf.f
        rw [hc (k + 1) (by omega), Option.bind_some, if_pos rfl, n1 (k + 1) (by omega), Option.bind_some, decide_eq_false hs]
        simp only [spec_FactsOf.j0]
        rw [if_neg (by decide), if_pos trivial, f1 k (by omega), Option.bind_some]
      · show impl_FactsOf.f k fr a b c xs = _
        unfold impl_FactsOf.f impl_fixedCode.f impl_factsOf.f
        rw [hi k (by omega), Option.bind_some, if_pos rfl, n2 k (by omega), Option.bind_some, if_neg hs, Option.bind_some, if_pos rfl, f2 k (by omega), Option.bind_some, f3 k (by omega), Option.bind_some]
  · have hne : (if FL fr a b c then (if r = true then 0 else 2) else 1 : Int) ≠ 0 := by
      by_cases h : FL fr a b c
      · rw [if_pos h, if_neg e]; decide
      · rw [if_neg h]; decide
    refine ⟨(0, 0, 0, 0, false, if FL fr a b c then (if r = true then 0 else 2) else 1), ⟨K1 + 1, fun k hk => ?_⟩, ⟨K2, fun k hk => ?_⟩⟩
    · obtain ⟨k, rfl⟩ : ∃ j, k = j + 1 := ⟨k - 1, by omega⟩
      show spec_FactsOf.f (k + 1) fr a b c xs = _
      unfold spec_FactsOf.f
      rw [hc (k + 1) (by omega), Option.bind_some, if_neg hne]
      simp only [spec_FactsOf.j0]
      rw [if_neg (by decide), if_neg hne]
    · show impl_FactsOf.f k fr a b c xs = _
      unfold impl_FactsOf.f impl_fixedCode.f
      rw [hi k hk, Option.bind_some, if_neg hne, Option.bind_some, if_neg hne]
end Go.Proofs.YtfmjboloeabjmaaGreat.LA
