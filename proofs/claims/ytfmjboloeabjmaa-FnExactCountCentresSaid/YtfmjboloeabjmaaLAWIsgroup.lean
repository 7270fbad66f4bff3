/- Plain lemmas: a group modulo a lattice has at most 768 motions; IsGroup on both sides. -/
import Derived.Test.YtfmjboloeabjmaaAid
import Derived.Test.YtfmjboloeabjmaaPAx0
import Derived.Test.YtfmjboloeabjmaaLAABasic
import Derived.Test.YtfmjboloeabjmaaLAGLattice
import Derived.Test.YtfmjboloeabjmaaLAOHermite
import Derived.Test.YtfmjboloeabjmaaLAPPoints
import Derived.Test.YtfmjboloeabjmaaLAUOrder
import Derived.Test.YtfmjboloeabjmaaLAVGroup
import Derived.Test.YtfmjboloeabjmaaPAx0
import Derived.Test.YtfmjboloeabjmaaPAx11
import Derived.Test.YtfmjboloeabjmaaPAx12
import Derived.Test.YtfmjboloeabjmaaPAx15
import Derived.Test.YtfmjboloeabjmaaPAx16
import Derived.Test.YtfmjboloeabjmaaPAx5
import Derived.Test.YtfmjboloeabjmaaPAx8
namespace Go.Proofs.Ytfmjboloeabjmaa.LA
open Go.RowKit Go.Proofs.Ytfmjboloeabjmaa.PA Go.Proofs.YtfmjboloeabjmaaW.PrintWords Go.Proofs.YtfmjboloeabjmaaW.PrintLast Go.Proofs.Ytfmjboloeabjmaa.Aid
set_option linter.unusedVariables false
set_option linter.unusedSimpArgs false

theorem pigeon {α : Type} [DecidableEq α] : ∀ (l L : List α), l.Nodup → (∀ x ∈ l, x ∈ L) → l.length ≤ L.length
  | [], _, _, _ => Nat.zero_le _
  | x :: l, L, hn, hs => by
    obtain ⟨h1, h2⟩ := List.nodup_cons.1 hn
    have hx : x ∈ L := hs x List.mem_cons_self
    have := pigeon l (L.erase x) h2 (fun y hy => (List.mem_erase_of_ne (a := y) (b := x) (fun e => h1 (by rw [← e]; exact hy))).2 (hs y (List.mem_cons_of_mem _ hy)))
    rw [List.length_erase_of_mem hx] at this
    have h3 : 0 < L.length := List.length_pos_of_mem hx
    rw [List.length_cons]; omega
/-- A motion as numbers. -/
def tupMo (m : S44) : (Int × Int × Int × Int) × Int × Int := ((m.f0.f0, m.f0.f1, m.f0.f2, m.f0.f3), m.f1.f0, m.f1.f1)
theorem tupMo_inj {x y : S44} (h : tupMo x = tupMo y) : x = y := by
  obtain ⟨⟨a, b, c, d⟩, e, f⟩ := x
  obtain ⟨⟨a', b', c', d'⟩, e', f'⟩ := y
  simp only [tupMo, Prod.mk.injEq] at h
  obtain ⟨⟨rfl, rfl, rfl, rfl⟩, rfl, rfl⟩ := h
  rfl
def boxL (fr : Int) (a c : Nat) : List ((Int × Int × Int × Int) × Int × Int) := (pmL fr).flatMap fun m => (List.range a).flatMap fun (x : Nat) => (List.range c).map fun (y : Nat) => (m, (x : Int), (y : Int))
theorem flat_const {α β : Type} (f : α → List β) (n : Nat) : ∀ l : List α, (∀ x ∈ l, (f x).length = n) → (l.flatMap f).length = l.length * n
  | [], _ => by simp
  | x :: l, h => by rw [List.flatMap_cons, List.length_append, h x List.mem_cons_self, flat_const f n l (fun y hy => h y (List.mem_cons_of_mem _ hy)), List.length_cons, Nat.add_mul]; omega
theorem boxL_len (fr : Int) (a c : Nat) : (boxL fr a c).length = (pmL fr).length * (a * c) := by
  unfold boxL
  refine flat_const _ _ _ fun m _ => ?_
  rw [flat_const _ c _ (fun x _ => by simp)]; simp
theorem len_768 {fr a b c : Int} (h : FL fr a b c) (xs : List S44) (hg : ∀ i (hi : i < xs.length), Good fr a b c xs[i]) (hs : Incr xs) : xs.length ≤ 768 := by
  have hm := h.2.mul
  have hl := h.2
  obtain ⟨l1, l2, l3, l4, l5, l6, l7⟩ := id hl
  have hp := pigeon (xs.map tupMo) (boxL fr a.toNat c.toNat) (by
    unfold List.Nodup
    rw [List.pairwise_iff_getElem]
    intro i j hi hj hij e
    rw [List.length_map] at hi hj
    rw [List.getElem_map, List.getElem_map] at e
    have := hs i j hi hj hij
    rw [tupMo_inj e] at this
    exact ltM_irrefl _ this) (by
    intro t ht
    obtain ⟨m, hm, rfl⟩ := List.mem_map.1 ht
    obtain ⟨i, hi, rfl⟩ := List.getElem_of_mem hm
    have g := hg i hi
    have hr := red_range (x := xs[i].f1.f0) (y := xs[i].f1.f1) hl
    rw [g.2] at hr
    dsimp only at hr
    unfold boxL
    rw [List.mem_flatMap]
    refine ⟨_, g.1.1, ?_⟩
    rw [List.mem_flatMap]
    refine ⟨xs[i].f1.f0.toNat, by rw [List.mem_range]; omega, ?_⟩
    rw [List.mem_map]
    refine ⟨xs[i].f1.f1.toNat, by rw [List.mem_range]; omega, ?_⟩
    unfold tupMo
    rw [Int.toNat_of_nonneg hr.1.1, Int.toNat_of_nonneg hr.2.1])
  rw [List.length_map, boxL_len] at hp
  have h1 := pm_len fr
  have h2 : a.toNat * c.toNat ≤ 64 := by
    have : ((a.toNat * c.toNat : Nat) : Int) = a * c := by rw [Int.natCast_mul, Int.toNat_of_nonneg (by omega), Int.toNat_of_nonneg (by omega)]
    omega
  exact Nat.le_trans hp (Nat.mul_le_mul h1 h2)
/-- A group modulo a lattice, for a valid frame and lattice: what both sides answer, and what a list is that they let in. -/
theorem isGroup_both (fr a b c : Int) (xs : List S44) (hl : (xs.length : Int) ≤ 1048576) : ∃ r, Ev (fun k => spec_IsGroup.f k fr a b c xs) r ∧ (FL fr a b c → Ev (fun k => impl_isGroup.f k fr a b c xs) r) ∧ (¬ FL fr a b c → r = false) ∧ (r = true → (∀ j (hj : j < xs.length), Good fr a b c xs[j]) ∧ Incr xs ∧ xs.length ≤ 768) := by
  have q1 := spec_l04Code_eq fr a b c
  by_cases h : FL fr a b c
  · rw [if_pos h] at q1
    obtain ⟨r, ⟨K1, r1⟩, ⟨K2, r2⟩, r3⟩ := list_both h xs hl xs.length 0 (by omega) rfl (fun j hj hji => by omega) (fun j hj hji => by omega)
    refine ⟨r, ⟨K1 + 1, fun k hk => ?_⟩, fun _ => ⟨K2 + 100, fun k hk => ?_⟩, fun g => absurd h g, fun e => ⟨(r3 e).1, (r3 e).2, len_768 h xs (r3 e).1 (r3 e).2⟩⟩
    · obtain ⟨k, rfl⟩ : ∃ m, k = m + 1 := ⟨k - 1, by omega⟩
      show spec_IsGroup.f (k + 1) fr a b c xs = _
      unfold spec_IsGroup.f
      rw [q1, Option.bind_some, if_pos rfl]
      simp only [spec_IsGroup.j0]
      by_cases hc : (xs.length : Int) > 768
      · rw [if_pos (by simp [hc])]
        rcases r with _ | _
        · rfl
        · have := len_768 h xs (r3 rfl).1 (r3 rfl).2; omega
      · rw [if_neg (by simp [hc])]; exact r1 k (by omega)
    · show impl_isGroup.f k fr a b c xs = _
      unfold impl_isGroup.f
      rw [latticeMats_eq h k (by omega), Option.bind_some]
      exact r2 k (by omega)
  · rw [if_neg h] at q1
    refine ⟨false, ⟨2, fun k hk => ?_⟩, fun g => absurd g h, fun _ => rfl, fun e => by cases e⟩
    obtain ⟨k, rfl⟩ : ∃ m, k = m + 1 := ⟨k - 1, by omega⟩
    show spec_IsGroup.f (k + 1) fr a b c xs = _
    unfold spec_IsGroup.f
    rw [q1, Option.bind_some, if_neg (by decide)]
    simp only [spec_IsGroup.j0]
    exact if_pos trivial
def cvMo (m : S49) : S44 := ⟨⟨m.f0.f0, m.f0.f1, m.f0.f2, m.f0.f3⟩, ⟨m.f1.f0, m.f1.f1⟩⟩
theorem rd_lmo (l : List S49) (i : Nat) (h : i < l.length) : rd_T49 l (i : Int) = l[i] := by unfold rd_T49; rw [Int.toNat_natCast]; simp [List.getD, h]
theorem toMotionS_loop (l : List S49) (hl : (l.length : Int) ≤ 1048576) (d : Nat) : ∀ (k i : Nat), i ≤ l.length → l.length - i = d → d < k →
    laws_toMotionS.l0 k l ((l.take i).map cvMo ++ List.replicate (l.length - i) z44) i = some (l.map cvMo) := by
  induction d with
  | zero =>
    intro k i h1 h2 h3
    obtain ⟨k, rfl⟩ := succ_of_lt h3
    obtain rfl : i = l.length := by omega
    simp only [laws_toMotionS.l0]
    rw [if_neg (by omega)]; simp
  | succ d ih =>
    intro k i h1 h2 h3
    obtain ⟨k, rfl⟩ := succ_of_lt h3
    have hi : i < l.length := by omega
    have hw : wrap64 ((i : Int) + 1) = ((i + 1 : Nat) : Int) := by rw [w64s (by omega) (by omega)]; omega
    have := ih k (i + 1) (by omega) (by omega) (by omega)
    rw [← this]
    conv => lhs; simp only [laws_toMotionS.l0]
    unfold laws_toMotion.f laws_toMat.f laws_toVec.f
    simp only [Option.bind_some]
    rw [if_pos (by omega), if_pos (by omega), if_pos (by simp; omega), rd_lmo _ _ hi, hw, Int.toNat_natCast]
    congr 1
    rw [List.set_append_right _ _ (by simp; omega)]
    rw [List.take_succ_eq_append_getElem hi, List.map_append, List.append_assoc]
    congr 1
    have e : l.length - i = (l.length - (i + 1)) + 1 := by omega
    rw [e, List.replicate_succ]
    have z : i - ((l.take i).map cvMo).length = 0 := by simp; omega
    rw [z]; rfl
theorem toMotionS_eq (l : List S49) (hl : (l.length : Int) ≤ 1048576) {k : Nat} (hk : l.length < k) : laws_toMotionS.f k l = some (l.map cvMo) := by
  unfold laws_toMotionS.f
  rw [if_pos (by omega), if_pos (by simp; omega)]
  have := toMotionS_loop l hl l.length k 0 (by omega) (by omega) hk
  simpa using this
theorem szMotionS_eq (l : List S49) (b : Int) (h0 : 0 ≤ b) (h1 : b ≤ 1048576) (hl : l.length ≤ maxLen) : laws_szMotionS.f l b = some (if b < l.length then -1 else b - l.length) := by
  have hm : ((l.length : Nat) : Int) ≤ 9223372036854775807 := by unfold maxLen at hl; omega
  unfold laws_szMotionS.f
  rw [w64 (x := b - l.length) (by omega) (by omega)]
  by_cases h : b < l.length
  · rw [if_pos h, if_pos (by omega)]
  · rw [if_neg h, if_neg (by omega)]
theorem groupCode_both (fr a b c : Int) (xs : List S44) (hl : (xs.length : Int) ≤ 1048576) : ∃ r : Bool, Ev (fun k => spec_IsGroup.f k fr a b c xs) r ∧ Ev (fun k => impl_groupCode.f k fr a b c [xs]) (if FL fr a b c then (if r = true then 0 else 2) else 1) ∧
    (r = true → FL fr a b c ∧ (∀ j (hj : j < xs.length), Good fr a b c xs[j]) ∧ Incr xs ∧ xs.length ≤ 768) := by
  obtain ⟨r, r1, r2, r3, r4⟩ := isGroup_both fr a b c xs hl
  have q := impl_frameCode_eq fr a b c
  have w01 : wrap64 (0 + 1) = 1 := w64s (by omega) (by omega)
  refine ⟨r, r1, ?_, fun e => ⟨Decidable.byContradiction fun h => absurd ((r3 h).symm.trans e) (by decide), r4 e⟩⟩
  by_cases h : FL fr a b c
  · rw [if_pos h] at q
    obtain ⟨K, hK⟩ := r2 h
    refine ⟨K + 2, fun k hk => ?_⟩
    obtain ⟨k, rfl⟩ : ∃ m, k = m + 2 := ⟨k - 2, by omega⟩
    have g : impl_isGroup.f (k + 1) fr a b c xs = some r := hK (k + 1) (by omega)
    show impl_groupCode.f (k + 2) fr a b c [xs] = _
    unfold impl_groupCode.f
    rw [q, Option.bind_some, if_pos rfl, if_pos h]
    simp only [impl_groupCode.l0, List.length_cons, List.length_nil]
    rw [if_pos (by decide), if_pos (by decide), if_pos (by decide)]
    show ((impl_isGroup.f (k + 1) fr a b c xs).bind fun t => _) = _
    rw [g, Option.bind_some, w01]
    rcases r with _ | _
    · rfl
    · simp only [if_true]
      rw [if_neg (by decide)]
  · rw [if_neg h] at q
    refine Ev.all fun k => ?_
    unfold impl_groupCode.f
    rw [q, Option.bind_some, if_neg (by decide), if_neg h]

end Go.Proofs.Ytfmjboloeabjmaa.LA
