import Derived.Test.YtedmadofpdkekaaAid
import Derived.Test.YtedmadofpdkekaaPAx0
import Derived.Test.YtedmadofpdkekaaLAABasic
import Derived.Test.YtedmadofpdkekaaLAGLattice
import Derived.Test.YtedmadofpdkekaaLAOHermite
import Derived.Test.YtedmadofpdkekaaLAPPoints
import Derived.Test.YtedmadofpdkekaaLAUOrder
import Derived.Test.YtedmadofpdkekaaLAVGroup
import Derived.Test.YtedmadofpdkekaaPAx0
import Derived.Test.YtedmadofpdkekaaPAx14
import Derived.Test.YtedmadofpdkekaaPAx15
import Derived.Test.YtedmadofpdkekaaPAx17
namespace Go.Proofs.Ytedmadofpdkekaa.LA
open Go.RowKit Go.Proofs.Ytedmadofpdkekaa.PA Go.Proofs.YtedmadofpdkekaaW.PrintWords Go.Proofs.YtedmadofpdkekaaW.PrintLast Go.Proofs.Ytedmadofpdkekaa.Aid
set_option linter.unusedVariables false
set_option linter.unusedSimpArgs false
theorem pigeon {α : Type} [DecidableEq α] : ∀ (l L : List α), l.Nodup → (∀ x ∈ l, x ∈ L) → l.length ≤ L.length
  | [], _, _, _ => Nat.zero_le _
  | x :: l, L, hn, hs => by
    obtain ⟨h1, h2⟩ := List.nodup_cons.1 hn
    have hx : x ∈ L := hs x List.mem_cons_self
    have := pigeon l (L.erase x) h2 (fun y hy => (List.mem_erase_of_ne (a := y) (b := x) (fun e => h1 (by rw [← e]; exact hy))).2 (hs y (List.mem_cons_of_mem _ hy)))
    rw [List.length_erase_of_mem hx] at this
    have h3 : 0 < L.length := List.length_pos_of_mem hx
    rw [List.length_cons]; omega
def tupMo (m : S55) : (Int × Int × Int × Int) × Int × Int := ((m.f0.f0, m.f0.f1, m.f0.f2, m.f0.f3), m.f1.f0, m.f1.f1)
theorem tupMo_inj {x y : S55} (h : tupMo x = tupMo y) : x = y := by
  obtain ⟨⟨a, b, c, d⟩, e, f⟩ := x
  obtain ⟨⟨a', b', c', d'⟩, e', f'⟩ := y
  simp only [tupMo, Prod.mk.injEq] at h
  obtain ⟨⟨rfl, rfl, rfl, rfl⟩, rfl, rfl⟩ := h
  rfl
def boxL (fr : Int) (a c : Nat) : List ((Int × Int × Int × Int) × Int × Int) := (pmL fr).flatMap fun m => (List.range a).flatMap fun (x : Nat) => (List.range c).map fun (y : Nat) => (m, (x : Int), (y : Int))
theorem flat_const {α β : Type} (f : α → List β) (n : Nat) : ∀ l : List α, (∀ x ∈ l, (f x).length = n) → (l.flatMap f).length = l.length * n
  | [], _ => by simp
  | x :: l, h => by rw [List.flatMap_cons, List.length_append, h x List.mem_cons_self, flat_const f n l (fun y hy => h y (List.mem_cons_of_mem _ hy)), List.length_cons, Nat.add_mul]; omega
theorem boxL_len (fr : Int) (a c : Nat) : (boxL fr a c).length = (pmL fr).length * (a * c) := by
  unfold boxL
  refine flat_const _ _ _ fun m _ => ?_
  rw [flat_const _ c _ (fun x _ => by simp)]; simp
theorem len_768 {fr a b c : Int} (h : FL fr a b c) (xs : List S55) (hg : ∀ i (hi : i < xs.length), Good fr a b c xs[i]) (hs : Incr xs) : xs.length ≤ 768 := by
  have hm := h.2.mul
  have hl := h.2
  obtain ⟨l1, l2, l3, l4, l5, l6, l7⟩ := id hl
  have hp := pigeon (xs.map tupMo) (boxL fr a.toNat c.toNat) (by
    unfold List.Nodup
    rw [List.pairwise_iff_getElem]
    intro i j hi hj hij e
    rw [List.length_map] at hi hj
    rw [List.getElem_map, List.getElem_map] at e
    have := hs i j hi hj hij
    rw [tupMo_inj e] at this
    exact ltM_irrefl _ this) (by
    intro t ht
    obtain ⟨m, hm, rfl⟩ := List.mem_map.1 ht
    obtain ⟨i, hi, rfl⟩ := List.getElem_of_mem hm
    have g := hg i hi
    have hr := red_range (x := xs[i].f1.f0) (y := xs[i].f1.f1) hl
    rw [g.2] at hr
    dsimp only at hr
    unfold boxL
    rw [List.mem_flatMap]
    refine ⟨_, g.1.1, ?_⟩
    rw [List.mem_flatMap]
    refine ⟨xs[i].f1.f0.toNat, by rw [List.mem_range]; omega, ?_⟩
    rw [List.mem_map]
    refine ⟨xs[i].f1.f1.toNat, by rw [List.mem_range]; omega, ?_⟩
    unfold tupMo
    rw [Int.toNat_of_nonneg hr.1.1, Int.toNat_of_nonneg hr.2.1])
  rw [List.length_map, boxL_len] at hp
  have h1 := pm_len fr
  have h2 : a.toNat * c.toNat ≤ 64 := by
    have : ((a.toNat * c.toNat : Nat) : Int) = a * c := by rw [Int.natCast_mul, Int.toNat_of_nonneg (by omega), Int.toNat_of_nonneg (by omega)]
    omega
  exact Nat.le_trans hp (Nat.mul_le_mul h1 h2)
theorem isGroup_both (fr a b c : Int) (xs : List S55) (hl : (xs.length : Int) ≤ 1048576) : ∃ r, Ev (fun k => spec_IsGroup.f k fr a b c xs) r ∧ (FL fr a b c → Ev (fun k => impl_isGroup.f k fr a b c xs) r) ∧ (¬ FL fr a b c → r = false) ∧ (r = true → (∀ j (hj : j < xs.length), Good fr a b c xs[j]) ∧ Incr xs ∧ xs.length ≤ 768) := by
  have q1 := spec_l04Code_eq fr a b c
  by_cases h : FL fr a b c
  · rw [if_pos h] at q1
    obtain ⟨r, ⟨K1, r1⟩, ⟨K2, r2⟩, r3⟩ := list_both h xs hl xs.length 0 (by omega) rfl (fun j hj hji => by omega) (fun j hj hji => by omega)
    refine ⟨r, ⟨K1 + 1, fun k hk => ?_⟩, fun _ => ⟨K2 + 100, fun k hk => ?_⟩, fun g => absurd h g, fun e => ⟨(r3 e).1, (r3 e).2, len_768 h xs (r3 e).1 (r3 e).2⟩⟩
    · obtain ⟨k, rfl⟩ : ∃ m, k = m + 1 := ⟨k - 1, by omega⟩
      show spec_IsGroup.f (k + 1) fr a b c xs = _
      unfold spec_IsGroup.f
      rw [q1, Option.bind_some, if_pos rfl]
      simp only [spec_IsGroup.j0]
      by_cases hc : (xs.length : Int) > 768
      · rw [if_pos (by simp [hc])]
        rcases r with _ | _
        · rfl
        · have := len_768 h xs (r3 rfl).1 (r3 rfl).2; omega
      · rw [if_neg (by simp [hc])]; exact r1 k (by omega)
    · show impl_isGroup.f k fr a b c xs = _
      unfold impl_isGroup.f
      rw [latticeMats_eq h k (by omega), Option.bind_some]
      exact r2 k (by omega)
  · rw [if_neg h] at q1
    refine ⟨false, ⟨2, fun k hk => ?_⟩, fun g => absurd g h, fun _ => rfl, fun e => by cases e⟩
    obtain ⟨k, rfl⟩ : ∃ m, k = m + 1 := ⟨k - 1, by omega⟩
    show spec_IsGroup.f (k + 1) fr a b c xs = _
    unfold spec_IsGroup.f
    rw [q1, Option.bind_some, if_neg (by decide)]
    simp only [spec_IsGroup.j0]
    exact if_pos trivial
theorem groupCode_both (fr a b c : Int) (xs : List S55) (hl : (xs.length : Int) ≤ 1048576) : ∃ r : Bool, Ev (fun k => spec_IsGroup.f k fr a b c xs) r ∧ Ev (fun k => impl_groupCode.f k fr a b c [xs]) (if FL fr a b c then (if r = true then 0 else 2) else 1) ∧
    (r = true → FL fr a b c ∧ (∀ j (hj : j < xs.length), Good fr a b c xs[j]) ∧ Incr xs ∧ xs.length ≤ 768) := by
  obtain ⟨r, r1, r2, r3, r4⟩ := isGroup_both fr a b c xs hl
  have q := impl_frameCode_eq fr a b c
  have w01 : wrap64 (0 + 1) = 1 := w64s (by omega) (by omega)
  refine ⟨r, r1, ?_, fun e => ⟨Decidable.byContradiction fun h => absurd ((r3 h).symm.trans e) (by decide), r4 e⟩⟩
  by_cases h : FL fr a b c
  · rw [if_pos h] at q
    obtain ⟨K, hK⟩ := r2 h
    refine ⟨K + 2, fun k hk => ?_⟩
    obtain ⟨k, rfl⟩ : ∃ m, k = m + 2 := ⟨k - 2, by omega⟩
    have g : impl_isGroup.f (k + 1) fr a b c xs = some r := hK (k + 1) (by omega)
    show impl_groupCode.f (k + 2) fr a b c [xs] = _
    unfold impl_groupCode.f
    rw [q, Option.bind_some, if_pos rfl, if_pos h]
    simp only [impl_groupCode.l0, List.length_cons, List.length_nil]
    rw [if_pos (by decide), if_pos (by decide), if_pos (by decide)]
    show ((impl_isGroup.f (k + 1) fr a b c xs).bind fun t => _) = _
    rw [g, Option.bind_some, w01]
    rcases r with _ | _
    · rfl
    · simp only [if_true]
      rw [if_neg (by decide)]
  · rw [if_neg h] at q
    refine Ev.all fun k => ?_
    unfold impl_groupCode.f
    rw [q, Option.bind_some, if_neg (by decide), if_neg h]
end Go.Proofs.Ytedmadofpdkekaa.LA
