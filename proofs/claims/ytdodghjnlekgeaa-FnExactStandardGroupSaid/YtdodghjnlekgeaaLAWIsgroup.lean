/- Plain lemmas: a group modulo a lattice has at most 768 motions; IsGroup on both sides. -/
import Derived.Test.YtdodghjnlekgeaaAid
import Derived.Test.YtdodghjnlekgeaaPAx0
import Derived.Test.YtdodghjnlekgeaaLAABasic
import Derived.Test.YtdodghjnlekgeaaLAGLattice
import Derived.Test.YtdodghjnlekgeaaLAPPoints
import Derived.Test.YtdodghjnlekgeaaLAUOrder
import Derived.Test.YtdodghjnlekgeaaLAVGroup
import Derived.Test.YtdodghjnlekgeaaPAx0
namespace Go.Proofs.Ytdodghjnlekgeaa.LA
open Go.RowKit Go.Proofs.Ytdodghjnlekgeaa.PA Go.Proofs.YtdodghjnlekgeaaW.PrintWords Go.Proofs.YtdodghjnlekgeaaW.PrintLast Go.Proofs.Ytdodghjnlekgeaa.Aid
set_option linter.unusedVariables false
set_option linter.unusedSimpArgs false

theorem pigeon {α : Type} [DecidableEq α] : ∀ (l L : List α), l.Nodup → (∀ x ∈ l, x ∈ L) → l.length ≤ L.length
  | [], _, _, _ => Nat.zero_le _
  | x :: l, L, hn, hs => by
    obtain ⟨h1, h2⟩ := List.nodup_cons.1 hn
    have hx : x ∈ L := hs x List.mem_cons_self
    have := pigeon l (L.erase x) h2 (fun y hy => (List.mem_erase_of_ne (a := y) (b := x) (fun e => h1 (by rw [← e]; exact hy))).2 (hs y (List.mem_cons_of_mem _ hy)))
    rw [List.length_erase_of_mem hx] at this
    have h3 : 0 < L.length := List.length_pos_of_mem hx
    rw [List.length_cons]; omega
/-- A motion as numbers. -/
def tupMo (m : S41) : (Int × Int × Int × Int) × Int × Int := ((m.f0.f0, m.f0.f1, m.f0.f2, m.f0.f3), m.f1.f0, m.f1.f1)
theorem tupMo_inj {x y : S41} (h : tupMo x = tupMo y) : x = y := by
  obtain ⟨⟨a, b, c, d⟩, e, f⟩ := x
  obtain ⟨⟨a', b', c', d'⟩, e', f'⟩ := y
  simp only [tupMo, Prod.mk.injEq] at h
  obtain ⟨⟨rfl, rfl, rfl, rfl⟩, rfl, rfl⟩ := h
  rfl
def boxL (fr : Int) (a c : Nat) : List ((Int × Int × Int × Int) × Int × Int) := (pmL fr).flatMap fun m => (List.range a).flatMap fun (x : Nat) => (List.range c).map fun (y : Nat) => (m, (x : Int), (y : Int))
theorem flat_const {α β : Type} (f : α → List β) (n : Nat) : ∀ l : List α, (∀ x ∈ l, (f x).length = n) → (l.flatMap f).length = l.length * n
  | [], _ => by simp
  | x :: l, h => by rw [List.flatMap_cons, List.length_append, h x List.mem_cons_self, flat_const f n l (fun y hy => h y (List.mem_cons_of_mem _ hy)), List.length_cons, Nat.add_mul]; omega
theorem boxL_len (fr : Int) (a c : Nat) : (boxL fr a c).length = (pmL fr).length * (a * c) := by
  unfold boxL
  refine flat_const _ _ _ fun m _ => ?_
  rw [flat_const _ c _ (fun x _ => by simp)]; simp
theorem len_768 {fr a b c : Int} (h : FL fr a b c) (xs : List S41) (hg : ∀ i (hi : i < xs.length), Good fr a b c xs[i]) (hs : Incr xs) : xs.length ≤ 768 := by
  have hm := h.2.mul
  have hl := h.2
  obtain ⟨l1, l2, l3, l4, l5, l6, l7⟩ := id hl
  have hp := pigeon (xs.map tupMo) (boxL fr a.toNat c.toNat) (by
    unfold List.Nodup
    rw [List.pairwise_iff_getElem]
    intro i j hi hj hij e
    rw [List.length_map] at hi hj
    rw [List.getElem_map, List.getElem_map] at e
    have := hs i j hi hj hij
    rw [tupMo_inj e] at this
    exact ltM_irrefl _ this) (by
    intro t ht
    obtain ⟨m, hm, rfl⟩ := List.mem_map.1 ht
    obtain ⟨i, hi, rfl⟩ := List.getElem_of_mem hm
    have g := hg i hi
    have hr := red_range (x := xs[i].f1.f0) (y := xs[i].f1.f1) hl
    rw [g.2] at hr
    dsimp only at hr
    unfold boxL
    rw [List.mem_flatMap]
    refine ⟨_, g.1.1, ?_⟩
    rw [List.mem_flatMap]
    refine ⟨xs[i].f1.f0.toNat, by rw [List.mem_range]; omega, ?_⟩
    rw [List.mem_map]
    refine ⟨xs[i].f1.f1.toNat, by rw [List.mem_range]; omega, ?_⟩
    unfold tupMo
    rw [Int.toNat_of_nonneg hr.1.1, Int.toNat_of_nonneg hr.2.1])
  rw [List.length_map, boxL_len] at hp
  have h1 := pm_len fr
  have h2 : a.toNat * c.toNat ≤ 64 := by
    have : ((a.toNat * c.toNat : Nat) : Int) = a * c := by rw [Int.natCast_mul, Int.toNat_of_nonneg (by omega), Int.toNat_of_nonneg (by omega)]
    omega
  exact Nat.le_trans hp (Nat.mul_le_mul h1 h2)
end Go.Proofs.Ytdodghjnlekgeaa.LA
