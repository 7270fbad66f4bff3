import Derived.Test.YtedmadofpdkekaaAid
import Derived.Test.YtedmadofpdkekaaPAx0
import Derived.Test.YtedmadofpdkekaaLAUOrder
import Derived.Test.YtedmadofpdkekaaPAx0
import Derived.Test.YtedmadofpdkekaaPAx8
import Derived.Test.YtedmadofpdkekaaPAx9
namespace Go.Proofs.Ytedmadofpdkekaa.LA
open Go.RowKit Go.Proofs.Ytedmadofpdkekaa.PA Go.Proofs.YtedmadofpdkekaaW.PrintWords Go.Proofs.YtedmadofpdkekaaW.PrintLast Go.Proofs.Ytedmadofpdkekaa.Aid
set_option linter.unusedVariables false
set_option linter.unusedSimpArgs false
theorem incr_pair (xs : List S55) : Incr xs ↔ xs.Pairwise ltM := List.pairwise_iff_getElem.symm
theorem ins_eqB (x y : S55) : spec_l06Insert.eqB x y = true ↔ x = y := by
  obtain ⟨⟨a, b, c, d⟩, e, f⟩ := x
  obtain ⟨⟨a', b', c', d'⟩, e', f'⟩ := y
  unfold spec_l06Insert.eqB
  simp only [Bool.and_eq_true, beq_iff_eq]
  constructor
  · rintro ⟨⟨rfl, rfl, rfl, rfl⟩, rfl, rfl⟩; rfl
  · intro h; injection h with h1 h2; injection h1 with g0 g1 g2 g3; injection h2 with g4 g5; exact ⟨⟨g0, g1, g2, g3⟩, g4, g5⟩
theorem ins_pl (xs : List S55) (hl : (xs.length : Int) ≤ 1048576) (hs : Incr xs) (y : S55) :
    ∃ p : Nat, spec_l06Insert.pl xs y = some (p : Int) ∧ p ≤ xs.length ∧ (∀ i (h : i < xs.length), i < p → ltM xs[i] y) ∧ (∀ i (h : i < xs.length), p ≤ i → ¬ ltM xs[i] y) := by
  have g : ∀ k, 2000000 ≤ k → ∃ p : Nat, spec_l06Place.f k xs y.f0.f0 y.f0.f1 y.f0.f2 y.f0.f3 y.f1.f0 y.f1.f1 = some (p : Int) ∧ p ≤ xs.length ∧ (∀ i (h : i < xs.length), i < p → ltM xs[i] y) ∧ (∀ i (h : i < xs.length), p ≤ i → ¬ ltM xs[i] y) := by
    intro k hk
    obtain ⟨p, p1, p2, p3, p4⟩ := place_run xs hl y xs.length 0 xs.length k (by omega) (by omega) (by omega) (by omega) (fun i h hi => by omega) (fun i h hi => by omega) hs
    exact ⟨p, p1, p2, p3, p4⟩
  obtain ⟨p, p1, p2⟩ := g 2000000 (Nat.le_refl _)
  exact ⟨p, by unfold spec_l06Insert.pl; exact p1, p2⟩
theorem ins_incr (xs : List S55) (hl : (xs.length : Int) ≤ 1048576) (hs : Incr xs) (y : S55) :
    spec_l06Insert.ok xs y = true ∧ Incr (spec_l06Insert.ins xs y) ∧ (∀ z, z ∈ spec_l06Insert.ins xs y ↔ z ∈ xs ∨ z = y) ∧ (spec_l06Insert.ins xs y).length ≤ xs.length + 1 := by
  obtain ⟨p, e, p2, p3, p4⟩ := ins_pl xs hl hs y
  have hk : spec_l06Insert.ok xs y = true := by
    unfold spec_l06Insert.ok
    rw [e]
    exact decide_eq_true ⟨by omega, by omega⟩
  have hi : spec_l06Insert.ins xs y = spec_l06Insert.at xs y p := by
    unfold spec_l06Insert.ins
    rw [e]
    rfl
  refine ⟨hk, ?_⟩
  rw [hi]
  unfold spec_l06Insert.at
  by_cases c : (decide (p < xs.length) && spec_l06Insert.eqB (qr xs (p : Int)) y) = true
  · rw [if_pos c]
    rw [Bool.and_eq_true] at c
    have c1 : p < xs.length := of_decide_eq_true c.1
    have c2 := (ins_eqB _ _).1 c.2
    rw [rd_mo xs p c1] at c2
    refine ⟨hs, fun z => ⟨.inl, ?_⟩, by omega⟩
    rintro (h | rfl)
    · exact h
    · rw [← c2]; exact List.getElem_mem c1
  · rw [if_neg c]
    have hy : ∀ i (h : i < xs.length), p ≤ i → ltM y xs[i] := by
      intro i h hp
      rcases ltM_tri y xs[i] with g | g | g
      · exact g
      · exfalso
        by_cases q : i = p
        · subst q
          refine c ?_
          rw [Bool.and_eq_true]
          exact ⟨decide_eq_true h, (ins_eqB _ _).2 (by rw [rd_mo xs _ h]; exact g.symm)⟩
        · have h2 := hs p i (by omega) h (by omega)
          rw [← g] at h2
          exact p4 p (by omega) (Nat.le_refl _) h2
      · exact absurd g (p4 i h hp)
    have h1 : ∀ a ∈ xs.take p, ltM a y := by
      intro a ha
      obtain ⟨j, hj, rfl⟩ := List.mem_take_iff_getElem.1 ha
      exact p3 j (by omega) (by omega)
    have h2 : ∀ b ∈ xs.drop p, ltM y b := by
      intro b hb
      obtain ⟨j, hj, rfl⟩ := List.mem_drop_iff_getElem.1 hb
      exact hy (p + j) (by omega) (by omega)
    have hp := (incr_pair xs).1 hs
    refine ⟨?_, fun z => ?_, by simp only [List.length_append, List.length_take, List.length_drop, List.length_cons, List.length_nil]; omega⟩
    · rw [incr_pair, List.pairwise_append, List.pairwise_append]
      refine ⟨⟨hp.sublist (List.take_sublist _ _), List.pairwise_singleton _ _, fun a ha b hb => ?_⟩, hp.sublist (List.drop_sublist _ _), fun a ha b hb => ?_⟩
      · obtain rfl := List.mem_singleton.1 hb; exact h1 a ha
      · rcases List.mem_append.1 ha with ha | ha
        · exact ltM_trans (h1 a ha) (h2 b hb)
        · obtain rfl := List.mem_singleton.1 ha; exact h2 b hb
    · rw [List.mem_append, List.mem_append, List.mem_singleton]
      constructor
      · rintro ((h | h) | h)
        · exact .inl (List.mem_of_mem_take h)
        · exact .inr h
        · exact .inl (List.mem_of_mem_drop h)
      · rintro (h | h)
        · rw [← List.take_append_drop p xs, List.mem_append] at h
          rcases h with h | h
          · exact .inl (.inl h)
          · exact .inr h
        · exact .inl (.inr h)
end Go.Proofs.Ytedmadofpdkekaa.LA
