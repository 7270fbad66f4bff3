/- Plain lemmas on putting motions into a list in order, and on sorting one. -/
import Derived.Test.YtdodghjnlekgeaaAid
import Derived.Test.YtdodghjnlekgeaaPAx0
import Derived.Test.YtdodghjnlekgeaaLAUOrder
import Derived.Test.YtdodghjnlekgeaaPAx0
import Derived.Test.YtdodghjnlekgeaaPAx4
import Derived.Test.YtdodghjnlekgeaaPAx5
import Derived.Test.YtdodghjnlekgeaaPAx9
namespace Go.Proofs.Ytdodghjnlekgeaa.LA
open Go.RowKit Go.Proofs.Ytdodghjnlekgeaa.PA Go.Proofs.YtdodghjnlekgeaaW.PrintWords Go.Proofs.YtdodghjnlekgeaaW.PrintLast Go.Proofs.Ytdodghjnlekgeaa.Aid
set_option linter.unusedVariables false
set_option linter.unusedSimpArgs false

theorem incr_pair (xs : List S41) : Incr xs ↔ xs.Pairwise ltM := List.pairwise_iff_getElem.symm
theorem incr_nil : Incr ([] : List S41) := fun i _ hi => by cases hi
theorem pair_ext {xs ys : List S41} (hx : xs.Pairwise ltM) (hy : ys.Pairwise ltM) (h : ∀ z, z ∈ xs ↔ z ∈ ys) : xs = ys := by
  induction xs generalizing ys with
  | nil =>
    cases ys with
    | nil => rfl
    | cons y ys => exact absurd ((h y).2 (by simp)) (by simp)
  | cons x xs ih =>
    cases ys with
    | nil => exact absurd ((h x).1 (by simp)) (by simp)
    | cons y ys =>
      rw [List.pairwise_cons] at hx hy
      have e : x = y := by
        rcases List.mem_cons.1 ((h x).1 (by simp)) with g | g
        · exact g
        · rcases List.mem_cons.1 ((h y).2 (by simp)) with g' | g'
          · exact g'.symm
          · exact absurd (ltM_trans (hx.1 y g') (hy.1 x g)) (ltM_irrefl x)
      subst e
      congr 1
      refine ih hx.2 hy.2 (fun z => ⟨fun g => ?_, fun g => ?_⟩)
      · rcases List.mem_cons.1 ((h z).1 (List.mem_cons_of_mem _ g)) with e | e
        · subst e; exact absurd (hx.1 z g) (ltM_irrefl z)
        · exact e
      · rcases List.mem_cons.1 ((h z).2 (List.mem_cons_of_mem _ g)) with e | e
        · subst e; exact absurd (hy.1 z g) (ltM_irrefl z)
        · exact e
/-- Two lists in order that have the same motions are equal. -/
theorem incr_ext {xs ys : List S41} (hx : Incr xs) (hy : Incr ys) (h : ∀ z, z ∈ xs ↔ z ∈ ys) : xs = ys := pair_ext ((incr_pair xs).1 hx) ((incr_pair ys).1 hy) h
theorem ins_eqB (x y : S41) : spec_l06Insert.eqB x y = true ↔ x = y := by
  obtain ⟨⟨a, b, c, d⟩, e, f⟩ := x
  obtain ⟨⟨a', b', c', d'⟩, e', f'⟩ := y
  unfold spec_l06Insert.eqB
  simp only [Bool.and_eq_true, beq_iff_eq]
  constructor
  · rintro ⟨⟨rfl, rfl, rfl, rfl⟩, rfl, rfl⟩; rfl
  · intro h; injection h with h1 h2; injection h1 with g0 g1 g2 g3; injection h2 with g4 g5; exact ⟨⟨g0, g1, g2, g3⟩, g4, g5⟩
theorem ins_pl (xs : List S41) (hl : (xs.length : Int) ≤ 1048576) (hs : Incr xs) (y : S41) :
    ∃ p : Nat, spec_l06Insert.pl xs y = some (p : Int) ∧ p ≤ xs.length ∧ (∀ i (h : i < xs.length), i < p → ltM xs[i] y) ∧ (∀ i (h : i < xs.length), p ≤ i → ¬ ltM xs[i] y) := by
  have g : ∀ k, 2000000 ≤ k → ∃ p : Nat, spec_l06Place.f k xs y.f0.f0 y.f0.f1 y.f0.f2 y.f0.f3 y.f1.f0 y.f1.f1 = some (p : Int) ∧ p ≤ xs.length ∧ (∀ i (h : i < xs.length), i < p → ltM xs[i] y) ∧ (∀ i (h : i < xs.length), p ≤ i → ¬ ltM xs[i] y) := by
    intro k hk
    obtain ⟨p, p1, p2, p3, p4⟩ := place_run xs hl y xs.length 0 xs.length k (by omega) (by omega) (by omega) (by omega) (fun i h hi => by omega) (fun i h hi => by omega) hs
    exact ⟨p, p1, p2, p3, p4⟩
  obtain ⟨p, p1, p2⟩ := g 2000000 (Nat.le_refl _)
  exact ⟨p, by unfold spec_l06Insert.pl; exact p1, p2⟩
/-- What an insert into a list in order gives. -/
theorem ins_incr (xs : List S41) (hl : (xs.length : Int) ≤ 1048576) (hs : Incr xs) (y : S41) :
    spec_l06Insert.ok xs y = true ∧ Incr (spec_l06Insert.ins xs y) ∧ (∀ z, z ∈ spec_l06Insert.ins xs y ↔ z ∈ xs ∨ z = y) ∧ (spec_l06Insert.ins xs y).length ≤ xs.length + 1 := by
  obtain ⟨p, e, p2, p3, p4⟩ := ins_pl xs hl hs y
  have hk : spec_l06Insert.ok xs y = true := by
    unfold spec_l06Insert.ok
    rw [e]
    exact decide_eq_true ⟨by omega, by omega⟩
  have hi : spec_l06Insert.ins xs y = spec_l06Insert.at xs y p := by
    unfold spec_l06Insert.ins
    rw [e]
    rfl
  refine ⟨hk, ?_⟩
  rw [hi]
  unfold spec_l06Insert.at
  by_cases c : (decide (p < xs.length) && spec_l06Insert.eqB (rd_T41 xs (p : Int)) y) = true
  · rw [if_pos c]
    rw [Bool.and_eq_true] at c
    have c1 : p < xs.length := of_decide_eq_true c.1
    have c2 := (ins_eqB _ _).1 c.2
    rw [rd_mo xs p c1] at c2
    refine ⟨hs, fun z => ⟨.inl, ?_⟩, by omega⟩
    rintro (h | rfl)
    · exact h
    · rw [← c2]; exact List.getElem_mem c1
  · rw [if_neg c]
    have hy : ∀ i (h : i < xs.length), p ≤ i → ltM y xs[i] := by
      intro i h hp
      rcases ltM_tri y xs[i] with g | g | g
      · exact g
      · exfalso
        by_cases q : i = p
        · subst q
          refine c ?_
          rw [Bool.and_eq_true]
          exact ⟨decide_eq_true h, (ins_eqB _ _).2 (by rw [rd_mo xs _ h]; exact g.symm)⟩
        · have h2 := hs p i (by omega) h (by omega)
          rw [← g] at h2
          exact p4 p (by omega) (Nat.le_refl _) h2
      · exact absurd g (p4 i h hp)
    have h1 : ∀ a ∈ xs.take p, ltM a y := by
      intro a ha
      obtain ⟨j, hj, rfl⟩ := List.mem_take_iff_getElem.1 ha
      exact p3 j (by omega) (by omega)
    have h2 : ∀ b ∈ xs.drop p, ltM y b := by
      intro b hb
      obtain ⟨j, hj, rfl⟩ := List.mem_drop_iff_getElem.1 hb
      exact hy (p + j) (by omega) (by omega)
    have hp := (incr_pair xs).1 hs
    refine ⟨?_, fun z => ?_, by simp only [List.length_append, List.length_take, List.length_drop, List.length_cons, List.length_nil]; omega⟩
    · rw [incr_pair, List.pairwise_append, List.pairwise_append]
      refine ⟨⟨hp.sublist (List.take_sublist _ _), List.pairwise_singleton _ _, fun a ha b hb => ?_⟩, hp.sublist (List.drop_sublist _ _), fun a ha b hb => ?_⟩
      · obtain rfl := List.mem_singleton.1 hb; exact h1 a ha
      · rcases List.mem_append.1 ha with ha | ha
        · exact ltM_trans (h1 a ha) (h2 b hb)
        · obtain rfl := List.mem_singleton.1 ha; exact h2 b hb
    · rw [List.mem_append, List.mem_append, List.mem_singleton]
      constructor
      · rintro ((h | h) | h)
        · exact .inl (List.mem_of_mem_take h)
        · exact .inr h
        · exact .inl (List.mem_of_mem_drop h)
      · rintro (h | h)
        · rw [← List.take_append_drop p xs, List.mem_append] at h
          rcases h with h | h
          · exact .inl (.inl h)
          · exact .inr h
        · exact .inl (.inr h)
theorem srt_mem (xs : List S41) (z : S41) : z ∈ impl_Motion.srtMo xs ↔ z ∈ xs := (List.mergeSort_perm _ _).mem_iff
theorem srt_len (xs : List S41) : (impl_Motion.srtMo xs).length = xs.length := List.length_mergeSort _
theorem lt_of_cf (x y : S41) : Go.Proofs.ltOf impl_Motion.cfMo x y = decide (ltM x y) := by
  unfold Go.Proofs.ltOf
  rw [decide_eq_decide, impl_Motion.cf_neg]
  exact Iff.rfl
/-- Motions that are all different, sorted, are in order. -/
theorem srt_incr (xs : List S41) (hd : xs.Nodup) : Incr (impl_Motion.srtMo xs) := by
  have h1 := List.pairwise_mergeSort (le := fun x y => !(Go.Proofs.ltOf impl_Motion.cfMo) y x) (fun a b c h g => by
    simp only [lt_of_cf, Bool.not_eq_true', decide_eq_false_iff_not] at h g ⊢
    intro q
    rcases ltM_tri b c with r | r | r
    · exact h (ltM_trans r q)
    · subst r; exact h q
    · exact g r) (fun a b => by
    simp only [lt_of_cf, Bool.or_eq_true, Bool.not_eq_true', decide_eq_false_iff_not]
    by_cases q : ltM b a
    · exact .inr (fun r => ltM_irrefl a (ltM_trans r q))
    · exact .inl q) xs
  have h2 : (impl_Motion.srtMo xs).Nodup := (List.mergeSort_perm _ _).nodup_iff.2 hd
  intro i j hi hj hij
  have g1 : (!(Go.Proofs.ltOf impl_Motion.cfMo) (impl_Motion.srtMo xs)[j] (impl_Motion.srtMo xs)[i]) = true := List.pairwise_iff_getElem.1 h1 i j hi hj hij
  have g2 := List.pairwise_iff_getElem.1 h2 i j hi hj hij
  rw [Bool.not_eq_true', lt_of_cf, decide_eq_false_iff_not] at g1
  rcases ltM_tri (impl_Motion.srtMo xs)[i] (impl_Motion.srtMo xs)[j] with r | r | r
  · exact r
  · exact absurd r g2
  · exact absurd r g1

end Go.Proofs.Ytdodghjnlekgeaa.LA
