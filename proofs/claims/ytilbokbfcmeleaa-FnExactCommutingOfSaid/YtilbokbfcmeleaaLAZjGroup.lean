/- Plain lemmas: what IsGroup answers; codes of small groups; looking up in any list. -/
import Derived.Test.YtilbokbfcmeleaaAid
import Derived.Test.YtilbokbfcmeleaaPAx0
import Derived.Test.YtilbokbfcmeleaaLAABasic
import Derived.Test.YtilbokbfcmeleaaLAGLattice
import Derived.Test.YtilbokbfcmeleaaLAOHermite
import Derived.Test.YtilbokbfcmeleaaLAPbSuit
import Derived.Test.YtilbokbfcmeleaaLAUOrder
import Derived.Test.YtilbokbfcmeleaaLAVGroup
import Derived.Test.YtilbokbfcmeleaaLAWIsgroup
import Derived.Test.YtilbokbfcmeleaaLAZiClose
import Derived.Test.YtilbokbfcmeleaaPAx0
import Derived.Test.YtilbokbfcmeleaaPAx10
import Derived.Test.YtilbokbfcmeleaaPAx13
import Derived.Test.YtilbokbfcmeleaaPAx14
import Derived.Test.YtilbokbfcmeleaaPAx15
import Derived.Test.YtilbokbfcmeleaaPAx6
import Derived.Test.YtilbokbfcmeleaaPAx8
import Derived.Test.YtilbokbfcmeleaaPAx9
namespace Go.Proofs.Ytilbokbfcmeleaa.LA
open Go.RowKit Go.Proofs.Ytilbokbfcmeleaa.PA Go.Proofs.YtilbokbfcmeleaaW.PrintWords Go.Proofs.YtilbokbfcmeleaaW.PrintLast Go.Proofs.Ytilbokbfcmeleaa.Aid
set_option linter.unusedVariables false
set_option linter.unusedSimpArgs false

/-- Does a list hold the identity and all products of its motions? -/
def grpB (a b c : Int) (xs : List S48) : Bool := (xs.any fun x => mapMo.eqB x unitMo) && xs.all fun x => xs.all fun y => xs.any fun z => mapMo.eqB z (prodM a b c x y)
structure Grp (fr a b c : Int) (xs : List S48) : Prop where
  good : ∀ z ∈ xs, Good fr a b c z
  inc : Incr xs
  one : unitMo ∈ xs
  mul : ∀ x ∈ xs, ∀ y ∈ xs, prodM a b c x y ∈ xs
theorem grpB_iff {a b c : Int} {xs : List S48} : grpB a b c xs = true ↔ unitMo ∈ xs ∧ ∀ x ∈ xs, ∀ y ∈ xs, prodM a b c x y ∈ xs := by
  unfold grpB
  rw [Bool.and_eq_true, any_eqB, List.all_eq_true]
  refine and_congr Iff.rfl (forall_congr' fun x => forall_congr' fun hx => ?_)
  rw [List.all_eq_true]
  exact forall_congr' fun y => forall_congr' fun hy => any_eqB _ _
theorem pairV {fr a b c : Int} (h : FL fr a b c) (xs : List S48) (hl : (xs.length : Int) ≤ 1048576) (hg : ∀ i (hi : i < xs.length), Good fr a b c xs[i]) (hs : Incr xs) (i : Nat) (hi : i < xs.length) (q : Bool)
    (hr : Ev (fun k => spec_IsGroup.l1 k xs ((i + 1 : Nat) : Int) a b c) q) (d : Nat) : ∀ j : Nat, j ≤ xs.length → xs.length - j = d →
    Ev (fun k => spec_IsGroup.l2 k xs i j a b c) (((xs.drop j).all fun y => xs.any fun z => mapMo.eqB z (prodM a b c xs[i] y)) && q) := by
  induction d with
  | zero =>
    intro j hj hd
    have hwi : wrap64 ((i : Int) + 1) = ((i + 1 : Nat) : Int) := by rw [w64s (by omega) (by omega)]; omega
    rw [List.drop_eq_nil_of_le (by omega), List.all_nil, Bool.true_and]
    refine Ev.step (fun k => ?_) hr
    simp only [spec_IsGroup.l2]; rw [if_neg (by omega), hwi]
  | succ d ih =>
    intro j hj hd
    have h1 : j < xs.length := by omega
    have hw : wrap64 ((j : Int) + 1) = ((j + 1 : Nat) : Int) := by rw [w64s (by omega) (by omega)]; omega
    obtain ⟨⟨p, s1, s2⟩, -⟩ := alike_comp h (alike_self h (hg i hi)) (hg j h1)
    have hh := fun k hk => spec_has6_eq xs hl hs (prodM a b c xs[i] xs[j]) k hk
    rw [List.drop_eq_getElem_cons h1, List.all_cons]
    have hsp : ∀ k, 2000000 ≤ k → spec_IsGroup.l2 (k + 1) xs i j a b c = if (xs.any fun x => mapMo.eqB x (prodM a b c xs[i] xs[j])) = true then spec_IsGroup.l2 k xs i ((j + 1 : Nat) : Int) a b c else some false := fun k hk => by
      simp only [spec_IsGroup.l2]
      rw [if_pos (by omega), if_pos (by omega), if_pos (by omega), if_pos (by omega), rd_mo _ _ hi, rd_mo _ _ h1, s1]
      simp only [Option.bind_some, s2, hh k hk, hw]
    cases e : (xs.any fun x => mapMo.eqB x (prodM a b c xs[i] xs[j])) with
    | true => exact Ev.from 2000000 (fun k hk => by rw [hsp k hk, if_pos e]) (by rw [Bool.true_and]; exact ih (j + 1) (by omega) (by omega))
    | false => exact ⟨2000001, fun k hk => by obtain ⟨m, rfl⟩ : ∃ m, k = m + 1 := ⟨k - 1, by omega⟩; show spec_IsGroup.l2 (m + 1) xs i j a b c = _; rw [hsp m (by omega), if_neg (by rw [e]; decide)]; simp⟩
theorem rowsV {fr a b c : Int} (h : FL fr a b c) (xs : List S48) (hl : (xs.length : Int) ≤ 1048576) (hg : ∀ i (hi : i < xs.length), Good fr a b c xs[i]) (hs : Incr xs) (d : Nat) : ∀ i : Nat, i ≤ xs.length → xs.length - i = d →
    Ev (fun k => spec_IsGroup.l1 k xs i a b c) ((xs.drop i).all fun x => xs.all fun y => xs.any fun z => mapMo.eqB z (prodM a b c x y)) := by
  induction d with
  | zero =>
    intro i hi hd
    rw [List.drop_eq_nil_of_le (by omega), List.all_nil]
    refine Ev.one (fun k => ?_)
    simp only [spec_IsGroup.l1]; rw [if_neg (by omega)]
  | succ d ih =>
    intro i hi hd
    have h1 : i < xs.length := by omega
    rw [List.drop_eq_getElem_cons h1, List.all_cons]
    have := pairV h xs hl hg hs i h1 _ (ih (i + 1) (by omega) (by omega)) xs.length 0 (by omega) rfl
    rw [List.drop_zero] at this
    refine Ev.step (fun k => ?_) this
    simp only [spec_IsGroup.l1]; rw [if_pos (by omega)]; rfl
theorem listV {fr a b c : Int} (h : FL fr a b c) (xs : List S48) (hl : (xs.length : Int) ≤ 1048576) (hg : ∀ i (hi : i < xs.length), Good fr a b c xs[i]) (hs : Incr xs) (d : Nat) : ∀ i : Nat, i ≤ xs.length → xs.length - i = d →
    Ev (fun k => spec_IsGroup.l0 k fr xs i a b c) (grpB a b c xs) := by
  induction d with
  | zero =>
    intro i hi hd
    obtain rfl : i = xs.length := by omega
    have hh := fun k hk => spec_has6_eq xs hl hs unitMo k hk
    have hr := rowsV h xs hl hg hs xs.length 0 (by omega) rfl
    rw [List.drop_zero] at hr
    have hsp : ∀ k, 2000000 ≤ k → spec_IsGroup.l0 (k + 1) fr xs (xs.length : Int) a b c = if (xs.any fun x => mapMo.eqB x unitMo) = true then spec_IsGroup.l1 k xs ((0 : Nat) : Int) a b c else some false := fun k hk => by
      have hk' := hh k hk
      simp only [spec_IsGroup.l0, spec_l06Unit.f, spec_l02Unit.f, Option.bind_some]
      rw [if_neg (by omega)]
      exact (congrArg (fun o => Option.bind o _) hk').trans rfl
    unfold grpB
    cases e : (xs.any fun x => mapMo.eqB x unitMo) with
    | true => exact Ev.from 2000000 (fun k hk => by rw [hsp k hk, if_pos e]) (by rw [Bool.true_and]; exact hr)
    | false => exact ⟨2000001, fun k hk => by obtain ⟨m, rfl⟩ : ∃ m, k = m + 1 := ⟨k - 1, by omega⟩; show spec_IsGroup.l0 (m + 1) fr xs (xs.length : Int) a b c = _; rw [hsp m (by omega), if_neg (by rw [e]; decide)]; simp⟩
  | succ d ih =>
    intro i hi hd
    have h1 : i < xs.length := by omega
    have g := hg i h1
    have hw : wrap64 ((i : Int) + 1) = ((i + 1 : Nat) : Int) := by rw [w64s (by omega) (by omega)]; omega
    obtain ⟨-, h5, h6⟩ := g.small h
    have hsu := fun k hk => spec_IsSuitable_eq fr a b c xs[i].f0.f0 xs[i].f0.f1 xs[i].f0.f2 xs[i].f0.f3 xs[i].f1.f0 xs[i].f1.f1 k hk
    have hsuit : Suit fr a b c xs[i].f0.f0 xs[i].f0.f1 xs[i].f0.f2 xs[i].f0.f3 xs[i].f1.f0 xs[i].f1.f1 := ⟨g.1, ⟨by omega, by omega⟩, by omega, by omega⟩
    have hm : Mod4 a b c xs[i].f1.f0 xs[i].f1.f1 := h.2.mod4 (by omega) (by omega) (by omega) (by omega)
    have hre : spec_l06Reduce.f a b c xs[i].f0.f0 xs[i].f0.f1 xs[i].f0.f2 xs[i].f0.f3 xs[i].f1.f0 xs[i].f1.f1 = some (xs[i].f0.f0, xs[i].f0.f1, xs[i].f0.f2, xs[i].f0.f3, xs[i].f1.f0, xs[i].f1.f1) := by
      unfold spec_l06Reduce.f
      rw [spec_reduce_eq hm, g.2]; rfl
    refine Ev.from 10000000 (fun k hk => ?_) (ih (i + 1) (by omega) (by omega))
    simp only [spec_IsGroup.l0]
    rw [if_pos (by omega), if_pos (by omega), rd_mo _ _ h1, hsu k hk, Option.bind_some, if_pos (by simp [h, hsuit]), hre, Option.bind_some, if_neg (by simp), hw]
    by_cases h0 : i = 0
    · rw [if_neg (by omega)]
    · obtain ⟨i, rfl⟩ : ∃ m, i = m + 1 := ⟨i - 1, by omega⟩
      have hp : wrap64 (((i + 1 : Nat) : Int) - 1) = (i : Int) := by rw [w64s (by omega) (by omega)]; omega
      have hi' : i < xs.length := by omega
      rw [if_pos (by omega), hp, if_pos (by omega), if_pos (by omega), rd_mo _ _ hi', spec_less_eq xs[i] xs[i + 1] k (by omega), Option.bind_some, if_pos (by simp [hs i (i + 1) hi' h1 (by omega)])]
/-- What both sides answer for a list. -/
theorem group_iff {fr a b c : Int} (h : FL fr a b c) (xs : List S48) (hl : (xs.length : Int) ≤ 1048576) : ∃ r : Bool, Ev (fun k => spec_IsGroup.f k fr a b c xs) r ∧ Ev (fun k => impl_isGroup.f k fr a b c xs) r ∧ (r = true ↔ Grp fr a b c xs) := by
  obtain ⟨r, r1, r2, r3, r4⟩ := isGroup_both fr a b c xs hl
  have key : (∀ j (hj : j < xs.length), Good fr a b c xs[j]) → Incr xs → r = grpB a b c xs := fun hg hs => by
    refine Ev.unique r1 ?_
    have hlen := len_768 h xs hg hs
    obtain ⟨K, hK⟩ := listV h xs hl hg hs xs.length 0 (by omega) rfl
    have hK : ∀ k, K ≤ k → spec_IsGroup.l0 k fr xs 0 a b c = some (grpB a b c xs) := hK
    refine ⟨K + 1, fun k hk => ?_⟩
    obtain ⟨k, rfl⟩ : ∃ m, k = m + 1 := ⟨k - 1, by omega⟩
    show spec_IsGroup.f (k + 1) fr a b c xs = _
    unfold spec_IsGroup.f
    rw [spec_l04Code_eq, if_pos h, Option.bind_some, if_pos rfl]
    simp only [spec_IsGroup.j0]
    rw [if_neg (by simp; omega)]; exact hK k (by omega)
  refine ⟨r, r1, r2 h, fun e => ?_, fun g => ?_⟩
  · obtain ⟨g1, g2, -⟩ := r4 e
    have := key g1 g2
    rw [e] at this
    obtain ⟨g3, g4⟩ := grpB_iff.1 this.symm
    exact ⟨fun z hz => by obtain ⟨n, hn, rfl⟩ := List.getElem_of_mem hz; exact g1 n hn, g2, g3, g4⟩
  · rw [key (fun j hj => g.good _ (List.getElem_mem hj)) g.inc]
    exact grpB_iff.2 ⟨g.one, g.mul⟩
theorem Grp.at {fr a b c : Int} {xs : List S48} (g : Grp fr a b c xs) : ∀ j (hj : j < xs.length), Good fr a b c xs[j] := fun j hj => g.good _ (List.getElem_mem hj)
theorem Grp.len {fr a b c : Int} (h : FL fr a b c) {xs : List S48} (g : Grp fr a b c xs) : xs.length ≤ 768 := len_768 h xs g.at g.inc
theorem unit_comp {x : S48} : comp unitMo x = x := by
  obtain ⟨⟨a, b, c, d⟩, e, f⟩ := x
  simp [comp, unitMo]
theorem prod_unit {fr a b c : Int} {x : S48} (g : Good fr a b c x) : prodM a b c unitMo x = x := by
  unfold prodM
  rw [unit_comp, g.2]
theorem comp_unit {x : S48} : comp x unitMo = x := by
  obtain ⟨⟨a, b, c, d⟩, e, f⟩ := x
  simp [comp, unitMo]
theorem unit_prod {fr a b c : Int} {x : S48} (g : Good fr a b c x) : prodM a b c x unitMo = x := by
  unfold prodM
  rw [comp_unit, g.2]
theorem Grp.unit {fr a b c : Int} (h : FL fr a b c) : Grp fr a b c [unitMo] where
  good := fun z hz => by rw [List.mem_singleton.1 hz]; exact Good.unit h
  inc := fun i j hi hj hij => by simp at hi hj; omega
  one := List.mem_singleton.2 rfl
  mul := fun x hx y hy => by rw [List.mem_singleton.1 hx, List.mem_singleton.1 hy, prod_unit (Good.unit h)]; exact List.mem_singleton.2 rfl
theorem place_any (xs : List S48) (hl : (xs.length : Int) ≤ 1048576) (y : S48) (d : Nat) : ∀ (lo hi : Nat), hi - lo ≤ d → lo ≤ hi → hi ≤ xs.length →
    ∃ p : Nat, p ≤ xs.length ∧ ∀ k, d + 20 ≤ k → spec_l06Place.l0 k xs lo hi y.f0.f0 y.f0.f1 y.f0.f2 y.f0.f3 y.f1.f0 y.f1.f1 = some (p : Int) := by
  induction d with
  | zero =>
    intro lo hi h1 h2 h3
    obtain rfl : lo = hi := by omega
    refine ⟨lo, h3, fun k h4 => ?_⟩
    obtain ⟨k, rfl⟩ : ∃ j, k = j + 1 := ⟨k - 1, by omega⟩
    simp only [spec_l06Place.l0]
    rw [if_neg (by omega)]
  | succ d ih =>
    intro lo hi h1 h2 h3
    by_cases e : lo = hi
    · subst e
      refine ⟨lo, h3, fun k h4 => ?_⟩
      obtain ⟨k, rfl⟩ : ∃ j, k = j + 1 := ⟨k - 1, by omega⟩
      simp only [spec_l06Place.l0]
      rw [if_neg (by omega)]
    · have hm : wrap64 (Int.tdiv (wrap64 ((lo : Int) + (hi : Int))) 2) = (((lo + hi) / 2 : Nat) : Int) := by
        rw [w64s (x := (lo : Int) + (hi : Int)) (by omega) (by omega)]
        have : Int.tdiv ((lo : Int) + (hi : Int)) 2 = (((lo + hi) / 2 : Nat) : Int) := by
          rw [Int.tdiv_eq_ediv_of_nonneg (by omega)]; omega
        rw [this, w64s (by omega) (by omega)]
      have hq : (lo + hi) / 2 < xs.length := by omega
      have hw : wrap64 ((((lo + hi) / 2 : Nat) : Int) + 1) = (((lo + hi) / 2 + 1 : Nat) : Int) := by rw [w64s (by omega) (by omega)]; omega
      by_cases g : ltM xs[(lo + hi) / 2] y
      · obtain ⟨p, p1, p2⟩ := ih ((lo + hi) / 2 + 1) hi (by omega) (by omega) h3
        refine ⟨p, p1, fun k h4 => ?_⟩
        obtain ⟨k, rfl⟩ : ∃ j, k = j + 1 := ⟨k - 1, by omega⟩
        simp only [spec_l06Place.l0]
        rw [if_pos (by omega), hm, if_pos (by omega), if_pos (by omega), rd_mo _ _ hq, spec_less_eq _ _ _ (by omega), Option.bind_some, hw, if_pos (by simp [g])]
        exact p2 k (by omega)
      · obtain ⟨p, p1, p2⟩ := ih lo ((lo + hi) / 2) (by omega) (by omega) (by omega)
        refine ⟨p, p1, fun k h4 => ?_⟩
        obtain ⟨k, rfl⟩ : ∃ j, k = j + 1 := ⟨k - 1, by omega⟩
        simp only [spec_l06Place.l0]
        rw [if_pos (by omega), hm, if_pos (by omega), if_pos (by omega), rd_mo _ _ hq, spec_less_eq _ _ _ (by omega), Option.bind_some, if_neg (by simp [g])]
        exact p2 k (by omega)
/-- Looking a motion up in any list ends. -/
theorem has_any (xs : List S48) (hl : (xs.length : Int) ≤ 1048576) (y : S48) : ∃ r : Bool, Ev (fun k => spec_l06Has.f k xs y.f0.f0 y.f0.f1 y.f0.f2 y.f0.f3 y.f1.f0 y.f1.f1) r := by
  obtain ⟨p, p2, p1⟩ := place_any xs hl y xs.length 0 xs.length (by omega) (by omega) (by omega)
  have p1' : ∀ k, xs.length + 20 ≤ k → spec_l06Place.f k xs y.f0.f0 y.f0.f1 y.f0.f2 y.f0.f3 y.f1.f0 y.f1.f1 = some (p : Int) := p1
  have e : ∀ k, xs.length + 20 ≤ k → spec_l06Has.f k xs y.f0.f0 y.f0.f1 y.f0.f2 y.f0.f3 y.f1.f0 y.f1.f1 = spec_l06Has.f (xs.length + 20) xs y.f0.f0 y.f0.f1 y.f0.f2 y.f0.f3 y.f1.f0 y.f1.f1 := fun k hk => by
    unfold spec_l06Has.f
    rw [p1' k hk, p1' _ (Nat.le_refl _)]
  have e2 : ∃ r, spec_l06Has.f (xs.length + 20) xs y.f0.f0 y.f0.f1 y.f0.f2 y.f0.f3 y.f1.f0 y.f1.f1 = some r := by
    unfold spec_l06Has.f
    rw [p1' _ (Nat.le_refl _), Option.bind_some]
    by_cases h : p < xs.length
    · rw [if_pos (by omega), if_pos (by omega)]; exact ⟨_, rfl⟩
    · rw [if_neg (by omega)]; exact ⟨_, rfl⟩
  obtain ⟨r, hr⟩ := e2
  exact ⟨r, xs.length + 20, fun k hk => (e k hk).trans hr⟩
/-- The code of a group with at most 48 motions. -/
theorem small_both (fr a b c : Int) (xs : List S48) (hx : (xs.length : Int) ≤ 1048576) : ∃ r : Int, Ev (fun k => spec_l15One.f k fr a b c xs) r ∧ Ev (fun k => impl_smallCode.f k fr a b c xs) r ∧
    (r = if FL fr a b c then (if (r = 2) then 2 else if (xs.length : Int) > 48 then 3 else 0) else 1) ∧ (r = 0 → FL fr a b c ∧ Grp fr a b c xs ∧ xs.length ≤ 48) ∧ (r = 3 → FL fr a b c ∧ Grp fr a b c xs) ∧ (r = 2 → ¬ Grp fr a b c xs) := by
  have q := fun i => spec_l06Code_eq fr a b c i
  by_cases h : FL fr a b c
  · obtain ⟨r1, ⟨K1, s1⟩, ⟨K2, s2⟩, g1⟩ := group_iff h xs hx
    obtain ⟨r2, ⟨K3, s3⟩, -, g2⟩ := group_iff h [unitMo] (by decide)
    obtain rfl : r2 = true := g2.2 (Grp.unit h)
    have s1 : ∀ k, K1 ≤ k → spec_IsGroup.f k fr a b c xs = some r1 := s1
    have s3 : ∀ k, K3 ≤ k → spec_IsGroup.f k fr a b c [unitMo] = some true := s3
    obtain ⟨g, s4, ⟨K4, s5⟩, -⟩ := groupCode_both fr a b c xs hx
    obtain rfl : r1 = g := Ev.unique ⟨K1, s1⟩ s4
    have s5 : ∀ k, K4 ≤ k → impl_groupCode.f k fr a b c [xs] = some (if FL fr a b c then (if r1 = true then 0 else 2) else 1) := s5
    have e1 : ∀ k, spec_l15One.f k fr a b c xs = (spec_l15Code.f k fr a b c xs [unitMo]).bind fun t => some t := fun k => rfl
    by_cases hr : r1 = true
    · have hg := g1.1 hr
      have hin : ∀ k, 2000000 ≤ k → spec_l15Inside.f (k + 2) xs [unitMo] = some true := fun k hk => by
        have hh := spec_has6_eq xs hx hg.inc unitMo (k + 1) (by omega)
        have ha : (xs.any fun x => mapMo.eqB x unitMo) = true := (any_eqB _ _).2 hg.one
        rw [ha] at hh
        show spec_l15Inside.l0 (k + 2) xs [unitMo] 0 = _
        simp only [spec_l15Inside.l0]
        rw [if_pos (by decide), if_pos (by decide)]
        refine (congrArg (fun o => Option.bind o _) hh).trans ?_
        rw [Option.bind_some, if_pos rfl, w01, if_neg (by decide)]
      have e2 : ∀ k, K1 + K3 + 2000002 ≤ k → spec_l15One.f k fr a b c xs = if (xs.length : Int) > 48 then some 3 else some 0 := fun k hk => by
        rw [e1]
        unfold spec_l15Code.f
        rw [s3 k (by omega), Option.bind_some]
        unfold spec_l07Code.f
        rw [if_pos rfl, s1 k (by omega), Option.bind_some, q, Option.bind_some, if_pos h, if_pos hr]
        simp only [Option.bind_some]
        rw [if_pos trivial]
        by_cases hl : (xs.length : Int) > 48
        · rw [if_pos hl, if_pos hl]; rfl
        · obtain ⟨k, rfl⟩ : ∃ m, k = m + 2 := ⟨k - 2, by omega⟩
          rw [if_neg hl, if_neg hl, hin k (by omega)]; rfl
      have e3 : ∀ k, K4 ≤ k → impl_smallCode.f k fr a b c xs = if (xs.length : Int) > 48 then some 3 else some 0 := fun k hk => by
        unfold impl_smallCode.f
        rw [s5 k hk, Option.bind_some, if_pos h, if_pos hr, if_pos rfl]
      by_cases hl : (xs.length : Int) > 48
      · exact ⟨3, ⟨_, fun k hk => by show spec_l15One.f k fr a b c xs = _; rw [e2 k hk, if_pos hl]⟩, ⟨_, fun k hk => by show impl_smallCode.f k fr a b c xs = _; rw [e3 k hk, if_pos hl]⟩, by rw [if_pos h, if_neg (by decide), if_pos hl], fun z => absurd z (by decide), fun _ => ⟨h, hg⟩, fun z => absurd z (by decide)⟩
      · exact ⟨0, ⟨_, fun k hk => by show spec_l15One.f k fr a b c xs = _; rw [e2 k hk, if_neg hl]⟩, ⟨_, fun k hk => by show impl_smallCode.f k fr a b c xs = _; rw [e3 k hk, if_neg hl]⟩, by rw [if_pos h, if_neg (by decide), if_neg hl], fun _ => ⟨h, hg, by omega⟩, fun z => absurd z (by decide), fun z => absurd z (by decide)⟩
    · refine ⟨2, ⟨K1 + K3, fun k hk => ?_⟩, ⟨K4, fun k hk => ?_⟩, by rw [if_pos h, if_pos rfl], fun z => absurd z (by decide), fun z => absurd z (by decide), fun _ g => hr (g1.2 g)⟩
      · show spec_l15One.f k fr a b c xs = _
        rw [e1]
        unfold spec_l15Code.f
        rw [s3 k (by omega), Option.bind_some]
        unfold spec_l07Code.f
        rw [if_pos rfl, s1 k (by omega), Option.bind_some, q, Option.bind_some, if_pos h, if_neg hr]
        rfl
      · show impl_smallCode.f k fr a b c xs = _
        unfold impl_smallCode.f
        rw [s5 k hk, Option.bind_some, if_pos h, if_neg hr]
        rfl
  · obtain ⟨g, ⟨K1, s1⟩, ⟨K4, s5⟩, hgood⟩ := groupCode_both fr a b c xs hx
    obtain ⟨g', ⟨K3, s3⟩, -, hgood'⟩ := groupCode_both fr a b c [unitMo] (by decide)
    have s1 : ∀ k, K1 ≤ k → spec_IsGroup.f k fr a b c xs = some g := s1
    have s3 : ∀ k, K3 ≤ k → spec_IsGroup.f k fr a b c [unitMo] = some g' := s3
    have s5 : ∀ k, K4 ≤ k → impl_groupCode.f k fr a b c [xs] = some (if FL fr a b c then (if g = true then 0 else 2) else 1) := s5
    have e1 : ∀ k, spec_l15One.f k fr a b c xs = (spec_l15Code.f k fr a b c xs [unitMo]).bind fun t => some t := fun k => rfl
    refine ⟨1, ⟨K1 + K3, fun k hk => ?_⟩, ⟨K4, fun k hk => ?_⟩, by rw [if_neg h], fun z => absurd z (by decide), fun z => absurd z (by decide), fun z => absurd z (by decide)⟩
    · show spec_l15One.f k fr a b c xs = _
      rw [e1]
      unfold spec_l15Code.f
      rw [s3 k (by omega), Option.bind_some]
      unfold spec_l07Code.f
      rw [if_neg (fun z => h (hgood' z).1), q, Option.bind_some, if_neg h]
      rfl
    · show impl_smallCode.f k fr a b c xs = _
      unfold impl_smallCode.f
      rw [s5 k hk, Option.bind_some, if_neg h]
      rfl

end Go.Proofs.Ytilbokbfcmeleaa.LA
