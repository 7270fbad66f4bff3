import Derived.Test.YtedmadofpdkekaaAid
import Derived.Test.YtedmadofpdkekaaPAx0
import Derived.Test.YtedmadofpdkekaaLAABasic
import Derived.Test.YtedmadofpdkekaaLAGLattice
import Derived.Test.YtedmadofpdkekaaLAPbSuit
import Derived.Test.YtedmadofpdkekaaLAUOrder
import Derived.Test.YtedmadofpdkekaaLAVGroup
import Derived.Test.YtedmadofpdkekaaLAWIsgroup
import Derived.Test.YtedmadofpdkekaaLAZiClose
import Derived.Test.YtedmadofpdkekaaPAx0
import Derived.Test.YtedmadofpdkekaaPAx13
import Derived.Test.YtedmadofpdkekaaPAx14
import Derived.Test.YtedmadofpdkekaaPAx17
import Derived.Test.YtedmadofpdkekaaPAx6
import Derived.Test.YtedmadofpdkekaaPAx8
namespace Go.Proofs.Ytedmadofpdkekaa.LA
open Go.RowKit Go.Proofs.Ytedmadofpdkekaa.PA Go.Proofs.YtedmadofpdkekaaW.PrintWords Go.Proofs.YtedmadofpdkekaaW.PrintLast Go.Proofs.Ytedmadofpdkekaa.Aid
set_option linter.unusedVariables false
set_option linter.unusedSimpArgs false
def grpB (a b c : Int) (xs : List S55) : Bool := (xs.any fun x => mapMo.eqB x unitMo) && xs.all fun x => xs.all fun y => xs.any fun z => mapMo.eqB z (prodM a b c x y)
structure Grp (fr a b c : Int) (xs : List S55) : Prop where
  good : ∀ z ∈ xs, Good fr a b c z
  inc : Incr xs
  one : unitMo ∈ xs
  mul : ∀ x ∈ xs, ∀ y ∈ xs, prodM a b c x y ∈ xs
theorem grpB_iff {a b c : Int} {xs : List S55} : grpB a b c xs = true ↔ unitMo ∈ xs ∧ ∀ x ∈ xs, ∀ y ∈ xs, prodM a b c x y ∈ xs := by
  unfold grpB
  rw [Bool.and_eq_true, any_eqB, List.all_eq_true]
  refine and_congr Iff.rfl (forall_congr' fun x => forall_congr' fun hx => ?_)
  rw [List.all_eq_true]
  exact forall_congr' fun y => forall_congr' fun hy => any_eqB _ _
theorem pairV {fr a b c : Int} (h : FL fr a b c) (xs : List S55) (hl : (xs.length : Int) ≤ 1048576) (hg : ∀ i (hi : i < xs.length), Good fr a b c xs[i]) (hs : Incr xs) (i : Nat) (hi : i < xs.length) (q : Bool)
    (hr : Ev (fun k => spec_IsGroup.l1 k xs ((i + 1 : Nat) : Int) a b c) q) (d : Nat) : ∀ j : Nat, j ≤ xs.length → xs.length - j = d →
    Ev (fun k => spec_IsGroup.l2 k xs i j a b c) (((xs.drop j).all fun y => xs.any fun z => mapMo.eqB z (prodM a b c xs[i] y)) && q) := by
  induction d with
  | zero =>
    intro j hj hd
    have hwi : wrap64 ((i : Int) + 1) = ((i + 1 : Nat) : Int) := by rw [w64s (by omega) (by omega)]; omega
    rw [List.drop_eq_nil_of_le (by omega), List.all_nil, Bool.true_and]
    refine Ev.step (fun k => ?_) hr
    simp only [spec_IsGroup.l2]; rw [if_neg (by omega), hwi]
  | succ d ih =>
    intro j hj hd
    have h1 : j < xs.length := by omega
    have hw : wrap64 ((j : Int) + 1) = ((j + 1 : Nat) : Int) := by rw [w64s (by omega) (by omega)]; omega
    obtain ⟨⟨p, s1, s2⟩, -⟩ := alike_comp h (alike_self h (hg i hi)) (hg j h1)
    have hh := fun k hk => spec_has6_eq xs hl hs (prodM a b c xs[i] xs[j]) k hk
    rw [List.drop_eq_getElem_cons h1, List.all_cons]
    have hsp : ∀ k, 2000000 ≤ k → spec_IsGroup.l2 (k + 1) xs i j a b c = if (xs.any fun x => mapMo.eqB x (prodM a b c xs[i] xs[j])) = true then spec_IsGroup.l2 k xs i ((j + 1 : Nat) : Int) a b c else some false := fun k hk => by
      simp only [spec_IsGroup.l2]
      rw [if_pos (by omega), if_pos (by omega), if_pos (by omega), if_pos (by omega), rd_mo _ _ hi, rd_mo _ _ h1, s1]
      simp only [Option.bind_some, s2, hh k hk, hw]
    cases e : (xs.any fun x => mapMo.eqB x (prodM a b c xs[i] xs[j])) with
    | true => exact Ev.from 2000000 (fun k hk => by rw [hsp k hk, if_pos e]) (by rw [Bool.true_and]; exact ih (j + 1) (by omega) (by omega))
    | false => exact ⟨2000001, fun k hk => by obtain ⟨m, rfl⟩ : ∃ m, k = m + 1 := ⟨k - 1, by omega⟩; show spec_IsGroup.l2 (m + 1) xs i j a b c = _; rw [hsp m (by omega), if_neg (by rw [e]; decide)]; simp⟩
theorem rowsV {fr a b c : Int} (h : FL fr a b c) (xs : List S55) (hl : (xs.length : Int) ≤ 1048576) (hg : ∀ i (hi : i < xs.length), Good fr a b c xs[i]) (hs : Incr xs) (d : Nat) : ∀ i : Nat, i ≤ xs.length → xs.length - i = d →
    Ev (fun k => spec_IsGroup.l1 k xs i a b c) ((xs.drop i).all fun x => xs.all fun y => xs.any fun z => mapMo.eqB z (prodM a b c x y)) := by
  induction d with
  | zero =>
    intro i hi hd
    rw [List.drop_eq_nil_of_le (by omega), List.all_nil]
    refine Ev.one (fun k => ?_)
    simp only [spec_IsGroup.l1]; rw [if_neg (by omega)]
  | succ d ih =>
    intro i hi hd
    have h1 : i < xs.length := by omega
    rw [List.drop_eq_getElem_cons h1, List.all_cons]
    have := pairV h xs hl hg hs i h1 _ (ih (i + 1) (by omega) (by omega)) xs.length 0 (by omega) rfl
    rw [List.drop_zero] at this
    refine Ev.step (fun k => ?_) this
    simp only [spec_IsGroup.l1]; rw [if_pos (by omega)]; rfl
theorem listV {fr a b c : Int} (h : FL fr a b c) (xs : List S55) (hl : (xs.length : Int) ≤ 1048576) (hg : ∀ i (hi : i < xs.length), Good fr a b c xs[i]) (hs : Incr xs) (d : Nat) : ∀ i : Nat, i ≤ xs.length → xs.length - i = d →
    Ev (fun k => spec_IsGroup.l0 k fr xs i a b c) (grpB a b c xs) := by
  induction d with
  | zero =>
    intro i hi hd
    obtain rfl : i = xs.length := by omega
    have hh := fun k hk => spec_has6_eq xs hl hs unitMo k hk
    have hr := rowsV h xs hl hg hs xs.length 0 (by omega) rfl
    rw [List.drop_zero] at hr
    have hsp : ∀ k, 2000000 ≤ k → spec_IsGroup.l0 (k + 1) fr xs (xs.length : Int) a b c = if (xs.any fun x => mapMo.eqB x unitMo) = true then spec_IsGroup.l1 k xs ((0 : Nat) : Int) a b c else some false := fun k hk => by
      have hk' := hh k hk
      simp only [spec_IsGroup.l0, spec_l06Unit.f, spec_l02Unit.f, Option.bind_some]
      rw [if_neg (by omega)]
      exact (congrArg (fun o => Option.bind o _) hk').trans rfl
    unfold grpB
    cases e : (xs.any fun x => mapMo.eqB x unitMo) with
    | true => exact Ev.from 2000000 (fun k hk => by rw [hsp k hk, if_pos e]) (by rw [Bool.true_and]; exact hr)
    | false => exact ⟨2000001, fun k hk => by obtain ⟨m, rfl⟩ : ∃ m, k = m + 1 := ⟨k - 1, by omega⟩; show spec_IsGroup.l0 (m + 1) fr xs (xs.length : Int) a b c = _; rw [hsp m (by omega), if_neg (by rw [e]; decide)]; simp⟩
  | succ d ih =>
    intro i hi hd
    have h1 : i < xs.length := by omega
    have g := hg i h1
    have hw : wrap64 ((i : Int) + 1) = ((i + 1 : Nat) : Int) := by rw [w64s (by omega) (by omega)]; omega
    obtain ⟨-, h5, h6⟩ := g.small h
    have hsu := fun k hk => spec_IsSuitable_eq fr a b c xs[i].f0.f0 xs[i].f0.f1 xs[i].f0.f2 xs[i].f0.f3 xs[i].f1.f0 xs[i].f1.f1 k hk
    have hsuit : Suit fr a b c xs[i].f0.f0 xs[i].f0.f1 xs[i].f0.f2 xs[i].f0.f3 xs[i].f1.f0 xs[i].f1.f1 := ⟨g.1, ⟨by omega, by omega⟩, by omega, by omega⟩
    have hm : Mod4 a b c xs[i].f1.f0 xs[i].f1.f1 := h.2.mod4 (by omega) (by omega) (by omega) (by omega)
    have hre : spec_l06Reduce.f a b c xs[i].f0.f0 xs[i].f0.f1 xs[i].f0.f2 xs[i].f0.f3 xs[i].f1.f0 xs[i].f1.f1 = some (xs[i].f0.f0, xs[i].f0.f1, xs[i].f0.f2, xs[i].f0.f3, xs[i].f1.f0, xs[i].f1.f1) := by
      unfold spec_l06Reduce.f
      rw [spec_reduce_eq hm, g.2]; rfl
    refine Ev.from 10000000 (fun k hk => ?_) (ih (i + 1) (by omega) (by omega))
    simp only [spec_IsGroup.l0]
    rw [if_pos (by omega), if_pos (by omega), rd_mo _ _ h1, hsu k hk, Option.bind_some, if_pos (by simp [h, hsuit]), hre, Option.bind_some, if_neg (by simp), hw]
    by_cases h0 : i = 0
    · rw [if_neg (by omega)]
    · obtain ⟨i, rfl⟩ : ∃ m, i = m + 1 := ⟨i - 1, by omega⟩
      have hp : wrap64 (((i + 1 : Nat) : Int) - 1) = (i : Int) := by rw [w64s (by omega) (by omega)]; omega
      have hi' : i < xs.length := by omega
      rw [if_pos (by omega), hp, if_pos (by omega), if_pos (by omega), rd_mo _ _ hi', spec_less_eq xs[i] xs[i + 1] k (by omega), Option.bind_some, if_pos (by simp [hs i (i + 1) hi' h1 (by omega)])]
theorem group_iff {fr a b c : Int} (h : FL fr a b c) (xs : List S55) (hl : (xs.length : Int) ≤ 1048576) : ∃ r : Bool, Ev (fun k => spec_IsGroup.f k fr a b c xs) r ∧ Ev (fun k => impl_isGroup.f k fr a b c xs) r ∧ (r = true ↔ Grp fr a b c xs) := by
  obtain ⟨r, r1, r2, r3, r4⟩ := isGroup_both fr a b c xs hl
  have key : (∀ j (hj : j < xs.length), Good fr a b c xs[j]) → Incr xs → r = grpB a b c xs := fun hg hs => by
    refine Ev.unique r1 ?_
    have hlen := len_768 h xs hg hs
    obtain ⟨K, hK⟩ := listV h xs hl hg hs xs.length 0 (by omega) rfl
    have hK : ∀ k, K ≤ k → spec_IsGroup.l0 k fr xs 0 a b c = some (grpB a b c xs) := hK
    refine ⟨K + 1, fun k hk => ?_⟩
    obtain ⟨k, rfl⟩ : ∃ m, k = m + 1 := ⟨k - 1, by omega⟩
    show spec_IsGroup.f (k + 1) fr a b c xs = _
    unfold spec_IsGroup.f
    rw [spec_l04Code_eq, if_pos h, Option.bind_some, if_pos rfl]
    simp only [spec_IsGroup.j0]
    rw [if_neg (by simp; omega)]; exact hK k (by omega)
  refine ⟨r, r1, r2 h, fun e => ?_, fun g => ?_⟩
  · obtain ⟨g1, g2, -⟩ := r4 e
    have := key g1 g2
    rw [e] at this
    obtain ⟨g3, g4⟩ := grpB_iff.1 this.symm
    exact ⟨fun z hz => by obtain ⟨n, hn, rfl⟩ := List.getElem_of_mem hz; exact g1 n hn, g2, g3, g4⟩
  · rw [key (fun j hj => g.good _ (List.getElem_mem hj)) g.inc]
    exact grpB_iff.2 ⟨g.one, g.mul⟩
theorem Grp.at {fr a b c : Int} {xs : List S55} (g : Grp fr a b c xs) : ∀ j (hj : j < xs.length), Good fr a b c xs[j] := fun j hj => g.good _ (List.getElem_mem hj)
theorem Grp.len {fr a b c : Int} (h : FL fr a b c) {xs : List S55} (g : Grp fr a b c xs) : xs.length ≤ 768 := len_768 h xs g.at g.inc
theorem unit_comp {x : S55} : comp unitMo x = x := by
  obtain ⟨⟨a, b, c, d⟩, e, f⟩ := x
  simp [comp, unitMo]
theorem prod_unit {fr a b c : Int} {x : S55} (g : Good fr a b c x) : prodM a b c unitMo x = x := by
  unfold prodM
  rw [unit_comp, g.2]
theorem Grp.unit {fr a b c : Int} (h : FL fr a b c) : Grp fr a b c [unitMo] where
  good := fun z hz => by rw [List.mem_singleton.1 hz]; exact Good.unit h
  inc := fun i j hi hj hij => by simp at hi hj; omega
  one := List.mem_singleton.2 rfl
  mul := fun x hx y hy => by rw [List.mem_singleton.1 hx, List.mem_singleton.1 hy, prod_unit (Good.unit h)]; exact List.mem_singleton.2 rfl
end Go.Proofs.Ytedmadofpdkekaa.LA
