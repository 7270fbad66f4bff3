import Derived.Test.YtedmadofpdkekaaAid
import Derived.Test.YtedmadofpdkekaaPAx0
import Derived.Test.YtedmadofpdkekaaLAABasic
import Derived.Test.YtedmadofpdkekaaLAUOrder
import Derived.Test.YtedmadofpdkekaaLAVGroup
import Derived.Test.YtedmadofpdkekaaLAZfInsert
import Derived.Test.YtedmadofpdkekaaLAZiClose
import Derived.Test.YtedmadofpdkekaaPAx0
import Derived.Test.YtedmadofpdkekaaPAx10
import Derived.Test.YtedmadofpdkekaaPAx13
import Derived.Test.YtedmadofpdkekaaPAx9
namespace Go.Proofs.Ytedmadofpdkekaa.LA
open Go.RowKit Go.Proofs.Ytedmadofpdkekaa.PA Go.Proofs.YtedmadofpdkekaaW.PrintWords Go.Proofs.YtedmadofpdkekaaW.PrintLast Go.Proofs.Ytedmadofpdkekaa.Aid
set_option linter.unusedVariables false
set_option linter.unusedSimpArgs false
theorem closeS_row {fr a b c : Int} (h : FL fr a b c) (xs ys : List S55) (hx : (xs.length : Int) ≤ 1048576) (hl : ys.length = xs.length) (hxy : ∀ j (hj : j < xs.length), Alike fr a b c xs[j] (ys[j]'(by omega))) (at_ : Nat)
    (cont : ∀ s q, CInv fr a b c xs s q → at_ < q.length → (∀ j (hj : j < q.length), j < at_ + 1 → ∀ x ∈ xs, prodM a b c x q[j] ∈ q) → ∃ r, Ev (fun k => spec_l06Close.l0 k xs s q ((at_ + 1 : Nat) : Int) a b c) r ∧ Closed fr a b c xs r) (d : Nat) :
    ∀ (i : Nat) (s q : List S55), i ≤ xs.length → xs.length - i = d → CInv fr a b c xs s q → (hat : at_ < q.length) → (∀ j (hj : j < q.length), j < at_ → ∀ x ∈ xs, prodM a b c x q[j] ∈ q) → (∀ j (hj : j < xs.length), j < i → prodM a b c xs[j] q[at_] ∈ q) →
      ∃ r, Ev (fun k => spec_l06Close.l1 k xs s q (at_ : Int) (i : Int) a b c) r ∧ Closed fr a b c xs r := by
  induction d with
  | zero =>
    intro i s q hi hd hI hat h1 h2
    have hlen := hI.len h
    have hw : wrap64 ((at_ : Int) + 1) = ((at_ + 1 : Nat) : Int) := by rw [w64s (by omega) (by omega)]; omega
    obtain ⟨r, r1, r3⟩ := cont s q hI hat (fun j hj hja x hx => by
      by_cases e : j = at_
      · subst e
        obtain ⟨n, hn, rfl⟩ := List.getElem_of_mem hx
        exact h2 n hn (by omega)
      · exact h1 j hj (by omega) x hx)
    refine ⟨r, Ev.step (fun k => ?_) r1, r3⟩
    · simp only [spec_l06Close.l1]; rw [if_neg (by omega), hw]
  | succ d ih =>
    intro i s q hi hd hI hat h1 h2
    have hlen := hI.len h
    have hi1 : i < xs.length := by omega
    have hi2 : i < ys.length := by omega
    have hw : wrap64 ((i : Int) + 1) = ((i + 1 : Nat) : Int) := by rw [w64s (by omega) (by omega)]; omega
    have gx := (hxy i hi1).1
    have gq := hI.good _ (List.getElem_mem hat)
    obtain ⟨⟨p, s1, s2⟩, _⟩ := alike_comp h (hxy i hi1) gq
    have hwf := (gx.mul h gq).wf h
    have hh := fun k hk => spec_has6_eq s (by omega) hI.inc (prodM a b c xs[i] q[at_]) k hk
    have hany : (s.any fun x => mapMo.eqB x (prodM a b c xs[i] q[at_])) = (q.any fun x => mapMo.eqB x (prodM a b c xs[i] q[at_])) := by
      rw [Bool.eq_iff_iff, any_eqB, any_eqB]; exact hI.same _
    obtain ⟨n1, n2, n3, n4⟩ := ins_incr s (by omega) hI.inc (prodM a b c xs[i] q[at_])
    by_cases hin : prodM a b c xs[i] q[at_] ∈ q
    · have hany2 : (q.any fun x => mapMo.eqB x (prodM a b c xs[i] q[at_])) = true := (any_eqB _ _).2 hin
      obtain ⟨r, r1, r3⟩ := ih (i + 1) s q (by omega) (by omega) hI hat h1 (fun j hj hji => by
        by_cases e : j = i
        · subst e; exact hin
        · exact h2 j hj (by omega))
      refine ⟨r, Ev.from 2000000 (fun k hk => ?_) r1, r3⟩
      · have e := hh k hk
        rw [hany, hany2] at e
        simp only [spec_l06Close.l1]
        rw [if_pos (by omega), if_pos (by omega), if_pos (by omega), if_pos (by omega), rd_mo _ _ hi1, rd_mo _ _ hat, s1]
        simp only [Option.bind_some, s2, e, if_true, hw]
    · have hany2 : (q.any fun x => mapMo.eqB x (prodM a b c xs[i] q[at_])) = false := Bool.eq_false_iff.2 (fun g => hin ((any_eqB _ _).1 g))
      have hI' : CInv fr a b c xs (spec_l06Insert.ins s (prodM a b c xs[i] q[at_])) (q ++ [prodM a b c xs[i] q[at_]]) := hI.more h (List.getElem_mem hi1) gx (List.getElem_mem hat) hin n2 n3
      have hat' : at_ < (q ++ [prodM a b c xs[i] q[at_]]).length := by simp; omega
      have hq : (q ++ [prodM a b c xs[i] q[at_]])[at_] = q[at_] := List.getElem_append_left hat
      obtain ⟨r, r1, r3⟩ := ih (i + 1) _ _ (by omega) (by omega) hI' hat' (fun j hj hja x hx => by
        have hj' : j < q.length := by omega
        rw [List.getElem_append_left hj']
        exact List.mem_append_left _ (h1 j hj' hja x hx)) (fun j hj hji => by
        rw [hq]
        by_cases e : j = i
        · subst e; exact List.mem_append_right _ (List.mem_singleton.2 rfl)
        · exact List.mem_append_left _ (h2 j hj (by omega)))
      refine ⟨r, Ev.from 2000000 (fun k hk => ?_) r1, r3⟩
      · have e := hh k hk
        rw [hany, hany2] at e
        simp only [spec_l06Close.l1]
        rw [if_pos (by omega), if_pos (by omega), if_pos (by omega), if_pos (by omega), rd_mo _ _ hi1, rd_mo _ _ hat, s1]
        simp only [Option.bind_some, s2, e, Bool.false_eq_true, if_false, hw]
        rw [if_pos ⟨by omega, n1⟩, if_pos (by omega)]
theorem closeS_loop {fr a b c : Int} (h : FL fr a b c) (xs ys : List S55) (hx : (xs.length : Int) ≤ 1048576) (hl : ys.length = xs.length) (hxy : ∀ j (hj : j < xs.length), Alike fr a b c xs[j] (ys[j]'(by omega))) (d : Nat) :
    ∀ (at_ : Nat) (s q : List S55), 768 - at_ = d → CInv fr a b c xs s q → at_ ≤ q.length → (∀ j (hj : j < q.length), j < at_ → ∀ x ∈ xs, prodM a b c x q[j] ∈ q) →
      ∃ r, Ev (fun k => spec_l06Close.l0 k xs s q (at_ : Int) a b c) r ∧ Closed fr a b c xs r := by
  have fin : ∀ (at_ : Nat) (s q : List S55), CInv fr a b c xs s q → at_ = q.length → (∀ j (hj : j < q.length), j < at_ → ∀ x ∈ xs, prodM a b c x q[j] ∈ q) →
      ∃ r, Ev (fun k => spec_l06Close.l0 k xs s q (at_ : Int) a b c) r ∧ Closed fr a b c xs r := by
    intro at_ s q hI hat h1
    have hlen := hI.len h
    refine ⟨s, Ev.one (fun k => ?_), ⟨hI.inc, fun z hz => hI.good z ((hI.same z).1 hz), (hI.same _).2 hI.one, fun x hx z hz => ?_, fun z hz => hI.gen z ((hI.same z).1 hz), hlen.1⟩⟩
    · simp only [spec_l06Close.l0]; rw [if_neg (by omega)]
    · obtain ⟨n, hn, rfl⟩ := List.getElem_of_mem ((hI.same z).1 hz)
      exact (hI.same _).2 (h1 n hn (by omega) x hx)
  induction d with
  | zero =>
    intro at_ s q hd hI hat h1
    have hlen := hI.len h
    exact fin at_ s q hI (by omega) h1
  | succ d ih =>
    intro at_ s q hd hI hat h1
    have hlen := hI.len h
    by_cases e : at_ = q.length
    · exact fin at_ s q hI e h1
    · obtain ⟨r, r1, r3⟩ := closeS_row h xs ys hx hl hxy at_ (fun s q hI hat h1 => ih (at_ + 1) s q (by omega) hI (by omega) h1) xs.length 0 s q (by omega) (by omega) hI (by omega) h1 (fun j hj hj0 => by omega)
      refine ⟨r, Ev.step (fun k => ?_) r1, r3⟩
      · simp only [spec_l06Close.l0]; rw [if_pos (by omega)]; rfl
theorem close_spec {fr a b c : Int} (h : FL fr a b c) (xs ys : List S55) (hx : (xs.length : Int) ≤ 1048576) (hl : ys.length = xs.length) (hxy : ∀ j (hj : j < xs.length), Alike fr a b c xs[j] (ys[j]'(by omega))) :
    ∃ r, Ev (fun k => spec_l06Close.f k a b c xs) r ∧ Closed fr a b c xs r := by
  obtain ⟨r, r1, r3⟩ := closeS_loop h xs ys hx hl hxy 768 0 [unitMo] [unitMo] rfl ⟨fun i j hi hj hij => by simp at hi hj; omega, fun z => Iff.rfl, List.pairwise_singleton _ _, fun z hz => by rw [List.mem_singleton.1 hz]; exact Good.unit h, List.mem_singleton.2 rfl, fun z hz => by rw [List.mem_singleton.1 hz]; exact .one⟩ (by simp) (fun j hj h0 => by omega)
  exact ⟨r, r1, r3⟩
end Go.Proofs.Ytedmadofpdkekaa.LA
