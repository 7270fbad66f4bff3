import Derived.Test.YtedmadofpdkekaaAid
import Derived.Test.YtedmadofpdkekaaPAx0
namespace Go.Proofs.Ytedmadofpdkekaa.LA
open Go.RowKit Go.Proofs.Ytedmadofpdkekaa.PA Go.Proofs.YtedmadofpdkekaaW.PrintWords Go.Proofs.YtedmadofpdkekaaW.PrintLast Go.Proofs.Ytedmadofpdkekaa.Aid
set_option linter.unusedVariables false
set_option linter.unusedSimpArgs false
theorem fib_count {α β : Type} [DecidableEq β] (f : α → β) (n : Nat) : ∀ (p : List β) (xs : List α), p.Nodup → (∀ x ∈ xs, f x ∈ p) → (∀ m ∈ p, (xs.filter fun x => decide (f x = m)).length = n) → xs.length = p.length * n
  | [], xs, _, h, _ => by
    cases xs with
    | nil => simp
    | cons x xs => exact absurd (h x (by simp)) (by simp)
  | m :: p, xs, hp, h, hn => by
    have hm := List.nodup_cons.1 hp
    have e : xs.length = (xs.filter fun x => decide (f x = m)).length + (xs.filter fun x => !decide (f x = m)).length := by
      rw [← List.countP_eq_length_filter, ← List.countP_eq_length_filter]
      have := List.length_eq_countP_add_countP (fun x => decide (f x = m)) (l := xs)
      simpa using this
    have ih := fib_count f n p (xs.filter fun x => !decide (f x = m)) hm.2 (fun x hx => by
      have hx' := List.mem_filter.1 hx
      have := h x hx'.1
      rcases List.mem_cons.1 this with e | e
      · simp [e] at hx'
      · exact e) (fun q hq => by
      rw [List.filter_filter]
      have hqm : q ≠ m := fun e => hm.1 (e ▸ hq)
      rw [← hn q (List.mem_cons_of_mem _ hq)]
      congr 1
      apply List.filter_congr
      intro x _
      by_cases hx : f x = q
      · have : f x ≠ m := fun e => hqm (hx.symm.trans e)
        simp [hx, hqm]
      · simp [hx])
    rw [e, hn m (by simp), ih, List.length_cons, Nat.succ_mul]; omega
theorem inj_len {α β : Type} [DecidableEq β] (g : α → β) (l : List α) (L : List β) (hl : l.Nodup) (hg : ∀ x ∈ l, ∀ y ∈ l, g x = g y → x = y) (hL : ∀ x ∈ l, g x ∈ L) : l.length ≤ L.length := by
  induction l generalizing L with
  | nil => simp
  | cons x l ih =>
    have hm := List.nodup_cons.1 hl
    have hx := hL x (by simp)
    have := ih (L.erase (g x)) hm.2 (fun a ha b hb => hg a (by simp [ha]) b (by simp [hb])) (fun y hy => by
      rw [List.mem_erase_of_ne]
      · exact hL y (by simp [hy])
      · intro e
        have := hg y (by simp [hy]) x (by simp) e
        subst this
        exact hm.1 hy)
    rw [List.length_erase_of_mem hx] at this
    have hpos : 0 < L.length := List.length_pos_of_mem hx
    simp only [List.length_cons]; omega
def once {β : Type} [DecidableEq β] : List β → List β
  | [] => []
  | [x] => [x]
  | x :: y :: r => if x = y then once (y :: r) else x :: once (y :: r)
theorem fibres {α β : Type} [DecidableEq β] (f : α → β) (mul : β → β → β) (one : β) (prod : α → α → α) (xs : List α) (hn : xs.Nodup)
    (hcl : ∀ x ∈ xs, ∀ y ∈ xs, prod x y ∈ xs) (hf : ∀ x ∈ xs, ∀ y ∈ xs, f (prod x y) = mul (f x) (f y)) (hinj : ∀ x ∈ xs, ∀ x' ∈ xs, ∀ y ∈ xs, f x = f x' → prod x y = prod x' y → x = x')
    (h1 : ∀ y ∈ xs, mul one (f y) = f y) (hp : ∀ y ∈ xs, ∃ n : Nat, Nat.rec (f y) (fun _ q => mul q (f y)) n = one) : ∀ y ∈ xs, (xs.filter fun x => decide (f x = f y)).length = (xs.filter fun x => decide (f x = one)).length := by
  have step : ∀ q, ∀ y ∈ xs, (xs.filter fun x => decide (f x = q)).length ≤ (xs.filter fun x => decide (f x = mul q (f y))).length := fun q y hy => by
    classical
    refine inj_len (fun x => prod x y) _ _ (hn.filter _) (fun x hx x' hx' e => ?_) (fun x hx => ?_)
    · have a := List.mem_filter.1 hx
      have b := List.mem_filter.1 hx'
      exact hinj x a.1 x' b.1 y hy ((of_decide_eq_true a.2).trans (of_decide_eq_true b.2).symm) e
    · have a := List.mem_filter.1 hx
      refine List.mem_filter.2 ⟨hcl x a.1 y hy, decide_eq_true ?_⟩
      rw [hf x a.1 y hy, of_decide_eq_true a.2]
  intro y hy
  refine Nat.le_antisymm ?_ ?_
  · obtain ⟨n, e⟩ := hp y hy
    have it : ∀ n : Nat, (xs.filter fun x => decide (f x = f y)).length ≤ (xs.filter fun x => decide (f x = (Nat.rec (f y) (fun _ q => mul q (f y)) n : β))).length := fun n => by
      induction n with
      | zero => exact Nat.le_refl _
      | succ n ih => exact Nat.le_trans ih (step _ y hy)
    have := it n
    rw [e] at this
    exact this
  · have := step one y hy
    rw [h1 y hy] at this
    exact this
theorem image_kernel {α β : Type} [DecidableEq β] (f : α → β) (mul : β → β → β) (one : β) (prod : α → α → α) (xs : List α) (p : List β) (hn : xs.Nodup) (hpn : p.Nodup) (hpm : ∀ q, q ∈ p ↔ ∃ x ∈ xs, f x = q)
    (hcl : ∀ x ∈ xs, ∀ y ∈ xs, prod x y ∈ xs) (hf : ∀ x ∈ xs, ∀ y ∈ xs, f (prod x y) = mul (f x) (f y)) (hinj : ∀ x ∈ xs, ∀ x' ∈ xs, ∀ y ∈ xs, f x = f x' → prod x y = prod x' y → x = x')
    (h1 : ∀ y ∈ xs, mul one (f y) = f y) (hp : ∀ y ∈ xs, ∃ n : Nat, Nat.rec (f y) (fun _ q => mul q (f y)) n = one) : p.length * (xs.filter fun x => decide (f x = one)).length = xs.length := by
  refine (fib_count f _ p xs hpn (fun x hx => (hpm _).2 ⟨x, hx, rfl⟩) (fun q hq => ?_)).symm
  obtain ⟨y, hy, e⟩ := (hpm q).1 hq
  rw [← e]
  exact fibres f mul one prod xs hn hcl hf hinj h1 hp y hy
end Go.Proofs.Ytedmadofpdkekaa.LA
