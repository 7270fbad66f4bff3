import Derived.Test.YtedmadofpdkekaaAid
import Derived.Test.YtedmadofpdkekaaPAx0
import Derived.Test.YtedmadofpdkekaaPAx0
import Derived.Test.YtedmadofpdkekaaPAx11
import Derived.Test.YtedmadofpdkekaaPAx5
namespace Go.Proofs.Ytedmadofpdkekaa.LA
open Go.RowKit Go.Proofs.Ytedmadofpdkekaa.PA Go.Proofs.YtedmadofpdkekaaW.PrintWords Go.Proofs.YtedmadofpdkekaaW.PrintLast Go.Proofs.Ytedmadofpdkekaa.Aid
set_option linter.unusedVariables false
set_option linter.unusedSimpArgs false
def Src (l : List Int) (p s : Int) : Prop := 0 ≤ p ∧ p ≤ l.length ∧ 0 ≤ s ∧ s < 2147483647
def Byt (l : List Int) : Prop := (∀ x ∈ l, 0 ≤ x ∧ x ≤ 255) ∧ (l.length : Int) ≤ 4096
theorem byt_of {l : List Int} (h : ∀ x ∈ l, (Lit.int .u8 x).wf = true) (hl : (l.length : Int) ≤ 4096) : Byt l := by
  refine ⟨fun x hx => ?_, hl⟩
  have := h x hx
  simp [Lit.wf, IntKind.min, IntKind.max, IntKind.bits, IntKind.signed] at this
  omega
theorem rd_byte {l : List Int} (h : Byt l) (i : Int) : 0 ≤ rd l i ∧ rd l i ≤ 255 := by
  unfold rd
  by_cases hi : i.toNat < l.length
  · have e : l.getD i.toNat 0 = l[i.toNat] := by simp [List.getD, hi]
    rw [e]; exact h.1 _ (List.getElem_mem hi)
  · have e : l.getD i.toNat 0 = 0 := by simp [List.getD, Nat.le_of_not_lt hi]
    rw [e]; omega
theorem tmod_in {a n : Int} (ha : 0 ≤ a) (hn : 1 ≤ n) : 0 ≤ Int.tmod a n ∧ Int.tmod a n < n := ⟨Int.tmod_nonneg _ ha, Int.tmod_lt_of_pos _ (by omega)⟩
theorem next_some {l : List Int} (hb : Byt l) {p s n : Int} (h : Src l p s) (hn : n ≤ 1000000000000) :
    ∃ r p' s', spec_l01Next.f l p s n = some (r, p', s') ∧ Src l p' s' ∧ 0 ≤ r ∧ (1 ≤ n → r < n) := by
  obtain ⟨h0, h1, h2, h3⟩ := h
  obtain ⟨hb1, hb2⟩ := hb
  have hb : Byt l := ⟨hb1, hb2⟩
  unfold spec_l01Next.f
  by_cases c1 : n ≤ 1
  · rw [if_pos c1]; exact ⟨0, p, s, rfl, ⟨h0, h1, h2, h3⟩, by omega, fun _ => by omega⟩
  rw [if_neg c1]
  have hx : wrap64 ((wrap64 (s * 48271)) + 67) = s * 48271 + 67 := by rw [w64s (x := s * 48271) (by omega) (by omega), w64s (by omega) (by omega)]
  rw [hx]
  obtain ⟨e0, e1⟩ := tmod_in (a := s * 48271 + 67) (n := 2147483647) (by omega) (by omega)
  generalize Int.tmod (s * 48271 + 67) 2147483647 = e at e0 e1 ⊢
  have q0 : 0 ≤ Int.tdiv e 37 := Int.tdiv_nonneg e0 (by omega)
  have q1 : Int.tdiv e 37 ≤ e := by rw [Int.tdiv_eq_ediv_of_nonneg e0]; omega
  generalize Int.tdiv e 37 = q at q0 q1 ⊢
  have hw : wrap64 q = q := w64s (by omega) (by omega)
  have hn0 : ¬ n = 0 := by omega
  by_cases c2 : p < (l.length : Int)
  · have b := rd_byte hb p
    have hwb : wrap64 (rd l p) = rd l p := w64s (by omega) (by omega)
    have hwp : wrap64 (p + 1) = p + 1 := w64s (by omega) (by omega)
    have hsum : wrap64 (q + rd l p) = q + rd l p := w64s (by omega) (by omega)
    have hsub : wrap64 (p + 1 - 1) = p := by rw [w64s (by omega) (by omega)]; omega
    have S' : Src l (p + 1) e := ⟨by omega, by omega, e0, e1⟩
    rw [if_pos c2, if_pos h0, hw, hwb, hwp, hsum, hsub]
    simp only [if_neg hn0, if_pos h0, if_pos c2, hwb]
    have t1 := tmod_in (a := q + rd l p) (n := n) (by omega) (by omega)
    have t2 := tmod_in (a := rd l p) (n := n) (by omega) (by omega)
    by_cases c3 : n ≤ 256
    · rw [if_pos c3]
      by_cases c4 : Int.tmod (p + 1) 2 = 0
      · rw [if_pos c4]; exact ⟨_, _, _, rfl, S', t2.1, fun _ => t2.2⟩
      · rw [if_neg c4]; exact ⟨_, _, _, rfl, S', t1.1, fun _ => t1.2⟩
    · rw [if_neg c3]; exact ⟨_, _, _, rfl, S', t1.1, fun _ => t1.2⟩
  · have t := tmod_in (a := q) (n := n) (by omega) (by omega)
    rw [if_neg c2, if_neg hn0, hw]
    exact ⟨_, _, _, rfl, ⟨h0, h1, e0, e1⟩, t.1, fun _ => t.2⟩
theorem from_loop {l : List Int} (hb : Byt l) (d : Nat) : ∀ (i s : Int), 0 ≤ i → i ≤ 64 → 64 - i = d → 0 ≤ s → s < 2147483647 → ∃ s', (∀ k : Nat, d < k → spec_l01From.l0 k l i l 0 s = some (l, 0, s')) ∧ Src l 0 s' := by
  induction d with
  | zero =>
    intro i s h0 h1 hd s0 s1
    refine ⟨s, fun k hk => ?_, by omega, by omega, s0, s1⟩
    obtain ⟨k, rfl⟩ := succ_of_lt hk
    simp only [spec_l01From.l0]
    by_cases c : i < (l.length : Int)
    · rw [if_pos c, if_neg (by omega)]
    · rw [if_neg c]
  | succ d ih =>
    intro i s h0 h1 hd s0 s1
    by_cases c : i < (l.length : Int)
    · have b := rd_byte hb i
      obtain ⟨t0, t1⟩ := tmod_in (a := s * 73 + rd l i) (n := 2147483647) (by omega) (by omega)
      obtain ⟨s', e, g⟩ := ih (i + 1) _ (by omega) (by omega) (by omega) t0 t1
      refine ⟨s', fun k hk => ?_, g⟩
      obtain ⟨k, rfl⟩ := succ_of_lt hk
      simp only [spec_l01From.l0]
      rw [if_pos c, if_pos (by omega), if_pos h0, w64s (x := i + 1) (by omega) (by omega), w64s (x := s * 73) (by omega) (by omega), w64s (x := rd l i) (by omega) (by omega), w64s (by omega) (by omega)]
      exact e k (by omega)
    · refine ⟨s, fun k hk => ?_, by omega, by omega, s0, s1⟩
      obtain ⟨k, rfl⟩ := succ_of_lt hk
      simp only [spec_l01From.l0]
      rw [if_neg c]
theorem from_ev {l : List Int} (hb : Byt l) : ∃ s, (∀ k : Nat, 64 < k → spec_l01From.f k l = some (l, 0, s)) ∧ Src l 0 s :=
  from_loop hb 64 0 93001 (by omega) (by omega) (by omega) (by omega) (by omega)
end Go.Proofs.Ytedmadofpdkekaa.LA
