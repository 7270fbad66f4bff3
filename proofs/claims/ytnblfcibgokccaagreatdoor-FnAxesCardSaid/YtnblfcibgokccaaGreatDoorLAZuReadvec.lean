/- Plain lemmas on reading lists of numbers, vectors, matrices and motions. -/
import Derived.Test.YtnblfcibgokccaaGreatDoorAid
import Derived.Test.YtnblfcibgokccaaGreatDoorPAx0
import Derived.Test.YtnblfcibgokccaaGreatDoorLAPPoints
import Derived.Test.YtnblfcibgokccaaGreatDoorLAPbSuit
import Derived.Test.YtnblfcibgokccaaGreatDoorLAZrMotiontext
import Derived.Test.YtnblfcibgokccaaGreatDoorLAZtRead
import Derived.Test.YtnblfcibgokccaaGreatDoorPAx7
import Derived.Test.YtnblfcibgokccaaGreatDoorPAx8
namespace Go.Proofs.YtnblfcibgokccaaGreatDoor.LA
open Go.RowKit Go.Proofs.YtnblfcibgokccaaGreatDoor.PA Go.Proofs.YtnblfcibgokccaaGreatDoorW.PrintWords Go.Proofs.YtnblfcibgokccaaGreatDoorW.PrintLast Go.Proofs.YtnblfcibgokccaaGreatDoor.Aid
set_option linter.unusedVariables false
set_option linter.unusedSimpArgs false

theorem rdOf_at (ws : List ByteArray) (i : Nat) (h : i < ws.length) : rdOf ByteArray.empty ws (i : Int) = ws[i] := by
  unfold rdOf; rw [Int.toNat_natCast, List.getD_eq_getElem?_getD, List.getElem?_eq_getElem h]; rfl
theorem l01Numbers_go (ws : List ByteArray) (hl : ws.length ≤ 2000000) : ∀ (d i : Nat) (acc : List Int) (k : Nat), i + d = ws.length → acc.length + d ≤ 2000000 → d + 210 < k →
    spec_l01Numbers.l0 k ws acc (i : Int) = (match vals (ws.drop i) with | some vs => some (acc ++ vs, true) | none => some ([], false)) := by
  intro d
  induction d with
  | zero =>
    intro i acc k hi ha hk
    obtain ⟨k, rfl⟩ : ∃ m, k = m + 1 := ⟨k - 1, by omega⟩
    rw [spec_l01Numbers.l0, if_neg (by omega), List.drop_of_length_le (by omega)]
    simp [vals]
  | succ d ih =>
    intro i acc k hi ha hk
    obtain ⟨k, rfl⟩ : ∃ m, k = m + 1 := ⟨k - 1, by omega⟩
    have hlt : i < ws.length := by omega
    rw [spec_l01Numbers.l0, if_pos (by omega), if_pos (by omega), rdOf_at ws i hlt, List.drop_eq_getElem_cons hlt]
    obtain ⟨v, ok, s1, s2, s3⟩ := l01Signed_eq ws[i] (k := k) (by omega)
    rw [s1]
    simp only [Option.bind_some]
    cases hv : val ws[i] with
    | none =>
      rw [hv] at s2
      subst s2
      rw [if_neg (by simp)]
      simp [vals, hv]
    | some n =>
      rw [hv] at s2
      subst s2
      obtain rfl := s3 n hv
      rw [if_pos (by rfl), if_pos (by omega), w64s (by omega) (by omega), show ((i : Int) + 1) = ((i + 1 : Nat) : Int) by omega, ih (i + 1) _ k (by omega) (by simp; omega) (by omega)]
      cases hr : vals (ws.drop (i + 1)) with
      | none => simp [vals, hv, hr]
      | some vs => simp [vals, hv, hr]
theorem l01Numbers_eq (ws : List ByteArray) (hl : ws.length ≤ 1500000) {k : Nat} (hk : ws.length + 210 < k) : spec_l01Numbers.f k ws = (match vals ws with | some vs => some (vs, true) | none => some ([], false)) := by
  unfold spec_l01Numbers.f
  have := l01Numbers_go ws (by omega) ws.length 0 [] k (by omega) (by simp; omega) hk
  rw [show ((0 : Nat) : Int) = 0 from rfl] at this
  rw [this, List.drop_zero]
  cases vals ws <;> simp
theorem parted_go (ws : List ByteArray) (hl : ws.length ≤ 2000000) (hs : ∀ w ∈ ws, w.size ≤ 1048576) : ∀ (d i : Nat) (acc : List Int) (k : Nat), i + d = ws.length → acc.length + d ≤ 2000000 → d < k →
    ∃ vs ok, impl_parted.l0 k acc ws (ws.length : Int) (i : Int) = some (vs, ok) ∧ (ok = false → vs = []) ∧ (∀ us, vals (ws.drop i) = some us → vs = acc ++ us ∧ ok = true) ∧ (ok = true → ∃ us, vs = acc ++ us ∧ rdAll us (ws.drop i)) := by
  intro d
  induction d with
  | zero =>
    intro i acc k hi ha hk
    obtain ⟨k, rfl⟩ : ∃ m, k = m + 1 := ⟨k - 1, by omega⟩
    rw [impl_parted.l0, if_neg (by omega), List.drop_of_length_le (by omega)]
    exact ⟨acc, true, rfl, by simp, fun us h => by simp [vals] at h; subst h; simp, fun _ => ⟨[], by simp, trivial⟩⟩
  | succ d ih =>
    intro i acc k hi ha hk
    obtain ⟨k, rfl⟩ : ∃ m, k = m + 1 := ⟨k - 1, by omega⟩
    have hlt : i < ws.length := by omega
    have hrd : rdOf ByteArray.empty ws (i : Int) = ws[i] := by unfold rdOf; rw [Int.toNat_natCast, List.getD_eq_getElem?_getD, List.getElem?_eq_getElem hlt]; rfl
    rw [impl_parted.l0, if_pos (by omega), if_pos (by omega), if_pos (by omega), hrd, List.drop_eq_getElem_cons hlt]
    obtain ⟨v, ok, n1, n2, n3⟩ := number_eq ws[i] (hs _ (List.getElem_mem hlt))
    rw [n1]
    simp only [Option.bind_some]
    cases ok with
    | false =>
      rw [if_neg (by simp)]
      refine ⟨[], false, rfl, fun _ => rfl, fun us h => ?_, by simp⟩
      unfold vals at h
      cases hv : val ws[i] with
      | none => rw [hv] at h; cases h
      | some n => exact absurd (n3 n hv).2 (by simp)
    | true =>
      rw [if_pos rfl, if_pos (by omega), w64s (by omega) (by omega), show ((i : Int) + 1) = ((i + 1 : Nat) : Int) by omega]
      obtain ⟨vs, ok, i1, i2, i3, i4⟩ := ih (i + 1) (acc ++ [v]) k (by omega) (by simp; omega) (by omega)
      refine ⟨vs, ok, i1, i2, fun us h => ?_, fun h => ?_⟩
      · unfold vals at h
        cases hv : val ws[i] with
        | none => rw [hv] at h; cases h
        | some n =>
          cases hr : vals (ws.drop (i + 1)) with
          | none => rw [hv, hr] at h; cases h
          | some rs =>
            rw [hv, hr] at h
            obtain rfl := Option.some.inj h
            obtain ⟨j1, j2⟩ := i3 rs hr
            obtain rfl := (n3 n hv).1
            exact ⟨by rw [j1]; simp, j2⟩
      · obtain ⟨us, j1, j2⟩ := i4 h
        exact ⟨v :: us, by rw [j1]; simp, n2 rfl, j2⟩
/-- What reading so many numbers gives. -/
theorem parted_eq (s : ByteArray) (c : UInt8) (m : Nat) (hs : s.size ≤ 1048576) {k : Nat} (hk : s.size + 1 < k) :
    ∃ vs ok, impl_parted.f k s ⟨#[c]⟩ (m : Int) = some (vs, ok) ∧ (ok = false → vs = []) ∧ (∀ us, vals (wds c s) = some us → (wds c s).length = m → vs = us ∧ ok = true) ∧ (ok = true → (wds c s).length = m ∧ rdAll vs (wds c s)) := by
  unfold impl_parted.f
  rw [strSplit_eq s c hs]
  simp only [Option.bind_some]
  have hl := wds_len c s
  by_cases hm : (wds c s).length = m
  · rw [if_pos (by omega)]
    obtain ⟨vs, ok, h1, h2, h3, h4⟩ := parted_go (wds c s) (by omega) (fun w hw => Nat.le_trans (wds_word c s w hw) hs) (wds c s).length 0 [] k (by omega) (by simp; omega) (by omega)
    rw [show ((0 : Nat) : Int) = 0 from rfl] at h1
    rw [List.drop_zero] at h3 h4
    refine ⟨vs, ok, h1, h2, fun us h _ => by simpa using h3 us h, fun h => ⟨hm, ?_⟩⟩
    obtain ⟨us, e, hr⟩ := h4 h
    rw [e]; simpa using hr
  · rw [if_neg (by omega)]
    exact ⟨[], false, rfl, fun _ => rfl, fun _ _ h => absurd h hm, by simp⟩
theorem ReadMat_both (s : ByteArray) (hs : s.size ≤ 1048576) {k : Nat} (hk : 2000000 < k) : ∃ a b c d t, spec_ReadMat.f k s = some (a, b, c, d, t) ∧ impl_ReadMat.f k s = some (a, b, c, d, t) := by
  obtain ⟨vs, ok, p1, p2, p3, p4⟩ := parted_eq s 44 4 hs (k := k) (by omega)
  obtain ⟨k0, hk0⟩ : ∃ m, k = m + 1 := ⟨k - 1, by omega⟩
  have hsp := l01Split_eq s 44 hs (k := k) (by omega)
  have hnu := l01Numbers_eq (wds 44 s) (by have := wds_len 44 s; omega) (k := k) (by have := wds_len 44 s; omega)
  rw [show ((44 : UInt8).toNat : Int) = 44 from rfl] at hsp
  rw [show ((4 : Nat) : Int) = 4 from rfl] at p1
  unfold spec_ReadMat.f impl_ReadMat.f
  rw [hsp, p1]
  simp only [Option.bind_some]
  rw [hnu]
  by_cases hg : ∃ us, vals (wds 44 s) = some us ∧ us.length = 4
  · obtain ⟨us, h1, h2⟩ := hg
    have hr := (vals_rd _ _ h1).1
    have hlen := rdAll_len _ _ hr
    obtain ⟨rfl, rfl⟩ := p3 us h1 (by omega)
    obtain ⟨a, b, c, d, rfl⟩ : ∃ a b c d, vs = [a, b, c, d] := by
      match vs, h2 with
      | [a, b, c, d], _ => exact ⟨a, b, c, d, rfl⟩
    rw [h1]
    have r0 : rd [a, b, c, d] 0 = a := rfl
    have r1 : rd [a, b, c, d] 1 = b := rfl
    have r2 : rd [a, b, c, d] 2 = c := rfl
    have r3 : rd [a, b, c, d] 3 = d := rfl
    subst hk0
    simp only [Option.bind_some, if_true, spec_ReadMat.j0, r0, r1, r2, r3, spec_IsMat_eq, impl_IsMat_eq]
    by_cases hv : IsM a b c d
    · refine ⟨a, b, c, d, true, ?_, ?_⟩ <;> simp [hv]
    · refine ⟨0, 0, 0, 0, false, ?_, ?_⟩ <;> simp [hv]
  · refine ⟨0, 0, 0, 0, false, ?_, ?_⟩
    · subst hk0
      cases h1 : vals (wds 44 s) with
      | none => simp [spec_ReadMat.j0]
      | some us =>
        have : ¬ us.length = 4 := fun e => hg ⟨us, h1, e⟩
        have h4 : ((us.length : Int) != 4) = true := by rw [bne_iff_ne]; omega
        simp only [Option.bind_some, if_true, h4, spec_ReadMat.j0]
    · cases ok with
      | false => simp
      | true =>
        obtain ⟨q1, q2⟩ := p4 rfl
        have hlen := rdAll_len _ _ q2
        obtain ⟨a, b, c, d, rfl⟩ : ∃ a b c d, vs = [a, b, c, d] := by
          match vs, (by omega : vs.length = 4) with
          | [a, b, c, d], _ => exact ⟨a, b, c, d, rfl⟩
        have r0 : rd [a, b, c, d] 0 = a := rfl
        have r1 : rd [a, b, c, d] 1 = b := rfl
        have r2 : rd [a, b, c, d] 2 = c := rfl
        have r3 : rd [a, b, c, d] 3 = d := rfl
        simp only [if_true, r0, r1, r2, r3, impl_IsMat_eq, Option.bind_some]
        have hv : ¬ IsM a b c d := fun hv => hg ⟨[a, b, c, d], vals_of _ _ q2 (by have := hv.1; unfold IsV at this; intro u hu; simp at hu; omega), rfl⟩
        simp [hv]
end Go.Proofs.YtnblfcibgokccaaGreatDoor.LA
