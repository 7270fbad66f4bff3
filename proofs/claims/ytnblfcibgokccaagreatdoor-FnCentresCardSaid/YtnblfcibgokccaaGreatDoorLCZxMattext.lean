/- Plain lemmas on a matrix found back from its text. -/
import Derived.Test.YtnblfcibgokccaaGreatDoorAid
import Derived.Test.YtnblfcibgokccaaGreatDoorPCx0
import Derived.Test.YtnblfcibgokccaaGreatDoorLCPPoints
import Derived.Test.YtnblfcibgokccaaGreatDoorLCZoaBytes
import Derived.Test.YtnblfcibgokccaaGreatDoorLCZpTexts
import Derived.Test.YtnblfcibgokccaaGreatDoorLCZrMotiontext
import Derived.Test.YtnblfcibgokccaaGreatDoorLCZtRead
import Derived.Test.YtnblfcibgokccaaGreatDoorLCZuReadvec
import Derived.Test.YtnblfcibgokccaaGreatDoorPCx11
namespace Go.Proofs.YtnblfcibgokccaaGreatDoor.LC
open Go.RowKit Go.Proofs.YtnblfcibgokccaaGreatDoor.PC Go.Proofs.YtnblfcibgokccaaGreatDoorW.PrintWords Go.Proofs.YtnblfcibgokccaaGreatDoorW.PrintLast Go.Proofs.YtnblfcibgokccaaGreatDoor.Aid
set_option linter.unusedVariables false
set_option linter.unusedSimpArgs false

theorem splitL_one (c : UInt8) : ∀ p : List UInt8, c ∉ p → splitL c p = [p]
  | [], _ => rfl
  | b :: p, h => by
    have hb : ¬ b = c := fun e => h (by simp [e])
    rw [splitL, if_neg hb, splitL_one c p (fun e => h (List.mem_cons_of_mem _ e))]
theorem comma_itoa (n : Int) : (44 : UInt8) ∉ Lib.itoa n := by
  intro hc
  unfold Lib.itoa at hc
  by_cases h : n < 0
  · rw [if_pos h] at hc
    rcases List.mem_cons.1 hc with e | hc
    · exact absurd e (by decide)
    · have := (dv_dec _ _ (Nat.le_refl _)).2.1 44 hc
      exact absurd this.1 (by decide)
  · rw [if_neg h] at hc
    have := (dv_dec _ _ (Nat.le_refl _)).2.1 44 hc
    exact absurd this.1 (by decide)
theorem LB_matTxt (a b c d : Int) : LB (matTxt a b c d) = Lib.itoa a ++ 44 :: (Lib.itoa b ++ 44 :: (Lib.itoa c ++ 44 :: Lib.itoa d)) := by
  unfold matTxt
  rw [List.map_cons, Lib.join_cons]
  simp [LB, joinTail_cons, Lib.joinTail]
theorem wds_mat (a b c d : Int) : wds 44 (matTxt a b c d) = [ba (Lib.itoa a), ba (Lib.itoa b), ba (Lib.itoa c), ba (Lib.itoa d)] := by
  unfold wds
  rw [LB_matTxt, splitL_head _ _ _ (comma_itoa a), splitL_head _ _ _ (comma_itoa b), splitL_head _ _ _ (comma_itoa c), splitL_one _ _ (comma_itoa d)]
  rfl
theorem ReadMat_text {a b c d : Int} (h : IsM a b c d) (hs : (matTxt a b c d).size ≤ 1000) {k : Nat} (hk : 2000000 < k) : impl_ReadMat.f k (matTxt a b c d) = some (a, b, c, d, true) := by
  have hm := h.1
  unfold IsV at hm
  obtain ⟨vs, ok, p1, p2, p3, p4⟩ := parted_eq (matTxt a b c d) 44 4 (by omega) (k := k) (by omega)
  have hv : vals (wds 44 (matTxt a b c d)) = some [a, b, c, d] := by
    rw [wds_mat]
    refine vals_of _ _ ?_ (by intro u hu; simp at hu; omega)
    simp [rdAll, LB_ba]
  obtain ⟨rfl, rfl⟩ := p3 _ hv (by rw [wds_mat]; rfl)
  rw [show ((4 : Nat) : Int) = 4 from rfl] at p1
  have r0 : rd [a, b, c, d] 0 = a := rfl
  have r1 : rd [a, b, c, d] 1 = b := rfl
  have r2 : rd [a, b, c, d] 2 = c := rfl
  have r3 : rd [a, b, c, d] 3 = d := rfl
  unfold impl_ReadMat.f
  rw [p1]
  simp [r0, r1, r2, r3, impl_IsMat_eq, h]
theorem splitL_glue (c : UInt8) : ∀ l, ∀ (x : List UInt8) (xs : List (List UInt8)), splitL c l = x :: xs → l = x ++ Lib.joinTail [c] xs
  | [], x, xs, h => by
    simp only [splitL, List.cons.injEq] at h
    obtain ⟨rfl, rfl⟩ := h
    simp [Lib.joinTail]
  | b :: l, x, xs, h => by
    by_cases e : b = c
    · rw [splitL, if_pos e] at h
      simp only [List.cons.injEq] at h
      obtain ⟨rfl, rfl⟩ := h
      cases hq : splitL c l with
      | nil => exact absurd hq (splitL_ne c l)
      | cons y ys => rw [joinTail_cons, ← List.append_assoc, List.nil_append, List.append_assoc, ← splitL_glue c l y ys hq, e]; rfl
    · rw [splitL, if_neg e] at h
      cases hq : splitL c l with
      | nil => exact absurd hq (splitL_ne c l)
      | cons y ys =>
        rw [hq] at h
        simp only [List.cons.injEq] at h
        obtain ⟨rfl, rfl⟩ := h
        rw [List.cons_append, ← splitL_glue c l y ys hq]
theorem ReadMat_back {s : ByteArray} (hs : s.size ≤ 1048576) {a b c d : Int} {k : Nat} (hk : 2000000 < k) (h : impl_ReadMat.f k s = some (a, b, c, d, true)) : IsM a b c d ∧ matTxt a b c d = s := by
  obtain ⟨vs, ok, p1, p2, p3, p4⟩ := parted_eq s 44 4 hs (k := k) (by omega)
  rw [show ((4 : Nat) : Int) = 4 from rfl] at p1
  unfold impl_ReadMat.f at h
  rw [p1] at h
  simp only [Option.bind_some] at h
  cases ok with
  | false => simp at h
  | true =>
    obtain ⟨q1, q2⟩ := p4 rfl
    have hlen := rdAll_len _ _ q2
    obtain ⟨a', b', c', d', rfl⟩ : ∃ a b c d, vs = [a, b, c, d] := by
      match vs, (by omega : vs.length = 4) with
      | [a, b, c, d], _ => exact ⟨a, b, c, d, rfl⟩
    have r0 : rd [a', b', c', d'] 0 = a' := rfl
    have r1 : rd [a', b', c', d'] 1 = b' := rfl
    have r2 : rd [a', b', c', d'] 2 = c' := rfl
    have r3 : rd [a', b', c', d'] 3 = d' := rfl
    simp only [if_true, r0, r1, r2, r3, impl_IsMat_eq, Option.bind_some] at h
    by_cases hv : IsM a' b' c' d'
    · simp [hv] at h
      obtain ⟨rfl, rfl, rfl, rfl⟩ := h
      refine ⟨hv, ?_⟩
      unfold wds at q2 q1
      rw [List.length_map] at q1
      obtain ⟨w0, w1, w2, w3, hw⟩ : ∃ w0 w1 w2 w3, splitL 44 (LB s) = [w0, w1, w2, w3] := by
        match splitL 44 (LB s), q1 with
        | [w0, w1, w2, w3], _ => exact ⟨_, _, _, _, rfl⟩
      rw [hw] at q2
      simp [rdAll, LB_ba] at q2
      have e := splitL_glue 44 (LB s) _ _ hw
      rw [← ba_LB s, e, ← ba_LB (matTxt _ _ _ _), LB_matTxt]
      simp [joinTail_cons, Lib.joinTail, q2]
    · simp [hv] at h

end Go.Proofs.YtnblfcibgokccaaGreatDoor.LC
