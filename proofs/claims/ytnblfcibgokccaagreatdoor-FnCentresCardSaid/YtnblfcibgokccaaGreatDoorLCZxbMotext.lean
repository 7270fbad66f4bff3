/- Plain lemmas on a motion found back from its text. -/
import Derived.Test.YtnblfcibgokccaaGreatDoorAid
import Derived.Test.YtnblfcibgokccaaGreatDoorPCx0
import Derived.Test.YtnblfcibgokccaaGreatDoorLCPPoints
import Derived.Test.YtnblfcibgokccaaGreatDoorLCPbSuit
import Derived.Test.YtnblfcibgokccaaGreatDoorLCZoaBytes
import Derived.Test.YtnblfcibgokccaaGreatDoorLCZpTexts
import Derived.Test.YtnblfcibgokccaaGreatDoorLCZrMotiontext
import Derived.Test.YtnblfcibgokccaaGreatDoorLCZtRead
import Derived.Test.YtnblfcibgokccaaGreatDoorLCZuReadvec
import Derived.Test.YtnblfcibgokccaaGreatDoorLCZxMattext
import Derived.Test.YtnblfcibgokccaaGreatDoorPCx0
import Derived.Test.YtnblfcibgokccaaGreatDoorPCx10
import Derived.Test.YtnblfcibgokccaaGreatDoorPCx11
import Derived.Test.YtnblfcibgokccaaGreatDoorPCx12
namespace Go.Proofs.YtnblfcibgokccaaGreatDoor.LC
open Go.RowKit Go.Proofs.YtnblfcibgokccaaGreatDoor.PC Go.Proofs.YtnblfcibgokccaaGreatDoorW.PrintWords Go.Proofs.YtnblfcibgokccaaGreatDoorW.PrintLast Go.Proofs.YtnblfcibgokccaaGreatDoor.Aid
set_option linter.unusedVariables false
set_option linter.unusedSimpArgs false

theorem LB_vecTxt (x y : Int) : LB (vecTxt x y) = Lib.itoa x ++ 44 :: Lib.itoa y := by
  unfold vecTxt
  rw [List.map_cons, Lib.join_cons]
  simp [LB, joinTail_cons, Lib.joinTail]
theorem wds_vec (x y : Int) : wds 44 (vecTxt x y) = [ba (Lib.itoa x), ba (Lib.itoa y)] := by
  unfold wds
  rw [LB_vecTxt, splitL_head _ _ _ (comma_itoa x), splitL_one _ _ (comma_itoa y)]
  rfl
theorem ReadVec_text {x y : Int} (h : IsV x y) (hs : (vecTxt x y).size ≤ 1000) {k : Nat} (hk : 2000000 < k) : impl_ReadVec.f k (vecTxt x y) = some (x, y, true) := by
  have hm := h
  unfold IsV at hm
  obtain ⟨vs, ok, p1, p2, p3, p4⟩ := parted_eq (vecTxt x y) 44 2 (by omega) (k := k) (by omega)
  have hv : vals (wds 44 (vecTxt x y)) = some [x, y] := by
    rw [wds_vec]
    refine vals_of _ _ ?_ (by intro u hu; simp at hu; omega)
    simp [rdAll, LB_ba]
  obtain ⟨rfl, rfl⟩ := p3 _ hv (by rw [wds_vec]; rfl)
  rw [show ((2 : Nat) : Int) = 2 from rfl] at p1
  have r0 : rd [x, y] 0 = x := rfl
  have r1 : rd [x, y] 1 = y := rfl
  unfold impl_ReadVec.f
  rw [p1]
  simp [r0, r1, impl_IsVec_eq, h]
theorem ReadVec_back {s : ByteArray} (hs : s.size ≤ 1048576) {x y : Int} {k : Nat} (hk : 2000000 < k) (h : impl_ReadVec.f k s = some (x, y, true)) : IsV x y ∧ vecTxt x y = s := by
  obtain ⟨vs, ok, p1, p2, p3, p4⟩ := parted_eq s 44 2 hs (k := k) (by omega)
  rw [show ((2 : Nat) : Int) = 2 from rfl] at p1
  unfold impl_ReadVec.f at h
  rw [p1] at h
  simp only [Option.bind_some] at h
  cases ok with
  | false => simp at h
  | true =>
    obtain ⟨q1, q2⟩ := p4 rfl
    have hlen := rdAll_len _ _ q2
    obtain ⟨a', b', rfl⟩ : ∃ a b, vs = [a, b] := by
      match vs, (by omega : vs.length = 2) with
      | [a, b], _ => exact ⟨a, b, rfl⟩
    have r0 : rd [a', b'] 0 = a' := rfl
    have r1 : rd [a', b'] 1 = b' := rfl
    simp only [if_true, r0, r1, impl_IsVec_eq, Option.bind_some] at h
    by_cases hv : IsV a' b'
    · simp [hv] at h
      obtain ⟨rfl, rfl⟩ := h
      refine ⟨hv, ?_⟩
      unfold wds at q2 q1
      rw [List.length_map] at q1
      obtain ⟨w0, w1, hw⟩ : ∃ w0 w1, splitL 44 (LB s) = [w0, w1] := by
        match splitL 44 (LB s), q1 with
        | [w0, w1], _ => exact ⟨_, _, rfl⟩
      rw [hw] at q2
      simp [rdAll, LB_ba] at q2
      have e := splitL_glue 44 (LB s) _ _ hw
      rw [← ba_LB s, e, ← ba_LB (vecTxt _ _), LB_vecTxt]
      simp [joinTail_cons, Lib.joinTail, q2]
    · simp [hv] at h
/-- A motion that is valid, and its text. -/
def OkM (a b c d x y : Int) : Prop := IsM a b c d ∧ Turn a b c d ∧ IsV x y
instance (a b c d x y : Int) : Decidable (OkM a b c d x y) := by unfold OkM; infer_instance
def motTxt (a b c d x y : Int) : ByteArray := if OkM a b c d x y then (matTxt a b c d ++ (⟨#[59]⟩ : ByteArray)) ++ vecTxt x y else ⟨#[]⟩
theorem motTxt_both (a b c d x y : Int) {k : Nat} (hk : 100 < k) : spec_MotionText.f k a b c d x y = some (motTxt a b c d x y) ∧ impl_MotionText.f k a b c d x y = some (motTxt a b c d x y) ∧ (motTxt a b c d x y).size ≤ 3000 := by
  unfold spec_MotionText.f impl_MotionText.f motTxt
  rw [spec_IsMotion_eq a b c d x y (by omega), impl_IsMotion_eq a b c d x y (by omega)]
  simp only [Option.bind_some]
  by_cases h : OkM a b c d x y
  · have h0 := h
    unfold OkM at h0
    rw [if_pos h, if_pos (decide_eq_true h0), if_pos (decide_eq_true h0)]
    obtain ⟨m1, m2, m3⟩ := MatText_both h.1 (k := k) (by omega)
    obtain ⟨v1, v2, v3⟩ := VecText_both h.2.2 (k := k) (by omega)
    have t3 : (⟨#[59]⟩ : ByteArray).size = 1 := by decide
    rw [m1, m2, v1, v2]
    simp only [Option.bind_some]
    rw [if_pos (by omega), if_pos (by rw [ByteArray.size_append]; omega)]
    exact ⟨rfl, rfl, by rw [ByteArray.size_append, ByteArray.size_append]; omega⟩
  · have h0 := h
    unfold OkM at h0
    rw [if_neg h, if_neg (fun e => h0 (of_decide_eq_true e)), if_neg (fun e => h0 (of_decide_eq_true e))]
    exact ⟨rfl, rfl, by decide⟩
theorem semi_mat (a b c d : Int) : (59 : UInt8) ∉ LB (matTxt a b c d) := by
  rw [LB_matTxt]
  have hi : ∀ n : Int, (59 : UInt8) ∉ Lib.itoa n := fun n h => by
    have := itoa_chr n 59 h
    revert this; decide
  simp [hi]
theorem LB_motTxt {a b c d x y : Int} (h : OkM a b c d x y) : LB (motTxt a b c d x y) = LB (matTxt a b c d) ++ 59 :: LB (vecTxt x y) := by
  unfold motTxt
  rw [if_pos h]
  simp [LB]
theorem ReadMotion_text {a b c d x y : Int} (h : OkM a b c d x y) {k : Nat} (hk : 2000000 < k) : impl_ReadMotion.f k (motTxt a b c d x y) = some (a, b, c, d, x, y, true) := by
  have hsz := (motTxt_both a b c d x y (k := k) (by omega)).2.2
  have hm := (MatText_both h.1 (k := k) (by omega)).2.2
  have hv := (VecText_both h.2.2 (k := k) (by omega)).2.2
  have hcut : strings_Cut.f (motTxt a b c d x y) (⟨#[59]⟩ : ByteArray) = some (ba (Lib.cut (LB (motTxt a b c d x y)) [59]).1, ba (Lib.cut (LB (motTxt a b c d x y)) [59]).2.1, (Lib.cut (LB (motTxt a b c d x y)) [59]).2.2) := by
    unfold strings_Cut.f
    rw [if_pos (by omega)]; rfl
  rcases cut_cases 59 (LB (motTxt a b c d x y)) with ⟨n1, n2, n3⟩ | ⟨p, q, n1, n2, n3⟩
  · exact absurd (by rw [LB_motTxt h]; simp) n1
  · rw [LB_motTxt h, splitL_head _ _ _ (semi_mat a b c d)] at n2
    simp only [List.cons.injEq] at n2
    obtain ⟨rfl, -⟩ := n2
    rw [LB_motTxt h] at n3
    have n4 := List.append_cancel_left n3
    simp only [List.cons.injEq, true_and] at n4
    subst n4
    unfold impl_ReadMotion.f
    rw [hcut, n1, Option.bind_some]; dsimp only
    rw [ba_LB, ba_LB, ReadMat_text h.1 hm hk, Option.bind_some, ReadVec_text h.2.2 hv hk, Option.bind_some]; dsimp only
    rw [if_pos rfl, if_pos rfl, impl_IsMotion_eq a b c d x y (by omega), Option.bind_some, if_pos (decide_eq_true (show IsM a b c d ∧ Turn a b c d ∧ IsV x y from h))]
theorem ReadMotion_back {s : ByteArray} (hs : s.size ≤ 1048576) {a b c d x y : Int} {k : Nat} (hk : 2000000 < k) (h : impl_ReadMotion.f k s = some (a, b, c, d, x, y, true)) : OkM a b c d x y ∧ motTxt a b c d x y = s := by
  have hcut : strings_Cut.f s (⟨#[59]⟩ : ByteArray) = some (ba (Lib.cut (LB s) [59]).1, ba (Lib.cut (LB s) [59]).2.1, (Lib.cut (LB s) [59]).2.2) := by
    unfold strings_Cut.f
    rw [if_pos (by omega)]; rfl
  have hsz := LB_size s
  unfold impl_ReadMotion.f at h
  rw [hcut, Option.bind_some] at h
  dsimp only at h
  have hlen : ∀ p q : List UInt8, LB s = p ++ 59 :: q → p.length ≤ 1048576 ∧ q.length ≤ 1048576 := fun p q e => by
    have := congrArg List.length e
    simp at this
    omega
  rcases cut_cases 59 (LB s) with ⟨n1, n2, n3⟩ | ⟨p, q, n1, n2, n3⟩
  · rw [n2] at h
    dsimp only at h
    obtain ⟨a', b', c', d', t, m1, m2⟩ := ReadMat_both (ba (LB s)) (by rw [ba_LB]; exact hs) hk
    obtain ⟨x', y', u, v1, v2, v3⟩ := ReadVec_both (ba []) (by simp [ba, ByteArray.size]) hk
    rw [m2, Option.bind_some, v2, Option.bind_some] at h
    have hu : u = false := by
      cases u with
      | false => rfl
      | true =>
        have := rdAll_len _ _ (v3 rfl).2
        simp [wds, LB_ba, splitL] at this
    subst hu
    simp at h
  · rw [n1] at h
    dsimp only at h
    obtain ⟨l1, l2⟩ := hlen p q n3
    obtain ⟨a', b', c', d', t, m1, m2⟩ := ReadMat_both (ba p) l1 hk
    obtain ⟨x', y', u, v1, v2, v3⟩ := ReadVec_both (ba q) l2 hk
    rw [m2, Option.bind_some, v2, Option.bind_some] at h
    dsimp only at h
    cases t with
    | false => simp at h
    | true =>
      cases u with
      | false => simp at h
      | true =>
        rw [if_pos rfl, if_pos rfl, impl_IsMotion_eq a' b' c' d' x' y' (by omega), Option.bind_some] at h
        by_cases hok : OkM a' b' c' d' x' y'
        · have h0 := hok
          unfold OkM at h0
          rw [if_pos (decide_eq_true h0)] at h
          simp only [Option.some.injEq, Prod.mk.injEq, and_true] at h
          obtain ⟨rfl, rfl, rfl, rfl, rfl, rfl⟩ := h
          refine ⟨hok, ?_⟩
          have e1 := (ReadMat_back (s := ba p) l1 hk m2).2
          have e2 := (ReadVec_back (s := ba q) l2 hk v2).2
          rw [← ba_LB (motTxt _ _ _ _ _ _), LB_motTxt hok, e1, e2, LB_ba, LB_ba, ← n3, ba_LB]
        · have h0 := hok
          unfold OkM at h0
          rw [if_neg (fun e => h0 (of_decide_eq_true e))] at h
          simp at h

end Go.Proofs.YtnblfcibgokccaaGreatDoor.LC
