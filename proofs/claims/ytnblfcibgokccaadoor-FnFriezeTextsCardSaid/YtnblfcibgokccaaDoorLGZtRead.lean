/- Plain lemmas on reading numbers and on a text's pieces. -/
import Derived.Test.YtnblfcibgokccaaDoorAid
import Derived.Test.YtnblfcibgokccaaDoorPGx0
import Derived.Test.YtnblfcibgokccaaDoorLGZoaBytes
import Derived.Test.YtnblfcibgokccaaDoorPGx0
import Derived.Test.YtnblfcibgokccaaDoorPGx7
import Derived.Test.YtnblfcibgokccaaDoorPGx8
import Derived.Lib.ParseIntB
import Derived.Lib.ItoaNum
import Derived.Lib.SplitLaws
namespace Go.Proofs.YtnblfcibgokccaaDoor.LG
open Go.RowKit Go.Proofs.YtnblfcibgokccaaDoor.PG Go.Proofs.YtnblfcibgokccaaDoorW.PrintWords Go.Proofs.YtnblfcibgokccaaDoorW.PrintLast Go.Proofs.YtnblfcibgokccaaDoor.Aid
set_option linter.unusedVariables false
set_option linter.unusedSimpArgs false

/-- A text's pieces at a byte. -/
def splitL (c : UInt8) : List UInt8 → List (List UInt8)
  | [] => [[]]
  | b :: r => if b = c then [] :: splitL c r else match splitL c r with
    | w :: ws => (b :: w) :: ws
    | [] => [[b]]
theorem splitL_ne (c : UInt8) : ∀ s, splitL c s ≠ []
  | [] => by simp [splitL]
  | b :: r => by
    unfold splitL
    by_cases h : b = c
    · simp [h]
    · rw [if_neg h]; cases splitL c r <;> simp
theorem splitK_eq (c : UInt8) : ∀ s : List UInt8, Lib.splitK [c] 0 (Lib.count s [c]) s = splitL c s
  | [] => by rw [Lib.count_one]; rfl
  | b :: l => by
    have ih := splitK_eq c l
    unfold splitL
    by_cases h : b = c
    · subst h
      have hix : Lib.index (b :: l) [b] = 0 := by rw [Lib.index]; simp [List.isPrefixOf]
      rw [Lib.count_cons_eq, Nat.add_comm, Lib.splitK, hix, if_pos rfl]
      simp [ih]
    · rw [if_neg h, Lib.count_cons_ne b c l h, ← ih]
      have hp : ([c] : List UInt8).isPrefixOf (b :: l) = false := by simp [List.isPrefixOf, Ne.symm h]
      have hix : Lib.index (b :: l) [c] = if Lib.index l [c] == -1 then -1 else Lib.index l [c] + 1 := by rw [Lib.index, hp]; simp
      cases hk : Lib.count l [c] with
      | zero => rfl
      | succ k =>
        have hm : Lib.index l [c] ≠ -1 := fun e => by rw [Lib.count_miss e] at hk; omega
        have hge := Lib.index_ge l [c]
        obtain ⟨j, hj⟩ : ∃ j : Nat, Lib.index l [c] = j := ⟨(Lib.index l [c]).toNat, by omega⟩
        rw [Lib.splitK, Lib.splitK, hix, hj]
        have e1 : ¬ (((j : Nat) : Int) == -1) = true := by simp
        have e2 : ¬ ((((j : Nat) : Int) + 1) == -1) = true := by simp; omega
        rw [if_neg e1, if_neg e1, if_neg e2]
        have e3 : (((j : Nat) : Int) + 1).toNat = j + 1 := by omega
        simp [e3]
theorem splitL_head (c : UInt8) : ∀ (p q : List UInt8), c ∉ p → splitL c (p ++ c :: q) = p :: splitL c q
  | [], q, _ => by rw [List.nil_append, splitL, if_pos rfl]
  | b :: p, q, h => by
    have hb : ¬ b = c := fun e => h (by simp [e])
    have ih := splitL_head c p q (fun e => h (by simp [e]))
    rw [List.cons_append, splitL, if_neg hb, ih]
theorem tl_LB (a : ByteArray) : a.toList = LB a := by cases a; exact ByteArray.toList_mk _
theorem LB_ext (s : ByteArray) (a b : Nat) : LB (s.extract a b) = ((LB s).drop a).take (b - a) := Lib.extract_data s a b
theorem ext_ba (s : ByteArray) (a b : Nat) : s.extract a b = ba (((LB s).drop a).take (b - a)) := by rw [← LB_ext, ba_LB]
theorem bt_at (s : ByteArray) (i : Nat) (h : i < (LB s).length) : bt s (i : Int) = (((LB s)[i]).toNat : Int) := by
  have h2 : i < s.size := h
  unfold bt
  rw [dif_pos (by simpa using h2)]
  rfl
/-- A text's pieces. -/
def wds (c : UInt8) (s : ByteArray) : List ByteArray := (splitL c (LB s)).map ba
def mrg (w : List UInt8) : List (List UInt8) → List (List UInt8)
  | [] => [w]
  | x :: xs => (w ++ x) :: xs
theorem l01Split_go (s : ByteArray) (c : UInt8) (hs : s.size ≤ 1048576) : ∀ (d i fr : Nat) (out : List ByteArray) (k : Nat), i + d = s.size → fr ≤ i → out.length + d ≤ 2000000 → d + 1 < k →
    spec_l01Split.l0 k s (c.toNat : Int) out (fr : Int) (i : Int) = some (out ++ (mrg (((LB s).drop fr).take (i - fr)) (splitL c ((LB s).drop i))).map ba) := by
  intro d
  induction d with
  | zero =>
    intro i fr out k hi hf ho hk
    obtain ⟨k, rfl⟩ : ∃ m, k = m + 1 + 1 := ⟨k - 2, by omega⟩
    rw [spec_l01Split.l0]
    rw [if_pos (by omega), if_pos (by omega), if_pos (by omega), if_pos (by omega), if_pos (by omega), w64s (by omega) (by omega)]
    rw [spec_l01Split.l0, if_neg (by omega), List.drop_of_length_le (by rw [LB_size]; omega : (LB s).length ≤ i), ext_ba]
    simp [splitL, mrg]
  | succ d ih =>
    intro i fr out k hi hf ho hk
    obtain ⟨k, rfl⟩ : ∃ m, k = m + 1 := ⟨k - 1, by omega⟩
    have hlt : i < (LB s).length := by rw [LB_size]; omega
    have e1 : ((i : Int) + 1) = ((i + 1 : Nat) : Int) := by omega
    rw [spec_l01Split.l0, if_pos (by omega), if_neg (by omega), if_pos (by omega), if_pos (by omega), bt_at s i hlt, List.drop_eq_getElem_cons hlt, w64s (by omega) (by omega), e1]
    by_cases hb : (LB s)[i] = c
    · rw [if_pos (by rw [hb]), if_pos (by omega), if_pos (by omega), if_pos (by omega), ih (i + 1) (i + 1) _ k (by omega) (by omega) (by simp; omega) (by omega), ext_ba]
      rw [splitL, if_pos hb]
      have hne := splitL_ne c ((LB s).drop (i + 1))
      cases hq : splitL c ((LB s).drop (i + 1)) with
      | nil => exact absurd hq hne
      | cons x xs => simp [mrg]
    · rw [if_neg (by intro e; apply hb; apply UInt8.toNat_inj.1; omega), ih (i + 1) fr _ k (by omega) (by omega) (by omega) (by omega)]
      rw [splitL, if_neg hb]
      have hne := splitL_ne c ((LB s).drop (i + 1))
      have ht : ((LB s).drop fr).take (i + 1 - fr) = ((LB s).drop fr).take (i - fr) ++ [(LB s)[i]] := by
        rw [show i + 1 - fr = (i - fr) + 1 by omega, List.take_succ_eq_append_getElem (by rw [List.length_drop]; omega), List.getElem_drop]
        congr 3; omega
      cases hq : splitL c ((LB s).drop (i + 1)) with
      | nil => exact absurd hq hne
      | cons x xs => simp [mrg, ht]
theorem l01Split_eq (s : ByteArray) (c : UInt8) (hs : s.size ≤ 1048576) {k : Nat} (hk : s.size + 1 < k) : spec_l01Split.f k s (c.toNat : Int) = some (wds c s) := by
  unfold spec_l01Split.f wds
  have := l01Split_go s c hs s.size 0 0 [] k (by omega) (by omega) (by simp; omega) hk
  rw [show ((0 : Nat) : Int) = 0 from rfl] at this
  rw [this]
  have hne := splitL_ne c (LB s)
  cases hq : splitL c (LB s) with
  | nil => exact absurd hq hne
  | cons x xs => simp [mrg, hq]
theorem splitL_len (c : UInt8) : ∀ l, (splitL c l).length ≤ l.length + 1
  | [] => by simp [splitL]
  | b :: r => by
    have ih := splitL_len c r
    unfold splitL
    by_cases h : b = c
    · rw [if_pos h]; simp; omega
    · rw [if_neg h]
      cases hq : splitL c r with
      | nil => simp
      | cons x xs => rw [hq] at ih; simp at ih ⊢; omega
theorem splitL_word (c : UInt8) : ∀ l, ∀ w ∈ splitL c l, w.length ≤ l.length
  | [], w, hw => by simp [splitL] at hw; simp [hw]
  | b :: r, w, hw => by
    have ih := splitL_word c r
    unfold splitL at hw
    by_cases h : b = c
    · rw [if_pos h] at hw
      rcases List.mem_cons.1 hw with rfl | hw
      · simp
      · have := ih w hw; simp; omega
    · rw [if_neg h] at hw
      cases hq : splitL c r with
      | nil => exact absurd hq (splitL_ne c r)
      | cons x xs =>
        rw [hq] at hw ih
        rcases List.mem_cons.1 hw with rfl | hw
        · have := ih x (by simp); simp; omega
        · have := ih w (by simp [hw]); simp; omega
theorem wds_len (c : UInt8) (s : ByteArray) : (wds c s).length ≤ s.size + 1 := by unfold wds; rw [List.length_map]; exact splitL_len c _
theorem wds_word (c : UInt8) (s : ByteArray) : ∀ w ∈ wds c s, w.size ≤ s.size := by
  intro w hw
  obtain ⟨l, h1, rfl⟩ := List.mem_map.1 hw
  have := splitL_word c _ l h1
  rw [LB_size] at this
  exact this
theorem strSplit_eq (s : ByteArray) (c : UInt8) (hs : s.size ≤ 1048576) : strings_Split.f s ⟨#[c]⟩ = some (wds c s) := by
  unfold strings_Split.f
  rw [if_pos ⟨by omega, by simp [ByteArray.size]⟩]
  congr 1
  have h := Lib.splitB_data (⟨#[c]⟩ : ByteArray) 0 (Lib.countB s ⟨#[c]⟩) s
  have h2 : Lib.splitK (⟨#[c]⟩ : ByteArray).data.toList 0 (Lib.countB s ⟨#[c]⟩) s.data.toList = splitL c (LB s) := splitK_eq c (LB s)
  rw [h2] at h
  unfold wds
  rw [← h, List.map_map]
  have : (ba ∘ fun x : ByteArray => x.data.toList) = id := by funext x; exact ba_LB x
  rw [this, List.map_id]
end Go.Proofs.YtnblfcibgokccaaDoor.LG
