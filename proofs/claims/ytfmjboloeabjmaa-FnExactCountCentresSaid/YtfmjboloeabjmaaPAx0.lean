/- Walks written by program: each Go function that the law reaches comes to the plain function beside it. -/
import Derived.Test.YtfmjboloeabjmaaProg
import Derived.Below
import Derived.Deep.Draws
import Derived.Deep.AppendLies
import Derived.Maps.AppendAt
import Derived.OwnWalk
import Derived.Laws.BytesArg
import Derived.Laws.MakeOwn
import Derived.Laws.OwnMore
import Derived.Deep.OwnRows
import Derived.Tactics
import Derived.Lib.ConvBytes
import Derived.Laws.Slices
import Derived.WalkKit
import Derived.KernelRfl
import Derived.RowKit3
import Derived.Deep.LoopGhost
import Derived.Deep.QuietTactic
import Derived.BigQuiet
import Derived.WideLaws
import Derived.Deep.DeepCutAuto
import Derived.Deep.CutBlock
import Derived.Deep.RegionHeld3
import Derived.Laws.Rows
import Derived.Lib.AppendStr
import Derived.ArgAppend
import Derived.Laws.IdiomCopy
import Derived.OrdersHeld
import Derived.Laws.BitsLemmas
import Derived.RowKit
import Derived.Shelf.Abstract
import Derived.Maps.OwnOps
import Derived.Maps.OwnSet
import Derived.DeepKeys4
import Derived.WideKeyArgs
import Derived.MapViews
import Derived.Carry
import Derived.Test.YtfmjboloeabjmaaWWords
import Derived.Test.YtfmjboloeabjmaaWLast
import Derived.Test.YtfmjboloeabjmaaWMore
import Derived.Test.YtfmjboloeabjmaaWEqStruct
namespace Go.Proofs.Ytfmjboloeabjmaa.PA
open Go.RowKit Go.Proofs.YtfmjboloeabjmaaW.PrintWords Go.Proofs.YtfmjboloeabjmaaW.PrintLast Go.Proofs.YtfmjboloeabjmaaW.PrintMore
attribute [local go_sem] max2_int min2_int max_two min_two max_three min_three max_four min_four   -- for this text's walks alone
set_option linter.unusedVariables false
set_option linter.unusedSimpArgs false



def errW : Option Int → Value
  | none => .nilIface
  | some c => .iface 0 (.int .i64 c)
theorem errW_none : errW none = .nilIface := rfl
theorem errW_some (c : Int) : errW (some c) = .iface 0 (.int .i64 c) := rfl

theorem info40 : (Try.prog.info? 40).map (fun i => (i.zero, i.size, i.bytes)) = some (some (.agg #[(.int .i64 0), (.int .i64 0), (.int .i64 0), (.int .i64 0)]), 4, 32) := by kernel_rfl
theorem info42 : (Try.prog.info? 42).map (fun i => (i.zero, i.size, i.bytes)) = some (some (.agg #[(.int .i64 0), (.int .i64 0)]), 2, 16) := by kernel_rfl
theorem info44 : (Try.prog.info? 44).map (fun i => (i.zero, i.size, i.bytes)) = some (some (.agg #[(.int .i64 0), (.int .i64 0), (.int .i64 0), (.int .i64 0), (.int .i64 0), (.int .i64 0)]), 6, 48) := by kernel_rfl
-- the values' own types
/-! #### struct type 46 -/
structure S46 where
  f0 : Int
  f1 : Int
  f2 : Int
  f3 : Int
def z46 : S46 := ⟨(0 : Int), (0 : Int), (0 : Int), (0 : Int)⟩
def k46 : Kd S46 := Kd.iso (Kd.pair (Kd.int .i64) (Kd.pair (Kd.int .i64) (Kd.pair (Kd.int .i64) (Kd.int .i64)))) (fun x : S46 => (x.f0, x.f1, x.f2, x.f3))
theorem k46_open {w : World} {x : S46} {cs : List Value} (h : k46.K w x cs) : cs = [.int .i64 x.f0, .int .i64 x.f1, .int .i64 x.f2, .int .i64 x.f3] := by
  obtain ⟨_, _, rfl, rfl, ⟨_, _, rfl, rfl, ⟨_, _, rfl, rfl, rfl⟩⟩⟩ := h
  exact rfl
theorem k46_mk (w : World) (x : S46)  : k46.K w x [.int .i64 x.f0, .int .i64 x.f1, .int .i64 x.f2, .int .i64 x.f3] := ⟨[.int .i64 x.f0], [.int .i64 x.f1, .int .i64 x.f2, .int .i64 x.f3], rfl, rfl, ⟨[.int .i64 x.f1], [.int .i64 x.f2, .int .i64 x.f3], rfl, rfl, ⟨[.int .i64 x.f2], [.int .i64 x.f3], rfl, rfl, rfl⟩⟩⟩
def rd_T46 (xs : List S46) (i : Int) : S46 := xs.getD i.toNat z46
/-! #### struct type 47 -/
structure S47 where
  f0 : Int
  f1 : Int
def z47 : S47 := ⟨(0 : Int), (0 : Int)⟩
def k47 : Kd S47 := Kd.iso (Kd.pair (Kd.int .i64) (Kd.int .i64)) (fun x : S47 => (x.f0, x.f1))
theorem k47_open {w : World} {x : S47} {cs : List Value} (h : k47.K w x cs) : cs = [.int .i64 x.f0, .int .i64 x.f1] := by
  obtain ⟨_, _, rfl, rfl, rfl⟩ := h
  exact rfl
theorem k47_mk (w : World) (x : S47)  : k47.K w x [.int .i64 x.f0, .int .i64 x.f1] := ⟨[.int .i64 x.f0], [.int .i64 x.f1], rfl, rfl, rfl⟩
def rd_T47 (xs : List S47) (i : Int) : S47 := xs.getD i.toNat z47
/-! #### struct type 49 -/
structure S49 where
  f0 : S46
  f1 : S47
def z49 : S49 := ⟨z46, z47⟩
def k49 : Kd S49 := Kd.iso (Kd.pair k46 k47) (fun x : S49 => (x.f0, x.f1))
theorem k49_open {w : World} {x : S49} {cs : List Value} (h : k49.K w x cs) : cs = [.int .i64 x.f0.f0, .int .i64 x.f0.f1, .int .i64 x.f0.f2, .int .i64 x.f0.f3, .int .i64 x.f1.f0, .int .i64 x.f1.f1] := by
  obtain ⟨_, _, rfl, s0, s4⟩ := h
  obtain rfl := k46_open s0
  obtain rfl := k47_open s4
  exact rfl
theorem k49_mk (w : World) (x : S49)  : k49.K w x [.int .i64 x.f0.f0, .int .i64 x.f0.f1, .int .i64 x.f0.f2, .int .i64 x.f0.f3, .int .i64 x.f1.f0, .int .i64 x.f1.f1] := ⟨[.int .i64 x.f0.f0, .int .i64 x.f0.f1, .int .i64 x.f0.f2, .int .i64 x.f0.f3], [.int .i64 x.f1.f0, .int .i64 x.f1.f1], rfl, (k46_mk w x.f0 ), (k47_mk w x.f1 )⟩
def rd_T49 (xs : List S49) (i : Int) : S49 := xs.getD i.toNat z49
theorem at_T49 {w : World} {A : Option Addr} {n : Nat} {xs : List S49} (h : Kd.C k49 w A n xs) (i : Int) (h0 : 0 ≤ i) (h1 : i < n) : ∃ ad , A = some ad ∧ w.cell? (ad.add (i.toNat * 6)) = some (.int .i64 (rd_T49 xs i).f0.f0) ∧ w.cell? ⟨(ad.add (i.toNat * 6)).block, (ad.add (i.toNat * 6)).off + 1, none⟩ = some (.int .i64 (rd_T49 xs i).f0.f1) ∧ w.cell? ⟨(ad.add (i.toNat * 6)).block, (ad.add (i.toNat * 6)).off + 2, none⟩ = some (.int .i64 (rd_T49 xs i).f0.f2) ∧ w.cell? ⟨(ad.add (i.toNat * 6)).block, (ad.add (i.toNat * 6)).off + 3, none⟩ = some (.int .i64 (rd_T49 xs i).f0.f3) ∧ w.cell? ⟨(ad.add (i.toNat * 6)).block, (ad.add (i.toNat * 6)).off + 4, none⟩ = some (.int .i64 (rd_T49 xs i).f1.f0) ∧ w.cell? ⟨(ad.add (i.toNat * 6)).block, (ad.add (i.toNat * 6)).off + 5, none⟩ = some (.int .i64 (rd_T49 xs i).f1.f1) := by
  obtain ⟨ad, c, e, _, hK, hc0⟩ := Kd.C_get h z49 i h0 h1
  have hc : ∀ j u, c[j]? = some u → w.cell? (ad.add (i.toNat * 6 + j)) = some u := hc0
  obtain rfl := k49_open hK
  exact ⟨ad, e, hc 0 _ rfl, by rw [← add_field _ _ 1 (by omega)]; exact hc 1 _ rfl, by rw [← add_field _ _ 2 (by omega)]; exact hc 2 _ rfl, by rw [← add_field _ _ 3 (by omega)]; exact hc 3 _ rfl, by rw [← add_field _ _ 4 (by omega)]; exact hc 4 _ rfl, by rw [← add_field _ _ 5 (by omega)]; exact hc 5 _ rfl⟩

/-! #### struct type 42 -/
structure S42 where
  f0 : Int
  f1 : Int
def z42 : S42 := ⟨(0 : Int), (0 : Int)⟩
def k42 : Kd S42 := Kd.iso (Kd.pair (Kd.int .i64) (Kd.int .i64)) (fun x : S42 => (x.f0, x.f1))
theorem k42_open {w : World} {x : S42} {cs : List Value} (h : k42.K w x cs) : cs = [.int .i64 x.f0, .int .i64 x.f1] := by
  obtain ⟨_, _, rfl, rfl, rfl⟩ := h
  exact rfl
theorem k42_openM {w : World} {base : Nat} {ok : Nat → Prop} {x : S42} {cs : List Value} (h : k42.M w base ok x cs) : cs = [.int .i64 x.f0, .int .i64 x.f1] := by
  obtain ⟨_, _, rfl, rfl, rfl⟩ := h
  exact rfl
theorem k42_mk (w : World) (x : S42)  : k42.K w x [.int .i64 x.f0, .int .i64 x.f1] := ⟨[.int .i64 x.f0], [.int .i64 x.f1], rfl, rfl, rfl⟩
theorem k42_mkM (w : World) (base : Nat) (ok : Nat → Prop) (x : S42)  : k42.M w base ok x [.int .i64 x.f0, .int .i64 x.f1] := ⟨[.int .i64 x.f0], [.int .i64 x.f1], rfl, rfl, rfl⟩
def rd_T42 (xs : List S42) (i : Int) : S42 := xs.getD i.toNat z42
theorem at_T42 {w : World} {A : Option Addr} {n : Nat} {xs : List S42} (h : Kd.C k42 w A n xs) (i : Int) (h0 : 0 ≤ i) (h1 : i < n) : ∃ ad , A = some ad ∧ w.cell? (ad.add (i.toNat * 2)) = some (.int .i64 (rd_T42 xs i).f0) ∧ w.cell? ⟨(ad.add (i.toNat * 2)).block, (ad.add (i.toNat * 2)).off + 1, none⟩ = some (.int .i64 (rd_T42 xs i).f1) := by
  obtain ⟨ad, c, e, _, hK, hc0⟩ := Kd.C_get h z42 i h0 h1
  have hc : ∀ j u, c[j]? = some u → w.cell? (ad.add (i.toNat * 2 + j)) = some u := hc0
  obtain rfl := k42_open hK
  exact ⟨ad, e, hc 0 _ rfl, by rw [← add_field _ _ 1 (by omega)]; exact hc 1 _ rfl⟩

/-! #### struct type 40 -/
structure S40 where
  f0 : Int
  f1 : Int
  f2 : Int
  f3 : Int
def z40 : S40 := ⟨(0 : Int), (0 : Int), (0 : Int), (0 : Int)⟩
def k40 : Kd S40 := Kd.iso (Kd.pair (Kd.int .i64) (Kd.pair (Kd.int .i64) (Kd.pair (Kd.int .i64) (Kd.int .i64)))) (fun x : S40 => (x.f0, x.f1, x.f2, x.f3))
theorem k40_open {w : World} {x : S40} {cs : List Value} (h : k40.K w x cs) : cs = [.int .i64 x.f0, .int .i64 x.f1, .int .i64 x.f2, .int .i64 x.f3] := by
  obtain ⟨_, _, rfl, rfl, ⟨_, _, rfl, rfl, ⟨_, _, rfl, rfl, rfl⟩⟩⟩ := h
  exact rfl
theorem k40_openM {w : World} {base : Nat} {ok : Nat → Prop} {x : S40} {cs : List Value} (h : k40.M w base ok x cs) : cs = [.int .i64 x.f0, .int .i64 x.f1, .int .i64 x.f2, .int .i64 x.f3] := by
  obtain ⟨_, _, rfl, rfl, ⟨_, _, rfl, rfl, ⟨_, _, rfl, rfl, rfl⟩⟩⟩ := h
  exact rfl
theorem k40_mkM (w : World) (base : Nat) (ok : Nat → Prop) (x : S40)  : k40.M w base ok x [.int .i64 x.f0, .int .i64 x.f1, .int .i64 x.f2, .int .i64 x.f3] := ⟨[.int .i64 x.f0], [.int .i64 x.f1, .int .i64 x.f2, .int .i64 x.f3], rfl, rfl, ⟨[.int .i64 x.f1], [.int .i64 x.f2, .int .i64 x.f3], rfl, rfl, ⟨[.int .i64 x.f2], [.int .i64 x.f3], rfl, rfl, rfl⟩⟩⟩
def rd_T40 (xs : List S40) (i : Int) : S40 := xs.getD i.toNat z40
theorem at_T40 {w : World} {A : Option Addr} {n : Nat} {xs : List S40} (h : Kd.C k40 w A n xs) (i : Int) (h0 : 0 ≤ i) (h1 : i < n) : ∃ ad , A = some ad ∧ w.cell? (ad.add (i.toNat * 4)) = some (.int .i64 (rd_T40 xs i).f0) ∧ w.cell? ⟨(ad.add (i.toNat * 4)).block, (ad.add (i.toNat * 4)).off + 1, none⟩ = some (.int .i64 (rd_T40 xs i).f1) ∧ w.cell? ⟨(ad.add (i.toNat * 4)).block, (ad.add (i.toNat * 4)).off + 2, none⟩ = some (.int .i64 (rd_T40 xs i).f2) ∧ w.cell? ⟨(ad.add (i.toNat * 4)).block, (ad.add (i.toNat * 4)).off + 3, none⟩ = some (.int .i64 (rd_T40 xs i).f3) := by
  obtain ⟨ad, c, e, _, hK, hc0⟩ := Kd.C_get h z40 i h0 h1
  have hc : ∀ j u, c[j]? = some u → w.cell? (ad.add (i.toNat * 4 + j)) = some u := hc0
  obtain rfl := k40_open hK
  exact ⟨ad, e, hc 0 _ rfl, by rw [← add_field _ _ 1 (by omega)]; exact hc 1 _ rfl, by rw [← add_field _ _ 2 (by omega)]; exact hc 2 _ rfl, by rw [← add_field _ _ 3 (by omega)]; exact hc 3 _ rfl⟩

/-! #### struct type 44 -/
structure S44 where
  f0 : S40
  f1 : S42
def z44 : S44 := ⟨z40, z42⟩
def k44 : Kd S44 := Kd.iso (Kd.pair k40 k42) (fun x : S44 => (x.f0, x.f1))
theorem k44_open {w : World} {x : S44} {cs : List Value} (h : k44.K w x cs) : cs = [.int .i64 x.f0.f0, .int .i64 x.f0.f1, .int .i64 x.f0.f2, .int .i64 x.f0.f3, .int .i64 x.f1.f0, .int .i64 x.f1.f1] := by
  obtain ⟨_, _, rfl, s0, s4⟩ := h
  obtain rfl := k40_open s0
  obtain rfl := k42_open s4
  exact rfl
theorem k44_openM {w : World} {base : Nat} {ok : Nat → Prop} {x : S44} {cs : List Value} (h : k44.M w base ok x cs) : cs = [.int .i64 x.f0.f0, .int .i64 x.f0.f1, .int .i64 x.f0.f2, .int .i64 x.f0.f3, .int .i64 x.f1.f0, .int .i64 x.f1.f1] := by
  obtain ⟨_, _, rfl, s0, s4⟩ := h
  obtain rfl := k40_openM s0
  obtain rfl := k42_openM s4
  exact rfl
theorem k44_mkM (w : World) (base : Nat) (ok : Nat → Prop) (x : S44)  : k44.M w base ok x [.int .i64 x.f0.f0, .int .i64 x.f0.f1, .int .i64 x.f0.f2, .int .i64 x.f0.f3, .int .i64 x.f1.f0, .int .i64 x.f1.f1] := ⟨[.int .i64 x.f0.f0, .int .i64 x.f0.f1, .int .i64 x.f0.f2, .int .i64 x.f0.f3], [.int .i64 x.f1.f0, .int .i64 x.f1.f1], rfl, (k40_mkM w base ok x.f0 ), (k42_mkM w base ok x.f1 )⟩
def rd_T44 (xs : List S44) (i : Int) : S44 := xs.getD i.toNat z44
theorem at_T44 {w : World} {A : Option Addr} {n : Nat} {xs : List S44} (h : Kd.C k44 w A n xs) (i : Int) (h0 : 0 ≤ i) (h1 : i < n) : ∃ ad , A = some ad ∧ w.cell? (ad.add (i.toNat * 6)) = some (.int .i64 (rd_T44 xs i).f0.f0) ∧ w.cell? ⟨(ad.add (i.toNat * 6)).block, (ad.add (i.toNat * 6)).off + 1, none⟩ = some (.int .i64 (rd_T44 xs i).f0.f1) ∧ w.cell? ⟨(ad.add (i.toNat * 6)).block, (ad.add (i.toNat * 6)).off + 2, none⟩ = some (.int .i64 (rd_T44 xs i).f0.f2) ∧ w.cell? ⟨(ad.add (i.toNat * 6)).block, (ad.add (i.toNat * 6)).off + 3, none⟩ = some (.int .i64 (rd_T44 xs i).f0.f3) ∧ w.cell? ⟨(ad.add (i.toNat * 6)).block, (ad.add (i.toNat * 6)).off + 4, none⟩ = some (.int .i64 (rd_T44 xs i).f1.f0) ∧ w.cell? ⟨(ad.add (i.toNat * 6)).block, (ad.add (i.toNat * 6)).off + 5, none⟩ = some (.int .i64 (rd_T44 xs i).f1.f1) := by
  obtain ⟨ad, c, e, _, hK, hc0⟩ := Kd.C_get h z44 i h0 h1
  have hc : ∀ j u, c[j]? = some u → w.cell? (ad.add (i.toNat * 6 + j)) = some u := hc0
  obtain rfl := k44_open hK
  exact ⟨ad, e, hc 0 _ rfl, by rw [← add_field _ _ 1 (by omega)]; exact hc 1 _ rfl, by rw [← add_field _ _ 2 (by omega)]; exact hc 2 _ rfl, by rw [← add_field _ _ 3 (by omega)]; exact hc 3 _ rfl, by rw [← add_field _ _ 4 (by omega)]; exact hc 4 _ rfl, by rw [← add_field _ _ 5 (by omega)]; exact hc 5 _ rfl⟩

def rd_L7 (xs : List (List S42)) (i : Int) : (List S42) := xs.getD i.toNat ([] : List S42)
def rd_L8 (xs : List (List S40)) (i : Int) : (List S40) := xs.getD i.toNat ([] : List S40)
/-! #### struct type 28 -/
structure S28 where
  f0 : Int
  f1 : Int
  f2 : Int
def z28 : S28 := ⟨(0 : Int), (0 : Int), (0 : Int)⟩
def k28 : Kd S28 := Kd.iso (Kd.pair (Kd.int .i64) (Kd.pair (Kd.int .i64) (Kd.int .i64))) (fun x : S28 => (x.f0, x.f1, x.f2))
def rd_T28 (xs : List S28) (i : Int) : S28 := xs.getD i.toNat z28
def rd_L10 (xs : List (List S44)) (i : Int) : (List S44) := xs.getD i.toNat ([] : List S44)
theorem at_L10 {w : World} {A : Option Addr} {n : Nat} {xs : List (List S44)} (h : Kd.C (Kd.slice 44 k44) w A n xs) (i : Int) (h0 : 0 ≤ i) (h1 : i < n) : ∃ ad A0 c0, A = some ad ∧ w.cell? (ad.add i.toNat) = some (.slice A0 (rd_L10 xs i).length c0) ∧ (rd_L10 xs i).length ≤ c0 ∧ k44.C w A0 (rd_L10 xs i).length (rd_L10 xs i) := by
  obtain ⟨ad, c, e, _, hK, hc0⟩ := Kd.C_get h ([] : List S44) i h0 h1
  have hc : ∀ j u, c[j]? = some u → w.cell? (ad.add (i.toNat * 1 + j)) = some u := hc0
  obtain ⟨A0, c0, rfl, l0, g0⟩ := hK
  exact ⟨ad, A0, c0, e, by have hq := hc 0 _ rfl; rwa [Nat.mul_one, Nat.add_zero] at hq, l0, g0⟩

/-! Short words for steps that come often. -/
theorem bkp {w W : World} {g : Nat} {o : Obj} (b : Aside0 (w.heap[g]? = some o)) (h : w.heap[g]? = some o → W.heap[g]? = some o := by intro h; (with_reducible repeat (first | refine blk_drewN ?_ _ | refine blk_drew ?_ | refine blk_alloc ?_ _)); exact h) : W.heap[g]? = some o := h b.out
theorem bcl {w : World} {g : Nat} {t : TypeId} {cs : Array Value} (b : Aside0 (w.heap[g]? = some (.cells cs t (0, 0)))) (i : Nat) {v : Option Value} (e : cs[i]? = v := by rfl) : w.cell? ⟨g, i, none⟩ = v := (blk_cell b.out i).trans e
theorem bsz0 {w W0 W : World} (H : Aside0 (Below w.heap.size w W0)) (f : Below w.heap.size w W0 → Below w.heap.size w W := by intro h; repeat (first | (with_reducible first | exact h | apply below_alloc | apply pw_below_drewN | apply below_drew1) | exact h)) : w.heap.size ≤ W.heap.size := below_size (f H.out)
theorem bbw0 {w W0 W : World} (H : Aside0 (Below w.heap.size w W0)) (f : Below w.heap.size w W0 → Below w.heap.size w W := by intro h; repeat (first | (with_reducible first | exact h | apply below_alloc | apply pw_below_drewN | apply below_drew1) | exact h)) : Below w.heap.size w W := f H.out
theorem ngw0 {w W0 W : World} {g : Nat} (hg : g = W.heap.size) (H : Aside0 (Below w.heap.size w W0)) (f : Below w.heap.size w W0 → Below w.heap.size w W := by intro h; repeat (first | (with_reducible first | exact h | apply below_alloc | apply pw_below_drewN | apply below_drew1) | exact h)) : Aside0 (w.heap.size ≤ g) := ⟨by rw [hg]; exact below_size (f H.out)⟩
theorem bsz1 {w W0 W : World} {g0 : Nat} (H : Aside0 (Below w.heap.size w W0)) (G0 : Aside0 (w.heap.size ≤ g0)) (f : Below w.heap.size w W0 → w.heap.size ≤ g0 → Below w.heap.size w W := by intro h k0; repeat (first | (with_reducible first | exact h | apply below_alloc | apply pw_below_drewN | apply below_drew1 | refine below_set ?_ k0) | exact h)) : w.heap.size ≤ W.heap.size := below_size (f H.out G0.out)
theorem bbw1 {w W0 W : World} {g0 : Nat} (H : Aside0 (Below w.heap.size w W0)) (G0 : Aside0 (w.heap.size ≤ g0)) (f : Below w.heap.size w W0 → w.heap.size ≤ g0 → Below w.heap.size w W := by intro h k0; repeat (first | (with_reducible first | exact h | apply below_alloc | apply pw_below_drewN | apply below_drew1 | refine below_set ?_ k0) | exact h)) : Below w.heap.size w W := f H.out G0.out
theorem ngw1 {w W0 W : World} {g : Nat} {g0 : Nat} (hg : g = W.heap.size) (H : Aside0 (Below w.heap.size w W0)) (G0 : Aside0 (w.heap.size ≤ g0)) (f : Below w.heap.size w W0 → w.heap.size ≤ g0 → Below w.heap.size w W := by intro h k0; repeat (first | (with_reducible first | exact h | apply below_alloc | apply pw_below_drewN | apply below_drew1 | refine below_set ?_ k0) | exact h)) : Aside0 (w.heap.size ≤ g) := ⟨by rw [hg]; exact below_size (f H.out G0.out)⟩
theorem bsz2 {w W0 W : World} {g0 : Nat} {g1 : Nat} (H : Aside0 (Below w.heap.size w W0)) (G0 : Aside0 (w.heap.size ≤ g0)) (G1 : Aside0 (w.heap.size ≤ g1)) (f : Below w.heap.size w W0 → w.heap.size ≤ g0 → w.heap.size ≤ g1 → Below w.heap.size w W := by intro h k0 k1; repeat (first | (with_reducible first | exact h | apply below_alloc | apply pw_below_drewN | apply below_drew1 | refine below_set ?_ k0 | refine below_set ?_ k1) | exact h)) : w.heap.size ≤ W.heap.size := below_size (f H.out G0.out G1.out)
theorem bbw2 {w W0 W : World} {g0 : Nat} {g1 : Nat} (H : Aside0 (Below w.heap.size w W0)) (G0 : Aside0 (w.heap.size ≤ g0)) (G1 : Aside0 (w.heap.size ≤ g1)) (f : Below w.heap.size w W0 → w.heap.size ≤ g0 → w.heap.size ≤ g1 → Below w.heap.size w W := by intro h k0 k1; repeat (first | (with_reducible first | exact h | apply below_alloc | apply pw_below_drewN | apply below_drew1 | refine below_set ?_ k0 | refine below_set ?_ k1) | exact h)) : Below w.heap.size w W := f H.out G0.out G1.out
theorem ngw2 {w W0 W : World} {g : Nat} {g0 : Nat} {g1 : Nat} (hg : g = W.heap.size) (H : Aside0 (Below w.heap.size w W0)) (G0 : Aside0 (w.heap.size ≤ g0)) (G1 : Aside0 (w.heap.size ≤ g1)) (f : Below w.heap.size w W0 → w.heap.size ≤ g0 → w.heap.size ≤ g1 → Below w.heap.size w W := by intro h k0 k1; repeat (first | (with_reducible first | exact h | apply below_alloc | apply pw_below_drewN | apply below_drew1 | refine below_set ?_ k0 | refine below_set ?_ k1) | exact h)) : Aside0 (w.heap.size ≤ g) := ⟨by rw [hg]; exact below_size (f H.out G0.out G1.out)⟩
theorem bsz3 {w W0 W : World} {g0 : Nat} {g1 : Nat} {g2 : Nat} (H : Aside0 (Below w.heap.size w W0)) (G0 : Aside0 (w.heap.size ≤ g0)) (G1 : Aside0 (w.heap.size ≤ g1)) (G2 : Aside0 (w.heap.size ≤ g2)) (f : Below w.heap.size w W0 → w.heap.size ≤ g0 → w.heap.size ≤ g1 → w.heap.size ≤ g2 → Below w.heap.size w W := by intro h k0 k1 k2; repeat (first | (with_reducible first | exact h | apply below_alloc | apply pw_below_drewN | apply below_drew1 | refine below_set ?_ k0 | refine below_set ?_ k1 | refine below_set ?_ k2) | exact h)) : w.heap.size ≤ W.heap.size := below_size (f H.out G0.out G1.out G2.out)
theorem bbw3 {w W0 W : World} {g0 : Nat} {g1 : Nat} {g2 : Nat} (H : Aside0 (Below w.heap.size w W0)) (G0 : Aside0 (w.heap.size ≤ g0)) (G1 : Aside0 (w.heap.size ≤ g1)) (G2 : Aside0 (w.heap.size ≤ g2)) (f : Below w.heap.size w W0 → w.heap.size ≤ g0 → w.heap.size ≤ g1 → w.heap.size ≤ g2 → Below w.heap.size w W := by intro h k0 k1 k2; repeat (first | (with_reducible first | exact h | apply below_alloc | apply pw_below_drewN | apply below_drew1 | refine below_set ?_ k0 | refine below_set ?_ k1 | refine below_set ?_ k2) | exact h)) : Below w.heap.size w W := f H.out G0.out G1.out G2.out
theorem ngw3 {w W0 W : World} {g : Nat} {g0 : Nat} {g1 : Nat} {g2 : Nat} (hg : g = W.heap.size) (H : Aside0 (Below w.heap.size w W0)) (G0 : Aside0 (w.heap.size ≤ g0)) (G1 : Aside0 (w.heap.size ≤ g1)) (G2 : Aside0 (w.heap.size ≤ g2)) (f : Below w.heap.size w W0 → w.heap.size ≤ g0 → w.heap.size ≤ g1 → w.heap.size ≤ g2 → Below w.heap.size w W := by intro h k0 k1 k2; repeat (first | (with_reducible first | exact h | apply below_alloc | apply pw_below_drewN | apply below_drew1 | refine below_set ?_ k0 | refine below_set ?_ k1 | refine below_set ?_ k2) | exact h)) : Aside0 (w.heap.size ≤ g) := ⟨by rw [hg]; exact below_size (f H.out G0.out G1.out G2.out)⟩
theorem bsz4 {w W0 W : World} {g0 : Nat} {g1 : Nat} {g2 : Nat} {g3 : Nat} (H : Aside0 (Below w.heap.size w W0)) (G0 : Aside0 (w.heap.size ≤ g0)) (G1 : Aside0 (w.heap.size ≤ g1)) (G2 : Aside0 (w.heap.size ≤ g2)) (G3 : Aside0 (w.heap.size ≤ g3)) (f : Below w.heap.size w W0 → w.heap.size ≤ g0 → w.heap.size ≤ g1 → w.heap.size ≤ g2 → w.heap.size ≤ g3 → Below w.heap.size w W := by intro h k0 k1 k2 k3; repeat (first | (with_reducible first | exact h | apply below_alloc | apply pw_below_drewN | apply below_drew1 | refine below_set ?_ k0 | refine below_set ?_ k1 | refine below_set ?_ k2 | refine below_set ?_ k3) | exact h)) : w.heap.size ≤ W.heap.size := below_size (f H.out G0.out G1.out G2.out G3.out)
theorem bbw4 {w W0 W : World} {g0 : Nat} {g1 : Nat} {g2 : Nat} {g3 : Nat} (H : Aside0 (Below w.heap.size w W0)) (G0 : Aside0 (w.heap.size ≤ g0)) (G1 : Aside0 (w.heap.size ≤ g1)) (G2 : Aside0 (w.heap.size ≤ g2)) (G3 : Aside0 (w.heap.size ≤ g3)) (f : Below w.heap.size w W0 → w.heap.size ≤ g0 → w.heap.size ≤ g1 → w.heap.size ≤ g2 → w.heap.size ≤ g3 → Below w.heap.size w W := by intro h k0 k1 k2 k3; repeat (first | (with_reducible first | exact h | apply below_alloc | apply pw_below_drewN | apply below_drew1 | refine below_set ?_ k0 | refine below_set ?_ k1 | refine below_set ?_ k2 | refine below_set ?_ k3) | exact h)) : Below w.heap.size w W := f H.out G0.out G1.out G2.out G3.out
theorem ngw4 {w W0 W : World} {g : Nat} {g0 : Nat} {g1 : Nat} {g2 : Nat} {g3 : Nat} (hg : g = W.heap.size) (H : Aside0 (Below w.heap.size w W0)) (G0 : Aside0 (w.heap.size ≤ g0)) (G1 : Aside0 (w.heap.size ≤ g1)) (G2 : Aside0 (w.heap.size ≤ g2)) (G3 : Aside0 (w.heap.size ≤ g3)) (f : Below w.heap.size w W0 → w.heap.size ≤ g0 → w.heap.size ≤ g1 → w.heap.size ≤ g2 → w.heap.size ≤ g3 → Below w.heap.size w W := by intro h k0 k1 k2 k3; repeat (first | (with_reducible first | exact h | apply below_alloc | apply pw_below_drewN | apply below_drew1 | refine below_set ?_ k0 | refine below_set ?_ k1 | refine below_set ?_ k2 | refine below_set ?_ k3) | exact h)) : Aside0 (w.heap.size ≤ g) := ⟨by rw [hg]; exact below_size (f H.out G0.out G1.out G2.out G3.out)⟩
theorem nlt {w W : World} {g g' : Nat} {o : Obj} (hg : g' = W.heap.size) (b : Aside0 (w.heap[g]? = some o)) (h : w.heap[g]? = some o → W.heap[g]? = some o := by intro h; (with_reducible repeat (first | refine blk_drewN ?_ _ | refine blk_drew ?_ | refine blk_alloc ?_ _)); exact h) : Aside0 (g ≠ g') := ⟨by rw [hg]; exact Nat.ne_of_lt (blk_lt (h b.out))⟩
theorem nsy {g g' : Nat} (b : Aside0 (g ≠ g')) : Aside0 (g' ≠ g) := ⟨b.out.symm⟩
theorem sA {α : Type _} {xs : List α} {i : Nat} {a : α} : xs.toArray.setIfInBounds i a = (xs.set i a).toArray := List.setIfInBounds_toArray ..
theorem sB {α : Type _} {x : α} {xs : List α} {a : α} : (x :: xs).set 0 a = a :: xs := rfl
theorem sC {α : Type _} {x : α} {xs : List α} {n : Nat} {a : α} : (x :: xs).set (n + 1) a = x :: xs.set n a := rfl
/-- So many flags are on. -/
def bT (n k : Nat) : Array Bool := (List.replicate k true ++ List.replicate (n - k) false).toArray
section
variable {P : Program} {md : Region.Mode} {ops : Array Oper} {Q : Exit → Act → World → Prop} {S : World → Prop} {ds : List Nat} {T : Bool × List (List Nat × List Nat)} {B : List Nat} {oi : Oper} {v : Value} {fuel : Nat} {l : Array Bool} {a a' : Act} {w : World}
theorem pu (i : Nat) (N : Option Tmp) (l' : Array Bool) (HT : Aside0 (rtab md ops = T)) (h : wpAnyLast P md ops Q S ds fuel l' a' w) (hi : ops[i]? = some oi := by rfl) (hN : oi.dst = N := by rfl) (hk : anyT T l.toList l'.toList i = true := by kernel_rfl) (hQ : ∀ c a w, Q (.panic c) (a.put oi.dst v) w → Q (.panic c) a w := by exact fun _ _ _ h => h) (hw : Region.wanted oi (yielded ops a.tmps) = true := by rfl) (hy : ∀ w', (execOp a.eval oi).run P w' = .ok (.value v) w' := by (intro w'; go_simp; with_reducible rfl)) (ha : a.put N v = a' := by (simp only [Act.put, sA, sB, sC, i64_w, i32_w]; rfl)) : wpAnyLast P md ops Q S ds (fuel + 1) l a w := pure_ l' hi hN (any_of HT.out hk) hQ (Or.inl ⟨hw, hy⟩) ha h
theorem pf (i : Nat) (N : Option Tmp) (l' : Array Bool) (HT : Aside0 (rtab md ops = T)) (h : wpAnyLast P md ops Q S ds fuel l' a' w) (hi : ops[i]? = some oi := by rfl) (hN : oi.dst = N := by rfl) (hk : anyT T l.toList l'.toList i = true := by kernel_rfl) (hQ : ∀ c a w, Q (.panic c) (a.put oi.dst undef) w → Q (.panic c) a w := by exact fun _ _ _ h => h) (hw : Region.wanted oi (yielded ops a.tmps) = false := by rfl) (ha : a.put N undef = a' := by (simp only [Act.put, sA, sB, sC, i64_w, i32_w]; rfl)) : wpAnyLast P md ops Q S ds (fuel + 1) l a w := pure_ l' hi hN (any_of HT.out hk) hQ (Or.inr ⟨hw, rfl⟩) ha h
theorem ta (i : Nat) (N : Option Tmp) (l' : Array Bool) (HT : Aside0 (rtab md ops = T)) (HW : Aside0 (waitsOk T.2 B = true)) (hS : S w) (h : wpAnyLast P md ops Q S ds fuel l' a' w) (hi : ops[i]? = some oi := by rfl) (hN : oi.dst = N := by rfl) (hk : takeW T B ds l.toList l'.toList i = true := by kernel_rfl) (hQ : ∀ c a w, Q (.panic c) (a.put oi.dst v) w → Q (.panic c) a w := by exact fun _ _ _ h => h) (hw : Region.wanted oi (yielded ops a.tmps) = true := by rfl) (hy : ∀ w', S w' → (execOp a.eval oi).run P w' = .ok (.value v) w' := by (intro w' hs_; go_split_ands; go_simp; with_reducible rfl)) (ha : a.put N v = a' := by (simp only [Act.put, sA, sB, sC, i64_w, i32_w]; rfl)) : wpAnyLast P md ops Q S ds (fuel + 1) l a w := take_ l' hi hN (take_ofW HT.out HW.out hk) hQ (Or.inl ⟨hw, hy⟩) hS ha h
end
theorem bz2 {w : World} {g : Nat} {t : TypeId} {v0 v1 : Value} (b : Aside0 (w.heap[g]? = some (.cells #[v0, v1] t (0, 0)))) : w.cell? ⟨g, 0, none⟩ = some v0 ∧ w.cell? ⟨g, 1, none⟩ = some v1 ∧ w.frozen? ⟨g, 0, none⟩ = false ∧ w.frozen? ⟨g, 1, none⟩ = false := ⟨bcl b 0, bcl b 1, blk_frozen b.out 0, blk_frozen b.out 1⟩
theorem bz3 {w : World} {g : Nat} {t : TypeId} {v0 v1 v2 : Value} (b : Aside0 (w.heap[g]? = some (.cells #[v0, v1, v2] t (0, 0)))) : w.cell? ⟨g, 0, none⟩ = some v0 ∧ w.cell? ⟨g, 1, none⟩ = some v1 ∧ w.cell? ⟨g, 2, none⟩ = some v2 ∧ w.frozen? ⟨g, 0, none⟩ = false ∧ w.frozen? ⟨g, 1, none⟩ = false ∧ w.frozen? ⟨g, 2, none⟩ = false := ⟨bcl b 0, bcl b 1, bcl b 2, blk_frozen b.out 0, blk_frozen b.out 1, blk_frozen b.out 2⟩
theorem bz4 {w : World} {g : Nat} {t : TypeId} {v0 v1 v2 v3 : Value} (b : Aside0 (w.heap[g]? = some (.cells #[v0, v1, v2, v3] t (0, 0)))) : w.cell? ⟨g, 0, none⟩ = some v0 ∧ w.cell? ⟨g, 1, none⟩ = some v1 ∧ w.cell? ⟨g, 2, none⟩ = some v2 ∧ w.cell? ⟨g, 3, none⟩ = some v3 ∧ w.frozen? ⟨g, 0, none⟩ = false ∧ w.frozen? ⟨g, 1, none⟩ = false ∧ w.frozen? ⟨g, 2, none⟩ = false ∧ w.frozen? ⟨g, 3, none⟩ = false := ⟨bcl b 0, bcl b 1, bcl b 2, bcl b 3, blk_frozen b.out 0, blk_frozen b.out 1, blk_frozen b.out 2, blk_frozen b.out 3⟩
theorem bz6 {w : World} {g : Nat} {t : TypeId} {v0 v1 v2 v3 v4 v5 : Value} (b : Aside0 (w.heap[g]? = some (.cells #[v0, v1, v2, v3, v4, v5] t (0, 0)))) : w.cell? ⟨g, 0, none⟩ = some v0 ∧ w.cell? ⟨g, 1, none⟩ = some v1 ∧ w.cell? ⟨g, 2, none⟩ = some v2 ∧ w.cell? ⟨g, 3, none⟩ = some v3 ∧ w.cell? ⟨g, 4, none⟩ = some v4 ∧ w.cell? ⟨g, 5, none⟩ = some v5 ∧ w.frozen? ⟨g, 0, none⟩ = false ∧ w.frozen? ⟨g, 1, none⟩ = false ∧ w.frozen? ⟨g, 2, none⟩ = false ∧ w.frozen? ⟨g, 3, none⟩ = false ∧ w.frozen? ⟨g, 4, none⟩ = false ∧ w.frozen? ⟨g, 5, none⟩ = false := ⟨bcl b 0, bcl b 1, bcl b 2, bcl b 3, bcl b 4, bcl b 5, blk_frozen b.out 0, blk_frozen b.out 1, blk_frozen b.out 2, blk_frozen b.out 3, blk_frozen b.out 4, blk_frozen b.out 5⟩
section
variable {P : Program} {md : Region.Mode} {ops : Array Oper} {rest : List Oper} {o oi : Oper} {a a' : Act} {w W : World} {Q : Exit → Act → World → Prop} {K : Act → World → Prop} {S : World → Prop} {ds : List Nat} {T : Bool × List (List Nat × List Nat)} {fuel : Nat} {l : Array Bool}
theorem gd (N : Tmp) (_hN : o.dst = some N) (h : wpList P ops Q (o :: rest) a W) : wpList P ops Q (o :: rest) a W := h
theorem be (cs : Array Value) (t : TypeId) (h : ∀ g, g = W.heap.size → ∀ w1, w1.heap[g]? = some (.cells cs t (0, 0)) → Below W.heap.size W w1 → wpList P ops Q rest (a.put o.dst (.pointer (some ⟨g, 0, none⟩))) w1) (hg : o.guard = none := by rfl) {N : Tmp} (hd : o.dst = some N := by rfl) (hr : (execOp a.eval o).run P W = .ok (.value (.pointer (some ⟨W.heap.size, 0, none⟩))) (W.alloc (.cells cs t (0, 0))) := by first | (go_simp; done) | (go_simp; rfl)) : wpList P ops Q (o :: rest) a W := box_event hg hd hr h
theorem gl (N : Tmp) {f : FuncId} {fn : Func} {ar : Array Operand} {ts : Array TypeId} (hf : P.funcs[f]? = some fn) (args : Array Value) (h : Calls P f args w fun e w' => ∃ v, e = .returned v ∧ wpList P ops Q rest (a.put (some N) v) w') (hd : oi.dst = some N := by rfl) (hg : oi.guard = none := by rfl) (hname : (fn.name == "runtime.NumGoroutine") = false := by kernel_rfl) (hb : fn.body.isSome = true := by rfl) (hop : oi.op = .call { callee := .value (.func f), args := ar, argTypes := ts } := by rfl) (hargs : ar.map a.eval = args := by (try simp only [List.map_toArray, List.map_cons, List.map_nil]); first | done | rfl | (simp only [List.length_drop, List.length_take]; rfl)) : wpList P ops Q (oi :: rest) a w := goesL_ (some N) hd hg hf hname hb args hop hargs h
theorem gs {N : Option Tmp} {f : FuncId} {fn : Func} {ar : Array Operand} {ts : Array TypeId} (hf : P.funcs[f]? = some fn) (args : Array Value) (h : Calls P f args w fun e w' => ∃ v, e = .returned v ∧ K (a.put N v) w') (hname : (fn.name == "runtime.NumGoroutine") = false := by kernel_rfl) (hb : fn.body.isSome = true := by rfl) (hw : Region.wanted oi (yielded ops a.tmps) = true := by rfl) (hN : oi.dst = N := by rfl) (hop : oi.op = .call { callee := .value (.func f), args := ar, argTypes := ts } := by rfl) (hargs : ar.map a.eval = args := by (try simp only [List.map_toArray, List.map_cons, List.map_nil]); first | done | rfl | (simp only [List.length_drop, List.length_take]; rfl)) : if Region.wanted oi (yielded ops a.tmps) = true then Oper.wp P oi a w K Q else K (a.put N undef) w := goes_ hf hname hb args hw hN hop hargs h
theorem ro (i : Nat) (N : Option Tmp) (l' : Array Bool) (HT : Aside0 (rtab md ops = T)) (h : ∀ K : Act → World → Prop, Shut (∀ a' w', S w' → (S w' → wpAnyLast P md ops Q S ds fuel l' a' w') → K a' w') → if Region.wanted oi (yielded ops a.tmps) = true then Oper.wp P oi a w K Q else K (a.put N undef) w) (hi : ops[i]? = some oi := by rfl) (hN : oi.dst = N := by rfl) (hk : (readyT T.2 l.toList == [i] && l.toList.set i true == l'.toList) = true := by kernel_rfl) (hd : i ∉ ds := by decide) : wpAnyLast P md ops Q S ds (fuel + 1) l a w := one_ l' hi hN (one_of HT.out hk) hd h
theorem xb {w' : World} {p : Addr} {v : Value} (H : Aside0 (Below w.heap.size w w')) (h : w.cell? p = some v) : w'.cell? p = some v := (H.out.cell (World.block_lt_of_cell? w _ h)).trans h
theorem cf {g g' j i : Nat} {u : Value} {v : Option Value} (n : Aside0 (g ≠ g')) (h : W.cell? ⟨g, i, none⟩ = v) : (W.setCell ⟨g', j, none⟩ u).cell? ⟨g, i, none⟩ = v := (cell_far (p := ⟨g', j, none⟩) n.out u).trans h
theorem od {p : Prop} [Decidable p] (h : decide p = true := by first | (with_reducible assumption) | assumption) : p := of_decide_eq_true h
end
theorem bq_ {W : World} {g : Nat} {t : TypeId} {l l' : List Value} (h : W.heap[g]? = some (.cells l.toArray t (0, 0))) (e : l = l') : W.heap[g]? = some (.cells l'.toArray t (0, 0)) := e ▸ h
theorem bql {w : World} {g : Nat} {t : TypeId} {l : List Value} (h : w.heap[g]? = some (.cells l.toArray t (0, 0))) (i : Nat) (u : Value) : (w.setCell ⟨g, i, none⟩ u).heap[g]? = some (.cells (l.set i u).toArray t (0, 0)) := blk_put h i u (List.setIfInBounds_toArray ..)
theorem bqf {w : World} {g g' : Nat} {t : TypeId} {l : List Value} (h : w.heap[g]? = some (.cells l.toArray t (0, 0))) (n : g ≠ g') {i : Nat} {u : Value} : (w.setCell ⟨g', i, none⟩ u).heap[g]? = some (.cells l.toArray t (0, 0)) := blk_far h n u
theorem bq0 {w W : World} {g : Nat} {t : TypeId} {l l' : List Value} (b : Aside0 (w.heap[g]? = some (.cells l.toArray t (0, 0)))) (h : w.heap[g]? = some (.cells l.toArray t (0, 0)) → W.heap[g]? = some (.cells l'.toArray t (0, 0)) := by (intro h; apply bq_; (case h => with_reducible repeat (first | exact h | refine blk_drewN ?_ _ | refine blk_drew ?_ | refine blk_alloc ?_ _ | apply bql)); (case e => rfl))) : W.heap[g]? = some (.cells l'.toArray t (0, 0)) := h b.out
theorem bq1 {w W : World} {g : Nat} {t : TypeId} {l l' : List Value} {g0 : Nat} (b : Aside0 (w.heap[g]? = some (.cells l.toArray t (0, 0)))) (n0 : Aside0 (g ≠ g0)) (h : w.heap[g]? = some (.cells l.toArray t (0, 0)) → g ≠ g0 → W.heap[g]? = some (.cells l'.toArray t (0, 0)) := by (intro h m0; apply bq_; (case h => with_reducible repeat (first | exact h | refine blk_drewN ?_ _ | refine blk_drew ?_ | refine blk_alloc ?_ _ | apply bql | apply bqf (n := m0))); (case e => rfl))) : W.heap[g]? = some (.cells l'.toArray t (0, 0)) := h b.out n0.out
theorem bq2 {w W : World} {g : Nat} {t : TypeId} {l l' : List Value} {g0 : Nat} {g1 : Nat} (b : Aside0 (w.heap[g]? = some (.cells l.toArray t (0, 0)))) (n0 : Aside0 (g ≠ g0)) (n1 : Aside0 (g ≠ g1)) (h : w.heap[g]? = some (.cells l.toArray t (0, 0)) → g ≠ g0 → g ≠ g1 → W.heap[g]? = some (.cells l'.toArray t (0, 0)) := by (intro h m0 m1; apply bq_; (case h => with_reducible repeat (first | exact h | refine blk_drewN ?_ _ | refine blk_drew ?_ | refine blk_alloc ?_ _ | apply bql | apply bqf (n := m0) | apply bqf (n := m1))); (case e => rfl))) : W.heap[g]? = some (.cells l'.toArray t (0, 0)) := h b.out n0.out n1.out
theorem bq3 {w W : World} {g : Nat} {t : TypeId} {l l' : List Value} {g0 : Nat} {g1 : Nat} {g2 : Nat} (b : Aside0 (w.heap[g]? = some (.cells l.toArray t (0, 0)))) (n0 : Aside0 (g ≠ g0)) (n1 : Aside0 (g ≠ g1)) (n2 : Aside0 (g ≠ g2)) (h : w.heap[g]? = some (.cells l.toArray t (0, 0)) → g ≠ g0 → g ≠ g1 → g ≠ g2 → W.heap[g]? = some (.cells l'.toArray t (0, 0)) := by (intro h m0 m1 m2; apply bq_; (case h => with_reducible repeat (first | exact h | refine blk_drewN ?_ _ | refine blk_drew ?_ | refine blk_alloc ?_ _ | apply bql | apply bqf (n := m0) | apply bqf (n := m1) | apply bqf (n := m2))); (case e => rfl))) : W.heap[g]? = some (.cells l'.toArray t (0, 0)) := h b.out n0.out n1.out n2.out
theorem asd {p : Prop} (h : p) : Aside0 p := ⟨h⟩
theorem bB {w W W' : World} {g : Nat} {o : Obj} (b : Aside0 (w.heap[g]? = some o)) (hb : Below W.heap.size W W') (h : w.heap[g]? = some o → W.heap[g]? = some o := by intro h; (with_reducible repeat (first | refine blk_drewN ?_ _ | refine blk_drew ?_ | refine blk_alloc ?_ _)); exact h) : Aside0 (W'.heap[g]? = some o) := ⟨blk_below (h b.out) hb⟩
theorem er {p q : Prop} (h2 : q) (h1 : p := by first | rfl | (simp [errW_none, errW_some] <;> rfl) | (simp [*, errW_none, errW_some] <;> rfl)) : p ∧ q := ⟨h1, h2⟩
theorem ks {p q : Prop} (h : p) (f : p → q := by intro h; repeat (first | exact h | (with_reducible refine Kd.C_alloc ?_ _) | (with_reducible refine Kd.C_drewN ?_ _) | (with_reducible refine Kd.C_drew ?_))) : q := f h
theorem kr {p q : Prop} (h : Aside0 p) (f : p → q := by intro h; (with_reducible repeat (first | apply Kd.R_alloc | apply Kd.R_drewN | apply Kd.R_drew)); exact h) : q := f h.out
theorem ob {α β : Type _} {x : Option α} {f : α → Option β} {r : β} (H : x.bind f = some r) : ∃ t, Aside0 (x = some t) ∧ f t = some r := by
  obtain ⟨t, a, h⟩ := Option.bind_eq_some_iff.mp H
  exact ⟨t, ⟨a⟩, h⟩
def bs (n m : Nat) : Array Bool := ((List.range n).map m.testBit).toArray
section
variable {P : Program} {ops : Array Oper} {rest : List Oper} {o : Oper} {a : Act} {W : World} {Q : Exit → Act → World → Prop}
theorem bx (cs : Array Value) (t : TypeId) (h : ∀ g, g = W.heap.size → ∀ w1, Aside0 (w1.heap[g]? = some (.cells cs t (0, 0))) → Below W.heap.size W w1 → wpList P ops Q rest (a.put o.dst (.pointer (some ⟨g, 0, none⟩))) w1) (hg : o.guard = none := by rfl) {N : Tmp} (hd : o.dst = some N := by rfl) (hr : (execOp a.eval o).run P W = .ok (.value (.pointer (some ⟨W.heap.size, 0, none⟩))) (W.alloc (.cells cs t (0, 0))) := by first | (go_simp; done) | (go_simp; rfl)) : wpList P ops Q (o :: rest) a W := box_event hg hd hr fun g e w1 b hb => h g e w1 ⟨b⟩ hb
end
theorem bS0 {w W0 W W' : World} (H : Aside0 (Below w.heap.size w W0)) (hb : Below W.heap.size W W') (f : Below w.heap.size w W0 → Below w.heap.size w W := by intro h; repeat (first | (with_reducible first | exact h | apply below_alloc | apply pw_below_drewN | apply below_drew1) | exact h)) : Aside0 (Below w.heap.size w W') := ⟨below_step (f H.out) hb⟩
theorem bS1 {w W0 W W' : World} {g0 : Nat} (H : Aside0 (Below w.heap.size w W0)) (G0 : Aside0 (w.heap.size ≤ g0)) (hb : Below W.heap.size W W') (f : Below w.heap.size w W0 → w.heap.size ≤ g0 → Below w.heap.size w W := by intro h k0; repeat (first | (with_reducible first | exact h | apply below_alloc | apply pw_below_drewN | apply below_drew1 | refine below_set ?_ k0) | exact h)) : Aside0 (Below w.heap.size w W') := ⟨below_step (f H.out G0.out) hb⟩
theorem bS2 {w W0 W W' : World} {g0 : Nat} {g1 : Nat} (H : Aside0 (Below w.heap.size w W0)) (G0 : Aside0 (w.heap.size ≤ g0)) (G1 : Aside0 (w.heap.size ≤ g1)) (hb : Below W.heap.size W W') (f : Below w.heap.size w W0 → w.heap.size ≤ g0 → w.heap.size ≤ g1 → Below w.heap.size w W := by intro h k0 k1; repeat (first | (with_reducible first | exact h | apply below_alloc | apply pw_below_drewN | apply below_drew1 | refine below_set ?_ k0 | refine below_set ?_ k1) | exact h)) : Aside0 (Below w.heap.size w W') := ⟨below_step (f H.out G0.out G1.out) hb⟩
theorem bS3 {w W0 W W' : World} {g0 : Nat} {g1 : Nat} {g2 : Nat} (H : Aside0 (Below w.heap.size w W0)) (G0 : Aside0 (w.heap.size ≤ g0)) (G1 : Aside0 (w.heap.size ≤ g1)) (G2 : Aside0 (w.heap.size ≤ g2)) (hb : Below W.heap.size W W') (f : Below w.heap.size w W0 → w.heap.size ≤ g0 → w.heap.size ≤ g1 → w.heap.size ≤ g2 → Below w.heap.size w W := by intro h k0 k1 k2; repeat (first | (with_reducible first | exact h | apply below_alloc | apply pw_below_drewN | apply below_drew1 | refine below_set ?_ k0 | refine below_set ?_ k1 | refine below_set ?_ k2) | exact h)) : Aside0 (Below w.heap.size w W') := ⟨below_step (f H.out G0.out G1.out G2.out) hb⟩
theorem bS4 {w W0 W W' : World} {g0 : Nat} {g1 : Nat} {g2 : Nat} {g3 : Nat} (H : Aside0 (Below w.heap.size w W0)) (G0 : Aside0 (w.heap.size ≤ g0)) (G1 : Aside0 (w.heap.size ≤ g1)) (G2 : Aside0 (w.heap.size ≤ g2)) (G3 : Aside0 (w.heap.size ≤ g3)) (hb : Below W.heap.size W W') (f : Below w.heap.size w W0 → w.heap.size ≤ g0 → w.heap.size ≤ g1 → w.heap.size ≤ g2 → w.heap.size ≤ g3 → Below w.heap.size w W := by intro h k0 k1 k2 k3; repeat (first | (with_reducible first | exact h | apply below_alloc | apply pw_below_drewN | apply below_drew1 | refine below_set ?_ k0 | refine below_set ?_ k1 | refine below_set ?_ k2 | refine below_set ?_ k3) | exact h)) : Aside0 (Below w.heap.size w W') := ⟨below_step (f H.out G0.out G1.out G2.out G3.out) hb⟩
theorem rw2 {α : Type} {d : Kd α} {e m g : Nat} {w : World} {ok : Nat → Prop} {u0 u1 v : Value} {xs : List α} (h : d.R e w m (fun k => ok k ∧ k ≠ g) v xs) : d.R e ((w.setCell ⟨g, 0, none⟩ u0).setCell ⟨g, 1, none⟩ u1) m (fun k => ok k ∧ k ≠ g) v xs := Kd.R_far (p := ⟨g, 1, none⟩) (Kd.R_far (p := ⟨g, 0, none⟩) (h) (fun _ hk => hk.2) u0) (fun _ hk => hk.2) u1
theorem rw4 {α : Type} {d : Kd α} {e m g : Nat} {w : World} {ok : Nat → Prop} {u0 u1 u2 u3 v : Value} {xs : List α} (h : d.R e w m (fun k => ok k ∧ k ≠ g) v xs) : d.R e ((((w.setCell ⟨g, 0, none⟩ u0).setCell ⟨g, 1, none⟩ u1).setCell ⟨g, 2, none⟩ u2).setCell ⟨g, 3, none⟩ u3) m (fun k => ok k ∧ k ≠ g) v xs := Kd.R_far (p := ⟨g, 3, none⟩) (Kd.R_far (p := ⟨g, 2, none⟩) (Kd.R_far (p := ⟨g, 1, none⟩) (Kd.R_far (p := ⟨g, 0, none⟩) (h) (fun _ hk => hk.2) u0) (fun _ hk => hk.2) u1) (fun _ hk => hk.2) u2) (fun _ hk => hk.2) u3
theorem rw6 {α : Type} {d : Kd α} {e m g : Nat} {w : World} {ok : Nat → Prop} {u0 u1 u2 u3 u4 u5 v : Value} {xs : List α} (h : d.R e w m (fun k => ok k ∧ k ≠ g) v xs) : d.R e ((((((w.setCell ⟨g, 0, none⟩ u0).setCell ⟨g, 1, none⟩ u1).setCell ⟨g, 2, none⟩ u2).setCell ⟨g, 3, none⟩ u3).setCell ⟨g, 4, none⟩ u4).setCell ⟨g, 5, none⟩ u5) m (fun k => ok k ∧ k ≠ g) v xs := Kd.R_far (p := ⟨g, 5, none⟩) (Kd.R_far (p := ⟨g, 4, none⟩) (Kd.R_far (p := ⟨g, 3, none⟩) (Kd.R_far (p := ⟨g, 2, none⟩) (Kd.R_far (p := ⟨g, 1, none⟩) (Kd.R_far (p := ⟨g, 0, none⟩) (h) (fun _ hk => hk.2) u0) (fun _ hk => hk.2) u1) (fun _ hk => hk.2) u2) (fun _ hk => hk.2) u3) (fun _ hk => hk.2) u4) (fun _ hk => hk.2) u5
theorem at_T49x {w w' : World} {A : Option Addr} {n : Nat} {xs : List S49} (h : Kd.C k49 w A n xs) (HB : Aside0 (Below w.heap.size w w')) (i : Int) (h0 : 0 ≤ i := by exact od) (h1 : i < n := by exact od) : (0 ≤ i) = True ∧ (i < n) = True ∧ ∃ ad, A = some ad ∧ w'.cell? (ad.add (i.toNat * 6)) = some (.int .i64 (rd_T49 xs i).f0.f0) ∧ w'.cell? ⟨(ad.add (i.toNat * 6)).block, (ad.add (i.toNat * 6)).off + 1, none⟩ = some (.int .i64 (rd_T49 xs i).f0.f1) ∧ w'.cell? ⟨(ad.add (i.toNat * 6)).block, (ad.add (i.toNat * 6)).off + 2, none⟩ = some (.int .i64 (rd_T49 xs i).f0.f2) ∧ w'.cell? ⟨(ad.add (i.toNat * 6)).block, (ad.add (i.toNat * 6)).off + 3, none⟩ = some (.int .i64 (rd_T49 xs i).f0.f3) ∧ w'.cell? ⟨(ad.add (i.toNat * 6)).block, (ad.add (i.toNat * 6)).off + 4, none⟩ = some (.int .i64 (rd_T49 xs i).f1.f0) ∧ w'.cell? ⟨(ad.add (i.toNat * 6)).block, (ad.add (i.toNat * 6)).off + 5, none⟩ = some (.int .i64 (rd_T49 xs i).f1.f1) := by
  obtain ⟨ad, e, c0, c1, c2, c3, c4, c5⟩ := at_T49 h i h0 h1; exact ⟨eq_true h0, eq_true h1, ad, e, xb HB c0, xb HB c1, xb HB c2, xb HB c3, xb HB c4, xb HB c5⟩
theorem at_T42x {w w' : World} {A : Option Addr} {n : Nat} {xs : List S42} (h : Kd.C k42 w A n xs) (HB : Aside0 (Below w.heap.size w w')) (i : Int) (h0 : 0 ≤ i := by exact od) (h1 : i < n := by exact od) : (0 ≤ i) = True ∧ (i < n) = True ∧ ∃ ad, A = some ad ∧ w'.cell? (ad.add (i.toNat * 2)) = some (.int .i64 (rd_T42 xs i).f0) ∧ w'.cell? ⟨(ad.add (i.toNat * 2)).block, (ad.add (i.toNat * 2)).off + 1, none⟩ = some (.int .i64 (rd_T42 xs i).f1) := by
  obtain ⟨ad, e, c0, c1⟩ := at_T42 h i h0 h1; exact ⟨eq_true h0, eq_true h1, ad, e, xb HB c0, xb HB c1⟩
theorem at_T42w {w w' : World} {A : Option Addr} {n : Nat} {xs : List S42} (h : Kd.C k42 w A n xs) (HB : Aside0 (Below w.heap.size w w')) (i : Int) (h0 : 0 ≤ i := by exact od) (h1 : i < n := by exact od) : (0 ≤ i) = True ∧ (i < n) = True ∧ ∃ ad, A = some ad ∧ w.cell? (ad.add (i.toNat * 2)) = some (.int .i64 (rd_T42 xs i).f0) ∧ w.cell? ⟨(ad.add (i.toNat * 2)).block, (ad.add (i.toNat * 2)).off + 1, none⟩ = some (.int .i64 (rd_T42 xs i).f1) ∧ w'.cell? (ad.add (i.toNat * 2)) = some (.int .i64 (rd_T42 xs i).f0) ∧ w'.cell? ⟨(ad.add (i.toNat * 2)).block, (ad.add (i.toNat * 2)).off + 1, none⟩ = some (.int .i64 (rd_T42 xs i).f1) := by
  obtain ⟨ad, e, c0, c1⟩ := at_T42 h i h0 h1; exact ⟨eq_true h0, eq_true h1, ad, e, c0, c1, xb HB c0, xb HB c1⟩
theorem at_T40x {w w' : World} {A : Option Addr} {n : Nat} {xs : List S40} (h : Kd.C k40 w A n xs) (HB : Aside0 (Below w.heap.size w w')) (i : Int) (h0 : 0 ≤ i := by exact od) (h1 : i < n := by exact od) : (0 ≤ i) = True ∧ (i < n) = True ∧ ∃ ad, A = some ad ∧ w'.cell? (ad.add (i.toNat * 4)) = some (.int .i64 (rd_T40 xs i).f0) ∧ w'.cell? ⟨(ad.add (i.toNat * 4)).block, (ad.add (i.toNat * 4)).off + 1, none⟩ = some (.int .i64 (rd_T40 xs i).f1) ∧ w'.cell? ⟨(ad.add (i.toNat * 4)).block, (ad.add (i.toNat * 4)).off + 2, none⟩ = some (.int .i64 (rd_T40 xs i).f2) ∧ w'.cell? ⟨(ad.add (i.toNat * 4)).block, (ad.add (i.toNat * 4)).off + 3, none⟩ = some (.int .i64 (rd_T40 xs i).f3) := by
  obtain ⟨ad, e, c0, c1, c2, c3⟩ := at_T40 h i h0 h1; exact ⟨eq_true h0, eq_true h1, ad, e, xb HB c0, xb HB c1, xb HB c2, xb HB c3⟩
theorem at_T44x {w w' : World} {A : Option Addr} {n : Nat} {xs : List S44} (h : Kd.C k44 w A n xs) (HB : Aside0 (Below w.heap.size w w')) (i : Int) (h0 : 0 ≤ i := by exact od) (h1 : i < n := by exact od) : (0 ≤ i) = True ∧ (i < n) = True ∧ ∃ ad, A = some ad ∧ w'.cell? (ad.add (i.toNat * 6)) = some (.int .i64 (rd_T44 xs i).f0.f0) ∧ w'.cell? ⟨(ad.add (i.toNat * 6)).block, (ad.add (i.toNat * 6)).off + 1, none⟩ = some (.int .i64 (rd_T44 xs i).f0.f1) ∧ w'.cell? ⟨(ad.add (i.toNat * 6)).block, (ad.add (i.toNat * 6)).off + 2, none⟩ = some (.int .i64 (rd_T44 xs i).f0.f2) ∧ w'.cell? ⟨(ad.add (i.toNat * 6)).block, (ad.add (i.toNat * 6)).off + 3, none⟩ = some (.int .i64 (rd_T44 xs i).f0.f3) ∧ w'.cell? ⟨(ad.add (i.toNat * 6)).block, (ad.add (i.toNat * 6)).off + 4, none⟩ = some (.int .i64 (rd_T44 xs i).f1.f0) ∧ w'.cell? ⟨(ad.add (i.toNat * 6)).block, (ad.add (i.toNat * 6)).off + 5, none⟩ = some (.int .i64 (rd_T44 xs i).f1.f1) := by
  obtain ⟨ad, e, c0, c1, c2, c3, c4, c5⟩ := at_T44 h i h0 h1; exact ⟨eq_true h0, eq_true h1, ad, e, xb HB c0, xb HB c1, xb HB c2, xb HB c3, xb HB c4, xb HB c5⟩
theorem at_T44w {w w' : World} {A : Option Addr} {n : Nat} {xs : List S44} (h : Kd.C k44 w A n xs) (HB : Aside0 (Below w.heap.size w w')) (i : Int) (h0 : 0 ≤ i := by exact od) (h1 : i < n := by exact od) : (0 ≤ i) = True ∧ (i < n) = True ∧ ∃ ad, A = some ad ∧ w.cell? (ad.add (i.toNat * 6)) = some (.int .i64 (rd_T44 xs i).f0.f0) ∧ w.cell? ⟨(ad.add (i.toNat * 6)).block, (ad.add (i.toNat * 6)).off + 1, none⟩ = some (.int .i64 (rd_T44 xs i).f0.f1) ∧ w.cell? ⟨(ad.add (i.toNat * 6)).block, (ad.add (i.toNat * 6)).off + 2, none⟩ = some (.int .i64 (rd_T44 xs i).f0.f2) ∧ w.cell? ⟨(ad.add (i.toNat * 6)).block, (ad.add (i.toNat * 6)).off + 3, none⟩ = some (.int .i64 (rd_T44 xs i).f0.f3) ∧ w.cell? ⟨(ad.add (i.toNat * 6)).block, (ad.add (i.toNat * 6)).off + 4, none⟩ = some (.int .i64 (rd_T44 xs i).f1.f0) ∧ w.cell? ⟨(ad.add (i.toNat * 6)).block, (ad.add (i.toNat * 6)).off + 5, none⟩ = some (.int .i64 (rd_T44 xs i).f1.f1) ∧ w'.cell? (ad.add (i.toNat * 6)) = some (.int .i64 (rd_T44 xs i).f0.f0) ∧ w'.cell? ⟨(ad.add (i.toNat * 6)).block, (ad.add (i.toNat * 6)).off + 1, none⟩ = some (.int .i64 (rd_T44 xs i).f0.f1) ∧ w'.cell? ⟨(ad.add (i.toNat * 6)).block, (ad.add (i.toNat * 6)).off + 2, none⟩ = some (.int .i64 (rd_T44 xs i).f0.f2) ∧ w'.cell? ⟨(ad.add (i.toNat * 6)).block, (ad.add (i.toNat * 6)).off + 3, none⟩ = some (.int .i64 (rd_T44 xs i).f0.f3) ∧ w'.cell? ⟨(ad.add (i.toNat * 6)).block, (ad.add (i.toNat * 6)).off + 4, none⟩ = some (.int .i64 (rd_T44 xs i).f1.f0) ∧ w'.cell? ⟨(ad.add (i.toNat * 6)).block, (ad.add (i.toNat * 6)).off + 5, none⟩ = some (.int .i64 (rd_T44 xs i).f1.f1) := by
  obtain ⟨ad, e, c0, c1, c2, c3, c4, c5⟩ := at_T44 h i h0 h1; exact ⟨eq_true h0, eq_true h1, ad, e, c0, c1, c2, c3, c4, c5, xb HB c0, xb HB c1, xb HB c2, xb HB c3, xb HB c4, xb HB c5⟩
/-! Fewer signs: tests, and what a region's steps may read. -/
theorem ifT {α : Type _} {a b r : α} {d : Decidable (true = true)} (h : (@ite _ (true = true) d a b) = r) : a = r := by rw [if_pos rfl] at h; exact h
theorem ifF {α : Type _} {a b r : α} {d : Decidable (false = true)} (h : (@ite _ (false = true) d a b) = r) : b = r := by rw [if_neg Bool.false_ne_true] at h; exact h
structure Hd (S : World → Prop) (w : World) : Prop where out : S w
theorem sh (n : Nat) {P : Program} {ops : Array Oper} {Q : Exit → Act → World → Prop} {S : World → Prop} {id : Nat} {a : Act} {w : World} (hS : Hd S w.drew) (h : S w.drew → wpAnyLast P .any ops Q S [] n (bT n 0) a w.drew)
    (hm : P.follows .mixedOrders = true := by kernel_rfl) (hn : ops.size = n := by rfl) (hl : Array.replicate n false = bT n 0 := by rfl) : (Code.region id ops true).wp P Q a w := start_ (bT n 0) hm hn hl hS.out h
theorem c1 {S : World → Prop} {w : World} {a : Addr} {v : Option Value} (h : w.cell? a = v) (r : Hd S w) : Hd (fun w' => w'.cell? a = v ∧ S w') w := ⟨⟨h, r.out⟩⟩
theorem e1 {w : World} {a : Addr} {v : Option Value} (h : w.cell? a = v) : Hd (fun w' => w'.cell? a = v) w := ⟨h⟩
theorem cb2 {S : World → Prop} {w : World} {g : Nat} {t : TypeId} {v0 v1 : Value} (B : Aside0 (w.heap[g]? = some (.cells #[v0, v1] t (0, 0)))) (r : Hd S w) : Hd (fun w' => w'.cell? ⟨g, 0, none⟩ = some v0 ∧ w'.cell? ⟨g, 1, none⟩ = some v1 ∧ S w') w := ⟨⟨blk_cell B.out 0, blk_cell B.out 1, r.out⟩⟩
theorem eb2 {w : World} {g : Nat} {t : TypeId} {v0 v1 : Value} (B : Aside0 (w.heap[g]? = some (.cells #[v0, v1] t (0, 0)))) : Hd (fun w' => w'.cell? ⟨g, 0, none⟩ = some v0 ∧ w'.cell? ⟨g, 1, none⟩ = some v1) w := ⟨⟨blk_cell B.out 0, blk_cell B.out 1⟩⟩
theorem cb3 {S : World → Prop} {w : World} {g : Nat} {t : TypeId} {v0 v1 v2 : Value} (B : Aside0 (w.heap[g]? = some (.cells #[v0, v1, v2] t (0, 0)))) (r : Hd S w) : Hd (fun w' => w'.cell? ⟨g, 0, none⟩ = some v0 ∧ w'.cell? ⟨g, 1, none⟩ = some v1 ∧ w'.cell? ⟨g, 2, none⟩ = some v2 ∧ S w') w := ⟨⟨blk_cell B.out 0, blk_cell B.out 1, blk_cell B.out 2, r.out⟩⟩
theorem eb3 {w : World} {g : Nat} {t : TypeId} {v0 v1 v2 : Value} (B : Aside0 (w.heap[g]? = some (.cells #[v0, v1, v2] t (0, 0)))) : Hd (fun w' => w'.cell? ⟨g, 0, none⟩ = some v0 ∧ w'.cell? ⟨g, 1, none⟩ = some v1 ∧ w'.cell? ⟨g, 2, none⟩ = some v2) w := ⟨⟨blk_cell B.out 0, blk_cell B.out 1, blk_cell B.out 2⟩⟩
theorem cb4 {S : World → Prop} {w : World} {g : Nat} {t : TypeId} {v0 v1 v2 v3 : Value} (B : Aside0 (w.heap[g]? = some (.cells #[v0, v1, v2, v3] t (0, 0)))) (r : Hd S w) : Hd (fun w' => w'.cell? ⟨g, 0, none⟩ = some v0 ∧ w'.cell? ⟨g, 1, none⟩ = some v1 ∧ w'.cell? ⟨g, 2, none⟩ = some v2 ∧ w'.cell? ⟨g, 3, none⟩ = some v3 ∧ S w') w := ⟨⟨blk_cell B.out 0, blk_cell B.out 1, blk_cell B.out 2, blk_cell B.out 3, r.out⟩⟩
theorem eb4 {w : World} {g : Nat} {t : TypeId} {v0 v1 v2 v3 : Value} (B : Aside0 (w.heap[g]? = some (.cells #[v0, v1, v2, v3] t (0, 0)))) : Hd (fun w' => w'.cell? ⟨g, 0, none⟩ = some v0 ∧ w'.cell? ⟨g, 1, none⟩ = some v1 ∧ w'.cell? ⟨g, 2, none⟩ = some v2 ∧ w'.cell? ⟨g, 3, none⟩ = some v3) w := ⟨⟨blk_cell B.out 0, blk_cell B.out 1, blk_cell B.out 2, blk_cell B.out 3⟩⟩
theorem cb6 {S : World → Prop} {w : World} {g : Nat} {t : TypeId} {v0 v1 v2 v3 v4 v5 : Value} (B : Aside0 (w.heap[g]? = some (.cells #[v0, v1, v2, v3, v4, v5] t (0, 0)))) (r : Hd S w) : Hd (fun w' => w'.cell? ⟨g, 0, none⟩ = some v0 ∧ w'.cell? ⟨g, 1, none⟩ = some v1 ∧ w'.cell? ⟨g, 2, none⟩ = some v2 ∧ w'.cell? ⟨g, 3, none⟩ = some v3 ∧ w'.cell? ⟨g, 4, none⟩ = some v4 ∧ w'.cell? ⟨g, 5, none⟩ = some v5 ∧ S w') w := ⟨⟨blk_cell B.out 0, blk_cell B.out 1, blk_cell B.out 2, blk_cell B.out 3, blk_cell B.out 4, blk_cell B.out 5, r.out⟩⟩
theorem eb6 {w : World} {g : Nat} {t : TypeId} {v0 v1 v2 v3 v4 v5 : Value} (B : Aside0 (w.heap[g]? = some (.cells #[v0, v1, v2, v3, v4, v5] t (0, 0)))) : Hd (fun w' => w'.cell? ⟨g, 0, none⟩ = some v0 ∧ w'.cell? ⟨g, 1, none⟩ = some v1 ∧ w'.cell? ⟨g, 2, none⟩ = some v2 ∧ w'.cell? ⟨g, 3, none⟩ = some v3 ∧ w'.cell? ⟨g, 4, none⟩ = some v4 ∧ w'.cell? ⟨g, 5, none⟩ = some v5) w := ⟨⟨blk_cell B.out 0, blk_cell B.out 1, blk_cell B.out 2, blk_cell B.out 3, blk_cell B.out 4, blk_cell B.out 5⟩⟩
theorem ex2 {w0 w : World} {a0 a1 : Addr} {v0 v1 : Value} (HB : Aside0 (Below w0.heap.size w0 w)) (h0 : w0.cell? a0 = some v0) (h1 : w0.cell? a1 = some v1) : Hd (fun w' => w'.cell? a0 = some v0 ∧ w'.cell? a1 = some v1) w := ⟨⟨xb HB h0, xb HB h1⟩⟩
theorem cx6 {S : World → Prop} {w0 w : World} {a0 a1 a2 a3 a4 a5 : Addr} {v0 v1 v2 v3 v4 v5 : Value} (HB : Aside0 (Below w0.heap.size w0 w)) (h0 : w0.cell? a0 = some v0) (h1 : w0.cell? a1 = some v1) (h2 : w0.cell? a2 = some v2) (h3 : w0.cell? a3 = some v3) (h4 : w0.cell? a4 = some v4) (h5 : w0.cell? a5 = some v5) (r : Hd S w) : Hd (fun w' => w'.cell? a0 = some v0 ∧ w'.cell? a1 = some v1 ∧ w'.cell? a2 = some v2 ∧ w'.cell? a3 = some v3 ∧ w'.cell? a4 = some v4 ∧ w'.cell? a5 = some v5 ∧ S w') w := ⟨⟨xb HB h0, xb HB h1, xb HB h2, xb HB h3, xb HB h4, xb HB h5, r.out⟩⟩
theorem ex6 {w0 w : World} {a0 a1 a2 a3 a4 a5 : Addr} {v0 v1 v2 v3 v4 v5 : Value} (HB : Aside0 (Below w0.heap.size w0 w)) (h0 : w0.cell? a0 = some v0) (h1 : w0.cell? a1 = some v1) (h2 : w0.cell? a2 = some v2) (h3 : w0.cell? a3 = some v3) (h4 : w0.cell? a4 = some v4) (h5 : w0.cell? a5 = some v5) : Hd (fun w' => w'.cell? a0 = some v0 ∧ w'.cell? a1 = some v1 ∧ w'.cell? a2 = some v2 ∧ w'.cell? a3 = some v3 ∧ w'.cell? a4 = some v4 ∧ w'.cell? a5 = some v5) w := ⟨⟨xb HB h0, xb HB h1, xb HB h2, xb HB h3, xb HB h4, xb HB h5⟩⟩
theorem cf2 {W : World} {g g' i j0 j1 : Nat} {u0 u1 : Value} {v : Option Value} (n : Aside0 (g ≠ g')) (h : W.cell? ⟨g, i, none⟩ = v) : ((W.setCell ⟨g', j0, none⟩ u0).setCell ⟨g', j1, none⟩ u1).cell? ⟨g, i, none⟩ = v := cf n (cf n (h))
theorem fx2 {W : World} {b g' j0 j1 : Nat} {p : Addr} {u0 u1 : Value} {v : Option Value} (n : b ≠ g') (h : W.cell? p = v) (e : p.block = b := by first | rfl | (rw [add_block]) | (show (Addr.add _ _).block = _; rw [add_block])) : ((W.setCell ⟨g', j0, none⟩ u0).setCell ⟨g', j1, none⟩ u1).cell? p = v := by subst e; exact (cell_far (p := ⟨g', j1, none⟩) n u1).trans ((cell_far (p := ⟨g', j0, none⟩) n u0).trans (h))
theorem cf3 {W : World} {g g' i j0 j1 j2 : Nat} {u0 u1 u2 : Value} {v : Option Value} (n : Aside0 (g ≠ g')) (h : W.cell? ⟨g, i, none⟩ = v) : (((W.setCell ⟨g', j0, none⟩ u0).setCell ⟨g', j1, none⟩ u1).setCell ⟨g', j2, none⟩ u2).cell? ⟨g, i, none⟩ = v := cf n (cf n (cf n (h)))
theorem fx3 {W : World} {b g' j0 j1 j2 : Nat} {p : Addr} {u0 u1 u2 : Value} {v : Option Value} (n : b ≠ g') (h : W.cell? p = v) (e : p.block = b := by first | rfl | (rw [add_block]) | (show (Addr.add _ _).block = _; rw [add_block])) : (((W.setCell ⟨g', j0, none⟩ u0).setCell ⟨g', j1, none⟩ u1).setCell ⟨g', j2, none⟩ u2).cell? p = v := by subst e; exact (cell_far (p := ⟨g', j2, none⟩) n u2).trans ((cell_far (p := ⟨g', j1, none⟩) n u1).trans ((cell_far (p := ⟨g', j0, none⟩) n u0).trans (h)))
theorem cf6 {W : World} {g g' i j0 j1 j2 j3 j4 j5 : Nat} {u0 u1 u2 u3 u4 u5 : Value} {v : Option Value} (n : Aside0 (g ≠ g')) (h : W.cell? ⟨g, i, none⟩ = v) : ((((((W.setCell ⟨g', j0, none⟩ u0).setCell ⟨g', j1, none⟩ u1).setCell ⟨g', j2, none⟩ u2).setCell ⟨g', j3, none⟩ u3).setCell ⟨g', j4, none⟩ u4).setCell ⟨g', j5, none⟩ u5).cell? ⟨g, i, none⟩ = v := cf n (cf n (cf n (cf n (cf n (cf n (h))))))
theorem hbc {w w' : World} {p : Addr} {v : Value} (hb : Below w.heap.size w w') (h : w.cell? p = some v) : w'.cell? p = some v := (hb.cell (World.block_lt_of_cell? _ _ h)).trans h
end Go.Proofs.Ytfmjboloeabjmaa.PA
