/- Walks written by program: each Go function that the law reaches comes to the plain function beside it. -/
import Derived.Test.YtedmadofpdkekaaGreatPAx0
import Derived.Test.YtedmadofpdkekaaGreatPAx3
import Derived.Test.YtedmadofpdkekaaGreatPAx5
import Derived.Test.YtedmadofpdkekaaGreatPAx8
import Derived.Test.YtedmadofpdkekaaGreatPAx12
import Derived.Test.YtedmadofpdkekaaGreatPAx14
import Derived.Test.YtedmadofpdkekaaGreatPAx15
import Derived.Test.YtedmadofpdkekaaGreatPAx16
import Derived.Test.YtedmadofpdkekaaGreatPAx17
import Derived.Test.YtedmadofpdkekaaGreatPAx18
namespace Go.Proofs.YtedmadofpdkekaaGreat.PA
open Go.RowKit Go.Proofs.YtedmadofpdkekaaGreatW.PrintWords Go.Proofs.YtedmadofpdkekaaGreatW.PrintLast Go.Proofs.YtedmadofpdkekaaGreatW.PrintMore
attribute [local go_sem] max2_int min2_int max_two min_two max_three min_three max_four min_four   -- for this text's walks alone
set_option linter.unusedVariables false
set_option linter.unusedSimpArgs false

attribute [local go_sem high] eqA31
/-! ### laws_FnCentred: function 3 -/
mutual
def laws_FnCentred.j0 : Nat → Int → Int → Bool → Int → Bool → Int → Bool → Int → Int → Int → Int → Int → Int → Int → Int → Int → Int → Int → Int → Int → Int → Int → Int → Int → Int → Option (Bool)
 | 0, _, _, _, _, _, _, _, _, _, _, _, _, _, _, _, _, _, _, _, _, _, _, _, _, _ => none
 | k + 1, x3, x7, x10, x14, x17, x18, x124, x777000, x777001, x777002, x778000, x778001, x778002, x778003, x782000, x782001, x801000, x801001, x801002, x802000, x802001, x802002, x802003, x802004, x802005 => if x124 = true then (some false) else (if x18 = 0 then ((impl_ReduceMotion.f k x14 x801000 x801001 x801002 x802000 x802001 x802002 x802003 x802004 x802005).bind fun bt806 => (laws_FnCentred.l0 k x3 x7 x10 x17 bt806.2.2.2.2.2.2 (-2) x777000 x777001 x777002 x778000 x778001 x778002 x778003 x782000 x782001 x801000 x801001 x801002 bt806.1 bt806.2.1 bt806.2.2.1 bt806.2.2.2.1 bt806.2.2.2.2.1 bt806.2.2.2.2.2.1)) else (laws_FnCentred.j3 k x3 x7 x10 x777000 x777001 x777002 x778000 x778001 x778002 x778003 x782000 x782001))
def laws_FnCentred.j3 : Nat → Int → Int → Bool → Int → Int → Int → Int → Int → Int → Int → Int → Int → Option (Bool)
 | 0, _, _, _, _, _, _, _, _, _, _, _, _ => none
 | k + 1, x3, x7, x10, x777000, x777001, x777002, x778000, x778001, x778002, x778003, x782000, x782001 => if x7 = 0 then ((impl_IsInLattice.f x777000 x777001 x777002 x782000 x782001).bind fun bt817 => ((impl_ApplyMat.f k x778000 x778001 x778002 x778003 x782000 x782001).bind fun bt819 => ((impl_InvariantVec.f k x3 x777000 x777001 x777002 (wrap64 (-x778000)) (wrap64 (-x778001)) (wrap64 (-x778002)) (wrap64 (-x778003))).bind fun bt823 => ((impl_DetOf.f x782000 x782001 bt823.1 bt823.2.1).bind fun bt827 => (if bt817.2 = 0 then (if bt817.1 = true then (if bt819.2.2 = 0 then (if (bt819.1 == x782000 && (bt819.2.1 == x782001)) = true then (if bt823.2.2 = 0 then (if bt827.2 = 0 then (some (((mx bt827.1 (wrap64 (-bt827.1))) == (wrap64 (x777000 * x777002))) != x10)) else (some false)) else (some false)) else (some false)) else (some false)) else (some false)) else (some false)))))) else (some true)
def laws_FnCentred.l0 : Nat → Int → Int → Bool → Bool → Int → Int → Int → Int → Int → Int → Int → Int → Int → Int → Int → Int → Int → Int → Int → Int → Int → Int → Int → Int → Option (Bool)
 | 0, _, _, _, _, _, _, _, _, _, _, _, _, _, _, _, _, _, _, _, _, _, _, _, _ => none
 | k + 1, x3, x7, x10, x17, x22, x23, x777000, x777001, x777002, x778000, x778001, x778002, x778003, x782000, x782001, x801000, x801001, x801002, x814000, x814001, x814002, x814003, x814004, x814005 => if x23 ≤ 2 then (laws_FnCentred.l1 k x3 x7 x10 x17 x22 x23 (-2) x777000 x777001 x777002 x778000 x778001 x778002 x778003 x782000 x782001 x801000 x801001 x801002 x814000 x814001 x814002 x814003 x814004 x814005) else (if x22 = 0 then (laws_FnCentred.j3 k x3 x7 x10 x777000 x777001 x777002 x778000 x778001 x778002 x778003 x782000 x782001) else (some false))
def laws_FnCentred.l1 : Nat → Int → Int → Bool → Bool → Int → Int → Int → Int → Int → Int → Int → Int → Int → Int → Int → Int → Int → Int → Int → Int → Int → Int → Int → Int → Int → Option (Bool)
 | 0, _, _, _, _, _, _, _, _, _, _, _, _, _, _, _, _, _, _, _, _, _, _, _, _, _ => none
 | k + 1, x3, x7, x10, x17, x22, x23, x24, x777000, x777001, x777002, x778000, x778001, x778002, x778003, x782000, x782001, x801000, x801001, x801002, x814000, x814001, x814002, x814003, x814004, x814005 => if x24 ≤ 2 then ((impl_KindOfMotion.f k x814000 x814001 x814002 x814003 (wrap64 ((wrap64 (x814004 + (wrap64 (x23 * x801000)))) + (wrap64 (x24 * x801001)))) (wrap64 (x814005 + (wrap64 (x24 * x801002))))).bind fun bt815 => (if bt815.2 = 0 then (if bt815.1 = 3 then (if x17 = true then (laws_FnCentred.l1 k x3 x7 x10 x17 x22 x23 (wrap64 (x24 + 1)) x777000 x777001 x777002 x778000 x778001 x778002 x778003 x782000 x782001 x801000 x801001 x801002 x814000 x814001 x814002 x814003 x814004 x814005) else (some false)) else (laws_FnCentred.l1 k x3 x7 x10 x17 x22 x23 (wrap64 (x24 + 1)) x777000 x777001 x777002 x778000 x778001 x778002 x778003 x782000 x782001 x801000 x801001 x801002 x814000 x814001 x814002 x814003 x814004 x814005)) else (laws_FnCentred.l1 k x3 x7 x10 x17 x22 x23 (wrap64 (x24 + 1)) x777000 x777001 x777002 x778000 x778001 x778002 x778003 x782000 x782001 x801000 x801001 x801002 x814000 x814001 x814002 x814003 x814004 x814005))) else (laws_FnCentred.l0 k x3 x7 x10 x17 x22 (wrap64 (x23 + 1)) x777000 x777001 x777002 x778000 x778001 x778002 x778003 x782000 x782001 x801000 x801001 x801002 x814000 x814001 x814002 x814003 x814004 x814005)
end
def laws_FnCentred.f (k : Nat) (l0 : List Int) : Option (Bool) := (laws_big.f l0).bind fun t767 => (if t767 = true then (some true) else ((spec_DrawInvariantVec.f k l0).bind fun bt768 => ((impl_InvariantVec.f k bt768.1 bt768.2.1 bt768.2.2.1 bt768.2.2.2.1 bt768.2.2.2.2.1 bt768.2.2.2.2.2.1 bt768.2.2.2.2.2.2.1 bt768.2.2.2.2.2.2.2).bind fun bt778 => ((spec_InvariantVec.f k bt768.1 bt768.2.1 bt768.2.2.1 bt768.2.2.2.1 bt768.2.2.2.2.1 bt768.2.2.2.2.2.1 bt768.2.2.2.2.2.2.1 bt768.2.2.2.2.2.2.2).bind fun bt782 => ((impl_IsCentred.f k bt768.1 bt768.2.1 bt768.2.2.1 bt768.2.2.2.1 bt768.2.2.2.2.1 bt768.2.2.2.2.2.1 bt768.2.2.2.2.2.2.1 bt768.2.2.2.2.2.2.2).bind fun bt786 => ((spec_IsCentred.f k bt768.1 bt768.2.1 bt768.2.2.1 bt768.2.2.2.1 bt768.2.2.2.2.1 bt768.2.2.2.2.2.1 bt768.2.2.2.2.2.2.1 bt768.2.2.2.2.2.2.2).bind fun bt788 => ((spec_DrawMayReflect.f k l0).bind fun bt790 => ((impl_MayReflect.f k bt790.1 bt790.2.1 bt790.2.2.1 bt790.2.2.2.1 bt790.2.2.2.2.1 bt790.2.2.2.2.2.1 bt790.2.2.2.2.2.2.1 bt790.2.2.2.2.2.2.2.1 bt790.2.2.2.2.2.2.2.2.1 bt790.2.2.2.2.2.2.2.2.2).bind fun bt802 => ((spec_MayReflect.f k bt790.1 bt790.2.1 bt790.2.2.1 bt790.2.2.2.1 bt790.2.2.2.2.1 bt790.2.2.2.2.2.1 bt790.2.2.2.2.2.2.1 bt790.2.2.2.2.2.2.2.1 bt790.2.2.2.2.2.2.2.2.1 bt790.2.2.2.2.2.2.2.2.2).bind fun bt804 => (if bt778.2.2 = bt782.2.2 then (if (!(bt778.1 == bt782.1) || (!(bt778.2.1 == bt782.2.1))) = true then (laws_FnCentred.j0 k bt768.1 bt778.2.2 bt786.1 bt790.1 bt802.1 bt802.2 true bt768.2.1 bt768.2.2.1 bt768.2.2.2.1 bt768.2.2.2.2.1 bt768.2.2.2.2.2.1 bt768.2.2.2.2.2.2.1 bt768.2.2.2.2.2.2.2 bt778.1 bt778.2.1 bt790.2.1 bt790.2.2.1 bt790.2.2.2.1 bt790.2.2.2.2.1 bt790.2.2.2.2.2.1 bt790.2.2.2.2.2.2.1 bt790.2.2.2.2.2.2.2.1 bt790.2.2.2.2.2.2.2.2.1 bt790.2.2.2.2.2.2.2.2.2) else (if bt786.2 = bt788.2 then (if (bt786.1 != bt788.1) = true then (laws_FnCentred.j0 k bt768.1 bt778.2.2 bt786.1 bt790.1 bt802.1 bt802.2 true bt768.2.1 bt768.2.2.1 bt768.2.2.2.1 bt768.2.2.2.2.1 bt768.2.2.2.2.2.1 bt768.2.2.2.2.2.2.1 bt768.2.2.2.2.2.2.2 bt778.1 bt778.2.1 bt790.2.1 bt790.2.2.1 bt790.2.2.2.1 bt790.2.2.2.2.1 bt790.2.2.2.2.2.1 bt790.2.2.2.2.2.2.1 bt790.2.2.2.2.2.2.2.1 bt790.2.2.2.2.2.2.2.2.1 bt790.2.2.2.2.2.2.2.2.2) else (if bt802.2 = bt804.2 then (if (bt802.1 != bt804.1) = true then (laws_FnCentred.j0 k bt768.1 bt778.2.2 bt786.1 bt790.1 bt802.1 bt802.2 true bt768.2.1 bt768.2.2.1 bt768.2.2.2.1 bt768.2.2.2.2.1 bt768.2.2.2.2.2.1 bt768.2.2.2.2.2.2.1 bt768.2.2.2.2.2.2.2 bt778.1 bt778.2.1 bt790.2.1 bt790.2.2.1 bt790.2.2.2.1 bt790.2.2.2.2.1 bt790.2.2.2.2.2.1 bt790.2.2.2.2.2.2.1 bt790.2.2.2.2.2.2.2.1 bt790.2.2.2.2.2.2.2.2.1 bt790.2.2.2.2.2.2.2.2.2) else (laws_FnCentred.j0 k bt768.1 bt778.2.2 bt786.1 bt790.1 bt802.1 bt802.2 (bt786.2 != bt778.2.2) bt768.2.1 bt768.2.2.1 bt768.2.2.2.1 bt768.2.2.2.2.1 bt768.2.2.2.2.2.1 bt768.2.2.2.2.2.2.1 bt768.2.2.2.2.2.2.2 bt778.1 bt778.2.1 bt790.2.1 bt790.2.2.1 bt790.2.2.2.1 bt790.2.2.2.2.1 bt790.2.2.2.2.2.1 bt790.2.2.2.2.2.2.1 bt790.2.2.2.2.2.2.2.1 bt790.2.2.2.2.2.2.2.2.1 bt790.2.2.2.2.2.2.2.2.2)) else (laws_FnCentred.j0 k bt768.1 bt778.2.2 bt786.1 bt790.1 bt802.1 bt802.2 true bt768.2.1 bt768.2.2.1 bt768.2.2.2.1 bt768.2.2.2.2.1 bt768.2.2.2.2.2.1 bt768.2.2.2.2.2.2.1 bt768.2.2.2.2.2.2.2 bt778.1 bt778.2.1 bt790.2.1 bt790.2.2.1 bt790.2.2.2.1 bt790.2.2.2.2.1 bt790.2.2.2.2.2.1 bt790.2.2.2.2.2.2.1 bt790.2.2.2.2.2.2.2.1 bt790.2.2.2.2.2.2.2.2.1 bt790.2.2.2.2.2.2.2.2.2))) else (laws_FnCentred.j0 k bt768.1 bt778.2.2 bt786.1 bt790.1 bt802.1 bt802.2 true bt768.2.1 bt768.2.2.1 bt768.2.2.2.1 bt768.2.2.2.2.1 bt768.2.2.2.2.2.1 bt768.2.2.2.2.2.2.1 bt768.2.2.2.2.2.2.2 bt778.1 bt778.2.1 bt790.2.1 bt790.2.2.1 bt790.2.2.2.1 bt790.2.2.2.2.1 bt790.2.2.2.2.2.1 bt790.2.2.2.2.2.2.1 bt790.2.2.2.2.2.2.2.1 bt790.2.2.2.2.2.2.2.2.1 bt790.2.2.2.2.2.2.2.2.2))) else (laws_FnCentred.j0 k bt768.1 bt778.2.2 bt786.1 bt790.1 bt802.1 bt802.2 true bt768.2.1 bt768.2.2.1 bt768.2.2.2.1 bt768.2.2.2.2.1 bt768.2.2.2.2.2.1 bt768.2.2.2.2.2.2.1 bt768.2.2.2.2.2.2.2 bt778.1 bt778.2.1 bt790.2.1 bt790.2.2.1 bt790.2.2.2.1 bt790.2.2.2.2.1 bt790.2.2.2.2.2.1 bt790.2.2.2.2.2.2.1 bt790.2.2.2.2.2.2.2.1 bt790.2.2.2.2.2.2.2.2.1 bt790.2.2.2.2.2.2.2.2.2)))))))))))
theorem laws_FnCentred.j0_dead (k : Nat) (a0 : Int) (a1 : Int) (a2 : Bool) (a3 : Int) (a4 : Bool) (a5 : Int) (a7 : Int) (a8 : Int) (a9 : Int) (a10 : Int) (a11 : Int) (a12 : Int) (a13 : Int) (a14 : Int) (a15 : Int) (a16 : Int) (a17 : Int) (a18 : Int) (a19 : Int) (a20 : Int) (a21 : Int) (a22 : Int) (a23 : Int) (a24 : Int) : laws_FnCentred.j0 k a0 a1 a2 a3 a4 a5 true a7 a8 a9 a10 a11 a12 a13 a14 a15 a16 a17 a18 a19 a20 a21 a22 a23 a24 ≠ some true := by
 cases k <;> simp [laws_FnCentred.j0]
set_option maxHeartbeats 80000000 in
set_option maxRecDepth 100000 in
theorem laws_FnCentred.calls (k : Nat) (A0 : Option Addr) (c0 : Nat) (l0 : List Int) (w : World) (hr0 : Kd.C (Kd.int .u8) w A0 l0.length l0) (hc0 : l0.length ≤ c0) (h : laws_FnCentred.f k l0 = some true) :
  Calls Tryz.prog 3 #[.slice A0 l0.length c0] w fun e w' => e = .returned (.bool true) ∧ Below w.heap.size w w' := by
 have hu25 := Tryz.underlying25
 have hu27 := Tryz.underlying27
 have hu31 := Tryz.underlying31
 have hu37 := Tryz.underlying37
 have HR0 := Aside0.mk hr0
 have HC0 := Aside0.mk hc0
 clear hr0 hc0
 have HB := asd (Below.refl w.heap.size w)
 have H : ((laws_big.f l0).bind fun t767 => (if t767 = true then (some true) else ((spec_DrawInvariantVec.f k l0).bind fun bt768 => ((impl_InvariantVec.f k bt768.1 bt768.2.1 bt768.2.2.1 bt768.2.2.2.1 bt768.2.2.2.2.1 bt768.2.2.2.2.2.1 bt768.2.2.2.2.2.2.1 bt768.2.2.2.2.2.2.2).bind fun bt778 => ((spec_InvariantVec.f k bt768.1 bt768.2.1 bt768.2.2.1 bt768.2.2.2.1 bt768.2.2.2.2.1 bt768.2.2.2.2.2.1 bt768.2.2.2.2.2.2.1 bt768.2.2.2.2.2.2.2).bind fun bt782 => ((impl_IsCentred.f k bt768.1 bt768.2.1 bt768.2.2.1 bt768.2.2.2.1 bt768.2.2.2.2.1 bt768.2.2.2.2.2.1 bt768.2.2.2.2.2.2.1 bt768.2.2.2.2.2.2.2).bind fun bt786 => ((spec_IsCentred.f k bt768.1 bt768.2.1 bt768.2.2.1 bt768.2.2.2.1 bt768.2.2.2.2.1 bt768.2.2.2.2.2.1 bt768.2.2.2.2.2.2.1 bt768.2.2.2.2.2.2.2).bind fun bt788 => ((spec_DrawMayReflect.f k l0).bind fun bt790 => ((impl_MayReflect.f k bt790.1 bt790.2.1 bt790.2.2.1 bt790.2.2.2.1 bt790.2.2.2.2.1 bt790.2.2.2.2.2.1 bt790.2.2.2.2.2.2.1 bt790.2.2.2.2.2.2.2.1 bt790.2.2.2.2.2.2.2.2.1 bt790.2.2.2.2.2.2.2.2.2).bind fun bt802 => ((spec_MayReflect.f k bt790.1 bt790.2.1 bt790.2.2.1 bt790.2.2.2.1 bt790.2.2.2.2.1 bt790.2.2.2.2.2.1 bt790.2.2.2.2.2.2.1 bt790.2.2.2.2.2.2.2.1 bt790.2.2.2.2.2.2.2.2.1 bt790.2.2.2.2.2.2.2.2.2).bind fun bt804 => (if bt778.2.2 = bt782.2.2 then (if (!(bt778.1 == bt782.1) || (!(bt778.2.1 == bt782.2.1))) = true then (laws_FnCentred.j0 k bt768.1 bt778.2.2 bt786.1 bt790.1 bt802.1 bt802.2 true bt768.2.1 bt768.2.2.1 bt768.2.2.2.1 bt768.2.2.2.2.1 bt768.2.2.2.2.2.1 bt768.2.2.2.2.2.2.1 bt768.2.2.2.2.2.2.2 bt778.1 bt778.2.1 bt790.2.1 bt790.2.2.1 bt790.2.2.2.1 bt790.2.2.2.2.1 bt790.2.2.2.2.2.1 bt790.2.2.2.2.2.2.1 bt790.2.2.2.2.2.2.2.1 bt790.2.2.2.2.2.2.2.2.1 bt790.2.2.2.2.2.2.2.2.2) else (if bt786.2 = bt788.2 then (if (bt786.1 != bt788.1) = true then (laws_FnCentred.j0 k bt768.1 bt778.2.2 bt786.1 bt790.1 bt802.1 bt802.2 true bt768.2.1 bt768.2.2.1 bt768.2.2.2.1 bt768.2.2.2.2.1 bt768.2.2.2.2.2.1 bt768.2.2.2.2.2.2.1 bt768.2.2.2.2.2.2.2 bt778.1 bt778.2.1 bt790.2.1 bt790.2.2.1 bt790.2.2.2.1 bt790.2.2.2.2.1 bt790.2.2.2.2.2.1 bt790.2.2.2.2.2.2.1 bt790.2.2.2.2.2.2.2.1 bt790.2.2.2.2.2.2.2.2.1 bt790.2.2.2.2.2.2.2.2.2) else (if bt802.2 = bt804.2 then (if (bt802.1 != bt804.1) = true then (laws_FnCentred.j0 k bt768.1 bt778.2.2 bt786.1 bt790.1 bt802.1 bt802.2 true bt768.2.1 bt768.2.2.1 bt768.2.2.2.1 bt768.2.2.2.2.1 bt768.2.2.2.2.2.1 bt768.2.2.2.2.2.2.1 bt768.2.2.2.2.2.2.2 bt778.1 bt778.2.1 bt790.2.1 bt790.2.2.1 bt790.2.2.2.1 bt790.2.2.2.2.1 bt790.2.2.2.2.2.1 bt790.2.2.2.2.2.2.1 bt790.2.2.2.2.2.2.2.1 bt790.2.2.2.2.2.2.2.2.1 bt790.2.2.2.2.2.2.2.2.2) else (laws_FnCentred.j0 k bt768.1 bt778.2.2 bt786.1 bt790.1 bt802.1 bt802.2 (bt786.2 != bt778.2.2) bt768.2.1 bt768.2.2.1 bt768.2.2.2.1 bt768.2.2.2.2.1 bt768.2.2.2.2.2.1 bt768.2.2.2.2.2.2.1 bt768.2.2.2.2.2.2.2 bt778.1 bt778.2.1 bt790.2.1 bt790.2.2.1 bt790.2.2.2.1 bt790.2.2.2.2.1 bt790.2.2.2.2.2.1 bt790.2.2.2.2.2.2.1 bt790.2.2.2.2.2.2.2.1 bt790.2.2.2.2.2.2.2.2.1 bt790.2.2.2.2.2.2.2.2.2)) else (laws_FnCentred.j0 k bt768.1 bt778.2.2 bt786.1 bt790.1 bt802.1 bt802.2 true bt768.2.1 bt768.2.2.1 bt768.2.2.2.1 bt768.2.2.2.2.1 bt768.2.2.2.2.2.1 bt768.2.2.2.2.2.2.1 bt768.2.2.2.2.2.2.2 bt778.1 bt778.2.1 bt790.2.1 bt790.2.2.1 bt790.2.2.2.1 bt790.2.2.2.2.1 bt790.2.2.2.2.2.1 bt790.2.2.2.2.2.2.1 bt790.2.2.2.2.2.2.2.1 bt790.2.2.2.2.2.2.2.2.1 bt790.2.2.2.2.2.2.2.2.2))) else (laws_FnCentred.j0 k bt768.1 bt778.2.2 bt786.1 bt790.1 bt802.1 bt802.2 true bt768.2.1 bt768.2.2.1 bt768.2.2.2.1 bt768.2.2.2.2.1 bt768.2.2.2.2.2.1 bt768.2.2.2.2.2.2.1 bt768.2.2.2.2.2.2.2 bt778.1 bt778.2.1 bt790.2.1 bt790.2.2.1 bt790.2.2.2.1 bt790.2.2.2.2.1 bt790.2.2.2.2.2.1 bt790.2.2.2.2.2.2.1 bt790.2.2.2.2.2.2.2.1 bt790.2.2.2.2.2.2.2.2.1 bt790.2.2.2.2.2.2.2.2.2))) else (laws_FnCentred.j0 k bt768.1 bt778.2.2 bt786.1 bt790.1 bt802.1 bt802.2 true bt768.2.1 bt768.2.2.1 bt768.2.2.2.1 bt768.2.2.2.2.1 bt768.2.2.2.2.2.1 bt768.2.2.2.2.2.2.1 bt768.2.2.2.2.2.2.2 bt778.1 bt778.2.1 bt790.2.1 bt790.2.2.1 bt790.2.2.2.1 bt790.2.2.2.2.1 bt790.2.2.2.2.2.1 bt790.2.2.2.2.2.2.1 bt790.2.2.2.2.2.2.2.1 bt790.2.2.2.2.2.2.2.2.1 bt790.2.2.2.2.2.2.2.2.2)))))))))))) = some true := h
 clear h
 obtain ⟨t767, A2, H⟩ := ob H
 try dsimp only at H
 by_cases c3 : t767 = true
 ·subst c3
  replace H := ifT H
  clear H
  go_enter Tryz.func3, Tryz.ntmps3
  go_wp2_with (first | ((with_reducible refine gate_callee (f := 4) rfl ?_); refine gl 37 Tryz.func4 #[.slice A0 l0.length c0] ?_; (with_reducible refine (laws_big.calls _ _ _ _ _ ?side1 ?side2 A2.out).mono ?_); (case side1 => exact ks HR0.out); (case side2 => exact HC0.out); rintro e w' ⟨rfl, ⟨nd, rfl⟩⟩; refine ⟨_, rfl, ?_⟩))
  go_ret
  exact er (bbw0 HB)
 ·replace c3 := Bool.eq_false_iff.mpr c3
  subst c3
  replace H := ifF H
  obtain ⟨⟨t768, t769, t770, t771, t772, t773, t774, t775⟩, A4, H⟩ := ob H
  try dsimp only at H
  obtain ⟨⟨t778, t779, t780⟩, A5, H⟩ := ob H
  try dsimp only at H
  obtain ⟨⟨t782, t783, t784⟩, A6, H⟩ := ob H
  try dsimp only at H
  obtain ⟨⟨t786, t787⟩, A7, H⟩ := ob H
  try dsimp only at H
  obtain ⟨⟨t788, t789⟩, A8, H⟩ := ob H
  try dsimp only at H
  obtain ⟨⟨t790, t791, t792, t793, t794, t795, t796, t797, t798, t799⟩, A9, H⟩ := ob H
  try dsimp only at H
  obtain ⟨⟨t802, t803⟩, A10, H⟩ := ob H
  try dsimp only at H
  obtain ⟨⟨t804, t805⟩, A11, H⟩ := ob H
  try dsimp only at H
  have HC12 := Aside0.mk H
  clear H
  go_enter Tryz.func3, Tryz.ntmps3
  go_upto_region 11 with (first | ((with_reducible refine gate_callee (f := 4) rfl ?_); refine gl 37 Tryz.func4 #[.slice A0 l0.length c0] ?_; (with_reducible refine (laws_big.calls _ _ _ _ _ ?side1 ?side2 A2.out).mono ?_); (case side1 => exact ks HR0.out); (case side2 => exact HC0.out); rintro e w' ⟨rfl, ⟨nd, rfl⟩⟩; refine ⟨_, rfl, ?_⟩) | ((with_reducible refine gate_callee (f := 5) rfl ?_); refine gl 40 Tryz.func5 #[.slice A0 l0.length c0] ?_; (with_reducible refine (spec_DrawInvariantVec.calls _ _ _ _ _ _ _ _ _ _ _ _ _ ?side1 ?side2 A4.out).mono ?_); (case side1 => exact ks HR0.out); (case side2 => exact HC0.out); rintro e w13 ⟨rfl, hb⟩; refine ⟨_, rfl, ?_⟩; replace HB := bS0 HB hb; (try clear hb)) | ((with_reducible refine gd 4 rfl ?_); (try (refine gate_guard (by rfl) ?_; dsimp only)); refine bx #[.int .i64 0, .int .i64 0, .int .i64 0] 25 ?_; intro gb776 hg w14 BK776 hb; have GE776 := ngw0 hg HB; replace HB := bS0 HB hb; clear hb hg) | ((with_reducible refine gd 5 rfl ?_); (try (refine gate_guard (by rfl) ?_; dsimp only)); refine bx #[.int .i64 0, .int .i64 0, .int .i64 0, .int .i64 0] 27 ?_; intro gb777 hg w15 BK777 hb; have GE777 := ngw1 hg HB GE776; replace HB := bS1 HB GE776 hb; have NB776_777 := nlt hg BK776; have NB777_776 := nsy (nlt hg BK776); replace BK776 := bB BK776 hb; clear hb hg; have hnb16 := NB776_777.out; have hnc16 := NB777_776.out; obtain ⟨hcz17_0, hcz17_1, hcz17_2, hfz17_0, hfz17_1, hfz17_2⟩ := bz3 BK776; obtain ⟨hcz18_0, hcz18_1, hcz18_2, hcz18_3, hfz18_0, hfz18_1, hfz18_2, hfz18_3⟩ := bz4 BK777) | ((with_reducible refine gate_callee (f := 6) rfl ?_); refine gl 48 Tryz.func6 #[.int .i64 t768, .agg #[.int .i64 t769, .int .i64 t770, .int .i64 t771], .agg #[.int .i64 t772, .int .i64 t773, .int .i64 t774, .int .i64 t775]] ?_; (with_reducible refine (impl_InvariantVec.calls _ _ _ _ _ _ _ _ _ _ _ _ _ A5.out).mono ?_); rintro e w19 ⟨rfl, hb⟩; refine ⟨_, rfl, ?_⟩; replace BK776 := asd (blk_below (g := gb776) (o := .cells #[.int .i64 t769, .int .i64 t770, .int .i64 t771] 25 (0, 0)) (bq1 BK776 NB776_777) hb); replace BK777 := asd (blk_below (g := gb777) (o := .cells #[.int .i64 t772, .int .i64 t773, .int .i64 t774, .int .i64 t775] 27 (0, 0)) (bq1 BK777 NB777_776) hb); replace HB := bS2 HB GE776 GE777 hb; (try clear hb)) | ((with_reducible refine gd 6 rfl ?_); (try (refine gate_guard (by rfl) ?_; dsimp only)); refine bx #[.int .i64 0, .int .i64 0] 31 ?_; intro gb781 hg w20 BK781 hb; have GE781 := ngw2 hg HB GE776 GE777; replace HB := bS2 HB GE776 GE777 hb; have NB776_781 := nlt hg BK776; have NB781_776 := nsy (nlt hg BK776); replace BK776 := bB BK776 hb; have NB777_781 := nlt hg BK777; have NB781_777 := nsy (nlt hg BK777); replace BK777 := bB BK777 hb; clear hb hg; have hnb21 := NB781_776.out; have hnc21 := NB776_781.out; have hnb22 := NB781_777.out; have hnc22 := NB777_781.out; obtain ⟨hcz23_0, hcz23_1, hfz23_0, hfz23_1⟩ := bz2 BK781; obtain ⟨hcz24_0, hcz24_1, hcz24_2, hfz24_0, hfz24_1, hfz24_2⟩ := bz3 BK776; obtain ⟨hcz25_0, hcz25_1, hcz25_2, hcz25_3, hfz25_0, hfz25_1, hfz25_2, hfz25_3⟩ := bz4 BK777) | ((with_reducible refine gate_callee (f := 7) rfl ?_); refine gl 55 Tryz.func7 #[.int .i64 t768, .agg #[.int .i64 t769, .int .i64 t770, .int .i64 t771], .agg #[.int .i64 t772, .int .i64 t773, .int .i64 t774, .int .i64 t775]] ?_; (with_reducible refine (spec_InvariantVec.calls _ _ _ _ _ _ _ _ _ _ _ _ _ A6.out).mono ?_); rintro e w26 ⟨rfl, hb⟩; refine ⟨_, rfl, ?_⟩; replace BK776 := asd (blk_below (g := gb776) (o := .cells #[.int .i64 t769, .int .i64 t770, .int .i64 t771] 25 (0, 0)) (bq1 BK776 NB776_781) hb); replace BK777 := asd (blk_below (g := gb777) (o := .cells #[.int .i64 t772, .int .i64 t773, .int .i64 t774, .int .i64 t775] 27 (0, 0)) (bq1 BK777 NB777_781) hb); replace BK781 := asd (blk_below (g := gb781) (o := .cells #[.int .i64 t778, .int .i64 t779] 31 (0, 0)) (bq0 BK781) hb); replace HB := bS3 HB GE776 GE777 GE781 hb; (try clear hb)) | ((with_reducible refine gd 8 rfl ?_); (try (refine gate_guard (by rfl) ?_; dsimp only)); refine bx #[.int .i64 0, .int .i64 0] 31 ?_; intro gb785 hg w27 BK785 hb; have GE785 := ngw3 hg HB GE776 GE777 GE781; replace HB := bS3 HB GE776 GE777 GE781 hb; have NB776_785 := nlt hg BK776; have NB785_776 := nsy (nlt hg BK776); replace BK776 := bB BK776 hb; have NB777_785 := nlt hg BK777; have NB785_777 := nsy (nlt hg BK777); replace BK777 := bB BK777 hb; have NB781_785 := nlt hg BK781; have NB785_781 := nsy (nlt hg BK781); replace BK781 := bB BK781 hb; clear hb hg; have hnb28 := NB785_776.out; have hnc28 := NB776_785.out; have hnb29 := NB785_777.out; have hnc29 := NB777_785.out; have hnb30 := NB785_781.out; have hnc30 := NB781_785.out; obtain ⟨hcz31_0, hcz31_1, hfz31_0, hfz31_1⟩ := bz2 BK785; obtain ⟨hcz32_0, hcz32_1, hcz32_2, hfz32_0, hfz32_1, hfz32_2⟩ := bz3 BK776; obtain ⟨hcz33_0, hcz33_1, hcz33_2, hcz33_3, hfz33_0, hfz33_1, hfz33_2, hfz33_3⟩ := bz4 BK777) | ((with_reducible refine gate_callee (f := 8) rfl ?_); refine gl 62 Tryz.func8 #[.int .i64 t768, .agg #[.int .i64 t769, .int .i64 t770, .int .i64 t771], .agg #[.int .i64 t772, .int .i64 t773, .int .i64 t774, .int .i64 t775]] ?_; (with_reducible refine (impl_IsCentred.calls _ _ _ _ _ _ _ _ _ _ _ _ A7.out).mono ?_); rintro e w34 ⟨rfl, hb⟩; refine ⟨_, rfl, ?_⟩; replace BK776 := asd (blk_below (g := gb776) (o := .cells #[.int .i64 t769, .int .i64 t770, .int .i64 t771] 25 (0, 0)) (bq1 BK776 NB776_785) hb); replace BK777 := asd (blk_below (g := gb777) (o := .cells #[.int .i64 t772, .int .i64 t773, .int .i64 t774, .int .i64 t775] 27 (0, 0)) (bq1 BK777 NB777_785) hb); replace BK781 := asd (blk_below (g := gb781) (o := .cells #[.int .i64 t778, .int .i64 t779] 31 (0, 0)) (bq1 BK781 NB781_785) hb); replace BK785 := asd (blk_below (g := gb785) (o := .cells #[.int .i64 t782, .int .i64 t783] 31 (0, 0)) (bq0 BK785) hb); replace HB := bS4 HB GE776 GE777 GE781 GE785 hb; (try clear hb); obtain ⟨hcz35_0, hcz35_1, hcz35_2, hfz35_0, hfz35_1, hfz35_2⟩ := bz3 BK776; obtain ⟨hcz36_0, hcz36_1, hcz36_2, hcz36_3, hfz36_0, hfz36_1, hfz36_2, hfz36_3⟩ := bz4 BK777) | ((with_reducible refine gate_callee (f := 9) rfl ?_); refine gl 69 Tryz.func9 #[.int .i64 t768, .agg #[.int .i64 t769, .int .i64 t770, .int .i64 t771], .agg #[.int .i64 t772, .int .i64 t773, .int .i64 t774, .int .i64 t775]] ?_; (with_reducible refine (spec_IsCentred.calls _ _ _ _ _ _ _ _ _ _ _ _ A8.out).mono ?_); rintro e w37 ⟨rfl, hb⟩; refine ⟨_, rfl, ?_⟩; replace BK776 := bB BK776 hb; replace BK777 := bB BK777 hb; replace BK781 := bB BK781 hb; replace BK785 := bB BK785 hb; replace HB := bS4 HB GE776 GE777 GE781 GE785 hb; (try clear hb)) | ((with_reducible refine gate_callee (f := 10) rfl ?_); refine gl 74 Tryz.func10 #[.slice A0 l0.length c0] ?_; (with_reducible refine (spec_DrawMayReflect.calls _ _ _ _ _ _ _ _ _ _ _ _ _ _ _ ?side1 ?side2 A9.out).mono ?_); (case side1 => exact ks (Kd.C_below HR0.out HB.out)); (case side2 => exact HC0.out); rintro e w38 ⟨rfl, hb⟩; refine ⟨_, rfl, ?_⟩; replace BK776 := bB BK776 hb; replace BK777 := bB BK777 hb; replace BK781 := bB BK781 hb; replace BK785 := bB BK785 hb; replace HB := bS4 HB GE776 GE777 GE781 GE785 hb; (try clear hb)) | ((with_reducible refine gd 15 rfl ?_); (try (refine gate_guard (by rfl) ?_; dsimp only)); refine bx #[.int .i64 0, .int .i64 0, .int .i64 0] 25 ?_; intro gb800 hg w39 BK800 hb; have GE800 := ngw4 hg HB GE776 GE777 GE781 GE785; replace HB := bS4 HB GE776 GE777 GE781 GE785 hb; have NB776_800 := nlt hg BK776; have NB800_776 := nsy (nlt hg BK776); replace BK776 := bB BK776 hb; have NB777_800 := nlt hg BK777; have NB800_777 := nsy (nlt hg BK777); replace BK777 := bB BK777 hb; have NB781_800 := nlt hg BK781; have NB800_781 := nsy (nlt hg BK781); replace BK781 := bB BK781 hb; have NB785_800 := nlt hg BK785; have NB800_785 := nsy (nlt hg BK785); replace BK785 := bB BK785 hb; clear hb hg) | ((with_reducible refine gd 16 rfl ?_); (try (refine gate_guard (by rfl) ?_; dsimp only)); refine bx #[.int .i64 0, .int .i64 0, .int .i64 0, .int .i64 0, .int .i64 0, .int .i64 0] 37 ?_; intro gb801 hg w40 BK801 hb; have GW801 := asd ((by rw [hg]; exact (below_size (by repeat (first | (with_reducible first | exact HB.out | apply below_alloc | apply pw_below_drewN | apply below_drew1 | refine below_set ?_ GE776.out | refine below_set ?_ GE777.out | refine below_set ?_ GE781.out | refine below_set ?_ GE785.out | refine below_set ?_ GE800.out) | exact HB.out))) : w.heap.size ≤ gb801)); have GE801 := asd ((by rw [hg]; exact (below_size (by repeat (first | (with_reducible first | exact HB.out | apply below_alloc | apply pw_below_drewN | apply below_drew1 | refine below_set ?_ GE776.out | refine below_set ?_ GE777.out | refine below_set ?_ GE781.out | refine below_set ?_ GE785.out | refine below_set ?_ GE800.out) | exact HB.out))) : w.heap.size ≤ gb801)); replace HB := asd (below_step (by repeat (first | (with_reducible first | exact HB.out | apply below_alloc | apply pw_below_drewN | apply below_drew1 | refine below_set ?_ GE776.out | refine below_set ?_ GE777.out | refine below_set ?_ GE781.out | refine below_set ?_ GE785.out | refine below_set ?_ GE800.out) | exact HB.out)) hb); have NB776_801 := nlt hg BK776; have NB801_776 := nsy (nlt hg BK776); replace BK776 := bB BK776 hb; have NB777_801 := nlt hg BK777; have NB801_777 := nsy (nlt hg BK777); replace BK777 := bB BK777 hb; have NB781_801 := nlt hg BK781; have NB801_781 := nsy (nlt hg BK781); replace BK781 := bB BK781 hb; have NB785_801 := nlt hg BK785; have NB801_785 := nsy (nlt hg BK785); replace BK785 := bB BK785 hb; have NB800_801 := nlt hg BK800; have NB801_800 := nsy (nlt hg BK800); replace BK800 := bB BK800 hb; clear hb hg; have hnb41 := NB800_776.out; have hnc41 := NB776_800.out; have hnb42 := NB800_777.out; have hnc42 := NB777_800.out; have hnb43 := NB800_781.out; have hnc43 := NB781_800.out; have hnb44 := NB800_785.out; have hnc44 := NB785_800.out; have hnb45 := NB800_801.out; have hnc45 := NB801_800.out; obtain ⟨hcz46_0, hcz46_1, hcz46_2, hfz46_0, hfz46_1, hfz46_2⟩ := bz3 BK800; have hnb47 := NB801_776.out; have hnc47 := NB776_801.out; have hnb48 := NB801_777.out; have hnc48 := NB777_801.out; have hnb49 := NB801_781.out; have hnc49 := NB781_801.out; have hnb50 := NB801_785.out; have hnc50 := NB785_801.out; obtain ⟨hcz51_0, hcz51_1, hcz51_2, hcz51_3, hcz51_4, hcz51_5, hfz51_0, hfz51_1, hfz51_2, hfz51_3, hfz51_4, hfz51_5⟩ := bz6 BK801) | ((with_reducible refine gate_callee (f := 11) rfl ?_); refine gl 82 Tryz.func11 #[.int .i64 t790, .agg #[.int .i64 t791, .int .i64 t792, .int .i64 t793], .agg #[.int .i64 t794, .int .i64 t795, .int .i64 t796, .int .i64 t797, .int .i64 t798, .int .i64 t799]] ?_; (with_reducible refine (impl_MayReflect.calls _ _ _ _ _ _ _ _ _ _ _ _ _ _ A10.out).mono ?_); rintro e w52 ⟨rfl, hb⟩; refine ⟨_, rfl, ?_⟩; replace BK776 := asd (blk_below (g := gb776) (o := .cells #[.int .i64 t769, .int .i64 t770, .int .i64 t771] 25 (0, 0)) (bq2 BK776 NB776_801 NB776_800) hb); replace BK777 := asd (blk_below (g := gb777) (o := .cells #[.int .i64 t772, .int .i64 t773, .int .i64 t774, .int .i64 t775] 27 (0, 0)) (bq2 BK777 NB777_801 NB777_800) hb); replace BK781 := asd (blk_below (g := gb781) (o := .cells #[.int .i64 t778, .int .i64 t779] 31 (0, 0)) (bq2 BK781 NB781_801 NB781_800) hb); replace BK785 := asd (blk_below (g := gb785) (o := .cells #[.int .i64 t782, .int .i64 t783] 31 (0, 0)) (bq2 BK785 NB785_801 NB785_800) hb); replace BK800 := asd (blk_below (g := gb800) (o := .cells #[.int .i64 t791, .int .i64 t792, .int .i64 t793] 25 (0, 0)) (bq1 BK800 NB800_801) hb); replace BK801 := asd (blk_below (g := gb801) (o := .cells #[.int .i64 t794, .int .i64 t795, .int .i64 t796, .int .i64 t797, .int .i64 t798, .int .i64 t799] 37 (0, 0)) (bq1 BK801 NB801_800) hb); replace HB := asd (below_step (by repeat (first | (with_reducible first | exact HB.out | apply below_alloc | apply pw_below_drewN | apply below_drew1 | refine below_set ?_ GE776.out | refine below_set ?_ GE777.out | refine below_set ?_ GE781.out | refine below_set ?_ GE785.out | refine below_set ?_ GE800.out | refine below_set ?_ GE801.out) | exact HB.out)) hb); (try clear hb); obtain ⟨hcz53_0, hcz53_1, hcz53_2, hfz53_0, hfz53_1, hfz53_2⟩ := bz3 BK800; obtain ⟨hcz54_0, hcz54_1, hcz54_2, hcz54_3, hcz54_4, hcz54_5, hfz54_0, hfz54_1, hfz54_2, hfz54_3, hfz54_4, hfz54_5⟩ := bz6 BK801) | ((with_reducible refine gate_callee (f := 12) rfl ?_); refine gl 89 Tryz.func12 #[.int .i64 t790, .agg #[.int .i64 t791, .int .i64 t792, .int .i64 t793], .agg #[.int .i64 t794, .int .i64 t795, .int .i64 t796, .int .i64 t797, .int .i64 t798, .int .i64 t799]] ?_; (with_reducible refine (spec_MayReflect.calls _ _ _ _ _ _ _ _ _ _ _ _ _ _ A11.out).mono ?_); rintro e w55 ⟨rfl, hb⟩; refine ⟨_, rfl, ?_⟩; replace BK776 := bB BK776 hb; replace BK777 := bB BK777 hb; replace BK781 := bB BK781 hb; replace BK785 := bB BK785 hb; replace BK800 := bB BK800 hb; replace BK801 := bB BK801 hb; replace HB := asd (below_step (by repeat (first | (with_reducible first | exact HB.out | apply below_alloc | apply pw_below_drewN | apply below_drew1 | refine below_set ?_ GE776.out | refine below_set ?_ GE777.out | refine below_set ?_ GE781.out | refine below_set ?_ GE785.out | refine below_set ?_ GE800.out | refine below_set ?_ GE801.out) | exact HB.out)) hb); (try clear hb)))
  (try simp only [Act.put, sA, sB, sC])
  go_cut [124] (fun v124 wc => ∃ (kq : Nat) (x124_11 : Bool), v124 = .bool x124_11 ∧ Aside0 (laws_FnCentred.j0 kq t768 t780 t786 t790 t802 t803 x124_11 t769 t770 t771 t772 t773 t774 t775 t778 t779 t791 t792 t793 t794 t795 t796 t797 t798 t799 = some true) ∧ Aside0 (kq ≤ k) ∧ Aside0 (wc.heap[gb776]? = some (.cells #[.int .i64 t769, .int .i64 t770, .int .i64 t771] 25 (0, 0))) ∧ Aside0 (wc.heap[gb777]? = some (.cells #[.int .i64 t772, .int .i64 t773, .int .i64 t774, .int .i64 t775] 27 (0, 0))) ∧ Aside0 (wc.heap[gb781]? = some (.cells #[.int .i64 t778, .int .i64 t779] 31 (0, 0))) ∧ Aside0 (wc.heap[gb785]? = some (.cells #[.int .i64 t782, .int .i64 t783] 31 (0, 0))) ∧ Aside0 (wc.heap[gb800]? = some (.cells #[.int .i64 t791, .int .i64 t792, .int .i64 t793] 25 (0, 0))) ∧ Aside0 (wc.heap[gb801]? = some (.cells #[.int .i64 t794, .int .i64 t795, .int .i64 t796, .int .i64 t797, .int .i64 t798, .int .i64 t799] 37 (0, 0))) ∧ Aside0 (Below w.heap.size w wc))
  case first => as_aux_lemma =>
   have H := HC12.out
   clear HC12
   by_cases c56 : t780 = t784
   ·rw [if_pos c56] at H
    have c56b0 : (t780 == t784) = true := beq_iff_eq.mpr c56
    have c56b1 : (t780 != t784) = false := bne_eq_false_iff_eq.mpr c56
    clear c56
    (first | rw [c56b0] | (simp only [i64_w, i32_w]; rw [c56b0]) | skip)
    by_cases c57 : (!(t778 == t782) || (!(t779 == t783))) = true
    ·rw [if_pos c57] at H
     have c57b0 := c57
     clear c57
     exact absurd H (laws_FnCentred.j0_dead _ _ _ _ _ _ _ _ _ _ _ _ _ _ _ _ _ _ _ _ _ _ _ _ _)
    ·rw [if_neg c57] at H
     have c57b0 : (!(t778 == t782) || (!(t779 == t783))) = false := by simpa using c57
     clear c57
     by_cases c69 : t787 = t789
     ·rw [if_pos c69] at H
      have c69b0 : (t787 == t789) = true := beq_iff_eq.mpr c69
      have c69b1 : (t787 != t789) = false := bne_eq_false_iff_eq.mpr c69
      clear c69
      by_cases c70 : (t786 != t788) = true
      ·rw [if_pos c70] at H
       have c70b0 := c70
       (try (have c70b1 : decide (t786 = t788) = false := by simpa using c70))
       (try (have c70b2 : (t786 == t788) = false := by simpa using c70))
       (try (have c70b3 : ¬ (t786 = t788) := by simpa using c70))
       clear c70
       exact absurd H (laws_FnCentred.j0_dead _ _ _ _ _ _ _ _ _ _ _ _ _ _ _ _ _ _ _ _ _ _ _ _ _)
      ·rw [if_neg c70] at H
       have c70b0 : (t786 != t788) = false := by simpa using c70
       (try (have c70b1 : decide (t786 = t788) = true := by simpa using c70))
       (try (have c70b2 : (t786 == t788) = true := by simpa using c70))
       clear c70
       by_cases c82 : t803 = t805
       ·rw [if_pos c82] at H
        have c82b0 : (t803 == t805) = true := beq_iff_eq.mpr c82
        have c82b1 : (t803 != t805) = false := bne_eq_false_iff_eq.mpr c82
        clear c82
        by_cases c83 : (t802 != t804) = true
        ·rw [if_pos c83] at H
         have c83b0 := c83
         (try (have c83b1 : decide (t802 = t804) = false := by simpa using c83))
         (try (have c83b2 : (t802 == t804) = false := by simpa using c83))
         (try (have c83b3 : ¬ (t802 = t804) := by simpa using c83))
         clear c83
         exact absurd H (laws_FnCentred.j0_dead _ _ _ _ _ _ _ _ _ _ _ _ _ _ _ _ _ _ _ _ _ _ _ _ _)
        ·rw [if_neg c83] at H
         have c83b0 : (t802 != t804) = false := by simpa using c83
         (try (have c83b1 : decide (t802 = t804) = true := by simpa using c83))
         (try (have c83b2 : (t802 == t804) = true := by simpa using c83))
         clear c83
         have H' := Aside0.mk H
         clear H
         have hnb95 := NB781_776.out
         have hnc95 := NB776_781.out
         have hnb96 := NB781_777.out
         have hnc96 := NB777_781.out
         have hnb97 := NB781_785.out
         have hnc97 := NB785_781.out
         have hnb98 := NB781_800.out
         have hnc98 := NB800_781.out
         have hnb99 := NB781_801.out
         have hnc99 := NB801_781.out
         obtain ⟨hcz100_0, hcz100_1, hfz100_0, hfz100_1⟩ := bz2 BK781
         have hnb101 := NB785_776.out
         have hnc101 := NB776_785.out
         have hnb102 := NB785_777.out
         have hnc102 := NB777_785.out
         have hnb103 := NB785_800.out
         have hnc103 := NB800_785.out
         have hnb104 := NB785_801.out
         have hnc104 := NB801_785.out
         obtain ⟨hcz105_0, hcz105_1, hfz105_0, hfz105_1⟩ := bz2 BK785
         go_wp2
         go_meet
         case rel => exact ⟨_, ((t787 != t780)), (by first | rfl | (simp; done) | (simp [*]; done)), H', ⟨by first | omega | exact Nat.le_refl _⟩, ⟨bkp BK776⟩, ⟨bkp BK777⟩, ⟨bkp BK781⟩, ⟨bkp BK785⟩, ⟨bkp BK800⟩, ⟨bkp BK801⟩, ⟨by repeat (first | (with_reducible first | exact HB.out | apply below_alloc | apply pw_below_drewN | apply below_drew1 | refine below_set ?_ GE776.out | refine below_set ?_ GE777.out | refine below_set ?_ GE781.out | refine below_set ?_ GE785.out | refine below_set ?_ GE800.out | refine below_set ?_ GE801.out) | exact HB.out)⟩⟩
       ·rw [if_neg c82] at H
        have c82b0 : (t803 == t805) = false := beq_eq_false_iff_ne.mpr c82
        have c82b1 : (t803 != t805) = true := bne_iff_ne.mpr c82
        exact absurd H (laws_FnCentred.j0_dead _ _ _ _ _ _ _ _ _ _ _ _ _ _ _ _ _ _ _ _ _ _ _ _ _)
     ·rw [if_neg c69] at H
      have c69b0 : (t787 == t789) = false := beq_eq_false_iff_ne.mpr c69
      have c69b1 : (t787 != t789) = true := bne_iff_ne.mpr c69
      exact absurd H (laws_FnCentred.j0_dead _ _ _ _ _ _ _ _ _ _ _ _ _ _ _ _ _ _ _ _ _ _ _ _ _)
   ·rw [if_neg c56] at H
    have c56b0 : (t780 == t784) = false := beq_eq_false_iff_ne.mpr c56
    have c56b1 : (t780 != t784) = true := bne_iff_ne.mpr c56
    (first | rw [c56b0] | (simp only [i64_w, i32_w]; rw [c56b0]) | skip)
    exact absurd H (laws_FnCentred.j0_dead _ _ _ _ _ _ _ _ _ _ _ _ _ _ _ _ _ _ _ _ _ _ _ _ _)
  case rest =>
   clear HC12
   try clear c1
   try clear c2
   try clear p2
   try clear c3
   try clear c4
   try clear c5
   try clear c6
   try clear c7
   try clear c8
   try clear c9
   try clear c10
   try clear c11
   try clear c12
   try clear c16
   try clear c21
   try clear c22
   try clear c28
   try clear c29
   try clear c30
   try clear c41
   try clear c42
   try clear c43
   try clear c44
   try clear c45
   try clear c47
   try clear c48
   try clear c49
   try clear c50
   try clear c56
   try clear c56b0
   try clear c56b1
   try clear c57
   try clear c57b0
   try clear c58
   try clear c59
   try clear c60
   try clear c61
   try clear c62
   try clear c64
   try clear c65
   try clear c66
   try clear c67
   try clear c69
   try clear c69b0
   try clear c69b1
   try clear c70
   try clear c70b0
   try clear c70b1
   try clear c70b2
   try clear c71
   try clear c72
   try clear c73
   try clear c74
   try clear c75
   try clear c77
   try clear c78
   try clear c79
   try clear c80
   try clear c82
   try clear c82b0
   try clear c82b1
   try clear c83
   try clear c83b0
   try clear c83b1
   try clear c83b2
   try clear c84
   try clear c85
   try clear c86
   try clear c87
   try clear c88
   try clear c90
   try clear c91
   try clear c92
   try clear c93
   try clear c95
   try clear c96
   try clear c97
   try clear c98
   try clear c99
   try clear c101
   try clear c102
   try clear c103
   try clear c104
   try clear c106
   try clear c107
   try clear c108
   try clear c109
   try clear c110
   try clear c112
   try clear c113
   try clear c114
   try clear c115
   try clear c117
   try clear c118
   try clear c119
   try clear c120
   try clear c121
   try clear c123
   try clear c124
   try clear c125
   try clear c126
   try clear hcz100_0
   try clear hcz100_1
   try clear hcz105_0
   try clear hcz105_1
   try clear hcz111_0
   try clear hcz111_1
   try clear hcz116_0
   try clear hcz116_1
   try clear hcz122_0
   try clear hcz122_1
   try clear hcz127_0
   try clear hcz127_1
   try clear hcz17_0
   try clear hcz17_1
   try clear hcz17_2
   try clear hcz18_0
   try clear hcz18_1
   try clear hcz18_2
   try clear hcz18_3
   try clear hcz23_0
   try clear hcz23_1
   try clear hcz24_0
   try clear hcz24_1
   try clear hcz24_2
   try clear hcz25_0
   try clear hcz25_1
   try clear hcz25_2
   try clear hcz25_3
   try clear hcz31_0
   try clear hcz31_1
   try clear hcz32_0
   try clear hcz32_1
   try clear hcz32_2
   try clear hcz33_0
   try clear hcz33_1
   try clear hcz33_2
   try clear hcz33_3
   try clear hcz35_0
   try clear hcz35_1
   try clear hcz35_2
   try clear hcz36_0
   try clear hcz36_1
   try clear hcz36_2
   try clear hcz36_3
   try clear hcz46_0
   try clear hcz46_1
   try clear hcz46_2
   try clear hcz51_0
   try clear hcz51_1
   try clear hcz51_2
   try clear hcz51_3
   try clear hcz51_4
   try clear hcz51_5
   try clear hcz53_0
   try clear hcz53_1
   try clear hcz53_2
   try clear hcz54_0
   try clear hcz54_1
   try clear hcz54_2
   try clear hcz54_3
   try clear hcz54_4
   try clear hcz54_5
   try clear hcz63_0
   try clear hcz63_1
   try clear hcz68_0
   try clear hcz68_1
   try clear hcz76_0
   try clear hcz76_1
   try clear hcz81_0
   try clear hcz81_1
   try clear hcz89_0
   try clear hcz89_1
   try clear hcz94_0
   try clear hcz94_1
   try clear hfz100_0
   try clear hfz100_1
   try clear hfz105_0
   try clear hfz105_1
   try clear hfz111_0
   try clear hfz111_1
   try clear hfz116_0
   try clear hfz116_1
   try clear hfz122_0
   try clear hfz122_1
   try clear hfz127_0
   try clear hfz127_1
   try clear hfz17_0
   try clear hfz17_1
   try clear hfz17_2
   try clear hfz18_0
   try clear hfz18_1
   try clear hfz18_2
   try clear hfz18_3
   try clear hfz23_0
   try clear hfz23_1
   try clear hfz24_0
   try clear hfz24_1
   try clear hfz24_2
   try clear hfz25_0
   try clear hfz25_1
   try clear hfz25_2
   try clear hfz25_3
   try clear hfz31_0
   try clear hfz31_1
   try clear hfz32_0
   try clear hfz32_1
   try clear hfz32_2
   try clear hfz33_0
   try clear hfz33_1
   try clear hfz33_2
   try clear hfz33_3
   try clear hfz35_0
   try clear hfz35_1
   try clear hfz35_2
   try clear hfz36_0
   try clear hfz36_1
   try clear hfz36_2
   try clear hfz36_3
   try clear hfz46_0
   try clear hfz46_1
   try clear hfz46_2
   try clear hfz51_0
   try clear hfz51_1
   try clear hfz51_2
   try clear hfz51_3
   try clear hfz51_4
   try clear hfz51_5
   try clear hfz53_0
   try clear hfz53_1
   try clear hfz53_2
   try clear hfz54_0
   try clear hfz54_1
   try clear hfz54_2
   try clear hfz54_3
   try clear hfz54_4
   try clear hfz54_5
   try clear hfz63_0
   try clear hfz63_1
   try clear hfz68_0
   try clear hfz68_1
   try clear hfz76_0
   try clear hfz76_1
   try clear hfz81_0
   try clear hfz81_1
   try clear hfz89_0
   try clear hfz89_1
   try clear hfz94_0
   try clear hfz94_1
   obtain ⟨kq, x124_11, rfl, HA, HJ11, BK776, BK777, BK781, BK785, BK800, BK801, HB⟩ := hcut
   cases kq with
   | zero => exact absurd HA.out (by simp [laws_FnCentred.j0])
   | succ kj11 =>
    have H := HA.out
    clear HA
    simp only [laws_FnCentred.j0] at H
    by_cases c128 : x124_11 = true
    ·subst c128
     replace H := ifT H
     exact absurd H (by simp)
    ·replace c128 := Bool.eq_false_iff.mpr c128
     subst c128
     replace H := ifF H
     have HC129 := Aside0.mk H
     clear H
     go_upto_if 126 with (fail)
     go_cut [] (fun wc => ∃ (kq : Nat), Aside0 (laws_FnCentred.j3 kq t768 t780 t786 t769 t770 t771 t772 t773 t774 t775 t778 t779 = some true) ∧ Aside0 (kq ≤ kj11) ∧ Aside0 (wc.heap[gb776]? = some (.cells #[.int .i64 t769, .int .i64 t770, .int .i64 t771] 25 (0, 0))) ∧ Aside0 (wc.heap[gb777]? = some (.cells #[.int .i64 t772, .int .i64 t773, .int .i64 t774, .int .i64 t775] 27 (0, 0))) ∧ Aside0 (wc.heap[gb781]? = some (.cells #[.int .i64 t778, .int .i64 t779] 31 (0, 0))) ∧ Aside0 (wc.heap[gb785]? = some (.cells #[.int .i64 t782, .int .i64 t783] 31 (0, 0))) ∧ Aside0 (wc.heap[gb800]? = some (.cells #[.int .i64 t791, .int .i64 t792, .int .i64 t793] 25 (0, 0))) ∧ Aside0 (wc.heap[gb801]? = some (.cells #[.int .i64 t794, .int .i64 t795, .int .i64 t796, .int .i64 t797, .int .i64 t798, .int .i64 t799] 37 (0, 0))) ∧ Aside0 (Below w.heap.size w wc))
     case first =>
      have H := HC129.out
      clear HC129
      by_cases c130 : t803 = 0
      ·rw [if_pos c130] at H
       have c130b0 : (t803 == 0) = true := beq_iff_eq.mpr c130
       have c130b1 : (t803 != 0) = false := bne_eq_false_iff_eq.mpr c130
       clear c130
       (first | rw [c130b0] | (simp only [i64_w, i32_w]; rw [c130b0]) | skip)
       obtain ⟨⟨t806, t807, t808, t809, t810, t811, t812⟩, A131, H⟩ := ob H
       try dsimp only at H
       have H' := Aside0.mk H
       clear H
       have hnb132 := NB800_776.out
       have hnc132 := NB776_800.out
       have hnb133 := NB800_777.out
       have hnc133 := NB777_800.out
       have hnb134 := NB800_781.out
       have hnc134 := NB781_800.out
       have hnb135 := NB800_785.out
       have hnc135 := NB785_800.out
       have hnb136 := NB800_801.out
       have hnc136 := NB801_800.out
       obtain ⟨hcz137_0, hcz137_1, hcz137_2, hfz137_0, hfz137_1, hfz137_2⟩ := bz3 BK800
       have hnb138 := NB801_776.out
       have hnc138 := NB776_801.out
       have hnb139 := NB801_777.out
       have hnc139 := NB777_801.out
       have hnb140 := NB801_781.out
       have hnc140 := NB781_801.out
       have hnb141 := NB801_785.out
       have hnc141 := NB785_801.out
       obtain ⟨hcz142_0, hcz142_1, hcz142_2, hcz142_3, hcz142_4, hcz142_5, hfz142_0, hfz142_1, hfz142_2, hfz142_3, hfz142_4, hfz142_5⟩ := bz6 BK801
       go_wp2_with (first | ((with_reducible refine gate_callee (f := 13) rfl ?_); refine gl 131 Tryz.func13 #[.int .i64 t790, .agg #[.int .i64 t791, .int .i64 t792, .int .i64 t793], .agg #[.int .i64 t794, .int .i64 t795, .int .i64 t796, .int .i64 t797, .int .i64 t798, .int .i64 t799]] ?_; (with_reducible refine (impl_ReduceMotion.calls _ _ _ _ _ _ _ _ _ _ _ _ _ _ _ _ _ _ _ A131.out).mono ?_); rintro e w143 ⟨rfl, hb⟩; refine ⟨_, rfl, ?_⟩; replace BK776 := bB BK776 hb; replace BK777 := bB BK777 hb; replace BK781 := bB BK781 hb; replace BK785 := bB BK785 hb; replace BK800 := bB BK800 hb; replace BK801 := bB BK801 hb; replace HB := asd (below_step (by repeat (first | (with_reducible first | exact HB.out | apply below_alloc | apply pw_below_drewN | apply below_drew1 | refine below_set ?_ GE776.out | refine below_set ?_ GE777.out | refine below_set ?_ GE781.out | refine below_set ?_ GE785.out | refine below_set ?_ GE800.out | refine below_set ?_ GE801.out) | exact HB.out)) hb); (try clear hb)) | ((with_reducible refine gd 21 rfl ?_); (try (refine gate_guard (by rfl) ?_; dsimp only)); refine bx #[.int .i64 0, .int .i64 0, .int .i64 0, .int .i64 0, .int .i64 0, .int .i64 0] 37 ?_; intro gb813 hg w144 BK813 hb; have GW813 := asd ((by rw [hg]; exact (below_size (by repeat (first | (with_reducible first | exact HB.out | apply below_alloc | apply pw_below_drewN | apply below_drew1 | refine below_set ?_ GE776.out | refine below_set ?_ GE777.out | refine below_set ?_ GE781.out | refine below_set ?_ GE785.out | refine below_set ?_ GE800.out | refine below_set ?_ GE801.out) | exact HB.out))) : w.heap.size ≤ gb813)); have GE813 := asd ((by rw [hg]; exact (below_size (by repeat (first | (with_reducible first | exact HB.out | apply below_alloc | apply pw_below_drewN | apply below_drew1 | refine below_set ?_ GE776.out | refine below_set ?_ GE777.out | refine below_set ?_ GE781.out | refine below_set ?_ GE785.out | refine below_set ?_ GE800.out | refine below_set ?_ GE801.out) | exact HB.out))) : w.heap.size ≤ gb813)); replace HB := asd (below_step (by repeat (first | (with_reducible first | exact HB.out | apply below_alloc | apply pw_below_drewN | apply below_drew1 | refine below_set ?_ GE776.out | refine below_set ?_ GE777.out | refine below_set ?_ GE781.out | refine below_set ?_ GE785.out | refine below_set ?_ GE800.out | refine below_set ?_ GE801.out) | exact HB.out)) hb); have NB776_813 := nlt hg BK776; have NB813_776 := nsy (nlt hg BK776); replace BK776 := bB BK776 hb; have NB777_813 := nlt hg BK777; have NB813_777 := nsy (nlt hg BK777); replace BK777 := bB BK777 hb; have NB781_813 := nlt hg BK781; have NB813_781 := nsy (nlt hg BK781); replace BK781 := bB BK781 hb; have NB785_813 := nlt hg BK785; have NB813_785 := nsy (nlt hg BK785); replace BK785 := bB BK785 hb; have NB800_813 := nlt hg BK800; have NB813_800 := nsy (nlt hg BK800); replace BK800 := bB BK800 hb; have NB801_813 := nlt hg BK801; have NB813_801 := nsy (nlt hg BK801); replace BK801 := bB BK801 hb; clear hb hg; have hnb145 := NB813_776.out; have hnc145 := NB776_813.out; have hnb146 := NB813_777.out; have hnc146 := NB777_813.out; have hnb147 := NB813_781.out; have hnc147 := NB781_813.out; have hnb148 := NB813_785.out; have hnc148 := NB785_813.out; have hnb149 := NB813_800.out; have hnc149 := NB800_813.out; have hnb150 := NB813_801.out; have hnc150 := NB801_813.out; obtain ⟨hcz151_0, hcz151_1, hcz151_2, hcz151_3, hcz151_4, hcz151_5, hfz151_0, hfz151_1, hfz151_2, hfz151_3, hfz151_4, hfz151_5⟩ := bz6 BK813))
       go_loopg [23] kj11 (fun kq v23 w' => ∃ (x23_2 : Int), v23 = .int .i64 x23_2 ∧ Aside0 (laws_FnCentred.l0 kq t768 t780 t786 t802 t812 x23_2 t769 t770 t771 t772 t773 t774 t775 t778 t779 t791 t792 t793 t806 t807 t808 t809 t810 t811 = some true) ∧ Aside0 (kq ≤ kj11) ∧ Aside0 (w'.heap[gb776]? = some (.cells #[.int .i64 t769, .int .i64 t770, .int .i64 t771] 25 (0, 0))) ∧ Aside0 (w'.heap[gb777]? = some (.cells #[.int .i64 t772, .int .i64 t773, .int .i64 t774, .int .i64 t775] 27 (0, 0))) ∧ Aside0 (w'.heap[gb781]? = some (.cells #[.int .i64 t778, .int .i64 t779] 31 (0, 0))) ∧ Aside0 (w'.heap[gb785]? = some (.cells #[.int .i64 t782, .int .i64 t783] 31 (0, 0))) ∧ Aside0 (w'.heap[gb800]? = some (.cells #[.int .i64 t791, .int .i64 t792, .int .i64 t793] 25 (0, 0))) ∧ Aside0 (w'.heap[gb801]? = some (.cells #[.int .i64 t794, .int .i64 t795, .int .i64 t796, .int .i64 t797, .int .i64 t798, .int .i64 t799] 37 (0, 0))) ∧ Aside0 (w'.heap[gb813]? = some (.cells #[.int .i64 t806, .int .i64 t807, .int .i64 t808, .int .i64 t809, .int .i64 t810, .int .i64 t811] 37 (0, 0))) ∧ Aside0 (Below w.heap.size w w'))
       case atStart => exact ⟨((-2)), (by first | rfl | (simp; done) | (simp [*]; done)), H', ⟨Nat.le_refl _⟩, ⟨bq1 BK776 NB776_813⟩, ⟨bq1 BK777 NB777_813⟩, ⟨bq1 BK781 NB781_813⟩, ⟨bq1 BK785 NB785_813⟩, ⟨bq1 BK800 NB800_813⟩, ⟨bq1 BK801 NB801_813⟩, ⟨bq0 BK813⟩, ⟨by repeat (first | (with_reducible first | exact HB.out | apply below_alloc | apply pw_below_drewN | apply below_drew1 | refine below_set ?_ GE776.out | refine below_set ?_ GE777.out | refine below_set ?_ GE781.out | refine below_set ?_ GE785.out | refine below_set ?_ GE800.out | refine below_set ?_ GE801.out | refine below_set ?_ GE813.out) | exact HB.out)⟩⟩
       case round =>
        clear H'
        try clear c1
        try clear c2
        try clear p2
        try clear c3
        try clear c4
        try clear c5
        try clear c6
        try clear c7
        try clear c8
        try clear c9
        try clear c10
        try clear c11
        try clear c12
        try clear c13
        try clear c14
        try clear c15
        try clear c16
        try clear c21
        try clear c22
        try clear c28
        try clear c29
        try clear c30
        try clear c41
        try clear c42
        try clear c43
        try clear c44
        try clear c45
        try clear c47
        try clear c48
        try clear c49
        try clear c50
        try clear c56
        try clear c56b0
        try clear c56b1
        try clear c57
        try clear c57b0
        try clear c58
        try clear c59
        try clear c60
        try clear c61
        try clear c62
        try clear c64
        try clear c65
        try clear c66
        try clear c67
        try clear c69
        try clear c69b0
        try clear c69b1
        try clear c70
        try clear c70b0
        try clear c70b1
        try clear c70b2
        try clear c71
        try clear c72
        try clear c73
        try clear c74
        try clear c75
        try clear c77
        try clear c78
        try clear c79
        try clear c80
        try clear c82
        try clear c82b0
        try clear c82b1
        try clear c83
        try clear c83b0
        try clear c83b1
        try clear c83b2
        try clear c84
        try clear c85
        try clear c86
        try clear c87
        try clear c88
        try clear c90
        try clear c91
        try clear c92
        try clear c93
        try clear c95
        try clear c96
        try clear c97
        try clear c98
        try clear c99
        try clear c101
        try clear c102
        try clear c103
        try clear c104
        try clear c106
        try clear c107
        try clear c108
        try clear c109
        try clear c110
        try clear c112
        try clear c113
        try clear c114
        try clear c115
        try clear c117
        try clear c118
        try clear c119
        try clear c120
        try clear c121
        try clear c123
        try clear c124
        try clear c125
        try clear c126
        try clear c128
        try clear c130
        try clear c130b0
        try clear c130b1
        try clear c132
        try clear c133
        try clear c134
        try clear c135
        try clear c136
        try clear c138
        try clear c139
        try clear c140
        try clear c141
        try clear c145
        try clear c146
        try clear c147
        try clear c148
        try clear c149
        try clear c150
        try clear hcz100_0
        try clear hcz100_1
        try clear hcz105_0
        try clear hcz105_1
        try clear hcz111_0
        try clear hcz111_1
        try clear hcz116_0
        try clear hcz116_1
        try clear hcz122_0
        try clear hcz122_1
        try clear hcz127_0
        try clear hcz127_1
        try clear hcz137_0
        try clear hcz137_1
        try clear hcz137_2
        try clear hcz142_0
        try clear hcz142_1
        try clear hcz142_2
        try clear hcz142_3
        try clear hcz142_4
        try clear hcz142_5
        try clear hcz151_0
        try clear hcz151_1
        try clear hcz151_2
        try clear hcz151_3
        try clear hcz151_4
        try clear hcz151_5
        try clear hcz17_0
        try clear hcz17_1
        try clear hcz17_2
        try clear hcz18_0
        try clear hcz18_1
        try clear hcz18_2
        try clear hcz18_3
        try clear hcz23_0
        try clear hcz23_1
        try clear hcz24_0
        try clear hcz24_1
        try clear hcz24_2
        try clear hcz25_0
        try clear hcz25_1
        try clear hcz25_2
        try clear hcz25_3
        try clear hcz31_0
        try clear hcz31_1
        try clear hcz32_0
        try clear hcz32_1
        try clear hcz32_2
        try clear hcz33_0
        try clear hcz33_1
        try clear hcz33_2
        try clear hcz33_3
        try clear hcz35_0
        try clear hcz35_1
        try clear hcz35_2
        try clear hcz36_0
        try clear hcz36_1
        try clear hcz36_2
        try clear hcz36_3
        try clear hcz46_0
        try clear hcz46_1
        try clear hcz46_2
        try clear hcz51_0
        try clear hcz51_1
        try clear hcz51_2
        try clear hcz51_3
        try clear hcz51_4
        try clear hcz51_5
        try clear hcz53_0
        try clear hcz53_1
        try clear hcz53_2
        try clear hcz54_0
        try clear hcz54_1
        try clear hcz54_2
        try clear hcz54_3
        try clear hcz54_4
        try clear hcz54_5
        try clear hcz63_0
        try clear hcz63_1
        try clear hcz68_0
        try clear hcz68_1
        try clear hcz76_0
        try clear hcz76_1
        try clear hcz81_0
        try clear hcz81_1
        try clear hcz89_0
        try clear hcz89_1
        try clear hcz94_0
        try clear hcz94_1
        try clear hfz100_0
        try clear hfz100_1
        try clear hfz105_0
        try clear hfz105_1
        try clear hfz111_0
        try clear hfz111_1
        try clear hfz116_0
        try clear hfz116_1
        try clear hfz122_0
        try clear hfz122_1
        try clear hfz127_0
        try clear hfz127_1
        try clear hfz137_0
        try clear hfz137_1
        try clear hfz137_2
        try clear hfz142_0
        try clear hfz142_1
        try clear hfz142_2
        try clear hfz142_3
        try clear hfz142_4
        try clear hfz142_5
        try clear hfz151_0
        try clear hfz151_1
        try clear hfz151_2
        try clear hfz151_3
        try clear hfz151_4
        try clear hfz151_5
        try clear hfz17_0
        try clear hfz17_1
        try clear hfz17_2
        try clear hfz18_0
        try clear hfz18_1
        try clear hfz18_2
        try clear hfz18_3
        try clear hfz23_0
        try clear hfz23_1
        try clear hfz24_0
        try clear hfz24_1
        try clear hfz24_2
        try clear hfz25_0
        try clear hfz25_1
        try clear hfz25_2
        try clear hfz25_3
        try clear hfz31_0
        try clear hfz31_1
        try clear hfz32_0
        try clear hfz32_1
        try clear hfz32_2
        try clear hfz33_0
        try clear hfz33_1
        try clear hfz33_2
        try clear hfz33_3
        try clear hfz35_0
        try clear hfz35_1
        try clear hfz35_2
        try clear hfz36_0
        try clear hfz36_1
        try clear hfz36_2
        try clear hfz36_3
        try clear hfz46_0
        try clear hfz46_1
        try clear hfz46_2
        try clear hfz51_0
        try clear hfz51_1
        try clear hfz51_2
        try clear hfz51_3
        try clear hfz51_4
        try clear hfz51_5
        try clear hfz53_0
        try clear hfz53_1
        try clear hfz53_2
        try clear hfz54_0
        try clear hfz54_1
        try clear hfz54_2
        try clear hfz54_3
        try clear hfz54_4
        try clear hfz54_5
        try clear hfz63_0
        try clear hfz63_1
        try clear hfz68_0
        try clear hfz68_1
        try clear hfz76_0
        try clear hfz76_1
        try clear hfz81_0
        try clear hfz81_1
        try clear hfz89_0
        try clear hfz89_1
        try clear hfz94_0
        try clear hfz94_1
        try clear p2
        obtain ⟨x23_2, rfl, HA, HK2, BK776, BK777, BK781, BK785, BK800, BK801, BK813, HB⟩ := hrel
        cases gk with
        | zero => exact absurd HA.out (by simp [laws_FnCentred.l0])
        | succ k2 =>
         have H := HA.out
         clear HA
         simp only [laws_FnCentred.l0] at H
         by_cases c152 : x23_2 ≤ 2
         ·rw [if_pos c152] at H
          have c152b0 := decide_eq_true c152
          clear c152
          have H' := Aside0.mk H
          clear H
          go_wp2
          go_loopg [24] k2 (fun kq v24 w' => ∃ (x24_3 : Int), v24 = .int .i64 x24_3 ∧ Aside0 (laws_FnCentred.l1 kq t768 t780 t786 t802 t812 x23_2 x24_3 t769 t770 t771 t772 t773 t774 t775 t778 t779 t791 t792 t793 t806 t807 t808 t809 t810 t811 = some true) ∧ Aside0 (kq ≤ k2) ∧ Aside0 (w'.heap[gb776]? = some (.cells #[.int .i64 t769, .int .i64 t770, .int .i64 t771] 25 (0, 0))) ∧ Aside0 (w'.heap[gb777]? = some (.cells #[.int .i64 t772, .int .i64 t773, .int .i64 t774, .int .i64 t775] 27 (0, 0))) ∧ Aside0 (w'.heap[gb781]? = some (.cells #[.int .i64 t778, .int .i64 t779] 31 (0, 0))) ∧ Aside0 (w'.heap[gb785]? = some (.cells #[.int .i64 t782, .int .i64 t783] 31 (0, 0))) ∧ Aside0 (w'.heap[gb800]? = some (.cells #[.int .i64 t791, .int .i64 t792, .int .i64 t793] 25 (0, 0))) ∧ Aside0 (w'.heap[gb801]? = some (.cells #[.int .i64 t794, .int .i64 t795, .int .i64 t796, .int .i64 t797, .int .i64 t798, .int .i64 t799] 37 (0, 0))) ∧ Aside0 (w'.heap[gb813]? = some (.cells #[.int .i64 t806, .int .i64 t807, .int .i64 t808, .int .i64 t809, .int .i64 t810, .int .i64 t811] 37 (0, 0))) ∧ Aside0 (Below w.heap.size w w'))
          case atStart => exact ⟨((-2)), (by first | rfl | (simp; done) | (simp [*]; done)), H', ⟨Nat.le_refl _⟩, ⟨bkp BK776⟩, ⟨bkp BK777⟩, ⟨bkp BK781⟩, ⟨bkp BK785⟩, ⟨bkp BK800⟩, ⟨bkp BK801⟩, ⟨bkp BK813⟩, ⟨by repeat (first | (with_reducible first | exact HB.out | apply below_alloc | apply pw_below_drewN | apply below_drew1 | refine below_set ?_ GE776.out | refine below_set ?_ GE777.out | refine below_set ?_ GE781.out | refine below_set ?_ GE785.out | refine below_set ?_ GE800.out | refine below_set ?_ GE801.out | refine below_set ?_ GE813.out) | exact HB.out)⟩⟩
          case round =>
           clear H'
           try clear c1
           try clear c2
           try clear p2
           try clear c3
           try clear c4
           try clear c5
           try clear c6
           try clear c7
           try clear c8
           try clear c9
           try clear c10
           try clear c11
           try clear c12
           try clear c13
           try clear c14
           try clear c15
           try clear c16
           try clear c21
           try clear c22
           try clear c28
           try clear c29
           try clear c30
           try clear c41
           try clear c42
           try clear c43
           try clear c44
           try clear c45
           try clear c47
           try clear c48
           try clear c49
           try clear c50
           try clear c56
           try clear c56b0
           try clear c56b1
           try clear c57
           try clear c57b0
           try clear c58
           try clear c59
           try clear c60
           try clear c61
           try clear c62
           try clear c64
           try clear c65
           try clear c66
           try clear c67
           try clear c69
           try clear c69b0
           try clear c69b1
           try clear c70
           try clear c70b0
           try clear c70b1
           try clear c70b2
           try clear c71
           try clear c72
           try clear c73
           try clear c74
           try clear c75
           try clear c77
           try clear c78
           try clear c79
           try clear c80
           try clear c82
           try clear c82b0
           try clear c82b1
           try clear c83
           try clear c83b0
           try clear c83b1
           try clear c83b2
           try clear c84
           try clear c85
           try clear c86
           try clear c87
           try clear c88
           try clear c90
           try clear c91
           try clear c92
           try clear c93
           try clear c95
           try clear c96
           try clear c97
           try clear c98
           try clear c99
           try clear c101
           try clear c102
           try clear c103
           try clear c104
           try clear c106
           try clear c107
           try clear c108
           try clear c109
           try clear c110
           try clear c112
           try clear c113
           try clear c114
           try clear c115
           try clear c117
           try clear c118
           try clear c119
           try clear c120
           try clear c121
           try clear c123
           try clear c124
           try clear c125
           try clear c126
           try clear c128
           try clear c130
           try clear c130b0
           try clear c130b1
           try clear c132
           try clear c133
           try clear c134
           try clear c135
           try clear c136
           try clear c138
           try clear c139
           try clear c140
           try clear c141
           try clear c145
           try clear c146
           try clear c147
           try clear c148
           try clear c149
           try clear c150
           try clear c152
           try clear c152b0
           try clear hcz100_0
           try clear hcz100_1
           try clear hcz105_0
           try clear hcz105_1
           try clear hcz111_0
           try clear hcz111_1
           try clear hcz116_0
           try clear hcz116_1
           try clear hcz122_0
           try clear hcz122_1
           try clear hcz127_0
           try clear hcz127_1
           try clear hcz137_0
           try clear hcz137_1
           try clear hcz137_2
           try clear hcz142_0
           try clear hcz142_1
           try clear hcz142_2
           try clear hcz142_3
           try clear hcz142_4
           try clear hcz142_5
           try clear hcz151_0
           try clear hcz151_1
           try clear hcz151_2
           try clear hcz151_3
           try clear hcz151_4
           try clear hcz151_5
           try clear hcz17_0
           try clear hcz17_1
           try clear hcz17_2
           try clear hcz18_0
           try clear hcz18_1
           try clear hcz18_2
           try clear hcz18_3
           try clear hcz23_0
           try clear hcz23_1
           try clear hcz24_0
           try clear hcz24_1
           try clear hcz24_2
           try clear hcz25_0
           try clear hcz25_1
           try clear hcz25_2
           try clear hcz25_3
           try clear hcz31_0
           try clear hcz31_1
           try clear hcz32_0
           try clear hcz32_1
           try clear hcz32_2
           try clear hcz33_0
           try clear hcz33_1
           try clear hcz33_2
           try clear hcz33_3
           try clear hcz35_0
           try clear hcz35_1
           try clear hcz35_2
           try clear hcz36_0
           try clear hcz36_1
           try clear hcz36_2
           try clear hcz36_3
           try clear hcz46_0
           try clear hcz46_1
           try clear hcz46_2
           try clear hcz51_0
           try clear hcz51_1
           try clear hcz51_2
           try clear hcz51_3
           try clear hcz51_4
           try clear hcz51_5
           try clear hcz53_0
           try clear hcz53_1
           try clear hcz53_2
           try clear hcz54_0
           try clear hcz54_1
           try clear hcz54_2
           try clear hcz54_3
           try clear hcz54_4
           try clear hcz54_5
           try clear hcz63_0
           try clear hcz63_1
           try clear hcz68_0
           try clear hcz68_1
           try clear hcz76_0
           try clear hcz76_1
           try clear hcz81_0
           try clear hcz81_1
           try clear hcz89_0
           try clear hcz89_1
           try clear hcz94_0
           try clear hcz94_1
           try clear hfz100_0
           try clear hfz100_1
           try clear hfz105_0
           try clear hfz105_1
           try clear hfz111_0
           try clear hfz111_1
           try clear hfz116_0
           try clear hfz116_1
           try clear hfz122_0
           try clear hfz122_1
           try clear hfz127_0
           try clear hfz127_1
           try clear hfz137_0
           try clear hfz137_1
           try clear hfz137_2
           try clear hfz142_0
           try clear hfz142_1
           try clear hfz142_2
           try clear hfz142_3
           try clear hfz142_4
           try clear hfz142_5
           try clear hfz151_0
           try clear hfz151_1
           try clear hfz151_2
           try clear hfz151_3
           try clear hfz151_4
           try clear hfz151_5
           try clear hfz17_0
           try clear hfz17_1
           try clear hfz17_2
           try clear hfz18_0
           try clear hfz18_1
           try clear hfz18_2
           try clear hfz18_3
           try clear hfz23_0
           try clear hfz23_1
           try clear hfz24_0
           try clear hfz24_1
           try clear hfz24_2
           try clear hfz25_0
           try clear hfz25_1
           try clear hfz25_2
           try clear hfz25_3
           try clear hfz31_0
           try clear hfz31_1
           try clear hfz32_0
           try clear hfz32_1
           try clear hfz32_2
           try clear hfz33_0
           try clear hfz33_1
           try clear hfz33_2
           try clear hfz33_3
           try clear hfz35_0
           try clear hfz35_1
           try clear hfz35_2
           try clear hfz36_0
           try clear hfz36_1
           try clear hfz36_2
           try clear hfz36_3
           try clear hfz46_0
           try clear hfz46_1
           try clear hfz46_2
           try clear hfz51_0
           try clear hfz51_1
           try clear hfz51_2
           try clear hfz51_3
           try clear hfz51_4
           try clear hfz51_5
           try clear hfz53_0
           try clear hfz53_1
           try clear hfz53_2
           try clear hfz54_0
           try clear hfz54_1
           try clear hfz54_2
           try clear hfz54_3
           try clear hfz54_4
           try clear hfz54_5
           try clear hfz63_0
           try clear hfz63_1
           try clear hfz68_0
           try clear hfz68_1
           try clear hfz76_0
           try clear hfz76_1
           try clear hfz81_0
           try clear hfz81_1
           try clear hfz89_0
           try clear hfz89_1
           try clear hfz94_0
           try clear hfz94_1
           try clear p2
           obtain ⟨x24_3, rfl, HA, HK3, BK776, BK777, BK781, BK785, BK800, BK801, BK813, HB⟩ := hrel
           cases gk with
           | zero => exact absurd HA.out (by simp [laws_FnCentred.l1])
           | succ k3 =>
            have H := HA.out
            clear HA
            simp only [laws_FnCentred.l1] at H
            by_cases c153 : x24_3 ≤ 2
            ·rw [if_pos c153] at H
             have c153b0 := decide_eq_true c153
             clear c153
             obtain ⟨⟨t815, t816⟩, A154, H⟩ := ob H
             try dsimp only at H
             by_cases c155 : t816 = 0
             ·rw [if_pos c155] at H
              have c155b0 : (t816 == 0) = true := beq_iff_eq.mpr c155
              have c155b1 : (t816 != 0) = false := bne_eq_false_iff_eq.mpr c155
              clear c155
              by_cases c156 : t815 = 3
              ·rw [if_pos c156] at H
               have c156b0 : (t815 == 3) = true := beq_iff_eq.mpr c156
               have c156b1 : (t815 != 3) = false := bne_eq_false_iff_eq.mpr c156
               clear c156
               by_cases c157 : t802 = true
               ·subst c157
                replace H := ifT H
                have H' := Aside0.mk H
                clear H
                have hnb158 := NB813_776.out
                have hnc158 := NB776_813.out
                have hnb159 := NB813_777.out
                have hnc159 := NB777_813.out
                have hnb160 := NB813_781.out
                have hnc160 := NB781_813.out
                have hnb161 := NB813_785.out
                have hnc161 := NB785_813.out
                have hnb162 := NB813_800.out
                have hnc162 := NB800_813.out
                have hnb163 := NB813_801.out
                have hnc163 := NB801_813.out
                obtain ⟨hcz164_0, hcz164_1, hcz164_2, hcz164_3, hcz164_4, hcz164_5, hfz164_0, hfz164_1, hfz164_2, hfz164_3, hfz164_4, hfz164_5⟩ := bz6 BK813
                have hnb165 := NB800_776.out
                have hnc165 := NB776_800.out
                have hnb166 := NB800_777.out
                have hnc166 := NB777_800.out
                have hnb167 := NB800_781.out
                have hnc167 := NB781_800.out
                have hnb168 := NB800_785.out
                have hnc168 := NB785_800.out
                have hnb169 := NB800_801.out
                have hnc169 := NB801_800.out
                obtain ⟨hcz170_0, hcz170_1, hcz170_2, hfz170_0, hfz170_1, hfz170_2⟩ := bz3 BK800
                go_wp2_with (first | ((with_reducible refine gd 25 rfl ?_); (try (refine gate_guard (by rfl) ?_; dsimp only)); refine bx #[.int .i64 0, .int .i64 0, .int .i64 0, .int .i64 0, .int .i64 0, .int .i64 0] 37 ?_; intro gb814 hg w171 BK814 hb; have GW814 := asd ((by rw [hg]; exact (below_size (by repeat (first | (with_reducible first | exact HB.out | apply below_alloc | apply pw_below_drewN | apply below_drew1 | refine below_set ?_ GE776.out | refine below_set ?_ GE777.out | refine below_set ?_ GE781.out | refine below_set ?_ GE785.out | refine below_set ?_ GE800.out | refine below_set ?_ GE801.out | refine below_set ?_ GE813.out) | exact HB.out))) : w.heap.size ≤ gb814)); have GE814 := asd ((by rw [hg]; exact (below_size (by repeat (first | (with_reducible first | exact HB.out | apply below_alloc | apply pw_below_drewN | apply below_drew1 | refine below_set ?_ GE776.out | refine below_set ?_ GE777.out | refine below_set ?_ GE781.out | refine below_set ?_ GE785.out | refine below_set ?_ GE800.out | refine below_set ?_ GE801.out | refine below_set ?_ GE813.out) | exact HB.out))) : w.heap.size ≤ gb814)); replace HB := asd (below_step (by repeat (first | (with_reducible first | exact HB.out | apply below_alloc | apply pw_below_drewN | apply below_drew1 | refine below_set ?_ GE776.out | refine below_set ?_ GE777.out | refine below_set ?_ GE781.out | refine below_set ?_ GE785.out | refine below_set ?_ GE800.out | refine below_set ?_ GE801.out | refine below_set ?_ GE813.out) | exact HB.out)) hb); have NB776_814 := nlt hg BK776; have NB814_776 := nsy (nlt hg BK776); replace BK776 := bB BK776 hb; have NB777_814 := nlt hg BK777; have NB814_777 := nsy (nlt hg BK777); replace BK777 := bB BK777 hb; have NB781_814 := nlt hg BK781; have NB814_781 := nsy (nlt hg BK781); replace BK781 := bB BK781 hb; have NB785_814 := nlt hg BK785; have NB814_785 := nsy (nlt hg BK785); replace BK785 := bB BK785 hb; have NB800_814 := nlt hg BK800; have NB814_800 := nsy (nlt hg BK800); replace BK800 := bB BK800 hb; have NB801_814 := nlt hg BK801; have NB814_801 := nsy (nlt hg BK801); replace BK801 := bB BK801 hb; have NB813_814 := nlt hg BK813; have NB814_813 := nsy (nlt hg BK813); replace BK813 := bB BK813 hb; clear hb hg; have hnb172 := NB814_776.out; have hnc172 := NB776_814.out; have hnb173 := NB814_777.out; have hnc173 := NB777_814.out; have hnb174 := NB814_781.out; have hnc174 := NB781_814.out; have hnb175 := NB814_785.out; have hnc175 := NB785_814.out; have hnb176 := NB814_800.out; have hnc176 := NB800_814.out; have hnb177 := NB814_801.out; have hnc177 := NB801_814.out; have hnb178 := NB814_813.out; have hnc178 := NB813_814.out; obtain ⟨hcz179_0, hcz179_1, hcz179_2, hcz179_3, hcz179_4, hcz179_5, hfz179_0, hfz179_1, hfz179_2, hfz179_3, hfz179_4, hfz179_5⟩ := bz6 BK814) | ((with_reducible refine gate_callee (f := 14) rfl ?_); refine gl 169 Tryz.func14 #[.agg #[.int .i64 t806, .int .i64 t807, .int .i64 t808, .int .i64 t809, .int .i64 (wrap64 ((wrap64 (t810 + (wrap64 (x23_2 * t791)))) + (wrap64 (x24_3 * t792)))), .int .i64 (wrap64 (t811 + (wrap64 (x24_3 * t793))))]] ?_; (with_reducible refine (impl_KindOfMotion.calls _ _ _ _ _ _ _ _ _ _ A154.out).mono ?_); rintro e w180 ⟨rfl, hb⟩; refine ⟨_, rfl, ?_⟩; replace BK776 := asd (blk_below (g := gb776) (o := .cells #[.int .i64 t769, .int .i64 t770, .int .i64 t771] 25 (0, 0)) (bq1 BK776 NB776_814) hb); replace BK777 := asd (blk_below (g := gb777) (o := .cells #[.int .i64 t772, .int .i64 t773, .int .i64 t774, .int .i64 t775] 27 (0, 0)) (bq1 BK777 NB777_814) hb); replace BK781 := asd (blk_below (g := gb781) (o := .cells #[.int .i64 t778, .int .i64 t779] 31 (0, 0)) (bq1 BK781 NB781_814) hb); replace BK785 := asd (blk_below (g := gb785) (o := .cells #[.int .i64 t782, .int .i64 t783] 31 (0, 0)) (bq1 BK785 NB785_814) hb); replace BK800 := asd (blk_below (g := gb800) (o := .cells #[.int .i64 t791, .int .i64 t792, .int .i64 t793] 25 (0, 0)) (bq1 BK800 NB800_814) hb); replace BK801 := asd (blk_below (g := gb801) (o := .cells #[.int .i64 t794, .int .i64 t795, .int .i64 t796, .int .i64 t797, .int .i64 t798, .int .i64 t799] 37 (0, 0)) (bq1 BK801 NB801_814) hb); replace BK813 := asd (blk_below (g := gb813) (o := .cells #[.int .i64 t806, .int .i64 t807, .int .i64 t808, .int .i64 t809, .int .i64 t810, .int .i64 t811] 37 (0, 0)) (bq1 BK813 NB813_814) hb); replace BK814 := asd (blk_below (g := gb814) (o := .cells #[.int .i64 t806, .int .i64 t807, .int .i64 t808, .int .i64 t809, .int .i64 (wrap64 ((wrap64 (t810 + (wrap64 (x23_2 * t791)))) + (wrap64 (x24_3 * t792)))), .int .i64 (wrap64 (t811 + (wrap64 (x24_3 * t793))))] 37 (0, 0)) (bq0 BK814) hb); replace HB := asd (below_step (by repeat (first | (with_reducible first | exact HB.out | apply below_alloc | apply pw_below_drewN | apply below_drew1 | refine below_set ?_ GE776.out | refine below_set ?_ GE777.out | refine below_set ?_ GE781.out | refine below_set ?_ GE785.out | refine below_set ?_ GE800.out | refine below_set ?_ GE801.out | refine below_set ?_ GE813.out | refine below_set ?_ GE814.out) | exact HB.out)) hb); (try clear hb)))
                go_roundg k3
                case measure => have := HJ11.out; have := HK2.out; have := HK3.out; omega
                case rel => exact ⟨(wrap64 (x24_3 + 1)), (by first | rfl | (simp; done) | (simp [*]; done)), H', ⟨by have := HJ11.out; have := HK2.out; have := HK3.out; omega⟩, ⟨bkp BK776⟩, ⟨bkp BK777⟩, ⟨bkp BK781⟩, ⟨bkp BK785⟩, ⟨bkp BK800⟩, ⟨bkp BK801⟩, ⟨bkp BK813⟩, ⟨by repeat (first | (with_reducible first | exact HB.out | apply below_alloc | apply pw_below_drewN | apply below_drew1 | refine below_set ?_ GE776.out | refine below_set ?_ GE777.out | refine below_set ?_ GE781.out | refine below_set ?_ GE785.out | refine below_set ?_ GE800.out | refine below_set ?_ GE801.out | refine below_set ?_ GE813.out | refine below_set ?_ GE814.out) | exact HB.out)⟩⟩
               ·replace c157 := Bool.eq_false_iff.mpr c157
                subst c157
                replace H := ifF H
                exact absurd H (by simp)
              ·rw [if_neg c156] at H
               have c156b0 : (t815 == 3) = false := beq_eq_false_iff_ne.mpr c156
               have c156b1 : (t815 != 3) = true := bne_iff_ne.mpr c156
               have H' := Aside0.mk H
               clear H
               have hnb181 := NB813_776.out
               have hnc181 := NB776_813.out
               have hnb182 := NB813_777.out
               have hnc182 := NB777_813.out
               have hnb183 := NB813_781.out
               have hnc183 := NB781_813.out
               have hnb184 := NB813_785.out
               have hnc184 := NB785_813.out
               have hnb185 := NB813_800.out
               have hnc185 := NB800_813.out
               have hnb186 := NB813_801.out
               have hnc186 := NB801_813.out
               obtain ⟨hcz187_0, hcz187_1, hcz187_2, hcz187_3, hcz187_4, hcz187_5, hfz187_0, hfz187_1, hfz187_2, hfz187_3, hfz187_4, hfz187_5⟩ := bz6 BK813
               have hnb188 := NB800_776.out
               have hnc188 := NB776_800.out
               have hnb189 := NB800_777.out
               have hnc189 := NB777_800.out
               have hnb190 := NB800_781.out
               have hnc190 := NB781_800.out
               have hnb191 := NB800_785.out
               have hnc191 := NB785_800.out
               have hnb192 := NB800_801.out
               have hnc192 := NB801_800.out
               obtain ⟨hcz193_0, hcz193_1, hcz193_2, hfz193_0, hfz193_1, hfz193_2⟩ := bz3 BK800
               go_wp2_with (first | ((with_reducible refine gd 25 rfl ?_); (try (refine gate_guard (by rfl) ?_; dsimp only)); refine bx #[.int .i64 0, .int .i64 0, .int .i64 0, .int .i64 0, .int .i64 0, .int .i64 0] 37 ?_; intro gb814 hg w194 BK814 hb; have GW814 := asd ((by rw [hg]; exact (below_size (by repeat (first | (with_reducible first | exact HB.out | apply below_alloc | apply pw_below_drewN | apply below_drew1 | refine below_set ?_ GE776.out | refine below_set ?_ GE777.out | refine below_set ?_ GE781.out | refine below_set ?_ GE785.out | refine below_set ?_ GE800.out | refine below_set ?_ GE801.out | refine below_set ?_ GE813.out) | exact HB.out))) : w.heap.size ≤ gb814)); have GE814 := asd ((by rw [hg]; exact (below_size (by repeat (first | (with_reducible first | exact HB.out | apply below_alloc | apply pw_below_drewN | apply below_drew1 | refine below_set ?_ GE776.out | refine below_set ?_ GE777.out | refine below_set ?_ GE781.out | refine below_set ?_ GE785.out | refine below_set ?_ GE800.out | refine below_set ?_ GE801.out | refine below_set ?_ GE813.out) | exact HB.out))) : w.heap.size ≤ gb814)); replace HB := asd (below_step (by repeat (first | (with_reducible first | exact HB.out | apply below_alloc | apply pw_below_drewN | apply below_drew1 | refine below_set ?_ GE776.out | refine below_set ?_ GE777.out | refine below_set ?_ GE781.out | refine below_set ?_ GE785.out | refine below_set ?_ GE800.out | refine below_set ?_ GE801.out | refine below_set ?_ GE813.out) | exact HB.out)) hb); have NB776_814 := nlt hg BK776; have NB814_776 := nsy (nlt hg BK776); replace BK776 := bB BK776 hb; have NB777_814 := nlt hg BK777; have NB814_777 := nsy (nlt hg BK777); replace BK777 := bB BK777 hb; have NB781_814 := nlt hg BK781; have NB814_781 := nsy (nlt hg BK781); replace BK781 := bB BK781 hb; have NB785_814 := nlt hg BK785; have NB814_785 := nsy (nlt hg BK785); replace BK785 := bB BK785 hb; have NB800_814 := nlt hg BK800; have NB814_800 := nsy (nlt hg BK800); replace BK800 := bB BK800 hb; have NB801_814 := nlt hg BK801; have NB814_801 := nsy (nlt hg BK801); replace BK801 := bB BK801 hb; have NB813_814 := nlt hg BK813; have NB814_813 := nsy (nlt hg BK813); replace BK813 := bB BK813 hb; clear hb hg; have hnb195 := NB814_776.out; have hnc195 := NB776_814.out; have hnb196 := NB814_777.out; have hnc196 := NB777_814.out; have hnb197 := NB814_781.out; have hnc197 := NB781_814.out; have hnb198 := NB814_785.out; have hnc198 := NB785_814.out; have hnb199 := NB814_800.out; have hnc199 := NB800_814.out; have hnb200 := NB814_801.out; have hnc200 := NB801_814.out; have hnb201 := NB814_813.out; have hnc201 := NB813_814.out; obtain ⟨hcz202_0, hcz202_1, hcz202_2, hcz202_3, hcz202_4, hcz202_5, hfz202_0, hfz202_1, hfz202_2, hfz202_3, hfz202_4, hfz202_5⟩ := bz6 BK814) | ((with_reducible refine gate_callee (f := 14) rfl ?_); refine gl 169 Tryz.func14 #[.agg #[.int .i64 t806, .int .i64 t807, .int .i64 t808, .int .i64 t809, .int .i64 (wrap64 ((wrap64 (t810 + (wrap64 (x23_2 * t791)))) + (wrap64 (x24_3 * t792)))), .int .i64 (wrap64 (t811 + (wrap64 (x24_3 * t793))))]] ?_; (with_reducible refine (impl_KindOfMotion.calls _ _ _ _ _ _ _ _ _ _ A154.out).mono ?_); rintro e w203 ⟨rfl, hb⟩; refine ⟨_, rfl, ?_⟩; replace BK776 := asd (blk_below (g := gb776) (o := .cells #[.int .i64 t769, .int .i64 t770, .int .i64 t771] 25 (0, 0)) (bq1 BK776 NB776_814) hb); replace BK777 := asd (blk_below (g := gb777) (o := .cells #[.int .i64 t772, .int .i64 t773, .int .i64 t774, .int .i64 t775] 27 (0, 0)) (bq1 BK777 NB777_814) hb); replace BK781 := asd (blk_below (g := gb781) (o := .cells #[.int .i64 t778, .int .i64 t779] 31 (0, 0)) (bq1 BK781 NB781_814) hb); replace BK785 := asd (blk_below (g := gb785) (o := .cells #[.int .i64 t782, .int .i64 t783] 31 (0, 0)) (bq1 BK785 NB785_814) hb); replace BK800 := asd (blk_below (g := gb800) (o := .cells #[.int .i64 t791, .int .i64 t792, .int .i64 t793] 25 (0, 0)) (bq1 BK800 NB800_814) hb); replace BK801 := asd (blk_below (g := gb801) (o := .cells #[.int .i64 t794, .int .i64 t795, .int .i64 t796, .int .i64 t797, .int .i64 t798, .int .i64 t799] 37 (0, 0)) (bq1 BK801 NB801_814) hb); replace BK813 := asd (blk_below (g := gb813) (o := .cells #[.int .i64 t806, .int .i64 t807, .int .i64 t808, .int .i64 t809, .int .i64 t810, .int .i64 t811] 37 (0, 0)) (bq1 BK813 NB813_814) hb); replace BK814 := asd (blk_below (g := gb814) (o := .cells #[.int .i64 t806, .int .i64 t807, .int .i64 t808, .int .i64 t809, .int .i64 (wrap64 ((wrap64 (t810 + (wrap64 (x23_2 * t791)))) + (wrap64 (x24_3 * t792)))), .int .i64 (wrap64 (t811 + (wrap64 (x24_3 * t793))))] 37 (0, 0)) (bq0 BK814) hb); replace HB := asd (below_step (by repeat (first | (with_reducible first | exact HB.out | apply below_alloc | apply pw_below_drewN | apply below_drew1 | refine below_set ?_ GE776.out | refine below_set ?_ GE777.out | refine below_set ?_ GE781.out | refine below_set ?_ GE785.out | refine below_set ?_ GE800.out | refine below_set ?_ GE801.out | refine below_set ?_ GE813.out | refine below_set ?_ GE814.out) | exact HB.out)) hb); (try clear hb)))
               go_roundg k3
               case measure => have := HJ11.out; have := HK2.out; have := HK3.out; omega
               case rel => exact ⟨(wrap64 (x24_3 + 1)), (by first | rfl | (simp; done) | (simp [*]; done)), H', ⟨by have := HJ11.out; have := HK2.out; have := HK3.out; omega⟩, ⟨bkp BK776⟩, ⟨bkp BK777⟩, ⟨bkp BK781⟩, ⟨bkp BK785⟩, ⟨bkp BK800⟩, ⟨bkp BK801⟩, ⟨bkp BK813⟩, ⟨by repeat (first | (with_reducible first | exact HB.out | apply below_alloc | apply pw_below_drewN | apply below_drew1 | refine below_set ?_ GE776.out | refine below_set ?_ GE777.out | refine below_set ?_ GE781.out | refine below_set ?_ GE785.out | refine below_set ?_ GE800.out | refine below_set ?_ GE801.out | refine below_set ?_ GE813.out | refine below_set ?_ GE814.out) | exact HB.out)⟩⟩
             ·rw [if_neg c155] at H
              have c155b0 : (t816 == 0) = false := beq_eq_false_iff_ne.mpr c155
              have c155b1 : (t816 != 0) = true := bne_iff_ne.mpr c155
              have H' := Aside0.mk H
              clear H
              have hnb204 := NB813_776.out
              have hnc204 := NB776_813.out
              have hnb205 := NB813_777.out
              have hnc205 := NB777_813.out
              have hnb206 := NB813_781.out
              have hnc206 := NB781_813.out
              have hnb207 := NB813_785.out
              have hnc207 := NB785_813.out
              have hnb208 := NB813_800.out
              have hnc208 := NB800_813.out
              have hnb209 := NB813_801.out
              have hnc209 := NB801_813.out
              obtain ⟨hcz210_0, hcz210_1, hcz210_2, hcz210_3, hcz210_4, hcz210_5, hfz210_0, hfz210_1, hfz210_2, hfz210_3, hfz210_4, hfz210_5⟩ := bz6 BK813
              have hnb211 := NB800_776.out
              have hnc211 := NB776_800.out
              have hnb212 := NB800_777.out
              have hnc212 := NB777_800.out
              have hnb213 := NB800_781.out
              have hnc213 := NB781_800.out
              have hnb214 := NB800_785.out
              have hnc214 := NB785_800.out
              have hnb215 := NB800_801.out
              have hnc215 := NB801_800.out
              obtain ⟨hcz216_0, hcz216_1, hcz216_2, hfz216_0, hfz216_1, hfz216_2⟩ := bz3 BK800
              go_wp2_with (first | ((with_reducible refine gd 25 rfl ?_); (try (refine gate_guard (by rfl) ?_; dsimp only)); refine bx #[.int .i64 0, .int .i64 0, .int .i64 0, .int .i64 0, .int .i64 0, .int .i64 0] 37 ?_; intro gb814 hg w217 BK814 hb; have GW814 := asd ((by rw [hg]; exact (below_size (by repeat (first | (with_reducible first | exact HB.out | apply below_alloc | apply pw_below_drewN | apply below_drew1 | refine below_set ?_ GE776.out | refine below_set ?_ GE777.out | refine below_set ?_ GE781.out | refine below_set ?_ GE785.out | refine below_set ?_ GE800.out | refine below_set ?_ GE801.out | refine below_set ?_ GE813.out) | exact HB.out))) : w.heap.size ≤ gb814)); have GE814 := asd ((by rw [hg]; exact (below_size (by repeat (first | (with_reducible first | exact HB.out | apply below_alloc | apply pw_below_drewN | apply below_drew1 | refine below_set ?_ GE776.out | refine below_set ?_ GE777.out | refine below_set ?_ GE781.out | refine below_set ?_ GE785.out | refine below_set ?_ GE800.out | refine below_set ?_ GE801.out | refine below_set ?_ GE813.out) | exact HB.out))) : w.heap.size ≤ gb814)); replace HB := asd (below_step (by repeat (first | (with_reducible first | exact HB.out | apply below_alloc | apply pw_below_drewN | apply below_drew1 | refine below_set ?_ GE776.out | refine below_set ?_ GE777.out | refine below_set ?_ GE781.out | refine below_set ?_ GE785.out | refine below_set ?_ GE800.out | refine below_set ?_ GE801.out | refine below_set ?_ GE813.out) | exact HB.out)) hb); have NB776_814 := nlt hg BK776; have NB814_776 := nsy (nlt hg BK776); replace BK776 := bB BK776 hb; have NB777_814 := nlt hg BK777; have NB814_777 := nsy (nlt hg BK777); replace BK777 := bB BK777 hb; have NB781_814 := nlt hg BK781; have NB814_781 := nsy (nlt hg BK781); replace BK781 := bB BK781 hb; have NB785_814 := nlt hg BK785; have NB814_785 := nsy (nlt hg BK785); replace BK785 := bB BK785 hb; have NB800_814 := nlt hg BK800; have NB814_800 := nsy (nlt hg BK800); replace BK800 := bB BK800 hb; have NB801_814 := nlt hg BK801; have NB814_801 := nsy (nlt hg BK801); replace BK801 := bB BK801 hb; have NB813_814 := nlt hg BK813; have NB814_813 := nsy (nlt hg BK813); replace BK813 := bB BK813 hb; clear hb hg; have hnb218 := NB814_776.out; have hnc218 := NB776_814.out; have hnb219 := NB814_777.out; have hnc219 := NB777_814.out; have hnb220 := NB814_781.out; have hnc220 := NB781_814.out; have hnb221 := NB814_785.out; have hnc221 := NB785_814.out; have hnb222 := NB814_800.out; have hnc222 := NB800_814.out; have hnb223 := NB814_801.out; have hnc223 := NB801_814.out; have hnb224 := NB814_813.out; have hnc224 := NB813_814.out; obtain ⟨hcz225_0, hcz225_1, hcz225_2, hcz225_3, hcz225_4, hcz225_5, hfz225_0, hfz225_1, hfz225_2, hfz225_3, hfz225_4, hfz225_5⟩ := bz6 BK814) | ((with_reducible refine gate_callee (f := 14) rfl ?_); refine gl 169 Tryz.func14 #[.agg #[.int .i64 t806, .int .i64 t807, .int .i64 t808, .int .i64 t809, .int .i64 (wrap64 ((wrap64 (t810 + (wrap64 (x23_2 * t791)))) + (wrap64 (x24_3 * t792)))), .int .i64 (wrap64 (t811 + (wrap64 (x24_3 * t793))))]] ?_; (with_reducible refine (impl_KindOfMotion.calls _ _ _ _ _ _ _ _ _ _ A154.out).mono ?_); rintro e w226 ⟨rfl, hb⟩; refine ⟨_, rfl, ?_⟩; replace BK776 := asd (blk_below (g := gb776) (o := .cells #[.int .i64 t769, .int .i64 t770, .int .i64 t771] 25 (0, 0)) (bq1 BK776 NB776_814) hb); replace BK777 := asd (blk_below (g := gb777) (o := .cells #[.int .i64 t772, .int .i64 t773, .int .i64 t774, .int .i64 t775] 27 (0, 0)) (bq1 BK777 NB777_814) hb); replace BK781 := asd (blk_below (g := gb781) (o := .cells #[.int .i64 t778, .int .i64 t779] 31 (0, 0)) (bq1 BK781 NB781_814) hb); replace BK785 := asd (blk_below (g := gb785) (o := .cells #[.int .i64 t782, .int .i64 t783] 31 (0, 0)) (bq1 BK785 NB785_814) hb); replace BK800 := asd (blk_below (g := gb800) (o := .cells #[.int .i64 t791, .int .i64 t792, .int .i64 t793] 25 (0, 0)) (bq1 BK800 NB800_814) hb); replace BK801 := asd (blk_below (g := gb801) (o := .cells #[.int .i64 t794, .int .i64 t795, .int .i64 t796, .int .i64 t797, .int .i64 t798, .int .i64 t799] 37 (0, 0)) (bq1 BK801 NB801_814) hb); replace BK813 := asd (blk_below (g := gb813) (o := .cells #[.int .i64 t806, .int .i64 t807, .int .i64 t808, .int .i64 t809, .int .i64 t810, .int .i64 t811] 37 (0, 0)) (bq1 BK813 NB813_814) hb); replace BK814 := asd (blk_below (g := gb814) (o := .cells #[.int .i64 t806, .int .i64 t807, .int .i64 t808, .int .i64 t809, .int .i64 (wrap64 ((wrap64 (t810 + (wrap64 (x23_2 * t791)))) + (wrap64 (x24_3 * t792)))), .int .i64 (wrap64 (t811 + (wrap64 (x24_3 * t793))))] 37 (0, 0)) (bq0 BK814) hb); replace HB := asd (below_step (by repeat (first | (with_reducible first | exact HB.out | apply below_alloc | apply pw_below_drewN | apply below_drew1 | refine below_set ?_ GE776.out | refine below_set ?_ GE777.out | refine below_set ?_ GE781.out | refine below_set ?_ GE785.out | refine below_set ?_ GE800.out | refine below_set ?_ GE801.out | refine below_set ?_ GE813.out | refine below_set ?_ GE814.out) | exact HB.out)) hb); (try clear hb)))
              go_roundg k3
              case measure => have := HJ11.out; have := HK2.out; have := HK3.out; omega
              case rel => exact ⟨(wrap64 (x24_3 + 1)), (by first | rfl | (simp; done) | (simp [*]; done)), H', ⟨by have := HJ11.out; have := HK2.out; have := HK3.out; omega⟩, ⟨bkp BK776⟩, ⟨bkp BK777⟩, ⟨bkp BK781⟩, ⟨bkp BK785⟩, ⟨bkp BK800⟩, ⟨bkp BK801⟩, ⟨bkp BK813⟩, ⟨by repeat (first | (with_reducible first | exact HB.out | apply below_alloc | apply pw_below_drewN | apply below_drew1 | refine below_set ?_ GE776.out | refine below_set ?_ GE777.out | refine below_set ?_ GE781.out | refine below_set ?_ GE785.out | refine below_set ?_ GE800.out | refine below_set ?_ GE801.out | refine below_set ?_ GE813.out | refine below_set ?_ GE814.out) | exact HB.out)⟩⟩
            ·rw [if_neg c153] at H
             have c153b0 := decide_eq_false c153
             clear c153
             have H' := Aside0.mk H
             clear H
             go_wp2
             go_roundg k3
             case measure => have := HJ11.out; have := HK2.out; have := HK3.out; omega
             case rel => exact ⟨(wrap64 (x23_2 + 1)), (by first | rfl | (simp; done) | (simp [*]; done)), H', ⟨by have := HJ11.out; have := HK2.out; have := HK3.out; omega⟩, ⟨bkp BK776⟩, ⟨bkp BK777⟩, ⟨bkp BK781⟩, ⟨bkp BK785⟩, ⟨bkp BK800⟩, ⟨bkp BK801⟩, ⟨bkp BK813⟩, ⟨by repeat (first | (with_reducible first | exact HB.out | apply below_alloc | apply pw_below_drewN | apply below_drew1 | refine below_set ?_ GE776.out | refine below_set ?_ GE777.out | refine below_set ?_ GE781.out | refine below_set ?_ GE785.out | refine below_set ?_ GE800.out | refine below_set ?_ GE801.out | refine below_set ?_ GE813.out) | exact HB.out)⟩⟩
         ·rw [if_neg c152] at H
          have c152b0 := decide_eq_false c152
          clear c152
          by_cases c227 : t812 = 0
          ·rw [if_pos c227] at H
           have c227b0 : (t812 == 0) = true := beq_iff_eq.mpr c227
           have c227b1 : (t812 != 0) = false := bne_eq_false_iff_eq.mpr c227
           clear c227
           have H' := Aside0.mk H
           clear H
           go_wp2
           go_meet
           case rel => exact ⟨_, H', ⟨by have := HJ11.out; have := HK2.out; first | omega | exact Nat.le_refl _⟩, ⟨bkp BK776⟩, ⟨bkp BK777⟩, ⟨bkp BK781⟩, ⟨bkp BK785⟩, ⟨bkp BK800⟩, ⟨bkp BK801⟩, ⟨by repeat (first | (with_reducible first | exact HB.out | apply below_alloc | apply pw_below_drewN | apply below_drew1 | refine below_set ?_ GE776.out | refine below_set ?_ GE777.out | refine below_set ?_ GE781.out | refine below_set ?_ GE785.out | refine below_set ?_ GE800.out | refine below_set ?_ GE801.out | refine below_set ?_ GE813.out) | exact HB.out)⟩⟩
          ·rw [if_neg c227] at H
           have c227b0 : (t812 == 0) = false := beq_eq_false_iff_ne.mpr c227
           have c227b1 : (t812 != 0) = true := bne_iff_ne.mpr c227
           exact absurd H (by simp)
      ·rw [if_neg c130] at H
       have c130b0 : (t803 == 0) = false := beq_eq_false_iff_ne.mpr c130
       have c130b1 : (t803 != 0) = true := bne_iff_ne.mpr c130
       (first | rw [c130b0] | (simp only [i64_w, i32_w]; rw [c130b0]) | skip)
       have H' := Aside0.mk H
       clear H
       go_wp2
       go_meet
       case rel => exact ⟨_, H', ⟨by have := HJ11.out; first | omega | exact Nat.le_refl _⟩, ⟨bkp BK776⟩, ⟨bkp BK777⟩, ⟨bkp BK781⟩, ⟨bkp BK785⟩, ⟨bkp BK800⟩, ⟨bkp BK801⟩, ⟨by repeat (first | (with_reducible first | exact HB.out | apply below_alloc | apply pw_below_drewN | apply below_drew1 | refine below_set ?_ GE776.out | refine below_set ?_ GE777.out | refine below_set ?_ GE781.out | refine below_set ?_ GE785.out | refine below_set ?_ GE800.out | refine below_set ?_ GE801.out) | exact HB.out)⟩⟩
     case rest => as_aux_lemma =>
      clear HC129
      try clear c1
      try clear c2
      try clear p2
      try clear c3
      try clear c4
      try clear c5
      try clear c6
      try clear p6
      try clear c7
      try clear c8
      try clear c9
      try clear c10
      try clear c11
      try clear c12
      try clear c13
      try clear c14
      try clear c15
      try clear c16
      try clear c17
      try clear c18
      try clear c19
      try clear c20
      try clear c21
      try clear c22
      try clear c28
      try clear c29
      try clear c30
      try clear c41
      try clear c42
      try clear c43
      try clear c44
      try clear c45
      try clear c47
      try clear c48
      try clear c49
      try clear c50
      try clear c56
      try clear c56b0
      try clear c56b1
      try clear c57
      try clear c57b0
      try clear c58
      try clear c59
      try clear c60
      try clear c61
      try clear c62
      try clear c64
      try clear p64
      try clear c65
      try clear c66
      try clear c67
      try clear c69
      try clear c69b0
      try clear c69b1
      try clear c70
      try clear c70b0
      try clear c70b1
      try clear c70b2
      try clear c71
      try clear c72
      try clear c73
      try clear c74
      try clear c75
      try clear c77
      try clear c78
      try clear c79
      try clear c80
      try clear c82
      try clear c82b0
      try clear c82b1
      try clear c83
      try clear c83b0
      try clear c83b1
      try clear c83b2
      try clear c84
      try clear c85
      try clear c86
      try clear c87
      try clear c88
      try clear c90
      try clear c91
      try clear c92
      try clear c93
      try clear c95
      try clear c96
      try clear c97
      try clear c98
      try clear c99
      try clear c101
      try clear c102
      try clear c103
      try clear c104
      try clear c106
      try clear c107
      try clear c108
      try clear c109
      try clear c110
      try clear c112
      try clear c113
      try clear c114
      try clear c115
      try clear c117
      try clear c118
      try clear c119
      try clear c120
      try clear c121
      try clear c123
      try clear c124
      try clear c125
      try clear c126
      try clear c128
      try clear c130
      try clear c130b0
      try clear c130b1
      try clear c132
      try clear c133
      try clear c134
      try clear c135
      try clear c136
      try clear c138
      try clear c139
      try clear c140
      try clear c141
      try clear c145
      try clear c146
      try clear c147
      try clear c148
      try clear c149
      try clear c150
      try clear c152
      try clear c152b0
      try clear c153
      try clear c153b0
      try clear c155
      try clear c155b0
      try clear c155b1
      try clear c156
      try clear c156b0
      try clear c156b1
      try clear c157
      try clear c158
      try clear c159
      try clear c160
      try clear c161
      try clear c162
      try clear c163
      try clear c165
      try clear c166
      try clear c167
      try clear c168
      try clear c169
      try clear c172
      try clear c173
      try clear c174
      try clear c175
      try clear c176
      try clear c177
      try clear c178
      try clear c181
      try clear c182
      try clear c183
      try clear c184
      try clear c185
      try clear c186
      try clear c188
      try clear c189
      try clear c190
      try clear c191
      try clear c192
      try clear c195
      try clear c196
      try clear c197
      try clear c198
      try clear c199
      try clear c200
      try clear c201
      try clear c204
      try clear c205
      try clear c206
      try clear c207
      try clear c208
      try clear c209
      try clear c211
      try clear c212
      try clear c213
      try clear c214
      try clear c215
      try clear c218
      try clear c219
      try clear c220
      try clear c221
      try clear c222
      try clear c223
      try clear c224
      try clear c227
      try clear c227b0
      try clear c227b1
      try clear hcz100_0
      try clear hcz100_1
      try clear hcz105_0
      try clear hcz105_1
      try clear hcz111_0
      try clear hcz111_1
      try clear hcz116_0
      try clear hcz116_1
      try clear hcz122_0
      try clear hcz122_1
      try clear hcz127_0
      try clear hcz127_1
      try clear hcz137_0
      try clear hcz137_1
      try clear hcz137_2
      try clear hcz142_0
      try clear hcz142_1
      try clear hcz142_2
      try clear hcz142_3
      try clear hcz142_4
      try clear hcz142_5
      try clear hcz151_0
      try clear hcz151_1
      try clear hcz151_2
      try clear hcz151_3
      try clear hcz151_4
      try clear hcz151_5
      try clear hcz164_0
      try clear hcz164_1
      try clear hcz164_2
      try clear hcz164_3
      try clear hcz164_4
      try clear hcz164_5
      try clear hcz170_0
      try clear hcz170_1
      try clear hcz170_2
      try clear hcz179_0
      try clear hcz179_1
      try clear hcz179_2
      try clear hcz179_3
      try clear hcz179_4
      try clear hcz179_5
      try clear hcz17_0
      try clear hcz17_1
      try clear hcz17_2
      try clear hcz187_0
      try clear hcz187_1
      try clear hcz187_2
      try clear hcz187_3
      try clear hcz187_4
      try clear hcz187_5
      try clear hcz18_0
      try clear hcz18_1
      try clear hcz18_2
      try clear hcz18_3
      try clear hcz193_0
      try clear hcz193_1
      try clear hcz193_2
      try clear hcz202_0
      try clear hcz202_1
      try clear hcz202_2
      try clear hcz202_3
      try clear hcz202_4
      try clear hcz202_5
      try clear hcz210_0
      try clear hcz210_1
      try clear hcz210_2
      try clear hcz210_3
      try clear hcz210_4
      try clear hcz210_5
      try clear hcz216_0
      try clear hcz216_1
      try clear hcz216_2
      try clear hcz225_0
      try clear hcz225_1
      try clear hcz225_2
      try clear hcz225_3
      try clear hcz225_4
      try clear hcz225_5
      try clear hcz23_0
      try clear hcz23_1
      try clear hcz24_0
      try clear hcz24_1
      try clear hcz24_2
      try clear hcz25_0
      try clear hcz25_1
      try clear hcz25_2
      try clear hcz25_3
      try clear hcz31_0
      try clear hcz31_1
      try clear hcz32_0
      try clear hcz32_1
      try clear hcz32_2
      try clear hcz33_0
      try clear hcz33_1
      try clear hcz33_2
      try clear hcz33_3
      try clear hcz35_0
      try clear hcz35_1
      try clear hcz35_2
      try clear hcz36_0
      try clear hcz36_1
      try clear hcz36_2
      try clear hcz36_3
      try clear hcz46_0
      try clear hcz46_1
      try clear hcz46_2
      try clear hcz51_0
      try clear hcz51_1
      try clear hcz51_2
      try clear hcz51_3
      try clear hcz51_4
      try clear hcz51_5
      try clear hcz53_0
      try clear hcz53_1
      try clear hcz53_2
      try clear hcz54_0
      try clear hcz54_1
      try clear hcz54_2
      try clear hcz54_3
      try clear hcz54_4
      try clear hcz54_5
      try clear hcz63_0
      try clear hcz63_1
      try clear hcz68_0
      try clear hcz68_1
      try clear hcz76_0
      try clear hcz76_1
      try clear hcz81_0
      try clear hcz81_1
      try clear hcz89_0
      try clear hcz89_1
      try clear hcz94_0
      try clear hcz94_1
      try clear hfz100_0
      try clear hfz100_1
      try clear hfz105_0
      try clear hfz105_1
      try clear hfz111_0
      try clear hfz111_1
      try clear hfz116_0
      try clear hfz116_1
      try clear hfz122_0
      try clear hfz122_1
      try clear hfz127_0
      try clear hfz127_1
      try clear hfz137_0
      try clear hfz137_1
      try clear hfz137_2
      try clear hfz142_0
      try clear hfz142_1
      try clear hfz142_2
      try clear hfz142_3
      try clear hfz142_4
      try clear hfz142_5
      try clear hfz151_0
      try clear hfz151_1
      try clear hfz151_2
      try clear hfz151_3
      try clear hfz151_4
      try clear hfz151_5
      try clear hfz164_0
      try clear hfz164_1
      try clear hfz164_2
      try clear hfz164_3
      try clear hfz164_4
      try clear hfz164_5
      try clear hfz170_0
      try clear hfz170_1
      try clear hfz170_2
      try clear hfz179_0
      try clear hfz179_1
      try clear hfz179_2
      try clear hfz179_3
      try clear hfz179_4
      try clear hfz179_5
      try clear hfz17_0
      try clear hfz17_1
      try clear hfz17_2
      try clear hfz187_0
      try clear hfz187_1
      try clear hfz187_2
      try clear hfz187_3
      try clear hfz187_4
      try clear hfz187_5
      try clear hfz18_0
      try clear hfz18_1
      try clear hfz18_2
      try clear hfz18_3
      try clear hfz193_0
      try clear hfz193_1
      try clear hfz193_2
      try clear hfz202_0
      try clear hfz202_1
      try clear hfz202_2
      try clear hfz202_3
      try clear hfz202_4
      try clear hfz202_5
      try clear hfz210_0
      try clear hfz210_1
      try clear hfz210_2
      try clear hfz210_3
      try clear hfz210_4
      try clear hfz210_5
      try clear hfz216_0
      try clear hfz216_1
      try clear hfz216_2
      try clear hfz225_0
      try clear hfz225_1
      try clear hfz225_2
      try clear hfz225_3
      try clear hfz225_4
      try clear hfz225_5
      try clear hfz23_0
      try clear hfz23_1
      try clear hfz24_0
      try clear hfz24_1
      try clear hfz24_2
      try clear hfz25_0
      try clear hfz25_1
      try clear hfz25_2
      try clear hfz25_3
      try clear hfz31_0
      try clear hfz31_1
      try clear hfz32_0
      try clear hfz32_1
      try clear hfz32_2
      try clear hfz33_0
      try clear hfz33_1
      try clear hfz33_2
      try clear hfz33_3
      try clear hfz35_0
      try clear hfz35_1
      try clear hfz35_2
      try clear hfz36_0
      try clear hfz36_1
      try clear hfz36_2
      try clear hfz36_3
      try clear hfz46_0
      try clear hfz46_1
      try clear hfz46_2
      try clear hfz51_0
      try clear hfz51_1
      try clear hfz51_2
      try clear hfz51_3
      try clear hfz51_4
      try clear hfz51_5
      try clear hfz53_0
      try clear hfz53_1
      try clear hfz53_2
      try clear hfz54_0
      try clear hfz54_1
      try clear hfz54_2
      try clear hfz54_3
      try clear hfz54_4
      try clear hfz54_5
      try clear hfz63_0
      try clear hfz63_1
      try clear hfz68_0
      try clear hfz68_1
      try clear hfz76_0
      try clear hfz76_1
      try clear hfz81_0
      try clear hfz81_1
      try clear hfz89_0
      try clear hfz89_1
      try clear hfz94_0
      try clear hfz94_1
      try clear p2
      obtain ⟨kq, HA, HJ128, BK776, BK777, BK781, BK785, BK800, BK801, HB⟩ := hcut
      cases kq with
      | zero => exact absurd HA.out (by simp [laws_FnCentred.j3])
      | succ kj128 =>
       have H := HA.out
       clear HA
       simp only [laws_FnCentred.j3] at H
       by_cases c228 : t780 = 0
       ·rw [if_pos c228] at H
        have c228b0 : (t780 == 0) = true := beq_iff_eq.mpr c228
        have c228b1 : (t780 != 0) = false := bne_eq_false_iff_eq.mpr c228
        clear c228
        obtain ⟨⟨t817, t818⟩, A229, H⟩ := ob H
        try dsimp only at H
        obtain ⟨⟨t819, t820, t821⟩, A230, H⟩ := ob H
        try dsimp only at H
        obtain ⟨⟨t823, t824, t825⟩, A231, H⟩ := ob H
        try dsimp only at H
        obtain ⟨⟨t827, t828⟩, A232, H⟩ := ob H
        try dsimp only at H
        by_cases c233 : t818 = 0
        ·rw [if_pos c233] at H
         have c233b0 : (t818 == 0) = true := beq_iff_eq.mpr c233
         have c233b1 : (t818 != 0) = false := bne_eq_false_iff_eq.mpr c233
         clear c233
         by_cases c234 : t817 = true
         ·subst c234
          replace H := ifT H
          by_cases c235 : t821 = 0
          ·rw [if_pos c235] at H
           have c235b0 : (t821 == 0) = true := beq_iff_eq.mpr c235
           have c235b1 : (t821 != 0) = false := bne_eq_false_iff_eq.mpr c235
           clear c235
           by_cases c236 : (t819 == t778 && (t820 == t779)) = true
           ·rw [if_pos c236] at H
            have c236b0 := c236
            (try (have c236b1 : decide (t819 = t778 && (t820 == t779)) = true := by simpa using c236))
            (try (have c236b2 : (t819 == t778 && (t820 == t779)) = true := by simpa using c236))
            clear c236
            by_cases c237 : t825 = 0
            ·rw [if_pos c237] at H
             have c237b0 : (t825 == 0) = true := beq_iff_eq.mpr c237
             have c237b1 : (t825 != 0) = false := bne_eq_false_iff_eq.mpr c237
             clear c237
             by_cases c238 : t828 = 0
             ·rw [if_pos c238] at H
              have c238b0 : (t828 == 0) = true := beq_iff_eq.mpr c238
              have c238b1 : (t828 != 0) = false := bne_eq_false_iff_eq.mpr c238
              clear c238
              obtain ⟨ji239, hji239⟩ : ∃ j_ : Int, (mx t827 (wrap64 (-t827))) = j_ := ⟨_, rfl⟩
              replace H : (some (((ji239) == (wrap64 (t769 * t771))) != t786)) = some true := by first | (rw [hji239] at H; first | done | exact H) | (simp only [hji239] at H ⊢; exact H)
              (try rw [hji239] at A229)
              (try rw [hji239] at A230)
              (try rw [hji239] at A231)
              (try rw [hji239] at A232)
              have hji239_ : (if t827 < (wrap64 (-t827)) then (wrap64 (-t827)) else t827) = ji239 := hji239
              replace H := Option.some.inj H
              have hnb240 := NB776_777.out
              have hnc240 := NB777_776.out
              have hnb241 := NB776_781.out
              have hnc241 := NB781_776.out
              have hnb242 := NB776_785.out
              have hnc242 := NB785_776.out
              have hnb243 := NB776_800.out
              have hnc243 := NB800_776.out
              have hnb244 := NB776_801.out
              have hnc244 := NB801_776.out
              obtain ⟨hcz245_0, hcz245_1, hcz245_2, hfz245_0, hfz245_1, hfz245_2⟩ := bz3 BK776
              have hnb246 := NB781_777.out
              have hnc246 := NB777_781.out
              have hnb247 := NB781_785.out
              have hnc247 := NB785_781.out
              have hnb248 := NB781_800.out
              have hnc248 := NB800_781.out
              have hnb249 := NB781_801.out
              have hnc249 := NB801_781.out
              obtain ⟨hcz250_0, hcz250_1, hfz250_0, hfz250_1⟩ := bz2 BK781
              go_wp2_with (first | ((with_reducible refine gate_callee (f := 15) rfl ?_); refine gl 189 Tryz.func15 #[.agg #[.int .i64 t769, .int .i64 t770, .int .i64 t771], .agg #[.int .i64 t778, .int .i64 t779]] ?_; (with_reducible refine (impl_IsInLattice.calls _ _ _ _ _ _ _ _ A229.out).mono ?_); rintro e w251 ⟨rfl, hb⟩; refine ⟨_, rfl, ?_⟩; replace BK776 := bB BK776 hb; replace BK777 := bB BK777 hb; replace BK781 := bB BK781 hb; replace BK785 := bB BK785 hb; replace BK800 := bB BK800 hb; replace BK801 := bB BK801 hb; replace HB := asd (below_step (by repeat (first | (with_reducible first | exact HB.out | apply below_alloc | apply pw_below_drewN | apply below_drew1 | refine below_set ?_ GE776.out | refine below_set ?_ GE777.out | refine below_set ?_ GE781.out | refine below_set ?_ GE785.out | refine below_set ?_ GE800.out | refine below_set ?_ GE801.out) | exact HB.out)) hb); (try clear hb); have hnb252 := NB777_785.out; have hnc252 := NB785_777.out; have hnb253 := NB777_800.out; have hnc253 := NB800_777.out; have hnb254 := NB777_801.out; have hnc254 := NB801_777.out; obtain ⟨hcz255_0, hcz255_1, hcz255_2, hcz255_3, hfz255_0, hfz255_1, hfz255_2, hfz255_3⟩ := bz4 BK777; obtain ⟨hcz256_0, hcz256_1, hfz256_0, hfz256_1⟩ := bz2 BK781) | ((with_reducible refine gate_callee (f := 16) rfl ?_); refine gl 195 Tryz.func16 #[.agg #[.int .i64 t772, .int .i64 t773, .int .i64 t774, .int .i64 t775], .agg #[.int .i64 t778, .int .i64 t779]] ?_; (with_reducible refine (impl_ApplyMat.calls _ _ _ _ _ _ _ _ _ _ _ A230.out).mono ?_); rintro e w257 ⟨rfl, hb⟩; refine ⟨_, rfl, ?_⟩; replace BK776 := bB BK776 hb; replace BK777 := bB BK777 hb; replace BK781 := bB BK781 hb; replace BK785 := bB BK785 hb; replace BK800 := bB BK800 hb; replace BK801 := bB BK801 hb; replace HB := asd (below_step (by repeat (first | (with_reducible first | exact HB.out | apply below_alloc | apply pw_below_drewN | apply below_drew1 | refine below_set ?_ GE776.out | refine below_set ?_ GE777.out | refine below_set ?_ GE781.out | refine below_set ?_ GE785.out | refine below_set ?_ GE800.out | refine below_set ?_ GE801.out) | exact HB.out)) hb); (try clear hb)) | ((with_reducible refine gd 30 rfl ?_); (try (refine gate_guard (by rfl) ?_; dsimp only)); refine bx #[.int .i64 0, .int .i64 0] 31 ?_; intro gb822 hg w258 BK822 hb; have GW822 := asd ((by rw [hg]; exact (below_size (by repeat (first | (with_reducible first | exact HB.out | apply below_alloc | apply pw_below_drewN | apply below_drew1 | refine below_set ?_ GE776.out | refine below_set ?_ GE777.out | refine below_set ?_ GE781.out | refine below_set ?_ GE785.out | refine below_set ?_ GE800.out | refine below_set ?_ GE801.out) | exact HB.out))) : w.heap.size ≤ gb822)); have GE822 := asd ((by rw [hg]; exact (below_size (by repeat (first | (with_reducible first | exact HB.out | apply below_alloc | apply pw_below_drewN | apply below_drew1 | refine below_set ?_ GE776.out | refine below_set ?_ GE777.out | refine below_set ?_ GE781.out | refine below_set ?_ GE785.out | refine below_set ?_ GE800.out | refine below_set ?_ GE801.out) | exact HB.out))) : w.heap.size ≤ gb822)); replace HB := asd (below_step (by repeat (first | (with_reducible first | exact HB.out | apply below_alloc | apply pw_below_drewN | apply below_drew1 | refine below_set ?_ GE776.out | refine below_set ?_ GE777.out | refine below_set ?_ GE781.out | refine below_set ?_ GE785.out | refine below_set ?_ GE800.out | refine below_set ?_ GE801.out) | exact HB.out)) hb); have NB776_822 := nlt hg BK776; have NB822_776 := nsy (nlt hg BK776); replace BK776 := bB BK776 hb; have NB777_822 := nlt hg BK777; have NB822_777 := nsy (nlt hg BK777); replace BK777 := bB BK777 hb; have NB781_822 := nlt hg BK781; have NB822_781 := nsy (nlt hg BK781); replace BK781 := bB BK781 hb; have NB785_822 := nlt hg BK785; have NB822_785 := nsy (nlt hg BK785); replace BK785 := bB BK785 hb; have NB800_822 := nlt hg BK800; have NB822_800 := nsy (nlt hg BK800); replace BK800 := bB BK800 hb; have NB801_822 := nlt hg BK801; have NB822_801 := nsy (nlt hg BK801); replace BK801 := bB BK801 hb; clear hb hg; have hnb259 := NB822_776.out; have hnc259 := NB776_822.out; have hnb260 := NB822_777.out; have hnc260 := NB777_822.out; have hnb261 := NB822_781.out; have hnc261 := NB781_822.out; have hnb262 := NB822_785.out; have hnc262 := NB785_822.out; have hnb263 := NB822_800.out; have hnc263 := NB800_822.out; have hnb264 := NB822_801.out; have hnc264 := NB801_822.out; obtain ⟨hcz265_0, hcz265_1, hfz265_0, hfz265_1⟩ := bz2 BK822; obtain ⟨hcz266_0, hcz266_1, hcz266_2, hfz266_0, hfz266_1, hfz266_2⟩ := bz3 BK776; obtain ⟨hcz267_0, hcz267_1, hcz267_2, hcz267_3, hfz267_0, hfz267_1, hfz267_2, hfz267_3⟩ := bz4 BK777) | ((with_reducible refine gate_callee (f := 6) rfl ?_); refine gl 214 Tryz.func6 #[.int .i64 t768, .agg #[.int .i64 t769, .int .i64 t770, .int .i64 t771], .agg #[.int .i64 (wrap64 (-t772)), .int .i64 (wrap64 (-t773)), .int .i64 (wrap64 (-t774)), .int .i64 (wrap64 (-t775))]] ?_; (with_reducible refine (impl_InvariantVec.calls _ _ _ _ _ _ _ _ _ _ _ _ _ A231.out).mono ?_); rintro e w268 ⟨rfl, hb⟩; refine ⟨_, rfl, ?_⟩; replace BK776 := asd (blk_below (g := gb776) (o := .cells #[.int .i64 t769, .int .i64 t770, .int .i64 t771] 25 (0, 0)) (bq1 BK776 NB776_822) hb); replace BK777 := asd (blk_below (g := gb777) (o := .cells #[.int .i64 t772, .int .i64 t773, .int .i64 t774, .int .i64 t775] 27 (0, 0)) (bq1 BK777 NB777_822) hb); replace BK781 := asd (blk_below (g := gb781) (o := .cells #[.int .i64 t778, .int .i64 t779] 31 (0, 0)) (bq1 BK781 NB781_822) hb); replace BK785 := asd (blk_below (g := gb785) (o := .cells #[.int .i64 t782, .int .i64 t783] 31 (0, 0)) (bq1 BK785 NB785_822) hb); replace BK800 := asd (blk_below (g := gb800) (o := .cells #[.int .i64 t791, .int .i64 t792, .int .i64 t793] 25 (0, 0)) (bq1 BK800 NB800_822) hb); replace BK801 := asd (blk_below (g := gb801) (o := .cells #[.int .i64 t794, .int .i64 t795, .int .i64 t796, .int .i64 t797, .int .i64 t798, .int .i64 t799] 37 (0, 0)) (bq1 BK801 NB801_822) hb); replace BK822 := asd (blk_below (g := gb822) (o := .cells #[.int .i64 t819, .int .i64 t820] 31 (0, 0)) (bq0 BK822) hb); replace HB := asd (below_step (by repeat (first | (with_reducible first | exact HB.out | apply below_alloc | apply pw_below_drewN | apply below_drew1 | refine below_set ?_ GE776.out | refine below_set ?_ GE777.out | refine below_set ?_ GE781.out | refine below_set ?_ GE785.out | refine below_set ?_ GE800.out | refine below_set ?_ GE801.out | refine below_set ?_ GE822.out) | exact HB.out)) hb); (try clear hb)) | ((with_reducible refine gd 32 rfl ?_); (try (refine gate_guard (by rfl) ?_; dsimp only)); refine bx #[.int .i64 0, .int .i64 0] 31 ?_; intro gb826 hg w269 BK826 hb; have GW826 := asd ((by rw [hg]; exact (below_size (by repeat (first | (with_reducible first | exact HB.out | apply below_alloc | apply pw_below_drewN | apply below_drew1 | refine below_set ?_ GE776.out | refine below_set ?_ GE777.out | refine below_set ?_ GE781.out | refine below_set ?_ GE785.out | refine below_set ?_ GE800.out | refine below_set ?_ GE801.out | refine below_set ?_ GE822.out) | exact HB.out))) : w.heap.size ≤ gb826)); have GE826 := asd ((by rw [hg]; exact (below_size (by repeat (first | (with_reducible first | exact HB.out | apply below_alloc | apply pw_below_drewN | apply below_drew1 | refine below_set ?_ GE776.out | refine below_set ?_ GE777.out | refine below_set ?_ GE781.out | refine below_set ?_ GE785.out | refine below_set ?_ GE800.out | refine below_set ?_ GE801.out | refine below_set ?_ GE822.out) | exact HB.out))) : w.heap.size ≤ gb826)); replace HB := asd (below_step (by repeat (first | (with_reducible first | exact HB.out | apply below_alloc | apply pw_below_drewN | apply below_drew1 | refine below_set ?_ GE776.out | refine below_set ?_ GE777.out | refine below_set ?_ GE781.out | refine below_set ?_ GE785.out | refine below_set ?_ GE800.out | refine below_set ?_ GE801.out | refine below_set ?_ GE822.out) | exact HB.out)) hb); have NB776_826 := nlt hg BK776; have NB826_776 := nsy (nlt hg BK776); replace BK776 := bB BK776 hb; have NB777_826 := nlt hg BK777; have NB826_777 := nsy (nlt hg BK777); replace BK777 := bB BK777 hb; have NB781_826 := nlt hg BK781; have NB826_781 := nsy (nlt hg BK781); replace BK781 := bB BK781 hb; have NB785_826 := nlt hg BK785; have NB826_785 := nsy (nlt hg BK785); replace BK785 := bB BK785 hb; have NB800_826 := nlt hg BK800; have NB826_800 := nsy (nlt hg BK800); replace BK800 := bB BK800 hb; have NB801_826 := nlt hg BK801; have NB826_801 := nsy (nlt hg BK801); replace BK801 := bB BK801 hb; have NB822_826 := nlt hg BK822; have NB826_822 := nsy (nlt hg BK822); replace BK822 := bB BK822 hb; clear hb hg; have hnb270 := NB826_776.out; have hnc270 := NB776_826.out; have hnb271 := NB826_777.out; have hnc271 := NB777_826.out; have hnb272 := NB826_781.out; have hnc272 := NB781_826.out; have hnb273 := NB826_785.out; have hnc273 := NB785_826.out; have hnb274 := NB826_800.out; have hnc274 := NB800_826.out; have hnb275 := NB826_801.out; have hnc275 := NB801_826.out; have hnb276 := NB826_822.out; have hnc276 := NB822_826.out; obtain ⟨hcz277_0, hcz277_1, hfz277_0, hfz277_1⟩ := bz2 BK826; obtain ⟨hcz278_0, hcz278_1, hfz278_0, hfz278_1⟩ := bz2 BK781) | ((with_reducible refine gate_callee (f := 17) rfl ?_); refine gl 220 Tryz.func17 #[.agg #[.int .i64 t778, .int .i64 t779], .agg #[.int .i64 t823, .int .i64 t824]] ?_; (with_reducible refine (impl_DetOf.calls _ _ _ _ _ _ _ A232.out).mono ?_); rintro e w279 ⟨rfl, hb⟩; refine ⟨_, rfl, ?_⟩; replace BK776 := asd (blk_below (g := gb776) (o := .cells #[.int .i64 t769, .int .i64 t770, .int .i64 t771] 25 (0, 0)) (bq1 BK776 NB776_826) hb); replace BK777 := asd (blk_below (g := gb777) (o := .cells #[.int .i64 t772, .int .i64 t773, .int .i64 t774, .int .i64 t775] 27 (0, 0)) (bq1 BK777 NB777_826) hb); replace BK781 := asd (blk_below (g := gb781) (o := .cells #[.int .i64 t778, .int .i64 t779] 31 (0, 0)) (bq1 BK781 NB781_826) hb); replace BK785 := asd (blk_below (g := gb785) (o := .cells #[.int .i64 t782, .int .i64 t783] 31 (0, 0)) (bq1 BK785 NB785_826) hb); replace BK800 := asd (blk_below (g := gb800) (o := .cells #[.int .i64 t791, .int .i64 t792, .int .i64 t793] 25 (0, 0)) (bq1 BK800 NB800_826) hb); replace BK801 := asd (blk_below (g := gb801) (o := .cells #[.int .i64 t794, .int .i64 t795, .int .i64 t796, .int .i64 t797, .int .i64 t798, .int .i64 t799] 37 (0, 0)) (bq1 BK801 NB801_826) hb); replace BK822 := asd (blk_below (g := gb822) (o := .cells #[.int .i64 t819, .int .i64 t820] 31 (0, 0)) (bq1 BK822 NB822_826) hb); replace BK826 := asd (blk_below (g := gb826) (o := .cells #[.int .i64 t823, .int .i64 t824] 31 (0, 0)) (bq0 BK826) hb); replace HB := asd (below_step (by repeat (first | (with_reducible first | exact HB.out | apply below_alloc | apply pw_below_drewN | apply below_drew1 | refine below_set ?_ GE776.out | refine below_set ?_ GE777.out | refine below_set ?_ GE781.out | refine below_set ?_ GE785.out | refine below_set ?_ GE800.out | refine below_set ?_ GE801.out | refine below_set ?_ GE822.out | refine below_set ?_ GE826.out) | exact HB.out)) hb); (try clear hb); obtain ⟨hcz280_0, hcz280_1, hfz280_0, hfz280_1⟩ := bz2 BK822; obtain ⟨hcz281_0, hcz281_1, hfz281_0, hfz281_1⟩ := bz2 BK781; obtain ⟨hcz282_0, hcz282_1, hcz282_2, hfz282_0, hfz282_1, hfz282_2⟩ := bz3 BK776))
              go_ret
              exact ⟨by first | rfl | (simp [errW_none, errW_some]; exact bne_iff_ne.mp (by assumption)) | (simp [errW_none, errW_some] <;> rfl) | (simp only [← hji239]; first | rfl | (simp [errW_none, errW_some] <;> rfl)) | (simp [*, errW_none, errW_some] <;> rfl), by repeat (first | (with_reducible first | exact HB.out | apply below_alloc | apply pw_below_drewN | apply below_drew1 | refine below_set ?_ GE776.out | refine below_set ?_ GE777.out | refine below_set ?_ GE781.out | refine below_set ?_ GE785.out | refine below_set ?_ GE800.out | refine below_set ?_ GE801.out | refine below_set ?_ GE822.out | refine below_set ?_ GE826.out) | exact HB.out)⟩
             ·rw [if_neg c238] at H
              have c238b0 : (t828 == 0) = false := beq_eq_false_iff_ne.mpr c238
              have c238b1 : (t828 != 0) = true := bne_iff_ne.mpr c238
              exact absurd H (by simp)
            ·rw [if_neg c237] at H
             have c237b0 : (t825 == 0) = false := beq_eq_false_iff_ne.mpr c237
             have c237b1 : (t825 != 0) = true := bne_iff_ne.mpr c237
             exact absurd H (by simp)
           ·rw [if_neg c236] at H
            have c236b0 : (t819 == t778 && (t820 == t779)) = false := by simpa using c236
            (try (have c236b1 : decide (t819 = t778 && (t820 == t779)) = false := by simpa using c236))
            (try (have c236b2 : (t819 == t778 && (t820 == t779)) = false := by simpa using c236))
            (try (have c236b3 : ¬ (t819 = t778 && (t820 == t779)) := by simpa using c236))
            clear c236
            exact absurd H (by simp)
          ·rw [if_neg c235] at H
           have c235b0 : (t821 == 0) = false := beq_eq_false_iff_ne.mpr c235
           have c235b1 : (t821 != 0) = true := bne_iff_ne.mpr c235
           exact absurd H (by simp)
         ·replace c234 := Bool.eq_false_iff.mpr c234
          subst c234
          replace H := ifF H
          exact absurd H (by simp)
        ·rw [if_neg c233] at H
         have c233b0 : (t818 == 0) = false := beq_eq_false_iff_ne.mpr c233
         have c233b1 : (t818 != 0) = true := bne_iff_ne.mpr c233
         exact absurd H (by simp)
       ·rw [if_neg c228] at H
        have c228b0 : (t780 == 0) = false := beq_eq_false_iff_ne.mpr c228
        have c228b1 : (t780 != 0) = true := bne_iff_ne.mpr c228
        clear H
        go_wp2
        go_ret
        exact ⟨by first | rfl | (simp [errW_none, errW_some] <;> rfl) | (simp [*, errW_none, errW_some] <;> rfl), by repeat (first | (with_reducible first | exact HB.out | apply below_alloc | apply pw_below_drewN | apply below_drew1 | refine below_set ?_ GE776.out | refine below_set ?_ GE777.out | refine below_set ?_ GE781.out | refine below_set ?_ GE785.out | refine below_set ?_ GE800.out | refine below_set ?_ GE801.out) | exact HB.out)⟩

/-- The one plain statement of laws_FnCentred. -/
def laws_FnCentred.Pure : Prop := ∀ (l0 : List Int), l0.length ≤ maxLen → (∀ x ∈ l0, (Lit.int .u8 x).wf = true) → ∃ k, laws_FnCentred.f k l0 = some true
end Go.Proofs.YtedmadofpdkekaaGreat.PA
