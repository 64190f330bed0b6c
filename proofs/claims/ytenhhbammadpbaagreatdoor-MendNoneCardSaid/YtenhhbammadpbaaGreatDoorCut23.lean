/- Cut23: what one call of function 10 does at one heap of this run: by the kernel. -/
import Derived.Test.YtenhhbammadpbaaGreatDoorCut22
import Derived.Test.YtenhhbammadpbaaGreatDoorVgF
import Derived.KernelRfl
open Go Go.Vi
namespace Go.Proofs.YtenhhbammadpbaaGreatDoor.C
noncomputable def cA23 : List Value := [.agg ⟨[vS 0 0 1 1, vS 1 0 1 1, vS 4 0 2 2]⟩]
noncomputable def cH23 : Heap := Heap.mk 5 (tC (tN (tN tE (tC tE zv6 tE)) (tB tE zv5 tE)) [vT [97]] (tC tE zv0 (tB tE (.cells [vB 103, vB 111, vB 110, vB 101] false none) tE)))
noncomputable def cV23 : Value := .tuple ⟨[vP 122 0, .agg ⟨(vS 4453 0 900 900) :: (.slice none 0 0) :: (vI 23) :: (vI 0) :: (.bool false) :: (.bool false) :: (vI 1) :: (vS 179 0 24 24) :: (vS 4459 0 3 3) :: (vI 10) :: (.bool false) :: (vS 3665 0 600 600) :: vR 8 (.bool false) ((vS 3675 0 3 3) :: (.bool false) :: [])⟩, .bool true]⟩
noncomputable def cR23 : Heap := Heap.mk 4460 (tC (tN (tN z8208 (tC z8218 zv6 (tN z7995 z8223))) z8246) [vT [97]] z8289)
theorem cut_run23 : cutIs cH23 [5, 6, 9, 10, 11, 12, 123, 124, 129, 708, 710, 711, 712, 713, 714, 715, 762, 763, 764, 776, 777, 781, 801, 804, 1226, 1232, 2140, 2145, 2146, 2147, 2148, 2202, 2203, 2204, 2207, 2208, 2210, 2211, 2222, 2223, 2227, 2247, 2250, 2396, 2397, 2530, 2538, 3292, 3298, 3299, 3300, 3301, 3555, 3556] cV23 cR23 ((callF EC22 3000).fn 10 cA23 cH23) = true := by kernel_rfl
noncomputable def EC23 : Env := EC22.tell 10 (cutV EC22 3000 10 cA23 cH23 cV23 cR23)
theorem okC23 {K : Known} : EnvOk K Tryz.prog EC23 := tell_ok okC22 (cut_ok okC22 cut_run23)
end Go.Proofs.YtenhhbammadpbaaGreatDoor.C
