/- Cut19: what one call of function 161 does at one heap of this run: by the kernel. -/
import Derived.Test.YtenhhbammadpbaaGreatDoorCut18
import Derived.Test.YtenhhbammadpbaaGreatDoorVgF
import Derived.KernelRfl
open Go Go.Vi
namespace Go.Proofs.YtenhhbammadpbaaGreatDoor.C
noncomputable def cA19 : List Value := [.agg ⟨[vS 3292 0 900 900, vS 4192 0 2 2, vI 20, vI 0, .bool false, .bool false]⟩]
noncomputable def cH19 : Heap := Heap.mk 4193 (tC (tN (tN z6021 (tC (tN (tN z6031 (tN z6040 (tN (tN z6041 z17) z6044))) z6064) zv6 z6113)) (tB (tN (tN (tN z6127 (tN z6131 (tN z6135 z6138))) z6151) z6191) zv5 (tC (tN (tN z6200 (tN z6208 (tN (tN z17 z17) z6209))) z6228) zv15 z6267))) [vT [97]] (tC (tN (tN (tN (tN z6277 (tN z6284 (tN z6286 (tN z17 z17)))) z6308) z6347) (tC (tN (tN z6353 (tN z6361 (tN z5929 z6364))) z6378) [vS 0 0 1 1, vS 1 0 1 1, vS 4 0 2 2] z6414)) zv0 (tB (tN (tN (tN z6420 (tN z6426 (tN z6427 z6429))) z6440) z6483) (.cells [vB 103, vB 111, vB 110, vB 101] false none) z6568)))
noncomputable def cV19 : Value := .tuple ⟨[.agg ⟨[vS 4198 0 900 900, .slice none 0 0, vI 21, vI 0, .bool false, .bool false]⟩, vI 0]⟩
noncomputable def cR19 : Heap := Heap.mk 4199 (tC (tN (tN z6021 (tC (tN (tN z6031 (tN z6040 (tN (tN z6574 z17) z6044))) z6064) zv6 z6113)) (tB (tN (tN (tN z6127 (tN z6131 (tN z6585 z6138))) z6151) z6191) zv5 (tC (tN (tN z6200 (tN z6208 (tN z6596 z6209))) z6228) zv15 z6267))) [vT [97]] (tC (tN (tN (tN (tN z6277 (tN z6284 (tN (tN z6606 z17) (tN z17 z17)))) z6308) z6347) (tC (tN (tN z6353 (tN z6361 (tN z5952 z6364))) z6378) [vS 0 0 1 1, vS 1 0 1 1, vS 4 0 2 2] z6414)) zv0 (tB (tN (tN (tN z6420 (tN z6426 (tN z6620 z6429))) z6440) z6483) (.cells [vB 103, vB 111, vB 110, vB 101] false none) z6568)))
theorem cut_run19 : cutIs cH19 [4193, 4194, 4195, 4196, 4197] cV19 cR19 ((callF EC18 3000).fn 161 cA19 cH19) = true := by kernel_rfl
noncomputable def EC19 : Env := EC18.tell 161 (cutV EC18 3000 161 cA19 cH19 cV19 cR19)
theorem okC19 {K : Known} : EnvOk K Tryz.prog EC19 := tell_ok okC18 (cut_ok okC18 cut_run19)
end Go.Proofs.YtenhhbammadpbaaGreatDoor.C
