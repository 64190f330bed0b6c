/- Cut20: what one call of function 161 does at one heap of this run: by the kernel. -/
import Derived.Test.YtenhhbammadpbaaGreatDoorCut19
import Derived.Test.YtenhhbammadpbaaGreatDoorVgF
import Derived.KernelRfl
open Go Go.Vi
namespace Go.Proofs.YtenhhbammadpbaaGreatDoor.C
noncomputable def cA20 : List Value := [.agg ⟨[vS 4198 0 900 900, vS 4447 0 1 1, vI 22, vI 0, .bool false, .bool false]⟩]
noncomputable def cH20 : Heap := Heap.mk 4448 (tC (tN (tN (tN (tN (tN z6636 (tN z6644 (tN z5945 z6647))) z6667) z6707) (tC (tN (tN z6716 (tN z6721 (tN (tN z6574 z17) z6724))) z6738) zv6 z6780)) (tB (tN (tN (tN z6788 (tN z6792 (tN z6585 z6795))) z6807) z6844) zv5 z6916)) [vT [97]] (tC (tN (tN (tN (tN z6923 (tN z6929 (tN (tN z6606 z17) (tN z949 z17)))) z6949) z6988) (tC (tN (tN z6994 (tN z6997 (tN z5952 z7000))) z7016) [vS 0 0 1 1, vS 1 0 1 1, vS 4 0 2 2] z7055)) zv0 (tB (tN (tN (tN z7060 (tN z7067 (tN z6620 z7070))) z7083) z7123) (.cells [vB 103, vB 111, vB 110, vB 101] false none) z7200)))
noncomputable def cV20 : Value := .tuple ⟨[.agg ⟨[vS 4453 0 900 900, .slice none 0 0, vI 23, vI 0, .bool false, .bool false]⟩, vI 0]⟩
noncomputable def cR20 : Heap := Heap.mk 4454 (tC (tN (tN (tN (tN (tN z6636 (tN z6644 (tN (tN z5944 z6223) z6647))) z6667) z6707) (tC (tN (tN z6716 (tN z6721 (tN z7210 z6724))) z6738) zv6 z6780)) (tB (tN (tN (tN z6788 (tN z6792 (tN z7218 z6795))) z6807) z6844) zv5 z6916)) [vT [97]] (tC (tN (tN (tN (tN z6923 (tN z6929 (tN z7226 (tN z949 z17)))) z6949) z6988) (tC (tN (tN z6994 (tN z6997 (tN z7237 z7000))) z7016) [vS 0 0 1 1, vS 1 0 1 1, vS 4 0 2 2] z7055)) zv0 (tB (tN (tN (tN z7060 (tN z7067 (tN z7244 z7070))) z7083) z7123) (.cells [vB 103, vB 111, vB 110, vB 101] false none) z7200)))
theorem cut_run20 : cutIs cH20 [4448, 4449, 4450, 4451, 4452] cV20 cR20 ((callF EC19 3000).fn 161 cA20 cH20) = true := by kernel_rfl
noncomputable def EC20 : Env := EC19.tell 161 (cutV EC19 3000 161 cA20 cH20 cV20 cR20)
theorem okC20 {K : Known} : EnvOk K Tryz.prog EC20 := tell_ok okC19 (cut_ok okC19 cut_run20)
end Go.Proofs.YtenhhbammadpbaaGreatDoor.C
