/- Cut2: what one call of function 161 does at one heap of this run: by the kernel. -/
import Derived.Test.YtenhhbammadpbaaGreatDoorCut1
import Derived.Test.YtenhhbammadpbaaGreatDoorVgF
import Derived.KernelRfl
open Go Go.Vi
namespace Go.Proofs.YtenhhbammadpbaaGreatDoor.C
noncomputable def cA2 : List Value := [.agg ⟨[vS 124 0 900 900, vS 200 0 2 2, vI 2, vI 0, .bool false, .bool false]⟩]
noncomputable def cH2 : Heap := Heap.mk 201 (tC (tN (tN z66 (tC z73 zv6 (tC (tN z23 z23) ((vP 9 0) :: vR 8 (.bool false) ((.map (some 11)) :: [])) z78))) (tB (tN z86 (tC (tN z23 z23) [vI 0, vI 600] z88)) zv5 (tC z95 zv15 (tN (tN z23 z23) z99)))) [vT [97]] (tC (tN (tN z114 (tC (tN z111 z111) [vI 600, vS 10 0 1 1] z116)) (tC z129 [vS 0 0 1 1, vS 1 0 1 1, vS 4 0 2 2] (tN (tN z111 z111) z132))) zv0 (tB (tN z142 (tB (tN z111 z111) (.map [] 0) z144)) (.cells [vB 103, vB 111, vB 110, vB 101] false none) z162)))
noncomputable def cV2 : Value := .tuple ⟨[.agg ⟨[vS 206 0 900 900, .slice none 0 0, vI 3, vI 0, .bool false, .bool false]⟩, vI 0]⟩
noncomputable def cR2 : Heap := Heap.mk 207 (tC (tN (tN z66 (tC z73 zv6 (tC z32 ((vP 9 0) :: vR 8 (.bool false) ((.map (some 11)) :: [])) z78))) (tB (tN z86 (tC z32 [vI 0, vI 600] z88)) zv5 (tC z95 zv15 (tN (tN (tN z15 (tN tE z171)) z23) z99)))) [vT [97]] (tC (tN (tN z114 (tC (tN z179 z111) [vI 600, vS 10 0 1 1] z116)) (tC z129 [vS 0 0 1 1, vS 1 0 1 1, vS 4 0 2 2] (tN (tN z179 z111) z132))) zv0 (tB (tN z142 (tB (tN z179 z111) (.map [] 0) z144)) (.cells [vB 103, vB 111, vB 110, vB 101] false none) z162)))
theorem cut_run2 : cutIs cH2 [201, 202, 203, 204, 205] cV2 cR2 ((callF EC1 3000).fn 161 cA2 cH2) = true := by kernel_rfl
noncomputable def EC2 : Env := EC1.tell 161 (cutV EC1 3000 161 cA2 cH2 cV2 cR2)
theorem okC2 {K : Known} : EnvOk K Tryz.prog EC2 := tell_ok okC1 (cut_ok okC1 cut_run2)
end Go.Proofs.YtenhhbammadpbaaGreatDoor.C
