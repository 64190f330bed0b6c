/- Cut14: what one call of function 161 does at one heap of this run: by the kernel. -/
import Derived.Test.YtenhhbammadpbaaGreatDoorCut13
import Derived.Test.YtenhhbammadpbaaGreatDoorVgF
import Derived.KernelRfl
open Go Go.Vi
namespace Go.Proofs.YtenhhbammadpbaaGreatDoor.C
noncomputable def cA14 : List Value := [.agg ⟨[vS 3037 0 900 900, vS 3286 0 1 1, vI 17, vI 0, .bool false, .bool false]⟩]
noncomputable def cH14 : Heap := Heap.mk 3287 (tC (tN (tN (tN z3945 (tC z3960 zv24 (tN (tN z3963 (tN z3952 z716)) z3969))) (tC z4005 zv6 (tC z4018 ((vP 9 0) :: vR 8 (.bool false) ((.map (some 11)) :: [])) (tN (tN z4022 (tN z4025 z3868)) z4033)))) (tB (tN z4070 (tC z4083 [vI 0, vI 600] (tN (tN z4087 (tN z4088 z716)) z4095))) zv5 z4163)) [vT [97]] (tC (tN (tN z4198 (tC z4213 [vI 600, vS 10 0 1 1] (tN (tN z4215 (tN (tN z32 z3650) z3321)) z4223))) z4282) zv0 (tB (tN z4313 (tB z4324 (.map [] 0) (tN (tN z4329 (tN z4330 z3321)) z4335))) (.cells [vB 103, vB 111, vB 110, vB 101] false none) (tB (tN z4353 (tN (tN z4355 (tN z4206 z3815)) z4360)) zv22 z4391))))
noncomputable def cV14 : Value := .tuple ⟨[.agg ⟨[vS 3292 0 900 900, .slice none 0 0, vI 18, vI 0, .bool false, .bool false]⟩, vI 0]⟩
noncomputable def cR14 : Heap := Heap.mk 3293 (tC (tN (tN (tN z3945 (tC z3960 zv24 (tN (tN z3963 (tN z3952 z4169)) z3969))) (tC z4005 zv6 (tC z4018 ((vP 9 0) :: vR 8 (.bool false) ((.map (some 11)) :: [])) (tN (tN z4022 (tN z4025 z4405)) z4033)))) (tB (tN z4070 (tC z4083 [vI 0, vI 600] (tN (tN z4087 (tN z4088 z4169)) z4095))) zv5 z4163)) [vT [97]] (tC (tN (tN z4198 (tC z4213 [vI 600, vS 10 0 1 1] (tN (tN z4215 (tN (tN z32 z3650) z4099)) z4223))) z4282) zv0 (tB (tN z4313 (tB z4324 (.map [] 0) (tN (tN z4329 z4425) z4335))) (.cells [vB 103, vB 111, vB 110, vB 101] false none) (tB (tN z4353 (tN (tN z4355 (tN z4206 (tN z1333 z3814))) z4360)) zv22 z4391))))
theorem cut_run14 : cutIs cH14 [3287, 3288, 3289, 3290, 3291] cV14 cR14 ((callF EC13 3000).fn 161 cA14 cH14) = true := by kernel_rfl
noncomputable def EC14 : Env := EC13.tell 161 (cutV EC13 3000 161 cA14 cH14 cV14 cR14)
theorem okC14 {K : Known} : EnvOk K Tryz.prog EC14 := tell_ok okC13 (cut_ok okC13 cut_run14)
end Go.Proofs.YtenhhbammadpbaaGreatDoor.C
