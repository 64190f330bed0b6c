/- Cut13: what one call of function 161 does at one heap of this run: by the kernel. -/
import Derived.Test.YtenhhbammadpbaaGreatDoorCut12
import Derived.Test.YtenhhbammadpbaaGreatDoorVgF
import Derived.KernelRfl
open Go Go.Vi
namespace Go.Proofs.YtenhhbammadpbaaGreatDoor.C
noncomputable def cA13 : List Value := [.agg ⟨[vS 2140 0 900 900, vS 3031 0 2 2, vI 15, vI 0, .bool false, .bool false]⟩]
noncomputable def cH13 : Heap := Heap.mk 3032 (tC (tN (tN (tN z3310 (tC z3329 zv24 (tN (tN z3336 z3337) z3347))) (tC z3389 zv6 (tC z3406 ((vP 9 0) :: vR 8 (.bool false) ((.map (some 11)) :: [])) (tN (tN z3409 (tN z3413 z3414)) z3427)))) (tB (tN z3464 (tC z3477 [vI 0, vI 600] (tN (tN z3480 (tN z3485 z718)) z3495))) zv5 z3579)) [vT [97]] (tC (tN (tN z3625 (tC z3646 [vI 600, vS 10 0 1 1] (tN (tN z3649 (tN z3651 z3284)) z3658))) (tC z3689 [vS 0 0 1 1, vS 1 0 1 1, vS 4 0 2 2] (tN z3711 (tN (tN z3717 (tN z3719 z3284)) z3723)))) zv0 (tB (tN z3755 (tB z3770 (.map [] 0) (tN (tN z3778 (tN z3780 z3284)) z3787))) (.cells [vB 103, vB 111, vB 110, vB 101] false none) z3859)))
noncomputable def cV13 : Value := .tuple ⟨[.agg ⟨[vS 3037 0 900 900, .slice none 0 0, vI 16, vI 0, .bool false, .bool false]⟩, vI 0]⟩
noncomputable def cR13 : Heap := Heap.mk 3038 (tC (tN (tN (tN z3310 (tC z3329 zv24 (tN (tN z3336 z3585) z3347))) (tC z3389 zv6 (tC z3406 ((vP 9 0) :: vR 8 (.bool false) ((.map (some 11)) :: [])) (tN (tN z3409 (tN z3413 z3868)) z3427)))) (tB (tN z3464 (tC z3477 [vI 0, vI 600] (tN (tN z3480 (tN z3485 z716)) z3495))) zv5 z3579)) [vT [97]] (tC (tN (tN z3625 (tC z3646 [vI 600, vS 10 0 1 1] (tN (tN z3649 (tN z3651 z3321)) z3658))) (tC z3689 [vS 0 0 1 1, vS 1 0 1 1, vS 4 0 2 2] (tN z3711 (tN (tN z3717 (tN z3719 z3891)) z3723)))) zv0 (tB (tN z3755 (tB z3770 (.map [] 0) (tN (tN z3778 (tN z3780 z3321)) z3787))) (.cells [vB 103, vB 111, vB 110, vB 101] false none) z3859)))
theorem cut_run13 : cutIs cH13 [3032, 3033, 3034, 3035, 3036] cV13 cR13 ((callF EC12 3000).fn 161 cA13 cH13) = true := by kernel_rfl
noncomputable def EC13 : Env := EC12.tell 161 (cutV EC12 3000 161 cA13 cH13 cV13 cR13)
theorem okC13 {K : Known} : EnvOk K Tryz.prog EC13 := tell_ok okC12 (cut_ok okC12 cut_run13)
end Go.Proofs.YtenhhbammadpbaaGreatDoor.C
