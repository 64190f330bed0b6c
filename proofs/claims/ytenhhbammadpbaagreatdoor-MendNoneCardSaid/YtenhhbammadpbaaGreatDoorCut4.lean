/- Cut4: what one call of function 161 does at one heap of this run: by the kernel. -/
import Derived.Test.YtenhhbammadpbaaGreatDoorCut3
import Derived.Test.YtenhhbammadpbaaGreatDoorVgF
import Derived.KernelRfl
open Go Go.Vi
namespace Go.Proofs.YtenhhbammadpbaaGreatDoor.C
noncomputable def cA4 : List Value := [.agg ⟨[vS 453 0 900 900, vS 702 0 1 1, vI 6, vI 0, .bool false, .bool false]⟩]
noncomputable def cH4 : Heap := Heap.mk 703 (tC (tN (tN (tN (tN (tN z423 z425) z434) z453) (tC (tN (tN (tN (tN z111 z111) (tN z111 z386)) z459) z465) zv6 z482)) (tB (tN (tN (tN z423 z487) z495) z507) zv5 z539)) [vT [97]] (tC (tN (tN (tN (tN (tN z543 (tN (tN z15 z109) z398)) z549) z557) z574) z606) zv0 (tB (tN (tN (tN (tN z609 (tN (tN z15 z109) z386)) z582) z618) z631) (.cells [vB 103, vB 111, vB 110, vB 101] false none) (tB z643 zv31 (tN z651 (tN z549 (tN (tN (tN z15 z109) z370) z653)))))))
noncomputable def cV4 : Value := .tuple ⟨[.agg ⟨[vS 708 0 900 900, .slice none 0 0, vI 7, vI 0, .bool false, .bool false]⟩, vI 0]⟩
noncomputable def cR4 : Heap := Heap.mk 709 (tC (tN (tN (tN (tN (tN z663 z425) z434) z453) (tC (tN (tN (tN (tN z111 z111) (tN z111 (tC (tN tE z667) zv40 (tN tE tE)))) z459) z465) zv6 z482)) (tB (tN (tN (tN z663 z487) z495) z507) zv5 z539)) [vT [97]] (tC (tN (tN (tN (tN (tN z543 (tN (tN z15 z109) (tC z15 (vR 128 (vB 0) ([])) (tN tE tE)))) z549) z557) z574) z606) zv0 (tB (tN (tN (tN (tN z609 (tN (tN z15 z109) (tC z15 zv40 (tN tE tE)))) z582) z618) z631) (.cells [vB 103, vB 111, vB 110, vB 101] false none) (tB z643 zv31 (tN z651 (tN z549 (tN (tN (tN z15 z109) (tB z15 zv35 z369)) z653)))))))
theorem cut_run4 : cutIs cH4 [703, 704, 705, 706, 707] cV4 cR4 ((callF EC3 3000).fn 161 cA4 cH4) = true := by kernel_rfl
noncomputable def EC4 : Env := EC3.tell 161 (cutV EC3 3000 161 cA4 cH4 cV4 cR4)
theorem okC4 {K : Known} : EnvOk K Tryz.prog EC4 := tell_ok okC3 (cut_ok okC3 cut_run4)
end Go.Proofs.YtenhhbammadpbaaGreatDoor.C
