/- Cut3: what one call of function 161 does at one heap of this run: by the kernel. -/
import Derived.Test.YtenhhbammadpbaaGreatDoorCut2
import Derived.Test.YtenhhbammadpbaaGreatDoorVgF
import Derived.KernelRfl
open Go Go.Vi
namespace Go.Proofs.YtenhhbammadpbaaGreatDoor.C
noncomputable def cA3 : List Value := [.agg ⟨[vS 206 0 900 900, vS 447 0 1 1, vI 4, vI 0, .bool false, .bool false]⟩]
noncomputable def cH3 : Heap := Heap.mk 448 (tC (tN (tN (tN (tN (tN z194 z32) z204) z218) (tC (tN (tN (tN (tN z15 z15) (tN z15 z67)) z223) z228) zv6 z240)) (tB (tN (tN (tN z194 z245) z252) z258) zv5 z282)) [vT [97]] (tC (tN (tN (tN (tN (tN z286 (tN (tN tE z109) z106)) (tN z290 z291)) z298) z308) (tC (tN (tN (tN z311 (tN (tN tE z109) (tC tE [] tE))) z316) z321) [vS 0 0 1 1, vS 1 0 1 1, vS 4 0 2 2] z332)) zv0 (tB (tN (tN (tN (tN z336 (tN (tN tE z109) z67)) z316) z345) z354) (.cells [vB 103, vB 111, vB 110, vB 101] false none) z376)))
noncomputable def cV3 : Value := .tuple ⟨[.agg ⟨[vS 453 0 900 900, .slice none 0 0, vI 5, vI 0, .bool false, .bool false]⟩, vI 0]⟩
noncomputable def cR3 : Heap := Heap.mk 454 (tC (tN (tN (tN (tN (tN z382 z32) z204) z218) (tC (tN (tN (tN (tN z15 z15) (tN z15 z386)) z223) z228) zv6 z240)) (tB (tN (tN (tN z382 z245) z252) z258) zv5 z282)) [vT [97]] (tC (tN (tN (tN (tN (tN z286 (tN (tN tE z109) z398)) (tN z290 z291)) z298) z308) (tC (tN (tN (tN z311 (tN (tN tE z109) z405)) z316) z321) [vS 0 0 1 1, vS 1 0 1 1, vS 4 0 2 2] z332)) zv0 (tB (tN (tN (tN (tN z336 (tN (tN tE z109) z386)) z316) z345) z354) (.cells [vB 103, vB 111, vB 110, vB 101] false none) z376)))
theorem cut_run3 : cutIs cH3 [448, 449, 450, 451, 452] cV3 cR3 ((callF EC2 3000).fn 161 cA3 cH3) = true := by kernel_rfl
noncomputable def EC3 : Env := EC2.tell 161 (cutV EC2 3000 161 cA3 cH3 cV3 cR3)
theorem okC3 {K : Known} : EnvOk K Tryz.prog EC3 := tell_ok okC2 (cut_ok okC2 cut_run3)
end Go.Proofs.YtenhhbammadpbaaGreatDoor.C
