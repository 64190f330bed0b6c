/- Cut1: what one call of function 27 does at one heap of this run: by the kernel. -/
import Derived.Test.YtenhhbammadpbaaGreatDoorZt
import Derived.Test.YtenhhbammadpbaaGreatDoorVgF
import Derived.KernelRfl
open Go Go.Vi
namespace Go.Proofs.YtenhhbammadpbaaGreatDoor.C
noncomputable def cA1 : List Value := [vP 8 0, vI 600]
noncomputable def cH1 : Heap := Heap.mk 9 (tC (tN (tN (tN tE (tC tE [vI 0, vI 0, .bool false, .bool false, vI 900, .map (some 7), .slice none 0 0] tE)) (tC tE zv6 tE)) (tB tE zv5 z5)) [vT [97]] (tC (tN tE (tC tE [vS 0 0 1 1, vS 1 0 1 1, vS 4 0 2 2] tE)) zv0 (tB tE (.cells [vB 103, vB 111, vB 110, vB 101] false none) z10)))
noncomputable def cV1 : Value := .tuple ⟨[vP 122 0, .nilIface]⟩
noncomputable def cR1 : Heap := Heap.mk 123 (tC (tN (tN z22 (tC z17 zv6 (tC (tN z15 z15) ((vP 9 0) :: vR 8 (.bool false) ((.map (some 11)) :: [])) z23))) z34) [vT [97]] (tC z42 zv0 (tB (tN z17 (tB (tN z15 z15) (.map [] 0) z23)) (.cells [vB 103, vB 111, vB 110, vB 101] false none) z45)))
theorem cut_run1 : cutIs cH1 [13, 14, 16, 18, 20, 22, 24, 26, 28, 30, 32, 33, 38, 39, 40, 41, 42, 43, 44, 45, 46, 47, 48, 49, 51, 52, 53, 54, 55, 56, 57, 58, 59, 60, 61, 62, 63, 64, 65, 66, 67, 68, 69, 70, 71, 72, 73, 74, 75, 76, 77, 79, 81, 83, 84, 85, 86, 87, 88, 89, 90, 91, 92, 93, 94, 95, 96, 97, 98, 99, 100, 102, 104, 106, 107, 108, 109, 110, 111, 112, 113, 114, 115, 116, 117, 118, 119] cV1 cR1 ((callF Cp.EC 3000).fn 27 cA1 cH1) = true := by kernel_rfl
noncomputable def EC1 : Env := Cp.EC.tell 27 (cutV Cp.EC 3000 27 cA1 cH1 cV1 cR1)
theorem okC1 {K : Known} : EnvOk K Tryz.prog EC1 := tell_ok Cp.okC (cut_ok Cp.okC cut_run1)
end Go.Proofs.YtenhhbammadpbaaGreatDoor.C
