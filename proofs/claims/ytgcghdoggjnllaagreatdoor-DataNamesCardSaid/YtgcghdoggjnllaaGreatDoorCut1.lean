/- Cut1: what one call of function 7 does at one heap of this run: by the kernel. -/
import Derived.Test.YtgcghdoggjnllaaGreatDoorCrc
import Derived.Test.YtgcghdoggjnllaaGreatDoorVgF
import Derived.KernelRfl
open Go Go.Vi
namespace Go.Proofs.YtgcghdoggjnllaaGreatDoor.C
noncomputable def cA1 : List Value := [vI 100]
noncomputable def cH1 : Heap := Heap.mk 0 (tE)
noncomputable def cV1 : Value := vP 112 0
noncomputable def cR1 : Heap := Heap.mk 113 (tB 
 (tN 
 (tN 
 (tN 
 (tN 
 (tN 
 (tN tE 
 (tN tE tE)) 
 (tN tE 
 (tN tE tE))) 
 (tN 
 (tN tE 
 (tN tE tE)) 
 (tN tE 
 (tC tE [vP 111 0, vP 5 0, .bool false] tE)))) 
 (tN 
 (tN 
 (tN tE 
 (tN tE tE)) 
 (tN tE 
 (tN tE tE))) 
 (tN 
 (tN tE 
 (tN tE tE)) 
 (tN tE tE)))) 
 (tB 
 (tN 
 (tN 
 (tN tE 
 (tN tE tE)) 
 (tN tE 
 (tN tE tE))) 
 (tN 
 (tN tE 
 (tN tE tE)) 
 (tN tE tE))) (.map [] 0) 
 (tN 
 (tN 
 (tN tE 
 (tN tE tE)) 
 (tN tE 
 (tN tE tE))) 
 (tN 
 (tN tE 
 (tN tE tE)) 
 (tN tE tE))))) 
 (tC 
 (tN 
 (tN 
 (tN 
 (tN tE 
 (tN tE tE)) 
 (tN tE 
 (tN tE tE))) 
 (tN 
 (tN tE 
 (tN tE tE)) 
 (tN tE tE))) 
 (tN 
 (tN 
 (tN tE 
 (tN tE tE)) 
 (tN tE 
 (tN tE tE))) 
 (tN 
 (tN tE 
 (tN tE tE)) 
 (tN tE tE)))) [vI 100, vS 3 0 1 1] 
 (tN 
 (tN 
 (tN 
 (tN tE 
 (tN tE tE)) 
 (tN tE 
 (tN tE tE))) 
 (tN 
 (tN tE 
 (tN tE tE)) 
 (tN tE tE))) 
 (tN 
 (tN 
 (tN tE 
 (tN tE tE)) 
 (tN tE 
 (tB tE (.cells ((vB 100) :: vR 23 (vB 0) ([])) true (some (1, 5))) tE))) 
 (tN 
 (tN tE 
 (tN tE tE)) 
 (tN tE tE)))))) (.map [⟨vI 0, .agg ⟨vR 128 (vB 0) ([])⟩, 0⟩, ⟨vI 1, .agg ⟨(vB 73) :: (vB 97) :: (vB 8) :: (vB 225) :: (vB 1) :: (vB 1) :: vR 15 (vB 0) ((vB 8) :: (vB 24) :: vR 105 (vB 0) ([]))⟩, 1⟩, ⟨vI 101, .agg ⟨(vB 115) :: (vB 111) :: (vB 70) :: (vB 214) :: (vB 2) :: (vB 1) :: vR 15 (vB 0) ((vB 24) :: (vB 100) :: vR 105 (vB 0) ([]))⟩, 2⟩] 3) 
 (tC 
 (tN 
 (tN 
 (tN 
 (tN 
 (tN tE 
 (tN tE tE)) 
 (tN tE 
 (tN tE tE))) 
 (tN 
 (tN tE 
 (tN tE tE)) 
 (tN tE tE))) 
 (tN 
 (tN 
 (tN tE 
 (tN tE tE)) 
 (tN tE 
 (tN tE tE))) 
 (tN 
 (tN tE 
 (tN tE tE)) 
 (tN tE tE)))) 
 (tC 
 (tN 
 (tN 
 (tN tE 
 (tN tE tE)) 
 (tN tE 
 (tN tE tE))) 
 (tN 
 (tN tE 
 (tN tE tE)) 
 (tN tE tE))) ((vP 2 0) :: vR 8 (.bool false) ((.map (some 4)) :: [])) 
 (tN 
 (tN 
 (tN tE 
 (tN tE tE)) 
 (tN tE 
 (tN tE tE))) 
 (tN 
 (tN tE 
 (tN tE tE)) 
 (tN tE tE))))) [vI 7, vI (-7), .bool false, .bool false, vI 300, .map (some 0), .slice none 0 0] 
 (tC 
 (tN 
 (tN 
 (tN 
 (tN tE 
 (tN tE tE)) 
 (tN tE 
 (tN tE tE))) 
 (tN 
 (tN tE 
 (tN tE tE)) 
 (tN tE tE))) 
 (tN 
 (tN 
 (tN tE 
 (tN tE tE)) 
 (tN tE 
 (tN tE tE))) 
 (tN 
 (tN tE 
 (tN tE tE)) 
 (tN tE tE)))) [vI 0, vI 100] 
 (tN 
 (tN 
 (tN 
 (tN tE 
 (tN tE tE)) 
 (tN tE 
 (tN tE tE))) 
 (tN 
 (tN tE 
 (tN tE tE)) 
 (tN tE tE))) 
 (tN 
 (tN 
 (tN tE 
 (tN tE tE)) 
 (tN tE 
 (tC tE [vP 1 0, vI 1, vS 110 0 24 24, .slice none 0 0, vI 0, .bool false] tE))) 
 (tN 
 (tN tE 
 (tN tE tE)) 
 (tN tE tE)))))))
theorem cut_run1 : cutIs cH1 [6, 7, 9, 11, 13, 15, 17, 19, 21, 23, 25, 26, 27, 28, 29, 30, 31, 32, 33, 34, 35, 36, 37, 38, 39, 41, 42, 43, 44, 45, 46, 47, 48, 49, 50, 51, 52, 53, 54, 55, 56, 57, 58, 59, 60, 61, 62, 63, 64, 65, 66, 67, 69, 71, 73, 74, 75, 76, 77, 78, 79, 80, 81, 82, 83, 84, 85, 86, 87, 88, 89, 90, 92, 94, 96, 97, 98, 99, 100, 101, 102, 103, 104, 105, 106, 107, 108, 109] cV1 cR1 ((callF E2 3000).fn 7 cA1 cH1) = true := by kernel_rfl
noncomputable def EC1 : Env := E2.tell 7 (cutV E2 3000 7 cA1 cH1 cV1 cR1)
theorem okC1 : EnvOk Tryz.prog EC1 := tell_ok ok2 (cut_ok ok2 cut_run1)
end Go.Proofs.YtgcghdoggjnllaaGreatDoor.C
