/- Cut1: what one call of function 15 does at one heap of this run: by the kernel. -/
import Derived.Test.YtccjepnnjidjaaaGreatOuts
import Derived.Test.YtccjepnnjidjaaaGreatVgF
import Derived.KernelRfl
open Go Go.Vi
namespace Go.Proofs.YtccjepnnjidjaaaGreat.C
noncomputable def cA1 : List Value := []
noncomputable def cH1 : Heap := Heap.mk 0 (tE)
noncomputable def cV1 : Value := vP 112 0
noncomputable def cR1 : Heap := Heap.mk 113 (tB 
 (tN 
 (tN 
 (tN 
 (tN 
 (tN 
 (tN tE 
 (tN tE tE)) 
 (tN tE 
 (tN tE tE))) 
 (tN 
 (tN tE 
 (tN tE tE)) 
 (tN tE 
 (tC tE [vP 111 0, vP 5 0, .bool false] tE)))) 
 (tN 
 (tN 
 (tN tE 
 (tN tE tE)) 
 (tN tE 
 (tN tE tE))) 
 (tN 
 (tN tE 
 (tN tE tE)) 
 (tN tE tE)))) 
 (tB 
 (tN 
 (tN 
 (tN tE 
 (tN tE tE)) 
 (tN tE 
 (tN tE tE))) 
 (tN 
 (tN tE 
 (tN tE tE)) 
 (tN tE tE))) (.map [] 0) 
 (tN 
 (tN 
 (tN tE 
 (tN tE tE)) 
 (tN tE 
 (tN tE tE))) 
 (tN 
 (tN tE 
 (tN tE tE)) 
 (tN tE tE))))) 
 (tC 
 (tN 
 (tN 
 (tN 
 (tN tE 
 (tN tE tE)) 
 (tN tE 
 (tN tE tE))) 
 (tN 
 (tN tE 
 (tN tE tE)) 
 (tN tE tE))) 
 (tN 
 (tN 
 (tN tE 
 (tN tE tE)) 
 (tN tE 
 (tN tE tE))) 
 (tN 
 (tN tE 
 (tN tE tE)) 
 (tN tE tE)))) [vI 300, vS 3 0 1 1] 
 (tN 
 (tN 
 (tN 
 (tN tE 
 (tN tE tE)) 
 (tN tE 
 (tN tE tE))) 
 (tN 
 (tN tE 
 (tN tE tE)) 
 (tN tE tE))) 
 (tN 
 (tN 
 (tN tE 
 (tN tE tE)) 
 (tN tE 
 (tB tE (.cells ((vB 44) :: (vB 1) :: vR 22 (vB 0) ([])) true (some (1, 5))) tE))) 
 (tN 
 (tN tE 
 (tN tE tE)) 
 (tN tE tE)))))) (.map [⟨vI 0, .agg ⟨vR 128 (vB 0) ([])⟩, 0⟩, ⟨vI 1, .agg ⟨(vB 73) :: (vB 97) :: (vB 8) :: (vB 225) :: (vB 1) :: (vB 1) :: vR 15 (vB 0) ((vB 8) :: (vB 24) :: vR 105 (vB 0) ([]))⟩, 1⟩, ⟨vI 134, .agg ⟨(vB 15) :: (vB 101) :: (vB 48) :: (vB 92) :: (vB 2) :: (vB 1) :: vR 15 (vB 0) ((vB 24) :: (vB 44) :: (vB 1) :: vR 104 (vB 0) ([]))⟩, 2⟩] 3) 
 (tC 
 (tN 
 (tN 
 (tN 
 (tN 
 (tN tE 
 (tN tE tE)) 
 (tN tE 
 (tN tE tE))) 
 (tN 
 (tN tE 
 (tN tE tE)) 
 (tN tE tE))) 
 (tN 
 (tN 
 (tN tE 
 (tN tE tE)) 
 (tN tE 
 (tN tE tE))) 
 (tN 
 (tN tE 
 (tN tE tE)) 
 (tN tE tE)))) 
 (tC 
 (tN 
 (tN 
 (tN tE 
 (tN tE tE)) 
 (tN tE 
 (tN tE tE))) 
 (tN 
 (tN tE 
 (tN tE tE)) 
 (tN tE tE))) ((vP 2 0) :: vR 8 (.bool false) ((.map (some 4)) :: [])) 
 (tN 
 (tN 
 (tN tE 
 (tN tE tE)) 
 (tN tE 
 (tN tE tE))) 
 (tN 
 (tN tE 
 (tN tE tE)) 
 (tN tE tE))))) [vI 7, vI (-7), .bool false, .bool false, vI 400, .map (some 0), .slice none 0 0] 
 (tC 
 (tN 
 (tN 
 (tN 
 (tN tE 
 (tN tE tE)) 
 (tN tE 
 (tN tE tE))) 
 (tN 
 (tN tE 
 (tN tE tE)) 
 (tN tE tE))) 
 (tN 
 (tN 
 (tN tE 
 (tN tE tE)) 
 (tN tE 
 (tN tE tE))) 
 (tN 
 (tN tE 
 (tN tE tE)) 
 (tN tE tE)))) [vI 0, vI 300] 
 (tN 
 (tN 
 (tN 
 (tN tE 
 (tN tE tE)) 
 (tN tE 
 (tN tE tE))) 
 (tN 
 (tN tE 
 (tN tE tE)) 
 (tN tE tE))) 
 (tN 
 (tN 
 (tN tE 
 (tN tE tE)) 
 (tN tE 
 (tC tE [vP 1 0, vI 1, vS 110 0 24 24, .slice none 0 0, vI 0, .bool false] tE))) 
 (tN 
 (tN tE 
 (tN tE tE)) 
 (tN tE tE)))))))
theorem cut_run1 : cutIs cH1 [6, 7, 9, 11, 13, 15, 17, 19, 21, 23, 25, 26, 28, 29, 30, 31, 32, 33, 34, 35, 36, 37, 38, 39, 41, 42, 43, 44, 45, 46, 47, 48, 49, 50, 51, 52, 53, 54, 55, 56, 57, 58, 59, 60, 61, 62, 63, 64, 65, 66, 67, 69, 71, 73, 74, 75, 76, 77, 78, 79, 80, 81, 82, 83, 84, 85, 86, 87, 88, 89, 90, 92, 94, 96, 97, 98, 99, 100, 101, 102, 103, 104, 105, 106, 107, 108, 109] cV1 cR1 ((callF EN63 3000).fn 15 cA1 cH1) = true := by kernel_rfl
noncomputable def EC1 : Env := EN63.tell 15 (cutV EN63 3000 15 cA1 cH1 cV1 cR1)
theorem okC1 : EnvOk Tryz.prog EC1 := tell_ok okN63 (cut_ok okN63 cut_run1)
end Go.Proofs.YtccjepnnjidjaaaGreat.C
