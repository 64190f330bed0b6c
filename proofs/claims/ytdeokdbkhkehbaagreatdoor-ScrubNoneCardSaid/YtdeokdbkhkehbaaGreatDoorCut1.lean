/- Cut1: what one call of function 17 does at one heap of this run: by the kernel. -/
import Derived.Test.YtdeokdbkhkehbaaGreatDoorCrc
import Derived.Test.YtdeokdbkhkehbaaGreatDoorVgF
import Derived.KernelRfl
open Go Go.Vi
namespace Go.Proofs.YtdeokdbkhkehbaaGreatDoor.C
noncomputable def cA1 : List Value := [vP 5 0, vI 700]
noncomputable def cH1 : Heap := Heap.mk 6 (tB 
 (tN 
 (tN tE 
 (tB tE (.map [] 0) tE)) 
 (tC tE [.slice none 0 0, .slice none 0 0, vS 1 0 1 1, .slice none 0 0] tE)) (.cells [vB 120] false none) 
 (tC 
 (tN tE 
 (tC tE [vI 0, vI 0, .bool false, .bool false, vI 1000, .map (some 4), .slice none 0 0] tE)) [vI 7, vI 0, vI 0, vI 0, vS 0 0 1 1] 
 (tC tE ((.slice none 0 0) :: (.slice none 0 0) :: (vI 0) :: (vI 0) :: (.bool false) :: (.bool false) :: (vI 0) :: (.slice none 0 0) :: (.slice none 0 0) :: (vI 0) :: (.bool false) :: (.slice none 0 0) :: vR 8 (.bool false) ((.slice none 0 0) :: (.bool false) :: [])) tE)))
noncomputable def cV1 : Value := .tuple ⟨[vP 116 0, .nilIface]⟩
noncomputable def cR1 : Heap := Heap.mk 117 (tB 
 (tN 
 (tN 
 (tN 
 (tN 
 (tN 
 (tN tE 
 (tN tE tE)) 
 (tN tE 
 (tN tE tE))) 
 (tN 
 (tN tE 
 (tN tE tE)) 
 (tN tE 
 (tN tE tE)))) 
 (tB 
 (tN 
 (tN tE 
 (tN tE tE)) 
 (tN tE 
 (tN tE tE))) (.map [] 0) 
 (tN 
 (tN tE 
 (tN tE tE)) 
 (tN tE tE)))) 
 (tB 
 (tN 
 (tN 
 (tN tE 
 (tN tE tE)) 
 (tN tE 
 (tN tE tE))) 
 (tN 
 (tN tE 
 (tN tE tE)) 
 (tN tE 
 (tC tE [vP 115 0, vP 9 0, .bool false] tE)))) (.map [⟨vI 0, .agg ⟨vR 128 (vB 0) ([])⟩, 0⟩, ⟨vI 1, .agg ⟨(vB 73) :: (vB 97) :: (vB 8) :: (vB 225) :: (vB 1) :: (vB 1) :: vR 15 (vB 0) ((vB 8) :: (vB 24) :: vR 105 (vB 0) ([]))⟩, 1⟩, ⟨vI 334, .agg ⟨(vB 1) :: (vB 127) :: (vB 227) :: (vB 137) :: (vB 2) :: (vB 1) :: vR 15 (vB 0) ((vB 24) :: (vB 188) :: (vB 2) :: vR 104 (vB 0) ([]))⟩, 2⟩] 3) 
 (tN 
 (tN 
 (tN tE 
 (tN tE tE)) 
 (tN tE 
 (tN tE tE))) 
 (tN 
 (tN tE 
 (tN tE tE)) 
 (tN tE tE))))) 
 (tC 
 (tN 
 (tN 
 (tN 
 (tN tE 
 (tN tE tE)) 
 (tN tE 
 (tN tE tE))) 
 (tN 
 (tN tE 
 (tN tE tE)) 
 (tN tE 
 (tB tE (.cells ((vB 188) :: (vB 2) :: vR 22 (vB 0) ([])) true (some (1, 5))) tE)))) 
 (tN 
 (tN 
 (tN tE 
 (tN tE tE)) 
 (tN tE 
 (tN tE tE))) 
 (tN 
 (tN tE 
 (tN tE tE)) 
 (tN tE tE)))) [.slice none 0 0, .slice none 0 0, vS 1 0 1 1, .slice none 0 0] 
 (tC 
 (tN 
 (tN 
 (tN tE 
 (tN tE tE)) 
 (tN tE 
 (tN tE tE))) 
 (tN 
 (tN tE 
 (tN tE tE)) 
 (tN tE tE))) [vI 700, vS 7 0 1 1] 
 (tN 
 (tN 
 (tN tE 
 (tN tE tE)) 
 (tN tE 
 (tN tE tE))) 
 (tN 
 (tN tE 
 (tN tE tE)) 
 (tN tE tE)))))) (.cells [vB 120] false none) 
 (tC 
 (tN 
 (tN 
 (tN 
 (tN 
 (tN tE 
 (tN tE tE)) 
 (tN tE 
 (tN tE tE))) 
 (tN 
 (tN tE 
 (tN tE tE)) 
 (tN tE 
 (tN tE tE)))) 
 (tC 
 (tN 
 (tN tE 
 (tN tE tE)) 
 (tN tE 
 (tN tE tE))) ((vP 6 0) :: vR 8 (.bool false) ((.map (some 8)) :: [])) 
 (tN 
 (tN tE 
 (tN tE tE)) 
 (tN tE tE)))) 
 (tC 
 (tN 
 (tN 
 (tN tE 
 (tN tE tE)) 
 (tN tE 
 (tN tE tE))) 
 (tN 
 (tN tE 
 (tN tE tE)) 
 (tN tE tE))) [vI 7, vI (-7), .bool false, .bool false, vI 1000, .map (some 4), .slice none 0 0] 
 (tN 
 (tN 
 (tN tE 
 (tN tE tE)) 
 (tN tE 
 (tN tE tE))) 
 (tN 
 (tN tE 
 (tN tE tE)) 
 (tN tE tE))))) [vI 7, vI 0, vI 0, vI 0, vS 0 0 1 1] 
 (tC 
 (tN 
 (tN 
 (tN 
 (tN tE 
 (tN tE tE)) 
 (tN tE 
 (tN tE tE))) 
 (tN 
 (tN tE 
 (tN tE tE)) 
 (tN tE 
 (tC tE [vP 5 0, vI 1, vS 114 0 24 24, .slice none 0 0, vI 0, .bool false] tE)))) 
 (tN 
 (tN 
 (tN tE 
 (tN tE tE)) 
 (tN tE 
 (tN tE tE))) 
 (tN 
 (tN tE 
 (tN tE tE)) 
 (tN tE tE)))) ((.slice none 0 0) :: (.slice none 0 0) :: (vI 0) :: (vI 0) :: (.bool false) :: (.bool false) :: (vI 0) :: (.slice none 0 0) :: (.slice none 0 0) :: (vI 0) :: (.bool false) :: (.slice none 0 0) :: vR 8 (.bool false) ((.slice none 0 0) :: (.bool false) :: [])) 
 (tC 
 (tN 
 (tN 
 (tN tE 
 (tN tE tE)) 
 (tN tE 
 (tN tE tE))) 
 (tN 
 (tN tE 
 (tN tE tE)) 
 (tN tE tE))) [vI 0, vI 700] 
 (tN 
 (tN 
 (tN tE 
 (tN tE tE)) 
 (tN tE 
 (tN tE tE))) 
 (tN 
 (tN tE 
 (tN tE tE)) 
 (tN tE tE)))))))
theorem cut_run1 : cutIs cH1 [10, 11, 13, 15, 17, 19, 21, 23, 25, 27, 29, 30, 31, 32, 33, 34, 35, 36, 37, 38, 39, 40, 41, 42, 43, 45, 46, 47, 48, 49, 50, 51, 52, 53, 54, 55, 56, 57, 58, 59, 60, 61, 62, 63, 64, 65, 66, 67, 68, 69, 70, 71, 73, 75, 77, 78, 79, 80, 81, 82, 83, 84, 85, 86, 87, 88, 89, 90, 91, 92, 93, 94, 96, 98, 100, 101, 102, 103, 104, 105, 106, 107, 108, 109, 110, 111, 112, 113] cV1 cR1 ((callF E2o 3000).fn 17 cA1 cH1) = true := by kernel_rfl
noncomputable def EC1 : Env := E2o.tell 17 (cutV E2o 3000 17 cA1 cH1 cV1 cR1)
theorem okC1 : EnvOk Tryz.prog EC1 := tell_ok ok2o (cut_ok ok2o cut_run1)
end Go.Proofs.YtdeokdbkhkehbaaGreatDoor.C
