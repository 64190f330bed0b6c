/- Cut3: what one call of function 6 does at one heap of this run: by the kernel. -/
import Derived.Test.YtccjepnnjidjaaaGreatCut2
import Derived.Test.YtccjepnnjidjaaaGreatVgF
import Derived.KernelRfl
open Go Go.Vi
namespace Go.Proofs.YtccjepnnjidjaaaGreat.C
noncomputable def cA3 : List Value := [vP 112 0, vI (-1)]
noncomputable def cH3 : Heap := Heap.mk 322 (tB 
 (tN 
 (tN 
 (tN 
 (tN 
 (tN 
 (tN 
 (tN 
 (tN tE 
 (tN tE tE)) 
 (tN tE tE)) 
 (tN 
 (tN tE 
 (tN tE tE)) 
 (tN tE tE))) 
 (tN 
 (tN 
 (tN tE 
 (tN tE tE)) 
 (tN tE tE)) 
 (tN tE 
 (tN tE tE)))) 
 (tN 
 (tN 
 (tN 
 (tN tE 
 (tN tE tE)) 
 (tN tE tE)) 
 (tN tE 
 (tN tE tE))) 
 (tN 
 (tN 
 (tN tE 
 (tN tE tE)) 
 (tN tE tE)) 
 (tC tE [vP 111 0, vP 127 0, .bool false] 
 (tN tE tE))))) 
 (tN 
 (tN 
 (tN 
 (tN 
 (tN tE 
 (tN tE tE)) 
 (tB tE (.map [] 0) tE)) 
 (tN tE 
 (tN tE tE))) 
 (tN 
 (tN 
 (tN tE 
 (tN tE tE)) 
 (tN tE tE)) 
 (tN tE 
 (tN tE tE)))) 
 (tN 
 (tN 
 (tN 
 (tN tE 
 (tN tE tE)) 
 (tN tE tE)) 
 (tN tE 
 (tN tE tE))) 
 (tN 
 (tN 
 (tN tE 
 (tN tE tE)) 
 (tN tE tE)) 
 (tN tE 
 (tN tE tE)))))) 
 (tB 
 (tN 
 (tN 
 (tN 
 (tN 
 (tN tE 
 (tN tE tE)) 
 (tN tE tE)) 
 (tN tE 
 (tN tE tE))) 
 (tN 
 (tN 
 (tN tE 
 (tN tE tE)) 
 (tB tE (.cells [vI 0, vI 1] true (some (2, 149))) tE)) 
 (tN tE 
 (tN tE tE)))) 
 (tN 
 (tN 
 (tN 
 (tN tE 
 (tN tE tE)) 
 (tN tE tE)) 
 (tN tE 
 (tN tE tE))) 
 (tN 
 (tN 
 (tN tE 
 (tN tE tE)) 
 (tN tE tE)) 
 (tN tE 
 (tN tE tE))))) (.map [] 0) 
 (tN 
 (tN 
 (tN 
 (tN 
 (tN tE 
 (tN tE tE)) 
 (tN tE tE)) 
 (tN tE 
 (tN tE tE))) 
 (tN 
 (tN 
 (tN tE 
 (tN tE tE)) 
 (tN tE tE)) 
 (tN tE 
 (tN tE tE)))) 
 (tN 
 (tN 
 (tN 
 (tN tE 
 (tN tE tE)) 
 (tN tE tE)) 
 (tN tE 
 (tN tE tE))) 
 (tN 
 (tN 
 (tN tE 
 (tN tE tE)) 
 (tN tE tE)) 
 (tN tE 
 (tN tE tE))))))) 
 (tC 
 (tN 
 (tN 
 (tN 
 (tN 
 (tN 
 (tN tE 
 (tN tE tE)) 
 (tN tE tE)) 
 (tN tE 
 (tN tE tE))) 
 (tN 
 (tN 
 (tN tE 
 (tN tE tE)) 
 (tN tE tE)) 
 (tN tE 
 (tN tE tE)))) 
 (tN 
 (tN 
 (tN 
 (tN tE 
 (tN tE tE)) 
 (tN tE tE)) 
 (tN tE 
 (tN tE tE))) 
 (tN 
 (tN 
 (tN tE 
 (tN tE tE)) 
 (tN tE tE)) 
 (tN tE 
 (tN tE tE))))) 
 (tN 
 (tN 
 (tN 
 (tN 
 (tN tE 
 (tN tE tE)) 
 (tN tE tE)) 
 (tN tE 
 (tN tE tE))) 
 (tN 
 (tN 
 (tN tE 
 (tN tE tE)) 
 (tN tE tE)) 
 (tN tE 
 (tN tE tE)))) 
 (tN 
 (tN 
 (tN 
 (tN tE 
 (tN tE tE)) 
 (tN tE tE)) 
 (tN tE 
 (tN tE tE))) 
 (tN 
 (tN 
 (tN tE 
 (tN tE tE)) 
 (tN tE tE)) 
 (tN tE 
 (tN tE tE)))))) [vI 300, vS 3 0 1 1] 
 (tN 
 (tN 
 (tN 
 (tN 
 (tN 
 (tN tE 
 (tN tE tE)) 
 (tN tE tE)) 
 (tN tE 
 (tN tE tE))) 
 (tN 
 (tN 
 (tN tE 
 (tN tE tE)) 
 (tN tE tE)) 
 (tN tE 
 (tN tE tE)))) 
 (tN 
 (tN 
 (tN 
 (tN tE 
 (tN tE tE)) 
 (tN tE tE)) 
 (tN tE 
 (tN tE tE))) 
 (tN 
 (tN 
 (tN tE 
 (tN tE tE)) 
 (tN tE tE)) 
 (tN tE 
 (tN tE tE))))) 
 (tN 
 (tN 
 (tN 
 (tN 
 (tN tE 
 (tN tE tE)) 
 (tN tE tE)) 
 (tN tE 
 (tN tE tE))) 
 (tN 
 (tN 
 (tN tE 
 (tN tE tE)) 
 (tN tE tE)) 
 (tB tE (.cells ((vB 44) :: (vB 1) :: vR 22 (vB 0) ([])) true (some (1, 5))) 
 (tN tE tE)))) 
 (tN 
 (tN 
 (tN 
 (tN tE 
 (tN tE tE)) 
 (tN tE tE)) 
 (tN tE 
 (tN tE tE))) 
 (tN 
 (tN 
 (tN tE 
 (tN tE tE)) 
 (tN tE tE)) 
 (tB tE (.map [⟨vT [110, 101, 120, 116], vP 137 0, 0⟩] 1) 
 (tN tE tE)))))))) (.map [⟨vI 0, .agg ⟨vR 128 (vB 0) ([])⟩, 0⟩, ⟨vI 1, .agg ⟨(vB 73) :: (vB 97) :: (vB 8) :: (vB 225) :: (vB 1) :: (vB 1) :: vR 15 (vB 0) ((vB 8) :: (vB 24) :: vR 105 (vB 0) ([]))⟩, 1⟩, ⟨vI 134, .agg ⟨(vB 15) :: (vB 101) :: (vB 48) :: (vB 92) :: (vB 2) :: (vB 1) :: vR 15 (vB 0) ((vB 24) :: (vB 44) :: (vB 1) :: vR 104 (vB 0) ([]))⟩, 2⟩, ⟨vI 266, .agg ⟨(vB 14) :: (vB 43) :: (vB 140) :: (vB 173) :: (vB 3) :: (vB 1) :: vR 15 (vB 0) ((vB 106) :: (vB 1) :: (vB 4) :: vR 7 (vB 0) ((vB 110) :: (vB 101) :: (vB 120) :: (vB 116) :: (vB 4) :: vR 7 (vB 0) ((vB 5) :: vR 7 (vB 0) ((vB 1) :: vR 31 (vB 0) ((vB 6) :: vR 39 (vB 0) ((vB 8) :: (vB 0) :: (vB 0) :: (vB 0) :: (vB 0) :: []))))))⟩, 3⟩, ⟨vI 267, .agg ⟨(vB 235) :: (vB 41) :: (vB 25) :: (vB 8) :: (vB 3) :: (vB 1) :: vR 7 (vB 0) ((vB 1) :: vR 7 (vB 0) ((vB 83) :: vR 27 (vB 0) ((vB 8) :: vR 7 (vB 0) ((vB 1) :: vR 7 (vB 0) ((vB 10) :: vR 7 (vB 0) ((vB 8) :: vR 54 (vB 0) ([])))))))⟩, 4⟩, ⟨vI 268, .agg ⟨(vB 2) :: (vB 14) :: (vB 194) :: (vB 132) :: (vB 4) :: (vB 1) :: vR 7 (vB 0) ((vB 2) :: vR 7 (vB 0) ((vB 8) :: (vB 2) :: vR 105 (vB 0) ([])))⟩, 5⟩] 6) 
 (tC 
 (tN 
 (tN 
 (tN 
 (tN 
 (tN 
 (tN 
 (tN tE 
 (tN tE tE)) 
 (tN tE tE)) 
 (tN 
 (tN tE 
 (tB tE (.cells [vS 319 0 189 189] true (some (1, 24))) tE)) 
 (tN tE tE))) 
 (tN 
 (tN 
 (tN tE 
 (tN tE tE)) 
 (tB tE (.cells [vI 1, vI 299] true (some (2, 149))) tE)) 
 (tN tE 
 (tN tE tE)))) 
 (tN 
 (tN 
 (tN 
 (tN tE 
 (tN tE tE)) 
 (tN tE tE)) 
 (tN tE 
 (tN tE tE))) 
 (tN 
 (tN 
 (tN tE 
 (tN tE tE)) 
 (tN tE tE)) 
 (tN tE 
 (tN tE tE))))) 
 (tN 
 (tN 
 (tN 
 (tN 
 (tN tE 
 (tN tE tE)) 
 (tC tE [vS 141 0 8 8, .map (some 136), vS 164 0 1 1] tE)) 
 (tN tE 
 (tN tE tE))) 
 (tN 
 (tN 
 (tN tE 
 (tN tE tE)) 
 (tN tE tE)) 
 (tN tE 
 (tN tE tE)))) 
 (tN 
 (tN 
 (tN 
 (tN tE 
 (tN tE tE)) 
 (tN tE tE)) 
 (tN tE 
 (tN tE tE))) 
 (tN 
 (tN 
 (tN tE 
 (tN tE tE)) 
 (tN tE tE)) 
 (tN tE 
 (tN tE tE)))))) 
 (tC 
 (tN 
 (tN 
 (tN 
 (tN 
 (tN tE 
 (tN tE tE)) 
 (tN tE tE)) 
 (tN tE 
 (tN tE tE))) 
 (tN 
 (tN 
 (tN tE 
 (tN tE tE)) 
 (tN tE tE)) 
 (tN tE 
 (tN tE tE)))) 
 (tN 
 (tN 
 (tN 
 (tN tE 
 (tN tE tE)) 
 (tN tE tE)) 
 (tN tE 
 (tN tE tE))) 
 (tN 
 (tN 
 (tN tE 
 (tN tE tE)) 
 (tN tE tE)) 
 (tN tE 
 (tN tE tE))))) ((vP 2 0) :: vR 8 (.bool false) ((.map (some 4)) :: [])) 
 (tN 
 (tN 
 (tN 
 (tN 
 (tN tE 
 (tN tE tE)) 
 (tB tE (.cells ((vB 1) :: vR 7 (vB 0) ([])) true (some (1, 5))) tE)) 
 (tN tE 
 (tN tE tE))) 
 (tN 
 (tN 
 (tN tE 
 (tN tE tE)) 
 (tN tE tE)) 
 (tN tE 
 (tN tE tE)))) 
 (tN 
 (tN 
 (tN 
 (tN tE 
 (tN tE tE)) 
 (tN tE tE)) 
 (tN tE 
 (tN tE tE))) 
 (tN 
 (tN 
 (tN tE 
 (tN tE tE)) 
 (tN tE tE)) 
 (tC tE [vI 300, vS 161 0 1 1] 
 (tN tE tE))))))) [vI 12, vI (-12), .bool false, .bool false, vI 400, .map (some 0), .slice none 0 0] 
 (tC 
 (tN 
 (tN 
 (tN 
 (tN 
 (tN 
 (tN tE 
 (tN tE tE)) 
 (tN tE tE)) 
 (tN tE 
 (tN tE tE))) 
 (tN 
 (tN 
 (tN tE 
 (tN tE tE)) 
 (tN tE tE)) 
 (tN tE 
 (tN tE tE)))) 
 (tN 
 (tN 
 (tN 
 (tN tE 
 (tN tE tE)) 
 (tN tE tE)) 
 (tN tE 
 (tN tE tE))) 
 (tN 
 (tN 
 (tN tE 
 (tN tE tE)) 
 (tN tE tE)) 
 (tN tE 
 (tN tE tE))))) 
 (tN 
 (tN 
 (tN 
 (tN 
 (tN tE 
 (tN tE tE)) 
 (tN tE tE)) 
 (tN tE 
 (tN tE tE))) 
 (tN 
 (tN 
 (tN tE 
 (tN tE tE)) 
 (tN tE tE)) 
 (tN tE 
 (tN tE tE)))) 
 (tN 
 (tN 
 (tN 
 (tN tE 
 (tN tE tE)) 
 (tN tE tE)) 
 (tN tE 
 (tN tE tE))) 
 (tN 
 (tN 
 (tN tE 
 (tN tE tE)) 
 (tN tE tE)) 
 (tN tE 
 (tN tE tE)))))) [vI 0, vI 300] 
 (tN 
 (tN 
 (tN 
 (tN 
 (tN 
 (tN tE 
 (tN tE tE)) 
 (tN tE tE)) 
 (tN tE 
 (tN tE tE))) 
 (tN 
 (tN 
 (tN tE 
 (tN tE tE)) 
 (tN tE tE)) 
 (tN tE 
 (tN tE tE)))) 
 (tN 
 (tN 
 (tN 
 (tN tE 
 (tN tE tE)) 
 (tN tE tE)) 
 (tN tE 
 (tN tE tE))) 
 (tN 
 (tN 
 (tN tE 
 (tN tE tE)) 
 (tN tE tE)) 
 (tN tE 
 (tN tE tE))))) 
 (tN 
 (tN 
 (tN 
 (tN 
 (tN tE 
 (tN tE tE)) 
 (tN tE tE)) 
 (tN tE 
 (tN tE tE))) 
 (tN 
 (tN 
 (tN tE 
 (tN tE tE)) 
 (tN tE tE)) 
 (tC tE [vP 1 0, vI 1, vS 110 0 24 24, vS 321 0 1 1, vI 3, .bool false] 
 (tN tE tE)))) 
 (tN 
 (tN 
 (tN 
 (tN tE 
 (tN tE tE)) 
 (tN tE tE)) 
 (tN tE 
 (tN tE tE))) 
 (tN 
 (tN 
 (tN tE 
 (tB tE (.cells ((vB 1) :: (vB 4) :: vR 7 (vB 0) ((vB 110) :: (vB 101) :: (vB 120) :: (vB 116) :: (vB 4) :: vR 7 (vB 0) ((vB 5) :: vR 7 (vB 0) ((vB 1) :: vR 31 (vB 0) ((vB 6) :: vR 39 (vB 0) ((vB 8) :: vR 31 (vB 0) ((vB 8) :: vR 7 (vB 0) ((vB 1) :: vR 7 (vB 0) ((vB 10) :: vR 7 (vB 0) ((vB 8) :: vR 31 (vB 0) ([]))))))))))) true (some (1, 5))) tE)) 
 (tN tE tE)) 
 (tC tE ((vP 125 0) :: vR 8 (.bool false) ((.map (some 126)) :: [])) 
 (tN tE tE)))))))))
noncomputable def cV3 : Value := .tuple ⟨[vI 1, .nilIface]⟩
noncomputable def cR3 : Heap := Heap.mk 527 (tB 
 (tN 
 (tN 
 (tN 
 (tN 
 (tN 
 (tN 
 (tN 
 (tN 
 (tN tE 
 (tN tE tE)) 
 (tN tE tE)) 
 (tN tE 
 (tN tE tE))) 
 (tN 
 (tN tE 
 (tN tE tE)) 
 (tN tE 
 (tN tE tE)))) 
 (tN 
 (tN 
 (tN tE 
 (tN tE tE)) 
 (tN tE 
 (tN tE tE))) 
 (tN 
 (tN tE 
 (tB tE (.cells [vI 1, vI 299] true (some (2, 149))) tE)) 
 (tN tE 
 (tN tE tE))))) 
 (tN 
 (tN 
 (tN 
 (tN tE 
 (tN tE tE)) 
 (tN tE 
 (tN tE tE))) 
 (tN 
 (tN tE 
 (tN tE tE)) 
 (tN tE 
 (tN tE tE)))) 
 (tN 
 (tN 
 (tN tE 
 (tN tE tE)) 
 (tN tE 
 (tN tE tE))) 
 (tC 
 (tN tE 
 (tN tE tE)) [vP 111 0, vP 355 0, .bool false] 
 (tN tE 
 (tN tE tE)))))) 
 (tN 
 (tN 
 (tN 
 (tN 
 (tN 
 (tN tE 
 (tN tE tE)) 
 (tN tE tE)) 
 (tB tE (.map [] 0) 
 (tN tE tE))) 
 (tN 
 (tN tE 
 (tN tE tE)) 
 (tN tE 
 (tN tE tE)))) 
 (tN 
 (tN 
 (tN tE 
 (tN tE tE)) 
 (tN tE 
 (tN tE tE))) 
 (tN 
 (tN tE 
 (tN tE tE)) 
 (tN tE 
 (tN tE tE))))) 
 (tN 
 (tN 
 (tN 
 (tN tE 
 (tN tE tE)) 
 (tN tE 
 (tN tE tE))) 
 (tN 
 (tN tE 
 (tN tE tE)) 
 (tN tE 
 (tN tE tE)))) 
 (tN 
 (tN 
 (tN tE 
 (tN tE tE)) 
 (tN tE 
 (tN tE tE))) 
 (tN 
 (tN tE 
 (tN tE tE)) 
 (tN tE 
 (tN tE tE))))))) 
 (tB 
 (tN 
 (tN 
 (tN 
 (tN 
 (tN 
 (tN tE 
 (tN tE tE)) 
 (tN tE tE)) 
 (tN tE 
 (tN tE tE))) 
 (tN 
 (tN tE 
 (tN tE tE)) 
 (tN tE 
 (tN tE tE)))) 
 (tN 
 (tN 
 (tN tE 
 (tN tE tE)) 
 (tB tE (.cells [vI 0, vI 1] true (some (2, 149))) 
 (tN tE tE))) 
 (tN 
 (tN tE 
 (tN tE tE)) 
 (tN tE 
 (tN tE tE))))) 
 (tN 
 (tN 
 (tN 
 (tN tE 
 (tN tE tE)) 
 (tN tE 
 (tN tE tE))) 
 (tN 
 (tN tE 
 (tN tE tE)) 
 (tN tE 
 (tN tE tE)))) 
 (tN 
 (tN 
 (tN tE 
 (tN tE tE)) 
 (tN tE 
 (tN tE tE))) 
 (tN 
 (tN tE 
 (tN tE tE)) 
 (tN tE 
 (tN tE tE)))))) (.map [] 0) 
 (tN 
 (tN 
 (tN 
 (tN 
 (tN 
 (tN tE 
 (tB tE (.cells ((vB 1) :: (vB 4) :: vR 7 (vB 0) ((vB 110) :: (vB 101) :: (vB 120) :: (vB 116) :: (vB 3) :: vR 7 (vB 0) ((vB 6) :: vR 39 (vB 0) ((vB 8) :: vR 31 (vB 0) ((vB 8) :: vR 7 (vB 0) ((vB 2) :: vR 7 (vB 0) ((vB 10) :: vR 7 (vB 0) ((vB 8) :: vR 31 (vB 0) ([]))))))))) true (some (1, 5))) tE)) 
 (tN tE tE)) 
 (tN tE 
 (tN tE tE))) 
 (tN 
 (tN tE 
 (tN tE tE)) 
 (tN tE 
 (tN tE tE)))) 
 (tN 
 (tN 
 (tN tE 
 (tN tE tE)) 
 (tN tE 
 (tN tE tE))) 
 (tN 
 (tN tE 
 (tN tE tE)) 
 (tN tE 
 (tN tE tE))))) 
 (tN 
 (tN 
 (tN 
 (tN tE 
 (tN tE tE)) 
 (tN tE 
 (tN tE tE))) 
 (tN 
 (tN tE 
 (tN tE tE)) 
 (tN tE 
 (tN tE tE)))) 
 (tN 
 (tN 
 (tN tE 
 (tN tE tE)) 
 (tN tE 
 (tN tE tE))) 
 (tN 
 (tN tE 
 (tB tE (.cells [vI 0, vI 1] true (some (2, 149))) tE)) 
 (tN tE 
 (tN tE tE)))))))) 
 (tC 
 (tN 
 (tN 
 (tN 
 (tN 
 (tN 
 (tN 
 (tN tE 
 (tN tE tE)) 
 (tN tE tE)) 
 (tN tE 
 (tN tE tE))) 
 (tN 
 (tN tE 
 (tN tE tE)) 
 (tN tE 
 (tN tE tE)))) 
 (tN 
 (tN 
 (tN tE 
 (tN tE tE)) 
 (tN tE 
 (tN tE tE))) 
 (tN 
 (tN tE 
 (tB tE (.map [⟨vT [110, 101, 120, 116], vP 369 0, 0⟩] 1) tE)) 
 (tN tE 
 (tN tE tE))))) 
 (tN 
 (tN 
 (tN 
 (tN tE 
 (tN tE tE)) 
 (tN tE 
 (tN tE tE))) 
 (tN 
 (tN tE 
 (tN tE tE)) 
 (tN tE 
 (tN tE tE)))) 
 (tN 
 (tN 
 (tN tE 
 (tN tE tE)) 
 (tN tE 
 (tN tE tE))) 
 (tN 
 (tN tE 
 (tN tE tE)) 
 (tN tE 
 (tN tE tE)))))) 
 (tN 
 (tN 
 (tN 
 (tN 
 (tN 
 (tN tE 
 (tN tE tE)) 
 (tN tE tE)) 
 (tN tE 
 (tN tE tE))) 
 (tN 
 (tN tE 
 (tN tE tE)) 
 (tN tE 
 (tN tE tE)))) 
 (tN 
 (tN 
 (tN tE 
 (tN tE tE)) 
 (tN tE 
 (tN tE tE))) 
 (tN 
 (tN tE 
 (tN tE tE)) 
 (tN tE 
 (tN tE tE))))) 
 (tN 
 (tN 
 (tN 
 (tN tE 
 (tN tE tE)) 
 (tN tE 
 (tN tE tE))) 
 (tN 
 (tN tE 
 (tN tE tE)) 
 (tN tE 
 (tN tE tE)))) 
 (tN 
 (tN 
 (tN tE 
 (tN tE tE)) 
 (tN tE 
 (tN tE tE))) 
 (tN 
 (tN tE 
 (tN tE tE)) 
 (tN tE 
 (tN tE tE))))))) [vI 300, vS 3 0 1 1] 
 (tN 
 (tN 
 (tN 
 (tN 
 (tN 
 (tN 
 (tN tE 
 (tN tE tE)) 
 (tN tE tE)) 
 (tN tE 
 (tN tE tE))) 
 (tN 
 (tN tE 
 (tB tE (.map [] 0) tE)) 
 (tN tE 
 (tN tE tE)))) 
 (tN 
 (tN 
 (tN tE 
 (tN tE tE)) 
 (tN tE 
 (tN tE tE))) 
 (tN 
 (tN tE 
 (tN tE tE)) 
 (tN tE 
 (tN tE tE))))) 
 (tN 
 (tN 
 (tN 
 (tN tE 
 (tN tE tE)) 
 (tN tE 
 (tN tE tE))) 
 (tN 
 (tN tE 
 (tN tE tE)) 
 (tN tE 
 (tN tE tE)))) 
 (tN 
 (tN 
 (tN tE 
 (tN tE tE)) 
 (tN tE 
 (tN tE tE))) 
 (tN 
 (tN tE 
 (tN tE tE)) 
 (tN tE 
 (tN tE tE)))))) 
 (tN 
 (tN 
 (tN 
 (tN 
 (tN 
 (tN tE 
 (tB tE (.cells [vS 319 0 189 189, vS 524 0 149 149] true (some (1, 24))) tE)) 
 (tN tE tE)) 
 (tN tE 
 (tN tE tE))) 
 (tN 
 (tN tE 
 (tN tE tE)) 
 (tN tE 
 (tN tE tE)))) 
 (tN 
 (tN 
 (tN tE 
 (tN tE tE)) 
 (tN tE 
 (tN tE tE))) 
 (tB 
 (tN tE 
 (tB tE (.map [] 0) tE)) (.cells ((vB 44) :: (vB 1) :: vR 22 (vB 0) ([])) true (some (1, 5))) 
 (tN tE 
 (tN tE tE))))) 
 (tN 
 (tN 
 (tN 
 (tN tE 
 (tN tE tE)) 
 (tN tE 
 (tN tE tE))) 
 (tN 
 (tN tE 
 (tN tE tE)) 
 (tN tE 
 (tN tE tE)))) 
 (tN 
 (tN 
 (tN tE 
 (tN tE tE)) 
 (tN tE 
 (tN tE tE))) 
 (tB 
 (tN tE 
 (tN tE tE)) (.map [⟨vT [110, 101, 120, 116], vP 329 0, 0⟩] 1) 
 (tN tE 
 (tN tE tE))))))))) (.map [⟨vI 0, .agg ⟨vR 128 (vB 0) ([])⟩, 0⟩, ⟨vI 1, .agg ⟨(vB 73) :: (vB 97) :: (vB 8) :: (vB 225) :: (vB 1) :: (vB 1) :: vR 15 (vB 0) ((vB 8) :: (vB 24) :: vR 105 (vB 0) ([]))⟩, 1⟩, ⟨vI 134, .agg ⟨(vB 15) :: (vB 101) :: (vB 48) :: (vB 92) :: (vB 2) :: (vB 1) :: vR 15 (vB 0) ((vB 24) :: (vB 44) :: (vB 1) :: vR 104 (vB 0) ([]))⟩, 2⟩, ⟨vI 266, .agg ⟨(vB 14) :: (vB 43) :: (vB 140) :: (vB 173) :: (vB 3) :: (vB 1) :: vR 15 (vB 0) ((vB 106) :: (vB 1) :: (vB 4) :: vR 7 (vB 0) ((vB 110) :: (vB 101) :: (vB 120) :: (vB 116) :: (vB 4) :: vR 7 (vB 0) ((vB 5) :: vR 7 (vB 0) ((vB 1) :: vR 31 (vB 0) ((vB 6) :: vR 39 (vB 0) ((vB 8) :: (vB 0) :: (vB 0) :: (vB 0) :: (vB 0) :: []))))))⟩, 3⟩, ⟨vI 267, .agg ⟨(vB 235) :: (vB 41) :: (vB 25) :: (vB 8) :: (vB 3) :: (vB 1) :: vR 7 (vB 0) ((vB 1) :: vR 7 (vB 0) ((vB 83) :: vR 27 (vB 0) ((vB 8) :: vR 7 (vB 0) ((vB 1) :: vR 7 (vB 0) ((vB 10) :: vR 7 (vB 0) ((vB 8) :: vR 54 (vB 0) ([])))))))⟩, 4⟩, ⟨vI 268, .agg ⟨(vB 2) :: (vB 14) :: (vB 194) :: (vB 132) :: (vB 4) :: (vB 1) :: vR 7 (vB 0) ((vB 2) :: vR 7 (vB 0) ((vB 8) :: (vB 2) :: vR 105 (vB 0) ([])))⟩, 5⟩, ⟨vI 269, .agg ⟨(vB 133) :: (vB 105) :: (vB 108) :: (vB 135) :: (vB 3) :: (vB 1) :: vR 7 (vB 0) ((vB 3) :: vR 7 (vB 0) ((vB 106) :: (vB 1) :: (vB 4) :: vR 7 (vB 0) ((vB 110) :: (vB 101) :: (vB 120) :: (vB 116) :: (vB 3) :: vR 7 (vB 0) ((vB 6) :: vR 39 (vB 0) ((vB 8) :: vR 31 (vB 0) ((vB 8) :: vR 7 (vB 0) ((vB 2) :: (vB 0) :: (vB 0) :: (vB 0) :: (vB 0) :: [])))))))⟩, 6⟩, ⟨vI 270, .agg ⟨(vB 210) :: (vB 167) :: (vB 242) :: (vB 182) :: (vB 3) :: (vB 1) :: vR 7 (vB 0) ((vB 4) :: vR 7 (vB 0) ((vB 43) :: (vB 0) :: (vB 0) :: (vB 0) :: (vB 10) :: vR 7 (vB 0) ((vB 8) :: vR 94 (vB 0) ([]))))⟩, 7⟩, ⟨vI 271, .agg ⟨(vB 98) :: (vB 110) :: (vB 12) :: (vB 175) :: (vB 4) :: (vB 1) :: vR 7 (vB 0) ((vB 5) :: vR 7 (vB 0) ((vB 8) :: (vB 2) :: vR 105 (vB 0) ([])))⟩, 8⟩] 9) 
 (tC 
 (tN 
 (tN 
 (tN 
 (tN 
 (tN 
 (tN 
 (tN 
 (tN tE 
 (tN tE tE)) 
 (tN tE tE)) 
 (tN tE 
 (tN tE tE))) 
 (tN 
 (tN tE 
 (tN tE tE)) 
 (tN tE 
 (tN tE tE)))) 
 (tN 
 (tN 
 (tN tE 
 (tN tE tE)) 
 (tB tE (.cells [vI 1, vI 299] true (some (2, 149))) 
 (tN tE tE))) 
 (tN 
 (tN tE 
 (tC tE [vI 300, vS 352 0 1 1] tE)) 
 (tN tE 
 (tN tE tE))))) 
 (tN 
 (tN 
 (tN 
 (tN tE 
 (tN tE tE)) 
 (tN tE 
 (tN tE tE))) 
 (tN 
 (tN tE 
 (tN tE tE)) 
 (tN tE 
 (tN tE tE)))) 
 (tN 
 (tN 
 (tN tE 
 (tN tE tE)) 
 (tN tE 
 (tN tE tE))) 
 (tN 
 (tN tE 
 (tC tE [vS 365 0 8 8, .map (some 366), vS 380 0 1 1] tE)) 
 (tN tE 
 (tN tE tE)))))) 
 (tN 
 (tN 
 (tN 
 (tN 
 (tN 
 (tN tE 
 (tN tE tE)) 
 (tN tE tE)) 
 (tC tE [vS 141 0 8 8, .map (some 136), vS 164 0 1 1] 
 (tN tE tE))) 
 (tN 
 (tN tE 
 (tC tE [vS 325 0 8 8, .map (some 326), vS 339 0 1 1] tE)) 
 (tN tE 
 (tN tE tE)))) 
 (tN 
 (tN 
 (tN tE 
 (tN tE tE)) 
 (tN tE 
 (tN tE tE))) 
 (tN 
 (tN tE 
 (tN tE tE)) 
 (tN tE 
 (tN tE tE))))) 
 (tN 
 (tN 
 (tN 
 (tN tE 
 (tN tE tE)) 
 (tN tE 
 (tN tE tE))) 
 (tN 
 (tN tE 
 (tN tE tE)) 
 (tN tE 
 (tN tE tE)))) 
 (tN 
 (tN 
 (tN tE 
 (tN tE tE)) 
 (tN tE 
 (tN tE tE))) 
 (tN 
 (tN tE 
 (tN tE tE)) 
 (tN tE 
 (tN tE tE))))))) 
 (tC 
 (tN 
 (tN 
 (tN 
 (tN 
 (tN 
 (tN tE 
 (tN tE tE)) 
 (tN tE tE)) 
 (tN tE 
 (tN tE tE))) 
 (tN 
 (tN tE 
 (tB tE (.cells ((vB 1) :: vR 7 (vB 0) ([])) true (some (1, 5))) tE)) 
 (tN tE 
 (tN tE tE)))) 
 (tN 
 (tN 
 (tN tE 
 (tN tE tE)) 
 (tN tE 
 (tN tE tE))) 
 (tN 
 (tN tE 
 (tN tE tE)) 
 (tN tE 
 (tN tE tE))))) 
 (tN 
 (tN 
 (tN 
 (tN tE 
 (tN tE tE)) 
 (tN tE 
 (tN tE tE))) 
 (tN 
 (tN tE 
 (tN tE tE)) 
 (tN tE 
 (tN tE tE)))) 
 (tN 
 (tN 
 (tN tE 
 (tN tE tE)) 
 (tN tE 
 (tN tE tE))) 
 (tN 
 (tN tE 
 (tN tE tE)) 
 (tN tE 
 (tN tE tE)))))) ((vP 2 0) :: vR 8 (.bool false) ((.map (some 4)) :: [])) 
 (tN 
 (tN 
 (tN 
 (tN 
 (tN 
 (tN tE 
 (tN tE tE)) 
 (tN tE tE)) 
 (tB tE (.cells ((vB 1) :: vR 7 (vB 0) ([])) true (some (1, 5))) 
 (tN tE tE))) 
 (tN 
 (tN tE 
 (tN tE tE)) 
 (tN tE 
 (tN tE tE)))) 
 (tN 
 (tN 
 (tN tE 
 (tN tE tE)) 
 (tN tE 
 (tN tE tE))) 
 (tN 
 (tN tE 
 (tB tE (.cells ((vB 2) :: vR 7 (vB 0) ([])) true (some (1, 5))) tE)) 
 (tN tE 
 (tN tE tE))))) 
 (tN 
 (tN 
 (tN 
 (tN tE 
 (tN tE tE)) 
 (tN tE 
 (tN tE tE))) 
 (tN 
 (tN tE 
 (tN tE tE)) 
 (tN tE 
 (tN tE tE)))) 
 (tN 
 (tN 
 (tN tE 
 (tN tE tE)) 
 (tN tE 
 (tN tE tE))) 
 (tC 
 (tN tE 
 (tN tE tE)) [vI 300, vS 161 0 1 1] 
 (tN tE 
 (tN tE tE)))))))) [vI 17, vI (-17), .bool false, .bool false, vI 400, .map (some 0), .slice none 0 0] 
 (tC 
 (tN 
 (tN 
 (tN 
 (tN 
 (tN 
 (tN 
 (tN tE 
 (tN tE tE)) 
 (tN tE tE)) 
 (tN tE 
 (tN tE tE))) 
 (tN 
 (tN tE 
 (tN tE tE)) 
 (tN tE 
 (tN tE tE)))) 
 (tN 
 (tN 
 (tN tE 
 (tN tE tE)) 
 (tN tE 
 (tN tE tE))) 
 (tN 
 (tN tE 
 (tC tE ((vP 353 0) :: vR 8 (.bool false) ((.map (some 354)) :: [])) tE)) 
 (tN tE 
 (tN tE tE))))) 
 (tN 
 (tN 
 (tN 
 (tN tE 
 (tN tE tE)) 
 (tN tE 
 (tN tE tE))) 
 (tN 
 (tN tE 
 (tB tE (.cells [vI 0, vI 1] true (some (2, 149))) tE)) 
 (tN tE 
 (tN tE tE)))) 
 (tN 
 (tN 
 (tN tE 
 (tN tE tE)) 
 (tN tE 
 (tN tE tE))) 
 (tN 
 (tN tE 
 (tN tE tE)) 
 (tN tE 
 (tN tE tE)))))) 
 (tN 
 (tN 
 (tN 
 (tN 
 (tN 
 (tN tE 
 (tN tE tE)) 
 (tN tE tE)) 
 (tN tE 
 (tN tE tE))) 
 (tN 
 (tN tE 
 (tN tE tE)) 
 (tN tE 
 (tN tE tE)))) 
 (tN 
 (tN 
 (tN tE 
 (tN tE tE)) 
 (tN tE 
 (tN tE tE))) 
 (tN 
 (tN tE 
 (tN tE tE)) 
 (tN tE 
 (tN tE tE))))) 
 (tN 
 (tN 
 (tN 
 (tN tE 
 (tN tE tE)) 
 (tN tE 
 (tN tE tE))) 
 (tN 
 (tN tE 
 (tN tE tE)) 
 (tN tE 
 (tN tE tE)))) 
 (tN 
 (tN 
 (tN tE 
 (tN tE tE)) 
 (tN tE 
 (tN tE tE))) 
 (tN 
 (tN tE 
 (tN tE tE)) 
 (tN tE 
 (tN tE tE))))))) [vI 0, vI 300] 
 (tN 
 (tN 
 (tN 
 (tN 
 (tN 
 (tN 
 (tN tE 
 (tN tE tE)) 
 (tN tE tE)) 
 (tN tE 
 (tN tE tE))) 
 (tN 
 (tN tE 
 (tN tE tE)) 
 (tN tE 
 (tN tE tE)))) 
 (tN 
 (tN 
 (tN tE 
 (tN tE tE)) 
 (tN tE 
 (tN tE tE))) 
 (tN 
 (tN tE 
 (tN tE tE)) 
 (tN tE 
 (tN tE tE))))) 
 (tN 
 (tN 
 (tN 
 (tN tE 
 (tN tE tE)) 
 (tN tE 
 (tN tE tE))) 
 (tN 
 (tN tE 
 (tN tE tE)) 
 (tN tE 
 (tN tE tE)))) 
 (tN 
 (tN 
 (tN tE 
 (tN tE tE)) 
 (tN tE 
 (tN tE tE))) 
 (tN 
 (tN tE 
 (tN tE tE)) 
 (tN tE 
 (tN tE tE)))))) 
 (tN 
 (tN 
 (tN 
 (tN 
 (tN tE 
 (tN tE tE)) 
 (tN tE 
 (tN tE tE))) 
 (tN 
 (tN tE 
 (tN tE tE)) 
 (tN tE 
 (tN tE tE)))) 
 (tN 
 (tN 
 (tN tE 
 (tN tE tE)) 
 (tN tE 
 (tN tE tE))) 
 (tC 
 (tN tE 
 (tN tE tE)) [vP 1 0, vI 1, vS 110 0 24 24, vS 526 0 2 2, vI 6, .bool false] 
 (tN tE 
 (tN tE tE))))) 
 (tN 
 (tN 
 (tN 
 (tN tE 
 (tN tE tE)) 
 (tN tE 
 (tN tE tE))) 
 (tN 
 (tN tE 
 (tN tE tE)) 
 (tN tE 
 (tN tE tE)))) 
 (tN 
 (tN 
 (tN tE 
 (tB tE (.cells ((vB 1) :: (vB 4) :: vR 7 (vB 0) ((vB 110) :: (vB 101) :: (vB 120) :: (vB 116) :: (vB 4) :: vR 7 (vB 0) ((vB 5) :: vR 7 (vB 0) ((vB 1) :: vR 31 (vB 0) ((vB 6) :: vR 39 (vB 0) ((vB 8) :: vR 31 (vB 0) ((vB 8) :: vR 7 (vB 0) ((vB 1) :: vR 7 (vB 0) ((vB 10) :: vR 7 (vB 0) ((vB 8) :: vR 31 (vB 0) ([]))))))))))) true (some (1, 5))) tE)) 
 (tN tE 
 (tN tE tE))) 
 (tC 
 (tN tE 
 (tN tE tE)) ((vP 125 0) :: vR 8 (.bool false) ((.map (some 126)) :: [])) 
 (tN tE 
 (tN tE tE))))))))))
theorem cut_run3 : cutIs cH3 [322, 323, 324, 327, 328, 330, 331, 332, 333, 334, 335, 336, 337, 338, 340, 341, 342, 343, 344, 345, 346, 347, 348, 349, 350, 351, 356, 357, 358, 359, 360, 361, 362, 363, 364, 367, 368, 370, 371, 372, 373, 374, 375, 376, 377, 378, 379, 381, 382, 383, 385, 387, 389, 391, 392, 394, 396, 398, 400, 401, 403, 404, 406, 408, 410, 412, 413, 416, 417, 419, 421, 423, 425, 426, 427, 428, 429, 430, 431, 432, 433, 434, 435, 436, 438, 439, 440, 441, 442, 444, 445, 446, 447, 448, 449, 450, 451, 452, 453, 454, 455, 456, 457, 459, 461, 463, 464, 465, 466, 467, 468, 469, 470, 471, 472, 473, 475, 476, 477, 478, 479, 480, 482, 484, 486, 487, 488, 489, 490, 491, 492, 493, 494, 495, 496, 497, 498, 499, 500, 501, 502, 503, 504, 506, 508, 510, 511, 512, 513, 514, 515, 516, 517, 518, 519, 520, 521, 522, 523, 525] cV3 cR3 ((callF EC2 3000).fn 6 cA3 cH3) = true := by kernel_rfl
noncomputable def EC3 : Env := EC2.tell 6 (cutV EC2 3000 6 cA3 cH3 cV3 cR3)
theorem okC3 : EnvOk Tryz.prog EC3 := tell_ok okC2 (cut_ok okC2 cut_run3)
end Go.Proofs.YtccjepnnjidjaaaGreat.C
