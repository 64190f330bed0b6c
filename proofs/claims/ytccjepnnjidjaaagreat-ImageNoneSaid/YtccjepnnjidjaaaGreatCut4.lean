/- Cut4: what one call of function 10 does at one heap of this run: by the kernel. -/
import Derived.Test.YtccjepnnjidjaaaGreatCut3
import Derived.Test.YtccjepnnjidjaaaGreatVgF
import Derived.KernelRfl
open Go Go.Vi
namespace Go.Proofs.YtccjepnnjidjaaaGreat.C
noncomputable def cA4 : List Value := [vP 112 0, vI 1, vT [111, 110, 101], .agg ⟨[vI 0, vI 0, vI 16, vI 0, .slice none 0 0, .bool false, .bool false, .slice none 0 0, vT [], vI 0, vI 0, vI (-1), vI 0, vI 0]⟩]
noncomputable def cH4 : Heap := Heap.mk 527 (tB 
 (tN 
 (tN 
 (tN 
 (tN 
 (tN 
 (tN 
 (tN 
 (tN 
 (tN tE 
 (tN tE tE)) 
 (tN tE tE)) 
 (tN tE 
 (tN tE tE))) 
 (tN 
 (tN tE 
 (tN tE tE)) 
 (tN tE 
 (tN tE tE)))) 
 (tN 
 (tN 
 (tN tE 
 (tN tE tE)) 
 (tN tE 
 (tN tE tE))) 
 (tN 
 (tN tE 
 (tB tE (.cells [vI 1, vI 299] true (some (2, 149))) tE)) 
 (tN tE 
 (tN tE tE))))) 
 (tN 
 (tN 
 (tN 
 (tN tE 
 (tN tE tE)) 
 (tN tE 
 (tN tE tE))) 
 (tN 
 (tN tE 
 (tN tE tE)) 
 (tN tE 
 (tN tE tE)))) 
 (tN 
 (tN 
 (tN tE 
 (tN tE tE)) 
 (tN tE 
 (tN tE tE))) 
 (tC 
 (tN tE 
 (tN tE tE)) [vP 111 0, vP 355 0, .bool false] 
 (tN tE 
 (tN tE tE)))))) 
 (tN 
 (tN 
 (tN 
 (tN 
 (tN 
 (tN tE 
 (tN tE tE)) 
 (tN tE tE)) 
 (tB tE (.map [] 0) 
 (tN tE tE))) 
 (tN 
 (tN tE 
 (tN tE tE)) 
 (tN tE 
 (tN tE tE)))) 
 (tN 
 (tN 
 (tN tE 
 (tN tE tE)) 
 (tN tE 
 (tN tE tE))) 
 (tN 
 (tN tE 
 (tN tE tE)) 
 (tN tE 
 (tN tE tE))))) 
 (tN 
 (tN 
 (tN 
 (tN tE 
 (tN tE tE)) 
 (tN tE 
 (tN tE tE))) 
 (tN 
 (tN tE 
 (tN tE tE)) 
 (tN tE 
 (tN tE tE)))) 
 (tN 
 (tN 
 (tN tE 
 (tN tE tE)) 
 (tN tE 
 (tN tE tE))) 
 (tN 
 (tN tE 
 (tN tE tE)) 
 (tN tE 
 (tN tE tE))))))) 
 (tB 
 (tN 
 (tN 
 (tN 
 (tN 
 (tN 
 (tN tE 
 (tN tE tE)) 
 (tN tE tE)) 
 (tN tE 
 (tN tE tE))) 
 (tN 
 (tN tE 
 (tN tE tE)) 
 (tN tE 
 (tN tE tE)))) 
 (tN 
 (tN 
 (tN tE 
 (tN tE tE)) 
 (tB tE (.cells [vI 0, vI 1] true (some (2, 149))) 
 (tN tE tE))) 
 (tN 
 (tN tE 
 (tN tE tE)) 
 (tN tE 
 (tN tE tE))))) 
 (tN 
 (tN 
 (tN 
 (tN tE 
 (tN tE tE)) 
 (tN tE 
 (tN tE tE))) 
 (tN 
 (tN tE 
 (tN tE tE)) 
 (tN tE 
 (tN tE tE)))) 
 (tN 
 (tN 
 (tN tE 
 (tN tE tE)) 
 (tN tE 
 (tN tE tE))) 
 (tN 
 (tN tE 
 (tN tE tE)) 
 (tN tE 
 (tN tE tE)))))) (.map [] 0) 
 (tN 
 (tN 
 (tN 
 (tN 
 (tN 
 (tN tE 
 (tB tE (.cells ((vB 1) :: (vB 4) :: vR 7 (vB 0) ((vB 110) :: (vB 101) :: (vB 120) :: (vB 116) :: (vB 3) :: vR 7 (vB 0) ((vB 6) :: vR 39 (vB 0) ((vB 8) :: vR 31 (vB 0) ((vB 8) :: vR 7 (vB 0) ((vB 2) :: vR 7 (vB 0) ((vB 10) :: vR 7 (vB 0) ((vB 8) :: vR 31 (vB 0) ([]))))))))) true (some (1, 5))) tE)) 
 (tN tE tE)) 
 (tN tE 
 (tN tE tE))) 
 (tN 
 (tN tE 
 (tN tE tE)) 
 (tN tE 
 (tN tE tE)))) 
 (tN 
 (tN 
 (tN tE 
 (tN tE tE)) 
 (tN tE 
 (tN tE tE))) 
 (tN 
 (tN tE 
 (tN tE tE)) 
 (tN tE 
 (tN tE tE))))) 
 (tN 
 (tN 
 (tN 
 (tN tE 
 (tN tE tE)) 
 (tN tE 
 (tN tE tE))) 
 (tN 
 (tN tE 
 (tN tE tE)) 
 (tN tE 
 (tN tE tE)))) 
 (tN 
 (tN 
 (tN tE 
 (tN tE tE)) 
 (tN tE 
 (tN tE tE))) 
 (tN 
 (tN tE 
 (tB tE (.cells [vI 0, vI 1] true (some (2, 149))) tE)) 
 (tN tE 
 (tN tE tE)))))))) 
 (tC 
 (tN 
 (tN 
 (tN 
 (tN 
 (tN 
 (tN 
 (tN tE 
 (tN tE tE)) 
 (tN tE tE)) 
 (tN tE 
 (tN tE tE))) 
 (tN 
 (tN tE 
 (tN tE tE)) 
 (tN tE 
 (tN tE tE)))) 
 (tN 
 (tN 
 (tN tE 
 (tN tE tE)) 
 (tN tE 
 (tN tE tE))) 
 (tN 
 (tN tE 
 (tB tE (.map [⟨vT [110, 101, 120, 116], vP 369 0, 0⟩] 1) tE)) 
 (tN tE 
 (tN tE tE))))) 
 (tN 
 (tN 
 (tN 
 (tN tE 
 (tN tE tE)) 
 (tN tE 
 (tN tE tE))) 
 (tN 
 (tN tE 
 (tN tE tE)) 
 (tN tE 
 (tN tE tE)))) 
 (tN 
 (tN 
 (tN tE 
 (tN tE tE)) 
 (tN tE 
 (tN tE tE))) 
 (tN 
 (tN tE 
 (tN tE tE)) 
 (tN tE 
 (tN tE tE)))))) 
 (tN 
 (tN 
 (tN 
 (tN 
 (tN 
 (tN tE 
 (tN tE tE)) 
 (tN tE tE)) 
 (tN tE 
 (tN tE tE))) 
 (tN 
 (tN tE 
 (tN tE tE)) 
 (tN tE 
 (tN tE tE)))) 
 (tN 
 (tN 
 (tN tE 
 (tN tE tE)) 
 (tN tE 
 (tN tE tE))) 
 (tN 
 (tN tE 
 (tN tE tE)) 
 (tN tE 
 (tN tE tE))))) 
 (tN 
 (tN 
 (tN 
 (tN tE 
 (tN tE tE)) 
 (tN tE 
 (tN tE tE))) 
 (tN 
 (tN tE 
 (tN tE tE)) 
 (tN tE 
 (tN tE tE)))) 
 (tN 
 (tN 
 (tN tE 
 (tN tE tE)) 
 (tN tE 
 (tN tE tE))) 
 (tN 
 (tN tE 
 (tN tE tE)) 
 (tN tE 
 (tN tE tE))))))) [vI 300, vS 3 0 1 1] 
 (tN 
 (tN 
 (tN 
 (tN 
 (tN 
 (tN 
 (tN tE 
 (tN tE tE)) 
 (tN tE tE)) 
 (tN tE 
 (tN tE tE))) 
 (tN 
 (tN tE 
 (tB tE (.map [] 0) tE)) 
 (tN tE 
 (tN tE tE)))) 
 (tN 
 (tN 
 (tN tE 
 (tN tE tE)) 
 (tN tE 
 (tN tE tE))) 
 (tN 
 (tN tE 
 (tN tE tE)) 
 (tN tE 
 (tN tE tE))))) 
 (tN 
 (tN 
 (tN 
 (tN tE 
 (tN tE tE)) 
 (tN tE 
 (tN tE tE))) 
 (tN 
 (tN tE 
 (tN tE tE)) 
 (tN tE 
 (tN tE tE)))) 
 (tN 
 (tN 
 (tN tE 
 (tN tE tE)) 
 (tN tE 
 (tN tE tE))) 
 (tN 
 (tN tE 
 (tN tE tE)) 
 (tN tE 
 (tN tE tE)))))) 
 (tN 
 (tN 
 (tN 
 (tN 
 (tN 
 (tN tE 
 (tB tE (.cells [vS 319 0 189 189, vS 524 0 149 149] true (some (1, 24))) tE)) 
 (tN tE tE)) 
 (tN tE 
 (tN tE tE))) 
 (tN 
 (tN tE 
 (tN tE tE)) 
 (tN tE 
 (tN tE tE)))) 
 (tN 
 (tN 
 (tN tE 
 (tN tE tE)) 
 (tN tE 
 (tN tE tE))) 
 (tB 
 (tN tE 
 (tB tE (.map [] 0) tE)) (.cells ((vB 44) :: (vB 1) :: vR 22 (vB 0) ([])) true (some (1, 5))) 
 (tN tE 
 (tN tE tE))))) 
 (tN 
 (tN 
 (tN 
 (tN tE 
 (tN tE tE)) 
 (tN tE 
 (tN tE tE))) 
 (tN 
 (tN tE 
 (tN tE tE)) 
 (tN tE 
 (tN tE tE)))) 
 (tN 
 (tN 
 (tN tE 
 (tN tE tE)) 
 (tN tE 
 (tN tE tE))) 
 (tB 
 (tN tE 
 (tN tE tE)) (.map [⟨vT [110, 101, 120, 116], vP 329 0, 0⟩] 1) 
 (tN tE 
 (tN tE tE))))))))) (.map [⟨vI 0, .agg ⟨vR 128 (vB 0) ([])⟩, 0⟩, ⟨vI 1, .agg ⟨(vB 73) :: (vB 97) :: (vB 8) :: (vB 225) :: (vB 1) :: (vB 1) :: vR 15 (vB 0) ((vB 8) :: (vB 24) :: vR 105 (vB 0) ([]))⟩, 1⟩, ⟨vI 134, .agg ⟨(vB 15) :: (vB 101) :: (vB 48) :: (vB 92) :: (vB 2) :: (vB 1) :: vR 15 (vB 0) ((vB 24) :: (vB 44) :: (vB 1) :: vR 104 (vB 0) ([]))⟩, 2⟩, ⟨vI 266, .agg ⟨(vB 14) :: (vB 43) :: (vB 140) :: (vB 173) :: (vB 3) :: (vB 1) :: vR 15 (vB 0) ((vB 106) :: (vB 1) :: (vB 4) :: vR 7 (vB 0) ((vB 110) :: (vB 101) :: (vB 120) :: (vB 116) :: (vB 4) :: vR 7 (vB 0) ((vB 5) :: vR 7 (vB 0) ((vB 1) :: vR 31 (vB 0) ((vB 6) :: vR 39 (vB 0) ((vB 8) :: (vB 0) :: (vB 0) :: (vB 0) :: (vB 0) :: []))))))⟩, 3⟩, ⟨vI 267, .agg ⟨(vB 235) :: (vB 41) :: (vB 25) :: (vB 8) :: (vB 3) :: (vB 1) :: vR 7 (vB 0) ((vB 1) :: vR 7 (vB 0) ((vB 83) :: vR 27 (vB 0) ((vB 8) :: vR 7 (vB 0) ((vB 1) :: vR 7 (vB 0) ((vB 10) :: vR 7 (vB 0) ((vB 8) :: vR 54 (vB 0) ([])))))))⟩, 4⟩, ⟨vI 268, .agg ⟨(vB 2) :: (vB 14) :: (vB 194) :: (vB 132) :: (vB 4) :: (vB 1) :: vR 7 (vB 0) ((vB 2) :: vR 7 (vB 0) ((vB 8) :: (vB 2) :: vR 105 (vB 0) ([])))⟩, 5⟩, ⟨vI 269, .agg ⟨(vB 133) :: (vB 105) :: (vB 108) :: (vB 135) :: (vB 3) :: (vB 1) :: vR 7 (vB 0) ((vB 3) :: vR 7 (vB 0) ((vB 106) :: (vB 1) :: (vB 4) :: vR 7 (vB 0) ((vB 110) :: (vB 101) :: (vB 120) :: (vB 116) :: (vB 3) :: vR 7 (vB 0) ((vB 6) :: vR 39 (vB 0) ((vB 8) :: vR 31 (vB 0) ((vB 8) :: vR 7 (vB 0) ((vB 2) :: (vB 0) :: (vB 0) :: (vB 0) :: (vB 0) :: [])))))))⟩, 6⟩, ⟨vI 270, .agg ⟨(vB 210) :: (vB 167) :: (vB 242) :: (vB 182) :: (vB 3) :: (vB 1) :: vR 7 (vB 0) ((vB 4) :: vR 7 (vB 0) ((vB 43) :: (vB 0) :: (vB 0) :: (vB 0) :: (vB 10) :: vR 7 (vB 0) ((vB 8) :: vR 94 (vB 0) ([]))))⟩, 7⟩, ⟨vI 271, .agg ⟨(vB 98) :: (vB 110) :: (vB 12) :: (vB 175) :: (vB 4) :: (vB 1) :: vR 7 (vB 0) ((vB 5) :: vR 7 (vB 0) ((vB 8) :: (vB 2) :: vR 105 (vB 0) ([])))⟩, 8⟩] 9) 
 (tC 
 (tN 
 (tN 
 (tN 
 (tN 
 (tN 
 (tN 
 (tN 
 (tN tE 
 (tN tE tE)) 
 (tN tE tE)) 
 (tN tE 
 (tN tE tE))) 
 (tN 
 (tN tE 
 (tN tE tE)) 
 (tN tE 
 (tN tE tE)))) 
 (tN 
 (tN 
 (tN tE 
 (tN tE tE)) 
 (tB tE (.cells [vI 1, vI 299] true (some (2, 149))) 
 (tN tE tE))) 
 (tN 
 (tN tE 
 (tC tE [vI 300, vS 352 0 1 1] tE)) 
 (tN tE 
 (tN tE tE))))) 
 (tN 
 (tN 
 (tN 
 (tN tE 
 (tN tE tE)) 
 (tN tE 
 (tN tE tE))) 
 (tN 
 (tN tE 
 (tN tE tE)) 
 (tN tE 
 (tN tE tE)))) 
 (tN 
 (tN 
 (tN tE 
 (tN tE tE)) 
 (tN tE 
 (tN tE tE))) 
 (tN 
 (tN tE 
 (tC tE [vS 365 0 8 8, .map (some 366), vS 380 0 1 1] tE)) 
 (tN tE 
 (tN tE tE)))))) 
 (tN 
 (tN 
 (tN 
 (tN 
 (tN 
 (tN tE 
 (tN tE tE)) 
 (tN tE tE)) 
 (tC tE [vS 141 0 8 8, .map (some 136), vS 164 0 1 1] 
 (tN tE tE))) 
 (tN 
 (tN tE 
 (tC tE [vS 325 0 8 8, .map (some 326), vS 339 0 1 1] tE)) 
 (tN tE 
 (tN tE tE)))) 
 (tN 
 (tN 
 (tN tE 
 (tN tE tE)) 
 (tN tE 
 (tN tE tE))) 
 (tN 
 (tN tE 
 (tN tE tE)) 
 (tN tE 
 (tN tE tE))))) 
 (tN 
 (tN 
 (tN 
 (tN tE 
 (tN tE tE)) 
 (tN tE 
 (tN tE tE))) 
 (tN 
 (tN tE 
 (tN tE tE)) 
 (tN tE 
 (tN tE tE)))) 
 (tN 
 (tN 
 (tN tE 
 (tN tE tE)) 
 (tN tE 
 (tN tE tE))) 
 (tN 
 (tN tE 
 (tN tE tE)) 
 (tN tE 
 (tN tE tE))))))) 
 (tC 
 (tN 
 (tN 
 (tN 
 (tN 
 (tN 
 (tN tE 
 (tN tE tE)) 
 (tN tE tE)) 
 (tN tE 
 (tN tE tE))) 
 (tN 
 (tN tE 
 (tB tE (.cells ((vB 1) :: vR 7 (vB 0) ([])) true (some (1, 5))) tE)) 
 (tN tE 
 (tN tE tE)))) 
 (tN 
 (tN 
 (tN tE 
 (tN tE tE)) 
 (tN tE 
 (tN tE tE))) 
 (tN 
 (tN tE 
 (tN tE tE)) 
 (tN tE 
 (tN tE tE))))) 
 (tN 
 (tN 
 (tN 
 (tN tE 
 (tN tE tE)) 
 (tN tE 
 (tN tE tE))) 
 (tN 
 (tN tE 
 (tN tE tE)) 
 (tN tE 
 (tN tE tE)))) 
 (tN 
 (tN 
 (tN tE 
 (tN tE tE)) 
 (tN tE 
 (tN tE tE))) 
 (tN 
 (tN tE 
 (tN tE tE)) 
 (tN tE 
 (tN tE tE)))))) ((vP 2 0) :: vR 8 (.bool false) ((.map (some 4)) :: [])) 
 (tN 
 (tN 
 (tN 
 (tN 
 (tN 
 (tN tE 
 (tN tE tE)) 
 (tN tE tE)) 
 (tB tE (.cells ((vB 1) :: vR 7 (vB 0) ([])) true (some (1, 5))) 
 (tN tE tE))) 
 (tN 
 (tN tE 
 (tN tE tE)) 
 (tN tE 
 (tN tE tE)))) 
 (tN 
 (tN 
 (tN tE 
 (tN tE tE)) 
 (tN tE 
 (tN tE tE))) 
 (tN 
 (tN tE 
 (tB tE (.cells ((vB 2) :: vR 7 (vB 0) ([])) true (some (1, 5))) tE)) 
 (tN tE 
 (tN tE tE))))) 
 (tN 
 (tN 
 (tN 
 (tN tE 
 (tN tE tE)) 
 (tN tE 
 (tN tE tE))) 
 (tN 
 (tN tE 
 (tN tE tE)) 
 (tN tE 
 (tN tE tE)))) 
 (tN 
 (tN 
 (tN tE 
 (tN tE tE)) 
 (tN tE 
 (tN tE tE))) 
 (tC 
 (tN tE 
 (tN tE tE)) [vI 300, vS 161 0 1 1] 
 (tN tE 
 (tN tE tE)))))))) [vI 17, vI (-17), .bool false, .bool false, vI 400, .map (some 0), .slice none 0 0] 
 (tC 
 (tN 
 (tN 
 (tN 
 (tN 
 (tN 
 (tN 
 (tN tE 
 (tN tE tE)) 
 (tN tE tE)) 
 (tN tE 
 (tN tE tE))) 
 (tN 
 (tN tE 
 (tN tE tE)) 
 (tN tE 
 (tN tE tE)))) 
 (tN 
 (tN 
 (tN tE 
 (tN tE tE)) 
 (tN tE 
 (tN tE tE))) 
 (tN 
 (tN tE 
 (tC tE ((vP 353 0) :: vR 8 (.bool false) ((.map (some 354)) :: [])) tE)) 
 (tN tE 
 (tN tE tE))))) 
 (tN 
 (tN 
 (tN 
 (tN tE 
 (tN tE tE)) 
 (tN tE 
 (tN tE tE))) 
 (tN 
 (tN tE 
 (tB tE (.cells [vI 0, vI 1] true (some (2, 149))) tE)) 
 (tN tE 
 (tN tE tE)))) 
 (tN 
 (tN 
 (tN tE 
 (tN tE tE)) 
 (tN tE 
 (tN tE tE))) 
 (tN 
 (tN tE 
 (tN tE tE)) 
 (tN tE 
 (tN tE tE)))))) 
 (tN 
 (tN 
 (tN 
 (tN 
 (tN 
 (tN tE 
 (tN tE tE)) 
 (tN tE tE)) 
 (tN tE 
 (tN tE tE))) 
 (tN 
 (tN tE 
 (tN tE tE)) 
 (tN tE 
 (tN tE tE)))) 
 (tN 
 (tN 
 (tN tE 
 (tN tE tE)) 
 (tN tE 
 (tN tE tE))) 
 (tN 
 (tN tE 
 (tN tE tE)) 
 (tN tE 
 (tN tE tE))))) 
 (tN 
 (tN 
 (tN 
 (tN tE 
 (tN tE tE)) 
 (tN tE 
 (tN tE tE))) 
 (tN 
 (tN tE 
 (tN tE tE)) 
 (tN tE 
 (tN tE tE)))) 
 (tN 
 (tN 
 (tN tE 
 (tN tE tE)) 
 (tN tE 
 (tN tE tE))) 
 (tN 
 (tN tE 
 (tN tE tE)) 
 (tN tE 
 (tN tE tE))))))) [vI 0, vI 300] 
 (tN 
 (tN 
 (tN 
 (tN 
 (tN 
 (tN 
 (tN tE 
 (tN tE tE)) 
 (tN tE tE)) 
 (tN tE 
 (tN tE tE))) 
 (tN 
 (tN tE 
 (tN tE tE)) 
 (tN tE 
 (tN tE tE)))) 
 (tN 
 (tN 
 (tN tE 
 (tN tE tE)) 
 (tN tE 
 (tN tE tE))) 
 (tN 
 (tN tE 
 (tN tE tE)) 
 (tN tE 
 (tN tE tE))))) 
 (tN 
 (tN 
 (tN 
 (tN tE 
 (tN tE tE)) 
 (tN tE 
 (tN tE tE))) 
 (tN 
 (tN tE 
 (tN tE tE)) 
 (tN tE 
 (tN tE tE)))) 
 (tN 
 (tN 
 (tN tE 
 (tN tE tE)) 
 (tN tE 
 (tN tE tE))) 
 (tN 
 (tN tE 
 (tN tE tE)) 
 (tN tE 
 (tN tE tE)))))) 
 (tN 
 (tN 
 (tN 
 (tN 
 (tN tE 
 (tN tE tE)) 
 (tN tE 
 (tN tE tE))) 
 (tN 
 (tN tE 
 (tN tE tE)) 
 (tN tE 
 (tN tE tE)))) 
 (tN 
 (tN 
 (tN tE 
 (tN tE tE)) 
 (tN tE 
 (tN tE tE))) 
 (tC 
 (tN tE 
 (tN tE tE)) [vP 1 0, vI 1, vS 110 0 24 24, vS 526 0 2 2, vI 6, .bool false] 
 (tN tE 
 (tN tE tE))))) 
 (tN 
 (tN 
 (tN 
 (tN tE 
 (tN tE tE)) 
 (tN tE 
 (tN tE tE))) 
 (tN 
 (tN tE 
 (tN tE tE)) 
 (tN tE 
 (tN tE tE)))) 
 (tN 
 (tN 
 (tN tE 
 (tB tE (.cells ((vB 1) :: (vB 4) :: vR 7 (vB 0) ((vB 110) :: (vB 101) :: (vB 120) :: (vB 116) :: (vB 4) :: vR 7 (vB 0) ((vB 5) :: vR 7 (vB 0) ((vB 1) :: vR 31 (vB 0) ((vB 6) :: vR 39 (vB 0) ((vB 8) :: vR 31 (vB 0) ((vB 8) :: vR 7 (vB 0) ((vB 1) :: vR 7 (vB 0) ((vB 10) :: vR 7 (vB 0) ((vB 8) :: vR 31 (vB 0) ([]))))))))))) true (some (1, 5))) tE)) 
 (tN tE 
 (tN tE tE))) 
 (tC 
 (tN tE 
 (tN tE tE)) ((vP 125 0) :: vR 8 (.bool false) ((.map (some 126)) :: [])) 
 (tN tE 
 (tN tE tE))))))))))
noncomputable def cV4 : Value := .nilIface
noncomputable def cR4 : Heap := Heap.mk 809 (tB 
 (tN 
 (tN 
 (tN 
 (tN 
 (tN 
 (tN 
 (tN 
 (tN 
 (tN tE 
 (tN tE tE)) 
 (tN tE 
 (tN tE tE))) 
 (tN 
 (tN tE 
 (tN tE tE)) 
 (tN tE tE))) 
 (tN 
 (tN 
 (tN tE 
 (tC tE [vI 300, vS 618 0 1 1] tE)) 
 (tN tE tE)) 
 (tN 
 (tN tE 
 (tN tE tE)) 
 (tN tE tE)))) 
 (tN 
 (tN 
 (tN 
 (tN tE 
 (tN tE tE)) 
 (tN tE 
 (tN tE tE))) 
 (tN 
 (tN tE 
 (tN tE tE)) 
 (tN tE tE))) 
 (tN 
 (tN 
 (tN tE 
 (tN tE tE)) 
 (tB tE (.cells [vI 1, vI 299] true (some (2, 149))) tE)) 
 (tN 
 (tN tE 
 (tN tE tE)) 
 (tN tE tE))))) 
 (tN 
 (tN 
 (tN 
 (tN 
 (tN tE 
 (tN tE tE)) 
 (tN tE 
 (tN tE tE))) 
 (tN 
 (tN tE 
 (tN tE tE)) 
 (tN tE tE))) 
 (tN 
 (tN 
 (tN tE 
 (tN tE tE)) 
 (tN tE tE)) 
 (tN 
 (tN tE 
 (tN tE tE)) 
 (tN tE tE)))) 
 (tN 
 (tN 
 (tN 
 (tN tE 
 (tN tE tE)) 
 (tN tE tE)) 
 (tN 
 (tN tE 
 (tN tE tE)) 
 (tN tE tE))) 
 (tC 
 (tN 
 (tN tE 
 (tN tE tE)) 
 (tN tE tE)) [vP 111 0, vP 578 0, .bool false] 
 (tN 
 (tN tE 
 (tN tE tE)) 
 (tN tE tE)))))) 
 (tN 
 (tN 
 (tN 
 (tN 
 (tN 
 (tN tE 
 (tN tE tE)) 
 (tN tE 
 (tN tE tE))) 
 (tB 
 (tN tE 
 (tN tE tE)) (.map [] 0) 
 (tN tE tE))) 
 (tN 
 (tN 
 (tN tE 
 (tB tE (.cells [vI 0, vI 1] true (some (2, 149))) tE)) 
 (tN tE tE)) 
 (tN 
 (tN tE 
 (tN tE tE)) 
 (tN tE tE)))) 
 (tN 
 (tN 
 (tN 
 (tN tE 
 (tN tE tE)) 
 (tN tE 
 (tB tE (.cells [vS 319 0 189 189, vS 524 0 149 149, vS 806 0 282 282] true (some (1, 24))) tE))) 
 (tN 
 (tN tE 
 (tN tE tE)) 
 (tN tE tE))) 
 (tN 
 (tN 
 (tN tE 
 (tN tE tE)) 
 (tN tE tE)) 
 (tN 
 (tN tE 
 (tN tE tE)) 
 (tN tE tE))))) 
 (tN 
 (tN 
 (tN 
 (tN 
 (tN tE 
 (tN tE tE)) 
 (tN tE 
 (tN tE tE))) 
 (tN 
 (tN tE 
 (tN tE tE)) 
 (tN tE tE))) 
 (tN 
 (tN 
 (tN tE 
 (tN tE tE)) 
 (tN tE tE)) 
 (tN 
 (tN tE 
 (tN tE tE)) 
 (tN tE tE)))) 
 (tN 
 (tN 
 (tN 
 (tN tE 
 (tN tE tE)) 
 (tN tE tE)) 
 (tN 
 (tN tE 
 (tN tE tE)) 
 (tN tE tE))) 
 (tN 
 (tN 
 (tN tE 
 (tN tE tE)) 
 (tN tE tE)) 
 (tN 
 (tN tE 
 (tN tE tE)) 
 (tN tE tE))))))) 
 (tB 
 (tN 
 (tN 
 (tN 
 (tN 
 (tN 
 (tN tE 
 (tN tE tE)) 
 (tN tE 
 (tN tE tE))) 
 (tN 
 (tN tE 
 (tN tE tE)) 
 (tN tE tE))) 
 (tN 
 (tN 
 (tN tE 
 (tN tE tE)) 
 (tN tE tE)) 
 (tN 
 (tN tE 
 (tN tE tE)) 
 (tN tE tE)))) 
 (tN 
 (tN 
 (tN 
 (tN tE 
 (tN tE tE)) 
 (tN tE 
 (tN tE tE))) 
 (tB 
 (tN tE 
 (tN tE tE)) (.cells [vI 0, vI 1] true (some (2, 149))) 
 (tN tE tE))) 
 (tN 
 (tN 
 (tN tE 
 (tN tE tE)) 
 (tN tE tE)) 
 (tN 
 (tN tE 
 (tN tE tE)) 
 (tN tE tE))))) 
 (tN 
 (tN 
 (tN 
 (tN 
 (tN tE 
 (tN tE tE)) 
 (tN tE 
 (tN tE tE))) 
 (tN 
 (tN tE 
 (tN tE tE)) 
 (tN tE tE))) 
 (tN 
 (tN 
 (tN tE 
 (tN tE tE)) 
 (tN tE tE)) 
 (tN 
 (tN tE 
 (tN tE tE)) 
 (tN tE tE)))) 
 (tN 
 (tN 
 (tN 
 (tN tE 
 (tN tE tE)) 
 (tN tE tE)) 
 (tN 
 (tN tE 
 (tN tE tE)) 
 (tN tE tE))) 
 (tN 
 (tN 
 (tN tE 
 (tN tE tE)) 
 (tN tE tE)) 
 (tN 
 (tN tE 
 (tN tE tE)) 
 (tN tE tE)))))) (.map [] 0) 
 (tN 
 (tN 
 (tN 
 (tN 
 (tN 
 (tN tE 
 (tB tE (.cells ((vB 1) :: (vB 4) :: vR 7 (vB 0) ((vB 110) :: (vB 101) :: (vB 120) :: (vB 116) :: (vB 3) :: vR 7 (vB 0) ((vB 6) :: vR 39 (vB 0) ((vB 8) :: vR 31 (vB 0) ((vB 8) :: vR 7 (vB 0) ((vB 2) :: vR 7 (vB 0) ((vB 10) :: vR 7 (vB 0) ((vB 8) :: vR 31 (vB 0) ([]))))))))) true (some (1, 5))) tE)) 
 (tN tE 
 (tN tE tE))) 
 (tN 
 (tN tE 
 (tN tE tE)) 
 (tN tE tE))) 
 (tN 
 (tN 
 (tN tE 
 (tN tE tE)) 
 (tN tE tE)) 
 (tN 
 (tN tE 
 (tN tE tE)) 
 (tN tE tE)))) 
 (tN 
 (tN 
 (tN 
 (tN tE 
 (tN tE tE)) 
 (tN tE tE)) 
 (tN 
 (tN tE 
 (tN tE tE)) 
 (tN tE tE))) 
 (tN 
 (tN 
 (tN tE 
 (tN tE tE)) 
 (tN tE tE)) 
 (tN 
 (tN tE 
 (tN tE tE)) 
 (tN tE tE))))) 
 (tN 
 (tN 
 (tN 
 (tN 
 (tN tE 
 (tN tE tE)) 
 (tN tE 
 (tN tE tE))) 
 (tN 
 (tN tE 
 (tN tE tE)) 
 (tN tE tE))) 
 (tN 
 (tN 
 (tN tE 
 (tN tE tE)) 
 (tN tE tE)) 
 (tN 
 (tN tE 
 (tN tE tE)) 
 (tN tE tE)))) 
 (tN 
 (tN 
 (tN 
 (tN tE 
 (tN tE tE)) 
 (tN tE tE)) 
 (tN 
 (tN tE 
 (tN tE tE)) 
 (tN tE tE))) 
 (tN 
 (tN 
 (tN tE 
 (tN tE tE)) 
 (tB tE (.cells [vI 0, vI 1] true (some (2, 149))) tE)) 
 (tN 
 (tN tE 
 (tN tE tE)) 
 (tN tE tE)))))))) 
 (tC 
 (tN 
 (tN 
 (tN 
 (tN 
 (tN 
 (tN 
 (tN tE 
 (tN tE tE)) 
 (tN tE 
 (tN tE tE))) 
 (tN 
 (tN tE 
 (tN tE tE)) 
 (tN tE tE))) 
 (tN 
 (tN 
 (tN tE 
 (tC tE ((vP 576 0) :: vR 8 (.bool false) ((.map (some 577)) :: [])) tE)) 
 (tN tE tE)) 
 (tN 
 (tN tE 
 (tN tE tE)) 
 (tN tE tE)))) 
 (tN 
 (tN 
 (tN 
 (tN tE 
 (tN tE tE)) 
 (tN tE 
 (tN tE tE))) 
 (tN 
 (tN tE 
 (tN tE tE)) 
 (tN tE tE))) 
 (tN 
 (tN 
 (tN tE 
 (tN tE tE)) 
 (tB tE (.map [⟨vT [110, 101, 120, 116], vP 369 0, 0⟩] 1) tE)) 
 (tN 
 (tN tE 
 (tN tE tE)) 
 (tN tE tE))))) 
 (tN 
 (tN 
 (tN 
 (tN 
 (tN tE 
 (tN tE tE)) 
 (tN tE 
 (tN tE tE))) 
 (tN 
 (tN tE 
 (tN tE tE)) 
 (tN tE tE))) 
 (tN 
 (tN 
 (tN tE 
 (tC tE [vS 598 0 100 100, .map (some 593), vS 621 0 1 1] tE)) 
 (tN tE tE)) 
 (tN 
 (tN tE 
 (tN tE tE)) 
 (tN tE tE)))) 
 (tN 
 (tN 
 (tN 
 (tN tE 
 (tN tE tE)) 
 (tN tE tE)) 
 (tN 
 (tN tE 
 (tN tE tE)) 
 (tN tE tE))) 
 (tN 
 (tN 
 (tN tE 
 (tN tE tE)) 
 (tN tE tE)) 
 (tN 
 (tN tE 
 (tN tE tE)) 
 (tN tE tE)))))) 
 (tN 
 (tN 
 (tN 
 (tN 
 (tN 
 (tN tE 
 (tN tE tE)) 
 (tN tE 
 (tN tE tE))) 
 (tN 
 (tN tE 
 (tN tE tE)) 
 (tN tE tE))) 
 (tN 
 (tN 
 (tN tE 
 (tN tE tE)) 
 (tN tE tE)) 
 (tN 
 (tN tE 
 (tN tE tE)) 
 (tN tE tE)))) 
 (tN 
 (tN 
 (tN 
 (tN tE 
 (tN tE tE)) 
 (tN tE tE)) 
 (tN 
 (tN tE 
 (tN tE tE)) 
 (tN tE tE))) 
 (tN 
 (tN 
 (tN tE 
 (tB tE (.cells [vI 8, vI 292] true (some (2, 149))) tE)) 
 (tN tE tE)) 
 (tN 
 (tN tE 
 (tN tE tE)) 
 (tN tE tE))))) 
 (tN 
 (tN 
 (tN 
 (tN 
 (tN tE 
 (tN tE tE)) 
 (tN tE 
 (tN tE tE))) 
 (tN 
 (tN tE 
 (tN tE tE)) 
 (tN tE tE))) 
 (tN 
 (tN 
 (tN tE 
 (tN tE tE)) 
 (tN tE tE)) 
 (tN 
 (tN tE 
 (tN tE tE)) 
 (tN tE tE)))) 
 (tN 
 (tN 
 (tN 
 (tN tE 
 (tN tE tE)) 
 (tN tE tE)) 
 (tN 
 (tN tE 
 (tN tE tE)) 
 (tN tE tE))) 
 (tN 
 (tN 
 (tN tE 
 (tN tE tE)) 
 (tN tE tE)) 
 (tN 
 (tN tE 
 (tN tE tE)) 
 (tN tE tE))))))) [vI 300, vS 3 0 1 1] 
 (tN 
 (tN 
 (tN 
 (tN 
 (tN 
 (tN 
 (tN tE 
 (tN tE tE)) 
 (tN tE 
 (tN tE tE))) 
 (tN 
 (tN tE 
 (tN tE tE)) 
 (tN tE tE))) 
 (tN 
 (tN 
 (tN tE 
 (tB tE (.map [] 0) tE)) 
 (tB tE (.map [] 0) tE)) 
 (tN 
 (tN tE 
 (tN tE tE)) 
 (tN tE tE)))) 
 (tN 
 (tN 
 (tN 
 (tN tE 
 (tN tE tE)) 
 (tN tE 
 (tB tE (.cells ((vB 1) :: (vB 5) :: vR 7 (vB 0) ((vB 104) :: (vB 46) :: (vB 111) :: (vB 110) :: (vB 101) :: (vB 4) :: vR 7 (vB 0) ((vB 5) :: vR 7 (vB 0) ((vB 1) :: vR 31 (vB 0) ((vB 6) :: vR 39 (vB 0) ((vB 8) :: vR 31 (vB 0) ((vB 100) :: vR 23 (vB 0) ((vB 16) :: vR 25 (vB 0) ((vB 2) :: vR 33 (vB 0) (vR 8 (vB 255) (vR 16 (vB 0) ((vB 10) :: vR 7 (vB 0) ((vB 100) :: vR 31 (vB 0) ([])))))))))))))) true (some (1, 5))) tE))) 
 (tN 
 (tN tE 
 (tN tE tE)) 
 (tN tE tE))) 
 (tN 
 (tN 
 (tN tE 
 (tN tE tE)) 
 (tN tE tE)) 
 (tN 
 (tN tE 
 (tN tE tE)) 
 (tN tE tE))))) 
 (tN 
 (tN 
 (tN 
 (tN 
 (tN tE 
 (tN tE tE)) 
 (tN tE 
 (tN tE tE))) 
 (tN 
 (tN tE 
 (tN tE tE)) 
 (tN tE tE))) 
 (tN 
 (tN 
 (tN tE 
 (tB tE (.cells (vR 16 (vB 0) ((vB 16) :: vR 25 (vB 0) ((vB 2) :: vR 33 (vB 0) (vR 8 (vB 255) (vR 16 (vB 0) ([])))))) true (some (1, 5))) tE)) 
 (tN tE tE)) 
 (tN 
 (tN tE 
 (tN tE tE)) 
 (tN tE tE)))) 
 (tN 
 (tN 
 (tN 
 (tN tE 
 (tN tE tE)) 
 (tN tE tE)) 
 (tN 
 (tN tE 
 (tN tE tE)) 
 (tN tE tE))) 
 (tN 
 (tN 
 (tN tE 
 (tN tE tE)) 
 (tN tE tE)) 
 (tN 
 (tN tE 
 (tN tE tE)) 
 (tN tE tE)))))) 
 (tN 
 (tN 
 (tN 
 (tN 
 (tN 
 (tN tE 
 (tN tE tE)) 
 (tN tE 
 (tN tE tE))) 
 (tN 
 (tN tE 
 (tN tE tE)) 
 (tN tE tE))) 
 (tN 
 (tN 
 (tN tE 
 (tN tE tE)) 
 (tN tE tE)) 
 (tN 
 (tN tE 
 (tN tE tE)) 
 (tN tE tE)))) 
 (tN 
 (tN 
 (tN 
 (tN tE 
 (tN tE tE)) 
 (tN tE tE)) 
 (tN 
 (tN tE 
 (tN tE tE)) 
 (tN tE tE))) 
 (tB 
 (tN 
 (tN tE 
 (tN tE tE)) 
 (tB tE (.map [] 0) tE)) (.cells ((vB 44) :: (vB 1) :: vR 22 (vB 0) ([])) true (some (1, 5))) 
 (tN 
 (tN tE 
 (tN tE tE)) 
 (tN tE tE))))) 
 (tN 
 (tN 
 (tN 
 (tN 
 (tN tE 
 (tN tE tE)) 
 (tN tE 
 (tN tE tE))) 
 (tN 
 (tN tE 
 (tN tE tE)) 
 (tN tE tE))) 
 (tN 
 (tN 
 (tN tE 
 (tN tE tE)) 
 (tN tE tE)) 
 (tN 
 (tN tE 
 (tN tE tE)) 
 (tN tE tE)))) 
 (tN 
 (tN 
 (tN 
 (tN tE 
 (tN tE tE)) 
 (tN tE tE)) 
 (tN 
 (tN tE 
 (tN tE tE)) 
 (tN tE tE))) 
 (tB 
 (tN 
 (tN tE 
 (tN tE tE)) 
 (tN tE tE)) (.map [⟨vT [110, 101, 120, 116], vP 329 0, 0⟩] 1) 
 (tN 
 (tN tE 
 (tN tE tE)) 
 (tN tE tE))))))))) (.map [⟨vI 0, .agg ⟨vR 128 (vB 0) ([])⟩, 0⟩, ⟨vI 1, .agg ⟨(vB 73) :: (vB 97) :: (vB 8) :: (vB 225) :: (vB 1) :: (vB 1) :: vR 15 (vB 0) ((vB 8) :: (vB 24) :: vR 105 (vB 0) ([]))⟩, 1⟩, ⟨vI 134, .agg ⟨(vB 15) :: (vB 101) :: (vB 48) :: (vB 92) :: (vB 2) :: (vB 1) :: vR 15 (vB 0) ((vB 24) :: (vB 44) :: (vB 1) :: vR 104 (vB 0) ([]))⟩, 2⟩, ⟨vI 266, .agg ⟨(vB 14) :: (vB 43) :: (vB 140) :: (vB 173) :: (vB 3) :: (vB 1) :: vR 15 (vB 0) ((vB 106) :: (vB 1) :: (vB 4) :: vR 7 (vB 0) ((vB 110) :: (vB 101) :: (vB 120) :: (vB 116) :: (vB 4) :: vR 7 (vB 0) ((vB 5) :: vR 7 (vB 0) ((vB 1) :: vR 31 (vB 0) ((vB 6) :: vR 39 (vB 0) ((vB 8) :: (vB 0) :: (vB 0) :: (vB 0) :: (vB 0) :: []))))))⟩, 3⟩, ⟨vI 267, .agg ⟨(vB 235) :: (vB 41) :: (vB 25) :: (vB 8) :: (vB 3) :: (vB 1) :: vR 7 (vB 0) ((vB 1) :: vR 7 (vB 0) ((vB 83) :: vR 27 (vB 0) ((vB 8) :: vR 7 (vB 0) ((vB 1) :: vR 7 (vB 0) ((vB 10) :: vR 7 (vB 0) ((vB 8) :: vR 54 (vB 0) ([])))))))⟩, 4⟩, ⟨vI 268, .agg ⟨(vB 2) :: (vB 14) :: (vB 194) :: (vB 132) :: (vB 4) :: (vB 1) :: vR 7 (vB 0) ((vB 2) :: vR 7 (vB 0) ((vB 8) :: (vB 2) :: vR 105 (vB 0) ([])))⟩, 5⟩, ⟨vI 269, .agg ⟨(vB 133) :: (vB 105) :: (vB 108) :: (vB 135) :: (vB 3) :: (vB 1) :: vR 7 (vB 0) ((vB 3) :: vR 7 (vB 0) ((vB 106) :: (vB 1) :: (vB 4) :: vR 7 (vB 0) ((vB 110) :: (vB 101) :: (vB 120) :: (vB 116) :: (vB 3) :: vR 7 (vB 0) ((vB 6) :: vR 39 (vB 0) ((vB 8) :: vR 31 (vB 0) ((vB 8) :: vR 7 (vB 0) ((vB 2) :: (vB 0) :: (vB 0) :: (vB 0) :: (vB 0) :: [])))))))⟩, 6⟩, ⟨vI 270, .agg ⟨(vB 210) :: (vB 167) :: (vB 242) :: (vB 182) :: (vB 3) :: (vB 1) :: vR 7 (vB 0) ((vB 4) :: vR 7 (vB 0) ((vB 43) :: (vB 0) :: (vB 0) :: (vB 0) :: (vB 10) :: vR 7 (vB 0) ((vB 8) :: vR 94 (vB 0) ([]))))⟩, 7⟩, ⟨vI 271, .agg ⟨(vB 98) :: (vB 110) :: (vB 12) :: (vB 175) :: (vB 4) :: (vB 1) :: vR 7 (vB 0) ((vB 5) :: vR 7 (vB 0) ((vB 8) :: (vB 2) :: vR 105 (vB 0) ([])))⟩, 8⟩, ⟨vI 272, .agg ⟨(vB 149) :: (vB 178) :: (vB 120) :: (vB 168) :: (vB 3) :: (vB 1) :: vR 7 (vB 0) ((vB 6) :: vR 7 (vB 0) ((vB 106) :: (vB 1) :: (vB 5) :: vR 7 (vB 0) ((vB 104) :: (vB 46) :: (vB 111) :: (vB 110) :: (vB 101) :: (vB 4) :: vR 7 (vB 0) ((vB 5) :: vR 7 (vB 0) ((vB 1) :: vR 31 (vB 0) ((vB 6) :: vR 39 (vB 0) ((vB 8) :: (vB 0) :: (vB 0) :: (vB 0) :: [])))))))⟩, 9⟩, ⟨vI 273, .agg ⟨(vB 153) :: (vB 57) :: (vB 118) :: (vB 189) :: (vB 3) :: (vB 1) :: vR 7 (vB 0) ((vB 7) :: vR 7 (vB 0) ((vB 106) :: vR 28 (vB 0) ((vB 100) :: vR 23 (vB 0) ((vB 16) :: vR 25 (vB 0) ((vB 2) :: vR 27 (vB 0) ([]))))))⟩, 10⟩, ⟨vI 274, .agg ⟨(vB 75) :: (vB 100) :: (vB 6) :: (vB 143) :: (vB 3) :: (vB 1) :: vR 7 (vB 0) ((vB 8) :: vR 7 (vB 0) ((vB 70) :: vR 6 (vB 0) (vR 8 (vB 255) (vR 16 (vB 0) ((vB 10) :: vR 7 (vB 0) ((vB 100) :: vR 67 (vB 0) ([])))))))⟩, 11⟩, ⟨vI 275, .agg ⟨(vB 172) :: (vB 177) :: (vB 203) :: (vB 132) :: (vB 4) :: (vB 1) :: vR 7 (vB 0) ((vB 9) :: vR 7 (vB 0) ((vB 8) :: (vB 3) :: vR 105 (vB 0) ([])))⟩, 12⟩] 13) 
 (tC 
 (tN 
 (tN 
 (tN 
 (tN 
 (tN 
 (tN 
 (tN 
 (tN tE 
 (tN tE tE)) 
 (tN tE 
 (tN tE tE))) 
 (tN 
 (tN tE 
 (tN tE tE)) 
 (tN tE tE))) 
 (tN 
 (tN 
 (tN tE 
 (tB tE (.map [⟨vT [110, 101, 120, 116], vP 585 0, 0⟩, ⟨vT [104, 46, 111, 110, 101], vP 594 0, 1⟩] 2) tE)) 
 (tN tE tE)) 
 (tN 
 (tN tE 
 (tN tE tE)) 
 (tN tE tE)))) 
 (tN 
 (tN 
 (tN 
 (tN tE 
 (tN tE tE)) 
 (tN tE 
 (tN tE tE))) 
 (tB 
 (tN tE 
 (tN tE tE)) (.cells [vI 1, vI 299] true (some (2, 149))) 
 (tN tE tE))) 
 (tN 
 (tN 
 (tN tE 
 (tN tE tE)) 
 (tC tE [vI 300, vS 352 0 1 1] tE)) 
 (tN 
 (tN tE 
 (tN tE tE)) 
 (tN tE tE))))) 
 (tN 
 (tN 
 (tN 
 (tN 
 (tN tE 
 (tN tE tE)) 
 (tN tE 
 (tN tE tE))) 
 (tN 
 (tN tE 
 (tN tE tE)) 
 (tN tE tE))) 
 (tN 
 (tN 
 (tN tE 
 (tB tE (.map [] 0) tE)) 
 (tN tE tE)) 
 (tN 
 (tN tE 
 (tN tE tE)) 
 (tN tE tE)))) 
 (tN 
 (tN 
 (tN 
 (tN tE 
 (tN tE tE)) 
 (tN tE tE)) 
 (tN 
 (tN tE 
 (tN tE tE)) 
 (tN tE tE))) 
 (tN 
 (tN 
 (tN tE 
 (tN tE tE)) 
 (tC tE [vS 365 0 8 8, .map (some 366), vS 380 0 1 1] tE)) 
 (tN 
 (tN tE 
 (tN tE tE)) 
 (tN tE tE)))))) 
 (tN 
 (tN 
 (tN 
 (tN 
 (tN 
 (tN tE 
 (tN tE tE)) 
 (tN tE 
 (tN tE tE))) 
 (tC 
 (tN tE 
 (tN tE tE)) [vS 141 0 8 8, .map (some 136), vS 164 0 1 1] 
 (tN tE tE))) 
 (tN 
 (tN 
 (tN tE 
 (tC tE [vS 581 0 8 8, .map (some 582), vS 584 0 1 1] tE)) 
 (tC tE [vS 325 0 8 8, .map (some 326), vS 339 0 1 1] tE)) 
 (tN 
 (tN tE 
 (tN tE tE)) 
 (tN tE tE)))) 
 (tN 
 (tN 
 (tN 
 (tN tE 
 (tN tE tE)) 
 (tN tE tE)) 
 (tN 
 (tN tE 
 (tN tE tE)) 
 (tN tE tE))) 
 (tN 
 (tN 
 (tN tE 
 (tN tE tE)) 
 (tN tE tE)) 
 (tN 
 (tN tE 
 (tN tE tE)) 
 (tN tE tE))))) 
 (tN 
 (tN 
 (tN 
 (tN 
 (tN tE 
 (tN tE tE)) 
 (tN tE 
 (tN tE tE))) 
 (tN 
 (tN tE 
 (tN tE tE)) 
 (tN tE tE))) 
 (tN 
 (tN 
 (tN tE 
 (tN tE tE)) 
 (tN tE tE)) 
 (tN 
 (tN tE 
 (tN tE tE)) 
 (tN tE tE)))) 
 (tN 
 (tN 
 (tN 
 (tN tE 
 (tN tE tE)) 
 (tN tE tE)) 
 (tN 
 (tN tE 
 (tN tE tE)) 
 (tN tE tE))) 
 (tN 
 (tN 
 (tN tE 
 (tN tE tE)) 
 (tN tE tE)) 
 (tN 
 (tN tE 
 (tN tE tE)) 
 (tN tE tE))))))) 
 (tC 
 (tN 
 (tN 
 (tN 
 (tN 
 (tN 
 (tN tE 
 (tN tE tE)) 
 (tN tE 
 (tN tE tE))) 
 (tN 
 (tN tE 
 (tN tE tE)) 
 (tN tE tE))) 
 (tN 
 (tN 
 (tN tE 
 (tB tE (.cells ((vB 2) :: vR 7 (vB 0) ([])) true (some (1, 5))) tE)) 
 (tB tE (.cells ((vB 1) :: vR 7 (vB 0) ([])) true (some (1, 5))) tE)) 
 (tN 
 (tN tE 
 (tN tE tE)) 
 (tN tE tE)))) 
 (tN 
 (tN 
 (tN 
 (tN tE 
 (tN tE tE)) 
 (tN tE 
 (tN tE tE))) 
 (tN 
 (tN tE 
 (tN tE tE)) 
 (tN tE tE))) 
 (tN 
 (tN 
 (tN tE 
 (tN tE tE)) 
 (tN tE tE)) 
 (tN 
 (tN tE 
 (tN tE tE)) 
 (tN tE tE))))) 
 (tN 
 (tN 
 (tN 
 (tN 
 (tN tE 
 (tN tE tE)) 
 (tN tE 
 (tN tE tE))) 
 (tN 
 (tN tE 
 (tN tE tE)) 
 (tN tE tE))) 
 (tN 
 (tN 
 (tN tE 
 (tN tE tE)) 
 (tN tE tE)) 
 (tN 
 (tN tE 
 (tN tE tE)) 
 (tN tE tE)))) 
 (tN 
 (tN 
 (tN 
 (tN tE 
 (tN tE tE)) 
 (tN tE tE)) 
 (tN 
 (tN tE 
 (tN tE tE)) 
 (tN tE tE))) 
 (tN 
 (tN 
 (tN tE 
 (tN tE tE)) 
 (tN tE tE)) 
 (tN 
 (tN tE 
 (tN tE tE)) 
 (tN tE tE)))))) ((vP 2 0) :: vR 8 (.bool false) ((.map (some 4)) :: [])) 
 (tN 
 (tN 
 (tN 
 (tN 
 (tN 
 (tN tE 
 (tN tE tE)) 
 (tN tE 
 (tN tE tE))) 
 (tB 
 (tN tE 
 (tN tE tE)) (.cells ((vB 1) :: vR 7 (vB 0) ([])) true (some (1, 5))) 
 (tN tE tE))) 
 (tN 
 (tN 
 (tN tE 
 (tN tE tE)) 
 (tN tE tE)) 
 (tN 
 (tN tE 
 (tN tE tE)) 
 (tN tE tE)))) 
 (tN 
 (tN 
 (tN 
 (tN tE 
 (tN tE tE)) 
 (tN tE tE)) 
 (tN 
 (tN tE 
 (tN tE tE)) 
 (tN tE tE))) 
 (tN 
 (tN 
 (tN tE 
 (tB tE (.cells [vI 1, vI 7] true (some (2, 149))) tE)) 
 (tB tE (.cells ((vB 2) :: vR 7 (vB 0) ([])) true (some (1, 5))) tE)) 
 (tN 
 (tN tE 
 (tN tE tE)) 
 (tN tE tE))))) 
 (tN 
 (tN 
 (tN 
 (tN 
 (tN tE 
 (tN tE tE)) 
 (tN tE 
 (tN tE tE))) 
 (tN 
 (tN tE 
 (tN tE tE)) 
 (tN tE tE))) 
 (tN 
 (tN 
 (tN tE 
 (tN tE tE)) 
 (tN tE tE)) 
 (tN 
 (tN tE 
 (tN tE tE)) 
 (tN tE tE)))) 
 (tN 
 (tN 
 (tN 
 (tN tE 
 (tN tE tE)) 
 (tN tE tE)) 
 (tN 
 (tN tE 
 (tN tE tE)) 
 (tN tE tE))) 
 (tC 
 (tN 
 (tN tE 
 (tN tE tE)) 
 (tN tE tE)) [vI 300, vS 161 0 1 1] 
 (tN 
 (tN tE 
 (tN tE tE)) 
 (tN tE tE)))))))) [vI 23, vI (-23), .bool false, .bool false, vI 400, .map (some 0), .slice none 0 0] 
 (tC 
 (tN 
 (tN 
 (tN 
 (tN 
 (tN 
 (tN 
 (tN tE 
 (tN tE tE)) 
 (tN tE 
 (tN tE tE))) 
 (tN 
 (tN tE 
 (tN tE tE)) 
 (tN tE tE))) 
 (tN 
 (tN 
 (tN tE 
 (tN tE tE)) 
 (tN tE tE)) 
 (tN 
 (tN tE 
 (tN tE tE)) 
 (tN tE tE)))) 
 (tN 
 (tN 
 (tN 
 (tN tE 
 (tN tE tE)) 
 (tN tE 
 (tN tE tE))) 
 (tN 
 (tN tE 
 (tN tE tE)) 
 (tN tE tE))) 
 (tN 
 (tN 
 (tN tE 
 (tN tE tE)) 
 (tC tE ((vP 353 0) :: vR 8 (.bool false) ((.map (some 354)) :: [])) tE)) 
 (tN 
 (tN tE 
 (tN tE tE)) 
 (tN tE tE))))) 
 (tN 
 (tN 
 (tN 
 (tN 
 (tN tE 
 (tN tE tE)) 
 (tN tE 
 (tN tE tE))) 
 (tN 
 (tN tE 
 (tN tE tE)) 
 (tN tE tE))) 
 (tN 
 (tN 
 (tN tE 
 (tN tE tE)) 
 (tB tE (.cells [vI 0, vI 1] true (some (2, 149))) tE)) 
 (tN 
 (tN tE 
 (tN tE tE)) 
 (tN tE tE)))) 
 (tN 
 (tN 
 (tN 
 (tN tE 
 (tN tE tE)) 
 (tN tE tE)) 
 (tN 
 (tN tE 
 (tN tE tE)) 
 (tN tE tE))) 
 (tN 
 (tN 
 (tN tE 
 (tN tE tE)) 
 (tN tE tE)) 
 (tN 
 (tN tE 
 (tN tE tE)) 
 (tN tE tE)))))) 
 (tN 
 (tN 
 (tN 
 (tN 
 (tN 
 (tN tE 
 (tN tE tE)) 
 (tN tE 
 (tN tE tE))) 
 (tN 
 (tN tE 
 (tN tE tE)) 
 (tN tE tE))) 
 (tN 
 (tN 
 (tN tE 
 (tN tE tE)) 
 (tN tE tE)) 
 (tN 
 (tN tE 
 (tN tE tE)) 
 (tN tE tE)))) 
 (tN 
 (tN 
 (tN 
 (tN tE 
 (tN tE tE)) 
 (tN tE tE)) 
 (tN 
 (tN tE 
 (tN tE tE)) 
 (tN tE tE))) 
 (tN 
 (tN 
 (tN tE 
 (tN tE tE)) 
 (tN tE tE)) 
 (tN 
 (tN tE 
 (tN tE tE)) 
 (tN tE tE))))) 
 (tN 
 (tN 
 (tN 
 (tN 
 (tN tE 
 (tN tE tE)) 
 (tN tE 
 (tN tE tE))) 
 (tN 
 (tN tE 
 (tN tE tE)) 
 (tN tE tE))) 
 (tN 
 (tN 
 (tN tE 
 (tN tE tE)) 
 (tN tE tE)) 
 (tN 
 (tN tE 
 (tN tE tE)) 
 (tN tE tE)))) 
 (tN 
 (tN 
 (tN 
 (tN tE 
 (tN tE tE)) 
 (tN tE tE)) 
 (tN 
 (tN tE 
 (tN tE tE)) 
 (tN tE tE))) 
 (tN 
 (tN 
 (tN tE 
 (tN tE tE)) 
 (tN tE tE)) 
 (tN 
 (tN tE 
 (tN tE tE)) 
 (tN tE tE))))))) [vI 0, vI 300] 
 (tN 
 (tN 
 (tN 
 (tN 
 (tN 
 (tN 
 (tN tE 
 (tN tE tE)) 
 (tN tE 
 (tN tE tE))) 
 (tN 
 (tN tE 
 (tN tE tE)) 
 (tN tE tE))) 
 (tN 
 (tN 
 (tN tE 
 (tN tE tE)) 
 (tN tE tE)) 
 (tN 
 (tN tE 
 (tN tE tE)) 
 (tN tE tE)))) 
 (tN 
 (tN 
 (tN 
 (tN tE 
 (tN tE tE)) 
 (tN tE 
 (tN tE tE))) 
 (tN 
 (tN tE 
 (tN tE tE)) 
 (tN tE tE))) 
 (tN 
 (tN 
 (tN tE 
 (tN tE tE)) 
 (tN tE tE)) 
 (tN 
 (tN tE 
 (tN tE tE)) 
 (tN tE tE))))) 
 (tN 
 (tN 
 (tN 
 (tN 
 (tN tE 
 (tN tE tE)) 
 (tN tE 
 (tN tE tE))) 
 (tN 
 (tN tE 
 (tN tE tE)) 
 (tN tE tE))) 
 (tN 
 (tN 
 (tN tE 
 (tN tE tE)) 
 (tN tE tE)) 
 (tN 
 (tN tE 
 (tN tE tE)) 
 (tN tE tE)))) 
 (tN 
 (tN 
 (tN 
 (tN tE 
 (tN tE tE)) 
 (tN tE tE)) 
 (tN 
 (tN tE 
 (tN tE tE)) 
 (tN tE tE))) 
 (tN 
 (tN 
 (tN tE 
 (tN tE tE)) 
 (tN tE tE)) 
 (tN 
 (tN tE 
 (tN tE tE)) 
 (tN tE tE)))))) 
 (tN 
 (tN 
 (tN 
 (tN 
 (tN 
 (tN tE 
 (tN tE tE)) 
 (tN tE 
 (tN tE tE))) 
 (tN 
 (tN tE 
 (tN tE tE)) 
 (tN tE tE))) 
 (tN 
 (tN 
 (tN tE 
 (tN tE tE)) 
 (tN tE tE)) 
 (tN 
 (tN tE 
 (tN tE tE)) 
 (tN tE tE)))) 
 (tN 
 (tN 
 (tN 
 (tN tE 
 (tN tE tE)) 
 (tN tE tE)) 
 (tN 
 (tN tE 
 (tN tE tE)) 
 (tN tE tE))) 
 (tC 
 (tN 
 (tN tE 
 (tN tE tE)) 
 (tN tE tE)) [vP 1 0, vI 1, vS 110 0 24 24, vS 808 0 3 3, vI 10, .bool false] 
 (tN 
 (tN tE 
 (tN tE tE)) 
 (tN tE tE))))) 
 (tN 
 (tN 
 (tN 
 (tN 
 (tN tE 
 (tN tE tE)) 
 (tN tE 
 (tN tE tE))) 
 (tN 
 (tN tE 
 (tN tE tE)) 
 (tN tE tE))) 
 (tN 
 (tN 
 (tN tE 
 (tN tE tE)) 
 (tN tE tE)) 
 (tN 
 (tN tE 
 (tN tE tE)) 
 (tN tE tE)))) 
 (tN 
 (tN 
 (tN 
 (tN tE 
 (tN tE tE)) 
 (tB tE (.cells ((vB 1) :: (vB 4) :: vR 7 (vB 0) ((vB 110) :: (vB 101) :: (vB 120) :: (vB 116) :: (vB 4) :: vR 7 (vB 0) ((vB 5) :: vR 7 (vB 0) ((vB 1) :: vR 31 (vB 0) ((vB 6) :: vR 39 (vB 0) ((vB 8) :: vR 31 (vB 0) ((vB 8) :: vR 7 (vB 0) ((vB 1) :: vR 7 (vB 0) ((vB 10) :: vR 7 (vB 0) ((vB 8) :: vR 31 (vB 0) ([]))))))))))) true (some (1, 5))) tE)) 
 (tN 
 (tN tE 
 (tN tE tE)) 
 (tN tE tE))) 
 (tC 
 (tN 
 (tN tE 
 (tN tE tE)) 
 (tN tE tE)) ((vP 125 0) :: vR 8 (.bool false) ((.map (some 126)) :: [])) 
 (tN 
 (tN tE 
 (tN tE tE)) 
 (tN tE tE))))))))))
theorem cut_run4 : cutIs cH4 [527, 528, 529, 530, 531, 532, 533, 534, 535, 537, 539, 541, 543, 545, 547, 549, 550, 553, 554, 556, 557, 559, 561, 563, 565, 566, 567, 568, 569, 570, 571, 572, 573, 574, 575, 579, 580, 583, 586, 587, 588, 589, 590, 591, 592, 595, 596, 597, 599, 600, 601, 602, 603, 604, 605, 606, 607, 608, 609, 610, 611, 612, 613, 614, 615, 616, 617, 619, 620, 622, 623, 625, 627, 629, 631, 632, 634, 636, 638, 640, 641, 643, 644, 646, 648, 650, 652, 653, 655, 656, 658, 660, 662, 664, 665, 668, 669, 671, 673, 675, 677, 678, 679, 680, 681, 682, 683, 684, 685, 686, 687, 688, 690, 691, 692, 694, 695, 696, 697, 698, 700, 702, 703, 704, 705, 706, 707, 708, 709, 710, 711, 712, 713, 714, 715, 717, 719, 721, 722, 723, 724, 725, 726, 727, 728, 729, 730, 731, 733, 734, 735, 736, 737, 738, 740, 742, 744, 745, 746, 747, 748, 749, 750, 751, 752, 753, 754, 756, 757, 758, 759, 760, 761, 763, 765, 767, 768, 769, 770, 771, 772, 773, 774, 775, 776, 777, 778, 779, 780, 781, 782, 783, 784, 785, 786, 788, 790, 792, 793, 794, 795, 796, 797, 798, 799, 800, 801, 802, 803, 804, 805, 807] cV4 cR4 ((callF EC3 3000).fn 10 cA4 cH4) = true := by kernel_rfl
noncomputable def EC4 : Env := EC3.tell 10 (cutV EC3 3000 10 cA4 cH4 cV4 cR4)
theorem okC4 : EnvOk Tryz.prog EC4 := tell_ok okC3 (cut_ok okC3 cut_run4)
end Go.Proofs.YtccjepnnjidjaaaGreat.C
