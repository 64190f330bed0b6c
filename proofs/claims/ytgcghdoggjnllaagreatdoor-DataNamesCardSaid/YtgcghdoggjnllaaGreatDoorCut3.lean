/- Cut3: what one call of function 8 does at one heap of this run: by the kernel. -/
import Derived.Test.YtgcghdoggjnllaaGreatDoorCut2
import Derived.Test.YtgcghdoggjnllaaGreatDoorVgF
import Derived.KernelRfl
open Go Go.Vi
namespace Go.Proofs.YtgcghdoggjnllaaGreatDoor.C
noncomputable def cA3 : List Value := [vP 112 0, vI 2, vI 0, vI 1, .agg ⟨[vI 1, vS 367 0 1 1]⟩, .agg ⟨[vI 1, vI 0, vI 0, vS 368 0 3 3]⟩]
noncomputable def cH3 : Heap := Heap.mk 369 (tB 
 (tN 
 (tN 
 (tN 
 (tN 
 (tN 
 (tN 
 (tN 
 (tN tE 
 (tN tE tE)) 
 (tN tE tE)) 
 (tN 
 (tN tE 
 (tN tE tE)) 
 (tN tE tE))) 
 (tN 
 (tN 
 (tN tE 
 (tN tE tE)) 
 (tN tE tE)) 
 (tN 
 (tN tE 
 (tN tE tE)) 
 (tN tE tE)))) 
 (tN 
 (tN 
 (tN 
 (tN tE 
 (tN tE tE)) 
 (tN tE tE)) 
 (tN 
 (tN tE 
 (tN tE tE)) 
 (tN tE tE))) 
 (tN 
 (tN 
 (tN tE 
 (tN tE tE)) 
 (tN tE tE)) 
 (tC 
 (tN tE 
 (tB tE (.cells [vB 110, vB 101, vB 119] false none) tE)) [vP 111 0, vP 172 0, .bool false] 
 (tN tE tE))))) 
 (tN 
 (tN 
 (tN 
 (tN 
 (tN tE 
 (tN tE tE)) 
 (tN tE tE)) 
 (tN 
 (tN tE 
 (tN tE tE)) 
 (tN tE tE))) 
 (tN 
 (tN 
 (tN tE 
 (tN tE tE)) 
 (tN tE tE)) 
 (tN 
 (tN tE 
 (tN tE tE)) 
 (tN tE tE)))) 
 (tN 
 (tN 
 (tN 
 (tN tE 
 (tN tE tE)) 
 (tN tE tE)) 
 (tN 
 (tN tE 
 (tN tE tE)) 
 (tN tE tE))) 
 (tN 
 (tN 
 (tN tE 
 (tN tE tE)) 
 (tN tE tE)) 
 (tN tE 
 (tN tE tE)))))) 
 (tB 
 (tN 
 (tN 
 (tN 
 (tN 
 (tN tE 
 (tN tE tE)) 
 (tN tE tE)) 
 (tN 
 (tN tE 
 (tN tE tE)) 
 (tN tE tE))) 
 (tN 
 (tN 
 (tN tE 
 (tN tE tE)) 
 (tN tE tE)) 
 (tN 
 (tN tE 
 (tN tE tE)) 
 (tN tE tE)))) 
 (tN 
 (tN 
 (tN 
 (tN tE 
 (tN tE tE)) 
 (tN tE tE)) 
 (tN 
 (tN tE 
 (tN tE tE)) 
 (tN tE tE))) 
 (tN 
 (tN 
 (tN tE 
 (tN tE tE)) 
 (tN tE tE)) 
 (tN tE 
 (tN tE tE))))) (.map [] 0) 
 (tN 
 (tN 
 (tN 
 (tN 
 (tN tE 
 (tN tE tE)) 
 (tN tE tE)) 
 (tN 
 (tN tE 
 (tN tE tE)) 
 (tN tE tE))) 
 (tN 
 (tN 
 (tN tE 
 (tN tE tE)) 
 (tC tE ((vP 170 0) :: vR 8 (.bool false) ((.map (some 171)) :: [])) tE)) 
 (tN 
 (tN tE 
 (tB tE (.cells ((vB 1) :: (vB 5) :: vR 7 (vB 0) ((vB 100) :: (vB 46) :: (vB 48) :: (vB 46) :: (vB 49) :: (vB 4) :: vR 7 (vB 0) ((vB 5) :: vR 7 (vB 0) ((vB 2) :: vR 31 (vB 0) ((vB 6) :: vR 39 (vB 0) ((vB 8) :: vR 31 (vB 0) ((vB 28) :: vR 7 (vB 0) ((vB 1) :: (vB 3) :: vR 7 (vB 0) ((vB 111) :: (vB 108) :: (vB 100) :: vR 16 (vB 0) ((vB 10) :: vR 7 (vB 0) ((vB 28) :: vR 31 (vB 0) ([])))))))))))) true (some (1, 5))) tE)) 
 (tN tE tE)))) 
 (tN 
 (tN 
 (tN 
 (tN tE 
 (tN tE tE)) 
 (tN tE tE)) 
 (tN 
 (tN tE 
 (tN tE tE)) 
 (tN tE tE))) 
 (tN 
 (tN 
 (tN tE 
 (tN tE tE)) 
 (tN tE tE)) 
 (tN tE 
 (tN tE tE))))))) 
 (tC 
 (tN 
 (tN 
 (tN 
 (tN 
 (tN 
 (tN tE 
 (tN tE tE)) 
 (tN tE tE)) 
 (tN 
 (tN tE 
 (tN tE tE)) 
 (tN tE tE))) 
 (tN 
 (tN 
 (tN tE 
 (tN tE tE)) 
 (tN tE tE)) 
 (tN 
 (tN tE 
 (tN tE tE)) 
 (tN tE tE)))) 
 (tN 
 (tN 
 (tN 
 (tN tE 
 (tN tE tE)) 
 (tN tE tE)) 
 (tN 
 (tN tE 
 (tN tE tE)) 
 (tN tE tE))) 
 (tN 
 (tN 
 (tN tE 
 (tN tE tE)) 
 (tN tE tE)) 
 (tN tE 
 (tN tE tE))))) 
 (tN 
 (tN 
 (tN 
 (tN 
 (tN tE 
 (tN tE tE)) 
 (tN tE tE)) 
 (tN 
 (tN tE 
 (tN tE tE)) 
 (tN tE tE))) 
 (tN 
 (tN 
 (tN tE 
 (tN tE tE)) 
 (tC tE [vI 100, vS 206 0 1 1] tE)) 
 (tN 
 (tN tE 
 (tN tE tE)) 
 (tN tE tE)))) 
 (tN 
 (tN 
 (tN 
 (tN tE 
 (tN tE tE)) 
 (tN tE tE)) 
 (tN 
 (tN tE 
 (tN tE tE)) 
 (tN tE tE))) 
 (tN 
 (tN 
 (tN tE 
 (tN tE tE)) 
 (tB tE (.cells ((vB 1) :: (vB 3) :: vR 7 (vB 0) ((vB 111) :: (vB 108) :: (vB 100) :: vR 16 (vB 0) ([]))) true (some (1, 5))) tE)) 
 (tN tE 
 (tN tE tE)))))) [vI 100, vS 3 0 1 1] 
 (tN 
 (tN 
 (tN 
 (tN 
 (tN 
 (tN tE 
 (tN tE tE)) 
 (tN tE tE)) 
 (tN 
 (tN tE 
 (tN tE tE)) 
 (tN tE tE))) 
 (tN 
 (tN 
 (tN tE 
 (tN tE tE)) 
 (tN tE tE)) 
 (tN 
 (tN tE 
 (tN tE tE)) 
 (tN tE tE)))) 
 (tN 
 (tN 
 (tN 
 (tN tE 
 (tN tE tE)) 
 (tN tE tE)) 
 (tN 
 (tN tE 
 (tN tE tE)) 
 (tN tE tE))) 
 (tN 
 (tN 
 (tN tE 
 (tN tE tE)) 
 (tC tE [vS 186 0 28 28, .map (some 181), vS 209 0 1 1] tE)) 
 (tN tE 
 (tN tE tE))))) 
 (tN 
 (tN 
 (tN 
 (tN 
 (tN tE 
 (tN tE tE)) 
 (tN tE tE)) 
 (tN 
 (tN tE 
 (tN tE tE)) 
 (tB tE (.cells [vI 2, vI 98] true (some (2, 138))) tE))) 
 (tN 
 (tN 
 (tN tE 
 (tN tE tE)) 
 (tN tE tE)) 
 (tB 
 (tN tE 
 (tB tE (.cells [vS 364 0 210 210] true (some (1, 33))) tE)) (.cells ((vB 100) :: vR 23 (vB 0) ([])) true (some (1, 5))) 
 (tN tE tE)))) 
 (tN 
 (tN 
 (tN 
 (tN tE 
 (tN tE tE)) 
 (tN tE tE)) 
 (tN 
 (tN tE 
 (tN tE tE)) 
 (tN tE tE))) 
 (tN 
 (tN 
 (tN tE 
 (tN tE tE)) 
 (tN tE tE)) 
 (tN tE 
 (tN tE tE)))))))) (.map [⟨vI 0, .agg ⟨vR 128 (vB 0) ([])⟩, 0⟩, ⟨vI 1, .agg ⟨(vB 73) :: (vB 97) :: (vB 8) :: (vB 225) :: (vB 1) :: (vB 1) :: vR 15 (vB 0) ((vB 8) :: (vB 24) :: vR 105 (vB 0) ([]))⟩, 1⟩, ⟨vI 101, .agg ⟨(vB 115) :: (vB 111) :: (vB 70) :: (vB 214) :: (vB 2) :: (vB 1) :: vR 15 (vB 0) ((vB 24) :: (vB 100) :: vR 105 (vB 0) ([]))⟩, 2⟩, ⟨vI 200, .agg ⟨(vB 34) :: (vB 87) :: (vB 164) :: (vB 38) :: (vB 3) :: (vB 1) :: vR 15 (vB 0) ((vB 106) :: (vB 1) :: (vB 5) :: vR 7 (vB 0) ((vB 100) :: (vB 46) :: (vB 48) :: (vB 46) :: (vB 49) :: (vB 4) :: vR 7 (vB 0) ((vB 5) :: vR 7 (vB 0) ((vB 2) :: vR 31 (vB 0) ((vB 6) :: vR 39 (vB 0) ((vB 8) :: (vB 0) :: (vB 0) :: (vB 0) :: []))))))⟩, 3⟩, ⟨vI 201, .agg ⟨(vB 234) :: (vB 80) :: (vB 246) :: (vB 240) :: (vB 3) :: (vB 1) :: vR 7 (vB 0) ((vB 1) :: vR 7 (vB 0) ((vB 104) :: vR 28 (vB 0) ((vB 28) :: vR 7 (vB 0) ((vB 1) :: (vB 3) :: vR 7 (vB 0) ((vB 111) :: (vB 108) :: (vB 100) :: vR 16 (vB 0) ((vB 10) :: vR 7 (vB 0) ((vB 28) :: vR 33 (vB 0) ([]))))))))⟩, 4⟩, ⟨vI 202, .agg ⟨(vB 2) :: (vB 14) :: (vB 194) :: (vB 132) :: (vB 4) :: (vB 1) :: vR 7 (vB 0) ((vB 2) :: vR 7 (vB 0) ((vB 8) :: (vB 2) :: vR 105 (vB 0) ([])))⟩, 5⟩] 6) 
 (tC 
 (tN 
 (tN 
 (tN 
 (tN 
 (tN 
 (tN 
 (tN tE 
 (tN tE tE)) 
 (tN tE tE)) 
 (tN 
 (tN tE 
 (tN tE tE)) 
 (tN tE tE))) 
 (tN 
 (tN 
 (tN tE 
 (tN tE tE)) 
 (tN tE tE)) 
 (tN 
 (tN tE 
 (tN tE tE)) 
 (tN tE tE)))) 
 (tN 
 (tN 
 (tN 
 (tN tE 
 (tN tE tE)) 
 (tN tE tE)) 
 (tN 
 (tN tE 
 (tN tE tE)) 
 (tB tE (.cells [vI 0, vI 2] true (some (2, 138))) tE))) 
 (tN 
 (tN 
 (tN tE 
 (tN tE tE)) 
 (tN tE tE)) 
 (tB tE (.cells [vB 111, vB 108, vB 100] false none) 
 (tN tE tE))))) 
 (tN 
 (tN 
 (tN 
 (tN 
 (tN tE 
 (tN tE tE)) 
 (tN tE tE)) 
 (tN 
 (tN tE 
 (tN tE tE)) 
 (tN tE tE))) 
 (tN 
 (tN 
 (tN tE 
 (tN tE tE)) 
 (tN tE tE)) 
 (tN 
 (tN tE 
 (tN tE tE)) 
 (tN tE tE)))) 
 (tN 
 (tN 
 (tN 
 (tN tE 
 (tN tE tE)) 
 (tN tE tE)) 
 (tN 
 (tN tE 
 (tN tE tE)) 
 (tN tE tE))) 
 (tN 
 (tN 
 (tN tE 
 (tN tE tE)) 
 (tN tE tE)) 
 (tN tE 
 (tN tE tE)))))) 
 (tC 
 (tN 
 (tN 
 (tN 
 (tN 
 (tN tE 
 (tN tE tE)) 
 (tN tE tE)) 
 (tN 
 (tN tE 
 (tN tE tE)) 
 (tN tE tE))) 
 (tN 
 (tN 
 (tN tE 
 (tN tE tE)) 
 (tN tE tE)) 
 (tN 
 (tN tE 
 (tN tE tE)) 
 (tN tE tE)))) 
 (tN 
 (tN 
 (tN 
 (tN tE 
 (tN tE tE)) 
 (tN tE tE)) 
 (tN 
 (tN tE 
 (tN tE tE)) 
 (tN tE tE))) 
 (tN 
 (tN 
 (tN tE 
 (tN tE tE)) 
 (tB tE (.map [] 0) tE)) 
 (tN tE 
 (tN tE tE))))) ((vP 2 0) :: vR 8 (.bool false) ((.map (some 4)) :: [])) 
 (tN 
 (tN 
 (tN 
 (tN 
 (tN tE 
 (tN tE tE)) 
 (tN tE tE)) 
 (tN 
 (tN tE 
 (tN tE tE)) 
 (tN tE tE))) 
 (tN 
 (tN 
 (tN tE 
 (tN tE tE)) 
 (tN tE tE)) 
 (tN 
 (tN tE 
 (tN tE tE)) 
 (tN tE tE)))) 
 (tN 
 (tN 
 (tN 
 (tN tE 
 (tN tE tE)) 
 (tN tE tE)) 
 (tN 
 (tN tE 
 (tN tE tE)) 
 (tN tE tE))) 
 (tN 
 (tN 
 (tN tE 
 (tN tE tE)) 
 (tN tE tE)) 
 (tN tE 
 (tN tE tE))))))) [vI 12, vI (-12), .bool false, .bool false, vI 300, .map (some 0), .slice none 0 0] 
 (tC 
 (tN 
 (tN 
 (tN 
 (tN 
 (tN 
 (tN tE 
 (tN tE tE)) 
 (tN tE tE)) 
 (tN 
 (tN tE 
 (tN tE tE)) 
 (tN tE tE))) 
 (tN 
 (tN 
 (tN tE 
 (tN tE tE)) 
 (tN tE tE)) 
 (tN 
 (tN tE 
 (tN tE tE)) 
 (tN tE tE)))) 
 (tN 
 (tN 
 (tN 
 (tN tE 
 (tN tE tE)) 
 (tN tE tE)) 
 (tN 
 (tN tE 
 (tN tE tE)) 
 (tN tE tE))) 
 (tN 
 (tN 
 (tN tE 
 (tN tE tE)) 
 (tN tE tE)) 
 (tN tE 
 (tN tE tE))))) 
 (tN 
 (tN 
 (tN 
 (tN 
 (tN tE 
 (tN tE tE)) 
 (tN tE tE)) 
 (tN 
 (tN tE 
 (tN tE tE)) 
 (tN tE tE))) 
 (tN 
 (tN 
 (tN tE 
 (tN tE tE)) 
 (tB tE (.map [⟨vT [100, 46, 48, 46, 49], vP 182 0, 0⟩] 1) tE)) 
 (tN 
 (tN tE 
 (tN tE tE)) 
 (tN tE tE)))) 
 (tN 
 (tN 
 (tN 
 (tN tE 
 (tN tE tE)) 
 (tN tE tE)) 
 (tN 
 (tN tE 
 (tN tE tE)) 
 (tN tE tE))) 
 (tN 
 (tN 
 (tN tE 
 (tN tE tE)) 
 (tN tE tE)) 
 (tN tE 
 (tN tE tE)))))) [vI 0, vI 100] 
 (tN 
 (tN 
 (tN 
 (tN 
 (tN 
 (tN tE 
 (tN tE tE)) 
 (tN tE tE)) 
 (tN 
 (tN tE 
 (tN tE tE)) 
 (tN tE tE))) 
 (tN 
 (tN 
 (tN tE 
 (tN tE tE)) 
 (tN tE tE)) 
 (tN 
 (tN tE 
 (tN tE tE)) 
 (tN tE tE)))) 
 (tN 
 (tN 
 (tN 
 (tN tE 
 (tN tE tE)) 
 (tN tE tE)) 
 (tN 
 (tN tE 
 (tN tE tE)) 
 (tN tE tE))) 
 (tN 
 (tN 
 (tN tE 
 (tN tE tE)) 
 (tN tE tE)) 
 (tN tE 
 (tN tE tE))))) 
 (tN 
 (tN 
 (tN 
 (tN 
 (tN tE 
 (tN tE tE)) 
 (tN tE tE)) 
 (tN 
 (tN tE 
 (tN tE tE)) 
 (tN tE tE))) 
 (tN 
 (tN 
 (tN tE 
 (tN tE tE)) 
 (tN tE tE)) 
 (tC 
 (tN tE 
 (tC tE [vI 1] tE)) [vP 1 0, vI 1, vS 110 0 24 24, vS 366 0 1 1, vI 3, .bool false] 
 (tN tE tE)))) 
 (tN 
 (tN 
 (tN 
 (tN tE 
 (tN tE tE)) 
 (tN tE tE)) 
 (tN 
 (tN tE 
 (tN tE tE)) 
 (tN tE tE))) 
 (tN 
 (tN 
 (tN tE 
 (tN tE tE)) 
 (tN tE tE)) 
 (tN tE 
 (tN tE tE)))))))))
noncomputable def cV3 : Value := .nilIface
noncomputable def cR3 : Heap := Heap.mk 720 (tB 
 (tN 
 (tN 
 (tN 
 (tN 
 (tN 
 (tN 
 (tN 
 (tN 
 (tN tE 
 (tN tE tE)) 
 (tN tE tE)) 
 (tN 
 (tN tE 
 (tN tE tE)) 
 (tN tE tE))) 
 (tN 
 (tN 
 (tN tE 
 (tN tE tE)) 
 (tN tE tE)) 
 (tN 
 (tN tE 
 (tN tE tE)) 
 (tN tE tE)))) 
 (tN 
 (tN 
 (tN 
 (tN tE 
 (tN tE tE)) 
 (tN tE tE)) 
 (tN 
 (tN tE 
 (tN tE tE)) 
 (tN tE tE))) 
 (tN 
 (tN 
 (tN tE 
 (tN tE tE)) 
 (tN tE tE)) 
 (tN tE 
 (tC tE [vI 100, vS 529 0 1 1] tE))))) 
 (tN 
 (tN 
 (tN 
 (tN 
 (tN tE 
 (tN tE tE)) 
 (tN tE tE)) 
 (tN 
 (tN tE 
 (tN tE tE)) 
 (tN tE tE))) 
 (tN 
 (tN 
 (tN tE 
 (tN tE tE)) 
 (tN tE tE)) 
 (tN tE 
 (tN tE tE)))) 
 (tN 
 (tN 
 (tN 
 (tN tE 
 (tN tE tE)) 
 (tN tE tE)) 
 (tN 
 (tN tE 
 (tN tE tE)) 
 (tN tE tE))) 
 (tC 
 (tN 
 (tN tE 
 (tN tE tE)) 
 (tB tE (.cells [vB 110, vB 101, vB 119] false none) tE)) [vP 111 0, vP 482 0, .bool false] 
 (tN tE 
 (tC tE [vS 506 0 55 55, .map (some 493), vS 532 0 2 2] tE)))))) 
 (tN 
 (tN 
 (tN 
 (tN 
 (tN 
 (tN tE 
 (tN tE tE)) 
 (tN tE tE)) 
 (tN 
 (tN tE 
 (tN tE tE)) 
 (tN tE tE))) 
 (tN 
 (tN 
 (tN tE 
 (tN tE tE)) 
 (tN tE tE)) 
 (tN 
 (tN tE 
 (tN tE tE)) 
 (tN tE tE)))) 
 (tN 
 (tN 
 (tN 
 (tN tE 
 (tN tE tE)) 
 (tN tE tE)) 
 (tN 
 (tN tE 
 (tN tE tE)) 
 (tN tE tE))) 
 (tN 
 (tN 
 (tN tE 
 (tN tE tE)) 
 (tN tE tE)) 
 (tN tE 
 (tN tE tE))))) 
 (tN 
 (tN 
 (tN 
 (tN 
 (tN tE 
 (tN tE tE)) 
 (tN tE tE)) 
 (tN 
 (tN tE 
 (tN tE tE)) 
 (tN tE tE))) 
 (tN 
 (tN 
 (tN tE 
 (tN tE tE)) 
 (tN tE tE)) 
 (tN tE 
 (tN tE tE)))) 
 (tN 
 (tN 
 (tN 
 (tN tE 
 (tN tE tE)) 
 (tN tE tE)) 
 (tN 
 (tN tE 
 (tN tE tE)) 
 (tN tE tE))) 
 (tN 
 (tN 
 (tN tE 
 (tN tE tE)) 
 (tB tE (.map [] 0) tE)) 
 (tN tE 
 (tN tE tE))))))) 
 (tB 
 (tN 
 (tN 
 (tN 
 (tN 
 (tN 
 (tN tE 
 (tN tE tE)) 
 (tN tE tE)) 
 (tN 
 (tN tE 
 (tN tE tE)) 
 (tN tE tE))) 
 (tN 
 (tN 
 (tN tE 
 (tN tE tE)) 
 (tN tE tE)) 
 (tN 
 (tN tE 
 (tN tE tE)) 
 (tN tE tE)))) 
 (tN 
 (tN 
 (tN 
 (tN tE 
 (tN tE tE)) 
 (tN tE tE)) 
 (tN 
 (tN tE 
 (tN tE tE)) 
 (tN tE tE))) 
 (tN 
 (tN 
 (tN tE 
 (tN tE tE)) 
 (tN tE tE)) 
 (tN tE 
 (tN tE tE))))) 
 (tN 
 (tN 
 (tN 
 (tN 
 (tN tE 
 (tB tE (.cells [vI 0, vI 2, vI 2, vI 2] true (some (2, 138))) tE)) 
 (tN tE tE)) 
 (tN 
 (tN tE 
 (tN tE tE)) 
 (tN tE tE))) 
 (tN 
 (tN 
 (tN tE 
 (tN tE tE)) 
 (tN tE tE)) 
 (tN tE 
 (tN tE tE)))) 
 (tN 
 (tN 
 (tN 
 (tN tE 
 (tN tE tE)) 
 (tN tE tE)) 
 (tN 
 (tN tE 
 (tN tE tE)) 
 (tN tE tE))) 
 (tN 
 (tN 
 (tN tE 
 (tN tE tE)) 
 (tN tE tE)) 
 (tN tE 
 (tN tE tE)))))) (.map [] 0) 
 (tN 
 (tN 
 (tN 
 (tN 
 (tN 
 (tN tE 
 (tN tE tE)) 
 (tN tE tE)) 
 (tN 
 (tN tE 
 (tN tE tE)) 
 (tN tE tE))) 
 (tN 
 (tN 
 (tN tE 
 (tN tE tE)) 
 (tN tE tE)) 
 (tN 
 (tN tE 
 (tN tE tE)) 
 (tN tE tE)))) 
 (tN 
 (tN 
 (tN 
 (tN tE 
 (tN tE tE)) 
 (tN tE tE)) 
 (tC 
 (tN tE 
 (tN tE tE)) ((vP 170 0) :: vR 8 (.bool false) ((.map (some 171)) :: [])) 
 (tN tE tE))) 
 (tN 
 (tN 
 (tN tE 
 (tN tE tE)) 
 (tB tE (.cells ((vB 1) :: (vB 5) :: vR 7 (vB 0) ((vB 100) :: (vB 46) :: (vB 48) :: (vB 46) :: (vB 49) :: (vB 4) :: vR 7 (vB 0) ((vB 5) :: vR 7 (vB 0) ((vB 2) :: vR 31 (vB 0) ((vB 6) :: vR 39 (vB 0) ((vB 8) :: vR 31 (vB 0) ((vB 28) :: vR 7 (vB 0) ((vB 1) :: (vB 3) :: vR 7 (vB 0) ((vB 111) :: (vB 108) :: (vB 100) :: vR 16 (vB 0) ((vB 10) :: vR 7 (vB 0) ((vB 28) :: vR 31 (vB 0) ([])))))))))))) true (some (1, 5))) tE)) 
 (tN tE 
 (tN tE tE))))) 
 (tN 
 (tN 
 (tN 
 (tN 
 (tN tE 
 (tN tE tE)) 
 (tN tE tE)) 
 (tN 
 (tN tE 
 (tN tE tE)) 
 (tN tE tE))) 
 (tN 
 (tN 
 (tN tE 
 (tN tE tE)) 
 (tN tE tE)) 
 (tN tE 
 (tN tE tE)))) 
 (tN 
 (tN 
 (tN 
 (tN tE 
 (tN tE tE)) 
 (tN tE tE)) 
 (tN 
 (tN tE 
 (tN tE tE)) 
 (tN tE tE))) 
 (tN 
 (tN 
 (tN tE 
 (tN tE tE)) 
 (tN tE tE)) 
 (tN tE 
 (tN tE tE)))))))) 
 (tC 
 (tN 
 (tN 
 (tN 
 (tN 
 (tN 
 (tN 
 (tN tE 
 (tN tE tE)) 
 (tN tE tE)) 
 (tN 
 (tN tE 
 (tN tE tE)) 
 (tN tE tE))) 
 (tN 
 (tN 
 (tN tE 
 (tN tE tE)) 
 (tN tE tE)) 
 (tN 
 (tN tE 
 (tN tE tE)) 
 (tN tE tE)))) 
 (tN 
 (tN 
 (tN 
 (tN tE 
 (tN tE tE)) 
 (tN tE tE)) 
 (tN 
 (tN tE 
 (tN tE tE)) 
 (tN tE tE))) 
 (tN 
 (tN 
 (tN tE 
 (tN tE tE)) 
 (tN tE tE)) 
 (tN tE 
 (tC tE ((vP 480 0) :: vR 8 (.bool false) ((.map (some 481)) :: [])) tE))))) 
 (tN 
 (tN 
 (tN 
 (tN 
 (tN tE 
 (tN tE tE)) 
 (tN tE tE)) 
 (tN 
 (tN tE 
 (tN tE tE)) 
 (tN tE tE))) 
 (tN 
 (tN 
 (tN tE 
 (tN tE tE)) 
 (tN tE tE)) 
 (tN tE 
 (tN tE tE)))) 
 (tN 
 (tN 
 (tN 
 (tN tE 
 (tN tE tE)) 
 (tN tE tE)) 
 (tN 
 (tN tE 
 (tN tE tE)) 
 (tN tE tE))) 
 (tN 
 (tN 
 (tN tE 
 (tN tE tE)) 
 (tN tE tE)) 
 (tN tE 
 (tN tE tE)))))) 
 (tN 
 (tN 
 (tN 
 (tN 
 (tN 
 (tN tE 
 (tN tE tE)) 
 (tN tE tE)) 
 (tN 
 (tN tE 
 (tN tE tE)) 
 (tN tE tE))) 
 (tN 
 (tN 
 (tN tE 
 (tN tE tE)) 
 (tN tE tE)) 
 (tN 
 (tN tE 
 (tN tE tE)) 
 (tN tE tE)))) 
 (tN 
 (tN 
 (tN 
 (tN tE 
 (tN tE tE)) 
 (tN tE tE)) 
 (tC 
 (tN tE 
 (tN tE tE)) [vI 100, vS 206 0 1 1] 
 (tN tE tE))) 
 (tN 
 (tN 
 (tN tE 
 (tN tE tE)) 
 (tN tE tE)) 
 (tN tE 
 (tN tE tE))))) 
 (tN 
 (tN 
 (tN 
 (tN 
 (tN tE 
 (tN tE tE)) 
 (tN tE tE)) 
 (tN 
 (tN tE 
 (tN tE tE)) 
 (tN tE tE))) 
 (tN 
 (tN 
 (tN tE 
 (tN tE tE)) 
 (tN tE tE)) 
 (tN tE 
 (tN tE tE)))) 
 (tN 
 (tN 
 (tN 
 (tN tE 
 (tN tE tE)) 
 (tN tE tE)) 
 (tB 
 (tN tE 
 (tN tE tE)) (.cells ((vB 1) :: (vB 3) :: vR 7 (vB 0) ((vB 111) :: (vB 108) :: (vB 100) :: vR 16 (vB 0) ([]))) true (some (1, 5))) 
 (tN tE tE))) 
 (tN 
 (tN 
 (tN tE 
 (tN tE tE)) 
 (tN tE tE)) 
 (tN tE 
 (tB tE (.cells ((vB 1) :: (vB 3) :: vR 7 (vB 0) ((vB 110) :: (vB 101) :: (vB 119) :: (vB 1) :: vR 7 (vB 0) ((vB 1) :: vR 7 (vB 0) ((vB 1) :: vR 7 (vB 0) ((vB 1) :: vR 7 (vB 0) ((vB 3) :: vR 7 (vB 0) ((vB 111) :: (vB 108) :: (vB 100) :: []))))))) true (some (1, 5))) tE))))))) [vI 100, vS 3 0 1 1] 
 (tN 
 (tN 
 (tN 
 (tN 
 (tN 
 (tN 
 (tN tE 
 (tN tE tE)) 
 (tN tE tE)) 
 (tN 
 (tN tE 
 (tN tE tE)) 
 (tN tE tE))) 
 (tN 
 (tN 
 (tN tE 
 (tN tE tE)) 
 (tN tE tE)) 
 (tN 
 (tN tE 
 (tN tE tE)) 
 (tN tE tE)))) 
 (tN 
 (tN 
 (tN 
 (tN tE 
 (tN tE tE)) 
 (tN tE tE)) 
 (tN 
 (tN tE 
 (tN tE tE)) 
 (tN tE tE))) 
 (tN 
 (tN 
 (tN tE 
 (tN tE tE)) 
 (tN tE tE)) 
 (tN tE 
 (tN tE tE))))) 
 (tN 
 (tN 
 (tN 
 (tN 
 (tN tE 
 (tN tE tE)) 
 (tN tE tE)) 
 (tN 
 (tN tE 
 (tN tE tE)) 
 (tN tE tE))) 
 (tN 
 (tN 
 (tN tE 
 (tN tE tE)) 
 (tN tE tE)) 
 (tN tE 
 (tN tE tE)))) 
 (tN 
 (tN 
 (tN 
 (tN tE 
 (tN tE tE)) 
 (tN tE tE)) 
 (tC 
 (tN tE 
 (tN tE tE)) [vS 186 0 28 28, .map (some 181), vS 209 0 1 1] 
 (tN tE tE))) 
 (tN 
 (tN 
 (tN tE 
 (tN tE tE)) 
 (tN tE tE)) 
 (tN tE 
 (tN tE tE)))))) 
 (tN 
 (tN 
 (tN 
 (tN 
 (tN 
 (tN tE 
 (tN tE tE)) 
 (tN tE tE)) 
 (tN 
 (tN tE 
 (tN tE tE)) 
 (tN tE tE))) 
 (tN 
 (tN 
 (tN tE 
 (tN tE tE)) 
 (tN tE tE)) 
 (tB 
 (tN tE 
 (tN tE tE)) (.cells [vI 2, vI 98] true (some (2, 138))) 
 (tN tE tE)))) 
 (tN 
 (tN 
 (tN 
 (tN tE 
 (tN tE tE)) 
 (tN tE tE)) 
 (tN 
 (tN tE 
 (tN tE tE)) 
 (tN tE tE))) 
 (tB 
 (tN 
 (tN tE 
 (tN tE tE)) 
 (tN tE tE)) (.cells ((vB 100) :: vR 23 (vB 0) ([])) true (some (1, 5))) 
 (tN tE 
 (tN tE tE))))) 
 (tN 
 (tN 
 (tN 
 (tN 
 (tN tE 
 (tN tE tE)) 
 (tN tE tE)) 
 (tN 
 (tN tE 
 (tN tE tE)) 
 (tN tE tE))) 
 (tN 
 (tN 
 (tN tE 
 (tN tE tE)) 
 (tN tE tE)) 
 (tN tE 
 (tN tE tE)))) 
 (tN 
 (tN 
 (tN 
 (tN tE 
 (tN tE tE)) 
 (tN tE tE)) 
 (tN 
 (tN tE 
 (tN tE tE)) 
 (tN tE tE))) 
 (tN 
 (tN 
 (tN tE 
 (tN tE tE)) 
 (tN tE tE)) 
 (tN tE 
 (tN tE tE))))))))) (.map [⟨vI 0, .agg ⟨vR 128 (vB 0) ([])⟩, 0⟩, ⟨vI 1, .agg ⟨(vB 73) :: (vB 97) :: (vB 8) :: (vB 225) :: (vB 1) :: (vB 1) :: vR 15 (vB 0) ((vB 8) :: (vB 24) :: vR 105 (vB 0) ([]))⟩, 1⟩, ⟨vI 101, .agg ⟨(vB 115) :: (vB 111) :: (vB 70) :: (vB 214) :: (vB 2) :: (vB 1) :: vR 15 (vB 0) ((vB 24) :: (vB 100) :: vR 105 (vB 0) ([]))⟩, 2⟩, ⟨vI 200, .agg ⟨(vB 34) :: (vB 87) :: (vB 164) :: (vB 38) :: (vB 3) :: (vB 1) :: vR 15 (vB 0) ((vB 106) :: (vB 1) :: (vB 5) :: vR 7 (vB 0) ((vB 100) :: (vB 46) :: (vB 48) :: (vB 46) :: (vB 49) :: (vB 4) :: vR 7 (vB 0) ((vB 5) :: vR 7 (vB 0) ((vB 2) :: vR 31 (vB 0) ((vB 6) :: vR 39 (vB 0) ((vB 8) :: (vB 0) :: (vB 0) :: (vB 0) :: []))))))⟩, 3⟩, ⟨vI 201, .agg ⟨(vB 234) :: (vB 80) :: (vB 246) :: (vB 240) :: (vB 3) :: (vB 1) :: vR 7 (vB 0) ((vB 1) :: vR 7 (vB 0) ((vB 104) :: vR 28 (vB 0) ((vB 28) :: vR 7 (vB 0) ((vB 1) :: (vB 3) :: vR 7 (vB 0) ((vB 111) :: (vB 108) :: (vB 100) :: vR 16 (vB 0) ((vB 10) :: vR 7 (vB 0) ((vB 28) :: vR 33 (vB 0) ([]))))))))⟩, 4⟩, ⟨vI 202, .agg ⟨(vB 2) :: (vB 14) :: (vB 194) :: (vB 132) :: (vB 4) :: (vB 1) :: vR 7 (vB 0) ((vB 2) :: vR 7 (vB 0) ((vB 8) :: (vB 2) :: vR 105 (vB 0) ([])))⟩, 5⟩, ⟨vI 203, .agg ⟨(vB 137) :: (vB 16) :: (vB 45) :: (vB 88) :: (vB 3) :: (vB 1) :: vR 7 (vB 0) ((vB 3) :: vR 7 (vB 0) ((vB 106) :: (vB 1) :: (vB 5) :: vR 7 (vB 0) ((vB 100) :: (vB 46) :: (vB 48) :: (vB 46) :: (vB 49) :: (vB 4) :: vR 7 (vB 0) ((vB 5) :: vR 7 (vB 0) ((vB 2) :: vR 31 (vB 0) ((vB 6) :: vR 39 (vB 0) ((vB 8) :: (vB 0) :: (vB 0) :: (vB 0) :: [])))))))⟩, 6⟩, ⟨vI 204, .agg ⟨(vB 208) :: (vB 14) :: (vB 155) :: (vB 226) :: (vB 3) :: (vB 1) :: vR 7 (vB 0) ((vB 4) :: vR 7 (vB 0) ((vB 106) :: vR 28 (vB 0) ((vB 55) :: vR 7 (vB 0) ((vB 1) :: (vB 3) :: vR 7 (vB 0) ((vB 110) :: (vB 101) :: (vB 119) :: (vB 1) :: vR 7 (vB 0) ((vB 1) :: vR 7 (vB 0) ((vB 1) :: vR 7 (vB 0) ((vB 1) :: vR 7 (vB 0) ((vB 3) :: vR 7 (vB 0) ((vB 111) :: (vB 108) :: (vB 100) :: (vB 10) :: vR 7 (vB 0) ((vB 55) :: vR 6 (vB 0) ([]))))))))))))⟩, 7⟩, ⟨vI 205, .agg ⟨(vB 101) :: (vB 201) :: (vB 251) :: (vB 247) :: (vB 3) :: (vB 1) :: vR 7 (vB 0) ((vB 5) :: vR 7 (vB 0) ((vB 25) :: vR 106 (vB 0) ([])))⟩, 8⟩, ⟨vI 206, .agg ⟨(vB 90) :: (vB 158) :: (vB 139) :: (vB 5) :: (vB 4) :: (vB 1) :: vR 7 (vB 0) ((vB 6) :: vR 7 (vB 0) ((vB 8) :: (vB 3) :: vR 105 (vB 0) ([])))⟩, 9⟩] 10) 
 (tC 
 (tN 
 (tN 
 (tN 
 (tN 
 (tN 
 (tN 
 (tN 
 (tN tE 
 (tN tE tE)) 
 (tN tE tE)) 
 (tN 
 (tN tE 
 (tN tE tE)) 
 (tN tE tE))) 
 (tN 
 (tN 
 (tN tE 
 (tN tE tE)) 
 (tN tE tE)) 
 (tN 
 (tN tE 
 (tN tE tE)) 
 (tN tE tE)))) 
 (tN 
 (tN 
 (tN 
 (tN tE 
 (tN tE tE)) 
 (tN tE tE)) 
 (tN 
 (tN tE 
 (tN tE tE)) 
 (tN tE tE))) 
 (tN 
 (tN 
 (tN tE 
 (tN tE tE)) 
 (tN tE tE)) 
 (tN tE 
 (tB tE (.map [⟨vT [100, 46, 48, 46, 49], vP 496 0, 0⟩] 1) tE))))) 
 (tN 
 (tN 
 (tN 
 (tN 
 (tN tE 
 (tB tE (.cells [vI 4, vI 96] true (some (2, 138))) tE)) 
 (tN tE tE)) 
 (tN 
 (tN tE 
 (tN tE tE)) 
 (tN tE tE))) 
 (tN 
 (tN 
 (tN tE 
 (tN tE tE)) 
 (tN tE tE)) 
 (tB tE (.cells [vI 0, vI 2] true (some (2, 138))) 
 (tN tE tE)))) 
 (tN 
 (tN 
 (tN 
 (tN tE 
 (tN tE tE)) 
 (tN tE tE)) 
 (tN 
 (tN tE 
 (tN tE tE)) 
 (tN tE tE))) 
 (tB 
 (tN 
 (tN tE 
 (tN tE tE)) 
 (tN tE tE)) (.cells [vB 111, vB 108, vB 100] false none) 
 (tN tE 
 (tN tE tE)))))) 
 (tN 
 (tN 
 (tN 
 (tN 
 (tN 
 (tN tE 
 (tN tE tE)) 
 (tN tE tE)) 
 (tN 
 (tN tE 
 (tN tE tE)) 
 (tN tE tE))) 
 (tN 
 (tN 
 (tN tE 
 (tN tE tE)) 
 (tN tE tE)) 
 (tN 
 (tN tE 
 (tN tE tE)) 
 (tN tE tE)))) 
 (tN 
 (tN 
 (tN 
 (tN tE 
 (tN tE tE)) 
 (tN tE tE)) 
 (tN 
 (tN tE 
 (tN tE tE)) 
 (tN tE tE))) 
 (tN 
 (tN 
 (tN tE 
 (tN tE tE)) 
 (tN tE tE)) 
 (tN tE 
 (tN tE tE))))) 
 (tN 
 (tN 
 (tN 
 (tN 
 (tN tE 
 (tN tE tE)) 
 (tN tE tE)) 
 (tN 
 (tN tE 
 (tN tE tE)) 
 (tN tE tE))) 
 (tN 
 (tN 
 (tN tE 
 (tN tE tE)) 
 (tN tE tE)) 
 (tN tE 
 (tN tE tE)))) 
 (tN 
 (tN 
 (tN 
 (tN tE 
 (tN tE tE)) 
 (tN tE tE)) 
 (tN 
 (tN tE 
 (tN tE tE)) 
 (tN tE tE))) 
 (tN 
 (tN 
 (tN tE 
 (tN tE tE)) 
 (tN tE tE)) 
 (tN tE 
 (tN tE tE))))))) 
 (tC 
 (tN 
 (tN 
 (tN 
 (tN 
 (tN 
 (tN tE 
 (tN tE tE)) 
 (tN tE tE)) 
 (tN 
 (tN tE 
 (tN tE tE)) 
 (tB tE (.cells [vI 0, vI 2] true (some (2, 138))) tE))) 
 (tN 
 (tN 
 (tN tE 
 (tN tE tE)) 
 (tN tE tE)) 
 (tN 
 (tN tE 
 (tN tE tE)) 
 (tN tE tE)))) 
 (tN 
 (tN 
 (tN 
 (tN tE 
 (tN tE tE)) 
 (tN tE tE)) 
 (tN 
 (tN tE 
 (tN tE tE)) 
 (tN tE tE))) 
 (tN 
 (tN 
 (tN tE 
 (tN tE tE)) 
 (tN tE tE)) 
 (tN tE 
 (tN tE tE))))) 
 (tN 
 (tN 
 (tN 
 (tN 
 (tN tE 
 (tN tE tE)) 
 (tN tE tE)) 
 (tN 
 (tN tE 
 (tN tE tE)) 
 (tN tE tE))) 
 (tN 
 (tN 
 (tN tE 
 (tN tE tE)) 
 (tN tE tE)) 
 (tN tE 
 (tN tE tE)))) 
 (tN 
 (tN 
 (tN 
 (tN tE 
 (tN tE tE)) 
 (tN tE tE)) 
 (tB 
 (tN tE 
 (tN tE tE)) (.map [] 0) 
 (tN tE tE))) 
 (tN 
 (tN 
 (tN tE 
 (tN tE tE)) 
 (tN tE tE)) 
 (tN tE 
 (tN tE tE)))))) ((vP 2 0) :: vR 8 (.bool false) ((.map (some 4)) :: [])) 
 (tN 
 (tN 
 (tN 
 (tN 
 (tN 
 (tN tE 
 (tN tE tE)) 
 (tN tE tE)) 
 (tN 
 (tN tE 
 (tN tE tE)) 
 (tN tE tE))) 
 (tN 
 (tN 
 (tN tE 
 (tN tE tE)) 
 (tN tE tE)) 
 (tN 
 (tN tE 
 (tB tE (.cells ((vB 1) :: (vB 5) :: vR 7 (vB 0) ((vB 100) :: (vB 46) :: (vB 48) :: (vB 46) :: (vB 49) :: (vB 4) :: vR 7 (vB 0) ((vB 5) :: vR 7 (vB 0) ((vB 2) :: vR 31 (vB 0) ((vB 6) :: vR 39 (vB 0) ((vB 8) :: vR 31 (vB 0) ((vB 55) :: vR 7 (vB 0) ((vB 1) :: (vB 3) :: vR 7 (vB 0) ((vB 110) :: (vB 101) :: (vB 119) :: (vB 1) :: vR 7 (vB 0) ((vB 1) :: vR 7 (vB 0) ((vB 1) :: vR 7 (vB 0) ((vB 1) :: vR 7 (vB 0) ((vB 3) :: vR 7 (vB 0) ((vB 111) :: (vB 108) :: (vB 100) :: (vB 10) :: vR 7 (vB 0) ((vB 55) :: vR 31 (vB 0) ([])))))))))))))))) true (some (1, 5))) tE)) 
 (tN tE tE)))) 
 (tN 
 (tN 
 (tN 
 (tN tE 
 (tN tE tE)) 
 (tN tE tE)) 
 (tN 
 (tN tE 
 (tN tE tE)) 
 (tN tE tE))) 
 (tN 
 (tN 
 (tN tE 
 (tN tE tE)) 
 (tN tE tE)) 
 (tN tE 
 (tB tE (.map [] 0) tE))))) 
 (tN 
 (tN 
 (tN 
 (tN 
 (tN tE 
 (tN tE tE)) 
 (tN tE tE)) 
 (tN 
 (tN tE 
 (tN tE tE)) 
 (tN tE tE))) 
 (tN 
 (tN 
 (tN tE 
 (tN tE tE)) 
 (tN tE tE)) 
 (tN tE 
 (tN tE tE)))) 
 (tN 
 (tN 
 (tN 
 (tN tE 
 (tN tE tE)) 
 (tN tE tE)) 
 (tN 
 (tN tE 
 (tN tE tE)) 
 (tN tE tE))) 
 (tN 
 (tN 
 (tN tE 
 (tN tE tE)) 
 (tN tE tE)) 
 (tN tE 
 (tN tE tE)))))))) [vI 18, vI (-18), .bool false, .bool false, vI 300, .map (some 0), .slice none 0 0] 
 (tC 
 (tN 
 (tN 
 (tN 
 (tN 
 (tN 
 (tN 
 (tN tE 
 (tN tE tE)) 
 (tN tE tE)) 
 (tN 
 (tN tE 
 (tN tE tE)) 
 (tN tE tE))) 
 (tN 
 (tN 
 (tN tE 
 (tN tE tE)) 
 (tN tE tE)) 
 (tN 
 (tN tE 
 (tN tE tE)) 
 (tN tE tE)))) 
 (tN 
 (tN 
 (tN 
 (tN tE 
 (tN tE tE)) 
 (tN tE tE)) 
 (tN 
 (tN tE 
 (tN tE tE)) 
 (tN tE tE))) 
 (tN 
 (tN 
 (tN tE 
 (tN tE tE)) 
 (tN tE tE)) 
 (tN tE 
 (tN tE tE))))) 
 (tN 
 (tN 
 (tN 
 (tN 
 (tN tE 
 (tN tE tE)) 
 (tN tE tE)) 
 (tN 
 (tN tE 
 (tN tE tE)) 
 (tN tE tE))) 
 (tN 
 (tN 
 (tN tE 
 (tN tE tE)) 
 (tN tE tE)) 
 (tN tE 
 (tN tE tE)))) 
 (tN 
 (tN 
 (tN 
 (tN tE 
 (tN tE tE)) 
 (tN tE tE)) 
 (tN 
 (tN tE 
 (tN tE tE)) 
 (tN tE tE))) 
 (tN 
 (tN 
 (tN tE 
 (tN tE tE)) 
 (tN tE tE)) 
 (tN tE 
 (tN tE tE)))))) 
 (tN 
 (tN 
 (tN 
 (tN 
 (tN 
 (tN tE 
 (tN tE tE)) 
 (tN tE tE)) 
 (tN 
 (tN tE 
 (tN tE tE)) 
 (tN tE tE))) 
 (tN 
 (tN 
 (tN tE 
 (tN tE tE)) 
 (tN tE tE)) 
 (tN 
 (tN tE 
 (tN tE tE)) 
 (tN tE tE)))) 
 (tN 
 (tN 
 (tN 
 (tN tE 
 (tN tE tE)) 
 (tN tE tE)) 
 (tB 
 (tN tE 
 (tN tE tE)) (.map [⟨vT [100, 46, 48, 46, 49], vP 379 0, 0⟩] 1) 
 (tN tE tE))) 
 (tN 
 (tN 
 (tN tE 
 (tN tE tE)) 
 (tN tE tE)) 
 (tN tE 
 (tN tE tE))))) 
 (tN 
 (tN 
 (tN 
 (tN 
 (tN tE 
 (tN tE tE)) 
 (tN tE tE)) 
 (tN 
 (tN tE 
 (tN tE tE)) 
 (tN tE tE))) 
 (tN 
 (tN 
 (tN tE 
 (tN tE tE)) 
 (tN tE tE)) 
 (tN tE 
 (tN tE tE)))) 
 (tN 
 (tN 
 (tN 
 (tN tE 
 (tN tE tE)) 
 (tN tE tE)) 
 (tN 
 (tN tE 
 (tN tE tE)) 
 (tN tE tE))) 
 (tN 
 (tN 
 (tN tE 
 (tN tE tE)) 
 (tC tE [vS 375 0 28 28, .map (some 376), vS 389 0 1 1] tE)) 
 (tN tE 
 (tN tE tE))))))) [vI 0, vI 100] 
 (tN 
 (tN 
 (tN 
 (tN 
 (tN 
 (tN 
 (tN tE 
 (tN tE tE)) 
 (tN tE tE)) 
 (tN 
 (tN tE 
 (tN tE tE)) 
 (tN tE tE))) 
 (tN 
 (tN 
 (tN tE 
 (tN tE tE)) 
 (tN tE tE)) 
 (tN 
 (tN tE 
 (tN tE tE)) 
 (tN tE tE)))) 
 (tN 
 (tN 
 (tN 
 (tN tE 
 (tN tE tE)) 
 (tN tE tE)) 
 (tN 
 (tN tE 
 (tN tE tE)) 
 (tN tE tE))) 
 (tN 
 (tN 
 (tN tE 
 (tN tE tE)) 
 (tN tE tE)) 
 (tN tE 
 (tN tE tE))))) 
 (tN 
 (tN 
 (tN 
 (tN 
 (tN tE 
 (tN tE tE)) 
 (tN tE tE)) 
 (tN 
 (tN tE 
 (tN tE tE)) 
 (tN tE tE))) 
 (tN 
 (tN 
 (tN tE 
 (tN tE tE)) 
 (tN tE tE)) 
 (tN tE 
 (tN tE tE)))) 
 (tN 
 (tN 
 (tN 
 (tN tE 
 (tN tE tE)) 
 (tN tE tE)) 
 (tN 
 (tN tE 
 (tN tE tE)) 
 (tN tE tE))) 
 (tN 
 (tN 
 (tN tE 
 (tN tE tE)) 
 (tB tE (.cells ((vB 1) :: (vB 3) :: vR 7 (vB 0) ((vB 111) :: (vB 108) :: (vB 100) :: vR 16 (vB 0) ([]))) true (some (1, 5))) tE)) 
 (tN tE 
 (tN tE tE)))))) 
 (tN 
 (tN 
 (tN 
 (tN 
 (tN 
 (tN tE 
 (tN tE tE)) 
 (tN tE tE)) 
 (tN 
 (tN tE 
 (tN tE tE)) 
 (tN tE tE))) 
 (tN 
 (tN 
 (tN tE 
 (tN tE tE)) 
 (tN tE tE)) 
 (tN 
 (tN tE 
 (tB tE (.cells [vS 364 0 210 210, vS 717 0 237 237] true (some (1, 33))) tE)) 
 (tN tE tE)))) 
 (tN 
 (tN 
 (tN 
 (tN tE 
 (tN tE tE)) 
 (tN tE tE)) 
 (tN 
 (tN tE 
 (tN tE tE)) 
 (tN tE tE))) 
 (tC 
 (tN 
 (tN tE 
 (tN tE tE)) 
 (tC tE [vI 1] tE)) [vP 1 0, vI 1, vS 110 0 24 24, vS 719 0 2 2, vI 7, .bool false] 
 (tN tE 
 (tN tE tE))))) 
 (tN 
 (tN 
 (tN 
 (tN 
 (tN tE 
 (tN tE tE)) 
 (tN tE tE)) 
 (tN 
 (tN tE 
 (tN tE tE)) 
 (tN tE tE))) 
 (tN 
 (tN 
 (tN tE 
 (tN tE tE)) 
 (tN tE tE)) 
 (tN tE 
 (tN tE tE)))) 
 (tN 
 (tN 
 (tN 
 (tN tE 
 (tN tE tE)) 
 (tN tE tE)) 
 (tN 
 (tN tE 
 (tN tE tE)) 
 (tN tE tE))) 
 (tN 
 (tN 
 (tN tE 
 (tN tE tE)) 
 (tN tE tE)) 
 (tN tE 
 (tN tE tE))))))))))
theorem cut_run3 : cutIs cH3 [369, 370, 371, 372, 373, 374, 377, 378, 380, 381, 382, 383, 384, 385, 386, 387, 388, 390, 391, 392, 393, 394, 395, 396, 397, 398, 399, 401, 404, 406, 407, 408, 409, 410, 411, 412, 413, 414, 415, 416, 417, 418, 419, 420, 421, 422, 423, 424, 425, 426, 427, 428, 429, 430, 431, 432, 433, 434, 435, 436, 437, 438, 439, 440, 441, 442, 443, 444, 445, 446, 447, 448, 449, 450, 451, 452, 453, 454, 456, 459, 461, 463, 464, 466, 468, 470, 471, 472, 473, 474, 475, 476, 477, 478, 479, 483, 484, 485, 486, 487, 488, 489, 490, 491, 494, 495, 497, 498, 499, 500, 501, 502, 503, 504, 505, 507, 508, 509, 510, 512, 513, 514, 515, 516, 517, 518, 519, 520, 521, 522, 523, 524, 525, 526, 527, 528, 530, 531, 533, 534, 536, 538, 540, 542, 543, 545, 547, 549, 551, 552, 554, 555, 557, 559, 561, 563, 564, 566, 567, 569, 571, 573, 575, 576, 579, 580, 582, 584, 586, 588, 589, 590, 591, 592, 593, 594, 595, 596, 597, 598, 599, 601, 602, 603, 605, 606, 607, 608, 609, 611, 613, 614, 615, 616, 617, 618, 619, 620, 621, 622, 623, 624, 625, 626, 628, 630, 632, 633, 634, 635, 636, 637, 638, 639, 640, 641, 642, 644, 645, 646, 647, 648, 649, 651, 653, 655, 656, 657, 658, 659, 660, 661, 662, 663, 664, 665, 667, 668, 669, 670, 671, 672, 674, 676, 678, 679, 680, 681, 682, 683, 684, 685, 686, 687, 688, 689, 690, 691, 692, 693, 694, 695, 696, 697, 699, 701, 703, 704, 705, 706, 707, 708, 709, 710, 711, 712, 713, 714, 715, 716, 718] cV3 cR3 ((callF EC2 3000).fn 8 cA3 cH3) = true := by kernel_rfl
noncomputable def EC3 : Env := EC2.tell 8 (cutV EC2 3000 8 cA3 cH3 cV3 cR3)
theorem okC3 : EnvOk Tryz.prog EC3 := tell_ok okC2 (cut_ok okC2 cut_run3)
end Go.Proofs.YtgcghdoggjnllaaGreatDoor.C
