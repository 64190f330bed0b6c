/- Cut3: what one call of function 143 does at one heap of this run: by the kernel. -/
import Derived.Test.YtdeokdbkhkehbaaGreatDoorCut2
import Derived.Test.YtdeokdbkhkehbaaGreatDoorVgF
import Derived.KernelRfl
open Go Go.Vi
namespace Go.Proofs.YtdeokdbkhkehbaaGreatDoor.C
noncomputable def cA3 : List Value := [.agg ⟨[vS 200 0 1000 1000, vS 441 0 1 1, vI 4, vI 0, .bool false, .bool false]⟩]
noncomputable def cH3 : Heap := Heap.mk 442 (tB 
 (tN 
 (tN 
 (tN 
 (tN 
 (tN 
 (tN 
 (tN 
 (tN tE 
 (tN tE tE)) 
 (tN tE 
 (tN tE tE))) 
 (tN 
 (tN tE 
 (tN tE tE)) 
 (tN tE tE))) 
 (tN 
 (tN 
 (tN tE 
 (tN tE tE)) 
 (tN tE 
 (tN tE tE))) 
 (tN 
 (tN tE 
 (tN tE tE)) 
 (tC tE [.slice none 0 0, .slice none 0 0, vI 0, vI 0, .bool false, .bool false] tE)))) 
 (tN 
 (tN 
 (tN 
 (tN tE 
 (tN tE tE)) 
 (tN tE 
 (tN tE tE))) 
 (tN 
 (tN tE 
 (tN tE tE)) 
 (tN tE tE))) 
 (tN 
 (tN 
 (tN tE 
 (tN tE tE)) 
 (tC tE [vS 173 0 24 24] 
 (tB tE (.cells ((vB 2) :: (vB 1) :: vR 15 (vB 0) ((vB 24) :: (vB 188) :: (vB 2) :: vR 104 (vB 0) ([]))) true (some (1, 5))) tE))) 
 (tN 
 (tN tE 
 (tN tE tE)) 
 (tC tE [vB 0] tE))))) 
 (tB 
 (tN 
 (tN 
 (tN 
 (tN tE 
 (tB tE (.cells (vR 8 (vB 0) ([])) true (some (1, 5))) tE)) 
 (tN tE 
 (tN tE tE))) 
 (tN 
 (tN tE 
 (tN tE tE)) 
 (tB tE (.cells (vR 128000 (vB 0) ([])) true (some (128, 250))) tE))) 
 (tN 
 (tN 
 (tN tE 
 (tN tE tE)) 
 (tN tE 
 (tN tE tE))) 
 (tN 
 (tN tE 
 (tN tE tE)) 
 (tC tE [vB 1] tE)))) (.map [] 0) 
 (tN 
 (tN 
 (tN 
 (tN tE 
 (tN tE tE)) 
 (tN tE 
 (tN tE tE))) 
 (tN 
 (tN tE 
 (tN tE tE)) 
 (tN tE tE))) 
 (tN 
 (tN 
 (tN tE 
 (tN tE tE)) 
 (tC tE ((vI 0) :: vR 128 (vB 0) ([])) 
 (tC tE ((vI 334) :: (vB 1) :: (vB 127) :: (vB 227) :: (vB 137) :: (vB 2) :: (vB 1) :: vR 15 (vB 0) ((vB 24) :: (vB 188) :: (vB 2) :: vR 104 (vB 0) ([]))) tE))) 
 (tC 
 (tN tE 
 (tN tE tE)) ((.slice none 0 0) :: (.slice none 0 0) :: (vI 0) :: (vI 0) :: (.bool false) :: (.bool false) :: (vI 0) :: (.slice none 0 0) :: (.slice none 0 0) :: (vI 0) :: (.bool false) :: (.slice none 0 0) :: vR 8 (.bool false) ((.slice none 0 0) :: (.bool false) :: [])) 
 (tN tE tE)))))) 
 (tB 
 (tN 
 (tN 
 (tN 
 (tN 
 (tN tE 
 (tN tE tE)) 
 (tN tE 
 (tN tE tE))) 
 (tN 
 (tN tE 
 (tN tE tE)) 
 (tN tE tE))) 
 (tN 
 (tN 
 (tN tE 
 (tN tE tE)) 
 (tN tE 
 (tN tE tE))) 
 (tN 
 (tN tE 
 (tN tE tE)) 
 (tC tE [vI 2, vI 1, vI 0, vS 173 0 24 24] tE)))) 
 (tN 
 (tN 
 (tN 
 (tN tE 
 (tN tE tE)) 
 (tN tE 
 (tN tE tE))) 
 (tN 
 (tN tE 
 (tN tE tE)) 
 (tN tE tE))) 
 (tN 
 (tN 
 (tN tE 
 (tN tE tE)) 
 (tC tE [vS 118 0 1000 1000, vS 185 0 1 1, vI 1, vI 0, .bool false, .bool false] 
 (tC tE [vS 200 0 1000 1000, vS 441 0 1 1, vI 4, vI 0, .bool false, .bool false] tE))) 
 (tC 
 (tN tE 
 (tN tE tE)) [vP 115 0, vP 9 0, .bool false] 
 (tC tE [vB 0] tE))))) (.map [⟨vI 0, .agg ⟨vR 128 (vB 0) ([])⟩, 0⟩, ⟨vI 1, .agg ⟨(vB 73) :: (vB 97) :: (vB 8) :: (vB 225) :: (vB 1) :: (vB 1) :: vR 15 (vB 0) ((vB 8) :: (vB 24) :: vR 105 (vB 0) ([]))⟩, 1⟩, ⟨vI 334, .agg ⟨(vB 1) :: (vB 127) :: (vB 227) :: (vB 137) :: (vB 2) :: (vB 1) :: vR 15 (vB 0) ((vB 24) :: (vB 188) :: (vB 2) :: vR 104 (vB 0) ([]))⟩, 2⟩] 3) 
 (tN 
 (tN 
 (tN 
 (tN 
 (tN tE 
 (tN tE tE)) 
 (tN tE 
 (tN tE tE))) 
 (tN 
 (tN tE 
 (tN tE tE)) 
 (tB tE (.cells [vS 173 0 24 24] true (some (1, 41))) tE))) 
 (tN 
 (tN 
 (tN tE 
 (tN tE tE)) 
 (tB tE (.cells (vR 8 (vB 0) ([])) true (some (1, 5))) 
 (tN tE tE))) 
 (tN 
 (tN tE 
 (tN tE tE)) 
 (tC tE [vB 0] tE)))) 
 (tN 
 (tN 
 (tN 
 (tN tE 
 (tN tE tE)) 
 (tN tE 
 (tN tE tE))) 
 (tN 
 (tN tE 
 (tN tE tE)) 
 (tB tE (.cells ((vB 24) :: vR 7 (vB 0) ([])) true (some (1, 5))) tE))) 
 (tN 
 (tN 
 (tN tE 
 (tN tE tE)) 
 (tC tE [vS 118 0 1000 1000, vS 194 0 2 2, vI 2, vI 0, .bool false, .bool false] tE)) 
 (tC 
 (tN tE 
 (tN tE tE)) ((vS 123 0 700 700) :: vR 8 (.bool false) ((.slice none 0 0) :: [])) 
 (tN tE tE))))))) 
 (tC 
 (tN 
 (tN 
 (tN 
 (tN 
 (tN 
 (tN tE 
 (tN tE tE)) 
 (tN tE 
 (tN tE tE))) 
 (tN 
 (tN tE 
 (tN tE tE)) 
 (tB tE (.cells ((vI 0) :: vR 128 (vB 0) ((vI 1) :: vR 128 (vB 0) ([]))) true (some (129, 389))) tE))) 
 (tN 
 (tN 
 (tN tE 
 (tN tE tE)) 
 (tN tE 
 (tN tE tE))) 
 (tN 
 (tN tE 
 (tN tE tE)) 
 (tC tE [vI 2, vI 1, vI 0, vS 173 0 24 24] tE)))) 
 (tN 
 (tN 
 (tN 
 (tN tE 
 (tN tE tE)) 
 (tN tE 
 (tN tE tE))) 
 (tN 
 (tN tE 
 (tN tE tE)) 
 (tN tE tE))) 
 (tN 
 (tN 
 (tN tE 
 (tN tE tE)) 
 (tC tE [vS 118 0 1000 1000, vS 185 0 1 1, vI 1, vI 0, .bool false, .bool false] 
 (tC tE [vS 200 0 1000 1000, vS 441 0 1 1, vI 4, vI 0, .bool false, .bool false] tE))) 
 (tB 
 (tN tE 
 (tN tE tE)) (.cells ((vB 188) :: (vB 2) :: vR 22 (vB 0) ([])) true (some (1, 5))) 
 (tC tE [vB 0] tE))))) 
 (tN 
 (tN 
 (tN 
 (tN 
 (tN tE 
 (tC tE [vB 24] tE)) 
 (tN tE 
 (tN tE tE))) 
 (tN 
 (tN tE 
 (tN tE tE)) 
 (tC tE [.slice none 0 0, .slice none 0 0, vI 0, vI 0, .bool false, .bool false] tE))) 
 (tN 
 (tN 
 (tN tE 
 (tN tE tE)) 
 (tN tE 
 (tN tE tE))) 
 (tN 
 (tN tE 
 (tN tE tE)) 
 (tC tE [vB 0] tE)))) 
 (tN 
 (tN 
 (tN 
 (tN tE 
 (tN tE tE)) 
 (tN tE 
 (tN tE tE))) 
 (tN 
 (tN tE 
 (tN tE tE)) 
 (tN tE tE))) 
 (tN 
 (tN 
 (tN tE 
 (tN tE tE)) 
 (tC tE [vS 118 0 1000 1000, vS 194 0 2 2, vI 2, vI 0, .bool false, .bool false] tE)) 
 (tC 
 (tN tE 
 (tN tE tE)) ((vS 123 0 700 700) :: vR 8 (.bool false) ((.slice none 0 0) :: [])) 
 (tN tE tE)))))) [.slice none 0 0, .slice none 0 0, vS 1 0 1 1, .slice none 0 0] 
 (tC 
 (tN 
 (tN 
 (tN 
 (tN 
 (tN tE 
 (tN tE tE)) 
 (tN tE 
 (tN tE tE))) 
 (tN 
 (tN tE 
 (tN tE tE)) 
 (tN tE tE))) 
 (tN 
 (tN 
 (tN tE 
 (tN tE tE)) 
 (tN tE 
 (tN tE tE))) 
 (tN 
 (tN tE 
 (tN tE tE)) 
 (tC tE ((vB 1) :: (vB 127) :: (vB 227) :: (vB 137) :: (vB 2) :: (vB 1) :: vR 15 (vB 0) ((vB 24) :: (vB 188) :: (vB 2) :: vR 104 (vB 0) ([]))) tE)))) 
 (tN 
 (tN 
 (tN 
 (tN tE 
 (tN tE tE)) 
 (tN tE 
 (tN tE tE))) 
 (tN 
 (tN tE 
 (tN tE tE)) 
 (tN tE tE))) 
 (tN 
 (tN 
 (tN tE 
 (tN tE tE)) 
 (tC tE [vS 118 0 1000 1000, .slice none 0 0, vI 1, vI 0, .bool false, .bool false] 
 (tC tE [vS 200 0 1000 1000, .slice none 0 0, vI 4, vI 0, .bool false, .bool false] tE))) 
 (tC 
 (tN tE 
 (tN tE tE)) (vR 128000 (vB 0) ([])) 
 (tC tE [vB 0] tE))))) [vI 700, vS 7 0 1 1] 
 (tN 
 (tN 
 (tN 
 (tN 
 (tN tE 
 (tN tE tE)) 
 (tN tE 
 (tN tE tE))) 
 (tN 
 (tN tE 
 (tN tE tE)) 
 (tN tE tE))) 
 (tN 
 (tN 
 (tN tE 
 (tN tE tE)) 
 (tC tE [vS 200 0 1000 1000, .slice none 0 0, vI 3, vI 0, .bool false, .bool false] 
 (tN tE tE))) 
 (tN 
 (tN tE 
 (tN tE tE)) 
 (tC tE [vB 0] tE)))) 
 (tN 
 (tN 
 (tN 
 (tN tE 
 (tN tE tE)) 
 (tN tE 
 (tN tE tE))) 
 (tN 
 (tN tE 
 (tN tE tE)) 
 (tC tE [vS 200 0 1000 1000, vS 441 0 1 1, vI 4, vI 0, .bool false, .bool false] tE))) 
 (tN 
 (tN 
 (tN tE 
 (tN tE tE)) 
 (tC tE [vS 118 0 1000 1000, vS 185 0 1 1, vI 2, vI 0, .bool false, .bool false] tE)) 
 (tN 
 (tN tE 
 (tN tE tE)) 
 (tN tE tE)))))))) (.cells [vB 120] false none) 
 (tC 
 (tN 
 (tN 
 (tN 
 (tN 
 (tN 
 (tN 
 (tN tE 
 (tC tE [vB 0] tE)) 
 (tC tE [vB 0] 
 (tC tE [vB 0] tE))) 
 (tN 
 (tN tE 
 (tC tE [vB 0] tE)) 
 (tC tE ((vI 1) :: vR 128 (vB 0) ([])) tE))) 
 (tN 
 (tN 
 (tN tE 
 (tC tE [vB 0] tE)) 
 (tC tE [vB 0] 
 (tC tE [vB 0] tE))) 
 (tN 
 (tN tE 
 (tC tE [vB 0] tE)) 
 (tC tE [vS 200 0 1000 1000, .slice none 0 0, vI 3, vI 0, .bool false, .bool false] tE)))) 
 (tN 
 (tN 
 (tN 
 (tN tE 
 (tC tE [vB 0] tE)) 
 (tC tE [vB 0] 
 (tC tE [vB 0] tE))) 
 (tN 
 (tN tE 
 (tC tE [vB 0] tE)) 
 (tC tE [vB 0] tE))) 
 (tN 
 (tN 
 (tN tE 
 (tC tE [vB 0] tE)) 
 (tB tE (.cells [vS 173 0 24 24] true (some (1, 41))) 
 (tC tE ((vB 1) :: (vB 127) :: (vB 227) :: (vB 137) :: (vB 2) :: (vB 1) :: vR 15 (vB 0) ((vB 24) :: (vB 188) :: (vB 2) :: vR 104 (vB 0) ([]))) tE))) 
 (tN 
 (tN tE 
 (tC tE [vB 0] tE)) 
 (tN tE tE))))) 
 (tC 
 (tN 
 (tN 
 (tN 
 (tN tE 
 (tN tE tE)) 
 (tC tE [vB 0] 
 (tC tE [vB 0] tE))) 
 (tN 
 (tN tE 
 (tC tE [vB 0] tE)) 
 (tC tE [vS 200 0 1000 1000, .slice none 0 0, vI 3, vI 0, .bool false, .bool false] tE))) 
 (tN 
 (tN 
 (tN tE 
 (tC tE [vB 0] tE)) 
 (tC tE [vB 0] 
 (tC tE [vB 0] tE))) 
 (tN 
 (tN tE 
 (tC tE [vB 0] tE)) 
 (tN tE tE)))) ((vP 6 0) :: vR 8 (.bool false) ((.map (some 8)) :: [])) 
 (tN 
 (tN 
 (tN 
 (tN tE 
 (tC tE [vB 0] tE)) 
 (tC tE [vB 0] 
 (tC tE [vB 0] tE))) 
 (tN 
 (tN tE 
 (tC tE [vB 0] tE)) 
 (tC tE [vB 0] tE))) 
 (tN 
 (tN 
 (tN tE 
 (tC tE [vB 0] tE)) 
 (tB tE (.cells ((vI 0) :: vR 128 (vB 0) ([])) true (some (129, 389))) 
 (tB tE (.cells ((vI 334) :: (vB 1) :: (vB 127) :: (vB 227) :: (vB 137) :: (vB 2) :: (vB 1) :: vR 15 (vB 0) ((vB 24) :: (vB 188) :: (vB 2) :: vR 104 (vB 0) ([]))) true (some (129, 389))) tE))) 
 (tC 
 (tN tE 
 (tC tE [vB 0] tE)) ((vS 118 0 1000 1000) :: (.slice none 0 0) :: (vI 0) :: (vI 0) :: (.bool false) :: (.bool false) :: (vI 0) :: (.slice none 0 0) :: (.slice none 0 0) :: (vI 0) :: (.bool false) :: (vS 123 0 700 700) :: vR 8 (.bool false) ((.slice none 0 0) :: (.bool false) :: [])) 
 (tC tE [vB 0] tE)))))) 
 (tC 
 (tN 
 (tN 
 (tN 
 (tN 
 (tN tE 
 (tC tE [vB 0] tE)) 
 (tC tE [vB 0] 
 (tC tE [vB 0] tE))) 
 (tN 
 (tN tE 
 (tC tE [vB 0] tE)) 
 (tN tE tE))) 
 (tN 
 (tN 
 (tN tE 
 (tC tE [vB 0] tE)) 
 (tC tE [vB 0] 
 (tC tE [vB 0] tE))) 
 (tN 
 (tN tE 
 (tC tE [vB 0] tE)) 
 (tC tE ((vB 1) :: (vB 127) :: (vB 227) :: (vB 137) :: (vB 2) :: (vB 1) :: vR 15 (vB 0) ((vB 24) :: (vB 188) :: (vB 2) :: vR 104 (vB 0) ([]))) tE)))) 
 (tN 
 (tN 
 (tN 
 (tN tE 
 (tC tE [vB 0] tE)) 
 (tC tE [vB 0] 
 (tC tE [vB 0] tE))) 
 (tN 
 (tN tE 
 (tC tE [vB 0] tE)) 
 (tC tE [vB 0] tE))) 
 (tN 
 (tN 
 (tN tE 
 (tC tE [vB 0] tE)) 
 (tC tE [vS 118 0 1000 1000, .slice none 0 0, vI 1, vI 0, .bool false, .bool false] 
 (tC tE [vS 200 0 1000 1000, .slice none 0 0, vI 4, vI 0, .bool false, .bool false] tE))) 
 (tC 
 (tN tE 
 (tC tE [vB 0] tE)) [vS 118 0 1000 1000, .slice none 0 0, vI 0, vI 0, .bool false, .bool false] 
 (tN tE tE))))) [vI 7, vI (-7), .bool false, .bool false, vI 1000, .map (some 4), .slice none 0 0] 
 (tN 
 (tN 
 (tN 
 (tN 
 (tN tE 
 (tC tE [vB 0] tE)) 
 (tC tE [vB 0] 
 (tC tE [vB 0] tE))) 
 (tN 
 (tN tE 
 (tC tE [vB 0] tE)) 
 (tC tE [vB 24] tE))) 
 (tN 
 (tN 
 (tN tE 
 (tC tE [vB 0] tE)) 
 (tB tE (.cells ((vB 188) :: (vB 2) :: vR 22 (vB 0) ([])) true (some (1, 5))) 
 (tC tE [vB 0] tE))) 
 (tN 
 (tN tE 
 (tC tE [vB 0] tE)) 
 (tN tE tE)))) 
 (tN 
 (tN 
 (tN 
 (tN tE 
 (tC tE [vB 0] tE)) 
 (tC tE [vB 0] 
 (tC tE [vB 0] tE))) 
 (tN 
 (tN tE 
 (tC tE [vB 0] tE)) 
 (tC tE [vI 1, vI 1, vI 0, vS 220 0 8 8] tE))) 
 (tN 
 (tN 
 (tN tE 
 (tC tE [vB 0] tE)) 
 (tC tE [vS 118 0 1000 1000, vS 185 0 1 1, vI 2, vI 0, .bool false, .bool false] tE)) 
 (tC 
 (tN tE 
 (tC tE [vB 0] tE)) [vB 188] 
 (tC tE [vB 0] tE))))))) [vI 7, vI 0, vI 0, vI 0, vS 0 0 1 1] 
 (tC 
 (tN 
 (tN 
 (tN 
 (tN 
 (tN 
 (tN tE 
 (tC tE [vB 0] tE)) 
 (tC tE [vB 0] 
 (tC tE [vB 0] tE))) 
 (tN 
 (tN tE 
 (tC tE [vB 0] tE)) 
 (tN tE tE))) 
 (tN 
 (tN 
 (tN tE 
 (tC tE [vB 0] tE)) 
 (tC tE [vB 0] 
 (tC tE [vB 0] tE))) 
 (tN 
 (tN tE 
 (tC tE [vB 0] tE)) 
 (tC tE [vS 200 0 1000 1000, vS 441 0 1 1, vI 4, vI 0, .bool false, .bool false] tE)))) 
 (tN 
 (tN 
 (tN 
 (tN tE 
 (tC tE [vB 0] tE)) 
 (tC tE [vB 0] 
 (tC tE [vB 0] tE))) 
 (tN 
 (tN tE 
 (tC tE [vB 0] tE)) 
 (tC tE [vB 0] tE))) 
 (tN 
 (tN 
 (tN tE 
 (tC tE [vB 0] tE)) 
 (tC tE (vR 128 (vB 0) ([])) 
 (tC tE ((vB 1) :: (vB 127) :: (vB 227) :: (vB 137) :: (vB 2) :: (vB 1) :: vR 15 (vB 0) ((vB 24) :: (vB 188) :: (vB 2) :: vR 104 (vB 0) ([]))) tE))) 
 (tC 
 (tN tE 
 (tC tE [vB 0] tE)) [vP 5 0, vI 1, vS 114 0 24 24, .slice none 0 0, vI 0, .bool false] 
 (tN tE tE))))) 
 (tN 
 (tN 
 (tN 
 (tN 
 (tN tE 
 (tN tE tE)) 
 (tC tE [vB 0] 
 (tC tE [vB 0] tE))) 
 (tN 
 (tN tE 
 (tC tE [vB 0] tE)) 
 (tC tE [vS 173 0 24 24] tE))) 
 (tN 
 (tN 
 (tN tE 
 (tC tE [vB 0] tE)) 
 (tC tE [vB 0] 
 (tC tE [vB 0] tE))) 
 (tN 
 (tN tE 
 (tC tE [vB 0] tE)) 
 (tN tE tE)))) 
 (tN 
 (tN 
 (tN 
 (tN tE 
 (tC tE [vB 0] tE)) 
 (tC tE [vB 0] 
 (tC tE [vB 0] tE))) 
 (tN 
 (tN tE 
 (tC tE [vB 0] tE)) 
 (tC tE [vB 0] tE))) 
 (tN 
 (tN 
 (tN tE 
 (tC tE [vB 0] tE)) 
 (tC tE (vR 128 (vB 0) ([])) tE)) 
 (tC 
 (tN tE 
 (tC tE [vB 0] tE)) (vR 700 (.bool true) ([])) 
 (tC tE [vB 0] tE)))))) ((.slice none 0 0) :: (.slice none 0 0) :: (vI 0) :: (vI 0) :: (.bool false) :: (.bool false) :: (vI 0) :: (.slice none 0 0) :: (.slice none 0 0) :: (vI 0) :: (.bool false) :: (.slice none 0 0) :: vR 8 (.bool false) ((.slice none 0 0) :: (.bool false) :: [])) 
 (tC 
 (tN 
 (tN 
 (tN 
 (tN 
 (tN tE 
 (tC tE [vB 0] tE)) 
 (tC tE [vB 0] 
 (tC tE [vB 0] tE))) 
 (tN 
 (tN tE 
 (tC tE [vB 0] tE)) 
 (tN tE tE))) 
 (tN 
 (tN 
 (tN tE 
 (tC tE [vB 0] tE)) 
 (tC tE [vB 0] 
 (tC tE [vB 0] tE))) 
 (tN 
 (tN tE 
 (tC tE [vB 0] tE)) 
 (tC tE [vB 2] tE)))) 
 (tN 
 (tN 
 (tN 
 (tN tE 
 (tC tE [vB 0] tE)) 
 (tC tE [vB 0] 
 (tC tE [vB 0] tE))) 
 (tN 
 (tN tE 
 (tC tE [vB 0] tE)) 
 (tC tE [vB 0] tE))) 
 (tN 
 (tN 
 (tN tE 
 (tC tE [vB 0] tE)) 
 (tC tE [] 
 (tC tE [] tE))) 
 (tC 
 (tN tE 
 (tC tE [vB 0] tE)) [vS 118 0 1000 1000, .slice none 0 0, vI 0, vI 0, .bool false, .bool false] 
 (tB tE (.cells ((vB 1) :: vR 7 (vB 0) ([])) true (some (1, 5))) tE))))) [vI 0, vI 700] 
 (tN 
 (tN 
 (tN 
 (tN 
 (tN tE 
 (tC tE [vB 0] tE)) 
 (tC tE [vB 0] 
 (tC tE [vB 0] tE))) 
 (tN 
 (tN tE 
 (tC tE [vB 0] tE)) 
 (tC tE [vB 0] tE))) 
 (tN 
 (tN 
 (tN tE 
 (tC tE [vB 0] tE)) 
 (tC tE [.slice none 0 0, .slice none 0 0, vI 0, vI 0, .bool false, .bool false, vI 0, .slice none 0 0, .slice none 0 0, vI 0, .bool false] 
 (tC tE [vB 0] tE))) 
 (tN 
 (tN tE 
 (tC tE [vB 0] tE)) 
 (tN tE tE)))) 
 (tN 
 (tN 
 (tN 
 (tN tE 
 (tC tE [vB 0] tE)) 
 (tC tE [vB 0] 
 (tC tE [vB 0] tE))) 
 (tN 
 (tN tE 
 (tC tE [vB 0] tE)) 
 (tC tE [vI 1, vI 1, vI 0, vS 220 0 8 8] tE))) 
 (tN 
 (tN 
 (tN tE 
 (tC tE [vB 0] tE)) 
 (tC tE [] tE)) 
 (tC 
 (tN tE 
 (tC tE [vB 0] tE)) [vB 2] 
 (tC tE [vB 0] tE)))))))))
noncomputable def cV3 : Value := .tuple ⟨[.agg ⟨[vS 447 0 1000 1000, .slice none 0 0, vI 5, vI 0, .bool false, .bool false]⟩, vI 0]⟩
noncomputable def cR3 : Heap := Heap.mk 448 (tB 
 (tN 
 (tN 
 (tN 
 (tN 
 (tN 
 (tN 
 (tN 
 (tN tE 
 (tN tE tE)) 
 (tN tE 
 (tN tE tE))) 
 (tN 
 (tN tE 
 (tN tE tE)) 
 (tN tE tE))) 
 (tN 
 (tN 
 (tN tE 
 (tN tE tE)) 
 (tN tE 
 (tN tE tE))) 
 (tN 
 (tN tE 
 (tN tE tE)) 
 (tC tE [.slice none 0 0, .slice none 0 0, vI 0, vI 0, .bool false, .bool false] tE)))) 
 (tN 
 (tN 
 (tN 
 (tN tE 
 (tN tE tE)) 
 (tN tE 
 (tN tE tE))) 
 (tN 
 (tN tE 
 (tN tE tE)) 
 (tN tE tE))) 
 (tN 
 (tN 
 (tN tE 
 (tN tE tE)) 
 (tC tE [vS 173 0 24 24] 
 (tB tE (.cells ((vB 2) :: (vB 1) :: vR 15 (vB 0) ((vB 24) :: (vB 188) :: (vB 2) :: vR 104 (vB 0) ([]))) true (some (1, 5))) tE))) 
 (tN 
 (tN tE 
 (tN tE tE)) 
 (tC tE [vB 0] tE))))) 
 (tB 
 (tN 
 (tN 
 (tN 
 (tN tE 
 (tB tE (.cells (vR 8 (vB 0) ([])) true (some (1, 5))) tE)) 
 (tN tE 
 (tN tE tE))) 
 (tN 
 (tN tE 
 (tN tE tE)) 
 (tB tE (.cells (vR 128000 (vB 0) ([])) true (some (128, 250))) tE))) 
 (tN 
 (tN 
 (tN tE 
 (tN tE tE)) 
 (tN tE 
 (tN tE tE))) 
 (tN 
 (tN tE 
 (tN tE tE)) 
 (tC tE [vB 1] tE)))) (.map [] 0) 
 (tN 
 (tN 
 (tN 
 (tN tE 
 (tN tE tE)) 
 (tN tE 
 (tN tE tE))) 
 (tN 
 (tN tE 
 (tN tE tE)) 
 (tN tE tE))) 
 (tN 
 (tN 
 (tN tE 
 (tN tE tE)) 
 (tC tE ((vI 0) :: vR 128 (vB 0) ([])) 
 (tC tE ((vI 334) :: (vB 1) :: (vB 127) :: (vB 227) :: (vB 137) :: (vB 2) :: (vB 1) :: vR 15 (vB 0) ((vB 24) :: (vB 188) :: (vB 2) :: vR 104 (vB 0) ([]))) tE))) 
 (tC 
 (tN tE 
 (tN tE tE)) ((.slice none 0 0) :: (.slice none 0 0) :: (vI 0) :: (vI 0) :: (.bool false) :: (.bool false) :: (vI 0) :: (.slice none 0 0) :: (.slice none 0 0) :: (vI 0) :: (.bool false) :: (.slice none 0 0) :: vR 8 (.bool false) ((.slice none 0 0) :: (.bool false) :: [])) 
 (tN tE tE)))))) 
 (tB 
 (tN 
 (tN 
 (tN 
 (tN 
 (tN tE 
 (tN tE tE)) 
 (tN tE 
 (tN tE tE))) 
 (tN 
 (tN tE 
 (tN tE tE)) 
 (tN tE tE))) 
 (tN 
 (tN 
 (tN tE 
 (tN tE tE)) 
 (tN tE 
 (tN tE tE))) 
 (tN 
 (tN tE 
 (tN tE tE)) 
 (tC tE [vI 2, vI 1, vI 0, vS 173 0 24 24] tE)))) 
 (tN 
 (tN 
 (tN 
 (tN tE 
 (tN tE tE)) 
 (tN tE 
 (tN tE tE))) 
 (tN 
 (tN tE 
 (tN tE tE)) 
 (tN tE tE))) 
 (tN 
 (tN 
 (tN tE 
 (tN tE tE)) 
 (tC tE [vS 118 0 1000 1000, vS 185 0 1 1, vI 1, vI 0, .bool false, .bool false] 
 (tC tE [vS 200 0 1000 1000, vS 441 0 1 1, vI 4, vI 0, .bool false, .bool false] tE))) 
 (tC 
 (tN tE 
 (tN tE tE)) [vP 115 0, vP 9 0, .bool false] 
 (tC tE [vB 0] tE))))) (.map [⟨vI 0, .agg ⟨vR 128 (vB 0) ([])⟩, 0⟩, ⟨vI 1, .agg ⟨(vB 73) :: (vB 97) :: (vB 8) :: (vB 225) :: (vB 1) :: (vB 1) :: vR 15 (vB 0) ((vB 8) :: (vB 24) :: vR 105 (vB 0) ([]))⟩, 1⟩, ⟨vI 334, .agg ⟨(vB 1) :: (vB 127) :: (vB 227) :: (vB 137) :: (vB 2) :: (vB 1) :: vR 15 (vB 0) ((vB 24) :: (vB 188) :: (vB 2) :: vR 104 (vB 0) ([]))⟩, 2⟩] 3) 
 (tN 
 (tN 
 (tN 
 (tN 
 (tN tE 
 (tN tE tE)) 
 (tN tE 
 (tN tE tE))) 
 (tN 
 (tN tE 
 (tN tE tE)) 
 (tB tE (.cells [vS 173 0 24 24] true (some (1, 41))) tE))) 
 (tN 
 (tN 
 (tN tE 
 (tN tE tE)) 
 (tB tE (.cells (vR 8 (vB 0) ([])) true (some (1, 5))) 
 (tN tE tE))) 
 (tN 
 (tN tE 
 (tN tE tE)) 
 (tC tE [vB 0] tE)))) 
 (tN 
 (tN 
 (tN 
 (tN tE 
 (tN tE tE)) 
 (tN tE 
 (tN tE tE))) 
 (tN 
 (tN tE 
 (tN tE tE)) 
 (tB tE (.cells ((vB 24) :: vR 7 (vB 0) ([])) true (some (1, 5))) tE))) 
 (tN 
 (tN 
 (tN tE 
 (tN tE tE)) 
 (tC tE [vS 118 0 1000 1000, vS 194 0 2 2, vI 2, vI 0, .bool false, .bool false] 
 (tN tE tE))) 
 (tC 
 (tN tE 
 (tN tE tE)) ((vS 123 0 700 700) :: vR 8 (.bool false) ((.slice none 0 0) :: [])) 
 (tN tE tE))))))) 
 (tC 
 (tN 
 (tN 
 (tN 
 (tN 
 (tN 
 (tN tE 
 (tN tE tE)) 
 (tN tE 
 (tN tE tE))) 
 (tN 
 (tN tE 
 (tN tE tE)) 
 (tB tE (.cells ((vI 0) :: vR 128 (vB 0) ((vI 1) :: vR 128 (vB 0) ([]))) true (some (129, 389))) tE))) 
 (tN 
 (tN 
 (tN tE 
 (tN tE tE)) 
 (tN tE 
 (tN tE tE))) 
 (tN 
 (tN tE 
 (tN tE tE)) 
 (tC tE [vI 2, vI 1, vI 0, vS 173 0 24 24] tE)))) 
 (tN 
 (tN 
 (tN 
 (tN tE 
 (tN tE tE)) 
 (tN tE 
 (tN tE tE))) 
 (tN 
 (tN tE 
 (tN tE tE)) 
 (tN tE tE))) 
 (tN 
 (tN 
 (tN tE 
 (tN tE tE)) 
 (tC tE [vS 118 0 1000 1000, vS 185 0 1 1, vI 1, vI 0, .bool false, .bool false] 
 (tC tE [vS 200 0 1000 1000, vS 441 0 1 1, vI 4, vI 0, .bool false, .bool false] tE))) 
 (tB 
 (tN tE 
 (tN tE tE)) (.cells ((vB 188) :: (vB 2) :: vR 22 (vB 0) ([])) true (some (1, 5))) 
 (tC tE [vB 0] tE))))) 
 (tN 
 (tN 
 (tN 
 (tN 
 (tN tE 
 (tC tE [vB 24] tE)) 
 (tN tE 
 (tN tE tE))) 
 (tN 
 (tN tE 
 (tN tE tE)) 
 (tC tE [.slice none 0 0, .slice none 0 0, vI 0, vI 0, .bool false, .bool false] tE))) 
 (tN 
 (tN 
 (tN tE 
 (tN tE tE)) 
 (tN tE 
 (tN tE tE))) 
 (tN 
 (tN tE 
 (tN tE tE)) 
 (tC tE [vB 0] tE)))) 
 (tN 
 (tN 
 (tN 
 (tN tE 
 (tN tE tE)) 
 (tN tE 
 (tN tE tE))) 
 (tN 
 (tN tE 
 (tN tE tE)) 
 (tN tE tE))) 
 (tN 
 (tN 
 (tN tE 
 (tN tE tE)) 
 (tC tE [vS 118 0 1000 1000, vS 194 0 2 2, vI 2, vI 0, .bool false, .bool false] 
 (tN tE tE))) 
 (tC 
 (tN tE 
 (tN tE tE)) ((vS 123 0 700 700) :: vR 8 (.bool false) ((.slice none 0 0) :: [])) 
 (tN tE tE)))))) [.slice none 0 0, .slice none 0 0, vS 1 0 1 1, .slice none 0 0] 
 (tC 
 (tN 
 (tN 
 (tN 
 (tN 
 (tN tE 
 (tN tE tE)) 
 (tN tE 
 (tN tE tE))) 
 (tN 
 (tN tE 
 (tN tE tE)) 
 (tN tE tE))) 
 (tN 
 (tN 
 (tN tE 
 (tN tE tE)) 
 (tN tE 
 (tN tE tE))) 
 (tN 
 (tN tE 
 (tN tE tE)) 
 (tC tE ((vB 1) :: (vB 127) :: (vB 227) :: (vB 137) :: (vB 2) :: (vB 1) :: vR 15 (vB 0) ((vB 24) :: (vB 188) :: (vB 2) :: vR 104 (vB 0) ([]))) tE)))) 
 (tN 
 (tN 
 (tN 
 (tN tE 
 (tN tE tE)) 
 (tN tE 
 (tN tE tE))) 
 (tN 
 (tN tE 
 (tN tE tE)) 
 (tN tE tE))) 
 (tN 
 (tN 
 (tN tE 
 (tN tE tE)) 
 (tC tE [vS 118 0 1000 1000, .slice none 0 0, vI 1, vI 0, .bool false, .bool false] 
 (tC tE [vS 200 0 1000 1000, .slice none 0 0, vI 4, vI 0, .bool false, .bool false] tE))) 
 (tC 
 (tN tE 
 (tN tE tE)) (vR 128000 (vB 0) ([])) 
 (tC tE [vB 0] tE))))) [vI 700, vS 7 0 1 1] 
 (tN 
 (tN 
 (tN 
 (tN 
 (tN tE 
 (tN tE tE)) 
 (tN tE 
 (tN tE tE))) 
 (tN 
 (tN tE 
 (tN tE tE)) 
 (tN tE tE))) 
 (tN 
 (tN 
 (tN tE 
 (tN tE tE)) 
 (tC tE [vS 200 0 1000 1000, .slice none 0 0, vI 3, vI 0, .bool false, .bool false] 
 (tN tE tE))) 
 (tN 
 (tN tE 
 (tN tE tE)) 
 (tC tE [vB 0] tE)))) 
 (tN 
 (tN 
 (tN 
 (tN tE 
 (tN tE tE)) 
 (tN tE 
 (tN tE tE))) 
 (tN 
 (tN tE 
 (tN tE tE)) 
 (tC tE [vS 200 0 1000 1000, vS 441 0 1 1, vI 4, vI 0, .bool false, .bool false] tE))) 
 (tN 
 (tN 
 (tN tE 
 (tN tE tE)) 
 (tC tE [vS 118 0 1000 1000, vS 185 0 1 1, vI 2, vI 0, .bool false, .bool false] 
 (tN tE tE))) 
 (tN 
 (tN tE 
 (tN tE tE)) 
 (tN tE tE)))))))) (.cells [vB 120] false none) 
 (tC 
 (tN 
 (tN 
 (tN 
 (tN 
 (tN 
 (tN 
 (tN tE 
 (tC tE [vB 0] tE)) 
 (tC tE [vB 0] 
 (tC tE [vB 0] tE))) 
 (tN 
 (tN tE 
 (tC tE [vB 0] tE)) 
 (tC tE ((vI 1) :: vR 128 (vB 0) ([])) tE))) 
 (tN 
 (tN 
 (tN tE 
 (tC tE [vB 0] tE)) 
 (tC tE [vB 0] 
 (tC tE [vB 0] tE))) 
 (tN 
 (tN tE 
 (tC tE [vB 0] tE)) 
 (tC tE [vS 200 0 1000 1000, .slice none 0 0, vI 3, vI 0, .bool false, .bool false] tE)))) 
 (tN 
 (tN 
 (tN 
 (tN tE 
 (tC tE [vB 0] tE)) 
 (tC tE [vB 0] 
 (tC tE [vB 0] tE))) 
 (tN 
 (tN tE 
 (tC tE [vB 0] tE)) 
 (tC tE [vB 0] tE))) 
 (tN 
 (tN 
 (tN tE 
 (tC tE [vB 0] tE)) 
 (tB tE (.cells [vS 173 0 24 24] true (some (1, 41))) 
 (tC tE ((vB 1) :: (vB 127) :: (vB 227) :: (vB 137) :: (vB 2) :: (vB 1) :: vR 15 (vB 0) ((vB 24) :: (vB 188) :: (vB 2) :: vR 104 (vB 0) ([]))) tE))) 
 (tN 
 (tN tE 
 (tC tE [vB 0] tE)) 
 (tN tE tE))))) 
 (tC 
 (tN 
 (tN 
 (tN 
 (tN tE 
 (tN tE tE)) 
 (tC tE [vB 0] 
 (tC tE [vB 0] tE))) 
 (tN 
 (tN tE 
 (tC tE [vB 0] tE)) 
 (tC tE [vS 200 0 1000 1000, .slice none 0 0, vI 3, vI 0, .bool false, .bool false] tE))) 
 (tN 
 (tN 
 (tN tE 
 (tC tE [vB 0] tE)) 
 (tC tE [vB 0] 
 (tC tE [vB 0] tE))) 
 (tN 
 (tN tE 
 (tC tE [vB 0] tE)) 
 (tN tE tE)))) ((vP 6 0) :: vR 8 (.bool false) ((.map (some 8)) :: [])) 
 (tN 
 (tN 
 (tN 
 (tN tE 
 (tC tE [vB 0] tE)) 
 (tC tE [vB 0] 
 (tC tE [vB 0] tE))) 
 (tN 
 (tN tE 
 (tC tE [vB 0] tE)) 
 (tC tE [vB 0] tE))) 
 (tN 
 (tN 
 (tN tE 
 (tC tE [vB 0] tE)) 
 (tB tE (.cells ((vI 0) :: vR 128 (vB 0) ([])) true (some (129, 389))) 
 (tB tE (.cells ((vI 334) :: (vB 1) :: (vB 127) :: (vB 227) :: (vB 137) :: (vB 2) :: (vB 1) :: vR 15 (vB 0) ((vB 24) :: (vB 188) :: (vB 2) :: vR 104 (vB 0) ([]))) true (some (129, 389))) tE))) 
 (tC 
 (tN tE 
 (tC tE [vB 0] tE)) ((vS 118 0 1000 1000) :: (.slice none 0 0) :: (vI 0) :: (vI 0) :: (.bool false) :: (.bool false) :: (vI 0) :: (.slice none 0 0) :: (.slice none 0 0) :: (vI 0) :: (.bool false) :: (vS 123 0 700 700) :: vR 8 (.bool false) ((.slice none 0 0) :: (.bool false) :: [])) 
 (tC tE [vB 0] tE)))))) 
 (tC 
 (tN 
 (tN 
 (tN 
 (tN 
 (tN tE 
 (tC tE [vB 0] tE)) 
 (tC tE [vB 0] 
 (tC tE [vB 0] tE))) 
 (tN 
 (tN tE 
 (tC tE [vB 0] tE)) 
 (tN tE tE))) 
 (tN 
 (tN 
 (tN tE 
 (tC tE [vB 0] tE)) 
 (tC tE [vB 0] 
 (tC tE [vB 0] tE))) 
 (tN 
 (tN tE 
 (tC tE [vB 0] tE)) 
 (tC tE ((vB 1) :: (vB 127) :: (vB 227) :: (vB 137) :: (vB 2) :: (vB 1) :: vR 15 (vB 0) ((vB 24) :: (vB 188) :: (vB 2) :: vR 104 (vB 0) ([]))) tE)))) 
 (tN 
 (tN 
 (tN 
 (tN tE 
 (tC tE [vB 0] tE)) 
 (tC tE [vB 0] 
 (tC tE [vB 0] tE))) 
 (tN 
 (tN tE 
 (tC tE [vB 0] tE)) 
 (tC tE [vB 0] tE))) 
 (tN 
 (tN 
 (tN tE 
 (tC tE [vB 0] tE)) 
 (tC tE [vS 118 0 1000 1000, .slice none 0 0, vI 1, vI 0, .bool false, .bool false] 
 (tC tE [vS 200 0 1000 1000, .slice none 0 0, vI 4, vI 0, .bool false, .bool false] tE))) 
 (tC 
 (tN tE 
 (tC tE [vB 0] tE)) [vS 118 0 1000 1000, .slice none 0 0, vI 0, vI 0, .bool false, .bool false] 
 (tN tE tE))))) [vI 7, vI (-7), .bool false, .bool false, vI 1000, .map (some 4), .slice none 0 0] 
 (tN 
 (tN 
 (tN 
 (tN 
 (tN tE 
 (tC tE [vB 0] tE)) 
 (tC tE [vB 0] 
 (tC tE [vB 0] tE))) 
 (tN 
 (tN tE 
 (tC tE [vB 0] tE)) 
 (tC tE [vB 24] tE))) 
 (tN 
 (tN 
 (tN tE 
 (tC tE [vB 0] tE)) 
 (tB tE (.cells ((vB 188) :: (vB 2) :: vR 22 (vB 0) ([])) true (some (1, 5))) 
 (tC tE [vB 0] tE))) 
 (tN 
 (tN tE 
 (tC tE [vB 0] tE)) 
 (tN tE tE)))) 
 (tN 
 (tN 
 (tN 
 (tN tE 
 (tC tE [vB 0] tE)) 
 (tC tE [vB 0] 
 (tC tE [vB 0] tE))) 
 (tN 
 (tN tE 
 (tC tE [vB 0] tE)) 
 (tC tE [vI 1, vI 1, vI 0, vS 220 0 8 8] tE))) 
 (tN 
 (tN 
 (tN tE 
 (tC tE [vB 0] tE)) 
 (tC tE [vS 118 0 1000 1000, vS 185 0 1 1, vI 2, vI 0, .bool false, .bool false] 
 (tN tE tE))) 
 (tC 
 (tN tE 
 (tC tE [vB 0] tE)) [vB 188] 
 (tC tE [vB 0] tE))))))) [vI 7, vI 0, vI 0, vI 0, vS 0 0 1 1] 
 (tC 
 (tN 
 (tN 
 (tN 
 (tN 
 (tN 
 (tN tE 
 (tC tE [vB 0] tE)) 
 (tC tE [vB 0] 
 (tC tE [vB 0] tE))) 
 (tN 
 (tN tE 
 (tC tE [vB 0] tE)) 
 (tN tE tE))) 
 (tN 
 (tN 
 (tN tE 
 (tC tE [vB 0] tE)) 
 (tC tE [vB 0] 
 (tC tE [vB 0] tE))) 
 (tN 
 (tN tE 
 (tC tE [vB 0] tE)) 
 (tC tE [vS 200 0 1000 1000, vS 441 0 1 1, vI 4, vI 0, .bool false, .bool false] tE)))) 
 (tN 
 (tN 
 (tN 
 (tN tE 
 (tC tE [vB 0] tE)) 
 (tC tE [vB 0] 
 (tC tE [vB 0] tE))) 
 (tN 
 (tN tE 
 (tC tE [vB 0] tE)) 
 (tC tE [vB 0] tE))) 
 (tN 
 (tN 
 (tN tE 
 (tC tE [vB 0] tE)) 
 (tC tE (vR 128 (vB 0) ([])) 
 (tC tE ((vB 1) :: (vB 127) :: (vB 227) :: (vB 137) :: (vB 2) :: (vB 1) :: vR 15 (vB 0) ((vB 24) :: (vB 188) :: (vB 2) :: vR 104 (vB 0) ([]))) tE))) 
 (tC 
 (tN tE 
 (tC tE [vB 0] tE)) [vP 5 0, vI 1, vS 114 0 24 24, .slice none 0 0, vI 0, .bool false] 
 (tN tE tE))))) 
 (tN 
 (tN 
 (tN 
 (tN 
 (tN tE 
 (tN tE tE)) 
 (tC tE [vB 0] 
 (tC tE [vB 0] tE))) 
 (tN 
 (tN tE 
 (tC tE [vB 0] tE)) 
 (tC tE [vS 173 0 24 24] tE))) 
 (tN 
 (tN 
 (tN tE 
 (tC tE [vB 0] tE)) 
 (tC tE [vB 0] 
 (tC tE [vB 0] tE))) 
 (tN 
 (tN tE 
 (tC tE [vB 0] tE)) 
 (tN tE tE)))) 
 (tN 
 (tN 
 (tN 
 (tN tE 
 (tC tE [vB 0] tE)) 
 (tC tE [vB 0] 
 (tC tE [vB 0] tE))) 
 (tN 
 (tN tE 
 (tC tE [vB 0] tE)) 
 (tC tE [vB 0] tE))) 
 (tN 
 (tN 
 (tN tE 
 (tC tE [vB 0] tE)) 
 (tC tE (vR 128 (vB 0) ([])) 
 (tN tE tE))) 
 (tC 
 (tN tE 
 (tC tE [vB 0] tE)) (vR 700 (.bool true) ([])) 
 (tC tE [vB 0] tE)))))) ((.slice none 0 0) :: (.slice none 0 0) :: (vI 0) :: (vI 0) :: (.bool false) :: (.bool false) :: (vI 0) :: (.slice none 0 0) :: (.slice none 0 0) :: (vI 0) :: (.bool false) :: (.slice none 0 0) :: vR 8 (.bool false) ((.slice none 0 0) :: (.bool false) :: [])) 
 (tC 
 (tN 
 (tN 
 (tN 
 (tN 
 (tN tE 
 (tC tE [vB 0] tE)) 
 (tC tE [vB 0] 
 (tC tE [vB 0] tE))) 
 (tN 
 (tN tE 
 (tC tE [vB 0] tE)) 
 (tN tE tE))) 
 (tN 
 (tN 
 (tN tE 
 (tC tE [vB 0] tE)) 
 (tC tE [vB 0] 
 (tC tE [vB 0] tE))) 
 (tN 
 (tN tE 
 (tC tE [vB 0] tE)) 
 (tC tE [vB 2] tE)))) 
 (tN 
 (tN 
 (tN 
 (tN tE 
 (tC tE [vB 0] tE)) 
 (tC tE [vB 0] 
 (tC tE [vB 0] tE))) 
 (tN 
 (tN tE 
 (tC tE [vB 0] tE)) 
 (tC tE [vB 0] tE))) 
 (tN 
 (tN 
 (tN tE 
 (tC tE [vB 0] tE)) 
 (tC tE [] 
 (tC tE [] tE))) 
 (tC 
 (tN tE 
 (tC tE [vB 0] tE)) [vS 118 0 1000 1000, .slice none 0 0, vI 0, vI 0, .bool false, .bool false] 
 (tB tE (.cells ((vB 1) :: vR 7 (vB 0) ([])) true (some (1, 5))) tE))))) [vI 0, vI 700] 
 (tN 
 (tN 
 (tN 
 (tN 
 (tN tE 
 (tC tE [vB 0] tE)) 
 (tC tE [vB 0] 
 (tC tE [vB 0] tE))) 
 (tN 
 (tN tE 
 (tC tE [vB 0] tE)) 
 (tC tE [vB 0] tE))) 
 (tN 
 (tN 
 (tN tE 
 (tC tE [vB 0] tE)) 
 (tC tE [.slice none 0 0, .slice none 0 0, vI 0, vI 0, .bool false, .bool false, vI 0, .slice none 0 0, .slice none 0 0, vI 0, .bool false] 
 (tC tE [vB 0] tE))) 
 (tN 
 (tN tE 
 (tC tE [vB 0] tE)) 
 (tN tE tE)))) 
 (tN 
 (tN 
 (tN 
 (tN tE 
 (tC tE [vB 0] tE)) 
 (tC tE [vB 0] 
 (tC tE [vB 0] tE))) 
 (tN 
 (tN tE 
 (tC tE [vB 0] tE)) 
 (tC tE [vI 1, vI 1, vI 0, vS 220 0 8 8] tE))) 
 (tN 
 (tN 
 (tN tE 
 (tC tE [vB 0] tE)) 
 (tC tE [] 
 (tB tE (.cells (vR 42752 (vB 0) ((vB 1) :: (vB 127) :: (vB 227) :: (vB 137) :: (vB 2) :: (vB 1) :: vR 15 (vB 0) ((vB 24) :: (vB 188) :: (vB 2) :: vR 85224 (vB 0) ([])))) true (some (128, 250))) tE))) 
 (tC 
 (tN tE 
 (tC tE [vB 0] tE)) [vB 2] 
 (tC tE [vB 0] tE)))))))))
theorem cut_run3 : cutIs cH3 [442, 443, 444, 445, 446] cV3 cR3 ((callF EC2 3000).fn 143 cA3 cH3) = true := by kernel_rfl
noncomputable def EC3 : Env := EC2.tell 143 (cutV EC2 3000 143 cA3 cH3 cV3 cR3)
theorem okC3 : EnvOk Tryz.prog EC3 := tell_ok okC2 (cut_ok okC2 cut_run3)
end Go.Proofs.YtdeokdbkhkehbaaGreatDoor.C
