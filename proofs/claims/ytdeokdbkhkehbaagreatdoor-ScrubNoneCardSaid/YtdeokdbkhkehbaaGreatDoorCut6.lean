/- Cut6: what one call of function 23 does at one heap of this run: by the kernel. -/
import Derived.Test.YtdeokdbkhkehbaaGreatDoorCut5
import Derived.Test.YtdeokdbkhkehbaaGreatDoorVgF
import Derived.KernelRfl
open Go Go.Vi
namespace Go.Proofs.YtdeokdbkhkehbaaGreatDoor.C
noncomputable def cA6 : List Value := [vP 116 0, vI (-1), vI 7, vI 0, .agg ⟨[vI 0, .slice none 0 0]⟩, .agg ⟨[vI 1, vI 0, vI 0, vS 0 0 1 1]⟩]
noncomputable def cH6 : Heap := Heap.mk 707 (tB 
 (tN 
 (tN 
 (tN 
 (tN 
 (tN 
 (tN 
 (tN 
 (tN 
 (tN tE 
 (tN tE tE)) 
 (tN tE tE)) 
 (tN 
 (tN tE 
 (tN tE tE)) 
 (tN tE tE))) 
 (tN 
 (tN 
 (tN tE 
 (tN tE tE)) 
 (tN tE tE)) 
 (tN 
 (tN tE 
 (tC tE ((vS 702 0 1000 1000) :: (.slice none 0 0) :: (vI 7) :: (vI 0) :: (.bool false) :: (.bool false) :: (vI 1) :: (vS 173 0 24 24) :: (.slice none 0 0) :: (vI 0) :: (.bool false) :: (vS 123 0 700 700) :: vR 8 (.bool false) ((.slice none 0 0) :: (.bool false) :: [])) tE)) 
 (tN tE tE)))) 
 (tN 
 (tN 
 (tN 
 (tN tE 
 (tN tE tE)) 
 (tN tE tE)) 
 (tN 
 (tN tE 
 (tN tE tE)) 
 (tN tE tE))) 
 (tN 
 (tN 
 (tN tE 
 (tN tE tE)) 
 (tN tE tE)) 
 (tN tE 
 (tN tE tE))))) 
 (tN 
 (tN 
 (tN 
 (tN 
 (tN tE 
 (tN tE tE)) 
 (tN tE tE)) 
 (tN 
 (tN tE 
 (tN tE tE)) 
 (tN tE tE))) 
 (tN 
 (tN 
 (tN tE 
 (tN tE tE)) 
 (tN tE tE)) 
 (tN tE 
 (tN tE tE)))) 
 (tN 
 (tN 
 (tN 
 (tN tE 
 (tN tE tE)) 
 (tN tE tE)) 
 (tN 
 (tN tE 
 (tN tE tE)) 
 (tN tE tE))) 
 (tN 
 (tN 
 (tN tE 
 (tN tE tE)) 
 (tN tE tE)) 
 (tN tE 
 (tN tE tE)))))) 
 (tB 
 (tN 
 (tN 
 (tN 
 (tN 
 (tN tE 
 (tN tE tE)) 
 (tN tE tE)) 
 (tN 
 (tN tE 
 (tN tE tE)) 
 (tN tE tE))) 
 (tN 
 (tN 
 (tN tE 
 (tN tE tE)) 
 (tN tE tE)) 
 (tN tE 
 (tN tE tE)))) 
 (tN 
 (tN 
 (tN 
 (tN tE 
 (tN tE tE)) 
 (tN tE tE)) 
 (tN 
 (tN tE 
 (tN tE tE)) 
 (tN tE tE))) 
 (tN 
 (tN 
 (tN tE 
 (tN tE tE)) 
 (tN tE tE)) 
 (tN tE 
 (tN tE tE))))) (.map [] 0) 
 (tN 
 (tN 
 (tN 
 (tN 
 (tN tE 
 (tN tE tE)) 
 (tN tE tE)) 
 (tN 
 (tN tE 
 (tN tE tE)) 
 (tN tE tE))) 
 (tN 
 (tN 
 (tN tE 
 (tN tE tE)) 
 (tN tE tE)) 
 (tN tE 
 (tN tE tE)))) 
 (tN 
 (tN 
 (tN 
 (tN tE 
 (tN tE tE)) 
 (tN tE tE)) 
 (tN 
 (tN tE 
 (tN tE tE)) 
 (tN tE tE))) 
 (tN 
 (tN 
 (tN tE 
 (tN tE tE)) 
 (tN tE tE)) 
 (tN tE 
 (tN tE tE))))))) 
 (tB 
 (tN 
 (tN 
 (tN 
 (tN 
 (tN 
 (tN tE 
 (tN tE tE)) 
 (tN tE tE)) 
 (tN 
 (tN tE 
 (tN tE tE)) 
 (tN tE tE))) 
 (tN 
 (tN 
 (tN tE 
 (tN tE tE)) 
 (tN tE tE)) 
 (tN tE 
 (tN tE tE)))) 
 (tN 
 (tN 
 (tN 
 (tN tE 
 (tN tE tE)) 
 (tN tE tE)) 
 (tN 
 (tN tE 
 (tN tE tE)) 
 (tN tE tE))) 
 (tN 
 (tN 
 (tN tE 
 (tN tE tE)) 
 (tN tE tE)) 
 (tN tE 
 (tN tE tE))))) 
 (tN 
 (tN 
 (tN 
 (tN 
 (tN tE 
 (tN tE tE)) 
 (tN tE tE)) 
 (tN 
 (tN tE 
 (tN tE tE)) 
 (tN tE tE))) 
 (tN 
 (tN 
 (tN tE 
 (tN tE tE)) 
 (tN tE tE)) 
 (tN tE 
 (tN tE tE)))) 
 (tN 
 (tN 
 (tN 
 (tN tE 
 (tN tE tE)) 
 (tN tE tE)) 
 (tN 
 (tN tE 
 (tN tE tE)) 
 (tN tE tE))) 
 (tC 
 (tN 
 (tN tE 
 (tN tE tE)) 
 (tN tE tE)) [vP 115 0, vP 9 0, .bool false] 
 (tN tE 
 (tN tE tE)))))) (.map [⟨vI 0, .agg ⟨vR 128 (vB 0) ([])⟩, 0⟩, ⟨vI 1, .agg ⟨(vB 73) :: (vB 97) :: (vB 8) :: (vB 225) :: (vB 1) :: (vB 1) :: vR 15 (vB 0) ((vB 8) :: (vB 24) :: vR 105 (vB 0) ([]))⟩, 1⟩, ⟨vI 334, .agg ⟨(vB 1) :: (vB 127) :: (vB 227) :: (vB 137) :: (vB 2) :: (vB 1) :: vR 15 (vB 0) ((vB 24) :: (vB 188) :: (vB 2) :: vR 104 (vB 0) ([]))⟩, 2⟩] 3) 
 (tN 
 (tN 
 (tN 
 (tN 
 (tN 
 (tN tE 
 (tN tE tE)) 
 (tN tE tE)) 
 (tN 
 (tN tE 
 (tN tE tE)) 
 (tN tE tE))) 
 (tN 
 (tN 
 (tN tE 
 (tN tE tE)) 
 (tN tE tE)) 
 (tN tE 
 (tN tE tE)))) 
 (tN 
 (tN 
 (tN 
 (tN tE 
 (tN tE tE)) 
 (tN tE tE)) 
 (tN 
 (tN tE 
 (tN tE tE)) 
 (tN tE tE))) 
 (tN 
 (tN 
 (tN tE 
 (tN tE tE)) 
 (tN tE tE)) 
 (tN tE 
 (tN tE tE))))) 
 (tN 
 (tN 
 (tN 
 (tN 
 (tN tE 
 (tN tE tE)) 
 (tN tE tE)) 
 (tN 
 (tN tE 
 (tN tE tE)) 
 (tN tE tE))) 
 (tN 
 (tN 
 (tN tE 
 (tN tE tE)) 
 (tN tE tE)) 
 (tN tE 
 (tN tE tE)))) 
 (tN 
 (tN 
 (tN 
 (tN tE 
 (tN tE tE)) 
 (tN tE tE)) 
 (tN 
 (tN tE 
 (tN tE tE)) 
 (tN tE tE))) 
 (tN 
 (tN 
 (tN tE 
 (tN tE tE)) 
 (tN tE tE)) 
 (tN tE 
 (tN tE tE)))))))) 
 (tC 
 (tN 
 (tN 
 (tN 
 (tN 
 (tN 
 (tN 
 (tN tE 
 (tN tE tE)) 
 (tN tE tE)) 
 (tN 
 (tN tE 
 (tN tE tE)) 
 (tN tE tE))) 
 (tN 
 (tN 
 (tN tE 
 (tN tE tE)) 
 (tN tE tE)) 
 (tN 
 (tN tE 
 (tC tE [vI 0, .slice none 0 0] tE)) 
 (tN tE tE)))) 
 (tN 
 (tN 
 (tN 
 (tN tE 
 (tN tE tE)) 
 (tN tE tE)) 
 (tN 
 (tN tE 
 (tN tE tE)) 
 (tN tE tE))) 
 (tN 
 (tN 
 (tN tE 
 (tN tE tE)) 
 (tN tE tE)) 
 (tN tE 
 (tN tE tE))))) 
 (tN 
 (tN 
 (tN 
 (tN 
 (tN tE 
 (tN tE tE)) 
 (tN tE tE)) 
 (tN 
 (tN tE 
 (tN tE tE)) 
 (tN tE tE))) 
 (tN 
 (tN 
 (tN tE 
 (tN tE tE)) 
 (tN tE tE)) 
 (tN tE 
 (tN tE tE)))) 
 (tN 
 (tN 
 (tN 
 (tN tE 
 (tN tE tE)) 
 (tN tE tE)) 
 (tN 
 (tN tE 
 (tN tE tE)) 
 (tN tE tE))) 
 (tB 
 (tN 
 (tN tE 
 (tN tE tE)) 
 (tN tE tE)) (.cells ((vB 188) :: (vB 2) :: vR 22 (vB 0) ([])) true (some (1, 5))) 
 (tN tE 
 (tN tE tE)))))) 
 (tN 
 (tN 
 (tN 
 (tN 
 (tN 
 (tN tE 
 (tN tE tE)) 
 (tN tE tE)) 
 (tN 
 (tN tE 
 (tN tE tE)) 
 (tN tE tE))) 
 (tN 
 (tN 
 (tN tE 
 (tN tE tE)) 
 (tN tE tE)) 
 (tN tE 
 (tN tE tE)))) 
 (tN 
 (tN 
 (tN 
 (tN tE 
 (tN tE tE)) 
 (tN tE tE)) 
 (tN 
 (tN tE 
 (tN tE tE)) 
 (tN tE tE))) 
 (tN 
 (tN 
 (tN tE 
 (tN tE tE)) 
 (tN tE tE)) 
 (tN tE 
 (tN tE tE))))) 
 (tN 
 (tN 
 (tN 
 (tN 
 (tN tE 
 (tN tE tE)) 
 (tN tE tE)) 
 (tN 
 (tN tE 
 (tN tE tE)) 
 (tN tE tE))) 
 (tN 
 (tN 
 (tN tE 
 (tN tE tE)) 
 (tN tE tE)) 
 (tN tE 
 (tN tE tE)))) 
 (tN 
 (tN 
 (tN 
 (tN tE 
 (tN tE tE)) 
 (tN tE tE)) 
 (tN 
 (tN tE 
 (tN tE tE)) 
 (tN tE tE))) 
 (tN 
 (tN 
 (tN tE 
 (tN tE tE)) 
 (tN tE tE)) 
 (tN tE 
 (tN tE tE))))))) [.slice none 0 0, .slice none 0 0, vS 1 0 1 1, .slice none 0 0] 
 (tC 
 (tN 
 (tN 
 (tN 
 (tN 
 (tN 
 (tN tE 
 (tN tE tE)) 
 (tN tE tE)) 
 (tN 
 (tN tE 
 (tN tE tE)) 
 (tN tE tE))) 
 (tN 
 (tN 
 (tN tE 
 (tN tE tE)) 
 (tN tE tE)) 
 (tN tE 
 (tN tE tE)))) 
 (tN 
 (tN 
 (tN 
 (tN tE 
 (tN tE tE)) 
 (tN tE tE)) 
 (tN 
 (tN tE 
 (tN tE tE)) 
 (tN tE tE))) 
 (tN 
 (tN 
 (tN tE 
 (tN tE tE)) 
 (tN tE tE)) 
 (tN tE 
 (tN tE tE))))) 
 (tN 
 (tN 
 (tN 
 (tN 
 (tN tE 
 (tN tE tE)) 
 (tN tE tE)) 
 (tN 
 (tN tE 
 (tN tE tE)) 
 (tN tE tE))) 
 (tN 
 (tN 
 (tN tE 
 (tN tE tE)) 
 (tN tE tE)) 
 (tN tE 
 (tN tE tE)))) 
 (tN 
 (tN 
 (tN 
 (tN tE 
 (tN tE tE)) 
 (tN tE tE)) 
 (tN 
 (tN tE 
 (tN tE tE)) 
 (tN tE tE))) 
 (tC 
 (tN 
 (tN tE 
 (tN tE tE)) 
 (tN tE tE)) (vR 128000 (vB 0) ([])) 
 (tN tE 
 (tN tE tE)))))) [vI 700, vS 7 0 1 1] 
 (tN 
 (tN 
 (tN 
 (tN 
 (tN 
 (tN tE 
 (tN tE tE)) 
 (tN tE tE)) 
 (tN 
 (tN tE 
 (tN tE tE)) 
 (tN tE tE))) 
 (tN 
 (tN 
 (tN tE 
 (tN tE tE)) 
 (tN tE tE)) 
 (tN tE 
 (tN tE tE)))) 
 (tN 
 (tN 
 (tN 
 (tN tE 
 (tN tE tE)) 
 (tN tE tE)) 
 (tN 
 (tN tE 
 (tN tE tE)) 
 (tN tE tE))) 
 (tN 
 (tN 
 (tN tE 
 (tN tE tE)) 
 (tN tE tE)) 
 (tN tE 
 (tN tE tE))))) 
 (tN 
 (tN 
 (tN 
 (tN 
 (tN tE 
 (tN tE tE)) 
 (tN tE tE)) 
 (tN 
 (tN tE 
 (tN tE tE)) 
 (tN tE tE))) 
 (tN 
 (tN 
 (tN tE 
 (tN tE tE)) 
 (tN tE tE)) 
 (tN tE 
 (tN tE tE)))) 
 (tN 
 (tN 
 (tN 
 (tN tE 
 (tN tE tE)) 
 (tN tE tE)) 
 (tN 
 (tN tE 
 (tB tE (.cells (vR 128 (vB 0) ((vB 73) :: (vB 97) :: (vB 8) :: (vB 225) :: (vB 1) :: (vB 1) :: vR 15 (vB 0) ((vB 8) :: (vB 24) :: vR 42601 (vB 0) ((vB 1) :: (vB 127) :: (vB 227) :: (vB 137) :: (vB 2) :: (vB 1) :: vR 15 (vB 0) ((vB 24) :: (vB 188) :: (vB 2) :: vR 85224 (vB 0) ([])))))) true (some (128, 250))) tE)) 
 (tN tE tE))) 
 (tN 
 (tN 
 (tN tE 
 (tN tE tE)) 
 (tN tE tE)) 
 (tN tE 
 (tN tE tE))))))))) (.cells [vB 120] false none) 
 (tC 
 (tN 
 (tN 
 (tN 
 (tN 
 (tN 
 (tN 
 (tN 
 (tN tE 
 (tN tE tE)) 
 (tN tE tE)) 
 (tN 
 (tN tE 
 (tN tE tE)) 
 (tN tE tE))) 
 (tN 
 (tN 
 (tN tE 
 (tN tE tE)) 
 (tN tE tE)) 
 (tN 
 (tN tE 
 (tC tE [vI 7, vI 0, vI 0, vI 0, vS 0 0 1 1] tE)) 
 (tN tE tE)))) 
 (tN 
 (tN 
 (tN 
 (tN tE 
 (tN tE tE)) 
 (tN tE tE)) 
 (tN 
 (tN tE 
 (tN tE tE)) 
 (tN tE tE))) 
 (tN 
 (tN 
 (tN tE 
 (tN tE tE)) 
 (tN tE tE)) 
 (tN tE 
 (tN tE tE))))) 
 (tN 
 (tN 
 (tN 
 (tN 
 (tN tE 
 (tN tE tE)) 
 (tN tE tE)) 
 (tN 
 (tN tE 
 (tN tE tE)) 
 (tN tE tE))) 
 (tN 
 (tN 
 (tN tE 
 (tN tE tE)) 
 (tN tE tE)) 
 (tN tE 
 (tN tE tE)))) 
 (tN 
 (tN 
 (tN 
 (tN tE 
 (tN tE tE)) 
 (tN tE tE)) 
 (tN 
 (tN tE 
 (tN tE tE)) 
 (tN tE tE))) 
 (tN 
 (tN 
 (tN tE 
 (tN tE tE)) 
 (tN tE tE)) 
 (tN tE 
 (tN tE tE)))))) 
 (tC 
 (tN 
 (tN 
 (tN 
 (tN 
 (tN tE 
 (tN tE tE)) 
 (tN tE tE)) 
 (tN 
 (tN tE 
 (tN tE tE)) 
 (tN tE tE))) 
 (tN 
 (tN 
 (tN tE 
 (tN tE tE)) 
 (tN tE tE)) 
 (tN tE 
 (tN tE tE)))) 
 (tN 
 (tN 
 (tN 
 (tN tE 
 (tN tE tE)) 
 (tN tE tE)) 
 (tN 
 (tN tE 
 (tN tE tE)) 
 (tN tE tE))) 
 (tN 
 (tN 
 (tN tE 
 (tN tE tE)) 
 (tN tE tE)) 
 (tN tE 
 (tN tE tE))))) ((vP 6 0) :: vR 8 (.bool false) ((.map (some 8)) :: [])) 
 (tN 
 (tN 
 (tN 
 (tN 
 (tN tE 
 (tN tE tE)) 
 (tN tE tE)) 
 (tN 
 (tN tE 
 (tN tE tE)) 
 (tN tE tE))) 
 (tN 
 (tN 
 (tN tE 
 (tN tE tE)) 
 (tN tE tE)) 
 (tN tE 
 (tN tE tE)))) 
 (tN 
 (tN 
 (tN 
 (tN tE 
 (tN tE tE)) 
 (tN tE tE)) 
 (tN 
 (tN tE 
 (tN tE tE)) 
 (tN tE tE))) 
 (tN 
 (tN 
 (tN tE 
 (tN tE tE)) 
 (tN tE tE)) 
 (tN tE 
 (tN tE tE))))))) 
 (tC 
 (tN 
 (tN 
 (tN 
 (tN 
 (tN 
 (tN tE 
 (tN tE tE)) 
 (tN tE tE)) 
 (tN 
 (tN tE 
 (tN tE tE)) 
 (tN tE tE))) 
 (tN 
 (tN 
 (tN tE 
 (tN tE tE)) 
 (tN tE tE)) 
 (tN tE 
 (tN tE tE)))) 
 (tN 
 (tN 
 (tN 
 (tN tE 
 (tN tE tE)) 
 (tN tE tE)) 
 (tN 
 (tN tE 
 (tN tE tE)) 
 (tN tE tE))) 
 (tN 
 (tN 
 (tN tE 
 (tN tE tE)) 
 (tN tE tE)) 
 (tN tE 
 (tN tE tE))))) 
 (tN 
 (tN 
 (tN 
 (tN 
 (tN tE 
 (tN tE tE)) 
 (tN tE tE)) 
 (tN 
 (tN tE 
 (tN tE tE)) 
 (tN tE tE))) 
 (tN 
 (tN 
 (tN tE 
 (tN tE tE)) 
 (tN tE tE)) 
 (tN tE 
 (tN tE tE)))) 
 (tN 
 (tN 
 (tN 
 (tN tE 
 (tN tE tE)) 
 (tN tE tE)) 
 (tN 
 (tN tE 
 (tN tE tE)) 
 (tN tE tE))) 
 (tC 
 (tN 
 (tN tE 
 (tN tE tE)) 
 (tN tE tE)) [vS 118 0 1000 1000, .slice none 0 0, vI 0, vI 0, .bool false, .bool false] 
 (tN tE 
 (tN tE tE)))))) [vI 7, vI (-7), .bool false, .bool false, vI 1000, .map (some 4), .slice none 0 0] 
 (tN 
 (tN 
 (tN 
 (tN 
 (tN 
 (tN tE 
 (tN tE tE)) 
 (tN tE tE)) 
 (tN 
 (tN tE 
 (tN tE tE)) 
 (tN tE tE))) 
 (tN 
 (tN 
 (tN tE 
 (tN tE tE)) 
 (tN tE tE)) 
 (tN tE 
 (tN tE tE)))) 
 (tN 
 (tN 
 (tN 
 (tN tE 
 (tN tE tE)) 
 (tN tE tE)) 
 (tB 
 (tN tE 
 (tN tE tE)) (.cells ((vB 188) :: (vB 2) :: vR 22 (vB 0) ([])) true (some (1, 5))) 
 (tN tE tE))) 
 (tN 
 (tN 
 (tN tE 
 (tN tE tE)) 
 (tN tE tE)) 
 (tN tE 
 (tN tE tE))))) 
 (tN 
 (tN 
 (tN 
 (tN 
 (tN tE 
 (tN tE tE)) 
 (tN tE tE)) 
 (tN 
 (tN tE 
 (tN tE tE)) 
 (tN tE tE))) 
 (tN 
 (tN 
 (tN tE 
 (tN tE tE)) 
 (tN tE tE)) 
 (tN tE 
 (tN tE tE)))) 
 (tN 
 (tN 
 (tN 
 (tN tE 
 (tN tE tE)) 
 (tN tE tE)) 
 (tN 
 (tN tE 
 (tN tE tE)) 
 (tN tE tE))) 
 (tN 
 (tN 
 (tN tE 
 (tN tE tE)) 
 (tN tE tE)) 
 (tN tE 
 (tN tE tE)))))))) [vI 7, vI 0, vI 0, vI 0, vS 0 0 1 1] 
 (tC 
 (tN 
 (tN 
 (tN 
 (tN 
 (tN 
 (tN 
 (tN tE 
 (tN tE tE)) 
 (tN tE tE)) 
 (tN 
 (tN tE 
 (tN tE tE)) 
 (tN tE tE))) 
 (tN 
 (tN 
 (tN tE 
 (tN tE tE)) 
 (tN tE tE)) 
 (tN tE 
 (tN tE tE)))) 
 (tN 
 (tN 
 (tN 
 (tN tE 
 (tN tE tE)) 
 (tN tE tE)) 
 (tN 
 (tN tE 
 (tN tE tE)) 
 (tN tE tE))) 
 (tN 
 (tN 
 (tN tE 
 (tN tE tE)) 
 (tN tE tE)) 
 (tN tE 
 (tN tE tE))))) 
 (tN 
 (tN 
 (tN 
 (tN 
 (tN tE 
 (tN tE tE)) 
 (tN tE tE)) 
 (tN 
 (tN tE 
 (tN tE tE)) 
 (tN tE tE))) 
 (tN 
 (tN 
 (tN tE 
 (tN tE tE)) 
 (tN tE tE)) 
 (tN tE 
 (tN tE tE)))) 
 (tN 
 (tN 
 (tN 
 (tN tE 
 (tN tE tE)) 
 (tN tE tE)) 
 (tN 
 (tN tE 
 (tN tE tE)) 
 (tN tE tE))) 
 (tC 
 (tN 
 (tN tE 
 (tN tE tE)) 
 (tN tE tE)) [vP 5 0, vI 1, vS 114 0 24 24, .slice none 0 0, vI 0, .bool false] 
 (tN tE 
 (tN tE tE)))))) 
 (tN 
 (tN 
 (tN 
 (tN 
 (tN 
 (tN tE 
 (tN tE tE)) 
 (tN tE tE)) 
 (tN 
 (tN tE 
 (tN tE tE)) 
 (tN tE tE))) 
 (tN 
 (tN 
 (tN tE 
 (tN tE tE)) 
 (tN tE tE)) 
 (tN tE 
 (tN tE tE)))) 
 (tN 
 (tN 
 (tN 
 (tN tE 
 (tN tE tE)) 
 (tN tE tE)) 
 (tN 
 (tN tE 
 (tN tE tE)) 
 (tN tE tE))) 
 (tN 
 (tN 
 (tN tE 
 (tN tE tE)) 
 (tN tE tE)) 
 (tN tE 
 (tN tE tE))))) 
 (tN 
 (tN 
 (tN 
 (tN 
 (tN tE 
 (tN tE tE)) 
 (tN tE tE)) 
 (tN 
 (tN tE 
 (tN tE tE)) 
 (tN tE tE))) 
 (tN 
 (tN 
 (tN tE 
 (tN tE tE)) 
 (tN tE tE)) 
 (tN tE 
 (tN tE tE)))) 
 (tN 
 (tN 
 (tN 
 (tN tE 
 (tN tE tE)) 
 (tN tE tE)) 
 (tN 
 (tN tE 
 (tN tE tE)) 
 (tN tE tE))) 
 (tC 
 (tN 
 (tN tE 
 (tN tE tE)) 
 (tN tE tE)) (vR 700 (.bool true) ([])) 
 (tN tE 
 (tN tE tE))))))) ((.slice none 0 0) :: (.slice none 0 0) :: (vI 0) :: (vI 0) :: (.bool false) :: (.bool false) :: (vI 0) :: (.slice none 0 0) :: (.slice none 0 0) :: (vI 0) :: (.bool false) :: (.slice none 0 0) :: vR 8 (.bool false) ((.slice none 0 0) :: (.bool false) :: [])) 
 (tC 
 (tN 
 (tN 
 (tN 
 (tN 
 (tN 
 (tN tE 
 (tN tE tE)) 
 (tN tE tE)) 
 (tN 
 (tN tE 
 (tN tE tE)) 
 (tN tE tE))) 
 (tN 
 (tN 
 (tN tE 
 (tN tE tE)) 
 (tN tE tE)) 
 (tN tE 
 (tN tE tE)))) 
 (tN 
 (tN 
 (tN 
 (tN tE 
 (tN tE tE)) 
 (tN tE tE)) 
 (tN 
 (tN tE 
 (tN tE tE)) 
 (tN tE tE))) 
 (tN 
 (tN 
 (tN tE 
 (tN tE tE)) 
 (tN tE tE)) 
 (tN tE 
 (tN tE tE))))) 
 (tN 
 (tN 
 (tN 
 (tN 
 (tN tE 
 (tN tE tE)) 
 (tN tE tE)) 
 (tN 
 (tN tE 
 (tN tE tE)) 
 (tN tE tE))) 
 (tN 
 (tN 
 (tN tE 
 (tN tE tE)) 
 (tN tE tE)) 
 (tN tE 
 (tN tE tE)))) 
 (tN 
 (tN 
 (tN 
 (tN tE 
 (tN tE tE)) 
 (tN tE tE)) 
 (tN 
 (tN tE 
 (tN tE tE)) 
 (tN tE tE))) 
 (tN 
 (tN 
 (tN tE 
 (tN tE tE)) 
 (tN tE tE)) 
 (tN tE 
 (tN tE tE)))))) [vI 0, vI 700] 
 (tN 
 (tN 
 (tN 
 (tN 
 (tN 
 (tN tE 
 (tN tE tE)) 
 (tN tE tE)) 
 (tN 
 (tN tE 
 (tN tE tE)) 
 (tN tE tE))) 
 (tN 
 (tN 
 (tN tE 
 (tN tE tE)) 
 (tN tE tE)) 
 (tN tE 
 (tN tE tE)))) 
 (tN 
 (tN 
 (tN 
 (tN tE 
 (tN tE tE)) 
 (tN tE tE)) 
 (tN 
 (tN tE 
 (tN tE tE)) 
 (tN tE tE))) 
 (tN 
 (tN 
 (tN tE 
 (tN tE tE)) 
 (tN tE tE)) 
 (tN tE 
 (tN tE tE))))) 
 (tN 
 (tN 
 (tN 
 (tN 
 (tN tE 
 (tN tE tE)) 
 (tN tE tE)) 
 (tN 
 (tN tE 
 (tN tE tE)) 
 (tN tE tE))) 
 (tN 
 (tN 
 (tN tE 
 (tN tE tE)) 
 (tN tE tE)) 
 (tN tE 
 (tN tE tE)))) 
 (tN 
 (tN 
 (tN 
 (tN tE 
 (tN tE tE)) 
 (tN tE tE)) 
 (tN 
 (tN tE 
 (tN tE tE)) 
 (tN tE tE))) 
 (tN 
 (tN 
 (tN tE 
 (tN tE tE)) 
 (tN tE tE)) 
 (tN tE 
 (tN tE tE))))))))))
noncomputable def cV6 : Value := .nilIface
noncomputable def cR6 : Heap := Heap.mk 942 (tB 
 (tN 
 (tN 
 (tN 
 (tN 
 (tN 
 (tN 
 (tN 
 (tN 
 (tN tE 
 (tN tE tE)) 
 (tN tE 
 (tB tE (.map [] 0) tE))) 
 (tN 
 (tN tE 
 (tN tE tE)) 
 (tN tE 
 (tN tE tE)))) 
 (tN 
 (tN 
 (tN tE 
 (tN tE tE)) 
 (tN tE 
 (tN tE tE))) 
 (tN 
 (tN tE 
 (tC tE ((vS 702 0 1000 1000) :: (.slice none 0 0) :: (vI 7) :: (vI 0) :: (.bool false) :: (.bool false) :: (vI 1) :: (vS 173 0 24 24) :: (.slice none 0 0) :: (vI 0) :: (.bool false) :: (vS 123 0 700 700) :: vR 8 (.bool false) ((.slice none 0 0) :: (.bool false) :: [])) tE)) 
 (tN tE tE)))) 
 (tN 
 (tN 
 (tN 
 (tN tE 
 (tN tE tE)) 
 (tN tE 
 (tN tE tE))) 
 (tN 
 (tN tE 
 (tN tE tE)) 
 (tN tE 
 (tN tE tE)))) 
 (tN 
 (tN 
 (tN tE 
 (tN tE tE)) 
 (tN tE 
 (tN tE tE))) 
 (tN 
 (tN tE 
 (tN tE tE)) 
 (tN tE tE))))) 
 (tN 
 (tN 
 (tN 
 (tN 
 (tN tE 
 (tN tE tE)) 
 (tN tE 
 (tN tE tE))) 
 (tN 
 (tN tE 
 (tN tE tE)) 
 (tN tE 
 (tN tE tE)))) 
 (tN 
 (tN 
 (tN tE 
 (tN tE tE)) 
 (tN tE 
 (tN tE tE))) 
 (tN 
 (tN tE 
 (tN tE tE)) 
 (tN tE tE)))) 
 (tN 
 (tN 
 (tN 
 (tN tE 
 (tN tE tE)) 
 (tN tE 
 (tN tE tE))) 
 (tN 
 (tN tE 
 (tN tE tE)) 
 (tN tE tE))) 
 (tN 
 (tN 
 (tN tE 
 (tN tE tE)) 
 (tN tE 
 (tN tE tE))) 
 (tN 
 (tN tE 
 (tN tE tE)) 
 (tN tE tE)))))) 
 (tB 
 (tN 
 (tN 
 (tN 
 (tN 
 (tN tE 
 (tN tE tE)) 
 (tN tE 
 (tN tE tE))) 
 (tN 
 (tN tE 
 (tN tE tE)) 
 (tN tE 
 (tN tE tE)))) 
 (tN 
 (tN 
 (tN tE 
 (tN tE tE)) 
 (tN tE 
 (tN tE tE))) 
 (tN 
 (tN tE 
 (tN tE tE)) 
 (tN tE tE)))) 
 (tN 
 (tN 
 (tN 
 (tN tE 
 (tN tE tE)) 
 (tN tE 
 (tN tE tE))) 
 (tN 
 (tN tE 
 (tN tE tE)) 
 (tN tE 
 (tN tE tE)))) 
 (tN 
 (tN 
 (tN tE 
 (tN tE tE)) 
 (tN tE 
 (tN tE tE))) 
 (tN 
 (tN tE 
 (tN tE tE)) 
 (tN tE tE))))) (.map [] 0) 
 (tN 
 (tN 
 (tN 
 (tN 
 (tN tE 
 (tN tE tE)) 
 (tN tE 
 (tN tE tE))) 
 (tN 
 (tN tE 
 (tN tE tE)) 
 (tN tE 
 (tN tE tE)))) 
 (tN 
 (tN 
 (tN tE 
 (tN tE tE)) 
 (tN tE 
 (tN tE tE))) 
 (tN 
 (tN tE 
 (tN tE tE)) 
 (tN tE tE)))) 
 (tN 
 (tN 
 (tN 
 (tN tE 
 (tN tE tE)) 
 (tN tE 
 (tN tE tE))) 
 (tN 
 (tN tE 
 (tN tE tE)) 
 (tN tE tE))) 
 (tN 
 (tN 
 (tN tE 
 (tN tE tE)) 
 (tN tE 
 (tN tE tE))) 
 (tN 
 (tN tE 
 (tC tE [vI 700, vS 793 0 1 1] tE)) 
 (tN tE tE))))))) 
 (tB 
 (tN 
 (tN 
 (tN 
 (tN 
 (tN 
 (tN tE 
 (tN tE tE)) 
 (tN tE 
 (tN tE tE))) 
 (tN 
 (tN tE 
 (tN tE tE)) 
 (tN tE 
 (tN tE tE)))) 
 (tN 
 (tN 
 (tN tE 
 (tN tE tE)) 
 (tN tE 
 (tN tE tE))) 
 (tN 
 (tN tE 
 (tN tE tE)) 
 (tN tE tE)))) 
 (tN 
 (tN 
 (tN 
 (tN tE 
 (tN tE tE)) 
 (tN tE 
 (tN tE tE))) 
 (tN 
 (tN tE 
 (tN tE tE)) 
 (tN tE 
 (tN tE tE)))) 
 (tN 
 (tN 
 (tN tE 
 (tN tE tE)) 
 (tN tE 
 (tN tE tE))) 
 (tN 
 (tN tE 
 (tN tE tE)) 
 (tN tE tE))))) 
 (tN 
 (tN 
 (tN 
 (tN 
 (tN tE 
 (tN tE tE)) 
 (tN tE 
 (tN tE tE))) 
 (tN 
 (tN tE 
 (tN tE tE)) 
 (tN tE 
 (tN tE tE)))) 
 (tN 
 (tN 
 (tN tE 
 (tN tE tE)) 
 (tN tE 
 (tN tE tE))) 
 (tN 
 (tN tE 
 (tN tE tE)) 
 (tN tE tE)))) 
 (tN 
 (tN 
 (tN 
 (tN tE 
 (tN tE tE)) 
 (tN tE 
 (tN tE tE))) 
 (tN 
 (tN tE 
 (tN tE tE)) 
 (tN tE tE))) 
 (tC 
 (tN 
 (tN tE 
 (tN tE tE)) 
 (tN tE 
 (tN tE tE))) [vP 115 0, vP 762 0, .bool false] 
 (tN 
 (tN tE 
 (tN tE tE)) 
 (tN tE tE)))))) (.map [⟨vI 0, .agg ⟨vR 128 (vB 0) ([])⟩, 0⟩, ⟨vI 1, .agg ⟨(vB 73) :: (vB 97) :: (vB 8) :: (vB 225) :: (vB 1) :: (vB 1) :: vR 15 (vB 0) ((vB 8) :: (vB 24) :: vR 105 (vB 0) ([]))⟩, 1⟩, ⟨vI 334, .agg ⟨(vB 1) :: (vB 127) :: (vB 227) :: (vB 137) :: (vB 2) :: (vB 1) :: vR 15 (vB 0) ((vB 24) :: (vB 188) :: (vB 2) :: vR 104 (vB 0) ([]))⟩, 2⟩, ⟨vI 666, .agg ⟨(vB 48) :: (vB 87) :: (vB 134) :: (vB 75) :: (vB 3) :: (vB 1) :: vR 15 (vB 0) ((vB 106) :: (vB 1) :: (vB 5) :: vR 7 (vB 0) ((vB 100) :: (vB 46) :: (vB 55) :: (vB 46) :: (vB 48) :: (vB 3) :: vR 7 (vB 0) ((vB 6) :: vR 39 (vB 0) ((vB 8) :: vR 31 (vB 0) ((vB 26) :: vR 7 (vB 0) ((vB 1) :: (vB 1) :: (vB 0) :: (vB 0) :: []))))))⟩, 3⟩, ⟨vI 667, .agg ⟨(vB 0) :: (vB 129) :: (vB 94) :: (vB 13) :: (vB 3) :: (vB 1) :: vR 7 (vB 0) ((vB 1) :: vR 7 (vB 0) ((vB 62) :: (vB 0) :: (vB 0) :: (vB 0) :: (vB 0) :: (vB 0) :: (vB 120) :: vR 16 (vB 0) ((vB 10) :: vR 7 (vB 0) ((vB 26) :: vR 75 (vB 0) ([])))))⟩, 4⟩, ⟨vI 668, .agg ⟨(vB 2) :: (vB 14) :: (vB 194) :: (vB 132) :: (vB 4) :: (vB 1) :: vR 7 (vB 0) ((vB 2) :: vR 7 (vB 0) ((vB 8) :: (vB 2) :: vR 105 (vB 0) ([])))⟩, 5⟩] 6) 
 (tN 
 (tN 
 (tN 
 (tN 
 (tN 
 (tN tE 
 (tN tE tE)) 
 (tN tE 
 (tN tE tE))) 
 (tN 
 (tN tE 
 (tN tE tE)) 
 (tN tE 
 (tN tE tE)))) 
 (tN 
 (tN 
 (tN tE 
 (tN tE tE)) 
 (tN tE 
 (tN tE tE))) 
 (tN 
 (tN tE 
 (tN tE tE)) 
 (tN tE tE)))) 
 (tN 
 (tN 
 (tN 
 (tN tE 
 (tN tE tE)) 
 (tN tE 
 (tN tE tE))) 
 (tN 
 (tN tE 
 (tN tE tE)) 
 (tN tE 
 (tN tE tE)))) 
 (tN 
 (tN 
 (tN tE 
 (tN tE tE)) 
 (tN tE 
 (tN tE tE))) 
 (tN 
 (tN tE 
 (tN tE tE)) 
 (tN tE tE))))) 
 (tN 
 (tN 
 (tN 
 (tN 
 (tN tE 
 (tN tE tE)) 
 (tN tE 
 (tB tE (.cells [vI 0, vI 2] true (some (2, 267))) tE))) 
 (tN 
 (tN tE 
 (tN tE tE)) 
 (tN tE 
 (tN tE tE)))) 
 (tN 
 (tN 
 (tN tE 
 (tN tE tE)) 
 (tN tE 
 (tN tE tE))) 
 (tN 
 (tN tE 
 (tN tE tE)) 
 (tN tE tE)))) 
 (tN 
 (tN 
 (tN 
 (tN tE 
 (tN tE tE)) 
 (tN tE 
 (tN tE tE))) 
 (tN 
 (tN tE 
 (tN tE tE)) 
 (tN tE tE))) 
 (tN 
 (tN 
 (tN tE 
 (tN tE tE)) 
 (tN tE 
 (tN tE tE))) 
 (tN 
 (tN tE 
 (tN tE tE)) 
 (tN tE tE)))))))) 
 (tC 
 (tN 
 (tN 
 (tN 
 (tN 
 (tN 
 (tN 
 (tN tE 
 (tN tE tE)) 
 (tN tE 
 (tN tE tE))) 
 (tN 
 (tN tE 
 (tN tE tE)) 
 (tN tE 
 (tN tE tE)))) 
 (tN 
 (tN 
 (tN tE 
 (tN tE tE)) 
 (tN tE 
 (tN tE tE))) 
 (tN 
 (tN tE 
 (tC tE [vI 0, .slice none 0 0] tE)) 
 (tN tE tE)))) 
 (tN 
 (tN 
 (tN 
 (tN tE 
 (tN tE tE)) 
 (tN tE 
 (tN tE tE))) 
 (tN 
 (tN tE 
 (tN tE tE)) 
 (tN tE 
 (tN tE tE)))) 
 (tN 
 (tN 
 (tN tE 
 (tN tE tE)) 
 (tN tE 
 (tN tE tE))) 
 (tN 
 (tN tE 
 (tN tE tE)) 
 (tN tE tE))))) 
 (tN 
 (tN 
 (tN 
 (tN 
 (tN tE 
 (tN tE tE)) 
 (tN tE 
 (tN tE tE))) 
 (tN 
 (tN tE 
 (tN tE tE)) 
 (tN tE 
 (tN tE tE)))) 
 (tN 
 (tN 
 (tN tE 
 (tN tE tE)) 
 (tN tE 
 (tN tE tE))) 
 (tN 
 (tN tE 
 (tN tE tE)) 
 (tN tE tE)))) 
 (tN 
 (tN 
 (tN 
 (tN tE 
 (tN tE tE)) 
 (tN tE 
 (tN tE tE))) 
 (tN 
 (tN tE 
 (tN tE tE)) 
 (tN tE tE))) 
 (tB 
 (tN 
 (tN tE 
 (tN tE tE)) 
 (tN tE 
 (tN tE tE))) (.cells ((vB 188) :: (vB 2) :: vR 22 (vB 0) ([])) true (some (1, 5))) 
 (tN 
 (tN tE 
 (tN tE tE)) 
 (tN tE tE)))))) 
 (tN 
 (tN 
 (tN 
 (tN 
 (tN 
 (tN tE 
 (tN tE tE)) 
 (tN tE 
 (tN tE tE))) 
 (tN 
 (tN tE 
 (tN tE tE)) 
 (tN tE 
 (tN tE tE)))) 
 (tN 
 (tN 
 (tN tE 
 (tN tE tE)) 
 (tN tE 
 (tN tE tE))) 
 (tN 
 (tN tE 
 (tN tE tE)) 
 (tN tE tE)))) 
 (tN 
 (tN 
 (tN 
 (tN tE 
 (tN tE tE)) 
 (tN tE 
 (tN tE tE))) 
 (tN 
 (tN tE 
 (tN tE tE)) 
 (tN tE 
 (tN tE tE)))) 
 (tN 
 (tN 
 (tN tE 
 (tN tE tE)) 
 (tN tE 
 (tN tE tE))) 
 (tN 
 (tN tE 
 (tN tE tE)) 
 (tN tE tE))))) 
 (tN 
 (tN 
 (tN 
 (tN 
 (tN tE 
 (tN tE tE)) 
 (tN tE 
 (tN tE tE))) 
 (tN 
 (tN tE 
 (tN tE tE)) 
 (tN tE 
 (tN tE tE)))) 
 (tN 
 (tN 
 (tN tE 
 (tN tE tE)) 
 (tN tE 
 (tN tE tE))) 
 (tN 
 (tN tE 
 (tN tE tE)) 
 (tN tE tE)))) 
 (tN 
 (tN 
 (tN 
 (tN tE 
 (tN tE tE)) 
 (tN tE 
 (tN tE tE))) 
 (tN 
 (tN tE 
 (tN tE tE)) 
 (tN tE tE))) 
 (tN 
 (tN 
 (tN tE 
 (tN tE tE)) 
 (tN tE 
 (tN tE tE))) 
 (tN 
 (tN tE 
 (tC tE ((vP 760 0) :: vR 8 (.bool false) ((.map (some 761)) :: [])) tE)) 
 (tN tE tE))))))) [.slice none 0 0, .slice none 0 0, vS 1 0 1 1, .slice none 0 0] 
 (tC 
 (tN 
 (tN 
 (tN 
 (tN 
 (tN 
 (tN tE 
 (tN tE tE)) 
 (tN tE 
 (tN tE tE))) 
 (tN 
 (tN tE 
 (tN tE tE)) 
 (tN tE 
 (tN tE tE)))) 
 (tN 
 (tN 
 (tN tE 
 (tN tE tE)) 
 (tN tE 
 (tN tE tE))) 
 (tN 
 (tN tE 
 (tN tE tE)) 
 (tN tE tE)))) 
 (tN 
 (tN 
 (tN 
 (tN tE 
 (tN tE tE)) 
 (tN tE 
 (tN tE tE))) 
 (tN 
 (tN tE 
 (tN tE tE)) 
 (tN tE 
 (tN tE tE)))) 
 (tN 
 (tN 
 (tN tE 
 (tN tE tE)) 
 (tN tE 
 (tN tE tE))) 
 (tN 
 (tN tE 
 (tN tE tE)) 
 (tN tE tE))))) 
 (tN 
 (tN 
 (tN 
 (tN 
 (tN tE 
 (tN tE tE)) 
 (tN tE 
 (tN tE tE))) 
 (tN 
 (tN tE 
 (tN tE tE)) 
 (tN tE 
 (tN tE tE)))) 
 (tN 
 (tN 
 (tN tE 
 (tN tE tE)) 
 (tN tE 
 (tN tE tE))) 
 (tN 
 (tN tE 
 (tN tE tE)) 
 (tN tE tE)))) 
 (tN 
 (tN 
 (tN 
 (tN tE 
 (tN tE tE)) 
 (tN tE 
 (tN tE tE))) 
 (tN 
 (tN tE 
 (tN tE tE)) 
 (tN tE tE))) 
 (tC 
 (tN 
 (tN tE 
 (tN tE tE)) 
 (tN tE 
 (tN tE tE))) (vR 128000 (vB 0) ([])) 
 (tN 
 (tN tE 
 (tN tE tE)) 
 (tN tE tE)))))) [vI 700, vS 7 0 1 1] 
 (tN 
 (tN 
 (tN 
 (tN 
 (tN 
 (tN tE 
 (tN tE tE)) 
 (tN tE 
 (tN tE tE))) 
 (tN 
 (tN tE 
 (tN tE tE)) 
 (tN tE 
 (tN tE tE)))) 
 (tN 
 (tN 
 (tN tE 
 (tN tE tE)) 
 (tN tE 
 (tN tE tE))) 
 (tN 
 (tN tE 
 (tN tE tE)) 
 (tN tE tE)))) 
 (tN 
 (tN 
 (tN 
 (tN tE 
 (tN tE tE)) 
 (tN tE 
 (tN tE tE))) 
 (tN 
 (tN tE 
 (tN tE tE)) 
 (tN tE tE))) 
 (tN 
 (tN 
 (tN tE 
 (tN tE tE)) 
 (tN tE 
 (tN tE tE))) 
 (tN 
 (tN tE 
 (tN tE tE)) 
 (tN tE tE))))) 
 (tN 
 (tN 
 (tN 
 (tN 
 (tN tE 
 (tN tE tE)) 
 (tN tE 
 (tN tE tE))) 
 (tN 
 (tN tE 
 (tN tE tE)) 
 (tN tE 
 (tN tE tE)))) 
 (tN 
 (tN 
 (tN tE 
 (tN tE tE)) 
 (tN tE 
 (tN tE tE))) 
 (tN 
 (tN tE 
 (tN tE tE)) 
 (tN tE tE)))) 
 (tN 
 (tN 
 (tN 
 (tN tE 
 (tN tE tE)) 
 (tN tE 
 (tN tE tE))) 
 (tN 
 (tN tE 
 (tB tE (.cells (vR 128 (vB 0) ((vB 73) :: (vB 97) :: (vB 8) :: (vB 225) :: (vB 1) :: (vB 1) :: vR 15 (vB 0) ((vB 8) :: (vB 24) :: vR 42601 (vB 0) ((vB 1) :: (vB 127) :: (vB 227) :: (vB 137) :: (vB 2) :: (vB 1) :: vR 15 (vB 0) ((vB 24) :: (vB 188) :: (vB 2) :: vR 85224 (vB 0) ([])))))) true (some (128, 250))) tE)) 
 (tN tE tE))) 
 (tN 
 (tN 
 (tN tE 
 (tN tE tE)) 
 (tN tE 
 (tN tE tE))) 
 (tN 
 (tN tE 
 (tN tE tE)) 
 (tN tE tE))))))))) (.cells [vB 120] false none) 
 (tC 
 (tN 
 (tN 
 (tN 
 (tN 
 (tN 
 (tN 
 (tN 
 (tN tE 
 (tN tE tE)) 
 (tN tE 
 (tC tE [vS 773 0 26 26, .map (some 768), vS 796 0 1 1] tE))) 
 (tN 
 (tN tE 
 (tN tE tE)) 
 (tN tE 
 (tN tE tE)))) 
 (tN 
 (tN 
 (tN tE 
 (tN tE tE)) 
 (tN tE 
 (tN tE tE))) 
 (tN 
 (tN tE 
 (tC tE [vI 7, vI 0, vI 0, vI 0, vS 0 0 1 1] tE)) 
 (tN tE tE)))) 
 (tN 
 (tN 
 (tN 
 (tN tE 
 (tN tE tE)) 
 (tN tE 
 (tN tE tE))) 
 (tN 
 (tN tE 
 (tN tE tE)) 
 (tN tE 
 (tN tE tE)))) 
 (tN 
 (tN 
 (tN tE 
 (tN tE tE)) 
 (tN tE 
 (tN tE tE))) 
 (tN 
 (tN tE 
 (tN tE tE)) 
 (tN tE tE))))) 
 (tN 
 (tN 
 (tN 
 (tN 
 (tN tE 
 (tN tE tE)) 
 (tN tE 
 (tN tE tE))) 
 (tN 
 (tN tE 
 (tN tE tE)) 
 (tN tE 
 (tN tE tE)))) 
 (tN 
 (tN 
 (tN tE 
 (tN tE tE)) 
 (tN tE 
 (tN tE tE))) 
 (tN 
 (tN tE 
 (tN tE tE)) 
 (tN tE tE)))) 
 (tN 
 (tN 
 (tN 
 (tN tE 
 (tN tE tE)) 
 (tN tE 
 (tN tE tE))) 
 (tN 
 (tN tE 
 (tN tE tE)) 
 (tN tE tE))) 
 (tN 
 (tN 
 (tN tE 
 (tN tE tE)) 
 (tN tE 
 (tN tE tE))) 
 (tN 
 (tN tE 
 (tN tE tE)) 
 (tN tE tE)))))) 
 (tC 
 (tN 
 (tN 
 (tN 
 (tN 
 (tN tE 
 (tN tE tE)) 
 (tN tE 
 (tN tE tE))) 
 (tN 
 (tN tE 
 (tN tE tE)) 
 (tN tE 
 (tN tE tE)))) 
 (tN 
 (tN 
 (tN tE 
 (tN tE tE)) 
 (tN tE 
 (tN tE tE))) 
 (tN 
 (tN tE 
 (tN tE tE)) 
 (tN tE tE)))) 
 (tN 
 (tN 
 (tN 
 (tN tE 
 (tN tE tE)) 
 (tN tE 
 (tN tE tE))) 
 (tN 
 (tN tE 
 (tN tE tE)) 
 (tN tE 
 (tN tE tE)))) 
 (tN 
 (tN 
 (tN tE 
 (tN tE tE)) 
 (tN tE 
 (tN tE tE))) 
 (tN 
 (tN tE 
 (tN tE tE)) 
 (tN tE tE))))) ((vP 6 0) :: vR 8 (.bool false) ((.map (some 8)) :: [])) 
 (tN 
 (tN 
 (tN 
 (tN 
 (tN tE 
 (tN tE tE)) 
 (tN tE 
 (tB tE (.cells [vI 2, vI 698] true (some (2, 267))) tE))) 
 (tN 
 (tN tE 
 (tN tE tE)) 
 (tN tE 
 (tN tE tE)))) 
 (tN 
 (tN 
 (tN tE 
 (tN tE tE)) 
 (tN tE 
 (tN tE tE))) 
 (tN 
 (tN tE 
 (tN tE tE)) 
 (tN tE tE)))) 
 (tN 
 (tN 
 (tN 
 (tN tE 
 (tN tE tE)) 
 (tN tE 
 (tN tE tE))) 
 (tN 
 (tN tE 
 (tN tE tE)) 
 (tN tE tE))) 
 (tN 
 (tN 
 (tN tE 
 (tN tE tE)) 
 (tN tE 
 (tN tE tE))) 
 (tN 
 (tN tE 
 (tB tE (.map [⟨vT [100, 46, 55, 46, 48], vP 769 0, 0⟩] 1) tE)) 
 (tN tE tE))))))) 
 (tC 
 (tN 
 (tN 
 (tN 
 (tN 
 (tN 
 (tN tE 
 (tN tE tE)) 
 (tN tE 
 (tB tE (.cells ((vB 1) :: (vB 1) :: vR 7 (vB 0) ((vB 120) :: vR 16 (vB 0) ([]))) true (some (1, 5))) tE))) 
 (tN 
 (tN tE 
 (tN tE tE)) 
 (tN tE 
 (tN tE tE)))) 
 (tN 
 (tN 
 (tN tE 
 (tN tE tE)) 
 (tN tE 
 (tN tE tE))) 
 (tN 
 (tN tE 
 (tN tE tE)) 
 (tN tE tE)))) 
 (tN 
 (tN 
 (tN 
 (tN tE 
 (tN tE tE)) 
 (tN tE 
 (tN tE tE))) 
 (tN 
 (tN tE 
 (tN tE tE)) 
 (tN tE 
 (tN tE tE)))) 
 (tN 
 (tN 
 (tN tE 
 (tN tE tE)) 
 (tN tE 
 (tN tE tE))) 
 (tN 
 (tN tE 
 (tN tE tE)) 
 (tN tE tE))))) 
 (tN 
 (tN 
 (tN 
 (tN 
 (tN tE 
 (tN tE tE)) 
 (tN tE 
 (tN tE tE))) 
 (tN 
 (tN tE 
 (tN tE tE)) 
 (tN tE 
 (tN tE tE)))) 
 (tN 
 (tN 
 (tN tE 
 (tN tE tE)) 
 (tN tE 
 (tN tE tE))) 
 (tN 
 (tN tE 
 (tN tE tE)) 
 (tN tE tE)))) 
 (tN 
 (tN 
 (tN 
 (tN tE 
 (tN tE tE)) 
 (tN tE 
 (tN tE tE))) 
 (tN 
 (tN tE 
 (tN tE tE)) 
 (tN tE tE))) 
 (tC 
 (tN 
 (tN tE 
 (tN tE tE)) 
 (tN tE 
 (tN tE tE))) [vS 118 0 1000 1000, .slice none 0 0, vI 0, vI 0, .bool false, .bool false] 
 (tN 
 (tN tE 
 (tN tE tE)) 
 (tN tE tE)))))) [vI 12, vI (-12), .bool false, .bool false, vI 1000, .map (some 4), .slice none 0 0] 
 (tN 
 (tN 
 (tN 
 (tN 
 (tN 
 (tN tE 
 (tN tE tE)) 
 (tN tE 
 (tN tE tE))) 
 (tN 
 (tN tE 
 (tN tE tE)) 
 (tN tE 
 (tN tE tE)))) 
 (tN 
 (tN 
 (tN tE 
 (tN tE tE)) 
 (tN tE 
 (tN tE tE))) 
 (tN 
 (tN tE 
 (tN tE tE)) 
 (tN tE tE)))) 
 (tN 
 (tN 
 (tN 
 (tN tE 
 (tN tE tE)) 
 (tN tE 
 (tN tE tE))) 
 (tB 
 (tN tE 
 (tN tE tE)) (.cells ((vB 188) :: (vB 2) :: vR 22 (vB 0) ([])) true (some (1, 5))) 
 (tN tE 
 (tB tE (.cells [vS 939 0 168 168] true (some (1, 41))) tE)))) 
 (tN 
 (tN 
 (tN tE 
 (tN tE tE)) 
 (tN tE 
 (tN tE tE))) 
 (tN 
 (tN tE 
 (tN tE tE)) 
 (tN tE tE))))) 
 (tN 
 (tN 
 (tN 
 (tN 
 (tN tE 
 (tN tE tE)) 
 (tN tE 
 (tN tE tE))) 
 (tN 
 (tN tE 
 (tN tE tE)) 
 (tN tE 
 (tN tE tE)))) 
 (tN 
 (tN 
 (tN tE 
 (tN tE tE)) 
 (tN tE 
 (tN tE tE))) 
 (tN 
 (tN tE 
 (tN tE tE)) 
 (tN tE tE)))) 
 (tN 
 (tN 
 (tN 
 (tN tE 
 (tN tE tE)) 
 (tN tE 
 (tN tE tE))) 
 (tN 
 (tN tE 
 (tN tE tE)) 
 (tN tE tE))) 
 (tN 
 (tN 
 (tN tE 
 (tN tE tE)) 
 (tN tE 
 (tN tE tE))) 
 (tN 
 (tN tE 
 (tN tE tE)) 
 (tN tE tE)))))))) [vI 7, vI 0, vI 0, vI 0, vS 0 0 1 1] 
 (tC 
 (tN 
 (tN 
 (tN 
 (tN 
 (tN 
 (tN 
 (tN tE 
 (tN tE tE)) 
 (tN tE 
 (tN tE tE))) 
 (tN 
 (tN tE 
 (tN tE tE)) 
 (tN tE 
 (tN tE tE)))) 
 (tN 
 (tN 
 (tN tE 
 (tN tE tE)) 
 (tN tE 
 (tN tE tE))) 
 (tN 
 (tN tE 
 (tN tE tE)) 
 (tN tE tE)))) 
 (tN 
 (tN 
 (tN 
 (tN tE 
 (tN tE tE)) 
 (tN tE 
 (tN tE tE))) 
 (tN 
 (tN tE 
 (tN tE tE)) 
 (tN tE 
 (tN tE tE)))) 
 (tN 
 (tN 
 (tN tE 
 (tN tE tE)) 
 (tN tE 
 (tN tE tE))) 
 (tN 
 (tN tE 
 (tN tE tE)) 
 (tN tE tE))))) 
 (tN 
 (tN 
 (tN 
 (tN 
 (tN tE 
 (tN tE tE)) 
 (tN tE 
 (tN tE tE))) 
 (tN 
 (tN tE 
 (tN tE tE)) 
 (tN tE 
 (tN tE tE)))) 
 (tN 
 (tN 
 (tN tE 
 (tN tE tE)) 
 (tN tE 
 (tN tE tE))) 
 (tN 
 (tN tE 
 (tN tE tE)) 
 (tN tE tE)))) 
 (tN 
 (tN 
 (tN 
 (tN tE 
 (tN tE tE)) 
 (tN tE 
 (tN tE tE))) 
 (tN 
 (tN tE 
 (tN tE tE)) 
 (tN tE tE))) 
 (tC 
 (tN 
 (tN tE 
 (tN tE tE)) 
 (tN tE 
 (tN tE tE))) [vP 5 0, vI 1, vS 114 0 24 24, vS 941 0 1 1, vI 3, .bool false] 
 (tN 
 (tN tE 
 (tN tE tE)) 
 (tN tE tE)))))) 
 (tN 
 (tN 
 (tN 
 (tN 
 (tN 
 (tN tE 
 (tN tE tE)) 
 (tN tE 
 (tN tE tE))) 
 (tN 
 (tN tE 
 (tN tE tE)) 
 (tN tE 
 (tN tE tE)))) 
 (tN 
 (tN 
 (tN tE 
 (tN tE tE)) 
 (tN tE 
 (tN tE tE))) 
 (tN 
 (tN tE 
 (tN tE tE)) 
 (tN tE tE)))) 
 (tN 
 (tN 
 (tN 
 (tN tE 
 (tN tE tE)) 
 (tN tE 
 (tN tE tE))) 
 (tN 
 (tN tE 
 (tN tE tE)) 
 (tN tE 
 (tB tE (.cells ((vB 1) :: (vB 5) :: vR 7 (vB 0) ((vB 100) :: (vB 46) :: (vB 55) :: (vB 46) :: (vB 48) :: (vB 3) :: vR 7 (vB 0) ((vB 6) :: vR 39 (vB 0) ((vB 8) :: vR 31 (vB 0) ((vB 26) :: vR 7 (vB 0) ((vB 1) :: (vB 1) :: vR 7 (vB 0) ((vB 120) :: vR 16 (vB 0) ((vB 10) :: vR 7 (vB 0) ((vB 26) :: vR 31 (vB 0) ([])))))))))) true (some (1, 5))) tE)))) 
 (tN 
 (tN 
 (tN tE 
 (tN tE tE)) 
 (tN tE 
 (tN tE tE))) 
 (tN 
 (tN tE 
 (tN tE tE)) 
 (tN tE tE))))) 
 (tN 
 (tN 
 (tN 
 (tN 
 (tN tE 
 (tN tE tE)) 
 (tN tE 
 (tN tE tE))) 
 (tN 
 (tN tE 
 (tN tE tE)) 
 (tN tE 
 (tN tE tE)))) 
 (tN 
 (tN 
 (tN tE 
 (tN tE tE)) 
 (tN tE 
 (tN tE tE))) 
 (tN 
 (tN tE 
 (tN tE tE)) 
 (tN tE tE)))) 
 (tN 
 (tN 
 (tN 
 (tN tE 
 (tN tE tE)) 
 (tN tE 
 (tN tE tE))) 
 (tN 
 (tN tE 
 (tN tE tE)) 
 (tN tE tE))) 
 (tC 
 (tN 
 (tN tE 
 (tN tE tE)) 
 (tN tE 
 (tN tE tE))) (vR 700 (.bool true) ([])) 
 (tN 
 (tN tE 
 (tN tE tE)) 
 (tN tE tE))))))) ((.slice none 0 0) :: (.slice none 0 0) :: (vI 0) :: (vI 0) :: (.bool false) :: (.bool false) :: (vI 0) :: (.slice none 0 0) :: (.slice none 0 0) :: (vI 0) :: (.bool false) :: (.slice none 0 0) :: vR 8 (.bool false) ((.slice none 0 0) :: (.bool false) :: [])) 
 (tC 
 (tN 
 (tN 
 (tN 
 (tN 
 (tN 
 (tN tE 
 (tN tE tE)) 
 (tN tE 
 (tN tE tE))) 
 (tN 
 (tN tE 
 (tN tE tE)) 
 (tN tE 
 (tN tE tE)))) 
 (tN 
 (tN 
 (tN tE 
 (tN tE tE)) 
 (tN tE 
 (tN tE tE))) 
 (tN 
 (tN tE 
 (tN tE tE)) 
 (tN tE tE)))) 
 (tN 
 (tN 
 (tN 
 (tN tE 
 (tN tE tE)) 
 (tN tE 
 (tN tE tE))) 
 (tN 
 (tN tE 
 (tN tE tE)) 
 (tN tE 
 (tN tE tE)))) 
 (tN 
 (tN 
 (tN tE 
 (tN tE tE)) 
 (tN tE 
 (tN tE tE))) 
 (tN 
 (tN tE 
 (tN tE tE)) 
 (tN tE tE))))) 
 (tN 
 (tN 
 (tN 
 (tN 
 (tN tE 
 (tN tE tE)) 
 (tN tE 
 (tN tE tE))) 
 (tN 
 (tN tE 
 (tN tE tE)) 
 (tN tE 
 (tN tE tE)))) 
 (tN 
 (tN 
 (tN tE 
 (tN tE tE)) 
 (tN tE 
 (tN tE tE))) 
 (tN 
 (tN tE 
 (tN tE tE)) 
 (tN tE tE)))) 
 (tN 
 (tN 
 (tN 
 (tN tE 
 (tN tE tE)) 
 (tN tE 
 (tN tE tE))) 
 (tN 
 (tN tE 
 (tN tE tE)) 
 (tN tE tE))) 
 (tN 
 (tN 
 (tN tE 
 (tN tE tE)) 
 (tN tE 
 (tN tE tE))) 
 (tN 
 (tN tE 
 (tN tE tE)) 
 (tN tE tE)))))) [vI 0, vI 700] 
 (tN 
 (tN 
 (tN 
 (tN 
 (tN 
 (tN tE 
 (tN tE tE)) 
 (tN tE 
 (tN tE tE))) 
 (tN 
 (tN tE 
 (tN tE tE)) 
 (tN tE 
 (tN tE tE)))) 
 (tN 
 (tN 
 (tN tE 
 (tN tE tE)) 
 (tN tE 
 (tN tE tE))) 
 (tN 
 (tN tE 
 (tN tE tE)) 
 (tN tE tE)))) 
 (tN 
 (tN 
 (tN 
 (tN tE 
 (tN tE tE)) 
 (tN tE 
 (tN tE tE))) 
 (tN 
 (tN tE 
 (tN tE tE)) 
 (tN tE tE))) 
 (tN 
 (tN 
 (tN tE 
 (tN tE tE)) 
 (tN tE 
 (tN tE tE))) 
 (tN 
 (tN tE 
 (tN tE tE)) 
 (tN tE tE))))) 
 (tN 
 (tN 
 (tN 
 (tN 
 (tN tE 
 (tN tE tE)) 
 (tN tE 
 (tN tE tE))) 
 (tN 
 (tN tE 
 (tN tE tE)) 
 (tN tE 
 (tN tE tE)))) 
 (tN 
 (tN 
 (tN tE 
 (tN tE tE)) 
 (tN tE 
 (tN tE tE))) 
 (tN 
 (tN tE 
 (tN tE tE)) 
 (tN tE tE)))) 
 (tN 
 (tN 
 (tN 
 (tN tE 
 (tN tE tE)) 
 (tN tE 
 (tN tE tE))) 
 (tN 
 (tN tE 
 (tN tE tE)) 
 (tN tE tE))) 
 (tN 
 (tN 
 (tN tE 
 (tN tE tE)) 
 (tN tE 
 (tN tE tE))) 
 (tN 
 (tN tE 
 (tN tE tE)) 
 (tN tE tE))))))))))
theorem cut_run6 : cutIs cH6 [707, 708, 709, 710, 711, 712, 713, 714, 715, 716, 717, 718, 719, 720, 721, 722, 723, 724, 725, 726, 727, 728, 729, 730, 731, 732, 733, 734, 735, 736, 737, 738, 739, 740, 741, 742, 743, 744, 745, 747, 750, 752, 753, 754, 755, 756, 757, 758, 759, 763, 764, 765, 766, 767, 770, 771, 772, 774, 775, 776, 777, 778, 779, 780, 781, 782, 783, 784, 785, 786, 787, 788, 789, 790, 791, 792, 794, 795, 797, 798, 800, 802, 804, 806, 807, 809, 811, 813, 815, 816, 818, 819, 821, 823, 825, 827, 828, 831, 832, 834, 836, 838, 840, 841, 842, 843, 844, 845, 846, 847, 848, 849, 850, 851, 853, 854, 855, 856, 857, 859, 860, 861, 862, 863, 864, 865, 866, 867, 868, 869, 870, 871, 872, 874, 876, 878, 879, 880, 881, 882, 883, 884, 885, 886, 887, 888, 890, 891, 892, 893, 894, 895, 897, 899, 901, 902, 903, 904, 905, 906, 907, 908, 909, 910, 911, 912, 913, 914, 915, 916, 917, 918, 919, 921, 923, 925, 926, 927, 928, 929, 930, 931, 932, 933, 934, 935, 936, 937, 938, 940] cV6 cR6 ((callF EC5 3000).fn 23 cA6 cH6) = true := by kernel_rfl
noncomputable def EC6 : Env := EC5.tell 23 (cutV EC5 3000 23 cA6 cH6 cV6 cR6)
theorem okC6 : EnvOk Tryz.prog EC6 := tell_ok okC5 (cut_ok okC5 cut_run6)
end Go.Proofs.YtdeokdbkhkehbaaGreatDoor.C
