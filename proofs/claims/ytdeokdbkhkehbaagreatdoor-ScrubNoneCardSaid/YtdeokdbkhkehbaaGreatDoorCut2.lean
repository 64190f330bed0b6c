/- Cut2: what one call of function 143 does at one heap of this run: by the kernel. -/
import Derived.Test.YtdeokdbkhkehbaaGreatDoorCut1
import Derived.Test.YtdeokdbkhkehbaaGreatDoorVgF
import Derived.KernelRfl
open Go Go.Vi
namespace Go.Proofs.YtdeokdbkhkehbaaGreatDoor.C
noncomputable def cA2 : List Value := [.agg ⟨[vS 118 0 1000 1000, vS 194 0 2 2, vI 2, vI 0, .bool false, .bool false]⟩]
noncomputable def cH2 : Heap := Heap.mk 195 (tB 
 (tN 
 (tN 
 (tN 
 (tN 
 (tN 
 (tN 
 (tN tE 
 (tN tE tE)) 
 (tN tE 
 (tN tE tE))) 
 (tN 
 (tN tE 
 (tN tE tE)) 
 (tN tE tE))) 
 (tN 
 (tN 
 (tN tE 
 (tN tE tE)) 
 (tN tE tE)) 
 (tN 
 (tN tE 
 (tC tE [vS 173 0 24 24] tE)) 
 (tN tE tE)))) 
 (tB 
 (tN 
 (tN 
 (tN tE 
 (tN tE tE)) 
 (tN tE tE)) 
 (tN 
 (tN tE 
 (tN tE tE)) 
 (tN tE tE))) (.map [] 0) 
 (tN 
 (tN 
 (tN tE 
 (tN tE tE)) 
 (tN tE tE)) 
 (tN 
 (tN tE 
 (tC tE ((vI 0) :: vR 128 (vB 0) ([])) tE)) 
 (tC tE ((.slice none 0 0) :: (.slice none 0 0) :: (vI 0) :: (vI 0) :: (.bool false) :: (.bool false) :: (vI 0) :: (.slice none 0 0) :: (.slice none 0 0) :: (vI 0) :: (.bool false) :: (.slice none 0 0) :: vR 8 (.bool false) ((.slice none 0 0) :: (.bool false) :: [])) tE))))) 
 (tB 
 (tN 
 (tN 
 (tN 
 (tN tE 
 (tN tE tE)) 
 (tN tE tE)) 
 (tN 
 (tN tE 
 (tN tE tE)) 
 (tN tE tE))) 
 (tN 
 (tN 
 (tN tE 
 (tN tE tE)) 
 (tN tE tE)) 
 (tN 
 (tN tE 
 (tC tE [vS 118 0 1000 1000, vS 185 0 1 1, vI 1, vI 0, .bool false, .bool false] tE)) 
 (tC tE [vP 115 0, vP 9 0, .bool false] tE)))) (.map [⟨vI 0, .agg ⟨vR 128 (vB 0) ([])⟩, 0⟩, ⟨vI 1, .agg ⟨(vB 73) :: (vB 97) :: (vB 8) :: (vB 225) :: (vB 1) :: (vB 1) :: vR 15 (vB 0) ((vB 8) :: (vB 24) :: vR 105 (vB 0) ([]))⟩, 1⟩, ⟨vI 334, .agg ⟨(vB 1) :: (vB 127) :: (vB 227) :: (vB 137) :: (vB 2) :: (vB 1) :: vR 15 (vB 0) ((vB 24) :: (vB 188) :: (vB 2) :: vR 104 (vB 0) ([]))⟩, 2⟩] 3) 
 (tN 
 (tN 
 (tN 
 (tN tE 
 (tN tE tE)) 
 (tN tE tE)) 
 (tN 
 (tN tE 
 (tB tE (.cells (vR 8 (vB 0) ([])) true (some (1, 5))) tE)) 
 (tN tE tE))) 
 (tN 
 (tN 
 (tN tE 
 (tN tE tE)) 
 (tN tE tE)) 
 (tN 
 (tN tE 
 (tC tE [vS 118 0 1000 1000, vS 194 0 2 2, vI 2, vI 0, .bool false, .bool false] tE)) 
 (tC tE ((vS 123 0 700 700) :: vR 8 (.bool false) ((.slice none 0 0) :: [])) tE)))))) 
 (tC 
 (tN 
 (tN 
 (tN 
 (tN 
 (tN tE 
 (tN tE tE)) 
 (tN tE 
 (tB tE (.cells ((vI 0) :: vR 128 (vB 0) ((vI 1) :: vR 128 (vB 0) ([]))) true (some (129, 389))) tE))) 
 (tN 
 (tN tE 
 (tN tE tE)) 
 (tN tE tE))) 
 (tN 
 (tN 
 (tN tE 
 (tN tE tE)) 
 (tN tE tE)) 
 (tN 
 (tN tE 
 (tC tE [vS 118 0 1000 1000, vS 185 0 1 1, vI 1, vI 0, .bool false, .bool false] tE)) 
 (tB tE (.cells ((vB 188) :: (vB 2) :: vR 22 (vB 0) ([])) true (some (1, 5))) tE)))) 
 (tN 
 (tN 
 (tN 
 (tN tE 
 (tN tE tE)) 
 (tN tE tE)) 
 (tN 
 (tN tE 
 (tN tE tE)) 
 (tN tE tE))) 
 (tN 
 (tN 
 (tN tE 
 (tN tE tE)) 
 (tN tE tE)) 
 (tN 
 (tN tE 
 (tC tE [vS 118 0 1000 1000, vS 194 0 2 2, vI 2, vI 0, .bool false, .bool false] tE)) 
 (tC tE ((vS 123 0 700 700) :: vR 8 (.bool false) ((.slice none 0 0) :: [])) tE))))) [.slice none 0 0, .slice none 0 0, vS 1 0 1 1, .slice none 0 0] 
 (tC 
 (tN 
 (tN 
 (tN 
 (tN tE 
 (tN tE tE)) 
 (tN tE tE)) 
 (tN 
 (tN tE 
 (tN tE tE)) 
 (tN tE tE))) 
 (tN 
 (tN 
 (tN tE 
 (tN tE tE)) 
 (tN tE tE)) 
 (tN 
 (tN tE 
 (tC tE [vS 118 0 1000 1000, .slice none 0 0, vI 1, vI 0, .bool false, .bool false] tE)) 
 (tC tE (vR 128000 (vB 0) ([])) tE)))) [vI 700, vS 7 0 1 1] 
 (tN 
 (tN 
 (tN 
 (tN tE 
 (tN tE tE)) 
 (tN tE tE)) 
 (tN 
 (tN tE 
 (tC tE [vS 118 0 1000 1000, vS 194 0 2 2, vI 2, vI 0, .bool false, .bool false] tE)) 
 (tN tE tE))) 
 (tN 
 (tN 
 (tN tE 
 (tN tE tE)) 
 (tN tE tE)) 
 (tN 
 (tN tE 
 (tC tE [vS 118 0 1000 1000, vS 185 0 1 1, vI 2, vI 0, .bool false, .bool false] tE)) 
 (tN tE tE))))))) (.cells [vB 120] false none) 
 (tC 
 (tN 
 (tN 
 (tN 
 (tN 
 (tN 
 (tN tE 
 (tC tE [vB 0] tE)) 
 (tN tE 
 (tC tE ((vI 1) :: vR 128 (vB 0) ([])) tE))) 
 (tN 
 (tN tE 
 (tC tE [vB 0] tE)) 
 (tN tE tE))) 
 (tN 
 (tN 
 (tN tE 
 (tC tE [vB 0] tE)) 
 (tN tE tE)) 
 (tN 
 (tN tE 
 (tB tE (.cells [vS 173 0 24 24] true (some (1, 41))) tE)) 
 (tN tE tE)))) 
 (tC 
 (tN 
 (tN 
 (tN tE 
 (tC tE [vB 0] tE)) 
 (tN tE tE)) 
 (tN 
 (tN tE 
 (tC tE [vB 0] tE)) 
 (tN tE tE))) ((vP 6 0) :: vR 8 (.bool false) ((.map (some 8)) :: [])) 
 (tN 
 (tN 
 (tN tE 
 (tC tE [vB 0] tE)) 
 (tN tE tE)) 
 (tN 
 (tN tE 
 (tB tE (.cells ((vI 0) :: vR 128 (vB 0) ([])) true (some (129, 389))) tE)) 
 (tC tE ((vS 118 0 1000 1000) :: (.slice none 0 0) :: (vI 0) :: (vI 0) :: (.bool false) :: (.bool false) :: (vI 0) :: (.slice none 0 0) :: (.slice none 0 0) :: (vI 0) :: (.bool false) :: (vS 123 0 700 700) :: vR 8 (.bool false) ((.slice none 0 0) :: (.bool false) :: [])) tE))))) 
 (tC 
 (tN 
 (tN 
 (tN 
 (tN tE 
 (tC tE [vB 0] tE)) 
 (tN tE tE)) 
 (tN 
 (tN tE 
 (tC tE [vB 0] tE)) 
 (tN tE tE))) 
 (tN 
 (tN 
 (tN tE 
 (tC tE [vB 0] tE)) 
 (tN tE tE)) 
 (tN 
 (tN tE 
 (tC tE [vS 118 0 1000 1000, .slice none 0 0, vI 1, vI 0, .bool false, .bool false] tE)) 
 (tC tE [vS 118 0 1000 1000, .slice none 0 0, vI 0, vI 0, .bool false, .bool false] tE)))) [vI 7, vI (-7), .bool false, .bool false, vI 1000, .map (some 4), .slice none 0 0] 
 (tN 
 (tN 
 (tN 
 (tN tE 
 (tC tE [vB 0] tE)) 
 (tN tE tE)) 
 (tN 
 (tN tE 
 (tB tE (.cells ((vB 188) :: (vB 2) :: vR 22 (vB 0) ([])) true (some (1, 5))) tE)) 
 (tN tE tE))) 
 (tN 
 (tN 
 (tN tE 
 (tC tE [vB 0] tE)) 
 (tN tE tE)) 
 (tN 
 (tN tE 
 (tC tE [vS 118 0 1000 1000, vS 185 0 1 1, vI 2, vI 0, .bool false, .bool false] tE)) 
 (tC tE [vB 188] tE)))))) [vI 7, vI 0, vI 0, vI 0, vS 0 0 1 1] 
 (tC 
 (tN 
 (tN 
 (tN 
 (tN 
 (tN tE 
 (tC tE [vB 0] tE)) 
 (tN tE tE)) 
 (tN 
 (tN tE 
 (tC tE [vB 0] tE)) 
 (tN tE tE))) 
 (tN 
 (tN 
 (tN tE 
 (tC tE [vB 0] tE)) 
 (tN tE tE)) 
 (tN 
 (tN tE 
 (tC tE (vR 128 (vB 0) ([])) tE)) 
 (tC tE [vP 5 0, vI 1, vS 114 0 24 24, .slice none 0 0, vI 0, .bool false] tE)))) 
 (tN 
 (tN 
 (tN 
 (tN tE 
 (tC tE [vB 0] tE)) 
 (tN tE tE)) 
 (tN 
 (tN tE 
 (tC tE [vB 0] tE)) 
 (tN tE tE))) 
 (tN 
 (tN 
 (tN tE 
 (tC tE [vB 0] tE)) 
 (tN tE tE)) 
 (tN 
 (tN tE 
 (tC tE (vR 128 (vB 0) ([])) tE)) 
 (tC tE (vR 700 (.bool true) ([])) tE))))) ((.slice none 0 0) :: (.slice none 0 0) :: (vI 0) :: (vI 0) :: (.bool false) :: (.bool false) :: (vI 0) :: (.slice none 0 0) :: (.slice none 0 0) :: (vI 0) :: (.bool false) :: (.slice none 0 0) :: vR 8 (.bool false) ((.slice none 0 0) :: (.bool false) :: [])) 
 (tC 
 (tN 
 (tN 
 (tN 
 (tN tE 
 (tC tE [vB 0] tE)) 
 (tN tE tE)) 
 (tN 
 (tN tE 
 (tC tE [vB 0] tE)) 
 (tN tE tE))) 
 (tN 
 (tN 
 (tN tE 
 (tC tE [vB 0] tE)) 
 (tN tE tE)) 
 (tN 
 (tN tE 
 (tC tE [] tE)) 
 (tC tE [vS 118 0 1000 1000, .slice none 0 0, vI 0, vI 0, .bool false, .bool false] tE)))) [vI 0, vI 700] 
 (tN 
 (tN 
 (tN 
 (tN tE 
 (tC tE [vB 0] tE)) 
 (tN tE tE)) 
 (tN 
 (tN tE 
 (tC tE [.slice none 0 0, .slice none 0 0, vI 0, vI 0, .bool false, .bool false, vI 0, .slice none 0 0, .slice none 0 0, vI 0, .bool false] tE)) 
 (tN tE tE))) 
 (tN 
 (tN 
 (tN tE 
 (tC tE [vB 0] tE)) 
 (tN tE tE)) 
 (tN 
 (tN tE 
 (tC tE [] tE)) 
 (tC tE [vB 2] tE))))))))
noncomputable def cV2 : Value := .tuple ⟨[.agg ⟨[vS 200 0 1000 1000, .slice none 0 0, vI 3, vI 0, .bool false, .bool false]⟩, vI 0]⟩
noncomputable def cR2 : Heap := Heap.mk 201 (tB 
 (tN 
 (tN 
 (tN 
 (tN 
 (tN 
 (tN 
 (tN tE 
 (tN tE tE)) 
 (tN tE 
 (tN tE tE))) 
 (tN 
 (tN tE 
 (tN tE tE)) 
 (tN tE tE))) 
 (tN 
 (tN 
 (tN tE 
 (tN tE tE)) 
 (tN tE tE)) 
 (tN 
 (tN tE 
 (tC tE [vS 173 0 24 24] tE)) 
 (tN tE tE)))) 
 (tB 
 (tN 
 (tN 
 (tN tE 
 (tN tE tE)) 
 (tN tE 
 (tB tE (.cells (vR 128000 (vB 0) ([])) true (some (128, 250))) tE))) 
 (tN 
 (tN tE 
 (tN tE tE)) 
 (tN tE tE))) (.map [] 0) 
 (tN 
 (tN 
 (tN tE 
 (tN tE tE)) 
 (tN tE tE)) 
 (tN 
 (tN tE 
 (tC tE ((vI 0) :: vR 128 (vB 0) ([])) tE)) 
 (tC tE ((.slice none 0 0) :: (.slice none 0 0) :: (vI 0) :: (vI 0) :: (.bool false) :: (.bool false) :: (vI 0) :: (.slice none 0 0) :: (.slice none 0 0) :: (vI 0) :: (.bool false) :: (.slice none 0 0) :: vR 8 (.bool false) ((.slice none 0 0) :: (.bool false) :: [])) tE))))) 
 (tB 
 (tN 
 (tN 
 (tN 
 (tN tE 
 (tN tE tE)) 
 (tN tE 
 (tN tE tE))) 
 (tN 
 (tN tE 
 (tN tE tE)) 
 (tN tE tE))) 
 (tN 
 (tN 
 (tN tE 
 (tN tE tE)) 
 (tN tE tE)) 
 (tN 
 (tN tE 
 (tC tE [vS 118 0 1000 1000, vS 185 0 1 1, vI 1, vI 0, .bool false, .bool false] tE)) 
 (tC tE [vP 115 0, vP 9 0, .bool false] tE)))) (.map [⟨vI 0, .agg ⟨vR 128 (vB 0) ([])⟩, 0⟩, ⟨vI 1, .agg ⟨(vB 73) :: (vB 97) :: (vB 8) :: (vB 225) :: (vB 1) :: (vB 1) :: vR 15 (vB 0) ((vB 8) :: (vB 24) :: vR 105 (vB 0) ([]))⟩, 1⟩, ⟨vI 334, .agg ⟨(vB 1) :: (vB 127) :: (vB 227) :: (vB 137) :: (vB 2) :: (vB 1) :: vR 15 (vB 0) ((vB 24) :: (vB 188) :: (vB 2) :: vR 104 (vB 0) ([]))⟩, 2⟩] 3) 
 (tN 
 (tN 
 (tN 
 (tN tE 
 (tN tE tE)) 
 (tN tE tE)) 
 (tN 
 (tN tE 
 (tB tE (.cells (vR 8 (vB 0) ([])) true (some (1, 5))) tE)) 
 (tN tE tE))) 
 (tN 
 (tN 
 (tN tE 
 (tN tE tE)) 
 (tN tE tE)) 
 (tN 
 (tN tE 
 (tC tE [vS 118 0 1000 1000, vS 194 0 2 2, vI 2, vI 0, .bool false, .bool false] tE)) 
 (tC tE ((vS 123 0 700 700) :: vR 8 (.bool false) ((.slice none 0 0) :: [])) tE)))))) 
 (tC 
 (tN 
 (tN 
 (tN 
 (tN 
 (tN tE 
 (tN tE tE)) 
 (tN tE 
 (tB tE (.cells ((vI 0) :: vR 128 (vB 0) ((vI 1) :: vR 128 (vB 0) ([]))) true (some (129, 389))) tE))) 
 (tN 
 (tN tE 
 (tN tE tE)) 
 (tN tE tE))) 
 (tN 
 (tN 
 (tN tE 
 (tN tE tE)) 
 (tN tE tE)) 
 (tN 
 (tN tE 
 (tC tE [vS 118 0 1000 1000, vS 185 0 1 1, vI 1, vI 0, .bool false, .bool false] tE)) 
 (tB tE (.cells ((vB 188) :: (vB 2) :: vR 22 (vB 0) ([])) true (some (1, 5))) tE)))) 
 (tN 
 (tN 
 (tN 
 (tN tE 
 (tN tE tE)) 
 (tN tE tE)) 
 (tN 
 (tN tE 
 (tN tE tE)) 
 (tN tE tE))) 
 (tN 
 (tN 
 (tN tE 
 (tN tE tE)) 
 (tN tE tE)) 
 (tN 
 (tN tE 
 (tC tE [vS 118 0 1000 1000, vS 194 0 2 2, vI 2, vI 0, .bool false, .bool false] tE)) 
 (tC tE ((vS 123 0 700 700) :: vR 8 (.bool false) ((.slice none 0 0) :: [])) tE))))) [.slice none 0 0, .slice none 0 0, vS 1 0 1 1, .slice none 0 0] 
 (tC 
 (tN 
 (tN 
 (tN 
 (tN tE 
 (tN tE tE)) 
 (tN tE 
 (tN tE tE))) 
 (tN 
 (tN tE 
 (tN tE tE)) 
 (tN tE tE))) 
 (tN 
 (tN 
 (tN tE 
 (tN tE tE)) 
 (tN tE tE)) 
 (tN 
 (tN tE 
 (tC tE [vS 118 0 1000 1000, .slice none 0 0, vI 1, vI 0, .bool false, .bool false] tE)) 
 (tC tE (vR 128000 (vB 0) ([])) tE)))) [vI 700, vS 7 0 1 1] 
 (tN 
 (tN 
 (tN 
 (tN tE 
 (tN tE tE)) 
 (tN tE tE)) 
 (tN 
 (tN tE 
 (tC tE [vS 118 0 1000 1000, vS 194 0 2 2, vI 2, vI 0, .bool false, .bool false] tE)) 
 (tN tE tE))) 
 (tN 
 (tN 
 (tN tE 
 (tN tE tE)) 
 (tN tE tE)) 
 (tN 
 (tN tE 
 (tC tE [vS 118 0 1000 1000, vS 185 0 1 1, vI 2, vI 0, .bool false, .bool false] tE)) 
 (tN tE tE))))))) (.cells [vB 120] false none) 
 (tC 
 (tN 
 (tN 
 (tN 
 (tN 
 (tN 
 (tN tE 
 (tC tE [vB 0] tE)) 
 (tN tE 
 (tC tE ((vI 1) :: vR 128 (vB 0) ([])) tE))) 
 (tN 
 (tN tE 
 (tC tE [vB 0] tE)) 
 (tN tE tE))) 
 (tN 
 (tN 
 (tN tE 
 (tC tE [vB 0] tE)) 
 (tN tE tE)) 
 (tN 
 (tN tE 
 (tB tE (.cells [vS 173 0 24 24] true (some (1, 41))) tE)) 
 (tN tE tE)))) 
 (tC 
 (tN 
 (tN 
 (tN tE 
 (tC tE [vB 0] tE)) 
 (tN tE tE)) 
 (tN 
 (tN tE 
 (tC tE [vB 0] tE)) 
 (tN tE tE))) ((vP 6 0) :: vR 8 (.bool false) ((.map (some 8)) :: [])) 
 (tN 
 (tN 
 (tN tE 
 (tC tE [vB 0] tE)) 
 (tN tE tE)) 
 (tN 
 (tN tE 
 (tB tE (.cells ((vI 0) :: vR 128 (vB 0) ([])) true (some (129, 389))) tE)) 
 (tC tE ((vS 118 0 1000 1000) :: (.slice none 0 0) :: (vI 0) :: (vI 0) :: (.bool false) :: (.bool false) :: (vI 0) :: (.slice none 0 0) :: (.slice none 0 0) :: (vI 0) :: (.bool false) :: (vS 123 0 700 700) :: vR 8 (.bool false) ((.slice none 0 0) :: (.bool false) :: [])) tE))))) 
 (tC 
 (tN 
 (tN 
 (tN 
 (tN tE 
 (tC tE [vB 0] tE)) 
 (tN tE 
 (tN tE tE))) 
 (tN 
 (tN tE 
 (tC tE [vB 0] tE)) 
 (tN tE tE))) 
 (tN 
 (tN 
 (tN tE 
 (tC tE [vB 0] tE)) 
 (tN tE tE)) 
 (tN 
 (tN tE 
 (tC tE [vS 118 0 1000 1000, .slice none 0 0, vI 1, vI 0, .bool false, .bool false] tE)) 
 (tC tE [vS 118 0 1000 1000, .slice none 0 0, vI 0, vI 0, .bool false, .bool false] tE)))) [vI 7, vI (-7), .bool false, .bool false, vI 1000, .map (some 4), .slice none 0 0] 
 (tN 
 (tN 
 (tN 
 (tN tE 
 (tC tE [vB 0] tE)) 
 (tN tE tE)) 
 (tN 
 (tN tE 
 (tB tE (.cells ((vB 188) :: (vB 2) :: vR 22 (vB 0) ([])) true (some (1, 5))) tE)) 
 (tN tE tE))) 
 (tN 
 (tN 
 (tN tE 
 (tC tE [vB 0] tE)) 
 (tN tE tE)) 
 (tN 
 (tN tE 
 (tC tE [vS 118 0 1000 1000, vS 185 0 1 1, vI 2, vI 0, .bool false, .bool false] tE)) 
 (tC tE [vB 188] tE)))))) [vI 7, vI 0, vI 0, vI 0, vS 0 0 1 1] 
 (tC 
 (tN 
 (tN 
 (tN 
 (tN 
 (tN tE 
 (tC tE [vB 0] tE)) 
 (tN tE 
 (tN tE tE))) 
 (tN 
 (tN tE 
 (tC tE [vB 0] tE)) 
 (tN tE tE))) 
 (tN 
 (tN 
 (tN tE 
 (tC tE [vB 0] tE)) 
 (tN tE tE)) 
 (tN 
 (tN tE 
 (tC tE (vR 128 (vB 0) ([])) tE)) 
 (tC tE [vP 5 0, vI 1, vS 114 0 24 24, .slice none 0 0, vI 0, .bool false] tE)))) 
 (tN 
 (tN 
 (tN 
 (tN tE 
 (tC tE [vB 0] tE)) 
 (tN tE tE)) 
 (tN 
 (tN tE 
 (tC tE [vB 0] tE)) 
 (tN tE tE))) 
 (tN 
 (tN 
 (tN tE 
 (tC tE [vB 0] tE)) 
 (tN tE tE)) 
 (tN 
 (tN tE 
 (tC tE (vR 128 (vB 0) ([])) tE)) 
 (tC tE (vR 700 (.bool true) ([])) tE))))) ((.slice none 0 0) :: (.slice none 0 0) :: (vI 0) :: (vI 0) :: (.bool false) :: (.bool false) :: (vI 0) :: (.slice none 0 0) :: (.slice none 0 0) :: (vI 0) :: (.bool false) :: (.slice none 0 0) :: vR 8 (.bool false) ((.slice none 0 0) :: (.bool false) :: [])) 
 (tC 
 (tN 
 (tN 
 (tN 
 (tN tE 
 (tC tE [vB 0] tE)) 
 (tN tE 
 (tN tE tE))) 
 (tN 
 (tN tE 
 (tC tE [vB 0] tE)) 
 (tN tE tE))) 
 (tN 
 (tN 
 (tN tE 
 (tC tE [vB 0] tE)) 
 (tN tE tE)) 
 (tN 
 (tN tE 
 (tC tE [] tE)) 
 (tC tE [vS 118 0 1000 1000, .slice none 0 0, vI 0, vI 0, .bool false, .bool false] tE)))) [vI 0, vI 700] 
 (tN 
 (tN 
 (tN 
 (tN tE 
 (tC tE [vB 0] tE)) 
 (tN tE tE)) 
 (tN 
 (tN tE 
 (tC tE [.slice none 0 0, .slice none 0 0, vI 0, vI 0, .bool false, .bool false, vI 0, .slice none 0 0, .slice none 0 0, vI 0, .bool false] tE)) 
 (tN tE tE))) 
 (tN 
 (tN 
 (tN tE 
 (tC tE [vB 0] tE)) 
 (tN tE tE)) 
 (tN 
 (tN tE 
 (tC tE [] tE)) 
 (tC tE [vB 2] tE))))))))
theorem cut_run2 : cutIs cH2 [195, 196, 197, 198, 199] cV2 cR2 ((callF EC1 3000).fn 143 cA2 cH2) = true := by kernel_rfl
noncomputable def EC2 : Env := EC1.tell 143 (cutV EC1 3000 143 cA2 cH2 cV2 cR2)
theorem okC2 : EnvOk Tryz.prog EC2 := tell_ok okC1 (cut_ok okC1 cut_run2)
end Go.Proofs.YtdeokdbkhkehbaaGreatDoor.C
