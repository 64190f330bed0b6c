/- Cut12: what one call of function 9 does at one heap of this run: by the kernel. -/
import Derived.Test.YtdeokdbkhkehbaaGreatDoorCut11
import Derived.Test.YtdeokdbkhkehbaaGreatDoorVgF
import Derived.KernelRfl
open Go Go.Vi
namespace Go.Proofs.YtdeokdbkhkehbaaGreatDoor.C
noncomputable def cA12 : List Value := [.agg ⟨[.slice none 0 0, .slice none 0 0, vS 1 0 1 1, .slice none 0 0]⟩]
noncomputable def cH12 : Heap := Heap.mk 2 (tB tE (.cells [vB 120] false none) 
 (tC tE [vI 7, vI 0, vI 0, vI 0, vS 0 0 1 1] tE))
noncomputable def cV12 : Value := .tuple ⟨[vP 116 0, .agg ⟨(vS 1834 0 1000 1000) :: (.slice none 0 0) :: (vI 12) :: (vI 0) :: (.bool false) :: (.bool false) :: (vI 1) :: (vS 173 0 24 24) :: (vS 1839 0 1 1) :: (vI 3) :: (.bool false) :: (vS 1044 0 700 700) :: vR 8 (.bool false) ((vS 1050 0 1 1) :: (.bool false) :: [])⟩, .bool true]⟩
noncomputable def cR12 : Heap := Heap.mk 1840 (tB 
 (tN 
 (tN 
 (tN 
 (tN 
 (tN 
 (tN 
 (tN 
 (tN 
 (tN 
 (tN tE 
 (tN tE tE)) 
 (tN tE 
 (tN tE tE))) 
 (tN 
 (tN tE 
 (tN tE tE)) 
 (tB tE (.map [] 0) 
 (tN tE tE)))) 
 (tN 
 (tN 
 (tN tE 
 (tN tE tE)) 
 (tN tE 
 (tN tE tE))) 
 (tN 
 (tN tE 
 (tN tE tE)) 
 (tN tE tE)))) 
 (tN 
 (tN 
 (tN 
 (tN tE 
 (tN tE tE)) 
 (tN tE 
 (tN tE tE))) 
 (tN 
 (tN tE 
 (tN tE tE)) 
 (tN tE tE))) 
 (tN 
 (tN 
 (tN tE 
 (tN tE tE)) 
 (tN tE 
 (tN tE tE))) 
 (tN 
 (tN tE 
 (tN tE tE)) 
 (tN tE tE))))) 
 (tN 
 (tN 
 (tN 
 (tN 
 (tN tE 
 (tN tE tE)) 
 (tN tE 
 (tN tE tE))) 
 (tN 
 (tN tE 
 (tN tE tE)) 
 (tN tE 
 (tN tE tE)))) 
 (tN 
 (tN 
 (tN tE 
 (tN tE tE)) 
 (tN tE 
 (tN tE tE))) 
 (tN 
 (tN tE 
 (tN tE tE)) 
 (tN tE tE)))) 
 (tN 
 (tN 
 (tN 
 (tN tE 
 (tN tE tE)) 
 (tN tE 
 (tN tE tE))) 
 (tN 
 (tN tE 
 (tN tE tE)) 
 (tN tE tE))) 
 (tN 
 (tN 
 (tN tE 
 (tN tE tE)) 
 (tN tE 
 (tN tE tE))) 
 (tN 
 (tN tE 
 (tN tE tE)) 
 (tN tE tE)))))) 
 (tN 
 (tN 
 (tN 
 (tN 
 (tN 
 (tN tE 
 (tN tE tE)) 
 (tN tE 
 (tN tE tE))) 
 (tN 
 (tN tE 
 (tN tE tE)) 
 (tN tE 
 (tN tE tE)))) 
 (tN 
 (tN 
 (tN tE 
 (tN tE tE)) 
 (tN tE 
 (tN tE tE))) 
 (tN 
 (tN tE 
 (tN tE tE)) 
 (tN tE tE)))) 
 (tN 
 (tN 
 (tN 
 (tN tE 
 (tN tE tE)) 
 (tN tE 
 (tN tE tE))) 
 (tN 
 (tN tE 
 (tN tE tE)) 
 (tN tE tE))) 
 (tN 
 (tN 
 (tN tE 
 (tN tE tE)) 
 (tN tE 
 (tN tE tE))) 
 (tN 
 (tN tE 
 (tN tE tE)) 
 (tN tE tE))))) 
 (tN 
 (tN 
 (tN 
 (tN 
 (tN tE 
 (tN tE tE)) 
 (tN tE 
 (tN tE tE))) 
 (tN 
 (tN tE 
 (tN tE tE)) 
 (tN tE tE))) 
 (tN 
 (tN 
 (tN tE 
 (tN tE tE)) 
 (tN tE 
 (tN tE tE))) 
 (tN 
 (tN tE 
 (tN tE tE)) 
 (tN tE tE)))) 
 (tN 
 (tN 
 (tN 
 (tN tE 
 (tN tE tE)) 
 (tN tE 
 (tN tE tE))) 
 (tN 
 (tN tE 
 (tN tE tE)) 
 (tN tE tE))) 
 (tN 
 (tN 
 (tN tE 
 (tN tE tE)) 
 (tN tE 
 (tN tE tE))) 
 (tN 
 (tN tE 
 (tN tE tE)) 
 (tN tE tE))))))) 
 (tN 
 (tN 
 (tN 
 (tN 
 (tN 
 (tN 
 (tN tE 
 (tN tE tE)) 
 (tN tE 
 (tN tE tE))) 
 (tN 
 (tN tE 
 (tN tE tE)) 
 (tN tE 
 (tN tE tE)))) 
 (tN 
 (tN 
 (tN tE 
 (tN tE tE)) 
 (tN tE 
 (tN tE tE))) 
 (tN 
 (tN tE 
 (tN tE tE)) 
 (tN tE tE)))) 
 (tN 
 (tN 
 (tN 
 (tN tE 
 (tN tE tE)) 
 (tN tE 
 (tN tE tE))) 
 (tN 
 (tN tE 
 (tN tE tE)) 
 (tN tE tE))) 
 (tN 
 (tN 
 (tN tE 
 (tN tE tE)) 
 (tN tE 
 (tN tE tE))) 
 (tN 
 (tN tE 
 (tN tE tE)) 
 (tN tE tE))))) 
 (tN 
 (tN 
 (tN 
 (tN 
 (tN tE 
 (tN tE tE)) 
 (tN tE 
 (tN tE tE))) 
 (tN 
 (tN tE 
 (tN tE tE)) 
 (tN tE 
 (tN tE tE)))) 
 (tN 
 (tN 
 (tN tE 
 (tN tE tE)) 
 (tN tE 
 (tN tE tE))) 
 (tN 
 (tN tE 
 (tN tE tE)) 
 (tN tE tE)))) 
 (tN 
 (tN 
 (tN 
 (tN tE 
 (tN tE tE)) 
 (tN tE 
 (tN tE tE))) 
 (tN 
 (tN tE 
 (tN tE tE)) 
 (tN tE tE))) 
 (tN 
 (tN 
 (tN tE 
 (tN tE tE)) 
 (tN tE 
 (tN tE tE))) 
 (tN 
 (tN tE 
 (tN tE tE)) 
 (tN tE tE)))))) 
 (tN 
 (tN 
 (tN 
 (tN 
 (tN 
 (tN tE 
 (tN tE tE)) 
 (tN tE 
 (tN tE tE))) 
 (tN 
 (tN tE 
 (tN tE tE)) 
 (tN tE 
 (tN tE tE)))) 
 (tN 
 (tN 
 (tN tE 
 (tN tE tE)) 
 (tN tE 
 (tN tE tE))) 
 (tN 
 (tN tE 
 (tN tE tE)) 
 (tN tE tE)))) 
 (tN 
 (tN 
 (tN 
 (tN tE 
 (tN tE tE)) 
 (tN tE 
 (tN tE tE))) 
 (tN 
 (tN tE 
 (tN tE tE)) 
 (tN tE tE))) 
 (tN 
 (tN 
 (tN tE 
 (tN tE tE)) 
 (tN tE 
 (tN tE tE))) 
 (tN 
 (tN tE 
 (tN tE tE)) 
 (tN tE tE))))) 
 (tN 
 (tN 
 (tN 
 (tN 
 (tN tE 
 (tN tE tE)) 
 (tN tE 
 (tN tE tE))) 
 (tN 
 (tN tE 
 (tN tE tE)) 
 (tN tE tE))) 
 (tN 
 (tN 
 (tN tE 
 (tN tE tE)) 
 (tN tE 
 (tN tE tE))) 
 (tN 
 (tN tE 
 (tN tE tE)) 
 (tN tE tE)))) 
 (tN 
 (tN 
 (tN 
 (tN tE 
 (tN tE tE)) 
 (tN tE 
 (tN tE tE))) 
 (tN 
 (tN tE 
 (tN tE tE)) 
 (tN tE tE))) 
 (tN 
 (tN 
 (tN tE 
 (tN tE tE)) 
 (tC tE [vI 700, vS 793 0 1 1] 
 (tN tE tE))) 
 (tN 
 (tN tE 
 (tN tE tE)) 
 (tN tE tE)))))))) 
 (tB 
 (tN 
 (tN 
 (tN 
 (tN 
 (tN 
 (tN 
 (tN tE 
 (tN tE tE)) 
 (tN tE 
 (tN tE tE))) 
 (tN 
 (tN tE 
 (tN tE tE)) 
 (tN tE 
 (tN tE tE)))) 
 (tN 
 (tN 
 (tN tE 
 (tN tE tE)) 
 (tN tE 
 (tN tE tE))) 
 (tN 
 (tN tE 
 (tN tE tE)) 
 (tN tE tE)))) 
 (tN 
 (tN 
 (tN 
 (tN tE 
 (tN tE tE)) 
 (tN tE 
 (tN tE tE))) 
 (tN 
 (tN tE 
 (tN tE tE)) 
 (tN tE tE))) 
 (tN 
 (tN 
 (tN tE 
 (tN tE tE)) 
 (tN tE 
 (tN tE tE))) 
 (tN 
 (tN tE 
 (tN tE tE)) 
 (tN tE tE))))) 
 (tN 
 (tN 
 (tN 
 (tN 
 (tN tE 
 (tN tE tE)) 
 (tN tE 
 (tN tE tE))) 
 (tN 
 (tN tE 
 (tN tE tE)) 
 (tN tE 
 (tN tE tE)))) 
 (tN 
 (tN 
 (tN tE 
 (tN tE tE)) 
 (tN tE 
 (tN tE tE))) 
 (tN 
 (tN tE 
 (tN tE tE)) 
 (tN tE tE)))) 
 (tN 
 (tN 
 (tN 
 (tN tE 
 (tN tE tE)) 
 (tN tE 
 (tN tE tE))) 
 (tN 
 (tN tE 
 (tN tE tE)) 
 (tN tE tE))) 
 (tN 
 (tN 
 (tN tE 
 (tN tE tE)) 
 (tN tE 
 (tN tE tE))) 
 (tN 
 (tN tE 
 (tN tE tE)) 
 (tN tE tE)))))) 
 (tN 
 (tN 
 (tN 
 (tN 
 (tN 
 (tN tE 
 (tB tE (.cells ((.bool false) :: (.bool false) :: vR 698 (.bool true) ([])) true (some (1, 4))) tE)) 
 (tN tE 
 (tN tE tE))) 
 (tN 
 (tN tE 
 (tN tE tE)) 
 (tN tE 
 (tN tE tE)))) 
 (tN 
 (tN 
 (tN tE 
 (tN tE tE)) 
 (tN tE 
 (tN tE tE))) 
 (tN 
 (tN tE 
 (tN tE tE)) 
 (tN tE tE)))) 
 (tN 
 (tN 
 (tN 
 (tN tE 
 (tN tE tE)) 
 (tN tE 
 (tN tE tE))) 
 (tN 
 (tN tE 
 (tN tE tE)) 
 (tN tE tE))) 
 (tN 
 (tN 
 (tN tE 
 (tN tE tE)) 
 (tN tE 
 (tN tE tE))) 
 (tN 
 (tN tE 
 (tN tE tE)) 
 (tN tE tE))))) 
 (tN 
 (tN 
 (tN 
 (tN 
 (tN tE 
 (tN tE tE)) 
 (tN tE 
 (tN tE tE))) 
 (tN 
 (tN tE 
 (tN tE tE)) 
 (tN tE tE))) 
 (tN 
 (tN 
 (tN tE 
 (tN tE tE)) 
 (tN tE 
 (tN tE tE))) 
 (tN 
 (tN tE 
 (tN tE tE)) 
 (tN tE tE)))) 
 (tC 
 (tN 
 (tN 
 (tN tE 
 (tN tE tE)) 
 (tN tE 
 (tN tE tE))) 
 (tN 
 (tN tE 
 (tN tE tE)) 
 (tN tE tE))) [vP 115 0, vP 762 0, .bool false] 
 (tN 
 (tN 
 (tN tE 
 (tN tE tE)) 
 (tN tE 
 (tN tE tE))) 
 (tN 
 (tN tE 
 (tN tE tE)) 
 (tN tE tE))))))) (.map [⟨vI 0, .agg ⟨vR 128 (vB 0) ([])⟩, 0⟩, ⟨vI 1, .agg ⟨(vB 73) :: (vB 97) :: (vB 8) :: (vB 225) :: (vB 1) :: (vB 1) :: vR 15 (vB 0) ((vB 8) :: (vB 24) :: vR 105 (vB 0) ([]))⟩, 1⟩, ⟨vI 334, .agg ⟨(vB 1) :: (vB 127) :: (vB 227) :: (vB 137) :: (vB 2) :: (vB 1) :: vR 15 (vB 0) ((vB 24) :: (vB 188) :: (vB 2) :: vR 104 (vB 0) ([]))⟩, 2⟩, ⟨vI 666, .agg ⟨(vB 48) :: (vB 87) :: (vB 134) :: (vB 75) :: (vB 3) :: (vB 1) :: vR 15 (vB 0) ((vB 106) :: (vB 1) :: (vB 5) :: vR 7 (vB 0) ((vB 100) :: (vB 46) :: (vB 55) :: (vB 46) :: (vB 48) :: (vB 3) :: vR 7 (vB 0) ((vB 6) :: vR 39 (vB 0) ((vB 8) :: vR 31 (vB 0) ((vB 26) :: vR 7 (vB 0) ((vB 1) :: (vB 1) :: (vB 0) :: (vB 0) :: []))))))⟩, 3⟩, ⟨vI 667, .agg ⟨(vB 0) :: (vB 129) :: (vB 94) :: (vB 13) :: (vB 3) :: (vB 1) :: vR 7 (vB 0) ((vB 1) :: vR 7 (vB 0) ((vB 62) :: (vB 0) :: (vB 0) :: (vB 0) :: (vB 0) :: (vB 0) :: (vB 120) :: vR 16 (vB 0) ((vB 10) :: vR 7 (vB 0) ((vB 26) :: vR 75 (vB 0) ([])))))⟩, 4⟩, ⟨vI 668, .agg ⟨(vB 2) :: (vB 14) :: (vB 194) :: (vB 132) :: (vB 4) :: (vB 1) :: vR 7 (vB 0) ((vB 2) :: vR 7 (vB 0) ((vB 8) :: (vB 2) :: vR 105 (vB 0) ([])))⟩, 5⟩] 6) 
 (tN 
 (tN 
 (tN 
 (tN 
 (tN 
 (tN 
 (tN tE 
 (tN tE tE)) 
 (tN tE 
 (tN tE tE))) 
 (tN 
 (tN tE 
 (tN tE tE)) 
 (tN tE 
 (tN tE tE)))) 
 (tN 
 (tN 
 (tN tE 
 (tN tE tE)) 
 (tN tE 
 (tN tE tE))) 
 (tN 
 (tN tE 
 (tN tE tE)) 
 (tN tE tE)))) 
 (tN 
 (tN 
 (tN 
 (tN tE 
 (tN tE tE)) 
 (tN tE 
 (tN tE tE))) 
 (tN 
 (tN tE 
 (tN tE tE)) 
 (tN tE tE))) 
 (tN 
 (tN 
 (tN tE 
 (tN tE tE)) 
 (tN tE 
 (tN tE tE))) 
 (tN 
 (tN tE 
 (tN tE tE)) 
 (tN tE tE))))) 
 (tN 
 (tN 
 (tN 
 (tN 
 (tN tE 
 (tN tE tE)) 
 (tN tE 
 (tN tE tE))) 
 (tN 
 (tN tE 
 (tN tE tE)) 
 (tN tE 
 (tN tE tE)))) 
 (tN 
 (tN 
 (tN tE 
 (tN tE tE)) 
 (tN tE 
 (tN tE tE))) 
 (tN 
 (tN tE 
 (tN tE tE)) 
 (tN tE tE)))) 
 (tN 
 (tN 
 (tN 
 (tN tE 
 (tN tE tE)) 
 (tN tE 
 (tN tE tE))) 
 (tN 
 (tN tE 
 (tN tE tE)) 
 (tN tE tE))) 
 (tN 
 (tN 
 (tN tE 
 (tN tE tE)) 
 (tN tE 
 (tN tE tE))) 
 (tN 
 (tN tE 
 (tN tE tE)) 
 (tN tE tE)))))) 
 (tN 
 (tN 
 (tN 
 (tN 
 (tN 
 (tN tE 
 (tN tE tE)) 
 (tN tE 
 (tN tE tE))) 
 (tN 
 (tN tE 
 (tN tE tE)) 
 (tB tE (.cells [vI 0, vI 2] true (some (2, 267))) 
 (tN tE tE)))) 
 (tN 
 (tN 
 (tN tE 
 (tN tE tE)) 
 (tN tE 
 (tN tE tE))) 
 (tN 
 (tN tE 
 (tN tE tE)) 
 (tN tE tE)))) 
 (tN 
 (tN 
 (tN 
 (tN tE 
 (tN tE tE)) 
 (tN tE 
 (tN tE tE))) 
 (tN 
 (tN tE 
 (tN tE tE)) 
 (tN tE tE))) 
 (tN 
 (tN 
 (tN tE 
 (tN tE tE)) 
 (tN tE 
 (tN tE tE))) 
 (tN 
 (tN tE 
 (tN tE tE)) 
 (tN tE tE))))) 
 (tN 
 (tN 
 (tN 
 (tN 
 (tN tE 
 (tN tE tE)) 
 (tN tE 
 (tN tE tE))) 
 (tN 
 (tN tE 
 (tN tE tE)) 
 (tN tE tE))) 
 (tN 
 (tN 
 (tN tE 
 (tN tE tE)) 
 (tN tE 
 (tN tE tE))) 
 (tN 
 (tN tE 
 (tN tE tE)) 
 (tN tE tE)))) 
 (tN 
 (tN 
 (tN 
 (tN tE 
 (tN tE tE)) 
 (tN tE 
 (tN tE tE))) 
 (tN 
 (tN tE 
 (tN tE tE)) 
 (tN tE tE))) 
 (tN 
 (tN 
 (tN tE 
 (tN tE tE)) 
 (tN tE 
 (tN tE tE))) 
 (tN 
 (tN tE 
 (tN tE tE)) 
 (tN tE tE))))))))) 
 (tN 
 (tN 
 (tN 
 (tN 
 (tN 
 (tN 
 (tN 
 (tN 
 (tN tE 
 (tN tE tE)) 
 (tN tE 
 (tN tE tE))) 
 (tN 
 (tN tE 
 (tN tE tE)) 
 (tN tE 
 (tN tE tE)))) 
 (tN 
 (tN 
 (tN tE 
 (tN tE tE)) 
 (tN tE 
 (tN tE tE))) 
 (tN 
 (tN tE 
 (tN tE tE)) 
 (tN tE tE)))) 
 (tN 
 (tN 
 (tN 
 (tN tE 
 (tN tE tE)) 
 (tN tE 
 (tN tE tE))) 
 (tN 
 (tN tE 
 (tN tE tE)) 
 (tN tE tE))) 
 (tN 
 (tN 
 (tN tE 
 (tN tE tE)) 
 (tN tE 
 (tN tE tE))) 
 (tN 
 (tN tE 
 (tN tE tE)) 
 (tN tE tE))))) 
 (tN 
 (tN 
 (tN 
 (tN 
 (tN tE 
 (tN tE tE)) 
 (tN tE 
 (tN tE tE))) 
 (tN 
 (tN tE 
 (tN tE tE)) 
 (tN tE 
 (tN tE tE)))) 
 (tN 
 (tN 
 (tN tE 
 (tN tE tE)) 
 (tN tE 
 (tN tE tE))) 
 (tN 
 (tN tE 
 (tN tE tE)) 
 (tN tE tE)))) 
 (tN 
 (tN 
 (tN 
 (tN tE 
 (tN tE tE)) 
 (tN tE 
 (tN tE tE))) 
 (tN 
 (tN tE 
 (tN tE tE)) 
 (tN tE tE))) 
 (tN 
 (tN 
 (tN tE 
 (tN tE tE)) 
 (tN tE 
 (tN tE tE))) 
 (tN 
 (tN tE 
 (tN tE tE)) 
 (tN tE tE)))))) 
 (tN 
 (tN 
 (tN 
 (tN 
 (tN 
 (tN tE 
 (tN tE tE)) 
 (tN tE 
 (tN tE tE))) 
 (tN 
 (tN tE 
 (tN tE tE)) 
 (tN tE 
 (tN tE tE)))) 
 (tN 
 (tN 
 (tN tE 
 (tN tE tE)) 
 (tN tE 
 (tN tE tE))) 
 (tN 
 (tN tE 
 (tN tE tE)) 
 (tN tE tE)))) 
 (tN 
 (tN 
 (tN 
 (tN tE 
 (tN tE tE)) 
 (tN tE 
 (tN tE tE))) 
 (tN 
 (tN tE 
 (tN tE tE)) 
 (tN tE tE))) 
 (tN 
 (tN 
 (tN tE 
 (tN tE tE)) 
 (tN tE 
 (tN tE tE))) 
 (tN 
 (tN tE 
 (tN tE tE)) 
 (tN tE tE))))) 
 (tN 
 (tN 
 (tN 
 (tN 
 (tN tE 
 (tN tE tE)) 
 (tN tE 
 (tN tE tE))) 
 (tN 
 (tN tE 
 (tN tE tE)) 
 (tN tE tE))) 
 (tN 
 (tN 
 (tN tE 
 (tN tE tE)) 
 (tN tE 
 (tN tE tE))) 
 (tN 
 (tN tE 
 (tN tE tE)) 
 (tN tE tE)))) 
 (tB 
 (tN 
 (tN 
 (tN tE 
 (tN tE tE)) 
 (tN tE 
 (tN tE tE))) 
 (tN 
 (tN tE 
 (tN tE tE)) 
 (tN tE tE))) (.cells ((vB 188) :: (vB 2) :: vR 22 (vB 0) ([])) true (some (1, 5))) 
 (tN 
 (tN 
 (tN tE 
 (tN tE tE)) 
 (tN tE 
 (tN tE tE))) 
 (tN 
 (tN tE 
 (tN tE tE)) 
 (tN tE tE))))))) 
 (tN 
 (tN 
 (tN 
 (tN 
 (tN 
 (tN 
 (tN tE 
 (tN tE tE)) 
 (tN tE 
 (tN tE tE))) 
 (tN 
 (tN tE 
 (tN tE tE)) 
 (tN tE 
 (tN tE tE)))) 
 (tN 
 (tN 
 (tN tE 
 (tN tE tE)) 
 (tN tE 
 (tN tE tE))) 
 (tN 
 (tN tE 
 (tN tE tE)) 
 (tN tE tE)))) 
 (tN 
 (tN 
 (tN 
 (tN tE 
 (tN tE tE)) 
 (tN tE 
 (tN tE tE))) 
 (tN 
 (tN tE 
 (tN tE tE)) 
 (tN tE tE))) 
 (tN 
 (tN 
 (tN tE 
 (tN tE tE)) 
 (tN tE 
 (tN tE tE))) 
 (tN 
 (tN tE 
 (tN tE tE)) 
 (tN tE tE))))) 
 (tN 
 (tN 
 (tN 
 (tN 
 (tN tE 
 (tN tE tE)) 
 (tN tE 
 (tN tE tE))) 
 (tN 
 (tN tE 
 (tN tE tE)) 
 (tN tE 
 (tB tE (.cells (vR 128 (vB 0) ((vB 73) :: (vB 97) :: (vB 8) :: (vB 225) :: (vB 1) :: (vB 1) :: vR 15 (vB 0) ((vB 8) :: (vB 24) :: vR 42601 (vB 0) ((vB 1) :: (vB 127) :: (vB 227) :: (vB 137) :: (vB 2) :: (vB 1) :: vR 15 (vB 0) ((vB 24) :: (vB 188) :: (vB 2) :: vR 42472 (vB 0) ((vB 48) :: (vB 87) :: (vB 134) :: (vB 75) :: (vB 3) :: (vB 1) :: vR 15 (vB 0) ((vB 106) :: (vB 1) :: (vB 5) :: vR 7 (vB 0) ((vB 100) :: (vB 46) :: (vB 55) :: (vB 46) :: (vB 48) :: (vB 3) :: vR 7 (vB 0) ((vB 6) :: vR 39 (vB 0) ((vB 8) :: vR 31 (vB 0) ((vB 26) :: vR 7 (vB 0) ((vB 1) :: (vB 1) :: (vB 0) :: (vB 0) :: (vB 0) :: (vB 129) :: (vB 94) :: (vB 13) :: (vB 3) :: (vB 1) :: vR 7 (vB 0) ((vB 1) :: vR 7 (vB 0) ((vB 62) :: (vB 0) :: (vB 0) :: (vB 0) :: (vB 0) :: (vB 0) :: (vB 120) :: vR 16 (vB 0) ((vB 10) :: vR 7 (vB 0) ((vB 26) :: vR 75 (vB 0) ((vB 2) :: (vB 14) :: (vB 194) :: (vB 132) :: (vB 4) :: (vB 1) :: vR 7 (vB 0) ((vB 2) :: vR 7 (vB 0) ((vB 8) :: (vB 2) :: vR 42473 (vB 0) ([])))))))))))))))))))) true (some (128, 250))) tE)))) 
 (tN 
 (tN 
 (tN tE 
 (tN tE tE)) 
 (tN tE 
 (tN tE tE))) 
 (tN 
 (tN tE 
 (tN tE tE)) 
 (tN tE tE)))) 
 (tN 
 (tN 
 (tN 
 (tN tE 
 (tN tE tE)) 
 (tN tE 
 (tN tE tE))) 
 (tN 
 (tN tE 
 (tN tE tE)) 
 (tN tE tE))) 
 (tN 
 (tN 
 (tN tE 
 (tN tE tE)) 
 (tN tE 
 (tN tE tE))) 
 (tN 
 (tN tE 
 (tN tE tE)) 
 (tN tE tE)))))) 
 (tN 
 (tN 
 (tN 
 (tN 
 (tN 
 (tN tE 
 (tB tE (.cells [vT [100, 46, 55, 46, 48], vS 1038 0 26 26, .slice none 0 0, vS 1047 0 1 1] true (some (4, 276))) tE)) 
 (tN tE 
 (tN tE tE))) 
 (tN 
 (tN tE 
 (tN tE tE)) 
 (tN tE 
 (tN tE tE)))) 
 (tN 
 (tN 
 (tN tE 
 (tN tE tE)) 
 (tN tE 
 (tN tE tE))) 
 (tN 
 (tN tE 
 (tN tE tE)) 
 (tN tE tE)))) 
 (tN 
 (tN 
 (tN 
 (tN tE 
 (tN tE tE)) 
 (tN tE 
 (tN tE tE))) 
 (tN 
 (tN tE 
 (tN tE tE)) 
 (tN tE tE))) 
 (tN 
 (tN 
 (tN tE 
 (tN tE tE)) 
 (tN tE 
 (tN tE tE))) 
 (tN 
 (tN tE 
 (tN tE tE)) 
 (tN tE tE))))) 
 (tN 
 (tN 
 (tN 
 (tN 
 (tN tE 
 (tN tE tE)) 
 (tN tE 
 (tN tE tE))) 
 (tN 
 (tN tE 
 (tN tE tE)) 
 (tN tE tE))) 
 (tN 
 (tN 
 (tN tE 
 (tN tE tE)) 
 (tN tE 
 (tN tE tE))) 
 (tN 
 (tN tE 
 (tN tE tE)) 
 (tN tE tE)))) 
 (tN 
 (tN 
 (tN 
 (tN tE 
 (tN tE tE)) 
 (tN tE 
 (tN tE tE))) 
 (tN 
 (tN tE 
 (tN tE tE)) 
 (tN tE tE))) 
 (tN 
 (tN 
 (tN tE 
 (tN tE tE)) 
 (tC tE ((vP 760 0) :: vR 8 (.bool false) ((.map (some 761)) :: [])) 
 (tN tE tE))) 
 (tN 
 (tN tE 
 (tN tE tE)) 
 (tN tE tE)))))))) 
 (tN 
 (tN 
 (tN 
 (tN 
 (tN 
 (tN 
 (tN 
 (tN tE 
 (tN tE tE)) 
 (tN tE 
 (tN tE tE))) 
 (tN 
 (tN tE 
 (tN tE tE)) 
 (tN tE 
 (tN tE tE)))) 
 (tN 
 (tN 
 (tN tE 
 (tN tE tE)) 
 (tN tE 
 (tN tE tE))) 
 (tN 
 (tN tE 
 (tN tE tE)) 
 (tN tE tE)))) 
 (tN 
 (tN 
 (tN 
 (tN tE 
 (tN tE tE)) 
 (tN tE 
 (tN tE tE))) 
 (tN 
 (tN tE 
 (tN tE tE)) 
 (tN tE tE))) 
 (tN 
 (tN 
 (tN tE 
 (tN tE tE)) 
 (tN tE 
 (tN tE tE))) 
 (tN 
 (tN tE 
 (tN tE tE)) 
 (tN tE tE))))) 
 (tN 
 (tN 
 (tN 
 (tN 
 (tN tE 
 (tN tE tE)) 
 (tN tE 
 (tN tE tE))) 
 (tN 
 (tN tE 
 (tN tE tE)) 
 (tN tE 
 (tN tE tE)))) 
 (tN 
 (tN 
 (tN tE 
 (tN tE tE)) 
 (tN tE 
 (tN tE tE))) 
 (tN 
 (tN tE 
 (tN tE tE)) 
 (tN tE tE)))) 
 (tN 
 (tN 
 (tN 
 (tN tE 
 (tN tE tE)) 
 (tN tE 
 (tN tE tE))) 
 (tN 
 (tN tE 
 (tN tE tE)) 
 (tN tE tE))) 
 (tN 
 (tN 
 (tN tE 
 (tN tE tE)) 
 (tN tE 
 (tN tE tE))) 
 (tN 
 (tN tE 
 (tN tE tE)) 
 (tN tE tE)))))) 
 (tN 
 (tN 
 (tN 
 (tN 
 (tN 
 (tN tE 
 (tN tE tE)) 
 (tN tE 
 (tN tE tE))) 
 (tN 
 (tN tE 
 (tN tE tE)) 
 (tN tE 
 (tN tE tE)))) 
 (tN 
 (tN 
 (tN tE 
 (tN tE tE)) 
 (tN tE 
 (tN tE tE))) 
 (tN 
 (tN tE 
 (tN tE tE)) 
 (tN tE tE)))) 
 (tN 
 (tN 
 (tN 
 (tN tE 
 (tN tE tE)) 
 (tN tE 
 (tN tE tE))) 
 (tN 
 (tN tE 
 (tN tE tE)) 
 (tN tE tE))) 
 (tN 
 (tN 
 (tN tE 
 (tN tE tE)) 
 (tN tE 
 (tN tE tE))) 
 (tN 
 (tN tE 
 (tN tE tE)) 
 (tN tE tE))))) 
 (tN 
 (tN 
 (tN 
 (tN 
 (tN tE 
 (tN tE tE)) 
 (tN tE 
 (tN tE tE))) 
 (tN 
 (tN tE 
 (tN tE tE)) 
 (tN tE tE))) 
 (tN 
 (tN 
 (tN tE 
 (tN tE tE)) 
 (tN tE 
 (tN tE tE))) 
 (tN 
 (tN tE 
 (tN tE tE)) 
 (tN tE tE)))) 
 (tN 
 (tN 
 (tN 
 (tN tE 
 (tN tE tE)) 
 (tN tE 
 (tN tE tE))) 
 (tN 
 (tN tE 
 (tN tE tE)) 
 (tN tE tE))) 
 (tN 
 (tN 
 (tN tE 
 (tN tE tE)) 
 (tN tE 
 (tN tE tE))) 
 (tN 
 (tN tE 
 (tN tE tE)) 
 (tN tE tE))))))) 
 (tN 
 (tN 
 (tN 
 (tN 
 (tN 
 (tN 
 (tN tE 
 (tC tE ((vB 1) :: (vB 1) :: vR 7 (vB 0) ((vB 120) :: vR 16 (vB 0) ([]))) tE)) 
 (tN tE 
 (tN tE tE))) 
 (tN 
 (tN tE 
 (tN tE tE)) 
 (tN tE 
 (tN tE tE)))) 
 (tN 
 (tN 
 (tN tE 
 (tN tE tE)) 
 (tN tE 
 (tN tE tE))) 
 (tN 
 (tN tE 
 (tN tE tE)) 
 (tN tE tE)))) 
 (tN 
 (tN 
 (tN 
 (tN tE 
 (tN tE tE)) 
 (tN tE 
 (tN tE tE))) 
 (tN 
 (tN tE 
 (tN tE tE)) 
 (tN tE tE))) 
 (tN 
 (tN 
 (tN tE 
 (tN tE tE)) 
 (tN tE 
 (tN tE tE))) 
 (tN 
 (tN tE 
 (tN tE tE)) 
 (tN tE tE))))) 
 (tN 
 (tN 
 (tN 
 (tN 
 (tN tE 
 (tN tE tE)) 
 (tN tE 
 (tN tE tE))) 
 (tN 
 (tN tE 
 (tN tE tE)) 
 (tN tE 
 (tN tE tE)))) 
 (tN 
 (tN 
 (tN tE 
 (tN tE tE)) 
 (tN tE 
 (tN tE tE))) 
 (tN 
 (tN tE 
 (tN tE tE)) 
 (tN tE tE)))) 
 (tN 
 (tN 
 (tN 
 (tN tE 
 (tN tE tE)) 
 (tN tE 
 (tN tE tE))) 
 (tN 
 (tN tE 
 (tN tE tE)) 
 (tN tE tE))) 
 (tN 
 (tN 
 (tN tE 
 (tN tE tE)) 
 (tN tE 
 (tN tE tE))) 
 (tN 
 (tN tE 
 (tN tE tE)) 
 (tN tE tE)))))) 
 (tN 
 (tN 
 (tN 
 (tN 
 (tN 
 (tN tE 
 (tN tE tE)) 
 (tN tE 
 (tN tE tE))) 
 (tN 
 (tN tE 
 (tN tE tE)) 
 (tN tE 
 (tN tE tE)))) 
 (tN 
 (tN 
 (tN tE 
 (tN tE tE)) 
 (tN tE 
 (tN tE tE))) 
 (tN 
 (tN tE 
 (tN tE tE)) 
 (tN tE tE)))) 
 (tN 
 (tN 
 (tN 
 (tN tE 
 (tN tE tE)) 
 (tN tE 
 (tN tE tE))) 
 (tN 
 (tN tE 
 (tN tE tE)) 
 (tN tE tE))) 
 (tN 
 (tN 
 (tN tE 
 (tN tE tE)) 
 (tN tE 
 (tN tE tE))) 
 (tN 
 (tN tE 
 (tN tE tE)) 
 (tN tE tE))))) 
 (tN 
 (tN 
 (tN 
 (tN 
 (tN tE 
 (tN tE tE)) 
 (tN tE 
 (tN tE tE))) 
 (tN 
 (tN tE 
 (tN tE tE)) 
 (tN tE tE))) 
 (tN 
 (tN 
 (tN tE 
 (tN tE tE)) 
 (tN tE 
 (tN tE tE))) 
 (tN 
 (tN tE 
 (tN tE tE)) 
 (tN tE tE)))) 
 (tN 
 (tN 
 (tN 
 (tN tE 
 (tN tE tE)) 
 (tN tE 
 (tN tE tE))) 
 (tN 
 (tN tE 
 (tN tE tE)) 
 (tN tE tE))) 
 (tN 
 (tN 
 (tN tE 
 (tN tE tE)) 
 (tN tE 
 (tN tE tE))) 
 (tN 
 (tN tE 
 (tN tE tE)) 
 (tN tE tE)))))))))) (.cells [vB 120] false none) 
 (tC 
 (tN 
 (tN 
 (tN 
 (tN 
 (tN 
 (tN 
 (tN 
 (tN 
 (tN tE 
 (tN tE tE)) 
 (tN tE 
 (tN tE tE))) 
 (tN 
 (tN tE 
 (tN tE tE)) 
 (tC tE [vS 773 0 26 26, .map (some 768), vS 796 0 1 1] 
 (tN tE tE)))) 
 (tN 
 (tN 
 (tN tE 
 (tN tE tE)) 
 (tN tE 
 (tN tE tE))) 
 (tN 
 (tN tE 
 (tN tE tE)) 
 (tN tE tE)))) 
 (tN 
 (tN 
 (tN 
 (tN tE 
 (tN tE tE)) 
 (tN tE 
 (tN tE tE))) 
 (tN 
 (tN tE 
 (tN tE tE)) 
 (tN tE tE))) 
 (tN 
 (tN 
 (tN tE 
 (tN tE tE)) 
 (tN tE 
 (tN tE tE))) 
 (tN 
 (tN tE 
 (tN tE tE)) 
 (tN tE tE))))) 
 (tN 
 (tN 
 (tN 
 (tN 
 (tN tE 
 (tN tE tE)) 
 (tN tE 
 (tN tE tE))) 
 (tN 
 (tN tE 
 (tN tE tE)) 
 (tN tE 
 (tN tE tE)))) 
 (tN 
 (tN 
 (tN tE 
 (tN tE tE)) 
 (tN tE 
 (tN tE tE))) 
 (tN 
 (tN tE 
 (tN tE tE)) 
 (tN tE tE)))) 
 (tN 
 (tN 
 (tN 
 (tN tE 
 (tN tE tE)) 
 (tN tE 
 (tN tE tE))) 
 (tN 
 (tN tE 
 (tN tE tE)) 
 (tN tE tE))) 
 (tN 
 (tN 
 (tN tE 
 (tN tE tE)) 
 (tN tE 
 (tN tE tE))) 
 (tN 
 (tN tE 
 (tN tE tE)) 
 (tN tE tE)))))) 
 (tN 
 (tN 
 (tN 
 (tN 
 (tN 
 (tN tE 
 (tN tE tE)) 
 (tN tE 
 (tN tE tE))) 
 (tN 
 (tN tE 
 (tN tE tE)) 
 (tN tE 
 (tN tE tE)))) 
 (tN 
 (tN 
 (tN tE 
 (tN tE tE)) 
 (tN tE 
 (tN tE tE))) 
 (tN 
 (tN tE 
 (tN tE tE)) 
 (tN tE tE)))) 
 (tN 
 (tN 
 (tN 
 (tN tE 
 (tN tE tE)) 
 (tN tE 
 (tN tE tE))) 
 (tN 
 (tN tE 
 (tN tE tE)) 
 (tN tE tE))) 
 (tN 
 (tN 
 (tN tE 
 (tN tE tE)) 
 (tN tE 
 (tN tE tE))) 
 (tN 
 (tN tE 
 (tN tE tE)) 
 (tN tE tE))))) 
 (tN 
 (tN 
 (tN 
 (tN 
 (tN tE 
 (tN tE tE)) 
 (tN tE 
 (tN tE tE))) 
 (tN 
 (tN tE 
 (tN tE tE)) 
 (tN tE tE))) 
 (tN 
 (tN 
 (tN tE 
 (tN tE tE)) 
 (tN tE 
 (tN tE tE))) 
 (tN 
 (tN tE 
 (tN tE tE)) 
 (tN tE tE)))) 
 (tN 
 (tN 
 (tN 
 (tN tE 
 (tN tE tE)) 
 (tN tE 
 (tN tE tE))) 
 (tN 
 (tN tE 
 (tN tE tE)) 
 (tN tE tE))) 
 (tN 
 (tN 
 (tN tE 
 (tN tE tE)) 
 (tN tE 
 (tN tE tE))) 
 (tN 
 (tN tE 
 (tN tE tE)) 
 (tN tE tE))))))) 
 (tN 
 (tN 
 (tN 
 (tN 
 (tN 
 (tN 
 (tN tE 
 (tN tE tE)) 
 (tN tE 
 (tN tE tE))) 
 (tN 
 (tN tE 
 (tN tE tE)) 
 (tN tE 
 (tN tE tE)))) 
 (tN 
 (tN 
 (tN tE 
 (tN tE tE)) 
 (tN tE 
 (tN tE tE))) 
 (tN 
 (tN tE 
 (tN tE tE)) 
 (tN tE tE)))) 
 (tN 
 (tN 
 (tN 
 (tN tE 
 (tN tE tE)) 
 (tN tE 
 (tN tE tE))) 
 (tN 
 (tN tE 
 (tN tE tE)) 
 (tN tE tE))) 
 (tN 
 (tN 
 (tN tE 
 (tN tE tE)) 
 (tN tE 
 (tN tE tE))) 
 (tN 
 (tN tE 
 (tN tE tE)) 
 (tN tE tE))))) 
 (tN 
 (tN 
 (tN 
 (tN 
 (tN tE 
 (tN tE tE)) 
 (tN tE 
 (tN tE tE))) 
 (tN 
 (tN tE 
 (tN tE tE)) 
 (tN tE 
 (tN tE tE)))) 
 (tN 
 (tN 
 (tN tE 
 (tN tE tE)) 
 (tN tE 
 (tN tE tE))) 
 (tN 
 (tN tE 
 (tN tE tE)) 
 (tN tE tE)))) 
 (tN 
 (tN 
 (tN 
 (tN tE 
 (tN tE tE)) 
 (tN tE 
 (tN tE tE))) 
 (tN 
 (tN tE 
 (tN tE tE)) 
 (tN tE tE))) 
 (tN 
 (tN 
 (tN tE 
 (tN tE tE)) 
 (tN tE 
 (tN tE tE))) 
 (tN 
 (tN tE 
 (tN tE tE)) 
 (tN tE tE)))))) 
 (tN 
 (tN 
 (tN 
 (tN 
 (tN 
 (tN tE 
 (tN tE tE)) 
 (tN tE 
 (tN tE tE))) 
 (tN 
 (tN tE 
 (tN tE tE)) 
 (tB tE (.cells [vI 2, vI 698] true (some (2, 267))) 
 (tN tE tE)))) 
 (tN 
 (tN 
 (tN tE 
 (tN tE tE)) 
 (tN tE 
 (tN tE tE))) 
 (tN 
 (tN tE 
 (tN tE tE)) 
 (tN tE tE)))) 
 (tN 
 (tN 
 (tN 
 (tN tE 
 (tN tE tE)) 
 (tN tE 
 (tN tE tE))) 
 (tN 
 (tN tE 
 (tN tE tE)) 
 (tN tE tE))) 
 (tN 
 (tN 
 (tN tE 
 (tN tE tE)) 
 (tN tE 
 (tN tE tE))) 
 (tN 
 (tN tE 
 (tN tE tE)) 
 (tN tE tE))))) 
 (tN 
 (tN 
 (tN 
 (tN 
 (tN tE 
 (tN tE tE)) 
 (tN tE 
 (tN tE tE))) 
 (tN 
 (tN tE 
 (tN tE tE)) 
 (tN tE tE))) 
 (tN 
 (tN 
 (tN tE 
 (tN tE tE)) 
 (tN tE 
 (tN tE tE))) 
 (tN 
 (tN tE 
 (tN tE tE)) 
 (tN tE tE)))) 
 (tN 
 (tN 
 (tN 
 (tN tE 
 (tN tE tE)) 
 (tN tE 
 (tN tE tE))) 
 (tN 
 (tN tE 
 (tN tE tE)) 
 (tN tE tE))) 
 (tN 
 (tN 
 (tN tE 
 (tN tE tE)) 
 (tB tE (.map [⟨vT [100, 46, 55, 46, 48], vP 769 0, 0⟩] 1) 
 (tN tE tE))) 
 (tN 
 (tN tE 
 (tN tE tE)) 
 (tN tE tE)))))))) 
 (tC 
 (tN 
 (tN 
 (tN 
 (tN 
 (tN 
 (tN 
 (tN tE 
 (tN tE tE)) 
 (tN tE 
 (tN tE tE))) 
 (tN 
 (tN tE 
 (tN tE tE)) 
 (tB tE (.cells ((vB 1) :: (vB 1) :: vR 7 (vB 0) ((vB 120) :: vR 16 (vB 0) ([]))) true (some (1, 5))) 
 (tN tE tE)))) 
 (tN 
 (tN 
 (tN tE 
 (tN tE tE)) 
 (tN tE 
 (tN tE tE))) 
 (tN 
 (tN tE 
 (tN tE tE)) 
 (tN tE tE)))) 
 (tN 
 (tN 
 (tN 
 (tN tE 
 (tN tE tE)) 
 (tN tE 
 (tN tE tE))) 
 (tN 
 (tN tE 
 (tN tE tE)) 
 (tN tE tE))) 
 (tN 
 (tN 
 (tN tE 
 (tN tE tE)) 
 (tN tE 
 (tN tE tE))) 
 (tN 
 (tN tE 
 (tN tE tE)) 
 (tN tE tE))))) 
 (tN 
 (tN 
 (tN 
 (tN 
 (tN tE 
 (tN tE tE)) 
 (tN tE 
 (tN tE tE))) 
 (tN 
 (tN tE 
 (tN tE tE)) 
 (tN tE 
 (tN tE tE)))) 
 (tN 
 (tN 
 (tN tE 
 (tN tE tE)) 
 (tN tE 
 (tN tE tE))) 
 (tN 
 (tN tE 
 (tN tE tE)) 
 (tN tE tE)))) 
 (tN 
 (tN 
 (tN 
 (tN tE 
 (tN tE tE)) 
 (tN tE 
 (tN tE tE))) 
 (tN 
 (tN tE 
 (tN tE tE)) 
 (tN tE tE))) 
 (tN 
 (tN 
 (tN tE 
 (tN tE tE)) 
 (tN tE 
 (tN tE tE))) 
 (tN 
 (tN tE 
 (tN tE tE)) 
 (tN tE tE)))))) 
 (tN 
 (tN 
 (tN 
 (tN 
 (tN 
 (tN tE 
 (tN tE tE)) 
 (tN tE 
 (tN tE tE))) 
 (tN 
 (tN tE 
 (tN tE tE)) 
 (tN tE 
 (tN tE tE)))) 
 (tN 
 (tN 
 (tN tE 
 (tN tE tE)) 
 (tN tE 
 (tN tE tE))) 
 (tN 
 (tN tE 
 (tN tE tE)) 
 (tN tE tE)))) 
 (tN 
 (tN 
 (tN 
 (tN tE 
 (tN tE tE)) 
 (tN tE 
 (tN tE tE))) 
 (tN 
 (tN tE 
 (tN tE tE)) 
 (tN tE tE))) 
 (tN 
 (tN 
 (tN tE 
 (tN tE tE)) 
 (tN tE 
 (tN tE tE))) 
 (tN 
 (tN tE 
 (tN tE tE)) 
 (tN tE tE))))) 
 (tN 
 (tN 
 (tN 
 (tN 
 (tN tE 
 (tN tE tE)) 
 (tN tE 
 (tN tE tE))) 
 (tN 
 (tN tE 
 (tN tE tE)) 
 (tN tE tE))) 
 (tN 
 (tN 
 (tN tE 
 (tN tE tE)) 
 (tN tE 
 (tN tE tE))) 
 (tN 
 (tN tE 
 (tN tE tE)) 
 (tN tE tE)))) 
 (tN 
 (tN 
 (tN 
 (tN tE 
 (tN tE tE)) 
 (tN tE 
 (tN tE tE))) 
 (tN 
 (tN tE 
 (tN tE tE)) 
 (tN tE tE))) 
 (tN 
 (tN 
 (tN tE 
 (tN tE tE)) 
 (tN tE 
 (tN tE tE))) 
 (tN 
 (tN tE 
 (tN tE tE)) 
 (tN tE tE))))))) [vI 12, vI (-12), .bool false, .bool false, vI 1000, .map (some 4), .slice none 0 0] 
 (tN 
 (tN 
 (tN 
 (tN 
 (tN 
 (tN 
 (tN tE 
 (tN tE tE)) 
 (tN tE 
 (tN tE tE))) 
 (tN 
 (tN tE 
 (tN tE tE)) 
 (tN tE 
 (tN tE tE)))) 
 (tN 
 (tN 
 (tN tE 
 (tN tE tE)) 
 (tN tE 
 (tN tE tE))) 
 (tN 
 (tN tE 
 (tN tE tE)) 
 (tN tE tE)))) 
 (tN 
 (tN 
 (tN 
 (tN tE 
 (tN tE tE)) 
 (tN tE 
 (tN tE tE))) 
 (tN 
 (tN tE 
 (tN tE tE)) 
 (tN tE tE))) 
 (tN 
 (tN 
 (tN tE 
 (tN tE tE)) 
 (tN tE 
 (tN tE tE))) 
 (tN 
 (tN tE 
 (tN tE tE)) 
 (tN tE tE))))) 
 (tN 
 (tN 
 (tN 
 (tN 
 (tN tE 
 (tN tE tE)) 
 (tN tE 
 (tN tE tE))) 
 (tN 
 (tN tE 
 (tN tE tE)) 
 (tN tE 
 (tB tE (.cells ((vB 1) :: (vB 5) :: vR 7 (vB 0) ((vB 100) :: (vB 46) :: (vB 55) :: (vB 46) :: (vB 48) :: (vB 3) :: vR 7 (vB 0) ((vB 6) :: vR 39 (vB 0) ((vB 8) :: vR 31 (vB 0) ((vB 26) :: vR 7 (vB 0) ((vB 1) :: (vB 1) :: vR 7 (vB 0) ((vB 120) :: vR 16 (vB 0) ((vB 10) :: vR 7 (vB 0) ((vB 26) :: vR 31 (vB 0) ([])))))))))) true (some (1, 5))) tE)))) 
 (tB 
 (tN 
 (tN tE 
 (tN tE tE)) 
 (tN tE 
 (tN tE tE))) (.cells ((vB 188) :: (vB 2) :: vR 22 (vB 0) ([])) true (some (1, 5))) 
 (tN 
 (tN tE 
 (tN tE tE)) 
 (tB tE (.cells [vS 939 0 168 168] true (some (1, 41))) tE)))) 
 (tN 
 (tN 
 (tN 
 (tN tE 
 (tN tE tE)) 
 (tN tE 
 (tN tE tE))) 
 (tN 
 (tN tE 
 (tN tE tE)) 
 (tN tE tE))) 
 (tN 
 (tN 
 (tN tE 
 (tN tE tE)) 
 (tN tE 
 (tN tE tE))) 
 (tN 
 (tN tE 
 (tN tE tE)) 
 (tN tE tE)))))) 
 (tN 
 (tN 
 (tN 
 (tN 
 (tN 
 (tN tE 
 (tN tE tE)) 
 (tN tE 
 (tN tE tE))) 
 (tN 
 (tN tE 
 (tN tE tE)) 
 (tN tE 
 (tN tE tE)))) 
 (tN 
 (tN 
 (tN tE 
 (tN tE tE)) 
 (tN tE 
 (tN tE tE))) 
 (tN 
 (tN tE 
 (tN tE tE)) 
 (tN tE tE)))) 
 (tN 
 (tN 
 (tN 
 (tN tE 
 (tN tE tE)) 
 (tN tE 
 (tN tE tE))) 
 (tN 
 (tN tE 
 (tN tE tE)) 
 (tN tE tE))) 
 (tN 
 (tN 
 (tN tE 
 (tN tE tE)) 
 (tN tE 
 (tN tE tE))) 
 (tN 
 (tN tE 
 (tN tE tE)) 
 (tN tE tE))))) 
 (tN 
 (tN 
 (tN 
 (tN 
 (tN tE 
 (tN tE tE)) 
 (tN tE 
 (tN tE tE))) 
 (tN 
 (tN tE 
 (tN tE tE)) 
 (tN tE tE))) 
 (tN 
 (tN 
 (tN tE 
 (tN tE tE)) 
 (tN tE 
 (tN tE tE))) 
 (tN 
 (tN tE 
 (tN tE tE)) 
 (tN tE tE)))) 
 (tN 
 (tN 
 (tN 
 (tN tE 
 (tN tE tE)) 
 (tN tE 
 (tN tE tE))) 
 (tN 
 (tN tE 
 (tN tE tE)) 
 (tN tE tE))) 
 (tN 
 (tN 
 (tN tE 
 (tN tE tE)) 
 (tN tE 
 (tN tE tE))) 
 (tN 
 (tN tE 
 (tN tE tE)) 
 (tN tE tE))))))))) [vI 7, vI 0, vI 0, vI 0, vS 0 0 1 1] 
 (tN 
 (tN 
 (tN 
 (tN 
 (tN 
 (tN 
 (tN 
 (tN 
 (tN tE 
 (tN tE tE)) 
 (tN tE 
 (tN tE tE))) 
 (tN 
 (tN tE 
 (tN tE tE)) 
 (tN tE 
 (tN tE tE)))) 
 (tN 
 (tN 
 (tN tE 
 (tN tE tE)) 
 (tN tE 
 (tN tE tE))) 
 (tN 
 (tN tE 
 (tN tE tE)) 
 (tN tE tE)))) 
 (tN 
 (tN 
 (tN 
 (tN tE 
 (tN tE tE)) 
 (tN tE 
 (tN tE tE))) 
 (tN 
 (tN tE 
 (tN tE tE)) 
 (tN tE tE))) 
 (tN 
 (tN 
 (tN tE 
 (tN tE tE)) 
 (tN tE 
 (tN tE tE))) 
 (tN 
 (tN tE 
 (tN tE tE)) 
 (tN tE tE))))) 
 (tN 
 (tN 
 (tN 
 (tN 
 (tN tE 
 (tN tE tE)) 
 (tN tE 
 (tN tE tE))) 
 (tN 
 (tN tE 
 (tN tE tE)) 
 (tN tE 
 (tN tE tE)))) 
 (tN 
 (tN 
 (tN tE 
 (tN tE tE)) 
 (tN tE 
 (tN tE tE))) 
 (tN 
 (tN tE 
 (tN tE tE)) 
 (tN tE tE)))) 
 (tN 
 (tN 
 (tN 
 (tN tE 
 (tN tE tE)) 
 (tN tE 
 (tN tE tE))) 
 (tN 
 (tN tE 
 (tN tE tE)) 
 (tN tE tE))) 
 (tN 
 (tN 
 (tN tE 
 (tN tE tE)) 
 (tN tE 
 (tN tE tE))) 
 (tN 
 (tN tE 
 (tN tE tE)) 
 (tN tE tE)))))) 
 (tN 
 (tN 
 (tN 
 (tN 
 (tN 
 (tN tE 
 (tN tE tE)) 
 (tN tE 
 (tN tE tE))) 
 (tN 
 (tN tE 
 (tN tE tE)) 
 (tN tE 
 (tN tE tE)))) 
 (tN 
 (tN 
 (tN tE 
 (tN tE tE)) 
 (tN tE 
 (tN tE tE))) 
 (tN 
 (tN tE 
 (tN tE tE)) 
 (tN tE tE)))) 
 (tN 
 (tN 
 (tN 
 (tN tE 
 (tN tE tE)) 
 (tN tE 
 (tN tE tE))) 
 (tN 
 (tN tE 
 (tN tE tE)) 
 (tN tE tE))) 
 (tN 
 (tN 
 (tN tE 
 (tN tE tE)) 
 (tN tE 
 (tN tE tE))) 
 (tN 
 (tN tE 
 (tN tE tE)) 
 (tN tE tE))))) 
 (tN 
 (tN 
 (tN 
 (tN 
 (tN tE 
 (tN tE tE)) 
 (tN tE 
 (tN tE tE))) 
 (tN 
 (tN tE 
 (tN tE tE)) 
 (tN tE tE))) 
 (tN 
 (tN 
 (tN tE 
 (tN tE tE)) 
 (tN tE 
 (tN tE tE))) 
 (tN 
 (tN tE 
 (tN tE tE)) 
 (tN tE tE)))) 
 (tC 
 (tN 
 (tN 
 (tN tE 
 (tN tE tE)) 
 (tN tE 
 (tN tE tE))) 
 (tN 
 (tN tE 
 (tN tE tE)) 
 (tN tE tE))) [vP 5 0, vI 1, vS 114 0 24 24, vS 941 0 1 1, vI 3, .bool false] 
 (tN 
 (tN 
 (tN tE 
 (tN tE tE)) 
 (tN tE 
 (tN tE tE))) 
 (tN 
 (tN tE 
 (tN tE tE)) 
 (tN tE tE))))))) 
 (tN 
 (tN 
 (tN 
 (tN 
 (tN 
 (tN 
 (tN tE 
 (tN tE tE)) 
 (tN tE 
 (tN tE tE))) 
 (tN 
 (tN tE 
 (tN tE tE)) 
 (tN tE 
 (tN tE tE)))) 
 (tN 
 (tN 
 (tN tE 
 (tN tE tE)) 
 (tN tE 
 (tN tE tE))) 
 (tN 
 (tN tE 
 (tN tE tE)) 
 (tN tE tE)))) 
 (tN 
 (tN 
 (tN 
 (tN tE 
 (tN tE tE)) 
 (tN tE 
 (tN tE tE))) 
 (tN 
 (tN tE 
 (tN tE tE)) 
 (tN tE tE))) 
 (tN 
 (tN 
 (tN tE 
 (tN tE tE)) 
 (tN tE 
 (tN tE tE))) 
 (tN 
 (tN tE 
 (tN tE tE)) 
 (tN tE tE))))) 
 (tN 
 (tN 
 (tN 
 (tN 
 (tN tE 
 (tN tE tE)) 
 (tN tE 
 (tN tE tE))) 
 (tN 
 (tN tE 
 (tN tE tE)) 
 (tN tE 
 (tN tE tE)))) 
 (tN 
 (tN 
 (tN tE 
 (tN tE tE)) 
 (tN tE 
 (tN tE tE))) 
 (tN 
 (tN tE 
 (tN tE tE)) 
 (tB tE (.cells ((vB 1) :: (vB 5) :: vR 7 (vB 0) ((vB 100) :: (vB 46) :: (vB 55) :: (vB 46) :: (vB 48) :: (vB 3) :: vR 7 (vB 0) ((vB 6) :: vR 39 (vB 0) ((vB 8) :: vR 31 (vB 0) ((vB 26) :: vR 7 (vB 0) ((vB 1) :: (vB 1) :: vR 7 (vB 0) ((vB 120) :: vR 16 (vB 0) ((vB 10) :: vR 7 (vB 0) ((vB 26) :: vR 31 (vB 0) ([])))))))))) true (some (1, 5))) tE)))) 
 (tN 
 (tN 
 (tN 
 (tN tE 
 (tN tE tE)) 
 (tN tE 
 (tN tE tE))) 
 (tN 
 (tN tE 
 (tN tE tE)) 
 (tN tE tE))) 
 (tN 
 (tN 
 (tN tE 
 (tN tE tE)) 
 (tN tE 
 (tN tE tE))) 
 (tN 
 (tN tE 
 (tN tE tE)) 
 (tN tE tE)))))) 
 (tN 
 (tN 
 (tN 
 (tN 
 (tN 
 (tN tE 
 (tN tE tE)) 
 (tN tE 
 (tN tE tE))) 
 (tN 
 (tN tE 
 (tN tE tE)) 
 (tN tE 
 (tN tE tE)))) 
 (tN 
 (tN 
 (tN tE 
 (tN tE tE)) 
 (tN tE 
 (tN tE tE))) 
 (tN 
 (tN tE 
 (tN tE tE)) 
 (tN tE tE)))) 
 (tN 
 (tN 
 (tN 
 (tN tE 
 (tN tE tE)) 
 (tN tE 
 (tN tE tE))) 
 (tN 
 (tN tE 
 (tN tE tE)) 
 (tN tE tE))) 
 (tN 
 (tN 
 (tN tE 
 (tN tE tE)) 
 (tN tE 
 (tN tE tE))) 
 (tN 
 (tN tE 
 (tN tE tE)) 
 (tN tE tE))))) 
 (tN 
 (tN 
 (tN 
 (tN 
 (tN tE 
 (tN tE tE)) 
 (tN tE 
 (tN tE tE))) 
 (tN 
 (tN tE 
 (tN tE tE)) 
 (tN tE tE))) 
 (tN 
 (tN 
 (tN tE 
 (tN tE tE)) 
 (tN tE 
 (tN tE tE))) 
 (tN 
 (tN tE 
 (tN tE tE)) 
 (tN tE tE)))) 
 (tN 
 (tN 
 (tN 
 (tN tE 
 (tN tE tE)) 
 (tN tE 
 (tN tE tE))) 
 (tN 
 (tN tE 
 (tN tE tE)) 
 (tN tE tE))) 
 (tN 
 (tN 
 (tN tE 
 (tN tE tE)) 
 (tN tE 
 (tN tE tE))) 
 (tN 
 (tN tE 
 (tN tE tE)) 
 (tN tE tE)))))))) 
 (tN 
 (tN 
 (tN 
 (tN 
 (tN 
 (tN 
 (tN 
 (tN tE 
 (tN tE tE)) 
 (tN tE 
 (tN tE tE))) 
 (tN 
 (tN tE 
 (tN tE tE)) 
 (tN tE 
 (tN tE tE)))) 
 (tN 
 (tN 
 (tN tE 
 (tN tE tE)) 
 (tN tE 
 (tN tE tE))) 
 (tN 
 (tN tE 
 (tN tE tE)) 
 (tN tE tE)))) 
 (tN 
 (tN 
 (tN 
 (tN tE 
 (tN tE tE)) 
 (tN tE 
 (tN tE tE))) 
 (tN 
 (tN tE 
 (tN tE tE)) 
 (tN tE tE))) 
 (tN 
 (tN 
 (tN tE 
 (tN tE tE)) 
 (tN tE 
 (tN tE tE))) 
 (tN 
 (tN tE 
 (tN tE tE)) 
 (tN tE tE))))) 
 (tN 
 (tN 
 (tN 
 (tN 
 (tN tE 
 (tN tE tE)) 
 (tN tE 
 (tN tE tE))) 
 (tN 
 (tN tE 
 (tN tE tE)) 
 (tN tE 
 (tN tE tE)))) 
 (tN 
 (tN 
 (tN tE 
 (tN tE tE)) 
 (tN tE 
 (tN tE tE))) 
 (tN 
 (tN tE 
 (tN tE tE)) 
 (tN tE tE)))) 
 (tN 
 (tN 
 (tN 
 (tN tE 
 (tN tE tE)) 
 (tN tE 
 (tN tE tE))) 
 (tN 
 (tN tE 
 (tN tE tE)) 
 (tN tE tE))) 
 (tN 
 (tN 
 (tN tE 
 (tN tE tE)) 
 (tN tE 
 (tN tE tE))) 
 (tN 
 (tN tE 
 (tN tE tE)) 
 (tN tE tE)))))) 
 (tN 
 (tN 
 (tN 
 (tN 
 (tN 
 (tN tE 
 (tB tE (.cells [vI 0, vI 2] true (some (2, 267))) tE)) 
 (tN tE 
 (tN tE tE))) 
 (tN 
 (tN tE 
 (tN tE tE)) 
 (tN tE 
 (tN tE tE)))) 
 (tN 
 (tN 
 (tN tE 
 (tN tE tE)) 
 (tN tE 
 (tN tE tE))) 
 (tN 
 (tN tE 
 (tN tE tE)) 
 (tN tE tE)))) 
 (tN 
 (tN 
 (tN 
 (tN tE 
 (tN tE tE)) 
 (tN tE 
 (tN tE tE))) 
 (tN 
 (tN tE 
 (tN tE tE)) 
 (tN tE tE))) 
 (tN 
 (tN 
 (tN tE 
 (tN tE tE)) 
 (tN tE 
 (tN tE tE))) 
 (tN 
 (tN tE 
 (tN tE tE)) 
 (tN tE tE))))) 
 (tN 
 (tN 
 (tN 
 (tN 
 (tN tE 
 (tN tE tE)) 
 (tN tE 
 (tN tE tE))) 
 (tN 
 (tN tE 
 (tN tE tE)) 
 (tN tE tE))) 
 (tN 
 (tN 
 (tN tE 
 (tN tE tE)) 
 (tN tE 
 (tN tE tE))) 
 (tN 
 (tN tE 
 (tN tE tE)) 
 (tN tE tE)))) 
 (tN 
 (tN 
 (tN 
 (tN tE 
 (tN tE tE)) 
 (tN tE 
 (tN tE tE))) 
 (tN 
 (tN tE 
 (tN tE tE)) 
 (tN tE tE))) 
 (tN 
 (tN 
 (tN tE 
 (tN tE tE)) 
 (tN tE 
 (tN tE tE))) 
 (tN 
 (tN tE 
 (tN tE tE)) 
 (tN tE tE))))))) 
 (tN 
 (tN 
 (tN 
 (tN 
 (tN 
 (tN 
 (tN tE 
 (tN tE tE)) 
 (tN tE 
 (tN tE tE))) 
 (tN 
 (tN tE 
 (tN tE tE)) 
 (tN tE 
 (tN tE tE)))) 
 (tN 
 (tN 
 (tN tE 
 (tN tE tE)) 
 (tN tE 
 (tN tE tE))) 
 (tN 
 (tN tE 
 (tN tE tE)) 
 (tN tE tE)))) 
 (tN 
 (tN 
 (tN 
 (tN tE 
 (tN tE tE)) 
 (tN tE 
 (tN tE tE))) 
 (tN 
 (tN tE 
 (tN tE tE)) 
 (tN tE tE))) 
 (tN 
 (tN 
 (tN tE 
 (tN tE tE)) 
 (tN tE 
 (tN tE tE))) 
 (tN 
 (tN tE 
 (tN tE tE)) 
 (tN tE tE))))) 
 (tN 
 (tN 
 (tN 
 (tN 
 (tN tE 
 (tN tE tE)) 
 (tN tE 
 (tN tE tE))) 
 (tN 
 (tN tE 
 (tN tE tE)) 
 (tN tE 
 (tB tE (.cells [vS 1837 0 168 168] true (some (1, 41))) tE)))) 
 (tN 
 (tN 
 (tN tE 
 (tN tE tE)) 
 (tN tE 
 (tN tE tE))) 
 (tN 
 (tN tE 
 (tN tE tE)) 
 (tN tE tE)))) 
 (tN 
 (tN 
 (tN 
 (tN tE 
 (tN tE tE)) 
 (tN tE 
 (tN tE tE))) 
 (tN 
 (tN tE 
 (tN tE tE)) 
 (tN tE tE))) 
 (tN 
 (tN 
 (tN tE 
 (tN tE tE)) 
 (tN tE 
 (tN tE tE))) 
 (tN 
 (tN tE 
 (tN tE tE)) 
 (tN tE tE)))))) 
 (tN 
 (tN 
 (tN 
 (tN 
 (tN 
 (tN tE 
 (tN tE tE)) 
 (tN tE 
 (tN tE tE))) 
 (tN 
 (tN tE 
 (tN tE tE)) 
 (tN tE 
 (tN tE tE)))) 
 (tN 
 (tN 
 (tN tE 
 (tN tE tE)) 
 (tN tE 
 (tN tE tE))) 
 (tN 
 (tN tE 
 (tN tE tE)) 
 (tN tE tE)))) 
 (tN 
 (tN 
 (tN 
 (tN tE 
 (tN tE tE)) 
 (tN tE 
 (tN tE tE))) 
 (tN 
 (tN tE 
 (tN tE tE)) 
 (tN tE tE))) 
 (tN 
 (tN 
 (tN tE 
 (tN tE tE)) 
 (tN tE 
 (tN tE tE))) 
 (tN 
 (tN tE 
 (tN tE tE)) 
 (tN tE tE))))) 
 (tN 
 (tN 
 (tN 
 (tN 
 (tN tE 
 (tN tE tE)) 
 (tN tE 
 (tN tE tE))) 
 (tN 
 (tN tE 
 (tN tE tE)) 
 (tN tE tE))) 
 (tN 
 (tN 
 (tN tE 
 (tN tE tE)) 
 (tN tE 
 (tN tE tE))) 
 (tN 
 (tN tE 
 (tN tE tE)) 
 (tN tE tE)))) 
 (tN 
 (tN 
 (tN 
 (tN tE 
 (tN tE tE)) 
 (tN tE 
 (tN tE tE))) 
 (tN 
 (tN tE 
 (tN tE tE)) 
 (tN tE tE))) 
 (tN 
 (tN 
 (tN tE 
 (tN tE tE)) 
 (tN tE 
 (tN tE tE))) 
 (tN 
 (tN tE 
 (tN tE tE)) 
 (tN tE tE)))))))))))
theorem cut_run12 : cutIs cH12 [2, 3, 6, 7, 8, 9, 117, 118, 123, 702, 704, 705, 706, 942, 943, 944, 945, 946, 947, 948, 949, 950, 951, 952, 953, 954, 955, 956, 957, 958, 959, 960, 961, 962, 963, 964, 965, 966, 967, 969, 971, 973, 975, 977, 979, 981, 983, 985, 987, 989, 991, 993, 995, 997, 999, 1000, 1002, 1004, 1006, 1008, 1010, 1012, 1014, 1016, 1017, 1018, 1019, 1020] cV12 cR12 ((callF EC11 3000).fn 9 cA12 cH12) = true := by kernel_rfl
noncomputable def EC12 : Env := EC11.tell 9 (cutV EC11 3000 9 cA12 cH12 cV12 cR12)
theorem okC12 : EnvOk Tryz.prog EC12 := tell_ok okC11 (cut_ok okC11 cut_run12)
end Go.Proofs.YtdeokdbkhkehbaaGreatDoor.C
