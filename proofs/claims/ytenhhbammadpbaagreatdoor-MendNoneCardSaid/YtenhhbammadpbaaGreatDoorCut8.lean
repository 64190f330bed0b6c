/- Cut8: what one call of function 161 does at one heap of this run: by the kernel. -/
import Derived.Test.YtenhhbammadpbaaGreatDoorCut7
import Derived.Test.YtenhhbammadpbaaGreatDoorVgF
import Derived.KernelRfl
open Go Go.Vi
namespace Go.Proofs.YtenhhbammadpbaaGreatDoor.C
noncomputable def cA8 : List Value := [.agg ⟨[vS 708 0 900 900, vS 1879 0 3 3, vI 10, vI 0, .bool false, .bool false]⟩]
noncomputable def cH8 : Heap := Heap.mk 1880 (tC (tN (tN (tN z1359 (tC z1382 zv28 (tN (tN z1385 (tN z32 z1387)) z1395))) (tC z1451 zv6 (tC z1466 ((vP 9 0) :: vR 8 (.bool false) ((.map (some 11)) :: [])) (tN (tN z1473 (tN z1477 z1479)) z1489)))) (tB (tN z1533 (tC z1547 [vI 0, vI 600] (tN (tN z1551 (tN z32 z1552)) z1563))) zv5 z1634)) [vT [97]] (tC (tN (tN z1677 (tC z1694 [vI 600, vS 10 0 1 1] (tN (tN z1699 (tN z1331 z1701)) z1711))) (tC z1744 [vS 0 0 1 1, vS 1 0 1 1, vS 4 0 2 2] (tN z1770 (tN (tN z1773 (tN (tN z1322 z23) z273)) z1780)))) zv0 (tB (tN z1811 (tB z1820 (.map [] 0) (tN (tN z1825 (tN z1331 z1827)) z1839))) (.cells [vB 103, vB 111, vB 110, vB 101] false none) z1900)))
noncomputable def cV8 : Value := .tuple ⟨[.agg ⟨[vS 1885 0 900 900, .slice none 0 0, vI 11, vI 0, .bool false, .bool false]⟩, vI 0]⟩
noncomputable def cR8 : Heap := Heap.mk 1886 (tC (tN (tN (tN z1359 (tC z1382 zv28 (tN (tN z1385 (tN z17 z1387)) z1395))) (tC z1451 zv6 (tC z1466 ((vP 9 0) :: vR 8 (.bool false) ((.map (some 11)) :: [])) (tN (tN z1473 (tN z1910 z1479)) z1489)))) (tB (tN z1533 (tC z1547 [vI 0, vI 600] (tN (tN z1551 (tN z17 z1552)) z1563))) zv5 z1634)) [vT [97]] (tC (tN (tN z1677 (tC z1694 [vI 600, vS 10 0 1 1] (tN (tN z1699 (tN z1924 z1701)) z1711))) (tC z1744 [vS 0 0 1 1, vS 1 0 1 1, vS 4 0 2 2] (tN z1770 (tN (tN z1773 (tN z1933 z273)) z1780)))) zv0 (tB (tN z1811 (tB z1820 (.map [] 0) (tN (tN z1825 (tN z1924 z1827)) z1839))) (.cells [vB 103, vB 111, vB 110, vB 101] false none) z1900)))
theorem cut_run8 : cutIs cH8 [1880, 1881, 1882, 1883, 1884] cV8 cR8 ((callF EC7 3000).fn 161 cA8 cH8) = true := by kernel_rfl
noncomputable def EC8 : Env := EC7.tell 161 (cutV EC7 3000 161 cA8 cH8 cV8 cR8)
theorem okC8 {K : Known} : EnvOk K Tryz.prog EC8 := tell_ok okC7 (cut_ok okC7 cut_run8)
end Go.Proofs.YtenhhbammadpbaaGreatDoor.C
