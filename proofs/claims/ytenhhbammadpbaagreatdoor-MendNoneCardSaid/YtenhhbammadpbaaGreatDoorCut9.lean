/- Cut9: what one call of function 161 does at one heap of this run: by the kernel. -/
import Derived.Test.YtenhhbammadpbaaGreatDoorCut8
import Derived.Test.YtenhhbammadpbaaGreatDoorVgF
import Derived.KernelRfl
open Go Go.Vi
namespace Go.Proofs.YtenhhbammadpbaaGreatDoor.C
noncomputable def cA9 : List Value := [.agg ⟨[vS 1885 0 900 900, vS 2134 0 1 1, vI 12, vI 0, .bool false, .bool false]⟩]
noncomputable def cH9 : Heap := Heap.mk 2135 (tC (tN (tN (tN z1984 (tC z2000 zv28 (tN (tN z2003 (tN z17 z2006)) z2013))) (tC z2053 zv6 (tC z2065 ((vP 9 0) :: vR 8 (.bool false) ((.map (some 11)) :: [])) (tN (tN z2069 (tN z1910 z2071)) z2079)))) (tB (tN z2118 (tC z2129 [vI 0, vI 600] (tN (tN z2132 (tN z17 z2133)) z2142))) zv5 z2206)) [vT [97]] (tC (tN (tN z2248 (tC z2260 [vI 600, vS 10 0 1 1] (tN (tN z2263 (tN z1924 z2266)) z2275))) z2347) zv0 (tB (tN z2375 (tB z2383 (.map [] 0) (tN (tN z2386 (tN z1924 z2387)) z2394))) (.cells [vB 103, vB 111, vB 110, vB 101] false none) (tB (tN z2411 (tN (tN z2413 (tN z1862 z2415)) z2420)) zv26 z2445))))
noncomputable def cV9 : Value := .tuple ⟨[.agg ⟨[vS 2140 0 900 900, .slice none 0 0, vI 13, vI 0, .bool false, .bool false]⟩, vI 0]⟩
noncomputable def cR9 : Heap := Heap.mk 2141 (tC (tN (tN (tN z1984 (tC z2000 zv28 (tN (tN z2003 (tN z952 z2006)) z2013))) (tC z2053 zv6 (tC z2065 ((vP 9 0) :: vR 8 (.bool false) ((.map (some 11)) :: [])) (tN (tN z2069 (tN (tN (tN z2457 z15) (tN z1475 z15)) z2071)) z2079)))) (tB (tN z2118 (tC z2129 [vI 0, vI 600] (tN (tN z2132 (tN z952 z2133)) z2142))) zv5 z2206)) [vT [97]] (tC (tN (tN z2248 (tC z2260 [vI 600, vS 10 0 1 1] (tN (tN z2263 (tN z2473 z2266)) z2275))) z2347) zv0 (tB (tN z2375 (tB z2383 (.map [] 0) (tN (tN z2386 (tN z2473 z2387)) z2394))) (.cells [vB 103, vB 111, vB 110, vB 101] false none) (tB (tN z2411 (tN (tN z2413 (tN (tN z591 z1861) z2415)) z2420)) zv26 z2445))))
theorem cut_run9 : cutIs cH9 [2135, 2136, 2137, 2138, 2139] cV9 cR9 ((callF EC8 3000).fn 161 cA9 cH9) = true := by kernel_rfl
noncomputable def EC9 : Env := EC8.tell 161 (cutV EC8 3000 161 cA9 cH9 cV9 cR9)
theorem okC9 {K : Known} : EnvOk K Tryz.prog EC9 := tell_ok okC8 (cut_ok okC8 cut_run9)
end Go.Proofs.YtenhhbammadpbaaGreatDoor.C
