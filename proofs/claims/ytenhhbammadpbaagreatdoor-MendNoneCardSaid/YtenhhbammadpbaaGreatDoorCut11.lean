/- Cut11: what one call of function 33 does at one heap of this run: by the kernel. -/
import Derived.Test.YtenhhbammadpbaaGreatDoorCut10
import Derived.Test.YtenhhbammadpbaaGreatDoorVgF
import Derived.KernelRfl
open Go Go.Vi
namespace Go.Proofs.YtenhhbammadpbaaGreatDoor.C
noncomputable def cA11 : List Value := [vP 122 0, vI (-1), vI 1, vI 1, .agg ⟨[vI 0, .slice none 0 0]⟩, .agg ⟨[vI 1, vI 0, vI 0, vS 2 0 16 16]⟩]
noncomputable def cH11 : Heap := Heap.mk 2149 (tC (tN (tN z2514 (tC (tN (tN z2519 (tN z2523 (tN z2637 z17))) z2526) zv6 z2537)) (tB (tN (tN (tN z2494 (tN (tN z952 z17) (tN z2648 z17))) z2526) z2553) zv5 (tC (tN (tN (tN (tN z952 z17) (tN z952 (tN (tN z15 z2654) (tN z15 z15)))) z2500) z2526) zv15 z2540))) [vT [97]] (tC z2601 zv0 (tB (tN (tN (tN z2494 (tN (tN z952 z17) (tN z2637 z17))) z2608) z2617) (.cells [vB 103, vB 111, vB 110, vB 101] false none) z2629)))
noncomputable def cV11 : Value := .nilIface
noncomputable def cR11 : Heap := Heap.mk 2396 (tC (tN (tN z2701 (tC z2714 zv6 (tC z2713 ((vP 9 0) :: vR 8 (.bool false) ((.map (some 11)) :: [])) (tN (tN z2720 (tN z2528 z952)) z2726)))) z2768) [vT [97]] (tC (tN z2803 (tC z2805 [vS 0 0 1 1, vS 1 0 1 1, vS 4 0 2 2] (tN z2814 (tN z2695 z2684)))) zv0 z2882))
theorem cut_run11 : cutIs cH11 [2149, 2150, 2151, 2152, 2153, 2154, 2155, 2156, 2157, 2158, 2159, 2160, 2161, 2162, 2163, 2164, 2165, 2166, 2167, 2168, 2169, 2170, 2171, 2172, 2173, 2174, 2175, 2176, 2177, 2178, 2179, 2180, 2181, 2182, 2183, 2184, 2185, 2186, 2187, 2189, 2192, 2194, 2195, 2196, 2197, 2198, 2199, 2200, 2201, 2206, 2209, 2218, 2219, 2220, 2221, 2224, 2225, 2226, 2228, 2229, 2230, 2231, 2232, 2233, 2234, 2235, 2236, 2237, 2238, 2239, 2240, 2241, 2242, 2243, 2244, 2245, 2246, 2248, 2249, 2251, 2252, 2254, 2256, 2258, 2260, 2261, 2263, 2265, 2267, 2269, 2270, 2272, 2273, 2275, 2277, 2279, 2281, 2282, 2285, 2286, 2288, 2290, 2292, 2294, 2295, 2296, 2297, 2298, 2299, 2300, 2301, 2302, 2303, 2304, 2305, 2307, 2308, 2309, 2310, 2311, 2313, 2314, 2315, 2316, 2317, 2318, 2319, 2320, 2321, 2322, 2323, 2324, 2325, 2326, 2328, 2330, 2332, 2333, 2334, 2335, 2336, 2337, 2338, 2339, 2340, 2341, 2342, 2344, 2345, 2346, 2347, 2348, 2349, 2351, 2353, 2355, 2356, 2357, 2358, 2359, 2360, 2361, 2362, 2363, 2364, 2365, 2366, 2367, 2368, 2369, 2370, 2371, 2372, 2373, 2375, 2377, 2379, 2380, 2381, 2382, 2383, 2384, 2385, 2386, 2387, 2388, 2389, 2390, 2391, 2392, 2394] cV11 cR11 ((callF EC10 3000).fn 33 cA11 cH11) = true := by kernel_rfl
noncomputable def EC11 : Env := EC10.tell 33 (cutV EC10 3000 33 cA11 cH11 cV11 cR11)
theorem okC11 {K : Known} : EnvOk K Tryz.prog EC11 := tell_ok okC10 (cut_ok okC10 cut_run11)
end Go.Proofs.YtenhhbammadpbaaGreatDoor.C
