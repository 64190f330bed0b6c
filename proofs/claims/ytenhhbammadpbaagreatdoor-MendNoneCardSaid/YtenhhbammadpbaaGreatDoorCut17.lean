/- Cut17: what one call of function 33 does at one heap of this run: by the kernel. -/
import Derived.Test.YtenhhbammadpbaaGreatDoorCut16
import Derived.Test.YtenhhbammadpbaaGreatDoorVgF
import Derived.KernelRfl
open Go Go.Vi
namespace Go.Proofs.YtenhhbammadpbaaGreatDoor.C
noncomputable def cA17 : List Value := [vP 122 0, vI (-1), vI 1, vI 2, .agg ⟨[vI 0, .slice none 0 0]⟩, .agg ⟨[vI 1, vI 0, vI 0, vS 3 0 4 4]⟩]
noncomputable def cH17 : Heap := Heap.mk 3302 (tC (tN (tN z5060 (tC (tN (tN z5065 (tN z5067 (tN z5068 z5222))) z5072) zv6 z5084)) (tB z5116 zv5 (tC (tN (tN (tN z4284 (tN z4169 (tN z5230 (tN z23 z23)))) z5054) z5072) zv15 z5126))) [vT [97]] (tC (tN z5157 (tC (tN (tN z5036 (tN z5053 (tN z4169 z5239))) z5072) [vS 0 0 1 1, vS 1 0 1 1, vS 4 0 2 2] z5174)) zv0 (tB (tN (tN (tN z5036 (tN z5179 (tN z5068 z5250))) z5185) z5197) (.cells [vB 103, vB 111, vB 110, vB 101] false none) z5216)))
noncomputable def cV17 : Value := .nilIface
noncomputable def cR17 : Heap := Heap.mk 3555 (tC (tN (tN z5296 (tC (tN (tN z5299 (tN z5305 (tN z5306 z5222))) z5311) zv6 z5332)) z5408) [vT [97]] (tC z5481 zv0 (tB (tN (tN (tN z5261 (tN z5485 (tN z5306 z5250))) z5492) z5509) (.cells [vB 103, vB 111, vB 110, vB 101] false none) z5529)))
theorem cut_run17 : cutIs cH17 [3302, 3303, 3304, 3305, 3306, 3307, 3308, 3309, 3310, 3311, 3312, 3313, 3314, 3315, 3316, 3317, 3318, 3319, 3320, 3321, 3322, 3323, 3324, 3325, 3326, 3327, 3328, 3329, 3330, 3331, 3332, 3333, 3334, 3335, 3336, 3337, 3338, 3339, 3340, 3342, 3345, 3347, 3348, 3349, 3350, 3351, 3352, 3353, 3354, 3359, 3362, 3365, 3368, 3377, 3378, 3379, 3380, 3383, 3384, 3385, 3387, 3388, 3389, 3390, 3391, 3392, 3393, 3394, 3395, 3396, 3397, 3398, 3399, 3400, 3401, 3402, 3403, 3404, 3405, 3407, 3408, 3410, 3411, 3413, 3415, 3417, 3419, 3420, 3422, 3424, 3426, 3428, 3429, 3431, 3432, 3434, 3436, 3438, 3440, 3441, 3444, 3445, 3447, 3449, 3451, 3453, 3454, 3455, 3456, 3457, 3458, 3459, 3460, 3461, 3462, 3463, 3464, 3466, 3467, 3468, 3469, 3470, 3472, 3473, 3474, 3475, 3476, 3477, 3478, 3479, 3480, 3481, 3482, 3483, 3484, 3485, 3487, 3489, 3491, 3492, 3493, 3494, 3495, 3496, 3497, 3498, 3499, 3500, 3501, 3503, 3504, 3505, 3506, 3507, 3508, 3510, 3512, 3514, 3515, 3516, 3517, 3518, 3519, 3520, 3521, 3522, 3523, 3524, 3525, 3526, 3527, 3528, 3529, 3530, 3531, 3532, 3534, 3536, 3538, 3539, 3540, 3541, 3542, 3543, 3544, 3545, 3546, 3547, 3548, 3549, 3550, 3551, 3553] cV17 cR17 ((callF EC16 3000).fn 33 cA17 cH17) = true := by kernel_rfl
noncomputable def EC17 : Env := EC16.tell 33 (cutV EC16 3000 33 cA17 cH17 cV17 cR17)
theorem okC17 {K : Known} : EnvOk K Tryz.prog EC17 := tell_ok okC16 (cut_ok okC16 cut_run17)
end Go.Proofs.YtenhhbammadpbaaGreatDoor.C
