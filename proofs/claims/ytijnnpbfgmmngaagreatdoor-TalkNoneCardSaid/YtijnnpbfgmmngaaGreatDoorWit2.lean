/- Wit2: a world in which the law may be called. -/
import Derived.Test.YtijnnpbfgmmngaaGreatDoorWit1
open Go
namespace Go.Proofs.YtijnnpbfgmmngaaGreatDoor.talkNone
set_option maxRecDepth 100000
theorem wp (H : Type) (enc : TypeId × Value → H) (os : Os) : Rows.talkNoneSpec.preB enc Tryz.checked.prog Tryz.f3 Rows.talkNoneRow.domain false ((laidWorld os).forCall (fun _ _ => 0) ⟨#[], #[.slice none 0 0], []⟩).memory #[.slice none 0 0] 8 = true := by kernel_rfl
theorem wz (H : Type) (enc : TypeId × Value → H) (os : Os) : Rows.talkNoneSpec.sizedB enc Tryz.checked.prog Tryz.f3 false ((laidWorld os).forCall (fun _ _ => 0) ⟨#[], #[.slice none 0 0], []⟩).memory #[.slice none 0 0] 8 = true := by kernel_rfl
end Go.Proofs.YtijnnpbfgmmngaaGreatDoor.talkNone
