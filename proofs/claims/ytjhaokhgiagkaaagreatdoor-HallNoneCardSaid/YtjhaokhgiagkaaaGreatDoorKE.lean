/- KE: the environment under a short name. -/
import Derived.Test.YtjhaokhgiagkaaaGreatDoorAlive
open Go Go.Vi
namespace Go.Proofs.YtjhaokhgiagkaaaGreatDoor.C
noncomputable abbrev E : Env := E3
end Go.Proofs.YtjhaokhgiagkaaaGreatDoor.C
