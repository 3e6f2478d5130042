/-
  Own text: the numbers of the types of a disk, of a sector, of whole numbers, in this program's table.
-/
import Derived.Test.YtcgapjieidmkpaaDoorPlDiskSt
namespace Go.Proofs.YtcgapjieidmkpaaDoor
open Go.Gx
abbrev TD : DTy := ⟨47, 71, 3, by decide, by decide, by decide⟩
end Go.Proofs.YtcgapjieidmkpaaDoor
