/-
  Own text: the numbers of the types of a disk, of a sector, of whole numbers, in this program's table.
-/
import Derived.Test.YtcgapjieidmkpaaPlDiskSt
namespace Go.Proofs.Ytcgapjieidmkpaa
open Go.Gx
abbrev TD : DTy := ⟨49, 57, 3, by decide, by decide, by decide⟩
end Go.Proofs.Ytcgapjieidmkpaa
