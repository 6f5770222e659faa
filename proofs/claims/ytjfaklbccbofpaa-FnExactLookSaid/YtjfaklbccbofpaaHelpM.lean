import Derived.Test.YtjfaklbccbofpaaProg
import Derived.Test.YtjfaklbccbofpaaTypes
import Derived.StillTailTactics
import Derived.Deep.RegionHeld3
import Derived.Laws.IdiomStrings
import Derived.Test.YtjfaklbccbofpaaAppend
import Derived.Laws.StructEq
import Derived.Lib.SliceRun
import Derived.Shelf.RegionOpenPlain
import Derived.Test.YtjfaklbccbofpaaHelp
namespace Go.Proofs.Ytjfaklbccbofpaa
open Go.RowKit
set_option linter.unusedVariables false
set_option linter.unusedSimpArgs false


end Go.Proofs.Ytjfaklbccbofpaa
