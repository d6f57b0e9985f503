/-
  Rows that may be read, and boxes that are written: a row of numbers lies in no box that holds none.
-/
import Derived.Test.YtdgeaadcidmmfaaRegBase
namespace Go.Proofs.Ytdgeaadcidmmfaa
open Go.RowKit Go.Proofs.YtdgeaadcidmmfaaW.PrintWords Go.Proofs.YtdgeaadcidmmfaaW.PrintLast

end Go.Proofs.Ytdgeaadcidmmfaa
