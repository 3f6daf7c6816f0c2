/-
  Package le: the reference's Put, PutInt, Set; spoiling.
-/
import Derived.Test.YtdoagpophikgjaaLeF
namespace Go.Proofs.Ytdoagpophikgjaa
open Go.RowKit Go.Acc

end Go.Proofs.Ytdoagpophikgjaa
