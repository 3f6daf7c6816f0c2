/-
  Package le: the reference's Put, PutInt, Set; spoiling.
-/
import Derived.Test.YtmahemllfghdfaaLeF
namespace Go.Proofs.Ytmahemllfghdfaa
open Go.RowKit Go.Acc

end Go.Proofs.Ytmahemllfghdfaa
