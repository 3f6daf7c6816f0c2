/-
  Package le: the reference's Put, PutInt, Set; spoiling.
-/
import Derived.Test.YtogaifggpfipaaaLeF
namespace Go.Proofs.Ytogaifggpfipaaa
open Go.RowKit Go.Acc

end Go.Proofs.Ytogaifggpfipaaa
