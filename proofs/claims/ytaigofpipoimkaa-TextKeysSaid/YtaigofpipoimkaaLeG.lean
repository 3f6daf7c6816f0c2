/-
  Package le: the reference's Put, PutInt, Set; spoiling.
-/
import Derived.Test.YtaigofpipoimkaaLeF
namespace Go.Proofs.Ytaigofpipoimkaa
open Go.RowKit Go.Acc

end Go.Proofs.Ytaigofpipoimkaa
