/-
  Package scalar: the property ScalarReads.
-/
import Derived.Test.YtaigofpipoimkaaScH
namespace Go.Proofs.Ytaigofpipoimkaa
open Go.RowKit Go.Acc
open Go.ChangeShapes Go.WideShapes Go.ChangeAt
end Go.Proofs.Ytaigofpipoimkaa
