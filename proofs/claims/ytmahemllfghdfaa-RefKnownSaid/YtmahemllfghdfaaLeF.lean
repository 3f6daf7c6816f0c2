/-
  Package le: setting integers; the reference's Put, PutInt, Set; spoiling.
-/
import Derived.Test.YtmahemllfghdfaaLeE
namespace Go.Proofs.Ytmahemllfghdfaa
open Go.RowKit Go.Acc


def setE (n : Nat) (a x : Int) (b : Bool) : Int := if loadE n a x = 0 then (if b = true then 0 else 10) else loadE n a x
def setB (l : List UInt8) (a x : Int) (u : Nat) (b : Bool) : List UInt8 := if loadE l.length a x = 0 ∧ b = true then l.take a.toNat ++ leBytes x.toNat u ++ l.drop (a.toNat + x.toNat) else []
end Go.Proofs.Ytmahemllfghdfaa
