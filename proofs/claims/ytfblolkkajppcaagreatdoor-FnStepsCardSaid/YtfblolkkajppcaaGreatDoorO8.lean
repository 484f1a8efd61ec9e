import Derived.Test.YtfblolkkajppcaaGreatDoorO7
import Derived.Test.YtfblolkkajppcaaGreatDoorG6
set_option linter.unusedSimpArgs false
set_option linter.unusedVariables false
namespace Go.Proofs.YtfblolkkajppcaaGreatDoor
namespace M
structure Opr where
  sys : Bool
  l1 : Int
  l2 : Int
  k : Int
  ow : ByteArray
  a : Int
  b : Int
  c : Int
  d : Int
  m1 : Int
  m2 : Int
  af : Int
  deriving Inhabited
end M
open Go.ChangeShapes Go.WideShapes Go.ChangeAt Go.RowKit Go.Joins Go.Deep M
open Go.ChangeMaps (open_string shut_string)
def encOl (o : Opr) : List Value := [.bool o.sys, .int .i64 o.l1, .int .i64 o.l2, .int .i64 o.k, .string o.ow, .int .i64 o.a, .int .i64 o.b, .int .i64 o.c, .int .i64 o.d, .int .i64 o.m1, .int .i64 o.m2, .int .i64 o.af]
def encO (o : Opr) : Value := encOp o.sys o.l1 o.l2 o.k o.ow o.a o.b o.c o.d o.m1 o.m2 o.af
section
variable {H : Type} {enc : TypeId × Value → H} {W : World} {base b0 : Nat} {r : Reach} {d : DataW H} {p : List MemPlace} {v : Value}
end
end Go.Proofs.YtfblolkkajppcaaGreatDoor
