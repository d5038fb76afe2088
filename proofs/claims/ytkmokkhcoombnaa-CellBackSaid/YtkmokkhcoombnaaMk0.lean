/- The plain types of mendkernel, and nothing else. -/
namespace Mk
structure Write where
  At : Int
  N : Int
  deriving DecidableEq, Inhabited, Repr
structure Call where
  Kind : Int
  Name : Int
  Other : Int
  N : Int
  deriving DecidableEq, Inhabited, Repr
structure Reply where
  Err : Int
  N : Int
  deriving DecidableEq, Inhabited, Repr
structure Request where
  Client : Int
  Token : Int
  Call : Call
  deriving DecidableEq, Inhabited, Repr
structure Answer where
  Client : Int
  Token : Int
  Reply : Reply
  deriving DecidableEq, Inhabited, Repr
structure Store where
  Cells : List Int
  Undo : List Write
  Answers : List Answer
  Past : List Request
  deriving DecidableEq, Inhabited, Repr
structure Server where
  Gen : Int
  Box : List (List UInt8)
  Busy : Bool
  Now : Request
  Plan : List Write
  Says : Reply
  deriving DecidableEq, Inhabited, Repr
structure Client where
  Calls : List Call
  At : Int
  Sent : Bool
  Gen : Int
  Box : List (List UInt8)
  Got : List Reply
  deriving DecidableEq, Inhabited, Repr
structure Machine where
  Store : Store
  Server : Server
  Up : Bool
  Pause : Int
  Falls : Int
  Clients : List Client
  deriving DecidableEq, Inhabited, Repr
structure Step where
  Kind : Int
  N : Int
  deriving DecidableEq, Inhabited, Repr
end Mk
