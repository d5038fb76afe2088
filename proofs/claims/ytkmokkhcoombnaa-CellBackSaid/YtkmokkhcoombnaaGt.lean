/- The types of the program as Lean types, the places in them, and the closed facts on their numbers. Printed by gen_types.py. -/
import Derived.Test.YtkmokkhcoombnaaGxI
import Derived.Test.YtkmokkhcoombnaaMk0
import Derived.Test.YtkmokkhcoombnaaProg
import Derived.KernelRfl
namespace Go.Gx
open Sp
set_option linter.unusedVariables false

instance instWrite : GoTy Mk.Write := GoTy.via (β := Int × Int) fun x => (x.At, x.N)
def lWrite : Lens Mk.Write (Int × Int) := Lens.via (α := Mk.Write) (β := Int × Int) (fun x : Mk.Write => (x.At, x.N)) (fun y : Int × Int => (⟨y.1, y.2⟩ : Mk.Write)) (fun _ => rfl)
@[reducible] def Write_At : Lens Mk.Write (Int) := ⟨(lWrite.comp Lens.fst).off, fun x => x.At, fun x y => { x with At := y }, (lWrite.comp Lens.fst).hget, (lWrite.comp Lens.fst).hset, (lWrite.comp Lens.fst).hle⟩
@[reducible] def Write_N : Lens Mk.Write (Int) := ⟨(lWrite.comp Lens.snd).off, fun x => x.N, fun x y => { x with N := y }, (lWrite.comp Lens.snd).hget, (lWrite.comp Lens.snd).hset, (lWrite.comp Lens.snd).hle⟩
instance instCall : GoTy Mk.Call := GoTy.via (β := Int × Int × Int × Int) fun x => (x.Kind, x.Name, x.Other, x.N)
def lCall : Lens Mk.Call (Int × Int × Int × Int) := Lens.via (α := Mk.Call) (β := Int × Int × Int × Int) (fun x : Mk.Call => (x.Kind, x.Name, x.Other, x.N)) (fun y : Int × Int × Int × Int => (⟨y.1, y.2.1, y.2.2.1, y.2.2.2⟩ : Mk.Call)) (fun _ => rfl)
@[reducible] def Call_Kind : Lens Mk.Call (Int) := ⟨(lCall.comp Lens.fst).off, fun x => x.Kind, fun x y => { x with Kind := y }, (lCall.comp Lens.fst).hget, (lCall.comp Lens.fst).hset, (lCall.comp Lens.fst).hle⟩
@[reducible] def Call_Name : Lens Mk.Call (Int) := ⟨((lCall.comp Lens.snd).comp Lens.fst).off, fun x => x.Name, fun x y => { x with Name := y }, ((lCall.comp Lens.snd).comp Lens.fst).hget, ((lCall.comp Lens.snd).comp Lens.fst).hset, ((lCall.comp Lens.snd).comp Lens.fst).hle⟩
@[reducible] def Call_Other : Lens Mk.Call (Int) := ⟨(((lCall.comp Lens.snd).comp Lens.snd).comp Lens.fst).off, fun x => x.Other, fun x y => { x with Other := y }, (((lCall.comp Lens.snd).comp Lens.snd).comp Lens.fst).hget, (((lCall.comp Lens.snd).comp Lens.snd).comp Lens.fst).hset, (((lCall.comp Lens.snd).comp Lens.snd).comp Lens.fst).hle⟩
@[reducible] def Call_N : Lens Mk.Call (Int) := ⟨(((lCall.comp Lens.snd).comp Lens.snd).comp Lens.snd).off, fun x => x.N, fun x y => { x with N := y }, (((lCall.comp Lens.snd).comp Lens.snd).comp Lens.snd).hget, (((lCall.comp Lens.snd).comp Lens.snd).comp Lens.snd).hset, (((lCall.comp Lens.snd).comp Lens.snd).comp Lens.snd).hle⟩
instance instReply : GoTy Mk.Reply := GoTy.via (β := Int × Int) fun x => (x.Err, x.N)
def lReply : Lens Mk.Reply (Int × Int) := Lens.via (α := Mk.Reply) (β := Int × Int) (fun x : Mk.Reply => (x.Err, x.N)) (fun y : Int × Int => (⟨y.1, y.2⟩ : Mk.Reply)) (fun _ => rfl)
@[reducible] def Reply_Err : Lens Mk.Reply (Int) := ⟨(lReply.comp Lens.fst).off, fun x => x.Err, fun x y => { x with Err := y }, (lReply.comp Lens.fst).hget, (lReply.comp Lens.fst).hset, (lReply.comp Lens.fst).hle⟩
@[reducible] def Reply_N : Lens Mk.Reply (Int) := ⟨(lReply.comp Lens.snd).off, fun x => x.N, fun x y => { x with N := y }, (lReply.comp Lens.snd).hget, (lReply.comp Lens.snd).hset, (lReply.comp Lens.snd).hle⟩
instance instRequest : GoTy Mk.Request := GoTy.via (β := Int × Int × Mk.Call) fun x => (x.Client, x.Token, x.Call)
def lRequest : Lens Mk.Request (Int × Int × Mk.Call) := Lens.via (α := Mk.Request) (β := Int × Int × Mk.Call) (fun x : Mk.Request => (x.Client, x.Token, x.Call)) (fun y : Int × Int × Mk.Call => (⟨y.1, y.2.1, y.2.2⟩ : Mk.Request)) (fun _ => rfl)
@[reducible] def Request_Client : Lens Mk.Request (Int) := ⟨(lRequest.comp Lens.fst).off, fun x => x.Client, fun x y => { x with Client := y }, (lRequest.comp Lens.fst).hget, (lRequest.comp Lens.fst).hset, (lRequest.comp Lens.fst).hle⟩
@[reducible] def Request_Token : Lens Mk.Request (Int) := ⟨((lRequest.comp Lens.snd).comp Lens.fst).off, fun x => x.Token, fun x y => { x with Token := y }, ((lRequest.comp Lens.snd).comp Lens.fst).hget, ((lRequest.comp Lens.snd).comp Lens.fst).hset, ((lRequest.comp Lens.snd).comp Lens.fst).hle⟩
@[reducible] def Request_Call : Lens Mk.Request (Mk.Call) := ⟨((lRequest.comp Lens.snd).comp Lens.snd).off, fun x => x.Call, fun x y => { x with Call := y }, ((lRequest.comp Lens.snd).comp Lens.snd).hget, ((lRequest.comp Lens.snd).comp Lens.snd).hset, ((lRequest.comp Lens.snd).comp Lens.snd).hle⟩
instance instAnswer : GoTy Mk.Answer := GoTy.via (β := Int × Int × Mk.Reply) fun x => (x.Client, x.Token, x.Reply)
def lAnswer : Lens Mk.Answer (Int × Int × Mk.Reply) := Lens.via (α := Mk.Answer) (β := Int × Int × Mk.Reply) (fun x : Mk.Answer => (x.Client, x.Token, x.Reply)) (fun y : Int × Int × Mk.Reply => (⟨y.1, y.2.1, y.2.2⟩ : Mk.Answer)) (fun _ => rfl)
@[reducible] def Answer_Client : Lens Mk.Answer (Int) := ⟨(lAnswer.comp Lens.fst).off, fun x => x.Client, fun x y => { x with Client := y }, (lAnswer.comp Lens.fst).hget, (lAnswer.comp Lens.fst).hset, (lAnswer.comp Lens.fst).hle⟩
@[reducible] def Answer_Token : Lens Mk.Answer (Int) := ⟨((lAnswer.comp Lens.snd).comp Lens.fst).off, fun x => x.Token, fun x y => { x with Token := y }, ((lAnswer.comp Lens.snd).comp Lens.fst).hget, ((lAnswer.comp Lens.snd).comp Lens.fst).hset, ((lAnswer.comp Lens.snd).comp Lens.fst).hle⟩
@[reducible] def Answer_Reply : Lens Mk.Answer (Mk.Reply) := ⟨((lAnswer.comp Lens.snd).comp Lens.snd).off, fun x => x.Reply, fun x y => { x with Reply := y }, ((lAnswer.comp Lens.snd).comp Lens.snd).hget, ((lAnswer.comp Lens.snd).comp Lens.snd).hset, ((lAnswer.comp Lens.snd).comp Lens.snd).hle⟩
instance instStore : GoTy Mk.Store := GoTy.via (β := (List Int) × (List Mk.Write) × (List Mk.Answer) × (List Mk.Request)) fun x => (x.Cells, x.Undo, x.Answers, x.Past)
def lStore : Lens Mk.Store ((List Int) × (List Mk.Write) × (List Mk.Answer) × (List Mk.Request)) := Lens.via (α := Mk.Store) (β := (List Int) × (List Mk.Write) × (List Mk.Answer) × (List Mk.Request)) (fun x : Mk.Store => (x.Cells, x.Undo, x.Answers, x.Past)) (fun y : (List Int) × (List Mk.Write) × (List Mk.Answer) × (List Mk.Request) => (⟨y.1, y.2.1, y.2.2.1, y.2.2.2⟩ : Mk.Store)) (fun _ => rfl)
@[reducible] def Store_Cells : Lens Mk.Store (List Int) := ⟨(lStore.comp Lens.fst).off, fun x => x.Cells, fun x y => { x with Cells := y }, (lStore.comp Lens.fst).hget, (lStore.comp Lens.fst).hset, (lStore.comp Lens.fst).hle⟩
@[reducible] def Store_Undo : Lens Mk.Store (List Mk.Write) := ⟨((lStore.comp Lens.snd).comp Lens.fst).off, fun x => x.Undo, fun x y => { x with Undo := y }, ((lStore.comp Lens.snd).comp Lens.fst).hget, ((lStore.comp Lens.snd).comp Lens.fst).hset, ((lStore.comp Lens.snd).comp Lens.fst).hle⟩
@[reducible] def Store_Answers : Lens Mk.Store (List Mk.Answer) := ⟨(((lStore.comp Lens.snd).comp Lens.snd).comp Lens.fst).off, fun x => x.Answers, fun x y => { x with Answers := y }, (((lStore.comp Lens.snd).comp Lens.snd).comp Lens.fst).hget, (((lStore.comp Lens.snd).comp Lens.snd).comp Lens.fst).hset, (((lStore.comp Lens.snd).comp Lens.snd).comp Lens.fst).hle⟩
@[reducible] def Store_Past : Lens Mk.Store (List Mk.Request) := ⟨(((lStore.comp Lens.snd).comp Lens.snd).comp Lens.snd).off, fun x => x.Past, fun x y => { x with Past := y }, (((lStore.comp Lens.snd).comp Lens.snd).comp Lens.snd).hget, (((lStore.comp Lens.snd).comp Lens.snd).comp Lens.snd).hset, (((lStore.comp Lens.snd).comp Lens.snd).comp Lens.snd).hle⟩
instance instServer : GoTy Mk.Server := GoTy.via (β := Int × (List (List UInt8)) × Bool × Mk.Request × (List Mk.Write) × Mk.Reply) fun x => (x.Gen, x.Box, x.Busy, x.Now, x.Plan, x.Says)
def lServer : Lens Mk.Server (Int × (List (List UInt8)) × Bool × Mk.Request × (List Mk.Write) × Mk.Reply) := Lens.via (α := Mk.Server) (β := Int × (List (List UInt8)) × Bool × Mk.Request × (List Mk.Write) × Mk.Reply) (fun x : Mk.Server => (x.Gen, x.Box, x.Busy, x.Now, x.Plan, x.Says)) (fun y : Int × (List (List UInt8)) × Bool × Mk.Request × (List Mk.Write) × Mk.Reply => (⟨y.1, y.2.1, y.2.2.1, y.2.2.2.1, y.2.2.2.2.1, y.2.2.2.2.2⟩ : Mk.Server)) (fun _ => rfl)
@[reducible] def Server_Gen : Lens Mk.Server (Int) := ⟨(lServer.comp Lens.fst).off, fun x => x.Gen, fun x y => { x with Gen := y }, (lServer.comp Lens.fst).hget, (lServer.comp Lens.fst).hset, (lServer.comp Lens.fst).hle⟩
@[reducible] def Server_Box : Lens Mk.Server (List (List UInt8)) := ⟨((lServer.comp Lens.snd).comp Lens.fst).off, fun x => x.Box, fun x y => { x with Box := y }, ((lServer.comp Lens.snd).comp Lens.fst).hget, ((lServer.comp Lens.snd).comp Lens.fst).hset, ((lServer.comp Lens.snd).comp Lens.fst).hle⟩
@[reducible] def Server_Busy : Lens Mk.Server (Bool) := ⟨(((lServer.comp Lens.snd).comp Lens.snd).comp Lens.fst).off, fun x => x.Busy, fun x y => { x with Busy := y }, (((lServer.comp Lens.snd).comp Lens.snd).comp Lens.fst).hget, (((lServer.comp Lens.snd).comp Lens.snd).comp Lens.fst).hset, (((lServer.comp Lens.snd).comp Lens.snd).comp Lens.fst).hle⟩
@[reducible] def Server_Now : Lens Mk.Server (Mk.Request) := ⟨((((lServer.comp Lens.snd).comp Lens.snd).comp Lens.snd).comp Lens.fst).off, fun x => x.Now, fun x y => { x with Now := y }, ((((lServer.comp Lens.snd).comp Lens.snd).comp Lens.snd).comp Lens.fst).hget, ((((lServer.comp Lens.snd).comp Lens.snd).comp Lens.snd).comp Lens.fst).hset, ((((lServer.comp Lens.snd).comp Lens.snd).comp Lens.snd).comp Lens.fst).hle⟩
@[reducible] def Server_Plan : Lens Mk.Server (List Mk.Write) := ⟨(((((lServer.comp Lens.snd).comp Lens.snd).comp Lens.snd).comp Lens.snd).comp Lens.fst).off, fun x => x.Plan, fun x y => { x with Plan := y }, (((((lServer.comp Lens.snd).comp Lens.snd).comp Lens.snd).comp Lens.snd).comp Lens.fst).hget, (((((lServer.comp Lens.snd).comp Lens.snd).comp Lens.snd).comp Lens.snd).comp Lens.fst).hset, (((((lServer.comp Lens.snd).comp Lens.snd).comp Lens.snd).comp Lens.snd).comp Lens.fst).hle⟩
@[reducible] def Server_Says : Lens Mk.Server (Mk.Reply) := ⟨(((((lServer.comp Lens.snd).comp Lens.snd).comp Lens.snd).comp Lens.snd).comp Lens.snd).off, fun x => x.Says, fun x y => { x with Says := y }, (((((lServer.comp Lens.snd).comp Lens.snd).comp Lens.snd).comp Lens.snd).comp Lens.snd).hget, (((((lServer.comp Lens.snd).comp Lens.snd).comp Lens.snd).comp Lens.snd).comp Lens.snd).hset, (((((lServer.comp Lens.snd).comp Lens.snd).comp Lens.snd).comp Lens.snd).comp Lens.snd).hle⟩
instance instClient : GoTy Mk.Client := GoTy.via (β := (List Mk.Call) × Int × Bool × Int × (List (List UInt8)) × (List Mk.Reply)) fun x => (x.Calls, x.At, x.Sent, x.Gen, x.Box, x.Got)
def lClient : Lens Mk.Client ((List Mk.Call) × Int × Bool × Int × (List (List UInt8)) × (List Mk.Reply)) := Lens.via (α := Mk.Client) (β := (List Mk.Call) × Int × Bool × Int × (List (List UInt8)) × (List Mk.Reply)) (fun x : Mk.Client => (x.Calls, x.At, x.Sent, x.Gen, x.Box, x.Got)) (fun y : (List Mk.Call) × Int × Bool × Int × (List (List UInt8)) × (List Mk.Reply) => (⟨y.1, y.2.1, y.2.2.1, y.2.2.2.1, y.2.2.2.2.1, y.2.2.2.2.2⟩ : Mk.Client)) (fun _ => rfl)
@[reducible] def Client_Calls : Lens Mk.Client (List Mk.Call) := ⟨(lClient.comp Lens.fst).off, fun x => x.Calls, fun x y => { x with Calls := y }, (lClient.comp Lens.fst).hget, (lClient.comp Lens.fst).hset, (lClient.comp Lens.fst).hle⟩
@[reducible] def Client_At : Lens Mk.Client (Int) := ⟨((lClient.comp Lens.snd).comp Lens.fst).off, fun x => x.At, fun x y => { x with At := y }, ((lClient.comp Lens.snd).comp Lens.fst).hget, ((lClient.comp Lens.snd).comp Lens.fst).hset, ((lClient.comp Lens.snd).comp Lens.fst).hle⟩
@[reducible] def Client_Sent : Lens Mk.Client (Bool) := ⟨(((lClient.comp Lens.snd).comp Lens.snd).comp Lens.fst).off, fun x => x.Sent, fun x y => { x with Sent := y }, (((lClient.comp Lens.snd).comp Lens.snd).comp Lens.fst).hget, (((lClient.comp Lens.snd).comp Lens.snd).comp Lens.fst).hset, (((lClient.comp Lens.snd).comp Lens.snd).comp Lens.fst).hle⟩
@[reducible] def Client_Gen : Lens Mk.Client (Int) := ⟨((((lClient.comp Lens.snd).comp Lens.snd).comp Lens.snd).comp Lens.fst).off, fun x => x.Gen, fun x y => { x with Gen := y }, ((((lClient.comp Lens.snd).comp Lens.snd).comp Lens.snd).comp Lens.fst).hget, ((((lClient.comp Lens.snd).comp Lens.snd).comp Lens.snd).comp Lens.fst).hset, ((((lClient.comp Lens.snd).comp Lens.snd).comp Lens.snd).comp Lens.fst).hle⟩
@[reducible] def Client_Box : Lens Mk.Client (List (List UInt8)) := ⟨(((((lClient.comp Lens.snd).comp Lens.snd).comp Lens.snd).comp Lens.snd).comp Lens.fst).off, fun x => x.Box, fun x y => { x with Box := y }, (((((lClient.comp Lens.snd).comp Lens.snd).comp Lens.snd).comp Lens.snd).comp Lens.fst).hget, (((((lClient.comp Lens.snd).comp Lens.snd).comp Lens.snd).comp Lens.snd).comp Lens.fst).hset, (((((lClient.comp Lens.snd).comp Lens.snd).comp Lens.snd).comp Lens.snd).comp Lens.fst).hle⟩
@[reducible] def Client_Got : Lens Mk.Client (List Mk.Reply) := ⟨(((((lClient.comp Lens.snd).comp Lens.snd).comp Lens.snd).comp Lens.snd).comp Lens.snd).off, fun x => x.Got, fun x y => { x with Got := y }, (((((lClient.comp Lens.snd).comp Lens.snd).comp Lens.snd).comp Lens.snd).comp Lens.snd).hget, (((((lClient.comp Lens.snd).comp Lens.snd).comp Lens.snd).comp Lens.snd).comp Lens.snd).hset, (((((lClient.comp Lens.snd).comp Lens.snd).comp Lens.snd).comp Lens.snd).comp Lens.snd).hle⟩
instance instMachine : GoTy Mk.Machine := GoTy.via (β := Mk.Store × Mk.Server × Bool × Int × Int × (List Mk.Client)) fun x => (x.Store, x.Server, x.Up, x.Pause, x.Falls, x.Clients)
def lMachine : Lens Mk.Machine (Mk.Store × Mk.Server × Bool × Int × Int × (List Mk.Client)) := Lens.via (α := Mk.Machine) (β := Mk.Store × Mk.Server × Bool × Int × Int × (List Mk.Client)) (fun x : Mk.Machine => (x.Store, x.Server, x.Up, x.Pause, x.Falls, x.Clients)) (fun y : Mk.Store × Mk.Server × Bool × Int × Int × (List Mk.Client) => (⟨y.1, y.2.1, y.2.2.1, y.2.2.2.1, y.2.2.2.2.1, y.2.2.2.2.2⟩ : Mk.Machine)) (fun _ => rfl)
@[reducible] def Machine_Store : Lens Mk.Machine (Mk.Store) := ⟨(lMachine.comp Lens.fst).off, fun x => x.Store, fun x y => { x with Store := y }, (lMachine.comp Lens.fst).hget, (lMachine.comp Lens.fst).hset, (lMachine.comp Lens.fst).hle⟩
@[reducible] def Machine_Server : Lens Mk.Machine (Mk.Server) := ⟨((lMachine.comp Lens.snd).comp Lens.fst).off, fun x => x.Server, fun x y => { x with Server := y }, ((lMachine.comp Lens.snd).comp Lens.fst).hget, ((lMachine.comp Lens.snd).comp Lens.fst).hset, ((lMachine.comp Lens.snd).comp Lens.fst).hle⟩
@[reducible] def Machine_Up : Lens Mk.Machine (Bool) := ⟨(((lMachine.comp Lens.snd).comp Lens.snd).comp Lens.fst).off, fun x => x.Up, fun x y => { x with Up := y }, (((lMachine.comp Lens.snd).comp Lens.snd).comp Lens.fst).hget, (((lMachine.comp Lens.snd).comp Lens.snd).comp Lens.fst).hset, (((lMachine.comp Lens.snd).comp Lens.snd).comp Lens.fst).hle⟩
@[reducible] def Machine_Pause : Lens Mk.Machine (Int) := ⟨((((lMachine.comp Lens.snd).comp Lens.snd).comp Lens.snd).comp Lens.fst).off, fun x => x.Pause, fun x y => { x with Pause := y }, ((((lMachine.comp Lens.snd).comp Lens.snd).comp Lens.snd).comp Lens.fst).hget, ((((lMachine.comp Lens.snd).comp Lens.snd).comp Lens.snd).comp Lens.fst).hset, ((((lMachine.comp Lens.snd).comp Lens.snd).comp Lens.snd).comp Lens.fst).hle⟩
@[reducible] def Machine_Falls : Lens Mk.Machine (Int) := ⟨(((((lMachine.comp Lens.snd).comp Lens.snd).comp Lens.snd).comp Lens.snd).comp Lens.fst).off, fun x => x.Falls, fun x y => { x with Falls := y }, (((((lMachine.comp Lens.snd).comp Lens.snd).comp Lens.snd).comp Lens.snd).comp Lens.fst).hget, (((((lMachine.comp Lens.snd).comp Lens.snd).comp Lens.snd).comp Lens.snd).comp Lens.fst).hset, (((((lMachine.comp Lens.snd).comp Lens.snd).comp Lens.snd).comp Lens.snd).comp Lens.fst).hle⟩
@[reducible] def Machine_Clients : Lens Mk.Machine (List Mk.Client) := ⟨(((((lMachine.comp Lens.snd).comp Lens.snd).comp Lens.snd).comp Lens.snd).comp Lens.snd).off, fun x => x.Clients, fun x y => { x with Clients := y }, (((((lMachine.comp Lens.snd).comp Lens.snd).comp Lens.snd).comp Lens.snd).comp Lens.snd).hget, (((((lMachine.comp Lens.snd).comp Lens.snd).comp Lens.snd).comp Lens.snd).comp Lens.snd).hset, (((((lMachine.comp Lens.snd).comp Lens.snd).comp Lens.snd).comp Lens.snd).comp Lens.snd).hle⟩
instance instStep : GoTy Mk.Step := GoTy.via (β := Int × Int) fun x => (x.Kind, x.N)
def lStep : Lens Mk.Step (Int × Int) := Lens.via (α := Mk.Step) (β := Int × Int) (fun x : Mk.Step => (x.Kind, x.N)) (fun y : Int × Int => (⟨y.1, y.2⟩ : Mk.Step)) (fun _ => rfl)
@[reducible] def Step_Kind : Lens Mk.Step (Int) := ⟨(lStep.comp Lens.fst).off, fun x => x.Kind, fun x y => { x with Kind := y }, (lStep.comp Lens.fst).hget, (lStep.comp Lens.fst).hset, (lStep.comp Lens.fst).hle⟩
@[reducible] def Step_N : Lens Mk.Step (Int) := ⟨(lStep.comp Lens.snd).off, fun x => x.N, fun x y => { x with N := y }, (lStep.comp Lens.snd).hget, (lStep.comp Lens.snd).hset, (lStep.comp Lens.snd).hle⟩

/-- a zero and its cells -/
class GoZ (α : Type) [GoTy α] where
  z : α
  zc : List Value
  hz : ∀ ph : PH, GoTy.rep ph z zc
instance : GoZ Int := ⟨0, [.int .i64 0], fun _ => ⟨rfl, by decide, by decide⟩⟩
instance : GoZ Bool := ⟨false, [.bool false], fun _ => rfl⟩
instance : GoZ UInt8 := ⟨0, [.int .u8 0], fun _ => rfl⟩
instance : GoZ ByteArray := ⟨ByteArray.empty, [.string ByteArray.empty], fun _ => ⟨rfl, by decide⟩⟩
instance {α : Type} [GoTy α] : GoZ (List α) := ⟨[], [.slice none 0 0], fun _ => ⟨_, rfl, repS_nil _⟩⟩
instance {α β : Type} [GoTy α] [GoTy β] [GoZ α] [GoZ β] : GoZ (α × β) := ⟨(GoZ.z, GoZ.z), GoZ.zc α ++ GoZ.zc β, fun ph => ⟨_, _, rfl, GoZ.hz ph, GoZ.hz ph⟩⟩
instance : GoZ Mk.Write := ⟨⟨0, 0⟩, GoZ.zc (Int × Int), fun ph => GoZ.hz (α := Int × Int) ph⟩
instance : GoZ Mk.Call := ⟨⟨0, 0, 0, 0⟩, GoZ.zc (Int × Int × Int × Int), fun ph => GoZ.hz (α := Int × Int × Int × Int) ph⟩
instance : GoZ Mk.Reply := ⟨⟨0, 0⟩, GoZ.zc (Int × Int), fun ph => GoZ.hz (α := Int × Int) ph⟩
instance : GoZ Mk.Request := ⟨⟨0, 0, ⟨0, 0, 0, 0⟩⟩, GoZ.zc (Int × Int × Mk.Call), fun ph => GoZ.hz (α := Int × Int × Mk.Call) ph⟩
instance : GoZ Mk.Answer := ⟨⟨0, 0, ⟨0, 0⟩⟩, GoZ.zc (Int × Int × Mk.Reply), fun ph => GoZ.hz (α := Int × Int × Mk.Reply) ph⟩
instance : GoZ Mk.Store := ⟨⟨[], [], [], []⟩, GoZ.zc ((List Int) × (List Mk.Write) × (List Mk.Answer) × (List Mk.Request)), fun ph => GoZ.hz (α := (List Int) × (List Mk.Write) × (List Mk.Answer) × (List Mk.Request)) ph⟩
instance : GoZ Mk.Server := ⟨⟨0, [], false, ⟨0, 0, ⟨0, 0, 0, 0⟩⟩, [], ⟨0, 0⟩⟩, GoZ.zc (Int × (List (List UInt8)) × Bool × Mk.Request × (List Mk.Write) × Mk.Reply), fun ph => GoZ.hz (α := Int × (List (List UInt8)) × Bool × Mk.Request × (List Mk.Write) × Mk.Reply) ph⟩
instance : GoZ Mk.Client := ⟨⟨[], 0, false, 0, [], []⟩, GoZ.zc ((List Mk.Call) × Int × Bool × Int × (List (List UInt8)) × (List Mk.Reply)), fun ph => GoZ.hz (α := (List Mk.Call) × Int × Bool × Int × (List (List UInt8)) × (List Mk.Reply)) ph⟩
instance : GoZ Mk.Machine := ⟨⟨⟨[], [], [], []⟩, ⟨0, [], false, ⟨0, 0, ⟨0, 0, 0, 0⟩⟩, [], ⟨0, 0⟩⟩, false, 0, 0, []⟩, GoZ.zc (Mk.Store × Mk.Server × Bool × Int × Int × (List Mk.Client)), fun ph => GoZ.hz (α := Mk.Store × Mk.Server × Bool × Int × Int × (List Mk.Client)) ph⟩
instance : GoZ Mk.Step := ⟨⟨0, 0⟩, GoZ.zc (Int × Int), fun ph => GoZ.hz (α := Int × Int) ph⟩

theorem TyZ.mk' {P : Program} {T : TypeId} {α : Type} [GoTy α] [GoZ α] (h : Ty P T α) (hz : (P.info? T).bind (·.zero) = some (mkVal (GoTy.agg α) (GoZ.zc α))) : TyZ P T (GoZ.z : α) :=
  { h with zero := ⟨_, hz, fun ph => by rw [cells_mkVal (GoZ.hz (α := α) ph)]; simpa using GoZ.hz ph⟩ }
theorem hMixed : Go.Proofs.Try.prog.follows .mixedOrders = true := by kernel_rfl
theorem t2 : Ty Go.Proofs.Try.prog 2 Int := ⟨by kernel_rfl, by kernel_rfl⟩
theorem z2 : TyZ Go.Proofs.Try.prog 2 (GoZ.z : Int) := TyZ.mk' t2 (by kernel_rfl)
theorem t3 : Ty Go.Proofs.Try.prog 3 Int := ⟨by kernel_rfl, by kernel_rfl⟩
theorem z3 : TyZ Go.Proofs.Try.prog 3 (GoZ.z : Int) := TyZ.mk' t3 (by kernel_rfl)
theorem t4 : Ty Go.Proofs.Try.prog 4 Bool := ⟨by kernel_rfl, by kernel_rfl⟩
theorem z4 : TyZ Go.Proofs.Try.prog 4 (GoZ.z : Bool) := TyZ.mk' t4 (by kernel_rfl)
theorem t5 : Ty Go.Proofs.Try.prog 5 UInt8 := ⟨by kernel_rfl, by kernel_rfl⟩
theorem z5 : TyZ Go.Proofs.Try.prog 5 (GoZ.z : UInt8) := TyZ.mk' t5 (by kernel_rfl)
theorem t9 : Ty Go.Proofs.Try.prog 9 ByteArray := ⟨by kernel_rfl, by kernel_rfl⟩
theorem z9 : TyZ Go.Proofs.Try.prog 9 (GoZ.z : ByteArray) := TyZ.mk' t9 (by kernel_rfl)
theorem str9 : Go.Proofs.Try.prog.underlying 9 = some .string := by kernel_rfl
theorem t21 : Ty Go.Proofs.Try.prog 21 I32 := ⟨by kernel_rfl, by kernel_rfl⟩
theorem t23 : Ty Go.Proofs.Try.prog 23 Mk.Call := ⟨by kernel_rfl, by kernel_rfl⟩
theorem z23 : TyZ Go.Proofs.Try.prog 23 (GoZ.z : Mk.Call) := TyZ.mk' t23 (by kernel_rfl)
theorem u23 : bldB Go.Proofs.Try.prog 23 = true := by kernel_rfl
theorem f23_0 : fldB Go.Proofs.Try.prog 23 0 Call_Kind.off (GoTy.sz (Int)) (GoTy.agg (Int)) = true := by kernel_rfl
theorem f23_1 : fldB Go.Proofs.Try.prog 23 1 Call_Name.off (GoTy.sz (Int)) (GoTy.agg (Int)) = true := by kernel_rfl
theorem f23_2 : fldB Go.Proofs.Try.prog 23 2 Call_Other.off (GoTy.sz (Int)) (GoTy.agg (Int)) = true := by kernel_rfl
theorem f23_3 : fldB Go.Proofs.Try.prog 23 3 Call_N.off (GoTy.sz (Int)) (GoTy.agg (Int)) = true := by kernel_rfl
theorem t25 : Ty Go.Proofs.Try.prog 25 Mk.Request := ⟨by kernel_rfl, by kernel_rfl⟩
theorem z25 : TyZ Go.Proofs.Try.prog 25 (GoZ.z : Mk.Request) := TyZ.mk' t25 (by kernel_rfl)
theorem u25 : bldB Go.Proofs.Try.prog 25 = true := by kernel_rfl
theorem f25_0 : fldB Go.Proofs.Try.prog 25 0 Request_Client.off (GoTy.sz (Int)) (GoTy.agg (Int)) = true := by kernel_rfl
theorem f25_1 : fldB Go.Proofs.Try.prog 25 1 Request_Token.off (GoTy.sz (Int)) (GoTy.agg (Int)) = true := by kernel_rfl
theorem f25_2 : fldB Go.Proofs.Try.prog 25 2 Request_Call.off (GoTy.sz (Mk.Call)) (GoTy.agg (Mk.Call)) = true := by kernel_rfl
theorem t26 : Ty Go.Proofs.Try.prog 26 Int := ⟨by kernel_rfl, by kernel_rfl⟩
theorem z26 : TyZ Go.Proofs.Try.prog 26 (GoZ.z : Int) := TyZ.mk' t26 (by kernel_rfl)
theorem t28 : Ty Go.Proofs.Try.prog 28 Mk.Reply := ⟨by kernel_rfl, by kernel_rfl⟩
theorem z28 : TyZ Go.Proofs.Try.prog 28 (GoZ.z : Mk.Reply) := TyZ.mk' t28 (by kernel_rfl)
theorem u28 : bldB Go.Proofs.Try.prog 28 = true := by kernel_rfl
theorem f28_0 : fldB Go.Proofs.Try.prog 28 0 Reply_Err.off (GoTy.sz (Int)) (GoTy.agg (Int)) = true := by kernel_rfl
theorem f28_1 : fldB Go.Proofs.Try.prog 28 1 Reply_N.off (GoTy.sz (Int)) (GoTy.agg (Int)) = true := by kernel_rfl
theorem t30 : Ty Go.Proofs.Try.prog 30 Mk.Answer := ⟨by kernel_rfl, by kernel_rfl⟩
theorem z30 : TyZ Go.Proofs.Try.prog 30 (GoZ.z : Mk.Answer) := TyZ.mk' t30 (by kernel_rfl)
theorem u30 : bldB Go.Proofs.Try.prog 30 = true := by kernel_rfl
theorem f30_0 : fldB Go.Proofs.Try.prog 30 0 Answer_Client.off (GoTy.sz (Int)) (GoTy.agg (Int)) = true := by kernel_rfl
theorem f30_1 : fldB Go.Proofs.Try.prog 30 1 Answer_Token.off (GoTy.sz (Int)) (GoTy.agg (Int)) = true := by kernel_rfl
theorem f30_2 : fldB Go.Proofs.Try.prog 30 2 Answer_Reply.off (GoTy.sz (Mk.Reply)) (GoTy.agg (Mk.Reply)) = true := by kernel_rfl
theorem t31 : Ty Go.Proofs.Try.prog 31 (List UInt8) := ⟨by kernel_rfl, by kernel_rfl⟩
theorem z31 : TyZ Go.Proofs.Try.prog 31 (GoZ.z : (List UInt8)) := TyZ.mk' t31 (by kernel_rfl)
theorem s31 : slB Go.Proofs.Try.prog 31 5 (GoTy.sz UInt8) = true := by kernel_rfl
theorem a31 : apB Go.Proofs.Try.prog 31 5 (GoTy.sz UInt8) 1 = true := by kernel_rfl
theorem t43 : Ty Go.Proofs.Try.prog 43 (List Int) := ⟨by kernel_rfl, by kernel_rfl⟩
theorem z43 : TyZ Go.Proofs.Try.prog 43 (GoZ.z : (List Int)) := TyZ.mk' t43 (by kernel_rfl)
theorem s43 : slB Go.Proofs.Try.prog 43 3 (GoTy.sz Int) = true := by kernel_rfl
theorem a43 : apB Go.Proofs.Try.prog 43 3 (GoTy.sz Int) 8 = true := by kernel_rfl
theorem t44 : Ty Go.Proofs.Try.prog 44 (List Mk.Write) := ⟨by kernel_rfl, by kernel_rfl⟩
theorem z44 : TyZ Go.Proofs.Try.prog 44 (GoZ.z : (List Mk.Write)) := TyZ.mk' t44 (by kernel_rfl)
theorem s44 : slB Go.Proofs.Try.prog 44 50 (GoTy.sz Mk.Write) = true := by kernel_rfl
theorem a44 : apB Go.Proofs.Try.prog 44 50 (GoTy.sz Mk.Write) 16 = true := by kernel_rfl
theorem t45 : Ty Go.Proofs.Try.prog 45 (List Mk.Answer) := ⟨by kernel_rfl, by kernel_rfl⟩
theorem z45 : TyZ Go.Proofs.Try.prog 45 (GoZ.z : (List Mk.Answer)) := TyZ.mk' t45 (by kernel_rfl)
theorem s45 : slB Go.Proofs.Try.prog 45 30 (GoTy.sz Mk.Answer) = true := by kernel_rfl
theorem a45 : apB Go.Proofs.Try.prog 45 30 (GoTy.sz Mk.Answer) 32 = true := by kernel_rfl
theorem t46 : Ty Go.Proofs.Try.prog 46 (List Mk.Request) := ⟨by kernel_rfl, by kernel_rfl⟩
theorem z46 : TyZ Go.Proofs.Try.prog 46 (GoZ.z : (List Mk.Request)) := TyZ.mk' t46 (by kernel_rfl)
theorem s46 : slB Go.Proofs.Try.prog 46 25 (GoTy.sz Mk.Request) = true := by kernel_rfl
theorem a46 : apB Go.Proofs.Try.prog 46 25 (GoTy.sz Mk.Request) 48 = true := by kernel_rfl
theorem t48 : Ty Go.Proofs.Try.prog 48 Mk.Store := ⟨by kernel_rfl, by kernel_rfl⟩
theorem z48 : TyZ Go.Proofs.Try.prog 48 (GoZ.z : Mk.Store) := TyZ.mk' t48 (by kernel_rfl)
theorem u48 : bldB Go.Proofs.Try.prog 48 = true := by kernel_rfl
theorem f48_0 : fldB Go.Proofs.Try.prog 48 0 Store_Cells.off (GoTy.sz (List Int)) (GoTy.agg (List Int)) = true := by kernel_rfl
theorem f48_1 : fldB Go.Proofs.Try.prog 48 1 Store_Undo.off (GoTy.sz (List Mk.Write)) (GoTy.agg (List Mk.Write)) = true := by kernel_rfl
theorem f48_2 : fldB Go.Proofs.Try.prog 48 2 Store_Answers.off (GoTy.sz (List Mk.Answer)) (GoTy.agg (List Mk.Answer)) = true := by kernel_rfl
theorem f48_3 : fldB Go.Proofs.Try.prog 48 3 Store_Past.off (GoTy.sz (List Mk.Request)) (GoTy.agg (List Mk.Request)) = true := by kernel_rfl
theorem t50 : Ty Go.Proofs.Try.prog 50 Mk.Write := ⟨by kernel_rfl, by kernel_rfl⟩
theorem z50 : TyZ Go.Proofs.Try.prog 50 (GoZ.z : Mk.Write) := TyZ.mk' t50 (by kernel_rfl)
theorem u50 : bldB Go.Proofs.Try.prog 50 = true := by kernel_rfl
theorem f50_0 : fldB Go.Proofs.Try.prog 50 0 Write_At.off (GoTy.sz (Int)) (GoTy.agg (Int)) = true := by kernel_rfl
theorem f50_1 : fldB Go.Proofs.Try.prog 50 1 Write_N.off (GoTy.sz (Int)) (GoTy.agg (Int)) = true := by kernel_rfl
theorem t63 : Ty Go.Proofs.Try.prog 63 (List (List Mk.Call)) := ⟨by kernel_rfl, by kernel_rfl⟩
theorem z63 : TyZ Go.Proofs.Try.prog 63 (GoZ.z : (List (List Mk.Call))) := TyZ.mk' t63 (by kernel_rfl)
theorem s63 : slB Go.Proofs.Try.prog 63 75 (GoTy.sz (List Mk.Call)) = true := by kernel_rfl
theorem a63 : apB Go.Proofs.Try.prog 63 75 (GoTy.sz (List Mk.Call)) 24 = true := by kernel_rfl
theorem t64 : Ty Go.Proofs.Try.prog 64 (List Mk.Step) := ⟨by kernel_rfl, by kernel_rfl⟩
theorem z64 : TyZ Go.Proofs.Try.prog 64 (GoZ.z : (List Mk.Step)) := TyZ.mk' t64 (by kernel_rfl)
theorem s64 : slB Go.Proofs.Try.prog 64 123 (GoTy.sz Mk.Step) = true := by kernel_rfl
theorem a64 : apB Go.Proofs.Try.prog 64 123 (GoTy.sz Mk.Step) 16 = true := by kernel_rfl
theorem t66 : Ty Go.Proofs.Try.prog 66 (List (List UInt8)) := ⟨by kernel_rfl, by kernel_rfl⟩
theorem z66 : TyZ Go.Proofs.Try.prog 66 (GoZ.z : (List (List UInt8))) := TyZ.mk' t66 (by kernel_rfl)
theorem s66 : slB Go.Proofs.Try.prog 66 31 (GoTy.sz (List UInt8)) = true := by kernel_rfl
theorem a66 : apB Go.Proofs.Try.prog 66 31 (GoTy.sz (List UInt8)) 24 = true := by kernel_rfl
theorem t68 : Ty Go.Proofs.Try.prog 68 Mk.Server := ⟨by kernel_rfl, by kernel_rfl⟩
theorem z68 : TyZ Go.Proofs.Try.prog 68 (GoZ.z : Mk.Server) := TyZ.mk' t68 (by kernel_rfl)
theorem u68 : bldB Go.Proofs.Try.prog 68 = true := by kernel_rfl
theorem f68_0 : fldB Go.Proofs.Try.prog 68 0 Server_Gen.off (GoTy.sz (Int)) (GoTy.agg (Int)) = true := by kernel_rfl
theorem f68_1 : fldB Go.Proofs.Try.prog 68 1 Server_Box.off (GoTy.sz (List (List UInt8))) (GoTy.agg (List (List UInt8))) = true := by kernel_rfl
theorem f68_2 : fldB Go.Proofs.Try.prog 68 2 Server_Busy.off (GoTy.sz (Bool)) (GoTy.agg (Bool)) = true := by kernel_rfl
theorem f68_3 : fldB Go.Proofs.Try.prog 68 3 Server_Now.off (GoTy.sz (Mk.Request)) (GoTy.agg (Mk.Request)) = true := by kernel_rfl
theorem f68_4 : fldB Go.Proofs.Try.prog 68 4 Server_Plan.off (GoTy.sz (List Mk.Write)) (GoTy.agg (List Mk.Write)) = true := by kernel_rfl
theorem f68_5 : fldB Go.Proofs.Try.prog 68 5 Server_Says.off (GoTy.sz (Mk.Reply)) (GoTy.agg (Mk.Reply)) = true := by kernel_rfl
theorem t69 : Ty Go.Proofs.Try.prog 69 (List Mk.Client) := ⟨by kernel_rfl, by kernel_rfl⟩
theorem z69 : TyZ Go.Proofs.Try.prog 69 (GoZ.z : (List Mk.Client)) := TyZ.mk' t69 (by kernel_rfl)
theorem s69 : slB Go.Proofs.Try.prog 69 78 (GoTy.sz Mk.Client) = true := by kernel_rfl
theorem a69 : apB Go.Proofs.Try.prog 69 78 (GoTy.sz Mk.Client) 96 = true := by kernel_rfl
theorem t71 : Ty Go.Proofs.Try.prog 71 Mk.Machine := ⟨by kernel_rfl, by kernel_rfl⟩
theorem z71 : TyZ Go.Proofs.Try.prog 71 (GoZ.z : Mk.Machine) := TyZ.mk' t71 (by kernel_rfl)
theorem u71 : bldB Go.Proofs.Try.prog 71 = true := by kernel_rfl
theorem f71_0 : fldB Go.Proofs.Try.prog 71 0 Machine_Store.off (GoTy.sz (Mk.Store)) (GoTy.agg (Mk.Store)) = true := by kernel_rfl
theorem f71_1 : fldB Go.Proofs.Try.prog 71 1 Machine_Server.off (GoTy.sz (Mk.Server)) (GoTy.agg (Mk.Server)) = true := by kernel_rfl
theorem f71_2 : fldB Go.Proofs.Try.prog 71 2 Machine_Up.off (GoTy.sz (Bool)) (GoTy.agg (Bool)) = true := by kernel_rfl
theorem f71_3 : fldB Go.Proofs.Try.prog 71 3 Machine_Pause.off (GoTy.sz (Int)) (GoTy.agg (Int)) = true := by kernel_rfl
theorem f71_4 : fldB Go.Proofs.Try.prog 71 4 Machine_Falls.off (GoTy.sz (Int)) (GoTy.agg (Int)) = true := by kernel_rfl
theorem f71_5 : fldB Go.Proofs.Try.prog 71 5 Machine_Clients.off (GoTy.sz (List Mk.Client)) (GoTy.agg (List Mk.Client)) = true := by kernel_rfl
theorem t72 : Ty Go.Proofs.Try.prog 72 (List Int) := ⟨by kernel_rfl, by kernel_rfl⟩
theorem z72 : TyZ Go.Proofs.Try.prog 72 (GoZ.z : (List Int)) := TyZ.mk' t72 (by kernel_rfl)
theorem s72 : slB Go.Proofs.Try.prog 72 26 (GoTy.sz Int) = true := by kernel_rfl
theorem a72 : apB Go.Proofs.Try.prog 72 26 (GoTy.sz Int) 8 = true := by kernel_rfl
theorem t75 : Ty Go.Proofs.Try.prog 75 (List Mk.Call) := ⟨by kernel_rfl, by kernel_rfl⟩
theorem z75 : TyZ Go.Proofs.Try.prog 75 (GoZ.z : (List Mk.Call)) := TyZ.mk' t75 (by kernel_rfl)
theorem s75 : slB Go.Proofs.Try.prog 75 23 (GoTy.sz Mk.Call) = true := by kernel_rfl
theorem a75 : apB Go.Proofs.Try.prog 75 23 (GoTy.sz Mk.Call) 32 = true := by kernel_rfl
theorem t76 : Ty Go.Proofs.Try.prog 76 (List Mk.Reply) := ⟨by kernel_rfl, by kernel_rfl⟩
theorem z76 : TyZ Go.Proofs.Try.prog 76 (GoZ.z : (List Mk.Reply)) := TyZ.mk' t76 (by kernel_rfl)
theorem s76 : slB Go.Proofs.Try.prog 76 28 (GoTy.sz Mk.Reply) = true := by kernel_rfl
theorem a76 : apB Go.Proofs.Try.prog 76 28 (GoTy.sz Mk.Reply) 16 = true := by kernel_rfl
theorem t78 : Ty Go.Proofs.Try.prog 78 Mk.Client := ⟨by kernel_rfl, by kernel_rfl⟩
theorem z78 : TyZ Go.Proofs.Try.prog 78 (GoZ.z : Mk.Client) := TyZ.mk' t78 (by kernel_rfl)
theorem u78 : bldB Go.Proofs.Try.prog 78 = true := by kernel_rfl
theorem f78_0 : fldB Go.Proofs.Try.prog 78 0 Client_Calls.off (GoTy.sz (List Mk.Call)) (GoTy.agg (List Mk.Call)) = true := by kernel_rfl
theorem f78_1 : fldB Go.Proofs.Try.prog 78 1 Client_At.off (GoTy.sz (Int)) (GoTy.agg (Int)) = true := by kernel_rfl
theorem f78_2 : fldB Go.Proofs.Try.prog 78 2 Client_Sent.off (GoTy.sz (Bool)) (GoTy.agg (Bool)) = true := by kernel_rfl
theorem f78_3 : fldB Go.Proofs.Try.prog 78 3 Client_Gen.off (GoTy.sz (Int)) (GoTy.agg (Int)) = true := by kernel_rfl
theorem f78_4 : fldB Go.Proofs.Try.prog 78 4 Client_Box.off (GoTy.sz (List (List UInt8))) (GoTy.agg (List (List UInt8))) = true := by kernel_rfl
theorem f78_5 : fldB Go.Proofs.Try.prog 78 5 Client_Got.off (GoTy.sz (List Mk.Reply)) (GoTy.agg (List Mk.Reply)) = true := by kernel_rfl
theorem t123 : Ty Go.Proofs.Try.prog 123 Mk.Step := ⟨by kernel_rfl, by kernel_rfl⟩
theorem z123 : TyZ Go.Proofs.Try.prog 123 (GoZ.z : Mk.Step) := TyZ.mk' t123 (by kernel_rfl)
theorem u123 : bldB Go.Proofs.Try.prog 123 = true := by kernel_rfl
theorem f123_0 : fldB Go.Proofs.Try.prog 123 0 Step_Kind.off (GoTy.sz (Int)) (GoTy.agg (Int)) = true := by kernel_rfl
theorem f123_1 : fldB Go.Proofs.Try.prog 123 1 Step_N.off (GoTy.sz (Int)) (GoTy.agg (Int)) = true := by kernel_rfl
theorem t142 : Ty Go.Proofs.Try.prog 142 U32 := ⟨by kernel_rfl, by kernel_rfl⟩
theorem e50q : EqT Go.Proofs.Try.prog 50 Mk.Write 2 := EqT.struct t50 (fun x => (x.At, x.N)) (by intro x y h; cases x; cases y; simp_all) (fun _ _ _ h => h) rfl Go.Proofs.Try.underlying50 (by kernel_rfl) (EqRow.cons rfl (by decide) (EqT.int ⟨by kernel_rfl, by kernel_rfl⟩ (by kernel_rfl)) (EqRow.one rfl (by decide) (EqT.int ⟨by kernel_rfl, by kernel_rfl⟩ (by kernel_rfl))))
theorem e50 : EqS Go.Proofs.Try.prog 50 Mk.Write := ⟨e50q.ups 9998, rfl, by kernel_rfl⟩
theorem e23q : EqT Go.Proofs.Try.prog 23 Mk.Call 2 := EqT.struct t23 (fun x => (x.Kind, x.Name, x.Other, x.N)) (by intro x y h; cases x; cases y; simp_all) (fun _ _ _ h => h) rfl Go.Proofs.Try.underlying23 (by kernel_rfl) (EqRow.cons rfl (by decide) (EqT.int ⟨by kernel_rfl, by kernel_rfl⟩ (by kernel_rfl)) (EqRow.cons rfl (by decide) (EqT.int ⟨by kernel_rfl, by kernel_rfl⟩ (by kernel_rfl)) (EqRow.cons rfl (by decide) (EqT.int ⟨by kernel_rfl, by kernel_rfl⟩ (by kernel_rfl)) (EqRow.one rfl (by decide) (EqT.int ⟨by kernel_rfl, by kernel_rfl⟩ (by kernel_rfl))))))
theorem e23 : EqS Go.Proofs.Try.prog 23 Mk.Call := ⟨e23q.ups 9998, rfl, by kernel_rfl⟩
theorem e28q : EqT Go.Proofs.Try.prog 28 Mk.Reply 2 := EqT.struct t28 (fun x => (x.Err, x.N)) (by intro x y h; cases x; cases y; simp_all) (fun _ _ _ h => h) rfl Go.Proofs.Try.underlying28 (by kernel_rfl) (EqRow.cons rfl (by decide) (EqT.int ⟨by kernel_rfl, by kernel_rfl⟩ (by kernel_rfl)) (EqRow.one rfl (by decide) (EqT.int ⟨by kernel_rfl, by kernel_rfl⟩ (by kernel_rfl))))
theorem e28 : EqS Go.Proofs.Try.prog 28 Mk.Reply := ⟨e28q.ups 9998, rfl, by kernel_rfl⟩
theorem e25q : EqT Go.Proofs.Try.prog 25 Mk.Request 3 := EqT.struct t25 (fun x => (x.Client, x.Token, x.Call)) (by intro x y h; cases x; cases y; simp_all) (fun _ _ _ h => h) rfl Go.Proofs.Try.underlying25 (by kernel_rfl) (EqRow.cons rfl (by decide) (EqT.int ⟨by kernel_rfl, by kernel_rfl⟩ (by kernel_rfl)).up (EqRow.cons rfl (by decide) (EqT.int ⟨by kernel_rfl, by kernel_rfl⟩ (by kernel_rfl)).up (EqRow.one rfl (by decide) e23q)))
theorem e25 : EqS Go.Proofs.Try.prog 25 Mk.Request := ⟨e25q.ups 9997, rfl, by kernel_rfl⟩
theorem e30q : EqT Go.Proofs.Try.prog 30 Mk.Answer 3 := EqT.struct t30 (fun x => (x.Client, x.Token, x.Reply)) (by intro x y h; cases x; cases y; simp_all) (fun _ _ _ h => h) rfl Go.Proofs.Try.underlying30 (by kernel_rfl) (EqRow.cons rfl (by decide) (EqT.int ⟨by kernel_rfl, by kernel_rfl⟩ (by kernel_rfl)).up (EqRow.cons rfl (by decide) (EqT.int ⟨by kernel_rfl, by kernel_rfl⟩ (by kernel_rfl)).up (EqRow.one rfl (by decide) e28q)))
theorem e30 : EqS Go.Proofs.Try.prog 30 Mk.Answer := ⟨e30q.ups 9997, rfl, by kernel_rfl⟩
theorem e123q : EqT Go.Proofs.Try.prog 123 Mk.Step 2 := EqT.struct t123 (fun x => (x.Kind, x.N)) (by intro x y h; cases x; cases y; simp_all) (fun _ _ _ h => h) rfl Go.Proofs.Try.underlying123 (by kernel_rfl) (EqRow.cons rfl (by decide) (EqT.int ⟨by kernel_rfl, by kernel_rfl⟩ (by kernel_rfl)) (EqRow.one rfl (by decide) (EqT.int ⟨by kernel_rfl, by kernel_rfl⟩ (by kernel_rfl))))
theorem e123 : EqS Go.Proofs.Try.prog 123 Mk.Step := ⟨e123q.ups 9998, rfl, by kernel_rfl⟩
theorem e4 : Go.Proofs.Try.prog.underlying 4 = some .bool := by kernel_rfl
end Go.Gx
