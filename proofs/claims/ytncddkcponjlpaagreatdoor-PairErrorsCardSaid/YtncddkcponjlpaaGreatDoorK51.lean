/- Walks and plain laws. -/
import Derived.Test.YtncddkcponjlpaaGreatDoorK49
set_option linter.unusedVariables false
set_option linter.unusedSimpArgs false
set_option maxHeartbeats 0
set_option maxRecDepth 99999
namespace Go.Proofs.YtncddkcponjlpaaGreatDoor
open Go.RowKit Go.Proofs.Tryz
open Go renaming World→D!,Value→I?,Calls→G!,IntKind→ncy
open Go.RowKit renaming Hid→E!
open Decidable renaming decide→K?
open Option renaming some→C!,none→L?
open Bool renaming true→C?,false→H!
open Go.Proofs.Tryz renaming prog→E?
variable{P:Prop}
def afT(n:Int)(s:ByteArray)(k:Nat):Bg:=
 ([⟨2,0,n,⟨#[]⟩⟩,⟨3,0,n,⟨#[]⟩⟩,⟨4,0,n,⟨#[97]⟩⟩,⟨7,0,n,⟨#[97]⟩⟩,⟨5,0,-1,⟨#[]⟩⟩,⟨1,0,0,⟨#[]⟩⟩,⟨1,0,0,s⟩,⟨1,2,0,⟨#[120]⟩⟩,⟨8,0,-1,⟨#[]⟩⟩,⟨8,0,1048577,⟨#[]⟩⟩,⟨6,0,-1,⟨#[]⟩⟩,⟨0,0,4097,⟨#[]⟩⟩,⟨-1,0,0,⟨#[]⟩⟩,⟨9,0,0,⟨#[]⟩⟩]:List Bg).getD k ⟨0,0,0,⟨#[]⟩⟩
def ai9(k:Nat):Int:=([2502,2502,2502,2502,2500,2602,2602,2700,2600,2600,2700,2700,2700,2700]:List Int).getD k 0
def Calm(m:fD):Prop:=m.time=0/\m.cr=[]/\m.cH=[]/\m.a.load=0/\m.b.load=0
theorem ah1(n:Int)(s:ByteArray)(i:s.size=513)(k:Nat)(o:k<14):(gr (js lW)<|afT n s k).2=ai9 k/\Calm (gr (js lW)<|afT n s k).1:=by
 rcases(by omega:k=0\/k=1\/k=2\/k=3\/k=4\/k=5\/k=6\/k=7\/k=8\/k=9\/k=10\/k=11\/k=12\/k=13)with rfl|rfl|rfl|rfl|rfl|rfl|rfl|rfl|rfl|rfl|rfl|rfl|rfl|rfl
 .exact⟨rfl,rfl,rfl,rfl,rfl,rfl⟩
 .exact⟨rfl,rfl,rfl,rfl,rfl,rfl⟩
 .exact⟨rfl,rfl,rfl,rfl,rfl,rfl⟩
 .exact⟨rfl,rfl,rfl,rfl,rfl,rfl⟩
 .exact⟨rfl,rfl,rfl,rfl,rfl,rfl⟩
 .exact⟨rfl,rfl,rfl,rfl,rfl,rfl⟩
 .have e:bE (js lW).a s=((js lW).a,2602):=by unfold bE;rw[G? (.inr B!)]
  have t:gr (js lW) (afT n s 6)=({js lW with a:=(bE (js lW).a s).1,cr:=if(bE (js lW).a s).2=0 then(js lW).cr++[s]else(js lW).cr},(bE (js lW).a s).2):=rfl;rw[t,e];exact⟨rfl,rfl,rfl,rfl,rfl,rfl⟩
 .exact⟨rfl,rfl,rfl,rfl,rfl,rfl⟩
 .exact⟨rfl,rfl,rfl,rfl,rfl,rfl⟩
 .exact⟨rfl,rfl,rfl,rfl,rfl,rfl⟩
 .exact⟨rfl,rfl,rfl,rfl,rfl,rfl⟩
 .exact⟨rfl,rfl,rfl,rfl,rfl,rfl⟩
 .exact⟨rfl,rfl,rfl,rfl,rfl,rfl⟩
 .exact⟨rfl,rfl,rfl,rfl,rfl,rfl⟩
