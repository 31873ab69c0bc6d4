/- Walks and plain laws. -/
import Derived.Test.YtncddkcponjlpaaGreatDoorK42
set_option linter.unusedVariables false
set_option linter.unusedSimpArgs false
set_option maxHeartbeats 0
set_option maxRecDepth 99999
namespace Go.Proofs.YtncddkcponjlpaaGreatDoor
open Go.RowKit Go.Proofs.Tryz
open Go renaming World→D!,Value→I?,Calls→G!,IntKind→ncy
open Go.RowKit renaming Hid→E!
open Decidable renaming decide→K?
open Option renaming some→C!,none→L?
open Bool renaming true→C?,false→H!
open Go.Proofs.Tryz renaming prog→E?
variable{P:Prop}
section
theorem DS{P:Program}{i:Type}{E:Elem P i}{w:D!}{v:I?}{l:List i}(h:jd E w v l)(o:Obj):jd E (w.alloc o) v l:=by
 rcases h with h|⟨b,u,n,s,e,r,d,t,c⟩
 .exact .inl h
 .exact .inr ⟨b,u,n,s,e,r,d,(baf w o b (i!.1 t).1).trans t,c⟩
variable{w w1 w2 W:D!}{G G1 G2:Nat->Tag}{n:Int}{b sb:Nat}{x:eY}{z z':PS}{ml:Int}{N r:Nat}
theorem Qn(w:D!)(a:Option Addr)(l c:Nat):(binOp .eql 51 (J! a l c) Q!).run E? w=.ok (H? a.isNone) w:=by
 simp only[binOp];simp[run_equal_slice_nil w 51 9 a l c underlying51]
theorem DT(v:I?)(l:List ByteArray)(w:D!)(h:jd fB w v l)(f:l.length*fB.bytes<=140737488355328):
 G! E? 50 #[v] w λe d=>(∃t,e=.returned t/\ky fB d w.heap.size t l)/\K! w d:=by
 obtain⟨a,c,rfl,-,-⟩:=h.form;have s:=Qn w a l.length c;cases a with
 |none=>
  have g:l=[]:=by
   rcases h with⟨e,-⟩|⟨b,S,A,O,e,-⟩
   .exact e
   .cases e
  subst g;simp only[Option.isNone_none,l?]at s|-;go_wp2;go_ret;exact⟨⟨_,rfl,ky.nil _ _ _⟩,P! _ _⟩
 |some a=>
  simp only[Option.isNone_some]at s;have u:K! w<|w.alloc (.cells #[] 9):=R!;have I:(w.alloc (.cells #[] 9)).heap.size=w.heap.size+1:=N!;have q:jd fB (w.alloc (.cells #[] 9)) (J! (C! a) l.length c) l:=DS h _;have j:=A?<|TN fB q;have m:jd fB (w.alloc (.cells #[] 9)) (J! (C!<|B? w.heap.size 0) 0 0) []:=.inl ⟨rfl,_,rfl⟩;go_in;go_wp2_with(at_builtin;refine oI fB rfl _ _ rfl _ _ [] l m rfl rfl j (by simpa using f) I! λt R y i E=>?_);go_ret;refine⟨⟨t,rfl,by simpa using y,λk o=>?_⟩,u.trans<|i.below (show w.heap.size<=_ from B!) λk o=>by cases o;exact Y? _⟩;rcases E k o with e|e
  .cases e;have:=i.size;exact⟨Y? _,by show w.heap.size<_;omega⟩
  .omega
end
