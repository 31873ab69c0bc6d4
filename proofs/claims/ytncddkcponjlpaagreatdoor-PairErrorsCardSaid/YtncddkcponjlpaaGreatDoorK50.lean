/- Walks and plain laws. -/
import Derived.Test.YtncddkcponjlpaaGreatDoorK49
set_option linter.unusedVariables false
set_option linter.unusedSectionVars false
set_option linter.unusedSimpArgs false
set_option maxHeartbeats 0
set_option maxRecDepth 99999
namespace Go.Proofs.YtncddkcponjlpaaGreatDoor
open Go.RowKit Go.Proofs.Tryz
open Go renaming World→D!,Value→I?,Calls→G!,IntKind→ncy
open Go.RowKit renaming Hid→E!
open Decidable renaming decide→K?
open Option renaming some→C!,none→L?
open Bool renaming true→C?,false→H!
open Go.Proofs.Tryz renaming prog→E?
variable{P:Prop}
section
variable{w w1 w2 W W1:D!}{G G1 G2:Nat->Tag}{pb a b sb ab:Nat}{va vb:I?}{m m':fD}{ml:Int}{N:Nat}{c:cP}
structure LawE(w:D!)(ml:Int)(W:D!)(G:Nat->Tag)(pb:Nat)(m:fD):Prop where
 pair:∃a b sb va vb,bQ W G pb a b sb va vb m
 env:Env W G ml
 low:∀i,i<w.heap.size->G i=free
 base:K! w W
theorem LawE.new(h:bQ W G pb a b sb va vb m)(l:dm w ml)(e:K! w W1)(n:K! W1 W)(s:∀i,i<W1.heap.size->G i=free):LawE w ml W G pb m:=
 have t:=e.trans<|n.mono e.size;have o:∀i,i<w.heap.size->G i=free:=λi r=>s i<|Z! r e.size
 ⟨⟨a,b,sb,va,vb,h⟩,Vf l t o,o,t⟩
theorem LawE.step{T:Tag->Prop}(h:LawE w ml W G pb m)(t:Step T G W G1 W1)(n:bQ W1 G1 pb a b sb va vb m')(o:¬T free):LawE w ml W1 G1 pb m':=
 ⟨⟨a,b,sb,va,vb,n⟩,h.env.step t o,λi e=>(t.old i<|Z! e h.base.size).trans<|h.low i e,h.base.trans<|t.base h.base.size λi e=>by rw[h.low i e];exact o⟩
def OwnL(W:D!)(G:Nat->Tag)(B:Nat):Prop:=B<W.heap.size/\G B=free
theorem LawE.below(h:LawE w ml W G pb m)(o:K! W W1):LawE w ml W1 (grow G W.heap.size free) pb m:=by
 let⟨a,b,sb,va,vb,i⟩:=h.pair;have n:=Step.below (T:=λ_=>False) (G:=G) o;exact h.step (Step.below (T:=λ_=>False) o) (i.step n<|λ_ _ e=>e) λe=>e
theorem OwnL.below{B:Nat}(h:OwnL W G B)(e:K! W W1):OwnL W1 (grow G W.heap.size free) B:=⟨Z! h.1 e.size,(Fq _ _ h.1).trans h.2⟩
theorem OwnL.new{B:Nat}(e:B<W1.heap.size)(h:W.heap.size<=B):OwnL W1 (grow G W.heap.size free) B:=⟨e,fE _ _ h⟩
theorem OwnL.step{B:Nat}{T:Tag->Prop}(h:OwnL W G B)(e:Step T G W G1 W1):OwnL W1 G1 B:=⟨Z! h.1 e.size,(e.old _ h.1).trans h.2⟩
theorem OwnL.heap{B:Nat}(h:OwnL W G B)(e:Step iK G W G1 W1):W1.heap[B]? =W.heap[B]? :=e.keep B h.1 (by rw[h.2];exact DU)
theorem OwnL.cell{B:Nat}(h:OwnL W G B)(e:Step iK G W G1 W1)(i:Nat):W1.cell? (B? B i)=W.cell? (B? B i):=bbJ<|h.heap e
theorem LawE.act(A:Bg)(h:LawE w ml W G pb m)(l:cO N m)(n:N<=40000000000)(y:(A.data.size:Int)<=9223372036854775807)(d: -9223372036854775808<=A.n)(u:A.n<=9223372036854775807)(s:A.kind=0->A.n<=4096->0<=A.n->N+1200000*A.n.toNat<=40000000000)(r:A.kind=4->TnC m.s A.n A.peer A.data):
 G! E? 35 #[ptr pb,.agg #[A! A.kind,A! A.peer,A! A.n,D? A.data]] W λe o=>e=.returned (A! (gr m A).2)/\∃t,LawE w ml o t pb (gr m A).1/\Step iK G W t o:=by
 let⟨a,b,sb,va,vb,f⟩:=h.pair;apply(Uc A f h.env l n y d u s r).mono;rintro e o ⟨rfl,v,k,t,g,i⟩;exact⟨rfl,t,h.step i g DU,i⟩
theorem LawE.done(A:Bg)(h:LawE w ml W G pb m)(r:cO N m)(n:N+73200000<=40000000000)(g:(A.data.size:Int)<=9223372036854775807)(l: -9223372036854775808<=A.n)(d:A.n<=9223372036854775807)(s:A.kind=4->TnC m.s A.n A.peer A.data):
 G! E? 18 #[ptr pb,.agg #[A! A.kind,A! A.peer,A! A.n,D? A.data]] W λe o=>e=.returned (A! (gr m<|xE A).2)/\∃t,LawE w ml o t pb (gr m<|xE A).1/\Step iK G W t o:=by
 let⟨a,b,sb,va,vb,u⟩:=h.pair;apply(ab2 A u h.env r n g l d s).mono;rintro e o ⟨rfl,y,v,t,f,i⟩;exact⟨rfl,t,h.step i f DU,i⟩
section
variable(h:LawE w ml W G pb m)
include h
theorem LawE.time:G! E? 25 #[ptr pb] W (T! W<|A! m.time):=by
 let⟨a,b,sb,va,vb,e⟩:=h.pair;exact ML e
theorem LawE.Yf(n:m.cr.length*16<=140737488355328):G! E? 33 #[ptr pb,A! 0] W λe o=>∃t,e=.returned t/\ky fB o W.heap.size t m.cr/\K! W o:=by
 let⟨a,b,sb,va,vb,s⟩:=h.pair;apply(Ua s n).mono;rintro e o ⟨⟨t,rfl,r⟩,i⟩;exact⟨t,rfl,r,i⟩
theorem LawE.af4(n:m.cH.length*16<=140737488355328):G! E? 33 #[ptr pb,A! 1] W λe o=>∃t,e=.returned t/\ky fB o W.heap.size t m.cH/\K! W o:=by
 let⟨a,b,sb,va,vb,s⟩:=h.pair;apply(Ub s n).mono;rintro e o ⟨⟨t,rfl,r⟩,i⟩;exact⟨t,rfl,r,i⟩
theorem LawE.drewn:LawE w ml W.drew G pb m:=by
 let⟨a,b,sb,va,vb,o⟩:=h.pair;have t:=aB (λ_=>False) G W;exact h.step t (o.step t<|λ_ _ e=>e) λe=>e
theorem LawE.loads:G! E? 31 #[ptr pb] W λe o=>e=.returned (.tuple #[A! m.a.load,A! m.b.load])/\∃t,LawE w ml o t pb m/\Step iK G W t o:=by
 let⟨a,b,sb,va,vb,n⟩:=h.pair;apply(Yc n).mono;rintro e o ⟨rfl,t,s,i⟩;exact⟨rfl,t,h.step i s DU,i⟩
end
end
