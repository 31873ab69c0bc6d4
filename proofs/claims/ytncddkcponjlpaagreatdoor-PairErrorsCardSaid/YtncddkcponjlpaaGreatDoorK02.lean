/- Walks and plain laws. -/
import Derived.Test.YtncddkcponjlpaaGreatDoorK01
set_option linter.unusedVariables false
set_option linter.unusedSimpArgs false
set_option maxHeartbeats 0
set_option maxRecDepth 99999
namespace Go.Proofs.YtncddkcponjlpaaGreatDoor
open Go.RowKit Go.Proofs.Tryz
open Go renaming World→D!,Value→I?,Calls→G!,IntKind→ncy
open Go.RowKit renaming Hid→E!
open Decidable renaming decide→K?
open Option renaming some→C!,none→L?
open Bool renaming true→C?,false→H!
open Go.Proofs.Tryz renaming prog→E?
variable{P:Prop}
section
structure Only(S:Nat->Prop)(w w':D!):Prop where
 os:w'.os=w.os
 tape:w'.tape=w.tape
 output:w'.output=w.output
 size:w.heap.size<=w'.heap.size
 block:∀k,k<w.heap.size->¬S k->w'.heap[k]? =w.heap[k]?
section
variable{S T:Nat->Prop}{w w1 w2:D!}
theorem Only.refl(S:Nat->Prop)(w:D!):Only S w w:=⟨rfl,rfl,rfl,Y? _,λ_ _ _=>rfl⟩
theorem Only.trans(h:Only S w w1)(k:Only S w1 w2):Only S w w2:=
 ⟨k.os.trans h.os,k.tape.trans h.tape,k.output.trans h.output,Z? h.size k.size,λi e t=>(k.block i (Z! e h.size) t).trans<|h.block i e t⟩
theorem Only.mono(h:Only S w w1)(i:∀k,k<w.heap.size->S k->T k):Only T w w1:=⟨h.os,h.tape,h.output,h.size,λk t o=>h.block k t λe=>o<|i k t e⟩
theorem Only.aP(h:K! w w1):Only S w w1:=⟨h.os,h.tape,h.output,h.size,λk e _=>h.block k e⟩
section
variable(h:Only S w w1)
include h
theorem Only.below{B:Nat}(i:B<=w.heap.size)(o:∀k,S k->B<=k):Below B w w1:=
 ⟨h.os,h.tape,h.output,h.size,λk n=>h.block k B! λe=>by have:=o k e;omega⟩
theorem Only.then(k:K! w1 w2):Only S w w2:=h.trans<|Only.aP k
theorem Only.and(k:Only T w1 w2)(n:∀i,T i->S i\/w.heap.size<=i):Only S w w2:=
 ⟨k.os.trans h.os,k.tape.trans h.tape,k.output.trans h.output,Z? h.size k.size,λi t o=>
   (k.block i (Z! t h.size) (λe=>by rcases n i e with h|h;exact o h;omega)).trans (h.block i t o)⟩
theorem Only.alloc(o:Obj):Only S w<|w1.alloc o:=h.then<|(P! _ _).alloc O? o
theorem Only.drew:Only S w w1.drew:=h.then (P! _ _).drew
theorem Only.set{a:Addr}(o:S a.block\/w.heap.size<=a.block)(x:I?):Only S w<|w1.setCell a x:=
 ⟨h.os,h.tape,h.output,by simpa[World.setCell]using h.size,λk i t=>by
   rw[Below.heap_setCell _ _ _ _<|λe=>by subst e;rcases o with h|h;exact t h;omega];exact h.block k i t⟩
theorem Only.cell{a:Addr}{v:I?}(e:w.cell? a=C! v)(t:¬S a.block):w1.cell? a=C! v:=
 (bbJ<|h.block a.block (h! e) t).trans e
theorem Only.heap{k:Nat}{o:Obj}(e:w.heap[k]? =C! o)(t:¬S k):w1.heap[k]? =C! o:=
 (h.block k (i!.1 e).1 t).trans e
end
end
theorem bb{w w':D!}(h:K! w w'){k:Nat}{o:Obj}(e:w.heap[k]? =C! o):w'.heap[k]? =C! o:=
 (h.block k (i!.1 e).1).trans e
structure Elem(P:Program)(α:Type)where
 tS:TypeId
 tE:TypeId
 size:Nat
 bytes:Nat
 z:I?
 enc:α->List I?
 und:P.underlying tS=C! (.slice tE)
 info:(P.info? tE).map (λi=>(i.zero,i.size,i.bytes))=C! (C! z,size,bytes)
 zs:z.cells.size=size
 len:∀a,(enc a).length=size
 one:∀a,∀u∈enc a,u.oneCell'=C?
 pos:0<size
section
variable{P:Program}{α:Type}(E:Elem P α)
theorem Elem.length(l:List α):(l.flatMap E.enc).length=l.length*E.size:=by
 induction l with
 |nil=>simp
 |cons a l e=>rw[ϐ,X!,e,E.len,V!,ώ];omega
theorem Elem.at(l:List α):∀j (h:j<l.length) i,i<E.size->(l.flatMap E.enc)[j*E.size+i]? =(E.enc l[j])[i]? :=by
 induction l with
 |nil=>intro j h;simp at h
 |cons a l o=>
  intro j h i t;rw[ϐ];cases j with
  |zero=>rw[bcF,ξ,List.getElem?_append_left<|by rw[E.len];exact t];rfl
  |succ j=>
   rw[mdd<|by rw[E.len,ώ];omega,E.len];have e:(j+1)*E.size+i-E.size=j*E.size+i:=by rw[ώ];omega
   rw[e];exact o j bb4 i t
theorem Elem.ach(l:List α):∀u∈l.flatMap E.enc,u.oneCell'=true:=by
 intro u e;let⟨a,_,h⟩:=List.mem_flatMap.1 e;exact E.one a u h
def aD(w:D!)(v:I?)(l:List α):Prop:=
 (l=[]/\v=Q!)\/∃g o c,v=J! (C!<|B? g o) l.length c/\l.length<=c/\c<=maxLen/\g<w.heap.size/\∀j (h:j<l.length) i,i<E.size->w.cell? (B? g<|o+j*E.size+i)=(E.enc l[j])[i]?
def bq(w:D!)(e:Nat)(v:I?)(l:List α):Prop:=w.ownsRow e E.tE E.size v l.length<|l.flatMap E.enc
variable{E}{w w':D!}{v:I?}{l:List α}{bs:Nat}
theorem aD.nil(E:Elem P α)(w:D!):aD E w Q! []:=.inl ⟨rfl,rfl⟩
theorem aD.lt(h:aD E w v l):∀k,v.ownBlock=C! k->k<w.heap.size:=by
 intro k e;rcases h with⟨_,rfl⟩|⟨g,o,c,rfl,_,_,t,_⟩
 .cases e
 .cases e;exact t
theorem aD.only{S:Nat->Prop}(h:aD E w v l)(t:Only S w w')(m:∀k,v.ownBlock=C! k->¬S k):aD E w' v l:=by
 rcases h with h|⟨g,o,c,rfl,n,s,e,r⟩
 .exact .inl h
 .refine .inr ⟨g,o,c,rfl,n,s,Z! e t.size,λj u i d=>?_⟩;rw[<-r j u i d];exact bbJ<|t.block g e<|m g rfl
theorem aD.below(h:aD E w v l)(e:K! w w'):aD E w' v l:=h.only (S:=λ_=>False) (Only.aP e)<|λ_ _ h=>h
theorem aD.form(h:aD E w v l):∃a c,v=J! a l.length c/\l.length<=c/\c<=maxLen:=by
 rcases h with⟨rfl,rfl⟩|⟨g,o,c,rfl,e,t,_⟩
 .exact⟨L?,0,rfl,Y? _,S! _⟩
 .exact⟨_,c,rfl,e,t⟩
theorem aD.le(h:aD E w v l):l.length<=9223372036854775807:=by
 let⟨a,c,_,t,e⟩:=h.form;unfold maxLen at e;omega
theorem bq.nil(E:Elem P α)(w:D!)(e:Nat):bq E w e Q! []:=⟨N!,.inl ⟨rfl,rfl⟩⟩
theorem bq.block(h:bq E w bs v l):∀k,v.ownBlock=C! k->bs<=k:=by
 intro k e;rcases h.2 with⟨rfl,_⟩|⟨g,o,i,rfl,t,_⟩
 .cases e
 .cases e;exact t
theorem bq.lt(h:bq E w bs v l):∀k,v.ownBlock=C! k->k<w.heap.size:=by
 intro k e;rcases h.2 with⟨rfl,_⟩|⟨g,o,i,rfl,n,t,_⟩
 .cases e
 .cases e;exact(i!.1 t).1
theorem bq.only{S:Nat->Prop}(h:bq E w bs v l)(ho:Only S w w')(hn:∀k,v.ownBlock=C! k->¬S k):bq E w' bs v l:=by
 exact ncD
theorem bq.below(h:bq E w bs v l)(e:K! w w'):bq E w' bs v l:=h.only (S:=λ_=>False) (Only.aP e)<|λ_ _ h=>h
theorem bq.base{b':Nat}(h:bq E w bs v l)(n:b'<=bs):bq E w b' v l:=by
 refine⟨h.1,?_⟩;rcases h.2 with o|⟨g,e,t,i,s,r⟩
 .exact .inl o
 .exact .inr ⟨g,e,t,i,B!,r⟩
theorem bq.at(h:bq E w bs v l):aD E w v l:=by
 rcases h.2 with⟨rfl,o⟩|⟨g,t,u,rfl,m,e,d,r,y,c⟩
 .exact .inl ⟨y? o,rfl⟩
 .refine .inr ⟨g,0,t,rfl,d,r,(i!.1 e).1,λj s i n=>?_⟩;rw[<-E.at l j s i n,<-c,bat]
  have f:j*E.size+E.size<=l.length*E.size:=by
   have:=mas E.size<|show j+1<=l.length from B!;rw[ώ]at this;omega
  rw[G? B!,ξ];simp[World.cell?,e]
theorem BL(E:Elem P α):∃i,P.info? E.tE=C! i/\i.zero=C! E.z/\i.size=E.size/\i.bytes=E.bytes:=by
 have h:=E.info;cases e:P.info? E.tE with
 |none=>rw[e]at h;cases h
 |some i=>rw[e]at h;simp at h;exact⟨i,rfl,h.1,h.2.1,h.2.2⟩
section
variable{ops:Array Oper}{rest:List Oper}{o:Oper}{act:Act}
theorem xZ{w:D!}{Q:Exit->Act->D!->Prop}(E:Elem P α)(q:o.guard=L?)(s x:Operand)
 (I:o.op=.call {callee:=.builtin .append,args:= #[s,x],argTypes:= #[E.tS,E.tS]})
 (t:D!)(v:I?)(l:List α)(a:α)(c:Nat)(f:bq E w t.heap.size v l)(S:act.eval s=v)(B:Nat)(R:act.eval x=J! (C!<|B? B 0) 1 c)(g:B=w.heap.size)
 (A:(l.length+1)*E.bytes<=140737488355328)(M:K! t w)(b:1<=E.bytes)
 (h:∀r w',bq E w' t.heap.size r (l++[a])->K! t w'->Only (λk=>v.ownBlock=C! k) w w'->(r.ownBlock=v.ownBlock\/∃k,r.ownBlock=C! k/\w.heap.size<=k)->wpList P ops Q rest (act.put o.dst r) w'):
 wpList P ops Q (o::rest) act (w.alloc (.cells (E.enc a).toArray E.tE)):=by
 subst g;let⟨C,m,H,L,D⟩:=BL E;have d:K! t<|w.alloc (.cells (E.enc a).toArray E.tE):=ak M _;refine mdS _ q s x _ I t.heap.size E.tE C E.z E.size E.bytes E.und m H L D E.zs E.pos v l.length (l.flatMap E.enc) S (f.below<|(P! _ _).alloc O? _) (B? w.heap.size 0) 1 c (E.enc a) R (by rw[E.len,mbV]) ?_ (E.one a) ?_ A d.size ?_
 .intro j u hu;exact mdi
 .have:=mcg (l.length+1) b;simp only[maxLen];omega
 .intro r w' N n _ y;refine h r w' ?_ (d.grown n d.size f.block) ?_<|y.imp id λe=>⟨_,e,N!⟩
  .unfold bq;rw[ϣ,X!];simpa using N
  .refine(((Only.refl _ w).alloc (.cells (E.enc a).toArray E.tE)).and (T:=λk=>v.ownBlock=C! k) ⟨n.os,n.tape,n.output,n.size,λk z O=>n.block k z λe=>O e.symm⟩ λi m=>.inl m)
theorem Iy{w:D!}{Q:Exit->Act->D!->Prop}(E:Elem P α)(b:o.guard=L?)(s x:Operand)
 (O:o.op=.call {callee:=.builtin .append,args:= #[s,x],argTypes:= #[E.tS,E.tS]})
 (i:D!)(v R:I?)(l t:List α)(d:bq E w i.heap.size v l)(Y:aD E w R t)(I:act.eval s=v)(N:act.eval x=R)
 (F:(l.length+t.length)*E.bytes<=140737488355328)(u:K! i w)(D:1<=E.bytes)
 (h:∀r w',bq E w' i.heap.size r (l++t)->K! i w'->Only (λk=>v.ownBlock=C! k) w w'->(r.ownBlock=v.ownBlock\/∃k,r.ownBlock=C! k/\w.heap.size<=k)->wpList P ops Q rest (act.put o.dst r) w'):
 wpList P ops Q (o::rest) act w:=by
 let⟨S,q,B,V,K⟩:=BL E;rcases Y with⟨rfl,rfl⟩|⟨g,m,c,rfl,X,J,a0,C⟩
 .exact wpList_append_own_none b s x _ O i.heap.size E.tE S E.size E.und q v l.length (l.flatMap E.enc) I d N<|h v w (by rw[baj];exact d) u (Only.refl _ _) (.inl rfl)
 .refine mdS _ b s x _ O i.heap.size E.tE S E.z E.size E.bytes E.und q B V K E.zs E.pos v l.length (l.flatMap E.enc) I d (B? g m) t.length c (t.flatMap E.enc) N (E.length t) ?_ (E.ach t) ?_ F u.size ?_
  .intro j a1 hu
   have hj:j<t.length*E.size:=by
    exact mdO
   have Z:=bcr j E.size;have A:=x? j E.pos;have y:=mbN mdA;have H:((B? g m):Addr).add j=(B? g<|m+j):=ban;have z:j=j/E.size*E.size+j%E.size:=mbm;have f:=C (j/E.size) y (j%E.size) A;rw[<-E.at t (j/E.size) y (j%E.size) A,<-z,hu,bah,<-z]at f;rw[H];exact f
  .have:=mcg (l.length+t.length) D;simp only[maxLen];omega
  .intro r w' W n _ L;refine h r w' ?_ (u.grown n u.size d.block) ?_<|L.imp id λe=>⟨_,e,Y? _⟩
   .unfold bq;rw[ϣ,X!];exact W
   .exact⟨n.os,n.tape,n.output,n.size,λk M G=>n.block k M λe=>G e.symm⟩
end
end
theorem mQ{P:Program}{i:Nat}{Q:Exit->Act->D!->Prop}{a:Act}{w:D!}{l:List Oper}(n:Nat)(o:P.follows .mixedOrders=C?)(t:Region.lexTailB .any l.toArray n=C?)
 (h:wpStill P l.toArray w.drew (λe=>wpList P l.toArray Q (l.drop n) e w.drew) (l.take n) a):(Code.region i l.toArray C?).wp P Q a w:=
 wp_region_still_tail n o t h
theorem gG{P:Program}{i:Nat}{Q:Exit->Act->D!->Prop}{a:Act}{w:D!}{l:List Oper}(o:P.follows .mixedOrders=C?)(t:Region.lexB .any l.toArray=C?)
 (h:wpStill P l.toArray w.drew (λe=>Q .normal e w.drew) l a):(Code.region i l.toArray C?).wp P Q a w:=
 wp_region_still_lit o t h
end
section
abbrev Tag:=List Int
def free:Tag:=[]
structure Step(T:Tag->Prop)(G:Nat->Tag)(w:D!)(G':Nat->Tag)(w':D!):Prop where
 os:w'.os=w.os
 tape:w'.tape=w.tape
 output:w'.output=w.output
 size:w.heap.size<=w'.heap.size
 old:∀b,b<w.heap.size->G' b=G b
 keep:∀b,b<w.heap.size->¬T (G b)->w'.heap[b]? =w.heap[b]?
variable{T U:Tag->Prop}{G G1 G2:Nat->Tag}{w w1 w2:D!}
theorem Step.refl(T:Tag->Prop)(G:Nat->Tag)(w:D!):Step T G w G w:=⟨rfl,rfl,rfl,Y? _,λ_ _=>rfl,λ_ _ _=>rfl⟩
theorem Step.trans(h:Step T G w G1 w1)(k:Step T G1 w1 G2 w2):Step T G w G2 w2:=
 ⟨k.os.trans h.os,k.tape.trans h.tape,k.output.trans h.output,Z? h.size k.size,λb e=>(k.old b (Z! e h.size)).trans (h.old b e),
  λb e t=>(k.keep b (Z! e h.size) (by rw[h.old b e];exact t)).trans (h.keep b e t)⟩
theorem Step.mono(h:Step T G w G1 w1)(o:∀t,T t->U t):Step U G w G1 w1:=
 ⟨h.os,h.tape,h.output,h.size,h.old,λb i n=>h.keep b i<|λe=>n<|o _ e⟩
def grow(G:Nat->Tag)(n:Nat)(t:Tag):Nat->Tag:=λb=>if b<n then G b else t
theorem Fq(G:Nat->Tag){n b:Nat}(t:Tag)(h:b<n):grow G n t b=G b:=G? h
theorem fE(G:Nat->Tag){n b:Nat}(t:Tag)(h:n<=b):grow G n t b=t:=F! B!
theorem Step.of{S:Nat->Prop}(h:Only S w w1)(n:∀b,b<w.heap.size->S b->T (G b))(t:Tag):Step T G w (grow G w.heap.size t) w1:=
 ⟨h.os,h.tape,h.output,h.size,λb o=>Fq G t o,λb o s=>h.block b o<|λe=>s<|n b o e⟩
theorem Step.below(h:K! w w1):Step T G w (grow G w.heap.size free) w1:=Step.of (S:=λ_=>False) (Only.aP h) (λ_ _ h=>h.elim) free
theorem Step.rule{S:Nat->Prop}(h:Only S w w1)(o:∀b,b<w.heap.size->S b->T (G b))(R:Nat->Tag):Step T G w (λb=>if b<w.heap.size then G b else R b) w1:=
 ⟨h.os,h.tape,h.output,h.size,λb t=>G? t,λb t i=>h.block b t<|λe=>i<|o b t e⟩
theorem Step.heap{b:Nat}{o:Obj}(h:Step T G w G1 w1)(e:w.heap[b]? =C! o)(t:¬T (G b)):w1.heap[b]? =C! o:=
 (h.keep b (i!.1 e).1 t).trans e
theorem Step.cell{a:Addr}{v:I?}(h:Step T G w G1 w1)(e:w.cell? a=C! v)(o:¬T (G a.block)):w1.cell? a=C! v:=by
 have t:=h! e;rw[bbJ<|h.keep a.block t o];exact e
theorem Step.base{b:Nat}(h:Step T G w G1 w1)(o:b<=w.heap.size)(e:∀i,i<b->¬T (G i)):Below b w w1:=
 ⟨h.os,h.tape,h.output,h.size,λi t=>h.keep i B!<|e i t⟩
def aO(w:D!)(b:Nat)(t:TypeId)(e:Array I?):Prop:=w.heap[b]? =C! (.cells e t (0,0))
theorem aO.lt{b:Nat}{t:TypeId}{e:Array I?}(h:aO w b t e):b<w.heap.size:=(i!.1 h).1
theorem aO.cell{b:Nat}{t:TypeId}{e:Array I?}(h:aO w b t e)(i:Nat):w.cell? (B? b i)=e[i]? :=by
 unfold aO at h;simp[World.cell?,h]
theorem aO.k{b:Nat}{t:TypeId}{cs:Array I?}(h:aO w b t cs)(i:Nat){v:I?}(e:Nfx cs.toList i v:=by repeat(first|exact Nfx.z _ _|apply Nfx.s)):w.cell? (B? b i)=C! v:=Nfx.of (h.cell i) e
theorem aO.frozen{b:Nat}{t:TypeId}{e:Array I?}(h:aO w b t e)(i:Nat):w.frozen? (B? b i)=false:=by
 unfold aO at h;simp[World.frozen?,h]
theorem aO.set{b:Nat}{t:TypeId}{e cs':Array I?}(h:aO w b t e)(i:Nat)(x:I?)(o:e.setIfInBounds i x=cs'):aO (w.setCell (B? b i) x) b t cs':=by
 subst o;exact ba4 w b i e t x h
theorem aO.new(w:D!)(t:TypeId)(e:Array I?):aO (w.alloc (.cells e t)) w.heap.size t e:=c! w _
theorem aO.heap{b:Nat}{t:TypeId}{e:Array I?}(h:aO w b t e)(o:w1.heap[b]? =w.heap[b]?):aO w1 b t e:=o.trans h
theorem aO.step{b:Nat}{t:TypeId}{e:Array I?}(h:aO w b t e)(i:Step T G w G1 w1)(o:¬T (G b)):aO w1 b t e:=i.heap h o
theorem aO.below{b:Nat}{t:TypeId}{e:Array I?}(h:aO w b t e)(o:K! w w1):aO w1 b t e:=bb o h
theorem aO.only{S:Nat->Prop}{b:Nat}{t:TypeId}{e:Array I?}(h:aO w b t e)(i:Only S w w1)(o:¬S b):aO w1 b t e:=i.heap h o
def pd{P:Program}{e:Type}(E:Elem P e)(G:Nat->Tag)(t:Tag)(w:D!)(v:I?)(l:List e):Prop:=bq E w 0 v l/\∀k,v.ownBlock=C! k->G k=t
section
variable{P:Program}{α:Type}{E:Elem P α}{t:Tag}{v:I?}{l:List α}
theorem pd.nil(E:Elem P α)(G:Nat->Tag)(t:Tag)(w:D!):pd E G t w Q! []:=⟨bq.nil _ _ _,λk hk=>o!⟩
theorem pd.at(h:pd E G t w v l):aD E w v l:=h.1.at
theorem pd.lt(h:pd E G t w v l):∀k,v.ownBlock=C! k->k<w.heap.size:=h.1.lt
theorem pd.step(h:pd E G t w v l)(o:Step T G w G1 w1)(u:¬T t):pd E G1 t w1 v l:=by
 refine⟨?_,λk e=>(o.old k<|h.lt k e).trans<|h.2 k e⟩;refine⟨h.1.1,?_⟩;rcases h.1.2 with s|⟨g,i,n,rfl,d,c,r⟩
 .exact .inl s
 .exact .inr ⟨g,i,n,rfl,d,o.heap c<|by rw[h.2 g rfl];exact u,r⟩
end
end
section
abbrev KV(e:Type):=List (Int×e)
def bt{e:Type}(m:KV e)(k:Int):Option e:=(m.find? λx=>x.1==k).map (·.2)
def au{e:Type}(m:KV e)(k:Int):Bool:=m.any λx=>x.1==k
def bI{e:Type}(m:KV e)(k:Int)(v:e):KV e:=if au m k then m.map λx=>if x.1==k then(k,v)else x else m++[(k,v)]
def dB{e:Type}(m:KV e)(k:Int):KV e:=m.filter λx=> !(x.1==k)
def rI{e:Type}(m:KV e):List Int:=(m.map (·.1)).mergeSort<|λa b=>K? (a<=b)
theorem BM{n:Type}{m:KV n}{k:Int}{x:Int×n}(o:(m.map (·.1)).Nodup)(t:x∈m)(i:x.1=k):bt m k=C! x.2:=by
 induction m with
 |nil=>cases t
 |cons a m r=>
  unfold bt;rw[List.find?_cons];rw[i?,θ]at o;rcases n!.1 t with rfl|t
  .rw[show(x.1==k)=C? from by simp[i]];rfl
  .have s:(a.1==k)=false:=by
    rw[Q?];intro e;exact o.1 (by rw[e,<-i];exact a!.2 ⟨x,t,rfl⟩)
   rw[s];exact r o.2 t
section
variable{α β:Type}{m:KV α}{k k':Int}{v:α}
theorem iZ(x:Int×α)(m:KV α)(k:Int):bt (x::m) k=if x.1=k then C! x.2 else bt m k:=by
 unfold bt;rw[List.find?_cons];by_cases h:x.1=k
 .rw[show(x.1==k)=C? from by simp[h],G? h];rfl
 .rw[show(x.1==k)=H! from by simp[h],F! h]
theorem zE(x:Int×α)(m:KV α)(k:Int):au (x::m) k=(decide (x.1=k)||au m k):=by
 unfold au;rw[List.any_cons];congr 1
theorem fK(m:KV α)(k:Int):au m k=(bt m k).isSome:=by
 induction m with
 |nil=>rfl
 |cons x m e=>rw[zE,iZ,e];by_cases h:x.1=k<;>simp[h]
theorem dI:au m k=C?↔k∈m.map (·.1):=by
 unfold au;rw[ϋ];simp only[κ,a!]
theorem mg(h:au m k=C?)(v:α):bI m k v=m.map λx=>if x.1==k then(k,v)else x:=by unfold bI;rw[G? h]
theorem mq(h:au m k=H!)(v:α):bI m k v=m++[(k,v)]:=by unfold bI;rw[F!<|by rw[h];decide]
theorem Yt(e t:KV α)(k:Int):bt (e++t) k=(bt e k).or (bt t k):=by
 induction e with
 |nil=>simp[bt]
 |cons x m o=>rw[mdX,iZ,iZ,o];by_cases h:x.1=k<;>simp[h]
theorem Na(m:KV α)(k k':Int)(v:α):bt (m.map λx=>if x.1==k then(k,v)else x) k'=if k'=k then(bt m k).map (λ_=>v)else bt m k':=by
 induction m with
 |nil=>simp[bt]
 |cons x m o=>
  rw[i?,iZ,iZ,iZ,o];by_cases h:x.1=k
  .simp only[h,mbW,t!];by_cases e:k'=k
   .subst e;simp
   .rw[F!<|X? e,F! e,F! e,F!<|X? e]
  .have t:(x.1==k)=false:=by simp[h]
   simp only[t,η,q?];by_cases e:k'=k
   .subst e;rw[F! h,G? rfl,F! h];simp
   .rw[F! e,F! e]
theorem iQ(m:KV α)(k k':Int)(v:α):bt (bI m k v) k'=if k'=k then C! v else bt m k':=by
 by_cases h:au m k=C?
 .rw[mg h,Na];by_cases e:k'=k
  .rw[G? e,G? e];rw[fK]at h;let⟨y,i⟩:=Option.isSome_iff_exists.1 h;rw[i];rfl
  .rw[F! e,F! e]
 .have t:=z! _▸h;rw[mq t,Yt,iZ];by_cases e:k'=k
  .subst e;rw[fK]at t;have:bt m k'=none:=by cases o:bt m k' with|none=>rfl|some _=>rw[o]at t;cases t
   rw[this];simp
  .rw[F! e,F!<|X? e];simp[bt]
theorem lq(m:KV α)(k k':Int)(v:α):au (bI m k v) k'=(decide (k'=k)||au m k'):=by
 rw[fK,fK,iQ];by_cases h:k'=k<;>simp[h]
theorem Fu(m:KV α)(k:Int)(v:α):(bI m k v).map (·.1)=if au m k=C? then m.map (·.1)else m.map (·.1)++[k]:=by
 by_cases h:au m k=C?
 .rw[G? h,mg h,baG];exact meh
 .rw[F! h,mq<|z! _▸h];simp
theorem fL(o:(m.map (·.1)).Nodup)(k:Int)(v:α):((bI m k v).map (·.1)).Nodup:=by
 rw[Fu];split
 .exact o
 .rename_i h;rw[List.nodup_append];refine⟨o,N!,λa i b t=>?_⟩;rw[j?]at t;subst t;intro e;subst e;exact h<|dI.2 i
theorem fM(e:(m.map (·.1)).Nodup)(k:Int):((dB m k).map (·.1)).Nodup:=e.sublist<|List.filter_sublist.map _
theorem Fv(m:KV α)(k k':Int):bt (dB m k) k'=if k'=k then L? else bt m k':=by
 induction m with
 |nil=>simp[bt,dB]
 |cons x m o=>
  unfold dB at o|-;rw[k?,iZ];by_cases h:x.1=k
  .rw[F!<|by simp[h],o];by_cases t:k'=k
   .rw[G? t,G? t]
   .rw[F! t,F! t,F!<|λe=>t<|by rw[<-e];exact h]
  .rw[G?<|by simp[h],iZ,o];by_cases t:k'=k
   .rw[G? t,G? t,F!<|λe=>h<|by rw[e];exact t]
   .rw[F! t,F! t]
theorem lu(m:KV α)(k k':Int):au (dB m k) k'=(!K? (k'=k)&&au m k'):=by
 rw[fK,fK,Fv];by_cases h:k'=k<;>simp[h]
theorem eA(i:(m.map (·.1)).Nodup):bt m k=C! v↔(k,v)∈m:=by
 constructor
 .intro h;unfold bt at h;cases e:m.find? λx=>x.1==k with
  |none=>rw[e]at h;cases h
  |some x=>
   rw[e]at h;have o:=List.mem_of_find?_eq_some e;have t:=List.find?_some e;simp at h t;rw[<-h,<-t];exact o
 .intro h;exact BM i h rfl
def dY(f:Int->α->β)(m:KV α):KV β:=m.map λx=>(x.1,f x.1 x.2)
section
variable(f:Int->α->β)
include f
theorem i9(m:KV α):(dY f m).map (·.1)=m.map (·.1):=by unfold dY;rw[baG];rfl
theorem dN(m:KV α):(dY f m).length=m.length:=by unfold dY;exact g! _
theorem qU(m:KV α)(k:Int):bt (dY f m) k=(bt m k).map (f k):=by
 induction m with
 |nil=>rfl
 |cons x m e=>
  unfold dY at e|-;rw[i?,iZ,iZ,e];by_cases h:x.1=k
  .subst h;simp
  .rw[F! h,F! h]
theorem BN(m:KV α)(k:Int):au (dY f m) k=au m k:=by rw[fK,fK,qU,Option.isSome_map]
theorem jK(m:KV α)(k:Int)(v:α):bI (dY f m) k (f k v)=dY f (bI m k v):=by
 by_cases h:au m k=C?
 .rw[mg<|by rw[BN];exact h,mg h];unfold dY;rw[baG,baG];exact meh
 .have t:=z! _▸h;rw[mq<|by rw[BN];exact t,mq t];unfold dY;rw[ϻ];rfl
theorem fZ(m:KV α)(k:Int):dB (dY f m) k=dY f (dB m k):=by
 unfold dB dY;rw[List.filter_map];rfl
end
theorem A7{f g:Int->α->β}{m:KV α}(h:∀x∈m,f x.1 x.2=g x.1 x.2):dY f m=dY g m:=by
 unfold dY;apply bbd;intro x e;rw[h x e]
theorem tV(m:KV α):(rI m).Perm<|m.map (·.1):=bcv _ _
theorem qh:k∈rI m↔au m k=true:=by rw[(tV m).mem_iff,dI]
theorem BO(e:(m.map (·.1)).Nodup):(rI m).Nodup:=(tV m).nodup_iff.2 e
theorem Iz(m:KV α):(rI m).length=m.length:=by rw[(tV m).length_eq,g!]
theorem mr(h:au m k=C?)(z:α):bt m k=C! ((bt m k).getD z):=by
 rw[fK]at h;let⟨y,e⟩:=Option.isSome_iff_exists.1 h;rw[e];rfl
end
end
section
theorem Al(b:Nat):∀(l:List I?) (o:Nat) (w:D!) (e:Array I?) (t:TypeId) (s:Nat×Nat),w.heap[b]? =C! (.cells e t s)->o+l.length<=e.size->
 ∃n,(w.setCells b o l).heap[b]? =C! (.cells n t s)/\n.size=e.size/\(∀i,i<o\/o+l.length<=i->n[i]? =e[i]?)/\∀j,j<l.length->n[o+j]? =l[j]?
 |[],o,w,e,t,s,h,_=>⟨e,h,rfl,λ_ _=>rfl,λj d=>by simp at d⟩
 |v::r,o,w,e,t,s,h,k=>by
  rw[V!]at k
  have y:(w.setCell (B? b o) v).heap[b]? =C! (.cells (e.setIfInBounds o v) t s):=by
   simp only[World.setCell,ba8,t!,h,p?];rfl
  let⟨n,m,f,c,g⟩:=Al b r (o+1) _ _ t s y p!;refine⟨n,m,by simpa using f,λi u=>?_,λj d=>?_⟩
  .rw[c i<|by rw[V!]at u;omega,bb3<|by rw[V!]at u;omega]
  .cases j with
   |zero=>rw[bbc,c o B!,Array.getElem?_setIfInBounds_self_of_lt B!];rfl
   |succ j=>
    rw[V!]at d;have:=g j B!;rw[show o+(j+1)=o+1+j from B!,this];rfl
theorem Am(b:Nat):∀(e:List I?) (o:Nat) (w:D!),Only (· =b) w (w.setCells b o e)
 |[],o,w=>Only.refl _ _
 |v::r,o,w=>((Only.refl (· =b) w).set (.inl rfl) v).trans<|Am b r (o+1) _
section
variable{P:Program}{α:Type}(E:Elem P α)
def jd(w:D!)(v:I?)(l:List α):Prop:=
 (l=[]/\∃a,v=J! a 0 0)\/∃b o e t,v=J! (C!<|B? b o) l.length e/\l.length<=e/\e<=maxLen/\w.heap[b]? =C! (.cells t E.tE (0,0))/\o+e*E.size<=t.size/\
   ∀j,j<l.length*E.size->t[o+j]? =(l.flatMap E.enc)[j]?
def oy(G:Nat->Tag)(t:Tag)(w:D!)(v:I?)(l:List α):Prop:=jd E w v l/\∀k,v.ownBlock=C! k->k<w.heap.size/\G k=t
variable{E}{w w1 w':D!}{v:I?}{l:List α}{T:Tag->Prop}{G G1:Nat->Tag}{t:Tag}
theorem jd.nil(E:Elem P α)(w:D!):jd E w Q! []:=.inl ⟨rfl,L?,rfl⟩
theorem oy.nil(E:Elem P α)(G:Nat->Tag)(t:Tag)(w:D!):oy E G t w Q! []:=⟨jd.nil _ _,λk hk=>o!⟩
theorem jd.heap(h:jd E w v l)(d:∀k,v.ownBlock=C! k->w1.heap[k]? =w.heap[k]?):jd E w1 v l:=by
 rcases h with h|⟨b,c,e,o,rfl,i,n,s,r⟩
 .exact .inl h
 .exact .inr ⟨b,c,e,o,rfl,i,n,(d b rfl).trans s,r⟩
theorem jd.form(h:jd E w v l):∃a c,v=J! a l.length c/\l.length<=c/\c<=maxLen:=by
 rcases h with⟨rfl,a,rfl⟩|⟨b,s,e,n,rfl,o,i,_⟩
 .exact⟨a,0,rfl,Y? _,S! _⟩
 .exact⟨_,e,rfl,o,i⟩
theorem jd.cell(h:jd E w v l)(m:l≠[]):∃b o e,v=J! (C!<|B? b o) l.length e/\l.length<=e/\e<=maxLen/\b<w.heap.size/\∀j (s:j<l.length) i,i<E.size->w.cell? (B? b<|o+j*E.size+i)=(E.enc l[j])[i]? :=by
 rcases h with⟨rfl,_⟩|⟨b,o,e,f,rfl,r,d,n,g,c⟩
 .exact absurd rfl m
 .refine⟨b,o,e,rfl,r,d,(i!.1 n).1,λj s i u=>?_⟩;rw[<-E.at l j s i u,<-c _ ?_]
  .simp[World.cell?,n,bah]
  .have:=mas E.size (show j+1<=l.length from B!);rw[ώ]at this;omega
theorem oy.step(h:oy E G t w v l)(o:Step T G w G1 w1)(i:¬T t):oy E G1 t w1 v l:=
 ⟨h.1.heap λk e=>o.keep k (h.2 k e).1<|by rw[(h.2 k e).2];exact i,λk e=>⟨Z! (h.2 k e).1 o.size,(o.old k (h.2 k e).1).trans (h.2 k e).2⟩⟩
theorem jd.seq(h:jd E w v l)(r:l≠[]):aD E w v l:=by
 obtain⟨b,d,e,rfl,o,i,n,s⟩:=h.cell r;exact .inr ⟨b,d,e,rfl,o,i,n,s⟩
theorem jd.tail{a:α}{b i e:Nat}(h:jd E w (J! (C!<|B? b i) (a::l).length e) (a::l)):∀o,(e=1\/o=C! (B? b<|i+E.size))->jd E w (J! o l.length<|e-1) l:=by
 intro o m;rcases h with⟨h,_⟩|⟨g,z,y,s,n,r,k,d,c,u⟩
 .cases h
 .simp only[ba9,bbD,bcH]at n;obtain⟨⟨rfl,rfl,-⟩,-,rfl⟩:=n;rw[V!]at r;rcases m with rfl|rfl
  .have:l=[]:=y? B!;subst this;exact .inl ⟨rfl,o,rfl⟩
  .refine .inr ⟨b,i+E.size,e-1,s,rfl,B!,B!,d,?_,λj q=>?_⟩
   .have f:e=(e-1)+1:=B!;rw[f,ώ]at c;omega
   .have:=u (E.size+j) (by rw[V!,ώ];omega);rw[bah,this,ϐ,mdd<|by rw[E.len];omega,E.len];congr 1;omega
theorem Yx{n:Nat}(h:jd E w v l):∃a c,v=J! a l.length c/\(Builtin.firstCells E.size l.length<|J! a l.length c).run P w=.ok (l.flatMap E.enc).toArray w:=by
 rcases h with⟨rfl,a,rfl⟩|⟨b,q,i,f,rfl,g,y,r,k,d⟩
 .refine⟨a,0,rfl,?_⟩;cases a with
  |none=>exact run_firstCells_none w E.size 0 0 0
  |some o=>exact run_firstCells_some w E.size 0 o 0 0 [] N! (by intro _ _ s;simp at s)
 .refine⟨_,i,rfl,run_firstCells_some w E.size l.length _ _ _ _ (E.length l) λj u e=>?_⟩;rw[maH];have m:j<l.length*E.size:=by have:=(List.getElem?_eq_some_iff.1 e).1;rwa[E.length]at this
  simp[World.cell?,r,d j m,e]
theorem Yy(h:jd E w v l)(x:I?)(o:List α)(z:Src P E.size E.tS x o.length (o.flatMap E.enc) w)(O:TypeId)(ac:(l.length+o.length)*E.bytes<=140737488355328)(a1:1<=E.bytes):
 ∃r w',(Builtin.append_ #[E.tS,E.tS] O #[v,x]).run P w=.ok r w'/\jd E w' r (l++o)/\Only (λk=>v.ownBlock=C! k) w w'/\(∀k,r.ownBlock=C! k->v.ownBlock=C! k\/(w.heap.size<=k/\k<w'.heap.size)):=by
 let⟨i,S,ae,u,a2⟩:=BL E
 have W:l.length+o.length<=maxLen:=by
  have:=mcg (l.length+o.length) a1;simp only[maxLen];omega
 have J:∀a c,v=J! a l.length c->(Builtin.firstCells E.size l.length<|J! a l.length c).run P w.drew=.ok (l.flatMap E.enc).toArray w.drew->c<l.length+o.length->c<=maxLen->l.length<=c->
  ∃r w',(Builtin.append_ #[E.tS,E.tS] O #[v,x]).run P w=.ok r w'/\jd E w' r (l++o)/\Only (λk=>v.ownBlock=C! k) w w'/\(∀k,r.ownBlock=C! k->v.ownBlock=C! k\/(w.heap.size<=k/\k<w'.heap.size)):=by
  intro a c s C M ap ar;subst s
  have N:Builtin.nextslicecap (l.length+o.length) c*i.bytes<=281474976710656:=by
   rw[a2];exact growslice_fits M ac
  have y:=run_append_grow_src (P:=P) (w:=w) E.tS E.tS O E.tE i E.z E.und S ae a l.length c _ (by rw[u];exact C) x o.length _ (by rw[u];exact z) M (by simp only[maxLen]at W;omega) N;have aa:=grownCap_ge w (l.length+o.length) c E.tE
  have ag:(Builtin.zeroCells E.z.cells<|grownCap w (l.length+o.length) c E.tE-(l.length+o.length)).size=(grownCap w (l.length+o.length) c E.tE-(l.length+o.length))*E.size:=by
   unfold Builtin.zeroCells;simp[E.zs]
  refine⟨_,_,y,.inr ⟨w.heap.size,0,grownCap w (l.length+o.length) c E.tE,_,by rw[X!],?_,mdJ _ _ _ _ W,c! w.drew _,?_,?_⟩,((Only.refl _ w).drew).alloc _,?_⟩
  .rw[X!];exact aa
  .rw[Array.size_append,ag,List.size_toArray,X!,E.length,E.length,<-ώ,<-ώ,ξ];rw[show l.length+o.length+(grownCap w (l.length+o.length) c E.tE-(l.length+o.length))=grownCap w (l.length+o.length) c E.tE from B!];exact Y? _
  .intro j d;rw[X!,ώ]at d;have ad:j<(l.flatMap E.enc++o.flatMap E.enc).length:=by rw[X!,E.length,E.length];exact d
   rw[ξ,na8<|by simpa using ad,ϣ];simp
  .intro k m;cases m
   exact .inr ⟨Y? _,N!⟩
 let⟨a,c,s,C⟩:=Yx (n:=0) h;have a9:=h.form;by_cases q:l.length+o.length<=c
 .rcases h with⟨rfl,g,f⟩|⟨b,A,L,D,f,ao,Q,I,Z,a0⟩
  .rw[f]at s;simp only[ba9]at s;obtain⟨-,-,rfl⟩:=s;have ab:=y? (by simpa using q);subst ab;subst f;refine⟨J! g 0 0,w,?_,.inl ⟨rfl,g,rfl⟩,Only.refl _ _,λk m=>.inl m⟩;have a3:(Builtin.firstCells i.size 0 x).run P w=.ok #[] w:=by rw[u];exact z.cells
   cases g<;>simp[Builtin.append_,ba6 E.und,sizeOf,typeInfo,S,z.len,a3,storeCells,Result.andThen]
  .rw[f]at s;simp only[ba9]at s;obtain⟨rfl,-,rfl⟩:=s;subst f
   have N:A+l.length*E.size+(o.flatMap E.enc).length<=D.size:=by
    rw[E.length,bah,<-ώ];have:=mas E.size q;omega
   have y:=run_append_room_src (P:=P) (w:=w) E.tS E.tS O E.tE i E.und S b A l.length L x o.length _ (by rw[u];exact z) q (λj d=>by
    rw[u];simp only[World.cell?,I,mgg,η,q?];rw[baD B!];rfl) (λj d=>by simp[World.frozen?,I])
   rw[u]at y;let⟨Y,B,V,K,X⟩:=Al b (o.flatMap E.enc) (A+l.length*E.size) w D E.tE (0,0) I N;refine⟨_,_,y,.inr ⟨b,A,L,Y,by rw[X!],by rw[X!];exact q,Q,B,by rw[V];exact Z,λj d=>?_⟩,(Am b _ _ w).mono (λk _ e=>by rw[e];rfl),λk m=>.inl m⟩;rw[ϣ];by_cases F:j<l.length*E.size
   .rw[K _ (.inl B!),a0 j F,List.getElem?_append_left<|by rw[E.length];exact F]
   .rw[mdd<|by rw[E.length];omega,E.length];rw[X!,ώ]at d;have:=X (j-l.length*E.size) (by rw[E.length];omega);rw[<-this];congr 1;omega
 .obtain⟨g,am,R,a4,a5⟩:=a9;rw[s]at R;simp only[ba9]at R;obtain⟨rfl,-,rfl⟩:=R
  have a8:(Builtin.firstCells E.size l.length<|J! a l.length c).run P w.drew=.ok (l.flatMap E.enc).toArray w.drew:=by
   have a6:jd E w.drew v l:=h.heap λ_ _=>rfl;let⟨al,an,H,a7⟩:=Yx (n:=0) a6;rw[s]at H;simp only[ba9]at H;obtain⟨rfl,-,rfl⟩:=H;exact a7
  exact J a c s a8 B! a5 a4
section
variable{ops:Array Oper}{rest:List Oper}{o:Oper}{act:Act}{Q:Exit->Act->D!->Prop}
theorem oI(E:Elem P α)(u:o.guard=L?)(s x:Operand)
 (f:o.op=.call {callee:=.builtin .append,args:= #[s,x],argTypes:= #[E.tS,E.tS]})
 (v n:I?)(l e:List α)(h:jd E w v l)(y:act.eval s=v)(j:act.eval x=n)(b:Src P E.size E.tS n e.length (e.flatMap E.enc) w)(m:(l.length+e.length)*E.bytes<=140737488355328)(c:1<=E.bytes)
 (r:∀i w',jd E w' i (l++e)->Only (λk=>v.ownBlock=C! k) w w'->(∀k,i.ownBlock=C! k->v.ownBlock=C! k\/(w.heap.size<=k/\k<w'.heap.size))->wpList P ops Q rest (act.put o.dst i) w'):wpList P ops Q (o::rest) act w:=by
 refine baH u λK d=>?_;let⟨i,w',g,q,z,A⟩:=Yy h n e b o.type m c;unfold Oper.wp;simp[execOp,f,resolve,invoke,builtin,y,j,g,Result.andThen];exact d _ _<|r i w' q z A
theorem dz(E:Elem P α)(y:o.guard=L?)(s x:Operand)
 (q:o.op=.call {callee:=.builtin .append,args:= #[s,x],argTypes:= #[E.tS,E.tS]})
 (v:I?)(l:List α)(a:α)(c:Nat)(h:jd E w v l)(O:∀k,v.ownBlock=C! k->k<w.heap.size)(z:act.eval s=v)(B:Nat)(I:act.eval x=J! (C!<|B? B 0) 1 c)(m:B=w.heap.size)(b:(l.length+1)*E.bytes<=140737488355328)(g:1<=E.bytes)
 (f:∀e w',jd E w' e (l++[a])->Only (λk=>v.ownBlock=C! k) w w'->(∀k,e.ownBlock=C! k->v.ownBlock=C! k\/(w.heap.size<=k/\k<w'.heap.size))->wpList P ops Q rest (act.put o.dst e) w'):
 wpList P ops Q (o::rest) act (w.alloc (.cells (E.enc a).toArray E.tE)):=by
 subst m;refine oI E y s x q v _ l [a] (h.heap λk i=>baf w _ k<|O k i) z I (bb0 _ E.und _ 1 c _ (by simp[E.len]) ?_<|by simpa using E.one a) b g λe w' n r d=>f e w' n (((Only.refl _ w).alloc _).trans r) λk i=>(d k i).imp id λh=>⟨by have:=h.1;simp at this;omega,h.2⟩;intro j u A;rw[maH,ξ,j!];simpa using A
theorem BP(E:Elem P α)(z:o.guard=L?)(s x:Operand)
 (O:o.op=.call {callee:=.builtin .append,args:= #[s,x],argTypes:= #[E.tS,E.tS]})
 (v n:I?)(l e:List α)(h:jd E w v l)(I:act.eval s=v)(S:act.eval x=n)(N:aD E w n e)(A:(l.length+e.length)*E.bytes<=140737488355328)(b:1<=E.bytes)
 (y:∀i w',jd E w' i (l++e)->Only (λk=>v.ownBlock=C! k) w w'->(∀k,i.ownBlock=C! k->v.ownBlock=C! k\/(w.heap.size<=k/\k<w'.heap.size))->wpList P ops Q rest (act.put o.dst i) w'):wpList P ops Q (o::rest) act w:=by
 refine oI E z s x O v n l e h I S ?_ A b y;rcases N with⟨rfl,rfl⟩|⟨g,C,c,rfl,R,H,D,q⟩
 .exact Src.ofNil _ E.und 0
 .refine bb0 _ E.und _ _ c _ (E.length e) (λj u hu=>?_) (E.ach e)
  have hj:j<e.length*E.size:=by
   exact mdO
  have L:=bcr j E.size;have f:=x? j E.pos;have d:=mbN mdA;have m:j=j/E.size*E.size+j%E.size:=mbm;have r:=q (j/E.size) d (j%E.size) f;rw[<-E.at e (j/E.size) d (j%E.size) f,<-m,hu,bah,<-m]at r;rw[maH];exact r
end
end
end
end Go.Proofs.YtncddkcponjlpaaGreatDoor
open Go.Proofs.YtncddkcponjlpaaGreatDoor
namespace Go.Crc
theorem Nj(x y:Nat):(x^^^y)%2=(x+y)%2:=by
 have h:(x^^^y)%2=(x%2)^^^(y%2):=by simpa using Nat.xor_mod_two_pow (n:=1) (a:=x) (b:=y)
 rw[h];rcases mer x with a|a<;>rcases mer y with b|b<;>simp[a,b]<;>omega
def oL(x:Nat):Nat:=if x%2=1 then(x/2)^^^33800 else x/2
def fit:Nat->Nat->Nat
 |0,x=>x
 |n+1,x=>fit n<|oL x
def f8(x:Nat):Nat:=fit 8 x
def Ad(x b:Nat):Nat:=f8<|x^^^b
def crc(x:Nat):List Nat->Nat
 |[]=>x
 |b::l=>crc (Ad x b) l
theorem FN{x:Nat}(h:x<65536):oL x<65536:=by
 unfold oL;split
 .exact bai (n:=16) B! B!
 .omega
theorem Vt(x y:Nat):oL (x^^^y)=oL x^^^oL y:=by
 unfold oL
 have o:(x^^^y)/2=x/2^^^y/2:=by
  simpa using Nat.xor_div_two_pow (n:=1) (a:=x) (b:=y)
 have i:=Nj x y;rw[o,i];by_cases e:x%2=1<;>by_cases t:y%2=1
 .rw[F! B!,G? e,G? t];rw[bbC,bbx 33800,bbC,Nat.xor_self,Nat.xor_zero]
 .rw[G? B!,G? e,F! t,bbC,bbx<|y/2,<-bbC]
 .rw[G? B!,F! e,G? t,bbC]
 .rw[F! B!,F! e,F! t]
theorem Ca(n:Nat):∀x y,fit n (x^^^y)=fit n x^^^fit n y:=by
 induction n with
 |zero=>intro x y;rfl
 |succ n e=>intro x y;simp only[fit,Vt,e]
theorem KT(n:Nat):∀{x:Nat},x<65536->fit n x<65536:=by
 induction n with
 |zero=>intro x h;exact h
 |succ n e=>intro x h;exact e<|FN h
theorem Cb(a b:Nat):∀x,fit (a+b) x=fit b (fit a x):=by
 induction a with
 |zero=>intro x;rw[ξ];rfl
 |succ a e=>intro x;rw[Nat.succ_add];exact e<|oL x
theorem Ju(n x:Nat):fit (n+1) x=oL (fit n x):=by rw[Cb n 1];rfl
theorem acs{x b:Nat}(e:x<65536)(t:b<256):Ad x b<65536:=
 KT 8 (bai (n:=16) e B!)
theorem Jv(h:Nat):fit 8 (h*256)=h:=by
 have e:∀y:Nat,oL (2*y)=y:=by intro y;unfold oL;rw[F! B!];omega
 simp only[fit];rw[show h*256=2*(2*(2*(2*(2*(2*(2*(2*h)))))))from B!,e,e,e,e,e,e,e,e]
theorem KW(x:Nat):x=(x%256)^^^(x/256*256):=by
 apply Nat.eq_of_testBit_eq;intro i;rw[Nat.testBit_xor,show(256:Nat)=2^8 from rfl,Nat.testBit_mod_two_pow,Nat.testBit_mul_two_pow,Nat.testBit_div_two_pow];by_cases h:i<8
 .simp[h,show¬8<=i from B!]
 .simp[h,show 8<=i from B!]
theorem YL(x b:Nat):Ad x b=(x/256)^^^fit 8 ((x%256)^^^b):=by
 unfold Ad f8
 have e:x^^^b=((x%256)^^^b)^^^(x/256*256):=by
  rw[bbC,bbx b,<-bbC,<-KW]
 rw[e,Ca,Jv _,bbx]
def bn(l:List UInt8):List Nat:=l.map (·.toNat)
theorem QR(l m:List Nat):∀x,crc x (l++m)=crc (crc x l) m:=by
 induction l with
 |nil=>intro x;rfl
 |cons b l e=>intro x;exact e _
theorem aeM(l:List Nat):∀{x},x<65536->(∀b∈l,b<256)->crc x l<65536:=by
 induction l with
 |nil=>intro x h _;exact h
 |cons b l o=>intro x h e;exact o (acs h<|e b N!) λc t=>e c (by simp[t])
theorem agb(l:List UInt8):∀b∈bn l,b<256:=by
 intro b e;obtain⟨c,_,rfl⟩:=a!.1 e;exact c.toNat_lt
def raw(l:List UInt8):Nat:=crc 65535<|bn l
def Nl(l:List UInt8):Nat:=raw l^^^65535
theorem QS(l:List UInt8):raw l<65536:=aeM _ B!<|agb l
theorem YM(l:List UInt8):Nl l<65536:=bai (n:=16) (QS l) B!
def put(l:List UInt8):List UInt8:=l++[UInt8.ofNat<|Nl l%256,UInt8.ofNat<|Nl l/256]
theorem FO(l:List UInt8):(put l).length=l.length+2:=by simp[put]
theorem Bb(l m:List UInt8):raw (l++m)=crc (raw l) (bn m):=by
 unfold raw bn;rw[ϻ,QR]
theorem Nn(l:List UInt8)(b:UInt8):raw (l++[b])=Ad (raw l) b.toNat:=Bb l [b]
def turn(l:List UInt8)(k:Nat):List UInt8:=l.set (k/8)<|(l.getD (k/8) 0)^^^(1<<<UInt8.ofNat (k%8))
end Go.Crc
namespace Go.Proofs.YtncddkcponjlpaaGreatDoor
open Go.RowKit Go.Proofs.Tryz
open Go renaming World→D!,Value→I?,Calls→G!,IntKind→ncy
open Go.RowKit renaming Hid→E!
open Decidable renaming decide→K?
open Option renaming some→C!,none→L?
open Bool renaming true→C?,false→H!
open Go.Proofs.Tryz renaming prog→E?
section
section
variable{P:Program}{ops:Array Oper}{Q:Exit->Act->D!->Prop}{S:D!->Prop}
theorem iY(w:D!)(p a:Addr)(v:I?)(h:p.block≠a.block):(w.setCell p v).cell? a=w.cell? a:=
 Ω w p a v (λe=>h<|by rw[e])
def yM(Q:Exit->Act->D!->Prop)(K:Act->D!->Prop):Exit->Act->D!->Prop
 |.normal,a,w=>K a w
 |e,a,w=>Q e a w
theorem Cm{i:Nat}{o:Oper}{K:Act->World->Prop}{a:Act}{w:World}(ho:ops[i]? =some o)(h:wpList P ops (yM Q K) [o] a w):wpOp P ops Q i K a w:=by
 unfold wpOp;rw[ho];simp only[wpList]at h;show if _ then _ else _
 split
 .rename_i hw;rw[G? hw]at h;rcases h with h|⟨h1,h2⟩
  .refine .inl ?_;unfold Oper.wp at*
   generalize(execOp a.eval o).run P w=r at*
   cases r with
   |ok n w'=>
    cases n<;>simp only[Oper.upon]at h|-
    all_goals first
     |exact h
     |(refine h.mono ?_
       intro e w'' he;cases e<;>first|exact he|(exact λhx=>he hx))
   |halt x w'=>cases x<;>first|exact h|exact h.elim
  .exact .inr ⟨h1,h2⟩
 .rename_i hw;rw[F! hw]at h;exact h
def uF(t:Region.Mode)(ops:Array Oper):List (Nat×Bool)->Array Bool->Bool
 |[],e=>(Region.ready t ops e).isEmpty
 |(i,C?)::r,e=>Region.free t ops e i&&(Region.ready t ops e).contains i&&uF t ops r (e.setIfInBounds i C?)
 |(i,H!)::r,e=>(Region.ready t ops e==[i])&&uF t ops r (e.setIfInBounds i C?)
def zL(P:Program)(ops:Array Oper)(S:D!->Prop)(Q:Exit->Act->D!->Prop):List (Nat×Bool)->Act->D!->Prop
 |[],a,w=>Q .normal a w
 |(i,C?)::r,a,w=>∃o v,ops[i]? =C! o/\YieldsIf P ops S o v a/\zL P ops S Q r (a.put o.dst v) w
 |(i,H!)::r,a,w=>wpOp P ops Q i (λt e=>S e/\zL P ops S Q r t e) a w
theorem wH(f:Region.noSelect ops=C?)(u:∀c d v a w,Q (.panic c) (Act.put a d v) w->Q (.panic c) a w):∀(l:List<|Nat×Bool) (t:Array Bool) (a:Act) (w:D!),
 uF .any ops l t=C?->S w->zL P ops S Q l a w->wpAnyH P .any ops Q S l.length t a w
 |[],t,a,w,e,_,h=>⟨by simpa[uF]using e,h⟩
 |(i,C?)::r,t,a,w,e,m,⟨o,v,q,z,h⟩=>by
  simp only[uF,k!]at e;obtain⟨⟨n,s⟩,k⟩:=e;exact wpAnyH_take q f n s (λc a w=>u c _ _ a w) z m<|wH f u r _ _ w k m h
 |(i,H!)::r,t,a,w,e,m,h=>by
  simp only[uF,k!,κ]at e;obtain⟨n,s⟩:=e;refine wpAnyH_all n N! λj g=>?_;rw[j?]at g;subst g;exact bbI (λb A ⟨y,E⟩=>⟨y,wH f u r _ b A s y E⟩) h
theorem Y3{u:Nat}{a:Act}{w:D!}{l:List Oper}(S:D!->Prop)(e:List<|Nat×Bool)(s:P.follows .mixedOrders=C?)(r:Region.noSelect l.toArray=C?)(t:e.length=l.toArray.size)
 (o:uF .any l.toArray e (Array.replicate l.toArray.size H!)=C?)(n:S w.drew)(i:∀c d v a w,Q (.panic c) (Act.put a d v) w->Q (.panic c) a w)
 (h:zL P l.toArray S Q e a w.drew):(Code.region u l.toArray C?).wp P Q a w:=by
 apply wp_region_held (S:=S) s;rw[<-t];have:=wH (P:=P) r i e (Array.replicate l.toArray.size H!) a w.drew o n h;rw[<-t]at this;exact this
def fQ(ops:Array Oper)(e:List<|Nat×Bool):List<|Oper×Bool:=e.filterMap λx=>(ops[x.1]?).map λo=>(o,x.2)
def bO(P:Program)(ops:Array Oper)(S:D!->Prop)(Q:Exit->Act->D!->Prop):List (Oper×Bool)->Act->D!->Prop
 |[],a,w=>Q .normal a w
 |(o,C?)::r,a,w=>∃v,YieldsIf P ops S o v a/\bO P ops S Q r (a.put o.dst v) w
 |(o,H!)::r,a,w=>∀K:Act->D!->Prop,E! (∀t e,S e->bO P ops S Q r t e->K t e)->wpList P ops (yM Q K) [o] a w
theorem lJ:∀(n:List<|Nat×Bool) (a:Act) (w:D!),(n.all λx=>K? (x.1<ops.size))=C?->bO P ops S Q (fQ ops n) a w->zL P ops S Q n a w
 |[],a,w,_,h=>h
 |(i,b)::r,a,w,s,h=>by
  simp only[mc6,k!,z?]at s;obtain⟨u,l⟩:=s;have o:=baD u
  have e:fQ ops ((i,b)::r)=(ops[i],b)::fQ ops r:=by
   unfold fQ;rw[ύ];simp only[o,p?]
  rw[e]at h;cases b with
  |true=>
   obtain⟨v,m,t⟩:=h;exact⟨ops[i],v,o,m,lJ r _ w l t⟩
  |false=>exact Cm o<|h _<|A? λd f c t=>⟨c,lJ r d f l t⟩
theorem VG{m:Nat}{a:Act}{w:D!}{l:List Oper}(S:D!->Prop)(e:List<|Nat×Bool)(s:P.follows .mixedOrders=C?)(u:Region.noSelect l.toArray=C?)(r:e.length=l.toArray.size)
 (n:(e.all λx=>K? (x.1<l.toArray.size))=C?)
 (t:uF .any l.toArray e (Array.replicate l.toArray.size H!)=C?)(i:S w.drew)(o:∀c d v a w,Q (.panic c) (Act.put a d v) w->Q (.panic c) a w)
 (h:bO P l.toArray S Q (fQ l.toArray e) a w.drew):(Code.region m l.toArray C?).wp P Q a w:=
 Y3 S e s u r t i o (lJ e _ _ n h)
section
variable{o:Oper}{r:List (Oper×Bool)}{a:Act}{w:D!}
theorem rW(v:I?)(t:Region.wanted o (yielded ops a.tmps)=C?)
 (e:∀w,S w->(execOp a.eval o).run P w=.ok (.value v) w)(h:bO P ops S Q r (a.put o.dst v) w):bO P ops S Q ((o,C?)::r) a w:=⟨v,.inl ⟨t,e⟩,h⟩
theorem K7(e:Region.wanted o (yielded ops a.tmps)=H!)
 (h:bO P ops S Q r (a.put o.dst undef) w):bO P ops S Q ((o,C?)::r) a w:=⟨undef,.inr ⟨e,rfl⟩,h⟩
theorem ai
 (h:∀K:Act->D!->Prop,E! (∀t e,S e->bO P ops S Q r t e->K t e)->wpList P ops (yM Q K) [o] a w):bO P ops S Q ((o,H!)::r) a w:=h
end
theorem aj{a:Act}{w:D!}(h:Q .normal a w):bO P ops S Q [] a w:=h
theorem ah{K:Act->D!->Prop}{a:Act}{w:D!}(h:K a w):yM Q K .normal a w:=h
theorem O!{S:D!->Prop}{B K:Act->D!->Prop}{a:Act}{w:D!}(h:E!<|∀a w,S w->B a w->K a w)(s:S w)(k:B a w):yM Q K .normal a w:=h _ _ s k
def zca:List Nat->List (Nat×Bool)|[]=>[]|n::r=>(n/2,n%2==0)::zca r
def zcn:Nat->Nat->Bool->List (Nat×Bool)->List (Nat×Bool)|_,0,_,t=>t|i,n+1,b,t=>(i,b)::zcn (i+1) n b t
def zcr:Nat->Bool->List Nat->List (Nat×Bool)|_,_,[]=>[]|i,b,n::r=>zcn i n b<|zcr (i+n) (!b) r
def zcb(l:List Nat):List<|Nat×Bool:=zcr 0 C? l
theorem dW{id:Nat}{a:Act}{w:D!}{l:List Oper}(S:D!->Prop)(sc:List<|Nat×Bool)(hS:S w.drew)(h:bO P l.toArray S Q (fQ l.toArray sc) a w.drew)
 (hm:P.follows .mixedOrders=true:=by kernel_rfl)(hs:Region.noSelect l.toArray=true:=by kernel_rfl)(hn:sc.length=l.toArray.size:=by rfl)(hi:(sc.all λx=>K? (x.1<l.toArray.size))=true:=by kernel_rfl)
 (hB:uF .any l.toArray sc (Array.replicate l.toArray.size H!)=true:=by kernel_rfl)(hQ:∀c d v a w,Q (.panic c) (Act.put a d v) w->Q (.panic c) a w:=by exact λ_ d _ _ _ h=>bav):
 (Code.region id l.toArray C?).wp P Q a w:=VG S sc hm hs hn hi hB hS hQ h
end
theorem tR{P Q:Prop}(k:Q)(h:Q->P:=by
 intro kk;simp only[fQ,zca,zcb,zcr,zcn,bbU,bcz,ύ,ϟ,baM,baO,baA,p?];exact kk):P:=h k
theorem tK{P Q:Prop}(k:Q)(h:Q->P:=by
 intro kk
 (try simp only[fQ,zca,zcb,zcr,zcn,bbU,bcz,ύ,ϟ,baM,baO,baA,p?])
 repeat(first|(refine' rW _ ba0 (λwS hS=>?_) ?_;rotate_left;(focus(iterate 9 (try(have k9:=And.left hS;replace hS:=And.right hS)));go_simp;first|done|rfl);(try simp only[Act.put,υ,ϑ,ϊ]))|(apply K7 ba0;try simp only[Act.put,υ,ϑ,ϊ]))
 exact kk):P:=h k
end
