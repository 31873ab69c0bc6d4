/- Walks and plain laws. -/
import Derived.Test.YtncddkcponjlpaaGreatDoorRows
import Derived.Test.YtncddkcponjlpaaGreatDoorK02
set_option linter.unusedVariables false
set_option linter.unusedSimpArgs false
set_option maxHeartbeats 0
set_option maxRecDepth 99999
namespace Go.Proofs.YtncddkcponjlpaaGreatDoor
open Go.RowKit Go.Proofs.Tryz
open Go renaming World→D!,Value→I?,Calls→G!,IntKind→ncy
open Go.RowKit renaming Hid→E!
open Decidable renaming decide→K?
open Option renaming some→C!,none→L?
open Bool renaming true→C?,false→H!
open Go.Proofs.Tryz renaming prog→E?
variable{P:Prop}
theorem Dk:(prog.info? 5).map (λi=>(i.zero,i.size,i.bytes))=C! (C! (.int .u8 0),1,1):=M?
def Own(w:D!)(e:Nat)(v:I?)(l:List UInt8):Prop:=w.ownsRow e 5 1 v l.length<|Lib.byteCells l
theorem Own.nil(w:D!)(e:Nat):Own w e Q! []:=⟨rfl,.inl ⟨rfl,rfl⟩⟩
theorem Own.block{w:D!}{e:Nat}{v:I?}{l:List UInt8}(h:Own w e v l):∀k,v.ownBlock=C! k->e<=k:=by
 intro k t;rcases h.2 with⟨rfl,_⟩|⟨g,i,n,rfl,o,_⟩
 .cases t
 .cases t;exact o
theorem Own.below{w o:D!}{e:Nat}{v:I?}{l:List UInt8}(h:Own w e v l)(hb:K! w o):Own o e v l:=by
 exact naV
section
variable{w:D!}{base:Nat}{v:I?}{l:List UInt8}(h:Own w base v l)
include h
theorem Own.form:∃a c,v=J! a l.length c:=by
 exact nbg
theorem Own.conv:(convert 64 9 v).run E? w=.ok (D?<|bytesOf l) w:=by
 rcases h.2 with⟨rfl,i⟩|⟨g,t,o,rfl,c,s,m,u,f,d⟩
 .have:l=[]:=y? i;subst this;exact run_convert_bytes_nil w _ _ underlying64 underlying5 0 0 _ underlying9
 .refine bcd w _ _ _ (B? g 0) t l underlying64 underlying5 underlying9 λj r=>?_;have n:((B? g 0):Addr).add j=(B? g j):=ban;rw[n]
  have e:o[j]? =(Lib.byteCells l)[j]? :=by
   rw[<-d,bat,G? B!];simp
  simp[World.cell?,s,e,Lib.byteCells,r]
end
theorem mw{y:Array Oper}{k:List Oper}{o:Oper}{a:Act}{w:D!}{Q:Exit->Act->D!->Prop}(E:o.guard=L?)(s x:Operand)
 (I:o.op=.call {callee:=.builtin .append,args:= #[s,x],argTypes:= #[64,64]})
 (i:D!)(v:I?)(l t:List UInt8)(n c:Nat)(f:Array I?)(g:Own w i.heap.size v l)(S:a.eval s=v)(R:a.eval x=J! (C!<|B? w.heap.size 0) n c)
 (q:f=(Lib.byteCells t).toArray)(O:n=t.length)(F:l.length+t.length<=140737488355328)(M:K! i w)
 (h:∀d r,Own r i.heap.size d (l++t)->K! i r->wpList E? y Q k (a.put o.dst d) r):
 wpList E? y Q (o::k) a (w.alloc (.cells f 5)):=by
 subst q;subst O;let⟨C,A,H,L,D⟩:=bb5 Dk;have m:K! i<|w.alloc (.cells (Lib.byteCells t).toArray 5):=ak M _;refine mgk _ E s x _ I i.heap.size 5 C (.int .u8 0) 1 1 underlying64 A H L D rfl I! v l.length (Lib.byteCells l) S (g.below<|(P! _ _).alloc O? _) (B? w.heap.size 0) t.length c (Lib.byteCells t) R (by rw[bax,bbb]) ?_ ?_ ?_ ?_ ?_ ?_
 .intro j u hu;exact mdi
 .intro u hu;obtain⟨b,_,rfl⟩:=a!.1 hu;rfl
 .simp only[maxLen];omega
 .omega
 .exact m.size
 .intro d r N z _;refine h d r ?_<|m.grown z m.size g.block;have e:Lib.byteCells (l++t)=Lib.byteCells l++Lib.byteCells t:=by simp[Lib.byteCells]
  unfold Own;rw[e,X!];exact N
theorem acl:(prog.info? 9).map (λi=>(i.zero,i.size,i.bytes))=C! (C! (D? ByteArray.empty),1,16):=M?
def rS(w:D!)(v:I?)(l:List ByteArray):Prop:=
 (l=[]/\v=Q!)\/∃g o c,v=J! (C! ⟨g,o,L?⟩) l.length c/\∀j (h:j<l.length),w.cell? ⟨g,o+j,L?⟩=C! (D? l[j])
theorem rS.below{w n:D!}{v:I?}{l:List ByteArray}(h:rS w v l)(s:Below w.heap.size w n):rS n v l:=by
 rcases h with h|⟨g,o,c,rfl,e⟩
 .exact .inl h
 .refine .inr ⟨g,o,c,rfl,λj i=>(s.cell ?_).trans (e j i)⟩;exact h! (e j i)
def qi(w:D!)(e:Nat)(v:I?)(l:List ByteArray):Prop:=w.ownsRow e 9 1 v l.length (l.map Value.string)
theorem qi.nil(w:D!)(e:Nat):qi w e Q! []:=⟨rfl,.inl ⟨rfl,rfl⟩⟩
theorem qi.block{w:D!}{e:Nat}{v:I?}{l:List ByteArray}(h:qi w e v l):∀k,v.ownBlock=C! k->e<=k:=by
 intro k t;rcases h.2 with⟨rfl,_⟩|⟨g,i,n,rfl,o,_⟩
 .cases t
 .cases t;exact o
theorem qi.below{w i:D!}{e:Nat}{v:I?}{l:List ByteArray}(h:qi w e v l)(c:Below w.heap.size w i):qi i e v l:=by
 refine⟨h.1,?_⟩;rcases h.2 with d|⟨g,n,s,m,u,o,r⟩
 .exact .inl d
 .exact .inr ⟨g,n,s,m,u,(c.block g (i!.1 o).1).trans o,r⟩
section
variable{w:D!}{base:Nat}{v:I?}{l:List ByteArray}(h:qi w base v l)
include h
theorem qi.form:∃a c,v=J! a l.length c:=by
 rcases h.2 with⟨rfl,e⟩|⟨g,t,o,rfl,_⟩
 .exact⟨L?,0,by rw[e]⟩
 .exact⟨_,_,rfl⟩
theorem qi.at:rS w v l:=by
 rcases h.2 with⟨rfl,h0⟩|⟨g,cap,cur,rfl,hg,hh,hn,hm,hs,ht⟩
 .exact .inl ⟨y? h0,rfl⟩
 .refine .inr ⟨g,0,cap,rfl,λj hj=>?_⟩
  have e:cur[j]? =(l.map Value.string)[j]? :=by
   rw[<-ht,bat,G? B!];simp
  simp[World.cell?,hh,e,hj]
end
theorem Nd{m:Array Oper}{f:List Oper}{o:Oper}{a:Act}{w:D!}{Q:Exit->Act->D!->Prop}(b:o.guard=L?)(s x:Operand)
 (z:o.op=.call {callee:=.builtin .append,args:= #[s,x],argTypes:= #[51,51]})
 (e:D!)(v:I?)(l:List ByteArray)(p:ByteArray)(c:Nat)(d:qi w e.heap.size v l)(A:a.eval s=v)(O:a.eval x=J! (C! ⟨w.heap.size,0,L?⟩) 1 c)
 (q:(l.length+1)*16<=140737488355328)(H:Below e.heap.size e w)
 (h:∀n t,qi t e.heap.size n (l++[p])->Below e.heap.size e t->wpList E? m Q f (a.put o.dst n) t):
 wpList E? m Q (o::f) a (w.alloc (.cells #[D? p] 9)):=by
 let⟨R,k,I,N,S⟩:=bb5 acl;have r:Below e.heap.size e (w.alloc (.cells #[D? p] 9)):=ak H _;refine mgk _ b s x _ z e.heap.size 9 R (D? ByteArray.empty) 1 16 underlying51 k I N S rfl I! v l.length (l.map Value.string) A (d.below ((P! _ _).alloc O? _)) ⟨w.heap.size,0,L?⟩ 1 c [D? p] O rfl ?_ ?_ ?_ ?_ ?_ ?_
 .intro j u i;have g:(⟨w.heap.size,0,L?⟩:Addr).add j=⟨w.heap.size,j,L?⟩:=ban;rw[g,j!];simpa using i
 .intro u i;rw[j?]at i;subst i;rfl
 .simp only[maxLen];omega
 .exact q
 .exact r.size
 .intro n t E y _;refine h n t ?_ (r.grown y r.size d.block);unfold qi;rw[ϻ,X!];exact E
theorem Ug:(prog.info? 3).map (λi=>(i.zero,i.size,i.bytes))=C! (C! (.int .i64 0),1,8):=M?
def yh(w:D!)(v:I?)(l:List Int):Prop:=
 (l=[]/\v=Q!)\/∃g o c,v=J! (C! ⟨g,o,L?⟩) l.length c/\∀j (h:j<l.length),w.cell? ⟨g,o+j,L?⟩=C! (.int .i64 l[j])
theorem yh.below{w n:D!}{v:I?}{l:List Int}(h:yh w v l)(s:Below w.heap.size w n):yh n v l:=by
 rcases h with h|⟨g,o,c,rfl,e⟩
 .exact .inl h
 .refine .inr ⟨g,o,c,rfl,λj i=>(s.cell ?_).trans (e j i)⟩;exact h! (e j i)
def kT(w:D!)(e:Nat)(v:I?)(l:List Int):Prop:=w.ownsRow e 3 1 v l.length (l.map (Value.int .i64))
theorem kT.nil(w:D!)(e:Nat):kT w e Q! []:=⟨rfl,.inl ⟨rfl,rfl⟩⟩
theorem kT.block{w:D!}{e:Nat}{v:I?}{l:List Int}(h:kT w e v l):∀k,v.ownBlock=C! k->e<=k:=by
 intro k t;rcases h.2 with⟨rfl,_⟩|⟨g,i,n,rfl,o,_⟩
 .cases t
 .cases t;exact o
theorem kT.below{w i:D!}{e:Nat}{v:I?}{l:List Int}(h:kT w e v l)(c:Below w.heap.size w i):kT i e v l:=by
 refine⟨h.1,?_⟩;rcases h.2 with d|⟨g,n,s,m,u,o,r⟩
 .exact .inl d
 .exact .inr ⟨g,n,s,m,u,(c.block g (i!.1 o).1).trans o,r⟩
theorem kT.base{w:D!}{e b':Nat}{v:I?}{l:List Int}(h:kT w e v l)(d:b'<=e):kT w b' v l:=by
 refine⟨h.1,?_⟩;rcases h.2 with i|⟨g,t,o,s,c,n,r⟩
 .exact .inl i
 .exact .inr ⟨g,t,o,s,B!,n,r⟩
section
variable{w:D!}{base:Nat}{v:I?}{l:List Int}(h:kT w base v l)
include h
theorem kT.form:∃a c,v=J! a l.length c:=by
 rcases h.2 with⟨rfl,e⟩|⟨g,t,o,rfl,_⟩
 .exact⟨L?,0,by rw[e]⟩
 .exact⟨_,_,rfl⟩
theorem kT.at:yh w v l:=by
 rcases h.2 with⟨rfl,h0⟩|⟨g,cap,cur,rfl,hg,hh,hn,hm,hs,ht⟩
 .exact .inl ⟨y? h0,rfl⟩
 .refine .inr ⟨g,0,cap,rfl,λj hj=>?_⟩
  have e:cur[j]? =(l.map (Value.int .i64))[j]? :=by
   rw[<-ht,bat,G? B!];simp
  simp[World.cell?,hh,e,hj]
end
theorem KN{E:Array Oper}{A:List Oper}{o:Oper}{a:Act}{w:D!}{Q:Exit->Act->D!->Prop}(I:o.guard=L?)(s x:Operand)
 (L:o.op=.call {callee:=.builtin .append,args:= #[s,x],argTypes:= #[35,35]})
 (i:D!)(v:I?)(l:List Int)(p:Int)(c:Nat)(y:kT w i.heap.size v l)(C:a.eval s=v)(F:a.eval x=J! (C! ⟨w.heap.size,0,L?⟩) 1 c)
 (R:(l.length+1)*8<=140737488355328)(V:Below i.heap.size i w)
 (h:∀d n,kT n i.heap.size d (l++[p])->Below i.heap.size i n->(∀(k:Nat) (b:Array I?) (t:TypeId) (q:Nat×Nat),w.heap[k]? =C! (Obj.cells b t q)->t≠3->n.heap[k]? =w.heap[k]?)->wpList E? E Q A (a.put o.dst d) n):
 wpList E? E Q (o::A) a (w.alloc (.cells #[.int .i64 p] 3)):=by
 let⟨B,S,G,W,Y⟩:=bb5 Ug;have m:Below i.heap.size i (w.alloc (.cells #[.int .i64 p] 3)):=ak V _;refine mgk _ I s x _ L i.heap.size 3 B (.int .i64 0) 1 8 underlying35 S G W Y rfl I! v l.length (l.map (Value.int .i64)) C (y.below ((P! _ _).alloc O? _)) ⟨w.heap.size,0,L?⟩ 1 c [.int .i64 p] F rfl ?_ ?_ ?_ ?_ ?_ ?_
 .intro j u r;have O:(⟨w.heap.size,0,L?⟩:Addr).add j=⟨w.heap.size,j,L?⟩:=ban;rw[O,j!];simpa using r
 .intro u r;rw[j?]at r;subst r;rfl
 .simp only[maxLen];omega
 .exact R
 .exact m.size
 .intro d n D z _;refine h d n ?_ (m.grown z m.size y.block) ?_
  .unfold kT;rw[ϻ,X!];exact D
  .intro k b t q f M;have H:=(i!.1 f).1;rw[z.block k p! ?_]
   .exact Below.block (Below.alloc (P! w.heap.size w) O? (.cells #[.int .i64 p] 3)) k H
   .intro e;rcases y.2 with⟨rfl,_⟩|⟨g,K,X,rfl,J,N,_⟩
    .cases e
    .cases e;rw[N]at f;cases f
     exact M rfl
section
open Go.RowKit Go.Crc
def KY:Array Value:=Array.replicate 256 (.int .u16 0)
def Ae(k:Nat):Array Value:=((List.range 256).map λi=>if i<k then Value.int .u16 (fit 8 i)else .int .u16 0).toArray
def tab:Array Value:=Ae 256
theorem Np(w:D!):(zeroValue 376).run E? w=.ok (.agg KY) w:=M?
theorem Jw:Ae 0=KY:=by
 simp only[Ae,KY,bb9,q?];apply Array.ext
 .simp
 .intro i e t;simp
theorem uZ(k:Nat):(Ae k).size=256:=by simp[Ae]
theorem yu(k i:Nat)(h:i<256):(Ae k)[i]? =C! (if i<k then Value.int .u16 (fit 8 i)else .int .u16 0):=by
 simp[Ae,h]
theorem YR(k:Nat)(h:k<256):(Ae k).setIfInBounds k (.int .u16<|fit 8 k)=Ae (k+1):=by
 apply mdn;intro i;rw[mba];by_cases o:i<256
 .rw[yu _ _ o,uZ];by_cases e:k=i
  .subst e;simp[h];rw[yu _ _ h];simp
  .rw[F! e,yu _ _ o];by_cases t:i<k
   .simp[t,show i<k+1 from B!]
   .simp[t,show¬i<k+1 from B!]
 .have n:(Ae<|k+1)[i]? =none:=by rw[Array.getElem?_eq_none_iff,uZ];omega
  rw[n,F! B!,Array.getElem?_eq_none_iff,uZ];omega
theorem all_map(l:List Nat)(f:Nat->I?)(h:∀x,(f x).oneCell'=C?):(l.map f).toArray.all (·.oneCell')=true:=by
 simp[h]
theorem Up:tab.all (·.oneCell')=true:=all_map _ _ λx=>by split<;>rfl
theorem Nq(x:Nat)(h:x<65536):bits BinOp.and IntKind.u16 (x:Int) 1=((x%2:Nat):Int):=by
 have:=u16_and_nat x 1 h B!;rw[nat_mask1]at this;simpa using this
theorem Vx(w:D!):
 G! E? 295 #[] w (S? w (.agg tab)):=by
 have g:=Np;go_wp2;go_loopw[4] (λc wr=>∃k:Nat,k<=256/\c=A! k/\wr=(w.alloc (.cells KY 376)).alloc (.cells (Ae k) 376)) (λc _=>256-(intOf c).toNat)
 case atStart=>exact⟨0,B!,rfl,by rw[Jw]⟩
 case round=>
  obtain⟨k,m,rfl,rfl⟩:=hrel;by_cases i:k<256
  .have hcell:(Ae k)[k]? =C! (.int .u16 0):=by rw[yu _ _ i];simp
   have r:=A?<|YR k i;go_wp2;go_loopw[3,9] (λx c wr=>∃j:Nat,j<=8/\c=A! j/\x=.int .u16 (fit j k)/\wr=(w.alloc (.cells KY 376)).alloc (.cells (Ae k) 376)) (λ_ c _=>8-(intOf c).toNat)
   case atStart=>exact⟨0,B!,rfl,rfl,rfl⟩
   case round=>
    obtain⟨j,d,rfl,rfl,rfl⟩:=hrel;by_cases u:j<8
    .have o:fit j k<65536:=KT j B!;rcases mer (fit j k)with e|e
     .have s:bits BinOp.and IntKind.u16 (fit j k:Int) 1=0:=by rw[Nq _ o,e];rfl
      have t:E!<|fit j k/2=fit (j+1) k:=by rw[Ju];unfold oL;rw[F! B!];exact rfl
      go_wp2
      go_roundw
      case rel=>exact⟨j+1,B!,W!,by rw[<-t.out];go_num,trivial⟩
      case measure=>simp[intOf];omega
     .have s:bits BinOp.and IntKind.u16 (fit j k:Int) 1=1:=by rw[Nq _ o,e];rfl
      have f:bits BinOp.xor IntKind.u16 ((fit j k:Int)/2) 33800=((fit j k/2^^^33800:Nat):Int):=by
       have:=u16_xor_nat (fit j k/2) 33800 B! B!;simpa using this
      have t:E!<|fit j k/2^^^33800=fit (j+1) k:=by rw[Ju];unfold oL;rw[G? e];exact rfl
      go_wp2
      go_roundw
      case rel=>exact⟨j+1,B!,W!,by rw[t.out],trivial⟩
      case measure=>simp[intOf];omega
    .obtain rfl:j=8:=B!;go_wp2;go_roundw
     case rel=>exact⟨k+1,B!,W!,by rw[r.out]⟩
     case measure=>simp[intOf];omega
  .obtain rfl:k=256:=B!;have l:KY.size=(Ae 256).size:=by rw[uZ];exact mdk
   have n:=A? l
   go_wp2_with(first
    |(apply bbV rfl 376 _ rfl (w.heap.size+1) rfl 376 (Ae 256) (0,0) _ (heap_alloc2_new w _ _) underlying376 rfl M?)
    |(apply wpList_store_row rfl 376 _ _ rfl w.heap.size (Ae 256) rfl rfl 376 KY (heap_alloc2_old w _ _) M? n Up))
   refine V? (mdI rfl _ _ w.heap.size 376 tab (0,0) _ rfl (setRow_heap _ _ _ _ _ _<|heap_alloc2_old w _ _) underlying376 rfl M?) rfl ⟨rfl,?_⟩;exact BJ (((P! _ _).alloc O? _).alloc N! _) _ _ O?
theorem acz(i:Nat)(h:i<256):tab[i]? =C! (Value.int .u16<|fit 8 i):=by
 have:=yu 256 i h;simpa[tab,h]using this
theorem YS(s:ByteArray)(k:Nat)(h:k<s.size):raw (s.data.toList.take<|k+1)=(raw (s.data.toList.take k)/256)^^^fit 8 ((raw (s.data.toList.take k)%256)^^^s[k].toNat):=by
 have e:s.data.toList.take (k+1)=s.data.toList.take k++[s[k]]:=by
  rw[u! bb4];rfl
 rw[e,Nn,YL]
theorem aeN(s:ByteArray)(w:D!)(g:s.size<=maxLen):
 G! E? 264 #[D? s] w (S? w<|A!<|Nl s.data.toList):=by
 unfold maxLen at g;have A:=Np;have y:E!<|KY.size=tab.size:=by rw[tab,uZ];exact mdk
 go_in
 go_wp2_with fail;refine M! (Vx _) λw1 t=>?_;go_wp2_with(apply uU rfl 376 _ _ rfl tab rfl rfl 376 KY M? y Up);go_loop[4,9] (λx i=>∃k c:Nat,k<=s.size/\i=A! k/\x=.int .u16 c/\E! (c=raw (s.data.toList.take k))) (λ_ i=>s.size-(intOf i).toNat)
 case atStart=>exact⟨0,65535,S! _,rfl,rfl,rfl⟩
 case round=>
  obtain⟨k,c,j,rfl,rfl,e⟩:=hrel;have b:c<65536:=by have:=QS<|s.data.toList.take k;rw[<-e.out]at this;exact this
  by_cases f:k<s.size
  .have l:s[k].toNat<256:=s[k].toNat_lt;have m:(c%256)^^^s[k].toNat<256:=bai (n:=8) B! B!;have d:fit 8 ((c%256)^^^s[k].toNat)<65536:=KT 8 B!;have o:=YS s k f;rw[<-e.out]at o
   have q:bits BinOp.xor IntKind.u8 ((c:Int)%256) (s[k].toNat:Int)=(((c%256)^^^s[k].toNat:Nat):Int):=by
    have:=u8_xor_nat (c%256) s[k].toNat B! l;simpa using this
   have hcell:=acz _ m
   have z:bits BinOp.xor IntKind.u16 ((c:Int)/256) (fit 8 ((c%256)^^^s[k].toNat):Int)=(((c/256)^^^fit 8 ((c%256)^^^s[k].toNat):Nat):Int):=by
    have:=u16_xor_nat (c/256) _ B! d;simpa using this
   have r:=A? o;go_wp2;go_round
   case rel=>exact⟨k+1,_,B!,W!,rfl,r.symm⟩
   case measure=>simp[intOf];omega
  .obtain rfl:k=s.size:=B!;have v:c^^^65535<65536:=bai (n:=16) B! B!
   have E:bits BinOp.xor IntKind.u16 IntKind.u16.max (c:Int)=((c^^^65535:Nat):Int):=by
    have:=u16_xor_nat 65535 c B! B!;rw[bbx c,show IntKind.u16.max=65535 from rfl];simpa using this
   have u:E!<|Nl s.data.toList=c^^^65535:=by
    unfold Nl;rw[e.out,u? N!];exact rfl
   go_wp2
   go_ret;exact⟨by rw[u.out];show Ending.returned (Value.int .i64<|wrap64 _)=_;rw[bby _ ⟨B!,B!⟩],t.trans<|((P! _ _).alloc O? _).mono t.size⟩
theorem KZ(s:ByteArray)(w:D!)(t:s.size+2<=maxLen):
 G! E? 230 #[D? s] w (S? w<|D?<|bytesOf<|put s.data.toList):=by
 unfold maxLen at t;have i:=YM s.data.toList
 have o:∀(w:D!) (a b:Int),(convert 64 9<|J! (C!<|B? w.heap.size 0) 2 2).run E? (w.alloc (.cells #[.int .u8 a,.int .u8 b] 5))=.ok (D?<|strOfNums [a,b]) (w.alloc (.cells #[.int .u8 a,.int .u8 b] 5)):=
  λw a b=>M7 w _ _ _ underlying64 underlying5 underlying9 [a,b] 2 rfl
 go_in
 go_wp2_with fail;refine M! (aeN _ _ bao) λw1 e=>?_;have n:∀a b:Int,(strOfNums [a,b]).size=2:=λa b=>ν _;go_wp2;go_ret;refine⟨?_,e.trans<|((P! _ _).alloc O? _).mono e.size⟩;show Ending.returned (Value.string _)=_;congr 2
def DY(l:List UInt8):List UInt8×Int:=
 if l.length<2 then([],100)else if put (l.take<|l.length-2)=l then(l.take<|l.length-2,0)else([],101)
theorem sj(s:ByteArray)(w:D!)(d:s.size<=maxLen):
 G! E? 188 #[D? s] w (S? w (.tuple #[D?<|bytesOf (DY s.data.toList).1,A! (DY s.data.toList).2])):=by
 unfold maxLen at d;have i:=bK s;by_cases c:s.size<2
 .have t:E!<|DY s.data.toList=([],100):=by unfold DY;rw[G? B!];exact rfl
  go_wp2
  go_ret2;exact⟨by rw[t.out];rfl,P! _ _⟩
 .have r:=DV s (s.size-2) B!;have n:=A? r;by_cases e:put (s.data.toList.take<|s.data.toList.length-2)=s.data.toList
  .have t:E!<|DY s.data.toList=(s.data.toList.take<|s.size-2,0):=by unfold DY;rw[F! B!,G? e,i];exact rfl
   have l:((bytesOf<|put<|s.data.toList.take<|s.size-2).toList==s.toList)=true:=xY (by rw[i]at e;exact e);go_in;go_wp2_with fail;refine M! (KZ _ _<|by unfold maxLen;rw[n.out];omega) λw1 o=>?_;rw[ut];go_wp2;go_ret2;exact⟨by rw[t.out,<-BK];rfl,o⟩
  .have t:E!<|DY s.data.toList=([],101):=by unfold DY;rw[F! B!,F! e];exact rfl
   have l:((bytesOf<|put<|s.data.toList.take<|s.size-2).toList==s.toList)=false:=wA (by rw[i]at e;exact e);go_in;go_wp2_with fail;refine M! (KZ _ _<|by unfold maxLen;rw[n.out];omega) λw1 o=>?_;rw[ut];go_wp2;go_ret2;exact⟨by rw[t.out];rfl,o⟩
end
section
open Go.Shelf Go.RowKit Go.Proofs
def ae7:Go.Shelf.Ren:=⟨λ|125=>94|128=>110|129=>111|189=>87|215=>146|216=>107|257=>93|294=>101|295=>102|296=>103|297=>104|298=>105|299=>106|300=>108|301=>109|328=>141|329=>142|330=>143|331=>144|332=>145|343=>181|n=>n,λ|0=>0|3=>3|4=>4|5=>5|9=>9|28=>35|46=>65|51=>182|53=>108|131=>179|182=>174|183=>175|218=>205|222=>209|228=>264|229=>56|n=>n,λ|n=>n⟩
theorem Fb:Go.Proofs.Lays.n189 E? ae7:={
 mixed:=M?
 f125:=func94.trans<|U! C! M?
 f128:=func110.trans<|U! C! M?
 f129:=func111.trans<|U! C! M?
 f189:=func87.trans<|U! C! M?
 f215:=func146.trans<|U! C! M?
 f216:=func107.trans<|U! C! M?
 f257:=func93.trans<|U! C! M?
 f294:=func101.trans<|U! C! M?
 f295:=func102.trans<|U! C! M?
 f296:=func103.trans<|U! C! M?
 f297:=func104.trans<|U! C! M?
 f298:=func105.trans<|U! C! M?
 f299:=func106.trans<|U! C! M?
 f300:=func108.trans<|U! C! M?
 f301:=func109.trans<|U! C! M?
 f328:=func141.trans<|U! C! M?
 f329:=func142.trans<|U! C! M?
 f330:=func143.trans<|U! C! M?
 f331:=func144.trans<|U! C! M?
 f332:=func145.trans<|U! C! M?
 f343:=func181.trans<|U! C! M?
 t0:=underlying0
 a0:=isAgg0
 z0:=sizeOf0
 v0:=zeroValue0
 t3:=underlying3
 a3:=isAgg3
 z3:=sizeOf3
 v3:=zeroValue3
 t4:=underlying4
 a4:=isAgg4
 z4:=sizeOf4
 v4:=zeroValue4
 t5:=underlying5
 a5:=isAgg5
 z5:=sizeOf5
 v5:=zeroValue5
 t9:=underlying9
 a9:=isAgg9
 z9:=sizeOf9
 v9:=zeroValue9
 t28:=underlying35
 a28:=isAgg35
 z28:=sizeOf35
 v28:=zeroValue35
 t46:=underlying65
 a46:=isAgg65
 z46:=sizeOf65
 v46:=zeroValue65
 t51:=underlying182
 a51:=isAgg182
 z51:=sizeOf182
 v51:=zeroValue182
 t53:=underlying108
 a53:=isAgg108
 z53:=sizeOf108
 v53:=zeroValue108
 t131:=underlying179
 a131:=isAgg179
 z131:=sizeOf179
 v131:=zeroValue179
 t182:=underlying174
 a182:=isAgg174
 z182:=sizeOf174
 v182:=zeroValue174
 t183:=underlying175
 a183:=isAgg175
 z183:=sizeOf175
 v183:=zeroValue175
 t218:=underlying205
 a218:=isAgg205
 z218:=sizeOf205
 v218:=zeroValue205
 t222:=underlying209
 a222:=isAgg209
 z222:=sizeOf209
 v222:=zeroValue209
 t228:=underlying264
 a228:=isAgg264
 z228:=sizeOf264
 v228:=zeroValue264
 t229:=underlying56
 a229:=isAgg56
 z229:=sizeOf56
 v229:=zeroValue56}
theorem Wv(t i s:Nat)(o:List Int)(w:D!)(r:Go.Sort.Holds (Value.int .i64) w t i o.toArray)(h:t<w.heap.size)(l:o.length<4611686018427387904):
 G! E? 87 #[J! (C!<|B? t i) o.length s] w λe c=>
  e=.returned (.tuple #[])/\∃n d,c=Go.Sort.grow (Go.Sort.putRow (Value.int .i64) (Go.Sort.ahead w n) t i (o.mergeSort λx y=>K? (x<=y)).toArray) d:=
 Any.slices_Sort_int Fb t i s o w r h l
end
