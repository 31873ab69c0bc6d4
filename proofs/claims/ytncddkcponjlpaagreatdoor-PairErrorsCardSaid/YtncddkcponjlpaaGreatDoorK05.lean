/- Walks and plain laws. -/
import Derived.Test.YtncddkcponjlpaaGreatDoorK04
set_option linter.unusedVariables false
set_option linter.unusedSimpArgs false
set_option maxHeartbeats 0
set_option maxRecDepth 99999
namespace Go.Proofs.YtncddkcponjlpaaGreatDoor
open Go.RowKit Go.Proofs.Tryz
open Go renaming World→D!,Value→I?,Calls→G!,IntKind→ncy
open Go.RowKit renaming Hid→E!
open Decidable renaming decide→K?
open Option renaming some→C!,none→L?
open Bool renaming true→C?,false→H!
open Go.Proofs.Tryz renaming prog→E?
variable{P:Prop}
theorem af{W t:D!}(h:K! W t){a:Addr}{v:I?}(e:W.cell? a=C! v):t.cell? a=C! v:=(h.cell<|h! e).trans e
theorem dm.below{w e:D!}{m:Int}(h:dm w m)(o:K! w e):dm e m:=af o h
def aeE:List<|List UInt8:=[[],[116,108,117],[116,108,100],[116,108,115],[116,108,102],[105,114,99],[122,114,99],[115,99,114],[115,99,97],[115,99,110],[115,116,114],[115,116,97],[115,99,106],[115,101,114]]
def nameAt(j:Nat):List UInt8:=aeE.getD j []
theorem Vl(w:D!):G! E? 275 #[] w λe t=>∃g,e=.returned (J! (C!<|B? g 0) 14 14)/\(∀j (h:j<14),t.cell? (B? g j)=C! (D?<|bytesOf<|nameAt j))/\(∃o i,t.heap[g]? =C! (.cells o 9 i))/\K! w t:=by
 go_wp2
 go_ret;refine⟨_,rfl,λj h=>?_,⟨_,_,c! w _⟩,(P! _ _).alloc O? _⟩;rw[j!]
 match j,h with
 |0,_=>rfl
 |1,_=>rfl
 |2,_=>rfl
 |3,_=>rfl
 |4,_=>rfl
 |5,_=>rfl
 |6,_=>rfl
 |7,_=>rfl
 |8,_=>rfl
 |9,_=>rfl
 |10,_=>rfl
 |11,_=>rfl
 |12,_=>rfl
 |13,_=>rfl
def jE(w:List UInt8)(j:Nat):List Int:=((List.range j).filter λk=>nameAt k==w).map Int.ofNat
theorem Nf(w:List UInt8)(j:Nat):jE w (j+1)=jE w j++(if nameAt j==w then[(j:Int)]else[]):=by
 unfold jE;rw[bag,baR,ϻ];congr 1;rw[k?,List.filter_nil];split<;>rfl
theorem FE(w:List UInt8)(j:Nat):(jE w j).length<=j:=by
 unfold jE;rw[g!];exact Z? (ϝ _ _) N!
def pieces(a:List UInt8):List<|List UInt8:=(Lib.splitB (bytesOf [44]) 0 (Lib.countB (bytesOf a)<|bytesOf [44])<|bytesOf a).map (·.data.toList)
def digit(l:List UInt8):Int:=(((l.getD 0 0).toNat:Int)-48)%256
def pq(c:List UInt8):Int×List Int×Int:=
 if c=[45]then(0,[],1001)else
 if(Lib.cut c [47]).2.2=H! then(digit c,[],0)else
 (digit (Lib.cut c [47]).2.1,(pieces (Lib.cut c [47]).1).flatMap (jE · 14),0)
def bN(s v:Int):Int×List Int×Int:=
 if s<0\/10<=s\/v<0\/16<=v then(0,[],1000)else pq (BU v.toNat s.toNat)
def FF(c:List UInt8):Bool:=K? (1<=c.length)&&K? (c.length<=40)&&(!(Lib.cut c [47]).2.2||(decide (1<=(Lib.cut c [47]).2.1.length)&&K? ((Lib.cut c [47]).1.length<=40)&&K? ((Lib.cut c [47]).2.1.length<=40)))
theorem QH:(List.range 16).all (λv=>(List.range 10).all λs=>FF<|BU v s)=true:=baS
theorem Vm(v s:Nat)(t:v<16)(e:s<10):FF (BU v s)=true:=
 List.all_eq_true.1 (List.all_eq_true.1 QH v<|List.mem_range.2 t) s (List.mem_range.2 e)
theorem nX{B:Nat}{a w:D!}(h:Below B a w)(n:Nat):Below B a<|w.drewN n:=h.trans ⟨rfl,rfl,rfl,Y? _,λ_ _=>rfl⟩
theorem Ng(C:ByteArray)(h:0<C.size):digit C.data.toList=((C[0].toNat:Int)-48)%256:=by
 unfold digit;rw[ba1,ο bb4];rfl
theorem Jt(al:Nat)(s v:Int)(W:Int)(w:D!)(b2:kC w al)(I:dm w W):
 G! E? 244 #[P? al,A! s,A! v] w λe b7=>∃o,e=.returned (.tuple #[A! (bN s v).1,o,A! (bN s v).2.2])/\kT b7 w.heap.size o (bN s v).2.1/\K! w b7:=by
 by_cases ab:s<0\/10<=s\/v<0\/16<=v
 .have e:bN s v=(0,[],1000):=by unfold bN;rw[G? ab]
  have E:=A? e;clear e;go_in;go_wp2_with fail
  all_goals
   go_ret3;exact⟨Q!,by rw[E.out];rfl,mdZ,P! _ _⟩
 .obtain⟨r,rfl⟩:∃r:Nat,s=r:=⟨s.toNat,B!⟩;obtain⟨d,rfl⟩:∃d:Nat,v=d:=⟨v.toNat,B!⟩;have az:r<10:=B!;have b3:d<16:=B!;have e:bN (r:Int) (d:Int)=pq (BU d r):=by unfold bN;rw[F! ab];rfl
  rw[e];have ar:=b2 d r b3 az;have O:=Vm d r b3 az;generalize BU d r=c at ar O|-;clear ab e b2;let⟨C,f⟩:=F?<|bytesOf c;have u:C.data.toList=c:=by rw[<-f];rfl
  have a7:C.size=c.length:=by rw[<-f,aA]
  rw[f]at ar;by_cases t:c=[45]
  .have E:E!<|pq c=(0,[],1001):=by unfold pq;rw[G? t];exact rfl
   have c1:C.toList=[45]:=by rw[dG,u,t]
   clear t O u f a7;go_wp2;go_ret3;exact⟨Q!,by rw[E.out];rfl,mdZ,P! _ _⟩
  .have c1:(C.toList==[45])=false:=by rw[dG,u];exact Q?.2 t
   unfold FF at O;simp only[k!,z?,bae,bbv]at O;obtain⟨⟨am,an⟩,a3⟩:=O;have c9:1<=C.size:=B!;have b5:C.size<4294967281:=B!;by_cases m:(Lib.cut c [47]).2.2=H!
   .have E:E!<|pq c=(digit c,[],0):=by unfold pq;rw[F! t,G? m];exact rfl
    have K:=A? m;have N:=A? u;clear t f a7 m a3 am an u;go_in;go_wp2_with fail;apply(Uf C (bytesOf [47]) W _ b5 I).mono;rintro e w1 ⟨rfl,nq,rfl⟩;rw[N.out,fY,K.out];go_wp2;go_ret3;exact⟨Q!,by rw[E.out,<-N.out,Ng C B!];rfl,mdZ,nX U? _⟩
   .have E:E!<|pq c=(digit (Lib.cut c [47]).2.1,(pieces (Lib.cut c [47]).1).flatMap (jE · 14),0):=by unfold pq;rw[F! t,F! m];exact rfl
    have K:=A? (by simpa using m);have N:=A? u
    have a4:(1<=(Lib.cut c [47]).2.1.length/\(Lib.cut c [47]).1.length<=40)/\(Lib.cut c [47]).2.1.length<=40:=by
     rcases a3 with h|h
     .exact absurd h m
     .exact h
    let⟨a,a8⟩:=F?<|(Lib.cut c [47]).1;let⟨ag,a9⟩:=F?<|(Lib.cut c [47]).2.1;rw[a8,a9]at a4 E;have bd:=A? a8;have be:=A? a9;clear t f a7 m a3 am an u a8 a9;obtain⟨A,a5⟩:∃A:ByteArray,(⟨a.toArray⟩:ByteArray)=A:=⟨_,rfl⟩;obtain⟨B,H⟩:∃B:ByteArray,(⟨ag.toArray⟩:ByteArray)=B:=⟨_,rfl⟩;have R:bytesOf a=A:=a5;have ao:B.data.toList=ag:=by rw[<-H]
    have c5:1<=B.size:=by rw[<-H];simpa[ByteArray.size]using a4.1.1
    have bl:A.size<4294967281:=by rw[<-R,aA];omega
    let⟨L,D⟩:=F?<|Lib.splitB (bytesOf [44]) 0 (Lib.countB A<|bytesOf [44]) A;have ap:L.map (·.data.toList)=pieces a:=by rw[<-D,<-R];rfl
    have Q:L.length=Lib.countB A (bytesOf [44])+1:=by rw[<-D];exact Lib.splitB_all _ I! _ _ A rfl
    have bf:=Lib.countB_le (bytesOf [44]) I! A.size A O?;have c4:A.size<=40:=by rw[<-R,aA];omega
    let⟨n,aa⟩:=F?<|Lib.countB A<|bytesOf [44];have b1:=λw I=>DW A 44 W w bl I;rw[D,aa]at b1;rw[aa]at Q bf;have b8:=A? a5;have b9:=A? H;have bc:=A? ap;have HLn:=A? Q;have ba:=A? ao;clear a5 H R D aa ap Q ao a4;go_in;go_wp2_with fail;apply(Uf C (bytesOf [47]) W _ b5 I).mono;rintro e w1 ⟨rfl,nq,rfl⟩;rw[N.out,fY,K.out,bd.out,be.out,b8.out,b9.out];go_wp2_with fail;refine(b1 _<|by exact I).mono ?_;rintro e cc ⟨rfl,rfl⟩
    have hcell:∀j (h:j<L.length),((w.drewN nq).alloc (.cells (nL L) 9)).cell? (B? w.heap.size j)=C! (D? L[j]):=by
     intro j h;have:(w.drewN nq).heap.size=w.heap.size:=rfl;rw[<-this,j!];simp[nL,h]
    have a6:K! w<|(w.drewN nq).alloc (.cells (nL L) 9):=ak (nX U? _) _;go_wp2_with fail;generalize (w.drewN nq).alloc (.cells (nL L) 9)=b at hcell a6|-;go_loopw[13,56] (λo i wr=>∃k:Nat,k<=n+1/\i=A! k/\kT wr b.heap.size o ((L.take k).flatMap λx=>jE x.data.toList 14)/\K! b wr) (λ_ i _=>n+1-(intOf i).toNat)
    case atStart=>exact⟨0,S! _,rfl,kT.nil _ _,P! _ _⟩
    case round=>
     obtain⟨k,c7,rfl,y,z⟩:=hrel;by_cases hlt:k<n+1
     .have ac:=af z (hcell k na3);have J:L.take (k+1)=L.take k++[L[k]' na3]:=u! _;let⟨x,b4⟩:=F?<|L[k]' na3;rw[b4]at ac J;have b0:E!<|((L.take<|k+1).flatMap λx=>jE x.data.toList 14)=((L.take k).flatMap λx=>jE x.data.toList 14)++jE x.data.toList 14:=A? (by rw[J,ϣ];simp);clear J b4
      have bo:((L.take k).flatMap λx=>jE x.data.toList 14).length<=14*k:=by
       have:∀l:List ByteArray,(l.flatMap λx=>jE x.data.toList 14).length<=14*l.length:=by
        intro l
        induction l with
        |nil=>simp
        |cons c3 l ca=>rw[ϐ,X!,V!];have:=FE c3.data.toList 14;omega
       have h:=this<|L.take k;rw[w!]at h;omega
      generalize ((L.take k).flatMap λx=>jE x.data.toList 14)=q at y b0 bo;go_wp2_with fail;apply(Vl _).mono;rintro e cd ⟨S,rfl,bz,bx,M⟩;replace ac:=af M ac;replace y:=y.below M;replace z:=seqB z M;clear M;go_wp2;go_loopw[13,62] (λo i Y=>∃j:Nat,j<=14/\i=A! j/\kT Y b.heap.size o (q++jE x.data.toList j)/\K! b Y/\(∀j (h:j<14),Y.cell? (B? S j)=C! (D?<|bytesOf<|nameAt j))/\∃bi bk,Y.heap[S]? =C! (.cells bi 9 bk)) (λ_ i _=>14-(intOf i).toNat)
      case atStart=>exact⟨0,S! _,rfl,by simpa[jE]using y,z,bz,bx⟩
      case round=>
       obtain⟨j,c6,rfl,ad,V,Z,a1,a2,a0⟩:=hrel;by_cases bs:j<14
       .have ax:=Z j bs;have G:=Nf x.data.toList j;have c8:=FE x.data.toList j;by_cases g:nameAt j=x.data.toList
        .have c0:((bytesOf<|nameAt j).toList==x.toList)=true:=xY g;have X:E!<|q++jE x.data.toList (j+1)=q++jE x.data.toList j++[(j:Int)]:=A? (by rw[G,g];simp);clear G g ax;go_wp2_with(at_builtin;refine KN rfl _ _ rfl b _ _ (j:Int) 1 ad rfl rfl (by rw[X!];omega) V ?_;intro cb ce bj c2 bv);have av:=bv S a1 _ a2 a0 I!;refine⟨⟨j+1,B!,W!,by rw[X.out];exact bj,c2,?_,a1,a2,av.trans a0⟩,by simp[intOf];omega⟩;intro b6 br;rw[bbJ (a:=B? S b6) av];exact Z b6 br
        .have c0:((bytesOf<|nameAt j).toList==x.toList)=false:=wA g;have X:E!<|q++jE x.data.toList (j+1)=q++jE x.data.toList j:=A? (by rw[G,F!<|by simpa using g];simp);clear G g ax;go_wp2;go_roundw
         case rel=>exact⟨j+1,B!,W!,by rw[X.out];exact ad,V,Z,a1,a2,a0⟩
         case measure=>simp[intOf];omega
       .obtain rfl:j=14:=B!;go_wp2;go_roundw
        case rel=>exact⟨k+1,B!,W!,by rw[b0.out];exact ad,V⟩
        case measure=>simp[intOf];omega
     .obtain rfl:k=n+1:=B!;have ae:=u? (by rw[HLn.out];exact Y? _);have F:=y;rw[ae,show(L.flatMap λx=>jE x.data.toList 14)=(pieces a).flatMap (jE · 14) by rw[<-bc.out,List.flatMap_map]]at F;replace F:=F.base (b':=w.heap.size) a6.size;have bm:=seqB a6 z;clear y ae hcell;go_wp2;go_ret3;exact⟨_,by rw[E.out,<-ba.out,Ng B B!];rfl,by rw[E.out];exact F,bm⟩
abbrev bD:=Int×ByteArray
structure aZ where
 iO:Int
 aH:Int
 cW:Int
 short:Bool
 dh:ByteArray
 num:Int
structure bg where
 code:Int
 id:Int
 opts:List bD
 data:ByteArray
def gf:aZ:=⟨0,0,0,H!,⟨#[]⟩,0⟩
def gZ(x:Int):Bool:=K? (128<=x)&&K? (x<=1500)
def jL(l:aZ):Bool:=
 (decide (l.iO=0)||gZ l.iO)&&(decide (l.cW=0)||gZ l.cW)&&K? (0<=l.aH)&&K? (l.aH<=4294967295)&&K? (l.dh.size<=20)&&K? (0<=l.num)&&K? (l.num<=65535)
def lv(x:Int)(n:Nat):List UInt8:=(List.range n).map λi=>UInt8.ofNat ((x/(256^(n-1-i):Nat))%256).toNat
def zF(x:Int)(b:UInt8):Int:=bits .or .i64 (wrap64<|x*256) (b.toNat:Int)
def cF(s:List UInt8):Int:=s.foldl zF 0
def py(k:Int):Int:=if k=1\/k=17\/k=23 then 2 else if k=5 then 4 else if k=18 then 0 else if k=19 then-1 else-2
def gS(o:bD):Bool:=K? (py o.1=(o.2.size:Int))||(decide (py o.1= -1)&&K? (1<=o.2.size)&&K? (o.2.size<=20))
def rJ(l:aZ)(k:Int):Option Int:=if k=1 then C! l.iO else if k=5 then C! l.aH else if k=17 then C! l.cW else if k=23 then C! l.num else L?
def oJ(l:aZ)(k:Int):Bool:=if k=18 then l.short else if k=19 then K? (l.dh.data.toList≠[])else match rJ l k with|some x=>K? (x≠0)|none=>H!
def QJ(l:aZ)(k x:Int):aZ:=if k=1 then{l with iO:=x}else if k=5 then{l with aH:=x}else if k=17 then{l with cW:=x}else{l with num:=x}
def tM(l:aZ)(o:bD):aZ:=if o.1=18 then{l with short:=C?}else if o.1=19 then{l with dh:=o.2}else QJ l o.1 (cF o.2.data.toList)
def uw(l:aZ)(k:Int):aZ:=if k=18 then{l with short:=H!}else if k=19 then{l with dh:=⟨#[]⟩}else QJ l k 0
def lN:List Int:=[1,5,17,18,19,23]
def Aq(l:aZ)(k:Int):bD:=(k,match rJ l k with|some x=>bytesOf (lv x (py k).toNat)|none=>if k=19 then l.dh else⟨#[]⟩)
def ju(l:aZ):List bD:=(lN.filter<|oJ l).map<|Aq l
def eT(e:aZ)(o:bD):Option bD:=
 if o.1=1\/o.1=17 then(if gZ (cF o.2.data.toList)then L? else C! (o.1,bytesOf<|lv 1500 2))
 else if o.1=5 then(if cF o.2.data.toList=0\/cF o.2.data.toList=e.aH then C! (5,bytesOf<|lv (max 1<|bits .xor .i64 e.aH 4294967295) 4)else L?)
 else L?
def yj(o:bD):Bool:=K? (0<=o.1)&&K? (o.1<=255)&&K? (o.2.size<=253)
def ux(e:aZ)(t:List bD)(o:bD):Bool:= !gS o||(decide (o.1=18)&& !e.short)||t.any λq=>K? (q.1=o.1)
def gJ(t:aZ)(e:List bD)(k:Nat):List bD:=(List.range k).filterMap λi=>match e[i]? with|some o=>if ux t (e.take i) o then C! o else L?|none=>L?
def bU(t:aZ)(e:List bD)(k:Nat):List bD:=(List.range k).filterMap λi=>match e[i]? with|some o=>if ux t (e.take i) o then L? else eT t o|none=>L?
def gT(t:aZ)(e:List bD):Int×List bD×Int:=
 if jL t=H!\/e.any (λo=> !yj o)=C? then(0,[],1400)
 else if gJ t e e.length≠[]then(2,gJ t e e.length,0)
 else if bU t e e.length≠[]then(1,bU t e e.length,0)
 else(0,e,0)
def pz(l:aZ)(o:bD):aZ:=
 if((o.1=1\/o.1=17)/\gZ (cF o.2.data.toList)=H!)\/(o.1=5/\cF o.2.data.toList=0)then l else tM l o
def cJ(e:Int)(l:aZ)(o:bD):aZ:=if gS o=H!\/oJ l o.1=H! then l else if e=4 then uw l o.1 else pz l o
def uy(l:aZ)(e:Int)(t:List bD):aZ×Int:=if jL l=H!\/(e≠3/\e≠4)then(gf,1400)else(t.foldl (cJ e) l,0)
def kG(e:List bD)(k:Nat):Bool:=(List.range k).any λi=>match e[i]? with|some o=> !gS o||(e.take i).any λq=>K? (q.1=o.1)|none=>H!
def jg(e:List bD):aZ×Int:=if kG e e.length=C?\/jL (e.foldl tM gf)=H! then(gf,1400)else(e.foldl tM gf,0)
def Dl(o:bD):List UInt8:=UInt8.ofNat o.1.toNat::UInt8.ofNat (2+o.2.size)::o.2.data.toList
def jh(e:List bD)(k:Nat):List UInt8:=(e.take k).flatMap Dl
def nY(e:List bD)(k:Nat):Bool:=match e[k]? with|some o=>K? (253<o.2.size)||K? (2048<(jh e k).length+2+o.2.size)|none=>H!
def cA(e:List bD):List UInt8×Int:=
 if e.any (λo=>K? (o.1<0)||K? (255<o.1))=C? then([],400)
 else if(List.range e.length).any (nY e)=C? then([],401)else(jh e e.length,0)
def pX(c:Int):Bool:=K? (1<=c)&&K? (c<=4)
def dw(c:Int):Bool:=K? (0<=c)&&K? (c<=255)
def aW(p:bg):List UInt8×Int:=
 if dw p.code=H!\/dw p.id=H! then([],501)
 else if(cA p.opts).2≠0\/(pX p.code=H!/\p.opts≠[])\/(pX p.code=C?/\p.data.data.toList≠[])then([],502)
 else if 2048<4+((cA p.opts).1.length+p.data.size)then([],503)
 else([UInt8.ofNat p.code.toNat,UInt8.ofNat p.id.toNat,UInt8.ofNat<|(4+((cA p.opts).1.length+p.data.size))/256,UInt8.ofNat<|(4+((cA p.opts).1.length+p.data.size))%256]++((cA p.opts).1++p.data.data.toList),0)
structure cu where
 state:Int
 left:Int
 tries:Int
 own:aZ
 other:aZ
 id:Int
 asked:Int
 os:List bD
structure cL where
 p:bg
 event:Int
 verdict:Int
 os:List bD
def pE:bg:=⟨0,0,[],⟨#[]⟩⟩
def A9:cL:=⟨pE,0,0,[]⟩
def QK(l:aZ)(e:Int):cu:=⟨0,0,e,l,gf,0,-1,[]⟩
def oK(s:cu):cu:={s with id:=(s.id+1)%256}
def lP(s:cu):cu:={s with left:=max 0 (s.left-1)}
def Vn(s:cu):cu:={oK (lP s)with asked:=(s.id+1)%256,os:=ju s.own}
def nk(s:cu)(e:Int)(r:cL):cu×Option bg:=
 if e=7 then(Vn s,C! ⟨1,(s.id+1)%256,ju s.own,⟨#[]⟩⟩)
 else if e=10 then(oK<|lP s,C! ⟨5,(s.id+1)%256,[],⟨#[]⟩⟩)
 else if e=8 then({s with other:=(jg r.os).1},C! ⟨2,r.p.id,r.os,⟨#[]⟩⟩)
 else if e=9 then(s,C! ⟨if r.verdict=2 then 4 else 3,r.p.id,r.os,⟨#[]⟩⟩)
 else if e=11 then(s,C! ⟨6,if r.event=10 then r.p.id else 0,[],⟨#[]⟩⟩)
 else if e=12 then(oK s,C! ⟨7,(s.id+1)%256,[],bytesOf<|(aW r.p).1.take 64⟩)
 else if e=13 then(s,if r.p.code=9 then C! ⟨10,r.p.id,[],r.p.data⟩else L?)
 else(s,L?)
def kD(s:cu)(e:Int):cu:=if e=5 then{s with left:=s.tries}else if e=6 then{s with left:=0}else s
def FH(r:cL)(x:cu×List bg)(e:Int):cu×List bg:=
 ((nk (kD x.1 e) e r).1,x.2++(nk (kD x.1 e) e r).2.toList)
def BV(s:cu)(r:cL)(e:List Int):cu×List bg:=e.foldl (FH r) (s,[])
def qj(s:cu)(event:Int)(r:cL):cu×List bg×Int:=
 if(bN s.state event).2.2≠0 then(s,[],1501)
 else((BV {s with state:=(bN s.state event).1} {r with event:=event} (bN s.state event).2.1).1,(BV {s with state:=(bN s.state event).1} {r with event:=event} (bN s.state event).2.1).2,0)
def yo(s:cu)(e:Int):cu×List bg×Int:=
 if e=0\/e=1\/e=2\/e=3 then qj s e A9
 else if e=4 then qj s (if s.left=0 then 5 else 4) A9
 else(s,[],1500)
def kg(s:cu)(p:bg):cu×cL×Option Int:=
 if p.code=1 then(s,⟨p,0,(gT s.own p.opts).1,(gT s.own p.opts).2.1⟩,C!<|if(gT s.own p.opts).1=0 then 6 else 7)
 else if p.code=2 then(s,⟨p,0,0,[]⟩,if p.id=s.asked/\p.opts=s.os then C! 8 else L?)
 else if p.code=3\/p.code=4 then(if p.id=s.asked then({s with own:=(uy s.own p.code p.opts).1},⟨p,0,0,[]⟩,C! 9)else(s,⟨p,0,0,[]⟩,L?))
 else(s,⟨p,0,0,[]⟩,C!<|if p.code=5 then 10 else if p.code=6 then 11 else if p.code=7\/p.code=8 then 13 else if p.code=9\/p.code=10\/p.code=11 then 15 else 12)
def dU(s:cu)(p:bg):cu×List bg×Int:=
 if(aW p).2≠0 then(s,[],1500)
 else if s.state=0\/s.state=1 then(s,[],1501)
 else match(kg s p).2.2 with
  |none=>((kg s p).1,[],0)
  |some e=>qj (kg s p).1 e (kg s p).2.1
def aC(l:aZ):Array Value:= #[A! l.iO,A! l.aH,A! l.cW,H? l.short,D? l.dh,A! l.num]
theorem JA(x:Int):gZ x=C?↔128<=x/\x<=1500:=by unfold gZ;simp
theorem Nu(x:Int):gZ x=H!↔x<128\/1500<x:=by
 rw[<-z!,JA];omega
theorem zJ(x:Int)(w:D!):G! E? 259 #[A! x] w λe t=>e=.returned (H?<|gZ x)/\w=t:=by
 go_in
 go_wp2_with fail
 all_goals
  go_ret;refine⟨?_,rfl⟩;show Ending.returned (Value.bool _)=Ending.returned (Value.bool _);congr 2
  symm
  first
  |(rw[Nu];omega)
  |(unfold gZ;simp;omega)
  |(rw[JA];omega)
theorem lE(l:aZ)(w:D!):G! E? 225 #[.agg<|aC l] w (S? w<|H?<|jL l):=by
 unfold aC;go_in;go_wp2_with(go_at_call 259;refine d! (zJ _ _) ?_)
 all_goals
  go_ret;refine⟨?_,R!⟩;show Ending.returned (Value.bool _)=Ending.returned (Value.bool _);congr 2
  symm
  have t:((l.dh.size:Int)<=20)=(l.dh.size<=20):=by simp only[eq_iff_iff];omega
  have o:((20:Int)<l.dh.size)=¬(l.dh.size<=20):=by simp only[eq_iff_iff];omega
  unfold jL
  simp_all
  try omega
theorem acB(x:Int)(h:0<=x):((UInt8.ofNat (x%256).toNat).toNat:Int)=x%256:=by
 have e:(2:Nat)^8=256:=I!;rw[UInt8.toNat_ofNat',e];omega
theorem ags(x:Int):lv x 2=[UInt8.ofNat (x/256%256).toNat,UInt8.ofNat (x%256).toNat]:=by
 unfold lv;simp[bag]
theorem agt(x:Int):lv x 4=[UInt8.ofNat (x/16777216%256).toNat,UInt8.ofNat (x/65536%256).toNat,UInt8.ofNat (x/256%256).toNat,UInt8.ofNat (x%256).toNat]:=by
 unfold lv;simp[bag]
theorem lI(x:Int)(h:0<=x): #[Value.int .u8<|x%256]=(Lib.byteCells [UInt8.ofNat (x%256).toNat]).toArray:=by
 have:=acB x h;show#[Value.int .u8<|x%256]= #[Value.int .u8 ((UInt8.ofNat (x%256).toNat).toNat:Int)];rw[this]
theorem Nv(x:Int)(w:D!)(d:0<=x)(c:x<=4294967295):G! E? 279 #[A! x,A! 2] w (S? w<|D?<|bytesOf<|lv x 2):=by
 have s:=A?<|ags x;go_wp2;go_loopw[5,6] (λv i wr=>K! w wr/\((i=A! 1/\Own wr w.heap.size v [])\/(i=A! 0/\Own wr w.heap.size v [UInt8.ofNat (x/256%256).toNat])\/(i=A! (-1)/\Own wr w.heap.size v [UInt8.ofNat (x/256%256).toNat,UInt8.ofNat (x%256).toNat]))) (λ_ i _=>(intOf i+1).toNat)
 case atStart=>exact⟨P! _ _,.inl ⟨rfl,Own.nil _ _⟩⟩
 case round=>
  obtain⟨o,⟨rfl,e⟩|⟨rfl,e⟩|⟨rfl,e⟩⟩:=hrel
  .go_wp2_with(at_builtin;apply mw rfl _ _ rfl w _ _ [UInt8.ofNat (x/256%256).toNat] 1 1 _ e rfl rfl (lI (x/256) B!) rfl N! o;intro r l t n);go_roundw
   case rel=>exact⟨n,.inr (.inl ⟨rfl,t⟩)⟩
   case measure=>simp[intOf]
  .go_wp2_with(at_builtin;apply mw rfl _ _ rfl w _ _ [UInt8.ofNat (x%256).toNat] 1 1 _ e rfl rfl (lI x B!) rfl N! o;intro r l t n);go_roundw
   case rel=>exact⟨n,.inr (.inr ⟨rfl,t⟩)⟩
   case measure=>simp[intOf]
  .have u:=e.conv;go_wp2;go_ret;exact⟨by rw[s.out];rfl,o⟩
theorem IC(x:Int)(h:0<=x)(e:x<256): #[Value.int .u8 x]=(Lib.byteCells [UInt8.ofNat (x%256).toNat]).toArray:=by
 rw[<-lI x h,bbu h e]
theorem Nw(x:Int)(w:D!)(d:0<=x)(c:x<=4294967295):G! E? 279 #[A! x,A! 4] w (S? w<|D?<|bytesOf<|lv x 4):=by
 have l:=A?<|agt x;go_wp2;go_loopw[5,6] (λv i wr=>K! w wr/\((i=A! 3/\Own wr w.heap.size v [])\/(i=A! 2/\Own wr w.heap.size v [UInt8.ofNat (x/16777216%256).toNat])\/(i=A! 1/\Own wr w.heap.size v [UInt8.ofNat (x/16777216%256).toNat,UInt8.ofNat (x/65536%256).toNat])\/(i=A! 0/\Own wr w.heap.size v [UInt8.ofNat (x/16777216%256).toNat,UInt8.ofNat (x/65536%256).toNat,UInt8.ofNat (x/256%256).toNat])\/(i=A! (-1)/\Own wr w.heap.size v [UInt8.ofNat (x/16777216%256).toNat,UInt8.ofNat (x/65536%256).toNat,UInt8.ofNat (x/256%256).toNat,UInt8.ofNat (x%256).toNat]))) (λ_ i _=>(intOf i+1).toNat)
 case atStart=>exact⟨P! _ _,.inl ⟨rfl,Own.nil _ _⟩⟩
 case round=>
  obtain⟨n,⟨rfl,e⟩|⟨rfl,e⟩|⟨rfl,e⟩|⟨rfl,e⟩|⟨rfl,e⟩⟩:=hrel
  .go_wp2_with(at_builtin;apply mw rfl _ _ rfl w _ _ [UInt8.ofNat (x/16777216%256).toNat] 1 1 _ e rfl rfl (IC (x/16777216) B! B!) rfl N! n;intro s r t o);go_roundw
   case rel=>exact⟨o,.inr (.inl ⟨rfl,t⟩)⟩
   case measure=>simp[intOf]
  .go_wp2_with(at_builtin;apply mw rfl _ _ rfl w _ _ [UInt8.ofNat (x/65536%256).toNat] 1 1 _ e rfl rfl (lI (x/65536) B!) rfl N! n;intro s r t o);go_roundw
   case rel=>exact⟨o,.inr (.inr (.inl ⟨rfl,t⟩))⟩
   case measure=>simp[intOf]
  .go_wp2_with(at_builtin;apply mw rfl _ _ rfl w _ _ [UInt8.ofNat (x/256%256).toNat] 1 1 _ e rfl rfl (lI (x/256) B!) rfl N! n;intro s r t o);go_roundw
   case rel=>exact⟨o,.inr (.inr (.inr (.inl ⟨rfl,t⟩)))⟩
   case measure=>simp[intOf]
  .go_wp2_with(at_builtin;apply mw rfl _ _ rfl w _ _ [UInt8.ofNat (x%256).toNat] 1 1 _ e rfl rfl (lI x B!) rfl N! n;intro s r t o);go_roundw
   case rel=>exact⟨o,.inr (.inr (.inr (.inr ⟨rfl,t⟩)))⟩
   case measure=>simp[intOf]
  .have u:=e.conv;go_wp2;go_ret;exact⟨by rw[l.out];rfl,n⟩
theorem D1(s:ByteArray)(k:Nat)(h:k<s.size):cF (s.data.toList.take<|k+1)=zF (cF<|s.data.toList.take k) s[k]:=by
 unfold cF;rw[u! bb4,ϙ];rfl
theorem oP(s:ByteArray)(w:D!)(u:s.size<=9223372036854775807):G! E? 302 #[D? s] w λe l=>e=.returned (A!<|cF s.data.toList)/\w=l:=by
 go_wp2
 go_loop[3,7] (λx i=>∃k:Nat,k<=s.size/\i=A! k/\x=A! (cF<|s.data.toList.take k)) (λ_ i=>s.size-(intOf i).toNat)
 case atStart=>exact⟨0,S! _,rfl,rfl⟩
 case round=>
  obtain⟨k,c,rfl,rfl⟩:=hrel;let⟨v,t⟩:=F?<|cF<|s.data.toList.take k;by_cases r:k<s.size
  .rw[t];have o:=A? t;clear t;go_wp2;go_round
   case rel=>
    refine⟨k+1,B!,W!,?_⟩;have d:=s[k].toNat_lt;rw[D1 s k r,o.out,bby (s[k].toNat:Int) ⟨B!,B!⟩];rfl
   case measure=>simp[intOf];omega
  .obtain rfl:k=s.size:=B!;have n:cF s.data.toList=v:=by rw[<-t,u? N!]
   rw[t];have o:=A? n;clear t n;go_wp2;go_ret;exact⟨by rw[o.out];rfl,rfl⟩
theorem Nx(k:Int)(w:D!):G! E? 280 #[A! k] w λe t=>e=.returned (A!<|py k)/\w=t:=by
 go_in
 go_wp2_with fail
 all_goals
  go_ret;refine⟨?_,rfl⟩;show Ending.returned (Value.int .i64 _)=Ending.returned (Value.int .i64 _);congr 2;unfold py
  simp_all
theorem zK(o:bD)(w:D!):G! E? 281 #[.agg #[A! o.1,D? o.2]] w (S? w<|H?<|gS o):=by
 let⟨z,i⟩:=F?<|py o.1;have t:=λw=>Nx o.1 w;rw[i]at t;have n:E!<|gS o=(decide (z=(o.2.size:Int))||(decide (z= -1)&&K? (1<=o.2.size)&&K? (o.2.size<=20))):=A? (by unfold gS;rw[i]);go_in;go_wp2_with(go_at_call 280;refine d! (t _) ?_)
 all_goals
  go_ret;refine⟨?_,R!⟩;rw[n.out];show Ending.returned (Value.bool _)=Ending.returned (Value.bool _);congr 2
  symm
  rw[bbr];simp only[bae,k!,z?]
  try simp
  try omega
def dM(w:D!)(p:Nat)(l:aZ):Prop:=w.heap[p]? =C! (.cells (aC l) 363 (0,0))
theorem dM.below{w e:D!}{p:Nat}{l:aZ}(h:dM w p l)(o:K! w e):dM e p l:=bb o h
section
variable{w:D!}{p:Nat}{l:aZ}(h:dM w p l)
include h
theorem dM.lt:p<w.heap.size:=(i!.1 h).1
theorem dM.cells:w.cell? (B? p 0)=N? l.iO/\w.cell? (B? p 1)=N? l.aH/\w.cell? (B? p 2)=N? l.cW/\w.cell? (B? p 3)=C! (H? l.short)/\w.cell? (B? p 4)=C! (D? l.dh)/\w.cell? (B? p 5)=N? l.num:=by
 unfold dM at h;simp[World.cell?,h,aC]
theorem dM.frozen(i:Nat):w.frozen? (B? p i)=false:=by
 unfold dM at h;simp[World.frozen?,h]
end
def iV(k:Int):Option Nat:=if k=1 then C! 0 else if k=5 then C! 1 else if k=17 then C! 2 else if k=23 then C! 5 else L?
theorem qn(p:Nat)(k:Int)(w:D!):G! E? 278 #[P? p,A! k] w λe t=>e=.returned (.pointer<|(iV k).map λi=>(B? p i))/\w=t:=by
 go_in
 go_wp2_with fail
 all_goals
  go_ret;refine⟨?_,rfl⟩;unfold iV
  simp_all
theorem qP{w:D!}{p:Nat}{l:aZ}(h:dM w p l){k:Int}{i:Nat}(hk:iV k=C! i):∃x,rJ l k=C! x/\w.cell? (B? p i)=N? x:=by
 let⟨e,t,o,n,s,r⟩:=h.cells;exact ncM
theorem Ny{l:aZ}{k:Int}(hk:iV k=L?):rJ l k=none:=by
 exact ncM
theorem yG(p:Nat)(l:aZ)(k:Int)(w:D!)(h:dM w p l):G! E? 277 #[P? p,A! k] w λe d=>e=.returned (H?<|oJ l k)/\w=d:=by
 let⟨u,m,g,y,b,j⟩:=h.cells;by_cases s:k=18
 .subst s;exact d?
 .by_cases r:k=19
  .subst r
   have t:E! (oJ l 19= !l.dh.toList.isEmpty):=A? (by
    unfold oJ;rw[F! I!,G? rfl,dG];cases e:l.dh.data.toList<;>simp)
   go_wp2
   go_ret;exact⟨by rw[t.out];rfl,rfl⟩
  .have z:=Q?.2 s;have E:=Q?.2 r;cases n:iV k with
   |none=>
    have t:E!<|oJ l k=false:=A? (by unfold oJ;rw[F! s,F! r,Ny n]);have o:=λw=>qn p k w;rw[n]at o;go_in;go_wp2_with fail;apply(o _).mono;rintro e d ⟨rfl,rfl⟩;go_wp2;go_ret;exact⟨by rw[t.out];rfl,rfl⟩
   |some i=>
    let⟨x,c,q⟩:=qP h n;have t:E!<|oJ l k=(x !=0):=A? (by unfold oJ;rw[F! s,F! r,c];rw[bbr];simp);have o:=λw=>qn p k w;rw[n]at o;go_in;go_wp2_with fail;refine d! (o _) ?_;go_wp2;go_ret;exact⟨by rw[t.out];rfl,rfl⟩
theorem vw{w:D!}{p:Nat}{l:aZ}(h:dM w p l)(i:Nat)(x:I?)(e:aZ)(t:(aC l).setIfInBounds i x=aC e):dM (w.setCell (B? p i) x) p e:=by
 have:=ba4 w p i (aC l) 363 x h;rw[t]at this;exact this
theorem FX(l:aZ)(k x:Int)(i:Nat)(e:iV k=C! i):(aC l).setIfInBounds i (A! x)=aC (QJ l k x):=by
 unfold iV at e;unfold QJ
 repeat' split at e
 all_goals(first|cases e|skip)
 all_goals simp_all[aC]
theorem ay(w:D!)(p i:Nat)(x:I?):Only (· =p) w<|w.setCell (B? p i) x:=(Only.refl (· =p) w).set (a:=B? p i) (.inl rfl) x
theorem VD(p:Nat)(l:aZ)(k:Int)(w:D!)(h:dM w p l)(t:k=18\/k=19\/∃i,iV k=C! i):G! E? 288 #[P? p,A! k] w λe d=>e=.returned (.tuple #[])/\dM d p (uw l k)/\Only (· =p) w d:=by
 let⟨m,g,y,b,j,q⟩:=h.cells;have c:=h.frozen 3;have u:=h.frozen 4;by_cases o:k=18
 .subst o;have hs:=vw h 3 (H? H!) (uw l 18) rfl;exact mcO
 .by_cases n:k=19
  .subst n;have hs:=vw h 4 (D? ⟨#[]⟩) (uw l 19) rfl;exact mcO
  .obtain⟨i,s⟩:∃i,iV k=C! i:=by
    rcases t with t|t|t
    .exact absurd t o
    .exact absurd t n
    .exact t
   have O:=Q?.2 o;have I:=Q?.2 n;let⟨x,A,z⟩:=qP h s;have E:=h.frozen i;have r:=λw=>qn p k w;have hs:=vw h i (A! 0) (uw l k) (by rw[FX l k 0 i s];unfold uw;rw[F! o,F! n]);rw[s]at r;go_in;go_wp2_with fail;refine d! (r _) ?_;exact mcO
theorem Ur(p:Nat)(l:aZ)(o:bD)(w:D!)(h:dM w p l)(t:o.1=18\/o.1=19\/∃i,iV o.1=C! i)(y:o.2.size<=9223372036854775807):G! E? 282 #[P? p,.agg #[A! o.1,D? o.2]] w λe u=>e=.returned (.tuple #[])/\dM u p (tM l o)/\Only (· =p) w u:=by
 obtain⟨k,d⟩:=o;simp only at t y|-;have b:=(P! w.heap.size w).alloc O? (.cells #[A! k,D? d] 203);have s:=h.below b;have S:Only (· =p) w<|w.alloc (.cells #[A! k,D? d] 203):=(Only.refl _ _).alloc _;let⟨z,E,A,O,I,N⟩:=s.cells;have j:=s.frozen 3;have q:=s.frozen 4;have L:=h.lt;by_cases r:k=18
 .subst r;have n:=(vw h 3 (H? C?) (tM l (18,d)) rfl).below<|(P! _ _).alloc O? (.cells #[A! 18,D? d] 203);go_wp2;go_end0;exact⟨rfl,n,(ay _ _ _ _).alloc _⟩
 .by_cases c:k=19
  .subst c;have n:=(vw h 4 (D? d) (tM l (19,d)) rfl).below<|(P! _ _).alloc O? (.cells #[A! 19,D? d] 203);go_wp2;go_end0;exact⟨rfl,n,(ay _ _ _ _).alloc _⟩
  .obtain⟨i,m⟩:∃i,iV k=C! i:=by
    rcases t with t|t|t
    .exact absurd t r
    .exact absurd t c
    .exact t
   have C:=Q?.2 r;have M:=Q?.2 c;let⟨x,D,R⟩:=qP s m;have H:=s.frozen i;have f:=λw=>qn p k w;have g:=λw=>oP d w y;have n:=(vw h i (A!<|cF d.data.toList) (tM l (k,d))<|by rw[FX l k _ i m];unfold tM;rw[F! r,F! c]).below<|(P! _ _).alloc O? (.cells #[A! k,D? d] 203);rw[m]at f;generalize cF d.data.toList=v at n g;go_in;go_wp2_with fail;apply mQ 8 M? M?;simp only[bbZ,bbg,baF,ba2]
   repeat still_step
   still_call ((f _).mono λe u h=>⟨h.1,h.2.symm⟩)
   repeat still_step
   still_call ((g _).mono λe u h=>⟨h.1,h.2.symm⟩)
   repeat still_step
   apply Θ;go_wp2;go_end0;exact⟨rfl,n.below (P! _ _).drew,((ay _ _ _ _).alloc _).drew⟩
def Nz(o:bD):List Value:=[.int .i64 o.1,D? o.2]
def dS:Elem E? bD where
 tS:=155
 tE:=203
 size:=2
 bytes:=24
 z:=.agg #[.int .i64 0,D? ByteArray.empty]
 enc:=Nz
 und:=underlying155
 info:=M?
 zs:=rfl
 len:=λ_=>rfl
 one:=λa u e=>by
  simp only[Nz,n!,Ξ,baE]at e;rcases e with rfl|rfl<;>rfl
 pos:=I!
def aI(w:D!)(v:I?)(l:List bD):Prop:=aD dS w v l
theorem aI.below{w e:D!}{v:I?}{l:List bD}(h:aI w v l)(o:Below w.heap.size w e):aI e v l:=aD.below h o
theorem aI.nil(w:D!):aI w Q! []:=aD.nil _ _
theorem aI.cells{w:D!}{g o n c:Nat}{l:List bD}(h:aI w (J! (C! ⟨g,o,L?⟩) n c) l):n=l.length/\l.length<=c/\c<=maxLen/\∀j (h:j<l.length),w.cell? ⟨g,o+j*2,L?⟩=C! (.int .i64 l[j].1)/\w.cell? ⟨g,o+j*2+1,L?⟩=C! (D? l[j].2):=by
 rcases h with⟨_,h⟩|⟨d,u,r,h,i,s,_,e⟩
 .cases h
 .cases h;refine⟨rfl,i,s,λj t=>⟨?_,?_⟩⟩
  .exact e j t 0 I!
  .exact e j t 1 I!
theorem aI.or{w:D!}{v:I?}{l:List bD}(h:aI w v l):(l=[]/\v=Q!)\/∃g o c,v=J! (C! ⟨g,o,L?⟩) l.length c:=by
 rcases h with h|⟨g,o,c,h,_⟩
 .exact .inl h
 .exact .inr ⟨g,o,c,h⟩
section
variable{ops:Array Oper}{rest:List Oper}{o:Oper}{a:Act}{w:D!}{Q:Exit->Act->D!->Prop}(hgd:o.guard=L?)(s x:Operand)
include hgd s x
theorem jR
 (u:o.op=.call {callee:=.builtin .append,args:= #[s,x],argTypes:= #[155,155]})
 (e:D!)(v:I?)(l:List bD)(k:Int)(d:ByteArray)(c:Nat)(m:bq dS w e.heap.size v l)(f:a.eval s=v)(B:Nat)(g:a.eval x=J! (C! ⟨B,0,L?⟩) 1 c)(n:B=w.heap.size)
 (r:(l.length+1)*24<=140737488355328)(y:Below e.heap.size e w)
 (h:∀t i,bq dS i e.heap.size t (l++[(k,d)])->Below e.heap.size e i->Only (λk=>v.ownBlock=C! k) w i->(t.ownBlock=v.ownBlock\/∃k,t.ownBlock=C! k/\w.heap.size<=k)->wpList E? ops Q rest (a.put o.dst t) i):
 wpList E? ops Q (o::rest) a (w.alloc (.cells #[.int .i64 k,D? d] 203)):=
 xZ dS hgd s x u e v l (k,d) c m f B g n r y I! h
theorem Ck
 (c:o.op=.call {callee:=.builtin .append,args:= #[s,x],argTypes:= #[155,155]})
 (e:D!)(v r:I?)(l t:List bD)(u:bq dS w e.heap.size v l)(f:aI w r t)(m:a.eval s=v)(g:a.eval x=r)
 (d:(l.length+t.length)*24<=140737488355328)(y:Below e.heap.size e w)
 (h:∀i n,bq dS n e.heap.size i (l++t)->Below e.heap.size e n->Only (λk=>v.ownBlock=C! k) w n->(i.ownBlock=v.ownBlock\/∃k,i.ownBlock=C! k/\w.heap.size<=k)->wpList E? ops Q rest (a.put o.dst i) n):
 wpList E? ops Q (o::rest) a w:=
 Iy dS hgd s x c e v r l t u f m g d y I! h
end
def gu(k:Int)(l:List bD):Int:=match l.findIdx? (λo=>K? (o.1=k))with|some i=>(i:Int)|none=> -1
theorem K5(k:Int)(l:List bD)(j:Nat)(t:j<l.length)(h:∀i (e:i<j),(l[i]' B!).1≠k)(n:l[j].1=k):gu k l=(j:Int):=by
 unfold gu
 have:l.findIdx? (λo=>K? (o.1=k))=C! j:=by
  rw[bcf];exact⟨t,by simpa using n,λi e=>by simpa using h i e⟩
 rw[this]
theorem IE(k:Int)(l:List bD)(h:∀i (e:i<l.length),l[i].1≠k):gu k l= -1:=by
 unfold gu
 have:l.findIdx? (λo=>K? (o.1=k))=none:=by
  rw[bcC];intro x t;obtain⟨i,e,rfl⟩:=List.mem_iff_getElem.1 t;simpa using h i e
 rw[this]
theorem Cl(k:Int)(l:List bD):K? (0<=gu k l)=l.any λo=>K? (o.1=k):=by
 unfold gu;cases e:l.findIdx? (λo=>K? (o.1=k))with
 |none=>
  rw[bcC]at e
  symm
  simp only[show K? ((0:Int)<= -1)=H! from I!];rw[bbP];intro x t;simpa using e x t
 |some i=>
  let⟨n,t,_⟩:=bcf.1 e;have:K? ((0:Int)<=(i:Int))=true:=N!;rw[this]
  symm
  rw[ϋ];exact⟨l[i],l! n,t⟩
theorem JC(k:Int)(o:bD)(b:Nat)(w:D!)(t:w.cell? ⟨b,0,L?⟩=C! (.int .i64 k)):
 G! E? 300 #[.agg #[.int .i64 o.1,D? o.2],.pointer (C! ⟨b,0,L?⟩)] w λe i=>e=.returned (H? (o.1==k))/\Below w.heap.size w i:=by
 have n:=h! t;go_wp2;go_ret;exact⟨rfl,R!⟩
theorem FY(k:Int)(b:Nat)(g o c:Nat)(l:List bD)(w:D!)(z:w.cell? ⟨b,0,L?⟩=C! (.int .i64 k))(h:aI w (J! (C! ⟨g,o,L?⟩) l.length c) l)(H:l.length<=9223372036854775807):
 G! E? 283 #[J! (C! ⟨g,o,L?⟩) l.length c,.func (.func 300) #[] #[.pointer (C! ⟨b,0,L?⟩)]] w λe D=>e=.returned (.int .i64 (gu k l))/\Below w.heap.size w D:=by
 obtain⟨-,-,-,A⟩:=h.cells;let⟨n,v⟩:=F? l.length;have HN:=A? v;have N:=A? A;rw[v]at H|-;clear h A v;go_wp2;go_loopw[8] (λi wr=>∃j:Nat,j<=n/\i=.int .i64 j/\Below w.heap.size w wr/\∀i (t:i<l.length),i<j->l[i].1≠k) (λi _=>n-(intOf i).toNat)
 case atStart=>exact⟨0,S! _,rfl,P! _ _,λi _ h=>absurd h (bb9 _)⟩
 case round=>
  obtain⟨j,F,rfl,s,I⟩:=hrel;have f:=A? I;clear I;by_cases hlt:j<n
  .have O:j<l.length:=Δ;let⟨d,u⟩:=N.out j O;replace d:=(s.cell (h! d)).trans d;replace u:=(s.cell (h! u)).trans u;have E:=(s.cell (h! z)).trans z;have m:E! (l[j]=l[j]):=A? rfl;let⟨x,q⟩:=F? (l[j]);rw[q]at d u;have m:=A? q;clear q;by_cases r:x.1=k
   .have hr:=A? (K5 k l j O (λi t=>f.out i B! t) (by rw[m.out];exact r));have L:(x.1==k)=true:=by simp[r]
    clear r;go_wp2_with fail;refine M! (JC k x b _ E) λC y=>?_;go_wp2;go_ret;exact⟨baC,seqB s y⟩
   .have L:(x.1==k)=false:=by simp[r]
    have S:=A? r;clear r;go_wp2_with fail;refine M! (JC k x b _ E) λC y=>?_;go_wp2;go_roundw
    case rel=>
     refine⟨j+1,B!,W!,seqB s y,λi t M=>?_⟩;by_cases R:i=j
     .subst R;rw[m.out];exact S.out
     .exact f.out i t B!
    case measure=>simp[intOf];omega
  .obtain rfl:j=n:=B!;have hr:=A? (IE k l (λi t=>f.out i t (by rw[<-HN.out];exact t)));go_wp2;go_ret;exact⟨baC,s⟩
theorem yH(k:Int)(f:I?)(c:Nat)(w:D!):
 G! E? 283 #[J! L? 0 c,f] w λe t=>e=.returned (.int .i64 (-1))/\w=t:=by
 go_wp2
 go_loopw[8] (λi wr=>i=.int .i64 0/\w=wr) (λi _=>0)
 case atStart=>exact⟨rfl,rfl⟩
 case round=>
  obtain⟨rfl,rfl⟩:=hrel;go_wp2;go_ret;exact⟨rfl,rfl⟩
theorem FZ(k:Int)(v:Value)(l:List bD)(w:World)(h:aI w v l):
 Calls prog 272 #[.int .i64 k,v] w λe w'=>e=.returned (.int .i64 (gu k l))/\Below w.heap.size w w':=by
 have hl:=aD.le h;have h':=h.below ((P! _ _).alloc O? (.cells #[.int .i64 k] 3));rcases h.or with⟨rfl,rfl⟩|⟨g,o,c,rfl⟩
 .go_in
  go_wp2_with fail;refine(yH k _ _ _).mono ?_;rintro e w' ⟨rfl,rfl⟩;go_wp2;go_ret;exact⟨rfl,R!⟩
 .go_in
  go_wp2_with fail;refine(FY k w.heap.size g o c l _ ϖ h' hl).mono ?_;rintro e w' ⟨rfl,hb⟩;go_wp2;go_ret;exact⟨rfl,seqB R! hb⟩
theorem qt(x:Int)(n:Nat)(w:D!)(e:0<=x)(t:x<=4294967295)(o:n=2\/n=4):G! E? 279 #[A! x,A! n] w (S? w<|D?<|bytesOf<|lv x n):=by
 rcases o with rfl|rfl
 .exact Nv x w e t
 .exact Nw x w e t
theorem VE(w:D!):G! E? 276 #[] w λe t=>e=.returned (J! (C!<|B? w.heap.size 0) 6 6)/\(∀j (h:j<6),t.cell? (B? w.heap.size j)=N? (lN.getD j 0))/\K! w t:=by
 go_wp2
 go_ret;refine⟨rfl,λj h=>?_,R!⟩;rw[j!]
 match j,h with
 |0,_=>rfl
 |1,_=>rfl
 |2,_=>rfl
 |3,_=>rfl
 |4,_=>rfl
 |5,_=>rfl
theorem QY(j:Nat)(h:j<6):(lN.getD j 0=18\/lN.getD j 0=19)\/∃i n,iV (lN.getD j 0)=C! i/\py (lN.getD j 0)=((n:Nat):Int)/\(n=2\/n=4)/\lN.getD j 0≠18/\lN.getD j 0≠19:=by
 match j,h with
 |0,_=>exact .inr ⟨0,2,rfl,rfl,.inl rfl,I!,I!⟩
 |1,_=>exact .inr ⟨1,4,rfl,rfl,.inr rfl,I!,I!⟩
 |2,_=>exact .inr ⟨2,2,rfl,rfl,.inl rfl,I!,I!⟩
 |3,_=>exact .inl (.inl rfl)
 |4,_=>exact .inl (.inr rfl)
 |5,_=>exact .inr ⟨5,2,rfl,rfl,.inl rfl,I!,I!⟩
theorem D3{l:aZ}(h:jL l=C?):(0<=l.iO/\l.iO<=1500)/\(0<=l.aH/\l.aH<=4294967295)/\(0<=l.cW/\l.cW<=1500)/\(0<=l.num/\l.num<=65535)/\l.dh.size<=20:=by
 unfold jL gZ at h;simp only[k!,bae,z?]at h;omega
theorem QZ{l:aZ}(h:jL l=C?){k x:Int}(e:rJ l k=C! x):0<=x/\x<=4294967295:=by
 let⟨t,o,i,n,_⟩:=D3 h;unfold rJ at e
 repeat' split at e
 all_goals(first|cases e|skip)
 all_goals omega
def Ay(l:aZ)(k:Nat):List bD:=((lN.take k).filter<|oJ l).map<|Aq l
theorem Q0(l:aZ)(k:Nat)(t:k<6):Ay l (k+1)=Ay l k++(if oJ l (lN.getD k 0)=C? then[Aq l<|lN.getD k 0]else[]):=by
 have e:lN.take (k+1)=lN.take k++[lN.getD k 0]:=by
  match k,t with
  |0,_=>rfl
  |1,_=>rfl
  |2,_=>rfl
  |3,_=>rfl
  |4,_=>rfl
  |5,_=>rfl
 unfold Ay;rw[e,baR,ϻ];congr 1;rw[k?,List.filter_nil];split<;>rfl
theorem VF(l:aZ)(k:Nat):(Ay l k).length<=6:=by
 unfold Ay;rw[g!];apply Z? (ϝ _ _);rw[w!];exact Nat.min_le_right _ _
theorem oB{w:D!}{p:Nat}{l:aZ}{t:TypeId}(h:w.heap[p]? =C! (.cells (aC l) t (0,0))):w.cell? (B? p 0)=N? l.iO/\w.cell? (B? p 1)=N? l.aH/\w.cell? (B? p 2)=N? l.cW/\w.cell? (B? p 3)=C! (H? l.short)/\w.cell? (B? p 4)=C! (D? l.dh)/\w.cell? (B? p 5)=N? l.num:=by
 simp[World.cell?,h,aC]
theorem NB(l:aZ)(k x:Int)(n:Nat)(t:rJ l k=C! x)(e:py k=(n:Int)):Aq l k=(k,bytesOf<|lv x n):=by
 unfold Aq;rw[t,e];rfl
theorem Y1(l:aZ)(w:D!)(K:jL l=C?):G! E? 247 #[.agg<|aC l] w λe d=>∃o,e=.returned (.tuple #[o,A! 0])/\bq dS d w.heap.size o (ju l)/\K! w d:=by
 have I:=λw=>lE l w;rw[K]at I;have a3:=A? K;have a9:aC l= #[A! l.iO,A! l.aH,A! l.cW,H? l.short,D? l.dh,A! l.num]:=rfl;have A:=A? a9;rw[A.out]at I|-;go_in;go_wp2_with fail;refine M! (I _) λw1 Y=>?_;have ad:w1.heap[w.heap.size]? =C! (.cells (aC l) 240 (0,0)):=bb Y (by rw[A.out];exact c! _ _);let⟨ax,az,b0,b1,a5,b2⟩:=oB ad;have a7:=seqB R! Y;go_wp2_with fail;apply(VE _).mono;rintro e s ⟨rfl,q,S⟩;have G:=seqB (ak a7 _) S;have aa:dM s w1.heap.size l:=bb S (by rw[A.out];exact c! _ _);have ac:=af S<|af ((P! _ _).alloc O? _) a5;simp only[World.size_alloc]at q|-;have a2:=A? q;go_wp2;go_loopw[5,18] (λo i wr=>∃k:Nat,k<=6/\i=A! k/\bq dS wr s.heap.size o (Ay l k)/\K! s wr) (λ_ i _=>6-(intOf i).toNat)
 case atStart=>exact⟨0,S! _,rfl,bq.nil _ _ _,P! _ _⟩
 case round=>
  obtain⟨k,b3,rfl,r,t⟩:=hrel;have ab:=VF l k;by_cases H:k<6
  .have ae:=af t (a2 k H);have m:=aa.below t;have a4:=af t ac;have E:=Q0 l k H;have b:=QY k H;generalize lN.getD k 0=x at ae E b;generalize Ay l k=C at r E ab;have u:=λw h=>yG w1.heap.size l x w h;cases j:oJ l x with
   |false=>
    rw[j]at u;have D4:E!<|Ay l (k+1)=C:=A? (by rw[E,j];simp);go_wp2_with fail;apply(u _ m).mono;rintro e g ⟨rfl,rfl⟩;go_wp2;go_roundw
    case rel=>exact⟨k+1,B!,W!,by rw[D4.out];exact r,t⟩
    case measure=>simp[intOf];omega
   |true=>
    rw[j]at u;have D4:E!<|Ay l (k+1)=C++[Aq l x]:=A? (by rw[E,j];simp);rcases b with b|⟨i,n,V,X,ag,b4,b5⟩
    .have a6:=(r.below<|(P! _ _).alloc O? (.cells #[A! x,D? ⟨#[]⟩] 203));have an:K! s<|wr.alloc (.cells #[A! x,D? ⟨#[]⟩] 203):=ak t _;rcases b with rfl|rfl
     .have HO:E!<|Aq l 18=(18,⟨#[]⟩):=A? rfl;have c:∀w:D!,G! E? 278 #[P? w1.heap.size,A! 18] w λe d=>e=.returned (.pointer L?)/\w=d:=λw=>qn w1.heap.size 18 w;go_wp2_with fail;apply(u _ m).mono;rintro e g ⟨rfl,rfl⟩;go_wp2_with fail;apply(c _).mono;rintro e g ⟨rfl,rfl⟩;go_wp2_with(at_builtin;refine jR rfl _ _ rfl s _ _ 18 ⟨#[]⟩ 1 a6 rfl _ rfl N! B! an ?_;intro Z a0 jT yL _ _);exact mgi
     .have HO:E!<|Aq l 19=(19,l.dh):=A? rfl;have c:∀w:D!,G! E? 278 #[P? w1.heap.size,A! 19] w λe d=>e=.returned (.pointer L?)/\w=d:=λw=>qn w1.heap.size 19 w;have L:=(r.below<|(P! _ _).alloc O? (.cells #[A! 19,D? l.dh] 203));have O:K! s<|wr.alloc (.cells #[A! 19,D? l.dh] 203):=ak t _;have av:=af ((P! wr.heap.size wr).alloc O? (.cells #[A! 19,D? ⟨#[]⟩] 203)) a4;go_wp2_with fail;apply(u _ m).mono;rintro e g ⟨rfl,rfl⟩;go_wp2_with fail;apply(c _).mono;rintro e g ⟨rfl,rfl⟩;go_wp2_with(at_builtin;apply jR rfl _ _ rfl s _ _ 19 l.dh 1 L rfl _ rfl N! B! O;intro Z a0 jT yL _ _);exact mgi
    .let⟨z,J,al⟩:=qP m V;let⟨ao,ap⟩:=QZ a3 J;have HO:=A?<|NB l x z n J X;have c:=λw=>qn w1.heap.size x w;have M:=λw=>Nx x w;have D:=λw=>qt z n w ao ap ag;rw[V]at c;rw[X]at M;generalize bytesOf (lv z n)=N at D HO;go_wp2_with fail;apply(u _ m).mono;rintro e g ⟨rfl,rfl⟩;go_wp2_with fail;refine d! (c _) ?_;go_wp2_with fail;have ar:=af ((P! wr.heap.size wr).alloc O? (.cells #[A! x,D? ⟨#[]⟩] 203)) al;apply mQ 5 M? M?;simp only[bbZ,bbg,baF,ba2]
     repeat still_step
     still_call ((M _).mono λe d h=>⟨h.1,h.2.symm⟩)
     repeat still_step
     apply Θ;go_wp2_with fail;refine M! (D _) λy B=>?_;have hh4:y.heap[wr.heap.size]? =C! (.cells #[A! x,D? ⟨#[]⟩] 203 (0,0)):=bb B<|c! _ _;have b6:y.cell? (B? wr.heap.size 0)=N? x:=bau;have b7:y.cell? (B? wr.heap.size 1)=C! (D? ⟨#[]⟩):=bau;have b8:y.frozen? (B? wr.heap.size 1)=false:=by simp[World.frozen?,hh4]
     have F:=seqB (aQ R!) B;have L:=(r.below F).only (ay y wr.heap.size 1<|D? N) λk q e=>by have:=r.lt k q;omega
     have O:=(seqB t F).setCell (p:=B? wr.heap.size 1) t.size<|D? N;go_wp2_with(at_builtin;apply jR rfl _ _ rfl s _ _ x N 1 L rfl _ rfl N! B! O;intro Z a0 jT yL _ _);exact mgi
  .obtain rfl:k=6:=B!;have am:=r.base (b':=w.heap.size) G.size;have a8:=seqB G t;have a1:E!<|ju l=Ay l 6:=A? rfl;go_wp2;go_ret2;exact⟨_,rfl,by rw[a1.out];exact am,a8⟩
