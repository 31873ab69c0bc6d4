/- Walks and plain laws. -/
import Derived.Test.YtncddkcponjlpaaGreatDoorK07
set_option linter.unusedVariables false
set_option linter.unusedSimpArgs false
set_option maxHeartbeats 0
set_option maxRecDepth 99999
namespace Go.Proofs.YtncddkcponjlpaaGreatDoor
open Go.RowKit Go.Proofs.Tryz
open Go renaming World→D!,Value→I?,Calls→G!,IntKind→ncy
open Go.RowKit renaming Hid→E!
open Decidable renaming decide→K?
open Option renaming some→C!,none→L?
open Bool renaming true→C?,false→H!
open Go.Proofs.Tryz renaming prog→E?
variable{P:Prop}
structure aM where
 neg:cu
 proof:Option bM
 id:Int
 phase:Int
 dials:Bool
 num:Int
 drop:Int
 buffer:List UInt8
 out:List UInt8
 at_:Int
 over:Int
 answer:cT
 answers:Int
 term:Option bg
 ready:Bool
structure cP where
 aV:Int
 links:Int
 least:Int
 rate:Int
 cv:Int
 high:Int
 low:Int
 hold:Int
 base:Int
 cap:Int
 restart:Int
 tries:Int
 short:Bool
 bR:ByteArray
 bT:ByteArray
 expect:ByteArray
 cD:Int
 bP:Int
def tX(c:cP)(e o:Int)(t:Bool):aZ:=⟨1500,e,1500,c.short,⟨#[]⟩,if t then o else 0⟩
def iU(i:Int)(c:cP)(o t:Int)(e:Bool):aM:=
 ⟨QK (tX c o t e) c.tries,L?,i,2,e,t,0,[],[],0,0,gM,0,L?,H!⟩
def aM.dF(l:aM):Bool:=K? (l.phase=4)||K? (l.phase=5)
def aM.building(l:aM):Bool:=K? (l.phase=2)||K? (l.phase=3)
def jO(l:aM)(t:Int)(e:List UInt8):aM:=
 if(frameT t e 0).2=0 then{l with out:=l.out++(frameT t e 0).1}else l
def nN(l:aM)(p:bg):aM:=if(aW p).2=0 then jO l 49185 (aW p).1 else l
def dn(l:aM)(e:List bg):aM:=e.foldl nN l
def kJ(l:aM)(c:cT):aM:=
 let l:=if(cx c).2=0 then jO l 49699 (cx c).1 else l
 if c.code=2 then{l with answer:=c}else l
def lS(l:aM)(e:List cT):aM:=e.foldl kJ l
def Nt(e:List UInt8):List UInt8:=if(sJ e).length<e.length then 126::sJ e else sJ e
def sP(e:List UInt8):List<|Int×List UInt8:=(yx e).filterMap λx=>if(cK x).2.2=0 then C! ((cK x).1,(cK x).2.1)else L?
def gL(l:aM)(s:List UInt8):aM×List (Int×List UInt8):=
 ({l with buffer:=if 6144<(Nt<|l.buffer++s).length then[]else Nt (l.buffer++s)},sP<|l.buffer++s)
def wk(l:aM)(e:Int):aM:=dn {l with neg:=(yo l.neg e).1} (yo l.neg e).2.1
def cq(l:aM)(x:bg):aM:=dn {l with neg:=(dU l.neg x).1} (dU l.neg x).2.1
def Bf(l:aM)(t:Int):aM:=wk (wk {l with at_:=t} 2) 0
def lC(l:aM)(e:Int):aM:=dn l [⟨9,1,[],bytesOf<|words [e]⟩]
def kq(l:aM)(c:cP)(e t o:Int):aM:=
 let p:=qX (if e=1 then⟨#[98]⟩else⟨#[97]⟩) (if e=1 then c.bT else c.bR) c.expect c.tries;let l:={l with phase:=3,at_:=t,proof:=p}
 match p with
 |none=>lS l [gM]
 |some q=>
  let r:=kY q<|bytesOf<|KR<|words [o,o/4294967296,l.id,t,e]
  lS {l with proof:=C! r.1} [r.2.1]
def Cg(l:aM):Bool:=match l.proof with|some p=>p.proved|none=>H!
def kr(l:aM)(t:Int):aM×Bool:=
 if Cg l then
  let e:={l with answers:=l.answers+1}
  if t<e.answers then(e,H!)else(if e.answer.code=2 then lS e [e.answer]else e,C?)
 else match l.proof with
  |none=>(l,H!)
  |some p=>let r:=gj p
   if r.2.2=0 then(lS {l with proof:=C! r.1} [r.2.1],C?)else({l with proof:=C! r.1},H!)
structure Ch where
 yC:Int
 acA:Int
 kind:Int
 id:Int
structure aF where
 c:cP
 side:Int
 aX:Bool
 queue:bh
 join:aT
 cC:dD
 jF:Int
 load:Int
 now:Int
 random:Int
 last:Int
 links:KV aM
 phases:KV Int
 proved:KV Bool
 changes:List Ch
 got:List ByteArray
 vo:Int
 fails:Int
 tY:Int
 steady:Int
 way:Int
abbrev PS:=aF×aU
def iH(c:cP):Bool:=
 decide (1<=c.aV)&&K? (c.aV<=8)&&K? (c.links<=c.aV)&&Be c.rate c.least c.links&&
 decide (1<=c.cv)&&K? (c.cv<=64)&&K? (1<=c.high)&&K? (c.high<=1000)&&K? (0<=c.low)&&K? (c.low<c.high)&&K? (1<=c.hold)&&K? (c.hold<=64)&&
 decide (1<=c.base)&&K? (c.base<=c.cap)&&K? (c.cap<=64)&&K? (2<=c.restart)&&K? (c.restart<=16)&&K? (2<=c.tries)&&K? (c.tries<=10)&&
 decide (1<=c.cD)&&K? (c.cD<=4294967295)&&K? (1<=c.bP)&&K? (c.bP<=4294967295)&&K? (c.cD≠c.bP)&&
 eO c.bR&&eO c.bT&&eO c.expect
def rU(c:cP)(e:Int):aF:=
 let o:=if e=1 then c.bP else c.cD
 let t:=if e=1 then c.cD else c.bP
 ⟨c,e,decide (o<t),yB (min c.rate 128) c.short,Ce c.short 128,Cf (decide (o<t)) c.tries,0,0,0,0,0,[],[],[],[],[],0,0,0,0,0⟩
def QW:aM:=iU 0 ⟨0,0,0,0,0,0,0,0,0,0,0,0,H!,⟨#[]⟩,⟨#[]⟩,⟨#[]⟩,0,0⟩ 0 0 H!
def lk(p:aF)(e:Int):aM:=(bt p.links e).getD QW
def bH(p:aF)(e:Int)(l:aM):aF:={p with links:=bI p.links e l}
def aN(p:aF)(e:Int)(f:aM->aM):aF:=bH p e<|f<|lk p e
def dR(p:aF):List Int:=rI p.links
def jP(p:aF):List Int:=(dR p).filter λe=>(lk p e).dF
def dZ(p:aF):Int:=if p.side=1 then p.c.bP else p.c.cD
def dP(p:aF):Int:=60+2*p.c.restart*(p.c.tries+2)
def rq(p:aF):aF:={p with fails:=wrap64<|p.fails+1,tY:=p.now+(mC (min p.fails 62) p.c.base p.c.cap p.random).1}
def bC(p:aF)(e phase:Int):aF:={aN p e (λl=>{l with phase:=phase})with phases:=bI p.phases e phase}
def bX(p:aF)(e t o:Int):aF:={p with changes:=p.changes++[⟨p.now,e,t,o⟩]}
def qN(q:bh)(k:Int):Nat->bh
 |0=>q
 |n+1=>qN (iR q k).1 k n
def ku(p:aF)(e:Int):aF:=
 {p with queue:=(vk (qN p.queue e (aL p.queue e).waits.length) e).1,join:=(Aw p.join e).1}
def xj(p:aF)(e:Int):aF:={bC p e 6 with links:=dB p.links e}
def fq(x:PS)(e:Int):PS:=
 let p:=if(lk x.1 e).dF then bX (ku x.1 e) e 2 0 else if(lk x.1 e).building then rq x.1 else x.1
 (xj p e,(iT x.2 e).1)
def jC(p:aF)(e o:Int)(t:Bool):aF:=
 let i:={bH p e (iU e p.c (dZ p) o t)with last:=max p.last e}
 aN (bC i e 2) e (λl=>Bf l<|p.now+p.c.restart)
def vu(x:PS)(e:Int):PS:=
 let r:=lz x.2 x.1.side<|1-x.1.side
 if r.2.2≠0 then(rq x.1,r.1)else(jC x.1 r.2.1 e C?,r.1)
def jG(x:PS)(e:Int):PS:=
 let l:=lk x.1 e;let num:=if l.dials then l.num else l.neg.other.num
 let p:=if l.dials then x.1 else aN x.1 e (λl=>{l with num:=num})
 if l.dials=H!/\((num=0/\jP p≠[])\/(0<num/\num≠p.vo))then fq (p,x.2) e
 else
  let p:=bC p e 4;let p:=bX {p with join:=(kH p.join e).1} e 0 num
  (aN {p with fails:=0} e (λl=>{lC l (dZ p)with at_:=p.now+p.c.restart}),x.2)
def uD(p:aF)(e t:Int):aF:=
 aN (bC {p with queue:=(pG p.queue e).1} e 5) e (λl=>{l with drop:=t,over:=p.now+dP p})
def endP(x:PS)(e:Int):PS:=
 let p:=bC (bX (ku x.1 e) e 1 (lk x.1 e).drop) e 6;let p:=aN p e<|λl=>{l with over:=p.now+dP p}
 if p.aX then({p with links:=dB p.links e},(iT x.2 e).1)else(p,x.2)
def iL(x:PS)(e:Int):PS:=
 let l:=lk x.1 e
 if l.phase=2/\l.neg.state=9 then(bC (aN x.1 e<|λl=>kq l x.1.c x.1.side (x.1.now+x.1.c.restart) x.1.random) e 3,x.2)
 else if(l.phase=3\/l.phase=4)/\l.neg.state≠9 then fq x e
 else if l.phase=5/\l.neg.state=2 then endP x e
 else if l.building=C?/\(l.neg.state=3\/l.neg.state=5)then fq x e
 else x
def yD(x:PS)(e:Int)(k:bg):PS:=
 let l:=lk x.1 e
 if k.code=5/\l.phase=5/\x.1.aX=H! then(aN x.1 e (λl=>{l with term:=C! k}),x.2)
 else if k.code=9/\l.dF=H! then x
 else
  let p:=if k.code=10/\l.phase=4/\l.ready=H! then{aN x.1 e (λl=>{l with ready:=C?})with queue:=(Bd x.1.queue e).1}else x.1
  iL (aN p e (λl=>cq l k),x.2) e
def oO(x:PS)(e:Int)(c:cT):PS:=
 match(lk x.1 e).proof with
 |none=>x
 |some q=>
  let r:=cw q c;let p:=aN x.1 e<|λl=>lS {l with proof:=C! r.1} r.2.1;let p:={p with proved:=bI p.proved e ((bt p.proved e).getD H!||r.1.proved)}
  if r.1.failed then fq (p,x.2) e else if(lk p e).phase=3/\r.1.proved=C?/\r.1.taken=C? then jG (p,x.2) e else(p,x.2)
def ij(l:aM)(b:cR):aM:=if(dJ b).2=0 then jO l 49197 (dJ b).1 else l
def pI(p:aF)(e:List cR):aF:=match jP p with|[]=>p|t::_=>aN p t<|λl=>e.foldl ij l
def pZ(e t:Int):Int:=1+e+256*t
def iI(p:aF):Int:=(p.links.filter λx=>K? (x.2.phase=4)).length
def zI(p:aF):Int:=(p.links.filter λx=>K? (x.2.phase≠4)).length
def nC(p:aF)(e:List bD):Option Int:=
 match e.find? λo=>K? (o.1=2)with
 |none=>L?
 |some o=>if au p.links (cF o.2.data.toList)then C! (cF o.2.data.toList)else L?
def jq(x:PS)(b:cR)(e:Int):Bool:=
 if b.code=1 then K? (qY x.2 x.1.side<x.1.c.aV)&&K? (iI x.1<x.1.c.links)
 else if b.code=5 then(match nC x.1 b.opts with
  |none=>H!
  |some k=>(decide ((lk x.1 k).phase=4)&&K? (1<iI x.1))||(decide ((lk x.1 k).phase=5)&&K? ((lk x.1 k).drop=e)))
 else H!
def mD(p:aF)(t:List bD)(e:Int):aF:=match nC p t with|none=>p|some k=>if(lk p k).phase=4 then uD p k e else p
def dA(e:Int)(p:aF)(b:cR):aF:=
 if b.answer≠0 then p else if b.code=2 then{p with vo:=e}else if b.code=6 then mD p b.opts e else p
def iJ(x:PS)(b:cR):PS:=
 if b.answer≠0 then(rq x.1,x.2)else if b.code=2 then vu x (pZ b.id x.1.side)else if b.code=6 then(mD x.1 b.opts<|pZ b.id x.1.side,x.2)else x
def Ag(x:PS)(b:cR):PS:=
 let e:=pZ b.id<|1-x.1.side;let r:=lw x.1.cC b<|!x.1.aX&&jq x b e;let p:=r.2.1.foldl (dA e)<|pI {x.1 with cC:=r.1} r.2.1
 if gi x.1.cC=C?/\gi p.cC=H!/\r.2.1=[]then iJ (p,x.2) p.cC.last else(p,x.2)
def dL(x:PS)(e:Int)(f:Int×List UInt8):PS:=
 let l:=lk x.1 e
 if f.1=49185 then(if(dx f.2).2=0 then yD x e (dx f.2).1 else x)
 else if f.1=49699 then(if(iG f.2).2=0/\l.proof.isSome=C?/\l.phase≠6 then oO x e (iG f.2).1 else x)
 else if f.1=61/\l.dF=C? then
  (if(oM f.2 x.1.c.short).2=0 then
    let r:=rT x.1.join e (oM f.2 x.1.c.short).1
    ({x.1 with join:=r.1,got:=x.1.got++r.2.1},x.2)
   else x)
 else if f.1=49197/\l.dF=C? then(if(dK f.2).2=0 then Ag x (dK f.2).1 else x)
 else x
def qO(x:PS)(e:Int):List (Int×List UInt8)->PS
 |[]=>x
 |f::t=>if au x.1.links e then qO (dL x e f) e t else x
def rN(x:PS)(e:Int):PS:=
 let r:=nr x.2 e x.1.side;let t:=gL (lk x.1 e) r.2.1
 qO (bH x.1 e t.1,r.1) e t.2
def rV(x:PS)(e:Int):PS:=
 let l:=lk x.1 e
 if(l.phase=5\/l.phase=6)/\l.over<=x.1.now then fq x e
 else if x.1.now<l.at_ then x
 else
  let p:=aN x.1 e<|λl=>{l with at_:=x.1.now+x.1.c.restart}
  if l.phase=2\/l.phase=5 then
   (if l.neg.state=9 then(p,x.2)
    else
     let p:=aN p e<|λl=>wk l 4
     if(lk p e).neg.state=3\/(lk p e).neg.state=2 then fq (p,x.2) e else(p,x.2))
  else if l.phase=3 then(if(kr (lk p e) x.1.c.tries).2 then(bH p e (kr (lk p e) x.1.c.tries).1,x.2)else fq (bH p e (kr (lk p e) x.1.c.tries).1,x.2) e)
  else if l.phase=4 then(if l.ready then(p,x.2)else(aN p e (λl=>lC l<|dZ p),x.2))
  else(p,x.2)
def gW(x:PS):PS:=(dR x.1).foldl (λx e=>if Uq x.2 e then x else fq x e) x
def pJ(s:aU):Nat->aF->Int->Int->aF
 |0,p,_,_=>p
 |t+1,p,e,n=>
  if 0<e/\n<=p.last+65536 then
   (if Uq s n then pJ s t (jC p n 0 H!) (e-1) ((jC p n 0 H!).last+1)else pJ s t p e (n+1))
  else p
def vv(x:PS):PS:=
 let x:=gW x
 (pJ x.2 (9*65537) x.1 (qY x.2 x.1.side-x.1.links.length)<|x.1.last+1,x.2)
def lD(p:aF):Option Int:=((dR p).filter λe=>K? ((lk p e).phase=4)).getLast?
def nD(p:aF)(way:Int):aF×Bool:=
 let p:=if way≠p.way then{p with way:=way,steady:=0}else p
 let p:={p with steady:=wrap64 (p.steady+1)}
 (p,decide (way≠0)&&K? (p.c.hold<=p.steady))
def mS(p:aF):aF:=
 if p.now<p.jF then p
 else
  let r:=kX p.cC;let p:={p with jF:=p.now+p.c.restart,cC:=r.1}
  if r.2.2≠0 then rq p else pI p [r.2.1]
def wF(p:aF)(e:Int)(t:List bD):aF:=
 let r:=YW p.cC e t
 if r.2.2=0 then pI {p with cC:=r.1,jF:=p.now+p.c.restart} [r.2.1]else{p with cC:=r.1}
def jr(x:PS):PS:=
 let e:=iI x.1;let o:=nZ x.1.load x.1.c.rate x.1.c.least x.1.c.links;let t:Int:=if e<o then 1 else if o<e then-1 else 0
 let r:=nD x.1 t;let p:=r.1
 if gi p.cC then(mS p,x.2)
 else if 0<zI p\/p.now<p.tY then(p,x.2)
 else if e=0 then vu (p,x.2) 0
 else if r.2=C?/\0<t then(wF p 1 [],x.2)
 else if r.2=C?/\t<0 then(wF p 5 [(2,bytesOf<|words [(lD p).getD 0])],x.2)
 else(p,x.2)
def kv(e:Int):Nat->aF->Int->aF
 |0,p,_=>p
 |n+1,p,o=>
  let r:=bY p.queue e
  if r.2.2≠0\/o<r.2.1.d.size then{p with queue:=r.1}
  else
   let t:={p with queue:=(iR r.1 e).1};let i:=if(eU r.2.1 p.c.short).2=0 then aN t e (λl=>jO l 61 (eU r.2.1 p.c.short).1)else t
   kv e n i (o-r.2.1.d.size)
def yE(p:aF):aF:=
 let e:=dR p
 (List.range e.length).foldl (λp i=>let t:=e.getD ((i+p.now.toNat)%e.length) 0;if(lk p t).dF then kv t 8 p p.c.rate else p) p
def kK(x:PS)(e:Int):PS:=
 let l:=lk x.1 e
 if x.1.aX=C?/\l.neg.state=9 then(aN x.1 e (λl=>{wk l 3 with at_:=x.1.now+x.1.c.restart}),x.2)
 else if x.1.aX=H! then(match l.term with|some k=>endP (aN x.1 e (λl=>cq l k),x.2) e|none=>x)
 else x
def iM(x:PS)(e:Int):PS:=
 let x:=if(lk x.1 e).phase=5/\pH x.1.queue e=0 then kK x e else x
 let l:=lk x.1 e
 if l.out≠[]then(aN x.1 e (λl=>{l with out:=[]}),(kB x.2 e x.1.side<|bytesOf l.out).1)else x
def nu(x:PS)(random:Int):PS:=
 let x:PS:=({x.1 with random:=max random 0},x.2);let x:=vv x;let x:=(dR x.1).foldl rN x;let x:=(dR x.1).foldl rV x;let x:=if x.1.aX then jr x else x
 let x:PS:=(yE x.1,x.2);let x:=(dR x.1).foldl iM x
 ({x.1 with now:=x.1.now+1},x.2)
def bE(p:aF)(s:ByteArray):aF×Int:=
 if s.size<1\/512<s.size then(p,2602)else if p.c.cv<=fN p.queue then(p,2601)else({p with queue:=(ig p.queue s).1},(ig p.queue s).2)
def jD(p:aF)(n:Int):aF×Int:=if n<0\/1048576<n then(p,2600)else({p with load:=n},0)
structure fD where
 a:aF
 b:aF
 s:aU
 time:Int
 random:Int
 cr:List ByteArray
 cH:List ByteArray
def js(c:cP):fD:=⟨rU c 0,rU c 1,sw c.aV 65536,0,0,[],[]⟩
def jQ(m:fD):fD:=
 let x:=nu (m.a,m.s)<|wrap64<|m.random+m.time;let y:=nu (m.b,x.2)<|wrap64<|m.random+m.time
 {m with a:=x.1,b:=y.1,s:=y.2,time:=m.time+1}
def bV:Nat->fD->fD
 |0,m=>m
 |n+1,m=>bV n<|jQ m
structure Bg where
 kind:Int
 peer:Int
 n:Int
 data:ByteArray
def xG(d:ByteArray):Int:=if d.size=0 then 0 else ko d.data.toList 0
def gr(m:fD)(a:Bg):fD×Int:=
 if a.kind=0 then(if a.n<1\/4096<a.n\/1073741824<m.time+a.n then(m,2700)else(bV a.n.toNat m,0))
 else if a.kind=1 then
  (if a.peer=0 then(let r:=bE m.a a.data;({m with a:=r.1,cr:=if r.2=0 then m.cr++[a.data]else m.cr},r.2))
   else if a.peer=1 then(let r:=bE m.b a.data;({m with b:=r.1,cH:=if r.2=0 then m.cH++[a.data]else m.cH},r.2))
   else(m,2700))
 else if a.kind=2 then({m with s:=(iT m.s a.n).1},(iT m.s a.n).2)
 else if a.kind=3 then({m with s:=(rM m.s a.n a.peer).1},(rM m.s a.n a.peer).2)
 else if a.kind=4 then({m with s:=(lX m.s a.n a.peer<|xG a.data).1},(lX m.s a.n a.peer<|xG a.data).2)
 else if a.kind=5 then({m with s:=(vl m.s a.n).1},(vl m.s a.n).2)
 else if a.kind=6 then(if a.n<0\/1099511627776<a.n then(m,2700)else({m with random:=a.n},0))
 else if a.kind=7 then({m with s:=(kB m.s a.n a.peer a.data).1},(kB m.s a.n a.peer a.data).2)
 else if a.kind=8 then({m with a:=(jD m.a a.n).1,b:=(jD m.b a.n).1},(jD m.b a.n).2)
 else(m,2700)
def ptr(b:Nat):Value:=P? b
def dc(f:bF):List Value:=[H? f.b,H? f.e,A! f.seq,D? f.d]
def Jy:Elem E? bF where
 tS:=339
 tE:=228
 size:=4
 bytes:=32
 z:=.agg #[H? H!,H? H!,A! 0,D? ByteArray.empty]
 enc:=dc
 und:=underlying339
 info:=M?
 zs:=rfl
 len:=λ_=>rfl
 one:=λa u e=>by
  simp only[dc,n!,Ξ,baE]at e;rcases e with rfl|rfl|rfl|rfl<;>rfl
 pos:=I!
def Jz:Elem E? (bF×Int)where
 tS:=259
 tE:=311
 size:=5
 bytes:=40
 z:=.agg #[H? H!,H? H!,A! 0,D? ByteArray.empty,A! 0]
 enc:=λx=>[H? x.1.b,H? x.1.e,A! x.1.seq,D? x.1.d,A! x.2]
 und:=underlying259
 info:=M?
 zs:=rfl
 len:=λ_=>rfl
 one:=λa u e=>by
  simp only[n!,Ξ,baE]at e;rcases e with rfl|rfl|rfl|rfl|rfl<;>rfl
 pos:=I!
def Ci:Elem E? Ch where
 tS:=38
 tE:=47
 size:=4
 bytes:=32
 z:=.agg #[A! 0,A! 0,A! 0,A! 0]
 enc:=λx=>[A! x.yC,A! x.acA,A! x.kind,A! x.id]
 und:=underlying38
 info:=M?
 zs:=rfl
 len:=λ_=>rfl
 one:=λa u hu=>by
  exact mea
 pos:=I!
abbrev qm:=(List UInt8×Bool)×Nat×Nat
def nE:Elem E? qm where
 tS:=142
 tE:=147
 size:=2
 bytes:=32
 z:=.agg #[Q!,H? H!]
 enc:=λx=>[J! (C!<|B? x.2.1 0) x.1.1.length x.2.2,H? x.1.2]
 und:=underlying142
 info:=M?
 zs:=rfl
 len:=λ_=>rfl
 one:=λa u e=>by
  simp only[n!,Ξ,baE]at e;rcases e with rfl|rfl<;>rfl
 pos:=I!
def aK(c:cT):List Value:=[A! c.code,A! c.id,D? c.value,D? c.name]
def kL:Elem E? cT where
 tS:=273
 tE:=104
 size:=4
 bytes:=48
 z:=.agg #[A! 0,A! 0,D? ByteArray.empty,D? ByteArray.empty]
 enc:=aK
 und:=underlying273
 info:=M?
 zs:=rfl
 len:=λ_=>rfl
 one:=λa u e=>by
  simp only[aK,n!,Ξ,baE]at e;rcases e with rfl|rfl|rfl|rfl<;>rfl
 pos:=I!
abbrev K4:=cR×Option Addr×Nat
def Cj:Elem E? K4 where
 tS:=282
 tE:=157
 size:=4
 bytes:=48
 z:=.agg xae
 enc:=λx=>[A! x.1.code,A! x.1.id,A! x.1.answer,J! x.2.1 x.1.opts.length x.2.2]
 und:=underlying282
 info:=M?
 zs:=rfl
 len:=λ_=>rfl
 one:=λa u hu=>by
  exact mea
 pos:=I!
def sQ:Elem E? (Int×List UInt8)where
 tS:=187
 tE:=190
 size:=2
 bytes:=24
 z:=.agg #[A! 0,D? ByteArray.empty]
 enc:=λx=>[A! x.1,D?<|bytesOf x.2]
 und:=underlying187
 info:=M?
 zs:=rfl
 len:=λ_=>rfl
 one:=λa u e=>by
  simp only[n!,Ξ,baE]at e;rcases e with rfl|rfl<;>rfl
 pos:=I!
def fB:Elem E? ByteArray where
 tS:=51
 tE:=9
 size:=1
 bytes:=16
 z:=D? ByteArray.empty
 enc:=λx=>[D? x]
 und:=underlying51
 info:=M?
 zs:=rfl
 len:=λ_=>rfl
 one:=λa u hu=>by
  exact bcp
 pos:=I!
def Ax:Elem E? Nat where
 tS:=95
 tE:=97
 size:=1
 bytes:=8
 z:=.pointer L?
 enc:=λx=>[ptr x]
 und:=underlying95
 info:=M?
 zs:=rfl
 len:=λ_=>rfl
 one:=λa u hu=>by
  exact bcp
 pos:=I!
def DZ:Elem E? Nat where
 tS:=337
 tE:=258
 size:=1
 bytes:=8
 z:=.pointer L?
 enc:=λx=>[ptr x]
 und:=underlying337
 info:=M?
 zs:=rfl
 len:=λ_=>rfl
 one:=λa u hu=>by
  exact bcp
 pos:=I!
def mU:Elem E? Int where
 tS:=35
 tE:=3
 size:=1
 bytes:=8
 z:=A! 0
 enc:=λx=>[A! x]
 und:=underlying35
 info:=M?
 zs:=rfl
 len:=λ_=>rfl
 one:=λa u hu=>by
  exact bcp
 pos:=I!
def AM(l:List Int):List Int:=l.mergeSort λx y=>K? (x<=y)
theorem CC(l:List Int):(AM l).length=l.length:=bb7 _
theorem JW{w:D!}{v:I?}{l:List Int}(h:jd mU w v l)(N:l.length<4611686018427387904):
 G! E? 87 #[v] w λe s=>e=.returned (.tuple #[])/\jd mU s v (AM l)/\Only (λk=>v.ownBlock=C! k) w s:=by
 rcases h with⟨rfl,a,rfl⟩|⟨b,t,r,d,rfl,H,y,i,f,q⟩
 .apply(Any.slices_Sort_int_none Fb a 0 w).mono;rintro e s ⟨rfl,rfl⟩;exact⟨rfl,.inl ⟨y?<|CC [],a,rfl⟩,Only.refl _ _⟩
 .have g:=(i!.1 i).1
  have z:Go.Sort.Holds (Value.int .i64) w b t l.toArray:=λj u=>by
   have o:j<l.length:=by simpa using u
   have e:=q j (by show j<l.length*1;omega)
   have c:(l.flatMap mU.enc)[j]? =N? (l[j]):=by
    have:=mU.at l j o 0 I!;rw[show j*mU.size+0=j from by show j*1+0=j;omega]at this;exact this
   constructor
   .simp[World.cell?,i,e,c,o]
   .simp[World.frozen?,i]
  apply(Wv b t r l w z g N).mono;rintro e s ⟨rfl,n,m,rfl⟩;have R:=CC l
  have E:(Go.Sort.grow (Go.Sort.putRow (Value.int .i64) (Go.Sort.ahead w n) b t (AM l).toArray) m).heap[b]? =C! (.cells (Go.Sort.putCells (Value.int .i64) t (AM l).toArray d) mU.tE (0,0)):=by
   show((Go.Sort.mapBlock (Go.Sort.ahead w n) b _).heap++m)[b]? =_;rw[na8<|by simp[Go.Sort.mapBlock];exact g];simp[Go.Sort.mapBlock,ba8,i,Go.Sort.onCells]
  refine⟨rfl,.inr ⟨b,t,r,_,by rw[R],B!,y,E,by simp[Go.Sort.putCells];exact f,λj u=>?_⟩,?_⟩
  .have o:j<(AM l).length:=by have:j<(AM l).length*1:=u;omega
   have c:((AM l).flatMap mU.enc)[j]? =N? ((AM l)[j]):=by
    have:=mU.at (AM l) j o 0 I!;rw[show j*mU.size+0=j from by show j*1+0=j;omega]at this;exact this
   rw[c];have A:t+j<d.size:=by have:t+r*1<=d.size:=f;omega
   simp[Go.Sort.putCells,Array.getElem?_mapIdx,A,o]
  .refine⟨rfl,rfl,rfl,by simp[Go.Sort.grow,Go.Sort.putRow,Go.Sort.mapBlock],λk O S=>?_⟩;have I:b≠k:=λe=>S (by rw[e];rfl);show((Go.Sort.mapBlock (Go.Sort.ahead w n) b _).heap++m)[k]? =_;rw[na8<|by simp[Go.Sort.mapBlock];exact O];simp[Go.Sort.mapBlock,ba8,I]
