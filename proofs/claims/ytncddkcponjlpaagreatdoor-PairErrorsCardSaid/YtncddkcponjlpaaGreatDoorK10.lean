/- Walks and plain laws. -/
import Derived.Test.YtncddkcponjlpaaGreatDoorRows
import Derived.Test.YtncddkcponjlpaaGreatDoorK09
set_option linter.unusedVariables false
set_option linter.unusedSimpArgs false
set_option maxHeartbeats 0
set_option maxRecDepth 99999
namespace Go.Proofs.YtncddkcponjlpaaGreatDoor
open Go.RowKit Go.Proofs.Tryz
open Go renaming World→D!,Value→I?,Calls→G!,IntKind→ncy
open Go.RowKit renaming Hid→E!
open Decidable renaming decide→K?
open Option renaming some→C!,none→L?
open Bool renaming true→C?,false→H!
open Go.Proofs.Tryz renaming prog→E?
variable{P:Prop}
section
def aq(t u:Tag):Prop:=t<+:u
theorem aq.self(t:Tag):aq t t:=List.prefix_refl t
theorem aq.app(t u:Tag):aq t<|t++u:=List.prefix_append t u
theorem aq.trans{t u v:Tag}(h:aq t u)(k:aq u v):aq t v:=List.IsPrefix.trans h k
theorem jI(t a b:Tag):aq (t++a) (t++b)↔a<+:b:=mfK t
theorem sR{t a u:Tag}(h:aq (t++a) u):aq t u:=(aq.app t a).trans h
theorem eB{t:Tag}{a:Int}{b:Tag}:¬aq (t++(a::b)) t:=λh=>by
 have:=List.IsPrefix.length_le h;simp at this;omega
structure QX(w:D!)(G:Nat->Tag)(t:Tag)(b:Nat)(v:I?)(l:fk):Prop where
 blk:aO w b 261 #[v,.bool l.drains]
 tag:G b=t
 row:oy Jz G (t++[0]) w v l.waits
def wG(w:D!)(G:Nat->Tag)(t:Tag)(b:Nat)(l:fk):Prop:=∃v,QX w G t b v l
structure EM where
 v:I?
 mo:Nat
 ml:Nat
 f:Int->Nat
def oA(x:EM)(m:bh):Array Value:= #[A! m.size,H? m.short,A! m.seq,x.v,A! m.cut,.map<|C! x.mo,.map<|C! x.ml]
structure cN(w:D!)(G:Nat->Tag)(t:Tag)(b:Nat)(x:EM)(m:bh):Prop where
 blk:aO w b 137<|oA x m
 tag:G b=t
 IG:oy fB G (t++[1]) w x.v m.bB
 YY:G x.mo=t++[2]
 YZ:G x.ml=t++[3]
 mo:bp w x.mo<|dY (λ_ n=>A! n) m.opn
 ml:bp w x.ml<|dY (λk _=>ptr<|x.f k) m.lanes
 lane:∀k l,(k,l)∈m.lanes->wG w G (t++[4,k]) (x.f k) l
def eC(w:D!)(G:Nat->Tag)(t:Tag)(b:Nat)(m:bh):Prop:=∃x,cN w G t b x m
def yI(f:bF):Value:=.agg (dc f).toArray
def sx(t e:Nat)(m:aT):Array Value:= #[A!<|gh m.short,A! m.next,H? m.short,A! m.most,.map<|C! t,.map<|C! e,A! m.lost]
structure uE(w:D!)(G:Nat->Tag)(t:Tag)(b lb hb:Nat)(m:aT):Prop where
 blk:aO w b 154<|sx lb hb m
 tag:G b=t
 tl:G lb=t++[0]
 th:G hb=t++[1]
 ml:bp w lb<|dY (λ_ n=>A! n) m.links
 mh:bp w hb<|dY (λ_ f=>yI f) m.held
def yJ(w:D!)(G:Nat->Tag)(t:Tag)(b:Nat)(m:aT):Prop:=∃o e,uE w G t b o e m
def kM(e t:I?)(m:dD):Array Value:= #[A! m.ask.code,A! m.ask.id,A! m.ask.answer,e,A! m.left,H? m.aX,A! m.tries,A! m.id,A! m.last.code,A! m.last.id,A! m.last.answer,t]
structure yK(w:D!)(G:Nat->Tag)(t:Tag)(b:Nat)(oa ol:I?)(m:dD):Prop where
 blk:aO w b 161<|kM oa ol m
 tag:G b=t
 oa:pd dS G (t++[0]) w oa m.ask.opts
 ol:pd dS G (t++[0]) w ol m.last.opts
def F2(w:D!)(G:Nat->Tag)(t:Tag)(b:Nat)(m:dD):Prop:=∃e o,yK w G t b e o m
def sS(m:bM):Array Value:= #[D? m.expect,D? m.bZ,A! m.left,H? m.started,H? m.proved,D? m.name,D? m.secret,H? m.taken,H? m.failed]
structure qQ(w:D!)(G:Nat->Tag)(t:Tag)(b:Nat)(m:bM):Prop where
 blk:aO w b 304<|sS m
 tag:G b=t
def vz(w:D!)(G:Nat->Tag)(t:Tag)(x:qm):Prop:=
 G x.2.1=t/\x.1.1.length<=x.2.2/\x.2.2<=maxLen/\∃e o,w.heap[x.2.1]? =C! (.cells e 5 o)/\yF o x.2.2/\e.size=x.2.2/\e.toList.take x.1.1.length=Lib.byteCells x.1.1
def jS(w:D!)(G:Nat->Tag)(t:Tag)(v:I?)(e:List<|List UInt8×Bool):Prop:=
 ∃l:List qm,oy nE G t w v l/\l.map (·.1)=e/\(∀x∈l,vz w G (t++[0]) x)/\(l.map (·.2.1)).Nodup
def gD(v:I?)(p:xh):List Value:=[v,A! p.bytes,A! p.lost]
structure sU(w:D!)(G:Nat->Tag)(t:Tag)(b:Nat)(v0 v1:I?)(c:mB):Prop where
 blk:aO w b 168 (gD v0 c.p0++gD v1 c.p1).toArray
 tag:G b=t
 a0:jS w G (t++[0]) v0 c.p0.pieces
 a1:jS w G (t++[1]) v1 c.p1.pieces
def qo(w:D!)(G:Nat->Tag)(t:Tag)(b:Nat)(c:mB):Prop:=∃e o,sU w G t b e o c
def mE(e:Nat)(m:aU):Array Value:= #[A! m.aV,A! m.most,A! m.last,.map<|C! e,A! m.sO]
structure iW(w:D!)(G:Nat->Tag)(t:Tag)(b mb:Nat)(f:Int->Nat)(m:aU):Prop where
 blk:aO w b 122<|mE mb m
 tag:G b=t
 tm:G mb=t++[0]
 mm:bp w mb<|dY (λk _=>ptr<|f k) m.up
 Y0:∀k c,(k,c)∈m.up->qo w G (t++[1,k]) (f k) c
def aY(w:D!)(G:Nat->Tag)(t:Tag)(b:Nat)(m:aU):Prop:=∃e f,iW w G t b e f m
variable{T:Tag->Prop}{G G1:Nat->Tag}{w w1:D!}{t:Tag}{b:Nat}
theorem Step.only(e:Step T G w G1 w1):Only (λb=>T<|G b) w w1:=⟨e.os,e.tape,e.output,e.size,e.keep⟩
theorem wG.step{l:fk}(h:wG w G t b l)(e:Step T G w G1 w1)(n:∀u,aq t u->¬T u):wG w1 G1 t b l:=by
 obtain⟨v,o,i,s⟩:=h;exact⟨v,o.step e<|by rw[i];exact n _<|aq.self _,(e.old _ o.lt).trans i,s.step e<|n _<|aq.app _ _⟩
theorem cN.step{x:EM}{m:bh}(h:cN w G t b x m)(e:Step T G w G1 w1)(hn:∀u,aq t u->¬T u):cN w1 G1 t b x m:=
 ⟨h.blk.step e bck,(e.old _ h.blk.lt).trans h.tag,h.IG.step e (hn _ (aq.app _ _)),(e.old _ h.mo.lt).trans h.YY,(e.old _ h.ml.lt).trans h.YZ,
   h.mo.step e (by rw[h.YY];exact hn _ (aq.app _ _)),h.ml.step e (by rw[h.YZ];exact hn _ (aq.app _ _)),λk l o=>(h.lane k l o).step e λu i=>hn u (sR i)⟩
theorem eC.step{m:bh}(h:eC w G t b m)(o:Step T G w G1 w1)(e:∀u,aq t u->¬T u):eC w1 G1 t b m:=h.imp λ_ h=>h.step o e
theorem uE.step{i o:Nat}{m:aT}(h:uE w G t b i o m)(e:Step T G w G1 w1)(hn:∀u,aq t u->¬T u):uE w1 G1 t b i o m:=
 ⟨h.blk.step e bck,(e.old _ h.blk.lt).trans h.tag,(e.old _ h.ml.lt).trans h.tl,(e.old _ h.mh.lt).trans h.th,h.ml.step e<|by rw[h.tl];exact hn _<|aq.app _ _,h.mh.step e<|by rw[h.th];exact hn _<|aq.app _ _⟩
theorem yJ.step{m:aT}(h:yJ w G t b m)(o:Step T G w G1 w1)(e:∀u,aq t u->¬T u):yJ w1 G1 t b m:=h.imp λ_ h=>h.imp λ_ h=>h.step o e
theorem yK.step{o i:I?}{m:dD}(h:yK w G t b o i m)(e:Step T G w G1 w1)(hn:∀u,aq t u->¬T u):yK w1 G1 t b o i m:=
 ⟨h.blk.step e bck,(e.old _ h.blk.lt).trans h.tag,h.oa.step e<|hn _<|aq.app _ _,h.ol.step e<|hn _<|aq.app _ _⟩
theorem F2.step{m:dD}(h:F2 w G t b m)(o:Step T G w G1 w1)(e:∀u,aq t u->¬T u):F2 w1 G1 t b m:=h.imp λ_ h=>h.imp λ_ h=>h.step o e
theorem qQ.step{m:bM}(h:qQ w G t b m)(e:Step T G w G1 w1)(o:¬T t):qQ w1 G1 t b m:=⟨h.blk.step e<|by rw[h.tag];exact o,(e.old _ h.blk.lt).trans h.tag⟩
theorem vz.step{x:qm}(h:vz w G t x)(i:Step T G w G1 w1)(c:¬T t):vz w1 G1 t x:=by
 obtain⟨e,l,d,n,s,o,r⟩:=h;exact⟨(i.old _ (i!.1 o).1).trans e,l,d,n,s,i.heap o<|by rw[e];exact c,r⟩
theorem jS.step{v:I?}{i:List (List UInt8×Bool)}(h:jS w G t v i)(o:Step T G w G1 w1)(e:∀u,aq t u->¬T u):jS w1 G1 t v i:=by
 obtain⟨l,n,s,r,d⟩:=h;exact⟨l,n.step o<|e _<|aq.self _,s,λx c=>(r x c).step o<|e _<|aq.app _ _,d⟩
theorem qo.step{c:mB}(h:qo w G t b c)(e:Step T G w G1 w1)(o:∀u,aq t u->¬T u):qo w1 G1 t b c:=by
 obtain⟨d,m,n,s,r,l⟩:=h;exact⟨d,m,n.step e<|by rw[s];exact o _<|aq.self _,(e.old _ n.lt).trans s,r.step e (λu i=>o u<|sR i),l.step e<|λu i=>o u<|sR i⟩
theorem iW.step{o:Nat}{f:Int->Nat}{m:aU}(h:iW w G t b o f m)(e:Step T G w G1 w1)(hn:∀u,aq t u->¬T u):iW w1 G1 t b o f m:=
 ⟨h.blk.step e bck,(e.old _ h.blk.lt).trans h.tag,(e.old _ h.mm.lt).trans h.tm,h.mm.step e<|by rw[h.tm];exact hn _<|aq.app _ _,λk c i=>(h.Y0 k c i).step e λu n=>hn u<|sR n⟩
theorem aY.step{m:aU}(h:aY w G t b m)(o:Step T G w G1 w1)(e:∀u,aq t u->¬T u):aY w1 G1 t b m:=h.imp λ_ h=>h.imp λ_ h=>h.step o e
end
section
section
variable{α:Type}{f:α->Int}{a m m':Int}{P P':α->Prop}
def pK(f:α->Int)(a:Int)(P:α->Prop)(m:Int):Prop:=m<=a/\(∀x,P x->m<=f x)/\(m=a\/∃x,P x/\m=f x)
theorem pK.start(f:α->Int)(a:Int)(h:∀x,¬P x):pK f a P a:=⟨Y! _,λx e=>(h x e).elim,.inl rfl⟩
theorem pK.step(h:pK f a P m)(x:α)(t:∀y,P' y↔P y\/y=x):pK f a P'<|min m<|f x:=by
 obtain⟨s,i,n⟩:=h;refine⟨B!,λy o=>?_,?_⟩
 .rcases(t y).1 o with h|rfl
  .have:=i y h;omega
  .omega
 .by_cases r:m<=f x
  .rw[show min m (f x)=m from B!];rcases n with e|⟨y,o,e⟩
   .exact .inl e
   .exact .inr ⟨y,(t y).2 (.inl o),e⟩
  .rw[show min m (f x)=f x from B!];exact .inr ⟨x,(t x).2 (.inr rfl),rfl⟩
theorem pK.Zy(h:pK f a P m)(o:pK f a P m'):m=m':=by
 obtain⟨c,i,n⟩:=h;obtain⟨u,s,r⟩:=o
 have l:m<=m':=by
  rcases r with e|⟨y,t,e⟩
  .omega
  .have:=i y t;omega
 have d:m'<=m:=by
  rcases n with e|⟨y,t,e⟩
  .omega
  .have:=s y t;omega
 omega
theorem pK.congr(h:pK f a P m)(t:∀y,P' y↔P y):pK f a P' m:=by
 have e:=funext λy=>propext<|t y;rw[e];exact h
theorem Bk(f:α->Int):∀(l:List α) (a:Int),pK f a (· ∈l) (l.foldl (λm x=>min m<|f x) a)
 |[],a=>pK.start f a<|λx hx=>ϭ
 |x::l,a=>by
  rw[r!];let⟨n,o,i⟩:=Bk f l<|min a<|f x;refine⟨B!,λy t=>?_,?_⟩
  .rcases n!.1 t with rfl|t
   .omega
   .exact o y t
  .rcases i with e|⟨y,t,e⟩
   .by_cases s:a<=f x
    .left;omega
    .right;exact⟨x,x!,B!⟩
   .right;exact⟨y,τ _ t,e⟩
end
section
variable{α:Type}{es left:KV α}{k:Int}{v:α}
theorem vF{t:Type}{f:Int->α->t}{m:KV α}{u:t}(h:(k,u)∈dY f m):∃a,(k,a)∈m/\u=f k a:=by
 unfold dY at h;let⟨y,o,e⟩:=a!.1 h;simp only[baZ]at e;obtain⟨rfl,rfl⟩:=e;exact⟨y.2,o,rfl⟩
theorem lF{y:Int×α}(h:y∈dB es k):y∈es:=(List.mem_filter.1 h).1
theorem tf{e:Type}{f:Int->α->e}{m:KV α}(h:dY f m=[]):m=[]:=by
 unfold dY at h;exact List.map_eq_nil_iff.1 h
theorem visit(l:(left.map (·.1)).Nodup)(c:∀y∈left,y∈es)(r:(k,v)∈left)(y:Int×α):(y∈es/\y∉dB left k)↔(y∈es/\y∉left)\/y=(k,v):=by
 constructor
 .rintro⟨o,i⟩;by_cases n:y∈left
  .right
   have e:y.1=k:=by
    cases s:K? (y.1=k)
    .exact absurd (List.mem_filter.2 ⟨n,by simp[bco s]⟩) i
    .exact bbN s
   have d:=BM l n e;have t:=BM l r rfl;rw[d]at t;obtain⟨u,m⟩:=y;simp at t e;rw[t,e]
  .exact .inl ⟨o,n⟩
 .rintro(⟨o,i⟩|rfl)
  .exact⟨o,λh=>i<|lF h⟩
  .exact⟨c _ r,λh=>by have:=(List.mem_filter.1 h).2;simp at this⟩
theorem filter_one{l:KV α}{p q:Int×α->Bool}(i:(l.map (·.1)).Nodup)(o:au l k=C?)(s:∀y∈l,y.1=k->p y=H!/\q y=C?)(n:∀y∈l,y.1≠k->q y=p y):(l.filter q).length=(l.filter p).length+1:=by
 induction l with
 |nil=>simp[au]at o
 |cons x l c=>
  rw[i?,θ]at i;by_cases e:x.1=k
  .have d:=bbK λy t=>n y (τ _ t) λr=>i.1 (by rw[e,<-r];exact a!.2 ⟨y,t,rfl⟩);have:=s x x! e;rw[k?,k?,G? this.2,F!<|by simp[this.1],d,V!]
  .have h:au l k=true:=by rw[zE]at o;simpa[e]using o
   have:=c i.2 h (λy t=>s y<|τ _ t) λy t=>n y<|τ _ t;rw[k?,k?,n x x! e];split
   .rw[V!,V!];omega
   .exact this
end
theorem Zz{t:List Int}:∀{l2:List Int},t.Nodup->(∀x∈t,x∈l2)->t.length<=l2.length:=by
 induction t with
 |nil=>intro _ _ _;simp
 |cons a t s=>
  intro l2 h i;rw[θ]at h;have o:=i a x!;have n:=s (l2:=l2.erase a) h.2 λx hx=>(List.mem_erase_of_ne<|λe:x=a=>h.1 mdC).2<|i x<|τ _ hx;rw[List.length_erase_of_mem o]at n;have:=List.length_pos_of_mem o;exact baN
theorem agR{j:aT}(n:Nat)(f:(n:Int)<=cG j)(d:∀i:Nat,i<n->au j.held (qM j i)=C?):n<=j.held.length:=by
 have r:((List.range n).map λi:Nat=>qM j i).Nodup:=by
  refine List.pairwise_map.2<|(List.pairwise_lt_range (n:=n)).imp_of_mem λ{x y} t u m e=>?_;have g:=List.mem_range.1 t;have w:=List.mem_range.1 u;have o:=Uz j x B! B!;have s:=Uz j y B! B!;rw[e,s]at o;omega
 have l:=Zz r (l2:=j.held.map (·.1)) λx t=>by
  obtain⟨i,c,rfl⟩:=a!.1 t;exact dI.1<|d i<|List.mem_range.1 c
 simpa using l
theorem JM{j:aT}{m:Int}(s:∀x∈j.links,¬x.2<0)(h:pK (λx:Int×Int=>eM j x.2) (cG j) (· ∈j.links) m):fV j=if m=cG j then-1 else m:=by
 have e:=h.Zy<|Bk _ j.links<|cG j;have r:j.links.any (λx=>K? (x.2<0))=false:=bbP.2 λx i=>by simpa using s x i
 unfold fV;by_cases o:j.links=[]
 .rw[G? (.inl o),e,o];simp
 .rw[F!<|by rw[r];simp[o],<-e,F!];intro n;let⟨x,i⟩:=List.exists_mem_of_ne_nil _ o;have t:=h.2.1 x i;have l:=lj j x.2;have d:=eF j;have t:m<=eM j x.2:=t;unfold eM at t;rw[n]at t;split at t<;>omega
theorem Wh{j:aT}{x:Int×Int}(e:x∈j.links)(h:x.2<0):fV j= -1:=by
 unfold fV;rw[G? (.inr<|ϋ.2 ⟨x,e,bb4⟩)]
def om(j:aT)(o:Int)(left:KV bF):KV bF:=j.held.filter λy=>au left y.1|| !K? (gN j y.1<o)
def jW(j:aT)(o:Int)(left:KV bF):Nat:=(j.held.filter λy=> !au left y.1&&K? (gN j y.1<o)).length
theorem Wi(j:aT)(o:Int):om j o j.held=j.held/\jW j o j.held=0:=by
 unfold om jW;constructor
 .refine List.filter_eq_self.2 λy e=>?_;rw[dI.2<|a!.2 ⟨y,e,rfl⟩];rfl
 .rw[List.filter_eq_nil_iff.2 λy e=>?_]
  .rfl
  .rw[dI.2<|a!.2 ⟨y,e,rfl⟩];simp
theorem acN(j:aT)(o:Int):Af j o={j with held:=om j o [],lost:=j.lost+jW j o [],next:=qM j o}:=by
 unfold Af om jW;have e:∀k,au ([]:KV bF) k=false:=λk=>rfl;simp only[e,Bool.false_or,bcz,maS]
theorem ZA{j:aT}{o k:Int}{left:KV bF}(h:¬gN j k<o):om j o (dB left k)=om j o left/\jW j o (dB left k)=jW j o left:=by
 have t:=W? h;unfold om jW;constructor
 .refine bbK λy i=>?_;rw[lu];by_cases e:y.1=k
  .rw[e,t];simp
  .simp[e]
 .congr 1;refine bbK λy i=>?_;rw[lu];by_cases e:y.1=k
  .rw[e,t];simp
  .simp[e]
theorem ZB{j:aT}{o k:Int}{left:KV bF}(r:(j.held.map (·.1)).Nodup)(n:au j.held k=C?)(s:au left k=C?)(h:gN j k<o):
 om j o (dB left k)=dB (om j o left) k/\jW j o (dB left k)=jW j o left+1:=by
 have t:=b! h;unfold om jW;constructor
 .unfold dB;rw[me0];refine bbK λy i=>?_;show(au (dB left k) y.1||_)=_;rw[lu];by_cases e:y.1=k
  .rw[e,t];simp
  .simp[e]
 .refine filter_one r n (λy i e=>?_) λy i e=>?_
  .rw[lu,e,s,t];simp
  .rw[lu];simp[e]
end
structure Wj(j j':aT):Prop where
 h:j'.held.Sublist j.held
 l0:j.lost<=j'.lost
 l1:j'.lost+j'.held.length<=j.lost+j.held.length
 m:j'.most=j.most
 s:j'.short=j.short
 k:j'.links=j.links
theorem Wj.refl(j:aT):Wj j j:=⟨mds _,Y! _,Y! _,rfl,rfl,rfl⟩
theorem Gu{e:Type}(p:e->Bool):∀l:List e,(l.filter p).length+(l.filter λx=> !p x).length=l.length
 |[]=>rfl
 |x::l=>by
  have:=Gu p l;rw[k?,k?];cases h:p x<;>simp<;>omega
theorem E9(j:aT)(o:Int):Wj j<|Af j o:=by
 refine⟨List.filter_sublist,?_,?_,rfl,rfl,rfl⟩
 .show j.lost<=j.lost+_;omega
 .have:=Gu (λx:Int×bF=>K? (gN j x.1<o)) j.held;show j.lost+((j.held.filter λx=>K? (gN j x.1<o)).length:Int)+((j.held.filter λx=> !K? (gN j x.1<o)).length:Int)<=j.lost+j.held.length;omega
theorem Wk(j:aT)(f:bF)(m:Int):Wj j (fU j f m).1:=by
 unfold fU;split
 .exact E9 j 1
 .dsimp only;split
  .refine⟨oG j _,Y! _,?_,rfl,rfl,rfl⟩;have:=(oG j (gK j (j.held.length+1) 0 []).2.1.toNat).length_le;show j.lost+((nB j _).length:Int)<=_;omega
  .split
   .exact E9 j _
   .split
    .exact E9 j _
    .exact Wj.refl j
theorem On(j:aT):Wj j (mA j).1:=by
 unfold mA;split
 .exact Wj.refl j
 .exact E9 j _
theorem Oo(j:aT):Wj j (fA j).1:=by
 unfold fA;cases bt j.held j.next with
 |some f=>
  dsimp only;split
  .exact Wk j f _
  .exact On j
 |none=>
  dsimp only;split
  .exact⟨mds _,Y! _,Y! _,rfl,rfl,rfl⟩
  .exact On j
theorem Gv{j:aT}(h:gH j):(fA j).2.1=L?\/((fA j).2.2=C?/\(fA j).1.held.length<j.held.length):=by
 have t:(mA j).2.1=none:=by unfold mA;split<;>rfl
 unfold fA;cases o:bt j.held j.next with
 |some f=>
  dsimp only;by_cases e:(fU j f<|fV j).2.2=C?
  .rw[G? e];exact .inr ⟨e,(Gs h o (Gt j) e).2⟩
  .rw[F! e];exact .inl t
 |none=>
  dsimp only;split
  .exact .inl rfl
  .exact .inl t
structure Lx(j:aT)(n:Nat):Prop where
 g:gH j
 d:∀x∈j.held,x.2.d.size<=2048
 l0:0<=j.lost
 l1:j.lost+j.held.length<=1152921504606846976
 o:n+j.held.length<=4095
theorem Lx.step{j:aT}{o:List ByteArray}(h:Lx j o.length)(n:(fA j).2.2=C?):Lx (fA j).1 (told o (fA j).2.1).length:=by
 have i:=Oo j;refine⟨(Dv h.g n).1,λx s=>h.d x<|i.h.subset s,o? h.l0 i.l0,o? i.l1 h.l1,?_⟩;have r:=i.h.length_le;have l:=h.o;rcases Gv h.g with e|⟨_,e⟩
 .rw[e];show o.length+_<=_;omega
 .cases(fA j).2.1 with
  |none=>show o.length+_<=_;omega
  |some t=>
   show(o++[bytesOf t]).length+_<=_;rw[X!,baW];omega
theorem Dw(n:Nat)(j:aT)(e:List ByteArray):sM (n+1) j e=if(fA j).2.2 then sM n (fA j).1 (told e (fA j).2.1)else((fA j).1,told e (fA j).2.1):=rfl
section
def gz(l:List Int):List Int:=l.mergeSort λx y=>K? (x<=y)
theorem CB(l:List Int):(gz l).Pairwise (· <=·):=by
 have:=List.pairwise_mergeSort (le:=λx y:Int=>K? (x<=y)) (λa b c e t=>by simp at*;omega) (λa b=>p!) l;exact this.imp λh=>bb4
theorem Wu{e t:List Int}(o:e.Pairwise (· <=·))(i:t.Pairwise (· <=·))(n:e.Perm t):e=t:=
 List.Perm.eq_of_pairwise (le:=λa b:Int=>a<=b) (λa b _ _ h k=>B!) o i n
theorem GF{e t:List Int}(o:t.Pairwise (· <=·))(i:e.Perm t):gz e=t:=Wu (CB e) o<|(bcv _ _).trans i
section
variable{α:Type}{es left:KV α}{k:Int}{v:α}
def jY(es left:KV α)(q:Int×α->Bool):List Int:=(es.filter λy=> !au left y.1&&q y).map (·.1)
theorem GG(es:KV α)(q:Int×α->Bool):jY es es q=[]:=by
 unfold jY;rw[List.filter_eq_nil_iff.2 λy e=>?_]
 .rfl
 .rw[dI.2<|a!.2 ⟨y,e,rfl⟩];simp
theorem ZL(es:KV α)(q:Int×α->Bool):jY es [] q=(es.filter q).map (·.1):=by
 unfold jY;congr 1
theorem zV(q:Int×α->Bool)(i:au left k=C?):∀(es:KV α),(es.map (·.1)).Nodup->(k,v)∈es->(jY es (dB left k) q).Perm (jY es left q++if q (k,v)then[k]else[])
 |[],_,h=>baV
 |x::es,t,h=>by
  rw[i?,θ]at t;have n:∀y∈x::es,y.1≠k->(!au (dB left k) y.1&&q y)=(!au left y.1&&q y):=λy _ e=>by rw[lu];simp[e]
  rcases n!.1 h with rfl|h
  .have l:=bbK λy s=>n y (τ _ s) λe=>t.1 (by rw[<-e];exact a!.2 ⟨y,s,rfl⟩);unfold jY;rw[k?,k?,l,i,lu];cases d:q (k,v)with
   |true=>simpa using(List.perm_append_comm (l₁:=[k]) (l₂:=_))
   |false=>simp
  .have r:x.1≠k:=λe=>t.1 (by rw[e];exact a!.2 ⟨_,h,rfl⟩);have o:=zV q i es t.2 h;unfold jY at o|-;rw[k?,k?,n x x! r];split
   .rw[i?,i?,mdX];exact o.cons _
   .exact o
theorem uf(es left:KV α)(q:Int×α->Bool):(jY es left q).length<=es.length:=by
 unfold jY;rw[g!];exact ϝ _ _
end
def tQ(k:Int)(e:Bool)(y:Int×fk):Bool:= !y.2.drains&&(decide (y.1<k)==e)
theorem y9{o:Type}(p:Int->Bool)(q:Int×o->Bool):∀(l:KV o),(l.filter λy=>q y&&p y.1).map (·.1)=((l.filter q).map (·.1)).filter p
 |[]=>rfl
 |x::l=>by
  have e:=y9 p q l;rw[k?,k?];cases i:q x
  .simpa using e
  .cases t:p x.1
   .simpa[t]using e
   .simpa[t]using e
theorem LP{q:bh}{k:Int}{A B:List Int}(o:A.Perm<|jY q.lanes []<|tQ k C?)(i:B.Perm<|jY q.lanes []<|tQ k H!):jN q k=gz B++gz A:=by
 rw[ZL]at o i;have s:=AF<|q.lanes.filter λx=> !x.2.drains;have n:=tV<|q.lanes.filter λx=> !x.2.drains;unfold jN;dsimp only;congr 1
 .refine(GF (s.filter _)<|i.trans ?_).symm;have e:=y9 (λx=>K? (k<=x)) (λy:Int×fk=> !y.2.drains) q.lanes
  have t:(λy:Int×fk=> !y.2.drains&&K? (k<=y.1))=tQ k false:=funext λy=>by
   unfold tQ;congr 1;by_cases h:k<=y.1
   .simp[h,Int.not_lt.2 h]
   .simp[h,Int.not_le.1 h]
  rw[t]at e;rw[e];exact(n.symm.filter _)
 .refine(GF (s.filter _)<|o.trans ?_).symm;have e:=y9 (λx=>K? (x<k)) (λy:Int×fk=> !y.2.drains) q.lanes
  have t:(λy:Int×fk=> !y.2.drains&&K? (y.1<k))=tQ k true:=funext λy=>by
   unfold tQ;simp
  rw[t]at e;rw[e];exact(n.symm.filter _)
end
theorem vK{x y:Nat}(h:x<4294967296):x&&&y<4294967296:=Nat.lt_of_le_of_lt Nat.and_le_left h
theorem Fe{x y:Nat}(h:x<4294967296)(e:y<4294967296):x|||y<4294967296:=Nat.or_lt_two_pow (n:=32) h e
theorem zh{x y:Nat}(h:x<4294967296)(e:y<4294967296):x^^^y<4294967296:=bai (n:=32) h e
theorem tq{x:Nat}(h:x<4294967296):4294967295^^^x<4294967296:=zh I! h
theorem aem{x:Nat}(h:x<4294967296):bits BinOp.xor IntKind.u32 IntKind.u32.max (x:Int)=((4294967295^^^x:Nat):Int):=mcu 4294967295 x I! h
theorem ac1(i b c d:Nat)(e:b<4294967296)(o:c<4294967296)(t:d<4294967296):QM i b c d<4294967296:=by
 unfold QM;split
 .exact Fe (vK e)<|vK<|tq e
 .split
  .exact Fe (vK t)<|vK<|tq t
  .split
   .exact zh (zh e o) t
   .exact zh o<|Fe e<|tq t
section
variable(i:Nat)(w:D!)
include i w
theorem aae(e:(i:Int).tdiv 16=0)(t:(i:Int).tmod 4=0):G! E? 309 #[A! i] w (T! w<|A! 7):=by
 have o:(Instr.index 398 (.agg xab)<|A! 0).run E? w=.ok (.agg xan) w:=M?;have n:(Instr.index 397 (.agg xan)<|A! 0).run E? w=.ok (A! 7) w:=M?;exact d?
theorem aaf(e:(i:Int).tdiv 16=0)(t:(i:Int).tmod 4=1):G! E? 309 #[A! i] w (T! w<|A! 12):=by
 have o:(Instr.index 398 (.agg xab)<|A! 0).run E? w=.ok (.agg xan) w:=M?;have n:(Instr.index 397 (.agg xan)<|A! 1).run E? w=.ok (A! 12) w:=M?;exact d?
theorem aag(e:(i:Int).tdiv 16=0)(t:(i:Int).tmod 4=2):G! E? 309 #[A! i] w (T! w<|A! 17):=by
 have o:(Instr.index 398 (.agg xab)<|A! 0).run E? w=.ok (.agg xan) w:=M?;have n:(Instr.index 397 (.agg xan)<|A! 2).run E? w=.ok (A! 17) w:=M?;exact d?
theorem aah(e:(i:Int).tdiv 16=0)(t:(i:Int).tmod 4=3):G! E? 309 #[A! i] w (T! w<|A! 22):=by
 have o:(Instr.index 398 (.agg xab)<|A! 0).run E? w=.ok (.agg xan) w:=M?;have n:(Instr.index 397 (.agg xan)<|A! 3).run E? w=.ok (A! 22) w:=M?;exact d?
theorem aai(e:(i:Int).tdiv 16=1)(t:(i:Int).tmod 4=0):G! E? 309 #[A! i] w (T! w<|A! 5):=by
 have o:(Instr.index 398 (.agg xab)<|A! 1).run E? w=.ok (.agg xar) w:=M?;have n:(Instr.index 397 (.agg xar)<|A! 0).run E? w=.ok (A! 5) w:=M?;exact d?
theorem aaj(e:(i:Int).tdiv 16=1)(t:(i:Int).tmod 4=1):G! E? 309 #[A! i] w (T! w<|A! 9):=by
 have o:(Instr.index 398 (.agg xab)<|A! 1).run E? w=.ok (.agg xar) w:=M?;have n:(Instr.index 397 (.agg xar)<|A! 1).run E? w=.ok (A! 9) w:=M?;exact d?
theorem aak(e:(i:Int).tdiv 16=1)(t:(i:Int).tmod 4=2):G! E? 309 #[A! i] w (T! w<|A! 14):=by
 have o:(Instr.index 398 (.agg xab)<|A! 1).run E? w=.ok (.agg xar) w:=M?;have n:(Instr.index 397 (.agg xar)<|A! 2).run E? w=.ok (A! 14) w:=M?;exact d?
theorem aal(e:(i:Int).tdiv 16=1)(t:(i:Int).tmod 4=3):G! E? 309 #[A! i] w (T! w<|A! 20):=by
 have o:(Instr.index 398 (.agg xab)<|A! 1).run E? w=.ok (.agg xar) w:=M?;have n:(Instr.index 397 (.agg xar)<|A! 3).run E? w=.ok (A! 20) w:=M?;exact d?
theorem aam(e:(i:Int).tdiv 16=2)(t:(i:Int).tmod 4=0):G! E? 309 #[A! i] w (T! w<|A! 4):=by
 have o:(Instr.index 398 (.agg xab)<|A! 2).run E? w=.ok (.agg xao) w:=M?;have n:(Instr.index 397 (.agg xao)<|A! 0).run E? w=.ok (A! 4) w:=M?;exact d?
theorem aan(e:(i:Int).tdiv 16=2)(t:(i:Int).tmod 4=1):G! E? 309 #[A! i] w (T! w<|A! 11):=by
 have o:(Instr.index 398 (.agg xab)<|A! 2).run E? w=.ok (.agg xao) w:=M?;have n:(Instr.index 397 (.agg xao)<|A! 1).run E? w=.ok (A! 11) w:=M?;exact d?
theorem aao(e:(i:Int).tdiv 16=2)(t:(i:Int).tmod 4=2):G! E? 309 #[A! i] w (T! w<|A! 16):=by
 have o:(Instr.index 398 (.agg xab)<|A! 2).run E? w=.ok (.agg xao) w:=M?;have n:(Instr.index 397 (.agg xao)<|A! 2).run E? w=.ok (A! 16) w:=M?;exact d?
theorem aap(e:(i:Int).tdiv 16=2)(t:(i:Int).tmod 4=3):G! E? 309 #[A! i] w (T! w<|A! 23):=by
 have o:(Instr.index 398 (.agg xab)<|A! 2).run E? w=.ok (.agg xao) w:=M?;have n:(Instr.index 397 (.agg xao)<|A! 3).run E? w=.ok (A! 23) w:=M?;exact d?
theorem aaq(e:(i:Int).tdiv 16=3)(t:(i:Int).tmod 4=0):G! E? 309 #[A! i] w (T! w<|A! 6):=by
 have o:(Instr.index 398 (.agg xab)<|A! 3).run E? w=.ok (.agg xap) w:=M?;have n:(Instr.index 397 (.agg xap)<|A! 0).run E? w=.ok (A! 6) w:=M?;exact d?
theorem aar(e:(i:Int).tdiv 16=3)(t:(i:Int).tmod 4=1):G! E? 309 #[A! i] w (T! w<|A! 10):=by
 have o:(Instr.index 398 (.agg xab)<|A! 3).run E? w=.ok (.agg xap) w:=M?;have n:(Instr.index 397 (.agg xap)<|A! 1).run E? w=.ok (A! 10) w:=M?;exact d?
theorem aas(e:(i:Int).tdiv 16=3)(t:(i:Int).tmod 4=2):G! E? 309 #[A! i] w (T! w<|A! 15):=by
 have o:(Instr.index 398 (.agg xab)<|A! 3).run E? w=.ok (.agg xap) w:=M?;have n:(Instr.index 397 (.agg xap)<|A! 2).run E? w=.ok (A! 15) w:=M?;exact d?
theorem aat(e:(i:Int).tdiv 16=3)(t:(i:Int).tmod 4=3):G! E? 309 #[A! i] w (T! w<|A! 21):=by
 have o:(Instr.index 398 (.agg xab)<|A! 3).run E? w=.ok (.agg xap) w:=M?;have n:(Instr.index 397 (.agg xap)<|A! 3).run E? w=.ok (A! 21) w:=M?;exact d?
theorem Sb(c:i<64):G! E? 309 #[A! i] w (T! w<|A!<|xg i):=by
 have e:(i:Int).tdiv 16=((i/16:Nat):Int):=mdR;have t:(i:Int).tmod 4=((i%4:Nat):Int):=mbH;let⟨q,o⟩:=F?<|i/16;let⟨r,n⟩:=F?<|i%4;have s:xg i=YC.getD (q*4+r) 0:=by unfold xg;rw[o,n]
 have l:q<4:=B!;have d:r<4:=B!;rw[o]at e;rw[n]at t;rw[s]
 match q,r,l,d,e,t with
 |0,0,_,_,e,t=>exact aae i w e t
 |0,1,_,_,e,t=>exact aaf i w e t
 |0,2,_,_,e,t=>exact aag i w e t
 |0,3,_,_,e,t=>exact aah i w e t
 |1,0,_,_,e,t=>exact aai i w e t
 |1,1,_,_,e,t=>exact aaj i w e t
 |1,2,_,_,e,t=>exact aak i w e t
 |1,3,_,_,e,t=>exact aal i w e t
 |2,0,_,_,e,t=>exact aam i w e t
 |2,1,_,_,e,t=>exact aan i w e t
 |2,2,_,_,e,t=>exact aao i w e t
 |2,3,_,_,e,t=>exact aap i w e t
 |3,0,_,_,e,t=>exact aaq i w e t
 |3,1,_,_,e,t=>exact aar i w e t
 |3,2,_,_,e,t=>exact aas i w e t
 |3,3,_,_,e,t=>exact aat i w e t
end
theorem ac2(x s:Nat)(o:x<4294967296)(i:4<=s)(n:s<=23):bits BinOp.or IntKind.u32 ((x:Int)*2^s%4294967296) ((x:Int)/2^(32-s))=(Vo x s:Int):=by
 have t:x/2^(32-s)<4294967296:=Nat.lt_of_le_of_lt (Nat.div_le_self _ _) o;have e:=bbA (x*2^s%4294967296) (x/2^(32-s)) (x? _ I!) t;rw[Int.natCast_emod,Int.natCast_mul,Int.natCast_pow,Int.natCast_ediv,Int.natCast_pow]at e;exact e
theorem ac3(x s:Nat)(w:D!)(o:x<4294967296)(e:4<=s)(t:s<=23):G! E? 308 #[.int .u32 x,A! s] w (T! w (.int .u32<|Vo x s)):=by
 have i:bits BinOp.and IntKind.u64 (s:Int) 31=(s:Int):=by
  have:=bits_and_u64_nat s 31 B! I!;rw[show((31:Nat):Int)=31 from rfl]at this;rw[this,show(31:Nat)=2^5-1 from rfl,Nat.and_two_pow_sub_one_eq_mod,Nat.mod_eq_of_lt B!]
 go_wp2
 go_ret;refine⟨?_,rfl⟩;rw[<-ac2 x s o e t];rfl
section
variable(b c d:Nat)(hb:b<4294967296)(hc:c<4294967296)(hd:d<4294967296)
include b c d hb hc hd
theorem ag5:bits BinOp.or IntKind.u32 (bits BinOp.and IntKind.u32 (b:Int) c) (bits BinOp.and IntKind.u32 (bits BinOp.xor IntKind.u32 IntKind.u32.max (b:Int)) d)=(((b&&&c)|||((4294967295^^^b)&&&d):Nat):Int):=by
 rw[aem hb,u32_and_nat b c hb hc,u32_and_nat _ d (tq hb) hd,bbA _ _ (vK hb)<|vK<|tq hb]
theorem aiC:bits BinOp.xor IntKind.u32 (bits BinOp.xor IntKind.u32 (b:Int) c) d=(((b^^^c)^^^d:Nat):Int):=by
 rw[mcu b c hb hc,mcu _ d (zh hb hc) hd]
theorem aiD:bits BinOp.xor IntKind.u32 (c:Int) (bits BinOp.or IntKind.u32 (b:Int)<|bits BinOp.xor IntKind.u32 IntKind.u32.max (d:Int))=((c^^^(b|||(4294967295^^^d)):Nat):Int):=by
 rw[aem hd,bbA b _ hb<|tq hd,mcu c _ hc<|Fe hb<|tq hd]
end
theorem ac4(i b c d:Nat)(w:D!)(z:i<64)(o:b<4294967296)(n:c<4294967296)(s:d<4294967296):G! E? 307 #[A! i,.int .u32 b,.int .u32 c,.int .u32 d] w (T! w (.tuple #[.int .u32<|QM i b c d,A!<|KP i])):=by
 have j:(i:Int).tdiv 16=((i/16:Nat):Int):=mdR;obtain⟨q,r⟩:=F?<|i/16;rw[r]at j
 have t:E! (QM i b c d=if q=0 then(b&&&c)|||((4294967295^^^b)&&&d)else if q=1 then(d&&&b)|||((4294967295^^^d)&&&c)else if q=2 then(b^^^c)^^^d else c^^^(b|||(4294967295^^^d))):=A? (by
  unfold QM;obtain rfl|rfl|rfl|rfl:q=0\/q=1\/q=2\/q=3:=B!
  .rw[G? B!,G? rfl]
  .rw[F! B!,G? B!,F! B!,G? rfl]
  .rw[F! B!,F! B!,G? B!,F! B!,F! B!,G? rfl]
  .rw[F! B!,F! B!,F! B!,F! B!,F! B!,F! B!])
 have e:E! ((KP i:Int)=if q=0 then(i:Int)else if q=1 then(5*(i:Int)+1)%16 else if q=2 then(3*(i:Int)+5)%16 else 7*(i:Int)%16):=A? (by
  unfold KP;obtain rfl|rfl|rfl|rfl:q=0\/q=1\/q=2\/q=3:=B!
  .rw[G? B!,G? rfl]
  .rw[F! B!,G? B!,F! B!,G? rfl];omega
  .rw[F! B!,F! B!,G? B!,F! B!,F! B!,G? rfl];omega
  .rw[F! B!,F! B!,F! B!,F! B!,F! B!,F! B!];omega)
 have l:=ag5 b c d o n s;have u:=ag5 d b c s o n;have m:=aiC b c d o n s;have f:=aiD b c d o n s;have g:=A? l;have y:=A? u;have M2:=A? m;have k:=A? f;clear l u m f;have E:q<4:=B!;clear r;obtain rfl|rfl|rfl|rfl:q=0\/q=1\/q=2\/q=3:=B!
 .go_wp2
  go_ret2;exact⟨by rw[t.out,e.out];exact U! (λv=>Ending.returned (.tuple #[.int .u32 v,A! i])) g,rfl⟩
 .go_wp2
  go_ret2;exact⟨by rw[t.out,e.out];exact U! (λv=>Ending.returned (.tuple #[.int .u32 v,A! _])) y,rfl⟩
 .go_wp2
  go_ret2;exact⟨by rw[t.out,e.out];exact U! (λv=>Ending.returned (.tuple #[.int .u32 v,A! _])) M2,rfl⟩
 .go_wp2
  go_ret2;exact⟨by rw[t.out,e.out];exact U! (λv=>Ending.returned (.tuple #[.int .u32 v,A! _])) k,rfl⟩
def hcell(h:Da)(j:Nat):Nat:=if j=0 then h.a else if j=1 then h.b else if j=2 then h.c else h.d
structure EQ(w:D!)(p:Nat)(h:Da):Prop where
 c:∀j,j<4->w.cell? (B? p j)=C! (.int .u32 (hcell h j:Int))
 k:∀i,i<64->w.cell? (B? p<|4+i)=C! (.int .u32 (Ba.getD i 0:Int))
 f:∀j,j<4->w.frozen? (B? p j)=H!
theorem EQ.only{S:Nat->Prop}{w m:D!}{p:Nat}{h:Da}(n:EQ w p h)(u:Only S w m)(d:¬S p):EQ m p h:=
 ⟨λj l=>u.cell (n.c j l) d,λi f=>u.cell (n.k i f) d,λj l=>(World.frozen?_of_block<|u.block p (h!<|n.c 0 I!) d).trans<|n.f j l⟩
def GR:Array Value:=Array.replicate 16 (.int .u32 0)
theorem Sd(w:D!):(zeroValue 387).run E? w=.ok (.agg GR) w:=M?
theorem J0(x:List UInt8)(i q:Nat)(h:i<x.length):(x.take<|i+1).getD q 0=if q=i then x[i]else(x.take i).getD q 0:=by
 rw[u! h,ba1,ba1,List.getElem?_append];have t:(x.take i).length=i:=med;by_cases e:q=i
 .subst e;rw[G? rfl,F! B!,t,Nat.sub_self];rfl
 .rw[F! e];by_cases o:q<i
  .rw[G? B!]
  .rw[F! B!,bct p!,bct B!]
theorem take_zero(x:List UInt8)(i q:Nat)(h:i<=q):(x.take i).getD q 0=0:=by
 rw[ba1,bct med];rfl
theorem WO(x:List UInt8)(i j r:Nat)(h:i<x.length)(s:i=4*j+r)(l:r<4):fT (x.take<|i+1) j=fT (x.take i) j|||(x[i].toNat*256^r):=by
 have e:=x[i].toNat_lt;unfold fT;simp only[J0 x i _ h];generalize x[i]=b at e|-;have t:=((x.take i).getD (4*j) 0).toNat_lt;have o:=((x.take i).getD (4*j+1) 0).toNat_lt;have n:=((x.take i).getD (4*j+2) 0).toNat_lt;obtain rfl|rfl|rfl|rfl:r=0\/r=1\/r=2\/r=3:=B!
 .rw[G? B!,F! B!,F! B!,F! B!,take_zero x i (4*j) B!,take_zero x i (4*j+1) B!,take_zero x i (4*j+2) B!,take_zero x i (4*j+3) B!];simp
 .rw[F! B!,G? B!,F! B!,F! B!,take_zero x i (4*j+1) B!,take_zero x i (4*j+2) B!,take_zero x i (4*j+3) B!];have:=mdb (i:=8) (b:=((x.take i).getD (4*j) 0).toNat) B! b.toNat;rw[Nat.or_comm];rw[show b.toNat*256^1=2^8*b.toNat from B!];exact mdM
 .rw[F! B!,F! B!,G? B!,F! B!,take_zero x i (4*j+2) B!,take_zero x i (4*j+3) B!];have:=mdb (i:=16) (b:=((x.take i).getD (4*j) 0).toNat+256*((x.take i).getD (4*j+1) 0).toNat) B! b.toNat;rw[Nat.or_comm,show b.toNat*256^2=2^16*b.toNat from B!];exact mdM
 .rw[F! B!,F! B!,F! B!,G? B!,take_zero x i (4*j+3) B!];have:=mdb (i:=24) (b:=((x.take i).getD (4*j) 0).toNat+256*((x.take i).getD (4*j+1) 0).toNat+65536*((x.take i).getD (4*j+2) 0).toNat) B! b.toNat;rw[Nat.or_comm,show b.toNat*256^3=2^24*b.toNat from B!];exact mdM
theorem Se(x:List UInt8)(i j r q:Nat)(h:i<x.length)(e:i=4*j+r)(o:r<4)(t:q≠j):fT (x.take<|i+1) q=fT (x.take i) q:=by
 unfold fT;simp only[J0 x i _ h];rw[F! B!,F! B!,F! B!,F! B!]
def oW(h s:Da)(k j:Nat):Nat:=if j<k then(hcell h j+hcell s j)%4294967296 else hcell h j
theorem ui(h s:Da)(k q:Nat)(t:q≠k):oW h s (k+1) q=oW h s k q:=by
 unfold oW;by_cases e:q<k
 .rw[G? e,G? B!]
 .rw[F! e,F! B!]
theorem WQ(h s:Da)(j:Nat)(e:j<4):oW h s 4 j=hcell (Ui h s) j:=by
 unfold oW;rw[G? e]
 match j,e with
 |0,_=>rfl
 |1,_=>rfl
 |2,_=>rfl
 |3,_=>rfl
theorem Sf(k:Nat)(h:k<64):4<=xg k/\xg k<=23:=by
 have:∀k:Fin 64,4<=xg k.val/\xg k.val<=23:=baS;exact this ⟨k,h⟩
theorem uj{w:D!}{B n j:Nat}{x:Int}{f f':Nat->Int}(o:∀q,q<n->w.cell? (B? B q)=C! (.int .u32<|f q))(d:j<n)(r:f' j=x)(s:∀q,q<n->q≠j->f' q=f q):∀q,q<n->((w.setCell (B? B j) (.int .u32 x)).drew).cell? (B? B q)=C! (.int .u32<|f' q):=by
 intro q t;show(w.setCell (B? B j) (.int .u32 x)).cell? (B? B q)=_;by_cases e:q=j
 .subst e;rw[r];exact World.cell?_setCell_same _ _ _<|o q t
 .rw[Ω _ _ _ _ (λh=>e<|by injection h with l i;exact i.symm),s q t e];exact o q t
theorem aau(p:Nat)(h:Da)(x:ByteArray)(w:D!)(hs:EQ w p h)(b7:h.ok)(ao:x.size=64):
 G! E? 299 #[.pointer<|C!<|B? p 0,.string x] w λe w'=>e=.returned (.tuple #[])/\EQ w' p (zG h x.data.toList)/\Only (· =p) w w':=by
 have be:E!<|x.data.toList.length=64:=A? (by rw[bK];exact ao);have c2:=h!<|hs.c 0 I!;dsimp only at c2;have B:=Sd
 have ar:∀j,j<16->(w.alloc (.cells GR 387)).cell? (B? w.heap.size j)=C! (.int .u32 0):=λj R=>by
  rw[j!];simp[GR,R]
 have av:∀j,j<16->(w.alloc (.cells GR 387)).frozen? (B? w.heap.size j)=false:=λj R=>Γ;have az:=A? hs;have bo:=A? ao;clear hs ao;go_in;go_wp2_with fail;obtain⟨br,ac⟩:=F?<|w.alloc (.cells GR 387);rw[ac]at ar av|-;have b2:=ac▸R!;clear B ac;go_loopw[5,15] (λc4 i wr=>∃k:Nat,i=A! k/\k<=64/\(∀j,j<16->wr.cell? (B? w.heap.size j)=C! (.int .u32 (fT (x.data.toList.take k) j:Int)))/\(∀j,j<16->wr.frozen? (B? w.heap.size j)=H!)/\Only (· =w.heap.size) br wr) (λ_ i _=>64-(intOf i).toNat)
 case atStart=>exact⟨0,rfl,I!,λj R=>by rw[ar j R];rfl,av,Only.refl _ _⟩
 case round=>
  obtain⟨k,rfl,c1,N,E,hO⟩:=hrel;by_cases W:k<64
  .obtain⟨j,r,ag,b9⟩:∃j r,k=4*j+r/\r<4:=⟨k/4,k%4,B!,B!⟩;have hj16:j<16:=B!;have ca:(k:Int).tdiv 4=(j:Int):=mdR;have hm:(k:Int).tmod 4=(r:Int):=mbH;have cc:(j:Int)<16:=B!;have ci:IntKind.i64.wrap (j:Int)=(j:Int):=ϫ _ B!;have z:=N j hj16;have a7:=E j hj16;have cf:k<x.size:=by have:=bo.out;omega
   have b5:k<x.data.toList.length:=by have:=be.out;omega
   have HW:=A?<|WO x.data.toList k j r b5 ag b9;have Sg:=A? λq=>Se x.data.toList k j r q b5 ag b9;have bd:x.data.toList[k]=x[k]:=rfl;rw[bd]at HW;have Y:fT (x.data.toList.take k) j<4294967296:=Vp _ _;obtain⟨old,b8⟩:=F?<|fT (x.data.toList.take k) j;rw[b8]at z HW Y;have bv:=x[k].toNat_lt;obtain⟨b,bx⟩:=F?<|x[k].toNat;rw[bx]at HW bv;have HF:=A? E;have HC:=A? N;clear b8 ag bd E N;have ch:IntKind.u32.wrap (b:Int)=(b:Int):=bcj;obtain rfl|rfl|rfl|rfl:r=0\/r=1\/r=2\/r=3:=B!
   .have al:(k:Int).tmod 4=0:=hm;have am:IntKind.i64.wrap (8*0)=0:=I!
    have pU:bits BinOp.or IntKind.u32 (old:Int) ((b:Int)*2^min 0 32%4294967296)=((old|||b*256^0:Nat):Int):=by
     have e:=bbA old (b*256^0) Y B!;rw[<-e,show(2:Int)^min 0 32=1 from I!];congr 1;omega
    exact mcV
   .have al:(k:Int).tmod 4=1:=hm;have am:IntKind.i64.wrap (8*1)=8:=I!
    have pU:bits BinOp.or IntKind.u32 (old:Int) ((b:Int)*2^min 8 32%4294967296)=((old|||b*256^1:Nat):Int):=by
     have e:=bbA old (b*256^1) Y B!;rw[<-e,show(2:Int)^min 8 32=256 from I!];congr 1;omega
    exact mcV
   .have al:(k:Int).tmod 4=2:=hm;have am:IntKind.i64.wrap (8*2)=16:=I!
    have pU:bits BinOp.or IntKind.u32 (old:Int) ((b:Int)*2^min 16 32%4294967296)=((old|||b*256^2:Nat):Int):=by
     have e:=bbA old (b*256^2) Y B!;rw[<-e,show(2:Int)^min 16 32=65536 from I!];congr 1;omega
    exact mcV
   .have al:(k:Int).tmod 4=3:=hm;have am:IntKind.i64.wrap (8*3)=24:=I!
    have pU:bits BinOp.or IntKind.u32 (old:Int) ((b:Int)*2^min 24 32%4294967296)=((old|||b*256^3:Nat):Int):=by
     have e:=bbA old (b*256^3) Y B!;rw[<-e,show(2:Int)^min 24 32=16777216 from I!];congr 1;omega
    exact mcV
  .
   obtain rfl:k=64:=B!;have aa:=(Only.aP b2).trans hO;have C:=az.only aa B!;have bi:wr.cell? (B? p 0)=C! (.int .u32 (h.a:Int)):=C.c 0 I!;have bj:wr.cell? (B? p 1)=C! (.int .u32 (h.b:Int)):=C.c 1 I!;have bk:wr.cell? (B? p 2)=C! (.int .u32 (h.c:Int)):=C.c 2 I!;have bl:wr.cell? (B? p 3)=C! (.int .u32 (h.d:Int)):=C.c 3 I!;have bf:x.data.toList.take 64=x.data.toList:=u? (by have:=be.out;omega);rw[bf]at N;have HC:=A? N;have b0:=A? C;clear bf N E hO b2 ar av C;go_wp2;refine dW (λw'=>w'.cell? (B? p 0)=C! (.int .u32 (h.a:Int))/\w'.cell? (B? p 1)=C! (.int .u32 (h.b:Int))/\w'.cell? (B? p 2)=C! (.int .u32 (h.c:Int))/\w'.cell? (B? p 3)=C! (.int .u32 (h.d:Int))) (zcb [24]) ⟨bi,bj,bk,bl⟩ ?_;refine T? ?_;clear bi bj bk bl;go_wp2_with fail;obtain⟨a9,G⟩:=F? wr.drew;have a8:E!<|∀j,j<16->a9.cell? (B? w.heap.size j)=C! (.int .u32 (fT x.data.toList j:Int)):=G▸HC;have A:=G▸A? (b0.only (Only.refl (λ_=>False) wr).drew<|λh=>h);have ab:=G▸aa.drew;rw[G];clear G HC b0 aa az;go_loopw[6,7,8,9,53] (λc5 c6 c7 c8 i wr=>∃(k:Nat) (s:Da),i=A! k/\k<=64/\c5=.int .u32 (s.a:Int)/\c6=.int .u32 (s.b:Int)/\c7=.int .u32 (s.c:Int)/\c8=.int .u32 (s.d:Int)/\E! (s=sH (BW x.data.toList) h k)/\K! a9 wr) (λ_ _ _ _ i _=>64-(intOf i).toNat)
   case atStart=>exact⟨0,h,rfl,I!,rfl,rfl,rfl,rfl,A? rfl,P! _ _⟩
   case round=>
    obtain⟨k,s,rfl,c1,rfl,rfl,rfl,rfl,F,D⟩:=hrel;by_cases W:k<64
    .have a3:s.ok:=by rw[F.out];exact yq _ _ b7 k
     obtain⟨g,u,sc,m⟩:=s;obtain⟨ax,V,X,J⟩:=a3;dsimp only at ax V X J|-;have b6:=λw=>ac4 k u sc m w W V X J;have ae:KP k<16:=by unfold KP;split;(omega);split;(omega);split<;>omega
     have bz:=ac1 k u sc m V X J;have a0:=(D.cell (p:=B? p<|4+k) (by have:=ab.size;show p<_;omega)).trans<|A.k k W;have M:=(D.cell (p:=B? w.heap.size<|KP k)<|show w.heap.size<a9.heap.size from h! (a:=B? w.heap.size 0) (a8 0 I!)).trans<|a8 (KP k) ae;obtain⟨f,E⟩:=F?<|QM k u sc m;obtain⟨a4,a5⟩:=F?<|KP k;obtain⟨z,B⟩:=F?<|Ba.getD k 0;rw[E,a5]at b6;rw[E]at bz;rw[B]at a0;rw[a5]at M ae;obtain⟨y,ap⟩:=F?<|fT x.data.toList a4;rw[ap]at M;have cb:(a4:Int)<16:=B!;have ce:(k:Int)<64:=B!
     have bm:E! (sH (BW x.data.toList) h (k+1)=⟨m,(u+Vo ((g+f+z+y)%4294967296) (xg k))%4294967296,u,sc⟩):=A? (by
      rw[Ar,<-F.out];unfold E3;dsimp only;rw[E,a5,B]
      have:(BW x.data.toList).getD a4 0=y:=by
       rw[<-ap];unfold BW;rw[ba1,q!,mdQ B!];rfl
      rw[this])
     clear E a5 B ap ae;go_wp2_with fail;apply(b6 _).mono;rintro e w' ⟨rfl,rfl⟩;go_wp2;refine dW (λw'=>w'.cell? (B? p<|4+k)=C! (.int .u32 (z:Int))/\w'.cell? (B? w.heap.size a4)=C! (.int .u32 (y:Int))) (zcb [19,2,5]) ⟨a0,M⟩ ?_;refine R? ?_;intro K hK;go_wp2_with(go_at_call 309;apply(Sb k _ W).mono;rintro e w' ⟨rfl,rfl⟩);refine O! hK ⟨a0,M⟩ ?_;clear hK K;refine R? ?_;intro K hK;go_wp2_with fail;have bc:((((g:Int)+(f:Int))%4294967296+(z:Int))%4294967296+(y:Int))%4294967296=(((g+f+z+y)%4294967296:Nat):Int):=B!;rw[bc];obtain⟨a2,ad⟩:=F?<|(g+f+z+y)%4294967296;have bs:a2<4294967296:=by rw[<-ad];exact x? _ I!
     rw[ad]at bm|-;have an:=Sf k W;apply(ac3 a2 (xg k) _ bs an.1 an.2).mono;rintro e w' ⟨rfl,rfl⟩;clear bc ad an;go_wp2_with fail;refine O! hK ⟨a0,M⟩ ?_;clear hK K;refine T? ?_;clear a0 M;go_wp2_with fail;refine⟨?_,?measure⟩
     iterate 41 apply Exists.intro
     refine⟨?rel,rfl⟩
     case rel=>exact⟨k+1,⟨m,(u+Vo a2 (xg k))%4294967296,u,sc⟩,W!,B!,rfl,U! (Value.int .u32) (by show _=(((u+Vo a2 (xg k))%4294967296:Nat):Int);rw[IntKind.wrap_u32];omega),rfl,rfl,A? bm.symm,D.drew⟩
     case measure=>simp[intOf];omega
    .obtain rfl:k=64:=B!;have a3:s.ok:=by rw[F.out];exact yq _ _ b7 64
     have a1:=A?<|A.only (S:=λ_=>False) (Only.aP D)<|λh=>h;have b3:=ab.then D;have b4:Only (· =p) w wr:=Only.aP<|b3.below O?<|λk e=>B!;have c3:E!<|zG h x.data.toList=Ui h s:=A? (by unfold zG;rw[<-F.out]);have c9:=A? a3;obtain⟨g,u,sc,m⟩:=s;obtain⟨ax,V,X,J⟩:=a3;dsimp only at ax V X J|-;have cj:∀w,(Instr.index 380 (.agg #[.int .u32 (g:Int),.int .u32 (u:Int),.int .u32 (sc:Int),.int .u32 (m:Int)])<|A! 0).run E? w=.ok (.int .u32 (g:Int)) w:=λw=>M?;have ck:∀w,(Instr.index 380 (.agg #[.int .u32 (g:Int),.int .u32 (u:Int),.int .u32 (sc:Int),.int .u32 (m:Int)])<|A! 1).run E? w=.ok (.int .u32 (u:Int)) w:=λw=>M?;have cn:∀w,(Instr.index 380 (.agg #[.int .u32 (g:Int),.int .u32 (u:Int),.int .u32 (sc:Int),.int .u32 (m:Int)])<|A! 2).run E? w=.ok (.int .u32 (sc:Int)) w:=λw=>M?;have co:∀w,(Instr.index 380 (.agg #[.int .u32 (g:Int),.int .u32 (u:Int),.int .u32 (sc:Int),.int .u32 (m:Int)])<|A! 3).run E? w=.ok (.int .u32 (m:Int)) w:=λw=>M?;clear D F ab b3 A a8;go_wp2;go_loopw[13,14,92] (λc4 v i a6=>∃k:Nat,i=A! k/\k<=4/\(∀j,j<4->a6.cell? (B? p j)=C! (.int .u32 (oW h ⟨g,u,sc,m⟩ k j:Int)))/\(∀j,j<4->a6.frozen? (B? p j)=H!)/\(∀q,q<64->a6.cell? (B? p<|4+q)=C! (.int .u32 (Ba.getD q 0:Int)))/\Only (· =p) w a6) (λ_ _ i _=>4-(intOf i).toNat)
     case atStart=>exact⟨0,rfl,I!,λj R=>by rw[a1.c j R];unfold oW;rw[F! B!],a1.f,a1.k,b4⟩
     case round=>
      obtain⟨k,rfl,cd,N,E,ba,hO⟩:=hrel;have HC:=A? N;have HF:=A? E;have Z:=A? ba
      have c0:wr.cell? (B? p k)=C! (.int .u32 (oW h ⟨g,u,sc,m⟩ k k:Int))\/k=4:=by
       rcases Nat.lt_or_ge k 4 with b1|b1
       .exact .inl<|N k b1
       .exact .inr B!
      clear N E ba a1 b4;obtain rfl|rfl|rfl|rfl|rfl:k=0\/k=1\/k=2\/k=3\/k=4:=B!
      .have z:wr.cell? (B? p 0)=C! (.int .u32 (h.a:Int)):=by
        exact mb1
       have a7:=HF 0 I!;have O:IntKind.u32.wrap ((h.a:Int)+(g:Int))=(((h.a+g)%4294967296:Nat):Int):=bcj;have I:((h.a:Int)+(g:Int))%4294967296=(((h.a+g)%4294967296:Nat):Int):=B!;have H:=A? O;have A:=A? I;clear c0 O I;go_wp2;refine yS (λw'=>w'.cell? (B? p 0)=C! (.int .u32 (h.a:Int))) 11 [(0,1),(1,1),(2,1),(3,1),(4,1),(5,1),(6,1),(7,1),(8,2),(9,2),(10,2),(11,0)] z ?_;refine tL ?_;refine iz λK hK=>?_;go_wp2_with fail
       first|rw[A.out]|rw[H.out]
       refine ah<|hK _ _ ?_;clear hK K;go_wp2;go_roundw
       case rel=>exact⟨0+1,W!,I!,uj (n:=4) (f:=λq=>(oW h ⟨g,u,sc,m⟩ 0 q:Int)) (f':=λq=>(oW h ⟨g,u,sc,m⟩ (0+1) q:Int)) HC I! rfl (λq _ hq=>mby),λq hq=>(bcn _ _ _ _).trans<|HF q hq,λq hq=>(Ω _ _ _ _<|λe=>mbY).trans<|Z q hq,(hO.set (.inl rfl) _).drew⟩
       case measure=>simp[intOf]
      .have z:wr.cell? (B? p 1)=C! (.int .u32 (h.b:Int)):=by
        exact mb1
       have a7:=HF 1 I!;have O:IntKind.u32.wrap ((h.b:Int)+(u:Int))=(((h.b+u)%4294967296:Nat):Int):=bcj;have I:((h.b:Int)+(u:Int))%4294967296=(((h.b+u)%4294967296:Nat):Int):=B!;have H:=A? O;have A:=A? I;clear c0 O I;go_wp2;refine yS (λw'=>w'.cell? (B? p 1)=C! (.int .u32 (h.b:Int))) 11 [(0,1),(1,1),(2,1),(3,1),(4,1),(5,1),(6,1),(7,1),(8,2),(9,2),(10,2),(11,0)] z ?_;refine tL ?_;refine iz λK hK=>?_;go_wp2_with fail
       first|rw[A.out]|rw[H.out]
       refine ah<|hK _ _ ?_;clear hK K;go_wp2;go_roundw
       case rel=>exact⟨1+1,W!,I!,uj (n:=4) (f:=λq=>(oW h ⟨g,u,sc,m⟩ 1 q:Int)) (f':=λq=>(oW h ⟨g,u,sc,m⟩ (1+1) q:Int)) HC I! rfl (λq _ hq=>mby),λq hq=>(bcn _ _ _ _).trans<|HF q hq,λq hq=>(Ω _ _ _ _<|λe=>mbY).trans<|Z q hq,(hO.set (.inl rfl) _).drew⟩
       case measure=>simp[intOf]
      .have z:wr.cell? (B? p 2)=C! (.int .u32 (h.c:Int)):=by
        exact mb1
       have a7:=HF 2 I!;have O:IntKind.u32.wrap ((h.c:Int)+(sc:Int))=(((h.c+sc)%4294967296:Nat):Int):=bcj;have I:((h.c:Int)+(sc:Int))%4294967296=(((h.c+sc)%4294967296:Nat):Int):=B!;have H:=A? O;have A:=A? I;clear c0 O I;go_wp2;refine yS (λw'=>w'.cell? (B? p 2)=C! (.int .u32 (h.c:Int))) 11 [(0,1),(1,1),(2,1),(3,1),(4,1),(5,1),(6,1),(7,1),(8,2),(9,2),(10,2),(11,0)] z ?_;refine tL ?_;refine iz λK hK=>?_;go_wp2_with fail
       first|rw[A.out]|rw[H.out]
       refine ah<|hK _ _ ?_;clear hK K;go_wp2;go_roundw
       case rel=>exact⟨2+1,W!,I!,uj (n:=4) (f:=λq=>(oW h ⟨g,u,sc,m⟩ 2 q:Int)) (f':=λq=>(oW h ⟨g,u,sc,m⟩ (2+1) q:Int)) HC I! rfl (λq _ hq=>mby),λq hq=>(bcn _ _ _ _).trans<|HF q hq,λq hq=>(Ω _ _ _ _<|λe=>mbY).trans<|Z q hq,(hO.set (.inl rfl) _).drew⟩
       case measure=>simp[intOf]
      .have z:wr.cell? (B? p 3)=C! (.int .u32 (h.d:Int)):=by
        exact mb1
       have a7:=HF 3 I!;have O:IntKind.u32.wrap ((h.d:Int)+(m:Int))=(((h.d+m)%4294967296:Nat):Int):=bcj;have I:((h.d:Int)+(m:Int))%4294967296=(((h.d+m)%4294967296:Nat):Int):=B!;have H:=A? O;have A:=A? I;clear c0 O I;go_wp2;refine yS (λw'=>w'.cell? (B? p 3)=C! (.int .u32 (h.d:Int))) 11 [(0,1),(1,1),(2,1),(3,1),(4,1),(5,1),(6,1),(7,1),(8,2),(9,2),(10,2),(11,0)] z ?_;refine tL ?_;refine iz λK hK=>?_;go_wp2_with fail
       first|rw[A.out]|rw[H.out]
       refine ah<|hK _ _ ?_;clear hK K;go_wp2;go_roundw
       case rel=>exact⟨3+1,W!,I!,uj (n:=4) (f:=λq=>(oW h ⟨g,u,sc,m⟩ 3 q:Int)) (f':=λq=>(oW h ⟨g,u,sc,m⟩ (3+1) q:Int)) HC I! rfl (λq _ hq=>mby),λq hq=>(bcn _ _ _ _).trans<|HF q hq,λq hq=>(Ω _ _ _ _<|λe=>mbY).trans<|Z q hq,(hO.set (.inl rfl) _).drew⟩
       case measure=>simp[intOf]
      .go_wp2
       go_end0;refine⟨rfl,⟨λj R=>?_,Z,HF⟩,hO⟩;rw[HC j R,c3.out,WQ h ⟨g,u,sc,m⟩ j R]
