/- Walks and plain laws. -/
import Derived.Test.YtncddkcponjlpaaGreatDoorK10
set_option linter.unusedVariables false
set_option linter.unusedSimpArgs false
set_option maxHeartbeats 0
set_option maxRecDepth 99999
namespace Go.Proofs.YtncddkcponjlpaaGreatDoor
open Go.RowKit Go.Proofs.Tryz
open Go renaming World→D!,Value→I?,Calls→G!,IntKind→ncy
open Go.RowKit renaming Hid→E!
open Decidable renaming decide→K?
open Option renaming some→C!,none→L?
open Bool renaming true→C?,false→H!
open Go.Proofs.Tryz renaming prog→E?
variable{P:Prop}
variable{w w1:D!}{G:Nat->Tag}{t:Tag}{s b lb hb:Nat}{m:aU}{m':aT}
def Left(n:D!->(Nat->Tag)->Prop)(T:Tag->Prop)(G:Nat->Tag)(w:D!)(r:I?)(e:Ending)(i:D!):Prop:=e=.returned r/\∃o,n i o/\Step T G w o i
theorem Zv{e:Type}(f:Int->Nat)(m:KV e)(k:Int):(bt (dY (λk _=>ptr<|f k) m) k).getD (.pointer L?)=if au m k then ptr (f k)else .pointer none:=by
 rw[qU,fK];cases bt m k<;>rfl
theorem nQ{P:Program}{i o e:TypeId}{d:Type}{f:Int->Nat}{m:KV d}{w:D!}{b:Nat}(h:bp w b<|dY (λk _=>ptr<|f k) m)(r:P.underlying i=C! (.map o e))(n:P.underlying o=C! (.int .i64))(l:(zeroValue e).run P w=.ok (.pointer L?) w)(k:Int):
 (Instr.lookup i (.map<|C! b) (A! k) H!).run P w=.ok (if au m k then ptr (f k)else .pointer L?) w:=by
 rw[pg h r n k _ l H!,Zv];rfl
theorem aB(T:Tag->Prop)(G:Nat->Tag)(w:D!):Step T G w G w.drew:=⟨rfl,rfl,rfl,Y? _,λ_ _=>rfl,λ_ _ _=>rfl⟩
theorem wN(T:Tag->Prop)(G:Nat->Tag)(w:D!)(n:Nat):Step T G w G<|w.drewN n:=⟨rfl,rfl,rfl,Y? _,λ_ _=>rfl,λ_ _ _=>rfl⟩
theorem aY.drew{w:D!}{G:Nat->Tag}{t:Tag}{s:Nat}{m:aU}(h:aY w G t s m):aY w.drew G t s m:=h.step (aB (λ_=>False) G w) λ_ _ h=>h
theorem iW.look{e:Nat}{f:Int->Nat}(h:iW w G t s e f m)(c:Int):
 (Instr.lookup 120 (.map<|C! e) (A! c) H!).run E? w=.ok (if au m.up c then ptr (f c)else .pointer L?) w:=
 nQ h.mm underlying120 underlying3 π c
theorem ae4(c:Int)(h:aY w G t s m):G! E? 112 #[ptr s,A! c] w (T! w<|H?<|Uq m c):=by
 obtain⟨u,f,h⟩:=h;have l:=h.look c;have d:=h.blk.k 3;unfold Uq;cases n:au m.up c<;>rw[n]at l<;>simp only[t!,η,q?,ptr]at l|-<;>clear n
 all_goals
  exact d?
structure Cv(m:aU):Prop where
 p1:1<=m.aV
 p8:m.aV<=8
 m1:1<=m.most
 mT:m.most<=65536
 l0:0<=m.last
 o0:0<=m.sO
 up:(m.up.length:Int)<=m.aV
 nd:(m.up.map (·.1)).Nodup
 key:∀k c,(k,c)∈m.up->1<=k/\k<=m.last
 by0:∀k c,(k,c)∈m.up->(0<=c.p0.bytes/\c.p0.bytes<=m.most/\0<=c.p0.lost)/\(0<=c.p1.bytes/\c.p1.bytes<=m.most/\0<=c.p1.lost)
 sm:∀k c,(k,c)∈m.up->((c.p0.pieces.flatMap (·.1)).length:Int)=c.p0.bytes/\((c.p1.pieces.flatMap (·.1)).length:Int)=c.p1.bytes
theorem iW.E8{n:Nat}{f:Int->Nat}{m':aU}(h:iW w G t s n f m)(j:Only (λk=>k=s\/k=n) w w1)(hb:aO w1 s 122<|mE n m')(y:bp w1 n<|dY (λk _=>ptr<|f k) m'.up)(d:∀k c,(k,c)∈m'.up->(k,c)∈m.up):
 ∃l,aY w1 l t s m'/\Step (aq t) G w l w1:=by
 have r:Step (λu=>u=t\/u=t++[0]) G w (grow G w.heap.size free) w1:=Step.of j (λb _ hb=>hb.imp (λe=>Ψ)<|λe=>by rw[e,h.tm]) free;refine⟨_,⟨n,f,hb,(r.old _ h.blk.lt).trans h.tag,(r.old _ h.mm.lt).trans h.tm,y,λk c g=>(h.Y0 k c<|d k c g).step r λu o=>?_⟩,r.mono λu o=>?_⟩
 .rintro(rfl|rfl)
  .exact eB (b:=[k]) o
  .rw[jI]at o;simp at o
 .rcases o with rfl|rfl
  .exact aq.self _
  .exact aq.app _ _
theorem iW.add{r:Nat}{f:Int->Nat}{m':aU}(k:Int)(h:iW w G t s r f m)(q:Only (λk=>k=s\/k=r) w w1)(hb:aO w1 s 122<|mE r m')(n:m'.up=bI m.up k kI)(B:Nat)(z:w.heap.size<=B)(y:aO w1 B 168 xam)
 (v:bp w1 r<|bI (dY (λk _=>ptr<|f k) m.up) k<|ptr B)(d:∀c,(k,c)∉m.up):
 ∃g,aY w1 g t s m'/\Step (aq t) G w g w1:=by
 have l:Step (λu=>u=t\/u=t++[0]) G w (λb=>if b<w.heap.size then G b else t++[1,k]) w1:=Step.rule q (λb _ hb=>hb.imp (λe=>Ψ)<|λe=>by rw[e,h.tm]) _;refine⟨_,⟨r,λi=>if i=k then B else f i,hb,(l.old _ h.blk.lt).trans h.tag,(l.old _ h.mm.lt).trans h.tm,?_,?_⟩,l.mono λu n=>?_⟩
 .have e:bI (dY (λk _=>ptr<|f k) m.up) k (ptr B)=dY (λi _=>ptr<|if i=k then B else f i) m'.up:=by
   rw[n,<-jK (λi (_:mB)=>ptr<|if i=k then B else f i),G? rfl];congr 1;refine A7 λx hx=>?_;rw[F!];intro e;exact d x.2 mdC
  rw[<-e];exact v
 .intro i c o
  rw[n,yg (λx hx=>by
   rw[Q?];intro e;exact d x.2 mdC),ό]at o
  rcases o with o|o
  .have j:i≠k:=λe=>d c (by rw[<-e];exact o);show qo _ _ _ (if i=k then B else f i) _;rw[F! j];refine(h.Y0 i c o).step l λu n=>?_;rintro(rfl|rfl)
   .exact eB (b:=[i]) n
   .rw[jI]at n;simp at n
  .simp only[j?,baZ]at o;obtain⟨rfl,rfl⟩:=o;show qo _ _ _ (if i=i then B else f i) _;rw[G? rfl];exact⟨Q!,Q!,y,F! B!,⟨[],oy.nil _ _ _ _,rfl,(λx hx=>ϭ),baT⟩,⟨[],oy.nil _ _ _ _,rfl,(λx hx=>ϭ),baT⟩⟩
 .rcases n with rfl|rfl
  .exact aq.self _
  .exact aq.app _ _
theorem Oj(n:Int)(h:aY w G t s m):G! E? 114 #[ptr s,A! n] w (T! w<|A!<|qY m n):=by
 obtain⟨j,f,h⟩:=h;have u:=λg=>tW (P:=E?) h.mm underlying120 g;rw[dN]at u;have y:=h.blk.k 3;have d:=λw=>zO n w;unfold qY ptr;cases l:nM n<;>rw[l]at d<;>clear l
 all_goals
  go_in
  go_wp2_with fail;refine d! (d _) ?_;exact d?
theorem yT(c:Int)(h:aY w G t s m):G! E? 78 #[ptr s,A! c] w (Left (λj g=>aY j g t s (iT m c).1) (aq t) G w<|A! (iT m c).2):=by
 have y:=h;obtain⟨O,f,h⟩:=h;have d:=h.look c;have E:=h.blk.k 3;have H:=A? h;unfold iT;cases n:au m.up c<;>rw[n]at d<;>simp only[t!,η,q?,ptr]at d|-<;>clear n h
 .go_wp2
  go_ret;exact⟨rfl,G,y,Step.refl _ _ _⟩
 .go_in
  go_wp2_with(refine fW rfl _ _ rfl underlying120 underlying3 c H.mm rfl rfl λw1 l u A=>?_);go_ret;refine⟨rfl,H.E8 (m':={m with up:=dB m.up c}) (u.mono λk _ e=>.inr e) (H.blk.only u λe=>?_) (by rw[fZ]at l;exact l) λk z n=>(List.mem_filter.1 n).1⟩;have:=H.tm;rw[<-e,H.tag]at this;simp at this
theorem Zw(c:Int)(h:aY w G t s m):G! E? 55 #[ptr s,A! c] w (Left (λo i=>aY o i t s (iT m c).1) (aq t) G w<|A! (iT m c).2):=by
 have e:=yT c h;unfold ptr at e|-;go_in;go_wp2_with fail;refine M! e λo n=>?_;go_wp2;go_ret;exact⟨rfl,n⟩
theorem V'(n:Int)(h:aY w G t s m):G! E? 59 #[ptr s,A! n] w (Left (λj u=>aY j u t s (vl m n).1) (aq t) G w<|A! (vl m n).2):=by
 have g:=h;obtain⟨O,f,h⟩:=h;have A:=h.blk.frozen 4;have E:=h.blk.k 4;unfold vl ptr;by_cases l:n<0
 .rw[G? l];go_wp2;go_ret;exact⟨rfl,G,g,Step.refl _ _ _⟩
 .rw[F! l];go_wp2;go_ret;have d:=ay w s 4<|A! n;refine⟨rfl,h.E8 (m':={m with sO:=n}) (d.mono λk _ e=>.inl e) (h.blk.set 4 _ rfl) (h.mm.only d λe=>?_) λk z y=>y⟩;have:=h.tm;rw[e,h.tag]at this;simp at this
section
variable{G1:Nat->Tag}{mb:Nat}{f:Int->Nat}
theorem Cw{o i:Type}(g:Int->i){m:KV o}{k:Int}(h:au m k=C?)(v:o):dY (λk (_:o)=>g k) (bI m k v)=dY (λk _=>g k) m:=by
 rw[mg h];unfold dY;rw[baG];exact meh
theorem Cx{n:Type}{m:KV n}(r:(m.map (·.1)).Nodup){k:Int}(l:au m k=C?){v:n}{i:Int}{x:n}(h:(i,x)∈bI m k v):(i=k/\x=v)\/(i≠k/\(i,x)∈m):=by
 have o:=(eA<|fL r k v).2 h;rw[iQ]at o;by_cases e:i=k
 .rw[G? e]at o;cases o
  exact .inl ⟨e,rfl⟩
 .rw[F! e]at o;exact .inr ⟨e,(eA r).1 o⟩
theorem iW.turn(h:iW w G t s mb f m){c:Int}{i:mB}(l:au m.up c=C?)(o:Step (aq<|t++[1,c]) G w G1 w1)(d:qo w1 G1 (t++[1,c]) (f c) i):
 aY w1 G1 t s {m with up:=bI m.up c i}/\Step (aq t) G w G1 w1:=by
 have g:(m.up.map (·.1)).Nodup:=by have:=h.mm.nodup;rw[i9]at this;exact this
 refine⟨⟨mb,f,?_,(o.old _ h.blk.lt).trans h.tag,(o.old _ h.mm.lt).trans h.tm,?_,λk x r=>?_⟩,o.mono λu n=>sR n⟩
 .exact h.blk.step o (by rw[h.tag];exact eB)
 .show bp w1 mb (dY _<|bI m.up c i);rw[Cw (λk=>ptr<|f k) l];exact h.mm.step o (by rw[h.tm,jI];simp)
 .rcases Cx g l r with⟨rfl,rfl⟩|⟨e,r⟩
  .exact d
  .refine(h.Y0 k x r).step o λu n y=>e ?_;have:=baX n y;rcases this with h|h
   .have:=(jI t [1,k] [1,c]).1 h;simpa using this
   .have:=(jI t [1,c] [1,k]).1 h;simpa[eq_comm]using this
theorem iW.Lu(h:iW w G t s mb f m){c:Int}(e:au m.up c=C?):qo w G (t++[1,c]) (f c)<|(bt m.up c).getD kI:=by
 have o:(m.up.map (·.1)).Nodup:=by have:=h.mm.nodup;rw[i9]at this;exact this
 exact h.Y0 c _<|(eA o).1<|mr e kI
theorem zP(c i:Int)(h:iW w G t s mb f m)(n:eH m c i≠0):G! E? 79 #[ptr s,A! c,A! i] w (T! w (.tuple #[.pointer L?,A!<|eH m c i])):=by
 have l:=h.look c;have y:=h.blk.k 3;have g:=λw=>zO i w;unfold eH at*
 cases u:au m.up c<;>rw[u]at l n<;>simp only[t!,η,Bool.true_eq_false,q?,ptr]at l n|-<;>clear u
 .go_wp2
  go_ret2;exact⟨rfl,rfl⟩
 .cases d:nM i<;>rw[d]at g n<;>simp only[t!,η,Bool.true_eq_false,q?,ptr]at l n|-<;>clear d
  .go_in
   go_wp2_with fail;refine d! (g _) ?_;exact ma6
  .exact absurd rfl n
theorem yU(c i:Int)(o:Nat)(h:iW w G t s mb f m)(d:au m.up c=C?)(l:(i=0/\o=0)\/(i=1/\o=3)):G! E? 79 #[ptr s,A! c,A! i] w (T! w (.tuple #[.pointer<|C!<|B? (f c) o,A! 0])):=by
 have n:=h.look c;rw[d]at n;simp only[t!,ptr]at n|-;have g:=h.blk.k 3;have u:=λw=>zO i w;rcases l with⟨rfl,rfl⟩|⟨rfl,rfl⟩
 all_goals
  go_in
  go_wp2_with fail;refine d! (u _) ?_;exact ma6
def pv(i:Int)(e o:I?):Value:=if i=0 then e else o
section
variable{b:Nat}{v0 v1:I?}{C:mB}(h:sU w G t b v0 v1 C){i:Int}{o:Nat}(hi:(i=0/\o=0)\/(i=1/\o=3))
include h hi
theorem sU.cells:
 w.cell? (B? b o)=C! (pv i v0 v1)/\w.cell? (B? b<|o+1)=N? ((C.pipe i).bytes)/\w.cell? (B? b<|o+2)=N? ((C.pipe i).lost)/\jS w G (t++[i]) (pv i v0 v1) (C.pipe i).pieces:=by
 rcases hi with⟨rfl,rfl⟩|⟨rfl,rfl⟩
 .exact⟨h.blk.cell 0,h.blk.cell 1,h.blk.cell 2,h.a0⟩
 .exact⟨h.blk.cell 3,h.blk.cell 4,h.blk.cell 5,h.a1⟩
theorem sU.agQ(y l:Int)(j:Only (λk=>k=b) w w1)
 (hb:aO w1 b 168 (gD v0 (C.put i {C.pipe i with bytes:=y,lost:=l}).p0++gD v1 (C.put i {C.pipe i with bytes:=y,lost:=l}).p1).toArray):
 ∃r,qo w1 r t b (C.put i {C.pipe i with bytes:=y,lost:=l})/\Step (aq t) G w r w1:=by
 have n:Step (λu=>u=t) G w (grow G w.heap.size free) w1:=Step.of j (λk _ e=>Ψ) free;have d:(C.put i {C.pipe i with bytes:=y,lost:=l}).p0.pieces=C.p0.pieces:=mdH;have g:(C.put i {C.pipe i with bytes:=y,lost:=l}).p1.pieces=C.p1.pieces:=mdH;refine⟨_,⟨v0,v1,hb,(n.old _ h.blk.lt).trans h.tag,?_,?_⟩,n.mono λu hu=>baQ⟩
 .rw[d];exact h.a0.step n λu hu=>by rintro rfl;exact eB hu
 .rw[g];exact h.a1.step n λu hu=>by rintro rfl;exact eB hu
end
theorem rX{m:aU}{c i:Int}(h:eH m c i=0):au m.up c=C?/\∃o:Nat,(i=0/\o=0)\/(i=1/\o=3):=by
 unfold eH at h;cases n:au m.up c<;>rw[n]at h<;>simp at h
 unfold nM at h;refine⟨rfl,?_⟩;by_cases e:i=0
 .exact⟨0,.inl ⟨e,rfl⟩⟩
 .have:i=1:=by simpa[e]using h
  exact⟨3,.inr ⟨this,rfl⟩⟩
theorem Wb(c i:Int)(h:aY w G t s m)(z:Cv m)(A:(fP m c i).lost<=1099511627776):G! E? 56 #[ptr s,A! c,A! i] w (Left (λO r=>aY O r t s (rM m c i).1) (aq t) G w<|A! (rM m c i).2):=by
 have h0:=h;obtain⟨mb,f,h⟩:=h;by_cases l:eH m c i=0
 .let⟨d,o,hi⟩:=rX l;have hop:=yU c i o h d hi;have K:=z.nd;let⟨Z,a0,n⟩:=h.Lu d;have B:=(eA K).1<|mr d kI;have y:=z.by0 _ _ B;have g:rM m c i=(tO m c i {fP m c i with lost:=(fP m c i).lost+1},0):=by unfold rM;rw[F! B!]
  rw[g];let⟨C,u⟩:=F?<|(bt m.up c).getD kI;have N:fP m c i=C.pipe i:=by unfold fP;rw[u]
  rw[N]at A|-;rw[u]at n y;have V:0<=(C.pipe i).lost:=by rcases hi with⟨rfl,_⟩|⟨rfl,_⟩<;>first|exact y.1.2.2|exact y.2.2.2
  have I:=(n.cells hi).2.2.1;have J:=n.blk.frozen<|o+2
  have S:∃r,aY (w.setCell (B? (f c)<|o+2)<|A!<|(C.pipe i).lost+1) r t s (tO m c i {C.pipe i with lost:=(C.pipe i).lost+1})/\Step (aq t) G w r (w.setCell (B? (f c)<|o+2)<|A!<|(C.pipe i).lost+1):=by
   let⟨G1,H,D⟩:=n.agQ hi (C.pipe i).bytes ((C.pipe i).lost+1) (ay w (f c) (o+2)<|A!<|(C.pipe i).lost+1)<|n.blk.set (o+2) _ mdH;let⟨F,Y⟩:=h.turn d D H;refine⟨G1,?_,Y⟩;unfold tO;rw[u];exact F
  have HF:=A? S;let⟨L,j⟩:=F?<|(C.pipe i).lost;have X:=A? j;rw[j]at A V I HF|-;generalize tO m c i {C.pipe i with lost:=L+1}=M at HF|-;unfold ptr at hop|-;rcases hi with⟨rfl,rfl⟩|⟨rfl,rfl⟩
  all_goals
   go_in
   go_wp2_with fail;apply hop.mono;rintro e O ⟨rfl,rfl⟩;go_wp2;exact bas
 .have hop:=zP c i h l;have g:rM m c i=(m,eH m c i):=by unfold rM;rw[G? l]
  rw[g];have q:=Q?.2 l;exact ncR
end
section
structure cE(w:D!)(b lb hb:Nat)(m:aT):Prop where
 blk:aO w b 154<|sx lb hb m
 ml:bp w lb<|dY (λ_ n=>A! n) m.links
 mh:bp w hb<|dY (λ_ f=>yI f) m.held
 nl:lb≠b
 nh:hb≠b
 lh:hb≠lb
def xM(b lb hb:Nat):Nat->Prop:=λk=>k=b\/k=lb\/k=hb
variable{m:aT}
theorem uE.Ww(h:uE w G t b lb hb m):cE w b lb hb m:=by
 refine⟨h.blk,h.ml,h.mh,λe=>?_,λe=>?_,λe=>?_⟩
 .have:=h.tl;rw[e,h.tag]at this;simp at this
 .have:=h.th;rw[e,h.tag]at this;simp at this
 .have:=h.th;rw[e,h.tl]at this;simp at this
theorem uE.E8(h:uE w G t b lb hb m)(n:cE w1 b lb hb m')(r:Only (xM b lb hb) w w1):uE w1 (grow G w.heap.size free) t b lb hb m'/\Step (aq t) G w (grow G w.heap.size free) w1:=by
 have o:Step (aq t) G w (grow G w.heap.size free) w1:=Step.of r (λk _ e=>by
  rcases e with rfl|rfl|rfl
  .rw[h.tag];exact aq.self _
  .rw[h.tl];exact aq.app _ _
  .rw[h.th];exact aq.app _ _) free
 exact⟨⟨n.blk,(o.old _ h.blk.lt).trans h.tag,(o.old _ h.ml.lt).trans h.tl,(o.old _ h.mh.lt).trans h.th,n.ml,n.mh⟩,o⟩
theorem cE.below(h:cE w b lb hb m)(k:K! w w1):cE w1 b lb hb m:=⟨h.blk.below k,h.ml.below k,h.mh.below k,h.nl,h.nh,h.lh⟩
theorem cE.only{S:Nat->Prop}(h:cE w b lb hb m)(k:Only S w w1)(e:∀i,xM b lb hb i->¬S i):cE w1 b lb hb m:=
 ⟨h.blk.only k<|e _ (.inl rfl),h.ml.only k<|e _ (.inr (.inl rfl)),h.mh.only k<|e _ (.inr (.inr rfl)),h.nl,h.nh,h.lh⟩
theorem cE.cells(h:cE w b lb hb m){w1:D!}(n:aO w1 b 154<|sx lb hb m')(e:Only (λk=>k=b) w w1)(o:m'.links=m.links)(i:m'.held=m.held):cE w1 b lb hb m':=
 ⟨n,by rw[o];exact h.ml.only e h.nl,by rw[i];exact h.mh.only e h.nh,h.nl,h.nh,h.lh⟩
theorem cE.links(h:cE w b lb hb m){l:KV Int}(o:bp w1 lb<|dY (λ_ n=>A! n) l)(e:Only (λk=>k=lb) w w1):cE w1 b lb hb {m with links:=l}:=
 ⟨h.blk.only e<|X? h.nl,o,h.mh.only e h.lh,h.nl,h.nh,h.lh⟩
theorem cE.held(h:cE w b lb hb m){l:KV bF}(o:bp w1 hb<|dY (λ_ f=>yI f) l)(e:Only (λk=>k=hb) w w1):cE w1 b lb hb {m with held:=l}:=
 ⟨h.blk.only e<|X? h.nh,h.ml.only e<|X? h.lh,o,h.nl,h.nh,h.lh⟩
theorem Only.j1{b lb hb:Nat}(h:Only (λk=>k=b) w w1):Only (xM b lb hb) w w1:=h.mono λ_ _ e=>.inl e
theorem Only.j2{b lb hb:Nat}(h:Only (λk=>k=lb) w w1):Only (xM b lb hb) w w1:=h.mono λ_ _ e=>.inr (.inl e)
theorem Only.j3{b lb hb:Nat}(h:Only (λk=>k=hb) w w1):Only (xM b lb hb) w w1:=h.mono λ_ _ e=>.inr (.inr e)
section
variable(h:cE w b lb hb m)
include h
theorem cE.CE(k:Int):
 (Instr.lookup 91 (.map<|C! lb) (A! k) C?).run E? w=.ok (.tuple #[A!<|(bt m.links k).getD 0,H?<|au m.links k]) w:=by
 rw[pg h.ml underlying91 underlying3 k (A! 0) π C?,BN,qU];cases bt m.links k<;>rfl
theorem cE.ZM(k:Int):
 (Instr.lookup 152 (.map<|C! hb) (A! k) C?).run E? w=.ok (.tuple #[yI<|(bt m.held k).getD eZ,H?<|au m.held k]) w:=by
 rw[pg h.mh underlying152 underlying3 k (yI eZ) (by go_simp;rfl) C?,BN,qU];cases bt m.held k<;>rfl
theorem cE.acS(e:TypeId):(Builtin.len_ #[91] e #[.map<|C! lb]).run E? w=.ok (A! m.links.length) w:=by
 rw[tW (P:=E?) h.ml underlying91 e,dN]
theorem cE.UB(e:TypeId):(Builtin.len_ #[152] e #[.map<|C! hb]).run E? w=.ok (A! m.held.length) w:=by
 rw[tW (P:=E?) h.mh underlying152 e,dN]
end
def GH(b lb hb:Nat)(m':aT)(w:D!)(r:I?)(e:Ending)(o:D!):Prop:=e=.returned r/\cE o b lb hb m'/\Only (xM b lb hb) w o
theorem ae8(s n z:Int)(i:0<z):((s-n).tmod z+z).tmod z=(s-n)%z:=by
 have o:=bb1 (s-n)<|show z≠0 from B!
 have h:(s-n).tmod z=(s-n)%z\/(s-n).tmod z=(s-n)%z-z:=by
  rw[Int.tmod_eq_emod];split
  .left;omega
  .right;omega
 rw[baB B!];rcases h with e|e<;>rw[e]
 .rw[Int.add_emod_right,Int.emod_emod]
 .rw[Int.sub_add_cancel,Int.emod_emod]
end
section
variable{m:aT}
section
variable(h:cE w b lb hb m)
include h
theorem cE.c0:J? w b 0<|cG m:=h.blk.cell 0
theorem cE.c1:J? w b 1 m.next:=h.blk.cell 1
theorem cE.c2:L! w b 2<|H? m.short:=h.blk.cell 2
theorem cE.c3:J? w b 3 m.most:=h.blk.cell 3
theorem cE.c4:L! w b 4 (.map<|C! lb):=h.blk.cell 4
theorem cE.c5:L! w b 5 (.map<|C! hb):=h.blk.cell 5
theorem cE.c6:J? w b 6 m.lost:=h.blk.cell 6
end
theorem lY{n:Int}(e: -9223372036854775808<=n)(o:n<=9223372036854775807):IntKind.i64.wrap n=n:=by
 simp[IntKind.wrap,IntKind.bits,IntKind.signed];omega
theorem ug(s:Int)(h:cE w b lb hb m)(i:gH m)(v: -1099511627776<=s/\s<=1099511627776):
 G! E? 199 #[ptr b,A! s] w (S? w<|A!<|gN m s):=by
 have d:=h.c0;have c:=h.c1;have r:=eF m;have n:=lj m s;have f:=i.n0;have l:=i.n1;have e:=ae8 s m.next (cG m) B!;have o:E!<|gN m s=(s-m.next)%cG m:=A? rfl;clear h i;generalize gN m s=O at n o|-;generalize cG m=Z at d r n l e o;generalize m.next=N at c f l e o;have j:=Int.tmod_lt_of_pos (s-N)<|show 0<Z from B!;have q: -Z<(s-N).tmod Z:=by have:=Int.lt_tmod_of_pos (s-N)<|show 0<Z from B!;omega
 have w1:IntKind.i64.wrap (s-N)=s-N:=lY B! B!;have z:IntKind.i64.wrap ((s-N).tmod Z+Z)=(s-N).tmod Z+Z:=lY B! B!;have k:Z≠0:=B!;obtain⟨g,y,-⟩:=r;have u:=A? e;clear e n;unfold ptr;go_in;go_wp2_with fail;apply gG M? M?
 repeat still_step
 apply Θ;go_wp2;go_ret;exact⟨by rw[u.out,<-o.out];rfl,aQ U?⟩
theorem CF(o:Int)(h:cE w b lb hb m)(i:gH m)(y:0<=o/\o<=1099511627776):
 G! E? 238 #[ptr b,A! o] w (S? w<|A!<|qM m o):=by
 have l:=h.c0;have d:=h.c1;have n:=eF m;have u:=i.n0;have r:=i.n1;have e:E!<|qM m o=(m.next+o)%cG m:=A? rfl;generalize qM m o=O at e|-;generalize cG m=Z at l n r e;generalize m.next=N at d u r e;have w1:IntKind.i64.wrap (N+o)=N+o:=lY B! B!;have v:Z≠0:=B!;have c:=A?<|baB (show 0<=N+o from B!) (b:=Z);obtain⟨f,g,-⟩:=n;unfold ptr;go_in;go_wp2_with fail;apply gG M? M?
 repeat still_step
 apply Θ;go_wp2;go_ret;exact⟨by rw[e.out,<-c.out];rfl,aQ U?⟩
theorem OD(s:Int)(h:cE w b lb hb m)(l:gH m)(d: -1099511627776<=s/\s<=1099511627776):
 G! E? 269 #[ptr b,A! s] w (S? w<|A!<|eM m s):=by
 have o:=h.c0;have r:=eF m;have i:=lj m s;have n:=ug s h l d;have e:E!<|eM m s=if cG m/2<=gN m s then gN m s-cG m else gN m s:=A? rfl
 generalize eM m s=R at e|-;generalize gN m s=O at e n i;generalize cG m=Z at o r i e;obtain⟨c,u,f⟩:=r;obtain⟨g,y⟩:=i;unfold ptr at*
 go_in
 go_wp2_with fail;refine M! n λv hb=>?_;have o:=aw hb o;go_wp2_with fail
 all_goals
  go_ret;refine⟨?_,hb⟩;rw[e.out]
  first|(rw[G? B!];rfl)|(rw[F! B!];rfl)
end
section
def Ei(w:D!)(r b:Nat):Nat:=
 match w.heap[r]?,w.heap[b]? with
 |some (.mapIter _ _ o _),C! (.map e _)=>(leftOf e o).size
 |_,_=>0
theorem iB{w:D!}{r b:Nat}{left:ES}(h:gP w r b left):Ei w r b=left.length:=by
 obtain⟨d,l,y,n,g,e,o,c,u,f,i⟩:=h;unfold Ei;rw[o,e];have:=U! List.length i;simpa using this
variable{m:aT}
theorem I5(m:aT)(s:Int): -16777216<=eM m s/\eM m s<=16777216:=by
 have e:=lj m s;have o:=eF m;unfold eM;split<;>omega
theorem mH{i:Type}{l:KV i}{k:Int}{v:i}(r:(l.map (·.1)).Nodup)(h:(k,v)∈l):(dB l k).length+1=l.length:=by
 let⟨j,o,e⟩:=List.mem_iff_getElem.1 h;have n:l[j]? =C! (k,v):=by rw[ο o,e]
 rw[E1 r n rfl,List.length_eraseIdx_of_lt o];omega
theorem Wx(h:cE w b lb hb m)(c:gH m):G! E? 236 #[ptr b] w (S? w<|A!<|fV m):=by
 have l:=h.c0;have g:=h.c4;have K:=eF m;have a1:=A? λs w (h:cE w b lb hb m) a6=>OD s h c a6;have H:=A? h;have a8:=h.ml.lt;have a4:=A? c.ls;have J:=A? c.ln;clear h c;let⟨Z,E⟩:=F?<|cG m;have HZ:=A? E;rw[E]at l K;clear E;obtain⟨ab,ac,-⟩:=K;unfold ptr at*
 go_in
 go_wp2_with(refine jH rfl _ rfl underlying91 H.ml rfl λw1 M a5 a3 ae=>?_);have Q:=l;have a0:=g;clear l g;simp only[Act.put,υ,ϑ,ϊ];go_loopw[3] (λv wr=>∃(o:Int) (left:KV Int),v=A! o/\gP wr w.heap.size lb (dY (λ_ n=>A! n) left)/\K! w wr/\E! ((left.map (·.1)).Nodup)/\E! (∀y∈left,y∈m.links)/\E! (∀y∈m.links,y∉left->¬y.2<0)/\E! (pK (λx:Int×Int=>eM m x.2) (cG m) (λy=>y∈m.links/\y∉left) o)/\(-1099511627776<=o/\o<=1099511627776)) (λ_ wr=>Ei wr w.heap.size lb)
 case atStart=>exact⟨Z,m.links,rfl,M,a3,J,A? (λy N=>N),A? (λy j q=>absurd j q),A? naI,B!⟩
 case round=>
  obtain⟨o,left,rfl,F,r,hnd,f,I,O,a9,aa⟩:=hrel;have S:=iB F;clear M a5;have l:=aw r Q;have g:=aw r a0
  go_wp2_with(first
   |(refine kF rfl _ rfl F bbk rfl (λC=>?_) (λk v al W V B ag=>?_)
     rotate_left
     obtain⟨n,u,rfl⟩:=vF W;have d:=r.trans<|B.below r.size λb e=>bbW;have HN:=A?<|a4 _<|f.out _ u;have R:=A? V;clear B W V
     rotate_left)
   |(apply iD rfl _ rfl R rfl)
   |(refine M! (a1 n _ (H.below d) nay) λam D=>?_))
  .rename_i i;have hle:=tf C;have z:=JM (λx hx=>by have:=I.out x hx bcG;omega)<|O.out.congr (P':=(· ∈m.links)) λy=>bcG;have i:o=Z:=by simpa using i
   rw[z,HZ.out,G? i];go_ret;exact⟨rfl,r⟩
  .rename_i i;have hle:=tf C;have z:=JM (λx hx=>by have:=I.out x hx bcG;omega)<|O.out.congr (P':=(· ∈m.links)) λy=>bcG;have i:¬o=Z:=by simpa using i
   rw[z,HZ.out,F! i];go_ret;exact⟨rfl,r⟩
  .have Y:n<0:=baI;rw[Wh (f.out _ u) Y];go_ret;exact⟨rfl,d⟩
  .have Y:0<=n:=B!;have ad:=I5 m n;have a2:=d.trans<|D.mono d.size;have A:=R.1.below D;rw[fZ]at A;have X:=visit hnd.out f.out u;have a7:=mH hnd.out u;go_roundw
   case rel=>
    refine⟨min o<|eM m n,dB left k,rfl,A,a2,A?<|fM hnd.out k,A? (λy N=>f.out y<|lF N),A? (λy j q=>?_),A?<|O.out.step (k,n) X,B!⟩;rcases(X y).1 ⟨j,q⟩with h|rfl
    .exact λe=>by have:=I.out y h.1 h.2;omega
    .exact λe=>by simp only at e;omega
   case measure=>
    have L:=iB A;rw[dN]at L S;rw[L,S];omega
theorem OE(m:aT){e:Int}(h:pK (λx:Int×bF=>gN m x.1) (cG m) (· ∈m.held) e):ji m=e:=(h.Zy<|Bk _ m.held<|cG m).symm
theorem RQ(h:cE w b lb hb m)(r:gH m):G! E? 239 #[ptr b] w (S? w<|A!<|ji m):=by
 have n:=h.c0;have l:=h.c5;have C:=eF m;have Y:=A? λs w (h:cE w b lb hb m) a0=>ug s h r a0;have H:=A? h;have a4:=h.mh.lt;have X:=A? r.ks;have Q:=A? r.nd;clear h r;let⟨Z,d⟩:=F?<|cG m;have HZ:=A? d;rw[d]at n C;clear d;obtain⟨a7,a8,-⟩:=C;unfold ptr at*
 go_in
 go_wp2_with(refine jH rfl _ rfl underlying152 H.mh rfl λw1 I J V a2=>?_);have M:=n;have F:=l;clear n l;simp only[Act.put,υ,ϑ,ϊ];go_loopw[3] (λv wr=>∃(o:Int) (left:KV bF),v=A! o/\gP wr w.heap.size hb (dY (λ_ f=>yI f) left)/\K! w wr/\E! ((left.map (·.1)).Nodup)/\E! (∀y∈left,y∈m.held)/\E! (pK (λx:Int×bF=>gN m x.1) (cG m) (λy=>y∈m.held/\y∉left) o)/\(-1099511627776<=o/\o<=1099511627776)) (λ_ wr=>Ei wr w.heap.size hb)
 case atStart=>exact⟨Z,m.held,rfl,I,V,Q,A? (λy q=>q),A? naI,B!⟩
 case round=>
  obtain⟨o,left,rfl,N,i,hnd,j,R,a5,a6⟩:=hrel;have z:=iB N;clear I J;have n:=aw i M;have l:=aw i F
  go_wp2_with(first
   |(refine kF rfl _ rfl N bbk rfl (λK=>?_) (λk v ab S D L aa=>?_)
     rotate_left
     obtain⟨f,g,rfl⟩:=vF S;have c:=i.trans<|L.below i.size λb e=>bbW;have HN:=A?<|X _<|j.out _ g;have E:=A? D;clear L S D
     rotate_left)
   |(apply iD rfl _ rfl E rfl)
   |(refine M! (Y k _ (H.below c) nay) λac O=>?_))
  .have hle:=tf K;have W:=OE m<|R.out.congr (P':=(· ∈m.held)) λy=>bcG;rw[W];go_ret;exact⟨rfl,i⟩
  .have a9:=lj m k;have B:=c.trans<|O.mono c.size;have u:=E.1.below O;rw[fZ]at u;have a1:=visit hnd.out j.out g;have a3:=mH hnd.out g;have a2:=HZ.out;go_roundw
   case rel=>
    exact⟨min o<|gN m k,dB left k,rfl,u,B,A?<|fM hnd.out k,A? (λy q=>j.out y<|lF q),A?<|R.out.step (k,f) a1,B!⟩
   case measure=>
    have A:=iB u;rw[dN]at A z;rw[A,z];omega
end
