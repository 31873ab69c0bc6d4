/- Walks and plain laws. -/
import Derived.Test.YtncddkcponjlpaaGreatDoorK32
set_option linter.unusedVariables false
set_option linter.unusedSimpArgs false
set_option maxHeartbeats 0
set_option maxRecDepth 99999
namespace Go.Proofs.YtncddkcponjlpaaGreatDoor
open Go.RowKit Go.Proofs.Tryz
open Go renaming World→D!,Value→I?,Calls→G!,IntKind→ncy
open Go.RowKit renaming Hid→E!
open Decidable renaming decide→K?
open Option renaming some→C!,none→L?
open Bool renaming true→C?,false→H!
open Go.Proofs.Tryz renaming prog→E?
variable{P:Prop}
variable{w w1 w2:D!}{G G1 G2:Nat->Tag}{n ml id:Int}{b sb N r:Nat}{x:eY}{z z':PS}{m:aF}
def lp(id:Int)(n:Int)(b sb:Nat)(G:Nat->Tag)(w:D!)(x:eY)(z z':PS)(v:I?)(e:Ending)(t:D!):Prop:=
 fu n b sb G w x z z' v e t/\J? t (x.f id) 2 id
theorem Xy{t:Type}(m:KV t)(k:Int)(v:t):dB (bI m k v) k=dB m k:=by
 unfold dB bI;split
 .rw[List.filter_map]
  rw[show((λx:Int×t=> !x.1==k)∘λx=>if(x.1==k)=C? then(k,v)else x)=λx=> !x.1==k from by
   funext x
   simp only[Function.comp];by_cases e:x.1=k<;>simp[e]]
  conv=>rhs;rw[<-mcw (m.filter _)]
  apply bbd;intro x o;have:=(List.mem_filter.1 o).2;simp at this;simp[this]
 .rw[baR];simp
theorem Hw(p:aF)(id:Int):xj p id={bC p id 6 with links:=dB (bC p id 6).links id}:=by
 unfold xj;rw[show(bC p id 6).links=bI p.links id {lk p id with phase:=6}from rfl,Xy]
theorem nj(h:aS w G n b sb x z)(hf:ct N r z.1)(a0:N<=40000000000)(hk:au z.1.links id=C?):
 G! E? 113 #[ptr b,ptr<|x.f id] w (lp id n b sb G w x z (fq z id) (.tuple #[])):=by
 have j:=(hf.link hk).1.id;have a1:=h.aR hk;obtain⟨a7,Y⟩:=a1;have f:=A?<|kW Y.blk;have g:=A?<|AL Y.blk;have F:=A?<|Hv h hf.q a0 hk j;have Z:=A?<|zX h hf B!;let⟨B,hB⟩:=F?<|x.f id
 have a4:=A? (λw G x (h:aS w G n b sb x (ku z.1 id,z.2)) (C:x.f id=B)=>by
  have:=oY 2 0 (id:=id) h hk j nbT;rw[C]at this;exact this)
 have R:=A? (λP w G x (h:aS w G n b sb x (P,z.2)) (hk:au P.links id=C?) (j:(lk P id).id=id) (C:x.f id=B)=>by
  have:=ng 6 (id:=id) h hk j;rw[C]at this;exact this)
 rw[hB]at f g F|-;have H:=A? h;have HK:=A? hk;have C4:=A? j;have HB:=A? hB;unfold ptr at*
 cases hm:(lk z.1 id).dF with
 |true=>
  have xC:E!<|fq z id=(xj (bX (ku z.1 id) id 2 0) id,(iT z.2 id).1):=A? (by unfold fq;rw[hm];rfl);rw[hm]at f;go_in;go_wp2_with(go_at_call 48;refine M! f λI u=>?_;rw[u]);go_wp2_with(go_at_call 147;apply F.mono;rintro e w1 ⟨rfl,G1,a6,a2,a3,W⟩);have X:=A?<|(W id HK).trans HB;have J:=A? W;go_wp2_with(go_at_call 148;apply(a4 _ _ _ a2 X).mono;rintro e w2 ⟨rfl,G2,a5,E,D,M⟩);let⟨P,hP⟩:=F?<|bX (ku z.1 id) id 2 0;have tG:E!<|∀k,au z.1.links k=C?->au P.links k=true:=A? bcy;have Df:=A?<|tG id HK;have xO:E!<|(lk P id).id=id:=A? mcs;rw[hP]at E xC;have Hx:=A?<|λk (hk:au z.1.links k=C?)=>(M k hk).trans<|J k hk;have y:=A?<|(Hx id HK).trans HB;have L:=A?<|a3.trans D;go_wp2_with(go_at_call 151;apply(R _ _ _ _ E Df xO y).mono;rintro e w5 ⟨rfl,G5,x5,hp5,A,hx5⟩);have HS5:=A?<|L.trans A;exact ncP
 |false=>
  rw[hm]at f;cases O:(lk z.1 id).building with
  |true=>
   have xC:E!<|fq z id=(xj (rq z.1) id,(iT z.2 id).1):=A? (by unfold fq;rw[hm,O];rfl);rw[O]at g;go_in;go_wp2_with(go_at_call 48;refine M! f λI u=>?_;rw[u]);go_wp2_with(go_at_call 149;refine M! g λI u=>?_;rw[u]);go_wp2_with(go_at_call 150;apply Z.mono;rintro e w2 ⟨rfl,G2,a5,E,D,M⟩);let⟨P,hP⟩:=F?<|rq z.1;have tG:E!<|∀k,au z.1.links k=C?->au P.links k=true:=A? bcy;have Df:=A?<|tG id HK;have xO:E!<|(lk P id).id=id:=A? mcs;rw[hP]at E xC;have Hx:=A? M;have y:=A?<|(Hx id HK).trans HB;go_wp2_with(go_at_call 151;apply(R _ _ _ _ E Df xO y).mono;rintro e w5 ⟨rfl,G5,x5,hp5,A,hx5⟩);have HS5:=A?<|D.trans A;exact ncP
  |false=>
   have xC:E!<|fq z id=(xj z.1 id,(iT z.2 id).1):=A? (by unfold fq;rw[hm,O];rfl);rw[O]at g;go_in;go_wp2_with(go_at_call 48;refine M! f λI u=>?_;rw[u]);go_wp2_with(go_at_call 149;refine M! g λI u=>?_;rw[u]);let⟨P,hP⟩:=F? z.1;have tG:E!<|∀k,au z.1.links k=C?->au P.links k=true:=A? bcy;have Df:=A?<|tG id HK;have xO:E!<|(lk P id).id=id:=A? mcs;have V:E!<|aS w G n b sb x (P,z.2):=A? (by rw[<-hP];exact H);rw[hP]at xC;have y:=HB;have L:=A?<|Step.refl (bG n) G w;go_wp2_with(go_at_call 151;apply(R _ _ _ _ V Df xO y).mono;rintro e w5 ⟨rfl,G5,x5,hp5,A,hx5⟩);have HS5:=A?<|L.trans A;have HX5:=A?<|λk (hk:au z.1.links k=C?)=>hx5 k<|tG k hk;exact naN
theorem PE(h:aS w G n b sb x z)(hf:ct N r z.1)(e5:N<=40000000000)(E:au z.1.links id=C?):
 G! E? 180 #[ptr b,ptr<|x.f id] w (lp id n b sb G w x z (endP z id) (.tuple #[])):=by
 have Z:=(hf.link E).1.id;have du:=A?<|zy hf.cfg;have e1:E!<|0<=z.1.now/\z.1.now<=40000000000:=A? ⟨hf.n0,by have:=hf.n1;omega⟩;have ca:=A?<|λ(w1:D!) (ax:eY) (d9:aF) (hB:aO w1 b 94<|gE ax d9) (e6:d9.c=z.1.c)=>AZ hB<|by rw[e6];exact hf.cfg
 have b2:=A?<|Hv h hf.q e5 E Z;let⟨B,hB⟩:=F?<|x.f id;let⟨bz,d0⟩:=F?<|(lk z.1 id).drop
 have dd:=A? (λw G x (h:aS w G n b sb x (ku z.1 id,z.2)) (bo:x.f id=B)=>by
  have:=oY 1 bz (id:=id) h E Z nbT;rw[bo]at this;exact this)
 have c5:=A? (λP w G x (h:aS w G n b sb x (P,z.2)) (E:au P.links id=C?) (Z:(lk P id).id=id) (bo:x.f id=B)=>by
  have:=ng 6 (id:=id) h E Z;rw[bo]at this;exact this)
 rw[hB]at b2|-;have ej:=A? h;have L:=A? E;have C4:=A? Z;have C:=A? hB;have c2:=A? d0;have eo:=h.p.blk.lt;clear h hf E Z hB d0;unfold ptr at*
 go_in
 go_wp2_with(go_at_call 147;apply b2.mono;rintro e w1 ⟨rfl,G1,ax,ap,d3,ab⟩;have cp:J? w1 (ax.f id) 6<|(lk z.1 id).drop:=(by let⟨dj,a0⟩:=ap.aR (id:=id) L;exact a0.blk.cell 6);have e7:ax.f id<w1.heap.size:=bW ap (id:=id) L;rw[(ab id L).trans C.out,c2.out]at cp;rw[(ab id L).trans C.out]at e7;have cd:=A?<|(ab id L).trans C;have c8:=A? ap;have ch:=A? ab;have cc:=A? d3;clear ap d3 ab);go_wp2_with(go_at_call 148;apply(dd _ _ _ c8 cd).mono;rintro e w2 ⟨rfl,G2,ev,bk,d4,d7⟩);let⟨P,hP⟩:=F?<|bX (ku z.1 id) id 1 bz;have df:E!<|∀k,au z.1.links k=C?->au P.links k=true:=A? bcy;have ad:=A?<|df id L;have xO:E!<|(lk P id).id=id:=A? mcs;have bs:E!<|P.now=z.1.now/\P.c=z.1.c/\P.aX=z.1.aX:=A? (by rw[<-hP];exact⟨rfl,rfl,rfl⟩);rw[hP]at bk;have eh:=A? hP;clear hP;have c7:=A? bk;have b4:=A?<|λk (E:au z.1.links k=C?)=>(d7 k E).trans<|ch k E;have cj:=A?<|(b4 id L).trans C;have cb:=A?<|cc.trans d4;clear bk d4 d7 c8 ch cc cd b2 dd cp;go_wp2_with(go_at_call 151;apply(c5 _ _ _ _ c7 ad xO cj).mono;rintro e a2 ⟨rfl,a3,A,bl,d5,d8⟩);let⟨u,D⟩:=F?<|bC P id 6;have ce:=A?<|λk (E:au z.1.links k=C?)=>(d8 k<|df k E).trans<|b4 k E;have V:E!<|au u.links id=true:=A? (by rw[<-D];exact(aG (λl=>{l with phase:=6}) ad id).trans ad);have b3:E!<|u.now=z.1.now:=A? (by rw[<-D];exact bs.1);have b1:E!<|u.c=z.1.c:=A? (by rw[<-D];exact bs.2.1);have dr:E!<|u.aX=z.1.aX:=A? (by rw[<-D];exact bs.2.2)
 have ds:E! ((lk u id).id=id):=A? (by
  rw[<-D];exact ncS)
 have b0:=A?<|(ce id L).trans C;have e2:=A? D;rw[D]at bl;have c9:=A? bl;have dv:=A?<|cb.trans d5;clear bl d5 d8 D cb b4 c7 cj c5 xO ad;let⟨H,br⟩:=F? z.1.now;let⟨M,be⟩:=F?<|dP z.1;let⟨eb,ec⟩:=e1.out;let⟨ee,ef⟩:=du.out;rw[br]at eb ec b3;rw[be]at ee ef;have et:=A? br;have ck:=A? be;clear br be;have g:=c9.drew;have an:J? a2.drew b 25 u.now:=g.p.blk.k 25;rw[b3.out]at an;have b6:=ca _ A u g.p.blk b1;rw[show dP u=dP z.1 by unfold dP;rw[b1.out],ck]at b6;have b7:=A? b6;have c1:=A? g;have ek:=g.p.blk.lt;have eg:=bW g V;rw[b0.out]at eg;clear g b6 c9 ca;unfold ptr at b7;go_wp2;refine dW (λf=>J? f b 25 H) (zcb [6,1,3,1]) (an) ?_;refine R? ?_;intro K R;go_wp2_with(go_at_call 224;refine M! b7 λj bf=>?_);have b9:=aw bf an;apply O! R b9;clear R K;refine tK ?_;let⟨aa,d6⟩:=c1.below bf;have a7:=A?<|(dv.trans<|aB (bG n) a3 a2).trans d6;let⟨dj,a0⟩:=aa.aR V;have bj:∀(O:D!) (W:aM) (F:Only (λk=>k=A.f id) j O) (cv:W.neg=(lk u id).neg/\W.proof=(lk u id).proof/\W.term=(lk u id).term/\W.out=(lk u id).out) (d1:aO O (A.f id) 107<|bS dj W),aS O (grow (grow a3 a2.drew.heap.size free) j.heap.size free) n b sb A (bH u id W,z.2)/\Step (bG n) (grow a3 a2.drew.heap.size free) j (grow (grow a3 a2.drew.heap.size free) j.heap.size free) O:=λO W F cv d1=>aa.oq V a0 F cv d1;have bi:=ni aa V;have ac:=a0.blk;have e3:=a0.blk.lt;have en:=aa.p.blk.lt;rw[b0.out]at bj bi ac e3;have c6:=A? bj;have dp:=A? ac;have db:E!<|∀f,Only (λk=>k=B) j f->J? f b 25 H:=A? λf F=>F.cell b9<|X? bi;obtain⟨er,ep⟩:∃v,L! j B 11 v:=⟨_,ac.cell 11⟩;have eq:=ac.frozen 11;clear a0 ac bi aa d6 bj b7 c1 b9 an bf;refine ai λK R=>?_;go_wp2_with fail;refine O! R (db _<|ay j B 11 _) ?_;clear R K;apply aj;let⟨a1,Y⟩:=c6 _ {lk u id with over:=H+M} (ay j B 11<|A!<|H+M) ⟨rfl,rfl,rfl,rfl⟩<|dp.set 11 _ rfl;have y:=A? a1;have X:=A?<|a7.trans Y;clear a1 Y c6 db;let⟨I,J⟩:=F?<|bH u id {lk u id with over:=H+M};have a6:E!<|au I.links id=true:=A? (by rw[<-J];exact(aG (λl=>{l with over:=H+M}) V id).trans V)
 have c4:E! ((lk I id).id=id):=A? (by
  rw[<-J];refine(show(lk (bH u id {lk u id with over:=H+M}) id).id=(lk (aN u id<|λl=>{l with over:=H+M}) id).id from rfl).trans ?_;rw[dV,G? rfl];exact ds)
 have c3:E!<|I.aX=z.1.aX:=A? (by rw[<-J];exact dr)
 have ar:E! (endP z id=if z.1.aX then({I with links:=dB I.links id},(iT z.2 id).1)else(I,z.2)):=A? (by
  unfold endP;dsimp only;rw[c2.out,eh.out,e2.out]
  have e:aN u id (λl=>{l with over:=u.now+dP u})=I:=by
   rw[b3.out,show dP u=dP z.1 by unfold dP;rw[b1.out],ck,<-J];rfl
  rw[e,c3.out])
 rw[J]at y;clear J;have a8:=y.p.blk.cell 19;have e4:=y.p.blk.lt;generalize grow (grow a3 a2.drew.heap.size free) j.heap.size free=a4 at y X;generalize j.setCell (B? B 11) (A!<|H+M)=j at y X a8 e4|-;have ae:=y;have a7:=X;have cf:=ce;have a5:=b0;clear y X
 change _=C! (Value.bool I.aX)at a8
 rw[c3.out]at a8;cases al:z.1.aX with
 |true=>
  rw[al]at a8 ar;clear al;have bv:E!<|endP z id=({I with links:=dB I.links id},(iT z.2 id).1):=A? (by rw[ar.out];rfl);go_wp2_with fail;have g:=ae.out.drew;have am:=fJ g a6 c4;rw[a5.out]at am;have b8:=g.p.blk.k 29
  have b5:E! (∀f,Only (λk=>k=A.lm) j.drew f->f.cell? (B? b 29)=C! (.map (C! A.lm))/\f.cell? (B? B 2)=N? id):=A? (by
   have e8:b≠A.lm:=λe=>by
    have a9:=g.p.tl;rw[<-e,g.p.tag]at a9;simp at a9
   have e9:B≠A.lm:=λe=>by
    have a9:=g.p.tl;let⟨ei,bc⟩:=g.aR a6;rw[<-e,<-a5.out,bc.tag]at a9;simp at a9
   exact λf F=>⟨F.cell b8 e8,F.cell am e9⟩)
  have dk:=g.p.blk.lt;have av:=bW g a6;rw[a5.out]at av
  have dh:E! (a4 B=[n,9,id]):=A? (by
   let⟨ei,bc⟩:=g.aR a6;rw[<-a5.out];exact bc.tag)
  have ci:=A? g.p.lm;have bx:=A? g;clear g;refine dW (λf=>L! f b 29 (.map<|C! A.lm)/\J? f B 2 id) (zcb [8,1]) (⟨b8,am⟩) ?_;refine R? ?_;intro K R;go_wp2_with(refine fW rfl _ _ rfl underlying90 underlying3 id ci rfl rfl λO cz ao ea=>?_);apply O! R (b5 _ ao);clear R K;apply aj;let⟨cn,co⟩:=bx.p.del id ao cz;have cr:=(b5 _ ao).2;let⟨a1,Y⟩:=bx.peer cn rfl co;have X:=A?<|(a7.trans<|aB (bG n) a4 j).trans<|Y.trans<|aB (bG n) (grow a4 j.drew.heap.size free) O;have e0:=A?<|(Y.old _ av).trans dh;have y:=A? a1.drew;have el:=a1.drew.p.blk.lt;have em:B<O.drew.heap.size:=Z! av Y.size;clear a1 Y cn co cz ao ea b5 ci bx b8 am a7 ae dk av dh
  have ba:O.drew.cell? (B? b 27)=C! (ptr sb):=by
   have:L! O.drew b 27<|vE A.s:=y.p.blk.cell 27;rw[this,show A.s=C! sb from y.xs];rfl
  have cy:J? O.drew B 2 id:=cr;clear cr;have ag:=A?<|yT id y.s;simp only at ag
  have az:E! (∀c0 f,Step (aq [2]) (grow a4 j.drew.heap.size free) O.drew c0 f->f.cell? (B? b 27)=C! (ptr sb)/\f.cell? (B? B 2)=N? id):=A? λc0 f hs=>⟨hs.cell ba (by
   show¬aq [2] (grow _ _ _ b);rw[y.p.tag];intro e;simp[aq]at e;rcases y.n01 with h|h<;>omega),hs.cell cy (by
   show¬aq [2] (grow _ _ _ B);rw[e0.out];intro e;simp[aq]at e;rcases y.n01 with h|h<;>omega)⟩
  unfold ptr at ag az ba;go_wp2;refine dW (λf=>L! f b 27 (P? sb)/\J? f B 2 id) (zcb [8,1]) (⟨ba,cy⟩) ?_;refine R? ?_;intro K R;go_wp2_with(go_at_call 78;apply ag.mono;rintro e es ⟨rfl,dl,d2,bm⟩);have bd:=az _ _ bm;apply O! R bd;clear R K;apply aj;have dq:=A? bd.2;let⟨da,de⟩:=y.switch bm d2;have dt:=A? da;have dy:=A?<|X.trans de;clear da de d2 bm bd az ag;go_wp2;go_end0;refine⟨⟨rfl,dl,A,?_,dy,cf.out⟩,by rw[C.out];exact dq⟩;rw[bv.out];exact dt
 |false=>
  rw[al]at a8 ar;clear al;have bv:E!<|endP z id=(I,z.2):=A? (by rw[ar.out];rfl);go_wp2;go_end0;refine⟨⟨rfl,a4,A,?_,a7,cf.out⟩,by rw[C.out,<-a5.out];exact fJ ae.out a6 c4⟩;rw[bv.out];exact ae.out
theorem Tu{t:Tag}{l:aM}{s:Nat}{c:cP}(i e o:Int)(v:i=0\/i=1)(h:cI w G t b l)(d:GZ w s c)(u:¬aq t (G s))(f:zm c)(y:t≠[])(g:l.out.length<=549755813888):
 G! E? 231 #[ptr b,P? s,A! i,A! e,A! o] w (ud t b (kq l c i e o) G w (.tuple #[])):=by
 rcases v with rfl|rfl
 .exact aaT e o h d u f y g
 .exact aaY e o h d u f y g
theorem oH(h:aS w G n b sb x z)(hf:Fit N r z)(ao:N<=40000000000)(bm:r<=10000000)(g:au z.1.links id=C?):
 G! E? 193 #[ptr b,ptr<|x.f id] w (lp id n b sb G w x z (iL z id) (.tuple #[])):=by
 have a1:=(hf.p.link g).1;let⟨c4,V⟩:=h.aR g;have ag:=fJ h g a1.id;have b4:=V.blk.k 0;have am:=V.blk.k 3;have HST:=A?<|zM _ _ _ _ w V.side.blk;have Fl:=A?<|AL V.blk;have qd:=A?<|nj h hf.p ao g;have j:=A?<|PE h hf.p ao g;have L:=h.drew;have u:=A?<|Tu z.1.side (z.1.now+z.1.c.restart) z.1.random hf.p.sd (L.p.mG g) (UX L.p.blk) (by rw[h.p.tag];intro e;simp[aq]at e) hf.p.cfg N! (by have:=a1.out;omega);have b5:=bW h g;have bl:=h.p.blk.lt;have a5:(0<=z.1.now/\z.1.now<=40000000000)/\0<=z.1.c.restart/\z.1.c.restart<=16:=⟨⟨hf.p.n0,by have:=hf.p.n1;omega⟩,mdD,hf.p.cfg.r16⟩;have a7:=L.p.blk.k 18;have a8:=L.p.blk.k 25;have a6:=L.p.blk.k 10;have a9:=L.p.blk.k 26;have B:¬aq [n,9,id] (G b):=by rw[h.p.tag];intro e;simp[aq]at e
 have M:=A? λc b8 t b7=>(a1.prove c b8 t b7).id;have M:=A?<|M z.1.c z.1.side (z.1.now+z.1.c.restart) z.1.random
 have pQ:E! (iL z id=if(lk z.1 id).phase=2/\(lk z.1 id).neg.state=9 then(bC (aN z.1 id (λl=>kq l z.1.c z.1.side (z.1.now+z.1.c.restart) z.1.random)) id 3,z.2)
  else if((lk z.1 id).phase=3\/(lk z.1 id).phase=4)/\(lk z.1 id).neg.state≠9 then fq z id
  else if(lk z.1 id).phase=5/\(lk z.1 id).neg.state=2 then endP z id
  else if(lk z.1 id).building=C?/\((lk z.1 id).neg.state=3\/(lk z.1 id).neg.state=5)then fq z id
  else z):=A? rfl
 rw[show(lk z.1 id).building=(decide ((lk z.1 id).phase=2)||K? ((lk z.1 id).phase=3))from rfl]at pQ Fl;let⟨a0,az⟩:=F?<|(lk z.1 id).phase;let⟨F,ae⟩:=F?<|(lk z.1 id).neg.state;let⟨H,ar⟩:=F? z.1.side;let⟨O,ax⟩:=F? z.1.now;let⟨R,b0⟩:=F? z.1.c.restart;let⟨I,ap⟩:=F? z.1.random;let⟨bd,hB⟩:=F?<|x.f id;rw[az]at am Fl pQ;rw[ae]at HST pQ;rw[ar]at a7 u pQ M;rw[ax]at a8 u pQ a5 M;rw[b0]at a6 u pQ a5 M;rw[ap]at a9 u pQ M;rw[hB]at ag b4 am Fl qd j u b5|-;have al:w.cell? (B? (x.f id) 2)=N? id:=by rw[hB];exact ag
 have D2:=A? al;have b6:E!<|∀ac A,Step (aq [n,9,id]) G w.drew ac A->J? A b 18 H/\J? A b 25 O/\J? A b 10 R/\J? A b 26 I:=A? λac A hs=>⟨hs.cell a7 B,hs.cell a8 B,hs.cell a6 B,hs.cell a9 B⟩;obtain⟨⟨bf,bi⟩,bj,bk⟩:=a5;have HP:=A? h;have bc:=A? L;have J:=A? g;have X:=A? hB;clear h L hf g a1 V az ae ar ax b0 ap hB B al;unfold lp;unfold ptr at*
 by_cases E:a0=2
 .subst E;by_cases f:F=9
  .subst f;have HA:E!<|iL z id=(bC (aN z.1 id<|λl=>kq l z.1.c H (O+R) I) id 3,z.2):=A? (by rw[pQ.out];simp);clear pQ qd j Fl;go_in;go_wp2_with(first|(go_at_call 119;refine M! HST λwm ew=>?_)|(go_at_call 149;refine M! Fl λwm ew=>?_));refine dW (λA=>J? A b 18 H/\J? A b 25 O/\J? A b 10 R/\J? A b 26 I) (zcb [22,1]) (⟨a7,a8,a6,a9⟩) ?_;refine R? ?_;intro b3 an;go_wp2_with(go_at_call 231;apply u.mono;rintro e c3 ⟨rfl,be,aa,ab⟩);apply O! an (b6 _ _ ab);clear an b3;apply aj;rw[<-X.out]at aa;let⟨y,D⟩:=bc.gY J ab aa;let⟨C,W⟩:=F?<|bH z.1 id<|kq (lk z.1 id) z.1.c H (O+R) I;rw[W]at y
   have b1:E! (lk C id=kq (lk z.1 id) z.1.c H (O+R) I):=A? (by
    rw[<-W];refine(show lk (bH z.1 id<|kq (lk z.1 id) z.1.c H (O+R) I) id=lk (aN z.1 id<|λl=>kq l z.1.c H (O+R) I) id from rfl).trans ?_;rw[dV,G? rfl])
   have Z:E!<|au C.links id=true:=A? (by rw[<-W];exact(aG (λl=>kq l z.1.c H (O+R) I) J id).trans J);have b9:E!<|∀k,au z.1.links k=C?->au C.links k=true:=A? λk g=>by rw[<-W];exact(aG (λl=>kq l z.1.c H (O+R) I) J k).trans g
   have ad:E!<|(lk C id).id=id:=A? (by rw[b1.out];exact M);have ba:=A? W;have K:=ng 3 (id:=id) y Z ad;rw[X.out]at K;have K:=A? K;have b2:=A?<|(aB (bG n) G w).trans D;clear y D W aa ab u;unfold ptr at K;go_wp2_with(go_at_call 151;apply K.mono;rintro e w4 ⟨rfl,G4,x4,hp4,hs4,hx4⟩);go_end0
   have av:=fJ hp4 (id:=id) ((aG (λl=>{l with phase:=3}) Z id).trans Z) (by
    refine(show(lk (bC C id 3) id).id=(lk (aN C id<|λl=>{l with phase:=3}) id).id from rfl).trans ?_;rw[dV,G? rfl];exact ad)
   rw[(hx4 id Z).trans X.out]at av;refine⟨⟨rfl,G4,x4,?_,b2.trans hs4,λk g=>hx4 k<|b9 k g⟩,by rw[X.out];exact av⟩;rw[HA.out,show aN z.1 id (λl=>kq l z.1.c H (O+R) I)=C from ba.out];exact hp4
  .have a3:=Q?.2 f;by_cases D:F=3
   .subst D;have HA:E!<|iL z id=fq z id:=A? bcI;clear pQ u a3 f j;exact md9
   .have c1:=Q?.2 D;by_cases a4:F=5
    .subst a4;have HA:E!<|iL z id=fq z id:=A? bcI;clear pQ u a3 f D j;exact md9
    .have c2:=Q?.2 a4;have HA:E!<|iL z id=z:=A? (by rw[pQ.out];simp[f,D,a4]);clear pQ u qd j f D a4;exact bcJ
 .have bs:=Q?.2 E;have bo:=W? E;by_cases y:a0=3
  .subst y;by_cases f:F=9
   .subst f;have HA:E!<|iL z id=z:=A? bcI;clear pQ u qd j E;exact bcJ
   .have a3:=Q?.2 f;have HA:E!<|iL z id=fq z id:=A? (by rw[pQ.out];simp[f]);clear pQ u f E j;exact md9
  .have bv:=Q?.2 y;have br:=W? y;by_cases Y:a0=4
   .subst Y;by_cases f:F=9
    .subst f;have HA:E!<|iL z id=z:=A? bcI;clear pQ u qd j E y;exact bcJ
    .have a3:=Q?.2 f;have HA:E!<|iL z id=fq z id:=A? (by rw[pQ.out];simp[f]);clear pQ u f E y j;exact md9
   .have bx:=Q?.2 Y;by_cases a2:a0=5
    .subst a2;by_cases s2:F=2
     .subst s2;have HA:E!<|iL z id=endP z id:=A? bcI;clear pQ u E y Y qd;go_in;go_wp2_with(first|(go_at_call 119;refine M! HST λwm ew=>?_)|(go_at_call 149;refine M! Fl λwm ew=>?_)|(go_at_call 180;apply j.mono;rintro e w4 ⟨⟨rfl,G4,x4,hp4,hs4,hx4⟩,hi4⟩));go_end0;refine⟨⟨rfl,G4,x4,?_,hs4,hx4⟩,hi4⟩;rw[HA.out];exact hp4
     .have c0:=Q?.2 s2;have HA:E!<|iL z id=z:=A? (by rw[pQ.out];simp[s2]);clear pQ u qd j s2 E y Y;exact bcJ
    .have bz:=Q?.2 a2;have HA:E!<|iL z id=z:=A? (by rw[pQ.out];simp[E,y,Y,a2]);clear pQ u qd j E y Y a2;exact bcJ
