/- Walks and plain laws. -/
import Derived.Test.YtncddkcponjlpaaGreatDoorK53
set_option linter.unusedVariables false
set_option linter.unusedSimpArgs false
set_option maxHeartbeats 0
set_option maxRecDepth 99999
namespace Go.Proofs.YtncddkcponjlpaaGreatDoor
open Go.RowKit Go.Proofs.Tryz
open Go renaming World→D!,Value→I?,Calls→G!,IntKind→ncy
open Go.RowKit renaming Hid→E!
open Decidable renaming decide→K?
open Option renaming some→C!,none→L?
open Bool renaming true→C?,false→H!
open Go.Proofs.Tryz renaming prog→E?
variable{P:Prop}
variable{w w1 w2:D!}{G G1 G2:Nat->Tag}{n ml id:Int}{b sb N r:Nat}{x:eY}{z z':PS}{m:aF}
theorem EX(p:aF)(e:List bD)(i:Int):(mD p e i).cC=p.cC:=by
 unfold mD;split
 .rfl
 .split<;>rfl
theorem Mu(mk:Int)(p:aF)(q:cR):(dA mk p q).cC=p.cC:=by
 unfold dA;split
 .rfl
 .split
  .rfl
  .split
   .exact EX _ _ _
   .rfl
theorem uP(mk:Int):∀(e:List cR) (p:aF),(e.foldl (dA mk) p).cC=p.cC
 |[],p=>rfl
 |q::e,p=>(uP mk e<|dA mk p q).trans<|Mu mk p q
theorem U3{B:cR}{mk:Int}{o:Bool}{i s e:aF}{t:List cR}(h:pZ B.id (1-z.1.side)=mk)(l:(!z.1.aX&&jq z B mk)=o)(d:{z.1 with cC:=(lw z.1.cC B o).1}=i)(c:(lw z.1.cC B o).2.1=t)(u:pI i t=s)(f:t.foldl (dA mk) s=e):
 Ag z B=if gi z.1.cC=C?/\gi e.cC=H!/\t=[]then iJ (e,z.2) e.cC.last else(e,z.2):=by
 unfold Ag;dsimp only;rw[h,l,d,c,u,f]
theorem Ku(p:aF)(e:List cR):(pI p e).cC=p.cC:=by
 unfold pI;split<;>rfl
theorem abz{v:I?}(B:cR)(h:aS w G n b sb x z)(he:Env w G ml)(hf:Fit N r z)(en:Sub z)(hN:N<=40000000000)(el:r+5<=10000000)(e7:aI w v B.opts)(dr:∀k,v.ownBlock=C! k->k≠x.k)(e9:∀o∈B.opts,o.2.size<=4611686018427387904)(e4:B.opts.length<=2049)(dy:0<=B.id/\B.id<=255):
 G! E? 164 #[ptr b,.agg<|iC B v] w (fu n b sb G w x z (Ag z B) (.tuple #[])):=by
 let⟨W,hw1⟩:=F?<|w.alloc (.cells (iC B v) 157);have dd:K! w W:=bac;let⟨Q,hQ⟩:=F? w.heap.size;have bv:aO W Q 157<|iC B v:=baY;let⟨a5,cv⟩:=h.below dd;generalize grow G w.heap.size free=d6 at a5 cv;have e8:=aD.below e7 dd;have ek:=he.uM h.n01 cv;have R:=bv.k 0;have E:=bv.k 1;have V:=bv.k 2;have H:=bv.k 3;have cy:=bv.lt;have db:=a5.p.blk.lt;have em:=hf.p.sd;have hn1:=h.n01;have e3:z.1.links.length<=8:=bbi;let⟨eo,eq,dk⟩:=a5.p.k;have wu:=A?<|rD dk.blk;have c5:x.k≠b:=λe=>by have de:=dk.tag;rw[e,a5.p.tag]at de;simp at de
 have a3:x.k≠Q:=λe=>by
  let⟨ep,er,e6⟩:=h.p.k;have:=e6.blk.lt;omega
 have ck:=A? λw=>Kr B.id (1-z.1.side) w B! B!;have co:=a5.p.blk.k 18;have C:=a5.p.blk.k 22;have O:=a5.p.blk.k 19;have HZ:=A? e9;have cf:=A? e4;have dq:=A? dr;have C4:=A? dy;have d9: -1<=1-z.1.side/\1-z.1.side<=1:=B!;have EY:E!<|Ag z B=Ag z B:=A? rfl;let⟨mk,dj⟩:=F?<|pZ B.id<|1-z.1.side;rw[dj]at ck;have da:=A? dj;generalize z.1.side=ds at ck co d9;let⟨d5,d7⟩:=F? z.1.aX;rw[d7]at O;have d8:=A? d7;let⟨c1,dh⟩:=F?<|gi z.1.cC;rw[dh]at wu;have ca:=A? dh;obtain⟨ei,ej⟩:=d9;rw[<-hQ]at cy;unfold iC at hw1|-;unfold ptr at*
 go_in
 go_wp2_with(go_at_call 82;refine M! wu λwm ew=>?_);refine dW (λf=>J? f Q 1 B.id/\J? f b 18 ds) (zcb [7,1,1]) (⟨E,co⟩) ?_;refine R? ?_;intro ap I;go_wp2_with(go_at_call 203;refine M! (ck _) λwm ew=>?_);refine O! I ⟨E,co⟩ ?_;refine T? ?_;have bx:=a5.drew.drew;have a8:=A?<|(cv.trans<|aB (bG n) d6 W).trans<|aB (bG n) d6 W.drew;let⟨g,M⟩:=F? W.drew;have R:g.drew.cell? (B? Q 0)=N? B.code:=by rw[<-M];exact R
 have E:g.drew.cell? (B? Q 1)=N? B.id:=by rw[<-M];exact E
 have V:g.drew.cell? (B? Q 2)=N? B.answer:=by rw[<-M];exact V
 have H:g.drew.cell? (B? Q 3)=C! v:=by rw[<-M];exact H
 have C:g.drew.cell? (B? b 22)=C! (P? x.k):=by rw[<-M];exact C
 have O:g.drew.cell? (B? b 19)=C! (H? d5):=by rw[<-M];exact O
 have dl:aI g.drew v B.opts:=by rw[<-M];exact aD.below (aD.below e8 (P! W.heap.size W).drew) (P! W.drew.heap.size W.drew).drew
 have db:b<g.drew.heap.size:=by rw[<-M];exact db
 have cy:Q<g.drew.heap.size:=by rw[<-M,<-hQ];exact cy
 rw[M]at bx a8|-;have cd:=A?<|PK B mk bx e3 R H dl HZ;let⟨ao,df⟩:=F?<|jq z B mk;rw[df]at cd;have ee:=A? df;have c2:=A?<|λ(d1:D!) (c3:Below g.drew.heap.size g.drew d1) (yes:Bool)=>XQ (v:=v) B (bx.below c3).1 hf (aD.below dl c3) HZ cf yes dq;have cz:=A?<|λ(d1:D!) (c3:Below g.drew.heap.size g.drew d1)=>(bx.below c3).2;unfold iC at c2;unfold ptr at*
 go_wp2_with fail;cases d5 with
 |true=>
  refine dW (λf=>L! f b 22 (P? x.k)/\J? f Q 0 B.code/\J? f Q 1 B.id/\J? f Q 2 B.answer/\L! f Q 3 v/\L! f b 19 (H? C?)) (zcb [13,1,1,1,5]) (⟨C,R,E,V,H,O⟩) ?_;refine R? ?_;intro ap I;go_wp2_with fail;refine O! I ⟨C,R,E,V,H,O⟩ ?_;refine R? ?_;intro ap I;have L:=P! g.drew.heap.size g.drew;have c0:=A?<|c2 _ L H!;go_wp2_with(go_at_call 204;apply c0.mono;rintro e eh ⟨ef,eg,l,dp,rfl,b4,b5,c7,b1,j⟩);refine O! I ⟨j.cell C<|X? c5,j.cell R<|X? a3,j.cell E<|X? a3,j.cell V<|X? a3,j.cell H<|X? a3,j.cell O<|X? c5⟩ ?_;have a8:=A?<|a8.trans<|cz _ L;refine T? ?_;have ch:=A?<|a8.trans c7;have HM3:=A? b4;have a9:l.length<=1:=by have:=DE z.1.cC B H!;rw[<-b4,g!]at this;exact this
  obtain⟨A,a2⟩:∃A:aF,{z.1 with cC:=(lw z.1.cC B H!).1}=A:=⟨_,rfl⟩;have ae:=A? a2;rw[a2]at b5;have bd:E!<|Fit N r (A,z.2):=A? (by rw[<-a2];exact(Fh hf<|hf.p.t.take B H! (by have:=cf.out;omega)).fit);have an:=A?<|z7 b5 bd hN B! b1 a9;unfold ptr at an;go_wp2_with(go_at_call 173;apply an.mono;rintro e d0 ⟨rfl,ba,d3,am,b6,c8⟩);let⟨P2,az⟩:=F?<|pI A<|l.map (·.1);have a1:=A?<|CV bd (bs:=l.map (·.1))<|by rw[g!];exact a9
  rw[az]at am a1;have bl:=A? az;have bf:E!<|∀i,au z.1.links i=C?->au A.links i=true:=A? (by rw[<-ae.out];exact λi h=>h);have bk:=A?<|λi (hi:au z.1.links i=C?)=>c8 i<|bf i hi;have bi:=A?<|λi (hi:au z.1.links i=C?)=>a1.keep i N!<|bf i hi;have be:=A? a1.fit;have ab:=A?<|b1.step b6;have bj:=A?<|ch.trans b6;let⟨a0,ar⟩:=F? l.length;rw[ar]at a9 ab|-;have uS:=A? ar;have ci:E!<|∀y∈l,∀o∈y.1.opts,o.2.size<=4611686018427387904:=A? λy hy o cr=>HZ o<|Io y.1 nby o cr;go_loopw[47] (λi wr=>∃k:Nat,k<=a0/\i=A! k/\E! (∃aa bz,aS wr aa n b sb bz (((l.take k).map (·.1)).foldl (dA mk) P2,z.2)/\Step (bG n) G w aa wr/\Step (bG n) ba d0 aa wr/\∀i,au z.1.links i=C?->bz.f i=x.f i)) (λi _=>a0-(intOf i).toNat)
  case atStart=>exact⟨0,S! _,rfl,A? ⟨ba,d3,am,bj,Step.refl _ _ _,bk⟩⟩
  case round=>
   obtain⟨k,e0,rfl,ac⟩:=hrel;by_cases cp:k<a0
   .let⟨G5,x5,hp5,hs5,b7,Y⟩:=ac.out;have hk1:k<l.length:=by rw[uS.out];exact cp
    have b2:=ab.step b7;obtain⟨du,ea,rfl,dv,-,bm,bo,ag,al⟩:=b2.cells k hk1;have a4:=b2.op _<|l! hk1;have a7:=ci _<|l! hk1;have a6:E!<|(l.take<|k+1).map (·.1)=(l.take k).map (·.1)++[l[k].1]:=A? mde;generalize l[k]=q at bm bo ag al a4 a6 a7;obtain⟨q,qa,qc⟩:=q;simp only at bm bo ag al a4 a6 a7;have u:=(rE (mk:=mk) ((l.take k).map (·.1)) be);let⟨ad,b0⟩:=F?<|((l.take k).map (·.1)).foldl (dA mk) P2;have rC:E!<|((l.take<|k+1).map (·.1)).foldl (dA mk) P2=dA mk ad q:=A? (by rw[a6.out,ϙ,b0];rfl);simp only at u;rw[b0]at hp5 u;have cc:=A? u.fit;have ce:=A?<|λi (hi:au z.1.links i=C?)=>u.keep i N!<|bi i hi;have ax:K! wr<|wr.alloc (.cells #[A! q.code,A! q.id,A! q.answer,J! qa q.opts.length qc] 157):=R!;have b3:=aO.new wr 157 #[A! q.code,A! q.id,A! q.answer,J! qa q.opts.length qc];let⟨p6,b9⟩:=hp5.below ax;have c4:=C5 (q:=wr.heap.size) (v:=J! qa q.opts.length qc) q mk p6 cc hN (b3.cell 0) (b3.cell 3) (aD.below a4 ax) a7;have D:=A? c4;have HS6:=A?<|hs5.trans b9;have HS46:=A?<|b7.trans b9;have HX5:=A? Y;generalize q.opts.length=QL at al D p6 HS6 HS46;let⟨AN,av⟩:=F? q.answer;rw[av]at ag D p6 HS6 HS46;have bc:=A? av;unfold ptr at D;by_cases F:AN=0
    .have Kq:=A? (Im (mk:=mk) (p:=ad) (q:=q)<|bc.trans F);subst F;go_wp2_with(go_at_call 206;apply D.mono;rintro e d2 ⟨rfl,cb,d4,c6,b8,c9⟩);have HP7:E!<|aS d2 cb n b sb d4 (((l.take<|k+1).map (·.1)).foldl (dA mk) P2,z.2):=A? (by rw[rC.out,Kq.out];exact c6);have HS7:=A?<|HS6.trans b8;have HS47:=A?<|HS46.trans b8;have HX7:=A?<|λi (hi:au z.1.links i=C?)=>(c9 i<|ce i hi).trans<|HX5 i hi;exact ncg
    .have Kq:=A? (EE (mk:=mk) (p:=ad) (q:=q)<|λe=>F<|bc.symm.trans e);have e5:=Q?.2 F;exact nbw
   .obtain rfl:k=a0:=B!;obtain⟨G5,x5,hp5,hs5,-,Y⟩:=ac.out;rw[show l.take k=l by rw[<-uS.out,v!]]at hp5;have u:=(rE (mk:=mk) (l.map (·.1)) be);let⟨P3,J⟩:=F?<|(l.map (·.1)).foldl (dA mk) P2;simp only at u;rw[J]at hp5 u;have br:P3.cC=(lw z.1.cC B H!).1:=by rw[<-J,uP,<-bl.out,Ku,<-ae.out]
    have K:Ag z B=if c1=C?/\gi P3.cC=H!/\l.map (·.1)=[]then iJ (P3,z.2) P3.cC.last else(P3,z.2):=by
     rw[<-ca.out];exact U3 da (by rw[d8.out];rfl) ae HM3.symm bl J
    have EY:=A? K;have HT3:=A? br;have HF3:=A? u.fit;have HX3:=A? Y;have HK3:=A?<|λi (hi:au z.1.links i=C?)=>u.keep i N!<|bi i hi;let⟨eb,ec,Z⟩:=hp5.p.k;have wu:=A?<|rD Z.blk;have HLS:=A?<|Ks Z.blk Z.ol.at u.fit.p.t.ol;have dt:=hp5.p.blk.k 22;let⟨cj,X⟩:=F?<|gi P3.cC;simp only at wu HLS;rw[X]at wu;have cn:=A? X;rw[X]at K;have EY:=A? K;clear Y u J br K Z X ac am bj bk ab;unfold ptr at*
    cases c1 with
    |false=>
     go_wp2
     exact mbM
    |true=>
     cases cj with
     |true=>
      go_wp2_with(go_at_call 82;refine M! wu λwm ew=>?_);exact mbM
     |false=>
      by_cases h0:k=0
      .have hl0:l.map (·.1)=[]:=by
        have:l.length=0:=uS.trans h0;rw[List.length_eq_zero_iff.1 this];rfl
       have abB:=zA (t:=z.1.cC) (d:=B) (yes:=H!) ca (by rw[<-HT3.out];exact cn) (by rw[<-HM3.out];exact hl0);exact nbQ
      .have e1:((k:Int)==0)=false:=Q?.2 B!;exact naa
 |false=>
  refine dW (λf=>L! f b 22 (P? x.k)/\J? f Q 0 B.code/\J? f Q 1 B.id/\J? f Q 2 B.answer/\L! f Q 3 v/\L! f b 19 (H? H!)) (zcb [13,1,1,1,5]) (⟨C,R,E,V,H,O⟩) ?_;refine R? ?_;intro ap I;go_wp2_with(go_at_call 205;refine M! cd λw2 L=>?_);have R:=aw L R;have E:=aw L E;have V:=aw L V;have H:=aw L H;have C:=aw L C;have O:=aw L O;refine O! I ⟨C,R,E,V,H,O⟩ ?_;clear I ap;refine R? ?_;intro ap I;have c0:=A?<|c2 _ L ao;go_wp2_with(go_at_call 204;apply c0.mono;rintro e eh ⟨ef,eg,l,dp,rfl,b4,b5,c7,b1,j⟩);refine O! I ⟨j.cell C<|X? c5,j.cell R<|X? a3,j.cell E<|X? a3,j.cell V<|X? a3,j.cell H<|X? a3,j.cell O<|X? c5⟩ ?_;clear I ap;have a8:=A?<|a8.trans<|cz _ L;clear j c2 cd cz c0;refine T? ?_;have ch:=A?<|a8.trans c7;have HM3:=A? b4;have a9:l.length<=1:=by have:=DE z.1.cC B ao;rw[<-b4,g!]at this;exact this
  obtain⟨A,a2⟩:∃A:aF,{z.1 with cC:=(lw z.1.cC B ao).1}=A:=⟨_,rfl⟩;have ae:=A? a2;rw[a2]at b5;have bd:E!<|Fit N r (A,z.2):=A? (by rw[<-a2];exact(Fh hf<|hf.p.t.take B ao (by have:=cf.out;omega)).fit);have an:=A?<|z7 b5 bd hN B! b1 a9;clear c7 b4 a2 b5 a8 bx;unfold ptr at an;go_wp2_with(go_at_call 173;apply an.mono;rintro e d0 ⟨rfl,ba,d3,am,b6,c8⟩);let⟨P2,az⟩:=F?<|pI A<|l.map (·.1);have a1:=A?<|CV bd (bs:=l.map (·.1))<|by rw[g!];exact a9
  rw[az]at am a1;have bl:=A? az;have bf:E!<|∀i,au z.1.links i=C?->au A.links i=true:=A? (by rw[<-ae.out];exact λi h=>h);have bk:=A?<|λi (hi:au z.1.links i=C?)=>c8 i<|bf i hi;have bi:=A?<|λi (hi:au z.1.links i=C?)=>a1.keep i N!<|bf i hi;have be:=A? a1.fit;have ab:=A?<|b1.step b6;have bj:=A?<|ch.trans b6;let⟨a0,ar⟩:=F? l.length;rw[ar]at a9 ab|-;have uS:=A? ar;have ci:E!<|∀y∈l,∀o∈y.1.opts,o.2.size<=4611686018427387904:=A? λy hy o cr=>HZ o<|Io y.1 nby o cr;clear b6 c8 az ar an b1 a1;go_loopw[47] (λi wr=>∃k:Nat,k<=a0/\i=A! k/\E! (∃aa bz,aS wr aa n b sb bz (((l.take k).map (·.1)).foldl (dA mk) P2,z.2)/\Step (bG n) G w aa wr/\Step (bG n) ba d0 aa wr/\∀i,au z.1.links i=C?->bz.f i=x.f i)) (λi _=>a0-(intOf i).toNat)
  case atStart=>exact⟨0,S! _,rfl,A? ⟨ba,d3,am,bj,Step.refl _ _ _,bk⟩⟩
  case round=>
   obtain⟨k,e0,rfl,ac⟩:=hrel;by_cases cp:k<a0
   .let⟨G5,x5,hp5,hs5,b7,Y⟩:=ac.out;have hk1:k<l.length:=by rw[uS.out];exact cp
    have b2:=ab.step b7;obtain⟨du,ea,rfl,dv,-,bm,bo,ag,al⟩:=b2.cells k hk1;have a4:=b2.op _<|l! hk1;have a7:=ci _<|l! hk1;have a6:E!<|(l.take<|k+1).map (·.1)=(l.take k).map (·.1)++[l[k].1]:=A? mde;generalize l[k]=q at bm bo ag al a4 a6 a7;obtain⟨q,qa,qc⟩:=q;simp only at bm bo ag al a4 a6 a7;have u:=(rE (mk:=mk) ((l.take k).map (·.1)) be);let⟨ad,b0⟩:=F?<|((l.take k).map (·.1)).foldl (dA mk) P2;have rC:E!<|((l.take<|k+1).map (·.1)).foldl (dA mk) P2=dA mk ad q:=A? (by rw[a6.out,ϙ,b0];rfl);simp only at u;rw[b0]at hp5 u;have cc:=A? u.fit;have ce:=A?<|λi (hi:au z.1.links i=C?)=>u.keep i N!<|bi i hi;have ax:K! wr<|wr.alloc (.cells #[A! q.code,A! q.id,A! q.answer,J! qa q.opts.length qc] 157):=R!;have b3:=aO.new wr 157 #[A! q.code,A! q.id,A! q.answer,J! qa q.opts.length qc];let⟨p6,b9⟩:=hp5.below ax;have c4:=C5 (q:=wr.heap.size) (v:=J! qa q.opts.length qc) q mk p6 cc hN (b3.cell 0) (b3.cell 3) (aD.below a4 ax) a7;have D:=A? c4;have HS6:=A?<|hs5.trans b9;have HS46:=A?<|b7.trans b9;have HX5:=A? Y;generalize q.opts.length=QL at al D p6 HS6 HS46;let⟨AN,av⟩:=F? q.answer;rw[av]at ag D p6 HS6 HS46;have bc:=A? av;clear b2 a4 a7 u b0 hp5 hs5 b7 Y ax b3 b9 c4 a6 av;unfold ptr at D;by_cases F:AN=0
    .have Kq:=A? (Im (mk:=mk) (p:=ad) (q:=q)<|bc.trans F);subst F;go_wp2_with(go_at_call 206;apply D.mono;rintro e d2 ⟨rfl,cb,d4,c6,b8,c9⟩);have HP7:E!<|aS d2 cb n b sb d4 (((l.take<|k+1).map (·.1)).foldl (dA mk) P2,z.2):=A? (by rw[rC.out,Kq.out];exact c6);have HS7:=A?<|HS6.trans b8;have HS47:=A?<|HS46.trans b8;have HX7:=A?<|λi (hi:au z.1.links i=C?)=>(c9 i<|ce i hi).trans<|HX5 i hi;clear c6 b8 c9 D;exact ncg
    .have Kq:=A? (EE (mk:=mk) (p:=ad) (q:=q)<|λe=>F<|bc.symm.trans e);have e5:=Q?.2 F;clear F;exact nbw
   .obtain rfl:k=a0:=B!;obtain⟨G5,x5,hp5,hs5,-,Y⟩:=ac.out;rw[show l.take k=l by rw[<-uS.out,v!]]at hp5;have u:=(rE (mk:=mk) (l.map (·.1)) be);let⟨P3,J⟩:=F?<|(l.map (·.1)).foldl (dA mk) P2;simp only at u;rw[J]at hp5 u;have br:P3.cC=(lw z.1.cC B ao).1:=by rw[<-J,uP,<-bl.out,Ku,<-ae.out]
    have K:Ag z B=if c1=C?/\gi P3.cC=H!/\l.map (·.1)=[]then iJ (P3,z.2) P3.cC.last else(P3,z.2):=by
     rw[<-ca.out];exact U3 da (by rw[d8.out];rw[ee.out];rfl) ae HM3.symm bl J
    have EY:=A? K;have HT3:=A? br;have HF3:=A? u.fit;have HX3:=A? Y;have HK3:=A?<|λi (hi:au z.1.links i=C?)=>u.keep i N!<|bi i hi;let⟨eb,ec,Z⟩:=hp5.p.k;have wu:=A?<|rD Z.blk;have HLS:=A?<|Ks Z.blk Z.ol.at u.fit.p.t.ol;have dt:=hp5.p.blk.k 22;let⟨cj,X⟩:=F?<|gi P3.cC;simp only at wu HLS;rw[X]at wu;have cn:=A? X;rw[X]at K;have EY:=A? K;clear Y u J br K Z X ac am bj bk ab;unfold ptr at*
    cases c1 with
    |false=>
     go_wp2
     exact mbM
    |true=>
     cases cj with
     |true=>
      go_wp2_with(go_at_call 82;refine M! wu λwm ew=>?_);exact mbM
     |false=>
      by_cases h0:k=0
      .have hl0:l.map (·.1)=[]:=by
        have:l.length=0:=uS.trans h0;rw[List.length_eq_zero_iff.1 this];rfl
       have abB:=zA (t:=z.1.cC) (d:=B) (yes:=ao) ca (by rw[<-HT3.out];exact cn) (by rw[<-HM3.out];exact hl0);exact nbQ
      .have e1:((k:Int)==0)=false:=Q?.2 B!;exact naa
theorem TJ(d:List UInt8)(h:aS w G n b sb x z)(O:Env w G ml)(F:Fit N r z)(a9:Sub z)(ax:N<=40000000000)(b2:r+5<=10000000)(j:au z.1.links id=C?)(a5:d.length<=4611686018427387904)
 (a6:(dK d).2=0->0<=(dK d).1.id/\(dK d).1.id<=255)(ab:∀o∈(dK d).1.opts,o.2.size<=4611686018427387904)(Y:(lk z.1 id).dF=C?):
 G! E? 118 #[ptr b,ptr<|x.f id,.agg #[A! 49197,D?<|bytesOf d]] w (fu n b sb G w x z (dL z id (49197,d)) (.tuple #[])):=by
 have b0:=(F.p.link j).1;let⟨W,hw1⟩:=F?<|w.alloc (.cells #[A! 49197,D?<|bytesOf d] 190);have g:K! w W:=bac;let⟨al,hQ⟩:=F? w.heap.size;have S:aO W al 190 #[A! 49197,D?<|bytesOf d]:=baY;have bi:=S.k 0;have bj:=S.k 1;have b6:=S.lt;have ba:=(h.below g).1.p.blk.lt;have f:=A?<|aaQ d W a5;let⟨bl,B⟩:=(h.below g).1.aR j;have M:=kW B.blk;rw[Y]at M;have L:=A? M
 have bc:x.k<w.heap.size:=by
  let⟨be,bf,b3⟩:=h.p.k;exact b3.blk.lt
 have R:E!<|∀l u v,K! W l->bq dS l W.heap.size v (dK d).1.opts->K! l u->aS u (grow G w.heap.size free) n b sb x z/\Step (bG n) G w (grow G w.heap.size free) u/\Env u (grow G w.heap.size free) ml/\aI u v (dK d).1.opts/\∀k,v.ownBlock=C! k->k≠x.k:=A? λl u v av a1 a2=>by
  have a4:=g.trans<|av.mono g.size;have az:=a4.trans<|a2.mono a4.size;let⟨p,s⟩:=h.below az;refine⟨p,s,O.uM h.n01 s,aD.below a1.at a2,λk j=>?_⟩;have:=a1.block k j;have:=g.size;omega
 have E:=A?<|λu Z v (b1:aS u Z n b sb x z) (O:Env u Z ml) (b4:aI u v (dK d).1.opts) (an:∀k,v.ownBlock=C! k->k≠x.k) (ar:(dK d).2=0)=>abz (dK d).1 b1 O F a9 ax b2 b4 an ab (zo d)<|a6 ar
 have xT:E! (dL z id (49197,d)=if(dK d).2=0 then Ag z (dK d).1 else z):=A? (by
  unfold dL;dsimp only;rw[F! I!,F! I!,F! (by rintro⟨e,-⟩;revert e;decide),G? ⟨rfl,Y⟩])
 let⟨am,a3⟩:=F?<|dK d;unfold nG at f;rw[a3]at f R E xT;obtain⟨k,ao⟩:=am;simp only at f R E xT;unfold iC at f E;let⟨b9,C⟩:=F?<|x.f id;rw[C]at L|-;have b5:=B.blk.lt;rw[C]at b5;clear h O F j a5 b0 a3 C S g a9 a6 ab Y M B;rw[<-hQ]at b6;unfold ptr at*
 by_cases e0:ao=0
 .subst e0;have X:E!<|dL z id (49197,d)=Ag z k:=A? naB;clear xT;go_in;go_wp2_with(first|(go_at_call 48;refine M! L λb7 ap=>?_)|(go_at_call 163;apply f.mono;rintro e l ⟨v,rfl,y,A⟩;obtain⟨J,Q,rfl,-⟩:=aD.form y.at));let⟨I,H,D,K,V⟩:=R l _ _ A y<|ak (P! l.heap.size l) (.cells #[A! k.code,A! k.id,A! k.answer,J! J k.opts.length Q] 157);have a0:=A?<|E _ _ _ I D K V trivial;apply a0.mono;rintro e bk ⟨rfl,ac,b8,a7,a8,aa⟩;have ad:=A? a7;have ae:=A?<|H.trans a8;have ag:=A? aa;clear I H D K V a7 a8 aa a0 y A;go_wp2;go_end0;refine⟨rfl,ac,b8,?_,ae,ag⟩;rw[X.out];exact ad
 .have bd:=Q?.2 e0;have X:E!<|dL z id (49197,d)=z:=A? mdg;clear xT e0;go_in;go_wp2_with(first|(go_at_call 48;refine M! L λb7 ap=>?_)|(go_at_call 163;apply f.mono;rintro e l ⟨v,rfl,y,A⟩;obtain⟨J,Q,rfl,-⟩:=aD.form y.at));let⟨I,H,D,K,V⟩:=R l _ _ A y<|ak (P! l.heap.size l) (.cells #[A! k.code,A! k.id,A! k.answer,J! J k.opts.length Q] 157);go_end0;refine⟨rfl,_,x,?_,H,λ_ _=>rfl⟩;rw[X.out];exact I
