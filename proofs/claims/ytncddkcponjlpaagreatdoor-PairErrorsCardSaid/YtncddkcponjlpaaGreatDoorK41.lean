/- Walks and plain laws. -/
import Derived.Test.YtncddkcponjlpaaGreatDoorK40
set_option linter.unusedVariables false
set_option linter.unusedSimpArgs false
set_option maxHeartbeats 0
set_option maxRecDepth 99999
namespace Go.Proofs.YtncddkcponjlpaaGreatDoor
open Go.RowKit Go.Proofs.Tryz
open Go renaming World→D!,Value→I?,Calls→G!,IntKind→ncy
open Go.RowKit renaming Hid→E!
open Decidable renaming decide→K?
open Option renaming some→C!,none→L?
open Bool renaming true→C?,false→H!
open Go.Proofs.Tryz renaming prog→E?
variable{P:Prop}
variable{w w1 w2:D!}{G G1 G2:Nat->Tag}{n ml id:Int}{b sb N r:Nat}{x:eY}{z z':PS}{m:aF}
theorem abK(W:D!)(G:Nat->Tag)(q:cR)(a:Option Addr)(c:Nat)(d:n=0\/n=1)(s:aD dS W (J! a q.opts.length c) q.opts)(u:∀k,(Value.slice a q.opts.length c).ownBlock=C! k->¬bG n (G k)):
 Ij (W.alloc (.cells #[A! q.code,A! q.id,A! q.answer,J! a q.opts.length c] 157)) (grow G W.heap.size free) n (J! (C!<|B? W.heap.size 0) 1 1) [(q,a,c)]:=by
 have i:=bq.one Cj W (q,a,c) W.heap.size O?;have h:=ak (P! W.heap.size W) (.cells #[A! q.code,A! q.id,A! q.answer,J! a q.opts.length c] 157);refine⟨i.at,λk o=>?_,λx t=>?_,λx t k o=>?_⟩
 .have:=i.block k o;rw[fE G free this];exact kQ d
 .rw[j?]at t;subst t;exact aD.below s h
 .rw[j?]at t;subst t;have l:=aD.lt s k o;have e:grow G W.heap.size free k=G k:=G? l;rw[e];exact u k o
theorem KA{g y:I?}{f:dD}(h:aS w G n b sb x z)(d:yK w G [n,3] x.k g y z.1.cC)(E:gF w1 x.k g y f)(A:f.ask=z.1.cC.ask)(O:f.last=z.1.cC.last)(I:Only (· =x.k) w w1):
 aS w1 (grow G w.heap.size free) n b sb x ({z.1 with cC:=f},z.2)/\Step (bG n) G w (grow G w.heap.size free) w1:=by
 have l:Step (λu=>u=[n,3]) G w (grow G w.heap.size free) w1:=Step.of I (λk _ e=>by rw[e,d.tag]) free;have j:¬(λu=>u=[n,3]) ([n,3]++[0]):=λe=>ba7;exact h.peer (h.p.cC (l.mono (U:=aq [n,3]) λu hu=>baQ) ⟨g,y,E,(l.old _ d.blk.lt).trans d.tag,by rw[A];exact d.oa.step l j,by rw[O];exact d.ol.step l j⟩) rfl<|l.mono λu hu=>meo
theorem abL{D l y:I?}{B:cR}{d:dD}(h:aS w G n b sb x z)(g:yK w G [n,3] x.k D y z.1.cC)(I:gF w1 x.k l y d)(S:d.ask.opts=B.opts)(R:d.last=z.1.cC.last)(L:Only (· =x.k) w w1)(E:bq dS w1 w.heap.size l B.opts):
 ∃G1,aS w1 G1 n b sb x ({z.1 with cC:=d},z.2)/\Step (bG n) G w G1 w1/\∀k,w.heap.size<=k->l.ownBlock≠C! k->G1 k=free:=by
 classical
 have f:Step (λu=>u=[n,3]) G w (λk=>if k<w.heap.size then G k else if l.ownBlock=C! k then[n,3,0]else free) w1:=Step.rule L (λk _ e=>by rw[e,g.tag]) _;have H:¬(λu=>u=[n,3]) ([n,3]++[0]):=λe=>ba7
 have A:pd dS (λk=>if k<w.heap.size then G k else if l.ownBlock=C! k then[n,3,0]else free) ([n,3]++[0]) w1 l d.ask.opts:=by
  rw[S];refine⟨E.base<|S! _,λk j=>?_⟩;have:=E.block k j;show(if k<w.heap.size then _ else if l.ownBlock=C! k then _ else _)=_;rw[F! B!,G? j];rfl
 let⟨C,M⟩:=h.peer (h.p.cC (f.mono (U:=aq [n,3]) λu hu=>baQ) ⟨l,y,I,(f.old _ g.blk.lt).trans g.tag,A,by rw[R];exact g.ol.step f H⟩) rfl<|f.mono λu hu=>meo;refine⟨_,C,M,λk F O=>?_⟩;show(if k<w.heap.size then _ else if l.ownBlock=C! k then _ else _)=_;rw[F! B!,F! O]
theorem KC(h:aS w G n b sb x z)(t:Int):aS (w.drew.setCell (B? b 23)<|A! t) (grow G w.drew.heap.size free) n b sb x ({z.1 with jF:=t},z.2)/\Step (bG n) G w (grow G w.drew.heap.size free) (w.drew.setCell (B? b 23)<|A! t):=by
 have e:=h.drew;let⟨o,i⟩:=e.own (m':={z.1 with jF:=t}) (ay w.drew b 23<|A! t) (e.p.blk.set 23 _ rfl) rfl rfl rfl rfl rfl rfl rfl rfl;exact⟨o,(aB (bG n) G w).trans i⟩
theorem ME(t:dD):(kX t).1.ask=t.ask/\(kX t).1.last=t.last:=by
 unfold kX;exact meT
theorem P9(h:aS w G n b sb x z)(hf:Fit N r z)(hN:N<=40000000000)(hr:r<=10000000):
 Calls prog 128 #[ptr b] w (fu n b sb G w x z (mS z.1,z.2) (.tuple #[])):=by
 have c25:=h.drew.p.blk.k 25;have c23:=h.drew.p.blk.k 23;have e25:=h.drew.drew.p.blk.k 25;have e23:=h.drew.drew.p.blk.k 23;have e10:=h.drew.drew.p.blk.k 10;have f23:=h.drew.drew.p.blk.frozen 23;have cU:=h.drew.drew.p.blk.lt;have hn0:=hf.p.n0;have hn1:=hf.p.n1;have hr2:=hf.p.cfg.r2;have hr16:=hf.p.cfg.r16;have HQ:Hid<|z.1.now<z.1.jF->mS z.1=z.1:=A? λe=>by unfold mS;rw[G? e]
 have HR:Hid<|¬z.1.now<z.1.jF->mS z.1=if(kX z.1.cC).2.2≠0 then rq {z.1 with jF:=z.1.now+z.1.c.restart,cC:=(kX z.1.cC).1}else pI {z.1 with jF:=z.1.now+z.1.c.restart,cC:=(kX z.1.cC).1} [(kX z.1.cC).2.1]:=A? λe=>by unfold mS;rw[F! e]
 obtain⟨p1,s1⟩:=KC h.drew<|z.1.now+z.1.c.restart;have HS1:=A?<|(aB (bG n) G w).trans s1;have HS0:Hid<|∀v,(w.drew.drew.setCell (B? b 23) v).cell? (B? b 25)=N? z.1.now/\(w.drew.drew.setCell (B? b 23) v).cell? (B? b 10)=N? z.1.c.restart:=A? λv=>⟨by rw[Ω _ _ _ _ N!];exact e25,by rw[Ω _ _ _ _ N!];exact e10⟩;obtain⟨NW,rG⟩:∃NW,z.1.now=NW:=⟨_,rfl⟩;obtain⟨TA,hTA⟩:∃TA,z.1.jF=TA:=⟨_,rfl⟩;obtain⟨RS,xQ⟩:∃RS,z.1.c.restart=RS:=⟨_,rfl⟩;rw[rG]at c25 e25 hn0 hn1 HQ HR p1 HS1 HS0;rw[hTA]at c23 e23 HQ HR;rw[xQ]at e10 hr2 hr16 HR p1 HS1 HS0;unfold ptr;by_cases hlt:NW<TA
 .have HE:=A? (HQ hlt);go_wp2;refine dW (λw'=>w'.cell? (B? b 25)=N? NW/\w'.cell? (B? b 23)=N? TA) (zcb [9]) (⟨c25,c23⟩) ?_;refine tK ?_;refine aj ?_;go_wp2;go_end0;rw[HE.out];exact⟨rfl,G,x,h.drew,aB _ _ _,λ_ _=>rfl⟩
 .have HE:=A? (HR hlt);have hge:TA<=NW:=B!;go_wp2;refine dW (λw'=>w'.cell? (B? b 25)=N? NW/\w'.cell? (B? b 23)=N? TA) (zcb [9]) (⟨c25,c23⟩) ?_;refine tK ?_;refine aj ?_;go_wp2;refine dW (λw'=>w'.cell? (B? b 25)=N? NW/\w'.cell? (B? b 10)=N? RS) (zcb [13,1]) (⟨e25,e10⟩) ?_;refine tK ?_;refine ai<|λK hK=>?_;go_wp2_with fail;refine ah<|hK _ _ (HS0 _) ?_;refine aj ?_;obtain⟨W,hW2⟩:∃W,(w.setCell (B? b 23)<|A!<|NW+RS).drew.drew=W:=⟨_,rfl⟩;have hW:w.drew.drew.setCell (B? b 23) (A!<|NW+RS)=W:=hW2;obtain⟨GW,EB⟩:∃GW,grow G w.drew.drew.heap.size free=GW:=⟨_,rfl⟩;rw[hW,EB]at p1 HS1;rw[hW2];have cU:=p1.p.blk.lt;have c22:=p1.p.blk.k 22;obtain⟨oa,ol,hT⟩:=p1.p.k;have hT:yK W GW [n,3] x.k oa ol z.1.cC:=hT;have hft:=hf.p.t
  have L5:=A? (Tz hT.blk hT.oa.at (λk hk e=>by
   have h1:=hT.oa.2 k hk;rw[e,hT.tag]at h1;simp at h1) hft.oa ⟨hft.l0,hft.l1⟩)
  have gI:=A?<|ME z.1.cC;unfold z8 iC at L5;obtain⟨R,hR⟩:∃R,kX z.1.cC=R:=⟨_,rfl⟩;rw[hR]at L5 HE gI;have HR:=A? hR;obtain⟨T',q,er⟩:=R;simp only at L5 HE gI;unfold ptr at*
  by_cases e0:er=0
  .subst e0;have HE2:Hid<|mS z.1=pI {z.1 with jF:=NW+RS,cC:=T'} [q]:=A? (by rw[HE.out,F! N!]);go_wp2_with(go_at_call 172;refine L5.mono ?_;rintro e w2 ⟨v,rfl,hv2,hT2,ho2⟩;obtain⟨va,vc,rfl,-⟩:=aD.form hv2.at);have Jh:=A?<|KA p1 hT hT2 gI.1 gI.2 ho2;have hz2:=ho2.size;have hbA:=ak (P! w2.heap.size w2) (.cells #[A! q.code,A! q.id,A! q.answer,.slice va q.opts.length vc] 157);obtain⟨p3,s3⟩:=Jh.1.below hbA;have HS3:=A?<|(HS1.trans Jh.2).trans s3;have HV3:=A?<|hv2.below hbA
   have HF3:Hid (Fit N r ({z.1 with jF:=NW+RS,cC:=T'},z.2)):=A? (by
    have:=vN hf (hf.p.t.again)<|NW+RS;rw[HR.out]at this;exact this.fit)
   have U4:Hid<|∀k,(Value.slice va q.opts.length vc).ownBlock=some k->¬bG n (grow (grow GW W.heap.size free) w2.heap.size free k):=A? λk hk=>by
    exact nck
   have tg:=ak (P! (w2.alloc (.cells #[A! q.code,A! q.id,A! q.answer,.slice va q.opts.length vc] 157)).heap.size<|w2.alloc (.cells #[A! q.code,A! q.id,A! q.answer,.slice va q.opts.length vc] 157)) (.cells #[A! q.code,A! q.id,A! q.answer,.slice va q.opts.length vc] 157);obtain⟨p4,s4⟩:=p3.below tg;have hbs:=abK (n:=n) _ _ q va vc p3.n01 HV3.at U4;obtain⟨S,hS⟩:∃S,(w2.alloc (.cells #[A! q.code,A! q.id,A! q.answer,.slice va q.opts.length vc] 157)).heap.size=S:=⟨_,rfl⟩;have hS2:S=w2.heap.size+1:=by rw[<-hS];simp
   rw[hS]at hbs p4 s4;subst hS2;have CO:=A?<|z7 p4 HF3 hN hr hbs N!;have HS4:=A?<|HS3.trans s4;unfold ptr at CO;go_wp2_with fail;refine CO.mono ?_;rintro e w5 ⟨rfl,G5,x5,hp5,hs5,hx5⟩;have HS5:=A?<|HS4.trans hs5;have HX5:=A? hx5;go_wp2;go_end0;exact⟨rfl,G5,x5,by rw[HE2.out];exact hp5,HS5,HX5⟩
  .have hq:(er !=0)=true:=by simp[e0]
   have HE2:Hid<|mS z.1=rq {z.1 with jF:=NW+RS,cC:=T'}:=A? (by rw[HE.out,G? e0]);go_wp2_with(go_at_call 172;refine L5.mono ?_;rintro e w2 ⟨v,rfl,hv2,hT2,ho2⟩;obtain⟨va,vc,rfl,-⟩:=aD.form hv2.at);have Jh:=A?<|KA p1 hT hT2 gI.1 gI.2 ho2;have hz2:=ho2.size;have hbA:=ak (P! w2.heap.size w2) (.cells #[A! q.code,A! q.id,A! q.answer,.slice va q.opts.length vc] 157);obtain⟨p3,s3⟩:=Jh.1.below hbA;have HS3:=A?<|(HS1.trans Jh.2).trans s3;have HV3:=A?<|hv2.below hbA
   have HF3:Hid (Fit N r ({z.1 with jF:=NW+RS,cC:=T'},z.2)):=A? (by
    have:=vN hf (hf.p.t.again)<|NW+RS;rw[HR.out]at this;exact this.fit)
   have U4:Hid<|∀k,(Value.slice va q.opts.length vc).ownBlock=some k->¬bG n (grow (grow GW W.heap.size free) w2.heap.size free k):=A? λk hk=>by
    exact nck
   have CO:=A?<|zX p3 HF3.p B!;unfold ptr at CO;go_wp2_with fail;refine CO.mono ?_;rintro e w5 ⟨rfl,G5,x5,hp5,hs5,hx5⟩;have HS5:=A?<|HS3.trans hs5;have HX5:=A? hx5;go_wp2;go_end0;exact⟨rfl,G5,x5,by rw[HE2.out];exact hp5,HS5,HX5⟩
theorem adC{t:dD}{e:Int}{o:List bD}(l:t.left=0)(i:(dJ ⟨e,(t.id+1)%256,0,o⟩).2=0)(s:fO e=C?):YW t e o=({t with id:=(t.id+1)%256,ask:=⟨e,(t.id+1)%256,0,o⟩,left:=t.tries},⟨e,(t.id+1)%256,0,o⟩,0):=by
 unfold YW;dsimp only;rw[F!<|by rw[s,i];simp,F! B!]
theorem EG(u:Int)(f:List bD)(v:I?)(h:aS w G n b sb x z)(y:Fit N r z)(c6:N<=40000000000)(cd:r<=10000000)(a9:z.1.cC.left=0)(j:(dJ ⟨u,(z.1.cC.id+1)%256,0,f⟩).2=0)(a8:fO u=C?)(ab:aI w v f)(ar:∀k,v.ownBlock=C! k->k≠x.k)(cc:f.length<=1024)(c9:0<=u/\u<=8):
 G! E? 132 #[ptr b,A! u,v] w (fu n b sb G w x z (wF z.1 u f,z.2) (.tuple #[])):=by
 have cr:=h.p.blk.k 22;have cv:=h.p.blk.lt;let⟨cz,d0,a7⟩:=h.p.k;have C:=A?<|adA a7.blk ab a9 ⟨y.p.t.i0,y.p.t.i1⟩ j a8 ar;have a3:=adC a9 j a8;have V:E!<|wF z.1 u f=pI {z.1 with cC:={z.1.cC with id:=(z.1.cC.id+1)%256,ask:=⟨u,(z.1.cC.id+1)%256,0,f⟩,left:=z.1.cC.tries},jF:=z.1.now+z.1.c.restart} [⟨u,(z.1.cC.id+1)%256,0,f⟩]:=A? (by unfold wF;rw[a3];rfl)
 have X:E! (Fit N r ({z.1 with jF:=z.1.now+z.1.c.restart,cC:={z.1.cC with id:=(z.1.cC.id+1)%256,ask:=⟨u,(z.1.cC.id+1)%256,0,f⟩,left:=z.1.cC.tries}},z.2)):=A? (by
  have:=(vN y (y.p.t.ask u f cc c9)<|z.1.now+z.1.c.restart).fit;rw[a3]at this;exact this)
 have ca:=y.p.n0;have cb:=y.p.n1;have cf:=y.p.cfg.r2;have ce:=y.p.cfg.r16;have a1:=A? h;have an:=A? a7;generalize (z.1.cC.id+1)%256=J at C V X;have F:E!<|∀(g:D!) (ad:Nat->Tag) (br:dD),aS g ad n b sb x ({z.1 with cC:=br},z.2)->J? g.drew b 25 z.1.now/\J? g.drew b 10 z.1.c.restart/\g.drew.frozen? (B? b 23)=H!/\b<g.drew.heap.size/\J? g.drew b 23 z.1.jF:=A? λg ad br j=>⟨j.drew.p.blk.cell 25,j.drew.p.blk.cell 10,j.drew.p.blk.frozen 23,j.drew.p.blk.lt,j.drew.p.blk.cell 23⟩;let⟨H,bk⟩:=F? z.1.now;let⟨L,bv⟩:=F? z.1.c.restart;let⟨co,b6⟩:=F? z.1.jF;rw[bk]at ca cb V X F;rw[bv]at cf ce V X F;rw[b6]at F;obtain⟨d1,d2,rfl,-⟩:=aD.form ab;clear h y a7 a9 j a8 ab ar a3 bk bv b6;unfold MC iC at C;unfold ptr at*
 simp only at C;go_in;go_wp2_with(go_at_call 175;apply C.mono;rintro e w2 ⟨v,cp,rfl,B,ax,b5,aa,ba⟩;obtain⟨E,A,rfl,-⟩:=aD.form B.at);let⟨G2,bf,s2,az⟩:=abL a1 an b5 rfl rfl aa ax;have b7:=ak (P! w2.heap.size w2) (.cells #[A! u,A! J,A! 0,J! E f.length A] 157);let⟨ac,bl⟩:=bf.below b7;let⟨bi,bm⟩:=KC ac<|H+L;have M:=A? bi;have K:=A?<|(s2.trans bl).trans bm;let⟨a5,a4,c4,c8,c3⟩:=F _ _ _ ac
 have av:E!<|∀k,(Value.slice E f.length A).ownBlock=C! k->¬bG n (grow G2 w2.heap.size free k)/\k<w2.heap.size:=A? λk I=>by
  have O:=B.block k I;have b0:=az k O<|ba k I;have b1:=aD.lt B.at k I
  have c5:grow G2 w2.heap.size free k=free:=by
   unfold grow;rw[G? b1];exact b0
  rw[c5];exact⟨kQ a1.n01,b1⟩
 have ao:=A? B.at;have b2:=aO.new w2 157 #[A! u,A! J,A! 0,J! E f.length A];have ag:=A? b2;have cy:=aa.size;clear B ax b5 aa ba bf s2 az b7 ac bl bi bm C an a1 b2;go_wp2;refine dW (λg=>J? g b 25 H/\J? g b 10 L) (zcb [13,1]) (⟨a5,a4⟩) ?_;refine R? ?_;intro c2 b3;go_wp2_with fail;let⟨W,Y⟩:=F?<|((w2.alloc (.cells #[A! u,A! J,A! 0,J! E f.length A] 157)).setCell (B? b 23)<|A!<|H+L).drew;have Z:(w2.alloc (.cells #[A! u,A! J,A! 0,J! E f.length A] 157)).drew.setCell (B? b 23) (A!<|H+L)=W:=Y;let⟨ae,D⟩:=F?<|grow (grow G2 w2.heap.size free) (w2.alloc (.cells #[A! u,A! J,A! 0,J! E f.length A] 157)).drew.heap.size free
 have al:E! (W.cell? (B? b 25)=N? H/\W.cell? (B? b 10)=N? L):=A? (by
  rw[<-Z,Ω _ _ _ _ N!,Ω _ _ _ _ N!];exact⟨a5,a4⟩)
 have a2:E!<|∀k,(Value.slice E f.length A).ownBlock=C! k->¬bG n (ae k):=A? λk I=>by
  rw[<-D];let⟨O,b0⟩:=av k I;show¬bG n (if k<_ then _ else _);rw[G?<|by show k<(w2.alloc _).heap.size;simp;omega];exact O
 have b4:Only (λk=>k=b) w2 W:=by rw[<-Y];exact(((Only.refl _ w2).alloc _).trans<|ay _ b 23 _).then<|aQ U?
 have ap:=A? (aD.only ao b4 λk I e=>by
  have O:=a2 k I;rw[e,<-D]at O;rw[M.p.tag]at O;exact O (.inl (aq.self _)))
 have b8:w2.heap.size≠b:=λe=>B!;have a6:=(ag.only (ay _ b 23<|A!<|H+L) b8).below<|aQ U?;rw[Y]at a6;rw[Z,D]at M;rw[D]at K;rw[Z]at K;rw[Y];have R:=A? a6;clear Y Z D b4 b8 a6 ao av ag a5 a4 c4 c8 c3 F;apply O! b3 al;clear b3 c2 al;apply aj;have ch:=R.k 0;have ci:=R.k 1;have cj:=R.k 2;have ck:=R.k 3;have c7:=R.lt;generalize w2.heap.size=Q at ch ci cj ck c7|-;clear R;have bs:=ak (P! W.heap.size W) (.cells #[A! u,A! J,A! 0,J! E f.length A] 157);let⟨bj,bo⟩:=M.below bs;have b9:=abK (n:=n) W ae ⟨u,J,0,f⟩ E A M.n01 ap a2;have a0:=A?<|z7 bj X c6 cd b9 N!;have am:=A?<|K.trans bo;unfold ptr at a0;clear bs bj bo b9 K M ap a2;go_wp2_with fail;apply a0.mono;rintro e d3 ⟨rfl,bx,cn,bc,bd,be⟩;have bz:=A? bc;have c0:=A?<|am.trans bd;have c1:=A? be;clear bc bd be a0 am;go_wp2;go_end0;exact⟨rfl,bx,cn,by rw[V.out];exact bz,c0,c1⟩
def Qa(p:aF):Int:=if iI p<nZ p.load p.c.rate p.c.least p.c.links then 1 else if nZ p.load p.c.rate p.c.least p.c.links<iI p then-1 else 0
def MF(S:aU)(p:aF)(o t:Int)(e:Bool):PS:=
 if gi p.cC then(mS p,S)
 else if 0<zI p\/p.now<p.tY then(p,S)
 else if o=0 then vu (p,S) 0
 else if e=C?/\0<t then(wF p 1 [],S)
 else if e=C?/\t<0 then(wF p 5 [(2,bytesOf<|words [(lD p).getD 0])],S)
 else(p,S)
theorem X2(z:PS):jr z=MF z.2 (nD z.1<|Qa z.1).1 (iI z.1) (Qa z.1) (nD z.1<|Qa z.1).2:=rfl
theorem Qb{i:Int}(t:0<=i)(o:i<=255):(dJ ⟨1,i,0,[]⟩).2=0:=by
 have s:eV 1 i=true:=by unfold eV dw;simp[t,o]
 unfold dJ;rw[F!]
 .dsimp only;rw[F!];show¬2048<4+(([]:List UInt8)++(cA []).1).length
  decide
 .rw[s];rintro(e|e|e|e)
  .cases e
  .exact absurd (show dw 0=H! from e) I!
  .exact e.2 rfl
  .exact absurd (show(cA []).2≠0 from e) I!
theorem Qc{i:Int}(s:0<=i)(l:i<=255){d:ByteArray}(t:d.size=4):(dJ ⟨5,i,0,[(2,d)]⟩).2=0:=by
 have c:eV 5 i=true:=by unfold eV dw;simp[s,l]
 have u:d.data.toList.length=4:=by simp;exact t
 have o:cA [(2,d)]=(jh [(2,d)] 1,0):=by
  unfold cA;rw[F! N!,F!<|by simp[nY,jh,t]];rfl
 unfold dJ;rw[F!]
 .dsimp only;rw[o];dsimp only;rw[F!];unfold jh Dl;simp[u,fS]
 .rw[c];rintro(e|e|e|e)
  .cases e
  .exact absurd (show dw 0=H! from e) I!
  .exact e.2 rfl
  .rw[o]at e;exact e rfl
theorem MH{p:aF}(d:(p.links.map (·.1)).Nodup)(h:iI p≠0):∃k,lD p=C! k/\au p.links k=true:=by
 have s:∃y∈p.links,y.2.phase=4:=by
  refine Decidable.byContradiction λl=>h ?_;unfold iI;rw[List.filter_eq_nil_iff.2<|λy o=>by simpa using λe=>l ⟨y,o,e⟩];rfl
 obtain⟨y,o,u⟩:=s;unfold lD
 have c:((dR p).filter λid=>K? ((lk p id).phase=4))≠[]:=λe=>by
  have t:=dI.2<|a!.2 ⟨y,o,rfl⟩;have i:lk p y.1=y.2:=by unfold lk;rw[(eA d).2 o];rfl
  have:y.1∈(dR p).filter λid=>K? ((lk p id).phase=4):=List.mem_filter.2 ⟨qh.2 t,by rw[i,u];decide⟩;rw[e]at this;cases this
 obtain⟨k,t⟩:∃k,((dR p).filter λid=>K? ((lk p id).phase=4)).getLast? =C! k:=⟨_,List.getLast?_eq_some_getLast c⟩;exact⟨k,t,nW (List.mem_filter.1<|List.mem_of_getLast? t).1⟩
theorem Qd(p:aF)(e:Int):(nD p e).1.links=p.links/\(nD p e).1.cC=p.cC:=by
 unfold nD;dsimp only;split<;>exact⟨rfl,rfl⟩
theorem Qe(h:aS w G n b sb x z)(cb:Env w G ml)(hf:Fit N r z)(hs:Sub z)(J:N<=40000000000)(b8:r<=10000000):
 G! E? 98 #[ptr b] w (fu n b sb G w x z (jr z) (.tuple #[])):=by
 have cd:z.1.links.length<=8:=bbi;have B:=h.drew;have a7:=B.p.blk.k 24;have a5:=B.p.blk.k 1;have a6:=B.p.blk.k 2;have a8:=B.p.blk.k 3;have av:=A?<|ED B.p cd;have O:=A? λw=>QV z.1.load z.1.c.rate z.1.c.least z.1.c.links w hf.p.ld0 (by have:=hf.p.ld1;omega) (by have:=hf.p.cfg.ra;omega);have hS:E!<|∀u,Below w.drew.heap.size w.drew u->J? u b 24 z.1.load/\J? u b 3 z.1.c.rate/\J? u b 2 z.1.c.least/\J? u b 1 z.1.c.links:=A? λu H=>⟨aw H a7,aw H a8,aw H a6,aw H a5⟩;have R:=A?<|X2 z;have f:Qa z.1=if iI z.1<nZ z.1.load z.1.c.rate z.1.c.least z.1.c.links then 1 else if nZ z.1.load z.1.c.rate z.1.c.least z.1.c.links<iI z.1 then-1 else 0:=rfl
 have bk:=A? λu cz g (dj:aS u cz n b sb x z)=>TS g dj;have y:=A?<|Pn hf<|Qa z.1;have Gh:=A?<|Qd z.1<|Qa z.1;let⟨P,b3⟩:=F?<|nD z.1<|Qa z.1;rw[b3]at R y Gh;have ar:=A? b3;clear b3;obtain⟨p1,D⟩:=P;simp only at R y Gh;let⟨bx,c7⟩:=F? z.1.load;let⟨c0,c8⟩:=F? z.1.c.rate;let⟨bs,c5⟩:=F? z.1.c.least;let⟨bv,c6⟩:=F? z.1.c.links;rw[c7]at a7 O hS f;rw[c8]at a8 O hS f;rw[c5]at a6 O hS f;rw[c6]at a5 O hS f;generalize nZ bx c0 bs bv=c2 at O f;let⟨F,b1⟩:=F?<|iI z.1;rw[b1]at av R f;generalize Qa z.1=g at R ar f;have d2:=A? b1;clear hf B c7 c8 c5 c6 b1;unfold ptr at*
 go_wp2
 refine dW (λu=>J? u b 24 bx/\J? u b 3 c0/\J? u b 2 bs/\J? u b 1 bv) (zca [0,4,6,8,10,12,14,16,18,20,22,24,26,28,30,32,34,36,38,40,3,43,44,46]) (⟨a7,a8,a6,a5⟩) ?_;refine R? ?_;intro K j;go_wp2_with(go_at_call 125;refine M! av λw2 ae=>?_);apply O! j (hS _ ae);clear j K;refine R? ?_;intro K j;go_wp2_with(go_at_call 126;refine M! (O w2) λeh c3=>?_);apply O! j (hS _ ae);clear j K;refine T? ?_;let⟨co,s2⟩:=h.drew.below ae;have br:=A?<|(aB (bG n) G w).trans s2;clear s2 ae hS av O a7 a8 a6 a5;go_upto_block 0 with fail
 go_cut[4]from 29 to 36 (λv e2=>v=A! g/\w2=e2)
 case first=>
  by_cases W:F<c2
  .rw[G? W]at f;subst f;go_wp2;go_meet
   case rel=>exact⟨rfl,rfl⟩
  .rw[F! W]at f;by_cases Y:c2<F
   .rw[G? Y]at f;subst f;go_wp2;go_meet
    case rel=>exact⟨rfl,rfl⟩
   .rw[F! Y]at f;subst f;go_wp2;go_meet
    case rel=>exact⟨rfl,rfl⟩
 case rest=>
  obtain⟨rfl,rfl⟩:=hcut;have M:=bk _ _ g co;rw[ar.out]at M;simp only at M;have M:=A? M;clear f bk ar;go_upto_region 7 with(go_at_call 127;apply M.mono;rintro e C ⟨rfl,an,cr,E,ci,ck⟩)
  have a3:=A?<|br.trans ci;have bi:=A?<|cb.uM h.n01 a3;have HX4:=A? ck;clear ci ck M co br cb h;have e7:=E.p.blk.k 22;let⟨ec,ef,c9⟩:=E.p.k;have am:=A?<|rD c9.blk;have c1:E!<|p1.links.length<=8:=A? (by rw[Gh.1];exact cd);clear c9;let⟨bz,b4⟩:=F?<|gi p1.cC;have be:=A? b4;rw[show gi (p1,z.2).1.cC=bz from b4]at am;clear b4;unfold ptr at*
  cases bz with
  |true=>
   have bo:=A?<|P9 E y.fit J b8;have pT:E!<|jr z=(mS p1,z.2):=A? (by rw[R.out];unfold MF;rw[G? be.out]);unfold ptr at bo;go_wp2_with(go_at_call 82;refine M! am λe1 c3=>?_);apply bo.mono;rintro e cp ⟨rfl,ao,e3,dk,cj,cn⟩;go_wp2_with fail;have HS5:=A?<|a3.trans cj;have d6:=A? cn;clear cj cn;go_end0;exact⟨rfl,ao,e3,by rw[pT.out];exact dk,HS5,λk hk=>(d6 k mdj).trans<|HX4 k hk⟩
  |false=>
   have ce:p1.cC.left=0:=by
    have W:=be.out;have Y:=y.fit.p.t.l0;have Y:0<=p1.cC.left:=Y;unfold gi at W;have:=bco W;omega
   have bl:=A? ce;clear ce;have ax:=A?<|Ii (E.drew.p) c1;have a9:J? C.drew b 25 p1.now:=E.drew.p.blk.k 25;have aa:J? C.drew b 36 p1.tY:=E.drew.p.blk.k 36;have ac:E!<|∀u,Below C.drew.heap.size C.drew u->J? u b 25 p1.now/\J? u b 36 p1.tY:=A? λu H=>⟨aw H a9,aw H aa⟩;let⟨a4,ad⟩:=F?<|zI p1;have e5:0<=a4:=by rw[<-ad];unfold zI;omega
   rw[show((((p1,z.2):PS).1.links.filter λx=>K? (x.2.phase≠4)).length:Int)=a4 from ad]at ax;let⟨az,bc⟩:=F? p1.now;let⟨b0,b5⟩:=F? p1.tY;rw[bc]at a9 ac;rw[b5]at aa ac
   have ap:E! (jr z=if 0<a4\/az<b0 then(p1,z.2)else if F=0 then vu (p1,z.2) 0 else if D=C?/\0<g then(wF p1 1 [],z.2)else if D=C?/\g<0 then(wF p1 5 [(2,bytesOf (words [(lD p1).getD 0]))],z.2)else(p1,z.2)):=A? (by
    rw[R.out];unfold MF;rw[F! (by rw[be.out];decide),ad,bc,b5])
   clear ad bc b5 R;unfold ptr at*
   go_upto_region 9 with(go_at_call 82;refine M! am λe1 c3=>?_)
   refine dW (λu=>J? u b 25 az/\J? u b 36 b0) (zcb [1,1,13]) (⟨a9,aa⟩) ?_;refine R? ?_;intro K j;go_wp2_with(go_at_call 129;refine M! ax λcp b6=>?_);apply O! j (ac _ b6);clear j K;let⟨A,bd⟩:=E.drew.below b6;have HS5:=A?<|(a3.trans<|aB (bG n) an C).trans bd;have bj:=A?<|bi.uM A.n01<|(aB (bG n) an C).trans bd;generalize grow an C.drew.heap.size free=ao at A HS5 bj;clear bd b6 ac ax E a3 bi a9 aa am
   have al:E!<|jr z=(p1,z.2)->fu n b sb G w x z (jr z) (.tuple #[]) (.returned (.tuple #[])) cp:=A? λe=>by
    rw[e];exact⟨rfl,ao,cr,A,HS5,HX4⟩
   by_cases b9:0<a4
   .have dp:=b! b9;have L:=A?<|al<|by rw[ap.out,G? (.inl b9)]
    refine T? ?_;go_wp2;go_end0;exact L
   .have dp:=W? b9;by_cases ch:az<b0
    .have L:=A? (al<|by rw[ap.out,G? (.inr ch)]);refine T? ?_;go_wp2;go_end0;exact L
    .have eb:=W? ch
     have bm:E! (jr z=if F=0 then vu (p1,z.2) 0 else if D=C?/\0<g then(wF p1 1 [],z.2)else if D=C?/\g<0 then(wF p1 5 [(2,bytesOf (words [(lD p1).getD 0]))],z.2)else(p1,z.2)):=A? (by
      rw[ap.out,F! B!])
     by_cases ab:F=0
     .subst ab;have pT:E!<|jr z=vu (p1,z.2) 0:=A? (by rw[bm.out,G? rfl]);have bf:=A?<|Kp 0 A bj y.fit J (Y! 0) I!;unfold ptr at bf;refine T? ?_;go_wp2_with fail;apply bf.mono;exact ncG
     .have ea:=Q?.2 ab;have a2:E!<|jr z=if D=C?/\0<g then(wF p1 1 [],z.2)else if D=C?/\g<0 then(wF p1 5 [(2,bytesOf<|words [(lD p1).getD 0])],z.2)else(p1,z.2):=A? (by rw[bm.out,F! ab])
      have d1:E!<|F≠0:=A? ab;cases D with
      |false=>
       have L:=A?<|al<|by rw[a2.out,F! N!,F! N!]
       refine T? ?_;go_wp2;go_end0;exact L
      |true=>
       by_cases Z:0<g
       .have dr:=b! Z;have pT:E!<|jr z=(wF p1 1 [],z.2):=A? (by rw[a2.out,G? ⟨rfl,Z⟩]);have V:=A?<|EG 1 [] Q! A y.fit J b8 bl (Qb B! B!) rfl (aD.nil _ _) (λk hk=>o!) (S! _) I!;unfold ptr at V;refine T? ?_;go_wp2_with fail;apply V.mono;exact ncG
       .have dr:=W? Z;have e6:g<=0:=B!;by_cases ag:g<0
        .have dq:=b! ag;have pT:E!<|jr z=(wF p1 5 [(2,bytesOf<|words [(lD p1).getD 0])],z.2):=A? (by rw[a2.out,F! (λe=>Z e.2),G? ⟨rfl,ag⟩]);have dh:(p1.links.map (·.1)).Nodup:=A.p.nodup;let⟨I,c4,cc⟩:=MH dh (show iI p1≠0 by unfold iI;rw[Gh.1];exact λe=>d1<|d2.symm.trans e);have cy:=A? cc;have a1:=A?<|Mz A.p y.fit.p c1 J;rw[show lD (p1,z.2).1=C! I from c4]at a1;rw[c4]at pT;unfold My at a1;simp only at a1;have cv:E!<|(lk p1 I).id=I:=A? (y.fit.p.link cc).1.id;unfold ptr at*
         refine T? ?_;go_upto_region 16 with(go_at_call 133;refine M! a1 λw6 dd=>?_)
         let⟨ba,dy⟩:=A.below dd;have e8:=fJ ba cy cv;have HS6:=A?<|HS5.trans dy;have ca:=ak (P! w6.heap.size w6) (.cells #[A! I] 3);have d5:=A?<|mI (bq.one mU w6 I 0<|S! _).at N!;go_wp2_with fail;refine M! d5 λa0 de=>?_;have b7:=ca.trans<|de.mono ca.size;let⟨X,b2⟩:=F?<|bytesOf<|words [I];have d8:X.size=4:=by rw[<-b2,aA,vJ];rfl
         have df:=ak (P! a0.heap.size a0) (.cells #[A! 2,D? X] 203);have cf:=bq.one dS a0 (2,X) a0.heap.size O?;let⟨dv,e0⟩:=ba.below<|b7.trans<|df.mono b7.size
         have e9:cr.k<w6.heap.size:=by
          let⟨ee,eg,db⟩:=ba.p.k;exact db.blk.lt
         have da:=EG 5 [(2,X)] (J! (C!<|B? a0.heap.size 0) 1 1) dv y.fit J b8 bl (Qc B! B! d8) rfl cf.at (λk hk=>by have W:=cf.block k hk;have Y:=b7.size;omega) (by show 1<=1024;decide) I!;have V:=A? da;have d3:=A?<|HS6.trans e0;have d9:E!<|jr z=(wF p1 5 [(2,X)],z.2):=A? (by rw[pT.out];show(wF p1 5 [(2,bytesOf<|words [I])],z.2)=_;rw[b2]);rw[b2];unfold ptr at V;go_wp2_with fail;apply V.mono;rintro e ei ⟨rfl,d0,e4,dl,ds,du⟩;have d4:=A?<|d3.trans ds;have d7:=A? du;go_wp2;go_end0;exact⟨rfl,d0,e4,by rw[d9.out];exact dl,d4,λk hk=>(d7 k mdj).trans<|HX4 k hk⟩
        .have dq:=W? ag;have dt:g=0:=B!;have L:=A?<|al<|by rw[a2.out,F! (λe=>Z e.2),F!<|λe=>ag e.2]
         subst dt;refine T? ?_;go_wp2;go_end0;exact L
