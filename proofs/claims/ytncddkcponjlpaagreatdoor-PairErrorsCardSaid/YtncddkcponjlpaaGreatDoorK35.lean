/- Walks and plain laws. -/
import Derived.Test.YtncddkcponjlpaaGreatDoorK34
set_option linter.unusedVariables false
set_option linter.unusedSectionVars false
set_option linter.unusedSimpArgs false
set_option maxHeartbeats 0
set_option maxRecDepth 99999
namespace Go.Proofs.YtncddkcponjlpaaGreatDoor
open Go.RowKit Go.Proofs.Tryz
open Go renaming World→D!,Value→I?,Calls→G!,IntKind→ncy
open Go.RowKit renaming Hid→E!
open Decidable renaming decide→K?
open Option renaming some→C!,none→L?
open Bool renaming true→C?,false→H!
open Go.Proofs.Tryz renaming prog→E?
variable{P:Prop}
variable{w w1 w2:D!}{G G1 G2:Nat->Tag}{n ml id:Int}{b sb N r:Nat}{x:eY}{z z':PS}{m:aF}
def jJ(p:aF)(id e:Int):aF:=
 let p:=bC p id 4;let p:=bX {p with join:=(kH p.join id).1} id 0 e
 aN {p with fails:=0} id (λl=>{lC l (dZ p)with at_:=p.now+p.c.restart})
theorem si(p:aF)(id e:Int):jJ p id e=aN {bX {bC p id 4 with join:=(kH (bC p id 4).join id).1} id 0 e with fails:=0} id (λl=>{lC l (dZ<|bX {bC p id 4 with join:=(kH (bC p id 4).join id).1} id 0 e)with at_:=(bX {bC p id 4 with join:=(kH (bC p id 4).join id).1} id 0 e).now+(bX {bC p id 4 with join:=(kH (bC p id 4).join id).1} id 0 e).c.restart}):=rfl
theorem Mp{z:PS}{id:Int}(h:(lk z.1 id).dials=C?):jG z id=(jJ z.1 id (lk z.1 id).num,z.2):=by
 unfold jG;dsimp only;rw[h];rfl
theorem Mq{z:PS}{id:Int}(h:(lk z.1 id).dials=H!):jG z id=if((lk z.1 id).neg.other.num=0/\jP (aN z.1 id<|λl=>{l with num:=(lk z.1 id).neg.other.num})≠[])\/(0<(lk z.1 id).neg.other.num/\(lk z.1 id).neg.other.num≠z.1.vo)then fq (aN z.1 id (λl=>{l with num:=(lk z.1 id).neg.other.num}),z.2) id else(jJ (aN z.1 id<|λl=>{l with num:=(lk z.1 id).neg.other.num}) id (lk z.1 id).neg.other.num,z.2):=by
 unfold jG;dsimp only;rw[h];simp only[η,q?,true_and];rfl
theorem abm(h:aS w G n b sb x z)(A:Env w G ml)(hf:Fit N r z)(R:N<=40000000000)(H:r<=10000000)(hk:au z.1.links id=C?)(hdl:(lk z.1 id).dials=C?):
 G! E? 198 #[ptr b,ptr<|x.f id] w (lp id n b sb G w x z (jG z id) (.tuple #[])):=by
 have g:=(hf.p.link hk).1;obtain⟨P,hP⟩:=F? z.1;have xO:E!<|(lk P id).id=id:=A? (by rw[<-hP];exact g.id);have DI:E!<|(lk P id).out.length<=549755813888:=A? (by rw[<-hP];have:=g.out;omega);have HJL:=A? hf.p.j.ln;have BI:E!<|z.1.changes.length+1<=1000000000001:=A? (by have:=hf.p.ch;omega);have Th:E!<|0<=z.1.now/\z.1.now<=40000000000/\0<=z.1.c.restart/\z.1.c.restart<=16:=A? ⟨hf.p.n0,by have:=hf.p.n1;omega,mdD,hf.p.cfg.r16⟩;have tU:E!<|P.changes=z.1.changes/\P.now=z.1.now/\P.c=z.1.c/\P.join=z.1.join:=A? (by rw[<-hP];exact⟨rfl,rfl,rfl,rfl⟩);have tG:E!<|∀k,au z.1.links k=C?->au P.links k=true:=A? bcy;have HP:E!<|aS w G n b sb x (P,z.2):=A? (by rw[<-hP];exact h);have HS:=A?<|Step.refl (bG n) G w;obtain⟨j,u⟩:=F? x;have Hx:E!<|∀k,au z.1.links k=C?->j.f k=x.f k:=A? (by rw[<-u];exact λ_ _=>rfl)
 have E:w.cell? (B? (x.f id) 4)=C! (H? C?):=by
  exact ncj
 have O:=bW h hk;have I:=h.p.blk.lt;obtain⟨nH,f⟩:=F?<|(lk z.1 id).num;have XD:E!<|(lk P id).num=nH:=A? (by rw[<-hP];exact f);have Hz:E!<|jG z id=(jJ P id nH,z.2):=A? (by rw[Mp hdl,f,hP]);obtain⟨B,hB⟩:=F?<|x.f id;have Mk:E!<|j.f id=B:=A? (by rw[<-u];exact hB);rw[u]at HP;rw[hB]at E O|-;have HK:=A? hk;have HB:=A? hB;clear h A hf hk hdl g hP u hB f;unfold ptr;go_in;exact nca
theorem XE(a b c:Int)(d:Bool)(e:ByteArray)(k:Int)(w:D!):(Instr.field 240 (.agg #[A! a,A! b,A! c,H? d,D? e,A! k]) 5).run E? w=.ok (A! k) w:=M?
section
variable(h:aS w G n b sb x z)(he:Env w G ml)(hf:Fit N r z)(hN:N<=40000000000)(hr:r<=10000000)(hk:au z.1.links id=C?)
include h he hf hN hr hk
theorem abo(hdl:(lk z.1 id).dials=H!):
 G! E? 198 #[ptr b,ptr<|x.f id] w (lp id n b sb G w x z (jG z id) (.tuple #[])):=by
 have D:=(hf.p.link hk).1;obtain⟨nH,Y⟩:=F?<|(lk z.1 id).neg.other.num;obtain⟨P,g⟩:=F?<|aN z.1 id<|λl=>{l with num:=nH};have F:E!<|lk P id={lk z.1 id with num:=nH}:=A? (by rw[<-g,dV,G? rfl]);have xO:E!<|(lk P id).id=id:=A? (by rw[F.out];exact D.id);have DI:E!<|(lk P id).out.length<=549755813888:=A? (by rw[F.out];have:=D.out;show(lk z.1 id).out.length<=_;omega);have HJL:=A? hf.p.j.ln;have BI:E!<|z.1.changes.length+1<=1000000000001:=A? (by have:=hf.p.ch;omega);have Th:E!<|0<=z.1.now/\z.1.now<=40000000000/\0<=z.1.c.restart/\z.1.c.restart<=16:=A? ⟨hf.p.n0,by have:=hf.p.n1;omega,mdD,hf.p.cfg.r16⟩;have tU:E!<|P.changes=z.1.changes/\P.now=z.1.now/\P.c=z.1.c/\P.join=z.1.join:=A? (by rw[<-g];exact⟨rfl,rfl,rfl,rfl⟩);have tG:E!<|∀k,au z.1.links k=C?->au P.links k=true:=A? λk ag=>by rw[<-g];exact(aG (λl=>{l with num:=nH}) hk k).trans ag
 have Yp:E!<|ct N r P:=A? (by rw[<-g];exact hf.p.aN (Y? r) hk (f:=λl=>{l with num:=nH})<|D.num nH)
 have ab:E! (P.links.length<=8):=A? (by
  rw[<-g,mK (λl=>{l with num:=nH}) hk];have:=hf.l8;have:=hf.p.cfg.p8;omega)
 have u:E!<|jG z id=if(nH=0/\jP P≠[])\/(0<nH/\nH≠z.1.vo)then fq (P,z.2) id else(jJ P id nH,z.2):=A? (by rw[Mq hdl,Y,g])
 have a3:E!<|P.vo=z.1.vo:=A? (by rw[<-g];rfl);have HX1:E!<|∃x1,x=x1:=A? ⟨_,rfl⟩
 have a8:w.cell? (B? (x.f id) 4)=C! (H? H!):=by
  exact ncj
 have an:=bW h hk;have b9:=h.p.blk.lt;have ba:=h.n01;obtain⟨y,hy⟩:=h.aR hk;have a5:=hy.blk.k 0;have C:=VR _ _ _ _ w hy.side.blk;unfold aC at C;rw[Y]at C;have a4:=A? C;have ae:=XE (lk z.1 id).neg.other.iO (lk z.1 id).neg.other.aH (lk z.1 id).neg.other.cW (lk z.1 id).neg.other.short (lk z.1 id).neg.other.dh nH;have XD:E!<|(lk P id).num=nH:=A? (by rw[F.out])
 have X:E!<|∀w1,K! w w1->∃v,w1.cell? (B? (x.f id) 5)=C! v/\w1.frozen? (B? (x.f id) 5)=H!/\x.f id<w1.heap.size:=A? λw1 hb=>by
  obtain⟨b0,O⟩:=(h.below hb).1.aR hk;exact⟨_,O.blk.cell 5,O.blk.frozen 5,O.blk.lt⟩
 have V:E!<|∀w1,K! w w1->aS (w1.setCell (B? (x.f id) 5)<|A! nH) (grow (grow G w.heap.size free) w1.heap.size free) n b sb x (P,z.2)/\Step (bG n) G w (grow (grow G w.heap.size free) w1.heap.size free) (w1.setCell (B? (x.f id) 5)<|A! nH):=A? λw1 hb=>by
  obtain⟨aa,ar⟩:=h.below hb;obtain⟨b0,O⟩:=aa.aR hk;obtain⟨ao,ap⟩:=aa.oq hk O (l':={lk z.1 id with num:=nH}) (ay w1 (x.f id) 5<|A! nH) ⟨rfl,rfl,rfl,rfl⟩<|O.blk.set 5 _ rfl;refine⟨?_,ar.trans ap⟩;rw[<-g];exact ao
 have b5:=A? he;obtain⟨B,hB⟩:=F?<|x.f id;rw[hB]at a8 an a5 X V|-;have HK:=A? hk;have HB:=A? hB;clear h he hf hk hdl D g hB Y hy C;unfold ptr at*
 go_in
 go_wp2_with(go_at_call 234;refine M! a4 λw1 Z=>?_;obtain⟨bi,e5,ad,al⟩:=X w1 Z);obtain⟨a0,a1⟩:=V w1 Z;obtain⟨w2,a2⟩:=F?<|w1.setCell (B? B 5)<|A! nH;obtain⟨G2,a6⟩:=F?<|grow (grow G w.heap.size free) w1.heap.size free;rw[a2,a6]at a0 a1;rw[a2];clear a2 a6 e5 ad al Z X V a4 a5 a8 ae;have xD:=A? a0.drew;have xW:=A?<|a1.trans<|aB (bG n) G2 w2;clear a0 a1
 have e5:w2.drew.cell? (B? B 5)=N? nH:=by
  obtain⟨bj,am⟩:=xD.aR<|tG id HK;have:J? w2.drew (x.f id) 5<|(lk P id).num:=am.blk.cell 5;rw[HB.out,XD.out]at this;exact this
 have e34:J? w2.drew b 34 P.vo:=xD.p.blk.k 34;obtain⟨I,J⟩:=F? z.1.vo;rw[a3.out,J]at e34;rw[J]at u;have b6:=xD.p.blk.lt;have ac:=bW xD<|tG id HK;rw[HB.out]at ac;clear J a3;have MX:=A?<|Mo xD.p Yp ab hN;unfold zw ptr at MX;obtain⟨W,a7⟩:=F?<|(jP P).length;have Tg:=A? a7;clear a7;obtain⟨x1,a9⟩:=HX1.out;have HX1:=A? a9;clear a9;by_cases E:nH=0
 .subst E;by_cases hm:W=0
  .have Hz:E! (jG z id=(jJ P id 0,z.2)):=A? (by
    rw[u.out,F!];rintro(⟨-,e⟩|⟨e,-⟩)
    .exact e<|y?<|Tg.trans hm
    .omega)
   subst hm;clear u;refine dW (λw'=>J? w' B 5 0/\J? w' b 34 I) (zcb [7,1,21]) (⟨e5,e34⟩) ?_;refine R? ?_;intro K hK;go_wp2_with(go_at_call 23;apply MX.mono;rintro e w3 ⟨v,rfl,R,j⟩;obtain⟨ax,az,rfl,-,-⟩:=R.1.form;rw[Tg.out]);refine O! hK ⟨aw j e5,aw j e34⟩ ?_;clear hK K;refine T? ?_;obtain⟨H,L⟩:=xD.below j;have HP:=A? H;have HS:=A?<|xW.trans L;clear H L R j xD xW MX e5 e34;clear Tg;have Hx:E!<|∀k,au z.1.links k=C?->x1.f k=x.f k:=A? (by rw[<-HX1.out];exact λ_ _=>rfl);have Mk:E!<|x1.f id=B:=A? (by rw[<-HX1.out];exact HB);rw[HX1.out]at HP;clear Yp;have rQ:=ng 4 (id:=id) HP (tG id HK) xO;rw[Mk.out]at rQ;have rQ:=A? rQ;unfold ptr at rQ;go_wp2_with(go_at_call 151;apply rQ.mono;rintro e w3 ⟨rfl,G3,x3,hp3,hs3,hx3⟩);obtain⟨P3,hP3⟩:=F?<|bC P id 4;rw[hP3]at hp3
   have HL3:E! (lk P3 id={lk P id with phase:=4}):=A? (by
    exact ncT)
   have HK3:E!<|∀k,au z.1.links k=C?->au P3.links k=true:=A? λk hk=>nbN;have HX3:=A?<|λk (hk:au z.1.links k=C?)=>(hx3 k<|tG k hk).trans<|Hx k hk;have HE3:E!<|P3.changes=P.changes/\P3.now=P.now/\P3.c=P.c/\P3.join=P.join/\P3.side=P.side:=A? (by rw[<-hP3];exact⟨rfl,rfl,rfl,rfl,rfl⟩);have Tn:=A? hP3;have HS3:=A?<|HS.trans hs3;have HB3:=A?<|(HX3 id HK).trans HB;have HP3:=A? hp3.drew;clear hp3 hs3 hx3 hP3 rQ HP HS Hx;obtain⟨lb,hb,HJ⟩:=HP3.p.j;have gI:=A?<|C0 id HJ.Ww<|by rw[HE3.2.2.2.1,tU.2.2.2];exact HJL
   have HJ:=A? HJ;have f21:=HP3.p.blk.k 21;have f2:=fJ HP3 (id:=id) (HK3 id HK) (by rw[HL3.out];exact xO);rw[HB3.out]at f2;have EA:E!<|∀w5 G5 j5,aS w5 G5 n b sb x3 ({P3 with join:=j5},z.2)->w5.cell? (B? b 21)=C! (ptr x3.j)/\w5.cell? (B? B 2)=N? id:=A? λw5 G5 j5 h5=>⟨h5.p.blk.cell 21,naX⟩;obtain⟨JB,Mj⟩:=F? x3.j;simp only at gI HJ;rw[Mj]at gI HJ f21 EA;have HJB:=A? Mj;clear Mj;have abn:=HP3.p.blk.lt;have Ia:=bW HP3 (id:=id)<|HK3 id HK;rw[HB3.out]at Ia;unfold ptr at gI f21 EA;go_wp2;refine dW (λw'=>L! w' b 21 (P? JB)/\J? w' B 2 id) (zcb [9,1]) (⟨f21,f2⟩) ?_;refine R? ?_;intro K hK;go_wp2_with(go_at_call 235;apply gI.mono;rintro e w4 ⟨rfl,hj4,ho4⟩);obtain⟨hj5,hs5⟩:=HJ.E8 hj4 ho4;obtain⟨hp5,hs5'⟩:=C3 HP3 hs5 mfL;apply O! hK (EA _ _ _ hp5);clear hK K;apply aj;obtain⟨P4,hP4⟩:∃P4:aF,{P3 with join:=(kH P3.join id).1}=P4:=⟨_,rfl⟩;have HE4:E!<|P4.changes=P3.changes/\P4.now=P3.now/\P4.c=P3.c/\P4.side=P3.side/\P4.links=P3.links:=A? (by rw[<-hP4];exact⟨rfl,rfl,rfl,rfl,rfl⟩);simp only at hp5;rw[show(⟨_,_⟩:PS)=(({P3 with join:=(kH P3.join id).1}:aF),z.2)from rfl,hP4]at hp5;have Tp:=A? hP4;have HP4:=A? hp5;have HS4:=A?<|(HS3.trans<|aB (bG n) G3 w3).trans hs5'
   have HL4:E! (lk P4 id={lk P id with phase:=4}):=A? (by
    have e:lk P4 id=lk P3 id:=by unfold lk;rw[HE4.2.2.2.2]
    rw[e];exact HL3)
   have HK4:E!<|∀k,au z.1.links k=C?->au P4.links k=true:=A? λk hk=>by rw[HE4.2.2.2.2];exact HK3 k hk
   clear hp5 hs5 hs5' hj5 hj4 ho4 hP4 gI HJ EA f21 f2 HP3 HS3;have qH:=oY 0 0 (id:=id) HP4 (HK4 id HK) (by rw[HL4.out];exact xO) naD;rw[HB3.out]at qH;have qH:=A? qH
   have g5:w4.cell? (B? B 5)=N? 0:=by
    exact ncL
   have vS:=bW HP4 (id:=id)<|HK4 id HK;rw[HB3.out]at vS;unfold ptr at qH;go_wp2_with(go_at_call 148;apply qH.mono;rintro e w5 ⟨rfl,G5,x5,hp5,hs5,hx5⟩;have hb5:=hp5.p.blk.lt;have g35:=hp5.p.blk.cell 35;have g35':=hp5.p.blk.frozen 35;obtain⟨v35,g35⟩:∃v,L! w5 b 35 v:=⟨_,g35⟩;have HP5:=A? hp5;have HS5:=A?<|HS4.trans hs5;have HX5:=A?<|λk (hk:au z.1.links k=C?)=>(hx5 k<|HK4 k hk).trans<|HX3 k hk;clear hp5 hs5 hx5);have HB5:=A?<|(HX5 id HK).trans HB;obtain⟨P5,hP5⟩:∃P5:aF,{bX P4 id 0 0 with fails:=0}=P5:=⟨_,rfl⟩;have HE5:E!<|P5.now=P4.now/\P5.c=P4.c/\P5.side=P4.side/\P5.links=P4.links:=A? (by rw[<-hP5];exact⟨rfl,rfl,rfl,rfl⟩);obtain⟨p6,s6⟩:=HP5.own (m':={bX P4 id 0 0 with fails:=0}) (ay w5 b 35<|A! 0) (HP5.p.blk.set 35 _ rfl) rfl rfl rfl rfl rfl rfl rfl rfl;rw[hP5]at p6;have Tq:=A? hP5;have HP6:=A? p6;have HS6:=A?<|HS5.trans s6
   have HL5:E! (lk P5 id={lk P id with phase:=4}):=A? (by
    have e:lk P5 id=lk P4 id:=by unfold lk;rw[HE5.2.2.2]
    rw[e];exact HL4)
   have HK5:E!<|∀k,au z.1.links k=C?->au P5.links k=true:=A? λk hk=>by rw[HE5.2.2.2];exact HK4 k hk
   clear p6 s6 hP5 HP5 HS5 qH HP4 HS4;generalize w5.setCell (B? b 35) (A! 0)=w6 at HP6 HS6|-;clear g35 g35';have xP:=qG HP6.p.blk;have xS:=ze (dZ P5) (HP6.p.mG<|HK5 id HK) N! naH;rw[HB5.out]at xS;obtain⟨MG,Mm⟩:=F?<|dZ P5;rw[Mm]at xP xS;have Mn:=A? Mm;have xP:=A? xP;have xS:=A? xS;clear Mm;unfold ptr at xP xS;refine M! xP λwm ew=>?_;rw[ew];clear ew wm;go_wp2_with(go_at_call 123;apply xS.mono;rintro e w7 ⟨rfl,G7,hl7,hs7⟩);rw[<-HB5.out]at hl7;obtain⟨p7,s7⟩:=HP6.gY (HK5 id HK) hs7 hl7;obtain⟨P7,hP7⟩:=F?<|bH P5 id<|lC (lk P5 id) MG;simp only at p7;rw[hP7]at p7;have Ts:=A? hP7;have HP7:=A? p7.drew;have HS7:=A?<|(HS6.trans s7).trans<|aB (bG n) G7 w7;have HE7:E!<|P7.now=z.1.now/\P7.c=z.1.c:=A? ncW;have HK7:E!<|au P7.links id=true:=A? ncf
   have HL7:E! (lk P7 id=lC (lk P5 id) MG):=A? (by
    exact naY)
   clear p7 s7 hl7 hs7 hP7 xS HP6 HS6 xP;have f25:J? w7.drew b 25 P7.now:=HP7.p.blk.k 25;have f10:J? w7.drew b 10 P7.c.restart:=HP7.p.blk.k 10;rw[HE7.1]at f25;rw[HE7.2]at f10;obtain⟨y,hy⟩:=HP7.aR HK7;have how:∀(w6:D!) (l':aM) (ho:Only (λk=>k=x5.f id) w7.drew w6) (el:l'.neg=(lk P7 id).neg/\l'.proof=(lk P7 id).proof/\l'.term=(lk P7 id).term/\l'.out=(lk P7 id).out) (hb:aO w6 (x5.f id) 107<|bS y l'),aS w6 (grow G7 w7.drew.heap.size free) n b sb x5 (bH P7 id l',z.2)/\Step (bG n) G7 w7.drew (grow G7 w7.drew.heap.size free) w6:=λw6 l' ho el hb=>HP7.oq HK7 hy ho el hb;have hne:=ni HP7 HK7;have xR:=hy.blk;have Tt:=hy.blk.lt;have afw:=HP7.p.blk.lt;rw[HB5.out]at how hne xR Tt;have HOW:=A? how;have HBY:=A? xR;obtain⟨NW,rG⟩:=F? z.1.now;obtain⟨RS,xQ⟩:=F? z.1.c.restart;obtain⟨b1,b2,b3,b4⟩:=Th.out;rw[rG]at f25 b1 b2;rw[xQ]at f10 b3 b4;have wq:=A? rG;have QC:=A? xQ;have qF:E!<|∀w',Only (λk=>k=B) w7.drew w'->J? w' b 25 NW/\J? w' b 10 RS:=A? λw' ho=>⟨ho.cell f25<|X? hne,ho.cell f10<|X? hne⟩;obtain⟨v10,d10⟩:∃v,L! w7.drew B 10 v:=⟨_,xR.cell 10⟩;have f10':=xR.frozen 10;clear hy xR hne how rG xQ;go_wp2;refine dW (λw'=>J? w' b 25 NW/\J? w' b 10 RS) (zcb [13,1]) (⟨f25,f10⟩) ?_;refine R? ?_;intro K hK;go_wp2_with fail;refine O! hK (qF _<|ay w7.drew B 10 _) ?_;clear hK K;apply aj;obtain⟨p8,s8⟩:=HOW _ {lk P7 id with at_:=NW+RS} (ay w7.drew B 10<|A!<|NW+RS) ⟨rfl,rfl,rfl,rfl⟩<|HBY.set 10 _ rfl;have HP8:=A? p8;have HS8:=A?<|HS7.trans s8;clear p8 s8 HOW qF;go_wp2;go_end0
   have e:jJ P id 0=bH P7 id {lk P7 id with at_:=NW+RS}:=by
    have h5:P5={bX {bC P id 4 with join:=(kH (bC P id 4).join id).1} id 0 0 with fails:=0}:=by rw[Tn.out,Tp.out,Tq.out]
    have hm:dZ (bX {bC P id 4 with join:=(kH (bC P id 4).join id).1} id 0 0)=MG:=by rw[<-Mn.out,h5];rfl
    have hn:(bX {bC P id 4 with join:=(kH (bC P id 4).join id).1} id 0 0).now+(bX {bC P id 4 with join:=(kH (bC P id 4).join id).1} id 0 0).c.restart=NW+RS:=by
     rw[<-wq.out,<-QC.out,<-tU.2.1,<-tU.2.2.1];rfl
    rw[si,hm,hn,<-h5,HL7.out,<-Ts.out];unfold aN bH;dsimp only;rw[sC]
   exact naq
  .have Hz:E! (jG z id=fq (P,z.2) id):=A? (by
    rw[u.out,G?];refine .inl ⟨rfl,λe=>hm ?_⟩;rw[<-Tg.out,e];rfl)
   have bc:K? (0<(W:Int))=true:=b! B!;have b8:K? (0<W)=true:=b! B!;clear u hm;refine dW (λw'=>J? w' B 5 0/\J? w' b 34 I) (zcb [7,1,21]) (⟨e5,e34⟩) ?_;refine R? ?_;intro K hK;go_wp2_with(go_at_call 23;apply MX.mono;rintro e w3 ⟨v,rfl,R,j⟩;obtain⟨ax,az,rfl,-,-⟩:=R.1.form;rw[Tg.out]);refine O! hK ⟨aw j e5,aw j e34⟩ ?_;clear hK K;refine T? ?_;obtain⟨H,L⟩:=xD.below j;have HP:=A? H;have HS:=A?<|xW.trans L;clear H L R j xD xW MX e5 e34;exact naL
 .have bd:=Q?.2 E;have bf:=W? E;by_cases M:0<nH
  .have av:=b! M;by_cases A:nH=I
   .have Hz:E! (jG z id=(jJ P id nH,z.2)):=A? (by
     rw[u.out,F!];rintro(⟨e,-⟩|⟨-,e⟩)
     .exact E e
     .exact e A)
    subst A;clear u E;refine dW (λw'=>J? w' B 5 nH/\J? w' b 34 nH) (zcb [7,1,21]) (⟨e5,e34⟩) ?_;exact nac
   .have Hz:E! (jG z id=fq (P,z.2) id):=A? (by
     rw[u.out,G?];exact .inr ⟨M,A⟩)
    have be:=Q?.2 A;have b7:=W? A;clear u E A;refine dW (λw'=>J? w' B 5 nH/\J? w' b 34 I) (zcb [7,1,21]) (⟨e5,e34⟩) ?_;refine R? ?_;intro K hK;go_wp2_with fail;refine O! hK ⟨e5,e34⟩ ?_;clear hK K;refine T? ?_;have HP:=xD;have HS:=xW;clear xD xW MX e5 e34;exact naL
  .have Hz:E! (jG z id=(jJ P id nH,z.2)):=A? (by
    rw[u.out,F!];rintro(⟨e,-⟩|⟨e,-⟩)
    .exact E e
    .exact M e)
   have av:=W? M;clear u E;refine dW (λw'=>J? w' B 5 nH/\J? w' b 34 I) (zcb [7,1,21]) (⟨e5,e34⟩) ?_;exact nac
theorem Ib:
 G! E? 198 #[ptr b,ptr<|x.f id] w (lp id n b sb G w x z (jG z id) (.tuple #[])):=by
 cases e:(lk z.1 id).dials with
 |true=>exact abm h he hf hN hr hk e
 |false=>exact abo h he hf hN hr hk e
end
theorem A1{v:I?}(B:cR)(h:aS w G n b sb x z)(ap:Env w G ml)(V:Fit N r z)(ao:N<=40000000000)(av:aI w v B.opts)(az:∀o∈B.opts,o.2.size<=4611686018427387904)(bj:0<=B.id/\B.id<=255):
 G! E? 207 #[ptr b,.agg<|iC B v] w (fu n b sb G w x z (iJ z B) (.tuple #[])):=by
 let⟨W,hw1⟩:=F?<|w.alloc (.cells (iC B v) 157);have a4:K! w W:=bac;let⟨Q,hQ⟩:=F? w.heap.size;have O:aO W Q 157<|iC B v:=baY;let⟨A,K⟩:=h.below a4;generalize grow G w.heap.size free=b3 at A K;have ax:=aD.below av a4;have ar:=ap.uM h.n01 K;have C:=O.k 0;have X:=O.k 1;have b0:=O.k 2;have a9:=O.k 3;have bl:=O.lt;have bs:=A.p.blk.lt;have ag:=A?<|zX A V.p B!;have b8:=A? A;have ad:=A? K;have bk:=V.p.sd;have am:0<=pZ B.id z.1.side/\pZ B.id z.1.side<=65535:=by unfold pZ;omega
 have R:=A? λw=>Kr B.id z.1.side w B! B!;have bx:=h.n01;have Y:=A.p.blk.k 18;have b9:=A?<|aD.below ax (P! W.heap.size W).drew;have b6:=A? ar.drew;have ba:=A? az;have ac:=A? V
 have g:E! (iJ z B=if B.answer≠0 then(rq z.1,z.2)else if B.code=2 then vu z (pZ B.id z.1.side)else if B.code=6 then(match nC z.1 B.opts with|none=>z|some k=>if(lk z.1 k).phase=4 then(uD z.1 k (pZ B.id z.1.side),z.2)else z)else z):=A? (by
  unfold iJ mD;split
  .rfl
  .split
   .rfl
   .split
    .cases nC z.1 B.opts with
     |none=>rfl
     |some k=>
      dsimp only;split<;>rfl
    .rfl)
 generalize pZ B.id z.1.side=mk at R am g;obtain⟨bm,bo⟩:=am;generalize z.1.side=be at R Y;let⟨b2,a5⟩:=F? B.answer;let⟨bc,a1⟩:=F? B.id;let⟨J,a0⟩:=F? B.code;unfold iC at hw1|-;rw[a5,a1,a0]at hw1|-;rw[a5]at b0 g;rw[a1]at X R;rw[a0]at C g;clear h ap V av az a4 O A K ax ar a5 a1 a0 bj bk;rw[<-hQ]at bl;unfold ptr at*
 by_cases a6:b2=0
 .subst a6;go_in;go_wp2_with fail;clear hw1;refine dW (λb1=>J? b1 Q 1 bc/\J? b1 b 18 be) (zcb [6,1,1]) (⟨X,Y⟩) ?_;refine R? ?_;intro bd an;go_wp2_with(go_at_call 203;refine M! (R _) λc3 bv=>?_);refine O! an ⟨X,Y⟩ ?_;clear an bd;refine T? ?_;have h:=b8.drew;have C:J? W.drew Q 0 J:=C;have a9:L! W.drew Q 3 v:=a9;have E:=A?<|ad.trans<|aB (bG n) b3 W;have f:=A?<|Bw h.p b9 ba;have al:=A?<|Kp mk h b6 ac ao bm bo;generalize W.drew=W at h C a9 E f al|-;have b5:=A?<|λ(w1:D!) (hb:K! W w1) k (a7:au z.1.links k=C?)=>Hy mk (h.below hb).1 ac.p ao a7;have EW:=A?<|λ(w1:D!) (hb:K! W w1) k (a7:au z.1.links k=C?)=>(h.below hb).1.aR a7;have I:=A?<|λ(w1:D!) (hb:K! W w1)=>h.below hb;have b4:=A? h;have br:=h.p.blk.lt;have bf:=h! C;simp only at bf;clear h X b0 Y ag R;unfold ptr at*
  by_cases a2:J=2
  .subst a2;go_wp2_with(go_at_call 131;apply al.mono;rintro e w2 ⟨rfl,G2,M,H,L,D⟩);go_end0;refine⟨rfl,G2,M,?_,E.trans L,D⟩;rw[g.out,F! N!,G? N!];exact H
  .have bz:=Q?.2 a2;by_cases a3:J=6
   .subst a3;have F:E!<|iJ z B=(match nC z.1 B.opts with|none=>z|some k=>if(lk z.1 k).phase=4 then(uD z.1 k mk,z.2)else z):=A? (by rw[g.out,F! N!,F! N!,G? N!]);cases j:nC z.1 B.opts with
    |none=>
     have b7:E!<|iJ z B=z:=A? (by rw[F.out,j]);rw[j]at f;unfold wV at f;clear j F;go_wp2_with(go_at_call 242;refine M! f λw1 u=>?_);go_end0;refine⟨rfl,_,x,?_,E.trans (I w1 u).2,λ_ _=>rfl⟩;rw[b7.out];exact(I w1 u).1
    |some k=>
     have HK:=A?<|Bx j;have Z:E!<|iJ z B=if(lk z.1 k).phase=4 then(uD z.1 k mk,z.2)else z:=A? (by rw[F.out,j])
     rw[j]at f;unfold wV ptr at f;clear j F;let⟨ae,aa⟩:=F?<|(lk z.1 k).phase;have HPH:=A? aa;rw[aa]at Z;clear aa
     have ab:E!<|∀w1,K! W w1->w1.cell? (B? (x.f k) 3)=N? ae:=A? λw1 hb=>by
      exact nbt
     by_cases a8:ae=4
     .subst a8;go_wp2_with(first|(go_at_call 242;refine M! f λw1 u=>?_;have bi:=ab w1 u)|(go_at_call 243;apply(b5 w1 u k HK).mono;rintro e w2 ⟨rfl,G2,M,H,L,D⟩));go_end0;refine⟨rfl,G2,M,?_,(E.trans (I w1 u).2).trans L,D⟩;rw[Z.out,G? trivial];exact H
     .have c2:=Q?.2 a8;go_wp2_with(go_at_call 242;refine M! f λw1 u=>?_;have bi:=ab w1 u);go_end0;refine⟨rfl,_,x,?_,E.trans (I w1 u).2,λ_ _=>rfl⟩;rw[Z.out,F! a8];exact(I w1 u).1
   .have c0:=Q?.2 a3;go_wp2;go_end0;refine⟨rfl,_,x,?_,E,λ_ _=>rfl⟩;rw[g.out,F! N!,F! a2,F! a3];exact b4
 .have c1:=Q?.2 a6;go_in;go_wp2_with(go_at_call 150;apply ag.mono;rintro e w2 ⟨rfl,G2,M,H,L,D⟩);go_end0;refine⟨rfl,G2,M,?_,ad.trans L,D⟩;rw[g.out,G? a6];exact H
theorem Ip{v:I?}{e:Ending}(h:fu n b sb G w x z z' v e w1)(l:au z.1.links id=C?)(d:au z'.1.links id=C?)(s:(lk z'.1 id).id=id):lp id n b sb G w x z z' v e w1:=by
 obtain⟨rfl,i,u,t,c,o⟩:=h;refine⟨⟨rfl,i,u,t,c,o⟩,?_⟩;have:=fJ t d s;rw[o id l]at this;exact this
theorem TL(l:Int)(d:List UInt8)(h:aS w G n b sb x z)(f:au z.1.links id=C?)(R:(lk z.1 id).id=id)(j:l≠49185)(E:l≠49699)(h3:¬(l=61/\(lk z.1 id).dF=C?))(h4:¬(l=49197/\(lk z.1 id).dF=C?)):
 G! E? 118 #[ptr b,ptr<|x.f id,.agg #[A! l,D?<|bytesOf d]] w (lp id n b sb G w x z (dL z id (l,d)) (.tuple #[])):=by
 let⟨W,hw1⟩:=F?<|w.alloc (.cells #[A! l,D?<|bytesOf d] 190);have S:K! w W:=bac;let⟨Q,hQ⟩:=F? w.heap.size;have I:aO W Q 190 #[A! l,D?<|bytesOf d]:=baY;have K:=I.k 0;have D:=I.lt;let⟨O,H⟩:=h.below S
 have C:E! (dL z id (l,d)=z):=A? (by
  unfold dL;dsimp only;rw[F! j,F! E,F! h3,F! h4])
 have lU:E! (lp id n b sb G w x z (dL z id (l,d)) (.tuple #[]) (.returned (.tuple #[])) W):=A? (by
  rw[C.out];exact Ip ⟨rfl,_,x,O,H,λ_ _=>rfl⟩ f f R)
 let⟨y,A⟩:=O.aR f;have Bv:=A?<|kW A.blk;have L:=A.blk.lt;generalize x.f id=B at Bv L|-;generalize (lk z.1 id).dF=u at Bv h3 h4;have M:=Q?.2 j;have F:=Q?.2 E;clear h S I O H A f R j E;rw[<-hQ]at D;unfold ptr at*
 by_cases g:l=61
 .subst g;have hf:u=false:=by cases u with|false=>rfl|true=>exact absurd ⟨rfl,rfl⟩ h3
  exact nbz
 .have Y:=Q?.2 g;by_cases k:l=49197
  .subst k;have hf:u=false:=by cases u with|false=>rfl|true=>exact absurd ⟨rfl,rfl⟩ h4
   exact nbz
  .have V:=Q?.2 k;clear h3 h4 g k;go_wp2;go_end0;exact lU
