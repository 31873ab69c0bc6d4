/- Walks and plain laws. -/
import Derived.Test.YtncddkcponjlpaaGreatDoorK37
set_option linter.unusedVariables false
set_option linter.unusedSectionVars false
set_option linter.unusedSimpArgs false
set_option maxHeartbeats 0
set_option maxRecDepth 99999
namespace Go.Proofs.YtncddkcponjlpaaGreatDoor
open Go.RowKit Go.Proofs.Tryz
open Go renaming World→D!,Value→I?,Calls→G!,IntKind→ncy
open Go.RowKit renaming Hid→E!
open Decidable renaming decide→K?
open Option renaming some→C!,none→L?
open Bool renaming true→C?,false→H!
open Go.Proofs.Tryz renaming prog→E?
variable{P:Prop}
variable{w w1 w2:D!}{G G1 G2:Nat->Tag}{n ml id:Int}{b sb N r:Nat}{x:eY}{z z':PS}{m:aF}
def Aa(id n:Int)(b sb o:Nat)(G:Nat->Tag)(w:D!)(x:eY)(z:PS)(X:cu×List bg×Int)(e:Ending)(w1:D!):Prop:=
 ∃v t G1,e=.returned (.tuple #[v,A! X.2.2])/\aS w1 G1 n b sb x (aN z.1 id (λl=>{l with neg:=X.1}),z.2)/\Step (bG n) G w G1 w1/\xo w1 G1 [n,9,id] v t/\t.map (·.1)=X.2.1/\Only (· =o) w w1
theorem Qf{X:cu×List bg×Int}{y:pV}{e:Ending}(h:aS w G n b sb x z)(l:au z.1.links id=C?)(u:cM w G [n,9,id] (x.f id) y<|lk z.1 id)(t:mW y.n y.tb y.o (lk z.1 id).neg X ml w e w1)(f:∀q∈X.2.1,q.data.size<=4096):Aa id n b sb y.n G w x z X e w1:=by
 let⟨v,k,G2,E,s,o,c,d,i⟩:=u.CP N! t f;let⟨g,j⟩:=h.gY l c ⟨_,o⟩;exact⟨v,k,G2,s,g,j,d,i,j9 t⟩
theorem aex(i:Int)(h:aS w G n b sb x z)(l:Env w G ml)(s:au z.1.links id=C?):∃o,(w.cell? (B? (x.f id) 0)=C! (ptr o))/\o<w.heap.size/\G o=[n,9,id,0]/\G! E? 120 #[ptr o,A! i] w (Aa id n b sb o G w x z<|yo (lk z.1 id).neg i):=by
 let⟨y,t⟩:=h.aR s;exact⟨y.n,t.blk.cell 0,t.side.blk.lt,t.gn,(Ux y.n y.tb y.o (lk z.1 id).neg i ml w t.side l.m).mono λe c d=>Qf h s t d<|OO _ _⟩
theorem abM(k:bg)(v:I?)(h:aS w G n b sb x z)(l:Env w G ml)(i:au z.1.links id=C?)(c:pd dS G [n,9,id,5] w v k.opts)(s:k.data.size<=4096):∃o,(w.cell? (B? (x.f id) 0)=C! (ptr o))/\o<w.heap.size/\G o=[n,9,id,0]/\G! E? 179 #[ptr o,.agg<|cm k v] w (Aa id n b sb o G w x z<|dU (lk z.1 id).neg k):=by
 let⟨y,t⟩:=h.aR i;exact⟨y.n,t.blk.cell 0,t.side.blk.lt,t.gn,(oU y.n y.tb y.o v (lk z.1 id).neg k ml w t.side l.m c.at B!).mono λe u d=>Qf h i t d<|mJ _ _ s⟩
theorem TT{v:I?}{t:List nO}(h:aS w G n b sb x z)(o:au z.1.links id=C?)(u:xo w G [n,9,id] v t)(c:(lk z.1 id).out.length+4110*t.length<=1099511627776):G! E? 121 #[ptr<|x.f id,v] w (fu n b sb G w x z (aN z.1 id (λl=>dn l<|t.map (·.1)),z.2) (.tuple #[])):=
 (iw (h.p.mG o) u N! c).mono λe y ⟨i,G2,s,d⟩=>by
   let⟨f,g⟩:=h.gY o d s;exact⟨i,G2,x,f,g,λ_ _=>rfl⟩
theorem U7(p:aF)(id e:Int):aN (aN p id λl=>{l with neg:=(yo (lk p id).neg e).1}) id (λl=>dn l (yo (lk p id).neg e).2.1)=aN p id λl=>wk l e:=by
 rw[zZ];rfl
theorem X3(p:aF)(id:Int)(k:bg):aN (aN p id λl=>{l with neg:=(dU (lk p id).neg k).1}) id (λl=>dn l (dU (lk p id).neg k).2.1)=aN p id λl=>cq l k:=by
 rw[zZ];rfl
theorem abN(h:aS w G n b sb x z)(he:Env w G ml)(hf:Fit N r z)(hN:N+1<=40000000000)(hr:r+1<=10000000)(hk:au z.1.links id=true):
 Calls prog 97 #[ptr b,ptr<|x.f id] w (fu n b sb G w x z (rV z id) (.tuple #[])):=by
 have hlf:=(hf.p.link hk).1;obtain⟨y,hy⟩:=h.aR hk;have d3:w.drew.cell? (B? (x.f id) 3)=N? ((lk z.1 id).phase):=hy.blk.k 3;have d10:w.drew.cell? (B? (x.f id) 10)=N? ((lk z.1 id).at_):=hy.blk.k 10;have d11:w.drew.cell? (B? (x.f id) 11)=N? ((lk z.1 id).over):=hy.blk.k 11;have c25:w.drew.cell? (B? b 25)=N? z.1.now:=h.p.blk.k 25;have c10:w.drew.cell? (B? b 10)=N? z.1.c.restart:=h.p.blk.k 10;have cU:b<w.drew.heap.size:=h.p.blk.lt;have jm:=bW h.drew hk;have hbne:=ni h hk;have g10:=hy.blk.frozen 10;have hn0:=hf.p.n0;have hn1:=hf.p.n1;have hr2:=hf.p.cfg.r2;have hr16:=hf.p.cfg.r16
 have HD:Hid (rV z id=if((lk z.1 id).phase=5\/(lk z.1 id).phase=6)/\(lk z.1 id).over<=z.1.now then fq z id else if z.1.now<(lk z.1 id).at_ then z else
  (if(lk z.1 id).phase=2\/(lk z.1 id).phase=5 then(if(lk z.1 id).neg.state=9 then(aN z.1 id (λl=>{l with at_:=z.1.now+z.1.c.restart}),z.2)else
    (if(lk (aN (aN z.1 id (λl=>{l with at_:=z.1.now+z.1.c.restart})) id (λl=>wk l 4)) id).neg.state=3\/(lk (aN (aN z.1 id (λl=>{l with at_:=z.1.now+z.1.c.restart})) id (λl=>wk l 4)) id).neg.state=2 then fq (aN (aN z.1 id (λl=>{l with at_:=z.1.now+z.1.c.restart})) id (λl=>wk l 4),z.2) id else(aN (aN z.1 id (λl=>{l with at_:=z.1.now+z.1.c.restart})) id (λl=>wk l 4),z.2)))
   else if(lk z.1 id).phase=3 then(if(kr (lk (aN z.1 id<|λl=>{l with at_:=z.1.now+z.1.c.restart}) id) z.1.c.tries).2 then(bH (aN z.1 id<|λl=>{l with at_:=z.1.now+z.1.c.restart}) id (kr (lk (aN z.1 id<|λl=>{l with at_:=z.1.now+z.1.c.restart}) id) z.1.c.tries).1,z.2)else fq (bH (aN z.1 id<|λl=>{l with at_:=z.1.now+z.1.c.restart}) id (kr (lk (aN z.1 id<|λl=>{l with at_:=z.1.now+z.1.c.restart}) id) z.1.c.tries).1,z.2) id)
   else if(lk z.1 id).phase=4 then(if(lk z.1 id).ready then(aN z.1 id (λl=>{l with at_:=z.1.now+z.1.c.restart}),z.2)else(aN (aN z.1 id<|λl=>{l with at_:=z.1.now+z.1.c.restart}) id (λl=>lC l<|dZ<|aN z.1 id<|λl=>{l with at_:=z.1.now+z.1.c.restart}),z.2))
   else(aN z.1 id (λl=>{l with at_:=z.1.now+z.1.c.restart}),z.2))):=A? rfl
 obtain⟨T,hT⟩:∃T,z.1.now+z.1.c.restart=T:=⟨_,rfl⟩;obtain⟨P1,hP1⟩:∃P1,aN z.1 id (λl=>{l with at_:=T})=P1:=⟨_,rfl⟩;rw[hT,hP1]at HD;have afF:=(hy.step (aB (λ_=>False) G w) λ_ _ h=>h).step (aB (λ_=>False) G w.drew) λ_ _ h=>h;obtain⟨p1,s1⟩:=h.drew.drew.drew.oq (w1:=w.drew.drew.drew.setCell (B? (x.f id) 10)<|A! T) (l':={lk z.1 id with at_:=T}) hk (afF.step (aB (λ_=>False) G w.drew.drew) λ_ _ h=>h) (ay w.drew.drew.drew (x.f id) 10<|A! T) ⟨rfl,rfl,rfl,rfl⟩<|((afF.step (aB (λ_=>False) G w.drew.drew) λ_ _ h=>h).blk).set 10 _ rfl;have e1:bH z.1 id {lk z.1 id with at_:=T}=P1:=hP1;rw[e1]at p1;have hk1:au P1.links id=true:=by rw[<-hP1];exact(aG (λl=>{l with at_:=T}) hk id).trans hk
 have hl1:lk P1 id={lk z.1 id with at_:=T}:=by rw[<-hP1,dV,G? rfl]
 have hf1:Fit N r (P1,z.2):=by
  rw[<-hP1];exact(dH hf hk (f:=λl=>{l with at_:=T}) O? ⟨hlf.id,hlf.pf,hlf.an,hlf.a0,hlf.a1,hlf.bf,hlf.out,hlf.tm⟩).fit
 have hks:∀k,au P1.links k=au z.1.links k:=by rw[<-hP1];exact aG (λl=>{l with at_:=T}) hk
 have hmg:dZ P1=dZ z.1:=by rw[<-hP1];rfl
 have hcc:P1.c=z.1.c:=by rw[<-hP1];rfl
 have HP1:=A? p1;have HS1:=A?<|(((aB (bG n) G w).trans<|aB (bG n) G w.drew).trans<|aB (bG n) G w.drew.drew).trans s1;have MY:=A?<|nj h.drew hf.p B! hk;have H:=A? h;have HE:=A? he;have HK1:=A? hk1;have HL1:=A? hl1;have HF1:=A? hf1;have tG:=A? hks;have HCC:=A? hcc;have HS0:Hid<|∀v,(w.drew.drew.drew.setCell (B? (x.f id) 10) v).cell? (B? b 25)=N? z.1.now/\(w.drew.drew.drew.setCell (B? (x.f id) 10) v).cell? (B? b 10)=N? z.1.c.restart:=A? λv=>⟨by rw[Ω _ _ _ _ N!];exact c25,by rw[Ω _ _ _ _<|by simp[hbne]];exact c10⟩;obtain⟨PH,uT⟩:∃PH,(lk z.1 id).phase=PH:=⟨_,rfl⟩;obtain⟨AT,hAT⟩:∃AT,(lk z.1 id).at_=AT:=⟨_,rfl⟩;obtain⟨OV,hOV⟩:∃OV,(lk z.1 id).over=OV:=⟨_,rfl⟩;obtain⟨NW,rG⟩:∃NW,z.1.now=NW:=⟨_,rfl⟩;obtain⟨RS,xQ⟩:∃RS,z.1.c.restart=RS:=⟨_,rfl⟩;obtain⟨B,hB⟩:∃B,x.f id=B:=⟨_,rfl⟩;rw[uT]at d3 HD;rw[hAT]at d10 HD;rw[hOV]at d11 HD;rw[rG]at c25 hn0 hn1 HD HS0 hT;rw[xQ]at c10 hr2 hr16 HS0 hT;rw[hB]at d3 d10 d11 g10 jm hbne MY HS0 HP1 HS1|-;have HPH:=A? uT;have HB:=A? hB;have xP:=A? hmg;have HT:=A? hT;obtain⟨BA,hBA⟩:∃BA,decide ((PH=5\/PH=6)/\OV<=NW)=BA:=⟨_,rfl⟩;have U8:=A? hBA;clear h he hf hk hlf hy afF p1 s1 e1 hk1 hl1 hf1 hks hmg hcc hP1 uT hAT hOV rG xQ hB hT hBA;unfold ptr at*
 go_in
 go_upto_region 0 with fail
 go_cut[29]from 7 to 28 (λv wx=>v=.bool BA/\w.drew=wx)
 case first=>
  clear HD HP1 HS1 MY H HE HK1 HL1 HF1 tG HCC HS0;rcases(by omega:PH=5\/PH=6\/(PH≠5/\PH≠6))with hA|hA|hA
  .have q5:(PH==5)=true:=bal;exact mdE
  .have q5:(PH==5)=false:=bal;have q6:(PH==6)=true:=bal;exact mdE
  .have q5:(PH==5)=false:=bal;have q6:(PH==6)=false:=bal;exact mdE
 case rest=>
  obtain⟨rfl,rfl⟩:=hcut;cases BA with
  |true=>
   have pT:Hid<|rV z id=fq z id:=A? (by rw[HD.out,G?<|bbN U8]);clear HD HP1 HS1 HK1 HL1 HF1 HS0;go_wp2_with fail;refine MY.mono ?_;rintro e w9 ⟨⟨rfl,G9,x9,hp9,hs9,hx9⟩,-⟩;have HP9:=A? hp9;have HS9:=A?<|(aB (bG n) G w).trans hs9;have HX9:=A? hx9;clear hp9 hs9 hx9;go_wp2;go_end0;exact⟨rfl,G9,x9,by rw[pT.out];exact HP9,HS9,HX9⟩
  |false=>
   have HD2:=A?<|HD.trans<|F!<|bco U8;clear HD MY U8;have e25:w.drew.drew.cell? (B? b 25)=N? NW:=c25;have e10:w.drew.drew.cell? (B? B 10)=N? AT:=d10;by_cases hlt:NW<AT
   .have pT:Hid<|rV z id=z:=A? (by rw[HD2.out,G? hlt]);clear HD2 HP1 HS1 HK1 HL1 HF1 HS0;go_wp2;refine dW (λw'=>w'.cell? (B? b 25)=N? NW/\w'.cell? (B? B 10)=N? AT) (zcb [9]) (⟨e25,e10⟩) ?_;refine tK ?_;refine aj ?_;go_wp2;go_end0;rw[pT.out];exact⟨rfl,G,x,H.drew.drew,(aB (bG n) G w).trans<|aB (bG n) G w.drew,λ_ _=>rfl⟩
   .have hge:AT<=NW:=B!;have HD3:=A?<|HD2.trans<|F! hlt;clear HD2 hlt;have f25:w.drew.drew.drew.cell? (B? b 25)=N? NW:=c25;have f10:w.drew.drew.drew.cell? (B? b 10)=N? RS:=c10;have g10':w.drew.drew.drew.frozen? (B? B 10)=false:=g10;have h10':w.drew.drew.drew.cell? (B? B 10)=N? AT:=d10;go_wp2;refine dW (λw'=>w'.cell? (B? b 25)=N? NW/\w'.cell? (B? B 10)=N? AT) (zcb [9]) (⟨e25,e10⟩) ?_;refine tK ?_;refine aj ?_;go_wp2;refine dW (λw'=>w'.cell? (B? b 25)=N? NW/\w'.cell? (B? b 10)=N? RS) (zcb [13,1]) (⟨f25,f10⟩) ?_;refine tK ?_;refine ai<|λK hK=>?_;go_wp2_with fail;refine ah<|hK _ _ (HS0 _) ?_;clear hK K;refine aj ?_;obtain⟨W,hW2⟩:∃W,(w.setCell (B? B 10)<|A!<|NW+RS).drew.drew.drew=W:=⟨_,rfl⟩;have hW:w.drew.drew.drew.setCell (B? B 10) (A!<|NW+RS)=W:=hW2;obtain⟨GW,EB⟩:∃GW,grow G w.drew.drew.drew.heap.size free=GW:=⟨_,rfl⟩;rw[<-HT.out,hW,EB]at HP1 HS1;rw[hW2];clear hW hW2 EB HS0 e25 e10 f25 f10 g10' h10' c25 c10 d3 d10 d11 g10 H cU jm;have hEW:=HE.uM HP1.n01 HS1;obtain⟨y1,hy1⟩:=HP1.aR HK1;have hy1:cM W GW [n,9,id] (x.f id) y1<|lk P1 id:=hy1;have d0:=hy1.blk.k 0;have d3:W.cell? (B? (x.f id) 3)=N? PH:=by rw[hy1.blk.cell 3];show some (Value.int .i64 (lk P1 id).phase)=_;rw[HL1.out];exact U! (λt=>some<|Value.int .i64 t) HPH
    have d18:W.cell? (B? (x.f id) 18)=some (.bool (lk z.1 id).ready):=by rw[hy1.blk.cell 18];show some (Value.bool (lk P1 id).ready)=_;rw[HL1.out]
    have c11:W.cell? (B? b 11)=N? z.1.c.tries:=by rw[HP1.p.blk.cell 11];show some (Value.int .i64 P1.c.tries)=_;rw[HCC.out]
    have HST:=A?<|zM _ _ _ _ W hy1.side.blk;rw[show(lk P1 id).neg.state=(lk z.1 id).neg.state by rw[HL1.out]]at HST;have jm:=bW HP1 HK1;have cU:=HP1.p.blk.lt;rw[HB.out]at d0 d3 d18 jm;have HEW:=A? hEW;have HY1:=A? hy1;clear hEW hy1 HE;obtain⟨ST,Lr⟩:∃ST,(lk z.1 id).neg.state=ST:=⟨_,rfl⟩;rw[Lr]at HST HD3;clear Lr
    have lU:Hid<|rV z id=(P1,z.2)->fu n b sb G w x z (rV z id) (.tuple #[]) (.returned (.tuple #[])) W:=A? λe=>by
     rw[e];exact⟨rfl,GW,x,HP1,HS1,λ_ _=>rfl⟩
    unfold ptr at*
    rcases(by omega:(PH=2\/PH=5)\/PH=3\/PH=4\/(PH≠2/\PH≠5/\PH≠3/\PH≠4))with hp|hp|hp|hp
    .have HD4:=A? (HD3.trans<|G? hp);clear HD3 d18 c11;by_cases s9:ST=9
     .subst s9;have HE0:=A?<|lU na9;clear HD4 lU;rcases hp with rfl|rfl
      all_goals
       go_wp2_with(go_at_call 119;refine HST.mono ?_;rintro e wm ⟨rfl,ew⟩;rw[ew];clear ew wm);go_end0;exact HE0
     .have q9:=Q?.2 s9;have HD5:=A?<|HD4.trans<|F! s9;clear HD4 lU s9;obtain⟨nb,E0,adD,-,Uw⟩:=aex 4 HP1 HEW HK1;rw[HB.out]at E0
      have afG:nb=y1.n:=by
       have:=E0.symm.trans d0;simpa[ptr]using this
      subst afG;have rK:=A? Uw;have HO1:=A? (HF1.p.link HK1).1.out;clear E0 Uw;unfold ptr Aa at rK;rcases hp with rfl|rfl
      all_goals
       go_wp2_with(first
        |(go_at_call 119;refine HST.mono ?_;rintro e wm ⟨rfl,ew⟩;rw[ew];clear ew wm)
        |(go_at_call 120;refine rK.mono ?_;rintro e w4 ⟨v,ps,G4,rfl,hp4,hs4,Qg,hX4,-⟩))
       have hk4:=(aG (λl=>{l with neg:=(yo (lk P1 id).neg 4).1}) HK1 id).trans HK1
       have hSA:=TT hp4 hk4 Qg (by
        have e:(lk (aN P1 id λl=>{l with neg:=(yo (lk P1 id).neg 4).1}) id).out=(lk P1 id).out:=mac;have h8:=Cy (lk P1 id).neg 4;have h9:ps.length=(yo (lk P1 id).neg 4).2.1.length:=mdT;have h10:=HO1.out;show(lk (aN P1 id λl=>{l with neg:=(yo (lk P1 id).neg 4).1}) id).out.length+_<=_;rw[e];omega)
       rw[hX4,show(aN ((aN (P1,z.2).1 id λl=>{l with neg:=(yo (lk P1 id).neg 4).1},z.2):PS).1 id λl=>dn l (yo (lk (P1,z.2).1 id).neg 4).2.1)=aN P1 id λl=>wk l 4 from U7 P1 id 4,HB.out]at hSA;have qz:=A? hSA;have HS4:=A?<|HS1.trans hs4;clear hp4 hs4 Qg hX4 hSA hk4;unfold ptr at qz;refine qz.mono ?_;rintro e w5 ⟨rfl,G5,x5,hp5,hs5,hx5⟩
       have HX5:Hid (∀k,au z.1.links k=true->x5.f k=x.f k):=A? λk hk=>hx5 k (by
        show au (aN P1 id λl=>{l with neg:=(yo (lk P1 id).neg 4).1}).links k=true;rw[aG (λl=>{l with neg:=(yo (lk P1 id).neg 4).1}) HK1.out,tG.out];exact hk)
       have HP5:=A? hp5;have ur:=A?<|HS4.trans hs5;clear hp5 hs5 hx5 qz HS4 HS1 HP1 HY1;obtain⟨P2,hP2⟩:∃P2,aN P1 id (λl=>wk l 4)=P2:=⟨_,rfl⟩;have mP:Hid<|∀k,au P2.links k=au z.1.links k:=A? λk=>by rw[<-hP2,aG (λl=>wk l 4) HK1.out,tG.out]
       have HK2:Hid<|au P2.links id=true:=A? (by rw[mP.out,<-tG.out];exact HK1)
       have HF2:Hid (Fit N (r+1) (P2,z.2)):=A? (by
        rw[<-hP2];exact(dH HF1 HK1 (f:=λl=>wk l 4) B! ((HF1.p.link HK1).1.do 4)).fit)
       rw[hP2]at HP5 HD5;clear hP2;obtain⟨y5,hy5⟩:=HP5.aR HK2;have hy5:cM w5 G5 [n,9,id] (x5.f id) y5<|lk P2 id:=hy5;have e0:=hy5.blk.k 0;have qd:=A?<|nj HP5 HF2.p B! HK2;have AY:=HP5.p.blk.lt;have nV:=hy5.blk.lt;have Jd:=A?<|zM _ _ _ _ w5 hy5.side.blk;have hxb:x5.f id=B:=by rw[HX5 id<|by rw[<-mP.out];exact HK2,HB.out]
       rw[hxb]at e0 qd nV;clear hy5 hxb d0 d3 HST jm cU adD rK HO1;obtain⟨S5,hS5⟩:∃S5,(lk P2 id).neg.state=S5:=⟨_,rfl⟩;rw[hS5]at Jd HD5;clear hS5;unfold ptr at*
       go_upto_region 11 with(go_at_call 119;refine Jd.mono ?_;rintro e wm ⟨rfl,ew⟩;rw[ew];clear ew wm)
       rcases(by omega:S5=3\/S5=2\/(S5≠3/\S5≠2))with hs5|hs5|hs5
       .subst hs5;have pT:Hid<|rV z id=fq (P2,z.2) id:=A? (by rw[HD5.out,G? (.inl rfl)]);exact ncE
       .subst hs5;have pT:Hid<|rV z id=fq (P2,z.2) id:=A? (by rw[HD5.out,G? (.inr rfl)]);exact ncE
       .have pT:Hid<|rV z id=(P2,z.2):=A? (by rw[HD5.out,F! B!]);have q3:=Q?.2 hs5.1;have q2:=Q?.2 hs5.2;clear hs5;go_wp2;go_end0;exact⟨rfl,G5,x5,by rw[pT.out];exact HP5,ur,HX5⟩
    .subst hp;have HD4:=A?<|HD3.trans<|(F! I!).trans<|G? rfl;clear HD3 d18 HST lU;have L5:=A?<|Sq z.1.c.tries (HP1.p.mG HK1) N! (HF1.p.link HK1).1 B! ncI;rw[HB.out]at L5;obtain⟨R,hR⟩:∃R,kr (lk P1 id) z.1.c.tries=R:=⟨_,rfl⟩;have HR:=A? hR;unfold GS ud at L5;rw[show kr (lk (P1,z.2).1 id) z.1.c.tries=R from hR]at L5;rw[hR]at HD4;clear hR;obtain⟨L,ok⟩:=R;simp only at L5 HD4;unfold ptr at L5
     have xT:Hid (Fit (N+1) (r+1) (bH P1 id L,z.2)):=A? (by
      have h1:=(HF1.p.link HK1).1.again z.1.c.tries;rw[show kr (lk (P1,z.2).1 id) z.1.c.tries=(L,ok)from HR.out]at h1;exact(Pk HF1 HK1 (M:=N+1) (s:=r+1) B! B! h1).fit)
     have mP:Hid<|∀k,au (bH P1 id L).links k=au z.1.links k:=A? λk=>(aG (λ_=>L) HK1 k).trans<|tG k;have HK2:Hid<|au (bH P1 id L).links id=true:=A? (by rw[mP.out,<-tG.out];exact HK1);clear HR;go_upto_if 102 with(go_at_call 122;refine L5.mono ?_;rintro e w4 ⟨rfl,G4,hl4,hs4⟩)
     obtain⟨p4,s4⟩:=HP1.gY HK1 hs4 (by rw[HB.out];exact hl4);have HP4:=A? p4;have ur:=A?<|HS1.trans s4;have vS:=bW p4 HK2;have UY:=p4.p.blk.lt;have qd:=A?<|nj p4 xT.p B! HK2;rw[HB.out]at qd vS;clear p4 s4 hl4 hs4 L5 HP1 HS1 HY1;unfold ptr at*
     cases ok with
     |true=>
      have pT:Hid<|rV z id=(bH P1 id L,z.2):=A? na9;go_wp2;go_end0;exact⟨rfl,G4,x,by rw[pT.out];exact HP4,ur,λ_ _=>rfl⟩
     |false=>
      have pT:Hid<|rV z id=fq (bH P1 id L,z.2) id:=A? (by rw[HD4.out,F! N!]);go_wp2_with fail;refine qd.mono ?_;rintro e w9 ⟨⟨rfl,G9,x9,hp9,hs9,hx9⟩,-⟩;have HP9:=A? hp9;have HS9:=A?<|ur.trans hs9;have HX9:=A? hx9;clear hp9 hs9 hx9;go_wp2;go_end0;exact⟨rfl,G9,x9,by rw[pT.out];exact HP9,HS9,λk hk=>HX9 k<|by show au (bH P1 id L).links k=true;rw[mP.out];exact hk⟩
    .subst hp;have HD4:=A?<|HD3.trans<|(F! I!).trans<|(F! I!).trans<|G? rfl;clear HD3 HST;have HPM:=A?<|qG HP1.p.blk;have xS:=A?<|ze (dZ P1) (HP1.p.mG HK1) N! ncI;rw[HB.out]at xS;unfold ud at xS;unfold ptr at xS HPM;obtain⟨RD,hRD⟩:∃RD,(lk z.1 id).ready=RD:=⟨_,rfl⟩;rw[hRD]at d18 HD4;clear hRD;cases RD with
     |true=>
      have HE0:=A?<|lU na9;clear HD4 lU;go_wp2;go_end0;exact HE0
     |false=>
      have pT:Hid<|rV z id=(aN P1 id (λl=>lC l<|dZ P1),z.2):=A? (by rw[HD4.out,F! N!]);clear HD4 lU;go_wp2_with(go_at_call 124;refine HPM.mono ?_;rintro e wm ⟨rfl,ew⟩;rw[ew];clear ew wm);refine xS.mono ?_;rintro e w4 ⟨rfl,G4,hl4,hs4⟩;obtain⟨p4,s4⟩:=HP1.gY HK1 hs4 (by rw[HB.out];exact hl4);have HP4:=A? p4;have ur:=A?<|HS1.trans s4;clear p4 s4 hl4 hs4 xS HP1 HS1 HY1;go_wp2;go_end0;exact⟨rfl,G4,x,by rw[pT.out];exact HP4,ur,λ_ _=>rfl⟩
    .obtain⟨h2,h5,h3,h4⟩:=hp;have HE0:=A?<|lU<|by rw[HD3.out,F! B!,F! h3,F! h4]
     have q2:=Q?.2 h2;have q5:=Q?.2 h5;have q3:=Q?.2 h3;have q4:=Q?.2 h4;clear HD3 lU;go_wp2;go_end0;exact HE0
theorem Qh(h:aS w G n b sb x z)(I:au z.1.links id=C?):(w.cell? (B? (x.f id) 17)=C! (.pointer L?)/\(lk z.1 id).term=L?)\/∃u v k,w.cell? (B? (x.f id) 17)=C! (ptr u)/\(lk z.1 id).term=C! k/\aO w u 220 (cm k v)/\G u=[n,9,id,5]/\pd dS G [n,9,id,5] w v k.opts:=by
 let⟨y,j⟩:=h.aR I;have g:=j.blk.k 17;have l:=j.tm;cases d:y.tm with
 |none=>
  cases f:(lk z.1 id).term with
  |none=>rw[d]at g;exact .inl ⟨g,rfl⟩
  |some k=>rw[d,f]at l;exact l.elim
 |some u=>
  cases f:(lk z.1 id).term with
  |none=>rw[d,f]at l;exact l.elim
  |some k=>
   rw[d]at g;rw[d,f]at l;obtain⟨v,E,A,O⟩:=l;exact .inr ⟨u,v,k,g,rfl,E,A,O⟩
theorem TU(h:aS w G n b sb x z)(bv:Env w G ml)(b1:Fit N r z)(dv:N+1<=40000000000)(dy:r+1<=10000000)(y:au z.1.links id=C?):
 G! E? 137 #[ptr b,ptr<|x.f id] w (fu n b sb G w x z (kK z id) (.tuple #[])):=by
 have b4:=(b1.p.link y).1;have d2:=h.p.blk.k 19;have d3:=h.p.blk.lt;have c3:=bW h y;have br:=b4.out;have HD:E!<|kK z id=if z.1.aX=C?/\(lk z.1 id).neg.state=9 then(aN z.1 id (λl=>{wk l 3 with at_:=z.1.now+z.1.c.restart}),z.2)else if z.1.aX=H! then(match(lk z.1 id).term with|some k=>endP (aN z.1 id (λl=>cq l k),z.2) id|none=>z)else z:=A? rfl
 have cz:=A? λk y=>b4.tm k y;have V:=A?<|Qh h y;have Y:=A?<|Qh h.drew y;have H:=A? h;have am:=A? bv;have L:=A? b1;have u:=A? y;let⟨dr,b6⟩:=h.aR y;have ad:=b6.blk.k 0;have a2:=A?<|zM _ _ _ _ w b6.side.blk;let⟨B,hB⟩:=F?<|x.f id;rw[hB]at ad V Y c3|-;have R:=A? hB;generalize (lk z.1 id).neg.state=cy at a2 HD;generalize z.1.aX=ci at d2 HD;have be:=A? br;clear h bv b1 y b4 b6 hB br;unfold ptr at*
 cases ci with
 |true=>
  by_cases ag:cy=9
  .subst ag;have A:E!<|kK z id=(aN z.1 id (λl=>{wk l 3 with at_:=z.1.now+z.1.c.restart}),z.2):=A? (by rw[HD.out,G? ⟨rfl,rfl⟩]);obtain⟨F,O,bk,-,bj⟩:=aex 3 H.out am.out u.out;rw[R.out]at O
   have d1:F=dr.n:=by
    have:=O.symm.trans ad;simpa[ptr]using this
   subst d1;have b9:=A? bj;clear O bj HD V Y;unfold ptr Aa at b9;go_in
   go_wp2_with(first
    |(go_at_call 119;refine M! a2.out λdp d4=>?_)
    |(go_at_call 120;apply b9.out.mono;rintro e bc ⟨v,b8,cj,rfl,a8,aa,a4,hX4,-⟩))
   have a6:=(aG (λl=>{l with neg:=(yo (lk z.1 id).neg 3).1}) u.out id).trans u.out
   have D:=TT a8 a6 a4 (by
    have e:(lk (aN z.1 id λl=>{l with neg:=(yo (lk z.1 id).neg 3).1}) id).out=(lk z.1 id).out:=mac;have d6:=Cy (lk z.1 id).neg 3;have d7:b8.length=(yo (lk z.1 id).neg 3).2.1.length:=mdT;have d5:=be.out;show(lk (aN z.1 id λl=>{l with neg:=(yo (lk z.1 id).neg 3).1}) id).out.length+_<=_;rw[e];omega)
   rw[hX4,show(aN ((aN z.1 id λl=>{l with neg:=(yo (lk z.1 id).neg 3).1},z.2):PS).1 id λl=>dn l (yo (lk z.1 id).neg 3).2.1)=aN z.1 id λl=>wk l 3 from U7 z.1 id 3,R.out]at D;have W:=A? D;have a0:=A? aa;clear a8 aa a4 hX4 D a6;unfold ptr at W;apply W.out.mono;rintro e E ⟨rfl,bd,I,a9,ab,ac⟩
   have a3:E! (∀k,au z.1.links k=C?->I.f k=x.f k):=A? λk y=>ac k (by
    show au (aN z.1 id λl=>{l with neg:=(yo (lk z.1 id).neg 3).1}).links k=C?;rw[aG (λl=>{l with neg:=(yo (lk z.1 id).neg 3).1}) u.out];exact y)
   have ba:=A?<|a0.out.trans ab;have M:=(aG (λl=>wk l 3) u.out id).trans u.out;have C:=a9.drew;let⟨e6,J⟩:=C.aR M;have c2:I.f id=B:=by rw[a3.out id u.out,R.out]
   let⟨b7,cd⟩:=C.oq (w1:=E.drew.setCell (B? (I.f id) 10)<|A!<|z.1.now+z.1.c.restart) (l':={lk (aN z.1 id λl=>wk l 3) id with at_:=z.1.now+z.1.c.restart}) M J (ay E.drew (I.f id) 10 _) ⟨rfl,rfl,rfl,rfl⟩<|J.blk.set 10 _ rfl;have bm:bH (aN z.1 id λl=>wk l 3) id {lk (aN z.1 id λl=>wk l 3) id with at_:=z.1.now+z.1.c.restart}=aN z.1 id (λl=>{wk l 3 with at_:=z.1.now+z.1.c.restart}):=zZ z.1 id (λl=>wk l 3) λl=>{l with at_:=z.1.now+z.1.c.restart};have ax:J? E.drew b 25 z.1.now:=C.p.blk.k 25;have av:J? E.drew b 10 z.1.c.restart:=C.p.blk.k 10;have c5:J? E.drew (I.f id) 10<|(lk (aN z.1 id λl=>wk l 3) id).at_:=J.blk.k 10;have dk:=J.blk.frozen 10;have e7:=C.p.blk.lt;have d0:=J.blk.lt;have bs:=ni C M;have db:=L.out.p.n0;have dd:=L.out.p.n1;have dh:=L.out.p.cfg.r2;have df:=L.out.p.cfg.r16;rw[show bH ((aN z.1 id λl=>wk l 3,z.2):PS).1 id {lk (aN z.1 id λl=>wk l 3) id with at_:=z.1.now+z.1.c.restart}=aN z.1 id (λl=>{wk l 3 with at_:=z.1.now+z.1.c.restart})from bm]at b7;have Z:=A? b7;have a1:=A?<|(ba.out.trans<|aB (bG n) bd E).trans cd;generalize (lk (aN z.1 id λl=>wk l 3) id).at_=ds at c5;let⟨ao,cb⟩:=F? z.1.now;let⟨ap,ce⟩:=F? z.1.c.restart;rw[cb]at ax db dd Z a1 A;rw[ce]at av dh df Z a1 A;rw[c2]at c5 dk d0 bs Z a1;have bf:E!<|∀v,(E.drew.setCell (B? B 10) v).cell? (B? b 25)=N? ao/\(E.drew.setCell (B? B 10) v).cell? (B? b 10)=N? ap:=A? λv=>⟨by rw[Ω _ _ _ _ N!];exact ax,by rw[Ω _ _ _ _<|by simp[bs]];exact av⟩;clear a9 ab ac W a0 C J M b7 cd bm c2 cb ce H am L a2 b9 ad bk;go_wp2;refine dW (λg=>J? g b 25 ao/\J? g b 10 ap) (zcb [13,1]) (⟨ax,av⟩) ?_;refine R? ?_;intro an a5;go_wp2_with fail;apply O! a5 (bf.out _);clear a5 an;apply aj;have dl:E!<|fu n b sb G w x z (kK z id) (.tuple #[]) (.returned (.tuple #[]))<|E.drew.setCell (B? B 10)<|A!<|ao+ap:=A? ⟨rfl,_,I,by rw[A.out];exact Z.out,a1.out,a3.out⟩;clear bf Z a1;go_wp2;go_end0;exact dl.out
  .have e0:=Q?.2 ag;have A:E!<|kK z id=z:=A? (by rw[HD.out,F! (λe=>ag e.2),F! I!]);clear HD ag V Y;go_in;go_wp2_with(go_at_call 119;refine M! a2.out λdp d4=>?_);go_end0;rw[A.out];exact⟨rfl,G,x,H.out,Step.refl _ _ _,λ_ _=>rfl⟩
 |false=>
  rcases V.out with⟨bl,hnt⟩|⟨e1,e2,c4,bl,hnt,-,-,-⟩
  .have A:E!<|kK z id=z:=A? nbV;clear HD V Y hnt;go_wp2;go_end0;rw[A.out];exact⟨rfl,G,x,H.out,Step.refl _ _ _,λ_ _=>rfl⟩
  .have A:E!<|kK z id=endP (aN z.1 id (λl=>cq l c4),z.2) id:=A? nbV;rcases Y.out with⟨-,de⟩|⟨j,v,k,ae,b3,K,b2,b5⟩
   .rw[de]at hnt;cases hnt
   obtain rfl:k=c4:=by rw[b3]at hnt;cases hnt;rfl
   have bl:L! w B 17<|P? j:=ae;let⟨F,O,bk,ar,bi⟩:=abM k v H.out.drew am.out.drew u.out b5<|cz.out k b3;rw[R.out]at O;have az:=A? bi;have c6:=K.k 0;have c7:=K.k 1;have c8:=K.k 2;have c9:=K.k 3;have dt:=K.lt;obtain⟨cf,ch,rfl,-⟩:=aD.form b5.at
   have al:B≠F:=λe=>by
    let⟨e5,dj⟩:=H.out.drew.aR u.out;have bo:=dj.tag;rw[R.out,e,ar]at bo;simp at bo
   have a7:j≠F:=λe=>by rw[e,ar]at b2;simp at b2
   have cc:E!<|∀g,Only (· =F) w.drew g->L! g B 0 (P? F)/\L! g B 17 (P? j)/\J? g j 0 k.code/\J? g j 1 k.id/\L! g j 2 (J! cf k.opts.length ch)/\L! g j 3 (D? k.data):=A? λg X=>⟨X.cell O al,X.cell ae al,X.cell c6 a7,X.cell c7 a7,X.cell c8 a7,X.cell c9 a7⟩;clear HD V Y hnt bi K b2 b5 b3 al a7 ar;unfold Aa cm at az;unfold ptr at*
   have d9:=O;have da:=ae;have e4:b<w.drew.heap.size:=d3;have du:B<w.drew.heap.size:=c3;clear O ae ad a2;go_wp2;refine dW (λg=>L! g B 0 (P? F)/\L! g B 17 (P? j)/\J? g j 0 k.code/\J? g j 1 k.id/\L! g j 2 (J! cf k.opts.length ch)/\L! g j 3 (D? k.data)) (zcb [10,1,5]) (⟨d9,da,c6,c7,c8,c9⟩) ?_;refine R? ?_;intro an a5;go_wp2_with(go_at_call 179;apply az.out.mono;rintro e bc ⟨v,b8,cj,rfl,a8,aa,a4,hX4,bx⟩);apply O! a5 (cc.out _ bx);clear a5 an;refine T? ?_;have a6:=(aG (λl=>{l with neg:=(dU (lk z.1 id).neg k).1}) u.out id).trans u.out
   have D:=TT a8 a6 a4 (by
    have e:(lk (aN z.1 id λl=>{l with neg:=(dU (lk z.1 id).neg k).1}) id).out=(lk z.1 id).out:=mac;have d6:=m7 (lk z.1 id).neg k;have d7:b8.length=(dU (lk z.1 id).neg k).2.1.length:=mdT;have d5:=be.out;show(lk (aN z.1 id λl=>{l with neg:=(dU (lk z.1 id).neg k).1}) id).out.length+_<=_;rw[e];omega)
   rw[hX4,show(aN ((aN z.1 id λl=>{l with neg:=(dU (lk z.1 id).neg k).1},z.2):PS).1 id λl=>dn l (dU (lk z.1 id).neg k).2.1)=aN z.1 id λl=>cq l k from X3 z.1 id k,R.out]at D;have W:=A? D;have a0:=A?<|(aB (bG n) G w).trans aa;have M:=(aG (λl=>cq l k) u.out id).trans u.out;have co:=A? M;have cn:=A? (dH (f:=λl=>cq l k) (s:=r+1) L.out u.out B!<|(L.out.p.link u.out).1.take k).fit;clear a8 aa a4 hX4 D a6 M bx cc az;unfold ptr at W;have d8:bc.heap.size=bc.heap.size:=rfl;clear d8;go_upto_region 7 with(go_at_call 121;apply W.out.mono;rintro e E ⟨rfl,bd,I,a9,ab,ac⟩)
   have a3:E! (∀i,au z.1.links i=C?->I.f i=x.f i):=A? λi y=>ac i (by
    show au (aN z.1 id λl=>{l with neg:=(dU (lk z.1 id).neg k).1}).links i=C?;rw[aG (λl=>{l with neg:=(dU (lk z.1 id).neg k).1}) u.out];exact y)
   have ba:=A?<|a0.out.trans ab;have b0:=PE a9 cn.out.p B! co.out;rw[a3.out id u.out,R.out]at b0;have ca:=A? b0;clear a9 ab ac W a0 b0;unfold ptr at ca;go_wp2_with fail;apply ca.out.mono;rintro e e3 ⟨⟨rfl,ck,dq,bz,c0,c1⟩,-⟩;have cp:=A? bz;have cr:=A?<|ba.out.trans c0;have cv:=A? c1;clear bz c0 c1;go_wp2;go_end0;exact⟨rfl,ck,dq,by rw[A.out];exact cp.out,cr.out,λi y=>(cv.out i<|by show au (aN z.1 id λl=>cq l k).links i=C?;rw[aG (λl=>cq l k) u.out];exact y).trans<|a3.out i y⟩
theorem cg.adE(h:cg w G n b x m)(R:n=0\/n=1){k:Int}{A:aM}(O:au m.links k=C?)(d:Step (λu=>aq [n,9,k] u\/aq [2] u) G w G1 w1)(S:cI w1 G1 [n,9,k] (x.f k) A):cg w1 G1 n b x<|bH m k A:=by
 have h2:∀s u,aq (n::s) u->¬aq [2] u:=λs u h1 h2=>by
  exact mdr
 have g:∀a s u,a≠9->aq (n::a::s) u->¬(aq [n,9,k] u\/aq [2] u):=λa s u j f e=>e.elim (λe=>gX j f e)<|h2 _ u f;have I:¬(aq [n,9,k] [n]\/aq [2] [n]):=λe=>e.elim mX<|h2 _ _<|aq.self _;have y:=λa j=>g a [] _ j<|aq.self _
 refine⟨h.blk.step d (by rw[h.tag];exact I),(d.old _ h.blk.lt).trans h.tag,h.q.step d λu f=>g 1 [] u I! f,h.j.step d λu f=>g 2 [] u I! f,h.k.step d λu f=>g 3 [] u I! f,(d.old _ h.lm.lt).trans h.tl,(d.old _ h.pm.lt).trans h.tp,(d.old _ h.vm.lt).trans h.tv,?_,
  h.pm.step d (by rw[h.tp];exact y 5 I!),h.vm.step d (by rw[h.tv];exact y 6 I!),h.xU.step d (y 7 I!),h.got.step d (y 8 I!),λi l E=>?_⟩
 .show bp w1 x.lm (dY _<|bI m.links k A);rw[Cw (λk=>ptr<|x.f k) O];exact h.lm.step d (by rw[h.tl];exact y 4 I!)
 .rcases Cx h.nodup O E with⟨rfl,rfl⟩|⟨e,E⟩
  .exact S
  .exact(h.link i l E).step d λu f g=>g.elim (λg=>Lv e f g)<|h2 _ u f
theorem Fm(o:n=0\/n=1)(s:Tag):¬aq [2] (n::s):=λe=>by
 have t:[2]<+:n::s:=e;simp at t;omega
section
variable(h:aS w G n b sb x z)(hk:au z.1.links id=C?)
include h hk
theorem afI:∃a c,w.cell? (B? (x.f id) 9)=C! (J! a (lk z.1 id).out.length c):=by
 let⟨y,d⟩:=h.aR hk;have l:=d.blk.k 9;rcases d.out.own.1.2 with⟨e,f⟩|⟨g,u,k,e,-⟩
 .exact⟨L?,0,by rw[l,e,f]⟩
 .exact⟨_,u,by rw[l,e]⟩
theorem adF(s:(lk z.1 id).out≠[]):
 G! E? 139 #[.pointer<|C!<|B? (x.f id) 8] w λe o=>e=.returned (D?<|bytesOf (lk z.1 id).out)/\∃G1,Step (λu=>u=[n,9,id,4]) G w G1 o:=by
 let⟨y,t⟩:=h.aR hk;refine M! (Oi t.blk rfl t.out.own.1 s) λo l=>?_;exact⟨rfl,_,Step.of l (λk _ e=>(t.out.own.2 k e).1) free⟩
theorem adG{s':aU}(H:Step (λu=>u=[n,9,id,4]) G w G1 w1)(L:Step (aq [2]) G1 w1 G2 w2)(R:aY w2 G2 [2] sb s'):
 ∃j,aS ((w2.setCell (B? (x.f id) 8) (.pointer L?)).setCell (B? (x.f id) 9) Q!) j n b sb x (aN z.1 id (λl=>{l with out:=[]}),s')/\Step (bG n) G w j ((w2.setCell (B? (x.f id) 8) (.pointer L?)).setCell (B? (x.f id) 9) Q!):=by
 let⟨y,d⟩:=h.aR hk
 have h2:∀s u,aq (n::s) u->¬aq [2] u:=λs u h1 h2=>by
  have:=h.n01;exact mdr
 have f:Step (λu=>u=[n,9,id,4]\/aq [2] u) G w G2 w2:=(H.mono λu o=>.inl o).trans<|L.mono λu o=>.inr o
 have I:¬((λu=>u=[n,9,id,4]\/aq [2] u) (G<|x.f id)):=by
  rw[d.tag];rintro(e|e)
  .simp at e
  .exact h2 _ _ (aq.self _) e
 have A:=d.blk.step f I;have S:Only (λk=>k=x.f id) w2<|(w2.setCell (B? (x.f id) 8) (.pointer L?)).setCell (B? (x.f id) 9) Q!:=(ay w2 (x.f id) 8 _).trans<|ay _ (x.f id) 9 _;have q:=Step.of (T:=λu=>u=[n,9,id]) (G:=G2) S (λk _ e=>by rw[e];exact(f.old _ d.blk.lt).trans d.tag) free;have g:Step (λu=>u=[n,9,id]\/u=[n,9,id,4]\/aq [2] u) G w _ _:=(f.mono λu o=>.inr o).trans<|q.mono λu o=>.inl o
 have O:cM ((w2.setCell (B? (x.f id) 8) (.pointer L?)).setCell (B? (x.f id) 9) Q!) _ [n,9,id] (x.f id) {y with oa:=.pointer L?,ob:=Q!} {lk z.1 id with out:=[]}:=
  d.E8 g (λa E u o e=>by
   rcases e with rfl|rfl|e
   .exact eB (t:=[n,9,id]) o
   .exact Fa (t:=[n,9,id]) E o<|aq.self _
   .exact h2 (9::id::[a]) u o e) ⟨rfl,rfl,rfl,rfl,rfl⟩ ⟨rfl,rfl,rfl⟩ ((A.set 8 _ rfl).set 9 _ rfl) (.inl ⟨rfl,rfl,rfl⟩)
 refine⟨_,⟨h.p.adE h.n01 hk (g.mono λu o=>?_) ⟨_,O⟩,R.step q (λu o e=>?_),h.xs,h.n01⟩,g.mono λu o=>?_⟩
 .rcases o with rfl|rfl|e
  .exact .inl<|aq.self _
  .exact .inl<|aq.app [n,9,id] [4]
  .exact .inr e
 .rw[show u=[n,9,id]from e]at o;exact h2 _ _ (aq.self _) o
 .rcases o with rfl|rfl|e
  .exact .inl<|aq.app [n] [9,id]
  .exact .inl<|aq.app [n] [9,id,4]
  .exact .inr e
end
def lH(z:PS)(id:Int):PS:=if(lk z.1 id).phase=5/\pH z.1.queue id=0 then kK z id else z
theorem adH(h:Fit N r z)(e:au z.1.links id=C?):Fit (N+1) (r+1) (lH z id)/\au (lH z id).1.links id=true:=by
 unfold lH;split
 .exact⟨(Pm h e).fit,Ew e⟩
 .exact⟨h.mono B! B!,e⟩
theorem abO(z:PS)(id:Int):iM z id=if(lk (lH z id).1 id).out≠[]then(aN (lH z id).1 id (λl=>{l with out:=[]}),(kB (lH z id).2 id (lH z id).1.side<|bytesOf (lk (lH z id).1 id).out).1)else lH z id:=rfl
theorem TV(h:aS w G n b sb x z)(bo:Env w G ml)(al:Fit N r z)(d3:N+2<=40000000000)(cr:r+1<=10000000)(V:au z.1.links id=C?):
 G! E? 100 #[ptr b,ptr<|x.f id] w (fu n b sb G w x z (iM z id) (.tuple #[])):=by
 have bs:=(al.p.link V).1;have R:=h.drew;let⟨d4,b7⟩:=R.aR V;have W:=b7.blk.k 3;have F:=b7.blk.k 2;rw[bs.id]at F;have a6:=R.p.blk.k 20;have ax:=A?<|GD id R.p.q;have J:=A?<|TU R bo.drew al B! cr V;have a5:=A?<|adH al V;have E:=A?<|abO z id;have I:E!<|lH z id=if(lk z.1 id).phase=5/\pH z.1.queue id=0 then kK z id else z:=A? rfl
 have a4:=A? R;have ag:=A? V;have d2:=R.p.blk.lt;have cv:=bW R V;let⟨B,hB⟩:=F?<|x.f id;rw[hB]at W F cv J|-;have ad:=A? hB;let⟨a0,c4⟩:=F?<|(lk z.1 id).phase;let⟨cf,bm⟩:=F?<|pH z.1.queue id;rw[c4]at W I;rw[bm]at ax I;let⟨b9,bl⟩:=F?<|K? (a0=5/\cf=0);have M:=A? bl;clear h bo al V R bs b7 hB c4 bm bl;unfold ptr at*
 go_in
 go_upto_region 0 with fail
 go_cut[21]from 4 to 20 (λv ar=>v=H? b9/\w.drew=ar)
 case first=>
  clear J a5 E I a4 ag ad;by_cases hA:a0=5
  .have cy:(a0==5)=true:=bal;refine dW (λf=>J? f B 3 a0/\J? f B 2 id/\L! f b 20 (P? x.q)) (zcb [15,1,2]) (⟨W,F,a6⟩) ?_;refine R? ?_;intro K j;go_wp2_with(go_at_call 136;refine M! ax λb8 b2=>?_);refine O! j ⟨W,F,a6⟩ ?_;clear j K;refine T? ?_;go_wp2;go_meet
   case rel=>exact⟨U! Value.bool<|by rw[<-M.out];exact bbr.2 bal,rfl⟩
  .have cy:(a0==5)=false:=bal;refine dW (λf=>J? f B 3 a0/\J? f B 2 id/\L! f b 20 (P? x.q)) (zcb [15,1,2]) (⟨W,F,a6⟩) ?_;refine R? ?_;intro K j;go_wp2_with fail;refine O! j ⟨W,F,a6⟩ ?_;clear j K;refine T? ?_;go_wp2;go_meet
   case rel=>exact⟨by rw[<-M.out];simp[hA],rfl⟩
 case rest=>
  obtain⟨rfl,rfl⟩:=hcut;clear ax W F a6;go_upto_if 21 with fail
  go_cut[]from 22 to 24 (λar=>E!<|∃G1 y,aS ar G1 n b sb y (lH z id)/\Step (bG n) G w G1 ar/\∀k,au z.1.links k=C?->y.f k=x.f k)
  case first=>
   cases b9 with
   |true=>
    have L:E!<|lH z id=kK z id:=A? (by rw[I.out,G?<|bbN M]);clear I M a5 E a4 ag ad;go_wp2_with fail;apply J.mono;rintro e c5 ⟨rfl,c9,cz,bx,c2,c3⟩;have az:E!<|∃G1 y,aS c5 G1 n b sb y (lH z id)/\Step (bG n) G w G1 c5/\∀k,au z.1.links k=C?->y.f k=x.f k:=A? ⟨c9,cz,by rw[L.out];exact bx,(aB (bG n) G w).trans c2,c3⟩;clear bx c2 c3 J L;go_wp2;go_meet
    case rel=>exact az
   |false=>
    have az:E!<|∃G1 y,aS w.drew G1 n b sb y (lH z id)/\Step (bG n) G w G1 w.drew/\∀k,au z.1.links k=C?->y.f k=x.f k:=A? ⟨G,x,by rw[I.out,F!<|bco M];exact a4,aB (bG n) G w,λ_ _=>rfl⟩;clear I M a5 E a4 ag ad J;go_wp2;go_meet
    case rel=>exact az
  case rest=>
   clear I M a4 J;let⟨G1,y,am,c0,b6⟩:=hcut.out;clear hcut;let⟨a2,A⟩:=a5.out;have br:=(b6 id ag).trans ad;let⟨a,c,Y⟩:=afI am A;have g:=am.drew;have co:=(a2.p.link A).1.out
   have a8:wc.drew.cell? (B? (y.f id) 2)=N? ((lk (lH z id).1 id).id):=by
    let⟨c6,a3⟩:=g.aR A;exact a3.blk.cell 2
   rw[(a2.p.link A).1.id]at a8;have a7:=g.p.blk.k 18
   have b3:wc.drew.cell? (B? b 27)=C! (ptr sb):=by
    have:L! wc.drew b 27<|vE y.s:=g.p.blk.cell 27;rw[g.xs]at this;exact this
   have d1:=g.p.blk.lt;have ch:=bW g A;have ao:=aA (lk (lH z id).1 id).out;have Z:=A?<|adF g A;have ab:=A? λw2 X G2 ac s'=>adG (w1:=w2) (w2:=X) (G1:=G2) (G2:=ac) (s':=s') g A;have D:=A? λw2 G2 (cp:aY w2 G2 [2] sb (lH z id).2)=>Kw id (lH z id).1.side (bytesOf (lk (lH z id).1 id).out) cp (jZ.good a2.s) (by have:=(a2.s.pipe id (lH z id).1.side).pc;omega) (by have:=(a2.s.pipe id (lH z id).1.side).ln;omega) B!;have cb:=A? g;have bc:=A? c0;have be:=A? b6
   have av:E!<|∀O f,Step (λu=>u=[n,9,id,4]) G1 wc.drew O f->aY f O [2] sb (lH z id).2:=A? λO f hs=>g.s.step hs λu H e=>by
    rw[show u=[n,9,id,4]from e]at H;exact Fm g.n01 _ H
   have C:E!<|∀O f,Step (λu=>u=[n,9,id,4]\/aq [2] u) G1 wc.drew O f->f.cell? (B? (y.f id) 2)=N? id/\f.cell? (B? b 18)=N? ((lH z id).1.side)/\f.cell? (B? b 27)=C! (ptr sb):=A? λO f hs=>by
    let⟨c6,a3⟩:=g.aR A
    have cj:¬(G1 (y.f id)=[n,9,id,4]\/aq [2] (G1<|y.f id)):=by
     rw[a3.tag];exact λe=>e.elim (λe=>ba7)<|Fm g.n01 _
    have bi:¬(G1 b=[n,9,id,4]\/aq [2] (G1 b)):=by
     rw[g.p.tag];exact λe=>e.elim (λe=>ba7)<|Fm g.n01 _
    exact⟨hs.cell a8 cj,hs.cell a7 bi,hs.cell b3 bi⟩
   have ba:=A? am
   have ae:E!<|∀O f,Step (λu=>u=[n,9,id,4]\/aq [2] u) G1 wc.drew O f->∃cs,aO f (y.f id) 107 cs/\10<=cs.size:=A? λO f hs=>by
    let⟨c6,a3⟩:=g.aR A;refine⟨_,a3.blk.step hs ?_,by simp[bS]⟩;rw[a3.tag];rintro(e|e)
    .simp at e
    .exact Fm g.n01 _ e
   generalize lH z id=a1 at Y ao a7 Z ab D cb ba av C E;generalize (lk a1.1 id).out=cc at Y ao Z D E;rw[br]at Y a8 Z ab C ae ch;generalize a1.1.side=b1 at a7 D C E;clear am c0 b6 g A br a2 co a5;cases cc with
   |nil=>
    have L:E!<|iM z id=a1:=A? (by rw[E.out,F! N!]);have ci:L! wc B (8+1)<|J! a 0 c:=Y;have ap:=A?<|Uy B 8 0 c a wc ci;clear E ab D Z av C ae a8 a7 b3 Y;unfold ptr at*
    go_wp2_with(go_at_call 138;refine M! ap λb8 b2=>?_);go_end0;exact⟨rfl,G1,y,by rw[L.out];exact ba,bc,be⟩
   |cons o aa=>
    have L:E!<|iM z id=(aN a1.1 id (λl=>{l with out:=[]}),(kB a1.2 id b1<|bytesOf (o::aa)).1):=A? (by rw[E.out,G? N!]);have ap:=A?<|Uy B 8 (o::aa).length c a wc Y;have cn:0<(((o::aa).length:Nat):Int):=N!;generalize (o::aa).length=d0 at ap cn ao;have bd:=A?<|Z N!;generalize bytesOf (o::aa)=c7 at D bd L ao;generalize kB a1.2 id b1 c7=ce at D L;clear E Z Y;unfold ptr at*
    go_wp2_with(go_at_call 138;refine M! ap λb8 b2=>?_);refine dW (λf=>J? f B 2 id/\J? f b 18 b1/\L! f b 27 (P? sb)) (zcb [15,2]) (⟨a8,a7,b3⟩) ?_;refine R? ?_;intro K j;go_wp2_with(go_at_call 139;apply bd.mono;rintro e w2 ⟨rfl,G2,an⟩);refine O! j (C _ _<|an.mono λu H=>.inl H) ?_;clear j K;refine R? ?_;intro K j;have bf:=A?<|D w2 G2<|av _ _ an;have b0:=A? an;clear an D av;go_wp2_with(go_at_call 60;apply bf.mono;rintro e X ⟨rfl,ac,bz,b5⟩);have b4:Step (λu=>u=[n,9,id,4]\/aq [2] u) G1 wc.drew ac X:=(b0.mono λu H=>.inl H).trans<|b5.mono λu H=>.inr H;apply O! j (C _ _ b4);clear j K C;apply aj;let⟨cs,a9,ck⟩:=ae _ _ b4;have bj:=(a9.cell 8).trans<|baD B!;have bk:X.cell? (B? B<|8+1)=C! cs[9]:=(a9.cell 9).trans<|baD B!;have cd:=A?<|V7 B 8 _ _ X bj bk (a9.frozen 8)<|a9.frozen 9;let⟨c8,bv,c1⟩:=ab w2 X G2 ac ce.1 b0 b5 bz;have ca:E!<|fu n b sb G w x z (iM z id) (.tuple #[]) (.returned (.tuple #[]))<|(X.setCell (B? B 8) (.pointer L?)).setCell (B? B 9) Q!:=A? ⟨rfl,c8,y,by rw[L.out];exact bv,(bc.trans<|aB (bG n) G1 wc).trans c1,be⟩;clear ab ae b0 b4 a9 ck bj bk bv c1 bz b5 bf;unfold ptr at*
    go_wp2_with(go_at_call 140;refine M! cd λb8 b2=>?_);go_end0;exact ca
