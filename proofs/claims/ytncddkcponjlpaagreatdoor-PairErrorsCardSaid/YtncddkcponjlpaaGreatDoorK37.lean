/- Walks and plain laws. -/
import Derived.Test.YtncddkcponjlpaaGreatDoorK35
import Derived.Test.YtncddkcponjlpaaGreatDoorK36
set_option linter.unusedVariables false
set_option linter.unusedSimpArgs false
set_option maxHeartbeats 0
set_option maxRecDepth 99999
namespace Go.Proofs.YtncddkcponjlpaaGreatDoor
open Go.RowKit Go.Proofs.Tryz
open Go renaming World→D!,Value→I?,Calls→G!,IntKind→ncy
open Go.RowKit renaming Hid→E!
open Decidable renaming decide→K?
open Option renaming some→C!,none→L?
open Bool renaming true→C?,false→H!
open Go.Proofs.Tryz renaming prog→E?
variable{P:Prop}
variable{w w1 w2:D!}{G G1 G2:Nat->Tag}{n ml id:Int}{b sb N r:Nat}{x:eY}{z z':PS}{m:aF}
theorem j9{p t:Nat}{o:I?}{s:cu}{X:cu×List bg×Int}{e:Ending}(h:mW p t o s X ml w e w1):Only (· =p) w w1:=by
 obtain⟨v,l,d,_,_,_,_,_,i,_⟩:=h;exact i
theorem adp{k:bg}{v:I?}{q:Nat}(h:aS w G n b sb x z)(l:au z.1.links id=C?)(E:aO w q 220<|cm k v)(f:G q=[n,9,id,5])(g:pd dS G [n,9,id,5] w v k.opts):
 aS (w.setCell (B? (x.f id) 17)<|ptr q) (grow G w.heap.size free) n b sb x (bH z.1 id {lk z.1 id with term:=C! k},z.2)/\Step (bG n) G w (grow G w.heap.size free) (w.setCell (B? (x.f id) 17)<|ptr q):=by
 let⟨y,t⟩:=h.aR l;have j:=ay w (x.f id) 17<|ptr q;have o:Step (λu=>u=[n,9,id]) G w (grow G w.heap.size free)<|w.setCell (B? (x.f id) 17)<|ptr q:=Step.of j (λk _ e=>by rw[e,t.tag]) free;have I:q≠x.f id:=λe=>by rw[e,t.tag]at f;simp at f
 have d:∀a:Int,¬(λu=>u=[n,9,id]) ([n,9,id]++[a]):=λa e=>ba7;refine h.gY l (o.mono λu hu=>baQ) ⟨{y with tm:=C! q},?_,(o.old _ t.blk.lt).trans t.tag,?_,(o.old _ t.side.blk.lt).trans t.gn,Z! t.lt o.size,(o.old _ t.lt).trans t.gt,(λk l=>(o.old _<|aD.lt t.side.os k l).trans<|t.go k l),t.pf.step o<|d 3,t.out.step o<|d 4,?_⟩
 .exact t.blk.set 17 _ rfl
 .have A:=o.keep _ t.side.blk.lt (by rw[t.gn];exact d 0);have O:=o.keep _ t.lt (by rw[t.gt];exact d 2);exact⟨A.trans t.side.blk,λv s g o=>(bbJ<|by exact O).trans<|t.side.tab v s g o,aD.only t.side.os o.only (λk l=>by rw[t.go k l];exact d 1),t.side.tp,t.side.op,t.side.good,t.side.mlp⟩
 .exact⟨v,E.only j I,(o.old _ E.lt).trans f,g.step o N!⟩
theorem abr(k:bg)(v:I?)(h:aS w G n b sb x z)(b9:Env w G ml)(al:Fit N r z)(hN:N<=40000000000)(c7:r+1<=10000000)(D:au z.1.links id=C?)(bc:pd dS G [n,9,id,5] w v k.opts)(hd:k.data.size<=4096):
 G! E? 158 #[ptr b,ptr<|x.f id,.agg<|cm k v] w (lp id n b sb G w x z (yD z id k) (.tuple #[])):=by
 have an:=(al.p.link D).1;obtain⟨W,hw1⟩:=F?<|w.alloc (.cells (cm k v) 220);have b5:K! w W:=bac;obtain⟨Q,hQ⟩:=F? w.heap.size;have M:aO W Q 220<|cm k v:=baY;have V:Step (λ_=>False) G w (λi=>if i<w.heap.size then G i else[n,9,id,5]) W:=Step.rule (S:=λ_=>False) (Only.aP b5) (λ_ _ h=>h.elim) λ_=>[n,9,id,5];have a7:(λi=>if i<w.heap.size then G i else[n,9,id,5]) Q=[n,9,id,5]:=by rw[<-hQ];exact F!<|mdw _
 obtain⟨GW,a3⟩:=F? λi=>if i<w.heap.size then G i else[n,9,id,5]
 rw[a3]at V a7;have H:=h.none V;have HP1:=A? H;have HS1:E!<|Step (bG n) G w GW W:=A?<|V.mono λ_ h=>h.elim;have HEX:=A?<|(b9.step V λh=>h).drew;have ar:=bc.step V λh=>h;have HVX:=A?<|ar.step (aB (λ_=>False) GW W) λh=>h;have E:=A?<|adp H D M a7 ar;have Kq:=A? a7;have OI:=A? hd;have HF:=A? al;have HK:=A? D;have av:=A? an.id;obtain⟨ce,hy⟩:=H.aR D;have Bv:=A?<|kW hy.blk;have b3:=hy.blk.k 3;have b2:=fJ H D an.id;have b1:=hy.blk.k 18;have bz:=hy.blk.frozen 18;have bx:=hy.blk.frozen 17;obtain⟨cd,bs⟩:∃v,L! W (x.f id) 17 v:=⟨_,hy.blk.cell 17⟩;have bv:=H.p.blk.k 19;have q0:=M.k 0;have q1:=M.k 1;have q2:=M.k 2;have q3:=M.k 3;have c1:=hy.blk.lt;have c5:=H.p.blk.lt;have lV:=M.lt
 have HL0:E! (yD z id k=if k.code=5/\(lk z.1 id).phase=5/\z.1.aX=H! then(aN z.1 id (λl=>{l with term:=C! k}),z.2)
  else if k.code=9/\(lk z.1 id).dF=H! then z
  else if k.code=10/\(lk z.1 id).phase=4/\(lk z.1 id).ready=H! then iL (aN {aN z.1 id (λl=>{l with ready:=C?})with queue:=(Bd z.1.queue id).1} id (λl=>cq l k),z.2) id
  else iL (aN z.1 id (λl=>cq l k),z.2) id):=A? (by
   unfold yD;dsimp only;split
   .rfl
   .split
    .rfl
    .split<;>rfl)
 rw[show(lk z.1 id).dF=(decide ((lk z.1 id).phase=4)||K? ((lk z.1 id).phase=5))from rfl]at HL0 Bv;have g:E! (∀aa:Bool,aS (W.setCell (B? (x.f id) 18)<|H? aa) (grow GW W.heap.size free) n b sb x (bH z.1 id {lk z.1 id with ready:=aa},z.2)/\Step (bG n) GW W (grow GW W.heap.size free) (W.setCell (B? (x.f id) 18)<|H? aa)):=A? λaa=>H.oq D hy (ay W (x.f id) 18 _) ⟨rfl,rfl,rfl,rfl⟩<|hy.blk.set 18 _ rfl;obtain⟨F,ab⟩:=F? k.code;obtain⟨a6,be⟩:=F?<|(lk z.1 id).phase;obtain⟨bf,b0⟩:=F? z.1.aX;obtain⟨bo,b7⟩:=F?<|(lk z.1 id).ready;obtain⟨B,hB⟩:=F?<|x.f id;have Sl:=A? ab;have c6:=h.n01;unfold cm at hw1|-;rw[ab]at q0 HL0 hw1|-;rw[be]at b3 HL0 Bv;rw[b0]at bv HL0;rw[b7]at b1 HL0;rw[hB]at b2 b3 b1 bz bs bx Bv E g c1|-;have HB:=A? hB;clear h b9 al D bc hd an b5 M V a7 a3 H ar hy ab be b0 b7 hB;rw[<-hQ]at lV;unfold ptr at*
 by_cases u:F=5
 .subst u;by_cases J:a6=5
  .subst J;cases bf with
   |false=>
    have tH:E!<|yD z id k=(aN z.1 id (λl=>{l with term:=C! k}),z.2):=A? (by rw[HL0.out,G? N!]);clear HL0 g;go_wp2;go_end0;obtain⟨Z,a0⟩:=E.out;have bk:=A?<|HS1.trans a0;refine⟨⟨rfl,_,x,?_,bk,λ_ _=>rfl⟩,?_⟩
    .rw[tH.out];exact Z
    .have b8:=fJ Z ((aG (λl=>{l with term:=C! k}) HK id).trans HK) (by
      refine(show(lk (bH z.1 id {lk z.1 id with term:=C! k}) id).id=(lk (aN z.1 id<|λl=>{l with term:=C! k}) id).id from rfl).trans ?_;rw[dV,G? rfl];exact av)
     rw[HB.out]at b8|-;exact b8
   |true=>
    have tH:E!<|yD z id k=iL (aN z.1 id (λl=>cq l k),z.2) id:=A? mdq;clear HL0 E g;exact nb6
  .have cc:=Q?.2 J;have tH:E!<|yD z id k=iL (aN z.1 id (λl=>cq l k),z.2) id:=A? (by rw[HL0.out,F!<|by simp[J],F!<|by simp[J],F!<|by simp[J]]);clear HL0 J E g;exact nb6
 .have c9:=Q?.2 u;by_cases I:F=9
  .subst I;cases a2:(decide (a6=4)||K? (a6=5))with
   |false=>
    have tH:E!<|yD z id k=z:=A? (by rw[HL0.out,F! N!,G? ⟨rfl,a2⟩]);rw[a2]at Bv;clear HL0 g E a2 u;go_in;go_wp2_with(go_at_call 48;refine M! Bv λwm ew=>?_);go_end0;refine⟨⟨rfl,GW,x,?_,HS1,λ_ _=>rfl⟩,by rw[HB.out];exact b2⟩;rw[tH.out];exact HP1
   |true=>
    rw[a2]at Bv HL0;have tH:E!<|yD z id k=iL (aN z.1 id (λl=>cq l k),z.2) id:=A? mdq;clear HL0 a2 u E g;go_in;go_wp2_with(go_at_call 48;refine M! Bv λwm ew=>?_);clear hw1;have Dg:=HP1;have ur:=HS1;obtain⟨PX,qJ⟩:=F? z.1;have DM:E!<|Fit N r (PX,z.2):=A? mcU;have mP:E!<|au PX.links id=true:=A? mbt;have DN:E!<|∀i,au z.1.links i=C?->au PX.links i=true:=A? mbs;have Dg:E!<|aS W GW n b sb x (PX,z.2):=A? mce;rw[qJ]at tH;clear qJ HP1 HS1;have hd:=Dg.drew;obtain⟨y,hy⟩:=hd.aR mP;have d0:=hy.blk.k 0;rw[HB.out]at d0;have XG:=A? hy;have XH:=hd.p.blk.lt;have DP:=hy.blk.lt;rw[HB.out]at DP;have ue:y.n≠Q:=λe=>ma5;have EP:B≠y.n:=λe=>bcg;have gI:=A?<|oU y.n y.tb y.o v (lk PX id).neg k ml W.drew hy.side HEX.m HVX.at bcs;have r0:J? W.drew Q 0 9:=q0;have r1:J? W.drew Q 1 k.id:=q1;have r2:L! W.drew Q 2 v:=q2;have r3:L! W.drew Q 3<|D? k.data:=q3;have rZ:E!<|∀w',Only (· =y.n) W.drew w'->L! w' B 0 (ptr y.n)/\J? w' Q 0 9/\J? w' Q 1 k.id/\L! w' Q 2 v/\L! w' Q 3 (D? k.data):=A? λw' ho=>⟨ho.cell d0 EP,ho.cell r0<|X? ue,ho.cell r1<|X? ue,ho.cell r2<|X? ue,ho.cell r3<|X? ue⟩;have lV:=h! r0;simp only at lV;unfold cm at gI;rw[Sl.out]at gI;have DQ:=A? hd;clear hd hy ue EP q0 q1 q2 q3;unfold ptr at d0 rZ;refine dW (λw'=>L! w' B 0 (P? y.n)/\J? w' Q 0 9/\J? w' Q 1 k.id/\L! w' Q 2 v/\L! w' Q 3 (D? k.data)) (zcb [5,1,5]) (⟨d0,r0,r1,r2,r3⟩) ?_;exact md8
  .have ca:=Q?.2 I;by_cases Y:F=10
   .subst Y;by_cases X:a6=4
    .subst X;cases bo with
     |true=>
      have tH:E!<|yD z id k=iL (aN z.1 id (λl=>cq l k),z.2) id:=A? mdq;clear HL0 u I E g;exact nbn
     |false=>
      obtain⟨PX,qJ⟩:∃PX:aF,{aN z.1 id (λl=>{l with ready:=C?})with queue:=(Bd z.1.queue id).1}=PX:=⟨_,rfl⟩;have tH:E!<|yD z id k=iL (aN PX id (λl=>cq l k),z.2) id:=A? (by rw[HL0.out,F! N!,F! N!,G? N!,qJ]);clear HL0 E u I;go_in;go_wp2_with(go_at_call 48;refine M! Bv λwm ew=>?_);clear hw1;obtain⟨Z,a0⟩:=g C?;obtain⟨O,ag⟩:=F?<|W.setCell (B? B 18)<|H? C?;have L:Only (λk=>k=B) W O:=by rw[<-ag];exact ay W B 18 _
      rw[ag]at Z a0|-;clear ag;have C:=Z.drew;have ac:=C.p.blk.k 20;have a8:au (bH z.1 id {lk z.1 id with ready:=C?}).links id=true:=(aG (λl=>{l with ready:=C?}) HK id).trans HK
      have am:(lk (bH z.1 id {lk z.1 id with ready:=C?}) id).id=id:=by
       refine(show(lk (bH z.1 id {lk z.1 id with ready:=C?}) id).id=(lk (aN z.1 id<|λl=>{l with ready:=C?}) id).id from rfl).trans ?_;rw[dV,G? rfl];exact av
      have b4:=fJ C a8 am;rw[HB.out]at b4;have a1:=A?<|ZK id C.p.q;have a5:E!<|∀w5 G5 bd,aS w5 G5 n b sb x ({bH z.1 id {lk z.1 id with ready:=C?}with queue:=bd},z.2)->w5.cell? (B? b 20)=C! (ptr x.q)/\w5.cell? (B? B 2)=N? id:=A? λw5 G5 bd b6=>⟨b6.p.blk.cell 20,by rw[<-HB.out];exact fJ b6 (id:=id) a8 am⟩;have az:=A? C;obtain⟨bm,ae⟩:=F? x.q;simp only at a1;rw[ae]at ac a1 a5;have HQB:=A? ae;have cf:=C.p.blk.lt;have br:=bW C a8;rw[HB.out]at br;have ax:=A?<|(HS1.trans a0).trans<|aB (bG n) (grow GW W.heap.size free) O;have XJ:grow GW W.heap.size free Q=[n,9,id,5]:=(a0.old _<|h! q0).trans Kq
      have a9:Q≠B:=λe=>by
       obtain⟨c4,ad⟩:=HP1.aR HK;have h1:=Kq.out;rw[e,<-HB.out,ad.tag]at h1;simp at h1
      have bj:E!<|Q<O.drew.heap.size:=A?<|Z! (h! q0) L.size;have q0:J? O.drew Q 0 10:=L.cell q0 a9;have q1:J? O.drew Q 1 k.id:=L.cell q1 a9;have q2:L! O.drew Q 2 v:=L.cell q2 a9;have q3:L! O.drew Q 3<|D? k.data:=L.cell q3 a9
      have ap:Step (λc3=>c3=[n,9,id]) GW W (grow GW W.heap.size free) O:=Step.of L (λk _ e=>by
       obtain⟨c4,ad⟩:=HP1.aR HK;rw[e,<-HB.out,ad.tag]) free
      have bl:=A?<|((show pd dS GW [n,9,id,5] W v k.opts from HVX).step ap N!).step (aB (λ_=>False) (grow GW W.heap.size free) O) λh=>h;have bi:=A?<|((show Env W GW ml from⟨HEX.m,HEX.g⟩).step ap<|by unfold free;simp).drew;clear C Z a0 a8 am ae L HVX HEX HP1 HS1 ap;unfold ptr at ac a1 a5;refine dW (λw'=>L! w' b 20 (P? bm)/\J? w' B 2 id) (zcb [9,1]) (⟨ac,b4⟩) ?_;refine R? ?_;intro K hK;go_wp2_with(go_at_call 192;apply a1.mono;rintro e A ⟨rfl,a4,hq3,R⟩);obtain⟨ao,ba⟩:=vQ az R mbT;apply O! hK (a5 _ _ _ ao);clear hK K;apply aj;have hnt:¬aq [n,1] [n,9,id,5]:=λe=>by simp[aq]at e
      have q0:=R.cell q0 mbZ;have q1:=R.cell q1 mbZ;have q2:=R.cell q2 mbZ;have q3:=R.cell q3 mbZ;have HVX:=A?<|(bl.step R hnt).step (aB (λ_=>False) a4 A) λh=>h;have HEX:=A?<|(bi.step R<|λe=>by simp[aq,free]at e).drew;have Kq:=A?<|(R.old _ bj).trans XJ;have ur:=A?<|ax.trans ba;have Dg:E!<|aS A a4 n b sb x (PX,z.2):=A? (by rw[<-qJ];exact ao);have mP:E!<|au PX.links id=true:=A? (by rw[<-qJ];exact(aG (λl=>{l with ready:=C?}) HK id).trans HK);have DN:E!<|∀i,au z.1.links i=C?->au PX.links i=true:=A? λi hi=>by rw[<-qJ];exact(aG (λl=>{l with ready:=C?}) HK i).trans hi
      have DM:E! (Fit N r (PX,z.2)):=A? (by
       have c2:=dH HF HK (f:=λl=>{l with ready:=C?}) O?<|(HF.p.link HK).1.ready C?;have s2:=UI c2.fit id;rw[<-qJ];exact s2.fit)
      obtain⟨W,c0⟩:=F? A;subst c0;obtain⟨GW,a3⟩:=F? a4;subst a3;clear ao R ba hq3 a1 a5 az ax qJ XJ;have hd:=Dg.drew;obtain⟨y,hy⟩:=hd.aR mP;have d0:=hy.blk.k 0;rw[HB.out]at d0;have XG:=A? hy;have XH:=hd.p.blk.lt;have DP:=hy.blk.lt;rw[HB.out]at DP;have ue:y.n≠Q:=λe=>ma5;have EP:B≠y.n:=λe=>bcg;have gI:=A?<|oU y.n y.tb y.o v (lk PX id).neg k ml A.drew hy.side HEX.m HVX.at bcs;have r0:J? A.drew Q 0 10:=q0;have r1:J? A.drew Q 1 k.id:=q1;have r2:L! A.drew Q 2 v:=q2;have r3:L! A.drew Q 3<|D? k.data:=q3;have rZ:E!<|∀w',Only (· =y.n) A.drew w'->L! w' B 0 (ptr y.n)/\J? w' Q 0 10/\J? w' Q 1 k.id/\L! w' Q 2 v/\L! w' Q 3 (D? k.data):=A? λw' ho=>⟨ho.cell d0 EP,ho.cell r0<|X? ue,ho.cell r1<|X? ue,ho.cell r2<|X? ue,ho.cell r3<|X? ue⟩;have lV:=h! r0;simp only at lV;unfold cm at gI;rw[Sl.out]at gI;have DQ:=A? hd;clear hd hy ue EP q0 q1 q2 q3;unfold ptr at d0 rZ;go_wp2;refine dW (λw'=>L! w' B 0 (P? y.n)/\J? w' Q 0 10/\J? w' Q 1 k.id/\L! w' Q 2 v/\L! w' Q 3 (D? k.data)) (zcb [5,1,5]) (⟨d0,r0,r1,r2,r3⟩) ?_;refine R? ?_;intro K hK;go_wp2_with(go_at_call 179;apply gI.mono;intro e w5 hpost;have ho5:=A?<|j9 hpost;obtain⟨v5,ps5,G5,o5,rfl,vU,hs5,tP,hm5⟩:=XG.CP N! hpost<|λq hq=>mJ _ _ OI q hq);apply O! hK (rZ _ ho5);clear hK K;refine T? ?_
      have XI:ps5.length<=8:=by
       have:=m7 (lk PX id).neg k;rw[<-hm5,g!]at this;exact this
      have qz:=A?<|iw (⟨_,vU⟩:cI w5 G5 [n,9,id] (x.f id) {lk PX id with neg:=(dU (lk PX id).neg k).1}) tP N! nb8;rw[hm5,HB.out]at qz;have HS5:=A? hs5;clear vU hs5 tP hm5 rZ ho5 gI;unfold ptr at qz;go_wp2_with(go_at_call 121;apply qz.mono;rintro e w6 ⟨rfl,G6,hl6,hs6⟩);rw[<-HB.out]at hl6;obtain⟨p6,s6⟩:=DQ.gY mP (HS5.trans hs6) hl6;have e6:bH PX id (dn {lk PX id with neg:=(dU (lk PX id).neg k).1} (dU (lk PX id).neg k).2.1)=aN PX id (λl=>cq l k):=rfl;rw[show((PX,z.2):PS).1=PX from rfl,e6]at p6;have HF6:E!<|Fit N (r+1) (aN PX id (λl=>cq l k),z.2):=A? (dH (f:=λl=>cq l k) (s:=r+1) DM mP B!<|(DM.p.link mP).1.take k).fit;have HK6:=A?<|(aG (λl=>cq l k) mP id).trans mP;have Ai:=A? λi hi=>(aG (λl=>cq l k) mP i).trans<|DN i hi;have vV:=oH p6 HF6 hN B! HK6;rw[HB.out]at vV;have vV:=A? vV;have HS6:=A?<|(ur.trans<|aB (bG n) a4 A).trans s6;exact nbP
    .have cb:=Q?.2 X;have tH:E!<|yD z id k=iL (aN z.1 id (λl=>cq l k),z.2) id:=A? (by rw[HL0.out,F!<|by simp[X],F!<|by simp[X],F!<|by simp[X]]);clear HL0 X u I E g;exact nbn
   .have c8:=Q?.2 Y;have tH:E!<|yD z id k=iL (aN z.1 id (λl=>cq l k),z.2) id:=A? (by rw[HL0.out,F!<|by simp[u,I,Y],F!<|by simp[u,I,Y],F!<|by simp[u,I,Y]]);clear HL0 u I Y E g;go_in;go_wp2_with(go_at_call 48;refine M! Bv λwm ew=>?_);clear hw1;have Dg:=HP1;have ur:=HS1;obtain⟨PX,qJ⟩:=F? z.1;have DM:E!<|Fit N r (PX,z.2):=A? mcU;have mP:E!<|au PX.links id=true:=A? mbt;have DN:E!<|∀i,au z.1.links i=C?->au PX.links i=true:=A? mbs;have Dg:E!<|aS W GW n b sb x (PX,z.2):=A? mce;rw[qJ]at tH;clear qJ HP1 HS1;have hd:=Dg.drew;obtain⟨y,hy⟩:=hd.aR mP;have d0:=hy.blk.k 0;rw[HB.out]at d0;have XG:=A? hy;have XH:=hd.p.blk.lt;have DP:=hy.blk.lt;rw[HB.out]at DP;have ue:y.n≠Q:=λe=>ma5;have EP:B≠y.n:=λe=>bcg;have gI:=A?<|oU y.n y.tb y.o v (lk PX id).neg k ml W.drew hy.side HEX.m HVX.at bcs;have r0:J? W.drew Q 0 F:=q0;have r1:J? W.drew Q 1 k.id:=q1;have r2:L! W.drew Q 2 v:=q2;have r3:L! W.drew Q 3<|D? k.data:=q3;have rZ:E!<|∀w',Only (· =y.n) W.drew w'->L! w' B 0 (ptr y.n)/\J? w' Q 0 F/\J? w' Q 1 k.id/\L! w' Q 2 v/\L! w' Q 3 (D? k.data):=A? λw' ho=>⟨ho.cell d0 EP,ho.cell r0<|X? ue,ho.cell r1<|X? ue,ho.cell r2<|X? ue,ho.cell r3<|X? ue⟩;have lV:=h! r0;simp only at lV;unfold cm at gI;rw[Sl.out]at gI;have DQ:=A? hd;clear hd hy ue EP q0 q1 q2 q3;unfold ptr at d0 rZ;refine dW (λw'=>L! w' B 0 (P? y.n)/\J? w' Q 0 F/\J? w' Q 1 k.id/\L! w' Q 2 v/\L! w' Q 3 (D? k.data)) (zcb [5,1,5]) (⟨d0,r0,r1,r2,r3⟩) ?_;exact md8
theorem Kv(t:Tag)(e:K! w w1):Step (λ_=>False) G w (λk=>if k<w.heap.size then G k else t) w1:=Step.rule (S:=λ_=>False) (Only.aP e) (λ_ _ h=>h.elim) λ_=>t
theorem TI(d:List UInt8)(h:aS w G n b sb x z)(H:Env w G ml)(J:Fit N r z)(a9:N<=40000000000)(al:r+1<=10000000)(E:au z.1.links id=C?)(ac:d.length<=4611686018427387904):
 G! E? 118 #[ptr b,ptr<|x.f id,.agg #[A! 49185,D?<|bytesOf d]] w (lp id n b sb G w x z (dL z id (49185,d)) (.tuple #[])):=by
 have ae:=(J.p.link E).1;let⟨W,hw1⟩:=F?<|w.alloc (.cells #[A! 49185,D?<|bytesOf d] 190);have S:K! w W:=bac;let⟨a5,hQ⟩:=F? w.heap.size;have D:aO W a5 190 #[A! 49185,D?<|bytesOf d]:=baY;have az:=D.k 0;have b0:=D.k 1;have ap:=D.lt;have g:=A?<|aaP d W ac
 have I:E!<|∀u f v,K! W u->bq dS u W.heap.size v (dx d).1.opts->K! u f->∃l,aS f l n b sb x z/\Step (bG n) G w l f/\Env f l ml/\pd dS l [n,9,id,5] f v (dx d).1.opts:=A? λu f v a8 V K=>by
  have X:=S.trans<|a8.mono S.size;have ab:=X.trans<|K.mono X.size;have hs:=Kv (G:=G) [n,9,id,5] ab;refine⟨_,h.none hs,hs.mono λ_ h=>h.elim,H.step hs (λh=>h),?_,λk E=>?_⟩
  .exact(bq.below V K).base<|S! _
  .have:=V.block k E;have:=S.size;show(if k<w.heap.size then _ else _)=_;rw[F! B!]
 have y:=A? λf l v (L:aS f l n b sb x z) (H:Env f l ml) (an:pd dS l [n,9,id,5] f v (dx d).1.opts)=>abr (dx d).1 v L H J a9 al E an<|xA d;have Z:=A? λf l (L:aS f l n b sb x z)=>fJ L E ae.id;have xT:E!<|dL z id (49185,d)=if(dx d).2=0 then yD z id (dx d).1 else z:=A? rfl
 let⟨a6,aa⟩:=F?<|dx d;unfold pP at g;rw[aa]at g I y xT;obtain⟨k,a7⟩:=a6;simp only at g I y xT;unfold cm at g y;generalize x.f id=av at y|-;rw[<-hQ]at ap;unfold ptr at*
 by_cases e0:a7=0
 .subst e0;go_in;have M:E!<|dL z id (49185,d)=yD z id k:=A? naB;go_wp2_with(go_at_call 157;apply g.mono;rintro e u ⟨v,rfl,A,R⟩;obtain⟨F,Y,rfl,-⟩:=aD.form A.at);let⟨l,O,C,B,Q⟩:=I u _ _ R A<|ak (P! u.heap.size u) (.cells #[A! k.code,A! k.id,J! F k.opts.length Y,D? k.data] 220);have a2:=A?<|y _ _ _ O B Q;apply a2.mono;rintro e b1 ⟨⟨rfl,a0,ar,ag,am,ao⟩,ad⟩;have a3:=A?<|C.trans am;have a4:=A? ao;have a1:=A? ad;go_wp2;go_end0;refine⟨⟨rfl,a0,ar,?_,a3,a4⟩,a1⟩;rw[M.out];exact ag
 .have ax:=Q?.2 e0;have M:E!<|dL z id (49185,d)=z:=A? mdg;go_in;go_wp2_with(go_at_call 157;apply g.mono;rintro e u ⟨v,rfl,A,R⟩;obtain⟨F,Y,rfl,-⟩:=aD.form A.at);let⟨l,O,C,B,Q⟩:=I u _ _ R A<|ak (P! u.heap.size u) (.cells #[A! k.code,A! k.id,J! F k.opts.length Y,D? k.data] 220);go_end0;refine⟨⟨rfl,l,x,?_,C,λ_ _=>rfl⟩,Z _ _ O⟩;rw[M.out];exact O
theorem TN{P:Program}{k:Type}(E:Elem P k){w:D!}{v:I?}{l:List k}(h:jd E w v l):Src P E.size E.tS v l.length (l.flatMap E.enc) w:=by
 by_cases i:l=[]
 .subst i;rcases h with⟨_,a,rfl⟩|⟨b,H,q,O,rfl,_⟩
  .cases a with
   |none=>exact Src.ofNil _ E.und 0
   |some a=>exact bb0 _ E.und a 0 0 _ N! (λj u t=>by simp at t) (λu t=>by simp at t)
  .exact bb0 _ E.und _ 0 q _ N! (λj u t=>by simp at t) λu t=>by simp at t
 .rcases h.seq i with⟨rfl,_⟩|⟨g,y,c,rfl,I,S,R,A⟩
  .exact absurd rfl i
  .refine bb0 _ E.und _ _ c _ (E.length l) (λj u t=>?_) (E.ach l)
   have o:j<l.length*E.size:=by
    have:=(List.getElem?_eq_some_iff.1 t).1;rwa[E.length l]at this
   have f:0<E.size:=by
    rcases Nat.eq_zero_or_pos E.size with e|e
    .rw[e,Nat.mul_zero]at o;exact absurd o<|bb9 _
    .exact e
   have s:=(Nat.div_lt_iff_lt_mul f).2 o;have d:j%E.size<E.size:=x? _ f;have e:j/E.size*E.size+j%E.size=j:=by rw[Nat.mul_comm];exact bcr j E.size
   rw[maH,show y+j=y+j/E.size*E.size+j%E.size from B!,A _ s _ d,<-E.at l _ s _ d,e];exact t
theorem aiV{N:Nat}{j:aT}(h:xK N j)(e:N<=40000000000):abe j:=⟨h.g,h.d,h.l0,by have:=h.bud;omega,by have:=h.h;omega⟩
theorem XS(d:List UInt8)(h:aS w G n b sb x z)(a9:Fit N r z)(cj:N<=40000000000)(y:au z.1.links id=C?)(cp:d.length<=4611686018427387904)(bi:(lk z.1 id).dF=C?):
 G! E? 118 #[ptr b,ptr<|x.f id,.agg #[A! 61,D?<|bytesOf d]] w (fu n b sb G w x z (dL z id (61,d)) (.tuple #[])):=by
 have cr:=(a9.p.link y).1.id;let⟨W,hw1⟩:=F?<|w.alloc (.cells #[A! 61,D?<|bytesOf d] 190);have ao:K! w W:=bac;let⟨Q,hQ⟩:=F? w.heap.size;have b1:aO W Q 190 #[A! 61,D?<|bytesOf d]:=baY;have e4:=b1.k 0;have ab:=b1.k 1;have d4:=b1.lt;let⟨br,e5⟩:=h.below ao;have an:=br.p.blk.k 12;let⟨dk,b0⟩:=br.aR y;have be:=kW b0.blk;rw[bi]at be;have b2:=A? be;have M:=A? λw2=>ZS d z.1.c.short w2 cp
 have xT:E! (dL z id (61,d)=if(oM d z.1.c.short).2=0 then({z.1 with join:=(rT z.1.join id (oM d z.1.c.short).1).1,got:=z.1.got++(rT z.1.join id (oM d z.1.c.short).1).2.1},z.2)else z):=A? (by
  unfold dL;dsimp only;rw[F! I!,F! I!,G? ⟨rfl,bi⟩])
 let⟨Y,X,j⟩:=h.p.j
 have bv:E!<|∀R,K! w R->∃I,aS R I n b sb x z/\Step (bG n) G w I R/\uE R I [n,2] x.j Y X z.1.join/\∀i,xM x.j Y X i->i<w.heap.size/\i≠b/\i≠x.f id:=A? λR Z=>by
  let⟨p,s⟩:=h.below Z;refine⟨_,p,s,j.step (Step.below (T:=λ_=>False) Z) λ_ _ h=>h,λi hi=>?_⟩;let⟨dk,b0⟩:=h.aR y;have da:=h.p.tag;have db:=b0.tag
  have a2:G i=[n,2]++(if i=x.j then[]else if i=Y then[0]else[1])/\i<w.heap.size:=by
   rcases hi with rfl|rfl|rfl
   .exact⟨by rw[G? rfl];exact j.tag,j.blk.lt⟩
   .rw[F! (λe=>by have:=j.tl;rw[e,j.tag]at this;simp at this),G? rfl];exact⟨j.tl,j.ml.lt⟩
   .rw[F! (λe=>by have:=j.th;rw[e,j.tag]at this;simp at this),F! (λe=>by have:=j.th;rw[e,j.tl]at this;simp at this)];exact⟨j.th,j.mh.lt⟩
  refine⟨a2.2,λe=>?_,λe=>?_⟩
  .rw[e,da]at a2;simp at a2
  .rw[e,db]at a2;simp at a2
 have c5:=aiV a9.p.j cj
 have c4:E! (∀o:List ByteArray,o.length<=z.1.join.held.length+1->(z.1.got.length+o.length)*fB.bytes<=140737488355328):=A? λo O=>by
  have:=a9.p.gt;show(z.1.got.length+o.length)*16<=_;omega
 have ca:=A? λf=>(a9.p.j.put id f).2;let⟨cd,cn⟩:=F?<|oM d z.1.c.short;unfold nS dc at M;rw[cn]at M xT;obtain⟨f,cf⟩:=cd;simp only[List.toArray]at M xT;let⟨a5,hB⟩:=F?<|x.f id;rw[hB]at b2 bv|-
 have c6:E!<|∀R I,aS R I n b sb x z->R.cell? (B? a5 2)=N? id/\a5<R.heap.size:=A? λR I bl=>by
  have:=fJ bl y cr;have V:=bW bl y;rw[hB]at this V;exact⟨this,V⟩
 generalize z.1.c.short=am at an M;rw[<-hQ]at d4;unfold ptr at*
 go_in
 go_wp2_with(go_at_call 48;refine M! b2 λea ch=>?_;rw[ch]);have bs:L! W.drew Q 1<|D?<|bytesOf d:=ab;have b7:L! W.drew b 12<|H? am:=an;refine wO (λu=>L! u Q 1 (D?<|bytesOf d)/\L! u b 12 (H? am)) (.two [(0,C?),(1,C?),(2,C?),(3,C?),(4,C?),(5,C?),(6,C?)] 7 11 (.fin [(8,C?),(9,C?),(10,C?),(11,H!),(12,H!),(13,C?)]) (.fin [(7,H!),(8,C?),(9,C?),(10,C?),(12,H!),(13,C?)])) M? M? rfl M? M? M? ⟨bs,b7⟩ (λ_ d _ _ _ h=>bav) ?_;let⟨B,hwd⟩:=F? W.drew;rw[hwd]at bs b7|-;have a0:K! W B:=bbw;have hS:E!<|∀u,K! W u->L! u Q 1 (D?<|bytesOf d)/\L! u b 12 (H? am):=A? λu bf=>⟨aw bf ab,aw bf an⟩;simp only[tB,fQ,ύ,ϟ,baM,baO,baA,p?];refine T? ?_;refine jf ?_ ?_
 focus
  refine dg λcc K A=>?_;go_wp2_with(go_at_call 161;refine M! (M B) λw2 ar=>?_);have D:=a0.trans<|ar.mono a0.size;apply O! A (hS _ D);show bO _ _ _ _ _ _ _;refine R? ?_;intro K A;go_wp2_with fail;let⟨a3,hw3⟩:=F?<|w2.alloc (.cells xaa 228);have E:aO a3 w2.heap.size 228 xaa:=bcl;have a8:K! w2 a3:=mb2;rw[hw3];have J:=D.trans<|a8.mono D.size;have av:=D.size;apply O! A (hS _ J);generalize w2.heap.size=g at E av|-
 rotate_left
 focus
  refine dg λcc K A=>?_;go_wp2_with fail;let⟨w2,hw2⟩:=F?<|B.alloc (.cells xaa 228);have ci:aO w2 B.heap.size 228 xaa:=mbc;have ar:K! B w2:=mb8;rw[hw2];have D:=a0.trans<|ar.mono a0.size;apply O! A (hS _ D);show bO _ _ _ _ _ _ _;refine ai λK A=>?_;go_wp2_with(go_at_call 161;refine M! (M w2) λa3 a8=>?_);have E:=ci.below a8;have J:=D.trans<|a8.mono D.size;have av:=a0.size;apply O! A (hS _ J);refine tK ?_;generalize B.heap.size=g at E av|-
 all_goals
  have dp:=E.cell 0;have dq:=E.cell 1;have dr:=E.cell 2;have ds:=E.cell 3;have eb:=E.frozen 0;have ec:=E.frozen 1;have ee:=E.frozen 2;have ef:=E.frozen 3;refine ai λK A=>?_;go_wp2_with fail;have F:=((((E.set 0 (H? f.b) rfl).set 1 (H? f.e) rfl).set 2 (A! f.seq) rfl).set 3 (D? f.d) rfl);have b3:=mM a3 g (H? f.b) (H? f.e) (A! f.seq)<|D? f.d;generalize (((a3.setCell (B? g 0)<|H? f.b).setCell (B? g 1)<|H? f.e).setCell (B? g 2)<|A! f.seq).setCell (B? g 3) (D? f.d)=C at F b3|-;have Z:=J.trans (b3.below J.size λk y=>by rw[y];omega);apply O! A (hS _ Z);refine T? ?_;have de:=F.k 0;have df:=F.k 1;have dh:=F.k 2;have dj:=F.k 3;have dt:=F.lt;have co:=ao.trans<|Z.mono ao.size;let⟨I,a1,bx,j4,dd⟩:=bv _ co;have ag:=A? dd;by_cases e0:cf=0
  .subst e0;have ad:E!<|dL z id (61,d)=({z.1 with join:=(rT z.1.join id f).1,got:=z.1.got++(rT z.1.join id f).2.1},z.2):=A? naB;have b4:=A?<|j4.step (aB (λ_=>False) I C) λ_ _ h=>h;have c7:=A?<|abf id f b4.Ww c5;have b9:=a1.drew.p.blk.k 21;let⟨ba,du⟩:=c6 _ _ a1.drew;have c0:L! C.drew g 0<|H? f.b:=de;have w1:L! C.drew g 1<|H? f.e:=df;have w2:J? C.drew g 2 f.seq:=dh;have c1:L! C.drew g 3<|D? f.d:=dj;unfold ptr uo C2 at*
   go_wp2
   refine dW (λu=>L! u b 21 (P? x.j)/\J? u a5 2 id/\L! u g 0 (H? f.b)/\L! u g 1 (H? f.e)/\J? u g 2 f.seq/\L! u g 3 (D? f.d)) (zcb [10,1,5]) (⟨b9,ba,c0,w1,w2,c1⟩) ?_;refine R? ?_;intro K A;go_wp2_with(go_at_call 162;apply c7.mono;rintro e a4 ⟨v,rfl,az,cv,bj⟩;obtain⟨e8,e9,rfl,-,-⟩:=az.1.form)
   have c2:=(show E! (∀u,Only (xM x.j Y X) C.drew u->u.cell? (B? b 21)=C! (P? x.j)/\u.cell? (B? a5 2)=N? id/\u.cell? (B? g 0)=C! (H? f.b)/\u.cell? (B? g 1)=C! (H? f.e)/\u.cell? (B? g 2)=N? f.seq/\u.cell? (B? g 3)=C! (D? f.d))from A? λu O=>by
    have aa:∀i,xM x.j Y X i->i≠g:=λi hi e=>by have:=(ag i hi).1;omega
    exact⟨O.cell b9 λe=>(ag _ e).2.1 rfl,O.cell ba λe=>(ag _ e).2.2 rfl,O.cell c0 λe=>aa _ e rfl,O.cell w1 λe=>aa _ e rfl,O.cell w2 λe=>aa _ e rfl,O.cell c1 λe=>aa _ e rfl⟩)
   apply O! A (c2.out _ bj);refine T? ?_;have b5:=A?<|c4 _ (by have:=ca f;omega:(rT z.1.join id f).2.1.length<=_);let⟨d2,bz⟩:=b4.E8 cv bj;have d6:=a1.drew.p.join bz ⟨Y,X,d2⟩;let⟨L,d5⟩:=a1.drew.peer d6 rfl<|bz.mono λe6 d0=>(aq.app [n] [2]).trans d0;have c8:=A?<|(bx.trans<|aB (bG n) I C).trans d5;generalize rT z.1.join id f=al at L b5 ad az|-;have ce:=L.p.blk.k 33;have dl:=L.p.blk.lt;have ae:=A? L.p.got;have c9:=A?<|TN fB az.1;obtain⟨a6,a7,b6,-,-⟩:=ae.1.form;have HX:=A? b6;rw[b6]at ce;have cb:E!<|jd fB a4 (J! a6 z.1.got.length a7) z.1.got:=A? (by have:=ae.1;rw[HX.out]at this;exact this)
   have ac:E!<|∀k,(Value.slice a6 z.1.got.length a7).ownBlock=C! k->k<a4.heap.size/\k≠b:=A? λk cy=>by
    have V:=ae.2 k (by rw[HX.out];exact cy);refine⟨V.1,λe=>?_⟩;have bd:=V.2;rw[e,L.p.tag]at bd;simp at bd
   have d3:E! (∀(v:I?) (H:D!),jd fB H v (z.1.got++al.2.1)->Only (λk=>(Value.slice a6 z.1.got.length a7).ownBlock=C! k) a4 H->(∀k,v.ownBlock=C! k->(Value.slice a6 z.1.got.length a7).ownBlock=C! k\/(a4.heap.size<=k/\k<H.heap.size))->
    fu n b sb G w x z (dL z id (61,d)) (.tuple #[]) (.returned (.tuple #[])) (H.setCell (B? b 33) v)):=A? λv H bm O ax=>by
    have hB:=L.p.blk.only O λe=>(ac _ e).2 rfl;have ck:Only (λk=>k=b\/x.got.ownBlock=C! k) a4<|H.setCell (B? b 33) v:=(O.mono λk _ y=>.inr<|by rw[HX.out];exact y).trans<|(ay H b 33 v).mono λk _ y=>.inl y
    have cz:∀k,v.ownBlock=C! k->k≠b:=λk y e=>by
     rcases ax k y with bc|bc
     .exact(ac k bc).2 e
     .omega
    let⟨c3,ab,d7⟩:=L.p.aio (v:=v) (cs:=z.1.got++al.2.1) ck (hB.set 33 v rfl)
     (bm.heap λk y=>(ay H b 33 _).block k (by rcases ax k y with e|e;(have:=ac k e;have:=O.size;omega);exact e.2)<|cz k y)
     (λk y=>by
       rcases ax k y with e|e
       .exact .inl maD
       .exact .inr ⟨e.1,bbQ⟩)
    let⟨d8,d9⟩:=L.peer ab rfl d7;refine⟨rfl,c3,{x with got:=v},?_,c8.trans d9,λ_ _=>rfl⟩;rw[ad.out];exact d8
   go_wp2_with(at_builtin;refine oI fB rfl _ _ rfl _ _ z.1.got al.2.1 cb rfl rfl c9 b5 I! λe7 H bo bk d1=>?_;have b8:=A?<|d3 _ _ bo bk d1;obtain⟨e1,e2,rfl,-,-⟩:=bo.form;have ap:=L.p.blk.only bk<|λe=>(ac _ e).2 rfl;have dv:=ap.cell 33;have dy:=ap.frozen 33;have e3:b<H.heap.size:=ap.lt);rw[X!]at b8;go_end0;exact b8
  .have bm:=Q?.2 e0;have ad:E!<|dL z id (61,d)=z:=A? mdg;go_wp2;go_end0;exact⟨rfl,I,x,by rw[ad.out];exact a1,bx,λ_ _=>rfl⟩
theorem PU(t:Fit N r z)(i:Sub z)(e:au z.1.links id=C?)(f:Int×List UInt8)(s:f.1≠49185)(l:f.1≠49699):au (dL z id f).1.links id=C?/\(lk (dL z id f).1 id).id=id:=by
 have h:=GX t i e f
 have o:au (dL z id f).1.links id=true:=by
  unfold dL;dsimp only;rw[F! s,F! l];split
  .split
   .exact e
   .exact e
  .split
   .split
    .rename_i d;exact(aaI t i (dK f.2).1<|zo f.2).keep id N! e
    .exact e
   .exact e
 exact⟨o,(h.fit.p.link o).1.id⟩
theorem TP(f:Int×List UInt8)(h:aS w G n b sb x z)(g:Env w G ml)(o:Fit N r z)(q:Sub z)(s:N<=40000000000)(O:r+5<=10000000)(t:au z.1.links id=C?)(l:f.2.length<=4611686018427387904):
 G! E? 118 #[ptr b,ptr<|x.f id,.agg #[A! f.1,D?<|bytesOf f.2]] w (lp id n b sb G w x z (dL z id f) (.tuple #[])):=by
 obtain⟨i,d⟩:=f;by_cases c:i=49185
 .subst c;exact TI d h g o s B! t l
 .by_cases u:i=49699
  .subst u;exact PQ d h g o s B! t l<|Jm d
  .let⟨E,A⟩:=PU o q t (i,d) c u;by_cases k:i=61/\(lk z.1 id).dF=C?
   .obtain⟨rfl,v⟩:=k;exact(XS d h o s t l v).mono λe I y=>Ip y t E A
   .by_cases j:i=49197/\(lk z.1 id).dF=C?
    .obtain⟨rfl,v⟩:=j;exact(TJ d h g o q s O t l (λ_=>XR d) (PR d) v).mono λe I y=>Ip y t E A
    .exact TL i d h t (o.p.link t).1.id c u k j
theorem TQ(u:List UInt8):(yw u).2.1.length<=2048:=by
 unfold yw;split
 .exact S! _
 .split
  .exact S! _
  .split
   .exact S! _
   .rename_i h;show(u.drop 4).length<=_;rw[Φ];omega
theorem P8(l:List UInt8):(cK l).2.1.length<=2048:=by
 unfold cK;split
 .exact S! _
 .split
  .exact S! _
  .exact TQ _
theorem Jo(l:List UInt8):∀f∈sP l,f.2.length<=2048:=by
 intro f t;unfold sP at t;let⟨x,_,e⟩:=List.mem_filterMap.1 t;split at e
 .cases e;exact P8 x
 .cases e
theorem C8(e:List<|Int×List UInt8)(j:Nat)(t:j<e.length)(z:PS)(id:Int):qO z id (e.drop j)=if au z.1.links id then qO (dL z id e[j]) id (e.drop<|j+1)else z:=by
 rw[bbT t];rfl
structure uQ(id n:Int)(b sb:Nat)(G:Nat->Tag)(w:D!)(x:eY)(z zf:PS)(fs:List (Int×List UInt8))(v:I?)(ml:Int)(N r j:Nat)(wr:D!)(Gr:Nat->Tag)(xr:eY)(zr:PS):Prop where
 p:aS wr Gr n b sb xr zr
 s:Step (bG n) G w Gr wr
 e:Env wr Gr ml
 f:Fit (N+j) (r+3*j) zr
 sb:Sub zr
 v:oy sQ Gr free wr v fs
 xf:∀k,au z.1.links k=C?->xr.f k=x.f k
 ke:∀k,k≠id->au z.1.links k=C?->au zr.1.links k=C?
 z:qO zr id (fs.drop j)=zf
 c:wr.cell? (B? (x.f id) 2)=N? id
 l:x.f id<wr.heap.size
section
variable{zf zr:PS}{fs:List (Int×List UInt8)}{v:I?}{j:Nat}
theorem uQ.next{wr y w2:D!}{c d:Nat->Tag}{E:eY}(h:uQ id n b sb G w x z zf fs v ml N r j wr c E zr)(I:Step (λ_=>False) c wr d y)(f:au z.1.links id=C?)(s:au zr.1.links id=C?)(A:j<fs.length)
 (O:lp id n b sb d y E zr (dL zr id fs[j]) (.tuple #[]) (.returned (.tuple #[])) w2):∃G2 l,uQ id n b sb G w x z zf fs v ml N r (j+1) w2 G2 l<|dL zr id fs[j]:=by
 obtain⟨⟨_,G2,l,S,s2,q⟩,u⟩:=O;have i:=GX h.f h.sb s fs[j];have o:=(I.mono λ_ h=>h.elim).trans s2;refine⟨G2,l,S,h.s.trans o,h.e.uM h.p.n01 o,i.fit.mono B! B!,i.sub h.sb,h.v.step o<|kQ h.p.n01,λk t=>?_,λk g t=>i.keep k (by simp[g])<|h.ke k g t,?_,?_,Z! h.l o.size⟩
 .by_cases e:k=id
  .subst e;rw[q k s];exact h.xf k f
  .rw[q k<|h.ke k e t];exact h.xf k t
 .rw[<-h.z,C8 fs j A,G? s]
 .rw[h.xf id f]at u;exact u
theorem uQ.none{wr w0:D!}{Gr G0:Nat->Tag}{xr:eY}(h:uQ id n b sb G w x z zf fs v ml N r j wr Gr xr zr)(hs:Step (λ_=>False) Gr wr G0 w0)(hx:w0.cell? ⟨x.f id,2,Option.none⟩=wr.cell? ⟨x.f id,2,Option.none⟩:=by rfl):uQ id n b sb G w x z zf fs v ml N r j w0 G0 xr zr:=
 ⟨h.p.none hs,h.s.trans (hs.mono λ_ h=>h.elim),h.e.step hs (λh=>h),h.f,h.sb,h.v.step hs (λh=>h),h.xf,h.ke,h.z,hx.trans h.c,Z! h.l hs.size⟩
theorem uQ.done{wr:D!}{t:Nat->Tag}{o:eY}(h:uQ id n b sb G w x z zf fs v ml N r j wr t o zr)(i:fs.length<=j\/au zr.1.links id=H!):fu n b sb G w x z zf (.tuple #[]) (.returned (.tuple #[])) wr:=by
 have e:zf=zr:=by
  rw[<-h.z];by_cases s:j<fs.length
  .rw[C8 fs j s,F!<|by rw[i.resolve_left B!];decide]
  .rw[mb3 B!];rfl
 rw[e];exact⟨rfl,t,o,h.p,h.s,h.xf⟩
end
theorem XY:(prog.info? 107).isSome=true:=M?
theorem adw(w:D!)(B:Nat):(binOp BinOp.neq 97 (P? B)<|P? B).run E? w=.ok (H? H!) w:=by
 let⟨j,e⟩:=Option.isSome_iff_exists.1 XY;exact Lib.run_neq_ptr_same w (B? B 0) underlying97 e
def Ky(b B t:Nat)(id:Int)(v:I?)(e:D!):Prop:=L! e b 29 (.map<|C! t)/\J? e B 2 id/\(Instr.lookup 90 (.map<|C! t) (A! id) H!).run E? e=.ok v e
theorem adx(h:aS w G n b sb x z)(k:Int):(Instr.lookup 90 (.map<|C! x.lm) (A! k) H!).run E? w=.ok (if au z.1.links k then ptr (x.f k)else .pointer L?) w:=
 nQ h.p.lm underlying90 underlying3 π k
theorem XZ(h:aS w G n b sb x z)(c5:Env w G ml)(A:Fit N r z)(hs:Sub z)(dp:N+71680<=40000000000)(dt:r+215045<=10000000)(L:au z.1.links id=C?):
 G! E? 96 #[ptr b,ptr<|x.f id] w (fu n b sb G w x z (rN z id) (.tuple #[])):=by
 have ac:=(A.p.link L).1;have D:=h.drew;have H:=fJ D L ac.id
 have b2:w.drew.cell? (B? b 27)=C! (ptr sb):=by
  have:w.drew.cell? (B? b 27)=C! (vE x.s):=D.p.blk.cell 27;rw[this,h.xs];rfl
 have aa:=D.p.blk.k 18;have d1:=D.p.blk.lt;have ca:=bW D L;have Z:=A?<|XU id z.1.side D.s (jZ.good A.s) A.p.sd;have a0:=A?<|J8 A.s id z.1.side;have Y:=A? λk=>O7 (s:=z.2) id z.1.side k;have ax:=A?<|A.s.read id z.1.side;have F:E!<|rN z id=qO (bH z.1 id (gL (lk z.1 id) (nr z.2 id z.1.side).2.1).1,(nr z.2 id z.1.side).1) id (gL (lk z.1 id) (nr z.2 id z.1.side).2.1).2:=A? rfl;have a5:=A? h;have bl:=A? c5;have M:=A? A;have bs:=A? hs;have E:=A? L;have bi:=A? ac.id;have am:=A? ac.bf
 have a3:E!<|∀a4 I,Step (aq [2]) G w.drew a4 I->I.cell? (B? b 27)=C! (ptr sb)/\I.cell? (B? b 18)=N? z.1.side/\I.cell? (B? (x.f id) 2)=N? id:=A? λa4 I O=>by
  have cb:¬aq [2] (G b):=by rw[h.p.tag];intro e;simp[aq]at e;rcases h.n01 with h|h<;>omega
  refine⟨O.cell b2 cb,O.cell aa cb,O.cell H ?_⟩;obtain⟨dy,d8⟩:=h.aR L;rw[d8.tag];intro e;simp[aq]at e;rcases h.n01 with h|h<;>omega
 obtain⟨R,c3⟩:=F?<|nr z.2 id z.1.side;unfold Left PW at Z;rw[c3]at Z a0 Y ax F;obtain⟨cz,c4⟩:=F? z.1.side;rw[c4]at aa Z a3;obtain⟨B,hB⟩:=F?<|x.f id;rw[hB]at H ca a3|-;have y:=A? hB;clear h c5 A hs L ac D c3 hB c4;unfold ptr at*
 go_wp2
 refine dW (λI=>I.cell? (B? b 27)=C! (P? sb)/\I.cell? (B? b 18)=N? cz/\I.cell? (B? B 2)=N? id) (zcb [12,1,5]) (⟨b2,aa,H⟩) ?_;refine R? ?_;intro cy c2;go_wp2_with(go_at_call 116;apply Z.mono;rintro e w2 ⟨rfl,G2,c8,b5⟩);apply O! c2 (a3 _ _ b5);clear c2 cy;refine T? ?_;obtain⟨ce,cc⟩:=a5.drew.switch b5 c8;have a6:=A? ce;have av:=A?<|(aB (bG n) G w).trans cc;have ao:=A?<|bl.uM a5.n01 av;clear ce cc c8 b5 a3 Z;have ap:=a6.p.mG E;rw[y.out]at ap;have a8:=A?<|Pf R.2.1 ap ao N! am a0;unfold ptr aaJ at a8;clear ap;obtain⟨g,ci⟩:=F? R.2.1;rw[ci]at a8 F a0|-;clear ci;go_wp2_with(go_at_call 117;apply a8.mono;rintro e cn ⟨v,cr,rfl,b7,c7,b6⟩;obtain⟨cj,ck,rfl,-,-⟩:=b7.1.form);obtain⟨ae,b9⟩:=a6.gY E b6 (by rw[y.out];exact c7)
 have V:E! (Fit N r (bH z.1 id (gL (lk z.1 id) g).1,R.1)/\Sub (bH z.1 id (gL (lk z.1 id) g).1,R.1)/\∀k,au (bH z.1 id (gL (lk z.1 id) g).1).links k=au z.1.links k):=A? (by
  have bd:bA L? N r z (z.1,R.1):=⟨⟨M.p,ax,by rw[(Y 0).2.2];exact M.la,by rw[(Y 0).2.1];exact M.po,M.l8⟩,eQ.refl _,λ_ _ h=>h,(λhs k L=>by show au R.1.up k=C?;rw[(Y k).1];exact hs k L),by show z.2.last<=R.1.last;rw[(Y 0).2.2];exact Y! _⟩;have s2:=dH bd.fit E (f:=λl=>(gL l g).1) O?<|(M.p.link E).1.frames g;exact⟨(bd.trans s2).fit,(bd.trans s2).sub bs,aG (λl=>(gL l g).1) E⟩)
 have bf:E! ((gL (lk z.1 id) g).2.length<=71680/\∀f∈(gL (lk z.1 id) g).2,f.2.length<=2048):=A? (by
  have d3:=CW<|(lk z.1 id).buffer++g;have dk:=a0.out;have dl:=am.out;rw[X!]at d3;exact⟨by show(sP _).length<=_;omega,Jo _⟩)
 have da:=ae.p.blk.lt;have bz:=Z! (by have:=bW a6 E;rw[y.out]at this;exact this) b6.size
 have bk:E! (cn.cell? (B? B 2)=N? id):=A? (by
  have:=fJ ae (by rw[V.2.2];exact E) (by
   show(lk (aN z.1 id λl=>(gL l g).1) id).id=id;rw[dV,G? rfl];exact bi)
  rw[y.out]at this;exact this)
 have ar:=A? ae;have bv:=A?<|av.trans b9;have bm:=A?<|ao.uM a5.n01 b9;have b0:=A? b7;clear ae b9 c7 b6 b7 a6 av ao a8 a0 Y ax b2 aa H d1 ca;obtain⟨co,b8⟩:=F? (bH z.1 id (gL (lk z.1 id) g).1,R.1);obtain⟨fs,c6⟩:=F?<|(gL (lk z.1 id) g).2;have ch:E!<|∀k,au co.1.links k=au z.1.links k:=A? (by rw[<-b8];exact V.2.2);rw[b8]at F ar V;rw[c6]at F bf b0|-;clear b8 c6;have O:uQ id n b sb G w x z (rN z id) fs (J! cj fs.length ck) ml N r 0 cn cr x co:=⟨ar,bv,bm,V.1,V.2.1,b0,λ_ _=>rfl,λk _ h=>by rw[ch.out];exact h,F.symm,by rw[y.out];exact bk,by rw[y.out];exact bz⟩;have az:=A? O;obtain⟨zf,c9⟩:=F?<|rN z id;rw[c9]at az|-;obtain⟨J,be⟩:=F? fs.length;have bo:=A? be;rw[be]at az|-;clear O be c9 ar bv bm V b0 bk ch F da bz a5 bl M bs bi am;go_wp2;go_loopw[28] (λi wr=>∃j:Nat,j<=J/\i=A! j/\E! (∃Gr xr zr,uQ id n b sb G w x z zf fs (J! cj J ck) ml N r j wr Gr xr zr)) (λi _=>J-(intOf i).toNat)
 case atStart=>exact⟨0,S! _,rfl,A? ⟨_,_,_,az⟩⟩
 case round=>
  obtain⟨j,dr,rfl,a7⟩:=hrel;by_cases d6:j<J
  .obtain⟨Gr,xr,zr,u⟩:=a7.out;have K:j<fs.length:=by rw[bo.out];exact d6
   obtain⟨c1,cd,dh,cp,-,-,dq,b4⟩:=u.v.1.cell λe=>by rw[e]at K;simp at K
   cases cp;have ba:=b4 j K 0 I!;have bc:=b4 j K 1 I!;have d7:=bf.2 _<|l! K;have ds:=bf.1;obtain⟨f,A⟩:=F?<|fs[j];rw[A]at ba bc d7;have ba:wr.cell? (B? c1<|cd+j*2)=N? f.1:=ba;have bc:wr.cell? (B? c1<|cd+j*2+1)=C! (D?<|bytesOf f.2):=bc;have cv:=A? A;have df:=u.p.p.blk.lt;have bx:=u.l;have d0:=u.p.p.blk.k 29;have H:=u.c;rw[y.out]at bx H;obtain⟨W,hW⟩:=F?<|wr.alloc (.cells #[A! f.1,D?<|bytesOf f.2] 190);have a1:K! wr W:=by rw[<-hW];exact R!
   have ab:aO W wr.heap.size 190 #[A! f.1,D?<|bytesOf f.2]:=mee;have O:=Kv (G:=Gr) free a1;have a9:=O.trans<|aB (λ_=>False) _ W;have ag:=u.p.none a9
   have bj:E! ((Instr.lookup 90 (.map (C! xr.lm)) (A! id) H!).run E? W.drew=.ok (if au zr.1.links id then P? B else .pointer L?) W.drew):=A? (by
    have:=adx ag id;rw[u.xf id E.out,y.out]at this;exact this)
   have ad:=bj.out;have c0:W.drew.cell? (B? b 29)=C! (.map<|C! xr.lm):=aw a1 d0;have b3:W.drew.cell? (B? B 2)=N? id:=aw a1 H;have dd:W.drew.cell? (B? wr.heap.size 0)=N? f.1:=ab.k 0;have de:W.drew.cell? (B? wr.heap.size 1)=C! (D?<|bytesOf f.2):=ab.k 1;have d4:wr.heap.size<W.drew.heap.size:=ab.lt;have dv:=ag.p.blk.lt;have dj:B<W.drew.heap.size:=Z! bx a1.size
   have b1:E!<|au zr.1.links id=C?->G! E? 118 #[P? b,P? B,.agg #[A! f.1,D?<|bytesOf f.2]] W.drew (lp id n b sb _ W.drew xr zr (dL zr id f) (.tuple #[])):=A? λC=>by
    have:=TP f ag (u.e.step a9<|λh=>h) u.f u.sb B! B! C B!;rw[u.xf id E.out,y.out]at this;exact this
   have X:=A? u;have al:=A? a9;clear b4 u O a9 ag a1 ab A a7 bj;obtain⟨Q,hQ⟩:=F? wr.heap.size;rw[hQ]at dd de d4;cases C:au zr.1.links id with
   |true=>
    have br:=A?<|b1 C;rw[C,G? rfl]at ad;go_wp2;refine dW (Ky b B xr.lm id<|P? B) (zcb [11]) (⟨c0,b3,ad⟩) ?_;refine tK ?_;refine rW (H? H!) ba0 (λwS hS=>?_) ?_
    focus
     go_simp
     rw[adw];rfl
    simp only[Act.put,υ,ϑ,ϊ];apply aj;go_wp2_with fail;apply br.mono;rintro e du a2;have d5:=a2;obtain⟨⟨rfl,-⟩,-⟩:=d5;have cf:=X.next al E C K (by rw[cv.out];unfold lp at a2|-;rw[X.xf id E.out,y.out]at a2|-;exact a2);have d9:=A? cf;clear cf a2 br b1 X al;go_wp2;go_roundw
    case rel=>exact⟨j+1,B!,W!,A? (by obtain⟨a4,db,d2⟩:=d9.out;exact⟨a4,db,_,d2⟩)⟩
    case measure=>simp[intOf];omega
   |false=>
    rw[C,F! I!]at ad;have an:=A?<|(X.none al<|by rw[y.out,b3,H]).done (.inr C);clear X al b1;go_wp2;refine dW (Ky b B xr.lm id (.pointer L?)) (zcb [11]) (⟨c0,b3,ad⟩) ?_;refine T? ?_;go_wp2;go_end0;exact an
  .obtain rfl:j=J:=B!;obtain⟨Gr,xr,zr,u⟩:=a7.out;have an:=A?<|u.done (.inl<|by rw[bo.out];exact Y? _);clear u a7;go_wp2;go_end0;exact an
