/- Walks and plain laws. -/
import Derived.Test.YtncddkcponjlpaaGreatDoorK25
import Derived.Test.YtncddkcponjlpaaGreatDoorK28
set_option linter.unusedVariables false
set_option linter.unusedSectionVars false
set_option linter.unusedSimpArgs false
set_option maxHeartbeats 0
set_option maxRecDepth 99999
namespace Go.Proofs.YtncddkcponjlpaaGreatDoor
open Go.RowKit Go.Proofs.Tryz
open Go renaming World→D!,Value→I?,Calls→G!,IntKind→ncy
open Go.RowKit renaming Hid→E!
open Decidable renaming decide→K?
open Option renaming some→C!,none→L?
open Bool renaming true→C?,false→H!
open Go.Proofs.Tryz renaming prog→E?
variable{P:Prop}
variable{w w1 w2:D!}{G G1 G2:Nat->Tag}{b sb:Nat}{x:eY}{ml n id:Int}{z z':PS}{m:aF}
section
variable{W W1:D!}{t:Tag}{x x':pV}{l l' L:aM}
theorem cM.aaS{o:Nat->Tag}{m:bM}(h:cM W o t b x L)(r:K! W W1)(g:jx W1 W.heap.size m):
 ∃G2,cM (W1.setCell (B? b 1)<|P? W.heap.size) G2 t b {x with pf:=C! W.heap.size} {L with proof:=C! m}/\Step (aq t) o W G2 (W1.setCell (B? b 1)<|P? W.heap.size):=by
 have y:=h.blk.lt;have f:Only (λk=>k=b) W<|W1.setCell (B? b 1)<|P? W.heap.size:=(Only.aP r).trans<|ay _ _ _ _;have hs:Step (λu=>u=t) o W (λk=>if k<W.heap.size then o k else if k=W.heap.size then t++[3]else free)<|W1.setCell (B? b 1)<|P? W.heap.size:=Step.rule f (λk _ e=>Ψ) _;have c:=hs.keep _ h.side.blk.lt (by rw[h.gn];exact zT 0 I! _<|aq.self _);have e2:=hs.keep _ h.lt (by rw[h.gt];exact zT 2 I! _<|aq.self _)
 refine⟨_,⟨(h.blk.below r).set 1 _ rfl,(hs.old _ h.blk.lt).trans h.tag,?_,(hs.old _ h.side.blk.lt).trans h.gn,Z! h.lt hs.size,(hs.old _ h.lt).trans h.gt,
  λk i=>(hs.old _ (aD.lt h.side.os k i)).trans (h.go k i),⟨?_,?_⟩,h.out.step hs (λe=>?_),h.tm.step hs (zT 5 I! _ (aq.self _))⟩,hs.mono λu hu=>baQ⟩
 .exact⟨c.trans h.side.blk,λv s hv hs=>(World.cell?_of_block (by exact e2)).trans<|h.side.tab v s hv hs,aD.only h.side.os hs.only (λk i=>by rw[h.go k i];exact zT 1 I! _<|aq.self _),h.side.tp,h.side.op,h.side.good,h.side.mlp⟩
 .exact aO.only g (ay W1 b 1 _) B!
 .show(if W.heap.size<W.heap.size then _ else if W.heap.size=W.heap.size then _ else _)=_;exact bbB
 .have d:=e;have:=U! List.length d;simp at this
def dX(w:D!)(G:Nat->Tag)(t:Tag)(b:Nat)(x:pV)(L:aM)(W:D!):Prop:=∃e,cM W e t b x L/\Step (aq t) G w e W
def jy(w:D!)(G:Nat->Tag)(t:Tag)(b:Nat)(x:pV)(L:aM)(R:Nat)(c:cT)(W:D!):Prop:=∃e,cM W e t b x L/\Step (aq t) G w e W/\aO W R 104 (aK c).toArray/\e R=free/\w.heap.size<=R
theorem dX.below(h:dX w G t b x L W)(i:K! W W1):dX w G t b x L W1:=by
 obtain⟨d,e,o⟩:=h;let⟨s,r⟩:=e.below i;exact⟨_,s,o.trans r⟩
theorem dX.alloc(h:dX w G t b x L W):jy w G t b x L W.heap.size gM<|W.alloc (.cells xad 104):=by
 obtain⟨r,o,e⟩:=h;let⟨i,s⟩:=o.below<|ak (P! W.heap.size W) (.cells xad 104);exact⟨_,i,e.trans s,aO.new _ _ _,fE _ free O?,e.size⟩
theorem jy.at{R:Nat}{c:cT}(h:jy w G t b x L R c W):dX w G t b x L W:=by
 obtain⟨e,o,i,_⟩:=h;exact⟨e,o,i⟩
theorem jy.below{R:Nat}{c:cT}(h:jy w G t b x L R c W)(o:K! W W1):jy w G t b x L R c W1:=by
 obtain⟨g,s,r,e,d,u⟩:=h;let⟨f,i⟩:=s.below o;exact⟨_,f,r.trans i,e.below o,(i.old _ e.lt).trans d,u⟩
theorem dX.start{o:Nat}{m r:bM}(h:dX w G t b x L W)(s:x.pf=C! o)(g:L.proof=C! m)(u:jx W1 o r)(y:Only (· =o) W W1):dX w G t b x {L with proof:=C! r} W1:=by
 obtain⟨d,i,c⟩:=h;have e:=i.pf;rw[s,g]at e;have e:qQ W d (t++[3]) o m:=e;let⟨v,k⟩:=i.prf s e.tag u y e.blk.lt;exact⟨_,v,c.trans k⟩
theorem jy.start{R i:Nat}{c:cT}{m k:bM}(h:jy w G t b x L R c W)(y:x.pf=C! i)(O:L.proof=C! m)(A:jx W1 i k)(g:Only (· =i) W W1):jy w G t b x {L with proof:=C! k} R c W1:=by
 obtain⟨j,s,q,r,d,E⟩:=h;have o:=s.pf;rw[y,O]at o;have o:qQ W j (t++[3]) i m:=o;let⟨N,v⟩:=s.prf y o.tag A g o.blk.lt
 have I:R≠i:=λe=>by
  have u:=o.tag;rw[<-e,d]at u;have:=U! List.length u;simp[free]at this
 exact⟨_,N,q.trans v,r.only g I,(v.old _ r.lt).trans d,E⟩
theorem jy.set{R:Nat}{c c':cT}(h:jy w G t b x L R c W)(I:t≠[]):jy w G t b x L R c'<|(((W.setCell (B? R 0)<|A! c'.code).setCell (B? R 1)<|A! c'.id).setCell (B? R 2)<|D? c'.value).setCell (B? R 3)<|D? c'.name:=by
 obtain⟨d,q,o,f,g,E⟩:=h;have y:=mM W R (A! c'.code) (A! c'.id) (D? c'.value)<|D? c'.name;have s:Step (λu=>u=free) d W (grow d W.heap.size free)<|(((W.setCell (B? R 0)<|A! c'.code).setCell (B? R 1)<|A! c'.id).setCell (B? R 2)<|D? c'.value).setCell (B? R 3)<|D? c'.name:=Step.of y (λk _ e=>by rw[e];exact g) free
 have N:=q.step s λu j e=>by
  rw[show u=free from e]at j;exact aJ I j
 have A:=(((f.set 0 (A! c'.code) rfl).set 1 (A! c'.id) rfl).set 2 (D? c'.value) rfl).set 3 (D? c'.name) rfl;refine⟨_,N,⟨s.os.trans o.os,s.tape.trans o.tape,s.output.trans o.output,Z? o.size s.size,λk r=>(s.old k<|Z! r o.size).trans<|o.old k r,λk r O=>(y.block k (Z! r o.size) (λe=>by have S:k=R:=e;omega)).trans<|o.keep k r O⟩,A,(s.old _ f.lt).trans g,E⟩
theorem dX.cells{o:Nat}(h:dX w G t b x L W)(i:x.pf=C! o):W.cell? (B? b 1)=C! (P? o)/\W.cell? (B? b 2)=N? L.id:=by
 obtain⟨s,e,r⟩:=h;refine⟨?_,e.blk.cell 2⟩;rw[e.blk.cell 1];show C! (vE x.pf)=_;rw[i];rfl
theorem dX.Jc{o:Nat}{m:bM}(h:dX w G t b x L W)(d:x.pf=C! o)(r:L.proof=C! m):jx W o m:=by
 obtain⟨i,s,c⟩:=h;have e:=s.pf;rw[d,r]at e;have e:qQ W i (t++[3]) o m:=e;exact e.blk
theorem Fk(W:D!)(e:List Int)(r:e.length<=maxLen):aD mU (W.alloc (.cells (e.map<|Value.int .i64).toArray 3)) (J! (C!<|B? W.heap.size 0) e.length e.length) e:=by
 refine .inr ⟨W.heap.size,0,e.length,rfl,Y? _,r,N!,λj s i o=>?_⟩;obtain rfl:i=0:=by have:i<1:=o;omega
 rw[j!];show(e.map<|Value.int .i64).toArray[0+j*1+0]? =C! (Value.int .i64 e[j]);simp[s]
theorem dQ{R:Nat}{c:cT}(h:jy w G t b x L R c W):J? W R 0 c.code/\J? W R 1 c.id/\L! W R 2 (D? c.value)/\L! W R 3 (D? c.name)/\
 W.frozen? (B? R 0)=H!/\W.frozen? (B? R 1)=H!/\W.frozen? (B? R 2)=H!/\W.frozen? (B? R 3)=false:=by
 obtain⟨o,i,s,e,r,d⟩:=h;exact⟨e.cell 0,e.cell 1,e.cell 2,e.cell 3,e.frozen 0,e.frozen 1,e.frozen 2,e.frozen 3⟩
theorem UM{R:Nat}{c:cT}(h:jy w G t b x L R c W)(i:t≠[])(f:uJ c)(q:L.out.length<=549755813888):
 G! E? 170 #[P? b,J! (C!<|B? W.heap.size 0) 1 1] (W.alloc (.cells #[A! c.code,A! c.id,D? c.value,D? c.name] 104)) (ud t b (lS L [c]) G w (.tuple #[])):=by
 obtain⟨r,d,u,v,k,j⟩:=h;have o:=cI.below (t:=t) (b:=b) (l:=L) ⟨x,d⟩<|ak (P! W.heap.size W) (.cells #[A! c.code,A! c.id,D? c.value,D? c.name] 104);refine(CR o.1 (Sp W r i c f) i<|by show L.out.length+4110*1<=_;omega).mono ?_;rintro e E ⟨rfl,s,g,y⟩;exact⟨rfl,s,g,(u.trans o.2).trans y⟩
theorem aaZ9{P:Prop}(h:P:=by
 obtain⟨EXP,aaW⟩:=F? c.expect;obtain⟨TRI,aaX⟩:=F? c.tries;obtain⟨SA0,afl⟩:∃S,L! w cb 13<|D? S:=⟨_,cS0⟩;clear cS0;rw[aaV]at cS wq;rw[aaW]at d15 wq;rw[aaX]at d11 wq;clear aaV aaW aaX;have HW0:=A? hW0;have HNE:=A? hne;clear hW0 hne;unfold ptr at*
 go_in
 go_wp2_with fail;rw[HW0.out];clear c3 c10 f3 f10 HW0 cS afl;refine dW (λw'=>J? w' cb 11 TRI/\L! w' cb 15 (D? EXP)) (zcb [11,1,5,1]) (⟨d11,d15⟩) ?_;refine R? ?_;intro K hK;go_wp2_with(go_at_call 265;apply(wq.out _).mono;rintro e w1 ⟨rfl,hP1,hb1⟩);have r8:=(aQ<|P! W0.heap.size W0).trans hb1;refine O! hK ⟨aw r8 d11,aw r8 d15⟩ ?_;clear hK K;refine tK ?_;obtain⟨G2,j1,j2⟩:=K1.out.aaS r8 hP1;have g11:=ay w1 b 1<|P? W0.heap.size;have e11:=g11.cell (aw r8 d11) HNE.out;have e15:=g11.cell (aw r8 d15) HNE.out;obtain⟨v1',c1'⟩:∃v,L! w1 b 1 v:=⟨_,(K1.out.blk.below r8).cell 1⟩;have f1':=(K1.out.blk.below r8).frozen 1;have HA0:E!<|dX w G t b {x0 with pf:=C! W0.heap.size} {L0 with proof:=C! m0} (w1.setCell (B? b 1)<|P? W0.heap.size):=A? ⟨G2,j1,K2.out.trans j2⟩;clear j1 j2 r8 hb1 hP1 g11;refine ai λK hK=>?_;go_wp2_with fail;refine O! hK ⟨e11,e15⟩ ?_;clear hK K
 try(refine tK ?_)
 apply aj;obtain⟨pb,hpb⟩:=F? W0.heap.size;obtain⟨W,hW⟩:=F?<|w1.setCell (B? b 1)<|P? W0.heap.size;rw[hW]at HA0;rw[hpb]at HA0;rw[hW];have HX:E!<|({x0 with pf:=C! pb}:pV).pf=C! pb:=A? rfl;generalize ({x0 with pf:=C! pb}:pV)=xp at HA0 HX;replace HST:=A?<|λW hp=>HST.out pb W hp;replace Ff:=A?<|λW R hr=>Ff.out W R xp hr
 have aaL:b<W.heap.size:=by
  obtain⟨Gk,q1,q2⟩:=HA0.out;exact q1.blk.lt
 clear hW hpb e11 e15 v1' c1' f1' d11 d15 K1 K2 wq HNE cU SF
 have HS0:E! (∀W,dX w G t b xp {L0 with proof:=C! m0} W->W.cell? (B? b 1)=C! (P? pb)/\W.cell? (B? b 2)=N? ID):=A? (λW h=>by
  have:=dX.cells h HX.out;exact⟨this.1,this.2.trans (by rw[<-aaU.out])⟩)
 have HS1:E! (∀W,dX w G t b xp {{L0 with proof:=C! m0}with proof:=C! {m0 with started:=C?,bZ:=CH}} W->W.cell? (B? b 1)=C! (P? pb)/\W.cell? (B? b 2)=N? ID):=A? (λW h=>by
  have:=dX.cells h HX.out;exact⟨this.1,this.2.trans (by rw[<-aaU.out])⟩)
 obtain⟨k1,k2⟩:=HS0.out _ HA0.out;go_wp2;refine wO (λw'=>L! w' b 1 (P? pb)/\J? w' b 2 ID) (.two [(0,C?),(1,C?),(2,C?),(3,C?),(4,C?),(5,C?),(6,C?),(7,C?),(8,C?),(9,C?),(10,C?),(11,C?),(12,C?)] 13 20 (.two [] 14 20 (.two [] 15 20 (.two [] 16 20 (.fin [(17,C?),(18,C?),(19,C?),(20,H!),(21,H!),(22,C?)]) (.fin [(16,H!),(17,C?),(18,C?),(19,C?),(21,H!),(22,C?)])) (.fin [(15,H!),(16,H!),(17,C?),(18,C?),(19,C?),(21,H!),(22,C?)])) (.fin [(14,H!),(15,H!),(16,H!),(17,C?),(18,C?),(19,C?),(21,H!),(22,C?)])) (.fin [(13,H!),(14,H!),(15,H!),(16,H!),(17,C?),(18,C?),(19,C?),(21,H!),(22,C?)])) M? M? rfl M? M? M? ⟨k1,k2⟩ (λ_ d _ _ _ h=>bav) ?_;have HAd:=A?<|HA0.out.below<|aQ U?;generalize W.drew=Wd at HAd|-;simp only[tB,fQ,ύ,ϟ,baM,baO,baA,p?];refine T? ?_;refine jf ?_ ?_
 .refine dg λQ1 K hK=>?_;go_wp2_with fail;have hb:=aB.out Wd;have hv:=aF.out Wd;obtain⟨W1,hW⟩:=aN.out Wd;rw[hW]at hb hv|-;clear hW;have HV2:=A? hv;clear hv;have HA3:=A?<|dX.below HAd.out hb;clear hb;apply O! hK (HS0.out _ HA3.out);clear hK K;show bO _ _ _ _ _ _ _;apply aj;refine jf ?_ ?_
  .refine dg λQ1 K hK=>?_;go_wp2_with(go_at_call 134;refine M! (mI HV2.out N!) λW4 hb=>?_);have HA5:=A?<|dX.below HA3.out hb;have HV6:=A?<|aD.below HV2.out hb;clear hb;apply O! hK (HS0.out _ HA5.out);clear hK K;show bO _ _ _ _ _ _ _;apply aj;refine jf ?_ ?_
   .refine dg λQ1 K hK=>?_;go_wp2_with(go_at_call 267;refine M! (rK.out W4) λW7 hb=>?_);have HA8:=A?<|dX.below HA5.out hb;have HV9:=A?<|aD.below HV6.out hb;clear hb;apply O! hK (HS0.out _ HA8.out);clear hK K;show bO _ _ _ _ _ _ _;apply aj;refine jf ?_ ?_
    .refine dg λQ1 K hK=>?_;go_wp2_with(go_at_call 266;refine(HST.out W7<|dX.Jc HA8.out HX.out rfl).mono ?_;rintro e W10 ⟨rfl,hP,ho⟩);have HA11:=A?<|dX.start HA8.out HX.out rfl hP ho;clear hP ho;apply O! hK (HS1.out _ HA11.out);clear hK K;show bO _ _ _ _ _ _ _;refine R? ?_;intro K hK;go_wp2_with fail;have hr:=dX.alloc HA11.out;obtain⟨W12,hW⟩:=F?<|W10.alloc (.cells xad 104);obtain⟨R13,hR⟩:=F? W10.heap.size;rw[hW,hR]at hr;rw[hW,hR];clear hW hR;have HR14:=A? hr;clear hr;apply O! hK (HS1.out _ HR14.out.at);clear hK K;refine ai λK hK=>?_;obtain⟨u0,u1,u2,u3,v0,v1,v2,v3⟩:=dQ HR14.out;go_wp2_with fail;have hr:=jy.set (c':=CA) HR14.out HT.out;obtain⟨W15,hW⟩:=F?<|(((W12.setCell (B? R13 0)<|A! CA.code).setCell (B? R13 1)<|A! CA.id).setCell (B? R13 2)<|D? CA.value).setCell (B? R13 3)<|D? CA.name;rw[hW]at hr;rw[hW];clear hW u0 u1 u2 u3 v0 v1 v2 v3;have HR16:=A? hr;clear hr;apply O! hK (HS1.out _ HR16.out.at);clear hK K
     try(refine tK ?_)
     apply aj;obtain⟨u0,u1,u2,u3,v0,v1,v2,v3⟩:=dQ HR16.out;have Bq:=A?<|Ff.out W15 _ HR16.out;have qF:=HR16;exact mc8
    .refine dg λQ1 K hK=>?_;go_wp2_with fail;have hr:=dX.alloc HA8.out;obtain⟨W17,hW⟩:=F?<|W7.alloc (.cells xad 104);have hv:=aD.below HV9.out<|ak (P! W7.heap.size W7) (.cells xad 104);rw[hW]at hv;have HV18:=A? hv;clear hv;obtain⟨R19,hR⟩:=F? W7.heap.size;rw[hW,hR]at hr;rw[hW,hR];clear hW hR;have HR20:=A? hr;clear hr;apply O! hK (HS0.out _ HR20.out.at);clear hK K;show bO _ _ _ _ _ _ _;refine ai λK hK=>?_;go_wp2_with(go_at_call 266;refine(HST.out W17<|dX.Jc HR20.out.at HX.out rfl).mono ?_;rintro e W21 ⟨rfl,hP,ho⟩);have HR22:=A?<|jy.start HR20.out HX.out rfl hP ho;clear hP ho;apply O! hK (HS1.out _ HR22.out.at);clear hK K;refine R? ?_;intro K hK;obtain⟨u0,u1,u2,u3,v0,v1,v2,v3⟩:=dQ HR22.out;go_wp2_with fail;have hr:=jy.set (c':=CA) HR22.out HT.out;obtain⟨W23,hW⟩:=F?<|(((W21.setCell (B? R19 0)<|A! CA.code).setCell (B? R19 1)<|A! CA.id).setCell (B? R19 2)<|D? CA.value).setCell (B? R19 3)<|D? CA.name;rw[hW]at hr;rw[hW];clear hW u0 u1 u2 u3 v0 v1 v2 v3;have HR24:=A? hr;clear hr;apply O! hK (HS1.out _ HR24.out.at);clear hK K
     try(refine tK ?_)
     apply aj;obtain⟨u0,u1,u2,u3,v0,v1,v2,v3⟩:=dQ HR24.out;have Bq:=A?<|Ff.out W23 _ HR24.out;have qF:=HR24;exact mc8
   .refine dg λQ1 K hK=>?_;go_wp2_with fail;have hr:=dX.alloc HA5.out;obtain⟨W25,hW⟩:=F?<|W4.alloc (.cells xad 104);have hv:=aD.below HV6.out<|ak (P! W4.heap.size W4) (.cells xad 104);rw[hW]at hv;have HV26:=A? hv;clear hv;obtain⟨R27,hR⟩:=F? W4.heap.size;rw[hW,hR]at hr;rw[hW,hR];clear hW hR;have HR28:=A? hr;clear hr;apply O! hK (HS0.out _ HR28.out.at);clear hK K;show bO _ _ _ _ _ _ _;refine ai λK hK=>?_;go_wp2_with(go_at_call 267;refine M! (rK.out W25) λW29 hb=>?_);have HR30:=A?<|jy.below HR28.out hb;have HV31:=A?<|aD.below HV26.out hb;clear hb;apply O! hK (HS0.out _ HR30.out.at);clear hK K;refine ai λK hK=>?_;go_wp2_with(go_at_call 266;refine(HST.out W29<|dX.Jc HR30.out.at HX.out rfl).mono ?_;rintro e W32 ⟨rfl,hP,ho⟩);have HR33:=A?<|jy.start HR30.out HX.out rfl hP ho;clear hP ho;apply O! hK (HS1.out _ HR33.out.at);clear hK K;refine R? ?_;intro K hK;obtain⟨u0,u1,u2,u3,v0,v1,v2,v3⟩:=dQ HR33.out;go_wp2_with fail;have hr:=jy.set (c':=CA) HR33.out HT.out;obtain⟨W34,hW⟩:=F?<|(((W32.setCell (B? R27 0)<|A! CA.code).setCell (B? R27 1)<|A! CA.id).setCell (B? R27 2)<|D? CA.value).setCell (B? R27 3)<|D? CA.name;rw[hW]at hr;rw[hW];clear hW u0 u1 u2 u3 v0 v1 v2 v3;have HR35:=A? hr;clear hr;apply O! hK (HS1.out _ HR35.out.at);clear hK K
    try(refine tK ?_)
    apply aj;obtain⟨u0,u1,u2,u3,v0,v1,v2,v3⟩:=dQ HR35.out;have Bq:=A?<|Ff.out W34 _ HR35.out;have qF:=HR35;exact mc8
  .refine dg λQ1 K hK=>?_;go_wp2_with fail;have hr:=dX.alloc HA3.out;obtain⟨W36,hW⟩:=F?<|W1.alloc (.cells xad 104);have hv:=aD.below HV2.out<|ak (P! W1.heap.size W1) (.cells xad 104);rw[hW]at hv;have HV37:=A? hv;clear hv;obtain⟨R38,hR⟩:=F? W1.heap.size;rw[hW,hR]at hr;rw[hW,hR];clear hW hR;have HR39:=A? hr;clear hr;apply O! hK (HS0.out _ HR39.out.at);clear hK K;show bO _ _ _ _ _ _ _;refine ai λK hK=>?_;go_wp2_with(go_at_call 134;refine M! (mI HV37.out N!) λW40 hb=>?_);have HR41:=A?<|jy.below HR39.out hb;have HV42:=A?<|aD.below HV37.out hb;clear hb;apply O! hK (HS0.out _ HR41.out.at);clear hK K;refine ai λK hK=>?_;go_wp2_with(go_at_call 267;refine M! (rK.out W40) λW43 hb=>?_);have HR44:=A?<|jy.below HR41.out hb;have HV45:=A?<|aD.below HV42.out hb;clear hb;apply O! hK (HS0.out _ HR44.out.at);clear hK K;refine ai λK hK=>?_;go_wp2_with(go_at_call 266;refine(HST.out W43<|dX.Jc HR44.out.at HX.out rfl).mono ?_;rintro e W46 ⟨rfl,hP,ho⟩);have HR47:=A?<|jy.start HR44.out HX.out rfl hP ho;clear hP ho;apply O! hK (HS1.out _ HR47.out.at);clear hK K;refine R? ?_;intro K hK;obtain⟨u0,u1,u2,u3,v0,v1,v2,v3⟩:=dQ HR47.out;go_wp2_with fail;have hr:=jy.set (c':=CA) HR47.out HT.out;obtain⟨W48,hW⟩:=F?<|(((W46.setCell (B? R38 0)<|A! CA.code).setCell (B? R38 1)<|A! CA.id).setCell (B? R38 2)<|D? CA.value).setCell (B? R38 3)<|D? CA.name;rw[hW]at hr;rw[hW];clear hW u0 u1 u2 u3 v0 v1 v2 v3;have HR49:=A? hr;clear hr;apply O! hK (HS1.out _ HR49.out.at);clear hK K
   try(refine tK ?_)
   apply aj;obtain⟨u0,u1,u2,u3,v0,v1,v2,v3⟩:=dQ HR49.out;have Bq:=A?<|Ff.out W48 _ HR49.out;have qF:=HR49;exact mc8
 .refine dg λQ1 K hK=>?_;go_wp2_with fail;have hr:=dX.alloc HAd.out;obtain⟨W50,hW⟩:=F?<|Wd.alloc (.cells xad 104);obtain⟨R51,hR⟩:=F? Wd.heap.size;rw[hW,hR]at hr;rw[hW,hR];clear hW hR;have HR52:=A? hr;clear hr;apply O! hK (HS0.out _ HR52.out.at);clear hK K;show bO _ _ _ _ _ _ _;refine ai λK hK=>?_;go_wp2_with fail;have hb:=aB.out W50;have hv:=aF.out W50;obtain⟨W53,hW⟩:=aN.out W50;rw[hW]at hb hv|-;clear hW;have HV54:=A? hv;clear hv;have HR55:=A?<|jy.below HR52.out hb;clear hb;apply O! hK (HS0.out _ HR55.out.at);clear hK K;refine ai λK hK=>?_;go_wp2_with(go_at_call 134;refine M! (mI HV54.out N!) λW56 hb=>?_);have HR57:=A?<|jy.below HR55.out hb;have HV58:=A?<|aD.below HV54.out hb;clear hb;apply O! hK (HS0.out _ HR57.out.at);clear hK K;refine ai λK hK=>?_;go_wp2_with(go_at_call 267;refine M! (rK.out W56) λW59 hb=>?_);have HR60:=A?<|jy.below HR57.out hb;have HV61:=A?<|aD.below HV58.out hb;clear hb;apply O! hK (HS0.out _ HR60.out.at);clear hK K;refine ai λK hK=>?_;go_wp2_with(go_at_call 266;refine(HST.out W59<|dX.Jc HR60.out.at HX.out rfl).mono ?_;rintro e W62 ⟨rfl,hP,ho⟩);have HR63:=A?<|jy.start HR60.out HX.out rfl hP ho;clear hP ho;apply O! hK (HS1.out _ HR63.out.at);clear hK K;refine R? ?_;intro K hK;obtain⟨u0,u1,u2,u3,v0,v1,v2,v3⟩:=dQ HR63.out;go_wp2_with fail;have hr:=jy.set (c':=CA) HR63.out HT.out;obtain⟨W64,hW⟩:=F?<|(((W62.setCell (B? R51 0)<|A! CA.code).setCell (B? R51 1)<|A! CA.id).setCell (B? R51 2)<|D? CA.value).setCell (B? R51 3)<|D? CA.name;rw[hW]at hr;rw[hW];clear hW u0 u1 u2 u3 v0 v1 v2 v3;have HR65:=A? hr;clear hr;apply O! hK (HS1.out _ HR65.out.at);clear hK K
  try(refine tK ?_)
  apply aj;obtain⟨u0,u1,u2,u3,v0,v1,v2,v3⟩:=dQ HR65.out;have Bq:=A?<|Ff.out W64 _ HR65.out;have qF:=HR65;clear HA0 rK HST HS0 HS1;go_wp2_with fail;apply Bq.out.mono;rintro e W9 ⟨rfl,G9,h9,hs9⟩;have H9:=A? h9;have HS9:=A? hs9;clear h9 hs9 u0 u1 u2 u3 v0 v1 v2 v3;go_wp2;go_end0;exact⟨rfl,G9,by rw[HE.out];exact H9.out,HS9.out⟩):P:=h
section
variable{cb:Nat}{c:cP}(at_ random:Int)(h:cI w G t b l)(hc:GZ w cb c)(hcb:¬aq t (G cb))(hk:zm c)(ht:t≠[])(hl:l.out.length<=549755813888)
include at_ random h hc hcb hk ht hl
theorem aaT:
 G! E? 231 #[ptr b,P? cb,A! 0,A! at_,A! random] w (ud t b (kq l c 0 at_ random) G w (.tuple #[])):=by
 obtain⟨x0,h⟩:=h;have E:=hc 11 _ I! rfl;have cS:=hc 13 _ I! rfl;have cS0:=hc 13 _ I! rfl;have I:=hc 15 _ I! rfl;have SF:=h! E;simp only at SF;have hne:cb≠b:=λe=>hcb (by rw[e,h.tag];exact aq.self _);have cU:=h.blk.lt;obtain⟨m0,u⟩:∃m0:bM,(⟨c.expect,⟨#[]⟩,c.tries,H!,H!,⟨#[97]⟩,c.bR,H!,H!⟩:bM)=m0:=⟨_,rfl⟩;obtain⟨CH,f⟩:=F?<|bytesOf<|KR<|words [random,random/4294967296,l.id,at_,0];have M:CH.size=16:=by rw[<-f];rfl
 have H:qX ⟨#[97]⟩ c.bR c.expect c.tries=C! m0:=by
  rw[<-u];unfold qX;rw[F!];rintro(e|e|e|e|e)
  .exact absurd e I!
  .rw[hk.sa]at e;cases e
  .rw[hk.se]at e;cases e
  .have:=hk.t2;omega
  .have:=hk.t10;omega
 have D:kY m0 CH=({m0 with started:=C?,bZ:=CH},jj {m0 with started:=C?,bZ:=CH},0):=by
  unfold kY;rw[F! B!,F!<|by rw[<-u];rintro(e|e)<;>cases e]
 obtain⟨L0,hL0⟩:=F? ({l with phase:=3,at_:=at_}:aM);obtain⟨CA,y⟩:=F?<|jj {m0 with started:=C?,bZ:=CH};have N:uJ CA:=by rw[<-y];show CH.size<=255;omega
 have HE:E! (kq l c 0 at_ random=lS {{L0 with proof:=C! m0}with proof:=C! {m0 with started:=C?,bZ:=CH}} [CA]):=A? (by
  unfold kq;rw[show(if(0:Int)=1 then(⟨#[98]⟩:ByteArray)else⟨#[97]⟩)=⟨#[97]⟩from rfl,show(if(0:Int)=1 then c.bT else c.bR)=c.bR from rfl,H];dsimp only;rw[f,D,<-hL0,<-y])
 have j:L0.id=l.id:=by rw[<-hL0]
 have C:E!<|L0.out.length<=549755813888:=A? (by rw[<-hL0];exact hl);obtain⟨k1,k2⟩:=h.own (l':=L0) (w1:=(w.setCell (B? b 3)<|A! 3).setCell (B? b 10)<|A! at_) (((Only.refl (λi=>i=b) w).set (.inl rfl) _).set (.inl rfl) _) (by rw[<-hL0];exact⟨rfl,rfl,rfl,rfl⟩) naz;have c3:=h.blk.k 3;have c10:=h.blk.k 10;have f3:=h.blk.frozen 3;have f10:=h.blk.frozen 10;obtain⟨W0,hW0⟩:=F?<|(w.setCell (B? b 3)<|A! 3).setCell (B? b 10)<|A! at_;have A:Only (λi=>i=b) w W0:=ncc;rw[hW0]at k1 k2;have d11:=A.cell E hne;have d15:=A.cell I hne;have K1:=A? k1;have K2:=A? k2;have Y:=A? u;have wq:=A? λW=>J5 ⟨#[97]⟩ c.bR c.expect c.tries W I! hk.sa hk.se ⟨by have:=hk.t2;omega,hk.t10⟩;rw[u]at wq;obtain⟨ID,g⟩:=F? L0.id;have rK:=A? λW=>LV (bytesOf<|words [random,random/4294967296,ID,at_,0]) W (by rw[aA,vJ];simp);have O:(bytesOf<|words [random,random/4294967296,ID,at_,0]).data.toList=words [random,random/4294967296,ID,at_,0]:=rfl;rw[O]at rK;rw[<-g,j,f,<-j,g]at rK;have HST:=A?<|λ(pb:Nat) (W:D!) (hp:jx W pb m0)=>En CH hp ⟨B!,B!⟩ (by rw[<-u])<|by rw[<-u]
 unfold tu ic aK at HST;rw[y]at HST;have Ff:=A?<|λ(W:D!) (R:Nat) (F:pV) (hr:jy w G t b F {{L0 with proof:=C! m0}with proof:=C! {m0 with started:=C?,bZ:=CH}} R CA W)=>UM hr ht N C.out;have HT:=A? ht;have aaU:=A? g;clear h hc hcb hk hl f H D hL0 y N u k1 k2 A E I j O ht M g;obtain⟨B,aaV⟩:=F? c.bR;have aB:=A? λW:D!=>ak (P! W.heap.size W) (.cells #[A! random,A!<|random/4294967296,A! ID,A! at_,A! 0] 3);have aF:=λW:D!=>Fk W [random,random/4294967296,ID,at_,0] (by unfold maxLen;simp);simp only[i?,y!,V!,l?,ξ,Nat.reduceAdd]at aF;replace aF:=A? aF;have aN:=A? λW:D!=>(⟨_,rfl⟩:∃V,W.alloc (.cells #[A! random,A!<|random/4294967296,A! ID,A! at_,A! 0] 3)=V);exact aaZ9
theorem aaY:
 G! E? 231 #[ptr b,P? cb,A! 1,A! at_,A! random] w (ud t b (kq l c 1 at_ random) G w (.tuple #[])):=by
 obtain⟨x0,h⟩:=h;have E:=hc 11 _ I! rfl;have cS:=hc 14 _ I! rfl;have cS0:=hc 13 _ I! rfl;have I:=hc 15 _ I! rfl;have SF:=h! E;simp only at SF;have hne:cb≠b:=λe=>hcb (by rw[e,h.tag];exact aq.self _);have cU:=h.blk.lt;obtain⟨m0,u⟩:∃m0:bM,(⟨c.expect,⟨#[]⟩,c.tries,H!,H!,⟨#[98]⟩,c.bT,H!,H!⟩:bM)=m0:=⟨_,rfl⟩;obtain⟨CH,f⟩:=F?<|bytesOf<|KR<|words [random,random/4294967296,l.id,at_,1];have M:CH.size=16:=by rw[<-f];rfl
 have H:qX ⟨#[98]⟩ c.bT c.expect c.tries=C! m0:=by
  rw[<-u];unfold qX;rw[F!];rintro(e|e|e|e|e)
  .exact absurd e I!
  .rw[hk.sb]at e;cases e
  .rw[hk.se]at e;cases e
  .have:=hk.t2;omega
  .have:=hk.t10;omega
 have D:kY m0 CH=({m0 with started:=C?,bZ:=CH},jj {m0 with started:=C?,bZ:=CH},0):=by
  unfold kY;rw[F! B!,F!<|by rw[<-u];rintro(e|e)<;>cases e]
 obtain⟨L0,hL0⟩:=F? ({l with phase:=3,at_:=at_}:aM);obtain⟨CA,y⟩:=F?<|jj {m0 with started:=C?,bZ:=CH};have N:uJ CA:=by rw[<-y];show CH.size<=255;omega
 have HE:E! (kq l c 1 at_ random=lS {{L0 with proof:=C! m0}with proof:=C! {m0 with started:=C?,bZ:=CH}} [CA]):=A? (by
  unfold kq;rw[show(if(1:Int)=1 then(⟨#[98]⟩:ByteArray)else⟨#[97]⟩)=⟨#[98]⟩from rfl,show(if(1:Int)=1 then c.bT else c.bR)=c.bT from rfl,H];dsimp only;rw[f,D,<-hL0,<-y])
 have j:L0.id=l.id:=by rw[<-hL0]
 have C:E!<|L0.out.length<=549755813888:=A? (by rw[<-hL0];exact hl);obtain⟨k1,k2⟩:=h.own (l':=L0) (w1:=(w.setCell (B? b 3)<|A! 3).setCell (B? b 10)<|A! at_) (((Only.refl (λi=>i=b) w).set (.inl rfl) _).set (.inl rfl) _) (by rw[<-hL0];exact⟨rfl,rfl,rfl,rfl⟩) naz;have c3:=h.blk.k 3;have c10:=h.blk.k 10;have f3:=h.blk.frozen 3;have f10:=h.blk.frozen 10;obtain⟨W0,hW0⟩:=F?<|(w.setCell (B? b 3)<|A! 3).setCell (B? b 10)<|A! at_;have A:Only (λi=>i=b) w W0:=ncc;rw[hW0]at k1 k2;have d11:=A.cell E hne;have d15:=A.cell I hne;have K1:=A? k1;have K2:=A? k2;have Y:=A? u;have wq:=A? λW=>J5 ⟨#[98]⟩ c.bT c.expect c.tries W I! hk.sb hk.se ⟨by have:=hk.t2;omega,hk.t10⟩;rw[u]at wq;obtain⟨ID,g⟩:=F? L0.id;have rK:=A? λW=>LV (bytesOf<|words [random,random/4294967296,ID,at_,1]) W (by rw[aA,vJ];simp);have O:(bytesOf<|words [random,random/4294967296,ID,at_,1]).data.toList=words [random,random/4294967296,ID,at_,1]:=rfl;rw[O]at rK;rw[<-g,j,f,<-j,g]at rK;have HST:=A?<|λ(pb:Nat) (W:D!) (hp:jx W pb m0)=>En CH hp ⟨B!,B!⟩ (by rw[<-u])<|by rw[<-u]
 unfold tu ic aK at HST;rw[y]at HST;have Ff:=A?<|λ(W:D!) (R:Nat) (F:pV) (hr:jy w G t b F {{L0 with proof:=C! m0}with proof:=C! {m0 with started:=C?,bZ:=CH}} R CA W)=>UM hr ht N C.out;have HT:=A? ht;have aaU:=A? g;clear h hc hcb hk hl f H D hL0 y N u k1 k2 A E I j O ht M g;obtain⟨B,aaV⟩:=F? c.bT;have aB:=A? λW:D!=>ak (P! W.heap.size W) (.cells #[A! random,A!<|random/4294967296,A! ID,A! at_,A! 1] 3);have aF:=λW:D!=>Fk W [random,random/4294967296,ID,at_,1] (by unfold maxLen;simp);simp only[i?,y!,V!,l?,ξ,Nat.reduceAdd]at aF;replace aF:=A? aF;have aN:=A? λW:D!=>(⟨_,rfl⟩:∃V,W.alloc (.cells #[A! random,A!<|random/4294967296,A! ID,A! at_,A! 1] 3)=V);exact aaZ9
end
end
theorem Ki:∀(n:Nat) (d m:Int),1<=d->d<=m->1<=jk n d m/\jk n d m<=m
 |0,d,m,e,t=>⟨e,t⟩
 |n+1,d,m,e,t=>by
  unfold jk;split
  .omega
  .exact Ki n (d*2) m B! B!
theorem Xr(t b m j:Int):0<=(mC t b m j).1/\(mC t b m j).1<=4096:=by
 by_cases h:qZ t b m j
 .rw[oN h];decide
 .rw[FU h];unfold qZ at h;have e:=Ki t.toNat b m B! B!;have o:=bb1 j (b:=jk t.toNat b m/4+1) B!;have i:=maI j (b:=jk t.toNat b m/4+1) B!;simp only;omega
theorem qG(h:aO w b 94<|gE x m):G! E? 124 #[ptr b] w (T! w<|A!<|dZ m):=by
 have u:=h.k 16;have f:=h.k 17;have g:=h.k 18;unfold ptr dZ;by_cases l:m.side=1
 .rw[G? l];have d:(m.side==1)=true:=by simp[l]
  exact d?
 .rw[F! l];have d:=Q?.2 l;exact d?
theorem aS.own{m':aF}(h:aS w G n b sb x z)(y:Only (λk=>k=b) w w1)(g:aO w1 b 94<|gE x m')
 (e:m'.queue=z.1.queue)(o:m'.join=z.1.join)(i:m'.cC=z.1.cC)(l:m'.links=z.1.links)(d:m'.phases=z.1.phases)(c:m'.proved=z.1.proved)(u:m'.changes=z.1.changes)(f:m'.got=z.1.got):
 aS w1 (grow G w.heap.size free) n b sb x (m',z.2)/\Step (bG n) G w (grow G w.heap.size free) w1:=by
 let⟨v,j⟩:=h.p.own (s:=x.s) y g e o i l d c u f;exact h.peer v rfl j
theorem zX{N r:Nat}(h:aS w G n b sb x z)(u:ct N r z.1)(B:N<=1099511627776):
 G! E? 150 #[ptr b] w (fu n b sb G w x z (rq z.1,z.2) (.tuple #[])):=by
 have H:=h.p.blk.k 35;have C:=h.p.blk.k 8;have M:=h.p.blk.k 9;have R:=h.p.blk.k 26;have S:=h.p.blk.k 25;have L:=h.p.blk.k 36;have W:=h.p.blk.frozen 35;have Y:=h.p.blk.frozen 36;have d:=A? λw=>VB (min z.1.fails 62) z.1.c.base z.1.c.cap z.1.random w (by have:=u.r1;omega);let⟨f,g⟩:=Xr (min z.1.fails 62) z.1.c.base z.1.c.cap z.1.random;have V:=u.n0;have K:=u.n1
 have j:∀(nq:Nat) (D:Int),D=(mC (min z.1.fails 62) z.1.c.base z.1.c.cap z.1.random).1->aS (((w.drewN nq).setCell (B? b 35)<|A!<|wrap64<|z.1.fails+1).setCell (B? b 36)<|A!<|z.1.now+D) (grow G (w.drewN nq).heap.size free) n b sb x (rq z.1,z.2)/\
  Step (bG n) G w (grow G (w.drewN nq).heap.size free) (((w.drewN nq).setCell (B? b 35)<|A!<|wrap64<|z.1.fails+1).setCell (B? b 36)<|A!<|z.1.now+D):=λnq D A=>by
  subst A;have y:=h.drewN nq;let⟨O,I⟩:=y.own (m':=rq z.1) (((Only.refl (λk=>k=b)<|w.drewN nq).set (.inl rfl) _).set (.inl rfl) _) ((y.p.blk.set 35 (A!<|wrap64<|z.1.fails+1) rfl).set 36 _ rfl) rfl rfl rfl rfl rfl rfl rfl rfl;exact⟨O,(wN (bG n) G w nq).trans I⟩
 have l:=A? j;generalize mC (min z.1.fails 62) z.1.c.base z.1.c.cap z.1.random=E at d f g l;obtain⟨D,F⟩:=E;simp only at d f g l;unfold ptr;go_in;go_wp2_with fail;go_quiet(first|(go_at_call 184;refine bbs<|d _));go_wp2;go_end0;exact fu.mk (l _ D rfl).1 (l _ D rfl).2
theorem sC{o:Type}(m:KV o)(k:Int)(u v:o):bI (bI m k u) k v=bI m k v:=by
 by_cases h:au m k=C?
 .rw[mg (m:=bI m k u)<|by rw[lq];simp,mg h,mg h,baG];apply bbd;intro x _;simp only[Function.comp];by_cases e:x.1=k<;>simp[e]
 .have t:=z! _▸h;rw[mg (m:=bI m k u)<|by rw[lq];simp,mq t,mq t,ϻ];congr 1
  .conv=>rhs;rw[<-mcw m]
   apply bbd;intro x i
   have:(x.1==k)=false:=by
    rw[Q?];intro e;have:=dI.2<|a!.2 ⟨x,i,e⟩;rw[t]at this;cases this
   simp[this]
  .simp
theorem aS.aR(h:aS w G n b sb x z)(e:au z.1.links id=C?):∃y,cM w G [n,9,id] (x.f id) y<|lk z.1 id:=h.p.mG e
theorem aS.gY{t:aM}(h:aS w G n b sb x z)(o:au z.1.links id=C?)(e:Step (aq [n,9,id]) G w G1 w1)(i:cI w1 G1 [n,9,id] (x.f id) t):aS w1 G1 n b sb x (bH z.1 id t,z.2)/\Step (bG n) G w G1 w1:=
 h.peer (h.p.gY o e i) rfl (e.mono λu s=>(aq.app [n] [9,id]).trans s)
theorem aS.oq{l':aM}{y:pV}(h:aS w G n b sb x z)(o:au z.1.links id=C?)(s:cM w G [n,9,id] (x.f id) y<|lk z.1 id)(i:Only (λk=>k=x.f id) w w1)(e:l'.neg=(lk z.1 id).neg/\l'.proof=(lk z.1 id).proof/\l'.term=(lk z.1 id).term/\l'.out=(lk z.1 id).out)
 (t:aO w1 (x.f id) 107<|bS y l'):aS w1 (grow G w.heap.size free) n b sb x (bH z.1 id l',z.2)/\Step (bG n) G w (grow G w.heap.size free) w1:=by
 let⟨r,l⟩:=s.own i e t;exact h.gY o l ⟨y,r⟩
theorem aS.phase(h:aS w G n b sb x z){p:KV Int}(t:Only (λk=>k=x.pm) w w1)(e:bp w1 x.pm<|dY (λ_ v=>A! v) p):aS w1 (grow G w.heap.size free) n b sb x ({z.1 with phases:=p},z.2)/\Step (bG n) G w (grow G w.heap.size free) w1:=by
 let⟨o,i⟩:=h.p.phase t e;exact h.peer o rfl i
theorem ng(u:Int)(h:aS w G n b sb x z)(O:au z.1.links id=C?)(R:(lk z.1 id).id=id):
 G! E? 151 #[ptr b,ptr<|x.f id,A! u] w (fu n b sb G w x z (bC z.1 id u,z.2) (.tuple #[])):=by
 let⟨ao,L⟩:=h.aR O;have B:=h.drew;have y:=L.step (aB (λ_=>False) G w) λ_ _ h=>h;have a9:w.drew.cell? (B? b 30)=C! (.map<|C! x.pm):=h.p.blk.k 30;have F:w.drew.cell? (B? (x.f id) 2)=N? id:=by have:=y.blk.cell 2;rw[this];show C! (Value.int .i64 (lk z.1 id).id)=_;rw[R]
 obtain⟨ar,aa⟩:∃v,w.drew.cell? (B? (x.f id) 3)=C! v:=⟨_,y.blk.cell 3⟩;have ab:=y.blk.frozen 3;have ap:=h.p.blk.lt;have ag:=L.blk.lt;let⟨g,a2⟩:=B.oq (l':={lk z.1 id with phase:=u}) O y (ay w.drew (x.f id) 3<|A! u) ⟨rfl,rfl,rfl,rfl⟩<|y.blk.set 3 _ rfl;have a1:=g.p.pm;have Y:=g.p.blk.k 30
 have W:(w.drew.setCell (B? (x.f id) 3)<|A! u).cell? (B? (x.f id) 2)=N? id:=by
  have:=((y.blk.set 3 (A! u) rfl:aO _ _ _<|bS ao {lk z.1 id with phase:=u})).cell 2;rw[this];show C! (Value.int .i64 (lk z.1 id).id)=_;rw[R]
 have Z:x.pm≠b:=λe=>by
  have A:=g.p.tp;rw[e,g.p.tag]at A;simp at A
 have a0:x.pm≠x.f id:=λe=>by
  have A:=g.p.tp;let⟨av,ac⟩:=g.p.mG (k:=id)<|(aG (λl=>{l with phase:=u}) O id).trans O;rw[e,ac.tag]at A;simp at A
 have hS:E!<|∀j,Only (λk=>k=x.pm) (w.drew.setCell (B? (x.f id) 3)<|A! u) j->j.cell? (B? b 30)=C! (.map<|C! x.pm)/\j.cell? (B? (x.f id) 2)=N? id:=A? λj J=>⟨J.cell Y<|X? Z,J.cell W<|X? a0⟩
 have C:E! (∀w2 E:D!,∀a3:I?,Only (λk=>k=x.pm) (w.drew.setCell (B? (x.f id) 3) (A! u)) w2->Only (λk=>k=x.pm) w2 E->bp E x.pm (bI (bI (dY (λ_ v=>A! v) z.1.phases) id a3) id (A! u))->
  ∃N,aS E N n b sb x (bC z.1 id u,z.2)/\Step (bG n) G w N E):=A? (λw2 E a3 al am hm=>by
  rw[sC,jK<|λ_ v=>Value.int .i64 v]at hm;let⟨j1,j2⟩:=g.phase (al.trans am) hm;exact⟨_,j1,((aB (bG n) G w).trans a2).trans j2⟩)
 have M:E!<|bp (w.drew.setCell (B? (x.f id) 3)<|A! u) x.pm<|dY (λ_ v=>A! v) z.1.phases:=A? a1;clear h B L y g a2 a1 Z a0 Y W;generalize x.f id=a6 at F aa ab hS C M ag|-;clear R O;unfold ptr;go_wp2;refine dW (λj=>j.cell? (B? b 30)=C! (.map<|C! x.pm)/\j.cell? (B? a6 2)=N? id) (zcb [13,2,1,1]) (⟨a9,F⟩) ?_;refine R? ?_;intro K f;go_wp2_with fail;refine O! f (hS _<|Only.refl _ _) ?_;clear f K;refine ai λK f=>?_;go_wp2_with(apply EK rfl _ _ rfl underlying91 underlying3 id (A! 0) π M rfl rfl;intro w2 an V I ad D);apply O! f (hS _ I);clear f K;refine R? ?_;intro K f;go_wp2_with(apply BQ rfl _ _ _ rfl id an (A! u) V D rfl rfl rfl;intro E X H ae);refine O! f (hS _<|I.trans H) ?_;clear f K;apply aj;let⟨N,a4,a5⟩:=C w2 E _ I H X;have a7:=A? a4;have a8:=A? a5;clear a4 a5 V X I H D ad ae;go_wp2;go_end0;exact fu.mk a7 a8
section
variable(h:aS w G n b sb x z)(hk:au z.1.links id=C?)
include h hk
theorem fJ(e:(lk z.1 id).id=id):w.cell? (B? (x.f id) 2)=N? id:=by
 let⟨y,t⟩:=h.aR hk;have:=t.blk.cell 2;rw[this];show C! (Value.int .i64 (lk z.1 id).id)=_;rw[e]
theorem bW:x.f id<w.heap.size:=by
 let⟨y,e⟩:=h.aR hk;exact e.blk.lt
theorem ni:x.f id≠b:=λe=>by
 let⟨y,o⟩:=h.aR hk;have t:=o.tag;rw[e,h.p.tag]at t;simp at t
end
theorem oY(O I:Int)(h:aS w G n b sb x z)(u:au z.1.links id=C?)(a3:(lk z.1 id).id=id)(ab:z.1.changes.length+1<=1000000000001):
 G! E? 148 #[ptr b,ptr<|x.f id,A! O,A! I] w (fu n b sb G w x z (bX z.1 id O I,z.2) (.tuple #[])):=by
 have g:=h.drew;have V:=fJ g u a3;have ac:=bW g u;have ae:=ni g u;have B:L! w.drew b 32 x.xU:=h.p.blk.k 32;have Y:J? w.drew b 25 z.1.now:=h.p.blk.k 25;have av:=g.p.blk.lt;have N:=g.p.xU;have M:=A? λk u=>(N.2 k u).1
 have A:∀k,x.xU.ownBlock=C! k->k≠b/\k≠x.f id:=λk aa=>by
  have R:=(N.2 k aa).2;refine⟨λe=>?_,λe=>?_⟩
  .rw[e,h.p.tag]at R;simp at R
  .let⟨b3,al⟩:=g.aR u;rw[e,al.tag]at R;simp at R
 have a0:=A? N.1;have ar:E!<|(z.1.changes.length+1)*Ci.bytes<=140737488355328:=A? (by show(z.1.changes.length+1)*32<=_;omega)
 have hS:E!<|∀f,Only (λk=>x.xU.ownBlock=C! k) w.drew f->L! f b 32 x.xU/\J? f b 25 z.1.now/\J? f (x.f id) 2 id:=A? λf j=>
  ⟨j.cell B (λe=>(A _ e).1 rfl),j.cell Y (λe=>(A _ e).1 rfl),j.cell V<|λe=>(A _ e).2 rfl⟩
 have a9:E!<|∀f,Only (λk=>x.xU.ownBlock=C! k) w.drew f->aO f b 94 (gE x z.1):=A? λf j=>g.p.blk.only j λe=>(A _ e).1 rfl
 have W:E! (∀(v:I?) (y:D!),jd Ci y v (z.1.changes++[⟨z.1.now,id,O,I⟩])->Only (λk=>x.xU.ownBlock=C! k) w.drew y->(∀k,v.ownBlock=C! k->x.xU.ownBlock=C! k\/(w.drew.heap.size<=k/\k<y.heap.size))->
  fu n b sb G w x z (bX z.1 id O I,z.2) (.tuple #[]) (.returned (.tuple #[])) (y.setCell (B? b 32) v)):=A? λv y ag j J=>by
  have hB:=g.p.blk.only j λe=>(A _ e).1 rfl;have a8:Only (λk=>k=b\/x.xU.ownBlock=C! k) w.drew<|y.setCell (B? b 32) v:=(j.mono λk _ u=>.inr u).trans<|(ay y b 32 v).mono λk _ u=>.inl u
  have ad:∀k,v.ownBlock=C! k->k≠b:=λk u e=>by
   rcases J k u with a2|a2
   .exact(A k a2).1 e
   .omega
  let⟨a7,ao,ap⟩:=g.p.ain (v:=v) (cs:=z.1.changes++[⟨z.1.now,id,O,I⟩]) a8 (hB.set 32 v rfl)
   (ag.heap λk u=>(ay y b 32 _).block k (by rcases J k u with e|e;(have:=M k e;have:=j.size;omega);exact e.2)<|ad k u)
   (λk u=>by
     rcases J k u with e|e
     .exact .inl e
     .exact .inr ⟨e.1,bbQ⟩)
  let⟨am,an⟩:=g.peer ao rfl ap;exact⟨rfl,a7,_,am,(aB (bG n) G w).trans an,λ_ _=>rfl⟩
 clear h g N u a3 ab A;let⟨a5,hB⟩:=F?<|x.f id;let⟨D,F⟩:=F? x.xU;rw[hB]at V ac ae hS|-;rw[F]at B M a0 hS W;generalize z.1.now=a1 at Y hS W;have Z:=A? F;clear hB F;unfold ptr;go_wp2;refine yS (λf=>L! f b 32 D/\J? f b 25 a1/\J? f a5 2 id) 20 [(0,1),(1,1),(2,1),(3,1),(4,1),(5,1),(6,1),(7,1),(8,1),(9,1),(10,1),(11,1),(12,1),(13,1),(14,1),(15,1),(16,0),(17,0),(18,2),(19,1),(20,0)] ⟨B,Y,V⟩ ?_;refine tL ?_;refine oh λK E=>?_;go_wp2_with fail;refine O! E (hS _<|(Only.refl _ _).alloc _) ?_;clear E K;refine oh λK E=>?_;go_wp2_with(at_builtin;refine dz Ci rfl _ _ rfl D z.1.changes ⟨a1,id,O,I⟩ _ a0 M rfl _ rfl rfl ar I! λb0 y X H a4=>?_);apply O! E (hS _ H);clear E K;obtain⟨b1,b2,rfl,-,-⟩:=X.form;have C:=a9 _ (by rw[Z.out];exact H);have az:=C.frozen 32;have ax:y.cell? (B? b 32)=C! D:=by rw[<-Z.out];exact C.cell 32
 have a6:=A?<|W _ y X H a4;clear C X H a4;refine tL ?_;refine iz λK E=>?_;go_wp2_with fail;refine ah<|E _ _ ?_;clear E K;go_wp2;go_end0;have e:=a6.out;rw[X!,baW]at e;exact e
section
variable{N r:Nat}
def vP(e:Nat)(k:Int)(w:D!)(L:Nat):Prop:=
 ∃ml B a c,w.cell? ⟨e,6,L?⟩=C! (.map (C! ml))/\(Instr.lookup 135 (.map (C! ml)) (.int .i64 k) H!).run E? w=.ok (ptr B) w/\w.cell? ⟨B,0,L?⟩=C! (J! a L c)
theorem vP.inj{qb:Nat}{k:Int}{L L':Nat}(h:vP qb k w L)(h':vP qb k w L'):L=L':=by
 obtain⟨ml,B,a,c,h1,h2,h3⟩:=h;obtain⟨ml',B',a',c',h1',h2',h3'⟩:=h';rw[h1]at h1';cases h1'
 rw[h2]at h2';cases h2'
 rw[h3]at h3';cases h3'
 rfl
open Classical in
noncomputable def Mi (e:Nat)(k:Int)(w:D!):Nat:=if h:∃L,vP e k w L then h.choose else 0
theorem Km{t:Tag}{e:Nat}{q:bh}{k:Int}(h:eC w G t e q)(i:au q.lanes k=C?):Mi e k w=(aL q k).waits.length:=by
 obtain⟨y,h⟩:=h;have s:=h.look k;rw[i,G? rfl]at s;let⟨v,l⟩:=h.uK i;obtain⟨a,c,rfl,-,-⟩:=l.row.1.form;have o:vP e k w (aL q k).waits.length:=⟨y.ml,y.f k,a,c,h.blk.cell 6,s,l.blk.cell 0⟩;unfold Mi;have d:∃L,vP e k w L:=⟨_,o⟩;rw[dif_pos d];exact d.choose_spec.inj o
theorem Pz{q:bh}{k:Int}(t:(aL q k).waits≠[]):au q.lanes k=C?/\au (iR q k).1.lanes k=C?/\(aL (iR q k).1 k).waits.length+1=(aL q k).waits.length:=by
 have hk:au q.lanes k=true:=by
  rw[fK];cases e:bt q.lanes k with
  |some _=>rfl
  |none=>exact absurd (by unfold aL;rw[e];rfl) t
 have i:bY q k=(q,((aL q k).waits.headD (eZ,0)).1,0):=by
  unfold bY;rw[F! bcD,G? t]
 refine⟨hk,?_⟩;unfold iR;rw[i];dsimp only;rw[F! I!];refine⟨by rw[lq];simp,?_⟩
 have s:∀(o:KV Int),aL {q with lanes:=bI q.lanes k {aL q k with waits:=(aL q k).waits.tail},opn:=o} k={aL q k with waits:=(aL q k).waits.tail}:=λo=>by
  unfold aL;rw[iQ,G? rfl];rfl
 rw[s];have:=ϛ.2 t;show(aL q k).waits.tail.length+1=_;rw[mb0];omega
theorem iq.pre{q:bh}(h:iq N q)(t:N<=40000000000):acY q:=
 ⟨h.g,by have:=h.l8;omega,λk l e=>by have:=h.w k l e;have:=h.ck;have:=h.c0;omega,h.c0,by have:=h.ck;omega⟩
theorem iq.ahe{q:bh}(h:iq N q)(k i:Int): -1099511627776<=(bt (bY q k).1.opn i).getD 0/\(bt (bY q k).1.opn i).getD 0<=1099511627776:=by
 have:=(h.RF k).1.acQ i;omega
theorem vQ{Q:bh}(h:aS w G n b sb x z)(e:Step (aq [n,1]) G w G1 w1)(t:eC w1 G1 [n,1] x.q Q):aS w1 G1 n b sb x ({z.1 with queue:=Q},z.2)/\Step (bG n) G w G1 w1:=
 h.peer (h.p.queue e t) rfl (e.mono λu o=>(aq.app [n] [1]).trans o)
theorem C3{J:aT}(h:aS w G n b sb x z)(e:Step (aq [n,2]) G w G1 w1)(t:yJ w1 G1 [n,2] x.j J):aS w1 G1 n b sb x ({z.1 with join:=J},z.2)/\Step (bG n) G w G1 w1:=
 h.peer (h.p.join e t) rfl (e.mono λu o=>(aq.app [n] [2]).trans o)
theorem Hv(h:aS w G n b sb x z)(am:iq N z.1.queue)(bd:N<=40000000000)(W:au z.1.links id=C?)(an:(lk z.1 id).id=id):
 G! E? 147 #[ptr b,ptr (x.f id)] w (fu n b sb G w x z (ku z.1 id,z.2) (.tuple #[])):=by
 have b2:=A? h;have b4:=A? am;have a4:=A? W;have a1:=A? an;have bm:=h.p.blk.lt;have bk:=bW h W;clear h am W an;unfold ptr;go_wp2;go_loopw[] (λwr=>∃O q,aS wr O n b sb x ({z.1 with queue:=q},z.2)/\Step (bG n) G w O wr/\E! (iq N q/\qN z.1.queue id (aL z.1.queue id).waits.length=qN q id (aL q id).waits.length)) (λwr=>Mi x.q id wr)
 case atStart=>exact⟨G,z.1.queue,b2.out,Step.refl _ _ _,A? ⟨b4.out,rfl⟩⟩
 case round=>
  obtain⟨O,q,f,g,Y⟩:=hrel;have b9:=f.p.blk.k 20;have ba:=fJ f (id:=id) a4.out a1.out;have I:=A? (λw2 (h:∃ae,w2=wr.drewN ae)=>GD (w:=w2) id (by obtain⟨ae,rfl⟩:=h;exact(f.drewN ae).p.q));have a5:=A? λW=>Km (k:=id) f.p.q W;simp only at a5;have J:=A? f;have Z:=A? g;obtain⟨a7,a9⟩:∃a7:Int,pH q id=a7:=⟨_,rfl⟩;simp only at I;rw[a9]at I;have b0:=A? a9;clear a9 f g;obtain⟨B,hB⟩:=F? (x.f id);have R:E! (∀y C az,aS y C n b sb x ({z.1 with queue:=az},z.2)->y.cell? ⟨b,20,L?⟩=C! (ptr x.q)/\y.cell? ⟨x.f id,2,L?⟩=C! (.int .i64 id)):=A? λy C az M=>⟨M.p.blk.cell 20,fJ M (id:=id) a4.out a1.out⟩;obtain⟨ag,ac⟩:=F? x.q;rw[hB]at ba bk R|-;rw[ac]at b9 I R a5|-;have HQB:=A? ac;have b3:=A? hB;clear hB ac;unfold ptr at*
  by_cases br:0<a7
  .go_wp2_with fail;go_quiet(first|(go_at_call 136;refine bbs (I.out _ ⟨_,rfl⟩)));go_wp2_with fail;obtain⟨aa,F⟩:=F? (wr.drewN nq);have f:=J.out.drewN nq;have g:=Z.out.trans (wN (bG n) O wr nq);rw[F]at f g|-;clear F I J Z;have j:=A? f.drew;have a0:=A? (g.trans (aB (bG n) O aa));clear f g;have u:=A? (Kj id j.out.p.q (Y.out.1.pre bd) N! (Y.out.1.ahe id));simp only at u;rw[HQB.out]at u;unfold ptr at u;refine dW (λA=>A.cell? ⟨b,20,L?⟩=C! (.pointer (C! ⟨ag,0,L?⟩))/\A.cell? ⟨B,2,L?⟩=C! (.int .i64 id)) (zcb [9,1]) (R.out _ _ _ j.out) ?_;refine R? ?_;intro K E;go_wp2_with(go_at_call 177;apply u.out.mono;rintro e b1 ⟨rfl,a3,hq3,V⟩);obtain⟨H,X⟩:=vQ j.out V mbT;apply O! E (R.out _ _ _ H);clear E K;apply aj
   have al:(aL q id).waits≠[]:=λe=>by
    have:=b0.out;unfold pH at this;rw[e]at this;simp at this;omega
   obtain⟨be,bf,bi⟩:=Pz al;have bv:=Km hq3 bf;have bx:=a5.out be;have D:=A? H;have a6:=A? (a0.out.trans X);have b6:E! (iq N (iR q id).1/\qN z.1.queue id (aL z.1.queue id).waits.length=qN (iR q id).1 id (aL (iR q id).1 id).waits.length):=A? ⟨(Y.out.1.take id).1,by rw[Y.out.2,<-bi];rfl⟩;clear H V X hq3 al u;go_wp2;go_roundw
   case rel=>exact⟨a3,_,D.out,a6.out,b6⟩
   case measure=>omega
  .go_wp2_with fail;go_quiet(first|(go_at_call 136;refine bbs (I.out _ ⟨_,rfl⟩)));go_wp2_with fail;obtain⟨aa,F⟩:=F? (wr.drewN nq);have f:=J.out.drewN nq;have g:=Z.out.trans (wN (bG n) O wr nq);rw[F]at f g|-;clear F I J Z;have j:=A? f.drew;have a0:=A? (g.trans (aB (bG n) O aa));clear f g
   have bj:(aL q id).waits.length=0:=by
    have:=b0.out;unfold pH at this;omega
   have bl:E! (qN z.1.queue id (aL z.1.queue id).waits.length=q):=A? (by rw[Y.out.2,bj];rfl);have u:=A? (Ws id j.out.p.q);simp only at u;rw[HQB.out]at u;unfold ptr at u;refine dW (λA=>A.cell? ⟨b,20,L?⟩=C! (.pointer (C! ⟨ag,0,L?⟩))/\A.cell? ⟨B,2,L?⟩=C! (.int .i64 id)) (zcb [9,1]) (R.out _ _ _ j.out) ?_;refine R? ?_;intro K E;go_wp2_with(go_at_call 182;apply u.out.mono;rintro e b1 ⟨rfl,a3,hq3,V⟩);obtain⟨H,X⟩:=vQ j.out V mbT;apply O! E (R.out _ _ _ H);clear E K;apply aj;have D:=A? H.drew;have a6:=A? ((a0.out.trans X).trans (aB (bG n) a3 b1));clear H V X hq3 u j a0;obtain⟨bs,bo,L⟩:=D.out.p.j;have u:=A? (Xv id L.Ww);have L:=A? L;have ab:=D.out.p.blk.k 21;obtain⟨-,bc⟩:=R.out _ _ _ D.out;have a2:E! (∀y C ax,aS y C n b sb x ({z.1 with queue:=(vk q id).1,join:=ax},z.2)->y.cell? ⟨b,21,L?⟩=C! (ptr x.j)/\y.cell? ⟨B,2,L?⟩=C! (.int .i64 id)):=A? λy C ax M=>⟨M.p.blk.cell 21,by rw[<-b3.out];exact fJ M (id:=id) a4.out a1.out⟩;obtain⟨b8,a8⟩:=F? x.j;simp only at u L;rw[a8]at u L ab a2;have HJB:=A? a8;clear a8;unfold ptr at u ab a2;go_wp2;refine dW (λA=>A.cell? ⟨b,21,L?⟩=C! (.pointer (C! ⟨b8,0,L?⟩))/\A.cell? ⟨B,2,L?⟩=C! (.int .i64 id)) (zcb [9,1]) (⟨ab,bc⟩) ?_;refine R? ?_;intro K E;go_wp2_with(go_at_call 183;apply u.out.mono;rintro e bz ⟨rfl,ao,ap⟩);obtain⟨hj5,ar⟩:=L.out.E8 ao ap;obtain⟨ad,av⟩:=C3 D.out ar mfL;apply O! E (a2.out _ _ _ ad);clear E K;apply aj;have b5:=A? ad;have b7:=A? (a6.out.trans av);clear ad ar av hj5 ao ap;go_wp2;go_end0;refine fu.mk ?_ b7.out
   have e:ku z.1 id={z.1 with queue:=(vk q id).1,join:=(Aw z.1.join id).1}:=by
    unfold ku;rw[bl.out]
   rw[e];exact b5.out
end
