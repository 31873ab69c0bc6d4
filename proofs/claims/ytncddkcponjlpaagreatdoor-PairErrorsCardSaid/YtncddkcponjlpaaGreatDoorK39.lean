/- Walks and plain laws. -/
import Derived.Test.YtncddkcponjlpaaGreatDoorK37
set_option linter.unusedVariables false
set_option linter.unusedSectionVars false
set_option linter.unusedSimpArgs false
set_option maxHeartbeats 0
set_option maxRecDepth 99999
namespace Go.Proofs.YtncddkcponjlpaaGreatDoor
open Go.RowKit Go.Proofs.Tryz
open Go renaming World→D!,Value→I?,Calls→G!,IntKind→ncy
open Go.RowKit renaming Hid→E!
open Decidable renaming decide→K?
open Option renaming some→C!,none→L?
open Bool renaming true→C?,false→H!
open Go.Proofs.Tryz renaming prog→E?
variable{P:Prop}
variable{w w1 w2 W W1:D!}{G G1 G2:Nat->Tag}{n ml id:Int}{b sb RB N r:Nat}{x x0:eY}{z z':PS}{m:aF}{A A':Int->Prop}{R:List Int}{a:Option Addr}
section
variable{cs cs':Array I?}
def Aj(G:Nat->Tag)(w:D!)(n:Int)(b sb:Nat)(x:eY)(z:PS)(W:D!):Prop:=∃e,aS W e n b sb x z/\Step (bG n) G w e W
def wg(G:Nat->Tag)(w:D!)(n:Int)(b sb:Nat)(x:eY)(z:PS)(RB:Nat)(cs:Array I?)(W:D!):Prop:=∃e,aS W e n b sb x z/\Step (bG n) G w e W/\aO W RB 228 cs/\e RB=free/\w.heap.size<=RB
theorem wg.at(h:wg G w n b sb x z RB cs W):Aj G w n b sb x z W:=by
 obtain⟨e,t,o,-⟩:=h;exact⟨e,t,o⟩
theorem wg.blk(h:wg G w n b sb x z RB cs W):aO W RB 228 cs:=by
 obtain⟨e,-,-,h,-⟩:=h;exact h
theorem Aj.drew(h:Aj G w n b sb x z W):Aj G w n b sb x z W.drew:=by
 obtain⟨e,t,o⟩:=h;exact⟨e,t.drew,o.trans<|aB _ _ _⟩
theorem wg.drew(h:wg G w n b sb x z RB cs W):wg G w n b sb x z RB cs W.drew:=by
 obtain⟨e,t,o,i,s⟩:=h;exact⟨e,t.drew,o.trans<|aB _ _ _,i,s⟩
theorem Aj.alloc(h:Aj G w n b sb x z W)(cs:Array I?):wg G w n b sb x z W.heap.size cs<|W.alloc (.cells cs 228):=by
 obtain⟨s,t,e⟩:=h;let⟨o,i⟩:=t.below<|ak U? (.cells cs 228);exact⟨_,o,e.trans i,aO.new _ _ _,fE _ free O?,e.size⟩
theorem wg.below(h:wg G w n b sb x z RB cs W)(o:K! W W1):wg G w n b sb x z RB cs W1:=by
 obtain⟨g,s,d,e,c,u⟩:=h;let⟨f,i⟩:=s.below o;exact⟨_,f,d.trans i,e.below o,(i.old _ e.lt).trans c,u⟩
theorem wg.set(h:wg G w n b sb x z RB cs W)(y:Only (· =RB) W W1)(I:aO W1 RB 228 cs'):wg G w n b sb x z RB cs' W1:=by
 obtain⟨q,d,o,E,g,O⟩:=h;have s:=Step.of (T:=λu=>u=free) (G:=q) y (λk _ e=>by rw[e];exact g) free
 have f:∀t u:Tag,t≠[]->aq t u->¬(λu=>u=free) u:=λt u S j e=>by
  rw[show u=free from e]at j;exact aJ S j
 refine⟨_,⟨d.p.step s λu=>f _ u N!,d.s.step s λu=>f _ u N!,d.xs,d.n01⟩,⟨s.os.trans o.os,s.tape.trans o.tape,s.output.trans o.output,Z? o.size s.size,λi l=>?_,λi l f=>?_⟩,I,(s.old _ E.lt).trans g,O⟩
 .exact(s.old i<|Z! l o.size).trans<|o.old i l
 .exact(y.block i (Z! l o.size) B!).trans<|o.keep i l f
theorem wg.turn{f:FuncId}{l:Array I?}{g:I?}(h:wg G w n b sb x z RB cs W)(k:∀o,aS W o n b sb x z->G! E? f l W λe t=>e=.returned g/\∃i,aS t i n b sb x z'/\Step (bG n) o W i t):
 G! E? f l W λe t=>e=.returned g/\wg G w n b sb x z' RB cs t:=by
 obtain⟨o,d,y,c,u,v⟩:=h;apply(k o d).mono;rintro e t ⟨rfl,i,j,s⟩;exact⟨rfl,i,j,y.trans s,s.heap c<|by rw[u];exact kQ d.n01,(s.old _ c.lt).trans u,v⟩
theorem Aj.turn{f:FuncId}{s:Array I?}{l:I?}(h:Aj G w n b sb x z W)(u:∀o,aS W o n b sb x z->G! E? f s W λe t=>e=.returned l/\∃i,aS t i n b sb x z'/\Step (bG n) o W i t):
 G! E? f s W λe t=>e=.returned l/\Aj G w n b sb x z' t:=by
 obtain⟨o,d,c⟩:=h;apply(u o d).mono;rintro e t ⟨rfl,i,g,y⟩;exact⟨rfl,i,g,c.trans y⟩
theorem adI(c:iq N z.1.queue)(d:N<=40000000000)(W:D!)(i:Nat->Tag)(h:aS W i n b sb x z):G! E? 176 #[ptr x.q,A! id] W λe o=>e=.returned (uh<|bY z.1.queue id)/\∃t,aS o t n b sb x ({z.1 with queue:=(bY z.1.queue id).1},z.2)/\Step (bG n) i W t o:=by
 apply(JZ id h.p.q (c.pre d) N!).mono;rintro e o ⟨rfl,t,s,l⟩;let⟨u,f⟩:=vQ h l s;exact⟨rfl,t,u,f⟩
theorem adJ(s:iq N z.1.queue)(c:N<=40000000000)(W:D!)(i:Nat->Tag)(h:aS W i n b sb x z):G! E? 177 #[ptr x.q,A! id] W λe o=>e=.returned (uh<|iR z.1.queue id)/\∃t,aS o t n b sb x ({z.1 with queue:=(iR z.1.queue id).1},z.2)/\Step (bG n) i W t o:=by
 refine(Kj id h.p.q (s.pre c) N!<|s.ahe id).mono ?_;rintro e o ⟨rfl,t,l,d⟩;let⟨u,f⟩:=vQ h d l;exact⟨rfl,t,u,f⟩
theorem X4(d:List UInt8)(c:au z.1.links id=C?)(g:(lk z.1 id).out.length<=1099511627776)(f:d.length<=maxLen)(W:D!)(i:Nat->Tag)(h:aS W i n b sb x z):G! E? 167 #[ptr<|x.f id,A! 61,D?<|bytesOf d] W λe o=>e=.returned (.tuple #[])/\∃t,aS o t n b sb x (aN z.1 id (λl=>jO l 61 d),z.2)/\Step (bG n) i W t o:=by
 let⟨y,v⟩:=h.aR c;refine(zU 61 (bytesOf d) v g<|by rw[aA];exact f).mono ?_;rintro e o ⟨rfl,t,s,u⟩;rw[mV]at s;let⟨k,j⟩:=h.gY c u s;exact⟨rfl,t,k,j⟩
theorem Aj.cells(h:Aj G w n b sb x z W)(k:au z.1.links id=C?)(f:(lk z.1 id).id=id):W.cell? (B? b 20)=C! (ptr x.q)/\W.cell? (B? (x.f id) 2)=N? id/\W.cell? (B? b 12)=C! (H? z.1.c.short)/\b<W.heap.size/\x.f id<W.heap.size:=by
 obtain⟨j,l,-⟩:=h;let⟨y,u⟩:=l.aR k;have d:=u.blk.k 2;rw[f]at d;exact⟨l.p.blk.cell 20,d,l.p.blk.cell 12,l.p.blk.lt,u.blk.lt⟩
theorem Fit.queue(h:Fit N r z){q:bh}(t:iq N q)(e:fN q<=fN z.1.queue):Fit N r ({z.1 with queue:=q},z.2):=(Hq h t e).fit
theorem X5(f:bF)(s:Bool)(h:(eU f s).2=0):(eU f s).1.length<=maxLen:=by
 have e:=(JT h).2.2;have t:f.d.data.toList.length<=2048:=by rw[bch];exact e
 unfold eU;unfold maxLen;split
 .simp
 .split<;>(simp only[X!,V!,l?];omega)
def zC(id:Int)(p:aF)(t:Int):aF:=
 let r:=bY p.queue id;let e:={p with queue:=(iR r.1 id).1}
 if(eU r.2.1 p.c.short).2=0 then aN e id (λl=>jO l 61 (eU r.2.1 p.c.short).1)else e
theorem TW(id:Int)(k:Nat)(p:aF)(t:Int)(o:(bY p.queue id).2.2=0)(i:((bY p.queue id).2.1.d.size:Int)<=t):kv id (k+1) p t=kv id k (zC id p t) (t-(bY p.queue id).2.1.d.size):=by
 conv=>lhs;unfold kv
 dsimp only;rw[F!<|by rintro(e|e);exact e o;omega];rfl
theorem TX(id:Int)(k:Nat)(p:aF)(e:Int)(h:(bY p.queue id).2.2≠0\/e<(bY p.queue id).2.1.d.size):kv id (k+1) p e={p with queue:=(bY p.queue id).1}:=by
 conv=>lhs;unfold kv
 dsimp only;rw[G? h]
theorem adK{S:aU}{p:aF}{room:Int}(h:Fit N r (p,S))(g:au p.links id=C?):Fit N (r+1) (zC id p room,S)/\au (zC id p room).links id=true:=by
 unfold zC;dsimp only;let⟨o,i⟩:=h.p.q.RF id;let⟨d,c⟩:=o.take id
 have t:=h.queue d (by
  show fN _<=fN p.queue;have s:fN (bY p.queue id).1=fN p.queue:=i;have u:fN (iR (bY p.queue id).1 id).1<=fN (bY p.queue id).1:=c;exact s▸u)
 have e:au ({p with queue:=(iR (bY p.queue id).1 id).1}:aF).links id=true:=g;split
 .exact⟨(dH t e (f:=λl=>jO l 61 _) B!<|(t.p.link e).1.send _ _).fit,(aG (λl=>jO l 61 _) e id).trans e⟩
 .exact⟨t.mono O? B!,e⟩
def U9(N r:Nat)(G:Nat->Tag)(w:D!)(n:Int)(b sb:Nat)(x:eY)(z:PS)(id:Int)(j:Nat)(p:aF)(e:Int)(W:D!):Prop:=
 Aj G w n b sb x (p,z.2) W/\Fit N (r+j) (p,z.2)/\au p.links id=C?/\kv id 8 z.1 z.1.c.rate=kv id (8-j) p e/\0<=e/\e<=4096
theorem TY(h:aS w G n b sb x z)(aa:Fit N r z)(bz:N<=40000000000)(e8:r+8<=10000000)(c3:au z.1.links id=C?):
 G! E? 135 #[ptr b,ptr<|x.f id] w (fu n b sb G w x z (kv id 8 z.1 z.1.c.rate,z.2) (.tuple #[])):=by
 have bs:=h.p.blk.k 3;have X:=h.p.blk.lt;have dl:=aa.p.cfg.ra;have c7:=aa.p.cfg.rb;have am:E!<|U9 N r G w n b sb x z id 0 z.1 z.1.c.rate w:=A? ⟨⟨G,h,Step.refl _ _ _⟩,aa,c3,rfl,B!,c7⟩;have bj:=A? λf s w=>OG f s w;let⟨B,hB⟩:=F?<|x.f id;rw[hB];have bf:=A? hB;let⟨d1,b1⟩:=F? z.1.c.rate;have cy:=A? b1;rw[b1]at bs dl c7;clear h aa c3 hB b1;unfold ptr dc at*
 go_wp2
 go_loopw[14,4] (λi dr wr=>∃(j:Nat) (p:aF) (q:Int),j<=8/\i=A! j/\dr=A! q/\E! (U9 N r G w n b sb x z id j p q wr)) (λi _ _=>8-(intOf i).toNat)
 case atStart=>exact⟨0,z.1,d1,I!,rfl,rfl,by rw[cy.out]at am;exact am⟩
 case round=>
  obtain⟨j,p,q,e5,rfl,rfl,al⟩:=hrel;clear am bs;let⟨ab,L,D,F,e6,e7⟩:=al.out;by_cases dj:j<8
  .have hjn:j+1<=8:=dj;have bo:=(L.p.link D).1.id;have br:=(L.p.link D).1.out;have b4:=L.p.q;let⟨a6,a7⟩:=b4.RF id;obtain⟨k,c5⟩:∃k,8-j=k+1:=⟨7-j,B!⟩;have c4:8-(j+1)=k:=B!;rw[c5]at F;have HST:=A? λdh=>F.trans<|TX id k p q dh;have rC:=A? λdb Z=>F.trans<|TW id k p q db Z;have c2:zC id p q=(if(eU (bY p.queue id).2.1 p.c.short).2=0 then aN {p with queue:=(iR (bY p.queue id).1 id).1} id (λl=>jO l 61 (eU (bY p.queue id).2.1 p.c.short).1)else{p with queue:=(iR (bY p.queue id).1 id).1}):=rfl;have Yr:=A? c2;have M4:=A?<|adK (room:=q) L D;have C:=A? λW G3 (h:aS W G3 n b sb x (p,z.2))=>adI (id:=id) b4 bz W G3 h
   have Dh:E!<|∀W Q,Aj G w n b sb x ({p with queue:=Q},z.2) W->W.cell? (B? b 20)=C! (P? x.q)/\W.cell? (B? B 2)=N? id/\W.cell? (B? b 12)=C! (H? p.c.short)/\b<W.heap.size/\B<W.heap.size:=A? λW Q h=>by
    have:=Aj.cells (z:=({p with queue:=Q},z.2)) h D bo;rw[bf.out]at this;exact this
   let⟨R,c1⟩:=F?<|bY p.queue id;obtain⟨a5,f,ao⟩:=R;unfold uh at C;rw[c1]at a6 a7 HST rC C Yr;simp only at a6 a7 HST rC C Yr;have bl:=A? a6;have cv:=A? a7;have V:=A? ab.drew;have e2:=A? L;have cn:=A? D;have cr:=A? br;have bi:=A? c4;generalize p.c.short=M at Yr Dh;obtain⟨ar,ap,-,X,ac⟩:=Dh.out _ p.queue V.out;clear ab L D F al bo br b4 a6 a7 c5 c4 c2 c1;unfold ptr at*
   go_upto_region 3 with fail
   refine wO (λg=>L! g b 20 (P? x.q)/\J? g B 2 id) (.two [(0,C?),(1,C?),(2,C?),(3,C?),(4,C?),(5,C?),(6,C?),(7,C?),(8,C?)] 9 13 (.fin [(10,C?),(11,C?),(12,C?),(13,H!),(14,H!),(15,C?)]) (.fin [(9,H!),(10,C?),(11,C?),(12,C?),(14,H!),(15,C?)])) M? M? rfl M? M? M? ⟨ar,ap⟩ (λ_ d _ _ _ h=>bav) ?_;generalize wr.drew=be at ar ap X ac V|-;simp only[tB,fQ,ύ,ϟ,baM,baO,baA,p?];refine T? ?_;refine jf ?_ ?_
   focus
    have I:=A?<|Aj.turn V.out<|λG3 H=>C.out be G3 H;unfold ptr at I;refine dg λd0 K u=>?_;go_wp2_with(go_at_call 176;refine M! I.out λw2 b2=>?_);obtain⟨da,d9,-,-,-⟩:=Dh.out _ _ b2;refine O! u ⟨da,d9⟩ ?_;clear u K I;show bO _ _ _ _ _ _ _;refine R? ?_;intro K u;have y:=A?<|b2.alloc xaa;go_wp2_with fail;generalize w2.alloc (.cells xaa 228)=bd at y|-;obtain⟨ax,Z,-,-,-⟩:=Dh.out _ _ y.out.at;refine O! u ⟨ax,Z⟩ ?_;clear u K b2;generalize w2.heap.size=RB at y|-
   rotate_left
   focus
    refine dg λd0 K u=>?_;have Y:=A?<|Aj.alloc V.out xaa;go_wp2_with fail;generalize be.alloc (.cells xaa 228)=w2 at Y|-;obtain⟨ax,Z,-,-,-⟩:=Dh.out _ p.queue Y.out.at;refine O! u ⟨ax,Z⟩ ?_;clear u K;show bO _ _ _ _ _ _ _;generalize be.heap.size=RB at Y|-;have I:=A?<|wg.turn Y.out<|λG3 H=>C.out w2 G3 H;unfold ptr at I;refine ai λK u=>?_;go_wp2_with(go_at_call 176;refine M! I.out λbd b3=>?_);have y:=A? b3;obtain⟨de,dd,-,-,-⟩:=Dh.out _ _ b3.at;refine O! u ⟨de,dd⟩ ?_;clear u K I Y b3;refine tK ?_
   all_goals
    have d2:=y.out.blk.cell 0;have d3:=y.out.blk.cell 1;have d4:=y.out.blk.cell 2;have d5:=y.out.blk.cell 3;have dv:=y.out.blk.frozen 0;have dy:=y.out.blk.frozen 1;have e0:=y.out.blk.frozen 2;have e1:=y.out.blk.frozen 3;refine ai λK u=>?_;go_wp2_with fail;have J:aO _ RB 228 #[H? f.b,H? f.e,A! f.seq,D? f.d]:=((((y.out.blk.set 0 (H? f.b) rfl).set 1 (H? f.e) rfl).set 2 (A! f.seq) rfl).set 3 (D? f.d) rfl);have a9:=y.out.set (mM bd RB (H? f.b) (H? f.e) (A! f.seq)<|D? f.d) J;generalize (((bd.setCell (B? RB 0)<|H? f.b).setCell (B? RB 1)<|H? f.e).setCell (B? RB 2)<|A! f.seq).setCell (B? RB 3) (D? f.d)=W4 at J a9|-;obtain⟨b6,b5,-,-,-⟩:=Dh.out _ _ a9.at;refine O! u ⟨b6,b5⟩ ?_;clear u K;refine T? ?_;have HP4:=A? a9;have dt:=J.k 3;have d7:=J.lt;clear d2 d3 d4 d5 dv dy e0 e1 J a9 y C ar ap ac X V;obtain⟨-,-,-,X,ac⟩:=Dh.out _ _ HP4.out.at;by_cases a8:ao=0
    .have dq:(ao !=0)=false:=by simp[a8]
     by_cases bv:q<f.d.size
     .have pT:=A? (HST.out (.inr bv));exact nal
     .have d8:(f.d.size:Int)<=q:=B!;have pT:=A?<|rC.out a8 d8;clear HST rC bv;have bk:=A? HP4.out.drew;have av:=A?<|wg.turn bk.out<|λG3 H=>adJ (id:=id) (z:=({p with queue:=a5},z.2)) bl.out bz _ G3 H;have c8:L! W4.drew b 20<|P? x.q:=b6;have j2:J? W4.drew B 2 id:=b5;unfold ptr at av;go_wp2;refine dW (λg=>L! g b 20 (P? x.q)/\J? g B 2 id) (zcb [9,1]) (⟨c8,j2⟩) ?_;refine R? ?_;intro K u;go_wp2_with(go_at_call 177;refine M! av.out λE O=>?_);let⟨cb,ca,c9,du,d6⟩:=Dh.out _ _ O.at;refine O! u ⟨cb,ca⟩ ?_;clear u K av c8 j2 b6 b5;apply aj;have cf:=O.blk.k 0;have ch:=O.blk.k 1;have ci:=O.blk.k 2;have cj:=O.blk.k 3;have b7:L! E.drew RB 0<|H? f.b:=cf;have b8:L! E.drew RB 1<|H? f.e:=ch;have ba:J? E.drew RB 2 f.seq:=ci;have bc:L! E.drew RB 3<|D? f.d:=cj;have b9:L! E.drew b 12<|H? M:=c9;have dk:=O.blk.lt;have e9:RB<E.drew.heap.size:=dk;have df:b<E.drew.heap.size:=du;have ag:=A? O.drew;have a3:=A?<|bj.out f M E.drew;have b0:(lk ({p with queue:=(iR a5 id).1}:aF) id).out.length<=40000*(r+j):=cr.out;have az:au ({p with queue:=(iR a5 id).1}:aF).links id=true:=cn.out;obtain⟨a4,c0⟩:∃a4:aF,{p with queue:=(iR a5 id).1}=a4:=⟨_,rfl⟩;rw[c0]at ag Yr b0 az;have bm:E!<|∀g,Below E.drew.heap.size E.drew g->L! g RB 0 (H? f.b)/\L! g RB 1 (H? f.e)/\J? g RB 2 f.seq/\L! g RB 3 (D? f.d)/\L! g b 12 (H? M):=A? λg a0=>⟨aw a0 b7,aw a0 b8,aw a0 ba,aw a0 bc,aw a0 b9⟩;have cp:=A? b0;have co:=A? az;let⟨cz,bx⟩:=F?<|eU f M;have an:=A?<|X5 f M;rw[bx]at a3 Yr an;obtain⟨cc,dp⟩:=cz;simp only at a3 Yr an;clear O bk HP4 dt d7 X ac bl cv Dh b0 az c0 bx cb ca bj;go_wp2;refine dW (λg=>L! g RB 0 (H? f.b)/\L! g RB 1 (H? f.e)/\J? g RB 2 f.seq/\L! g RB 3 (D? f.d)/\L! g b 12 (H? M)) (zcb [6,1,5]) (⟨b7,b8,ba,bc,b9⟩) ?_;refine R? ?_;intro K u;go_wp2_with(go_at_call 178;refine M! a3.out λcd a1=>?_);apply O! u (bm.out _ a1);clear u K;refine T? ?_;have a2:=A?<|ag.out.below a1;have e3:=Z! df a1.size;have e4:=Z! d6 a1.size;clear a1 ag bm a3 b7 b8 ba bc b9 cf ch ci cj c9;by_cases ad:dp=0
      .subst ad;have ae:=A?<|wg.turn a2.out<|λG3 H=>X4 cc co.out (by show(lk a4 id).out.length<=_;have:=cp.out;omega) (an.out rfl) cd G3 H;rw[bf.out]at ae;have ce:E!<|zC id p q=aN a4 id λl=>jO l 61 cc:=A? (by rw[Yr.out,G? rfl]);clear Yr;unfold ptr at ae;go_wp2_with fail;refine M! ae.out λds c6=>?_;have HR8:E!<|U9 N r G w n b sb x z id (j+1) (zC id p q) (q-f.d.size) ds:=A? ⟨by rw[ce.out];exact c6.at,M4.out.1,M4.out.2,by rw[bi.out];exact pT.out,B!,B!⟩;clear c6 ae a2 ce M4;exact nbj
      .have ea:=Q?.2 ad;have HR8:E!<|U9 N r G w n b sb x z id (j+1) (zC id p q) (q-f.d.size) cd:=A? ⟨by rw[Yr.out,F! ad];exact a2.out.at,M4.out.1,M4.out.2,by rw[bi.out];exact pT.out,B!,B!⟩;clear Yr a2 M4 ad;exact nbj
    .have dq:(ao !=0)=true:=by simp[a8]
     have pT:=A?<|HST.out (.inl a8);exact nal
  .obtain rfl:j=8:=B!
   have ck:E! (fu n b sb G w x z (kv id 8 z.1 z.1.c.rate,z.2) (.tuple #[]) (.returned (.tuple #[])) wr):=A? (by
    obtain⟨G3,k1,k2⟩:=ab;refine⟨rfl,G3,x,?_,k2,λ_ _=>rfl⟩;rw[F];exact k1)
   clear ab L D F al;go_wp2;go_end0;exact ck.out
end
def adN(W:D!)(o:Nat->Tag)(a:Option Addr)(R:List Nat):Prop:=R=[]\/∃e t,a=C! (B? e t)/\o e=free/\∀j (i:j<R.length),L! W e (t+j)<|ptr R[j]
def nI(G:Nat->Tag)(w:D!)(n:Int)(b sb:Nat)(x0:eY)(a:Option Addr)(R:List Int)(A:Int->Prop)(z:PS)(W:D!):Prop:=
 ∃e t,aS W e n b sb t z/\Step (bG n) G w e W/\adN W e a (R.map x0.f)/\∀k,A k->au z.1.links k=C?/\t.f k=x0.f k
theorem adN.step{R:List Nat}(h:adN W G1 a R)(s:Step (bG n) G1 W G2 W1)(c:n=0\/n=1):adN W1 G2 a R:=by
 rcases h with h|⟨e,u,rfl,t,o⟩
 .exact .inl h
 .by_cases i:R=[]
  .exact .inl i
  .have d:=h! (o 0<|ϛ.2 i);exact .inr ⟨e,u,rfl,(s.old _ d).trans t,λj l=>s.cell (o j l)<|by show¬bG n (G1 e);rw[t];exact kQ c⟩
theorem nI.drew(h:nI G w n b sb x0 a R A z W):nI G w n b sb x0 a R A z W.drew:=by
 obtain⟨e,l,t,o,i,s⟩:=h;exact⟨e,l,t.drew,o.trans<|aB _ _ _,i,s⟩
theorem nI.less(h:nI G w n b sb x0 a R A z W)(l:∀k,A' k->A k):nI G w n b sb x0 a R A' z W:=by
 obtain⟨e,c,t,o,i,s⟩:=h;exact⟨e,c,t,o,i,λk d=>s k<|l k d⟩
theorem nI.new{o:D!}{t:Nat->Tag}(s:Step (bG n) t o G w)(h:aS w G n b sb x z)(u:K! w W){c:Nat}(g:ky Ax W w.heap.size (J! a ((dR z.1).map x.f).length c)<|(dR z.1).map x.f):
 nI t o n b sb x a (dR z.1) (λk=>au z.1.links k=C?) z W:=by
 let⟨y,v⟩:=h.below u;refine⟨_,x,y,s.trans v,?_,λk f=>⟨f,rfl⟩⟩;let⟨E,O,e,q⟩:=qI g;cases e
 rcases q with e|⟨i,j,rfl,I,l,d⟩
 .exact .inl e
 .exact .inr ⟨i,j,rfl,fE _ _ l,d⟩
theorem nI.turn{F:FuncId}{g:I?}{k:Int}(h:nI G w n b sb x0 a R A z W)(E:Env w G ml)(O:A k)(d:∀i,A' i->A i/\au z'.1.links i=C?)
 (q:∀t o,aS W t n b sb o z->Env W t ml->au z.1.links k=C?->G! E? F #[ptr b,ptr<|o.f k] W (fu n b sb t W o z z' g)):
 G! E? F #[ptr b,ptr<|x0.f k] W λe y=>e=.returned g/\nI G w n b sb x0 a R A' z' y:=by
 obtain⟨t,o,s,u,j,l⟩:=h;let⟨I,S⟩:=l k O;have:=q t o s (E.uM s.n01 u) I;rw[S]at this;apply this.mono;rintro e y ⟨rfl,v,D,H,f,L⟩;exact⟨rfl,v,D,H,u.trans f,j.step f s.n01,λi c=>⟨(d i c).2,(L i (l i (d i c).1).1).trans (l i (d i c).1).2⟩⟩
section
variable(h:nI G w n b sb x0 a R A z W)
include h
theorem nI.cell{j:Nat}(s:j<R.length):∃t o,a=C! (B? t o)/\W.cell? (B? t<|o+j)=C! (ptr<|x0.f R[j]):=by
 obtain⟨l,f,d,c,i,u⟩:=h;rcases i with e|⟨t,o,e,-,i⟩
 .rw[List.map_eq_nil_iff]at e;rw[e]at s;cases s
 .have:=i j (by rw[g!];exact s);rw[bb2]at this;exact⟨t,o,e,this⟩
theorem nI.dF{k:Int}(i:A k):G! E? 48 #[ptr<|x0.f k] W (T! W<|H? (lk z.1 k).dF):=by
 obtain⟨d,f,t,c,u,o⟩:=h;let⟨s,l⟩:=o k i;let⟨y,e⟩:=t.aR s;rw[l]at e;exact kW e.blk
theorem nI.peer:W.cell? (B? b 25)=N? z.1.now/\b<W.heap.size:=by
 obtain⟨t,l,e,o,i,s⟩:=h;exact⟨e.p.blk.cell 25,e.p.blk.lt⟩
end
def uR(e:List Int)(p:aF)(i:Nat):aF:=let id:=e.getD ((i+p.now.toNat)%e.length) 0;if(lk p id).dF then kv id 8 p p.c.rate else p
theorem adO(p:aF):yE p=(List.range (dR p).length).foldl (uR<|dR p) p:=rfl
def abP(N r:Nat)(G:Nat->Tag)(w:D!)(n:Int)(b sb:Nat)(x:eY)(z:PS)(a:Option Addr)(j:Nat)(p:aF)(W:D!):Prop:=
 nI G w n b sb x a (dR z.1) (λk=>au z.1.links k=C?) (p,z.2) W/\Fit N (r+8*j) (p,z.2)/\(∀k,au z.1.links k=C?->au p.links k=C?)/\p=(List.range j).foldl (uR<|dR z.1) z.1
theorem X6(h:aS w G n b sb x z)(ap:Env w G ml)(hf:Fit N r z)(a2:N<=40000000000)(bc:r+64<=10000000):
 G! E? 99 #[ptr b] w (fu n b sb G w x z (yE z.1,z.2) (.tuple #[])):=by
 have a5:z.1.links.length<=8:=bbi;have M:=A?<|vR h.p hf.p a5 a2;have aa:=A? λW a c (an:K! w W) (q:ky Ax W w.heap.size (J! a ((dR z.1).map x.f).length c)<|(dR z.1).map x.f)=>nI.new (Step.refl (bG n) G w) h an q;have F:(dR z.1).length<=8:=by rw[j8];exact a5
 have J:E!<|∀k∈dR z.1,au z.1.links k=true:=A? λk s=>nW s;have O:=A? hf;have V:=A?<|adO z.1;unfold wU at M;let⟨R,a9⟩:=F?<|dR z.1;rw[a9]at M aa J V F;have u:=A? a9;unfold ptr at*
 go_in
 go_wp2_with(go_at_call 47;apply M.mono;rintro e w2 ⟨bd,rfl,q,ao⟩;obtain⟨a,c,rfl,-⟩:=qI q;have b5:=A?<|aa _ _ _ ao q;rw[g!]);let⟨t,C⟩:=F? R.length;rw[C]at F|-;have I:=A? C;go_loopw[9] (λi wr=>∃(j:Nat) (p:aF),j<=t/\i=A! j/\E! (abP N r G w n b sb x z a j p wr)) (λi _=>t-(intOf i).toNat)
 case atStart=>exact⟨0,z.1,S! _,rfl,A? ⟨by rw[u.out];exact b5,O,λ_ h=>h,rfl⟩⟩
 case round=>
  obtain⟨j,p,ba,rfl,ad⟩:=hrel;let⟨l,f,v,D⟩:=ad.out;rw[u.out]at l D;by_cases ar:j<t
  .have ax:0<=p.now:=f.p.n0;have az:p.now<=N:=f.p.n1;let⟨ae,b9⟩:=l.peer;obtain⟨o,b0⟩:∃o:Nat,p.now=o:=⟨p.now.toNat,B!⟩;have a1:(j+o)%t<t:=x? _ B!;have av:((j:Int)+(o:Int)).tmod (t:Int)=(((j+o)%t:Nat):Int):=naj;have L:(j+o)%t<R.length:=by rw[I.out];exact a1
   obtain⟨Z,a7,rfl,a8⟩:=l.cell L;have g:=J _<|l! L
   have a0:uR R p j=if(lk p R[(j+o)%t]).dF then kv R[(j+o)%t] 8 p p.c.rate else p:=by
    unfold uR;dsimp only
    have e:R.getD ((j+p.now.toNat)%R.length) 0=R[(j+o)%t]:=by
     have ag:p.now.toNat=o:=B!;rw[ba1,ag];simp only[I.out];rw[ο L];rfl
    rw[e]
   generalize R[(j+o)%t]=K at a8 g a0;have y:=A?<|l.dF g
   have ac:=A? (nI.turn (A':=λk=>au z.1.links k=C?) (z':=(kv K 8 p p.c.rate,z.2)) l ap g
    (λi a3=>⟨a3,(CY z.2 8 (room:=p.c.rate) f<|v K g).keep i N!<|v i a3⟩)
    (λB ab al _ am=>TY (id:=K) al f a2 B! am))
   have Q:=A?<|CY z.2 8 (id:=K) (room:=p.c.rate) f<|v K g;have Y:E!<|(List.range<|j+1).foldl (uR R) z.1=uR R p j:=A? (by rw[bag,ϙ,<-D];rfl);rw[b0]at ae ax az;have a4:j+1<=t:=ar;generalize (j+o)%t=b8 at av a1 a8;have E:=A? a0;have X:=A? v;unfold ptr at*
   have C:0<t:=B!;cases a6:(lk p K).dF with
   |true=>
    rw[a6]at y E;have d:E!<|uR R p j=kv K 8 p p.c.rate:=A? (by rw[E.out,G? rfl]);go_wp2_with(go_at_call 48;refine M! y λb7 H=>?_;rw[H]);refine M! ac λb6 b1=>?_;have S:E!<|abP N r G w n b sb x z (C!<|B? Z a7) (j+1) (uR R p j) b6:=A? ⟨by rw[u.out,d.out];exact b1,by rw[d.out];exact Q.fit,λk s=>by rw[d.out];exact Q.keep k N!<|X k s,by rw[u.out,Y.out]⟩;go_wp2;go_roundw
    case rel=>exact⟨j+1,_,a4,W!,S⟩
    case measure=>simp[intOf];omega
   |false=>
    rw[a6]at y E;have d:E!<|uR R p j=p:=A? (by rw[E.out,F! I!]);have S:E!<|abP N r G w n b sb x z (C!<|B? Z a7) (j+1) (uR R p j) wr:=A? ⟨by rw[u.out,d.out];exact l,by rw[d.out];exact f.mono O? B!,λk s=>by rw[d.out];exact X k s,by rw[u.out,Y.out]⟩;go_wp2_with(go_at_call 48;refine M! y λb7 H=>?_;rw[H]);go_roundw
    case rel=>exact⟨j+1,_,a4,W!,S⟩
    case measure=>simp[intOf];omega
  .obtain rfl:j=t:=B!
   have O:E! (fu n b sb G w x z (yE z.1,z.2) (.tuple #[]) (.returned (.tuple #[])) wr):=A? (by
    obtain⟨B,ab,b2,b3,-,b4⟩:=l;refine⟨rfl,B,ab,?_,b3,λk s=>(b4 k s).2⟩;rw[V.out,I.out,<-D];exact b2)
   go_wp2
   go_end0;exact O
def Ak(G:Nat->Tag)(w:D!)(n:Int)(b sb:Nat)(z:PS)(W:D!):Prop:=∃e t,aS W e n b sb t z/\Step (bG n) G w e W
theorem nI.any(h:nI G w n b sb x0 a R A z W):Ak G w n b sb z W:=by
 obtain⟨e,i,t,o,-⟩:=h;exact⟨e,i,t,o⟩
section
variable(h:Ak G w n b sb z W)
include h
theorem Ak.drew:Ak G w n b sb z W.drew:=by
 obtain⟨e,i,t,o⟩:=h;exact⟨e,i,t.drew,o.trans<|aB _ _ _⟩
theorem Ak.up(k:Int):G! E? 112 #[ptr sb,A! k] W (T! W<|H?<|Uq z.2 k):=by
 obtain⟨t,i,e,o⟩:=h;exact ae4 k e.s
theorem Ak.busy(k:Int):G! E? 114 #[ptr sb,A! k] W (T! W<|A!<|qY z.2 k):=by
 obtain⟨t,i,e,o⟩:=h;exact Oj k e.s
theorem Ak.cells:W.cell? (B? b 27)=C! (ptr sb)/\W.cell? (B? b 18)=N? z.1.side/\W.cell? (B? b 28)=N? z.1.last/\b<W.heap.size:=by
 obtain⟨d,u,l,-⟩:=h;have e:=l.p.blk.k 27;rw[l.xs]at e;exact⟨e,l.p.blk.cell 18,l.p.blk.cell 28,l.p.blk.lt⟩
end
theorem Ak.turn{F:FuncId}{i:Array I?}{d:I?}(h:Ak G w n b sb z W)(g:Env w G ml)(f:∀t o,aS W t n b sb o z->Env W t ml->G! E? F i W (fu n b sb t W o z z' d)):
 G! E? F i W λe c=>e=.returned d/\Ak G w n b sb z' c:=by
 obtain⟨t,o,s,l⟩:=h;refine(f t o s<|g.uM s.n01 l).mono ?_;rintro e c ⟨rfl,u,k,y,v,-⟩;exact⟨rfl,u,k,y,l.trans v⟩
theorem nI.idc(h:nI G w n b sb x0 a R A z W){k:Int}(g:A k)(f:(lk z.1 k).id=k):W.cell? (B? (x0.f k) 2)=N? k/\x0.f k<W.heap.size:=by
 obtain⟨O,H,d,I,S,u⟩:=h;let⟨j,E⟩:=u k g;let⟨y,l⟩:=d.aR j;rw[E]at l;have e:=l.blk.k 2;rw[f]at e;exact⟨e,l.blk.lt⟩
def BC(z:PS)(id:Int):PS:=if Uq z.2 id then z else fq z id
theorem qK{R:List Int}(h:R.Nodup){j:Nat}(s:j<R.length){k:Int}(o:k∈R.drop (j+1)):k∈R.drop j/\k≠R[j]:=by
 have e:=bbT s;refine⟨by rw[e];exact τ _ o,λi=>?_⟩;have t:(R.drop j).Nodup:=h.sublist<|List.drop_sublist _ _;rw[e,θ]at t;exact t.1<|i▸o
theorem sD{R:List Int}{j:Nat}(e:j<R.length):R[j]∈R.drop j:=by
 rw[bbT e];exact x!
theorem BD{f:PS->Int->PS}{R:List Int}{j:Nat}(e:j<R.length)(z:PS):(R.take<|j+1).foldl f z=f ((R.take j).foldl f z) R[j]:=by
 rw[u! e,ϙ];rfl
def oZ(f:PS->Int->PS)(t o N r:Nat)(P:PS->Prop)(G:Nat->Tag)(w:D!)(n:Int)(b sb:Nat)(x:eY)(z:PS)(a:Option Addr)(R:List Int)(j:Nat)(W:D!):Prop:=
 ∃e,nI G w n b sb x a R (λk=>k∈R.drop j) e W/\Fit (N+t*j) (r+o*j) e/\P e/\e=(R.take j).foldl f z
theorem oZ.next{f:PS->Int->PS}{s l:Nat}{P:PS->Prop}{F:FuncId}{rv:I?}{j:Nat}(h:oZ f s l N r P G w n b sb x z a R j W)(D:Env w G ml)(M:R.Nodup)(d:j<R.length)
 (Y:∀z',Fit (N+s*j) (r+l*j) z'->P z'->au z'.1.links R[j]=C?->bA (C! R[j]) (N+s*j+s) (r+l*j+l) z' (f z' R[j])/\P (f z' R[j]))
 (L:∀z',Fit (N+s*j) (r+l*j) z'->P z'->au z'.1.links R[j]=C?->∀t o,aS W t n b sb o z'->Env W t ml->G! E? F #[ptr b,ptr<|o.f R[j]] W (fu n b sb t W o z' (f z' R[j]) rv)):
 G! E? F #[ptr b,ptr<|x.f R[j]] W λe I=>e=.returned rv/\oZ f s l N r P G w n b sb x z a R (j+1) I:=by
 obtain⟨c,u,v,q,H⟩:=h
 have E:au c.1.links R[j]=true:=by
  obtain⟨t,o,_,_,_,g⟩:=u;exact(g _<|sD d).1
 let⟨O,s2⟩:=Y c v q E;refine(u.turn (A':=λk=>k∈R.drop (j+1)) (z':=f c R[j]) D (sD d) (λi C=>?_)<|λt o B V K=>L c v q E t o B V).mono ?_
 .let⟨y,S⟩:=qK M d C;refine⟨y,O.keep i (by simpa using S) ?_⟩;obtain⟨t,o,_,_,_,g⟩:=u;exact(g _ y).1
 .rintro e I ⟨rfl,k⟩;exact⟨rfl,_,k,by rw[Nat.mul_succ,Nat.mul_succ,<-bah,<-bah];exact O.fit,s2,by rw[BD d,<-H]⟩
theorem oZ.drew{f:PS->Int->PS}{e t:Nat}{P:PS->Prop}{j:Nat}(h:oZ f e t N r P G w n b sb x z a R j W):oZ f e t N r P G w n b sb x z a R j W.drew:=by
 obtain⟨s,o,i⟩:=h;exact⟨s,o.drew,i⟩
theorem MI{S:aU}{p:aF}{u q:Int}(h:¬(0<u/\q<=p.last+65536)):∀e,pJ S e p u q=p
 |0=>rfl
 |e+1=>by unfold pJ;rw[F! h]
def Jp(N r:Nat)(G:Nat->Tag)(w:D!)(n:Int)(b sb:Nat)(t:PS)(S:aU)(p:aF)(u q:Int)(W:D!):Prop:=
 Ak G w n b sb (p,S) W/\(∃s:Nat,Fit (N+8) s (p,S)/\s+2*u.toNat<=r+16)/\Sub (p,S)/\(∃e:Nat,vv t=(pJ S e p u q,S)/\max u 0*65537+(p.last+65537-q)<=e)/\
 (p.links.length:Int)+max u 0<=p.c.aV/\p.last<q/\q<=p.last+65537/\u<=8/\ -8<=u
section
variable{z0:PS}{S:aU}{p:aF}{u q:Int}(h:Jp N r G w n b sb z0 S p u q W)
include h
theorem Jp.stop(o:¬(0<u/\q<=p.last+65536)):Ak G w n b sb (vv z0) W:=by
 obtain⟨e,-,-,⟨i,t,-⟩,-⟩:=h;rw[t,MI o];exact e
theorem Jp.skip(c:0<u/\q<=p.last+65536)(f:Uq S q=H!):Jp N r G w n b sb z0 S p u (q+1) W:=by
 obtain⟨t,o,i,⟨e,s,g⟩,l,y,v,d⟩:=h;refine⟨t,o,i,?_,l,B!,B!,d⟩;cases e with
 |zero=>omega
 |succ e=>
  refine⟨e,?_,B!⟩;rw[s]
  conv=>lhs;unfold pJ
  rw[G? c,f,F! I!]
end
theorem Qi{S:aU}{p:aF}{q:Int}(h:Fit N r (p,S))(i:p.last<q):((jC p q 0 H!).links.length:Int)<=p.links.length+1:=by
 have s:=tz h.p i
 have t:au ({bH p q (iU q p.c (dZ p) 0 H!)with last:=max p.last q}:aF).links q=true:=by
  show au (bI p.links q _) q=C?;rw[lq];simp
 have o:au (bC {bH p q (iU q p.c (dZ p) 0 H!)with last:=max p.last q} q 2).links q=true:=(aG (λl=>{l with phase:=2}) t q).trans t;have e:(jC p q 0 H!).links.length=(bI p.links q<|iU q p.c (dZ p) 0 H!).length:=(mK _ o).trans<|mK (λl=>{l with phase:=2}) t;rw[e,eG,F!<|by rw[s];decide];omega
theorem abQ{u q l:Int}{e:Nat}(h:max u 0*65537+(l+65537-q)<=((e+1:Nat):Int))(t:0<u)(o:q<=l+65536):max (u-1) 0*65537+(q+65537-(q+1))<=(e:Int):=B!
theorem X7(p:aF)(q:Int):(jC p q 0 H!).last=max p.last q:=rfl
theorem Jp.more{g:PS}{S:aU}{p:aF}{u q:Int}(h:Jp N r G w n b sb g S p u q W)(H:Env w G ml)(O:N+8<=40000000000)(l:0<u/\q<=p.last+65536)(d:Uq S q=C?):
 G! E? 115 #[ptr b,A! q,A! 0,H? H!] W λe f=>e=.returned (.tuple #[])/\Jp N r G w n b sb g S (jC p q 0 H!) (u-1) ((jC p q 0 H!).last+1) f:=by
 obtain⟨y,⟨s,t,Y⟩,v,⟨i,j,E⟩,B,o,V,K,F⟩:=h;have c:=L9 t (id:=q) o d (by show(p.links.length:Int)+1<=p.c.aV;omega) 0 H!;have X:=Qi t o;have L:=X7 p q;refine M! (y.turn H<|λM J D C=>Ko 0 H! D C t.p (tz t.p o) B! B! O) λf k=>?_;have I:(jC p q 0 H!).c=p.c:=rfl;refine⟨rfl,k,⟨s+2,c.fit,B!⟩,c.sub v,?_,by rw[I];omega,B!,B!,B!,B!⟩;cases i with
 |zero=>omega
 |succ i=>
  refine⟨i,?_,by rw[L,Int.max_eq_right<|Int.le_of_lt o];exact abQ E l.1 l.2⟩;rw[j]
  conv=>lhs;unfold pJ
  rw[G? l,d,G? rfl]
def Qj(b sb:Nat)(o:Int)(t:Nat)(L:Nat)(e:D!):Prop:=L! e b 27 (P? sb)/\J? e b 18 o/\L! e b 29 (.map<|C! t)/\(Builtin.len_ #[90] 3 #[.map<|C! t]).run E? e=.ok (A! L) e
theorem Ak.len(h:Ak G w n b sb z W):∃i,Qj b sb z.1.side i z.1.links.length W:=by
 obtain⟨t,o,-,-⟩:=h.cells;obtain⟨l,s,e,-⟩:=h;refine⟨s.lm,t,o,e.p.blk.cell 29,?_⟩;rw[tW (P:=E?) e.p.lm underlying90 3,dN]
noncomputable def wY (b:Nat)(u q:I?)(w:D!):Nat:=(max (intOf u) 0*65537+(intOf ((w.cell?<|B? b 28).getD undef)+65537-intOf q)).toNat
theorem X8(h:aS w G n b sb x z)(bx:Env w G ml)(hf:Fit N r z)(ck:N+8<=40000000000):
 G! E? 95 #[ptr b] w (λe C=>e=.returned (.tuple #[])/\Ak G w n b sb (vv z) C):=by
 have c1:z.1.links.length<=8:=bbi;have ax:=A?<|vR h.p hf.p c1 B!;have c7:=A? λW a c (cr:K! w W) (a8:ky Ax W w.heap.size (J! a ((dR z.1).map x.f).length c)<|(dR z.1).map x.f)=>nI.new (Step.refl (bG n) G w) h cr a8;have b1:(dR z.1).length<=8:=by rw[j8];exact c1
 have b5:E!<|∀k∈dR z.1,au z.1.links k=true:=A? λk a4=>nW a4;have X:=A?<|wT hf.p.nd;have be:E!<|gW z=(dR z.1).foldl BC z:=A? rfl;have b7:=A?<|CX hf;have b4:E!<|vv z=(pJ (gW z).2 (9*65537) (gW z).1 (qY (gW z).2 (gW z).1.side-(gW z).1.links.length)<|(gW z).1.last+1,(gW z).2):=A? rfl;unfold wU at ax;generalize dR z.1=R at ax c7 b5 b1 X be;unfold ptr at*
 go_in
 go_wp2_with(go_at_call 47;apply ax.mono;rintro e w2 ⟨v,rfl,a8,cs⟩;obtain⟨a,c,rfl,-⟩:=qI a8;have F:=A?<|c7 _ _ _ cs a8;rw[g!]);let⟨a0,c6⟩:=F? R.length;rw[c6]at b1|-;have HN:=A? c6;go_loopw[9] (λi wr=>∃(j:Nat),j<=a0/\i=A! j/\E! (oZ BC 1 0 N r (λ_=>True) G w n b sb x z a R j wr)) (λi _=>a0-(intOf i).toNat)
 case atStart=>exact⟨0,S! _,rfl,A? ⟨z,F.less λk a4=>b5 k<|List.mem_of_mem_drop a4,hf,trivial,rfl⟩⟩
 case round=>
  obtain⟨j,d9,rfl,H⟩:=hrel;obtain⟨t,o,ch,-,bo⟩:=H.out;by_cases hlt:j<a0
  .have O:j<R.length:=Δ;have c0:j+1<=a0:=hlt;have a3:Fit (N+j) r t:=by have:=ch;rwa[mbV,bcF,bbc]at this
   obtain⟨bk,c4,rfl,d2⟩:=o.cell O
   have a4:au t.1.links R[j]=true:=by
    obtain⟨b2,c8,_,_,_,ar⟩:=o;exact(ar _<|sD O).1
   let⟨a1,cy⟩:=o.drew.idc (sD O) (a3.p.link a4).1.id;obtain⟨L,-,-,al⟩:=o.any.drew.cells;have s:=A?<|o.any.drew.up R[j]
   have c5:=A? (nI.turn (A':=λk=>k∈R.drop (j+1)) (z':=fq t R[j]) o.drew bx (sD O)
    (λi hi=>⟨(qK X O hi).1,(pN a3 R[j]).keep i (by simpa using(qK X O hi).2) (by
      obtain⟨b2,c8,_,_,_,ar⟩:=o;exact(ar _ (qK X O hi).1).1)⟩)
    (λb2 c8 cz _ d0=>(nj cz a3.p B! d0).mono λe C h=>h.1))
   have ba:=A?<|pN a3 R[j];have F:E!<|(R.take<|j+1).foldl BC z=if Uq t.2 R[j]then t else fq t R[j]:=A? (by rw[BD O,<-bo];rfl)
   have c9:=A?<|o.drew.less (A':=λk=>k∈R.drop (j+1)) λi hi=>(qK X O hi).1;let⟨K,M⟩:=F?<|R[j];rw[M]at d2 a1 cy s c5 ba F;unfold ptr at*
   cases I:Uq t.2 K with
   |true=>
    rw[I]at s F;have ad:E!<|oZ BC 1 0 N r (λ_=>True) G w n b sb x z (C!<|B? bk c4) R (j+1) wr.drew:=A? ⟨t,c9,a3.mono B! B!,trivial,by rw[F.out,G? rfl]⟩;go_wp2;refine dW (λC=>L! C b 27 (P? sb)/\J? C (x.f K) 2 K) (zcb [8,1,1]) (⟨L,a1⟩) ?_;refine R? ?_;intro b8 M;go_wp2_with(go_at_call 112;refine M! s λaa g=>?_;rw[g]);refine O! M ⟨L,a1⟩ ?_;refine T? ?_;go_wp2;go_roundw
    case rel=>exact⟨j+1,c0,W!,ad⟩
    case measure=>simp[intOf];omega
   |false=>
    rw[I]at s F;go_wp2;refine dW (λC=>L! C b 27 (P? sb)/\J? C (x.f K) 2 K) (zcb [8,1,1]) (⟨L,a1⟩) ?_;refine R? ?_;intro b8 M;go_wp2_with(go_at_call 112;refine M! s λaa g=>?_;rw[g]);refine O! M ⟨L,a1⟩ ?_;refine T? ?_;go_wp2_with fail;refine M! c5 λa9 a2=>?_;have ad:E!<|oZ BC 1 0 N r (λ_=>True) G w n b sb x z (C!<|B? bk c4) R (j+1) a9:=A? ⟨_,a2,ba.fit.mono B! B!,trivial,by rw[F.out,F! I!]⟩;go_wp2;go_roundw
    case rel=>exact⟨j+1,c0,W!,ad⟩
    case measure=>simp[intOf];omega
  .obtain rfl:j=a0:=B!;have cv:t=gW z:=by rw[be.out,bo,<-HN.out,v!]
   rw[<-cv]at b4 b7;obtain⟨E,-,c3,-⟩:=b7.out;have da:=Br E c3;have I:=E.s.up;have d3:=E.po;have db:=E.p.cfg.p8;have Y:=E.p.la0;have B:=E.p.la1
   have d8:qY t.2 t.1.side=t.2.up.length:=by
    unfold qY nM;rcases E.p.sd with e|e<;>rw[e]<;>rfl
   let⟨d1,a7⟩:=o.any.drew.len;obtain⟨-,-,y,al⟩:=o.any.drew.cells;have J:=A?<|o.any.drew.busy t.1.side
   have f:E!<|Jp N r G w n b sb z t.2 t.1 (qY t.2 t.1.side-t.1.links.length) (t.1.last+1) wr.drew:=A?
    ⟨o.any.drew,⟨r,E,B!⟩,c3,⟨9*65537,b4,B!⟩,B!,B!,B!,B!,B!⟩
   have bs:t.1.links.length<=8:=by have:=E.l8;omega
   have V:qY t.2 t.1.side<=8/\0<=qY t.2 t.1.side:=B!;let⟨ag,co⟩:=F? t.2;let⟨a6,cn⟩:=F? t.1;rw[co]at J f V;rw[cn]at J f V a7 y bs Y B;let⟨cd,cj⟩:=F? a6.last;let⟨bd,cp⟩:=F? a6.side;let⟨a5,ce⟩:=F? a6.links.length;let⟨ab,ci⟩:=F?<|qY ag bd;rw[cp]at J f V a7;rw[ce]at f a7 bs;rw[ci]at J f V;rw[cj]at f y Y B;obtain⟨L,bl,bm,c2⟩:=a7;obtain⟨V,d7⟩:=V;unfold ptr at*
   go_wp2
   refine dW (Qj b sb bd d1 a5) (zca [0,2,4,6,8,10,12,14,18,20,22,24,17,26,28,30]) (⟨L,bl,bm,c2⟩) ?_;refine R? ?_;intro b8 M;go_wp2_with(go_at_call 114;refine M! J λaa g=>?_;rw[g]);refine O! M ⟨L,bl,bm,c2⟩ ?_;refine T? ?_;generalize wr.drew=d4 at f y al|-;go_wp2_with fail;rw[show IntKind.i64.wrap (ab-a5)=ab-a5 from lY B! B!];generalize ab-(a5:Int)=U at f|-;go_loopw[4,5] (λaz av wr=>∃(p:aF) (u q:Int),az=A! u/\av=A! q/\E! (Jp N r G w n b sb z ag p u q wr)) (λaz av wr=>wY b az av wr)
   case atStart=>exact⟨a6,U,cd+1,rfl,rfl,f⟩
   case round=>
    obtain⟨p,u,q,rfl,rfl,H⟩:=hrel;obtain⟨L,-,y,al⟩:=H.out.1.cells;obtain⟨-,⟨df,bz,-⟩,-,-,-,an,ao,dd,de⟩:=H.out;have Y:0<=p.last:=bz.p.la0;have B:p.last<=(N:Int)+8:=bz.p.la1;have s:=A?<|H.out.1.up q;have b6:E!<|wY b (A! u) (A! q) wr=(max u 0*65537+(p.last+65537-q)).toNat:=A? (by unfold wY;rw[y];rfl);by_cases D:0<u/\q<=p.last+65536
    .cases I:Uq ag q with
     |true=>
      have ac:=A?<|H.out.more bx ck D I
      have Z:E!<|∀b0,(∃z',Ak G w n b sb (jC p q 0 H!,z') b0)->wY b (A!<|u-1) (A!<|(jC p q 0 H!).last+1) b0<wY b (A! u) (A! q) wr:=A? λb0 ap=>by
       obtain⟨z',ap⟩:=ap;rw[b6.out];unfold wY;rw[ap.cells.2.2.1];show(max (u-1) 0*65537+((jC p q 0 H!).last+65537-((jC p q 0 H!).last+1))).toNat<_;rw[Int.toNat_lt_toNat B!];omega
      have br:(jC p q 0 H!).last=max p.last q:=rfl;have bi:0<=(jC p q 0 H!).last:=by rw[br];omega
      have bj:(jC p q 0 H!).last<=100000000000:=by rw[br];omega
      generalize jC p q 0 H!=bc at ac Z bi bj;generalize p.last=ae at y D an ao Y B;obtain⟨bv,am⟩:=D;let⟨b9,bf⟩:=F? bc.last;have ca:=A? bf;rw[bf]at ac Z bi bj;rw[I]at s;unfold ptr at*
      go_wp2_with(go_at_call 112;refine M! s λaa g=>?_;rw[g]);refine M! ac λa9 a2=>?_;obtain⟨-,-,cf,d5⟩:=a2.1.cells;have d6:a9.cell? (B? b 28)=N? b9:=by rw[<-ca.out];exact cf
      have cb:=A?<|Z a9 ⟨_,a2.1⟩;go_wp2;go_roundw
      case rel=>exact⟨bc,u-1,b9+1,W!,W!,a2⟩
      case measure=>exact cb
     |false=>
      have cc:=A?<|H.out.skip D I
      have Z:E! (wY b (A! u) (A! (q+1)) wr<wY b (A! u) (A! q) wr):=A? (by
       rw[b6.out];unfold wY;rw[y];show(max u 0*65537+(p.last+65537-(q+1))).toNat<_;rw[Int.toNat_lt_toNat B!];omega)
      generalize p.last=ae at y D an ao Y B;obtain⟨bv,am⟩:=D;rw[I]at s;unfold ptr at*
      go_wp2_with(go_at_call 112;refine M! s λaa g=>?_;rw[g]);go_roundw
      case rel=>exact⟨p,u,q+1,W!,W!,cc⟩
      case measure=>exact Z
    .have b3:=A? (H.out.stop D);generalize p.last=ae at y D an ao Y B;unfold ptr at*
     by_cases bv:0<u
     .have am:ae+65536<q:=B!;go_wp2;go_end0;exact⟨rfl,b3⟩
     .have am:u<=0:=B!;go_wp2;go_end0;exact⟨rfl,b3⟩
