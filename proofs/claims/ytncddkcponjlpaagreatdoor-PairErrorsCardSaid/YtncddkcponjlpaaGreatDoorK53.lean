/- Walks and plain laws. -/
import Derived.Test.YtncddkcponjlpaaGreatDoorK35
set_option linter.unusedVariables false
set_option linter.unusedSimpArgs false
set_option maxHeartbeats 0
set_option maxRecDepth 99999
namespace Go.Proofs.YtncddkcponjlpaaGreatDoor
open Go.RowKit Go.Proofs.Tryz
open Go renaming World→D!,Value→I?,Calls→G!,IntKind→ncy
open Go.RowKit renaming Hid→E!
open Decidable renaming decide→K?
open Option renaming some→C!,none→L?
open Bool renaming true→C?,false→H!
open Go.Proofs.Tryz renaming prog→E?
variable{P:Prop}
variable{w w1 w2:D!}{G G1 G2:Nat->Tag}{n ml id:Int}{b sb N r:Nat}{x:eY}{z z':PS}{m:aF}
theorem PG{q:bM}(h:aS w G n b sb x z)(s:au z.1.links id=C?)(l:(lk z.1 id).proof=C! q):∃o,w.cell? (B? (x.f id) 1)=C! (ptr o)/\jx w o q/\∃y,cM w G [n,9,id] (x.f id) y (lk z.1 id)/\y.pf=C! o/\G o=[n,9,id]++[3]:=by
 let⟨y,i⟩:=h.aR s;have t:=i.pf;rw[l]at t;cases e:y.pf with
 |none=>rw[e]at t;exact t.elim
 |some o=>
  rw[e]at t;have:L! w (x.f id) 1<|vE y.pf:=i.blk.cell 1;rw[e]at this;exact⟨o,this,t.blk,y,i,e,t.tag⟩
theorem Ie{c:cT}{q t:bM}{s:List cT}{o i:aF}{h:Bool}(y:(lk z.1 id).proof=C! q)(d:(cw q c).1=t)(u:(cw q c).2.1=s)(f:bH z.1 id (lS {lk z.1 id with proof:=C! t} s)=o)
 (v:(bt o.proved id).getD H!=h)(g:{o with proved:=bI o.proved id (h||t.proved)}=i):
 oO z id c=if t.failed then fq (i,z.2) id else if(lk i id).phase=3/\t.proved=C?/\t.taken=C? then jG (i,z.2) id else(i,z.2):=by
 have e:aN z.1 id (λl=>lS {l with proof:=C! t} s)=o:=f;unfold oO;rw[y];dsimp only;rw[d,u,e,v,g]
def abu(b B t:Nat)(id:Int)(o:Bool)(i:Nat)(e:D!):Prop:=L! e b 31 (.map<|C! t)/\J? e B 2 id/\L! e B 1 (P? i)/\(Instr.lookup 92 (.map<|C! t) (A! id) H!).run E? e=.ok (H? o) e
theorem PI{t:Nat}{e:KV Bool}(h:bp w t<|dY (λ_ v=>H? v) e)(k:Int):(Instr.lookup 92 (.map<|C! t) (A! k) H!).run E? w=.ok (H?<|(bt e k).getD H!) w:=by
 rw[pg h underlying92 underlying3 k (H? H!) π H!,qU];cases bt e k<;>rfl
theorem XK{q:bM}(c:cT)(h:aS w G n b sb x z)(bf:Env w G ml)(al:Fit N r z)(hN:N<=40000000000)(ck:r+1<=10000000)(A:au z.1.links id=C?)(a6:(lk z.1 id).proof=C! q)(c9:c.value.size<=9223372036854775807):
 G! E? 160 #[ptr b,ptr<|x.f id,.agg (aK c).toArray] w (lp id n b sb G w x z (oO z id c) (.tuple #[])):=by
 have M:=(al.p.link A).1;have a5:=M.pf q a6;let⟨W,hw1⟩:=F?<|w.alloc (.cells (aK c).toArray 104);have b8:K! w W:=bac;let⟨Q,hQ⟩:=F? w.heap.size;have I:aO W Q 104 (aK c).toArray:=baY;let⟨an,ar⟩:=h.below b8;let⟨V,a9⟩:=F?<|grow G w.heap.size free;rw[a9]at an ar;have ba:V Q=free:=by rw[<-a9,<-hQ];exact fE G free O?
 have a4:=an.drew;let⟨pb,a0,ao,cf,a8,bm,O⟩:=PG a4 A a6;have C:=A?<|Sn (c:=c) ao a5.good c9;have Y:pb≠Q:=λe=>by rw[e,ba]at O;simp[free]at O
 have ac:x.f id≠pb:=λe=>by rw[<-e,a8.tag]at O;simp at O
 have b0:J? W.drew Q 0 c.code:=I.k 0;have b1:J? W.drew Q 1 c.id:=I.k 1;have b2:L! W.drew Q 2<|D? c.value:=I.k 2;have q3:L! W.drew Q 3<|D? c.name:=I.k 3;have ca:=a8.blk.lt;have cj:=a4.p.blk.lt;have cb:=I.lt;have c1:=ao.lt;let⟨q',a7⟩:=F?<|(cw q c).1;let⟨cs,a3⟩:=F?<|(cw q c).2.1;have a1:=a5.aef c;have a2:=JU q c;have ap:=a5.take c;rw[a3]at a1 a2;rw[a7]at ap;rw[a7,a3]at C
 have bs:E!<|∀j v,bq kL j W.drew.heap.size v cs->jx j pb q'->Only (· =pb) W.drew j->∃H,cM j H [n,9,id] (x.f id) cf {lk z.1 id with proof:=C! q'}/\Step (aq [n,9,id]) V W.drew H j/\OY j H [n,9,id] v cs:=A? λj v b9 c7 c8=>by
  let⟨c3,c4⟩:=a8.prf bm O c7 c8 c1;exact⟨_,c3,c4,b9.at,λk A=>by rw[fE V free<|b9.block k A];exact aJ N!,a1⟩
 have HF6:E!<|Fit N (r+1) (bH z.1 id<|lS {lk z.1 id with proof:=C! q'} cs,z.2):=A? (dH al A (f:=λl=>lS {l with proof:=C! q'} cs) (s:=r+1) B!<|(M.ZG ap).say a1 a2).fit;have bz:E!<|({lk z.1 id with proof:=C! q'}:aM).out.length+4110*cs.length<=1099511627776:=A? (by have:=M.out;show(lk z.1 id).out.length+_<=_;omega)
 have b6:(lS {lk z.1 id with proof:=C! q'} cs).proof=C! q':=by
  cases cs with
  |nil=>rfl
  |cons a cc=>
   cases cc with
   |nil=>
    show(kJ {lk z.1 id with proof:=C! q'} a).proof=_;rw[(Eh _ a).1.proof]
   |cons _ _=>simp at a2
 have c6:=A? b6;have HQQ:=A? a7;have Dh:=A? a3;have HPQ:=A? a6;let⟨B,hB⟩:=F?<|x.f id;rw[hB]at a0 ca ac|-;have HB:=A? hB;have bo:E!<|∀g,Only (· =pb) W.drew g->L! g B 1 (ptr pb)/\J? g Q 0 c.code/\J? g Q 1 c.id/\L! g Q 2 (D? c.value)/\L! g Q 3 (D? c.name):=A? λg F=>⟨F.cell a0 ac,F.cell b0<|X? Y,F.cell b1<|X? Y,F.cell b2<|X? Y,F.cell q3<|X? Y⟩;have bv:=A? a4;have bx:=A?<|ar.trans<|aB (bG n) V W;have HE:=A? bf;have X:=A? A;have ch:=A? M.id;have hn1:=h.n01;let⟨ab,bc⟩:=F?<|(bt z.1.proved id).getD H!;have c2:=A? bc;clear h bf al A a6 M a5 b8 I an ar a9 ba a4 ao a8 bm O Y ac a7 a3 a1 a2 ap b6 hB bc;rw[<-hQ]at cb;unfold aK at hw1 C|-;simp only[List.toArray]at hw1 C|-;unfold ptr at*
 go_in
 go_wp2_with fail;clear hw1;refine dW (λg=>L! g B 1 (P? pb)/\J? g Q 0 c.code/\J? g Q 1 c.id/\L! g Q 2 (D? c.value)/\L! g Q 3 (D? c.name)) (zcb [5,1,5]) (⟨a0,b0,b1,b2,q3⟩) ?_;refine R? ?_;intro K u;go_wp2_with(go_at_call 195;apply C.mono;rintro e j ⟨ce,rfl,bj,bd,aa⟩);apply O! u (bo _ aa);clear u K;refine T? ?_;let⟨H,bi,bk,be⟩:=bs j ce bj bd aa;have R:=CR (⟨_,bi⟩:cI j H [n,9,id] (x.f id) {lk z.1 id with proof:=C! q'}) be N! bz;rw[HB.out]at R;have R:=A? R;have b4:=A? bk;clear bi bk be bj bd aa bo C bs b0 b1 b2 q3 a0;unfold ptr at R;go_wp2_with(go_at_call 170;apply R.mono;rintro e w6 ⟨rfl,G6,am,bl⟩);rw[<-HB.out]at am;let⟨az,br⟩:=bv.gY X (b4.trans bl) am;let⟨P6,E⟩:=F?<|bH z.1 id<|lS {lk z.1 id with proof:=C! q'} cs
 have c0:E! (lk P6 id=lS {lk z.1 id with proof:=C! q'} cs):=A? (by
  rw[<-E];refine(show lk (bH z.1 id<|lS {lk z.1 id with proof:=C! q'} cs) id=lk (aN z.1 id<|λl=>lS {l with proof:=C! q'} cs) id from rfl).trans ?_;rw[dV,G? rfl])
 have HK6:E!<|au P6.links id=true:=A? (by rw[<-E];exact(aG (λl=>lS {l with proof:=C! q'} cs) X id).trans X);have Ai:E!<|∀i,au z.1.links i=C?->au P6.links i=true:=A? λi hi=>by rw[<-E];exact(aG (λl=>lS {l with proof:=C! q'} cs) X i).trans hi
 have HQ6:E!<|(lk P6 id).proof=C! q':=A? (by rw[c0.out];exact c6);have afz:E!<|(bt P6.proved id).getD H!=ab:=A? (by rw[<-E];exact c2);rw[E]at az HF6;have HI6:E!<|(lk P6 id).id=id:=A? (HF6.p.link HK6).1.id;have ahn:=A? E;have HS6:=A?<|bx.trans br;have y:=A? az.drew;obtain⟨pb,ad,b7,-⟩:=PG y HK6 HQ6;have ae:=fJ y HK6 HI6;have ag:=y.p.blk.k 31;have D:=PI y.p.vm id;simp only at D;rw[afz.out]at D;have De:=A?<|nU b7;have J:=A? y.p.vm;simp only at J;have ci:=y.p.blk.lt;have c5:=bW y HK6;rw[HB.out]at ad ae c5;let⟨b3,ax⟩:=F? x.vm;rw[ax]at ag D J;have b5:=A? ax;have Z:E!<|abu b B b3 id ab pb w6.drew:=A? ⟨ag,ae,ad,D⟩;clear az br am bl E R bv bx b4 b7 D ax ad ae ag;unfold ptr at De;go_wp2_with fail;let⟨PRv,hPR⟩:=F? q'.proved;rw[hPR]at De;cases ab with
 |true=>
  refine yS (abu b B b3 id C? pb) 24 [(0,1),(1,1),(2,1),(3,1),(4,1),(5,1),(6,1),(7,1),(8,1),(9,1),(10,1),(11,1),(12,1),(13,1),(14,1),(15,1),(16,1),(17,1),(18,1),(19,1),(20,1),(21,1),(22,0),(23,1),(24,0)] Z ?_;refine tL ?_;refine oh λK u=>?_;go_wp2_with fail;apply O! u Z;clear u K;refine tL ?_;refine iz λK u=>?_;go_wp2_with(refine eD rfl _ _ _ rfl underlying92 underlying3 id (H? C?) J rfl rfl rfl λw7 hm7 ho7 hz7=>?_);refine ah<|u _ _ ?_;clear u K;rw[<-b5.out]at hm7 ho7;let⟨t1,t2⟩:=y.p.prove (p:=bI P6.proved id<|C?||q'.proved) ho7 (by rw[<-jK (λ_ v=>Value.bool v)];exact hm7);let⟨p7,s7⟩:=y.peer t1 rfl<|t2.mono λcd av=>av;obtain⟨P7,hP7⟩:∃P7:aF,{P6 with proved:=bI P6.proved id (C?||q'.proved)}=P7:=⟨_,rfl⟩;exact naF
 |false=>
  refine yS (abu b B b3 id H! pb) 24 [(0,1),(1,1),(2,1),(3,1),(4,1),(5,1),(6,1),(7,1),(8,1),(9,1),(10,1),(11,1),(12,1),(13,1),(14,1),(15,1),(16,1),(17,1),(18,1),(19,1),(20,1),(21,1),(22,0),(23,1),(24,0)] Z ?_;refine tL ?_;refine oh λK u=>?_;go_wp2_with(go_at_call 168;refine M! De λwm ew=>?_);apply O! u Z;clear u K;refine tL ?_;refine iz λK u=>?_;go_wp2_with(refine eD rfl _ _ _ rfl underlying92 underlying3 id (H? PRv) J rfl rfl rfl λw7 hm7 ho7 hz7=>?_);refine ah<|u _ _ ?_;clear u K;rw[<-b5.out]at hm7 ho7;let⟨t1,t2⟩:=y.p.prove (p:=bI P6.proved id<|H!||q'.proved) ho7 (by rw[<-jK (λ_ v=>Value.bool v),hPR];exact hm7);let⟨p7,s7⟩:=y.peer t1 rfl<|t2.mono λcd av=>av;obtain⟨P7,hP7⟩:∃P7:aF,{P6 with proved:=bI P6.proved id (H!||q'.proved)}=P7:=⟨_,rfl⟩;exact naF
structure Ij(w:D!)(G:Nat->Tag)(n:Int)(v:I?)(l:List K4):Prop where
 seq:aD Cj w v l
 nv:∀k,v.ownBlock=C! k->¬bG n (G k)
 op:∀x∈l,aD dS w (.slice x.2.1 x.1.opts.length x.2.2) x.1.opts
 no:∀x∈l,∀k,(Value.slice x.2.1 x.1.opts.length x.2.2).ownBlock=C! k->¬bG n (G k)
theorem Ij.step{v:I?}{l:List K4}(h:Ij w G n v l)(hs:Step (bG n) G w G1 w1):Ij w1 G1 n v l:=
 ⟨aD.only h.seq hs.only h.nv,λk hk=>mdt,λx e=>aD.only (h.op x e) hs.only<|h.no x e,λx e k hk=>by rw[hs.old k<|aD.lt (h.op x e) k hk];exact h.no x e k hk⟩
theorem Ij.cells{a:Option Addr}{m c:Nat}{l:List K4}(h:Ij w G n (J! a m c) l)(j:Nat)(e:j<l.length):
 ∃g o,a=C! (B? g o)/\g<w.heap.size/\m=l.length/\w.cell? (B? g<|o+j*4)=N? (l[j].1.code)/\w.cell? (B? g<|o+j*4+1)=N? (l[j].1.id)/\w.cell? (B? g<|o+j*4+2)=N? (l[j].1.answer)/\w.cell? (B? g<|o+j*4+3)=C! (J! l[j].2.1 l[j].1.opts.length l[j].2.2):=by
 rcases h.seq with⟨i,_⟩|⟨g,o,u,d,f,y,s,t⟩
 .subst i;simp at e
 .cases d;exact⟨g,o,rfl,s,rfl,t j e 0 I!,t j e 1 I!,t j e 2 I!,t j e 3 I!⟩
theorem Ij.form{v:I?}{l:List K4}(h:Ij w G n v l):∃a c,v=J! a l.length c:=by
 obtain⟨a,c,e,-⟩:=aD.form h.seq;exact⟨a,c,e⟩
theorem XL(q:cR):(dJ q).1.length<=2048:=by
 unfold dJ;split
 .exact S! _
 .dsimp only;generalize(if fS q.code then[aE q.answer]else[])++(cA q.opts).1=s;split
  .exact S! _
  .rename_i h;simp only[X!,V!,l?]at h|-;omega
theorem zZ(p:aF)(i:Int)(f g:aM->aM):aN (aN p i f) i g=aN p i (λl=>g<|f l):=by
 have e:lk (aN p i f) i=f (lk p i):=mac;show bH (aN p i f) i (g<|lk (aN p i f) i)=_;rw[e];unfold aN bH;dsimp only;rw[sC]
theorem Jk{p:aF}{R:List Int}(s:dR p=R){j:Nat}(h:j<R.length)(o:(R.take j).filter (λid=>(lk p id).dF)=[])(i:(lk p R[j]).dF=C?):∃t,jP p=R[j]::t:=by
 unfold jP;have e:R.filter (λid=>(lk p id).dF)=(R.take j).filter (λid=>(lk p id).dF)++(R.drop j).filter (λid=>(lk p id).dF):=by rw[<-baR,mgm]
 rw[s,e,o,List.nil_append,bbT h,k?,G? i];exact⟨_,rfl⟩
theorem z7{ao:I?}{l:List K4}(h:aS w G n b sb x z)(hf:Fit N r z)(cn:N<=40000000000)(db:r<=10000000)(ac:Ij w G n ao l)(cp:l.length<=1):
 G! E? 173 #[ptr b,ao] w (fu n b sb G w x z (pI z.1<|l.map (·.1),z.2) (.tuple #[])):=by
 have ag:z.1.links.length<=8:=bbi;have Z:=A?<|vR h.p hf.p ag cn
 have ax:E!<|∀k∈dR z.1,au z.1.links k=C?/\∃y,aO w (x.f k) 107<|bS y<|lk z.1 k:=A? λk Y=>by
  have b9:=nW Y;let⟨y,H⟩:=h.p.mG b9;exact⟨b9,y,H.blk⟩
 have c0:E!<|∀k,au z.1.links k=C?->(lk z.1 k).out.length<=400000000000:=A? λk Y=>by have:=(hf.p.link Y).1.out;omega
 have av:(dR z.1).length<=8:=by rw[j8];exact ag
 have c6:=A?<|λR (ab:dR z.1=R) j (b8:j<R.length)=>Jk ab b8;have cb:E!<|∀R,dR z.1=R->jP z.1=R.filter (λid=>(lk z.1 id).dF):=A? λR ab=>by unfold jP;rw[ab]
 obtain⟨dh,dj,rfl⟩:=ac.form;let⟨X,a0⟩:=F? l.length;rw[a0]at cp|-;have b3:=A? a0;have c2:=A? h;have c4:=A? ac;have d9:=h.n01;unfold wU at Z;let⟨R,ap⟩:=F?<|dR z.1;rw[ap]at Z ax av;have b1:=A? ap;clear h hf ac ap ag a0;unfold ptr at*
 go_in
 go_wp2_with(go_at_call 47;apply Z.mono;rintro e w2 ⟨ao,rfl,bj,W⟩;obtain⟨a,d4,rfl,bo⟩:=qI bj;rw[g!]);have c7:=A?<|bo.imp (λe=>List.map_eq_nil_iff.1 e) id;let⟨be,bf⟩:=c2.below W;have a3:=A? be;have b2:=A? bf;have c3:=A? W;have dd:=W.size;clear bo bj W Z be bf;let⟨D,an⟩:=F? R.length;rw[an]at av|-;have a1:=A? an;clear an;go_wp2;go_loopw[13] (λi wr=>∃j:Nat,j<=D/\i=A! j/\wr=w2/\E! ((R.take j).filter (λid=>(lk z.1 id).dF)=[])) (λi _=>D-(intOf i).toNat)
 case atStart=>exact⟨0,S! _,rfl,rfl,A? rfl⟩
 case round=>
  obtain⟨j,b8,rfl,rfl,S⟩:=hrel;by_cases cy:j<D
  .rcases c7 with e|⟨d3,df,rfl,d7,-,hcell⟩
   .have:=a1.out;rw[e]at this;simp at this;omega
   have uL:j<R.length:=by rw[a1.out];exact cy
   have am:=hcell j mdv;rw[bb2]at am;let⟨ae,y,H⟩:=ax _<|l! uL;have al:aO wr (x.f R[j]) 107<|bS y<|lk z.1 R[j]:=(c3.block _ H.lt).trans H;have cs:=al.lt;have C:=A?<|zx (λid=>(lk z.1 id).dF) R j uL;have v:=A?<|kW al;have a6:=A? λck=>c6 R b1 j uL S.out ck;generalize R[j]=K at am v C cs a6 ae;have g:=A? ae;clear hcell H al ae;unfold ptr at*
   cases I:(lk z.1 K).dF with
   |false=>
    rw[I]at v C;clear I;go_wp2_with(go_at_call 48;refine M! v λd0 cj=>?_);go_roundw
    case rel=>exact⟨j+1,B!,W!,trivial,A?<|by rw[C.out,F! N!];exact S.out⟩
    case measure=>simp[intOf];omega
   |true=>
    rw[I]at v;have ci:=A? I;clear I;go_wp2_with(go_at_call 48;refine M! v λd0 cj=>?_);let⟨d1,b7⟩:=a6 ci;have a7:E!<|pI z.1 (l.map (·.1))=aN z.1 K (λt=>(l.map (·.1)).foldl ij t):=A? (by unfold pI;rw[b7]);clear b7 a6 C S am;let⟨dk,cv⟩:=F? wr;subst cv;go_loopw[22] (λi bz=>∃k:Nat,k<=X/\i=A! k/\E! (∃az,aS bz az n b sb x (aN z.1 K (λt=>((l.take k).map (·.1)).foldl ij t),z.2)/\Step (bG n) G w az bz)) (λi _=>X-(intOf i).toNat)
    case atStart=>exact⟨0,S! _,rfl,A? ⟨_,(a3.gY g (Step.refl _ _ _)<|a3.p.mG g).1,b2⟩⟩
    case round=>
     obtain⟨k,Y,rfl,b0⟩:=hrel;by_cases cr:k<X
     .let⟨G1,d,f⟩:=b0.out;have hk1:k<l.length:=by rw[b3.out];exact cr
      have ad:=c4.step f;obtain⟨d5,de,rfl,d8,-,b4,b5,b6,a8⟩:=ad.cells k hk1;have B:=ad.op _<|l! hk1;have V:E!<|(l.take<|k+1).map (·.1)=(l.take k).map (·.1)++[l[k].1]:=A? mde;generalize l[k]=q at b4 b5 b6 a8 B V;obtain⟨q,J,Q⟩:=q;simp only at b4 b5 b6 a8 B V;have u:=A?<|(aG (λt=>((l.take k).map (·.1)).foldl ij t) g K).trans g;let⟨s,F⟩:=F?<|aN z.1 K<|λt=>((l.take k).map (·.1)).foldl ij t
      have br:E! (aN z.1 K (λt=>((l.take (k+1)).map (·.1)).foldl ij t)=aN s K (λt=>ij t q)):=A? (by
       rw[<-F,zZ];congr 1
       funext t
       rw[V.out,ϙ];rfl)
      have bc:(lk s K).out.length<=1099511627776:=by
       rw[<-F,dV,G? rfl];have d6:=c0 K g;have co:k=0:=B!;subst co;show(lk z.1 K).out.length<=_;omega
      have c5:=A? bc;rw[F]at d u;have aa:K! wr<|wr.alloc (.cells #[A! q.code,A! q.id,A! q.answer,J! J q.opts.length Q] 157):=R!;have o:=tC q (J! J q.opts.length Q) (wr.alloc (.cells #[A! q.code,A! q.id,A! q.answer,J! J q.opts.length Q] 157))<|aD.below B aa;unfold iC at o;have E:E!<|∀t,ij t q=if(dJ q).2=0 then jO t 49197 (dJ q).1 else t:=A? λ_=>rfl
      have M:=XL q;generalize dJ q=cd at o E M;obtain⟨T,a9⟩:=cd;unfold kz at o;simp only at E M;have o:=A? o;have HLn:=A? M;let⟨bl,bs⟩:=d.below aa;have a2:=A? bl;have a4:=A?<|f.trans bs;have ce:E!<|∀t,a9=0->ij t q=jO t 49197 T:=A? λt e=>by rw[E.out,G? e]
      have cf:E!<|∀t,a9≠0->ij t q=t:=A? λt e=>by rw[E.out,F! e]
      generalize q.opts.length=cc at a8 o a2 a4;have d2:=bW d u;clear ad B F bc aa M bl bs d f E V;by_cases O:a9=0
      .have a5:=A? λt=>ce t O;subst O;go_wp2_with(go_at_call 218;refine M! o λbx A=>?_);let⟨c,L⟩:=a2.below A;let⟨dl,bk⟩:=c.aR u;have ar:=A?<|zU 49197 (bytesOf T) bk c5 mdo;have c8:=A? c;have c9:=A?<|a4.trans L;clear c L bk A;unfold ptr at ar;apply ar.mono;rintro e cz ⟨rfl,c1,ba,bi⟩;let⟨bm,bv⟩:=c8.gY u bi ba
       have HP5:E! (aS cz c1 n b sb x (aN z.1 K (λt=>((l.take (k+1)).map (·.1)).foldl ij t),z.2)):=A? (by
        rw[br.out]
        have e:aN s K (λt=>ij t q)=bH s K (jO (lk s K) 49197 (bytesOf T).data.toList):=by
         unfold aN;dsimp only;rw[a5.out];rfl
        rw[e];exact bm)
       have HS5:=A?<|c9.trans bv;clear bm bv ba bi ar;go_wp2;exact ncH
      .have a5:=A? λt=>cf t O;have da:=Q?.2 O;clear O;go_wp2_with(go_at_call 218;refine M! o λbx A=>?_);let⟨c,L⟩:=a2.below A
       have HP5:E! (aS bx (grow (grow G1 wr.heap.size free) (wr.alloc (.cells #[A! q.code,A! q.id,A! q.answer,J! J cc Q] 157)).heap.size free) n b sb x (aN z.1 K (λt=>((l.take (k+1)).map (·.1)).foldl ij t),z.2)):=A? (by
        rw[br.out]
        have e:aN s K (λt=>ij t q)=bH s K (lk s K):=by
         unfold aN;dsimp only;rw[a5.out]
        rw[e];exact(c.gY u (Step.refl _ _ _) (c.p.mG u)).1)
       have HS5:=A?<|a4.trans L;clear c L A;exact ncH
     .obtain rfl:k=X:=B!;let⟨G1,d,f⟩:=b0.out;rw[show l.take k=l by rw[<-b3.out,v!]]at d;have ch:=A? d;have ca:=A? f;clear d f;go_wp2;go_end0;refine⟨rfl,G1,x,?_,ca,λ_ _=>rfl⟩;rw[a7.out];exact ch
  .obtain rfl:j=D:=B!
   have bd:jP z.1=[]:=by
    have:=S.out;rw[<-a1.out,v!]at this;rw[cb R b1.out];exact this
   have a7:E!<|pI z.1 (l.map (·.1))=z.1:=A? (by unfold pI;rw[bd]);clear bd S;go_wp2;go_end0;refine⟨rfl,_,x,?_,b2,λ_ _=>rfl⟩;rw[a7.out];exact a3
theorem XP(t:dD)(d:cR)(e:Bool):(lw t d e).1.ask=t.ask:=by
 unfold lw;split
 .rfl
 .split
  .show(eW t d e).1.ask=t.ask;unfold eW;dsimp only;split<;>rfl
  .split
   .rfl
   .split<;>rfl
theorem ads{I D d S:I?}{l:List K4}{E:dD}(h:aS w G n b sb x z)(j:yK w G [n,3] x.k I D z.1.cC)(g:pR w1 w.heap.size S l)(Y:gF w1 x.k I d E)(B:E.ask=z.1.cC.ask)
 (R:(d=D/\E.last=z.1.cC.last)\/(S=Q!/\bq dS w1 w.heap.size d E.last.opts))(X:Only (· =x.k) w w1):
 ∃G1,aS w1 G1 n b sb x ({z.1 with cC:=E},z.2)/\Step (bG n) G w G1 w1/\Ij w1 G1 n S l:=by
 classical
 have O:Step (λu=>u=[n,3]) G w (λk=>if k<w.heap.size then G k else if d.ownBlock=C! k then[n,3,0]else free) w1:=Step.rule X (λk _ e=>by rw[e,j.tag]) _;have L:¬(λu=>u=[n,3]) ([n,3]++[0]):=λe=>ba7;have J:pd dS (λk=>if k<w.heap.size then G k else if d.ownBlock=C! k then[n,3,0]else free) ([n,3]++[0]) w1 I E.ask.opts:=by rw[B];exact j.oa.step O L
 have C:pd dS (λk=>if k<w.heap.size then G k else if d.ownBlock=C! k then[n,3,0]else free) ([n,3]++[0]) w1 d E.last.opts:=by
  rcases R with⟨rfl,e⟩|⟨-,e⟩
  .rw[e];exact j.ol.step O L
  .refine⟨e.base<|S! _,λk f=>?_⟩;have:=e.block k f;show(if k<w.heap.size then _ else if d.ownBlock=C! k then _ else _)=_;rw[F! B!,G? f];rfl
 have H:∀k,w.heap.size<=k->d.ownBlock≠C! k->¬bG n ((λk=>if k<w.heap.size then G k else if d.ownBlock=C! k then[n,3,0]else free) k):=λk F W=>by
  show¬bG n (if k<w.heap.size then _ else if d.ownBlock=C! k then _ else _);rw[F! B!,F! W];exact kQ h.n01
 let⟨Q,Z⟩:=h.peer (h.p.cC (O.mono (U:=aq [n,3]) λu hu=>baQ) ⟨I,d,Y,(O.old _ j.blk.lt).trans j.tag,J,C⟩) rfl<|O.mono λu hu=>meo
 have K:∀k,S.ownBlock=C! k->w.heap.size<=k->d.ownBlock≠C! k:=λk f F e=>by
  rcases R with⟨rfl,-⟩|⟨rfl,-⟩
  .have:=j.ol.lt k e;omega
  .cases f
 refine⟨_,Q,Z,g.1.at,λk f=>H k (g.1.block k f)<|K k f<|g.1.block k f,λy A=>(g.2 y A).at,λy A k f=>H k ((g.2 y A).block k f) λe=>?_⟩;rcases R with⟨rfl,-⟩|⟨rfl,-⟩
 .have:=j.ol.lt k e;have:=(g.2 y A).block k f;omega
 .obtain⟨a,c,M,-⟩:=aD.form g.1.at
  have V:l.length=0:=by
   have:=U! (λv=>match v with|.slice _ n _=>n|_=>0) M;simpa using this.symm
  rw[List.length_eq_zero_iff.1 V]at A;cases A
theorem zA{t:dD}{d:cR}{yes:Bool}(i:gi t=C?)(e:gi (lw t d yes).1=H!)(s:(lw t d yes).2.1=[]):(lw t d yes).1.last=d/\fO d.code=H!/\(dJ d).2=0:=by
 unfold lw at*
 split at e
 .rw[i]at e;cases e
 .rename_i h;split at e
  .rename_i o;rw[F! h,G? o]at s;unfold eW at s;cases s
  .rename_i o;split at e
   .rw[i]at e;cases e
   .rename_i l;split at e
    .rename_i c;rw[F! h,F! o,F! l,G? c];exact⟨rfl,by simpa using o,by simpa using h⟩
    .rw[i]at e;cases e
theorem Im{mk:Int}{p:aF}{q:cR}(h:q.answer=0):dA mk p q=vW p q mk:=by
 unfold dA vW;rw[F!<|by rw[h];decide]
theorem EE{mk:Int}{p:aF}{q:cR}(h:q.answer≠0):dA mk p q=p:=by
 unfold dA;rw[G? h]
theorem rE{mk:Int}:∀(e:List cR) {z:PS},Fit N r z->bA L? N r z (e.foldl (dA mk) z.1,z.2)
 |[],z,h=>bA.refl h _
 |q::e,z,h=>by
  have t:=GV h mk q;exact t.trans<|rE e t.fit
theorem Io{t:dD}{d:cR}{s:Bool}:∀q∈(lw t d s).2.1,∀o∈q.opts,o∈d.opts:=by
 unfold lw;split
 .intro q e;cases e
 .split
  .intro q e o i;unfold eW at e;simp only[j?]at e;subst e;exact i
  .split
   .intro q e o i;simp only[j?]at e;subst e;cases i
   .split<;>intro q e<;>cases e
theorem XQ{v:I?}(B:cR)(h:aS w G n b sb x z)(y:Fit N r z)(C:aI w v B.opts)(Y:∀o∈B.opts,o.2.size<=4611686018427387904)(O:B.opts.length<=2049)(g:Bool)(R:∀k,v.ownBlock=C! k->k≠x.k):
 G! E? 204 #[ptr x.k,.agg<|iC B v,H? g] w λe f=>∃j E l u,e=.returned (.tuple #[J! j l.length E,A! (lw z.1.cC B g).2.2])/\l.map (·.1)=(lw z.1.cC B g).2.1/\aS f u n b sb x ({z.1 with cC:=(lw z.1.cC B g).1},z.2)/\Step (bG n) G w u f/\Ij f u n (J! j l.length E) l/\Only (· =x.k) w f:=by
 let⟨V,K,S⟩:=h.p.k;refine(XO (d:=B) g S.blk C ⟨y.p.t.l0,y.p.t.l1⟩ R ⟨y.p.t.c0,y.p.t.c1⟩).mono ?_;rintro e f ⟨X,l,W,rfl,I,D,L,O,A⟩;obtain⟨j,E,rfl,-⟩:=aD.form I.1.at;let⟨u,M,F,H⟩:=ads h S I L (XP _ _ _) O A;exact⟨j,E,l,u,rfl,D,M,F,H,A⟩
theorem PQ(d:List UInt8)(h:aS w G n b sb x z)(B:Env w G ml)(a1:Fit N r z)(b7:N<=40000000000)(b8:r+1<=10000000)(S:au z.1.links id=C?)(a9:d.length<=4611686018427387904)(al:(iG d).1.value.size<=9223372036854775807):
 G! E? 118 #[ptr b,ptr<|x.f id,.agg #[A! 49699,D?<|bytesOf d]] w (lp id n b sb G w x z (dL z id (49699,d)) (.tuple #[])):=by
 have ac:=(a1.p.link S).1;let⟨W,hw1⟩:=F?<|w.alloc (.cells #[A! 49699,D?<|bytesOf d] 190);have Q:K! w W:=bac;let⟨b4,hQ⟩:=F? w.heap.size;have K:aO W b4 190 #[A! 49699,D?<|bytesOf d]:=baY;have bi:=K.k 0;have bj:=K.k 1;have b9:=K.lt;have bf:=(h.below Q).1.p.blk.lt;have E:=A?<|aad d W a9
 have an:E!<|∀l,K! w l->aS l (grow G w.heap.size free) n b sb x z/\Step (bG n) G w (grow G w.heap.size free) l/\Env l (grow G w.heap.size free) ml:=A? λl L=>by
  let⟨p,s⟩:=h.below L;exact⟨p,s,B.uM h.n01 s⟩
 have I:=A?<|λl M q (a3:aS l M n b sb x z) (B:Env l M ml) (R:(lk z.1 id).proof=C! q)=>XK (iG d).1 a3 B a1 b7 b8 S R al;have ar:=A? λl M (a3:aS l M n b sb x z)=>fJ a3 S ac.id
 have A:E!<|∀l,K! w l->l.cell? (B? (x.f id) 3)=N? ((lk z.1 id).phase)/\x.f id<l.heap.size/\(∀q,(lk z.1 id).proof=C! q->∃H,l.cell? (B? (x.f id) 1)=C! (ptr H))/\((lk z.1 id).proof=L?->l.cell? (B? (x.f id) 1)=C! (.pointer L?)):=A? λl L=>by
  let⟨p,s⟩:=h.below L;let⟨bc,V⟩:=p.aR S;refine⟨V.blk.cell 3,V.blk.lt,λq R=>?_,λR=>?_⟩
  .obtain⟨H,Y,-⟩:=PG p S R;exact⟨H,Y⟩
  .have Y:=V.blk.k 1;have Z:=V.pf;rw[R]at Z;cases e:bc.pf with
   |none=>rw[e]at Y;exact Y
   |some H=>rw[e]at Z;exact Z.elim
 have g:E!<|dL z id (49699,d)=if(iG d).2=0/\(lk z.1 id).proof.isSome=C?/\(lk z.1 id).phase≠6 then oO z id (iG d).1 else z:=A? rfl
 let⟨b3,ap⟩:=F?<|(lk z.1 id).phase;let⟨b2,a8⟩:=F?<|(lk z.1 id).proof;rw[ap]at A g;rw[a8]at A g I;generalize iG d=b5 at E I g;obtain⟨k,b6⟩:=b5;unfold ic aK at E;unfold aK at I;simp only[List.toArray]at E I g;let⟨bd,a0⟩:=F?<|x.f id;rw[a0]at I A|-;have be:=A? a0;have C:=A? Q;clear h B a1 S a9 ac a0 K Q al ap a8;rw[<-hQ]at b9;unfold ptr at*
 have aa:∀u,K! W u->K! w (u.alloc (.cells #[A! k.code,A! k.id,D? k.value,D? k.name] 104)):=λu a7=>(C.trans<|a7.mono C.size).trans<|(ak (P! u.heap.size u) _).mono (C.trans<|a7.mono C.size).size;have j:=A? aa;clear aa
 have a5:∀(l:D!),K! w l->dL z id (49699,d)=z->lp id n b sb G w x z (dL z id (49699,d)) (.tuple #[]) (.returned (.tuple #[])) l:=λl L e=>by
  obtain⟨p,s,-⟩:=an l L;exact⟨⟨rfl,_,x,by rw[e];exact p,s,λ_ _=>rfl⟩,ar _ _ p⟩
 have X:=A? a5;clear a5;by_cases F:b6=0
 .subst F;cases b2 with
  |none=>
   have O:E!<|dL z id (49699,d)=z:=A? (by rw[g.out,F! N!]);clear g;go_in;go_wp2_with(go_at_call 159;refine M! E λu f=>?_;obtain⟨J,a2,-,y⟩:=A _<|j u f;have y:=y rfl);go_end0;exact X _ (j u f) O
  |some q=>
   by_cases D:b3=6
   .have O:E!<|dL z id (49699,d)=z:=A? (by rw[g.out,F!<|by simp[D]]);subst D;clear g;go_in;go_wp2_with(go_at_call 159;refine M! E λu f=>?_;obtain⟨J,a2,y,-⟩:=A _<|j u f;let⟨H,y⟩:=y q rfl);go_end0;exact X _ (j u f) O
   .have O:E!<|dL z id (49699,d)=oO z id k:=A? (by rw[g.out,G?<|by simp[D]]);have bk:=Q?.2 D;clear g D;go_in;go_wp2_with(go_at_call 159;refine M! E λu f=>?_;obtain⟨J,a2,y,-⟩:=A _<|j u f;let⟨H,y⟩:=y q rfl);let⟨am,ao,a6⟩:=an _<|j u f;have a4:=A?<|I _ _ q am a6 rfl;apply a4.mono;rintro e bl ⟨⟨rfl,av,ba,ad,ae,ag⟩,ab⟩;have az:=A? ad;have b0:=A?<|ao.trans ae;have b1:=A? ag;have ax:=A? ab;clear am ao a6 ad ae ag ab a4 f;go_wp2;go_end0;refine⟨⟨rfl,av,ba,?_,b0,b1⟩,ax⟩;rw[O.out];exact az
 .have R:=Q?.2 F;have O:E!<|dL z id (49699,d)=z:=A? (by rw[g.out,F!<|λe=>F e.1]);clear g F;go_in;go_wp2_with(go_at_call 159;refine M! E λu f=>?_;obtain⟨J,a2,-,-⟩:=A _<|j u f);go_end0;exact X _ (j u f) O
