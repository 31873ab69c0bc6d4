/- Walks and plain laws. -/
import Derived.Test.YtncddkcponjlpaaGreatDoorK23
import Derived.Test.YtncddkcponjlpaaGreatDoorK24
set_option linter.unusedVariables false
set_option linter.unusedSectionVars false
set_option linter.unusedSimpArgs false
set_option maxHeartbeats 0
set_option maxRecDepth 99999
namespace Go.Proofs.YtncddkcponjlpaaGreatDoor
open Go.RowKit Go.Proofs.Tryz
open Go renaming World→D!,Value→I?,Calls→G!,IntKind→ncy
open Go.RowKit renaming Hid→E!
open Decidable renaming decide→K?
open Option renaming some→C!,none→L?
open Bool renaming true→C?,false→H!
open Go.Proofs.Tryz renaming prog→E?
variable{P:Prop}
section
variable{w w1:D!}{G G1:Nat->Tag}{t:Tag}{s mb:Nat}{m:aU}{f:Int->Nat}
theorem VR(p t:Nat)(o:I?)(s:cu)(w:D!)(h:bJ w p t o s):
 G! E? 234 #[P? p] w (S? w (.agg<|aC s.other)):=by
 have k:=h.k 10;have j:J? w p (10+1) s.other.aH:=h.cell<|10+1;have z:J? w p (10+2) s.other.cW:=h.cell<|10+2;have E:L! w p (10+3)<|H? s.other.short:=h.cell<|10+3;have A:L! w p (10+4)<|D? s.other.dh:=h.cell<|10+4;have O:J? w p (10+5) s.other.num:=h.cell<|10+5;have I:=h.lt;go_in;go_wp2_with fail
 obtain⟨n,l,d,u,g,y⟩:(w.alloc (.cells (aC s.other) 240)).cell? (B? w.heap.size 0)=N? s.other.iO/\(w.alloc (.cells (aC s.other) 240)).cell? (B? w.heap.size 1)=N? s.other.aH/\(w.alloc (.cells (aC s.other) 240)).cell? (B? w.heap.size 2)=N? s.other.cW/\(w.alloc (.cells (aC s.other) 240)).cell? (B? w.heap.size 3)=C! (H? s.other.short)/\(w.alloc (.cells (aC s.other) 240)).cell? (B? w.heap.size 4)=C! (D? s.other.dh)/\(w.alloc (.cells (aC s.other) 240)).cell? (B? w.heap.size 5)=N? s.other.num:=by
  refine⟨?_,?_,?_,?_,?_,?_⟩<;>(rw[j!];rfl)
 unfold aC at n l d u g y;refine V? (v:=.agg<|aC s.other) (by simp[results,results234,go_sem,n,l,d,u,g,y,aC]) rfl ⟨rfl,R!⟩
theorem Wm(p t q:Nat)(o po ov:I?)(s:cu)(r:cL)(w:D!)(h:bJ w p t o s)(D:aI w o s.os)(a1:cl w q po ov r)(R:aI w po r.p.opts)(X:r.p.code=2):
 G! E? 223 #[P? p,P? q] w (S? w (.tuple #[A! 8,H?<|K? (r.p.id=s.asked)&&K? (r.p.opts=s.os)])):=by
 have A:=Rl po o r.p.opts s.os w.drew (R.below (P! _ _).drew)<|D.below (P! _ _).drew;obtain⟨F,Y,rfl,a3,a6⟩:=aD.form R;obtain⟨C,M,rfl,a4,a5⟩:=aD.form D;let⟨V,y,j,a8,a9,aa,ab⟩:=a1.cells;rw[X]at V;have z:=h.k 17;have E:=h.k 18;generalize K? (r.p.opts=s.os)=a7 at A|-;let⟨n,a0⟩:=F? r.p.opts.length;let⟨m,Z⟩:=F? s.os.length;let⟨id,J⟩:=F? r.p.id;let⟨H,a2⟩:=F? s.asked;rw[a0]at j A;rw[Z]at E A;rw[J]at y|-;rw[a2]at z|-;by_cases hi:id=H
 .subst hi;have O:K? (id=id)=true:=b! rfl;rw[O,maS];have B:(id==id)=true:=N!;go_wp2;refine dW (λu=>J? u q 1 id/\L! u q 2 (J! F n Y)/\J? u p 17 id/\L! u p 18 (J! C m M)) (zcb [20,1,3]) ⟨y,j,z,E⟩ ?_;refine R? ?_;intro K I;go_wp2_with(go_at_call 257;refine M! A λw1 L=>?_);have g:=λ{a:Addr} {v:I?} (h:w.cell? a=C! v)=>af (W:=w.drew) L h;refine O! I ⟨g y,g j,g z,g E⟩ ?_;refine T? ?_;have N:K! w w1:=(P! _ _).drew.trans L;go_wp2;go_ret2;exact⟨rfl,N⟩
 .have O:=W? hi;rw[O,mcY];have B:=Q?.2 hi;go_wp2;refine dW (λu=>J? u q 1 id/\L! u q 2 (J! F n Y)/\J? u p 17 H/\L! u p 18 (J! C m M)) (zcb [20,1,3]) ⟨y,j,z,E⟩ ?_;refine R? ?_;intro K I;go_wp2_with fail;refine O! I ⟨y,j,z,E⟩ ?_;refine T? ?_;have N:K! w w.drew:=(P! _ _).drew;go_wp2;go_ret2;exact⟨rfl,N⟩
theorem Ox(p t q:Nat)(o po ov:I?)(s:cu)(r:cL)(w:D!)(h:bJ w p t o s)(O:cl w q po ov r)(y:r.p.code=3\/r.p.code=4)(hi:r.p.id≠s.asked):
 G! E? 223 #[P? p,P? q] w (S? w (.tuple #[A! 0,H? H!])):=by
 let⟨z,u,H,L,D,C,M⟩:=O.cells;have g:=h.k 17;let⟨id,A⟩:=F? r.p.id;let⟨n,I⟩:=F? s.asked;let⟨c,E⟩:=F? r.p.code;rw[A]at u hi;rw[I]at g hi;rw[E]at z y;have R:(id !=n)=true:=by simp[hi]
 have N:K! w w.drew:=(P! _ _).drew;rcases y with rfl|rfl
 all_goals
  go_wp2
  refine dW (λj=>J? j q 1 id/\J? j p 17 n) (zcb [10]) ⟨u,g⟩ ?_;refine T? ?_;go_wp2;go_ret2;exact⟨rfl,N⟩
theorem Oy(p t q:Nat)(o po ov:Value)(s:cu)(r:cL)(w:World)(h:bJ w p t o s)(hm:jL s.own=true)(hr:cl w q po ov r)(Lf:aI w po r.p.opts)(hqp:q≠p)(hc:r.p.code=3\/r.p.code=4)(hi:r.p.id=s.asked):
 Calls prog 223 #[.pointer<|some<|B? p 0,.pointer<|some<|B? q 0] w λe w'=>e=.returned (.tuple #[A! 9,.bool true])/\bJ w' p t o {s with own:=(uy s.own r.p.code r.p.opts).1}/\Only (· =p) w w':=by
 have hj:=Q6 s.own r.p.code po r.p.opts w.drew.drew hm hc<|Lf.below (P! _ _).drew.drew;obtain⟨pa,pc,rfl,NZ,acH⟩:=aD.form Lf;obtain⟨c0,c1,c2,c3,c4,c5,c6⟩:=hr.cells;obtain⟨e0,e1,e2,e3,e4,e5⟩:=h.owns;have e17:=h.k 17;rw[hi]at c1;obtain⟨ask,lT⟩:∃x,s.asked=x:=⟨_,rfl⟩;rw[lT]at e17 c1;obtain⟨J,hJ⟩:∃J,(uy s.own r.p.code r.p.opts).1=J:=⟨_,rfl⟩;rw[hJ]at hj|-;unfold aC at hj;obtain⟨own,hon⟩:∃x,s.own=x:=⟨_,rfl⟩;rw[hon]at hj e0 e1 e2 e3 e4 e5;obtain⟨n,hno⟩:∃n,r.p.opts.length=n:=⟨_,rfl⟩;rw[hno]at c2 hj;obtain⟨c,hcc⟩:∃x,r.p.code=x:=⟨_,rfl⟩;rw[hcc]at c0 hc hj;rcases hc with rfl|rfl
 all_goals
  go_wp2
  refine dW (λw'=>w'.cell? (B? q 1)=N? ask/\w'.cell? (B? p 17)=N? ask) (zcb [10]) ⟨c1,e17⟩ ?_;refine tK ?_;refine aj ?_;go_wp2;refine yS (λw'=>w'.cell? (B? p 4)=N? own.iO/\w'.cell? (B? p<|4+1)=N? own.aH/\w'.cell? (B? p<|4+2)=N? own.cW/\w'.cell? (B? p<|4+3)=some (.bool own.short)/\w'.cell? (B? p<|4+4)=some (.string own.dh)/\w'.cell? (B? p<|4+5)=N? own.num/\w'.cell? (B? q 2)=some (.slice pa n pc)/\w'.cell? (B? q 0)=N? _) 21 [(0,1),(1,1),(2,1),(3,1),(4,1),(5,1),(6,1),(7,1),(8,1),(9,1),(10,1),(11,1),(12,1),(13,1),(14,1),(15,0),(16,1),(17,1),(18,2),(19,2),(20,2),(21,0)] ⟨e0,e1,e2,e3,e4,e5,c2,c0⟩ ?_;refine tL ?_;refine oh<|λK hK=>?_;go_wp2_with(go_at_call 258;refine hj.mono ?_;rintro e w1 ⟨rfl,hb1⟩);have g:=λ{a:Addr} {v:Value} (h:w.cell? a=some v)=>af (W:=w.drew.drew) hb1 h;have j6:=g c2;have j7:=g c0;refine ah<|hK _ _ ⟨g e0,g e1,g e2,g e3,g e4,g e5,j6,j7⟩ ?_;refine tL ?_;have hn1:=bJ.below (w:=w.drew.drew) h hb1;obtain⟨x0,x1,x2,x3,x4,x5⟩:=hn1.owns;have f0:=hn1.frozen 4;have f1:=hn1.frozen<|4+1;have f2:=hn1.frozen<|4+2;have f3:=hn1.frozen<|4+3;have f4:=hn1.frozen<|4+4;have f5:=hn1.frozen<|4+5;have hsL:=NX hn1 J;have hOL:=(((Only.refl (· =p) w).drew.drew).then (w1:=w.drew.drew) hb1).trans<|Cr w1 p 4 J;have hW2:(((((w1.setCell (B? p 4)<|A! J.iO).setCell (B? p 5)<|A! J.aH).setCell (B? p 6)<|A! J.cW).setCell (B? p 7) (.bool J.short)).setCell (B? p 8) (.string J.dh)).setCell (B? p 9) (A! J.num)=wK w1 p 4 J:=rfl;refine iz<|λK hK=>?_;go_wp2_with fail;refine ah<|hK _ _ ?_;go_wp2;go_ret2;exact⟨rfl,hsL,hOL⟩
theorem RI{o:List bD}(h:(cA o).2=0):o.length<=1024:=by
 have i:=yO o
 have e:cA o=(jh o o.length,0):=by
  unfold cA at h|-;split at h
  .cases h
  .split at h
   .cases h
   .rename_i r n;rw[F! r,F! n]
 rw[e]at i
 have n:∀l:List bD,2*l.length<=(l.flatMap Dl).length:=by
  intro l
  induction l with
  |nil=>simp
  |cons a l c=>
   rw[ϐ,X!,JH,V!];omega
 have d:=n o;unfold jh at i;rw[v!]at i;dsimp only at i;omega
theorem Wn(o:aZ)(e:List bD):(gT o e).2.1.length<=e.length:=by
 unfold gT;split
 .simp
 split
 .unfold gJ;exact Z? (bbO _ _) N!
 split
 .unfold bU;exact Z? (bbO _ _) N!
 .exact Y? _
theorem Wo(s:cu)(p:bg):(kg s p).1.os=s.os:=by
 unfold kg;split
 .rfl
 split
 .rfl
 split
 .split<;>rfl
 .rfl
theorem Wp(p t q:Nat)(o c:I?)(s:cu)(k:bg)(w:D!)(h:bJ w p t o s)(M:aI w o s.os)(I:kU s)(B:∀b,o.ownBlock=C! b->b≠p)(r:tZ w p q c Q! ⟨k,0,0,[]⟩)(F:c.ownBlock≠C! q)(N:k.opts.length<=1000000):
 G! E? 223 #[P? p,P? q] w λe y=>∃n b A S H,e=.returned (.tuple #[A! n,H? b])/\kg s k=(H,S,if b then C! n else L?)/\bJ y p t o H/\tZ y p q c A S/\A.ownBlock≠C! q/\Only (λi=>i=p\/i=q) w y:=by
 have V:=h.lt;have Y:=r.blk.lt;by_cases u:k.code=1
 .apply(Wl p t q o c _ s _ w h I.may r.blk r.opts N r.qp u).mono;rintro e y ⟨A,rfl,l,L,z⟩;have D:=L.block;refine⟨_,C?,A,_,s,rfl,?_,z.heap h (λe=>r.qp e.symm),⟨l,aD.only r.opts z (λi d e=>F<|by rw[d,e]),L.at,?_,r.qp,r.pop,λi d e=>by have:=D i d;omega,r.size⟩,λe=>by have:=D q e;omega,z.mono λi _ e=>.inr e⟩
  .unfold kg;rw[G? u];rfl
  .exact Z? (Wn s.own k.opts) N
 by_cases j:k.code=2
 .refine M! (Wm p t q o c _ s _ w h M r.blk r.opts j) λy l=>?_;refine⟨8,_,Q!,⟨k,0,0,[]⟩,s,rfl,?_,h.below l,r.below l,(λe=>ϱ),Only.aP l⟩;unfold kg;rw[F! u,G? j];by_cases E:k.id=s.asked/\k.opts=s.os
  .rw[G? E,b! E.1,b! E.2];rfl
  .rw[F! E];by_cases O:k.id=s.asked
   .have C:¬k.opts=s.os:=λe=>E ⟨O,e⟩;rw[W? C,Bool.and_false];rfl
   .rw[W? O,mcY];rfl
 by_cases g:k.code=3\/k.code=4
 .by_cases d:k.id=s.asked
  .apply(Oy p t q o c _ s _ w h I.may r.blk r.opts r.qp g d).mono;rintro e y ⟨rfl,l,z⟩;refine⟨9,C?,Q!,⟨k,0,0,[]⟩,_,rfl,?_,l,r.only z,(λe=>ϱ),z.mono λi _ e=>.inl e⟩;unfold kg;rw[F! u,F! j,G? g,G? d];rfl
  .refine M! (Ox p t q o c _ s _ w h r.blk g d) λy l=>?_;refine⟨0,H!,Q!,⟨k,0,0,[]⟩,s,rfl,?_,h.below l,r.below l,(λe=>ϱ),Only.aP l⟩;unfold kg;rw[F! u,F! j,G? g,F! d];rfl
 .refine d! (Ov p q c _ _ w r.blk ⟨u,j,λe=>g (.inl e),λe=>g (.inr e)⟩) ?_;refine⟨_,C?,Q!,⟨k,0,0,[]⟩,s,rfl,?_,h,r,(λe=>ϱ),Only.refl _ _⟩;unfold kg;rw[F! u,F! j,F! g];rfl
theorem Wq(p:Nat)(v:I?)(k:bg)(w:D!)(r:aI w v k.opts)(u:k.data.size<=4611686018427387904)(n:(aW k).2≠0):
 G! E? 179 #[P? p,.agg<|cm k v] w (S? w (.tuple #[Q!,A! 1500])):=by
 have o:=λW (d:aI W v k.opts)=>yP v k W d u;generalize (aW k).2=l at o n;generalize bytesOf (aW k).1=y at o;have b:(l !=0)=true:=by simp[n]
 have i:∀e:Obj,K! w<|w.alloc e:=λe=>ak U? e;obtain⟨j,q,rfl,z,E⟩:=aD.form r;have h:=λe=>o _<|r.below<|i e;unfold cm;go_in;go_wp2_with fail;refine M! (h _) λw1 c=>?_;have g:=seqB (i _) c;go_wp2;go_ret2;exact⟨rfl,g⟩
theorem Cz{x y:Int}(h:¬(x=y)):(x==y)=false:=Q?.2 h
theorem RJ(p t:Nat)(o v:I?)(s:cu)(k:bg)(w:D!)(h:bJ w p t o s)(j:aI w v k.opts)(O:k.data.size<=4611686018427387904)(A:(aW k).2=0)(y:s.state=0\/s.state=1):
 G! E? 179 #[P? p,.agg<|cm k v] w (S? w (.tuple xaC)):=by
 have d:=λW (E:aI W v k.opts)=>yP v k W E O;rw[A]at d;generalize bytesOf (aW k).1=N at d;have l:∀n:Obj,K! w<|w.alloc n:=λn=>ak U? n;obtain⟨H,L,rfl,D,C⟩:=aD.form j;have z:=λn=>d _<|j.below<|l n;have u:=h.k 1;generalize s.state=R at u y;unfold cm;rcases y with rfl|rfl
 all_goals
  go_in
  go_wp2_with fail;refine M! (z _) λw1 g=>?_;have I:=seqB (l _) g;have S:=af g<|af (l _) u;go_wp2;go_ret2;exact⟨rfl,I⟩
theorem RL{w:D!}{e o i n:I?}:(w.alloc (.cells #[e,o,i,n] 220)).heap[w.heap.size]? =C! (.cells #[e,o,i,n] 220 (0,0)):=c! _ _
end
section
variable(p t:Nat)(o v:I?)(s:cu)(k:bg)(ml:Int)(w:D!)(h:xJ w p t o s)(hm:dm w ml)(hv:aI w v k.opts)(hsz:k.data.size<=4611686018427387904)
include p t o v s k ml w h hm hv hsz
theorem Wr(A:(aW k).2=0)(O:¬(s.state=0\/s.state=1)):
 G! E? 179 #[P? p,.agg<|cm k v] w (mW p t o s (dU s k) ml w):=by
 have a4:=λav (c7:aI av v k.opts)=>yP v k av c7 hsz
 have bv:k.opts.length<=1024:=by
  apply RI;cases br:K? ((cA k.opts).2=0)with
  |true=>exact bbN br
  |false=>
   exfalso;have cb:=bco br;unfold aW at A;split at A
   .cases A
   .rw[G? (.inl cb)]at A;cases A
 rw[A]at a4;obtain⟨d6,b8⟩:=F?<|bytesOf (aW k).1;rw[b8]at a4;have D:∀V:Obj,K! w<|w.alloc V:=λV=>ak U? V;obtain⟨cn,co,rfl,cp,dj⟩:=aD.form hv;have a9:=λV=>a4 _<|hv.below<|D V;have aa:=h.blk.k 1;have d8:=h.blk.lt
 have X:∀(l:cu) (j:cL) (n:Int) (b:Bool),kg s k=(l,j,if b=C? then C! n else L?)->dU s k=if b=C? then qj l n j else(l,[],0):=by
  intro l j n b L;cases b with
  |true=>exact VZ A O L
  |false=>exact V0 A O L
 have X:=A? X;have y:=A? h;have a7:=A? hm;obtain⟨de,bm⟩:=F? s.state;rw[bm]at aa O;have db:=Cz λe=>O (.inl e);have dd:=Cz λe=>O (.inr e);obtain⟨n,an⟩:=F? k.opts.length;have K:=A? an;have c0:=A? hv;unfold cm;rw[an]at a9 cp bv|-;clear b8 a4 hv bm h hm A O an;go_in;go_wp2_with fail;apply(a9 _).mono;rintro e w1 ⟨rfl,M⟩;have b4:=seqB (D _) M;have c6:=af M<|af (D _) aa;have a5:=bb M RL;have bo:aI w1 (J! cn n co) k.opts:=by have:=(c0.below<|D _).below M;rw[K.out]at this;exact this
 have b9:=vC _ _ w1 bo (by rw[K.out];omega);obtain⟨d0,d1,d2,d3⟩:=cY a5;clear a9 D M aa bo;go_wp2_with fail;apply b9.mono;rintro e g ⟨⟨df,rfl,B⟩,al⟩;obtain⟨d,u,rfl,c3,d5⟩:=aD.form B.at;rw[K.out]at B c3|-;have F:=bb al a5;have b5:=seqB b4 al;have da:=(i!.1 F).1;have d9:=(i!.1 a5).1;obtain⟨dk,dl,dp,dq⟩:=cY F;have d7:=bw F 2;clear b9 d0 d1 d2 d3 c6 a5 al;have a1:=ay g w.heap.size 2<|J! d n u;have am:(g.setCell (B? w.heap.size 2)<|J! d n u).heap[w.heap.size]? =C! (.cells #[A! k.code,A! k.id,J! d n u,D? k.data] 220 (0,0)):=ba4 g w.heap.size 2 _ _ _ F;obtain⟨cr,cv,cy,cz⟩:=cY am;have C:=((Only.aP (S:=(· =w.heap.size)) b5).trans a1).below O? λi e=>B!;have Y:=B.only a1 λi E e=>by have:=B.block i E;omega
 have bj:(g.setCell (B? w.heap.size 2)<|J! d n u).heap.size=g.heap.size:=by simp[World.setCell]
 obtain⟨R,ag⟩:=F?<|g.setCell (B? w.heap.size 2)<|J! d n u;rw[ag]at a1 am cr cv cy cz C Y bj;have d4:=A? ag;have a2:K! R<|R.alloc (.cells #[A! k.code,A! k.id,J! d n u,D? k.data,A! 0,A! 0,Q!] 246):=R!
 have bk:(R.alloc (.cells #[A! k.code,A! k.id,J! d n u,D? k.data,A! 0,A! 0,Q!] 246)).heap[g.heap.size]? =C! (.cells #[A! k.code,A! k.id,J! d n u,D? k.data,A! 0,A! 0,Q!] 246 (0,0)):=by
  rw[<-bj];exact c! _ _
 have N:=(y.below C).below a2;have be:=(a7.below C).below a2;have ae:Only (· =p) w<|R.alloc (.cells #[A! k.code,A! k.id,J! d n u,D? k.data,A! 0,A! 0,Q!] 246):=(Only.aP C).alloc _;have a3:∀i,(Value.slice d n u).ownBlock=C! i->w1.heap.size<=i/\i<g.heap.size:=λi E=>⟨Y.block i E,by have:=Y.lt i E;omega⟩
 have ax:tZ (R.alloc (.cells #[A! k.code,A! k.id,J! d n u,D? k.data,A! 0,A! 0,Q!] 246)) p g.heap.size (J! d n u) Q! ⟨k,0,0,[]⟩:=
  ⟨bk,(Y.at).below a2,aD.nil _ _,N!,B!,λi E e=>by have:=a3 i E;omega,(λi E=>by cases E),hsz⟩
 have L:=Wp p t g.heap.size o (J! d n u) s k _ N.blk N.os N.good N.op ax (λe=>by have:=a3 _ e;omega) (by rw[K.out];omega);obtain⟨c1,b7⟩:=F?<|R.alloc (.cells #[A! k.code,A! k.id,J! d n u,D? k.data,A! 0,A! 0,Q!] 246);rw[b7]at L N be ae
 have ba:∀(I:Int) (b:Bool) (Q:I?) (j:cL) (l:cu) (z:D!),kg s k=(l,j,if b=C? then C! I else L?)->bJ z p t o l->Only (λi=>i=p\/i=g.heap.size) c1 z->
  kU l/\kC z t/\dm z ml/\Only (· =p) w z/\l.os=s.os/\xJ z p t o l:=by
  intro I b Q j l z H W a6;have a0:=ae.and a6 λi E=>E.imp id λe=>B!;have az:l=(kg s k).1:=by rw[H]
  have b0:l.os=s.os:=by rw[az,Wo]
  have b3:kU l:=by rw[az];exact Bi y.good k
  have bs:kC z t:=λv s hv O=>a0.cell (y.tab v s hv O) y.tp;exact⟨b3,bs,D9 a7 a0 (λe=>y.mlp e.symm),a0,b0,⟨W,bs,by rw[b0];exact aD.only y.os a0 y.op,y.tp,y.op,b3,y.mlp⟩⟩
 have ap:=A? ba;have bx:=A? a3;clear ba a3 N be ae ax bk a2 a1 am C Y F b5 b4 B;go_wp2_with fail;apply L.mono;rintro e z ⟨I,b,Q,j,l,rfl,H,W,bl,c4,a6⟩;obtain⟨ab,b1,ac,Z,ad,b2⟩:=ap I b Q j l z H W a6;have b6:=X l j I b H;have J:=A? b6;have ao:=A? H;clear L b6 H b7 ag X ap;cases b with
 |false=>
  have a8:E!<|dU s k=(l,[],0):=A?<|J.trans N!;clear J ao;go_wp2;go_ret2;rw[a8.out];exact⟨Q!,[],o,rfl,⟨bq.nil _ _ _,λx ca=>absurd ca N!⟩,rfl,b2,⟨.inl ⟨rfl,ad⟩,yR.nil _⟩,Z,ac⟩
 |true=>
  have a8:E!<|dU s k=qj l I j:=A?<|J.trans N!;clear J ao;have ar:=Uv p t g.heap.size o (J! d n u) Q l I ml j z W ab b1 ac bl ⟨λe=>by have:=bx _ e;omega,c4⟩<|λk c8=>Z! (y.os.lt k c8) Z.size;have bz:=A?<|yQ ab I j;clear a6 bl W;have c9:w.heap.size<=g.heap.size:=B!;go_wp2_with fail;apply ar.mono;rintro e dh ⟨ck,ci,cj,rfl,bd,c2,bf,⟨bc,c5⟩,bi⟩;obtain⟨cc,cd,ce,cf,ch⟩:=Oc y a7 Z c9 bf bz bc ad bi bd;clear ar bd bf bc bi ab b1 ac Z ad b2;go_wp2;go_ret2;rw[a8.out];exact⟨ck,ci,cj,rfl,cc,c2,cd,⟨ce,c5⟩,cf,ch⟩
theorem oU:
 G! E? 179 #[P? p,.agg<|cm k v] w (mW p t o s (dU s k) ml w):=by
 by_cases i:(aW k).2=0
 .by_cases r:s.state=0\/s.state=1
  .have e:dU s k=(s,[],1501):=by unfold dU;rw[F! B!,G? r]
   rw[e];refine M! (RJ p t o v s k w h.blk hv hsz i r) λl n=>?_;exact mW.stay h hm n
  .exact Wr p t o v s k ml w h hm hv hsz i r
 .have e:dU s k=(s,[],1500):=by unfold dU;rw[G? i]
  rw[e];refine M! (Wq p v k w hv hsz i) λl n=>?_;exact mW.stay h hm n
end
variable{w w1:D!}{G G1:Nat->Tag}{t:Tag}{s mb:Nat}{m:aU}{f:Int->Nat}
section
variable{w2:D!}{G2:Nat->Tag}{n ml:Int}{b sb:Nat}{x:eY}{z z':PS}
section
variable(h:aS w G n b sb x z)
include h
theorem aS.none(hs:Step (λ_=>False) G w G1 w1):aS w1 G1 n b sb x z:=⟨h.p.step hs λ_ _ h=>h,h.s.step hs λ_ _ h=>h,h.xs,h.n01⟩
theorem aS.drew:aS w.drew G n b sb x z:=h.none<|aB _ _ _
theorem aS.below(e:K! w w1):aS w1 (grow G w.heap.size free) n b sb x z/\Step (bG n) G w (grow G w.heap.size free) w1:=
 ⟨h.none<|Step.below (T:=λ_=>False) e,(Step.below (T:=λ_=>False) e).mono λ_ h=>h.elim⟩
theorem aS.drewN(q:Nat):aS (w.drewN q) G n b sb x z:=h.none<|wN _ _ _ _
end
theorem Env.drew(h:Env w G ml):Env w.drew G ml:=⟨h.m,h.g⟩
theorem kQ(h:n=0\/n=1):¬bG n free:=λe=>by
 rcases e with e|e<;>exact aJ N! e
theorem Env.uM(h:Env w G ml)(e:n=0\/n=1)(o:Step (bG n) G w G1 w1):Env w1 G1 ml:=h.step o<|kQ e
theorem fu.mk{r:I?}(h:aS w1 G1 n b sb x z')(e:Step (bG n) G w G1 w1):fu n b sb G w x z z' r (.returned r) w1:=⟨rfl,G1,x,h,e,λ_ _=>rfl⟩
end
section
open Go.RowKit Go.Maps Go.Sort Go.Shelf
def UW:Go.Shelf.Ren:=⟨λ|7=>75|10=>88|n=>n,λ|0=>0|3=>97|4=>4|23=>90|26=>3|27=>132|28=>133|33=>82|n=>n,λ|n=>n⟩
theorem PA:Go.Proofs.SlLaysZI.n7 E? UW:={
 mixed:=M?
 f7:=⟨"maps.Keys[map[int]*withy/peer.link,int,*withy/peer.link]",rfl,func75.trans<|U! C! M?⟩
 f10:=⟨"maps.Keys[map[int]*withy/peer.link,int,*withy/peer.link]$1",rfl,func88.trans<|U! C! M?⟩
 t0:=underlying0
 a0:=isAgg0
 z0:=sizeOf0
 v0:=zeroValue0
 t4:=underlying4
 a4:=isAgg4
 z4:=sizeOf4
 v4:=zeroValue4
 t23:=underlying90
 a23:=isAgg90
 z23:=sizeOf90
 v23:=zeroValue90
 t26:=underlying3
 a26:=isAgg3
 z26:=sizeOf3
 v26:=zeroValue3
 t27:=underlying132
 a27:=isAgg132
 z27:=sizeOf132
 v27:=zeroValue132
 t28:=underlying133
 a28:=isAgg133
 z28:=sizeOf133
 v28:=zeroValue133
 t33:=underlying82
 a33:=isAgg82
 z33:=sizeOf82
 v33:=zeroValue82}
def Kn:Go.Shelf.Ren:=⟨λ|6=>74|8=>86|9=>87|11=>92|n=>n,λ|0=>0|24=>35|26=>3|28=>133|33=>82|n=>n,λ|n=>n⟩
theorem Te:Go.Proofs.SlLaysZI.n6 E? Kn:={
 mixed:=M?
 f6:=⟨"slices.Sorted[int]",rfl,func74.trans<|U! C! M?⟩
 f8:=⟨"slices.Collect[int]",rfl,func86.trans<|U! C! M?⟩
 f11:=⟨"slices.AppendSeq[[]int,int]",rfl,func92.trans<|U! C! M?⟩
 t0:=underlying0
 a0:=isAgg0
 z0:=sizeOf0
 v0:=zeroValue0
 t24:=underlying35
 a24:=isAgg35
 z24:=sizeOf35
 v24:=zeroValue35
 t26:=underlying3
 a26:=isAgg3
 z26:=sizeOf3
 v26:=zeroValue3
 t28:=underlying133
 a28:=isAgg133
 z28:=sizeOf133
 v28:=zeroValue133
 i26:=M?}
theorem afr(m:Nat):AnyZI.SortsIn E? Kn Fence.wide m:=
 ⟨λo h e l W i n r=>callsIn_wide.2 (Any.slices_Sort_int Fb o h e l W i n r),
  λp e W=>callsIn_wide.2 (Any.slices_Sort_int_none Fb p e W)⟩
def Tf(v:I?):Option<|DataW Unit×List MemPlace:=C! (.nil,[])
theorem adn{w:D!}{b:Nat}{o:ES}(h:bp w b o)(N:∀k∈o.map (·.1),-9223372036854775808<=k/\k<=9223372036854775807)(S:o.length<=maxLen):
 ∃D:DataW Unit,w.ownsMap E? 3 Tf b o.length D/\(intKeys D).Perm (o.map (·.1))/\Maps.size D=o.length:=by
 obtain⟨d,z,I,L,g⟩:=h
 have v:d.size=o.length:=by
  have:=U! List.length g;simpa using this
 have j:∀x∈d.toList,∃k,x.key=.int .i64 k/\keyOf E? 3 x.key=C! (.int .i64 k):=by
  intro x r;have R:(x.key,x.val)∈o.map (λx=>(Value.int .i64 x.1,x.2)):=by rw[<-g];exact a!.2 ⟨x,r,rfl⟩
  let⟨y,c,e⟩:=a!.1 R;simp only[baZ]at e;have C:=N y.1<|a!.2 ⟨y,c,rfl⟩;refine⟨y.1,e.1.symm,?_⟩;rw[<-e.1];apply keyOf_int_mk underlying3;unfold Lit.wf IntKind.min IntKind.max;simp[IntKind.signed,IntKind.bits];omega
 have H:∀x∈d.toList,∃k,x.key=.int .i64 k/\Go.WideElems.rg E? 3 Tf x=(.int .i64 k,.nil):=by
  intro x r;let⟨k,e,u⟩:=j x r;refine⟨k,e,?_⟩;unfold Go.WideElems.rg Go.WideElems.rd Tf;rw[u];rfl
 have q:=Go.WideShapes.sorted_perm<|d.toList.map<|Go.WideElems.rg E? 3 Tf;refine⟨.map<|(d.toList.map<|Go.WideElems.rg E? 3 Tf).foldr DataW.insert [],⟨d,z,I,⟨by rw[v];exact S,L,λx r=>?_⟩,by rw[v];exact Y? _,rfl⟩,?_,?_⟩
 .let⟨k,e,u⟩:=j x r;refine⟨(.int .i64 k,.nil),?_⟩;unfold Go.WideElems.rd Tf;rw[u];rfl
 .have E:=q.map λp:Lit×DataW Unit=>Go.intOf p.1;apply E.trans;rw[baG]
  have A:d.toList.map ((λp:Lit×DataW Unit=>Go.intOf p.1)∘Go.WideElems.rg E? 3 Tf)=o.map (·.1):=by
   have O:=(uV g).2;apply bbo;intro i;have n:=U! (λl=>l[i]?) O;simp only[q!]at n|-;cases r:d.toList[i]? with
   |none=>
    rw[r]at n;cases c:o[i]? with
    |none=>rfl
    |some y=>rw[c]at n;cases n
   |some x=>
    rw[r]at n;cases c:o[i]? with
    |none=>rw[c]at n;cases n
    |some y=>
     rw[c]at n;let⟨k,e,u⟩:=H x<|bbp r;simp only[p?,bbD]at n|-;rw[e]at n;cases n
     simp[u,Go.intOf]
  exact List.Perm.of_eq A
 .show List.length _=_;rw[q.length_eq,g!];simpa using v
theorem Xz(o:Nat)(w:D!):G! E? 75 #[.map<|C! o] w λe i=>
 e=.returned (.func (.func 88) #[] #[P? w.heap.size])/\i=w.alloc (.cells #[.map<|C! o] 90):=
 (callsIn_wide (n:=6)).1 (AnyZI.keys_in PA Fence.wide 6 trivial rfl (C! o) w)
theorem PD{o:ES}{w:D!}{l r:Nat}(h:bp w l o)(E:∀k∈o.map (·.1),-9223372036854775808<=k/\k<=9223372036854775807)(S:o.length<=1099511627776)(c:L! w r 0 (.map<|C! l)):
 G! E? 74 #[.func (.func 88) #[] #[P? r]] w λe d=>∃v,e=.returned v/\bq mU d w.heap.size v (gz<|o.map (·.1))/\K! w d:=by
 let⟨D,j,A,u⟩:=adn h E bao;have b:=h! c
 have I:SeqGives Fence.wide 2 E? 88 #[P? r] encZ (λi=>i.Perm<|intKeys D) (Maps.size D) w:=
  AnyZI.keys_gives (ρ:=UW) {PA with} Fence.wide _ trivial rfl B! r l o.length D w b c j
 have g:=AnyZI.sorted_in Te Fence.wide 5 trivial trivial trivial trivial rfl B! (afr _) (enters_of func87 M? rfl) 88 #[P? r] trivial (enters_of func88 M? rfl) _ _ (by rw[u];unfold maxLen;omega) (by rw[u];omega) _ I;apply((callsIn_wide (n:=5)).1 g).mono;rintro e d ⟨v,i,rfl,q,O,R,z⟩
 have N:gz (o.map (·.1))=i.mergeSort (λx y=>K? (x<=y)):=by
  refine(GF (CB i) ?_).trans rfl;exact((A.symm.trans q.symm).trans (bcv _ _).symm)
 refine⟨v,rfl,?_,z⟩;unfold bq;rw[N,bb7]
 have e:(i.mergeSort<|λx y=>K? (x<=y)).flatMap mU.enc=(i.mergeSort<|λx y=>K? (x<=y)).map encZ:=by
  rw[List.map_eq_flatMap];rfl
 rw[e];exact O
end
theorem sU.push{b:Nat}{q z v0' v1' v':I?}{C:mB}(h:sU w G t b q z C){i:Int}{o:Nat}(a4:(i=0/\o=0)\/(i=1/\o=3))(l:List qm)(A:oy nE G (t++[i]) w (pv i q z) l)(Q:l.map (·.1)=(C.pipe i).pieces)
 (L:∀x∈l,vz w G (t++[i]++[0]) x)(Z:(l.map (·.2.1)).Nodup)(B r:Nat)(a3:w.heap.size<=B)(d:List UInt8)(y:Int)(K:d.length<=r)(V:r<=maxLen)(M:∃E O,w1.heap[B]? =C! (.cells E 5 O)/\yF O r/\E.size=r/\E.toList.take d.length=Lib.byteCells d)
 (a1:jd nE w1 v' (l++[((d,H!),B,r)]))(a0:∀k,v'.ownBlock=C! k->(pv i q z).ownBlock=C! k\/(B+1<=k/\k<w1.heap.size))(H:Only (λk=>k=b\/(pv i q z).ownBlock=C! k) w w1)
 (D:(i=0/\v0'=v'/\v1'=z)\/(i=1/\v0'=q/\v1'=v'))
 (Y:aO w1 b 168 (gD v0' (C.put i {C.pipe i with pieces:=(C.pipe i).pieces++[(d,H!)],bytes:=y}).p0++gD v1' (C.put i {C.pipe i with pieces:=(C.pipe i).pieces++[(d,H!)],bytes:=y}).p1).toArray):
 ∃I,qo w1 I t b (C.put i {C.pipe i with pieces:=(C.pipe i).pieces++[(d,H!)],bytes:=y})/\Step (aq t) G w I w1:=by
 have c:Step (λu=>u=t\/u=t++[i]) G w (λk=>if k<w.heap.size then G k else if k=B then t++[i]++[0]else t++[i]) w1:=
  Step.rule H (λk _ e=>e.imp (λe=>Ψ) (λe=>(A.2 k e).2)) _
 have S:∀j u,j≠i->aq (t++[j]) u->¬(u=t\/u=t++[i]):=by
  rintro j u X g (rfl|rfl)
  .exact eB g
  .rw[jI]at g;simp at g;exact X g
 have N:jS w1 (λk=>if k<w.heap.size then G k else if k=B then t++[i]++[0]else t++[i]) (t++[i]) v' ((C.pipe i).pieces++[(d,H!)]):=by
  refine⟨l++[((d,H!),B,r)],⟨a1,λk v=>?_⟩,by rw[ϻ,Q];rfl,λx n=>?_,?_⟩
  .rcases a0 k v with v|⟨a5,J⟩
   .exact⟨Z! (A.2 k v).1 H.size,(c.old _ (A.2 k v).1).trans (A.2 k v).2⟩
   .refine⟨J,?_⟩;show(if _ then _ else _)=_;rw[F! B!,F! B!]
  .rcases ό.1 n with n|n
   .apply(L x n).step c;rintro(e|e)
    .rw[baa]at e;simp at e
    .rw[baa,List.append_cancel_left_eq]at e;simp at e
   .rw[j?]at n;subst n;refine⟨?_,K,V,M⟩;show(if _ then _ else _)=_;rw[F! (by simp only;omega),G? rfl]
  .rw[ϻ,List.nodup_append];refine⟨Z,N!,λa W a2 R=>?_⟩;simp only[i?,y!,j?]at R;subst R;obtain⟨x,n,rfl⟩:=a!.1 W;obtain⟨-,-,-,E,O,F,-⟩:=L x n;have:=(i!.1 F).1;omega
 refine⟨_,⟨v0',v1',Y,(c.old _ h.blk.lt).trans h.tag,?_,?_⟩,c.mono λu g=>?_⟩
 .rcases D with⟨rfl,rfl,rfl⟩|⟨rfl,rfl,rfl⟩
  .exact N
  .exact h.a0.step c (S 0 · I!)
 .rcases D with⟨rfl,rfl,rfl⟩|⟨rfl,rfl,rfl⟩
  .exact h.a1.step c (S 1 · I!)
  .exact N
 .rcases g with rfl|rfl
  .exact aq.self _
  .exact aq.app _ _
section
variable(c i:Int)(d:ByteArray)(h:aY w G t s m)
include c i d h
theorem XT(o:eH m c i≠0):G! E? 60 #[ptr s,.int .i64 c,.int .i64 i,D? d] w (Left (λg r=>aY g r t s (kB m c i d).1) (aq t) G w (.int .i64 (kB m c i d).2)):=by
 have u:=h;obtain⟨mb,f,h⟩:=h;have n:=zP c i h o;have l:kB m c i d=(m,eH m c i):=by unfold kB;rw[G? o]
 rw[l];have q:=ϒ.2 o;generalize eH m c i=E at n q|-;unfold ptr at n|-;go_in;go_wp2_with fail;refine d! n ?_;go_wp2;go_ret;exact⟨rfl,_,u,Step.refl _ _ _⟩
theorem abC(hg:Cv m)(he:eH m c i=0)(hl:(fP m c i).pieces.length<=1099511627776)(hlo:(fP m c i).lost<=1099511627776)(hd:(d.size:Int)<=9223372036854775807):
 Calls prog 60 #[ptr s,.int .i64 c,.int .i64 i,.string d] w (Left (λw' G'=>aY w' G' t s (kB m c i d).1) (aq t) G w (.int .i64 (kB m c i d).2)):=by
 have h0:=h;obtain⟨mb,f,h⟩:=h;obtain⟨hk,o,hi⟩:=rX he;have hop:=yU c i o h hk hi;have hn:=hg.nd;obtain⟨v0,v1,hc⟩:=h.Lu hk;have hC:=(eA hn).1 (mr hk kI);have hb0:=hg.by0 _ _ hC;have c1:=h.blk.k 1;obtain⟨C,MV⟩:∃C,(bt m.up c).getD kI=C:=⟨_,rfl⟩;have eP:fP m c i=C.pipe i:=by unfold fP;rw[MV]
 rw[MV]at hc hb0;have hby:0<=(C.pipe i).bytes/\(C.pipe i).bytes<=m.most/\0<=(C.pipe i).lost:=by rcases hi with⟨rfl,_⟩|⟨rfl,_⟩<;>first|exact hb0.1|exact hb0.2
 obtain⟨d0,d1,d2,dp⟩:=hc.cells hi;have f0:=hc.blk.frozen o;have f1:=hc.blk.frozen (o+1);have f2:=hc.blk.frozen (o+2);have hmT:=hg.mT;have hm1:=hg.m1
 have turn:∀w1 p,(∃G',qo w1 G' (t++[1,c]) (f c) (C.put i p)/\Step (aq (t++[1,c])) G w G' w1)->∃G',aY w1 G' t s (tO m c i p)/\Step (aq t) G w G' w1:=by
  rintro w1 p ⟨G1,g1,g2⟩;obtain⟨g3,g4⟩:=h.turn hk g2 g1;refine⟨G1,?_,g4⟩;unfold tO;rw[MV];exact g3
 have HT:=A? turn;have HC:=A? hc;have H0:=A? h0;have HD:=A? dp
 have eS:kB m c i d=if m.most-(C.pipe i).bytes<d.size then(m,2500)else if 0<(C.pipe i).lost then(tO m c i {C.pipe i with lost:=(C.pipe i).lost-1},0)else(tO m c i {C.pipe i with pieces:=(C.pipe i).pieces++[(d.data.toList,false)],bytes:=(C.pipe i).bytes+d.size},0):=by
  unfold kB;rw[F! B!,eP]
 rw[eP]at hl hlo;have HL:=A? hl;clear turn hc h0 hb0 hC hn hk hg he h dp hl;rw[eS];clear eS;obtain⟨h0,h1,h2⟩:=hby;unfold ptr at hop|-;have hwr:IntKind.i64.wrap (m.most-(C.pipe i).bytes)=m.most-(C.pipe i).bytes:=ϫ _ B!;by_cases hfull:m.most-(C.pipe i).bytes<d.size
 .rw[G? hfull];have q:=b! hfull;rcases hi with⟨rfl,rfl⟩|⟨rfl,rfl⟩
  all_goals
   go_in
   go_wp2_with fail;refine hop.mono ?_;rintro e w' ⟨rfl,rfl⟩;go_wp2_with fail;refine gG M? M? ?_
   repeat still_step
   refine Θ ?_;go_wp2;go_ret;exact⟨rfl,_,H0.out.drew,aB _ _ _⟩
 rw[F! hfull];have q:=W? hfull;by_cases U5:0<(C.pipe i).lost
 .rw[G? U5];have q2:=b! U5;rcases hi with⟨rfl,rfl⟩|⟨rfl,rfl⟩
  all_goals
   go_in
   go_wp2_with fail;refine hop.mono ?_;rintro e w' ⟨rfl,rfl⟩;go_wp2_with fail;refine gG M? M? ?_
   repeat still_step
   refine Θ ?_;go_wp2;go_ret;refine⟨rfl,HT.out _ _ (HC.out.agQ (by first|exact .inl ⟨rfl,rfl⟩|exact .inr ⟨rfl,rfl⟩) _ _ ((ay w' (f c) _ _).drew) (HC.out.blk.set _ _ rfl))⟩
 rw[F! U5];have q2:=W? U5;obtain⟨l,hrow,hmap,hrows,hnd⟩:=HD.out;have hfc:=HC.out.blk.lt
 have hown:∀k,(pv i v0 v1).ownBlock=some k->k≠f c:=λk hk e=>by
  have h1:=(hrow.2 k hk).2;rw[e,HC.out.tag]at h1;simp at h1
 have hcv:=run_bytes_of_string (P:=prog) w.drew 9 64 5 d rfl underlying64 rfl;have hcm:=mdJ w.drew d.size 0 5 bao;have abD:=Dp.conv w.drew.drew d 0 (S! _) B! w.drew;have hbc:Below w.heap.size w (w.drew.drew.alloc (.cells (bytesRow d (grownCap w.drew d.size 0 5)) 5 ((bytesRow d (grownCap w.drew d.size 0 5)).size,(bytesRow d (grownCap w.drew d.size 0 5)).size+1))):=ak (P! _ _).drew.drew _;obtain⟨V,hV⟩:∃V,w.drew.drew.alloc (.cells (bytesRow d (grownCap w.drew d.size 0 5)) 5 ((bytesRow d (grownCap w.drew d.size 0 5)).size,(bytesRow d (grownCap w.drew d.size 0 5)).size+1))=V:=⟨_,rfl⟩;have hVs:V.heap.size=w.heap.size+1:=by rw[<-hV];simp
 obtain⟨cp,hcp⟩:∃G,grownCap w.drew d.size 0 5=G:=⟨_,rfl⟩;have adu:(convert 9 64 (.string d)).run prog w.drew=.ok (.slice (some ⟨w.heap.size,0,none⟩) d.data.toList.length cp) V:=by rw[<-hV,<-hcp];exact hcv
 rw[hV,hcp]at abD;rw[hV]at hbc;rw[hcp]at hcm
 have Yj:d.data.toList.length<=cp/\∃cur fz,V.heap[w.heap.size]? =some (.cells cur 5 fz)/\yF fz cp/\cur.size=cp/\cur.toList.take d.data.toList.length=Lib.byteCells d.data.toList:=by
  obtain⟨g,g2,cur,fz,hv,hg1,hg2,hg3,hg4,hg5,hg6,hg7⟩:=abD
  have e:g=w.heap.size/\cp=g2:=by
   simp only[ba9,bbD,bcH]at hv;exact⟨hv.1.1.symm,hv.2.2⟩
  obtain⟨rfl,rfl⟩:=e;exact⟨hg4,cur,fz,hg2,hg3,hg6,hg7⟩
 clear abD hcv hV hcp;obtain⟨v,hv⟩:∃v,pv i v0 v1=v:=⟨_,rfl⟩;have hq0:=(by rw[<-hv];exact hrow.1:jd nE w v l).heap λk hk=>hbc.block k (hrow.2 k (by rw[hv];exact hk)).1;have hvl:=λk hk=>Z! (hrow.2 k (by rw[hv];exact hk)).1 hbc.size;rw[hv]at d0;have hl2:l.length<=1099511627776:=by have:=HL.out;rw[<-hmap,g!]at this;exact this
 have fin:∀w3 v' v0' v1',jd nE w3 v' (l++[((d.data.toList,false),w.heap.size,cp)])->Only (λk=>v.ownBlock=some k) V w3->(∀k,v'.ownBlock=some k->v.ownBlock=some k\/(V.heap.size<=k/\k<w3.heap.size))->((i=0/\v0'=v'/\v1'=v1)\/(i=1/\v0'=v0/\v1'=v'))->
  ∃G',aY ((w3.setCell ⟨f c,o,none⟩ v').setCell ⟨f c,o+1,none⟩ (.int .i64 ((C.pipe i).bytes+d.size))) G' t s (tO m c i {C.pipe i with pieces:=(C.pipe i).pieces++[(d.data.toList,false)],bytes:=(C.pipe i).bytes+d.size})/\Step (aq t) G w G' ((w3.setCell ⟨f c,o,none⟩ v').setCell ⟨f c,o+1,none⟩ (.int .i64 ((C.pipe i).bytes+d.size))):=by
  intro w3 v' v0' v1' hq ho jA hvv;have ho3:=(Only.aP hbc).trans ho;have hb3:=HC.out.blk.only ho3 λe=>hown _ bbt rfl;have hs4:Only (λk=>k=f c) w3 ((w3.setCell ⟨f c,o,none⟩ v').setCell ⟨f c,o+1,none⟩ (.int .i64 ((C.pipe i).bytes+d.size))):=((Only.refl (λk=>k=f c) w3).set (.inl rfl) v').set (.inl rfl) _;have ho4:Only (λk=>k=f c\/(pv i v0 v1).ownBlock=some k) w ((w3.setCell ⟨f c,o,none⟩ v').setCell ⟨f c,o+1,none⟩ (.int .i64 ((C.pipe i).bytes+d.size))):=(ho3.mono λk _ e=>.inr bbt).trans (hs4.mono λk _ e=>.inl e);have agA:=hs4.size
  have hne:∀k,v'.ownBlock=some k->k≠f c:=by
   intro k hk;rcases jA k hk with e|e
   .exact hown k bbt
   .omega
  refine HT.out _ _ (HC.out.push (v0':=v0') (v1':=v1') (v':=v') hi l (by rw[hv]at hrow|-;exact hrow) hmap hrows hnd w.heap.size cp O? d.data.toList ((C.pipe i).bytes+d.size) Yj.1 hcm ?_ (hq.heap λk hk=>hs4.block k ?_ (hne k hk)) ?_ ho4 hvv ?_)
  .obtain⟨cur,fz,h1,h2⟩:=Yj.2;refine⟨cur,fz,hs4.heap (ho.heap h1 λe=>?_) B!,h2⟩;have:=(hrow.2 _ bbt).1;omega
  .rcases jA k hk with e|e
   .have:=hvl k e;have:=ho.size;omega
   .exact e.2
  .intro k hk;rcases jA k hk with e|e
   .exact .inl bbt
   .exact .inr ⟨B!,B!⟩
  .rcases hvv with⟨rfl,rfl,rfl⟩|⟨rfl,rfl,rfl⟩
   .obtain rfl:o=0:=by rcases hi with⟨_,e⟩|⟨e,_⟩;exact e;cases e
    exact(hb3.set 0 _ (cs':=(gD v0' C.p0++gD v1' C.p1).toArray) rfl).set 1 _ rfl
   .obtain rfl:o=3:=by rcases hi with⟨e,_⟩|⟨_,e⟩;cases e;exact e
    exact(hb3.set 3 _ (cs':=(gD v0' C.p0++gD v1' C.p1).toArray) rfl).set 4 _ rfl
 have HF:=A? fin;have hB3:∀w3,Only (λk=>v.ownBlock=some k) V w3->aO w3 (f c) 168 (gD v0 C.p0++gD v1 C.p1).toArray:=λw3 ho=>HC.out.blk.only ((Only.aP hbc).trans ho) λe=>hown _ bbt rfl;have HB3:=A? hB3;have Jn:Hid ((l.length+1)*nE.bytes<=140737488355328):=A? (by show(l.length+1)*32<=_;omega);have HQ0:=A? hq0;have HVL:=A? hvl;clear hVs;clear fin hown hrow hmap hrows hnd Yj hbc hq0 hvl hB3 hv hcm;rcases hi with⟨rfl,rfl⟩|⟨rfl,rfl⟩
 .go_in
  go_wp2_with fail;refine hop.mono ?_;rintro e w' ⟨rfl,rfl⟩;go_wp2_with fail;refine gG M? M? ?_
  repeat still_step
  refine Θ ?_;go_wp2_with(at_builtin;refine dz nE rfl _ _ rfl v l ((d.data.toList,false),w'.heap.size,cp) _ HQ0.out HVL.out rfl _ rfl rfl Jn.out I! λv' w3 hq ho hw=>?_;obtain⟨va,vc,rfl,-,-⟩:=hq.form;have uI:=A? (HF.out w3 _ _ v1 hq ho hw (by first|exact .inl ⟨rfl,rfl,rfl⟩|exact .inl ⟨trivial,rfl,rfl⟩));have hblk:=HB3.out w3 ho;have e0:w3.cell? ⟨f c,0,none⟩=some v0:=hblk.cell 0;have g0:=hblk.frozen 0;have e1:w3.cell? ⟨f c,1,none⟩=some (.int .i64 (C.pipe 0).bytes):=hblk.cell 1;have g1:=hblk.frozen 1;clear hblk ho hw hq c1 d0 d1 d2 f0 f1 f2 hop adu);go_ret;have hf:=uI.out;rw[X!]at hf;exact⟨rfl,hf⟩
 .go_in
  go_wp2_with fail;refine hop.mono ?_;rintro e w' ⟨rfl,rfl⟩;go_wp2_with fail;refine gG M? M? ?_
  repeat still_step
  refine Θ ?_;go_wp2_with(at_builtin;refine dz nE rfl _ _ rfl v l ((d.data.toList,false),w'.heap.size,cp) _ HQ0.out HVL.out rfl _ rfl rfl Jn.out I! λv' w3 hq ho hw=>?_;obtain⟨va,vc,rfl,-,-⟩:=hq.form;have uI:=A? (HF.out w3 _ v0 _ hq ho hw (by first|exact .inr ⟨rfl,rfl,rfl⟩|exact .inr ⟨trivial,rfl,rfl⟩));have hblk:=HB3.out w3 ho;have e0:w3.cell? ⟨f c,3,none⟩=some v1:=hblk.cell 3;have g0:=hblk.frozen 3;have e1:w3.cell? ⟨f c,4,none⟩=some (.int .i64 (C.pipe 1).bytes):=hblk.cell 4;have g1:=hblk.frozen 4;clear hblk ho hw hq c1 d0 d1 d2 f0 f1 f2 hop adu);go_ret;have hf:=uI.out;rw[X!]at hf;exact⟨rfl,hf⟩
theorem Kw(r:Cv m)(l:(fP m c i).pieces.length<=1099511627776)(u:(fP m c i).lost<=1099511627776)(n:(d.size:Int)<=9223372036854775807):
 G! E? 60 #[ptr s,.int .i64 c,.int .i64 i,D? d] w (Left (λg o=>aY g o t s (kB m c i d).1) (aq t) G w (.int .i64 (kB m c i d).2)):=by
 by_cases e:eH m c i=0
 .exact abC c i d h r e l u n
 .exact XT c i d h e
end
theorem sU.clear{b:Nat}{E A r l:I?}{C:mB}(h:sU w G t b E A C){i:Int}{o:Nat}(N:(i=0/\o=0)\/(i=1/\o=3))(I:Only (λk=>k=b) w w1)
 (q:(i=0/\r=Q!/\l=A)\/(i=1/\r=E/\l=Q!))
 (O:aO w1 b 168 (gD r (C.put i {C.pipe i with pieces:=[],bytes:=0}).p0++gD l (C.put i {C.pipe i with pieces:=[],bytes:=0}).p1).toArray):
 ∃d,qo w1 d t b (C.put i {C.pipe i with pieces:=[],bytes:=0})/\Step (aq t) G w d w1:=by
 have n:Step (λu=>u=t) G w (grow G w.heap.size free) w1:=Step.of I (λk _ e=>Ψ) free
 have y:∀j u,aq (t++[j]) u->¬u=t:=by
  rintro j u hu rfl;exact eB hu
 have g:∀z,jS w1 (grow G w.heap.size free) z Q! []:=λz=>⟨[],oy.nil _ _ _ _,rfl,(λx hx=>ϭ),baT⟩;refine⟨_,⟨r,l,O,(n.old _ h.blk.lt).trans h.tag,?_,?_⟩,n.mono λu hu=>baQ⟩
 .rcases q with⟨rfl,rfl,rfl⟩|⟨rfl,rfl,rfl⟩
  .exact g _
  .exact h.a0.step n<|y 0
 .rcases q with⟨rfl,rfl,rfl⟩|⟨rfl,rfl,rfl⟩
  .exact h.a1.step n<|y 1
  .exact g _
theorem _root_.Go.RowKit.Below.Iq{n:Nat}{S:Nat->Prop}{w w1 e:D!}(h:Below n w w1)(i:n<=w1.heap.size)(k:Only S w1 e)(o:∀b,S b->n<=b):Below n w e:=h.trans<|k.below i o
def kA(l:List qm)(k:Nat):List UInt8:=(l.take k).flatMap (·.1.1)
theorem EF(l:List qm)(k:Nat)(h:k<l.length):kA l (k+1)=kA l k++l[k].1.1:=by
 unfold kA;rw[u! h,ϣ];simp
theorem Kx(l:List qm)(k:Nat):(kA l k).length<=(l.flatMap (·.1.1)).length:=by
 unfold kA;have:l.flatMap (·.1.1)=(l.take k).flatMap (·.1.1)++(l.drop k).flatMap (·.1.1):=by rw[<-ϣ,mgm]
 rw[this,X!];omega
def PW(r:aU×List UInt8×Int):Value:=.tuple #[D?<|bytesOf r.2.1,A! r.2.2]
theorem PY(c a i:Int)(o:Nat)(h:aY w G t s m)(A:Cv m)(B:(i=0/\o=0/\a=1)\/(i=1/\o=3/\a=0))(r:au m.up c=C?):
 G! E? 116 #[ptr s,A! c,A! a] w (Left (λy N=>aY y N t s (nr m c a).1) (aq t) G w<|PW<|nr m c a):=by
 obtain⟨mb,f,h⟩:=h;have O:(i=0/\o=0)\/(i=1/\o=3):=B.imp (λe=>⟨e.1,e.2.1⟩) λe=>⟨e.1,e.2.1⟩;have a7:1-a=i:=B!;have R:=yU c i o h r O;have aa:=A.nd;let⟨K,X,d⟩:=h.Lu r;have Y:=(eA aa).1<|mr r kI;have a8:=A.by0 _ _ Y;have ad:=A.sm _ _ Y;let⟨C,M⟩:=F?<|(bt m.up c).getD kI;have a3:fP m c i=C.pipe i:=by unfold fP;rw[M]
 rw[M]at d a8 ad;have b5:((C.pipe i).pieces.flatMap (·.1)).length<=65536:=by have:=A.mT;rcases B with⟨rfl,_⟩|⟨rfl,_⟩<;>simp only[mB.pipe]<;>first|(show((C.p0).pieces.flatMap (·.1)).length<=65536;omega)|(show((C.p1).pieces.flatMap (·.1)).length<=65536;omega)
 let⟨d0,d1,an,ao⟩:=d.cells O;have f0:=d.blk.frozen o;have f1:=d.blk.frozen<|o+1
 have a4:nr m c a=(tO m c i {C.pipe i with pieces:=[],bytes:=0},(C.pipe i).pieces.flatMap (·.1),0):=by
  have b9:eH m c i=0:=by unfold eH nM;rw[r];rcases O with⟨rfl,_⟩|⟨rfl,_⟩<;>rfl
  unfold nr;rw[a7,F! B!,a3]
 rw[a4];obtain⟨l,ab,a9,ac,b3⟩:=ao;have a2:(C.pipe i).pieces.flatMap (·.1)=l.flatMap (·.1.1):=by rw[<-a9,List.flatMap_map]
 rw[a2]at b5|-;have u:=d.blk.lt
 have a5:∀w1 L D,Only (λk=>k=f c) w w1->((i=0/\L=Q!/\D=X)\/(i=1/\L=K/\D=Q!))->
  aO w1 (f c) 168 (gD L (C.put i {C.pipe i with pieces:=[],bytes:=0}).p0++gD D (C.put i {C.pipe i with pieces:=[],bytes:=0}).p1).toArray->
  ∃N,aY w1 N t s (tO m c i {C.pipe i with pieces:=[],bytes:=0})/\Step (aq t) G w N w1:=by
  intro w1 L D b4 I hb;let⟨G1,E,ar⟩:=d.clear O b4 I hb;let⟨av,ax⟩:=h.turn r ar E;refine⟨G1,?_,ax⟩;unfold tO;rw[M];exact av
 let⟨v,I⟩:=F?<|pv i K X;have hq:jd nE w v l:=by rw[<-I];exact ab.1
 rw[I]at d0;let⟨n,q⟩:=F? l.length
 have H:∃p S,v=J! p n S/\n<=9223372036854775807/\(n=0\/∃b g,p=C! (B? b g)/\b<w.heap.size/\∀k (r:k<l.length),w.cell? (B? b<|g+k*2)=C! (J! (C!<|B? (l[k].2.1) 0) l[k].1.1.length l[k].2.2)/\w.cell? (B? b<|g+k*2+1)=C! (H? l[k].1.2)):=by
  by_cases V:l=[]
  .let⟨p,S,e,z,a0⟩:=hq.form;exact⟨p,S,by rw[e,q],by rw[<-q,V];simp,.inl<|by rw[<-q,V];rfl⟩
  .let⟨b,g,al,e,z,a0,ap,a1⟩:=hq.cell V;exact⟨_,al,by rw[e,q],by unfold maxLen at a0;omega,.inr ⟨b,g,rfl,ap,λk r=>⟨a1 k r 0 I!,a1 k r 1 I!⟩⟩⟩
 have Z:∀k (r:k<l.length),aD rB w (J! (C!<|B? (l[k].2.1) 0) l[k].1.1.length l[k].2.2) l[k].1.1:=by
  intro k r;let⟨h1,h2,az,am,b6,a6,b7,b8,b0⟩:=ac _<|l! r;refine .inr ⟨_,0,_,rfl,h2,az,(i!.1 a6).1,λj hj ae b2=>?_⟩;obtain rfl:ae=0:=by have:ae<1:=b2;omega
  have e:am[j]? =(Lib.byteCells l[k].1.1)[j]? :=by
   rw[<-b0,bat,G? hj];simp
  show w.cell? ⟨_,0+j*1+0,L?⟩=_;rw[show 0+j*1+0=j from B!];simp[World.cell?,a6,e,Lib.byteCells,hj,rB]
 obtain⟨p,S,rfl,ba,H⟩:=H;have HC:=A? d;have HF:=A? a5;have Q:=A? H;have De:=A? Z;have HN:=A? q;clear a5 d a8 Y aa r A h H Z hq ab a9 ac b3 q a2 a4 a3 ad an O a7 I;unfold ptr PW at*
 rcases B with⟨rfl,rfl,rfl⟩|⟨rfl,rfl,rfl⟩
 .go_in
  go_wp2_with fail;apply R.mono;rintro e y ⟨rfl,rfl⟩;clear R;go_wp2;go_loopw[10,29] (λv i wr=>∃k:Nat,k<=n/\i=A! k/\jd rB wr v (kA l k)/\(∀b,v.ownBlock=C! b->y.heap.size<=b/\b<wr.heap.size)/\K! y wr) (λ_ i _=>n-(intOf i).toNat)
  case atStart=>exact⟨0,S! _,rfl,jd.nil _ _,(λb hb=>by cases hb),P! _ _⟩
  case round=>
   obtain⟨k,r,rfl,hq,hown,hbl⟩:=hrel;by_cases hlt:k<n
   .rcases Q with e|⟨b,g,rfl,b1,hcell⟩
    .omega
    exact nbX
   .obtain rfl:k=n:=B!;obtain⟨va,vc,rfl,-,-⟩:=hq.form;have hcv:=λJ (h2:jd rB J (J! va (kA l k).length vc)<|kA l k)=>h2.aeg;have F:=hbl.cell (p:=B? (f c) 0) u;have z:=hbl.cell (p:=B? (f c) 1) u;rw[d0]at F;rw[d1]at z;have W:=hbl.frozen (p:=B? (f c) 0) u;have E:=hbl.frozen (p:=B? (f c) 1) u;rw[f0]at W;rw[f1]at E;have eb:kA l k=l.flatMap (·.1.1):=by unfold kA;rw[<-HN.out,v!]
    have ag:(convert 64 9<|J! va (kA l k).length vc).run E? ((wr.setCell (B? (f c) 0) Q!).setCell (B? (f c) 1)<|A! 0)=.ok (D?<|bytesOf<|l.flatMap (·.1.1)) ((wr.setCell (B? (f c) 0) Q!).setCell (B? (f c) 1)<|A! 0):=by
     rw[<-eb];exact hcv _<|hq.heap λb hb=>((ay wr (f c) 0 Q!).trans<|ay _ (f c) 1<|A! 0).block b (hown b hb).2 (λe=>by have:=(hown b hb).1;omega)
    have hO:=((Only.aP hbl).trans<|ay wr (f c) 0 Q!).trans<|ay _ (f c) 1<|A! 0;have hblk:=((HC.blk.below hbl).set 0 Q! (cs':=_) rfl).set 1 (A! 0) rfl;have uI:=A?<|HF _ _ X hO ncA hblk;exact nch
 .go_in
  go_wp2_with fail;apply R.mono;rintro e y ⟨rfl,rfl⟩;clear R;go_wp2;go_loopw[10,29] (λv i wr=>∃k:Nat,k<=n/\i=A! k/\jd rB wr v (kA l k)/\(∀b,v.ownBlock=C! b->y.heap.size<=b/\b<wr.heap.size)/\K! y wr) (λ_ i _=>n-(intOf i).toNat)
  case atStart=>exact⟨0,S! _,rfl,jd.nil _ _,(λb hb=>by cases hb),P! _ _⟩
  case round=>
   obtain⟨k,r,rfl,hq,hown,hbl⟩:=hrel;by_cases hlt:k<n
   .rcases Q with e|⟨b,g,rfl,b1,hcell⟩
    .omega
    exact nbX
   .obtain rfl:k=n:=B!;obtain⟨va,vc,rfl,-,-⟩:=hq.form;have hcv:=λJ (h2:jd rB J (J! va (kA l k).length vc)<|kA l k)=>h2.aeg;have F:=hbl.cell (p:=B? (f c) 3) u;have z:=hbl.cell (p:=B? (f c) 4) u;rw[d0]at F;rw[d1]at z;have W:=hbl.frozen (p:=B? (f c) 3) u;have E:=hbl.frozen (p:=B? (f c) 4) u;rw[f0]at W;rw[f1]at E;have eb:kA l k=l.flatMap (·.1.1):=by unfold kA;rw[<-HN.out,v!]
    have ag:(convert 64 9<|J! va (kA l k).length vc).run E? ((wr.setCell (B? (f c) 3) Q!).setCell (B? (f c) 4)<|A! 0)=.ok (D?<|bytesOf<|l.flatMap (·.1.1)) ((wr.setCell (B? (f c) 3) Q!).setCell (B? (f c) 4)<|A! 0):=by
     rw[<-eb];exact hcv _<|hq.heap λb hb=>((ay wr (f c) 3 Q!).trans<|ay _ (f c) 4<|A! 0).block b (hown b hb).2 (λe=>by have:=(hown b hb).1;omega)
    have hO:=((Only.aP hbl).trans<|ay wr (f c) 3 Q!).trans<|ay _ (f c) 4<|A! 0;have hblk:=((HC.blk.below hbl).set 3 Q! (cs':=_) rfl).set 4 (A! 0) rfl;have uI:=A?<|HF _ K _ hO ncA hblk;exact nch
theorem XU(c a:Int)(h:aY w G t s m)(l:Cv m)(r:a=0\/a=1):G! E? 116 #[ptr s,A! c,A! a] w (Left (λj u=>aY j u t s (nr m c a).1) (aq t) G w<|PW<|nr m c a):=by
 by_cases n:au m.up c=C?
 .rcases r with rfl|rfl
  .exact PY c 0 1 3 h l (.inr ⟨rfl,rfl,rfl⟩) n
  .exact PY c 1 0 0 h l (.inl ⟨rfl,rfl,rfl⟩) n
 .have y:=h;obtain⟨mb,f,h⟩:=h;have b:=z! _▸n;have o:∀i,eH m c i=2502:=λi=>by unfold eH;rw[G? b]
  have d:=zP c (1-a) h (by rw[o];decide);rw[o]at d;have g:nr m c a=(m,[],2502):=by unfold nr;rw[o];rfl
  rw[g];unfold ptr PW at*
  rcases r with rfl|rfl
  all_goals
   go_in
   go_wp2_with fail;refine d! d ?_;go_wp2;go_ret2;exact⟨rfl,_,y,Step.refl _ _ _⟩
